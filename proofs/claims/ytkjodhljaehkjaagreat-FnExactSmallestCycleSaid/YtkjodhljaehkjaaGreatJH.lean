/-
  Texts joined: Far FarC Thru Small.
-/
import Derived.Test.YtkjodhljaehkjaaGreatJE
import Derived.Test.YtkjodhljaehkjaaGreatJF
namespace Go.Proofs.YtkjodhljaehkjaaGreat
open Go.RowKit
set_option linter.unusedSimpArgs false
set_option linter.unusedVariables false
/-- From u to i in just k steps. -/
def Way (f : Nat → List Nat) (i : Nat) : Nat → Nat → Prop
  | 0, u => u = i
  | k + 1, u => ∃ v ∈ f u, Way f i k v
theorem least {P : Nat → Prop} : (∃ n, P n) → ∃ n, P n ∧ ∀ m, P m → n ≤ m := by
  rintro ⟨n, hn⟩
  induction n using Nat.strongRecOn with
  | ind n ih =>
    by_cases h : ∃ m, m < n ∧ P m
    · obtain ⟨m, h1, h2⟩ := h
      exact ih m h1 h2
    · exact ⟨n, hn, fun m hm => by
        rcases Nat.lt_or_ge m n with h' | h'
        · exact absurd ⟨m, h', hm⟩ h
        · exact h'⟩
noncomputable def dst (f : Nat → List Nat) (i u : Nat) : Nat := @dite _ (∃ n, 1 ≤ n ∧ Way f i n u) (Classical.propDecidable _) (fun h => Classical.choose (least h)) (fun _ => 0)
theorem dst_way {f : Nat → List Nat} {i u : Nat} (h : 1 ≤ dst f i u) : Way f i (dst f i u) u := by
  unfold dst at h ⊢
  split
  · next hx => exact (Classical.choose_spec (least hx)).1.2
  · next hx => rw [dif_neg hx] at h; omega
theorem dst_le {f : Nat → List Nat} {i u n : Nat} (h1 : 1 ≤ n) (h : Way f i n u) : 1 ≤ dst f i u ∧ dst f i u ≤ n := by
  have hx : ∃ n, 1 ≤ n ∧ Way f i n u := ⟨n, h1, h⟩
  unfold dst
  rw [dif_pos hx]
  exact ⟨(Classical.choose_spec (least hx)).1.1, (Classical.choose_spec (least hx)).2 n ⟨h1, h⟩⟩
theorem dst_next {f : Nat → List Nat} {i u n : Nat} (h1 : 1 ≤ n) (h : dst f i u = n + 1) : ∃ v ∈ f u, dst f i v = n := by
  have hw := dst_way (f := f) (i := i) (u := u) (by omega)
  rw [h] at hw
  obtain ⟨v, hv, hv2⟩ := hw
  have h2 := dst_le h1 hv2
  refine ⟨v, hv, ?_⟩
  have h3 := dst_way h2.1
  have h4 := dst_le (f := f) (i := i) (u := u) (n := dst f i v + 1) (by omega) ⟨v, hv, h3⟩
  omega
theorem dst_one {f : Nat → List Nat} {i u : Nat} : dst f i u = 1 ↔ i ∈ f u := by
  constructor
  · intro h
    have hw := dst_way (f := f) (i := i) (u := u) (by omega)
    rw [h] at hw
    obtain ⟨v, hv, hv2⟩ := hw
    have : v = i := hv2
    exact this ▸ hv
  · intro h
    have := dst_le (f := f) (i := i) (u := u) (n := 1) (by omega) ⟨i, h, rfl⟩
    omega
theorem dst_step {f : Nat → List Nat} {i u v n : Nat} (h1 : 1 ≤ n) (hv : v ∈ f u) (h : dst f i v = n) : 1 ≤ dst f i u ∧ dst f i u ≤ n + 1 :=
  dst_le (by omega) ⟨v, hv, h ▸ dst_way (by omega)⟩
theorem dst_down {f : Nat → List Nat} {i n : Nat} (h1 : 1 ≤ n) (h : ∀ u, dst f i u ≠ n) : ∀ m u, dst f i u ≠ n + m
  | 0, u => h u
  | m + 1, u => fun e => by
    obtain ⟨v, _, hv⟩ := dst_next (n := n + m) (by omega) (show dst f i u = n + m + 1 by omega)
    exact dst_down h1 h m v hv
/-- The table as far as it is known before round n. -/
noncomputable def fvT (f : Nat → List Nat) (i n u : Nat) : Int := if 1 ≤ dst f i u ∧ dst f i u < n then (dst f i u : Int) else -1
noncomputable def fvI (f : Nat → List Nat) (i u : Nat) : Int := if 1 ≤ dst f i u then (dst f i u : Int) else -1
noncomputable def farL (f : Nat → List Nat) (N i : Nat) : List Int := (List.range N).map (fvI f i)
theorem farL_len (f : Nat → List Nat) (N i : Nat) : (farL f N i).length = N := by simp [farL]
theorem farL_at (f : Nat → List Nat) (N i k : Nat) (h : k < (farL f N i).length) : (farL f N i)[k] = fvI f i k := by simp [farL]
noncomputable def unk (f : Nat → List Nat) (N i n : Nat) : Nat := sumF (fun u => decide (¬ (1 ≤ dst f i u ∧ dst f i u < n))) (fun _ => 1) N
theorem sumF_imp {p q : Nat → Bool} (h : ∀ x, p x = true → q x = true) : ∀ n, sumF p (fun _ => 1) n ≤ sumF q (fun _ => 1) n
  | 0 => Nat.le_refl _
  | n + 1 => by
    have := sumF_imp h n
    have h2 := h n
    simp only [sumF]
    cases hp : p n <;> cases hq : q n <;> simp_all <;> omega
theorem sumF_lt {p q : Nat → Bool} (h : ∀ x, p x = true → q x = true) {k : Nat} (hp : p k = false) (hq : q k = true) : ∀ n, k < n → sumF p (fun _ => 1) n + 1 ≤ sumF q (fun _ => 1) n
  | 0, hk => by omega
  | n + 1, hk => by
    have h2 := h n
    simp only [sumF]
    rcases Nat.lt_or_ge k n with h' | h'
    · have := sumF_lt h hp hq n h'
      cases hp : p n <;> cases hq : q n <;> simp_all <;> omega
    · obtain rfl : k = n := by omega
      have := sumF_imp h k
      rw [hp, hq]
      simp
      omega
theorem sumF_cnt (p : Nat → Bool) : ∀ n, sumF p (fun _ => 1) n ≤ n
  | 0 => Nat.le_refl _
  | n + 1 => by have := sumF_cnt p n; simp only [sumF]; split <;> omega
theorem unk_mono (f : Nat → List Nat) (N i n : Nat) : unk f N i (n + 1) ≤ unk f N i n := sumF_imp (fun x hx => by simp only [decide_eq_true_eq] at hx ⊢; omega) N
theorem unk_lt (f : Nat → List Nat) (N i n : Nat) {u : Nat} (h1 : 1 ≤ n) (hu : u < N) (h : dst f i u = n) : unk f N i (n + 1) + 1 ≤ unk f N i n :=
  sumF_lt (fun x hx => by simp only [decide_eq_true_eq] at hx ⊢; omega) (k := u) (by simp; omega) (by simp; omega) N hu
/-- Before round n. -/
structure FarInv (f : Nat → List Nat) (N i : Nat) (n : Nat) (far : List Int) (list : List Nat) : Prop where
  n1 : 1 ≤ n
  len : far.length = N
  far : ∀ u (h : u < far.length), far[u] = fvT f i n u
  nx : ∀ u, u < N → (dst f i u = n ↔ (¬ (1 ≤ dst f i u ∧ dst f i u < n) ∧ ∃ v ∈ list, v ∈ f u))
  lt : ∀ v ∈ list, v < N
  nd : list.Nodup
  bd : n + unk f N i n + (if list = [] then 0 else 1) ≤ N + 2
theorem FarInv.start {f : Nat → List Nat} {N i : Nat} (hi : i < N) : FarInv f N i 1 (List.replicate N (-1)) [i] where
  n1 := Nat.le_refl _
  len := by simp
  far := fun u h => by rw [List.getElem_replicate]; unfold fvT; rw [if_neg (by omega)]
  nx := fun u hu => by
    rw [dst_one]
    simp only [List.mem_singleton, exists_eq_left]
    refine ⟨fun h => ⟨by omega, h⟩, fun h => h.2⟩
  lt := by simpa using hi
  nd := by simp
  bd := by
    have := sumF_cnt (fun u => decide (¬ (1 ≤ dst f i u ∧ dst f i u < 1))) N
    unfold unk
    simp only [List.cons_ne_nil, if_false]
    omega
/-- Within round n: k of the list are done. -/
structure RndInv (f : Nat → List Nat) (N i : Nat) (n : Nat) (list : List Nat) (k : Nat) (far : List Int) (next : List Nat) : Prop where
  len : far.length = N
  far : ∀ u (h : u < far.length), far[u] = if u ∈ next then (n : Int) else fvT f i n u
  nxt : ∀ u ∈ next, u < N ∧ dst f i u = n
  dn : ∀ v ∈ list.take k, ∀ u, u < N → v ∈ f u → dst f i u = n → u ∈ next
  nd : next.Nodup
  le : k ≤ list.length
theorem FarInv.round {f : Nat → List Nat} {N i n : Nat} {far : List Int} {list : List Nat} (h : FarInv f N i n far list) : RndInv f N i n list 0 far [] where
  len := h.len
  far := fun u hu => by rw [h.far u hu]; simp
  nxt := by simp
  dn := by simp
  nd := List.nodup_nil
  le := Nat.zero_le _
theorem RndInv.fin {f : Nat → List Nat} {N i n : Nat} {far0 far : List Int} {list next : List Nat} (hF : ∀ u, ∀ v ∈ f u, v < N) (h0 : FarInv f N i n far0 list) (hne : 0 < list.length) (h : RndInv f N i n list list.length far next) : FarInv f N i (n + 1) far next := by
  have hn1 := h0.n1
  have hm : ∀ u, u < N → (u ∈ next ↔ dst f i u = n) := fun u hu => ⟨fun hx => (h.nxt u hx).2, fun hd => by
    obtain ⟨_, v, hv, hvu⟩ := (h0.nx u hu).1 hd
    exact h.dn v (by rw [List.take_length]; exact hv) u hu hvu hd⟩
  refine { n1 := by omega, len := h.len, far := fun u hu => ?_, nx := fun u hu => ?_, lt := fun v hv => (h.nxt v hv).1, nd := h.nd, bd := ?_ }
  · rw [h.far u hu]
    have := hm u (by rw [← h.len]; exact hu)
    by_cases hd : dst f i u = n
    · rw [if_pos (this.2 hd)]; unfold fvT; rw [if_pos (by omega), hd]
    · rw [if_neg (fun hx => hd (this.1 hx))]
      unfold fvT
      by_cases h2 : 1 ≤ dst f i u ∧ dst f i u < n
      · rw [if_pos h2, if_pos (by omega)]
      · rw [if_neg h2, if_neg (by omega)]
  · constructor
    · intro hd
      obtain ⟨v, hv, hv2⟩ := dst_next hn1 hd
      exact ⟨by omega, v, (hm v (hF u v hv)).2 hv2, hv⟩
    · rintro ⟨h1, v, hv, hvu⟩
      have := dst_step hn1 hvu (h.nxt v hv).2
      omega
  · have h1 := h0.bd
    rw [if_neg (by intro e; rw [e] at hne; simp at hne)] at h1
    cases next with
    | nil =>
      have := unk_mono f N i n
      simp only [if_true]
      omega
    | cons u next =>
      have h2 := h.nxt u (by simp)
      have := unk_lt f N i n hn1 h2.1 h2.2
      simp only [List.cons_ne_nil, if_false]
      omega
/-- Within the look at one of the list: j of those that use it are done. -/
structure UsrInv (f : Nat → List Nat) (N i : Nat) (n : Nat) (list : List Nat) (k : Nat) (us : List Nat) (j : Nat) (far : List Int) (next : List Nat) : Prop extends RndInv f N i n list k far next where
  klt : k < list.length
  c : ∀ u ∈ us.take j, dst f i u = n → u ∈ next
  jle : j ≤ us.length
theorem RndInv.users {f : Nat → List Nat} {N i n : Nat} {far : List Int} {list next : List Nat} {k : Nat} (us : List Nat) (h : RndInv f N i n list k far next) (hk : k < list.length) : UsrInv f N i n list k us 0 far next :=
  { h with klt := hk, c := by simp, jle := Nat.zero_le _ }
theorem UsrInv.skip {f : Nat → List Nat} {N i n : Nat} {far : List Int} {list next us : List Nat} {k j : Nat} (h : UsrInv f N i n list k us j far next) (hj : j < us.length) (hlt : us[j] < far.length) (hc : ¬ far[us[j]] < 0) : UsrInv f N i n list k us (j + 1) far next :=
  { h with c := fun u hu hd => by
             rw [List.take_succ_eq_append_getElem hj, List.mem_append, List.mem_singleton] at hu
             rcases hu with hu | rfl
             · exact h.c u hu hd
             · rw [h.far _ hlt] at hc
               by_cases hm : us[j] ∈ next
               · exact hm
               · rw [if_neg hm] at hc
                 unfold fvT at hc
                 rw [if_neg (by omega)] at hc
                 exact absurd (show (-1 : Int) < 0 by omega) hc
           jle := hj }
theorem UsrInv.put {f : Nat → List Nat} {N i n : Nat} {far0 far : List Int} {list next us : List Nat} {k j : Nat} (h0 : FarInv f N i n far0 list) (h : UsrInv f N i n list k us j far next) (hus : ∀ u ∈ us, u < N ∧ list[k]'h.klt ∈ f u) (hj : j < us.length) (hlt : us[j] < far.length) (hc : far[us[j]] < 0) : UsrInv f N i n list k us (j + 1) (far.set us[j] (n : Int)) (next ++ [us[j]]) := by
  have hn1 := h0.n1
  have hm := hus us[j] (List.getElem_mem hj)
  rw [h.far _ hlt] at hc
  have hnm : us[j] ∉ next := fun hx => by rw [if_pos hx] at hc; omega
  rw [if_neg hnm] at hc
  have hd : dst f i us[j] = n := (h0.nx _ hm.1).2 ⟨fun hx => by unfold fvT at hc; rw [if_pos hx] at hc; omega, _, List.getElem_mem h.klt, hm.2⟩
  refine { len := by rw [List.length_set]; exact h.len, far := fun u hu => ?_, nxt := fun u hu => ?_, dn := fun v hv u hu hvu hdu => List.mem_append_left _ (h.dn v hv u hu hvu hdu), nd := nodup_snoc h.nd hnm, le := h.le, klt := h.klt, c := fun u hu hdu => ?_, jle := hj }
  · rw [List.length_set] at hu
    by_cases e : us[j] = u
    · subst e
      rw [List.getElem_set_self, if_pos (by simp)]
    · rw [List.getElem_set_ne e, h.far u hu]
      have : (u ∈ next ++ [us[j]]) ↔ u ∈ next := by simp; intro e2; exact absurd e2.symm e
      simp only [this]
  · rw [List.mem_append, List.mem_singleton] at hu
    rcases hu with hu | rfl
    · exact h.nxt u hu
    · exact ⟨hm.1, hd⟩
  · rw [List.take_succ_eq_append_getElem hj, List.mem_append, List.mem_singleton] at hu
    rcases hu with hu | rfl
    · exact List.mem_append_left _ (h.c u hu hdu)
    · simp
theorem UsrInv.fin {f : Nat → List Nat} {N i n : Nat} {far : List Int} {list next us : List Nat} {k : Nat} (h : UsrInv f N i n list k us us.length far next) (hus : ∀ u, u < N → list[k]'h.klt ∈ f u → u ∈ us) : RndInv f N i n list (k + 1) far next :=
  { len := h.len, far := h.far, nxt := h.nxt, nd := h.nd, le := h.klt
    dn := fun v hv u hu hvu hd => by
      rw [List.take_succ_eq_append_getElem h.klt, List.mem_append, List.mem_singleton] at hv
      rcases hv with hv | rfl
      · exact h.dn v hv u hu hvu hd
      · exact h.c u (by rw [List.take_length]; exact hus u hu hvu) hd }
theorem FarInv.fin {f : Nat → List Nat} {N i n : Nat} {far : List Int} (hF : ∀ u, ∀ v ∈ f u, v < N) (hN : ∀ u, N ≤ u → f u = []) (h : FarInv f N i n far []) : far = farL f N i := by
  refine List.ext_getElem (by rw [h.len, farL_len]) (fun u h1 h2 => ?_)
  rw [h.far u h1, farL_at]
  have hno : ∀ u, dst f i u ≠ n := fun u e => by
    rcases Nat.lt_or_ge u N with hu | hu
    · obtain ⟨_, v, hv, _⟩ := (h.nx u hu).1 e
      simp at hv
    · have hw := dst_way (f := f) (i := i) (u := u) (by have := h.n1; omega)
      have hn1 := h.n1
      obtain ⟨m, hm⟩ : ∃ m, dst f i u = m + 1 := ⟨dst f i u - 1, by omega⟩
      rw [hm] at hw
      obtain ⟨v, hv, _⟩ := hw
      rw [hN u hu] at hv
      simp at hv
  unfold fvT fvI
  by_cases h3 : 1 ≤ dst f i u
  · have h4 : dst f i u < n := by
      rcases Nat.lt_or_ge (dst f i u) n with h4 | h4
      · exact h4
      · exact absurd (show dst f i u = n + (dst f i u - n) by omega) (dst_down h.n1 hno _ u)
    rw [if_pos ⟨h3, h4⟩, if_pos h3]
  · rw [if_neg (by omega), if_neg h3]
theorem FarInv.n_le {f : Nat → List Nat} {N i n : Nat} {far : List Int} {list : List Nat} (h : FarInv f N i n far list) : n ≤ N + 2 := by have := h.bd; omega
theorem FarInv.n_lt {f : Nat → List Nat} {N i n : Nat} {far : List Int} {list : List Nat} (h : FarInv f N i n far list) (h0 : 0 < list.length) : n ≤ N + 1 := by
  have := h.bd
  rw [if_neg (by intro e; rw [e] at h0; simp at h0)] at this
  omega
theorem FarInv.l_len {f : Nat → List Nat} {N i n : Nat} {far : List Int} {list : List Nat} (h : FarInv f N i n far list) : list.length ≤ N := nodup_len h.nd h.lt
theorem RndInv.x_len {f : Nat → List Nat} {N i n : Nat} {far : List Int} {list next : List Nat} {k : Nat} (h : RndInv f N i n list k far next) : next.length ≤ N := nodup_len h.nd fun u hu => (h.nxt u hu).1
/-! ### The way back -/
def fstP (p : Nat → Bool) (d : Nat) : List Nat → Nat
  | [] => d
  | x :: l => if p x then x else fstP p d l
theorem fstP_at (p : Nat → Bool) (d : Nat) : ∀ (l : List Nat) {k : Nat} (h : k < l.length), (∀ m (hm : m < k), p (l[m]'(by omega)) = false) → p l[k] = true → fstP p d l = l[k]
  | x :: l, 0, h, _, e => by
    have e' : p x = true := e
    unfold fstP
    rw [if_pos e']
    rfl
  | x :: l, k + 1, h, h1, e => by
    have h0 := h1 0 (by omega)
    unfold fstP
    rw [if_neg (by simpa using h0)]
    exact fstP_at p d l (by simpa using h) (fun m hm => h1 (m + 1) (by omega)) e
theorem fstP_mem (p : Nat → Bool) (d : Nat) : ∀ (l : List Nat), (∃ x ∈ l, p x = true) → fstP p d l ∈ l ∧ p (fstP p d l) = true
  | [], h => by simp at h
  | x :: l, h => by
    unfold fstP
    by_cases e : p x = true
    · rw [if_pos e]; exact ⟨by simp, e⟩
    · rw [if_neg e]
      have := fstP_mem p d l (by
        obtain ⟨y, hy, h2⟩ := h
        rcases List.mem_cons.1 hy with rfl | hy
        · exact absurd h2 e
        · exact ⟨y, hy, h2⟩)
      exact ⟨List.mem_cons_of_mem _ this.1, this.2⟩
/-- Is it the next one, with n steps to go? -/
noncomputable def isN (f : Nat → List Nat) (i n k : Nat) : Bool := decide (k ≠ i) && (fvI f i k == (n : Int) - 1)
noncomputable def wk (f : Nat → List Nat) (i : Nat) : Nat → Nat
  | 0 => i
  | j + 1 => fstP (isN f i (dst f i i - j)) 0 (f (wk f i j))
theorem wk_dst {f : Nat → List Nat} {i : Nat} (h1 : 1 ≤ dst f i i) : ∀ j, j < dst f i i → dst f i (wk f i j) = dst f i i - j ∧ (∀ h : j + 1 < dst f i i, ∃ x ∈ f (wk f i j), isN f i (dst f i i - j) x = true)
  | 0, hj => by
    refine ⟨by simp [wk], fun h => ?_⟩
    obtain ⟨v, hv, h2⟩ := dst_next (f := f) (i := i) (u := i) (n := dst f i i - 1) (by omega) (by omega)
    refine ⟨v, hv, ?_⟩
    have hne : v ≠ i := fun e => by subst e; omega
    simp [isN, hne, fvI, h2]
    rw [if_pos (by omega)]
    omega
  | j + 1, hj => by
    have ih := wk_dst h1 j (by omega)
    have hx := fstP_mem (isN f i (dst f i i - j)) 0 (f (wk f i j)) (ih.2 hj)
    have hd : dst f i (wk f i (j + 1)) = dst f i i - (j + 1) := by
      have h2 := hx.2
      change isN f i (dst f i i - j) (wk f i (j + 1)) = true at h2
      simp only [isN, fvI, Bool.and_eq_true, beq_iff_eq] at h2
      have h3 := h2.2
      split at h3 <;> omega
    refine ⟨hd, fun h => ?_⟩
    obtain ⟨v, hv, h2⟩ := dst_next (f := f) (i := i) (u := wk f i (j + 1)) (n := dst f i i - (j + 1) - 1) (by omega) (by omega)
    refine ⟨v, hv, ?_⟩
    have hne : v ≠ i := fun e => by subst e; omega
    simp [isN, hne, fvI, h2]
    rw [if_pos (by omega)]
    omega
theorem wk_mem {f : Nat → List Nat} {i : Nat} (h1 : 1 ≤ dst f i i) {j : Nat} (hj : j + 1 < dst f i i) : wk f i (j + 1) ∈ f (wk f i j) := (fstP_mem _ 0 _ ((wk_dst h1 j (by omega)).2 hj)).1
/-- It is found before the end. -/
theorem wk_found {f : Nat → List Nat} {i : Nat} (h1 : 1 ≤ dst f i i) {j : Nat} (hj : j + 1 < dst f i i) (h : ∀ m (hm : m < (f (wk f i j)).length), isN f i (dst f i i - j) (f (wk f i j))[m] = false) : False := by
  obtain ⟨x, hx, h2⟩ := (wk_dst h1 j (by omega)).2 hj
  obtain ⟨m, hm, rfl⟩ := List.mem_iff_getElem.1 hx
  rw [h m hm] at h2
  cases h2
theorem wk_is {f : Nat → List Nat} {i j k : Nat} (hk : k < (f (wk f i j)).length) (h : ∀ m (hm : m < k), isN f i (dst f i i - j) ((f (wk f i j))[m]'(by omega)) = false) (e : isN f i (dst f i i - j) (f (wk f i j))[k] = true) : wk f i (j + 1) = (f (wk f i j))[k] := fstP_at _ 0 _ hk h e
theorem wk_lt {f : Nat → List Nat} {N i : Nat} (hF : ∀ u, ∀ v ∈ f u, v < N) (hi : i < N) (h1 : 1 ≤ dst f i i) : ∀ {j : Nat}, j < dst f i i → wk f i j < N
  | 0, _ => hi
  | j + 1, hj => hF _ _ (wk_mem h1 hj)
/-- The list of the way. -/
noncomputable def wkL (f : Nat → List Nat) (i j : Nat) : List Nat := (List.range j).map (wk f i)
theorem wkL_len (f : Nat → List Nat) (i j : Nat) : (wkL f i j).length = j := by simp [wkL]
theorem wkL_succ (f : Nat → List Nat) (i j : Nat) : wkL f i (j + 1) = wkL f i j ++ [wk f i j] := by simp [wkL, List.range_succ]
theorem wkL_at (f : Nat → List Nat) (i j k : Nat) (h : k < (wkL f i j).length) : (wkL f i j)[k] = wk f i k := by simp [wkL]
theorem wkL_lt {f : Nat → List Nat} {N i : Nat} (hF : ∀ u, ∀ v ∈ f u, v < N) (hi : i < N) (h1 : 1 ≤ dst f i i) {j : Nat} (hj : j ≤ dst f i i) : ∀ x ∈ wkL f i j, x < N := fun x hx => by
  obtain ⟨k, hk, rfl⟩ := List.mem_map.1 hx
  rw [List.mem_range] at hk
  exact wk_lt hF hi h1 (by omega)
/-! ### On a cycle -/
theorem rch_way {f : Nat → List Nat} {g : Int → List Nat} (hg : ∀ k : Nat, g (k : Int) = f k) {i u x : Nat} (h : Rch g (u : Int) x) : ∃ n, 1 ≤ n ∧ Way f x n u := by
  have app : ∀ n u y x, Way f y n u → x ∈ f y → Way f x (n + 1) u := by
    intro n
    induction n with
    | zero =>
      intro u y x h1 h2
      have : u = y := h1
      exact ⟨x, this ▸ h2, rfl⟩
    | succ n ih =>
      rintro u y x ⟨v, hv, h1⟩ h2
      exact ⟨v, hv, ih v y x h1 h2⟩
  induction h with
  | one h => exact ⟨1, Nat.le_refl _, _, by rw [hg] at h; exact h, rfl⟩
  | more _ h ih =>
    obtain ⟨n, h1, h2⟩ := ih
    rw [hg] at h
    exact ⟨n + 1, by omega, app n _ _ _ h2 h⟩
theorem way_rch {f : Nat → List Nat} {g : Int → List Nat} (hg : ∀ k : Nat, g (k : Int) = f k) {x : Nat} : ∀ n u, Way f x (n + 1) u → Rch g (u : Int) x := by
  have con : ∀ {u v : Nat} {x : Nat}, v ∈ f u → Rch g (v : Int) x → Rch g (u : Int) x := by
    intro u v x hv h
    induction h with
    | one h => exact .more (.one (by rw [hg]; exact hv)) h
    | more _ h ih => exact .more ih h
  intro n
  induction n with
  | zero =>
    rintro u ⟨v, hv, h⟩
    have : v = x := h
    subst this
    exact .one (by rw [hg]; exact hv)
  | succ n ih =>
    rintro u ⟨v, hv, h⟩
    exact con hv (ih v h)
theorem dst_pos {f : Nat → List Nat} {g : Int → List Nat} (hg : ∀ k : Nat, g (k : Int) = f k) {i u : Nat} : 1 ≤ dst f i u ↔ Rch g (u : Int) i := by
  constructor
  · intro h
    have hw := dst_way h
    obtain ⟨m, hm⟩ : ∃ m, dst f i u = m + 1 := ⟨dst f i u - 1, by omega⟩
    rw [hm] at hw
    exact way_rch hg m u hw
  · intro h
    obtain ⟨n, h1, h2⟩ := rch_way (i := i) hg h
    exact (dst_le h1 h2).1
/-- A way on a cycle is not longer than there are numbers. -/
theorem dst_bd {f : Nat → List Nat} {N i n : Nat} {far : List Int} (hF : ∀ u, ∀ v ∈ f u, v < N) (hN : ∀ u, N ≤ u → f u = []) (h : FarInv f N i n far []) (u : Nat) : dst f i u < n ∧ n ≤ N + 2 := by
  refine ⟨?_, h.n_le⟩
  have hno : ∀ u, dst f i u ≠ n := fun u e => by
    rcases Nat.lt_or_ge u N with hu | hu
    · obtain ⟨_, v, hv, _⟩ := (h.nx u hu).1 e
      simp at hv
    · have hw := dst_way (f := f) (i := i) (u := u) (by have := h.n1; omega)
      have hn1 := h.n1
      obtain ⟨m, hm⟩ : ∃ m, dst f i u = m + 1 := ⟨dst f i u - 1, by omega⟩
      rw [hm] at hw
      obtain ⟨v, hv, _⟩ := hw
      rw [hN u hu] at hv
      simp at hv
  rcases Nat.lt_or_ge (dst f i u) n with h4 | h4
  · exact h4
  · exact absurd (show dst f i u = n + (dst f i u - n) by omega) (dst_down h.n1 hno _ u)
end Go.Proofs.YtkjodhljaehkjaaGreat

namespace Go.Proofs.YtkjodhljaehkjaaGreat
open Go.RowKit
set_option linter.unusedSimpArgs false
set_option linter.unusedVariables false
theorem du_out (l : List GPart) {i : Nat} (h : l.length ≤ i) : du l i = [] := by unfold du; rw [List.getElem?_eq_none h]
theorem mem_usI {l : List GPart} {v u : Nat} : u ∈ usI l (v : Int) ↔ u < l.length ∧ v ∈ du l u := by unfold usI; rw [mem_setN, hasI_nat, List.contains_iff_mem]
theorem pkF : type_of% (And.intro @ln_acs (And.intro @el_ln (And.intro @getq_map (And.intro @GPart.acs_eq (And.intro @GPart.flat_eq (And.intro @GPart.agg_eq @GPart.el)))))) := And.intro @ln_acs (And.intro @el_ln (And.intro @getq_map (And.intro @GPart.acs_eq (And.intro @GPart.flat_eq (And.intro @GPart.agg_eq @GPart.el)))))
theorem set_li (l : List Int) (k : Nat) (z : Int) : (l.map li).set k (li z) = (l.set k z).map li := by rw [List.map_set]
def ic_far_spec : IC := (.seq (.reg false [⟨(some 4), none, .mov (.k (.slice none 0 0))⟩]) (.seq (.reg false [⟨(some 13), none, .brow true 3 1 0 false []⟩, ⟨(some 5), none, .mov (.t 13)⟩]) (.seq (.seq (.reg false [⟨(some 6), none, .mov (.k (.int .i64 0))⟩]) (.block 0 (.loop (.seq (.seq (.reg false [⟨(some 14), none, .mov (.t 6)⟩, ⟨(some 15), none, .mov (.t 0)⟩, ⟨(some 16), none, .len false (.t 15)⟩, ⟨(some 17), none, .bin .lss (.t 14) (.t 16)⟩]) (.cond (.t 17) .skip (.exit 0))) (.seq (.block 1 (.reg false [⟨(some 20), none, .mov (.t 5)⟩, ⟨(some 21), none, .brow false 3 1 1 false [(.k (.int .i64 (-1)))]⟩, ⟨(some 22), none, .app 3 1 (.t 20) (.t 21)⟩, ⟨(some 5), none, .mov (.t 22)⟩])) (.reg false [⟨(some 18), none, .mov (.t 6)⟩, ⟨(some 19), none, .bin .add (.t 18) (.k (.int .i64 1))⟩, ⟨(some 6), none, .mov (.t 19)⟩])))))) (.seq (.reg false [⟨(some 23), none, .mov (.t 1)⟩, ⟨(some 24), none, .brow true 3 1 1 false [(.t 23)]⟩, ⟨(some 7), none, .mov (.t 24)⟩]) (.seq (.seq (.reg false [⟨(some 8), none, .mov (.k (.int .i64 1))⟩]) (.block 2 (.loop (.seq (.seq (.reg false [⟨(some 25), none, .mov (.t 7)⟩, ⟨(some 26), none, .len false (.t 25)⟩, ⟨(some 27), none, .bin .gtr (.t 26) (.k (.int .i64 0))⟩]) (.cond (.t 27) .skip (.exit 2))) (.seq (.block 3 (.seq (.reg false [⟨(some 30), none, .brow true 3 1 0 false []⟩, ⟨(some 9), none, .mov (.t 30)⟩]) (.seq (.seq (.reg false [⟨(some 10), none, .mov (.k (.int .i64 0))⟩]) (.block 4 (.loop (.seq (.seq (.reg false [⟨(some 31), none, .mov (.t 10)⟩, ⟨(some 32), none, .mov (.t 7)⟩, ⟨(some 33), none, .len false (.t 32)⟩, ⟨(some 34), none, .bin .lss (.t 31) (.t 33)⟩]) (.cond (.t 34) .skip (.exit 4))) (.seq (.block 5 (.seq (.reg false [⟨(some 37), none, .mov (.t 0)⟩, ⟨(some 38), none, .mov (.t 7)⟩, ⟨(some 39), none, .mov (.t 10)⟩, ⟨(some 40), none, .iad 1 (.t 38) (.t 39)⟩, ⟨(some 41), none, .load 1 false (.t 40)⟩, ⟨(some 42), none, .call 31 [(.t 37), (.t 41)]⟩, ⟨(some 11), none, .mov (.t 42)⟩]) (.seq (.reg false [⟨(some 12), none, .mov (.k (.int .i64 0))⟩]) (.block 6 (.loop (.seq (.seq (.reg false [⟨(some 43), none, .mov (.t 12)⟩, ⟨(some 44), none, .mov (.t 11)⟩, ⟨(some 45), none, .len false (.t 44)⟩, ⟨(some 46), none, .bin .lss (.t 43) (.t 45)⟩]) (.cond (.t 46) .skip (.exit 6))) (.seq (.block 7 (.seq (.reg false [⟨(some 49), none, .mov (.t 5)⟩, ⟨(some 50), none, .mov (.t 11)⟩, ⟨(some 51), none, .mov (.t 12)⟩, ⟨(some 52), none, .iad 1 (.t 50) (.t 51)⟩, ⟨(some 53), none, .load 1 false (.t 52)⟩, ⟨(some 54), none, .iad 1 (.t 49) (.t 53)⟩, ⟨(some 55), none, .load 1 false (.t 54)⟩, ⟨(some 56), none, .bin .lss (.t 55) (.k (.int .i64 0))⟩]) (.cond (.t 56) (.seq (.reg false [⟨(some 57), none, .mov (.t 5)⟩, ⟨(some 58), none, .mov (.t 11)⟩, ⟨(some 59), none, .mov (.t 12)⟩, ⟨(some 60), none, .iad 1 (.t 58) (.t 59)⟩, ⟨(some 61), none, .load 1 false (.t 60)⟩, ⟨(some 62), none, .mov (.t 8)⟩, ⟨(some 63), none, .iad 1 (.t 57) (.t 61)⟩, ⟨none, none, .store 1 (.t 63) (.t 62)⟩]) (.reg false [⟨(some 64), none, .mov (.t 9)⟩, ⟨(some 65), none, .mov (.t 11)⟩, ⟨(some 66), none, .mov (.t 12)⟩, ⟨(some 67), none, .iad 1 (.t 65) (.t 66)⟩, ⟨(some 68), none, .load 1 false (.t 67)⟩, ⟨(some 69), none, .brow false 3 1 1 false [(.t 68)]⟩, ⟨(some 70), none, .app 3 1 (.t 64) (.t 69)⟩, ⟨(some 9), none, .mov (.t 70)⟩])) .skip))) (.reg false [⟨(some 47), none, .mov (.t 12)⟩, ⟨(some 48), none, .bin .add (.t 47) (.k (.int .i64 1))⟩, ⟨(some 12), none, .mov (.t 48)⟩])))))))) (.reg false [⟨(some 35), none, .mov (.t 10)⟩, ⟨(some 36), none, .bin .add (.t 35) (.k (.int .i64 1))⟩, ⟨(some 10), none, .mov (.t 36)⟩])))))) (.reg false [⟨(some 71), none, .mov (.t 9)⟩, ⟨(some 7), none, .mov (.t 71)⟩])))) (.reg false [⟨(some 28), none, .mov (.t 8)⟩, ⟨(some 29), none, .bin .add (.t 28) (.k (.int .i64 1))⟩, ⟨(some 8), none, .mov (.t 29)⟩])))))) (.seq (.reg false [⟨(some 72), none, .mov (.t 5)⟩, ⟨(some 4), none, .mov (.t 72)⟩]) .ret))))))
theorem ic_far_spec_ok : compC Tryz.prog (Tryz.f78.body.getD .skip) = some ic_far_spec := by kernel_rfl
set_option maxHeartbeats 8000000 in
theorem far_spec_to (l : List GPart) (i : Nat) (hi : i < l.length) (hw : l.length + D.wts (l.map GPart.toD) ≤ 1048576) : CallsOwn Tryz.prog 78 [.sl (l.map GPart.toD), li (i : Int)] ((farL (du l) l.length i).map li) 3 1 := by
  have hn : l.length ≤ 1048576 := by omega
  have hF := du_lt l
  have hN : ∀ u, l.length ≤ u → du l u = [] := fun u h => du_out l h
  refine calls_own (fn := Tryz.f78) (t := 4) (by kernel_rfl) (by kernel_rfl) (by kernel_rfl) ic_far_spec_ok ?_
  unfold ic_far_spec
  change AWP _ _ _ (st0 73 _)
  simp only [undef, stS, st0, stN, D.av, D.avN, sl_agg, leaf_agg, li_agg, ls_agg, sl_acs, leaf_acs, li_acs, ls_acs, ln_acs, el_ln, getq_map, GPart.acs_eq, GPart.flat_eq, GPart.agg_eq, GPart.el, List.map_cons, List.map_nil, List.replicate, List.cons_append, List.nil_append, List.length_cons, List.length_nil, Nat.reduceAdd, Nat.reduceSub]
  repeat' (first | (with_reducible first | refine awp_seq ?_ | refine awp_block ?_ | refine awp_skip ?_ | refine awp_exit ?_ | refine awp_ret ?_ | refine athen ?_ | refine thenExit ?_ | refine thenRet ?_ | refine blockNormal ?_ | refine blockExit ?_ | refine blockRet ?_ | refine roundExit ?_ | refine roundRet ?_ | refine roundExitR ?_ | refine roundRetR ?_) | ((with_reducible refine blockPass ?_ ?_); rfl) | ((with_reducible refine awp_condT ?_ ?_); rfl) | ((with_reducible refine awp_condF ?_ ?_); rfl) | ((with_reducible refine awp_reg ?_); intro K hK) | ((with_reducible refine hK _ ?_); clear hK K) | (with_reducible refine and_split ?_ ?_) | ((with_reducible refine sw_id ?_); simp (disch := first | decide | omega) only [↓pkS, pkW, pkA, undef, capsOf, ex, St.put, St.ev, kav, gdA, opI, rawI, vbin, srcOf, avsD, acsD, AV.toD, AC.toD, AV.nw, AC.nw, AC.one, Value.oneCell', fillA, D.one, D.ones, D.sz, D.szs, Nat.reduceAdd, Nat.reduceSub, Nat.reduceLeDiff, Nat.reduceEqDiff, reduceIte, pkN, pkF]) | (first | (with_reducible rfl) | (with_reducible refine fnok_id ?_; kernel_rfl) | exact el_strs _ | exact el_ints _ | exact el_ln _ | exact el_tk _ _ | exact el_td _ _ _ | omega | (simp; done) | (simp; omega)) | ((with_reducible refine args_id ?_); simp [ArgsOk, ArgOk, argsD, argD, AC.toD, Value.oneCell', sl_flat, leaf_flat, li_flat, ls_flat, sl_agg, leaf_agg, li_agg, ls_agg, mo_t, mo_f, pkF]; done))
  refine awp_loopB (X := Nat × Nat) (fun q => [.k, .k, .d, .d, .d, .v (.c false [.own 0 q.2]), .v (.c false [.raw (.int .i64 (q.1 : Nat))]), .d, .d, .d, .d, .d, .d, .d, .d, .d, .d, .d, .d, .d, .d, .d, .d, .d, .d, .d, .d, .d, .d, .d, .d, .d, .d, .d, .d, .d, .d, .d, .d, .d, .d, .d, .d, .d, .d, .d, .d, .d, .d, .d, .d, .d, .d, .d, .d, .d, .d, .d, .d, .d, .d, .d, .d, .d, .d, .d, .d, .d, .d, .d, .d, .d, .d]) (fun q => [⟨(List.replicate q.1 (-1 : Int)).map li, 3, 1, q.2, true⟩]) (fun q bs => bs) (fun q => q.1 ≤ l.length) (fun q => l.length - q.1) (0, 0) (Nat.zero_le _) ?_ ?_
  · simp [StLe', FrLe, OwnLe, BoxLe, AV.fits, AC.fits, FB, mask]
  rintro ⟨k, v⟩ hk
  have hk' : k ≤ l.length := hk
  clear hk
  simp only [FB, mask]
  by_cases hlk : k < l.length
  · repeat' (first | (with_reducible first | refine awp_seq ?_ | refine awp_block ?_ | refine awp_skip ?_ | refine awp_exit ?_ | refine awp_ret ?_ | refine athen ?_ | refine thenExit ?_ | refine thenRet ?_ | refine blockNormal ?_ | refine blockExit ?_ | refine blockRet ?_ | refine roundExit ?_ | refine roundRet ?_ | refine roundExitR ?_ | refine roundRetR ?_) | ((with_reducible refine blockPass ?_ ?_); rfl) | ((with_reducible refine awp_condT ?_ ?_); rfl) | ((with_reducible refine awp_condF ?_ ?_); rfl) | ((with_reducible refine awp_reg ?_); intro K hK) | ((with_reducible refine hK _ ?_); clear hK K) | (with_reducible refine and_split ?_ ?_) | ((with_reducible refine sw_id ?_); simp (disch := first | decide | omega) only [↓pkS, pkW, pkA, undef, capsOf, ex, St.put, St.ev, kav, gdA, opI, rawI, vbin, srcOf, avsD, acsD, AV.toD, AC.toD, AV.nw, AC.nw, AC.one, Value.oneCell', fillA, D.one, D.ones, D.sz, D.szs, Nat.reduceAdd, Nat.reduceSub, Nat.reduceLeDiff, Nat.reduceEqDiff, reduceIte, pkN, pkF]) | (first | (with_reducible rfl) | (with_reducible refine fnok_id ?_; kernel_rfl) | exact el_strs _ | exact el_ints _ | exact el_ln _ | exact el_tk _ _ | exact el_td _ _ _ | omega | (simp; done) | (simp; omega)) | ((with_reducible refine args_id ?_); simp [ArgsOk, ArgOk, argsD, argD, AC.toD, Value.oneCell', sl_flat, leaf_flat, li_flat, ls_flat, sl_agg, leaf_agg, li_agg, ls_agg, mo_t, mo_f, pkF]; done))
    all_goals first
      | (simp only [List.length_map, List.length_append, List.length_cons, List.length_nil, List.length_replicate]; omega)
      | (refine roundB (k + 1, v + 1) ?_ (show k + 1 ≤ l.length by omega) (show l.length - (k + 1) < l.length - k by omega)
         simp [StLe', FrLe, OwnLe, BoxLe, AV.fits, AC.fits, FB, mask, List.replicate_succ', li])
  obtain rfl : k = l.length := by omega
  repeat' (first | (with_reducible first | refine awp_seq ?_ | refine awp_block ?_ | refine awp_skip ?_ | refine awp_exit ?_ | refine awp_ret ?_ | refine athen ?_ | refine thenExit ?_ | refine thenRet ?_ | refine blockNormal ?_ | refine blockExit ?_ | refine blockRet ?_ | refine roundExit ?_ | refine roundRet ?_ | refine roundExitR ?_ | refine roundRetR ?_) | ((with_reducible refine blockPass ?_ ?_); rfl) | ((with_reducible refine awp_condT ?_ ?_); rfl) | ((with_reducible refine awp_condF ?_ ?_); rfl) | ((with_reducible refine awp_reg ?_); intro K hK) | ((with_reducible refine hK _ ?_); clear hK K) | (with_reducible refine and_split ?_ ?_) | ((with_reducible refine sw_id ?_); simp (disch := first | decide | omega) only [↓pkS, pkW, pkA, undef, capsOf, ex, St.put, St.ev, kav, gdA, opI, rawI, vbin, srcOf, avsD, acsD, AV.toD, AC.toD, AV.nw, AC.nw, AC.one, Value.oneCell', fillA, D.one, D.ones, D.sz, D.szs, Nat.reduceAdd, Nat.reduceSub, Nat.reduceLeDiff, Nat.reduceEqDiff, reduceIte, pkN, pkF]) | (first | (with_reducible rfl) | (with_reducible refine fnok_id ?_; kernel_rfl) | exact el_strs _ | exact el_ints _ | exact el_ln _ | exact el_tk _ _ | exact el_td _ _ _ | omega | (simp; done) | (simp; omega)) | ((with_reducible refine args_id ?_); simp [ArgsOk, ArgOk, argsD, argD, AC.toD, Value.oneCell', sl_flat, leaf_flat, li_flat, ls_flat, sl_agg, leaf_agg, li_agg, ls_agg, mo_t, mo_f, pkF]; done))
  refine awp_loopR (X := Nat × List Int × List Nat × Nat) (fun q => [.k, .d, .d, .d, .d, .k, .d, .v (.c false [.own 1 q.2.2.2]), .v (.c false [.raw (.int .i64 (q.1 : Nat))]), .d, .d, .d, .d, .d, .d, .d, .d, .d, .d, .d, .d, .d, .d, .d, .d, .d, .d, .d, .d, .d, .d, .d, .d, .d, .d, .d, .d, .d, .d, .d, .d, .d, .d, .d, .d, .d, .d, .d, .d, .d, .d, .d, .d, .d, .d, .d, .d, .d, .d, .d, .d, .d, .d, .d, .d, .d, .d, .d, .d, .d, .d, .d, .d]) (fun q => [⟨q.2.1.map li, 3, 1, v, true⟩, ⟨q.2.2.1.map ln, 3, 1, q.2.2.2, true⟩]) (fun q bs => bs) (fun q => FarInv (du l) l.length i q.1 q.2.1 q.2.2.1) (fun q => l.length + 2 - q.1) (1, List.replicate l.length (-1), [i], 0) [0, 1] (FarInv.start hi) ?_ ?_
  · simp [StLeR, FrLeR, OwnLeR, BoxLeR, AV.ren, AC.ren, AV.fits, AC.fits, FB, mask, ln, li]
  rintro ⟨n, far, list, v1⟩ hinv
  have hI : FarInv (du l) l.length i n far list := hinv
  clear hinv
  have hnle := hI.n_le
  have hll := hI.l_len
  have hfl := hI.len
  simp only [FB, mask]
  by_cases hne : 0 < list.length
  · have hnlt := hI.n_lt hne
    have hltn := hI.lt
    repeat' (first | (with_reducible first | refine awp_seq ?_ | refine awp_block ?_ | refine awp_skip ?_ | refine awp_exit ?_ | refine awp_ret ?_ | refine athen ?_ | refine thenExit ?_ | refine thenRet ?_ | refine blockNormal ?_ | refine blockExit ?_ | refine blockRet ?_ | refine roundExit ?_ | refine roundRet ?_ | refine roundExitR ?_ | refine roundRetR ?_) | ((with_reducible refine blockPass ?_ ?_); rfl) | ((with_reducible refine awp_condT ?_ ?_); rfl) | ((with_reducible refine awp_condF ?_ ?_); rfl) | ((with_reducible refine awp_reg ?_); intro K hK) | ((with_reducible refine hK _ ?_); clear hK K) | (with_reducible refine and_split ?_ ?_) | ((with_reducible refine sw_id ?_); simp (disch := first | decide | omega) only [↓pkS, pkW, pkA, undef, capsOf, ex, St.put, St.ev, kav, gdA, opI, rawI, vbin, srcOf, avsD, acsD, AV.toD, AC.toD, AV.nw, AC.nw, AC.one, Value.oneCell', fillA, D.one, D.ones, D.sz, D.szs, Nat.reduceAdd, Nat.reduceSub, Nat.reduceLeDiff, Nat.reduceEqDiff, reduceIte, pkN, pkF]) | (first | (with_reducible rfl) | (with_reducible refine fnok_id ?_; kernel_rfl) | exact el_strs _ | exact el_ints _ | exact el_ln _ | exact el_tk _ _ | exact el_td _ _ _ | omega | (simp; done) | (simp; omega)) | ((with_reducible refine args_id ?_); simp [ArgsOk, ArgOk, argsD, argD, AC.toD, Value.oneCell', sl_flat, leaf_flat, li_flat, ls_flat, sl_agg, leaf_agg, li_agg, ls_agg, mo_t, mo_f, pkF]; done))
    refine awp_loopB (X := Nat × List Int × List Nat × Nat) (fun q => [.k, .d, .d, .d, .d, .k, .d, .k, .k, .v (.c false [.own 2 q.2.2.2]), .v (.c false [.raw (.int .i64 (q.1 : Nat))]), .d, .d, .d, .d, .d, .d, .d, .d, .d, .d, .d, .d, .d, .d, .d, .d, .d, .d, .d, .d, .d, .d, .d, .d, .d, .d, .d, .d, .d, .d, .d, .d, .d, .d, .d, .d, .d, .d, .d, .d, .d, .d, .d, .d, .d, .d, .d, .d, .d, .d, .d, .d, .d, .d, .d, .d, .d, .d, .d, .d, .d, .d]) (fun q => [⟨q.2.1.map li, 3, 1, v, true⟩, ⟨list.map ln, 3, 1, v1, true⟩, ⟨q.2.2.1.map ln, 3, 1, q.2.2.2, true⟩]) (fun q bs => bs) (fun q => RndInv (du l) l.length i n list q.1 q.2.1 q.2.2.1) (fun q => list.length - q.1) (0, far, [], 0) hI.round ?_ ?_
    · simp [StLe', FrLe, OwnLe, BoxLe, AV.fits, AC.fits, FB, mask]
    rintro ⟨k, far2, next, v2⟩ hinv
    have hR : RndInv (du l) l.length i n list k far2 next := hinv
    clear hinv
    have hxl := hR.x_len
    have hf2 := hR.len
    have hkl := hR.le
    simp only [FB, mask]
    by_cases hk2 : k < list.length
    · have hus := users_spec_to l (list[k] : Int) hw
      have hul := usI_len l (list[k] : Int)
      have hmu : ∀ u, u ∈ usI l (list[k] : Int) ↔ u < l.length ∧ list[k] ∈ du l u := fun u => mem_usI
      obtain ⟨us, hus0⟩ : ∃ us, usI l (list[k] : Int) = us := ⟨_, rfl⟩
      rw [hus0] at hus hul hmu
      clear hus0
      repeat' (first | (with_reducible first | refine awp_seq ?_ | refine awp_block ?_ | refine awp_skip ?_ | refine awp_exit ?_ | refine awp_ret ?_ | refine athen ?_ | refine thenExit ?_ | refine thenRet ?_ | refine blockNormal ?_ | refine blockExit ?_ | refine blockRet ?_ | refine roundExit ?_ | refine roundRet ?_ | refine roundExitR ?_ | refine roundRetR ?_) | ((with_reducible refine blockPass ?_ ?_); rfl) | ((with_reducible refine awp_condT ?_ ?_); rfl) | ((with_reducible refine awp_condF ?_ ?_); rfl) | ((with_reducible refine awp_reg ?_); intro K hK) | ((with_reducible refine hK _ ?_); clear hK K) | (with_reducible refine and_split ?_ ?_) | ((with_reducible refine ct_id ?_); first | (refine callOwn hus (el_ln _) ?_ ?_)) | ((with_reducible refine sw_id ?_); simp (disch := first | decide | omega) only [↓pkS, pkW, pkA, undef, capsOf, ex, St.put, St.ev, kav, gdA, opI, rawI, vbin, srcOf, avsD, acsD, AV.toD, AC.toD, AV.nw, AC.nw, AC.one, Value.oneCell', fillA, D.one, D.ones, D.sz, D.szs, Nat.reduceAdd, Nat.reduceSub, Nat.reduceLeDiff, Nat.reduceEqDiff, reduceIte, pkN, pkF]) | (first | (with_reducible rfl) | (with_reducible refine fnok_id ?_; kernel_rfl) | exact el_strs _ | exact el_ints _ | exact el_ln _ | exact el_tk _ _ | exact el_td _ _ _ | omega | (simp; done) | (simp; omega)) | ((with_reducible refine args_id ?_); simp [ArgsOk, ArgOk, argsD, argD, AC.toD, Value.oneCell', sl_flat, leaf_flat, li_flat, ls_flat, sl_agg, leaf_agg, li_agg, ls_agg, mo_t, mo_f, pkF]; done))
      refine awp_loopB (X := Nat × List Int × List Nat × Nat) (fun q => [.k, .d, .d, .d, .d, .k, .d, .k, .k, .v (.c false [.own 2 q.2.2.2]), .k, .k, .v (.c false [.raw (.int .i64 (q.1 : Nat))]), .d, .d, .d, .d, .d, .d, .d, .d, .d, .d, .d, .d, .d, .d, .d, .d, .d, .d, .d, .d, .d, .d, .d, .d, .d, .d, .d, .d, .d, .d, .d, .d, .d, .d, .d, .d, .d, .d, .d, .d, .d, .d, .d, .d, .d, .d, .d, .d, .d, .d, .d, .d, .d, .d, .d, .d, .d, .d, .d, .d]) (fun q => [⟨q.2.1.map li, 3, 1, v, true⟩, ⟨list.map ln, 3, 1, v1, true⟩, ⟨q.2.2.1.map ln, 3, 1, q.2.2.2, true⟩, ⟨us.map ln, 3, 1, 0, true⟩]) (fun q bs => bs) (fun q => UsrInv (du l) l.length i n list k us q.1 q.2.1 q.2.2.1) (fun q => us.length - q.1) (0, far2, next, v2) (hR.users us hk2) ?_ ?_
      · simp [StLe', FrLe, OwnLe, BoxLe, AV.fits, AC.fits, FB, mask]
      rintro ⟨j, far3, next3, v3⟩ hinv
      have hU : UsrInv (du l) l.length i n list k us j far3 next3 := hinv
      clear hinv
      have hxl3 := hU.x_len
      have hf3 := hU.len
      have hjl := hU.jle
      simp only [FB, mask]
      by_cases hj : j < us.length
      · have hub := ((hmu us[j]).1 (List.getElem_mem hj)).1
        have hlt3 : us[j] < far3.length := by omega
        by_cases hneg : far3[us[j]] < 0
        · have hput := hU.put hI (fun u hu => (hmu u).1 hu) hj hlt3 hneg
          repeat' (first | (with_reducible first | refine awp_seq ?_ | refine awp_block ?_ | refine awp_skip ?_ | refine awp_exit ?_ | refine awp_ret ?_ | refine athen ?_ | refine thenExit ?_ | refine thenRet ?_ | refine blockNormal ?_ | refine blockExit ?_ | refine blockRet ?_ | refine roundExit ?_ | refine roundRet ?_ | refine roundExitR ?_ | refine roundRetR ?_) | ((with_reducible refine blockPass ?_ ?_); rfl) | ((with_reducible refine awp_condT ?_ ?_); rfl) | ((with_reducible refine awp_condF ?_ ?_); rfl) | ((with_reducible refine awp_reg ?_); intro K hK) | ((with_reducible refine hK _ ?_); clear hK K) | (with_reducible refine and_split ?_ ?_) | ((with_reducible refine sw_id ?_); simp (disch := first | decide | omega) only [↓pkS, pkW, pkA, undef, capsOf, ex, St.put, St.ev, kav, gdA, opI, rawI, vbin, srcOf, avsD, acsD, AV.toD, AC.toD, AV.nw, AC.nw, AC.one, Value.oneCell', fillA, D.one, D.ones, D.sz, D.szs, Nat.reduceAdd, Nat.reduceSub, Nat.reduceLeDiff, Nat.reduceEqDiff, reduceIte, pkN, pkF, set_li]) | (first | (with_reducible rfl) | (with_reducible refine fnok_id ?_; kernel_rfl) | exact el_strs _ | exact el_ints _ | exact el_ln _ | exact el_tk _ _ | exact el_td _ _ _ | omega | (simp; done) | (simp; omega)) | ((with_reducible refine args_id ?_); simp [ArgsOk, ArgOk, argsD, argD, AC.toD, Value.oneCell', sl_flat, leaf_flat, li_flat, ls_flat, sl_agg, leaf_agg, li_agg, ls_agg, mo_t, mo_f, pkF, set_li]; done))
          all_goals first
            | (simp only [List.length_map, List.length_append, List.length_cons, List.length_nil, List.length_replicate]; omega)
            | (refine roundB (j + 1, far3.set us[j] (n : Int), next3 ++ [us[j]], v3 + 1) ?_ hput (show us.length - (j + 1) < us.length - j by omega)
               simp [StLe', FrLe, OwnLe, BoxLe, AV.fits, AC.fits, FB, mask, List.map_set, ln, li])
        · have hskip := hU.skip hj hlt3 hneg
          repeat' (first | (with_reducible first | refine awp_seq ?_ | refine awp_block ?_ | refine awp_skip ?_ | refine awp_exit ?_ | refine awp_ret ?_ | refine athen ?_ | refine thenExit ?_ | refine thenRet ?_ | refine blockNormal ?_ | refine blockExit ?_ | refine blockRet ?_ | refine roundExit ?_ | refine roundRet ?_ | refine roundExitR ?_ | refine roundRetR ?_) | ((with_reducible refine blockPass ?_ ?_); rfl) | ((with_reducible refine awp_condT ?_ ?_); rfl) | ((with_reducible refine awp_condF ?_ ?_); rfl) | ((with_reducible refine awp_reg ?_); intro K hK) | ((with_reducible refine hK _ ?_); clear hK K) | (with_reducible refine and_split ?_ ?_) | ((with_reducible refine sw_id ?_); simp (disch := first | decide | omega) only [↓pkS, pkW, pkA, undef, capsOf, ex, St.put, St.ev, kav, gdA, opI, rawI, vbin, srcOf, avsD, acsD, AV.toD, AC.toD, AV.nw, AC.nw, AC.one, Value.oneCell', fillA, D.one, D.ones, D.sz, D.szs, Nat.reduceAdd, Nat.reduceSub, Nat.reduceLeDiff, Nat.reduceEqDiff, reduceIte, pkN, pkF, set_li]) | (first | (with_reducible rfl) | (with_reducible refine fnok_id ?_; kernel_rfl) | exact el_strs _ | exact el_ints _ | exact el_ln _ | exact el_tk _ _ | exact el_td _ _ _ | omega | (simp; done) | (simp; omega)) | ((with_reducible refine args_id ?_); simp [ArgsOk, ArgOk, argsD, argD, AC.toD, Value.oneCell', sl_flat, leaf_flat, li_flat, ls_flat, sl_agg, leaf_agg, li_agg, ls_agg, mo_t, mo_f, pkF, set_li]; done))
          all_goals first
            | (simp only [List.length_map, List.length_append, List.length_cons, List.length_nil, List.length_replicate]; omega)
            | (refine roundB (j + 1, far3, next3, v3) ?_ hskip (show us.length - (j + 1) < us.length - j by omega)
               simp [StLe', FrLe, OwnLe, BoxLe, AV.fits, AC.fits, FB, mask])
      · obtain rfl : j = us.length := by omega
        have hfin := hU.fin (fun u h1 h2 => (hmu u).2 ⟨h1, h2⟩)
        repeat' (first | (with_reducible first | refine awp_seq ?_ | refine awp_block ?_ | refine awp_skip ?_ | refine awp_exit ?_ | refine awp_ret ?_ | refine athen ?_ | refine thenExit ?_ | refine thenRet ?_ | refine blockNormal ?_ | refine blockExit ?_ | refine blockRet ?_ | refine roundExit ?_ | refine roundRet ?_ | refine roundExitR ?_ | refine roundRetR ?_) | ((with_reducible refine blockPass ?_ ?_); rfl) | ((with_reducible refine awp_condT ?_ ?_); rfl) | ((with_reducible refine awp_condF ?_ ?_); rfl) | ((with_reducible refine awp_reg ?_); intro K hK) | ((with_reducible refine hK _ ?_); clear hK K) | (with_reducible refine and_split ?_ ?_) | ((with_reducible refine sw_id ?_); simp (disch := first | decide | omega) only [↓pkS, pkW, pkA, undef, capsOf, ex, St.put, St.ev, kav, gdA, opI, rawI, vbin, srcOf, avsD, acsD, AV.toD, AC.toD, AV.nw, AC.nw, AC.one, Value.oneCell', fillA, D.one, D.ones, D.sz, D.szs, Nat.reduceAdd, Nat.reduceSub, Nat.reduceLeDiff, Nat.reduceEqDiff, reduceIte, pkN, pkF]) | (first | (with_reducible rfl) | (with_reducible refine fnok_id ?_; kernel_rfl) | exact el_strs _ | exact el_ints _ | exact el_ln _ | exact el_tk _ _ | exact el_td _ _ _ | omega | (simp; done) | (simp; omega)) | ((with_reducible refine args_id ?_); simp [ArgsOk, ArgOk, argsD, argD, AC.toD, Value.oneCell', sl_flat, leaf_flat, li_flat, ls_flat, sl_agg, leaf_agg, li_agg, ls_agg, mo_t, mo_f, pkF]; done))
        refine roundB (k + 1, far3, next3, v3) ?_ hfin (show list.length - (k + 1) < list.length - k by omega)
        simp [StLe', FrLe, OwnLe, BoxLe, AV.fits, AC.fits, FB, mask]
    · obtain rfl : k = list.length := by omega
      have hfin := hR.fin hF hI hne
      repeat' (first | (with_reducible first | refine awp_seq ?_ | refine awp_block ?_ | refine awp_skip ?_ | refine awp_exit ?_ | refine awp_ret ?_ | refine athen ?_ | refine thenExit ?_ | refine thenRet ?_ | refine blockNormal ?_ | refine blockExit ?_ | refine blockRet ?_ | refine roundExit ?_ | refine roundRet ?_ | refine roundExitR ?_ | refine roundRetR ?_) | ((with_reducible refine blockPass ?_ ?_); rfl) | ((with_reducible refine awp_condT ?_ ?_); rfl) | ((with_reducible refine awp_condF ?_ ?_); rfl) | ((with_reducible refine awp_reg ?_); intro K hK) | ((with_reducible refine hK _ ?_); clear hK K) | (with_reducible refine and_split ?_ ?_) | ((with_reducible refine sw_id ?_); simp (disch := first | decide | omega) only [↓pkS, pkW, pkA, undef, capsOf, ex, St.put, St.ev, kav, gdA, opI, rawI, vbin, srcOf, avsD, acsD, AV.toD, AC.toD, AV.nw, AC.nw, AC.one, Value.oneCell', fillA, D.one, D.ones, D.sz, D.szs, Nat.reduceAdd, Nat.reduceSub, Nat.reduceLeDiff, Nat.reduceEqDiff, reduceIte, pkN, pkF]) | (first | (with_reducible rfl) | (with_reducible refine fnok_id ?_; kernel_rfl) | exact el_strs _ | exact el_ints _ | exact el_ln _ | exact el_tk _ _ | exact el_td _ _ _ | omega | (simp; done) | (simp; omega)) | ((with_reducible refine args_id ?_); simp [ArgsOk, ArgOk, argsD, argD, AC.toD, Value.oneCell', sl_flat, leaf_flat, li_flat, ls_flat, sl_agg, leaf_agg, li_agg, ls_agg, mo_t, mo_f, pkF]; done))
      refine roundR (n + 1, far2, next, v2) [0, 2] ?_ hfin (show l.length + 2 - (n + 1) < l.length + 2 - n by omega)
      simp [StLeR, FrLeR, OwnLeR, BoxLeR, AV.ren, AC.ren, AV.fits, AC.fits, FB, mask]
  · obtain rfl : list = [] := List.eq_nil_of_length_eq_zero (by omega)
    have hfin := hI.fin hF hN
    rw [← hfin]
    repeat' (first | (with_reducible first | refine awp_seq ?_ | refine awp_block ?_ | refine awp_skip ?_ | refine awp_exit ?_ | refine awp_ret ?_ | refine athen ?_ | refine thenExit ?_ | refine thenRet ?_ | refine blockNormal ?_ | refine blockExit ?_ | refine blockRet ?_ | refine roundExit ?_ | refine roundRet ?_ | refine roundExitR ?_ | refine roundRetR ?_) | ((with_reducible refine blockPass ?_ ?_); rfl) | ((with_reducible refine awp_condT ?_ ?_); rfl) | ((with_reducible refine awp_condF ?_ ?_); rfl) | ((with_reducible refine awp_reg ?_); intro K hK) | ((with_reducible refine hK _ ?_); clear hK K) | (with_reducible refine and_split ?_ ?_) | ((with_reducible refine sw_id ?_); simp (disch := first | decide | omega) only [↓pkS, pkW, pkA, undef, capsOf, ex, St.put, St.ev, kav, gdA, opI, rawI, vbin, srcOf, avsD, acsD, AV.toD, AC.toD, AV.nw, AC.nw, AC.one, Value.oneCell', fillA, D.one, D.ones, D.sz, D.szs, Nat.reduceAdd, Nat.reduceSub, Nat.reduceLeDiff, Nat.reduceEqDiff, reduceIte, pkN, pkF]) | (first | (with_reducible rfl) | (with_reducible refine fnok_id ?_; kernel_rfl) | exact el_strs _ | exact el_ints _ | exact el_ln _ | exact el_tk _ _ | exact el_td _ _ _ | omega | (simp; done) | (simp; omega)) | ((with_reducible refine args_id ?_); simp [ArgsOk, ArgOk, argsD, argD, AC.toD, Value.oneCell', sl_flat, leaf_flat, li_flat, ls_flat, sl_agg, leaf_agg, li_agg, ls_agg, mo_t, mo_f, pkF]; done))
    exact endRet ⟨0, _, _, rfl, rfl, rfl, rfl, rfl, rfl, Or.inl rfl⟩
def ic_far_impl : IC := (.seq (.reg false [⟨(some 4), none, .mov (.k (.slice none 0 0))⟩]) (.seq (.reg false [⟨(some 13), none, .brow true 3 1 0 false []⟩, ⟨(some 5), none, .mov (.t 13)⟩]) (.seq (.seq (.reg false [⟨(some 14), none, .mov (.t 0)⟩, ⟨(some 15), none, .len false (.t 14)⟩, ⟨(some 16), none, .mov (.k (.int .i64 0))⟩]) (.block 0 (.loop (.seq (.reg false [⟨(some 17), none, .bin .lss (.t 16) (.t 15)⟩]) (.seq (.cond (.t 17) .skip (.exit 0)) (.seq (.block 1 (.reg false [⟨(some 18), none, .mov (.t 5)⟩, ⟨(some 19), none, .brow false 3 1 1 false [(.k (.int .i64 (-1)))]⟩, ⟨(some 20), none, .app 3 1 (.t 18) (.t 19)⟩, ⟨(some 5), none, .mov (.t 20)⟩])) (.reg false [⟨(some 21), none, .bin .add (.t 16) (.k (.int .i64 1))⟩, ⟨(some 16), none, .mov (.t 21)⟩]))))))) (.seq (.reg false [⟨(some 22), none, .mov (.t 1)⟩, ⟨(some 23), none, .brow true 3 1 1 false [(.t 22)]⟩, ⟨(some 6), none, .mov (.t 23)⟩]) (.seq (.seq (.reg false [⟨(some 7), none, .mov (.k (.int .i64 1))⟩]) (.block 2 (.loop (.seq (.seq (.reg false [⟨(some 24), none, .mov (.t 6)⟩, ⟨(some 25), none, .len false (.t 24)⟩, ⟨(some 26), none, .bin .gtr (.t 25) (.k (.int .i64 0))⟩]) (.cond (.t 26) .skip (.exit 2))) (.seq (.block 3 (.seq (.reg false [⟨(some 29), none, .brow true 3 1 0 false []⟩, ⟨(some 8), none, .mov (.t 29)⟩]) (.seq (.seq (.reg false [⟨(some 30), none, .mov (.t 6)⟩, ⟨(some 31), none, .len false (.t 30)⟩, ⟨(some 32), none, .mov (.k (.int .i64 0))⟩]) (.block 4 (.loop (.seq (.reg false [⟨(some 33), none, .bin .lss (.t 32) (.t 31)⟩]) (.seq (.cond (.t 33) .skip (.exit 4)) (.seq (.block 5 (.seq (.reg false [⟨(some 34), none, .iad 1 (.t 30) (.t 32)⟩, ⟨(some 35), none, .load 1 false (.t 34)⟩, ⟨(some 10), none, .mov (.t 35)⟩]) (.seq (.reg false [⟨(some 36), none, .mov (.t 0)⟩, ⟨(some 37), none, .mov (.t 10)⟩, ⟨(some 38), none, .call 32 [(.t 36), (.t 37)]⟩, ⟨(some 39), none, .len false (.t 38)⟩, ⟨(some 40), none, .mov (.k (.int .i64 0))⟩]) (.block 6 (.loop (.seq (.reg false [⟨(some 41), none, .bin .lss (.t 40) (.t 39)⟩]) (.seq (.cond (.t 41) .skip (.exit 6)) (.seq (.block 7 (.seq (.reg false [⟨(some 42), none, .iad 1 (.t 38) (.t 40)⟩, ⟨(some 43), none, .load 1 false (.t 42)⟩, ⟨(some 12), none, .mov (.t 43)⟩]) (.seq (.reg false [⟨(some 44), none, .mov (.t 5)⟩, ⟨(some 45), none, .mov (.t 12)⟩, ⟨(some 46), none, .iad 1 (.t 44) (.t 45)⟩, ⟨(some 47), none, .load 1 false (.t 46)⟩, ⟨(some 48), none, .bin .lss (.t 47) (.k (.int .i64 0))⟩]) (.cond (.t 48) (.seq (.reg false [⟨(some 49), none, .mov (.t 5)⟩, ⟨(some 50), none, .mov (.t 12)⟩, ⟨(some 51), none, .mov (.t 7)⟩, ⟨(some 52), none, .iad 1 (.t 49) (.t 50)⟩, ⟨none, none, .store 1 (.t 52) (.t 51)⟩]) (.reg false [⟨(some 53), none, .mov (.t 8)⟩, ⟨(some 54), none, .mov (.t 12)⟩, ⟨(some 55), none, .brow false 3 1 1 false [(.t 54)]⟩, ⟨(some 56), none, .app 3 1 (.t 53) (.t 55)⟩, ⟨(some 8), none, .mov (.t 56)⟩])) .skip)))) (.reg false [⟨(some 57), none, .bin .add (.t 40) (.k (.int .i64 1))⟩, ⟨(some 40), none, .mov (.t 57)⟩]))))))))) (.reg false [⟨(some 58), none, .bin .add (.t 32) (.k (.int .i64 1))⟩, ⟨(some 32), none, .mov (.t 58)⟩]))))))) (.reg false [⟨(some 59), none, .mov (.t 8)⟩, ⟨(some 6), none, .mov (.t 59)⟩])))) (.reg false [⟨(some 27), none, .mov (.t 7)⟩, ⟨(some 28), none, .bin .add (.t 27) (.k (.int .i64 1))⟩, ⟨(some 7), none, .mov (.t 28)⟩])))))) (.seq (.reg false [⟨(some 60), none, .mov (.t 5)⟩, ⟨(some 4), none, .mov (.t 60)⟩]) .ret))))))
theorem ic_far_impl_ok : compC Tryz.prog (Tryz.f79.body.getD .skip) = some ic_far_impl := by kernel_rfl
set_option maxHeartbeats 8000000 in
theorem far_impl_to (l : List GPart) (i : Nat) (hi : i < l.length) (hw : l.length + D.wts (l.map GPart.toD) ≤ 1048576) : CallsOwn Tryz.prog 79 [.sl (l.map GPart.toD), li (i : Int)] ((farL (du l) l.length i).map li) 3 1 := by
  have hn : l.length ≤ 1048576 := by omega
  have hF := du_lt l
  have hN : ∀ u, l.length ≤ u → du l u = [] := fun u h => du_out l h
  refine calls_own (fn := Tryz.f79) (t := 4) (by kernel_rfl) (by kernel_rfl) (by kernel_rfl) ic_far_impl_ok ?_
  unfold ic_far_impl
  change AWP _ _ _ (st0 61 _)
  simp only [undef, stS, st0, stN, D.av, D.avN, sl_agg, leaf_agg, li_agg, ls_agg, sl_acs, leaf_acs, li_acs, ls_acs, ln_acs, el_ln, getq_map, GPart.acs_eq, GPart.flat_eq, GPart.agg_eq, GPart.el, List.map_cons, List.map_nil, List.replicate, List.cons_append, List.nil_append, List.length_cons, List.length_nil, Nat.reduceAdd, Nat.reduceSub]
  repeat' (first | (with_reducible first | refine awp_seq ?_ | refine awp_block ?_ | refine awp_skip ?_ | refine awp_exit ?_ | refine awp_ret ?_ | refine athen ?_ | refine thenExit ?_ | refine thenRet ?_ | refine blockNormal ?_ | refine blockExit ?_ | refine blockRet ?_ | refine roundExit ?_ | refine roundRet ?_ | refine roundExitR ?_ | refine roundRetR ?_) | ((with_reducible refine blockPass ?_ ?_); rfl) | ((with_reducible refine awp_condT ?_ ?_); rfl) | ((with_reducible refine awp_condF ?_ ?_); rfl) | ((with_reducible refine awp_reg ?_); intro K hK) | ((with_reducible refine hK _ ?_); clear hK K) | (with_reducible refine and_split ?_ ?_) | ((with_reducible refine sw_id ?_); simp (disch := first | decide | omega) only [↓pkS, pkW, pkA, undef, capsOf, ex, St.put, St.ev, kav, gdA, opI, rawI, vbin, srcOf, avsD, acsD, AV.toD, AC.toD, AV.nw, AC.nw, AC.one, Value.oneCell', fillA, D.one, D.ones, D.sz, D.szs, Nat.reduceAdd, Nat.reduceSub, Nat.reduceLeDiff, Nat.reduceEqDiff, reduceIte, pkN, pkF]) | (first | (with_reducible rfl) | (with_reducible refine fnok_id ?_; kernel_rfl) | exact el_strs _ | exact el_ints _ | exact el_ln _ | exact el_tk _ _ | exact el_td _ _ _ | omega | (simp; done) | (simp; omega)) | ((with_reducible refine args_id ?_); simp [ArgsOk, ArgOk, argsD, argD, AC.toD, Value.oneCell', sl_flat, leaf_flat, li_flat, ls_flat, sl_agg, leaf_agg, li_agg, ls_agg, mo_t, mo_f, pkF]; done))
  refine awp_loopB (X := Nat × Nat) (fun q => [.k, .k, .d, .d, .d, .v (.c false [.own 0 q.2]), .d, .d, .d, .d, .d, .d, .d, .d, .d, .k, .v (.c false [.raw (.int .i64 (q.1 : Nat))]), .d, .d, .d, .d, .d, .d, .d, .d, .d, .d, .d, .d, .d, .d, .d, .d, .d, .d, .d, .d, .d, .d, .d, .d, .d, .d, .d, .d, .d, .d, .d, .d, .d, .d, .d, .d, .d, .d, .d, .d, .d, .d, .d, .d]) (fun q => [⟨(List.replicate q.1 (-1 : Int)).map li, 3, 1, q.2, true⟩]) (fun q bs => bs) (fun q => q.1 ≤ l.length) (fun q => l.length - q.1) (0, 0) (Nat.zero_le _) ?_ ?_
  · simp [StLe', FrLe, OwnLe, BoxLe, AV.fits, AC.fits, FB, mask]
  rintro ⟨k, v⟩ hk
  have hk' : k ≤ l.length := hk
  clear hk
  simp only [FB, mask]
  by_cases hlk : k < l.length
  · repeat' (first | (with_reducible first | refine awp_seq ?_ | refine awp_block ?_ | refine awp_skip ?_ | refine awp_exit ?_ | refine awp_ret ?_ | refine athen ?_ | refine thenExit ?_ | refine thenRet ?_ | refine blockNormal ?_ | refine blockExit ?_ | refine blockRet ?_ | refine roundExit ?_ | refine roundRet ?_ | refine roundExitR ?_ | refine roundRetR ?_) | ((with_reducible refine blockPass ?_ ?_); rfl) | ((with_reducible refine awp_condT ?_ ?_); rfl) | ((with_reducible refine awp_condF ?_ ?_); rfl) | ((with_reducible refine awp_reg ?_); intro K hK) | ((with_reducible refine hK _ ?_); clear hK K) | (with_reducible refine and_split ?_ ?_) | ((with_reducible refine sw_id ?_); simp (disch := first | decide | omega) only [↓pkS, pkW, pkA, undef, capsOf, ex, St.put, St.ev, kav, gdA, opI, rawI, vbin, srcOf, avsD, acsD, AV.toD, AC.toD, AV.nw, AC.nw, AC.one, Value.oneCell', fillA, D.one, D.ones, D.sz, D.szs, Nat.reduceAdd, Nat.reduceSub, Nat.reduceLeDiff, Nat.reduceEqDiff, reduceIte, pkN, pkF]) | (first | (with_reducible rfl) | (with_reducible refine fnok_id ?_; kernel_rfl) | exact el_strs _ | exact el_ints _ | exact el_ln _ | exact el_tk _ _ | exact el_td _ _ _ | omega | (simp; done) | (simp; omega)) | ((with_reducible refine args_id ?_); simp [ArgsOk, ArgOk, argsD, argD, AC.toD, Value.oneCell', sl_flat, leaf_flat, li_flat, ls_flat, sl_agg, leaf_agg, li_agg, ls_agg, mo_t, mo_f, pkF]; done))
    all_goals first
      | (simp only [List.length_map, List.length_append, List.length_cons, List.length_nil, List.length_replicate]; omega)
      | (refine roundB (k + 1, v + 1) ?_ (show k + 1 ≤ l.length by omega) (show l.length - (k + 1) < l.length - k by omega)
         simp [StLe', FrLe, OwnLe, BoxLe, AV.fits, AC.fits, FB, mask, List.replicate_succ', li])
  obtain rfl : k = l.length := by omega
  repeat' (first | (with_reducible first | refine awp_seq ?_ | refine awp_block ?_ | refine awp_skip ?_ | refine awp_exit ?_ | refine awp_ret ?_ | refine athen ?_ | refine thenExit ?_ | refine thenRet ?_ | refine blockNormal ?_ | refine blockExit ?_ | refine blockRet ?_ | refine roundExit ?_ | refine roundRet ?_ | refine roundExitR ?_ | refine roundRetR ?_) | ((with_reducible refine blockPass ?_ ?_); rfl) | ((with_reducible refine awp_condT ?_ ?_); rfl) | ((with_reducible refine awp_condF ?_ ?_); rfl) | ((with_reducible refine awp_reg ?_); intro K hK) | ((with_reducible refine hK _ ?_); clear hK K) | (with_reducible refine and_split ?_ ?_) | ((with_reducible refine sw_id ?_); simp (disch := first | decide | omega) only [↓pkS, pkW, pkA, undef, capsOf, ex, St.put, St.ev, kav, gdA, opI, rawI, vbin, srcOf, avsD, acsD, AV.toD, AC.toD, AV.nw, AC.nw, AC.one, Value.oneCell', fillA, D.one, D.ones, D.sz, D.szs, Nat.reduceAdd, Nat.reduceSub, Nat.reduceLeDiff, Nat.reduceEqDiff, reduceIte, pkN, pkF]) | (first | (with_reducible rfl) | (with_reducible refine fnok_id ?_; kernel_rfl) | exact el_strs _ | exact el_ints _ | exact el_ln _ | exact el_tk _ _ | exact el_td _ _ _ | omega | (simp; done) | (simp; omega)) | ((with_reducible refine args_id ?_); simp [ArgsOk, ArgOk, argsD, argD, AC.toD, Value.oneCell', sl_flat, leaf_flat, li_flat, ls_flat, sl_agg, leaf_agg, li_agg, ls_agg, mo_t, mo_f, pkF]; done))
  refine awp_loopR (X := Nat × List Int × List Nat × Nat) (fun q => [.k, .d, .d, .d, .d, .k, .v (.c false [.own 1 q.2.2.2]), .v (.c false [.raw (.int .i64 (q.1 : Nat))]), .d, .d, .d, .d, .d, .d, .d, .d, .d, .d, .d, .d, .d, .d, .d, .d, .d, .d, .d, .d, .d, .d, .d, .d, .d, .d, .d, .d, .d, .d, .d, .d, .d, .d, .d, .d, .d, .d, .d, .d, .d, .d, .d, .d, .d, .d, .d, .d, .d, .d, .d, .d, .d]) (fun q => [⟨q.2.1.map li, 3, 1, v, true⟩, ⟨q.2.2.1.map ln, 3, 1, q.2.2.2, true⟩]) (fun q bs => bs) (fun q => FarInv (du l) l.length i q.1 q.2.1 q.2.2.1) (fun q => l.length + 2 - q.1) (1, List.replicate l.length (-1), [i], 0) [0, 1] (FarInv.start hi) ?_ ?_
  · simp [StLeR, FrLeR, OwnLeR, BoxLeR, AV.ren, AC.ren, AV.fits, AC.fits, FB, mask, ln, li]
  rintro ⟨n, far, list, v1⟩ hinv
  have hI : FarInv (du l) l.length i n far list := hinv
  clear hinv
  have hnle := hI.n_le
  have hll := hI.l_len
  have hfl := hI.len
  simp only [FB, mask]
  by_cases hne : 0 < list.length
  · have hnlt := hI.n_lt hne
    have hltn := hI.lt
    repeat' (first | (with_reducible first | refine awp_seq ?_ | refine awp_block ?_ | refine awp_skip ?_ | refine awp_exit ?_ | refine awp_ret ?_ | refine athen ?_ | refine thenExit ?_ | refine thenRet ?_ | refine blockNormal ?_ | refine blockExit ?_ | refine blockRet ?_ | refine roundExit ?_ | refine roundRet ?_ | refine roundExitR ?_ | refine roundRetR ?_) | ((with_reducible refine blockPass ?_ ?_); rfl) | ((with_reducible refine awp_condT ?_ ?_); rfl) | ((with_reducible refine awp_condF ?_ ?_); rfl) | ((with_reducible refine awp_reg ?_); intro K hK) | ((with_reducible refine hK _ ?_); clear hK K) | (with_reducible refine and_split ?_ ?_) | ((with_reducible refine sw_id ?_); simp (disch := first | decide | omega) only [↓pkS, pkW, pkA, undef, capsOf, ex, St.put, St.ev, kav, gdA, opI, rawI, vbin, srcOf, avsD, acsD, AV.toD, AC.toD, AV.nw, AC.nw, AC.one, Value.oneCell', fillA, D.one, D.ones, D.sz, D.szs, Nat.reduceAdd, Nat.reduceSub, Nat.reduceLeDiff, Nat.reduceEqDiff, reduceIte, pkN, pkF]) | (first | (with_reducible rfl) | (with_reducible refine fnok_id ?_; kernel_rfl) | exact el_strs _ | exact el_ints _ | exact el_ln _ | exact el_tk _ _ | exact el_td _ _ _ | omega | (simp; done) | (simp; omega)) | ((with_reducible refine args_id ?_); simp [ArgsOk, ArgOk, argsD, argD, AC.toD, Value.oneCell', sl_flat, leaf_flat, li_flat, ls_flat, sl_agg, leaf_agg, li_agg, ls_agg, mo_t, mo_f, pkF]; done))
    refine awp_loopB (X := Nat × List Int × List Nat × Nat) (fun q => [.k, .d, .d, .d, .d, .k, .d, .k, .v (.c false [.own 2 q.2.2.2]), .d, .d, .d, .d, .d, .d, .d, .d, .d, .d, .d, .d, .d, .d, .d, .d, .d, .d, .d, .d, .d, .k, .k, .v (.c false [.raw (.int .i64 (q.1 : Nat))]), .d, .d, .d, .d, .d, .d, .d, .d, .d, .d, .d, .d, .d, .d, .d, .d, .d, .d, .d, .d, .d, .d, .d, .d, .d, .d, .d, .d]) (fun q => [⟨q.2.1.map li, 3, 1, v, true⟩, ⟨list.map ln, 3, 1, v1, true⟩, ⟨q.2.2.1.map ln, 3, 1, q.2.2.2, true⟩]) (fun q bs => bs) (fun q => RndInv (du l) l.length i n list q.1 q.2.1 q.2.2.1) (fun q => list.length - q.1) (0, far, [], 0) hI.round ?_ ?_
    · simp [StLe', FrLe, OwnLe, BoxLe, AV.fits, AC.fits, FB, mask]
    rintro ⟨k, far2, next, v2⟩ hinv
    have hR : RndInv (du l) l.length i n list k far2 next := hinv
    clear hinv
    have hxl := hR.x_len
    have hf2 := hR.len
    have hkl := hR.le
    simp only [FB, mask]
    by_cases hk2 : k < list.length
    · have hus := users_impl_to l (list[k] : Int) hw
      have hul := usI_len l (list[k] : Int)
      have hmu : ∀ u, u ∈ usI l (list[k] : Int) ↔ u < l.length ∧ list[k] ∈ du l u := fun u => mem_usI
      obtain ⟨us, hus0⟩ : ∃ us, usI l (list[k] : Int) = us := ⟨_, rfl⟩
      rw [hus0] at hus hul hmu
      clear hus0
      repeat' (first | (with_reducible first | refine awp_seq ?_ | refine awp_block ?_ | refine awp_skip ?_ | refine awp_exit ?_ | refine awp_ret ?_ | refine athen ?_ | refine thenExit ?_ | refine thenRet ?_ | refine blockNormal ?_ | refine blockExit ?_ | refine blockRet ?_ | refine roundExit ?_ | refine roundRet ?_ | refine roundExitR ?_ | refine roundRetR ?_) | ((with_reducible refine blockPass ?_ ?_); rfl) | ((with_reducible refine awp_condT ?_ ?_); rfl) | ((with_reducible refine awp_condF ?_ ?_); rfl) | ((with_reducible refine awp_reg ?_); intro K hK) | ((with_reducible refine hK _ ?_); clear hK K) | (with_reducible refine and_split ?_ ?_) | ((with_reducible refine ct_id ?_); first | (refine callOwn hus (el_ln _) ?_ ?_)) | ((with_reducible refine sw_id ?_); simp (disch := first | decide | omega) only [↓pkS, pkW, pkA, undef, capsOf, ex, St.put, St.ev, kav, gdA, opI, rawI, vbin, srcOf, avsD, acsD, AV.toD, AC.toD, AV.nw, AC.nw, AC.one, Value.oneCell', fillA, D.one, D.ones, D.sz, D.szs, Nat.reduceAdd, Nat.reduceSub, Nat.reduceLeDiff, Nat.reduceEqDiff, reduceIte, pkN, pkF]) | (first | (with_reducible rfl) | (with_reducible refine fnok_id ?_; kernel_rfl) | exact el_strs _ | exact el_ints _ | exact el_ln _ | exact el_tk _ _ | exact el_td _ _ _ | omega | (simp; done) | (simp; omega)) | ((with_reducible refine args_id ?_); simp [ArgsOk, ArgOk, argsD, argD, AC.toD, Value.oneCell', sl_flat, leaf_flat, li_flat, ls_flat, sl_agg, leaf_agg, li_agg, ls_agg, mo_t, mo_f, pkF]; done))
      refine awp_loopB (X := Nat × List Int × List Nat × Nat) (fun q => [.k, .d, .d, .d, .d, .k, .d, .k, .v (.c false [.own 2 q.2.2.2]), .d, .d, .d, .d, .d, .d, .d, .d, .d, .d, .d, .d, .d, .d, .d, .d, .d, .d, .d, .d, .d, .k, .k, .k, .d, .d, .d, .d, .d, .k, .k, .v (.c false [.raw (.int .i64 (q.1 : Nat))]), .d, .d, .d, .d, .d, .d, .d, .d, .d, .d, .d, .d, .d, .d, .d, .d, .d, .d, .d, .d]) (fun q => [⟨q.2.1.map li, 3, 1, v, true⟩, ⟨list.map ln, 3, 1, v1, true⟩, ⟨q.2.2.1.map ln, 3, 1, q.2.2.2, true⟩, ⟨us.map ln, 3, 1, 0, true⟩]) (fun q bs => bs) (fun q => UsrInv (du l) l.length i n list k us q.1 q.2.1 q.2.2.1) (fun q => us.length - q.1) (0, far2, next, v2) (hR.users us hk2) ?_ ?_
      · simp [StLe', FrLe, OwnLe, BoxLe, AV.fits, AC.fits, FB, mask]
      rintro ⟨j, far3, next3, v3⟩ hinv
      have hU : UsrInv (du l) l.length i n list k us j far3 next3 := hinv
      clear hinv
      have hxl3 := hU.x_len
      have hf3 := hU.len
      have hjl := hU.jle
      simp only [FB, mask]
      by_cases hj : j < us.length
      · have hub := ((hmu us[j]).1 (List.getElem_mem hj)).1
        have hlt3 : us[j] < far3.length := by omega
        by_cases hneg : far3[us[j]] < 0
        · have hput := hU.put hI (fun u hu => (hmu u).1 hu) hj hlt3 hneg
          repeat' (first | (with_reducible first | refine awp_seq ?_ | refine awp_block ?_ | refine awp_skip ?_ | refine awp_exit ?_ | refine awp_ret ?_ | refine athen ?_ | refine thenExit ?_ | refine thenRet ?_ | refine blockNormal ?_ | refine blockExit ?_ | refine blockRet ?_ | refine roundExit ?_ | refine roundRet ?_ | refine roundExitR ?_ | refine roundRetR ?_) | ((with_reducible refine blockPass ?_ ?_); rfl) | ((with_reducible refine awp_condT ?_ ?_); rfl) | ((with_reducible refine awp_condF ?_ ?_); rfl) | ((with_reducible refine awp_reg ?_); intro K hK) | ((with_reducible refine hK _ ?_); clear hK K) | (with_reducible refine and_split ?_ ?_) | ((with_reducible refine sw_id ?_); simp (disch := first | decide | omega) only [↓pkS, pkW, pkA, undef, capsOf, ex, St.put, St.ev, kav, gdA, opI, rawI, vbin, srcOf, avsD, acsD, AV.toD, AC.toD, AV.nw, AC.nw, AC.one, Value.oneCell', fillA, D.one, D.ones, D.sz, D.szs, Nat.reduceAdd, Nat.reduceSub, Nat.reduceLeDiff, Nat.reduceEqDiff, reduceIte, pkN, pkF, set_li]) | (first | (with_reducible rfl) | (with_reducible refine fnok_id ?_; kernel_rfl) | exact el_strs _ | exact el_ints _ | exact el_ln _ | exact el_tk _ _ | exact el_td _ _ _ | omega | (simp; done) | (simp; omega)) | ((with_reducible refine args_id ?_); simp [ArgsOk, ArgOk, argsD, argD, AC.toD, Value.oneCell', sl_flat, leaf_flat, li_flat, ls_flat, sl_agg, leaf_agg, li_agg, ls_agg, mo_t, mo_f, pkF, set_li]; done))
          all_goals first
            | (simp only [List.length_map, List.length_append, List.length_cons, List.length_nil, List.length_replicate]; omega)
            | (refine roundB (j + 1, far3.set us[j] (n : Int), next3 ++ [us[j]], v3 + 1) ?_ hput (show us.length - (j + 1) < us.length - j by omega)
               simp [StLe', FrLe, OwnLe, BoxLe, AV.fits, AC.fits, FB, mask, List.map_set, ln, li])
        · have hskip := hU.skip hj hlt3 hneg
          repeat' (first | (with_reducible first | refine awp_seq ?_ | refine awp_block ?_ | refine awp_skip ?_ | refine awp_exit ?_ | refine awp_ret ?_ | refine athen ?_ | refine thenExit ?_ | refine thenRet ?_ | refine blockNormal ?_ | refine blockExit ?_ | refine blockRet ?_ | refine roundExit ?_ | refine roundRet ?_ | refine roundExitR ?_ | refine roundRetR ?_) | ((with_reducible refine blockPass ?_ ?_); rfl) | ((with_reducible refine awp_condT ?_ ?_); rfl) | ((with_reducible refine awp_condF ?_ ?_); rfl) | ((with_reducible refine awp_reg ?_); intro K hK) | ((with_reducible refine hK _ ?_); clear hK K) | (with_reducible refine and_split ?_ ?_) | ((with_reducible refine sw_id ?_); simp (disch := first | decide | omega) only [↓pkS, pkW, pkA, undef, capsOf, ex, St.put, St.ev, kav, gdA, opI, rawI, vbin, srcOf, avsD, acsD, AV.toD, AC.toD, AV.nw, AC.nw, AC.one, Value.oneCell', fillA, D.one, D.ones, D.sz, D.szs, Nat.reduceAdd, Nat.reduceSub, Nat.reduceLeDiff, Nat.reduceEqDiff, reduceIte, pkN, pkF, set_li]) | (first | (with_reducible rfl) | (with_reducible refine fnok_id ?_; kernel_rfl) | exact el_strs _ | exact el_ints _ | exact el_ln _ | exact el_tk _ _ | exact el_td _ _ _ | omega | (simp; done) | (simp; omega)) | ((with_reducible refine args_id ?_); simp [ArgsOk, ArgOk, argsD, argD, AC.toD, Value.oneCell', sl_flat, leaf_flat, li_flat, ls_flat, sl_agg, leaf_agg, li_agg, ls_agg, mo_t, mo_f, pkF, set_li]; done))
          all_goals first
            | (simp only [List.length_map, List.length_append, List.length_cons, List.length_nil, List.length_replicate]; omega)
            | (refine roundB (j + 1, far3, next3, v3) ?_ hskip (show us.length - (j + 1) < us.length - j by omega)
               simp [StLe', FrLe, OwnLe, BoxLe, AV.fits, AC.fits, FB, mask])
      · obtain rfl : j = us.length := by omega
        have hfin := hU.fin (fun u h1 h2 => (hmu u).2 ⟨h1, h2⟩)
        repeat' (first | (with_reducible first | refine awp_seq ?_ | refine awp_block ?_ | refine awp_skip ?_ | refine awp_exit ?_ | refine awp_ret ?_ | refine athen ?_ | refine thenExit ?_ | refine thenRet ?_ | refine blockNormal ?_ | refine blockExit ?_ | refine blockRet ?_ | refine roundExit ?_ | refine roundRet ?_ | refine roundExitR ?_ | refine roundRetR ?_) | ((with_reducible refine blockPass ?_ ?_); rfl) | ((with_reducible refine awp_condT ?_ ?_); rfl) | ((with_reducible refine awp_condF ?_ ?_); rfl) | ((with_reducible refine awp_reg ?_); intro K hK) | ((with_reducible refine hK _ ?_); clear hK K) | (with_reducible refine and_split ?_ ?_) | ((with_reducible refine sw_id ?_); simp (disch := first | decide | omega) only [↓pkS, pkW, pkA, undef, capsOf, ex, St.put, St.ev, kav, gdA, opI, rawI, vbin, srcOf, avsD, acsD, AV.toD, AC.toD, AV.nw, AC.nw, AC.one, Value.oneCell', fillA, D.one, D.ones, D.sz, D.szs, Nat.reduceAdd, Nat.reduceSub, Nat.reduceLeDiff, Nat.reduceEqDiff, reduceIte, pkN, pkF]) | (first | (with_reducible rfl) | (with_reducible refine fnok_id ?_; kernel_rfl) | exact el_strs _ | exact el_ints _ | exact el_ln _ | exact el_tk _ _ | exact el_td _ _ _ | omega | (simp; done) | (simp; omega)) | ((with_reducible refine args_id ?_); simp [ArgsOk, ArgOk, argsD, argD, AC.toD, Value.oneCell', sl_flat, leaf_flat, li_flat, ls_flat, sl_agg, leaf_agg, li_agg, ls_agg, mo_t, mo_f, pkF]; done))
        refine roundB (k + 1, far3, next3, v3) ?_ hfin (show list.length - (k + 1) < list.length - k by omega)
        simp [StLe', FrLe, OwnLe, BoxLe, AV.fits, AC.fits, FB, mask]
    · obtain rfl : k = list.length := by omega
      have hfin := hR.fin hF hI hne
      repeat' (first | (with_reducible first | refine awp_seq ?_ | refine awp_block ?_ | refine awp_skip ?_ | refine awp_exit ?_ | refine awp_ret ?_ | refine athen ?_ | refine thenExit ?_ | refine thenRet ?_ | refine blockNormal ?_ | refine blockExit ?_ | refine blockRet ?_ | refine roundExit ?_ | refine roundRet ?_ | refine roundExitR ?_ | refine roundRetR ?_) | ((with_reducible refine blockPass ?_ ?_); rfl) | ((with_reducible refine awp_condT ?_ ?_); rfl) | ((with_reducible refine awp_condF ?_ ?_); rfl) | ((with_reducible refine awp_reg ?_); intro K hK) | ((with_reducible refine hK _ ?_); clear hK K) | (with_reducible refine and_split ?_ ?_) | ((with_reducible refine sw_id ?_); simp (disch := first | decide | omega) only [↓pkS, pkW, pkA, undef, capsOf, ex, St.put, St.ev, kav, gdA, opI, rawI, vbin, srcOf, avsD, acsD, AV.toD, AC.toD, AV.nw, AC.nw, AC.one, Value.oneCell', fillA, D.one, D.ones, D.sz, D.szs, Nat.reduceAdd, Nat.reduceSub, Nat.reduceLeDiff, Nat.reduceEqDiff, reduceIte, pkN, pkF]) | (first | (with_reducible rfl) | (with_reducible refine fnok_id ?_; kernel_rfl) | exact el_strs _ | exact el_ints _ | exact el_ln _ | exact el_tk _ _ | exact el_td _ _ _ | omega | (simp; done) | (simp; omega)) | ((with_reducible refine args_id ?_); simp [ArgsOk, ArgOk, argsD, argD, AC.toD, Value.oneCell', sl_flat, leaf_flat, li_flat, ls_flat, sl_agg, leaf_agg, li_agg, ls_agg, mo_t, mo_f, pkF]; done))
      refine roundR (n + 1, far2, next, v2) [0, 2] ?_ hfin (show l.length + 2 - (n + 1) < l.length + 2 - n by omega)
      simp [StLeR, FrLeR, OwnLeR, BoxLeR, AV.ren, AC.ren, AV.fits, AC.fits, FB, mask]
  · obtain rfl : list = [] := List.eq_nil_of_length_eq_zero (by omega)
    have hfin := hI.fin hF hN
    rw [← hfin]
    repeat' (first | (with_reducible first | refine awp_seq ?_ | refine awp_block ?_ | refine awp_skip ?_ | refine awp_exit ?_ | refine awp_ret ?_ | refine athen ?_ | refine thenExit ?_ | refine thenRet ?_ | refine blockNormal ?_ | refine blockExit ?_ | refine blockRet ?_ | refine roundExit ?_ | refine roundRet ?_ | refine roundExitR ?_ | refine roundRetR ?_) | ((with_reducible refine blockPass ?_ ?_); rfl) | ((with_reducible refine awp_condT ?_ ?_); rfl) | ((with_reducible refine awp_condF ?_ ?_); rfl) | ((with_reducible refine awp_reg ?_); intro K hK) | ((with_reducible refine hK _ ?_); clear hK K) | (with_reducible refine and_split ?_ ?_) | ((with_reducible refine sw_id ?_); simp (disch := first | decide | omega) only [↓pkS, pkW, pkA, undef, capsOf, ex, St.put, St.ev, kav, gdA, opI, rawI, vbin, srcOf, avsD, acsD, AV.toD, AC.toD, AV.nw, AC.nw, AC.one, Value.oneCell', fillA, D.one, D.ones, D.sz, D.szs, Nat.reduceAdd, Nat.reduceSub, Nat.reduceLeDiff, Nat.reduceEqDiff, reduceIte, pkN, pkF]) | (first | (with_reducible rfl) | (with_reducible refine fnok_id ?_; kernel_rfl) | exact el_strs _ | exact el_ints _ | exact el_ln _ | exact el_tk _ _ | exact el_td _ _ _ | omega | (simp; done) | (simp; omega)) | ((with_reducible refine args_id ?_); simp [ArgsOk, ArgOk, argsD, argD, AC.toD, Value.oneCell', sl_flat, leaf_flat, li_flat, ls_flat, sl_agg, leaf_agg, li_agg, ls_agg, mo_t, mo_f, pkF]; done))
    exact endRet ⟨0, _, _, rfl, rfl, rfl, rfl, rfl, rfl, Or.inl rfl⟩
end Go.Proofs.YtkjodhljaehkjaaGreat

namespace Go.Proofs.YtkjodhljaehkjaaGreat
open Go.RowKit
set_option linter.unusedSimpArgs false
set_option linter.unusedVariables false
theorem wkL_nodup {f : Nat → List Nat} {i : Nat} (h1 : 1 ≤ dst f i i) : (wkL f i (dst f i i)).Nodup := by
  unfold wkL List.Nodup
  rw [List.pairwise_map]
  refine List.Pairwise.imp_of_mem ?_ (List.nodup_range (n := dst f i i))
  intro a b ha hb hne e
  rw [List.mem_range] at ha hb
  have ha' := (wk_dst h1 a ha).1
  have hb' := (wk_dst h1 b hb).1
  rw [e] at ha'
  omega
theorem dst_le_n {f : Nat → List Nat} {N i : Nat} (hF : ∀ u, ∀ v ∈ f u, v < N) (hi : i < N) (h1 : 1 ≤ dst f i i) : dst f i i ≤ N := by
  have := nodup_len (wkL_nodup h1) (wkL_lt hF hi h1 (Nat.le_refl _))
  rwa [wkL_len] at this
noncomputable def cyc (l : List GPart) (z : Int) : List Nat := if onC l z then wkL (du l) z.toNat (dst (du l) z.toNat z.toNat) else []
theorem onC_at {l : List GPart} {z : Int} (h : onC l z = true) : ∃ i : Nat, z = (i : Int) ∧ i < l.length ∧ 1 ≤ dst (du l) i i := by
  unfold onC at h
  obtain ⟨x, hx, rfl⟩ := hasI_iff.1 h
  obtain ⟨h1, h2⟩ := mem_cl.1 hx
  refine ⟨x, rfl, h1, (dst_pos (g := nrI l false) (fun k => ?_)).2 h2⟩
  rw [nrI_f, duI_nat]
theorem cyc_off {l : List GPart} {z : Int} (h : onC l z = false) : cyc l z = [] := by unfold cyc; rw [if_neg (by simp [h])]
theorem cyc_on {l : List GPart} {i : Nat} (h : onC l (i : Int) = true) : cyc l (i : Int) = wkL (du l) i (dst (du l) i i) := by unfold cyc; rw [if_pos h]; simp
theorem cyc_lt (l : List GPart) (z : Int) : ∀ x ∈ cyc l z, x < l.length := fun x hx => by
  cases h : onC l z with
  | false => rw [cyc_off h] at hx; cases hx
  | true =>
    obtain ⟨i, rfl, hi, h1⟩ := onC_at h
    rw [cyc_on h] at hx
    exact wkL_lt (du_lt l) hi h1 (Nat.le_refl _) x hx
theorem cyc_len (l : List GPart) (z : Int) : (cyc l z).length ≤ l.length := by
  cases h : onC l z with
  | false => rw [cyc_off h]; simp
  | true =>
    obtain ⟨i, rfl, hi, h1⟩ := onC_at h
    rw [cyc_on h, wkL_len]
    exact dst_le_n (du_lt l) hi h1
theorem fvI_pos {f : Nat → List Nat} {i : Nat} (h : 1 ≤ dst f i i) : fvI f i i = (dst f i i : Int) := by unfold fvI; rw [if_pos h]
theorem isN_t {f : Nat → List Nat} {i n k : Nat} (h1 : ¬ k = i) (h2 : fvI f i k = (n : Int) - 1) : isN f i n k = true := by simp [isN, h1, h2]
theorem isN_f1 {f : Nat → List Nat} {i n k : Nat} (h1 : k = i) : isN f i n k = false := by simp [isN, h1]
theorem isN_f2 {f : Nat → List Nat} {i n k : Nat} (h2 : ¬ fvI f i k = (n : Int) - 1) : isN f i n k = false := by simp [isN, h2]
def ic_thru_spec : IC := (.seq (.reg false [⟨(some 4), none, .mov (.k (.slice none 0 0))⟩]) (.seq (.reg false [⟨(some 11), none, .brow true 3 1 0 false []⟩, ⟨(some 5), none, .mov (.t 11)⟩]) (.seq (.seq (.reg false [⟨(some 12), none, .mov (.t 0)⟩, ⟨(some 13), none, .mov (.t 1)⟩, ⟨(some 14), none, .call 16 [(.t 12), (.t 13)]⟩, ⟨(some 15), none, .not (.t 14)⟩]) (.cond (.t 15) (.seq (.reg false [⟨(some 16), none, .mov (.t 5)⟩, ⟨(some 4), none, .mov (.t 16)⟩]) .ret) .skip)) (.seq (.reg false [⟨(some 17), none, .mov (.t 0)⟩, ⟨(some 18), none, .mov (.t 1)⟩, ⟨(some 19), none, .call 78 [(.t 17), (.t 18)]⟩, ⟨(some 6), none, .mov (.t 19)⟩]) (.seq (.reg false [⟨(some 20), none, .mov (.t 1)⟩, ⟨(some 7), none, .mov (.t 20)⟩]) (.seq (.seq (.reg false [⟨(some 21), none, .mov (.t 6)⟩, ⟨(some 22), none, .mov (.t 1)⟩, ⟨(some 23), none, .iad 1 (.t 21) (.t 22)⟩, ⟨(some 24), none, .load 1 false (.t 23)⟩, ⟨(some 8), none, .mov (.t 24)⟩]) (.block 0 (.loop (.seq (.seq (.reg false [⟨(some 25), none, .mov (.t 8)⟩, ⟨(some 26), none, .bin .gtr (.t 25) (.k (.int .i64 0))⟩]) (.cond (.t 26) .skip (.exit 0))) (.seq (.block 1 (.seq (.reg false [⟨(some 29), none, .mov (.t 5)⟩, ⟨(some 30), none, .mov (.t 7)⟩, ⟨(some 31), none, .brow false 3 1 1 false [(.t 30)]⟩, ⟨(some 32), none, .app 3 1 (.t 29) (.t 31)⟩, ⟨(some 5), none, .mov (.t 32)⟩]) (.seq (.reg false [⟨(some 33), none, .mov (.t 0)⟩, ⟨(some 34), none, .mov (.t 7)⟩, ⟨(some 35), none, .call 22 [(.t 33), (.t 34)]⟩, ⟨(some 9), none, .mov (.t 35)⟩]) (.seq (.reg false [⟨(some 10), none, .mov (.k (.int .i64 0))⟩]) (.block 2 (.loop (.seq (.seq (.reg false [⟨(some 36), none, .mov (.t 10)⟩, ⟨(some 37), none, .mov (.t 9)⟩, ⟨(some 38), none, .len false (.t 37)⟩, ⟨(some 39), none, .bin .lss (.t 36) (.t 38)⟩]) (.cond (.t 39) .skip (.exit 2))) (.seq (.block 3 (.seq (.reg false [⟨(some 42), none, .mov (.t 8)⟩, ⟨(some 43), none, .bin .eql (.t 42) (.k (.int .i64 1))⟩, ⟨(some 44), none, .mov (.t 43)⟩, ⟨(some 45), (some (44, true)), .mov (.t 9)⟩, ⟨(some 46), (some (44, true)), .mov (.t 10)⟩, ⟨(some 47), (some (44, true)), .iad 1 (.t 45) (.t 46)⟩, ⟨(some 48), (some (44, true)), .load 1 false (.t 47)⟩, ⟨(some 49), (some (44, true)), .mov (.t 1)⟩, ⟨(some 50), (some (44, true)), .bin .eql (.t 48) (.t 49)⟩, ⟨(some 51), none, .pick (.t 44) (.t 50) (.k (.bool false))⟩, ⟨(some 52), none, .mov (.t 51)⟩, ⟨(some 53), (some (52, false)), .mov (.t 8)⟩, ⟨(some 54), (some (52, false)), .bin .gtr (.t 53) (.k (.int .i64 1))⟩, ⟨(some 55), (some (52, false)), .mov (.t 54)⟩, ⟨(some 56), (some (55, true)), .mov (.t 9)⟩, ⟨(some 57), (some (55, true)), .mov (.t 10)⟩, ⟨(some 58), (some (55, true)), .iad 1 (.t 56) (.t 57)⟩, ⟨(some 59), (some (55, true)), .load 1 false (.t 58)⟩, ⟨(some 60), (some (55, true)), .mov (.t 1)⟩, ⟨(some 61), (some (55, true)), .bin .neq (.t 59) (.t 60)⟩, ⟨(some 62), (some (52, false)), .pick (.t 55) (.t 61) (.k (.bool false))⟩, ⟨(some 63), (some (52, false)), .mov (.t 62)⟩, ⟨(some 64), (some (63, true)), .mov (.t 6)⟩, ⟨(some 65), (some (63, true)), .mov (.t 9)⟩, ⟨(some 66), (some (63, true)), .mov (.t 10)⟩, ⟨(some 67), (some (63, true)), .iad 1 (.t 65) (.t 66)⟩, ⟨(some 68), (some (63, true)), .load 1 false (.t 67)⟩, ⟨(some 69), (some (63, true)), .iad 1 (.t 64) (.t 68)⟩, ⟨(some 70), (some (63, true)), .load 1 false (.t 69)⟩, ⟨(some 71), (some (63, true)), .mov (.t 8)⟩, ⟨(some 72), (some (63, true)), .bin .sub (.t 71) (.k (.int .i64 1))⟩, ⟨(some 73), (some (63, true)), .bin .eql (.t 70) (.t 72)⟩, ⟨(some 74), (some (52, false)), .pick (.t 63) (.t 73) (.k (.bool false))⟩, ⟨(some 75), none, .pick (.t 52) (.k (.bool true)) (.t 74)⟩]) (.cond (.t 75) (.seq (.reg false [⟨(some 76), none, .mov (.t 9)⟩, ⟨(some 77), none, .mov (.t 10)⟩, ⟨(some 78), none, .iad 1 (.t 76) (.t 77)⟩, ⟨(some 79), none, .load 1 false (.t 78)⟩, ⟨(some 7), none, .mov (.t 79)⟩]) (.exit 2)) .skip))) (.reg false [⟨(some 40), none, .mov (.t 10)⟩, ⟨(some 41), none, .bin .add (.t 40) (.k (.int .i64 1))⟩, ⟨(some 10), none, .mov (.t 41)⟩]))))))))) (.reg false [⟨(some 27), none, .mov (.t 8)⟩, ⟨(some 28), none, .bin .sub (.t 27) (.k (.int .i64 1))⟩, ⟨(some 8), none, .mov (.t 28)⟩])))))) (.seq (.reg false [⟨(some 80), none, .mov (.t 5)⟩, ⟨(some 4), none, .mov (.t 80)⟩]) .ret)))))))
theorem ic_thru_spec_ok : compC Tryz.prog (Tryz.f41.body.getD .skip) = some ic_thru_spec := by kernel_rfl
set_option maxHeartbeats 8000000 in
theorem cyc_spec_to (l : List GPart) (z : Int) (hw : l.length + D.wts (l.map GPart.toD) ≤ 1048576) : CallsOwn Tryz.prog 41 [.sl (l.map GPart.toD), li z] ((cyc l z).map ln) 3 1 := by
  have hn : l.length ≤ 1048576 := by omega
  cases hon : onC l z with
  | false =>
    rw [cyc_off hon]
    refine calls_own (fn := Tryz.f41) (t := 4) (by kernel_rfl) (by kernel_rfl) (by kernel_rfl) ic_thru_spec_ok ?_
    unfold ic_thru_spec
    change AWP _ _ _ (st0 81 _)
    simp only [undef, stS, st0, stN, D.av, D.avN, sl_agg, leaf_agg, li_agg, ls_agg, sl_acs, leaf_acs, li_acs, ls_acs, ln_acs, el_ln, getq_map, GPart.acs_eq, GPart.flat_eq, GPart.agg_eq, GPart.el, List.map_cons, List.map_nil, List.replicate, List.cons_append, List.nil_append, List.length_cons, List.length_nil, Nat.reduceAdd, Nat.reduceSub]
    repeat' (first | (with_reducible first | refine awp_seq ?_ | refine awp_block ?_ | refine awp_skip ?_ | refine awp_exit ?_ | refine awp_ret ?_ | refine athen ?_ | refine thenExit ?_ | refine thenRet ?_ | refine blockNormal ?_ | refine blockExit ?_ | refine blockRet ?_ | refine roundExit ?_ | refine roundRet ?_ | refine roundExitR ?_ | refine roundRetR ?_) | ((with_reducible refine blockPass ?_ ?_); rfl) | ((with_reducible refine awp_condT ?_ ?_); rfl) | ((with_reducible refine awp_condF ?_ ?_); rfl) | ((with_reducible refine awp_reg ?_); intro K hK) | ((with_reducible refine sw_guardT ?_ ?_); rfl) | ((with_reducible refine sw_guardF ?_ ?_); (rfl; try simp only [St.put, undef, pkA, Nat.reduceAdd, Nat.reduceSub, Nat.reduceLeDiff, Nat.reduceEqDiff])) | ((with_reducible refine hK _ ?_); clear hK K) | (with_reducible refine and_split ?_ ?_) | ((with_reducible refine ct_id ?_); first | (refine callThen (onCycle_spec_to l z hw) trivial ?_ ?_)) | ((with_reducible refine ctd_id ?_); first | (refine callThenD (onCycle_spec_to l z hw) trivial ?_ ?_)) | ((with_reducible refine sw_id ?_); simp (disch := first | decide | omega) only [↓pkS, pkW, pkA, undef, capsOf, ex, St.put, St.ev, kav, gdA, opI, rawI, vbin, srcOf, avsD, acsD, AV.toD, AC.toD, AV.nw, AC.nw, AC.one, Value.oneCell', fillA, D.one, D.ones, D.sz, D.szs, Nat.reduceAdd, Nat.reduceSub, Nat.reduceLeDiff, Nat.reduceEqDiff, reduceIte, pkN, pkF, hon]) | (first | (with_reducible rfl) | (with_reducible refine fnok_id ?_; kernel_rfl) | exact el_strs _ | exact el_ints _ | exact el_ln _ | exact el_tk _ _ | exact el_td _ _ _ | omega | (simp; done) | (simp; omega)) | ((with_reducible refine args_id ?_); simp [ArgsOk, ArgOk, argsD, argD, AC.toD, Value.oneCell', sl_flat, leaf_flat, li_flat, ls_flat, sl_agg, leaf_agg, li_agg, ls_agg, mo_t, mo_f, pkF, hon]; done))
    exact endRet ⟨0, _, _, rfl, rfl, rfl, rfl, rfl, rfl, Or.inl rfl⟩
  | true =>
  obtain ⟨i, rfl, hi, h1⟩ := onC_at hon
  rw [cyc_on hon]
  have hF := du_lt l
  have hdN := dst_le_n hF hi h1
  have hfar := far_spec_to l i hi hw
  have hfv := fvI_pos h1
  have hfat : ∀ u (h : u < (farL (du l) l.length i).length), (farL (du l) l.length i)[u] = fvI (du l) i u := fun u h => farL_at ..
  have hflen := farL_len (du l) l.length i
  have hwd := fun j (hj : j < dst (du l) i i) => wk_lt hF hi h1 (j := j) hj
  have hfo := fun j (hj : j + 1 < dst (du l) i i) => wk_found h1 hj
  have his := fun j k (hk : k < (du l (wk (du l) i j)).length) => wk_is (f := du l) (i := i) (j := j) hk
  obtain ⟨d, hd⟩ : ∃ d, dst (du l) i i = d := ⟨_, rfl⟩
  rw [hd] at h1 hdN hfv hwd hfo ⊢
  simp only [hd] at his
  obtain ⟨fl, hfl⟩ : ∃ fl, farL (du l) l.length i = fl := ⟨_, rfl⟩
  rw [hfl] at hfar hflen
  simp only [hfl] at hfat
  have hif : i < fl.length := by omega
  have hfi : fl[i] = (d : Int) := by rw [hfat i hif, hfv]
  clear hfv
  refine calls_own (fn := Tryz.f41) (t := 4) (by kernel_rfl) (by kernel_rfl) (by kernel_rfl) ic_thru_spec_ok ?_
  unfold ic_thru_spec
  change AWP _ _ _ (st0 81 _)
  simp only [undef, stS, st0, stN, D.av, D.avN, sl_agg, leaf_agg, li_agg, ls_agg, sl_acs, leaf_acs, li_acs, ls_acs, ln_acs, el_ln, getq_map, GPart.acs_eq, GPart.flat_eq, GPart.agg_eq, GPart.el, List.map_cons, List.map_nil, List.replicate, List.cons_append, List.nil_append, List.length_cons, List.length_nil, Nat.reduceAdd, Nat.reduceSub]
  repeat' (first | (with_reducible first | refine awp_seq ?_ | refine awp_block ?_ | refine awp_skip ?_ | refine awp_exit ?_ | refine awp_ret ?_ | refine athen ?_ | refine thenExit ?_ | refine thenRet ?_ | refine blockNormal ?_ | refine blockExit ?_ | refine blockRet ?_ | refine roundExit ?_ | refine roundRet ?_ | refine roundExitR ?_ | refine roundRetR ?_) | ((with_reducible refine blockPass ?_ ?_); rfl) | ((with_reducible refine awp_condT ?_ ?_); rfl) | ((with_reducible refine awp_condF ?_ ?_); rfl) | ((with_reducible refine awp_reg ?_); intro K hK) | ((with_reducible refine sw_guardT ?_ ?_); rfl) | ((with_reducible refine sw_guardF ?_ ?_); (rfl; try simp only [St.put, undef, pkA, Nat.reduceAdd, Nat.reduceSub, Nat.reduceLeDiff, Nat.reduceEqDiff])) | ((with_reducible refine hK _ ?_); clear hK K) | (with_reducible refine and_split ?_ ?_) | ((with_reducible refine ct_id ?_); first | (refine callThen (onCycle_spec_to l i hw) trivial ?_ ?_) | (refine callOwn hfar (el_ints _) ?_ ?_)) | ((with_reducible refine ctd_id ?_); first | (refine callThenD (onCycle_spec_to l i hw) trivial ?_ ?_)) | ((with_reducible refine sw_id ?_); simp (disch := first | decide | omega) only [↓pkS, pkW, pkA, undef, capsOf, ex, St.put, St.ev, kav, gdA, opI, rawI, vbin, srcOf, avsD, acsD, AV.toD, AC.toD, AV.nw, AC.nw, AC.one, Value.oneCell', fillA, D.one, D.ones, D.sz, D.szs, Nat.reduceAdd, Nat.reduceSub, Nat.reduceLeDiff, Nat.reduceEqDiff, reduceIte, pkN, pkF, hon, hfi]) | (first | (with_reducible rfl) | (with_reducible refine fnok_id ?_; kernel_rfl) | exact el_strs _ | exact el_ints _ | exact el_ln _ | exact el_tk _ _ | exact el_td _ _ _ | omega | (simp; done) | (simp; omega)) | ((with_reducible refine args_id ?_); simp [ArgsOk, ArgOk, argsD, argD, AC.toD, Value.oneCell', sl_flat, leaf_flat, li_flat, ls_flat, sl_agg, leaf_agg, li_agg, ls_agg, mo_t, mo_f, pkF, hon, hfi]; done))
  refine awp_loopB (X := Nat × Nat × Nat) (fun q => [.k, .k, .d, .d, .d, .v (.c false [.own 0 q.2.1]), .k, .v (.c false [.raw (.int .i64 (q.2.2 : Nat))]), .v (.c false [.raw (.int .i64 (d - q.1 : Nat))]), .d, .d, .d, .d, .d, .d, .d, .d, .d, .d, .d, .d, .d, .d, .d, .d, .d, .d, .d, .d, .d, .d, .d, .d, .d, .d, .d, .d, .d, .d, .d, .d, .d, .d, .d, .d, .d, .d, .d, .d, .d, .d, .d, .d, .d, .d, .d, .d, .d, .d, .d, .d, .d, .d, .d, .d, .d, .d, .d, .d, .d, .d, .d, .d, .d, .d, .d, .d, .d, .d, .d, .d]) (fun q => [⟨(wkL (du l) i q.1).map ln, 3, 1, q.2.1, true⟩, ⟨fl.map li, 3, 1, 0, true⟩]) (fun q bs => bs) (fun q => q.1 ≤ d ∧ (q.1 < d → q.2.2 = wk (du l) i q.1)) (fun q => d - q.1) (0, 0, i) ⟨Nat.zero_le _, fun _ => rfl⟩ ?_ ?_
  · simp [StLe', FrLe, OwnLe, BoxLe, AV.fits, AC.fits, FB, mask, wkL]
  rintro ⟨j, v, x⟩ ⟨hj, hx⟩
  simp only at hj hx
  have hwl := wkL_len (du l) i j
  simp only [FB, mask]
  by_cases hjd : j < d
  · obtain rfl := hx hjd
    have hwj := hwd j hjd
    have hdu := directUses_spec_to l ((wk (du l) i j : Nat) : Int) hw
    rw [duI_nat] at hdu
    have hul := du_len l (wk (du l) i j)
    have hub := du_lt l (wk (du l) i j)
    have hfoj := hfo j
    have hisj := his j
    obtain ⟨us, hus⟩ : ∃ us, du l (wk (du l) i j) = us := ⟨_, rfl⟩
    simp only [hus] at hfoj hisj
    rw [hus] at hdu hul hub
    have hsucc := wkL_succ (du l) i j
    repeat' (first | (with_reducible first | refine awp_seq ?_ | refine awp_block ?_ | refine awp_skip ?_ | refine awp_exit ?_ | refine awp_ret ?_ | refine athen ?_ | refine thenExit ?_ | refine thenRet ?_ | refine blockNormal ?_ | refine blockExit ?_ | refine blockRet ?_ | refine roundExit ?_ | refine roundRet ?_ | refine roundExitR ?_ | refine roundRetR ?_) | ((with_reducible refine blockPass ?_ ?_); rfl) | ((with_reducible refine awp_condT ?_ ?_); rfl) | ((with_reducible refine awp_condF ?_ ?_); rfl) | ((with_reducible refine awp_reg ?_); intro K hK) | ((with_reducible refine sw_guardT ?_ ?_); rfl) | ((with_reducible refine sw_guardF ?_ ?_); (rfl; try simp only [St.put, undef, pkA, Nat.reduceAdd, Nat.reduceSub, Nat.reduceLeDiff, Nat.reduceEqDiff])) | ((with_reducible refine hK _ ?_); clear hK K) | (with_reducible refine and_split ?_ ?_) | ((with_reducible refine ct_id ?_); first | (refine callOwn hdu (el_ln _) ?_ ?_)) | ((with_reducible refine sw_id ?_); simp (disch := first | decide | omega) only [↓pkS, pkW, pkA, undef, capsOf, ex, St.put, St.ev, kav, gdA, opI, rawI, vbin, srcOf, avsD, acsD, AV.toD, AC.toD, AV.nw, AC.nw, AC.one, Value.oneCell', fillA, D.one, D.ones, D.sz, D.szs, Nat.reduceAdd, Nat.reduceSub, Nat.reduceLeDiff, Nat.reduceEqDiff, reduceIte, pkN, pkF]) | (first | (with_reducible rfl) | (with_reducible refine fnok_id ?_; kernel_rfl) | exact el_strs _ | exact el_ints _ | exact el_ln _ | exact el_tk _ _ | exact el_td _ _ _ | omega | (simp; done) | (simp; omega)) | ((with_reducible refine args_id ?_); simp [ArgsOk, ArgOk, argsD, argD, AC.toD, Value.oneCell', sl_flat, leaf_flat, li_flat, ls_flat, sl_agg, leaf_agg, li_agg, ls_agg, mo_t, mo_f, pkF]; done))
    by_cases hj1 : j + 1 < d
    · refine awp_loopB (X := Nat) (fun q => [.k, .k, .d, .d, .d, .k, .k, .v (.c false [.raw (.int .i64 (wk (du l) i j : Nat))]), .k, .k, .v (.c false [.raw (.int .i64 (q : Nat))]), .d, .d, .d, .d, .d, .d, .d, .d, .d, .d, .d, .d, .d, .d, .d, .d, .d, .d, .d, .d, .d, .d, .d, .d, .d, .d, .d, .d, .d, .d, .d, .d, .d, .d, .d, .d, .d, .d, .d, .d, .d, .d, .d, .d, .d, .d, .d, .d, .d, .d, .d, .d, .d, .d, .d, .d, .d, .d, .d, .d, .d, .d, .d, .d, .d, .d, .d, .d, .d, .d]) (fun q => [⟨(wkL (du l) i (j + 1)).map ln, 3, 1, v + 1, true⟩, ⟨fl.map li, 3, 1, 0, true⟩, ⟨us.map ln, 3, 1, 0, true⟩]) (fun q bs => bs) (fun q => q ≤ us.length ∧ ∀ m (hm : m < q) (h : m < us.length), isN (du l) i (d - j) us[m] = false) (fun q => us.length - q) 0 ⟨Nat.zero_le _, fun m hm => by omega⟩ ?_ ?_
      · simp [StLe', FrLe, OwnLe, BoxLe, AV.fits, AC.fits, FB, mask, hsucc, ln, li]
      rintro k ⟨hk, hno⟩
      simp only [FB, mask]
      by_cases hk2 : k < us.length
      · have hxl := hub us[k] (List.getElem_mem hk2)
        have hxf : us[k] < fl.length := by omega
        have hfx := hfat us[k] hxf
        by_cases e1 : us[k] = i
        · have hnn : ∀ m (hm : m < k + 1) (h : m < us.length), isN (du l) i (d - j) us[m] = false := fun m hm h => by
            rcases Nat.lt_or_ge m k with h' | h'
            · exact hno m h' h
            · obtain rfl : m = k := by omega
              exact isN_f1 e1
          repeat' (first | (with_reducible first | refine awp_seq ?_ | refine awp_block ?_ | refine awp_skip ?_ | refine awp_exit ?_ | refine awp_ret ?_ | refine athen ?_ | refine thenExit ?_ | refine thenRet ?_ | refine blockNormal ?_ | refine blockExit ?_ | refine blockRet ?_ | refine roundExit ?_ | refine roundRet ?_ | refine roundExitR ?_ | refine roundRetR ?_) | ((with_reducible refine blockPass ?_ ?_); rfl) | ((with_reducible refine awp_condT ?_ ?_); rfl) | ((with_reducible refine awp_condF ?_ ?_); rfl) | ((with_reducible refine awp_reg ?_); intro K hK) | ((with_reducible refine sw_guardT ?_ ?_); rfl) | ((with_reducible refine sw_guardF ?_ ?_); (rfl; try simp only [St.put, undef, pkA, Nat.reduceAdd, Nat.reduceSub, Nat.reduceLeDiff, Nat.reduceEqDiff])) | ((with_reducible refine hK _ ?_); clear hK K) | (with_reducible refine and_split ?_ ?_) | ((with_reducible refine sw_id ?_); simp (disch := first | decide | omega) only [↓pkS, pkW, pkA, undef, capsOf, ex, St.put, St.ev, kav, gdA, opI, rawI, vbin, srcOf, avsD, acsD, AV.toD, AC.toD, AV.nw, AC.nw, AC.one, Value.oneCell', fillA, D.one, D.ones, D.sz, D.szs, Nat.reduceAdd, Nat.reduceSub, Nat.reduceLeDiff, Nat.reduceEqDiff, reduceIte, pkN, pkF, hfx]) | (first | (with_reducible rfl) | (with_reducible refine fnok_id ?_; kernel_rfl) | exact el_strs _ | exact el_ints _ | exact el_ln _ | exact el_tk _ _ | exact el_td _ _ _ | omega | (simp; done) | (simp; omega)) | ((with_reducible refine args_id ?_); simp [ArgsOk, ArgOk, argsD, argD, AC.toD, Value.oneCell', sl_flat, leaf_flat, li_flat, ls_flat, sl_agg, leaf_agg, li_agg, ls_agg, mo_t, mo_f, pkF, hfx]; done))
          refine roundB (k + 1) ?_ ⟨by omega, hnn⟩ (show us.length - (k + 1) < us.length - k by omega)
          simp [StLe', FrLe, OwnLe, BoxLe, AV.fits, AC.fits, FB, mask]
        · by_cases e2 : fvI (du l) i us[k] = ((d - j : Nat) : Int) - 1
          · have hnx := hisj k hk2 (fun m hm => hno m hm (by omega)) (isN_t e1 e2)
            repeat' (first | (with_reducible first | refine awp_seq ?_ | refine awp_block ?_ | refine awp_skip ?_ | refine awp_exit ?_ | refine awp_ret ?_ | refine athen ?_ | refine thenExit ?_ | refine thenRet ?_ | refine blockNormal ?_ | refine blockExit ?_ | refine blockRet ?_ | refine roundExit ?_ | refine roundRet ?_ | refine roundExitR ?_ | refine roundRetR ?_) | ((with_reducible refine blockPass ?_ ?_); rfl) | ((with_reducible refine awp_condT ?_ ?_); rfl) | ((with_reducible refine awp_condF ?_ ?_); rfl) | ((with_reducible refine awp_reg ?_); intro K hK) | ((with_reducible refine sw_guardT ?_ ?_); rfl) | ((with_reducible refine sw_guardF ?_ ?_); (rfl; try simp only [St.put, undef, pkA, Nat.reduceAdd, Nat.reduceSub, Nat.reduceLeDiff, Nat.reduceEqDiff])) | ((with_reducible refine hK _ ?_); clear hK K) | (with_reducible refine and_split ?_ ?_) | ((with_reducible refine sw_id ?_); simp (disch := first | decide | omega) only [↓pkS, pkW, pkA, undef, capsOf, ex, St.put, St.ev, kav, gdA, opI, rawI, vbin, srcOf, avsD, acsD, AV.toD, AC.toD, AV.nw, AC.nw, AC.one, Value.oneCell', fillA, D.one, D.ones, D.sz, D.szs, Nat.reduceAdd, Nat.reduceSub, Nat.reduceLeDiff, Nat.reduceEqDiff, reduceIte, pkN, pkF, hfx]) | (first | (with_reducible rfl) | (with_reducible refine fnok_id ?_; kernel_rfl) | exact el_strs _ | exact el_ints _ | exact el_ln _ | exact el_tk _ _ | exact el_td _ _ _ | omega | (simp; done) | (simp; omega)) | ((with_reducible refine args_id ?_); simp [ArgsOk, ArgOk, argsD, argD, AC.toD, Value.oneCell', sl_flat, leaf_flat, li_flat, ls_flat, sl_agg, leaf_agg, li_agg, ls_agg, mo_t, mo_f, pkF, hfx]; done))
            refine roundB (j + 1, v + 1, us[k]) ?_ ⟨show j + 1 ≤ d by omega, fun _ => hnx.symm⟩ (show d - (j + 1) < d - j by omega)
            simp [StLe', FrLe, OwnLe, BoxLe, AV.fits, AC.fits, FB, mask]
            try omega
          · have hnn : ∀ m (hm : m < k + 1) (h : m < us.length), isN (du l) i (d - j) us[m] = false := fun m hm h => by
              rcases Nat.lt_or_ge m k with h' | h'
              · exact hno m h' h
              · obtain rfl : m = k := by omega
                exact isN_f2 e2
            repeat' (first | (with_reducible first | refine awp_seq ?_ | refine awp_block ?_ | refine awp_skip ?_ | refine awp_exit ?_ | refine awp_ret ?_ | refine athen ?_ | refine thenExit ?_ | refine thenRet ?_ | refine blockNormal ?_ | refine blockExit ?_ | refine blockRet ?_ | refine roundExit ?_ | refine roundRet ?_ | refine roundExitR ?_ | refine roundRetR ?_) | ((with_reducible refine blockPass ?_ ?_); rfl) | ((with_reducible refine awp_condT ?_ ?_); rfl) | ((with_reducible refine awp_condF ?_ ?_); rfl) | ((with_reducible refine awp_reg ?_); intro K hK) | ((with_reducible refine sw_guardT ?_ ?_); rfl) | ((with_reducible refine sw_guardF ?_ ?_); (rfl; try simp only [St.put, undef, pkA, Nat.reduceAdd, Nat.reduceSub, Nat.reduceLeDiff, Nat.reduceEqDiff])) | ((with_reducible refine hK _ ?_); clear hK K) | (with_reducible refine and_split ?_ ?_) | ((with_reducible refine sw_id ?_); simp (disch := first | decide | omega) only [↓pkS, pkW, pkA, undef, capsOf, ex, St.put, St.ev, kav, gdA, opI, rawI, vbin, srcOf, avsD, acsD, AV.toD, AC.toD, AV.nw, AC.nw, AC.one, Value.oneCell', fillA, D.one, D.ones, D.sz, D.szs, Nat.reduceAdd, Nat.reduceSub, Nat.reduceLeDiff, Nat.reduceEqDiff, reduceIte, pkN, pkF, hfx]) | (first | (with_reducible rfl) | (with_reducible refine fnok_id ?_; kernel_rfl) | exact el_strs _ | exact el_ints _ | exact el_ln _ | exact el_tk _ _ | exact el_td _ _ _ | omega | (simp; done) | (simp; omega)) | ((with_reducible refine args_id ?_); simp [ArgsOk, ArgOk, argsD, argD, AC.toD, Value.oneCell', sl_flat, leaf_flat, li_flat, ls_flat, sl_agg, leaf_agg, li_agg, ls_agg, mo_t, mo_f, pkF, hfx]; done))
            refine roundB (k + 1) ?_ ⟨by omega, hnn⟩ (show us.length - (k + 1) < us.length - k by omega)
            simp [StLe', FrLe, OwnLe, BoxLe, AV.fits, AC.fits, FB, mask]
      · obtain rfl : k = us.length := by omega
        exact (hfoj hj1 (fun m hm => hno m hm hm)).elim
    · refine awp_loopB (X := Nat) (fun q => [.k, .k, .d, .d, .d, .k, .k, .v (.c false [.raw (.int .i64 (wk (du l) i j : Nat))]), .k, .k, .v (.c false [.raw (.int .i64 (q : Nat))]), .d, .d, .d, .d, .d, .d, .d, .d, .d, .d, .d, .d, .d, .d, .d, .d, .d, .d, .d, .d, .d, .d, .d, .d, .d, .d, .d, .d, .d, .d, .d, .d, .d, .d, .d, .d, .d, .d, .d, .d, .d, .d, .d, .d, .d, .d, .d, .d, .d, .d, .d, .d, .d, .d, .d, .d, .d, .d, .d, .d, .d, .d, .d, .d, .d, .d, .d, .d, .d, .d]) (fun q => [⟨(wkL (du l) i (j + 1)).map ln, 3, 1, v + 1, true⟩, ⟨fl.map li, 3, 1, 0, true⟩, ⟨us.map ln, 3, 1, 0, true⟩]) (fun q bs => bs) (fun q => q ≤ us.length) (fun q => us.length - q) 0 (Nat.zero_le _) ?_ ?_
      · simp [StLe', FrLe, OwnLe, BoxLe, AV.fits, AC.fits, FB, mask, hsucc, ln, li]
      rintro k hk
      have hk' : k ≤ us.length := hk
      clear hk
      simp only [FB, mask]
      by_cases hk2 : k < us.length
      · have hxl := hub us[k] (List.getElem_mem hk2)
        have hxf : us[k] < fl.length := by omega
        have hfx := hfat us[k] hxf
        by_cases e1 : us[k] = i
        · repeat' (first | (with_reducible first | refine awp_seq ?_ | refine awp_block ?_ | refine awp_skip ?_ | refine awp_exit ?_ | refine awp_ret ?_ | refine athen ?_ | refine thenExit ?_ | refine thenRet ?_ | refine blockNormal ?_ | refine blockExit ?_ | refine blockRet ?_ | refine roundExit ?_ | refine roundRet ?_ | refine roundExitR ?_ | refine roundRetR ?_) | ((with_reducible refine blockPass ?_ ?_); rfl) | ((with_reducible refine awp_condT ?_ ?_); rfl) | ((with_reducible refine awp_condF ?_ ?_); rfl) | ((with_reducible refine awp_reg ?_); intro K hK) | ((with_reducible refine sw_guardT ?_ ?_); rfl) | ((with_reducible refine sw_guardF ?_ ?_); (rfl; try simp only [St.put, undef, pkA, Nat.reduceAdd, Nat.reduceSub, Nat.reduceLeDiff, Nat.reduceEqDiff])) | ((with_reducible refine hK _ ?_); clear hK K) | (with_reducible refine and_split ?_ ?_) | ((with_reducible refine sw_id ?_); simp (disch := first | decide | omega) only [↓pkS, pkW, pkA, undef, capsOf, ex, St.put, St.ev, kav, gdA, opI, rawI, vbin, srcOf, avsD, acsD, AV.toD, AC.toD, AV.nw, AC.nw, AC.one, Value.oneCell', fillA, D.one, D.ones, D.sz, D.szs, Nat.reduceAdd, Nat.reduceSub, Nat.reduceLeDiff, Nat.reduceEqDiff, reduceIte, pkN, pkF, hfx]) | (first | (with_reducible rfl) | (with_reducible refine fnok_id ?_; kernel_rfl) | exact el_strs _ | exact el_ints _ | exact el_ln _ | exact el_tk _ _ | exact el_td _ _ _ | omega | (simp; done) | (simp; omega)) | ((with_reducible refine args_id ?_); simp [ArgsOk, ArgOk, argsD, argD, AC.toD, Value.oneCell', sl_flat, leaf_flat, li_flat, ls_flat, sl_agg, leaf_agg, li_agg, ls_agg, mo_t, mo_f, pkF, hfx]; done))
          refine roundB (j + 1, v + 1, us[k]) ?_ ⟨show j + 1 ≤ d by omega, fun h => absurd h hj1⟩ (show d - (j + 1) < d - j by omega)
          simp [StLe', FrLe, OwnLe, BoxLe, AV.fits, AC.fits, FB, mask]
          try omega
        · repeat' (first | (with_reducible first | refine awp_seq ?_ | refine awp_block ?_ | refine awp_skip ?_ | refine awp_exit ?_ | refine awp_ret ?_ | refine athen ?_ | refine thenExit ?_ | refine thenRet ?_ | refine blockNormal ?_ | refine blockExit ?_ | refine blockRet ?_ | refine roundExit ?_ | refine roundRet ?_ | refine roundExitR ?_ | refine roundRetR ?_) | ((with_reducible refine blockPass ?_ ?_); rfl) | ((with_reducible refine awp_condT ?_ ?_); rfl) | ((with_reducible refine awp_condF ?_ ?_); rfl) | ((with_reducible refine awp_reg ?_); intro K hK) | ((with_reducible refine sw_guardT ?_ ?_); rfl) | ((with_reducible refine sw_guardF ?_ ?_); (rfl; try simp only [St.put, undef, pkA, Nat.reduceAdd, Nat.reduceSub, Nat.reduceLeDiff, Nat.reduceEqDiff])) | ((with_reducible refine hK _ ?_); clear hK K) | (with_reducible refine and_split ?_ ?_) | ((with_reducible refine sw_id ?_); simp (disch := first | decide | omega) only [↓pkS, pkW, pkA, undef, capsOf, ex, St.put, St.ev, kav, gdA, opI, rawI, vbin, srcOf, avsD, acsD, AV.toD, AC.toD, AV.nw, AC.nw, AC.one, Value.oneCell', fillA, D.one, D.ones, D.sz, D.szs, Nat.reduceAdd, Nat.reduceSub, Nat.reduceLeDiff, Nat.reduceEqDiff, reduceIte, pkN, pkF, hfx]) | (first | (with_reducible rfl) | (with_reducible refine fnok_id ?_; kernel_rfl) | exact el_strs _ | exact el_ints _ | exact el_ln _ | exact el_tk _ _ | exact el_td _ _ _ | omega | (simp; done) | (simp; omega)) | ((with_reducible refine args_id ?_); simp [ArgsOk, ArgOk, argsD, argD, AC.toD, Value.oneCell', sl_flat, leaf_flat, li_flat, ls_flat, sl_agg, leaf_agg, li_agg, ls_agg, mo_t, mo_f, pkF, hfx]; done))
          refine roundB (k + 1) ?_ (show k + 1 ≤ us.length by omega) (show us.length - (k + 1) < us.length - k by omega)
          simp [StLe', FrLe, OwnLe, BoxLe, AV.fits, AC.fits, FB, mask]
      · obtain rfl : k = us.length := by omega
        repeat' (first | (with_reducible first | refine awp_seq ?_ | refine awp_block ?_ | refine awp_skip ?_ | refine awp_exit ?_ | refine awp_ret ?_ | refine athen ?_ | refine thenExit ?_ | refine thenRet ?_ | refine blockNormal ?_ | refine blockExit ?_ | refine blockRet ?_ | refine roundExit ?_ | refine roundRet ?_ | refine roundExitR ?_ | refine roundRetR ?_) | ((with_reducible refine blockPass ?_ ?_); rfl) | ((with_reducible refine awp_condT ?_ ?_); rfl) | ((with_reducible refine awp_condF ?_ ?_); rfl) | ((with_reducible refine awp_reg ?_); intro K hK) | ((with_reducible refine sw_guardT ?_ ?_); rfl) | ((with_reducible refine sw_guardF ?_ ?_); (rfl; try simp only [St.put, undef, pkA, Nat.reduceAdd, Nat.reduceSub, Nat.reduceLeDiff, Nat.reduceEqDiff])) | ((with_reducible refine hK _ ?_); clear hK K) | (with_reducible refine and_split ?_ ?_) | ((with_reducible refine ct_id ?_); first | (refine callThen (onCycle_spec_to l i hw) trivial ?_ ?_) | (refine callOwn hfar (el_ints _) ?_ ?_)) | ((with_reducible refine ctd_id ?_); first | (refine callThenD (onCycle_spec_to l i hw) trivial ?_ ?_)) | ((with_reducible refine sw_id ?_); simp (disch := first | decide | omega) only [↓pkS, pkW, pkA, undef, capsOf, ex, St.put, St.ev, kav, gdA, opI, rawI, vbin, srcOf, avsD, acsD, AV.toD, AC.toD, AV.nw, AC.nw, AC.one, Value.oneCell', fillA, D.one, D.ones, D.sz, D.szs, Nat.reduceAdd, Nat.reduceSub, Nat.reduceLeDiff, Nat.reduceEqDiff, reduceIte, pkN, pkF, hon, hfi]) | (first | (with_reducible rfl) | (with_reducible refine fnok_id ?_; kernel_rfl) | exact el_strs _ | exact el_ints _ | exact el_ln _ | exact el_tk _ _ | exact el_td _ _ _ | omega | (simp; done) | (simp; omega)) | ((with_reducible refine args_id ?_); simp [ArgsOk, ArgOk, argsD, argD, AC.toD, Value.oneCell', sl_flat, leaf_flat, li_flat, ls_flat, sl_agg, leaf_agg, li_agg, ls_agg, mo_t, mo_f, pkF, hon, hfi]; done))
        refine roundB (j + 1, v + 1, wk (du l) i j) ?_ ⟨show j + 1 ≤ d by omega, fun h => absurd h hj1⟩ (show d - (j + 1) < d - j by omega)
        simp [StLe', FrLe, OwnLe, BoxLe, AV.fits, AC.fits, FB, mask]
        try omega
  · obtain rfl : j = d := by omega
    repeat' (first | (with_reducible first | refine awp_seq ?_ | refine awp_block ?_ | refine awp_skip ?_ | refine awp_exit ?_ | refine awp_ret ?_ | refine athen ?_ | refine thenExit ?_ | refine thenRet ?_ | refine blockNormal ?_ | refine blockExit ?_ | refine blockRet ?_ | refine roundExit ?_ | refine roundRet ?_ | refine roundExitR ?_ | refine roundRetR ?_) | ((with_reducible refine blockPass ?_ ?_); rfl) | ((with_reducible refine awp_condT ?_ ?_); rfl) | ((with_reducible refine awp_condF ?_ ?_); rfl) | ((with_reducible refine awp_reg ?_); intro K hK) | ((with_reducible refine sw_guardT ?_ ?_); rfl) | ((with_reducible refine sw_guardF ?_ ?_); (rfl; try simp only [St.put, undef, pkA, Nat.reduceAdd, Nat.reduceSub, Nat.reduceLeDiff, Nat.reduceEqDiff])) | ((with_reducible refine hK _ ?_); clear hK K) | (with_reducible refine and_split ?_ ?_) | ((with_reducible refine ct_id ?_); first | (refine callThen (onCycle_spec_to l i hw) trivial ?_ ?_) | (refine callOwn hfar (el_ints _) ?_ ?_)) | ((with_reducible refine ctd_id ?_); first | (refine callThenD (onCycle_spec_to l i hw) trivial ?_ ?_)) | ((with_reducible refine sw_id ?_); simp (disch := first | decide | omega) only [↓pkS, pkW, pkA, undef, capsOf, ex, St.put, St.ev, kav, gdA, opI, rawI, vbin, srcOf, avsD, acsD, AV.toD, AC.toD, AV.nw, AC.nw, AC.one, Value.oneCell', fillA, D.one, D.ones, D.sz, D.szs, Nat.reduceAdd, Nat.reduceSub, Nat.reduceLeDiff, Nat.reduceEqDiff, reduceIte, pkN, pkF, hon, hfi]) | (first | (with_reducible rfl) | (with_reducible refine fnok_id ?_; kernel_rfl) | exact el_strs _ | exact el_ints _ | exact el_ln _ | exact el_tk _ _ | exact el_td _ _ _ | omega | (simp; done) | (simp; omega)) | ((with_reducible refine args_id ?_); simp [ArgsOk, ArgOk, argsD, argD, AC.toD, Value.oneCell', sl_flat, leaf_flat, li_flat, ls_flat, sl_agg, leaf_agg, li_agg, ls_agg, mo_t, mo_f, pkF, hon, hfi]; done))
    exact endRet ⟨0, _, _, rfl, rfl, rfl, rfl, rfl, rfl, Or.inl rfl⟩
def ic_thru_impl : IC := (.seq (.reg false [⟨(some 4), none, .mov (.k (.slice none 0 0))⟩]) (.seq (.seq (.reg false [⟨(some 10), none, .mov (.t 0)⟩, ⟨(some 11), none, .mov (.t 1)⟩, ⟨(some 12), none, .call 18 [(.t 10), (.t 11)]⟩, ⟨(some 13), none, .not (.t 12)⟩]) (.cond (.t 13) (.seq (.reg false [⟨(some 4), none, .mov (.k (.slice none 0 0))⟩]) .ret) .skip)) (.seq (.reg false [⟨(some 14), none, .mov (.t 0)⟩, ⟨(some 15), none, .mov (.t 1)⟩, ⟨(some 16), none, .call 79 [(.t 14), (.t 15)]⟩, ⟨(some 5), none, .mov (.t 16)⟩]) (.seq (.reg false [⟨(some 17), none, .mov (.t 1)⟩, ⟨(some 18), none, .brow true 3 1 1 false [(.t 17)]⟩, ⟨(some 6), none, .mov (.t 18)⟩]) (.seq (.seq (.reg false [⟨(some 19), none, .mov (.t 5)⟩, ⟨(some 20), none, .mov (.t 1)⟩, ⟨(some 21), none, .iad 1 (.t 19) (.t 20)⟩, ⟨(some 22), none, .load 1 false (.t 21)⟩, ⟨(some 7), none, .mov (.t 22)⟩]) (.block 0 (.loop (.seq (.seq (.reg false [⟨(some 23), none, .mov (.t 7)⟩, ⟨(some 24), none, .bin .gtr (.t 23) (.k (.int .i64 1))⟩]) (.cond (.t 24) .skip (.exit 0))) (.seq (.block 1 (.seq (.reg false [⟨(some 27), none, .mov (.t 0)⟩, ⟨(some 28), none, .mov (.t 6)⟩, ⟨(some 29), none, .mov (.t 6)⟩, ⟨(some 30), none, .len false (.t 29)⟩, ⟨(some 31), none, .bin .sub (.t 30) (.k (.int .i64 1))⟩, ⟨(some 32), none, .iad 1 (.t 28) (.t 31)⟩, ⟨(some 33), none, .load 1 false (.t 32)⟩, ⟨(some 34), none, .call 23 [(.t 27), (.t 33)]⟩, ⟨(some 35), none, .len false (.t 34)⟩, ⟨(some 36), none, .mov (.k (.int .i64 0))⟩]) (.block 2 (.loop (.seq (.reg false [⟨(some 37), none, .bin .lss (.t 36) (.t 35)⟩]) (.seq (.cond (.t 37) .skip (.exit 2)) (.seq (.block 3 (.seq (.reg false [⟨(some 38), none, .iad 1 (.t 34) (.t 36)⟩, ⟨(some 39), none, .load 1 false (.t 38)⟩, ⟨(some 9), none, .mov (.t 39)⟩]) (.seq (.reg false [⟨(some 40), none, .mov (.t 9)⟩, ⟨(some 41), none, .mov (.t 1)⟩, ⟨(some 42), none, .bin .neq (.t 40) (.t 41)⟩, ⟨(some 43), none, .mov (.t 42)⟩, ⟨(some 44), (some (43, true)), .mov (.t 5)⟩, ⟨(some 45), (some (43, true)), .mov (.t 9)⟩, ⟨(some 46), (some (43, true)), .iad 1 (.t 44) (.t 45)⟩, ⟨(some 47), (some (43, true)), .load 1 false (.t 46)⟩, ⟨(some 48), (some (43, true)), .mov (.t 7)⟩, ⟨(some 49), (some (43, true)), .bin .sub (.t 48) (.k (.int .i64 1))⟩, ⟨(some 50), (some (43, true)), .bin .eql (.t 47) (.t 49)⟩, ⟨(some 51), none, .pick (.t 43) (.t 50) (.k (.bool false))⟩]) (.cond (.t 51) (.seq (.reg false [⟨(some 52), none, .mov (.t 6)⟩, ⟨(some 53), none, .mov (.t 9)⟩, ⟨(some 54), none, .brow false 3 1 1 false [(.t 53)]⟩, ⟨(some 55), none, .app 3 1 (.t 52) (.t 54)⟩, ⟨(some 6), none, .mov (.t 55)⟩]) (.exit 2)) .skip)))) (.reg false [⟨(some 56), none, .bin .add (.t 36) (.k (.int .i64 1))⟩, ⟨(some 36), none, .mov (.t 56)⟩])))))))) (.reg false [⟨(some 25), none, .mov (.t 7)⟩, ⟨(some 26), none, .bin .sub (.t 25) (.k (.int .i64 1))⟩, ⟨(some 7), none, .mov (.t 26)⟩])))))) (.seq (.reg false [⟨(some 57), none, .mov (.t 6)⟩, ⟨(some 4), none, .mov (.t 57)⟩]) .ret))))))
theorem ic_thru_impl_ok : compC Tryz.prog (Tryz.f42.body.getD .skip) = some ic_thru_impl := by kernel_rfl
set_option maxHeartbeats 8000000 in
theorem cyc_impl_to (l : List GPart) (z : Int) (hw : l.length + D.wts (l.map GPart.toD) ≤ 1048576) : CallsOwn Tryz.prog 42 [.sl (l.map GPart.toD), li z] ((cyc l z).map ln) 3 1 := by
  have hn : l.length ≤ 1048576 := by omega
  cases hon : onC l z with
  | false =>
    rw [cyc_off hon]
    refine calls_ownN (fn := Tryz.f42) (t := 4) (by kernel_rfl) (by kernel_rfl) (by kernel_rfl) ic_thru_impl_ok ?_
    unfold ic_thru_impl
    change AWP _ _ _ (st0 58 _)
    simp only [undef, stS, st0, stN, D.av, D.avN, sl_agg, leaf_agg, li_agg, ls_agg, sl_acs, leaf_acs, li_acs, ls_acs, ln_acs, el_ln, getq_map, GPart.acs_eq, GPart.flat_eq, GPart.agg_eq, GPart.el, List.map_cons, List.map_nil, List.replicate, List.cons_append, List.nil_append, List.length_cons, List.length_nil, Nat.reduceAdd, Nat.reduceSub]
    repeat' (first | (with_reducible first | refine awp_seq ?_ | refine awp_block ?_ | refine awp_skip ?_ | refine awp_exit ?_ | refine awp_ret ?_ | refine athen ?_ | refine thenExit ?_ | refine thenRet ?_ | refine blockNormal ?_ | refine blockExit ?_ | refine blockRet ?_ | refine roundExit ?_ | refine roundRet ?_ | refine roundExitR ?_ | refine roundRetR ?_) | ((with_reducible refine blockPass ?_ ?_); rfl) | ((with_reducible refine awp_condT ?_ ?_); rfl) | ((with_reducible refine awp_condF ?_ ?_); rfl) | ((with_reducible refine awp_reg ?_); intro K hK) | ((with_reducible refine sw_guardT ?_ ?_); rfl) | ((with_reducible refine sw_guardF ?_ ?_); (rfl; try simp only [St.put, undef, pkA, Nat.reduceAdd, Nat.reduceSub, Nat.reduceLeDiff, Nat.reduceEqDiff])) | ((with_reducible refine hK _ ?_); clear hK K) | (with_reducible refine and_split ?_ ?_) | ((with_reducible refine ct_id ?_); first | (refine callThen (onCycle_impl_to l z hw) trivial ?_ ?_)) | ((with_reducible refine ctd_id ?_); first | (refine callThenD (onCycle_impl_to l z hw) trivial ?_ ?_)) | ((with_reducible refine sw_id ?_); simp (disch := first | decide | omega) only [↓pkS, pkW, pkA, undef, capsOf, ex, St.put, St.ev, kav, gdA, opI, rawI, vbin, srcOf, avsD, acsD, AV.toD, AC.toD, AV.nw, AC.nw, AC.one, Value.oneCell', fillA, D.one, D.ones, D.sz, D.szs, Nat.reduceAdd, Nat.reduceSub, Nat.reduceLeDiff, Nat.reduceEqDiff, reduceIte, pkN, pkF, hon]) | (first | (with_reducible rfl) | (with_reducible refine fnok_id ?_; kernel_rfl) | exact el_strs _ | exact el_ints _ | exact el_ln _ | exact el_tk _ _ | exact el_td _ _ _ | omega | (simp; done) | (simp; omega)) | ((with_reducible refine args_id ?_); simp [ArgsOk, ArgOk, argsD, argD, AC.toD, Value.oneCell', sl_flat, leaf_flat, li_flat, ls_flat, sl_agg, leaf_agg, li_agg, ls_agg, mo_t, mo_f, pkF, hon]; done))
    exact endRet (Or.inr ⟨rfl, rfl⟩)
  | true =>
  obtain ⟨i, rfl, hi, h1⟩ := onC_at hon
  rw [cyc_on hon]
  have hF := du_lt l
  have hdN := dst_le_n hF hi h1
  have hfar := far_impl_to l i hi hw
  have hfv := fvI_pos h1
  have hfat : ∀ u (h : u < (farL (du l) l.length i).length), (farL (du l) l.length i)[u] = fvI (du l) i u := fun u h => farL_at ..
  have hflen := farL_len (du l) l.length i
  have hwd := fun j (hj : j < dst (du l) i i) => wk_lt hF hi h1 (j := j) hj
  have hfo := fun j (hj : j + 1 < dst (du l) i i) => wk_found h1 hj
  have his := fun j k (hk : k < (du l (wk (du l) i j)).length) => wk_is (f := du l) (i := i) (j := j) hk
  obtain ⟨d, hd⟩ : ∃ d, dst (du l) i i = d := ⟨_, rfl⟩
  rw [hd] at h1 hdN hfv hwd hfo ⊢
  simp only [hd] at his
  obtain ⟨fl, hfl⟩ : ∃ fl, farL (du l) l.length i = fl := ⟨_, rfl⟩
  rw [hfl] at hfar hflen
  simp only [hfl] at hfat
  have hif : i < fl.length := by omega
  have hfi : fl[i] = (d : Int) := by rw [hfat i hif, hfv]
  clear hfv
  refine calls_ownN (fn := Tryz.f42) (t := 4) (by kernel_rfl) (by kernel_rfl) (by kernel_rfl) ic_thru_impl_ok ?_
  unfold ic_thru_impl
  change AWP _ _ _ (st0 58 _)
  simp only [undef, stS, st0, stN, D.av, D.avN, sl_agg, leaf_agg, li_agg, ls_agg, sl_acs, leaf_acs, li_acs, ls_acs, ln_acs, el_ln, getq_map, GPart.acs_eq, GPart.flat_eq, GPart.agg_eq, GPart.el, List.map_cons, List.map_nil, List.replicate, List.cons_append, List.nil_append, List.length_cons, List.length_nil, Nat.reduceAdd, Nat.reduceSub]
  repeat' (first | (with_reducible first | refine awp_seq ?_ | refine awp_block ?_ | refine awp_skip ?_ | refine awp_exit ?_ | refine awp_ret ?_ | refine athen ?_ | refine thenExit ?_ | refine thenRet ?_ | refine blockNormal ?_ | refine blockExit ?_ | refine blockRet ?_ | refine roundExit ?_ | refine roundRet ?_ | refine roundExitR ?_ | refine roundRetR ?_) | ((with_reducible refine blockPass ?_ ?_); rfl) | ((with_reducible refine awp_condT ?_ ?_); rfl) | ((with_reducible refine awp_condF ?_ ?_); rfl) | ((with_reducible refine awp_reg ?_); intro K hK) | ((with_reducible refine sw_guardT ?_ ?_); rfl) | ((with_reducible refine sw_guardF ?_ ?_); (rfl; try simp only [St.put, undef, pkA, Nat.reduceAdd, Nat.reduceSub, Nat.reduceLeDiff, Nat.reduceEqDiff])) | ((with_reducible refine hK _ ?_); clear hK K) | (with_reducible refine and_split ?_ ?_) | ((with_reducible refine ct_id ?_); first | (refine callThen (onCycle_impl_to l i hw) trivial ?_ ?_) | (refine callOwn hfar (el_ints _) ?_ ?_)) | ((with_reducible refine ctd_id ?_); first | (refine callThenD (onCycle_impl_to l i hw) trivial ?_ ?_)) | ((with_reducible refine sw_id ?_); simp (disch := first | decide | omega) only [↓pkS, pkW, pkA, undef, capsOf, ex, St.put, St.ev, kav, gdA, opI, rawI, vbin, srcOf, avsD, acsD, AV.toD, AC.toD, AV.nw, AC.nw, AC.one, Value.oneCell', fillA, D.one, D.ones, D.sz, D.szs, Nat.reduceAdd, Nat.reduceSub, Nat.reduceLeDiff, Nat.reduceEqDiff, reduceIte, pkN, pkF, hon, hfi]) | (first | (with_reducible rfl) | (with_reducible refine fnok_id ?_; kernel_rfl) | exact el_strs _ | exact el_ints _ | exact el_ln _ | exact el_tk _ _ | exact el_td _ _ _ | omega | (simp; done) | (simp; omega)) | ((with_reducible refine args_id ?_); simp [ArgsOk, ArgOk, argsD, argD, AC.toD, Value.oneCell', sl_flat, leaf_flat, li_flat, ls_flat, sl_agg, leaf_agg, li_agg, ls_agg, mo_t, mo_f, pkF, hon, hfi]; done))
  refine awp_loopB (X := Nat × Nat) (fun q => [.k, .k, .d, .d, .d, .k, .v (.c false [.own 1 q.2]), .v (.c false [.raw (.int .i64 (d - q.1 : Nat))]), .d, .d, .d, .d, .d, .d, .d, .d, .d, .d, .d, .d, .d, .d, .d, .d, .d, .d, .d, .d, .d, .d, .d, .d, .d, .d, .d, .d, .d, .d, .d, .d, .d, .d, .d, .d, .d, .d, .d, .d, .d, .d, .d, .d, .d, .d, .d, .d, .d, .d]) (fun q => [⟨fl.map li, 3, 1, 0, true⟩, ⟨(wkL (du l) i (q.1 + 1)).map ln, 3, 1, q.2, true⟩]) (fun q bs => bs) (fun q => q.1 + 1 ≤ d) (fun q => d - q.1) (0, 0) h1 ?_ ?_
  · simp [StLe', FrLe, OwnLe, BoxLe, AV.fits, AC.fits, FB, mask, wkL, wk, ln, li]
  rintro ⟨j, v⟩ hj
  simp only at hj
  have hwl := wkL_len (du l) i (j + 1)
  have hwa := wkL_at (du l) i (j + 1) j (by omega)
  simp only [FB, mask]
  by_cases hj1 : j + 1 < d
  · have hwj := hwd j (by omega)
    have hdu := directUses_impl_to l ((wk (du l) i j : Nat) : Int) hw
    rw [duI_nat] at hdu
    have hul := du_len l (wk (du l) i j)
    have hub := du_lt l (wk (du l) i j)
    have hfoj := hfo j
    have hisj := his j
    obtain ⟨us, hus⟩ : ∃ us, du l (wk (du l) i j) = us := ⟨_, rfl⟩
    simp only [hus] at hfoj hisj
    rw [hus] at hdu hul hub
    have hsucc := wkL_succ (du l) i (j + 1)
    have hz : (((wkL (du l) i (j + 1)).length : Int) - 1) = (j : Int) := by omega
    have hjl : j < (wkL (du l) i (j + 1)).length := by omega
    obtain ⟨w, hw0⟩ : ∃ w, wkL (du l) i (j + 1) = w := ⟨_, rfl⟩
    simp only [hw0] at hwl hwa hsucc hz hjl ⊢
    repeat' (first | (with_reducible first | refine awp_seq ?_ | refine awp_block ?_ | refine awp_skip ?_ | refine awp_exit ?_ | refine awp_ret ?_ | refine athen ?_ | refine thenExit ?_ | refine thenRet ?_ | refine blockNormal ?_ | refine blockExit ?_ | refine blockRet ?_ | refine roundExit ?_ | refine roundRet ?_ | refine roundExitR ?_ | refine roundRetR ?_) | ((with_reducible refine blockPass ?_ ?_); rfl) | ((with_reducible refine awp_condT ?_ ?_); rfl) | ((with_reducible refine awp_condF ?_ ?_); rfl) | ((with_reducible refine awp_reg ?_); intro K hK) | ((with_reducible refine sw_guardT ?_ ?_); rfl) | ((with_reducible refine sw_guardF ?_ ?_); (rfl; try simp only [St.put, undef, pkA, Nat.reduceAdd, Nat.reduceSub, Nat.reduceLeDiff, Nat.reduceEqDiff])) | ((with_reducible refine hK _ ?_); clear hK K) | (with_reducible refine and_split ?_ ?_) | ((with_reducible refine ct_id ?_); first | (refine callOwn hdu (el_ln _) ?_ ?_)) | ((with_reducible refine sw_id ?_); simp (disch := first | decide | omega) only [↓pkS, pkW, pkA, undef, capsOf, ex, St.put, St.ev, kav, gdA, opI, rawI, vbin, srcOf, avsD, acsD, AV.toD, AC.toD, AV.nw, AC.nw, AC.one, Value.oneCell', fillA, D.one, D.ones, D.sz, D.szs, Nat.reduceAdd, Nat.reduceSub, Nat.reduceLeDiff, Nat.reduceEqDiff, reduceIte, pkN, pkF, hz, hwa]) | (first | (with_reducible rfl) | (with_reducible refine fnok_id ?_; kernel_rfl) | exact el_strs _ | exact el_ints _ | exact el_ln _ | exact el_tk _ _ | exact el_td _ _ _ | omega | (simp; done) | (simp; omega)) | ((with_reducible refine args_id ?_); simp [ArgsOk, ArgOk, argsD, argD, AC.toD, Value.oneCell', sl_flat, leaf_flat, li_flat, ls_flat, sl_agg, leaf_agg, li_agg, ls_agg, mo_t, mo_f, pkF, hz, hwa]; done))
    refine awp_loopB (X := Nat) (fun q => [.k, .k, .d, .d, .d, .k, .v (.c false [.own 1 v]), .k, .d, .d, .d, .d, .d, .d, .d, .d, .d, .d, .d, .d, .d, .d, .d, .d, .d, .d, .d, .d, .d, .d, .d, .d, .d, .d, .k, .k, .v (.c false [.raw (.int .i64 (q : Nat))]), .d, .d, .d, .d, .d, .d, .d, .d, .d, .d, .d, .d, .d, .d, .d, .d, .d, .d, .d, .d, .d]) (fun q => [⟨fl.map li, 3, 1, 0, true⟩, ⟨w.map ln, 3, 1, v, true⟩, ⟨us.map ln, 3, 1, 0, true⟩]) (fun q bs => bs) (fun q => q ≤ us.length ∧ ∀ m (hm : m < q) (h : m < us.length), isN (du l) i (d - j) us[m] = false) (fun q => us.length - q) 0 ⟨Nat.zero_le _, fun m hm => by omega⟩ ?_ ?_
    · simp [StLe', FrLe, OwnLe, BoxLe, AV.fits, AC.fits, FB, mask]
    rintro k ⟨hk, hno⟩
    simp only [FB, mask]
    by_cases hk2 : k < us.length
    · have hxl := hub us[k] (List.getElem_mem hk2)
      have hxf : us[k] < fl.length := by omega
      have hfx := hfat us[k] hxf
      by_cases e1 : us[k] = i
      · have hnn : ∀ m (hm : m < k + 1) (h : m < us.length), isN (du l) i (d - j) us[m] = false := fun m hm h => by
          rcases Nat.lt_or_ge m k with h' | h'
          · exact hno m h' h
          · obtain rfl : m = k := by omega
            exact isN_f1 e1
        repeat' (first | (with_reducible first | refine awp_seq ?_ | refine awp_block ?_ | refine awp_skip ?_ | refine awp_exit ?_ | refine awp_ret ?_ | refine athen ?_ | refine thenExit ?_ | refine thenRet ?_ | refine blockNormal ?_ | refine blockExit ?_ | refine blockRet ?_ | refine roundExit ?_ | refine roundRet ?_ | refine roundExitR ?_ | refine roundRetR ?_) | ((with_reducible refine blockPass ?_ ?_); rfl) | ((with_reducible refine awp_condT ?_ ?_); rfl) | ((with_reducible refine awp_condF ?_ ?_); rfl) | ((with_reducible refine awp_reg ?_); intro K hK) | ((with_reducible refine sw_guardT ?_ ?_); rfl) | ((with_reducible refine sw_guardF ?_ ?_); (rfl; try simp only [St.put, undef, pkA, Nat.reduceAdd, Nat.reduceSub, Nat.reduceLeDiff, Nat.reduceEqDiff])) | ((with_reducible refine hK _ ?_); clear hK K) | (with_reducible refine and_split ?_ ?_) | ((with_reducible refine sw_id ?_); simp (disch := first | decide | omega) only [↓pkS, pkW, pkA, undef, capsOf, ex, St.put, St.ev, kav, gdA, opI, rawI, vbin, srcOf, avsD, acsD, AV.toD, AC.toD, AV.nw, AC.nw, AC.one, Value.oneCell', fillA, D.one, D.ones, D.sz, D.szs, Nat.reduceAdd, Nat.reduceSub, Nat.reduceLeDiff, Nat.reduceEqDiff, reduceIte, pkN, pkF, hfx]) | (first | (with_reducible rfl) | (with_reducible refine fnok_id ?_; kernel_rfl) | exact el_strs _ | exact el_ints _ | exact el_ln _ | exact el_tk _ _ | exact el_td _ _ _ | omega | (simp; done) | (simp; omega)) | ((with_reducible refine args_id ?_); simp [ArgsOk, ArgOk, argsD, argD, AC.toD, Value.oneCell', sl_flat, leaf_flat, li_flat, ls_flat, sl_agg, leaf_agg, li_agg, ls_agg, mo_t, mo_f, pkF, hfx]; done))
        refine roundB (k + 1) ?_ ⟨by omega, hnn⟩ (show us.length - (k + 1) < us.length - k by omega)
        simp [StLe', FrLe, OwnLe, BoxLe, AV.fits, AC.fits, FB, mask]
      · by_cases e2 : fvI (du l) i us[k] = ((d - j : Nat) : Int) - 1
        · have hnx := hisj k hk2 (fun m hm => hno m hm (by omega)) (isN_t e1 e2)
          rw [hnx] at hsucc
          repeat' (first | (with_reducible first | refine awp_seq ?_ | refine awp_block ?_ | refine awp_skip ?_ | refine awp_exit ?_ | refine awp_ret ?_ | refine athen ?_ | refine thenExit ?_ | refine thenRet ?_ | refine blockNormal ?_ | refine blockExit ?_ | refine blockRet ?_ | refine roundExit ?_ | refine roundRet ?_ | refine roundExitR ?_ | refine roundRetR ?_) | ((with_reducible refine blockPass ?_ ?_); rfl) | ((with_reducible refine awp_condT ?_ ?_); rfl) | ((with_reducible refine awp_condF ?_ ?_); rfl) | ((with_reducible refine awp_reg ?_); intro K hK) | ((with_reducible refine sw_guardT ?_ ?_); rfl) | ((with_reducible refine sw_guardF ?_ ?_); (rfl; try simp only [St.put, undef, pkA, Nat.reduceAdd, Nat.reduceSub, Nat.reduceLeDiff, Nat.reduceEqDiff])) | ((with_reducible refine hK _ ?_); clear hK K) | (with_reducible refine and_split ?_ ?_) | ((with_reducible refine sw_id ?_); simp (disch := first | decide | omega) only [↓pkS, pkW, pkA, undef, capsOf, ex, St.put, St.ev, kav, gdA, opI, rawI, vbin, srcOf, avsD, acsD, AV.toD, AC.toD, AV.nw, AC.nw, AC.one, Value.oneCell', fillA, D.one, D.ones, D.sz, D.szs, Nat.reduceAdd, Nat.reduceSub, Nat.reduceLeDiff, Nat.reduceEqDiff, reduceIte, pkN, pkF, hfx]) | (first | (with_reducible rfl) | (with_reducible refine fnok_id ?_; kernel_rfl) | exact el_strs _ | exact el_ints _ | exact el_ln _ | exact el_tk _ _ | exact el_td _ _ _ | omega | (simp; done) | (simp; omega)) | ((with_reducible refine args_id ?_); simp [ArgsOk, ArgOk, argsD, argD, AC.toD, Value.oneCell', sl_flat, leaf_flat, li_flat, ls_flat, sl_agg, leaf_agg, li_agg, ls_agg, mo_t, mo_f, pkF, hfx]; done))
          all_goals first
            | (simp only [List.length_map, List.length_append, List.length_cons, List.length_nil, List.length_replicate]; omega)
            | (refine roundB (j + 1, v + 1) ?_ (show j + 1 + 1 ≤ d by omega) (show d - (j + 1) < d - j by omega)
               simp [StLe', FrLe, OwnLe, BoxLe, AV.fits, AC.fits, FB, mask, hsucc, ln, li]
               try omega)
        · have hnn : ∀ m (hm : m < k + 1) (h : m < us.length), isN (du l) i (d - j) us[m] = false := fun m hm h => by
            rcases Nat.lt_or_ge m k with h' | h'
            · exact hno m h' h
            · obtain rfl : m = k := by omega
              exact isN_f2 e2
          repeat' (first | (with_reducible first | refine awp_seq ?_ | refine awp_block ?_ | refine awp_skip ?_ | refine awp_exit ?_ | refine awp_ret ?_ | refine athen ?_ | refine thenExit ?_ | refine thenRet ?_ | refine blockNormal ?_ | refine blockExit ?_ | refine blockRet ?_ | refine roundExit ?_ | refine roundRet ?_ | refine roundExitR ?_ | refine roundRetR ?_) | ((with_reducible refine blockPass ?_ ?_); rfl) | ((with_reducible refine awp_condT ?_ ?_); rfl) | ((with_reducible refine awp_condF ?_ ?_); rfl) | ((with_reducible refine awp_reg ?_); intro K hK) | ((with_reducible refine sw_guardT ?_ ?_); rfl) | ((with_reducible refine sw_guardF ?_ ?_); (rfl; try simp only [St.put, undef, pkA, Nat.reduceAdd, Nat.reduceSub, Nat.reduceLeDiff, Nat.reduceEqDiff])) | ((with_reducible refine hK _ ?_); clear hK K) | (with_reducible refine and_split ?_ ?_) | ((with_reducible refine sw_id ?_); simp (disch := first | decide | omega) only [↓pkS, pkW, pkA, undef, capsOf, ex, St.put, St.ev, kav, gdA, opI, rawI, vbin, srcOf, avsD, acsD, AV.toD, AC.toD, AV.nw, AC.nw, AC.one, Value.oneCell', fillA, D.one, D.ones, D.sz, D.szs, Nat.reduceAdd, Nat.reduceSub, Nat.reduceLeDiff, Nat.reduceEqDiff, reduceIte, pkN, pkF, hfx]) | (first | (with_reducible rfl) | (with_reducible refine fnok_id ?_; kernel_rfl) | exact el_strs _ | exact el_ints _ | exact el_ln _ | exact el_tk _ _ | exact el_td _ _ _ | omega | (simp; done) | (simp; omega)) | ((with_reducible refine args_id ?_); simp [ArgsOk, ArgOk, argsD, argD, AC.toD, Value.oneCell', sl_flat, leaf_flat, li_flat, ls_flat, sl_agg, leaf_agg, li_agg, ls_agg, mo_t, mo_f, pkF, hfx]; done))
          refine roundB (k + 1) ?_ ⟨by omega, hnn⟩ (show us.length - (k + 1) < us.length - k by omega)
          simp [StLe', FrLe, OwnLe, BoxLe, AV.fits, AC.fits, FB, mask]
    · obtain rfl : k = us.length := by omega
      exact (hfoj hj1 (fun m hm => hno m hm hm)).elim
  · obtain rfl : d = j + 1 := by omega
    repeat' (first | (with_reducible first | refine awp_seq ?_ | refine awp_block ?_ | refine awp_skip ?_ | refine awp_exit ?_ | refine awp_ret ?_ | refine athen ?_ | refine thenExit ?_ | refine thenRet ?_ | refine blockNormal ?_ | refine blockExit ?_ | refine blockRet ?_ | refine roundExit ?_ | refine roundRet ?_ | refine roundExitR ?_ | refine roundRetR ?_) | ((with_reducible refine blockPass ?_ ?_); rfl) | ((with_reducible refine awp_condT ?_ ?_); rfl) | ((with_reducible refine awp_condF ?_ ?_); rfl) | ((with_reducible refine awp_reg ?_); intro K hK) | ((with_reducible refine sw_guardT ?_ ?_); rfl) | ((with_reducible refine sw_guardF ?_ ?_); (rfl; try simp only [St.put, undef, pkA, Nat.reduceAdd, Nat.reduceSub, Nat.reduceLeDiff, Nat.reduceEqDiff])) | ((with_reducible refine hK _ ?_); clear hK K) | (with_reducible refine and_split ?_ ?_) | ((with_reducible refine ct_id ?_); first | (refine callThen (onCycle_impl_to l i hw) trivial ?_ ?_) | (refine callOwn hfar (el_ints _) ?_ ?_)) | ((with_reducible refine ctd_id ?_); first | (refine callThenD (onCycle_impl_to l i hw) trivial ?_ ?_)) | ((with_reducible refine sw_id ?_); simp (disch := first | decide | omega) only [↓pkS, pkW, pkA, undef, capsOf, ex, St.put, St.ev, kav, gdA, opI, rawI, vbin, srcOf, avsD, acsD, AV.toD, AC.toD, AV.nw, AC.nw, AC.one, Value.oneCell', fillA, D.one, D.ones, D.sz, D.szs, Nat.reduceAdd, Nat.reduceSub, Nat.reduceLeDiff, Nat.reduceEqDiff, reduceIte, pkN, pkF, hon, hfi]) | (first | (with_reducible rfl) | (with_reducible refine fnok_id ?_; kernel_rfl) | exact el_strs _ | exact el_ints _ | exact el_ln _ | exact el_tk _ _ | exact el_td _ _ _ | omega | (simp; done) | (simp; omega)) | ((with_reducible refine args_id ?_); simp [ArgsOk, ArgOk, argsD, argD, AC.toD, Value.oneCell', sl_flat, leaf_flat, li_flat, ls_flat, sl_agg, leaf_agg, li_agg, ls_agg, mo_t, mo_f, pkF, hon, hfi]; done))
    exact endRet (Or.inl ⟨1, _, _, rfl, rfl, rfl, rfl, rfl, rfl, Or.inl rfl⟩)
theorem cycleThrough_spec (l : List GPart) (z : Int) (r : List Int) (hr : (cyc l z).map Int.ofNat = r) (fp : List Nat) (v : Value) (w : World) (hS : Sl w (l.map GPart.toD) fp v) (hw : l.length + D.wts (l.map GPart.toD) ≤ 1048576) : Calls Tryz.prog 41 #[v, .int .i64 z] w (TosPost (r.map li) w) := by
  subst hr
  rw [List.map_map]
  exact of_own (cyc_spec_to l z hw) (flat_ln _) (vs := [v, .int .i64 z]) ⟨rd_of_sl hS, rd_of_leaf _, trivial⟩
theorem cycleThrough_impl (l : List GPart) (z : Int) (r : List Int) (hr : (cyc l z).map Int.ofNat = r) (fp : List Nat) (v : Value) (w : World) (hS : Sl w (l.map GPart.toD) fp v) (hw : l.length + D.wts (l.map GPart.toD) ≤ 1048576) : Calls Tryz.prog 42 #[v, .int .i64 z] w (TosPost (r.map li) w) := by
  subst hr
  rw [List.map_map]
  exact of_own (cyc_impl_to l z hw) (flat_ln _) (vs := [v, .int .i64 z]) ⟨rd_of_sl hS, rd_of_leaf _, trivial⟩
end Go.Proofs.YtkjodhljaehkjaaGreat

namespace Go.Proofs.YtkjodhljaehkjaaGreat
open Go.RowKit
set_option linter.unusedSimpArgs false
set_option linter.unusedVariables false
/-- The shortest of the first k lists, the first of those. -/
noncomputable def bestC (l : List GPart) : Nat → List Nat
  | 0 => []
  | k + 1 => if 0 < (cyc l (k : Int)).length ∧ ((bestC l k).length = 0 ∨ (cyc l (k : Int)).length < (bestC l k).length) then cyc l (k : Int) else bestC l k
theorem bestC_t {l : List GPart} {k : Nat} (h : 0 < (cyc l (k : Int)).length ∧ ((bestC l k).length = 0 ∨ (cyc l (k : Int)).length < (bestC l k).length)) : bestC l (k + 1) = cyc l (k : Int) := by rw [bestC, if_pos h]
theorem bestC_f {l : List GPart} {k : Nat} (h : ¬ (0 < (cyc l (k : Int)).length ∧ ((bestC l k).length = 0 ∨ (cyc l (k : Int)).length < (bestC l k).length))) : bestC l (k + 1) = bestC l k := by rw [bestC, if_neg h]
theorem bestC_lt (l : List GPart) : ∀ k, ∀ x ∈ bestC l k, x < l.length
  | 0 => by simp [bestC]
  | k + 1 => by
    intro x hx
    rw [bestC] at hx
    split at hx
    · exact cyc_lt l _ x hx
    · exact bestC_lt l k x hx
theorem bestC_len (l : List GPart) : ∀ k, (bestC l k).length ≤ l.length
  | 0 => by simp [bestC]
  | k + 1 => by
    rw [bestC]
    split
    · exact cyc_len l _
    · exact bestC_len l k
def nmAt (l : List GPart) (i : Nat) : ByteArray := match l[i]? with | some x => x.name | none => .empty
theorem nmAt_at (l : List GPart) {i : Nat} (h : i < l.length) : nmAt l i = l[i].name := by unfold nmAt; rw [List.getElem?_eq_getElem h]
noncomputable def cycNames (l : List GPart) : List ByteArray := (bestC l l.length).map (nmAt l)
def ic_small_spec : IC := (.seq (.reg false [⟨(some 2), none, .mov (.k (.slice none 0 0))⟩]) (.seq (.reg false [⟨(some 6), none, .brow true 3 1 0 false []⟩, ⟨(some 3), none, .mov (.t 6)⟩]) (.seq (.seq (.reg false [⟨(some 4), none, .mov (.k (.int .i64 0))⟩]) (.block 0 (.loop (.seq (.seq (.reg false [⟨(some 7), none, .mov (.t 4)⟩, ⟨(some 8), none, .mov (.t 0)⟩, ⟨(some 9), none, .len false (.t 8)⟩, ⟨(some 10), none, .bin .lss (.t 7) (.t 9)⟩]) (.cond (.t 10) .skip (.exit 0))) (.seq (.block 1 (.seq (.reg false [⟨(some 13), none, .mov (.t 0)⟩, ⟨(some 14), none, .mov (.t 4)⟩, ⟨(some 15), none, .call 41 [(.t 13), (.t 14)]⟩, ⟨(some 5), none, .mov (.t 15)⟩]) (.seq (.reg false [⟨(some 16), none, .mov (.t 5)⟩, ⟨(some 17), none, .len false (.t 16)⟩, ⟨(some 18), none, .bin .gtr (.t 17) (.k (.int .i64 0))⟩, ⟨(some 19), none, .mov (.t 18)⟩, ⟨(some 20), (some (19, true)), .mov (.t 3)⟩, ⟨(some 21), (some (19, true)), .len false (.t 20)⟩, ⟨(some 22), (some (19, true)), .bin .eql (.t 21) (.k (.int .i64 0))⟩, ⟨(some 23), (some (19, true)), .mov (.t 22)⟩, ⟨(some 24), (some (23, false)), .mov (.t 5)⟩, ⟨(some 25), (some (23, false)), .len false (.t 24)⟩, ⟨(some 26), (some (23, false)), .mov (.t 3)⟩, ⟨(some 27), (some (23, false)), .len false (.t 26)⟩, ⟨(some 28), (some (23, false)), .bin .lss (.t 25) (.t 27)⟩, ⟨(some 29), (some (19, true)), .pick (.t 23) (.k (.bool true)) (.t 28)⟩, ⟨(some 30), none, .pick (.t 19) (.t 29) (.k (.bool false))⟩]) (.cond (.t 30) (.reg false [⟨(some 31), none, .mov (.t 5)⟩, ⟨(some 3), none, .mov (.t 31)⟩]) .skip)))) (.reg false [⟨(some 11), none, .mov (.t 4)⟩, ⟨(some 12), none, .bin .add (.t 11) (.k (.int .i64 1))⟩, ⟨(some 4), none, .mov (.t 12)⟩])))))) (.seq (.reg false [⟨(some 32), none, .mov (.t 3)⟩, ⟨(some 2), none, .mov (.t 32)⟩]) .ret))))
theorem ic_small_spec_ok : compC Tryz.prog (Tryz.f43.body.getD .skip) = some ic_small_spec := by kernel_rfl
set_option maxHeartbeats 8000000 in
theorem small_spec_to (l : List GPart) (hw : l.length + D.wts (l.map GPart.toD) ≤ 1048576) : CallsOwn Tryz.prog 43 [.sl (l.map GPart.toD)] ((bestC l l.length).map ln) 3 1 := by
  have hn : l.length ≤ 1048576 := by omega
  refine calls_own (fn := Tryz.f43) (t := 2) (by kernel_rfl) (by kernel_rfl) (by kernel_rfl) ic_small_spec_ok ?_
  unfold ic_small_spec
  change AWP _ _ _ (st0 33 _)
  simp only [undef, stS, st0, stN, D.av, D.avN, sl_agg, leaf_agg, li_agg, ls_agg, sl_acs, leaf_acs, li_acs, ls_acs, ln_acs, el_ln, getq_map, GPart.acs_eq, GPart.flat_eq, GPart.agg_eq, GPart.el, List.map_cons, List.map_nil, List.replicate, List.cons_append, List.nil_append, List.length_cons, List.length_nil, Nat.reduceAdd, Nat.reduceSub]
  repeat' (first | (with_reducible first | refine awp_seq ?_ | refine awp_block ?_ | refine awp_skip ?_ | refine awp_exit ?_ | refine awp_ret ?_ | refine athen ?_ | refine thenExit ?_ | refine thenRet ?_ | refine blockNormal ?_ | refine blockExit ?_ | refine blockRet ?_ | refine roundExit ?_ | refine roundRet ?_ | refine roundExitR ?_ | refine roundRetR ?_) | ((with_reducible refine blockPass ?_ ?_); rfl) | ((with_reducible refine awp_condT ?_ ?_); rfl) | ((with_reducible refine awp_condF ?_ ?_); rfl) | ((with_reducible refine awp_reg ?_); intro K hK) | ((with_reducible refine sw_guardT ?_ ?_); rfl) | ((with_reducible refine sw_guardF ?_ ?_); (rfl; try simp only [St.put, undef, pkA, Nat.reduceAdd, Nat.reduceSub, Nat.reduceLeDiff, Nat.reduceEqDiff])) | ((with_reducible refine hK _ ?_); clear hK K) | (with_reducible refine and_split ?_ ?_) | ((with_reducible refine sw_id ?_); simp (disch := first | decide | omega) only [↓pkS, pkW, pkA, undef, capsOf, ex, St.put, St.ev, kav, gdA, opI, rawI, vbin, srcOf, avsD, acsD, AV.toD, AC.toD, AV.nw, AC.nw, AC.one, Value.oneCell', fillA, D.one, D.ones, D.sz, D.szs, Nat.reduceAdd, Nat.reduceSub, Nat.reduceLeDiff, Nat.reduceEqDiff, reduceIte, pkN, pkF]) | (first | (with_reducible rfl) | (with_reducible refine fnok_id ?_; kernel_rfl) | exact el_strs _ | exact el_ints _ | exact el_ln _ | exact el_tk _ _ | exact el_td _ _ _ | omega | (simp; done) | (simp; omega)) | ((with_reducible refine args_id ?_); simp [ArgsOk, ArgOk, argsD, argD, AC.toD, Value.oneCell', sl_flat, leaf_flat, li_flat, ls_flat, sl_agg, leaf_agg, li_agg, ls_agg, mo_t, mo_f, pkF]; done))
  refine awp_loopR (X := Nat × Nat) (fun q => [.k, .d, .d, .v (.c false [.own 0 q.2]), .v (.c false [.raw (.int .i64 (q.1 : Nat))]), .d, .d, .d, .d, .d, .d, .d, .d, .d, .d, .d, .d, .d, .d, .d, .d, .d, .d, .d, .d, .d, .d, .d, .d, .d, .d, .d, .d]) (fun q => [⟨(bestC l q.1).map ln, 3, 1, q.2, true⟩]) (fun q bs => bs) (fun q => q.1 ≤ l.length) (fun q => l.length - q.1) (0, 0) [0] (Nat.zero_le _) ?_ ?_
  · simp [StLeR, FrLeR, OwnLeR, BoxLeR, AV.ren, AC.ren, AV.fits, AC.fits, FB, mask, bestC]
  rintro ⟨k, v⟩ hk
  have hk' : k ≤ l.length := hk
  clear hk
  have hbl := bestC_len l k
  simp only [FB, mask]
  by_cases hlk : k < l.length
  · have hcy := cyc_spec_to l (k : Int) hw
    have hcl := cyc_len l (k : Int)
    have hbt := bestC_t (l := l) (k := k)
    have hbf := bestC_f (l := l) (k := k)
    obtain ⟨c, hc0⟩ : ∃ c, cyc l (k : Int) = c := ⟨_, rfl⟩
    rw [hc0] at hcy hcl hbt hbf
    obtain ⟨b, hb0⟩ : ∃ b, bestC l k = b := ⟨_, rfl⟩
    rw [hb0] at hbl hbt hbf
    try simp only [hb0]
    by_cases t1 : 0 < c.length
    · by_cases t2 : b.length = 0
      · repeat' (first | (with_reducible first | refine awp_seq ?_ | refine awp_block ?_ | refine awp_skip ?_ | refine awp_exit ?_ | refine awp_ret ?_ | refine athen ?_ | refine thenExit ?_ | refine thenRet ?_ | refine blockNormal ?_ | refine blockExit ?_ | refine blockRet ?_ | refine roundExit ?_ | refine roundRet ?_ | refine roundExitR ?_ | refine roundRetR ?_) | ((with_reducible refine blockPass ?_ ?_); rfl) | ((with_reducible refine awp_condT ?_ ?_); rfl) | ((with_reducible refine awp_condF ?_ ?_); rfl) | ((with_reducible refine awp_reg ?_); intro K hK) | ((with_reducible refine sw_guardT ?_ ?_); rfl) | ((with_reducible refine sw_guardF ?_ ?_); (rfl; try simp only [St.put, undef, pkA, Nat.reduceAdd, Nat.reduceSub, Nat.reduceLeDiff, Nat.reduceEqDiff])) | ((with_reducible refine hK _ ?_); clear hK K) | (with_reducible refine and_split ?_ ?_) | ((with_reducible refine ct_id ?_); first | (refine callOwn hcy (el_ln _) ?_ ?_)) | ((with_reducible refine sw_id ?_); simp (disch := first | decide | omega) only [↓pkS, pkW, pkA, undef, capsOf, ex, St.put, St.ev, kav, gdA, opI, rawI, vbin, srcOf, avsD, acsD, AV.toD, AC.toD, AV.nw, AC.nw, AC.one, Value.oneCell', fillA, D.one, D.ones, D.sz, D.szs, Nat.reduceAdd, Nat.reduceSub, Nat.reduceLeDiff, Nat.reduceEqDiff, reduceIte, pkN, pkF]) | (first | (with_reducible rfl) | (with_reducible refine fnok_id ?_; kernel_rfl) | exact el_strs _ | exact el_ints _ | exact el_ln _ | exact el_tk _ _ | exact el_td _ _ _ | omega | (simp; done) | (simp; omega)) | ((with_reducible refine args_id ?_); simp [ArgsOk, ArgOk, argsD, argD, AC.toD, Value.oneCell', sl_flat, leaf_flat, li_flat, ls_flat, sl_agg, leaf_agg, li_agg, ls_agg, mo_t, mo_f, pkF]; done))
        have hnx := hbt (by omega)
        refine roundR (k + 1, 0) [1] ?_ (show k + 1 ≤ l.length by omega) (show l.length - (k + 1) < l.length - k by omega)
        simp [StLeR, FrLeR, OwnLeR, BoxLeR, AV.ren, AC.ren, AV.fits, AC.fits, FB, mask, hnx]
      · by_cases t3 : c.length < b.length
        · repeat' (first | (with_reducible first | refine awp_seq ?_ | refine awp_block ?_ | refine awp_skip ?_ | refine awp_exit ?_ | refine awp_ret ?_ | refine athen ?_ | refine thenExit ?_ | refine thenRet ?_ | refine blockNormal ?_ | refine blockExit ?_ | refine blockRet ?_ | refine roundExit ?_ | refine roundRet ?_ | refine roundExitR ?_ | refine roundRetR ?_) | ((with_reducible refine blockPass ?_ ?_); rfl) | ((with_reducible refine awp_condT ?_ ?_); rfl) | ((with_reducible refine awp_condF ?_ ?_); rfl) | ((with_reducible refine awp_reg ?_); intro K hK) | ((with_reducible refine sw_guardT ?_ ?_); rfl) | ((with_reducible refine sw_guardF ?_ ?_); (rfl; try simp only [St.put, undef, pkA, Nat.reduceAdd, Nat.reduceSub, Nat.reduceLeDiff, Nat.reduceEqDiff])) | ((with_reducible refine hK _ ?_); clear hK K) | (with_reducible refine and_split ?_ ?_) | ((with_reducible refine ct_id ?_); first | (refine callOwn hcy (el_ln _) ?_ ?_)) | ((with_reducible refine sw_id ?_); simp (disch := first | decide | omega) only [↓pkS, pkW, pkA, undef, capsOf, ex, St.put, St.ev, kav, gdA, opI, rawI, vbin, srcOf, avsD, acsD, AV.toD, AC.toD, AV.nw, AC.nw, AC.one, Value.oneCell', fillA, D.one, D.ones, D.sz, D.szs, Nat.reduceAdd, Nat.reduceSub, Nat.reduceLeDiff, Nat.reduceEqDiff, reduceIte, pkN, pkF]) | (first | (with_reducible rfl) | (with_reducible refine fnok_id ?_; kernel_rfl) | exact el_strs _ | exact el_ints _ | exact el_ln _ | exact el_tk _ _ | exact el_td _ _ _ | omega | (simp; done) | (simp; omega)) | ((with_reducible refine args_id ?_); simp [ArgsOk, ArgOk, argsD, argD, AC.toD, Value.oneCell', sl_flat, leaf_flat, li_flat, ls_flat, sl_agg, leaf_agg, li_agg, ls_agg, mo_t, mo_f, pkF]; done))
          have hnx := hbt (by omega)
          refine roundR (k + 1, 0) [1] ?_ (show k + 1 ≤ l.length by omega) (show l.length - (k + 1) < l.length - k by omega)
          simp [StLeR, FrLeR, OwnLeR, BoxLeR, AV.ren, AC.ren, AV.fits, AC.fits, FB, mask, hnx]
        · repeat' (first | (with_reducible first | refine awp_seq ?_ | refine awp_block ?_ | refine awp_skip ?_ | refine awp_exit ?_ | refine awp_ret ?_ | refine athen ?_ | refine thenExit ?_ | refine thenRet ?_ | refine blockNormal ?_ | refine blockExit ?_ | refine blockRet ?_ | refine roundExit ?_ | refine roundRet ?_ | refine roundExitR ?_ | refine roundRetR ?_) | ((with_reducible refine blockPass ?_ ?_); rfl) | ((with_reducible refine awp_condT ?_ ?_); rfl) | ((with_reducible refine awp_condF ?_ ?_); rfl) | ((with_reducible refine awp_reg ?_); intro K hK) | ((with_reducible refine sw_guardT ?_ ?_); rfl) | ((with_reducible refine sw_guardF ?_ ?_); (rfl; try simp only [St.put, undef, pkA, Nat.reduceAdd, Nat.reduceSub, Nat.reduceLeDiff, Nat.reduceEqDiff])) | ((with_reducible refine hK _ ?_); clear hK K) | (with_reducible refine and_split ?_ ?_) | ((with_reducible refine ct_id ?_); first | (refine callOwn hcy (el_ln _) ?_ ?_)) | ((with_reducible refine sw_id ?_); simp (disch := first | decide | omega) only [↓pkS, pkW, pkA, undef, capsOf, ex, St.put, St.ev, kav, gdA, opI, rawI, vbin, srcOf, avsD, acsD, AV.toD, AC.toD, AV.nw, AC.nw, AC.one, Value.oneCell', fillA, D.one, D.ones, D.sz, D.szs, Nat.reduceAdd, Nat.reduceSub, Nat.reduceLeDiff, Nat.reduceEqDiff, reduceIte, pkN, pkF]) | (first | (with_reducible rfl) | (with_reducible refine fnok_id ?_; kernel_rfl) | exact el_strs _ | exact el_ints _ | exact el_ln _ | exact el_tk _ _ | exact el_td _ _ _ | omega | (simp; done) | (simp; omega)) | ((with_reducible refine args_id ?_); simp [ArgsOk, ArgOk, argsD, argD, AC.toD, Value.oneCell', sl_flat, leaf_flat, li_flat, ls_flat, sl_agg, leaf_agg, li_agg, ls_agg, mo_t, mo_f, pkF]; done))
          have hnx := hbf (by omega)
          refine roundR (k + 1, v) [0] ?_ (show k + 1 ≤ l.length by omega) (show l.length - (k + 1) < l.length - k by omega)
          simp [StLeR, FrLeR, OwnLeR, BoxLeR, AV.ren, AC.ren, AV.fits, AC.fits, FB, mask, hnx]
    · repeat' (first | (with_reducible first | refine awp_seq ?_ | refine awp_block ?_ | refine awp_skip ?_ | refine awp_exit ?_ | refine awp_ret ?_ | refine athen ?_ | refine thenExit ?_ | refine thenRet ?_ | refine blockNormal ?_ | refine blockExit ?_ | refine blockRet ?_ | refine roundExit ?_ | refine roundRet ?_ | refine roundExitR ?_ | refine roundRetR ?_) | ((with_reducible refine blockPass ?_ ?_); rfl) | ((with_reducible refine awp_condT ?_ ?_); rfl) | ((with_reducible refine awp_condF ?_ ?_); rfl) | ((with_reducible refine awp_reg ?_); intro K hK) | ((with_reducible refine sw_guardT ?_ ?_); rfl) | ((with_reducible refine sw_guardF ?_ ?_); (rfl; try simp only [St.put, undef, pkA, Nat.reduceAdd, Nat.reduceSub, Nat.reduceLeDiff, Nat.reduceEqDiff])) | ((with_reducible refine hK _ ?_); clear hK K) | (with_reducible refine and_split ?_ ?_) | ((with_reducible refine ct_id ?_); first | (refine callOwn hcy (el_ln _) ?_ ?_)) | ((with_reducible refine sw_id ?_); simp (disch := first | decide | omega) only [↓pkS, pkW, pkA, undef, capsOf, ex, St.put, St.ev, kav, gdA, opI, rawI, vbin, srcOf, avsD, acsD, AV.toD, AC.toD, AV.nw, AC.nw, AC.one, Value.oneCell', fillA, D.one, D.ones, D.sz, D.szs, Nat.reduceAdd, Nat.reduceSub, Nat.reduceLeDiff, Nat.reduceEqDiff, reduceIte, pkN, pkF]) | (first | (with_reducible rfl) | (with_reducible refine fnok_id ?_; kernel_rfl) | exact el_strs _ | exact el_ints _ | exact el_ln _ | exact el_tk _ _ | exact el_td _ _ _ | omega | (simp; done) | (simp; omega)) | ((with_reducible refine args_id ?_); simp [ArgsOk, ArgOk, argsD, argD, AC.toD, Value.oneCell', sl_flat, leaf_flat, li_flat, ls_flat, sl_agg, leaf_agg, li_agg, ls_agg, mo_t, mo_f, pkF]; done))
      have hnx := hbf (by omega)
      refine roundR (k + 1, v) [0] ?_ (show k + 1 ≤ l.length by omega) (show l.length - (k + 1) < l.length - k by omega)
      simp [StLeR, FrLeR, OwnLeR, BoxLeR, AV.ren, AC.ren, AV.fits, AC.fits, FB, mask, hnx]
  · obtain rfl : k = l.length := by omega
    repeat' (first | (with_reducible first | refine awp_seq ?_ | refine awp_block ?_ | refine awp_skip ?_ | refine awp_exit ?_ | refine awp_ret ?_ | refine athen ?_ | refine thenExit ?_ | refine thenRet ?_ | refine blockNormal ?_ | refine blockExit ?_ | refine blockRet ?_ | refine roundExit ?_ | refine roundRet ?_ | refine roundExitR ?_ | refine roundRetR ?_) | ((with_reducible refine blockPass ?_ ?_); rfl) | ((with_reducible refine awp_condT ?_ ?_); rfl) | ((with_reducible refine awp_condF ?_ ?_); rfl) | ((with_reducible refine awp_reg ?_); intro K hK) | ((with_reducible refine sw_guardT ?_ ?_); rfl) | ((with_reducible refine sw_guardF ?_ ?_); (rfl; try simp only [St.put, undef, pkA, Nat.reduceAdd, Nat.reduceSub, Nat.reduceLeDiff, Nat.reduceEqDiff])) | ((with_reducible refine hK _ ?_); clear hK K) | (with_reducible refine and_split ?_ ?_) | ((with_reducible refine sw_id ?_); simp (disch := first | decide | omega) only [↓pkS, pkW, pkA, undef, capsOf, ex, St.put, St.ev, kav, gdA, opI, rawI, vbin, srcOf, avsD, acsD, AV.toD, AC.toD, AV.nw, AC.nw, AC.one, Value.oneCell', fillA, D.one, D.ones, D.sz, D.szs, Nat.reduceAdd, Nat.reduceSub, Nat.reduceLeDiff, Nat.reduceEqDiff, reduceIte, pkN, pkF]) | (first | (with_reducible rfl) | (with_reducible refine fnok_id ?_; kernel_rfl) | exact el_strs _ | exact el_ints _ | exact el_ln _ | exact el_tk _ _ | exact el_td _ _ _ | omega | (simp; done) | (simp; omega)) | ((with_reducible refine args_id ?_); simp [ArgsOk, ArgOk, argsD, argD, AC.toD, Value.oneCell', sl_flat, leaf_flat, li_flat, ls_flat, sl_agg, leaf_agg, li_agg, ls_agg, mo_t, mo_f, pkF]; done))
    exact endRet ⟨0, _, _, rfl, rfl, rfl, rfl, rfl, rfl, Or.inl rfl⟩
def ic_small_impl : IC := (.seq (.reg false [⟨(some 2), none, .mov (.k (.slice none 0 0))⟩]) (.seq (.reg false [⟨(some 3), none, .mov (.k (.slice none 0 0))⟩]) (.seq (.seq (.reg false [⟨(some 6), none, .mov (.t 0)⟩, ⟨(some 7), none, .len false (.t 6)⟩, ⟨(some 8), none, .mov (.k (.int .i64 0))⟩]) (.block 0 (.loop (.seq (.reg false [⟨(some 9), none, .bin .lss (.t 8) (.t 7)⟩]) (.seq (.cond (.t 9) .skip (.exit 0)) (.seq (.block 1 (.seq (.reg false [⟨(some 10), none, .mov (.t 8)⟩, ⟨(some 4), none, .mov (.t 10)⟩]) (.seq (.reg false [⟨(some 11), none, .mov (.t 0)⟩, ⟨(some 12), none, .mov (.t 4)⟩, ⟨(some 13), none, .call 42 [(.t 11), (.t 12)]⟩, ⟨(some 5), none, .mov (.t 13)⟩]) (.seq (.reg false [⟨(some 14), none, .mov (.t 5)⟩, ⟨(some 15), none, .len false (.t 14)⟩, ⟨(some 16), none, .bin .gtr (.t 15) (.k (.int .i64 0))⟩, ⟨(some 17), none, .mov (.t 16)⟩, ⟨(some 18), (some (17, true)), .mov (.t 3)⟩, ⟨(some 19), (some (17, true)), .snil false (.t 18)⟩, ⟨(some 20), (some (17, true)), .mov (.t 19)⟩, ⟨(some 21), (some (20, false)), .mov (.t 5)⟩, ⟨(some 22), (some (20, false)), .len false (.t 21)⟩, ⟨(some 23), (some (20, false)), .mov (.t 3)⟩, ⟨(some 24), (some (20, false)), .len false (.t 23)⟩, ⟨(some 25), (some (20, false)), .bin .lss (.t 22) (.t 24)⟩, ⟨(some 26), (some (17, true)), .pick (.t 20) (.k (.bool true)) (.t 25)⟩, ⟨(some 27), none, .pick (.t 17) (.t 26) (.k (.bool false))⟩]) (.cond (.t 27) (.reg false [⟨(some 28), none, .mov (.t 5)⟩, ⟨(some 3), none, .mov (.t 28)⟩]) .skip))))) (.reg false [⟨(some 29), none, .bin .add (.t 8) (.k (.int .i64 1))⟩, ⟨(some 8), none, .mov (.t 29)⟩]))))))) (.seq (.reg false [⟨(some 30), none, .mov (.t 3)⟩, ⟨(some 2), none, .mov (.t 30)⟩]) .ret))))
theorem ic_small_impl_ok : compC Tryz.prog (Tryz.f44.body.getD .skip) = some ic_small_impl := by kernel_rfl
set_option maxHeartbeats 8000000 in
theorem small_impl_to (l : List GPart) (hw : l.length + D.wts (l.map GPart.toD) ≤ 1048576) : CallsOwn Tryz.prog 44 [.sl (l.map GPart.toD)] ((bestC l l.length).map ln) 3 1 := by
  have hn : l.length ≤ 1048576 := by omega
  refine calls_ownN (fn := Tryz.f44) (t := 2) (by kernel_rfl) (by kernel_rfl) (by kernel_rfl) ic_small_impl_ok ?_
  unfold ic_small_impl
  change AWP _ _ _ (st0 31 _)
  simp only [undef, stS, st0, stN, D.av, D.avN, sl_agg, leaf_agg, li_agg, ls_agg, sl_acs, leaf_acs, li_acs, ls_acs, ln_acs, el_ln, getq_map, GPart.acs_eq, GPart.flat_eq, GPart.agg_eq, GPart.el, List.map_cons, List.map_nil, List.replicate, List.cons_append, List.nil_append, List.length_cons, List.length_nil, Nat.reduceAdd, Nat.reduceSub]
  repeat' (first | (with_reducible first | refine awp_seq ?_ | refine awp_block ?_ | refine awp_skip ?_ | refine awp_exit ?_ | refine awp_ret ?_ | refine athen ?_ | refine thenExit ?_ | refine thenRet ?_ | refine blockNormal ?_ | refine blockExit ?_ | refine blockRet ?_ | refine roundExit ?_ | refine roundRet ?_ | refine roundExitR ?_ | refine roundRetR ?_) | ((with_reducible refine blockPass ?_ ?_); rfl) | ((with_reducible refine awp_condT ?_ ?_); rfl) | ((with_reducible refine awp_condF ?_ ?_); rfl) | ((with_reducible refine awp_reg ?_); intro K hK) | ((with_reducible refine sw_guardT ?_ ?_); rfl) | ((with_reducible refine sw_guardF ?_ ?_); (rfl; try simp only [St.put, undef, pkA, Nat.reduceAdd, Nat.reduceSub, Nat.reduceLeDiff, Nat.reduceEqDiff])) | ((with_reducible refine hK _ ?_); clear hK K) | (with_reducible refine and_split ?_ ?_) | ((with_reducible refine sw_id ?_); simp (disch := first | decide | omega) only [↓pkS, pkW, pkA, undef, capsOf, ex, St.put, St.ev, kav, gdA, opI, rawI, vbin, srcOf, avsD, acsD, AV.toD, AC.toD, AV.nw, AC.nw, AC.one, Value.oneCell', fillA, D.one, D.ones, D.sz, D.szs, Nat.reduceAdd, Nat.reduceSub, Nat.reduceLeDiff, Nat.reduceEqDiff, reduceIte, pkN, pkF]) | (first | (with_reducible rfl) | (with_reducible refine fnok_id ?_; kernel_rfl) | exact el_strs _ | exact el_ints _ | exact el_ln _ | exact el_tk _ _ | exact el_td _ _ _ | omega | (simp; done) | (simp; omega)) | ((with_reducible refine args_id ?_); simp [ArgsOk, ArgOk, argsD, argD, AC.toD, Value.oneCell', sl_flat, leaf_flat, li_flat, ls_flat, sl_agg, leaf_agg, li_agg, ls_agg, mo_t, mo_f, pkF]; done))
  refine awp_loopR (X := Nat × Option Nat) (fun q => [.k, .d, .d, .v ((match q.2 with | none => .c false [.raw (.slice none 0 0)] | some v => .c false [.own 0 v])), .d, .d, .d, .k, .v (.c false [.raw (.int .i64 (q.1 : Nat))]), .d, .d, .d, .d, .d, .d, .d, .d, .d, .d, .d, .d, .d, .d, .d, .d, .d, .d, .d, .d, .d, .d]) (fun q => match q.2 with | none => [] | some v => [⟨(bestC l q.1).map ln, 3, 1, v, true⟩]) (fun q bs => bs) (fun q => q.1 ≤ l.length ∧ (match q.2 with | none => (bestC l q.1).length = 0 | some _ => 0 < (bestC l q.1).length)) (fun q => l.length - q.1) (0, none) [] ⟨Nat.zero_le _, rfl⟩ ?_ ?_
  · simp [StLeR, FrLeR, OwnLeR, BoxLeR, AV.ren, AC.ren, AV.fits, AC.fits, FB, mask, bestC]
  rintro ⟨k, _ | v⟩ ⟨hk, hbz⟩
  · simp only at hk hbz
    have hbl := bestC_len l k
    simp only [FB, mask]
    by_cases hlk : k < l.length
    · have hcy := cyc_impl_to l (k : Int) hw
      have hcl := cyc_len l (k : Int)
      have hbt := bestC_t (l := l) (k := k)
      have hbf := bestC_f (l := l) (k := k)
      obtain ⟨c, hc0⟩ : ∃ c, cyc l (k : Int) = c := ⟨_, rfl⟩
      rw [hc0] at hcy hcl hbt hbf
      obtain ⟨b, hb0⟩ : ∃ b, bestC l k = b := ⟨_, rfl⟩
      rw [hb0] at hbl hbt hbf
      try simp only [hb0]
      rw [hb0] at hbz
      by_cases t1 : 0 < c.length
      · repeat' (first | (with_reducible first | refine awp_seq ?_ | refine awp_block ?_ | refine awp_skip ?_ | refine awp_exit ?_ | refine awp_ret ?_ | refine athen ?_ | refine thenExit ?_ | refine thenRet ?_ | refine blockNormal ?_ | refine blockExit ?_ | refine blockRet ?_ | refine roundExit ?_ | refine roundRet ?_ | refine roundExitR ?_ | refine roundRetR ?_) | ((with_reducible refine blockPass ?_ ?_); rfl) | ((with_reducible refine awp_condT ?_ ?_); rfl) | ((with_reducible refine awp_condF ?_ ?_); rfl) | ((with_reducible refine awp_reg ?_); intro K hK) | ((with_reducible refine sw_guardT ?_ ?_); rfl) | ((with_reducible refine sw_guardF ?_ ?_); (rfl; try simp only [St.put, undef, pkA, Nat.reduceAdd, Nat.reduceSub, Nat.reduceLeDiff, Nat.reduceEqDiff])) | ((with_reducible refine hK _ ?_); clear hK K) | (with_reducible refine and_split ?_ ?_) | ((with_reducible refine ct_id ?_); first | (refine callOwn hcy (el_ln _) ?_ ?_)) | ((with_reducible refine sw_id ?_); simp (disch := first | decide | omega) only [↓pkS, pkW, pkA, undef, capsOf, ex, St.put, St.ev, kav, gdA, opI, rawI, vbin, srcOf, avsD, acsD, AV.toD, AC.toD, AV.nw, AC.nw, AC.one, Value.oneCell', fillA, D.one, D.ones, D.sz, D.szs, Nat.reduceAdd, Nat.reduceSub, Nat.reduceLeDiff, Nat.reduceEqDiff, reduceIte, pkN, pkF]) | (first | (with_reducible rfl) | (with_reducible refine fnok_id ?_; kernel_rfl) | exact el_strs _ | exact el_ints _ | exact el_ln _ | exact el_tk _ _ | exact el_td _ _ _ | omega | (simp; done) | (simp; omega)) | ((with_reducible refine args_id ?_); simp [ArgsOk, ArgOk, argsD, argD, AC.toD, Value.oneCell', sl_flat, leaf_flat, li_flat, ls_flat, sl_agg, leaf_agg, li_agg, ls_agg, mo_t, mo_f, pkF]; done))
        have hnx := hbt (by omega)
        refine roundR (k + 1, some 0) [0] ?_ ⟨show k + 1 ≤ l.length by omega, by simp only [hnx]; assumption⟩ (show l.length - (k + 1) < l.length - k by omega)
        simp [StLeR, FrLeR, OwnLeR, BoxLeR, AV.ren, AC.ren, AV.fits, AC.fits, FB, mask, hnx]
      · repeat' (first | (with_reducible first | refine awp_seq ?_ | refine awp_block ?_ | refine awp_skip ?_ | refine awp_exit ?_ | refine awp_ret ?_ | refine athen ?_ | refine thenExit ?_ | refine thenRet ?_ | refine blockNormal ?_ | refine blockExit ?_ | refine blockRet ?_ | refine roundExit ?_ | refine roundRet ?_ | refine roundExitR ?_ | refine roundRetR ?_) | ((with_reducible refine blockPass ?_ ?_); rfl) | ((with_reducible refine awp_condT ?_ ?_); rfl) | ((with_reducible refine awp_condF ?_ ?_); rfl) | ((with_reducible refine awp_reg ?_); intro K hK) | ((with_reducible refine sw_guardT ?_ ?_); rfl) | ((with_reducible refine sw_guardF ?_ ?_); (rfl; try simp only [St.put, undef, pkA, Nat.reduceAdd, Nat.reduceSub, Nat.reduceLeDiff, Nat.reduceEqDiff])) | ((with_reducible refine hK _ ?_); clear hK K) | (with_reducible refine and_split ?_ ?_) | ((with_reducible refine ct_id ?_); first | (refine callOwn hcy (el_ln _) ?_ ?_)) | ((with_reducible refine sw_id ?_); simp (disch := first | decide | omega) only [↓pkS, pkW, pkA, undef, capsOf, ex, St.put, St.ev, kav, gdA, opI, rawI, vbin, srcOf, avsD, acsD, AV.toD, AC.toD, AV.nw, AC.nw, AC.one, Value.oneCell', fillA, D.one, D.ones, D.sz, D.szs, Nat.reduceAdd, Nat.reduceSub, Nat.reduceLeDiff, Nat.reduceEqDiff, reduceIte, pkN, pkF]) | (first | (with_reducible rfl) | (with_reducible refine fnok_id ?_; kernel_rfl) | exact el_strs _ | exact el_ints _ | exact el_ln _ | exact el_tk _ _ | exact el_td _ _ _ | omega | (simp; done) | (simp; omega)) | ((with_reducible refine args_id ?_); simp [ArgsOk, ArgOk, argsD, argD, AC.toD, Value.oneCell', sl_flat, leaf_flat, li_flat, ls_flat, sl_agg, leaf_agg, li_agg, ls_agg, mo_t, mo_f, pkF]; done))
        have hnx := hbf (by omega)
        refine roundR (k + 1, none) [] ?_ ⟨show k + 1 ≤ l.length by omega, by simp only [hnx]; assumption⟩ (show l.length - (k + 1) < l.length - k by omega)
        simp [StLeR, FrLeR, OwnLeR, BoxLeR, AV.ren, AC.ren, AV.fits, AC.fits, FB, mask, hnx]
    · obtain rfl : k = l.length := by omega
      rw [List.eq_nil_of_length_eq_zero hbz]
      repeat' (first | (with_reducible first | refine awp_seq ?_ | refine awp_block ?_ | refine awp_skip ?_ | refine awp_exit ?_ | refine awp_ret ?_ | refine athen ?_ | refine thenExit ?_ | refine thenRet ?_ | refine blockNormal ?_ | refine blockExit ?_ | refine blockRet ?_ | refine roundExit ?_ | refine roundRet ?_ | refine roundExitR ?_ | refine roundRetR ?_) | ((with_reducible refine blockPass ?_ ?_); rfl) | ((with_reducible refine awp_condT ?_ ?_); rfl) | ((with_reducible refine awp_condF ?_ ?_); rfl) | ((with_reducible refine awp_reg ?_); intro K hK) | ((with_reducible refine sw_guardT ?_ ?_); rfl) | ((with_reducible refine sw_guardF ?_ ?_); (rfl; try simp only [St.put, undef, pkA, Nat.reduceAdd, Nat.reduceSub, Nat.reduceLeDiff, Nat.reduceEqDiff])) | ((with_reducible refine hK _ ?_); clear hK K) | (with_reducible refine and_split ?_ ?_) | ((with_reducible refine sw_id ?_); simp (disch := first | decide | omega) only [↓pkS, pkW, pkA, undef, capsOf, ex, St.put, St.ev, kav, gdA, opI, rawI, vbin, srcOf, avsD, acsD, AV.toD, AC.toD, AV.nw, AC.nw, AC.one, Value.oneCell', fillA, D.one, D.ones, D.sz, D.szs, Nat.reduceAdd, Nat.reduceSub, Nat.reduceLeDiff, Nat.reduceEqDiff, reduceIte, pkN, pkF]) | (first | (with_reducible rfl) | (with_reducible refine fnok_id ?_; kernel_rfl) | exact el_strs _ | exact el_ints _ | exact el_ln _ | exact el_tk _ _ | exact el_td _ _ _ | omega | (simp; done) | (simp; omega)) | ((with_reducible refine args_id ?_); simp [ArgsOk, ArgOk, argsD, argD, AC.toD, Value.oneCell', sl_flat, leaf_flat, li_flat, ls_flat, sl_agg, leaf_agg, li_agg, ls_agg, mo_t, mo_f, pkF]; done))
      exact endRet (Or.inr ⟨rfl, rfl⟩)
  · simp only at hk hbz
    have hbl := bestC_len l k
    simp only [FB, mask]
    by_cases hlk : k < l.length
    · have hcy := cyc_impl_to l (k : Int) hw
      have hcl := cyc_len l (k : Int)
      have hbt := bestC_t (l := l) (k := k)
      have hbf := bestC_f (l := l) (k := k)
      obtain ⟨c, hc0⟩ : ∃ c, cyc l (k : Int) = c := ⟨_, rfl⟩
      rw [hc0] at hcy hcl hbt hbf
      obtain ⟨b, hb0⟩ : ∃ b, bestC l k = b := ⟨_, rfl⟩
      rw [hb0] at hbl hbt hbf
      try simp only [hb0]
      rw [hb0] at hbz
      by_cases t1 : 0 < c.length
      · by_cases t3 : c.length < b.length
        · repeat' (first | (with_reducible first | refine awp_seq ?_ | refine awp_block ?_ | refine awp_skip ?_ | refine awp_exit ?_ | refine awp_ret ?_ | refine athen ?_ | refine thenExit ?_ | refine thenRet ?_ | refine blockNormal ?_ | refine blockExit ?_ | refine blockRet ?_ | refine roundExit ?_ | refine roundRet ?_ | refine roundExitR ?_ | refine roundRetR ?_) | ((with_reducible refine blockPass ?_ ?_); rfl) | ((with_reducible refine awp_condT ?_ ?_); rfl) | ((with_reducible refine awp_condF ?_ ?_); rfl) | ((with_reducible refine awp_reg ?_); intro K hK) | ((with_reducible refine sw_guardT ?_ ?_); rfl) | ((with_reducible refine sw_guardF ?_ ?_); (rfl; try simp only [St.put, undef, pkA, Nat.reduceAdd, Nat.reduceSub, Nat.reduceLeDiff, Nat.reduceEqDiff])) | ((with_reducible refine hK _ ?_); clear hK K) | (with_reducible refine and_split ?_ ?_) | ((with_reducible refine ct_id ?_); first | (refine callOwn hcy (el_ln _) ?_ ?_)) | ((with_reducible refine sw_id ?_); simp (disch := first | decide | omega) only [↓pkS, pkW, pkA, undef, capsOf, ex, St.put, St.ev, kav, gdA, opI, rawI, vbin, srcOf, avsD, acsD, AV.toD, AC.toD, AV.nw, AC.nw, AC.one, Value.oneCell', fillA, D.one, D.ones, D.sz, D.szs, Nat.reduceAdd, Nat.reduceSub, Nat.reduceLeDiff, Nat.reduceEqDiff, reduceIte, pkN, pkF]) | (first | (with_reducible rfl) | (with_reducible refine fnok_id ?_; kernel_rfl) | exact el_strs _ | exact el_ints _ | exact el_ln _ | exact el_tk _ _ | exact el_td _ _ _ | omega | (simp; done) | (simp; omega)) | ((with_reducible refine args_id ?_); simp [ArgsOk, ArgOk, argsD, argD, AC.toD, Value.oneCell', sl_flat, leaf_flat, li_flat, ls_flat, sl_agg, leaf_agg, li_agg, ls_agg, mo_t, mo_f, pkF]; done))
          have hnx := hbt (by omega)
          refine roundR (k + 1, some 0) [1] ?_ ⟨show k + 1 ≤ l.length by omega, by simp only [hnx]; assumption⟩ (show l.length - (k + 1) < l.length - k by omega)
          simp [StLeR, FrLeR, OwnLeR, BoxLeR, AV.ren, AC.ren, AV.fits, AC.fits, FB, mask, hnx]
        · repeat' (first | (with_reducible first | refine awp_seq ?_ | refine awp_block ?_ | refine awp_skip ?_ | refine awp_exit ?_ | refine awp_ret ?_ | refine athen ?_ | refine thenExit ?_ | refine thenRet ?_ | refine blockNormal ?_ | refine blockExit ?_ | refine blockRet ?_ | refine roundExit ?_ | refine roundRet ?_ | refine roundExitR ?_ | refine roundRetR ?_) | ((with_reducible refine blockPass ?_ ?_); rfl) | ((with_reducible refine awp_condT ?_ ?_); rfl) | ((with_reducible refine awp_condF ?_ ?_); rfl) | ((with_reducible refine awp_reg ?_); intro K hK) | ((with_reducible refine sw_guardT ?_ ?_); rfl) | ((with_reducible refine sw_guardF ?_ ?_); (rfl; try simp only [St.put, undef, pkA, Nat.reduceAdd, Nat.reduceSub, Nat.reduceLeDiff, Nat.reduceEqDiff])) | ((with_reducible refine hK _ ?_); clear hK K) | (with_reducible refine and_split ?_ ?_) | ((with_reducible refine ct_id ?_); first | (refine callOwn hcy (el_ln _) ?_ ?_)) | ((with_reducible refine sw_id ?_); simp (disch := first | decide | omega) only [↓pkS, pkW, pkA, undef, capsOf, ex, St.put, St.ev, kav, gdA, opI, rawI, vbin, srcOf, avsD, acsD, AV.toD, AC.toD, AV.nw, AC.nw, AC.one, Value.oneCell', fillA, D.one, D.ones, D.sz, D.szs, Nat.reduceAdd, Nat.reduceSub, Nat.reduceLeDiff, Nat.reduceEqDiff, reduceIte, pkN, pkF]) | (first | (with_reducible rfl) | (with_reducible refine fnok_id ?_; kernel_rfl) | exact el_strs _ | exact el_ints _ | exact el_ln _ | exact el_tk _ _ | exact el_td _ _ _ | omega | (simp; done) | (simp; omega)) | ((with_reducible refine args_id ?_); simp [ArgsOk, ArgOk, argsD, argD, AC.toD, Value.oneCell', sl_flat, leaf_flat, li_flat, ls_flat, sl_agg, leaf_agg, li_agg, ls_agg, mo_t, mo_f, pkF]; done))
          have hnx := hbf (by omega)
          refine roundR (k + 1, some v) [0] ?_ ⟨show k + 1 ≤ l.length by omega, by simp only [hnx]; assumption⟩ (show l.length - (k + 1) < l.length - k by omega)
          simp [StLeR, FrLeR, OwnLeR, BoxLeR, AV.ren, AC.ren, AV.fits, AC.fits, FB, mask, hnx]
      · repeat' (first | (with_reducible first | refine awp_seq ?_ | refine awp_block ?_ | refine awp_skip ?_ | refine awp_exit ?_ | refine awp_ret ?_ | refine athen ?_ | refine thenExit ?_ | refine thenRet ?_ | refine blockNormal ?_ | refine blockExit ?_ | refine blockRet ?_ | refine roundExit ?_ | refine roundRet ?_ | refine roundExitR ?_ | refine roundRetR ?_) | ((with_reducible refine blockPass ?_ ?_); rfl) | ((with_reducible refine awp_condT ?_ ?_); rfl) | ((with_reducible refine awp_condF ?_ ?_); rfl) | ((with_reducible refine awp_reg ?_); intro K hK) | ((with_reducible refine sw_guardT ?_ ?_); rfl) | ((with_reducible refine sw_guardF ?_ ?_); (rfl; try simp only [St.put, undef, pkA, Nat.reduceAdd, Nat.reduceSub, Nat.reduceLeDiff, Nat.reduceEqDiff])) | ((with_reducible refine hK _ ?_); clear hK K) | (with_reducible refine and_split ?_ ?_) | ((with_reducible refine ct_id ?_); first | (refine callOwn hcy (el_ln _) ?_ ?_)) | ((with_reducible refine sw_id ?_); simp (disch := first | decide | omega) only [↓pkS, pkW, pkA, undef, capsOf, ex, St.put, St.ev, kav, gdA, opI, rawI, vbin, srcOf, avsD, acsD, AV.toD, AC.toD, AV.nw, AC.nw, AC.one, Value.oneCell', fillA, D.one, D.ones, D.sz, D.szs, Nat.reduceAdd, Nat.reduceSub, Nat.reduceLeDiff, Nat.reduceEqDiff, reduceIte, pkN, pkF]) | (first | (with_reducible rfl) | (with_reducible refine fnok_id ?_; kernel_rfl) | exact el_strs _ | exact el_ints _ | exact el_ln _ | exact el_tk _ _ | exact el_td _ _ _ | omega | (simp; done) | (simp; omega)) | ((with_reducible refine args_id ?_); simp [ArgsOk, ArgOk, argsD, argD, AC.toD, Value.oneCell', sl_flat, leaf_flat, li_flat, ls_flat, sl_agg, leaf_agg, li_agg, ls_agg, mo_t, mo_f, pkF]; done))
        have hnx := hbf (by omega)
        refine roundR (k + 1, some v) [0] ?_ ⟨show k + 1 ≤ l.length by omega, by simp only [hnx]; assumption⟩ (show l.length - (k + 1) < l.length - k by omega)
        simp [StLeR, FrLeR, OwnLeR, BoxLeR, AV.ren, AC.ren, AV.fits, AC.fits, FB, mask, hnx]
    · obtain rfl : k = l.length := by omega
      repeat' (first | (with_reducible first | refine awp_seq ?_ | refine awp_block ?_ | refine awp_skip ?_ | refine awp_exit ?_ | refine awp_ret ?_ | refine athen ?_ | refine thenExit ?_ | refine thenRet ?_ | refine blockNormal ?_ | refine blockExit ?_ | refine blockRet ?_ | refine roundExit ?_ | refine roundRet ?_ | refine roundExitR ?_ | refine roundRetR ?_) | ((with_reducible refine blockPass ?_ ?_); rfl) | ((with_reducible refine awp_condT ?_ ?_); rfl) | ((with_reducible refine awp_condF ?_ ?_); rfl) | ((with_reducible refine awp_reg ?_); intro K hK) | ((with_reducible refine sw_guardT ?_ ?_); rfl) | ((with_reducible refine sw_guardF ?_ ?_); (rfl; try simp only [St.put, undef, pkA, Nat.reduceAdd, Nat.reduceSub, Nat.reduceLeDiff, Nat.reduceEqDiff])) | ((with_reducible refine hK _ ?_); clear hK K) | (with_reducible refine and_split ?_ ?_) | ((with_reducible refine sw_id ?_); simp (disch := first | decide | omega) only [↓pkS, pkW, pkA, undef, capsOf, ex, St.put, St.ev, kav, gdA, opI, rawI, vbin, srcOf, avsD, acsD, AV.toD, AC.toD, AV.nw, AC.nw, AC.one, Value.oneCell', fillA, D.one, D.ones, D.sz, D.szs, Nat.reduceAdd, Nat.reduceSub, Nat.reduceLeDiff, Nat.reduceEqDiff, reduceIte, pkN, pkF]) | (first | (with_reducible rfl) | (with_reducible refine fnok_id ?_; kernel_rfl) | exact el_strs _ | exact el_ints _ | exact el_ln _ | exact el_tk _ _ | exact el_td _ _ _ | omega | (simp; done) | (simp; omega)) | ((with_reducible refine args_id ?_); simp [ArgsOk, ArgOk, argsD, argD, AC.toD, Value.oneCell', sl_flat, leaf_flat, li_flat, ls_flat, sl_agg, leaf_agg, li_agg, ls_agg, mo_t, mo_f, pkF]; done))
      exact endRet (Or.inl ⟨0, _, _, rfl, rfl, rfl, rfl, rfl, rfl, Or.inl rfl⟩)
def ic_names_spec : IC := (.seq (.reg false [⟨(some 2), none, .mov (.k (.slice none 0 0))⟩]) (.seq (.reg false [⟨(some 6), none, .brow true 9 1 0 false []⟩, ⟨(some 3), none, .mov (.t 6)⟩]) (.seq (.reg false [⟨(some 7), none, .mov (.t 0)⟩, ⟨(some 8), none, .call 43 [(.t 7)]⟩, ⟨(some 4), none, .mov (.t 8)⟩]) (.seq (.seq (.reg false [⟨(some 5), none, .mov (.k (.int .i64 0))⟩]) (.block 0 (.loop (.seq (.seq (.reg false [⟨(some 9), none, .mov (.t 5)⟩, ⟨(some 10), none, .mov (.t 4)⟩, ⟨(some 11), none, .len false (.t 10)⟩, ⟨(some 12), none, .bin .lss (.t 9) (.t 11)⟩]) (.cond (.t 12) .skip (.exit 0))) (.seq (.block 1 (.reg false [⟨(some 15), none, .mov (.t 3)⟩, ⟨(some 16), none, .mov (.t 0)⟩, ⟨(some 17), none, .mov (.t 4)⟩, ⟨(some 18), none, .mov (.t 5)⟩, ⟨(some 19), none, .iad 1 (.t 17) (.t 18)⟩, ⟨(some 20), none, .load 1 false (.t 19)⟩, ⟨(some 21), none, .iad 14 (.t 16) (.t 20)⟩, ⟨(some 22), none, .fad 1 (.t 21)⟩, ⟨(some 23), none, .load 1 false (.t 22)⟩, ⟨(some 24), none, .brow false 9 1 1 false [(.t 23)]⟩, ⟨(some 25), none, .app 9 1 (.t 15) (.t 24)⟩, ⟨(some 3), none, .mov (.t 25)⟩])) (.reg false [⟨(some 13), none, .mov (.t 5)⟩, ⟨(some 14), none, .bin .add (.t 13) (.k (.int .i64 1))⟩, ⟨(some 5), none, .mov (.t 14)⟩])))))) (.seq (.reg false [⟨(some 26), none, .mov (.t 3)⟩, ⟨(some 2), none, .mov (.t 26)⟩]) .ret)))))
theorem ic_names_spec_ok : compC Tryz.prog (Tryz.f45.body.getD .skip) = some ic_names_spec := by kernel_rfl
set_option maxHeartbeats 8000000 in
theorem cycNames_spec_to (l : List GPart) (hw : l.length + D.wts (l.map GPart.toD) ≤ 1048576) : CallsOwn Tryz.prog 45 [.sl (l.map GPart.toD)] ((cycNames l).map ls) 9 1 := by
  have hn : l.length ≤ 1048576 := by omega
  have hsm := small_spec_to l hw
  have hbl := bestC_len l l.length
  have hbb := bestC_lt l l.length
  unfold cycNames
  obtain ⟨b, hb0⟩ : ∃ b, bestC l l.length = b := ⟨_, rfl⟩
  rw [hb0] at hsm hbl hbb ⊢
  refine calls_own (fn := Tryz.f45) (t := 2) (by kernel_rfl) (by kernel_rfl) (by kernel_rfl) ic_names_spec_ok ?_
  unfold ic_names_spec
  change AWP _ _ _ (st0 27 _)
  simp only [undef, stS, st0, stN, D.av, D.avN, sl_agg, leaf_agg, li_agg, ls_agg, sl_acs, leaf_acs, li_acs, ls_acs, ln_acs, el_ln, getq_map, GPart.acs_eq, GPart.flat_eq, GPart.agg_eq, GPart.el, List.map_cons, List.map_nil, List.replicate, List.cons_append, List.nil_append, List.length_cons, List.length_nil, Nat.reduceAdd, Nat.reduceSub]
  repeat' (first | (with_reducible first | refine awp_seq ?_ | refine awp_block ?_ | refine awp_skip ?_ | refine awp_exit ?_ | refine awp_ret ?_ | refine athen ?_ | refine thenExit ?_ | refine thenRet ?_ | refine blockNormal ?_ | refine blockExit ?_ | refine blockRet ?_ | refine roundExit ?_ | refine roundRet ?_ | refine roundExitR ?_ | refine roundRetR ?_) | ((with_reducible refine blockPass ?_ ?_); rfl) | ((with_reducible refine awp_condT ?_ ?_); rfl) | ((with_reducible refine awp_condF ?_ ?_); rfl) | ((with_reducible refine awp_reg ?_); intro K hK) | ((with_reducible refine hK _ ?_); clear hK K) | (with_reducible refine and_split ?_ ?_) | ((with_reducible refine ct_id ?_); first | (refine callOwn hsm (el_ln _) ?_ ?_)) | ((with_reducible refine sw_id ?_); simp (disch := first | decide | omega) only [↓pkS, pkW, pkA, undef, capsOf, ex, St.put, St.ev, kav, gdA, opI, rawI, vbin, srcOf, avsD, acsD, AV.toD, AC.toD, AV.nw, AC.nw, AC.one, Value.oneCell', fillA, D.one, D.ones, D.sz, D.szs, Nat.reduceAdd, Nat.reduceSub, Nat.reduceLeDiff, Nat.reduceEqDiff, reduceIte, pkN, pkF]) | (first | (with_reducible rfl) | (with_reducible refine fnok_id ?_; kernel_rfl) | exact el_strs _ | exact el_ints _ | exact el_ln _ | exact el_tk _ _ | exact el_td _ _ _ | omega | (simp; done) | (simp; omega)) | ((with_reducible refine args_id ?_); simp [ArgsOk, ArgOk, argsD, argD, AC.toD, Value.oneCell', sl_flat, leaf_flat, li_flat, ls_flat, sl_agg, leaf_agg, li_agg, ls_agg, mo_t, mo_f, pkF]; done))
  refine awp_loopB (X := Nat × Nat) (fun q => [.k, .d, .d, .v (.c false [.own 0 q.2]), .k, .v (.c false [.raw (.int .i64 (q.1 : Nat))]), .d, .d, .d, .d, .d, .d, .d, .d, .d, .d, .d, .d, .d, .d, .d, .d, .d, .d, .d, .d, .d]) (fun q => [⟨((b.take q.1).map (nmAt l)).map ls, 9, 1, q.2, true⟩, ⟨b.map ln, 3, 1, 0, true⟩]) (fun q bs => bs) (fun q => q.1 ≤ b.length) (fun q => b.length - q.1) (0, 0) (Nat.zero_le _) ?_ ?_
  · simp [StLe', FrLe, OwnLe, BoxLe, AV.fits, AC.fits, FB, mask]
  rintro ⟨k, v⟩ hk
  have hk' : k ≤ b.length := hk
  clear hk
  simp only [FB, mask]
  by_cases hlk : k < b.length
  · have hxl := hbb b[k] (List.getElem_mem hlk)
    have hnm := nmAt_at l hxl
    have htk : b.take (k + 1) = b.take k ++ [b[k]] := List.take_succ_eq_append_getElem hlk
    have htl : (b.take k).length ≤ b.length := by rw [List.length_take]; omega
    repeat' (first | (with_reducible first | refine awp_seq ?_ | refine awp_block ?_ | refine awp_skip ?_ | refine awp_exit ?_ | refine awp_ret ?_ | refine athen ?_ | refine thenExit ?_ | refine thenRet ?_ | refine blockNormal ?_ | refine blockExit ?_ | refine blockRet ?_ | refine roundExit ?_ | refine roundRet ?_ | refine roundExitR ?_ | refine roundRetR ?_) | ((with_reducible refine blockPass ?_ ?_); rfl) | ((with_reducible refine awp_condT ?_ ?_); rfl) | ((with_reducible refine awp_condF ?_ ?_); rfl) | ((with_reducible refine awp_reg ?_); intro K hK) | ((with_reducible refine hK _ ?_); clear hK K) | (with_reducible refine and_split ?_ ?_) | ((with_reducible refine ct_id ?_); first | (refine callOwn hsm (el_ln _) ?_ ?_)) | ((with_reducible refine sw_id ?_); simp (disch := first | decide | omega) only [↓pkS, pkW, pkA, undef, capsOf, ex, St.put, St.ev, kav, gdA, opI, rawI, vbin, srcOf, avsD, acsD, AV.toD, AC.toD, AV.nw, AC.nw, AC.one, Value.oneCell', fillA, D.one, D.ones, D.sz, D.szs, Nat.reduceAdd, Nat.reduceSub, Nat.reduceLeDiff, Nat.reduceEqDiff, reduceIte, pkN, pkF]) | (first | (with_reducible rfl) | (with_reducible refine fnok_id ?_; kernel_rfl) | exact el_strs _ | exact el_ints _ | exact el_ln _ | exact el_tk _ _ | exact el_td _ _ _ | omega | (simp; done) | (simp; omega)) | ((with_reducible refine args_id ?_); simp [ArgsOk, ArgOk, argsD, argD, AC.toD, Value.oneCell', sl_flat, leaf_flat, li_flat, ls_flat, sl_agg, leaf_agg, li_agg, ls_agg, mo_t, mo_f, pkF]; done))
    all_goals first
      | (simp only [List.length_map, List.length_append, List.length_cons, List.length_nil]; omega)
      | (refine roundB (k + 1, v + 1) ?_ (show k + 1 ≤ b.length by omega) (show b.length - (k + 1) < b.length - k by omega)
         simp [StLe', FrLe, OwnLe, BoxLe, AV.fits, AC.fits, FB, mask, htk, hnm, ls, -List.take_append_getElem])
  · obtain rfl : k = b.length := by omega
    rw [List.take_length]
    repeat' (first | (with_reducible first | refine awp_seq ?_ | refine awp_block ?_ | refine awp_skip ?_ | refine awp_exit ?_ | refine awp_ret ?_ | refine athen ?_ | refine thenExit ?_ | refine thenRet ?_ | refine blockNormal ?_ | refine blockExit ?_ | refine blockRet ?_ | refine roundExit ?_ | refine roundRet ?_ | refine roundExitR ?_ | refine roundRetR ?_) | ((with_reducible refine blockPass ?_ ?_); rfl) | ((with_reducible refine awp_condT ?_ ?_); rfl) | ((with_reducible refine awp_condF ?_ ?_); rfl) | ((with_reducible refine awp_reg ?_); intro K hK) | ((with_reducible refine hK _ ?_); clear hK K) | (with_reducible refine and_split ?_ ?_) | ((with_reducible refine ct_id ?_); first | (refine callOwn hsm (el_ln _) ?_ ?_)) | ((with_reducible refine sw_id ?_); simp (disch := first | decide | omega) only [↓pkS, pkW, pkA, undef, capsOf, ex, St.put, St.ev, kav, gdA, opI, rawI, vbin, srcOf, avsD, acsD, AV.toD, AC.toD, AV.nw, AC.nw, AC.one, Value.oneCell', fillA, D.one, D.ones, D.sz, D.szs, Nat.reduceAdd, Nat.reduceSub, Nat.reduceLeDiff, Nat.reduceEqDiff, reduceIte, pkN, pkF]) | (first | (with_reducible rfl) | (with_reducible refine fnok_id ?_; kernel_rfl) | exact el_strs _ | exact el_ints _ | exact el_ln _ | exact el_tk _ _ | exact el_td _ _ _ | omega | (simp; done) | (simp; omega)) | ((with_reducible refine args_id ?_); simp [ArgsOk, ArgOk, argsD, argD, AC.toD, Value.oneCell', sl_flat, leaf_flat, li_flat, ls_flat, sl_agg, leaf_agg, li_agg, ls_agg, mo_t, mo_f, pkF]; done))
    exact endRet ⟨0, _, _, rfl, rfl, rfl, rfl, rfl, rfl, Or.inl rfl⟩
def ic_names_impl : IC := (.seq (.reg false [⟨(some 2), none, .mov (.k (.slice none 0 0))⟩]) (.seq (.reg false [⟨(some 6), none, .brow true 9 1 0 false []⟩, ⟨(some 3), none, .mov (.t 6)⟩]) (.seq (.seq (.reg false [⟨(some 7), none, .mov (.t 0)⟩, ⟨(some 8), none, .call 44 [(.t 7)]⟩, ⟨(some 9), none, .len false (.t 8)⟩, ⟨(some 10), none, .mov (.k (.int .i64 0))⟩]) (.block 0 (.loop (.seq (.reg false [⟨(some 11), none, .bin .lss (.t 10) (.t 9)⟩]) (.seq (.cond (.t 11) .skip (.exit 0)) (.seq (.block 1 (.seq (.reg false [⟨(some 12), none, .iad 1 (.t 8) (.t 10)⟩, ⟨(some 13), none, .load 1 false (.t 12)⟩, ⟨(some 5), none, .mov (.t 13)⟩]) (.reg false [⟨(some 14), none, .mov (.t 3)⟩, ⟨(some 15), none, .mov (.t 0)⟩, ⟨(some 16), none, .mov (.t 5)⟩, ⟨(some 17), none, .iad 14 (.t 15) (.t 16)⟩, ⟨(some 18), none, .fad 1 (.t 17)⟩, ⟨(some 19), none, .load 1 false (.t 18)⟩, ⟨(some 20), none, .brow false 9 1 1 false [(.t 19)]⟩, ⟨(some 21), none, .app 9 1 (.t 14) (.t 20)⟩, ⟨(some 3), none, .mov (.t 21)⟩]))) (.reg false [⟨(some 22), none, .bin .add (.t 10) (.k (.int .i64 1))⟩, ⟨(some 10), none, .mov (.t 22)⟩]))))))) (.seq (.reg false [⟨(some 23), none, .mov (.t 3)⟩, ⟨(some 2), none, .mov (.t 23)⟩]) .ret))))
theorem ic_names_impl_ok : compC Tryz.prog (Tryz.f46.body.getD .skip) = some ic_names_impl := by kernel_rfl
set_option maxHeartbeats 8000000 in
theorem cycNames_impl_to (l : List GPart) (hw : l.length + D.wts (l.map GPart.toD) ≤ 1048576) : CallsOwn Tryz.prog 46 [.sl (l.map GPart.toD)] ((cycNames l).map ls) 9 1 := by
  have hn : l.length ≤ 1048576 := by omega
  have hsm := small_impl_to l hw
  have hbl := bestC_len l l.length
  have hbb := bestC_lt l l.length
  unfold cycNames
  obtain ⟨b, hb0⟩ : ∃ b, bestC l l.length = b := ⟨_, rfl⟩
  rw [hb0] at hsm hbl hbb ⊢
  refine calls_own (fn := Tryz.f46) (t := 2) (by kernel_rfl) (by kernel_rfl) (by kernel_rfl) ic_names_impl_ok ?_
  unfold ic_names_impl
  change AWP _ _ _ (st0 24 _)
  simp only [undef, stS, st0, stN, D.av, D.avN, sl_agg, leaf_agg, li_agg, ls_agg, sl_acs, leaf_acs, li_acs, ls_acs, ln_acs, el_ln, getq_map, GPart.acs_eq, GPart.flat_eq, GPart.agg_eq, GPart.el, List.map_cons, List.map_nil, List.replicate, List.cons_append, List.nil_append, List.length_cons, List.length_nil, Nat.reduceAdd, Nat.reduceSub]
  repeat' (first | (with_reducible first | refine awp_seq ?_ | refine awp_block ?_ | refine awp_skip ?_ | refine awp_exit ?_ | refine awp_ret ?_ | refine athen ?_ | refine thenExit ?_ | refine thenRet ?_ | refine blockNormal ?_ | refine blockExit ?_ | refine blockRet ?_ | refine roundExit ?_ | refine roundRet ?_ | refine roundExitR ?_ | refine roundRetR ?_) | ((with_reducible refine blockPass ?_ ?_); rfl) | ((with_reducible refine awp_condT ?_ ?_); rfl) | ((with_reducible refine awp_condF ?_ ?_); rfl) | ((with_reducible refine awp_reg ?_); intro K hK) | ((with_reducible refine hK _ ?_); clear hK K) | (with_reducible refine and_split ?_ ?_) | ((with_reducible refine ct_id ?_); first | (refine callOwn hsm (el_ln _) ?_ ?_)) | ((with_reducible refine sw_id ?_); simp (disch := first | decide | omega) only [↓pkS, pkW, pkA, undef, capsOf, ex, St.put, St.ev, kav, gdA, opI, rawI, vbin, srcOf, avsD, acsD, AV.toD, AC.toD, AV.nw, AC.nw, AC.one, Value.oneCell', fillA, D.one, D.ones, D.sz, D.szs, Nat.reduceAdd, Nat.reduceSub, Nat.reduceLeDiff, Nat.reduceEqDiff, reduceIte, pkN, pkF]) | (first | (with_reducible rfl) | (with_reducible refine fnok_id ?_; kernel_rfl) | exact el_strs _ | exact el_ints _ | exact el_ln _ | exact el_tk _ _ | exact el_td _ _ _ | omega | (simp; done) | (simp; omega)) | ((with_reducible refine args_id ?_); simp [ArgsOk, ArgOk, argsD, argD, AC.toD, Value.oneCell', sl_flat, leaf_flat, li_flat, ls_flat, sl_agg, leaf_agg, li_agg, ls_agg, mo_t, mo_f, pkF]; done))
  refine awp_loopB (X := Nat × Nat) (fun q => [.k, .d, .d, .v (.c false [.own 0 q.2]), .d, .d, .d, .d, .k, .k, .v (.c false [.raw (.int .i64 (q.1 : Nat))]), .d, .d, .d, .d, .d, .d, .d, .d, .d, .d, .d, .d, .d]) (fun q => [⟨((b.take q.1).map (nmAt l)).map ls, 9, 1, q.2, true⟩, ⟨b.map ln, 3, 1, 0, true⟩]) (fun q bs => bs) (fun q => q.1 ≤ b.length) (fun q => b.length - q.1) (0, 0) (Nat.zero_le _) ?_ ?_
  · simp [StLe', FrLe, OwnLe, BoxLe, AV.fits, AC.fits, FB, mask]
  rintro ⟨k, v⟩ hk
  have hk' : k ≤ b.length := hk
  clear hk
  simp only [FB, mask]
  by_cases hlk : k < b.length
  · have hxl := hbb b[k] (List.getElem_mem hlk)
    have hnm := nmAt_at l hxl
    have htk : b.take (k + 1) = b.take k ++ [b[k]] := List.take_succ_eq_append_getElem hlk
    have htl : (b.take k).length ≤ b.length := by rw [List.length_take]; omega
    repeat' (first | (with_reducible first | refine awp_seq ?_ | refine awp_block ?_ | refine awp_skip ?_ | refine awp_exit ?_ | refine awp_ret ?_ | refine athen ?_ | refine thenExit ?_ | refine thenRet ?_ | refine blockNormal ?_ | refine blockExit ?_ | refine blockRet ?_ | refine roundExit ?_ | refine roundRet ?_ | refine roundExitR ?_ | refine roundRetR ?_) | ((with_reducible refine blockPass ?_ ?_); rfl) | ((with_reducible refine awp_condT ?_ ?_); rfl) | ((with_reducible refine awp_condF ?_ ?_); rfl) | ((with_reducible refine awp_reg ?_); intro K hK) | ((with_reducible refine hK _ ?_); clear hK K) | (with_reducible refine and_split ?_ ?_) | ((with_reducible refine ct_id ?_); first | (refine callOwn hsm (el_ln _) ?_ ?_)) | ((with_reducible refine sw_id ?_); simp (disch := first | decide | omega) only [↓pkS, pkW, pkA, undef, capsOf, ex, St.put, St.ev, kav, gdA, opI, rawI, vbin, srcOf, avsD, acsD, AV.toD, AC.toD, AV.nw, AC.nw, AC.one, Value.oneCell', fillA, D.one, D.ones, D.sz, D.szs, Nat.reduceAdd, Nat.reduceSub, Nat.reduceLeDiff, Nat.reduceEqDiff, reduceIte, pkN, pkF]) | (first | (with_reducible rfl) | (with_reducible refine fnok_id ?_; kernel_rfl) | exact el_strs _ | exact el_ints _ | exact el_ln _ | exact el_tk _ _ | exact el_td _ _ _ | omega | (simp; done) | (simp; omega)) | ((with_reducible refine args_id ?_); simp [ArgsOk, ArgOk, argsD, argD, AC.toD, Value.oneCell', sl_flat, leaf_flat, li_flat, ls_flat, sl_agg, leaf_agg, li_agg, ls_agg, mo_t, mo_f, pkF]; done))
    all_goals first
      | (simp only [List.length_map, List.length_append, List.length_cons, List.length_nil]; omega)
      | (refine roundB (k + 1, v + 1) ?_ (show k + 1 ≤ b.length by omega) (show b.length - (k + 1) < b.length - k by omega)
         simp [StLe', FrLe, OwnLe, BoxLe, AV.fits, AC.fits, FB, mask, htk, hnm, ls, -List.take_append_getElem])
  · obtain rfl : k = b.length := by omega
    rw [List.take_length]
    repeat' (first | (with_reducible first | refine awp_seq ?_ | refine awp_block ?_ | refine awp_skip ?_ | refine awp_exit ?_ | refine awp_ret ?_ | refine athen ?_ | refine thenExit ?_ | refine thenRet ?_ | refine blockNormal ?_ | refine blockExit ?_ | refine blockRet ?_ | refine roundExit ?_ | refine roundRet ?_ | refine roundExitR ?_ | refine roundRetR ?_) | ((with_reducible refine blockPass ?_ ?_); rfl) | ((with_reducible refine awp_condT ?_ ?_); rfl) | ((with_reducible refine awp_condF ?_ ?_); rfl) | ((with_reducible refine awp_reg ?_); intro K hK) | ((with_reducible refine hK _ ?_); clear hK K) | (with_reducible refine and_split ?_ ?_) | ((with_reducible refine ct_id ?_); first | (refine callOwn hsm (el_ln _) ?_ ?_)) | ((with_reducible refine sw_id ?_); simp (disch := first | decide | omega) only [↓pkS, pkW, pkA, undef, capsOf, ex, St.put, St.ev, kav, gdA, opI, rawI, vbin, srcOf, avsD, acsD, AV.toD, AC.toD, AV.nw, AC.nw, AC.one, Value.oneCell', fillA, D.one, D.ones, D.sz, D.szs, Nat.reduceAdd, Nat.reduceSub, Nat.reduceLeDiff, Nat.reduceEqDiff, reduceIte, pkN, pkF]) | (first | (with_reducible rfl) | (with_reducible refine fnok_id ?_; kernel_rfl) | exact el_strs _ | exact el_ints _ | exact el_ln _ | exact el_tk _ _ | exact el_td _ _ _ | omega | (simp; done) | (simp; omega)) | ((with_reducible refine args_id ?_); simp [ArgsOk, ArgOk, argsD, argD, AC.toD, Value.oneCell', sl_flat, leaf_flat, li_flat, ls_flat, sl_agg, leaf_agg, li_agg, ls_agg, mo_t, mo_f, pkF]; done))
    exact endRet ⟨0, _, _, rfl, rfl, rfl, rfl, rfl, rfl, Or.inl rfl⟩
theorem smallestCycle_spec (l : List GPart) (r : List Int) (hr : (bestC l l.length).map Int.ofNat = r) (fp : List Nat) (v : Value) (w : World) (hS : Sl w (l.map GPart.toD) fp v) (hw : l.length + D.wts (l.map GPart.toD) ≤ 1048576) : Calls Tryz.prog 43 #[v] w (TosPost (r.map li) w) := by
  subst hr
  rw [List.map_map]
  exact of_own (small_spec_to l hw) (flat_ln _) (vs := [v]) ⟨rd_of_sl hS, trivial⟩
theorem cycleNames_spec (l : List GPart) (r : List ByteArray) (hr : cycNames l = r) (fp : List Nat) (v : Value) (w : World) (hS : Sl w (l.map GPart.toD) fp v) (hw : l.length + D.wts (l.map GPart.toD) ≤ 1048576) : Calls Tryz.prog 45 #[v] w (TosPost (r.map ls) w) :=
  hr ▸ of_own (cycNames_spec_to l hw) (flat_strs' _) (vs := [v]) ⟨rd_of_sl hS, trivial⟩
theorem smallestCycle_impl (l : List GPart) (r : List Int) (hr : (bestC l l.length).map Int.ofNat = r) (fp : List Nat) (v : Value) (w : World) (hS : Sl w (l.map GPart.toD) fp v) (hw : l.length + D.wts (l.map GPart.toD) ≤ 1048576) : Calls Tryz.prog 44 #[v] w (TosPost (r.map li) w) := by
  subst hr
  rw [List.map_map]
  exact of_own (small_impl_to l hw) (flat_ln _) (vs := [v]) ⟨rd_of_sl hS, trivial⟩
theorem cycleNames_impl (l : List GPart) (r : List ByteArray) (hr : cycNames l = r) (fp : List Nat) (v : Value) (w : World) (hS : Sl w (l.map GPart.toD) fp v) (hw : l.length + D.wts (l.map GPart.toD) ≤ 1048576) : Calls Tryz.prog 46 #[v] w (TosPost (r.map ls) w) :=
  hr ▸ of_own (cycNames_impl_to l hw) (flat_strs' _) (vs := [v]) ⟨rd_of_sl hS, trivial⟩
end Go.Proofs.YtkjodhljaehkjaaGreat
