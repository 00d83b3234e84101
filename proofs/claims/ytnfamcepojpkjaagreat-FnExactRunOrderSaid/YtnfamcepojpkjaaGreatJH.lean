/-
  Texts joined: Far FarC Thru Small.
-/
import Derived.Test.YtnfamcepojpkjaaGreatJE
import Derived.Test.YtnfamcepojpkjaaGreatJF
namespace Go.Proofs.YtnfamcepojpkjaaGreat
open Go.RowKit
set_option linter.unusedSimpArgs false
set_option linter.unusedVariables false
/-- From u to i in just k steps. -/
def Way (f : Nat → List Nat) (i : Nat) : Nat → Nat → Prop
  | 0, u => u = i
  | k + 1, u => ∃ v ∈ f u, Way f i k v
theorem least {P : Nat → Prop} : (∃ n, P n) → ∃ n, P n ∧ ∀ m, P m → n ≤ m := by
  rintro ⟨n, hn⟩
  induction n using Nat.strongRecOn with
  | ind n ih =>
    by_cases h : ∃ m, m < n ∧ P m
    · obtain ⟨m, h1, h2⟩ := h
      exact ih m h1 h2
    · exact ⟨n, hn, fun m hm => by
        rcases Nat.lt_or_ge m n with h' | h'
        · exact absurd ⟨m, h', hm⟩ h
        · exact h'⟩
noncomputable def dst (f : Nat → List Nat) (i u : Nat) : Nat := @dite _ (∃ n, 1 ≤ n ∧ Way f i n u) (Classical.propDecidable _) (fun h => Classical.choose (least h)) (fun _ => 0)
theorem dst_way {f : Nat → List Nat} {i u : Nat} (h : 1 ≤ dst f i u) : Way f i (dst f i u) u := by
  unfold dst at h ⊢
  split
  · next hx => exact (Classical.choose_spec (least hx)).1.2
  · next hx => rw [dif_neg hx] at h; omega
theorem dst_le {f : Nat → List Nat} {i u n : Nat} (h1 : 1 ≤ n) (h : Way f i n u) : 1 ≤ dst f i u ∧ dst f i u ≤ n := by
  have hx : ∃ n, 1 ≤ n ∧ Way f i n u := ⟨n, h1, h⟩
  unfold dst
  rw [dif_pos hx]
  exact ⟨(Classical.choose_spec (least hx)).1.1, (Classical.choose_spec (least hx)).2 n ⟨h1, h⟩⟩
theorem dst_next {f : Nat → List Nat} {i u n : Nat} (h1 : 1 ≤ n) (h : dst f i u = n + 1) : ∃ v ∈ f u, dst f i v = n := by
  have hw := dst_way (f := f) (i := i) (u := u) (by omega)
  rw [h] at hw
  obtain ⟨v, hv, hv2⟩ := hw
  have h2 := dst_le h1 hv2
  refine ⟨v, hv, ?_⟩
  have h3 := dst_way h2.1
  have h4 := dst_le (f := f) (i := i) (u := u) (n := dst f i v + 1) (by omega) ⟨v, hv, h3⟩
  omega
theorem dst_one {f : Nat → List Nat} {i u : Nat} : dst f i u = 1 ↔ i ∈ f u := by
  constructor
  · intro h
    have hw := dst_way (f := f) (i := i) (u := u) (by omega)
    rw [h] at hw
    obtain ⟨v, hv, hv2⟩ := hw
    have : v = i := hv2
    exact this ▸ hv
  · intro h
    have := dst_le (f := f) (i := i) (u := u) (n := 1) (by omega) ⟨i, h, rfl⟩
    omega
theorem dst_step {f : Nat → List Nat} {i u v n : Nat} (h1 : 1 ≤ n) (hv : v ∈ f u) (h : dst f i v = n) : 1 ≤ dst f i u ∧ dst f i u ≤ n + 1 :=
  dst_le (by omega) ⟨v, hv, h ▸ dst_way (by omega)⟩
theorem dst_down {f : Nat → List Nat} {i n : Nat} (h1 : 1 ≤ n) (h : ∀ u, dst f i u ≠ n) : ∀ m u, dst f i u ≠ n + m
  | 0, u => h u
  | m + 1, u => fun e => by
    obtain ⟨v, _, hv⟩ := dst_next (n := n + m) (by omega) (show dst f i u = n + m + 1 by omega)
    exact dst_down h1 h m v hv
/-- The table as far as it is known before round n. -/
noncomputable def fvT (f : Nat → List Nat) (i n u : Nat) : Int := if 1 ≤ dst f i u ∧ dst f i u < n then (dst f i u : Int) else -1
noncomputable def fvI (f : Nat → List Nat) (i u : Nat) : Int := if 1 ≤ dst f i u then (dst f i u : Int) else -1
noncomputable def farL (f : Nat → List Nat) (N i : Nat) : List Int := (List.range N).map (fvI f i)
theorem farL_len (f : Nat → List Nat) (N i : Nat) : (farL f N i).length = N := by simp [farL]
theorem farL_at (f : Nat → List Nat) (N i k : Nat) (h : k < (farL f N i).length) : (farL f N i)[k] = fvI f i k := by simp [farL]
noncomputable def unk (f : Nat → List Nat) (N i n : Nat) : Nat := sumF (fun u => decide (¬ (1 ≤ dst f i u ∧ dst f i u < n))) (fun _ => 1) N
theorem sumF_imp {p q : Nat → Bool} (h : ∀ x, p x = true → q x = true) : ∀ n, sumF p (fun _ => 1) n ≤ sumF q (fun _ => 1) n
  | 0 => Nat.le_refl _
  | n + 1 => by
    have := sumF_imp h n
    have h2 := h n
    simp only [sumF]
    cases hp : p n <;> cases hq : q n <;> simp_all <;> omega
theorem sumF_lt {p q : Nat → Bool} (h : ∀ x, p x = true → q x = true) {k : Nat} (hp : p k = false) (hq : q k = true) : ∀ n, k < n → sumF p (fun _ => 1) n + 1 ≤ sumF q (fun _ => 1) n
  | 0, hk => by omega
  | n + 1, hk => by
    have h2 := h n
    simp only [sumF]
    rcases Nat.lt_or_ge k n with h' | h'
    · have := sumF_lt h hp hq n h'
      cases hp : p n <;> cases hq : q n <;> simp_all <;> omega
    · obtain rfl : k = n := by omega
      have := sumF_imp h k
      rw [hp, hq]
      simp
      omega
theorem sumF_cnt (p : Nat → Bool) : ∀ n, sumF p (fun _ => 1) n ≤ n
  | 0 => Nat.le_refl _
  | n + 1 => by have := sumF_cnt p n; simp only [sumF]; split <;> omega
theorem unk_mono (f : Nat → List Nat) (N i n : Nat) : unk f N i (n + 1) ≤ unk f N i n := sumF_imp (fun x hx => by simp only [decide_eq_true_eq] at hx ⊢; omega) N
theorem unk_lt (f : Nat → List Nat) (N i n : Nat) {u : Nat} (h1 : 1 ≤ n) (hu : u < N) (h : dst f i u = n) : unk f N i (n + 1) + 1 ≤ unk f N i n :=
  sumF_lt (fun x hx => by simp only [decide_eq_true_eq] at hx ⊢; omega) (k := u) (by simp; omega) (by simp; omega) N hu
/-- Before round n. -/
structure FarInv (f : Nat → List Nat) (N i : Nat) (n : Nat) (far : List Int) (list : List Nat) : Prop where
  n1 : 1 ≤ n
  len : far.length = N
  far : ∀ u (h : u < far.length), far[u] = fvT f i n u
  nx : ∀ u, u < N → (dst f i u = n ↔ (¬ (1 ≤ dst f i u ∧ dst f i u < n) ∧ ∃ v ∈ list, v ∈ f u))
  lt : ∀ v ∈ list, v < N
  nd : list.Nodup
  bd : n + unk f N i n + (if list = [] then 0 else 1) ≤ N + 2
theorem FarInv.start {f : Nat → List Nat} {N i : Nat} (hi : i < N) : FarInv f N i 1 (List.replicate N (-1)) [i] where
  n1 := Nat.le_refl _
  len := by simp
  far := fun u h => by rw [List.getElem_replicate]; unfold fvT; rw [if_neg (by omega)]
  nx := fun u hu => by
    rw [dst_one]
    simp only [List.mem_singleton, exists_eq_left]
    refine ⟨fun h => ⟨by omega, h⟩, fun h => h.2⟩
  lt := by simpa using hi
  nd := by simp
  bd := by
    have := sumF_cnt (fun u => decide (¬ (1 ≤ dst f i u ∧ dst f i u < 1))) N
    unfold unk
    simp only [List.cons_ne_nil, if_false]
    omega
/-- Within round n: k of the list are done. -/
structure RndInv (f : Nat → List Nat) (N i : Nat) (n : Nat) (list : List Nat) (k : Nat) (far : List Int) (next : List Nat) : Prop where
  len : far.length = N
  far : ∀ u (h : u < far.length), far[u] = if u ∈ next then (n : Int) else fvT f i n u
  nxt : ∀ u ∈ next, u < N ∧ dst f i u = n
  dn : ∀ v ∈ list.take k, ∀ u, u < N → v ∈ f u → dst f i u = n → u ∈ next
  nd : next.Nodup
  le : k ≤ list.length
theorem FarInv.round {f : Nat → List Nat} {N i n : Nat} {far : List Int} {list : List Nat} (h : FarInv f N i n far list) : RndInv f N i n list 0 far [] where
  len := h.len
  far := fun u hu => by rw [h.far u hu]; simp
  nxt := by simp
  dn := by simp
  nd := List.nodup_nil
  le := Nat.zero_le _
theorem RndInv.fin {f : Nat → List Nat} {N i n : Nat} {far0 far : List Int} {list next : List Nat} (hF : ∀ u, ∀ v ∈ f u, v < N) (h0 : FarInv f N i n far0 list) (hne : 0 < list.length) (h : RndInv f N i n list list.length far next) : FarInv f N i (n + 1) far next := by
  have hn1 := h0.n1
  have hm : ∀ u, u < N → (u ∈ next ↔ dst f i u = n) := fun u hu => ⟨fun hx => (h.nxt u hx).2, fun hd => by
    obtain ⟨_, v, hv, hvu⟩ := (h0.nx u hu).1 hd
    exact h.dn v (by rw [List.take_length]; exact hv) u hu hvu hd⟩
  refine { n1 := by omega, len := h.len, far := fun u hu => ?_, nx := fun u hu => ?_, lt := fun v hv => (h.nxt v hv).1, nd := h.nd, bd := ?_ }
  · rw [h.far u hu]
    have := hm u (by rw [← h.len]; exact hu)
    by_cases hd : dst f i u = n
    · rw [if_pos (this.2 hd)]; unfold fvT; rw [if_pos (by omega), hd]
    · rw [if_neg (fun hx => hd (this.1 hx))]
      unfold fvT
      by_cases h2 : 1 ≤ dst f i u ∧ dst f i u < n
      · rw [if_pos h2, if_pos (by omega)]
      · rw [if_neg h2, if_neg (by omega)]
  · constructor
    · intro hd
      obtain ⟨v, hv, hv2⟩ := dst_next hn1 hd
      exact ⟨by omega, v, (hm v (hF u v hv)).2 hv2, hv⟩
    · rintro ⟨h1, v, hv, hvu⟩
      have := dst_step hn1 hvu (h.nxt v hv).2
      omega
  · have h1 := h0.bd
    rw [if_neg (by intro e; rw [e] at hne; simp at hne)] at h1
    cases next with
    | nil =>
      have := unk_mono f N i n
      simp only [if_true]
      omega
    | cons u next =>
      have h2 := h.nxt u (by simp)
      have := unk_lt f N i n hn1 h2.1 h2.2
      simp only [List.cons_ne_nil, if_false]
      omega
/-- Within the look at one of the list: j of those that use it are done. -/
structure UsrInv (f : Nat → List Nat) (N i : Nat) (n : Nat) (list : List Nat) (k : Nat) (us : List Nat) (j : Nat) (far : List Int) (next : List Nat) : Prop extends RndInv f N i n list k far next where
  klt : k < list.length
  c : ∀ u ∈ us.take j, dst f i u = n → u ∈ next
  jle : j ≤ us.length
theorem RndInv.users {f : Nat → List Nat} {N i n : Nat} {far : List Int} {list next : List Nat} {k : Nat} (us : List Nat) (h : RndInv f N i n list k far next) (hk : k < list.length) : UsrInv f N i n list k us 0 far next :=
  { h with klt := hk, c := by simp, jle := Nat.zero_le _ }
theorem UsrInv.skip {f : Nat → List Nat} {N i n : Nat} {far : List Int} {list next us : List Nat} {k j : Nat} (h : UsrInv f N i n list k us j far next) (hj : j < us.length) (hlt : us[j] < far.length) (hc : ¬ far[us[j]] < 0) : UsrInv f N i n list k us (j + 1) far next :=
  { h with c := fun u hu hd => by
             rw [List.take_succ_eq_append_getElem hj, List.mem_append, List.mem_singleton] at hu
             rcases hu with hu | rfl
             · exact h.c u hu hd
             · rw [h.far _ hlt] at hc
               by_cases hm : us[j] ∈ next
               · exact hm
               · rw [if_neg hm] at hc
                 unfold fvT at hc
                 rw [if_neg (by omega)] at hc
                 exact absurd (show (-1 : Int) < 0 by omega) hc
           jle := hj }
theorem UsrInv.put {f : Nat → List Nat} {N i n : Nat} {far0 far : List Int} {list next us : List Nat} {k j : Nat} (h0 : FarInv f N i n far0 list) (h : UsrInv f N i n list k us j far next) (hus : ∀ u ∈ us, u < N ∧ list[k]'h.klt ∈ f u) (hj : j < us.length) (hlt : us[j] < far.length) (hc : far[us[j]] < 0) : UsrInv f N i n list k us (j + 1) (far.set us[j] (n : Int)) (next ++ [us[j]]) := by
  have hn1 := h0.n1
  have hm := hus us[j] (List.getElem_mem hj)
  rw [h.far _ hlt] at hc
  have hnm : us[j] ∉ next := fun hx => by rw [if_pos hx] at hc; omega
  rw [if_neg hnm] at hc
  have hd : dst f i us[j] = n := (h0.nx _ hm.1).2 ⟨fun hx => by unfold fvT at hc; rw [if_pos hx] at hc; omega, _, List.getElem_mem h.klt, hm.2⟩
  refine { len := by rw [List.length_set]; exact h.len, far := fun u hu => ?_, nxt := fun u hu => ?_, dn := fun v hv u hu hvu hdu => List.mem_append_left _ (h.dn v hv u hu hvu hdu), nd := nodup_snoc h.nd hnm, le := h.le, klt := h.klt, c := fun u hu hdu => ?_, jle := hj }
  · rw [List.length_set] at hu
    by_cases e : us[j] = u
    · subst e
      rw [List.getElem_set_self, if_pos (by simp)]
    · rw [List.getElem_set_ne e, h.far u hu]
      have : (u ∈ next ++ [us[j]]) ↔ u ∈ next := by simp; intro e2; exact absurd e2.symm e
      simp only [this]
  · rw [List.mem_append, List.mem_singleton] at hu
    rcases hu with hu | rfl
    · exact h.nxt u hu
    · exact ⟨hm.1, hd⟩
  · rw [List.take_succ_eq_append_getElem hj, List.mem_append, List.mem_singleton] at hu
    rcases hu with hu | rfl
    · exact List.mem_append_left _ (h.c u hu hdu)
    · simp
theorem UsrInv.fin {f : Nat → List Nat} {N i n : Nat} {far : List Int} {list next us : List Nat} {k : Nat} (h : UsrInv f N i n list k us us.length far next) (hus : ∀ u, u < N → list[k]'h.klt ∈ f u → u ∈ us) : RndInv f N i n list (k + 1) far next :=
  { len := h.len, far := h.far, nxt := h.nxt, nd := h.nd, le := h.klt
    dn := fun v hv u hu hvu hd => by
      rw [List.take_succ_eq_append_getElem h.klt, List.mem_append, List.mem_singleton] at hv
      rcases hv with hv | rfl
      · exact h.dn v hv u hu hvu hd
      · exact h.c u (by rw [List.take_length]; exact hus u hu hvu) hd }
theorem FarInv.fin {f : Nat → List Nat} {N i n : Nat} {far : List Int} (hF : ∀ u, ∀ v ∈ f u, v < N) (hN : ∀ u, N ≤ u → f u = []) (h : FarInv f N i n far []) : far = farL f N i := by
  refine List.ext_getElem (by rw [h.len, farL_len]) (fun u h1 h2 => ?_)
  rw [h.far u h1, farL_at]
  have hno : ∀ u, dst f i u ≠ n := fun u e => by
    rcases Nat.lt_or_ge u N with hu | hu
    · obtain ⟨_, v, hv, _⟩ := (h.nx u hu).1 e
      simp at hv
    · have hw := dst_way (f := f) (i := i) (u := u) (by have := h.n1; omega)
      have hn1 := h.n1
      obtain ⟨m, hm⟩ : ∃ m, dst f i u = m + 1 := ⟨dst f i u - 1, by omega⟩
      rw [hm] at hw
      obtain ⟨v, hv, _⟩ := hw
      rw [hN u hu] at hv
      simp at hv
  unfold fvT fvI
  by_cases h3 : 1 ≤ dst f i u
  · have h4 : dst f i u < n := by
      rcases Nat.lt_or_ge (dst f i u) n with h4 | h4
      · exact h4
      · exact absurd (show dst f i u = n + (dst f i u - n) by omega) (dst_down h.n1 hno _ u)
    rw [if_pos ⟨h3, h4⟩, if_pos h3]
  · rw [if_neg (by omega), if_neg h3]
theorem FarInv.n_le {f : Nat → List Nat} {N i n : Nat} {far : List Int} {list : List Nat} (h : FarInv f N i n far list) : n ≤ N + 2 := by have := h.bd; omega
theorem FarInv.n_lt {f : Nat → List Nat} {N i n : Nat} {far : List Int} {list : List Nat} (h : FarInv f N i n far list) (h0 : 0 < list.length) : n ≤ N + 1 := by
  have := h.bd
  rw [if_neg (by intro e; rw [e] at h0; simp at h0)] at this
  omega
theorem FarInv.l_len {f : Nat → List Nat} {N i n : Nat} {far : List Int} {list : List Nat} (h : FarInv f N i n far list) : list.length ≤ N := nodup_len h.nd h.lt
theorem RndInv.x_len {f : Nat → List Nat} {N i n : Nat} {far : List Int} {list next : List Nat} {k : Nat} (h : RndInv f N i n list k far next) : next.length ≤ N := nodup_len h.nd fun u hu => (h.nxt u hu).1
/-! ### The way back -/
def fstP (p : Nat → Bool) (d : Nat) : List Nat → Nat
  | [] => d
  | x :: l => if p x then x else fstP p d l
theorem fstP_at (p : Nat → Bool) (d : Nat) : ∀ (l : List Nat) {k : Nat} (h : k < l.length), (∀ m (hm : m < k), p (l[m]'(by omega)) = false) → p l[k] = true → fstP p d l = l[k]
  | x :: l, 0, h, _, e => by
    have e' : p x = true := e
    unfold fstP
    rw [if_pos e']
    rfl
  | x :: l, k + 1, h, h1, e => by
    have h0 := h1 0 (by omega)
    unfold fstP
    rw [if_neg (by simpa using h0)]
    exact fstP_at p d l (by simpa using h) (fun m hm => h1 (m + 1) (by omega)) e
theorem fstP_mem (p : Nat → Bool) (d : Nat) : ∀ (l : List Nat), (∃ x ∈ l, p x = true) → fstP p d l ∈ l ∧ p (fstP p d l) = true
  | [], h => by simp at h
  | x :: l, h => by
    unfold fstP
    by_cases e : p x = true
    · rw [if_pos e]; exact ⟨by simp, e⟩
    · rw [if_neg e]
      have := fstP_mem p d l (by
        obtain ⟨y, hy, h2⟩ := h
        rcases List.mem_cons.1 hy with rfl | hy
        · exact absurd h2 e
        · exact ⟨y, hy, h2⟩)
      exact ⟨List.mem_cons_of_mem _ this.1, this.2⟩
/-- Is it the next one, with n steps to go? -/
noncomputable def isN (f : Nat → List Nat) (i n k : Nat) : Bool := decide (k ≠ i) && (fvI f i k == (n : Int) - 1)
noncomputable def wk (f : Nat → List Nat) (i : Nat) : Nat → Nat
  | 0 => i
  | j + 1 => fstP (isN f i (dst f i i - j)) 0 (f (wk f i j))
theorem wk_dst {f : Nat → List Nat} {i : Nat} (h1 : 1 ≤ dst f i i) : ∀ j, j < dst f i i → dst f i (wk f i j) = dst f i i - j ∧ (∀ h : j + 1 < dst f i i, ∃ x ∈ f (wk f i j), isN f i (dst f i i - j) x = true)
  | 0, hj => by
    refine ⟨by simp [wk], fun h => ?_⟩
    obtain ⟨v, hv, h2⟩ := dst_next (f := f) (i := i) (u := i) (n := dst f i i - 1) (by omega) (by omega)
    refine ⟨v, hv, ?_⟩
    have hne : v ≠ i := fun e => by subst e; omega
    simp [isN, hne, fvI, h2]
    rw [if_pos (by omega)]
    omega
  | j + 1, hj => by
    have ih := wk_dst h1 j (by omega)
    have hx := fstP_mem (isN f i (dst f i i - j)) 0 (f (wk f i j)) (ih.2 hj)
    have hd : dst f i (wk f i (j + 1)) = dst f i i - (j + 1) := by
      have h2 := hx.2
      change isN f i (dst f i i - j) (wk f i (j + 1)) = true at h2
      simp only [isN, fvI, Bool.and_eq_true, beq_iff_eq] at h2
      have h3 := h2.2
      split at h3 <;> omega
    refine ⟨hd, fun h => ?_⟩
    obtain ⟨v, hv, h2⟩ := dst_next (f := f) (i := i) (u := wk f i (j + 1)) (n := dst f i i - (j + 1) - 1) (by omega) (by omega)
    refine ⟨v, hv, ?_⟩
    have hne : v ≠ i := fun e => by subst e; omega
    simp [isN, hne, fvI, h2]
    rw [if_pos (by omega)]
    omega
theorem wk_mem {f : Nat → List Nat} {i : Nat} (h1 : 1 ≤ dst f i i) {j : Nat} (hj : j + 1 < dst f i i) : wk f i (j + 1) ∈ f (wk f i j) := (fstP_mem _ 0 _ ((wk_dst h1 j (by omega)).2 hj)).1
/-- It is found before the end. -/
theorem wk_found {f : Nat → List Nat} {i : Nat} (h1 : 1 ≤ dst f i i) {j : Nat} (hj : j + 1 < dst f i i) (h : ∀ m (hm : m < (f (wk f i j)).length), isN f i (dst f i i - j) (f (wk f i j))[m] = false) : False := by
  obtain ⟨x, hx, h2⟩ := (wk_dst h1 j (by omega)).2 hj
  obtain ⟨m, hm, rfl⟩ := List.mem_iff_getElem.1 hx
  rw [h m hm] at h2
  cases h2
theorem wk_is {f : Nat → List Nat} {i j k : Nat} (hk : k < (f (wk f i j)).length) (h : ∀ m (hm : m < k), isN f i (dst f i i - j) ((f (wk f i j))[m]'(by omega)) = false) (e : isN f i (dst f i i - j) (f (wk f i j))[k] = true) : wk f i (j + 1) = (f (wk f i j))[k] := fstP_at _ 0 _ hk h e
theorem wk_lt {f : Nat → List Nat} {N i : Nat} (hF : ∀ u, ∀ v ∈ f u, v < N) (hi : i < N) (h1 : 1 ≤ dst f i i) : ∀ {j : Nat}, j < dst f i i → wk f i j < N
  | 0, _ => hi
  | j + 1, hj => hF _ _ (wk_mem h1 hj)
/-- The list of the way. -/
noncomputable def wkL (f : Nat → List Nat) (i j : Nat) : List Nat := (List.range j).map (wk f i)
theorem wkL_len (f : Nat → List Nat) (i j : Nat) : (wkL f i j).length = j := by simp [wkL]
theorem wkL_succ (f : Nat → List Nat) (i j : Nat) : wkL f i (j + 1) = wkL f i j ++ [wk f i j] := by simp [wkL, List.range_succ]
theorem wkL_at (f : Nat → List Nat) (i j k : Nat) (h : k < (wkL f i j).length) : (wkL f i j)[k] = wk f i k := by simp [wkL]
theorem wkL_lt {f : Nat → List Nat} {N i : Nat} (hF : ∀ u, ∀ v ∈ f u, v < N) (hi : i < N) (h1 : 1 ≤ dst f i i) {j : Nat} (hj : j ≤ dst f i i) : ∀ x ∈ wkL f i j, x < N := fun x hx => by
  obtain ⟨k, hk, rfl⟩ := List.mem_map.1 hx
  rw [List.mem_range] at hk
  exact wk_lt hF hi h1 (by omega)
/-! ### On a cycle -/
theorem rch_way {f : Nat → List Nat} {g : Int → List Nat} (hg : ∀ k : Nat, g (k : Int) = f k) {i u x : Nat} (h : Rch g (u : Int) x) : ∃ n, 1 ≤ n ∧ Way f x n u := by
  have app : ∀ n u y x, Way f y n u → x ∈ f y → Way f x (n + 1) u := by
    intro n
    induction n with
    | zero =>
      intro u y x h1 h2
      have : u = y := h1
      exact ⟨x, this ▸ h2, rfl⟩
    | succ n ih =>
      rintro u y x ⟨v, hv, h1⟩ h2
      exact ⟨v, hv, ih v y x h1 h2⟩
  induction h with
  | one h => exact ⟨1, Nat.le_refl _, _, by rw [hg] at h; exact h, rfl⟩
  | more _ h ih =>
    obtain ⟨n, h1, h2⟩ := ih
    rw [hg] at h
    exact ⟨n + 1, by omega, app n _ _ _ h2 h⟩
theorem way_rch {f : Nat → List Nat} {g : Int → List Nat} (hg : ∀ k : Nat, g (k : Int) = f k) {x : Nat} : ∀ n u, Way f x (n + 1) u → Rch g (u : Int) x := by
  have con : ∀ {u v : Nat} {x : Nat}, v ∈ f u → Rch g (v : Int) x → Rch g (u : Int) x := by
    intro u v x hv h
    induction h with
    | one h => exact .more (.one (by rw [hg]; exact hv)) h
    | more _ h ih => exact .more ih h
  intro n
  induction n with
  | zero =>
    rintro u ⟨v, hv, h⟩
    have : v = x := h
    subst this
    exact .one (by rw [hg]; exact hv)
  | succ n ih =>
    rintro u ⟨v, hv, h⟩
    exact con hv (ih v h)
theorem dst_pos {f : Nat → List Nat} {g : Int → List Nat} (hg : ∀ k : Nat, g (k : Int) = f k) {i u : Nat} : 1 ≤ dst f i u ↔ Rch g (u : Int) i := by
  constructor
  · intro h
    have hw := dst_way h
    obtain ⟨m, hm⟩ : ∃ m, dst f i u = m + 1 := ⟨dst f i u - 1, by omega⟩
    rw [hm] at hw
    exact way_rch hg m u hw
  · intro h
    obtain ⟨n, h1, h2⟩ := rch_way (i := i) hg h
    exact (dst_le h1 h2).1
/-- A way on a cycle is not longer than there are numbers. -/
theorem dst_bd {f : Nat → List Nat} {N i n : Nat} {far : List Int} (hF : ∀ u, ∀ v ∈ f u, v < N) (hN : ∀ u, N ≤ u → f u = []) (h : FarInv f N i n far []) (u : Nat) : dst f i u < n ∧ n ≤ N + 2 := by
  refine ⟨?_, h.n_le⟩
  have hno : ∀ u, dst f i u ≠ n := fun u e => by
    rcases Nat.lt_or_ge u N with hu | hu
    · obtain ⟨_, v, hv, _⟩ := (h.nx u hu).1 e
      simp at hv
    · have hw := dst_way (f := f) (i := i) (u := u) (by have := h.n1; omega)
      have hn1 := h.n1
      obtain ⟨m, hm⟩ : ∃ m, dst f i u = m + 1 := ⟨dst f i u - 1, by omega⟩
      rw [hm] at hw
      obtain ⟨v, hv, _⟩ := hw
      rw [hN u hu] at hv
      simp at hv
  rcases Nat.lt_or_ge (dst f i u) n with h4 | h4
  · exact h4
  · exact absurd (show dst f i u = n + (dst f i u - n) by omega) (dst_down h.n1 hno _ u)
end Go.Proofs.YtnfamcepojpkjaaGreat

namespace Go.Proofs.YtnfamcepojpkjaaGreat
open Go.RowKit
set_option linter.unusedSimpArgs false
set_option linter.unusedVariables false
theorem du_out (l : List GPart) {i : Nat} (h : l.length ≤ i) : du l i = [] := by unfold du; rw [List.getElem?_eq_none h]
theorem mem_usI {l : List GPart} {v u : Nat} : u ∈ usI l (v : Int) ↔ u < l.length ∧ v ∈ du l u := by unfold usI; rw [mem_setN, hasI_nat, List.contains_iff_mem]
theorem pkF : type_of% (And.intro @ln_acs (And.intro @el_ln (And.intro @getq_map (And.intro @GPart.acs_eq (And.intro @GPart.flat_eq (And.intro @GPart.agg_eq @GPart.el)))))) := And.intro @ln_acs (And.intro @el_ln (And.intro @getq_map (And.intro @GPart.acs_eq (And.intro @GPart.flat_eq (And.intro @GPart.agg_eq @GPart.el)))))
theorem set_li (l : List Int) (k : Nat) (z : Int) : (l.map li).set k (li z) = (l.set k z).map li := by rw [List.map_set]
end Go.Proofs.YtnfamcepojpkjaaGreat
