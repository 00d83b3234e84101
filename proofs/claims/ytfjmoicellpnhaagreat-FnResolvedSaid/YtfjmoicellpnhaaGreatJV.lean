/-
  Texts joined: Defs2 Sort2 Sort3 SortLaw Lgb NWith.
-/
import Derived.Test.YtfjmoicellpnhaaGreatJR
import Derived.BigQuiet
import Derived.Test.YtfjmoicellpnhaaGreatJG
import Derived.Sort.OwnSorted
import Derived.Sort.Walk0
import Derived.Test.YtfjmoicellpnhaaGreatJU
import Derived.Test.YtfjmoicellpnhaaGreatJA
namespace Go.Proofs.YtfjmoicellpnhaaGreat
open Go.RowKit
set_option linter.unusedSimpArgs false
set_option linter.unusedVariables false
theorem xA.tos {w w' : World} {l : List Int} {v : Value} (h : xA w' w.heap.size l v) (hb : Below w.heap.size w w') : jC (l.map li) w (.returned v) w' :=
  ⟨v.ownBlock.toList, v, rfl, h.sl, by have := fP.of_own h fP.nil (fun g _ => by simp); rwa [List.append_nil] at this, hb⟩
theorem uH.tos {l : List GPart} {nm : ByteArray} {w w' : World} {e : Ending} (h : uH l nm w e w') : jC ((cu l nm l.length).map li) w e w' := by
  obtain ⟨v, rfl, ho, hb⟩ := h
  exact ho.tos hb
theorem yu (l : List GPart) (nm : ByteArray) (fp : List Nat) (v : Value) (w : World) (hS : Sl w (l.map GPart.toD) fp v) (hn : l.length ≤ 1048576) : Calls Tryz.prog 23 #[v, .string nm] w (jC ((cu l nm l.length).map li) w) :=
  (kE l nm fp v w hS hn).mono fun _ _ h => h.tos
theorem yj (l : List GPart) (nm : ByteArray) (fp : List Nat) (v : Value) (w : World) (hS : Sl w (l.map GPart.toD) fp v) (hn : l.length ≤ 1048576) : Calls Tryz.prog 25 #[v, .string nm] w (jC ((cu l nm l.length).map li) w) :=
  (uP l nm fp v w hS hn).mono fun _ _ h => h.tos

set_option maxHeartbeats 1000000 in
theorem FD (l : List GPart) (nm : ByteArray) (fp : List Nat) (v : Value) (w : World) (hS : Sl w (l.map GPart.toD) fp v) (hn : l.length ≤ 1048576) : Calls Tryz.prog 22 #[v, .string nm] w (CV (.int .i64 (Um (cu l nm l.length))) w) := by
  have hc := kE l nm fp v w hS hn
  have hle := Lib.hid (mG l nm l.length)
  unfold uH at hc
  generalize cu l nm l.length = D at *
  obtain ⟨A, c, rfl, _, _⟩ := hS.fH
  clear hS
  go_enter Tryz.func22, Tryz.ntmps22
  go_wp2_with fail
  refine hc.mono ?_
  rintro e w1 ⟨v1, rfl, ho, hb⟩
  have hsl := ho.sl
  obtain ⟨A1, c1, rfl, _, _⟩ := hsl.fH
  match D, ho, hsl, hle with
  | [], ho, hsl, hle =>
    clear ho hsl hle
    go_wp2_with fail
    go_ret
    exact ⟨rfl, hb⟩
  | [x], ho, hsl, hle =>
    obtain ⟨b, o, fi, ci, rfl, hbb, hbf, hri, hfi, hat⟩ := hsl.elem LV (k := 0) (d := li x) rfl
    obtain ⟨rfl, rfl⟩ := hri
    have q0 : w1.cell? ⟨b, o, none⟩ = some (.int .i64 x) := by simpa using hat.head
    clear hat ho hsl hle
    go_wp2_with fail
    go_ret
    exact ⟨rfl, hb⟩
  | x :: y :: r, ho, hsl, hle =>
    have hl : (x :: y :: r).length ≤ 1048576 := Nat.le_trans hle.out hn
    rw [List.length_cons, List.length_cons] at hl
    clear ho hsl hle
    go_wp2_with fail
    go_ret
    exact ⟨rfl, hb⟩
def Px (acc : List ByteArray) (x : ByteArray) (at_ : Nat) : List ByteArray := if acc[at_]? = some x then acc else acc.take at_ ++ [x] ++ acc.drop at_
def ltS (a b : ByteArray) : Bool := Op.bytesLess a.toList b.toList
def LH : List ByteArray → ByteArray → Nat
  | [], _ => 0
  | y :: r, x => if ltS y x then LH r x + 1 else 0
theorem XR (l : List ByteArray) (x : ByteArray) : LH l x ≤ l.length := by
  induction l with
  | nil => simp [LH]
  | cons y r ih => rw [LH]; split <;> simp <;> omega
def x9 (acc : List ByteArray) (x : ByteArray) : List ByteArray := Px acc x (LH acc x)
theorem Vy (acc : List ByteArray) (x : ByteArray) : (x9 acc x).length ≤ acc.length + 1 := by
  unfold x9 Px
  have := XR acc x
  split <;> simp <;> omega
def pX (l : List ByteArray) (k : Nat) : List ByteArray := (l.take k).foldl x9 []
theorem Ll (l : List ByteArray) (k : Nat) : (pX l k).length ≤ k := by
  induction k with
  | zero => simp [pX]
  | succ k ih =>
    by_cases h : k < l.length
    · unfold pX
      rw [List.take_succ_eq_append_getElem h, List.foldl_append]
      have := Vy ((l.take k).foldl x9 []) l[k]
      unfold pX at ih
      simp only [List.foldl_cons, List.foldl_nil]
      omega
    · unfold pX at ih ⊢
      rw [List.take_of_length_le (by omega)] at ih ⊢
      omega
def zX (l : List ByteArray) (w : World) (en : Ending) (w' : World) : Prop := ∃ f v, en = .returned v ∧ gZ w' w.heap.size 9 1 (l.map ls) f v ∧ Below w.heap.size w w'
theorem zX.tos {l : List ByteArray} {w w' : World} {en : Ending} (h : zX l w en w') : jC (l.map ls) w en w' := by
  obtain ⟨f, v, rfl, h1, h2⟩ := h
  exact h1.tos h2
def toB (x : List UInt8) : ByteArray := ⟨x.toArray⟩
def ofB (s : ByteArray) : List UInt8 := s.data.toList
theorem vV (s : ByteArray) : toB (ofB s) = s := by cases s; simp [toB, ofB]
theorem O7 (x : List UInt8) : ofB (toB x) = x := by simp [toB, ofB]
def rP (l : List ByteArray) : List ByteArray := ((l.map ofB).mergeSort fun x y => decide (x ≤ y)).map toB
theorem Q7 (l : List ByteArray) : (rP l).length = l.length := by simp [rP]
theorem zW {w : World} : ∀ {l : List ByteArray} {fp : List Nat} {cs : List Value}, Rs w (l.map ls) fp cs ↔ fp = [] ∧ cs = l.map Value.string
  | [], fp, cs => by rw [List.map_nil, Rs]; rfl
  | x :: l, fp, cs => by
    rw [List.map_cons, Rs]
    constructor
    · rintro ⟨f1, f2, c1, c2, rfl, rfl, ⟨rfl, rfl⟩, h2⟩
      obtain ⟨rfl, rfl⟩ := zW.1 h2
      exact ⟨rfl, rfl⟩
    · rintro ⟨rfl, rfl⟩
      exact ⟨[], [], [.string x], l.map Value.string, rfl, rfl, ⟨rfl, rfl⟩, zW.2 ⟨rfl, rfl⟩⟩
theorem aaS (s : ByteArray) : encStr (ofB s) = .string s := by show Value.string (toB (ofB s)) = _; rw [vV]

theorem zo (l : List ByteArray) (g c base : Nat) (w : World) (h : gZ w base 9 1 (l.map ls) [] (.slice (some ⟨g, 0, none⟩) l.length c)) (hn : l.length ≤ 4194304) :
    Calls Tryz.prog 96 #[.slice (some ⟨g, 0, none⟩) l.length c] w fun e w' => e = .returned (.tuple #[]) ∧ gZ w' base 9 1 ((rP l).map ls) [] (.slice (some ⟨g, 0, none⟩) l.length c) ∧ w.grownBy w' (some g) := by
  obtain ⟨cs, ⟨h1, h2⟩, h3, h4, h5⟩ := h
  obtain ⟨_, rfl⟩ := zW.1 h3
  rw [List.length_map] at h1 h2
  rcases h2 with ⟨h6, _⟩ | ⟨g', cap, cur, h6, h7, h8, h9, h10, h11, h12⟩
  · injection h6 with h6
    cases h6
  · injection h6 with h61 _ h63
    injection h61 with h61
    injection h61 with h61
    subst h61 h63
    have hg : g < w.heap.size := (Array.getElem?_eq_some_iff.1 h8).1
    have hH : Go.Sort.Holds encStr w g 0 (l.map ofB).toArray := by
      intro j hj
      have hj' : j < l.length := by simpa using hj
      have hc : cur[j]? = some (.string l[j]) := by
        have e : (cur.toList.take (l.length * 1))[j]? = (l.map Value.string)[j]? := by rw [h12]
        rw [List.getElem?_take_of_lt (by omega), Array.getElem?_toList, List.getElem?_map, List.getElem?_eq_getElem hj'] at e
        exact e
      refine ⟨?_, by simp [World.frozen?, h8]⟩
      have e2 : encStr (l.map ofB).toArray[j]! = .string l[j] := by
        rw [getElem!_pos _ j hj]
        simp only [List.getElem_toArray, List.getElem_map]
        exact aaS _
      rw [e2]
      simpa [World.cell?, h8] using hc
    have hc := Tryz.sort_Strings g 0 c (l.map ofB) w hH hg (by rw [List.length_map]; omega)
    rw [List.length_map] at hc
    refine hc.mono ?_
    rintro e w' ⟨rfl, n, os, rfl⟩
    have hlen : ((l.map ofB).mergeSort fun x y => decide (x ≤ y)).length = (l.map ofB).length := by simp
    have ho := ownsRow_sorted (w := w) (n := n) (os := os) (base := base) (e := 9) hlen h7 h8 (by rw [List.length_map]; exact h9) h10 h11
    rw [List.length_map] at ho
    refine ⟨rfl, ⟨_, ?_, zW.2 ⟨rfl, rfl⟩, fP.nil, fun _ _ => by simp⟩, grownBy_sorted _⟩
    rw [List.length_map, Q7]
    have e3 : ((l.map ofB).mergeSort fun x y => decide (x ≤ y)).map encStr = (rP l).map Value.string := by
      unfold rP
      rw [List.map_map]
      rfl
    rw [e3] at ho
    exact ho

def dI (l : List ByteArray) : Nat → List ByteArray
  | 0 => []
  | k + 1 => dI l k ++ (match l[k]? with | some x => if uJ l x = (k : Int) then [x] else [] | none => [])
theorem qN (l : List ByteArray) : ∀ k, (dI l k).length ≤ k
  | 0 => Nat.le_refl _
  | k + 1 => by
    have := qN l k
    rw [dI, List.length_append]
    split
    · split <;> simp <;> omega
    · simp; omega
theorem Dz (l : List ByteArray) (k : Nat) (h : k < l.length) : dI l (k + 1) = dI l k ++ (if uJ l l[k] = (k : Int) then [l[k]] else []) := by rw [dI, List.getElem?_eq_getElem h]

set_option maxRecDepth 20000 in
set_option maxHeartbeats 4000000 in
theorem zq (l : List ByteArray) (fp : List Nat) (v : Value) (w : World) (hS : Sl w (l.map ls) fp v) (hn : l.length ≤ 1048576) : Calls Tryz.prog 67 #[v] w (zX (rP (dI l l.length)) w) := by
  obtain ⟨A, c, rfl, hl, hc⟩ := hS.fH
  have hm : l.length ≤ 9223372036854775807 := by omega
  have hn' := Lib.hid hn
  clear hl hc hn
  go_enter Tryz.func67, Tryz.ntmps67
  go_wp2_with fail
  go_loopw [3, 9] (fun nv iv wr => ∃ (k g c1 : Nat), k ≤ l.length ∧ iv = .int .i64 k ∧ nv = .slice (some ⟨g, 0, none⟩) (dI l k).length c1 ∧ gZ wr w.heap.size 9 1 ((dI l k).map ls) [] nv ∧ Below w.heap.size w wr) (fun _ iv _ => l.length - (intOf iv).toNat)
  case atStart => exact ⟨0, _, _, by omega, rfl, rfl, gZ.lit rfl (Nat.le_refl _), (Below.refl _ _).alloc (Nat.le_refl _) _⟩
  case round =>
    obtain ⟨k, g, c1, hk, rfl, rfl, ho, hb⟩ := hrel
    by_cases hlt : k < l.length
    · have hd : (l.map ls)[k]? = some (ls l[k]) := by rw [List.getElem?_map, List.getElem?_eq_getElem hlt]; rfl
      obtain ⟨b, o, fi, ci, rfl, hbb, hbf, hri, hfi, hat⟩ := hS.elem vg hd
      obtain ⟨rfl, rfl⟩ := hri
      simp only [Nat.mul_one] at hat
      have q0 : wr.cell? ⟨b, o + k, none⟩ = some (.string l[k]) := (hb.cell (p := ⟨b, o + k, none⟩) hbb).trans hat.head
      have hsu := Lib.hid (Dz l k hlt)
      have hfl := Lib.hid (qN l k)
      have hI := fun W h => FZ l l[k] fp _ W (hS.below (w' := W) h)
      clear hat hd
      cases e1 : (uJ l l[k] == (k : Int)) with
      | false =>
        have e2 := Lib.hid (show dI l (k + 1) = dI l k by rw [hsu.out, if_neg (by simpa using e1), List.append_nil])
        go_wp2_with (go_at_call 95; refine (hI _ hb).mono ?_; rintro e w' ⟨rfl, rfl⟩)
        go_roundw
        case rel => exact ⟨k + 1, g, c1, by omega, by go_num, by rw [e2.out], by rw [e2.out]; exact ho, hb⟩
        case measure => (simp [intOf] <;> omega)
      | true =>
        have e2 := Lib.hid (show dI l (k + 1) = dI l k ++ [l[k]] by rw [hsu.out, if_pos (by simpa using e1)])
        go_wp2_with (first
          | (go_at_call 95; refine (hI _ hb).mono ?_; rintro e w' ⟨rfl, rfl⟩)
          | (at_builtin; refine nJ rfl V9 (.tmp 19) (.tmp 21) rfl w.heap.size _ (by rfl) _ [] (ho.below ((Below.refl _ _).alloc (Nat.le_refl _) _)) ([l[k]].map ls) [] _ (by rfl) (Src.one (Row.LQ rfl) ⟨rfl, rfl⟩) Ag vg wU Gw (by have := hfl.out; have := hn'.out; simp; omega) (by have := hb.size; simp; omega) ?_; intro v1 w1 ho1 hg1 hat1))
        rw [← List.map_append, ← e2.out] at ho1
        have hlen : 0 < (dI l (k + 1)).length := by rw [e2.out]; simp
        obtain ⟨g5, c5, hv5⟩ := ho1.Gq (by rw [List.length_map]; exact hlen)
        rw [List.length_map] at hv5
        subst hv5
        have L3 : Below w.heap.size w w1 := qB (hb.alloc hb.size _) hg1 (by have := hb.size; simp; omega) (fun g' h => (ho.ge g' h).1)
        go_roundw
        case rel => exact ⟨k + 1, g5, c5, by omega, by go_num, rfl, ho1, L3⟩
        case measure => (simp [intOf] <;> omega)
    · have hf := Lib.hid (show k = l.length by omega)
      have hfl := qN l k
      have hs := zo (dI l k) g c1 w.heap.size wr ho (by have := hn'.out; omega)
      clear hfl
      go_wp2_with (go_at_call 96; refine hs.mono ?_; rintro e w2 ⟨rfl, ho2, hg2⟩)
      have L2 : Below w.heap.size w w2 := qB (v := .slice (some ⟨g, 0, none⟩) 0 0) hb hg2 hb.size (fun g' h => by have h := Option.some.inj h; subst h; exact (ho.ge g rfl).1)
      go_ret
      have e := hf.out
      clear hf
      subst e
      exact ⟨_, _, rfl, ho2, L2⟩
def LtB (a b : ByteArray) : Prop := ofB a < ofB b
theorem Pn {a b : ByteArray} : ltS a b = true ↔ LtB a b := by
  unfold ltS LtB ofB
  rw [bytesLess_eq, decide_eq_true_eq, ByteArray.toList_eq, ByteArray.toList_eq]
theorem O8 {a b : ByteArray} (h : ofB a = ofB b) : a = b := by rw [← vV a, ← vV b, h]
theorem LtB.irrefl {a : ByteArray} : ¬ LtB a a := List.lt_irrefl _
theorem LtB.trans {a b c : ByteArray} (h : LtB a b) (k : LtB b c) : LtB a c := List.lt_trans h k
theorem LtB.tri {a b : ByteArray} (h : ¬ LtB a b) (k : a ≠ b) : LtB b a := by
  unfold LtB at *
  rcases Std.lt_trichotomy (ofB a) (ofB b) with h1 | h1 | h1
  · exact absurd h1 h
  · exact absurd (O8 h1) k
  · exact h1

theorem IL (x : ByteArray) : x9 [] x = [x] := by simp [x9, Px, LH]
theorem D9 (y : ByteArray) (r : List ByteArray) (x : ByteArray) : x9 (y :: r) x = if ltS y x then y :: x9 r x else if y = x then y :: r else x :: y :: r := by
  unfold x9 Px
  rw [LH]
  split
  · rw [List.getElem?_cons_succ, List.take_succ_cons, List.drop_succ_cons]
    split <;> rfl
  · rw [List.getElem?_cons_zero, List.take_zero, List.drop_zero]
    by_cases h : y = x
    · rw [if_pos (by rw [h]), if_pos h]
    · rw [if_neg (by intro e; injection e with e; exact h e), if_neg h]
      rfl
theorem IQ {acc : List ByteArray} {x y : ByteArray} : y ∈ x9 acc x ↔ y = x ∨ y ∈ acc := by
  induction acc with
  | nil => rw [IL]; simp
  | cons z r ih =>
    rw [D9]
    split
    · rw [List.mem_cons, ih, List.mem_cons]
      exact ⟨fun h => h.elim (fun h => Or.inr (Or.inl h)) (fun h => h.elim Or.inl (fun h => Or.inr (Or.inr h))), fun h => h.elim (fun h => Or.inr (Or.inl h)) (fun h => h.elim Or.inl (fun h => Or.inr (Or.inr h)))⟩
    · split
      · next h => subst h; rw [List.mem_cons]; exact ⟨fun h => Or.inr h, fun h => h.elim Or.inl id⟩
      · rw [List.mem_cons]
theorem IK {acc : List ByteArray} {x : ByteArray} (h : acc.Pairwise LtB) : (x9 acc x).Pairwise LtB := by
  induction acc with
  | nil => rw [IL]; simp
  | cons z r ih =>
    rw [List.pairwise_cons] at h
    rw [D9]
    split
    · next hz =>
      rw [List.pairwise_cons]
      refine ⟨fun y hy => ?_, ih h.2⟩
      rcases IQ.1 hy with rfl | hy
      · exact Pn.1 hz
      · exact h.1 y hy
    · next hz =>
      split
      · exact List.pairwise_cons.2 h
      · next hne =>
        have hx : LtB x z := LtB.tri (fun e => hz (Pn.2 e)) hne
        refine List.pairwise_cons.2 ⟨fun y hy => ?_, List.pairwise_cons.2 h⟩
        rcases List.mem_cons.1 hy with rfl | hy
        · exact hx
        · exact hx.trans (h.1 y hy)
theorem JY {l acc : List ByteArray} {y : ByteArray} : y ∈ l.foldl x9 acc ↔ y ∈ acc ∨ y ∈ l := by
  induction l generalizing acc with
  | nil => simp
  | cons x l ih =>
    rw [List.foldl_cons, ih, IQ, List.mem_cons]
    exact ⟨fun h => h.elim (fun h => h.elim (fun h => Or.inr (Or.inl h)) Or.inl) (fun h => Or.inr (Or.inr h)), fun h => h.elim (fun h => Or.inl (Or.inr h)) (fun h => h.elim (fun h => Or.inl (Or.inl h)) Or.inr)⟩
theorem JW {l acc : List ByteArray} (h : acc.Pairwise LtB) : (l.foldl x9 acc).Pairwise LtB := by
  induction l generalizing acc with
  | nil => exact h
  | cons x l ih => rw [List.foldl_cons]; exact ih (IK h)

theorem DR : ∀ {a b : List ByteArray}, a.Pairwise LtB → b.Pairwise LtB → (∀ y, y ∈ a ↔ y ∈ b) → a = b
  | [], [], _, _, _ => rfl
  | [], y :: b, _, _, h => absurd ((h y).2 (by simp)) (by simp)
  | x :: a, [], _, _, h => absurd ((h x).1 (by simp)) (by simp)
  | x :: a, y :: b, ha, hb, h => by
    rw [List.pairwise_cons] at ha hb
    have hxy : x = y := by
      rcases List.mem_cons.1 ((h x).1 (by simp)) with e | e
      · exact e
      · rcases List.mem_cons.1 ((h y).2 (by simp)) with e' | e'
        · exact e'.symm
        · exact absurd ((ha.1 y e').trans (hb.1 x e)) LtB.irrefl
    subst hxy
    have : a = b := DR ha.2 hb.2 fun z => by
      constructor
      · intro hz
        rcases List.mem_cons.1 ((h z).1 (by simp [hz])) with e | e
        · subst e; exact absurd (ha.1 z hz) LtB.irrefl
        · exact e
      · intro hz
        rcases List.mem_cons.1 ((h z).2 (by simp [hz])) with e | e
        · subst e; exact absurd (hb.1 z hz) LtB.irrefl
        · exact e
    rw [this]

theorem pY {s : ByteArray} : ∀ (l : List ByteArray) (k : Nat), s ∈ l → ∃ i, i < l.length ∧ gU l s k = ((k + i : Nat) : Int) ∧ l[i]? = some s
  | [], _, h => by simp at h
  | x :: l, k, h => by
    rw [gU]
    by_cases e : x = s
    · rw [if_pos e]
      exact ⟨0, by simp, by simp, by simp [e]⟩
    · rw [if_neg e]
      rcases List.mem_cons.1 h with h | h
      · exact absurd h.symm e
      · obtain ⟨i, h1, h2, h3⟩ := pY l (k + 1) h
        exact ⟨i + 1, by simp; omega, by rw [h2]; congr 1; omega, by simpa using h3⟩
theorem vK {l : List ByteArray} {y : ByteArray} : ∀ {k : Nat}, y ∈ dI l k → y ∈ l ∧ ∃ i, i < k ∧ uJ l y = (i : Int)
  | 0, h => by simp [dI] at h
  | k + 1, h => by
    rw [dI, List.mem_append] at h
    rcases h with h | h
    · obtain ⟨h1, i, h2, h3⟩ := vK h
      exact ⟨h1, i, by omega, h3⟩
    · split at h
      · next x hx =>
        split at h
        · next e =>
          rw [List.mem_singleton] at h
          subst h
          exact ⟨List.mem_of_getElem? hx, k, by omega, e⟩
        · simp at h
      · simp at h
theorem nZ (l : List ByteArray) : ∀ k, (dI l k).Nodup
  | 0 => List.nodup_nil
  | k + 1 => by
    rw [dI]
    split
    · next x hx =>
      split
      · next e =>
        refine List.nodup_append.2 ⟨nZ l k, by simp, fun a ha b hb e2 => ?_⟩
        rw [List.mem_singleton] at hb
        subst hb e2
        obtain ⟨_, i, h1, h2⟩ := vK ha
        rw [h2] at e
        omega
      · rw [List.append_nil]; exact nZ l k
    · rw [List.append_nil]; exact nZ l k
theorem yX {l : List ByteArray} {y : ByteArray} {k : Nat} (h : y ∈ dI l k) : ∀ n, y ∈ dI l (k + n)
  | 0 => h
  | n + 1 => by rw [← Nat.add_assoc, dI, List.mem_append]; exact Or.inl (yX h n)
theorem NK {l : List ByteArray} {y : ByteArray} (h : y ∈ l) : y ∈ dI l l.length := by
  obtain ⟨i, h1, h2, h3⟩ := pY l 0 h
  rw [Nat.zero_add] at h2
  have h4 : y ∈ dI l (i + 1) := by
    rw [dI, h3, List.mem_append]
    refine Or.inr ?_
    show y ∈ if uJ l y = (i : Int) then [y] else []
    rw [if_pos (show uJ l y = (i : Int) from h2)]
    simp
  have := yX h4 (l.length - (i + 1))
  rwa [show i + 1 + (l.length - (i + 1)) = l.length by omega] at this
theorem Q5 {l : List ByteArray} {y : ByteArray} : y ∈ rP l ↔ y ∈ l := by
  unfold rP
  rw [List.mem_map]
  constructor
  · rintro ⟨x, hx, rfl⟩
    rw [List.mem_mergeSort, List.mem_map] at hx
    obtain ⟨z, hz, rfl⟩ := hx
    rwa [vV]
  · intro h
    exact ⟨ofB y, by rw [List.mem_mergeSort]; exact List.mem_map_of_mem h, vV y⟩
theorem Fj {l : List ByteArray} (h : l.Nodup) : (rP l).Pairwise LtB := by
  unfold rP
  rw [List.pairwise_map]
  have h1 := List.pairwise_mergeSort (le := fun x y : List UInt8 => decide (x ≤ y)) (fun a b c h1 h2 => by
    rw [decide_eq_true_eq] at *
    exact List.le_trans h1 h2) (fun a b => by
    rcases List.le_total a b with h | h <;> simp [h]) (l.map ofB)
  have h2 : ((l.map ofB).mergeSort fun x y => decide (x ≤ y)).Nodup := by
    refine (List.mergeSort_perm _ _).nodup_iff.2 ?_
    exact List.Pairwise.map _ (fun a b hab e => hab (O8 e)) h
  refine (h1.and h2).imp fun {a b} hab => ?_
  unfold LtB
  rw [O7, O7]
  obtain ⟨h3, h4⟩ := hab
  rw [decide_eq_true_eq] at h3
  rcases Std.lt_trichotomy a b with h5 | h5 | h5
  · exact h5
  · exact absurd h5 h4
  · exact absurd h5 (List.not_lt.2 h3)
theorem TW (l : List ByteArray) : rP (dI l l.length) = pX l l.length := by
  refine DR (Fj (nZ _ _)) ?_ fun y => ?_
  · unfold pX
    exact JW List.Pairwise.nil
  · unfold pX
    rw [Q5, JY, List.take_length]
    exact ⟨fun h => Or.inr (vK h).1, fun h => NK (h.elim (fun h => by simp at h) id)⟩
def lZ (l : List ByteArray) : List ByteArray := pX l l.length
theorem DT (l : List ByteArray) : (lZ l).length ≤ l.length := Ll l l.length
theorem uQ (l : List ByteArray) (fp : List Nat) (v : Value) (w : World) (hS : Sl w (l.map ls) fp v) (hn : l.length ≤ 1048576) : Calls Tryz.prog 67 #[v] w (zX (lZ l) w) := by
  have h := zq l fp v w hS hn
  rwa [TW] at h
theorem rO (l : List ByteArray) (fp : List Nat) (v : Value) (w : World) (hS : Sl w (l.map ls) fp v) (hn : l.length ≤ 1048576) : Calls Tryz.prog 67 #[v] w (jC ((lZ l).map ls) w) :=
  (uQ l fp v w hS hn).mono fun _ _ h => h.tos
theorem aam {H : Type} {enc : TypeId × Value → H} {P : Program} {w : World} {spare : Nat → Bool} {t : TypeId} (ht : P.underlying t = some (.int .u8)) (fuel : Nat) : Rdg enc P w spare lu8 t fuel := fun cs x h => by
  obtain ⟨n, rfl, _, hw⟩ := DataW.trod_int ht h
  have hw2 : (decide (IntKind.u8.min ≤ n) && decide (n ≤ IntKind.u8.max)) = true := hw
  rw [show IntKind.u8.min = 0 from rfl, show IntKind.u8.max = 255 from rfl] at hw2
  simp at hw2
  have hn : ((UInt8.ofNat n.toNat).toNat : Int) = n := by
    rw [UInt8.toNat_ofNat']
    omega
  refine ⟨UInt8.ofNat n.toNat, ⟨[], rfl, ?_⟩, ?_⟩
  · show [Value.int .u8 n] = [Value.int .u8 ((UInt8.ofNat n.toNat).toNat : Int)]
    rw [hn]
  · show (Lit.int .u8 ((UInt8.ofNat n.toNat).toNat : Int)).wf = true
    rw [hn]
    exact hw
theorem NU : Tryz.prog.cellsOf 5 = 1 := by kernel_rfl
theorem Zz {H : Type} {enc : TypeId × Value → H} {w : World} {spare : Nat → Bool} (fuel : Nat) : Rdg enc Tryz.prog w spare (fun l : List UInt8 => .sl (l.map lu8)) 22 fuel := Uo Tryz.underlying22 NU (fun y => rfl) (by omega) fuel fun n _ => aam Tryz.underlying5 n
def VF : IC := (zd_ [zj_ 2 false] (zd_ [zw_ 3 0, zf_ 4 false 3, zm_ 5 .gtr 4 1048576, zw_ 2 5] .ret))
theorem RZ : ay Tryz.prog (Tryz.f10.body.getD .skip) = some VF := by kernel_rfl
theorem WZ (l : List UInt8) : aS Tryz.prog 10 [.sl (l.map lu8)] (.c false [.raw (.bool (decide ((l.length : Int) > 1048576)))]) := by
  refine fE (fn := Tryz.f10) (t := 2) (by kernel_rfl) (by kernel_rfl) (by kernel_rfl) RZ ?_
  unfold VF; refine zb_ ?_
  change AWP _ _ _ (st0 6 _)
  refine sS tdX ?_
  repeat' (first | ((with_reducible refine au ?_); intro K hK) | ((with_reducible refine hK _ ?_); clear hK K) | (with_reducible refine aj ?_ ?_) | ((with_reducible refine aC ?_); refine ss (aaV tdC @gX) ?_) | refine nv ?_ | (with_reducible (refine cS rfl ?_ ?_) <;> (intro hb hb'; try (exfalso; omega))) | (exact GCell.el _) | exact aO | exact aF)
  exact dM ⟨_, rfl, ⟨rfl, trivial⟩⟩
def yQ : IC := (zd_ [zj_ 4 false] (.seq (zd_ [zw_ 6 0, zf_ 7 false 6, zw_ 8 1, zf_ 9 false 8, zl_ 10 .neq 7 9] (.cond (.t 10) (zd_ [zj_ 4 false] .ret) .skip)) (.seq (zd_ [zk_ 5 0] (.block 0 (.loop (.seq (zd_ [zw_ 11 5, zw_ 12 0, zf_ 13 false 12, zl_ 14 .lss 11 13] (.cond (.t 14) .skip (.exit 0))) (.seq (.block 1 (.seq (.reg true [zw_ 17 0, zw_ 18 5, ze_ 19 1 17 18, zs_ 20 1 19, zw_ 21 1, zw_ 22 5, ze_ 23 1 21 22, zs_ 24 1 23, zl_ 25 .neq 20 24]) (.cond (.t 25) (zd_ [zj_ 4 false] .ret) .skip))) (.reg false [zw_ 15 5, zm_ 16 .add 15 1, zw_ 5 16])))))) (zd_ [zj_ 4 true] .ret))))
theorem Bf : ay Tryz.prog (Tryz.f13.body.getD .skip) = some yQ := by kernel_rfl
theorem VU {xs : List Int} {k : Nat} (h : k < xs.length) : idx (xs.map li) (some (k : Int)) = some (li xs[k]) := dG li xs h
theorem H8 (xs ys : List Int) (hx : xs.length ≤ 1048576) (hy : ys.length ≤ 1048576) : aS Tryz.prog 13 [.sl (xs.map li), .sl (ys.map li)] (.c false [.raw (.bool (decide (xs = ys)))]) := by
  refine fE (fn := Tryz.f13) (t := 4) (by kernel_rfl) (by kernel_rfl) (by kernel_rfl) Bf ?_
  unfold yQ; refine zb_ ?_
  change AWP _ _ _ (st0 26 _)
  refine sS tdX ?_
  by_cases hl : xs.length = ys.length
  · have hne : ((xs.length : Int) != (ys.length : Int)) = false := by simp [hl]
    repeat' (first | ((with_reducible refine hK _ ?_); clear hK K) | (with_reducible refine aj ?_ ?_) | ((with_reducible refine aC ?_); refine ss (aaV tdC (aaV @gX hne)) ?_) | ((with_reducible refine bV ?_); refine sx (aaV tdC (aaV @gX hne)) ?_) | refine nv ?_ | (refine rD ?_; intro K hK) | (with_reducible (refine cS rfl ?_ ?_) <;> (intro hb hb'; try (exfalso; omega))) | (exact GCell.el _) | exact aO | exact aF)
    refine cO (X := Nat) (fun z => [.k, .k, .d, .d, .d, .v (.c false [.raw (.int .i64 ((z : Nat)))]), .d, .d, .d, .d, .d, .d, .d, .d, .d, .d, .d, .d, .d, .d, .d, .d, .d, .d, .d, .d]) (fun _ => []) (fun _ _ => []) (fun z => z ≤ xs.length ∧ xs.take z = ys.take z) (fun z => xs.length - z) 0 ⟨Nat.zero_le _, rfl⟩ ?_ ?_
    · simp [bI, dh, bM, bP, AV.fits, AC.fits, FB, bn]
    rintro z ⟨hz, htk⟩
    simp only [FB, bn]
    by_cases hlt : z < xs.length
    · have hT : decide ((z : Int) < (xs.length : Int)) = true := decide_eq_true (by omega)
      have hw1 : IntKind.i64.wrap ((z : Int) + 1) = ((z + 1 : Nat) : Int) := dH (by omega)
      have hlt2 : z < ys.length := by omega
      have g1 := VU hlt
      have g2 := VU hlt2
      by_cases he : xs[z] = ys[z]
      · have hq : (xs[z] != ys[z]) = false := by simp [he]
        repeat' (first | ((with_reducible refine hK _ ?_); clear hK K) | (with_reducible refine aj ?_ ?_) | ((with_reducible refine aC ?_); refine ss (aaV tdC (aaV @gX (aaV hT (aaV hw1 (aaV g1 (aaV g2 hq)))))) ?_) | ((with_reducible refine bV ?_); refine sx (aaV tdC (aaV @gX (aaV hT (aaV hw1 (aaV g1 (aaV g2 hq)))))) ?_) | refine nv ?_ | (refine rD ?_; intro K hK) | (with_reducible (refine cS rfl ?_ ?_) <;> (intro hb hb'; try (exfalso; omega))) | (exact GCell.el _) | exact aO | exact aF)
        all_goals first
          | exact gu _
          | (refine dn (z + 1) ?_ ⟨by omega, by rw [List.take_succ_eq_append_getElem hlt, List.take_succ_eq_append_getElem hlt2, htk, he]⟩ (show xs.length - (z + 1) < xs.length - z by omega)
             simp [bI, dh, bM, bP, AV.fits, AC.fits, FB, bn])
      · have hq : (xs[z] != ys[z]) = true := by simp [he]
        have hd : decide (xs = ys) = false := decide_eq_false (fun e => he (by simp [e]))
        repeat' (first | ((with_reducible refine hK _ ?_); clear hK K) | (with_reducible refine aj ?_ ?_) | ((with_reducible refine aC ?_); refine ss (aaV tdC (aaV @gX (aaV hT (aaV hw1 (aaV g1 (aaV g2 hq)))))) ?_) | ((with_reducible refine bV ?_); refine sx (aaV tdC (aaV @gX (aaV hT (aaV hw1 (aaV g1 (aaV g2 hq)))))) ?_) | refine nv ?_ | (refine rD ?_; intro K hK) | (with_reducible (refine cS rfl ?_ ?_) <;> (intro hb hb'; try (exfalso; omega))) | (exact GCell.el _) | exact aO | exact aF)
        all_goals first
          | exact gu _
          | exact dM ⟨_, rfl, ⟨by simp [fJ, hd], trivial⟩⟩
    · have hT : decide ((z : Int) < (xs.length : Int)) = false := decide_eq_false (by omega)
      have hd : decide (xs = ys) = true := decide_eq_true (by rw [List.take_of_length_le (by omega), List.take_of_length_le (by omega)] at htk; exact htk)
      repeat' (first | ((with_reducible refine hK _ ?_); clear hK K) | (with_reducible refine aj ?_ ?_) | ((with_reducible refine aC ?_); refine ss (aaV tdC (aaV @gX hT)) ?_) | ((with_reducible refine bV ?_); refine sx (aaV tdC (aaV @gX hT)) ?_) | refine nv ?_ | (refine rD ?_; intro K hK) | (with_reducible (refine cS rfl ?_ ?_) <;> (intro hb hb'; try (exfalso; omega))) | (exact GCell.el _) | exact aO | exact aF)
      exact dM ⟨_, rfl, ⟨by simp [fJ, hd], trivial⟩⟩
  · have hne : ((xs.length : Int) != (ys.length : Int)) = true := by simp; omega
    have hd : decide (xs = ys) = false := decide_eq_false (fun e => hl (by rw [e]))
    repeat' (first | ((with_reducible refine hK _ ?_); clear hK K) | (with_reducible refine aj ?_ ?_) | ((with_reducible refine aC ?_); refine ss (aaV tdC (aaV @gX hne)) ?_) | ((with_reducible refine bV ?_); refine sx (aaV tdC (aaV @gX hne)) ?_) | refine nv ?_ | (refine rD ?_; intro K hK) | (with_reducible (refine cS rfl ?_ ?_) <;> (intro hb hb'; try (exfalso; omega))) | (exact GCell.el _) | exact aO | exact aF)
    exact dM ⟨_, rfl, ⟨by simp [fJ, hd], trivial⟩⟩
theorem XU (x : GPart) : (pF x).flat = x.toD.flat := by rw [GPart.aZ]; simp [pF, D.flat, D.gY]
theorem aaN {w : World} {x : GPart} {fp : List Nat} {cs : List Value} (h : R w (pF x) fp cs) : R w x.toD fp cs := kT.2 (by rw [← XU]; exact kT.1 h)
theorem Y6 {w : World} : ∀ {l : List GPart} {fp : List Nat} {cs : List Value}, Rs w (l.map pF) fp cs → Rs w (l.map GPart.toD) fp cs
  | [], _, _, h => h
  | e :: es, fp, cs, h => by
    obtain ⟨f1, f2, c1, c2, h1, h2, h3, h4⟩ := h
    exact ⟨f1, f2, c1, c2, h1, h2, aaN h3, Y6 h4⟩
theorem aan {w : World} {l : List GPart} {v : Value} (h : Rd w (.sl (l.map pF)) v) : Rd w (.sl (l.map GPart.toD)) v := by
  obtain ⟨fp, h⟩ := h
  refine ⟨fp, ?_⟩
  rw [R] at h ⊢
  obtain ⟨A, cap, h1, h2, h3, h4⟩ := h
  simp only [List.length_map] at h1 h2 ⊢
  refine ⟨A, cap, h1, h2, h3, ?_⟩
  rcases h4 with ⟨h4, h5⟩ | ⟨b, o, fp', cs', h4, h5, h6, h7, h8⟩
  · exact Or.inl ⟨by simpa using h4, h5⟩
  · exact Or.inr ⟨b, o, fp', cs', h4, h5, h6, Y6 h7, h8⟩
theorem Zx {w : World} {l : List GPart} {ds : List D} : ∀ {vs : List Value}, Rds w (.sl (l.map pF) :: ds) vs → Rds w (.sl (l.map GPart.toD) :: ds) vs
  | [], h => h.elim
  | v :: vs, h => ⟨aan h.1, h.2⟩
theorem aS.pF {P : Program} {f : Nat} {l : List GPart} {ds : List D} {r : AV} (h : aS P f (.sl (l.map GPart.toD) :: ds) r) : aS P f (.sl (l.map pF) :: ds) r := fun w vs hr ht => h w vs (Zx hr) ht
theorem Lu (l : List GPart) (s : ByteArray) (hn : l.length ≤ 1048576) : aS Tryz.prog 24 [.sl (l.map pF), ls s] (.c false [.raw (.int .i64 (Um (cu l s l.length)))]) := aS.pF (tY fun w vs hr => by
  obtain ⟨v, u, rfl, h1, h2⟩ := Rt hr
  obtain ⟨fp, hS⟩ := yM h1
  obtain rfl := o8 h2
  exact FC l s fp v w hS hn)
theorem NR (l : List GPart) (s : ByteArray) (hn : l.length ≤ 1048576) : aS Tryz.prog 25 [.sl (l.map pF), ls s] (.c false [.sl true ((cu l s l.length).map li)]) := aS.pF (E8 fun w vs hr => by
  obtain ⟨v, u, rfl, h1, h2⟩ := Rt hr
  obtain ⟨fp, hS⟩ := yM h1
  obtain rfl := o8 h2
  exact yj l s fp v w hS hn)
theorem LC (l : List GPart) (s : ByteArray) (hn : l.length ≤ 1048576) : aS Tryz.prog 22 [.sl (l.map pF), ls s] (.c false [.raw (.int .i64 (Um (cu l s l.length)))]) := aS.pF (tY fun w vs hr => by
  obtain ⟨v, u, rfl, h1, h2⟩ := Rt hr
  obtain ⟨fp, hS⟩ := yM h1
  obtain rfl := o8 h2
  exact FD l s fp v w hS hn)
theorem NS (l : List GPart) (s : ByteArray) (hn : l.length ≤ 1048576) : aS Tryz.prog 23 [.sl (l.map pF), ls s] (.c false [.sl true ((cu l s l.length).map li)]) := aS.pF (E8 fun w vs hr => by
  obtain ⟨v, u, rfl, h1, h2⟩ := Rt hr
  obtain ⟨fp, hS⟩ := yM h1
  obtain rfl := o8 h2
  exact yu l s fp v w hS hn)
def P8 : IC := (zd_ [zk_ 4 0] (.seq (zd_ [zk_ 5 0] (.block 0 (.loop (.seq (zd_ [zw_ 6 5, zw_ 7 0, zf_ 8 false 7, zl_ 9 .lss 6 8] (.cond (.t 9) .skip (.exit 0))) (.seq (.block 1 (zd_ [zw_ 12 0, zw_ 13 5, ze_ 14 1 12 13, zs_ 15 1 14, zw_ 16 1, zl_ 17 .eql 15 16] (.cond (.t 17) (zd_ [zw_ 18 5, zw_ 4 18] .ret) .skip))) (.reg false [zw_ 10 5, zm_ 11 .add 10 1, zw_ 5 11])))))) (zd_ [zk_ 4 (-1)] .ret)))
theorem Nh : ay Tryz.prog (Tryz.f63.body.getD .skip) = some P8 := by kernel_rfl
theorem L6 {l : List ByteArray} {s : ByteArray} {z : Nat} (h : z < l.length) : gU (l.drop z) s z = if l[z] = s then (z : Int) else gU (l.drop (z + 1)) s (z + 1) := by
  rw [List.drop_eq_getElem_cons h, gU]
theorem VA (l : List ByteArray) (s : ByteArray) : decide (uJ l s ≥ 0) = nY l s := by
  cases h : nY l s
  · have hn : s ∉ l := fun hm => by rw [BH.2 hm] at h; cases h
    have : ∀ (l : List ByteArray) (k : Nat), s ∉ l → gU l s k = -1 := by
      intro l
      induction l with
      | nil => intro k _; rfl
      | cons x l ih =>
        intro k hm
        rw [gU, if_neg (fun e => hm (by rw [e]; simp))]
        exact ih _ (fun hm' => hm (List.mem_cons_of_mem _ hm'))
    unfold uJ
    rw [this l 0 hn]; rfl
  · obtain ⟨i, _, h2, _⟩ := pY l 0 (BH.1 h)
    unfold uJ
    rw [h2]
    exact decide_eq_true (by omega)
set_option maxHeartbeats 8000000 in
theorem Yb (l : List ByteArray) (s : ByteArray) (hn : l.length ≤ 1048576) : aS Tryz.prog 63 [.sl (l.map ls), ls s] (.c false [.raw (.int .i64 (uJ l s))]) := by
  refine fE (fn := Tryz.f63) (t := 4) (by kernel_rfl) (by kernel_rfl) (by kernel_rfl) Nh ?_
  unfold P8; refine zb_ ?_
  change AWP _ _ _ (st0 19 _)
  refine sS tdX ?_
  repeat' (first | ((with_reducible refine au ?_); intro K hK) | ((with_reducible refine hK _ ?_); clear hK K) | (with_reducible refine aj ?_ ?_) | ((with_reducible refine aC ?_); refine ss tdE ?_) | refine nv ?_ | (with_reducible (refine cS rfl ?_ ?_) <;> (intro hb hb'; try (exfalso; omega))) | exact aO | exact aF)
  refine cO (X := Nat) (fun z => [.k, .k, .d, .d, .d, .v (.c false [.raw (.int .i64 ((z : Nat)))]), .d, .d, .d, .d, .d, .d, .d, .d, .d, .d, .d, .d, .d]) (fun _ => []) (fun _ _ => []) (fun z => z ≤ l.length ∧ uJ l s = gU (l.drop z) s z) (fun z => l.length - z) 0 ⟨Nat.zero_le _, rfl⟩ ?_ ?_
  · simp [bI, dh, bM, bP, AV.fits, AC.fits, FB, bn]
  rintro z ⟨hz, hi⟩
  simp only [FB, bn]
  by_cases hlt : z < l.length
  · have hT : decide ((z : Int) < (l.length : Int)) = true := decide_eq_true (by omega)
    have hw1 : (z : Int) + 1 = ((z + 1 : Nat) : Int) := by omega
    have hg : idx (l.map ls) (some (z : Int)) = some (ls l[z]) := dG ls l hlt
    rw [L6 hlt] at hi
    by_cases he : l[z] = s
    · have e1 : ((l[z]).toList == s.toList) = true := by rw [he]; simp
      rw [if_pos he] at hi
      rw [hi]
      repeat' (first | ((with_reducible refine au ?_); intro K hK) | ((with_reducible refine hK _ ?_); clear hK K) | (with_reducible refine aj ?_ ?_) | ((with_reducible refine aC ?_); refine ss (aaV tdE (aaV hT (aaV hw1 (aaV hg e1)))) ?_) | refine nv ?_ | (with_reducible (refine cS rfl ?_ ?_) <;> (intro hb hb'; try (exfalso; omega))) | exact aO | exact aF)
      all_goals first
        | exact eY _
        | exact dM ⟨_, rfl, ⟨rfl, trivial⟩⟩
    · have e1 : ((l[z]).toList == s.toList) = false := by
        cases hq : ((l[z]).toList == s.toList)
        · rfl
        · exact absurd (nC (by simpa using hq)) he
      rw [if_neg he] at hi
      repeat' (first | ((with_reducible refine au ?_); intro K hK) | ((with_reducible refine hK _ ?_); clear hK K) | (with_reducible refine aj ?_ ?_) | ((with_reducible refine aC ?_); refine ss (aaV tdE (aaV hT (aaV hw1 (aaV hg e1)))) ?_) | refine nv ?_ | (with_reducible (refine cS rfl ?_ ?_) <;> (intro hb hb'; try (exfalso; omega))) | exact aO | exact aF)
      all_goals first
        | exact eY _
        | (refine dn (z + 1) ?_ ⟨by omega, hi⟩ (show l.length - (z + 1) < l.length - z by omega)
           simp [bI, dh, bM, bP, AV.fits, AC.fits, FB, bn]
           done)
  · have hT : decide ((z : Int) < (l.length : Int)) = false := decide_eq_false (by omega)
    rw [List.drop_eq_nil_of_le (by omega)] at hi
    rw [hi]
    repeat' (first | ((with_reducible refine au ?_); intro K hK) | ((with_reducible refine hK _ ?_); clear hK K) | (with_reducible refine aj ?_ ?_) | ((with_reducible refine aC ?_); refine ss (aaV tdE hT) ?_) | refine nv ?_ | (with_reducible (refine cS rfl ?_ ?_) <;> (intro hb hb'; try (exfalso; omega))) | exact aO | exact aF)
    all_goals exact dM ⟨_, rfl, ⟨rfl, trivial⟩⟩
def P9 : IC := (zd_ [zj_ 4 false] (zd_ [zw_ 5 0, zw_ 6 1, zp_ 7 63 5 6, zm_ 8 .geq 7 0, zw_ 4 8] .ret))
theorem Nj : ay Tryz.prog (Tryz.f26.body.getD .skip) = some P9 := by kernel_rfl
theorem Qj (l : List ByteArray) (s : ByteArray) (hn : l.length ≤ 1048576) : aS Tryz.prog 26 [.sl (l.map ls), ls s] (.c false [.raw (.bool (nY l s))]) := by
  refine fE (fn := Tryz.f26) (t := 4) (by kernel_rfl) (by kernel_rfl) (by kernel_rfl) Nj ?_
  unfold P9; refine zb_ ?_
  change AWP _ _ _ (st0 9 _)
  refine sS tdX ?_
  have hI := Yb l s hn
  have hh := VA l s
  repeat' (first | ((with_reducible refine au ?_); intro K hK) | ((with_reducible refine hK _ ?_); clear hK K) | (with_reducible refine aj ?_ ?_) | ((with_reducible refine aP ?_); first | refine aK (hc := hI) (h := ?_)) | ((with_reducible refine aC ?_); refine ss tdE ?_) | refine nv ?_ | (with_reducible (refine cS rfl ?_ ?_) <;> (intro hb hb'; try (exfalso; omega))) | exact aO | exact aF)
  exact dM ⟨_, rfl, ⟨by simp only [fJ, hh], trivial⟩⟩
theorem QZ {l : List ByteArray} {y : ByteArray} : y ∈ lZ l ↔ y ∈ l := by
  unfold lZ pX
  rw [JY, List.take_length]
  simp
def vZ (l : List GPart) (sv : Bool) (x : GPart) : Bool := (x.kind != 1) && (decide (1 < (cu l x.name l.length).length) == sv)
def dB (l : List GPart) (sv : Bool) : Nat → List ByteArray
  | 0 => []
  | k + 1 => dB l sv k ++ (match l[k]? with | some x => if vZ l sv x then [x.name] else [] | none => [])
theorem kM (l : List GPart) (sv : Bool) : ∀ k, (dB l sv k).length ≤ k
  | 0 => Nat.le_refl _
  | k + 1 => by
    have := kM l sv k
    rw [dB, List.length_append]
    split
    · split <;> simp <;> omega
    · simp; omega
theorem yI (l : List GPart) (sv : Bool) (k : Nat) (h : k < l.length) (e : vZ l sv l[k] = false) : dB l sv (k + 1) = dB l sv k := by
  rw [dB, List.getElem?_eq_getElem h]
  simp [e]
theorem Ac (l : List GPart) (sv : Bool) (k : Nat) (h : k < l.length) (e : vZ l sv l[k] = true) : dB l sv (k + 1) = dB l sv k ++ [l[k].name] := by
  rw [dB, List.getElem?_eq_getElem h]
  simp [e]

set_option maxRecDepth 20000 in
set_option maxHeartbeats 8000000 in
theorem xX (l : List GPart) (fp : List Nat) (v : Value) (w : World) (hS : Sl w (l.map GPart.toD) fp v) (hn : l.length ≤ 1048576) : Calls Tryz.prog 64 #[v, .bool false] w (jC ((lZ (dB l false l.length)).map ls) w) := by
  obtain ⟨A, c, rfl, hl, hc⟩ := hS.fH
  have hm : l.length ≤ 9223372036854775807 := by omega
  have hn' := Lib.hid hn
  clear hl hc hn
  go_enter Tryz.func64, Tryz.ntmps64
  go_wp2_with fail
  go_loopw [5, 11] (fun nv iv wr => ∃ (k g c1 : Nat), k ≤ l.length ∧ iv = .int .i64 k ∧ nv = .slice (some ⟨g, 0, none⟩) (dB l false k).length c1 ∧ gZ wr w.heap.size 9 1 ((dB l false k).map ls) [] nv ∧ Below w.heap.size w wr) (fun _ iv _ => l.length - (intOf iv).toNat)
  case atStart => exact ⟨0, _, _, by omega, rfl, rfl, gZ.lit rfl (Nat.le_refl _), (Below.refl _ _).alloc (Nat.le_refl _) _⟩
  case round =>
    obtain ⟨k, g, c1, hk, rfl, rfl, ho, hb⟩ := hrel
    by_cases hlt : k < l.length
    · skip
      have hd : (l.map GPart.toD)[k]? = some (GPart.toD l[k]) := by rw [List.getElem?_map, List.getElem?_eq_getElem hlt]; rfl
      obtain ⟨b, o, fi, ci, rfl, hbb, hbf, hri, hfi, hat⟩ := hS.elem GPart.szs hd
      obtain ⟨v0_, v1_, v2_, v3_, f0_, f1_, f2_, f3_, rfl, rfl, hV0, hV1, hV2, hV3⟩ := GPart.opened.1 hri
      obtain ⟨B0, e0_, rfl, hqa, hqb⟩ := hV0.fH
      clear hqa hqb hV0
      obtain ⟨B1, e1_, rfl, hqa, hqb⟩ := hV1.fH
      clear hqa hqb hV1
      obtain ⟨B2, e2_, rfl, hqa, hqb⟩ := hV2.fH
      clear hqa hqb hV2
      obtain ⟨B3, e3_, rfl, hqa, hqb⟩ := hV3.fH
      clear hqa hqb hV3
      have q0 : wr.cell? ⟨b, o + k * 14, none⟩ = some (.int .i64 l[k].kind) := (hb.cell (p := ⟨b, o + k * 14, none⟩) hbb).trans (hat.head)
      have q1 : wr.cell? ⟨b, o + k * 14 + 1, none⟩ = some (.string l[k].name) := (hb.cell (p := ⟨b, o + k * 14 + 1, none⟩) hbb).trans (hat.nth 1 rfl)
      have q2 : wr.cell? ⟨b, o + k * 14 + 2, none⟩ = some (.int .i64 l[k].expr.kind) := (hb.cell (p := ⟨b, o + k * 14 + 2, none⟩) hbb).trans (hat.nth 2 rfl)
      have q3 : wr.cell? ⟨b, o + k * 14 + 3, none⟩ = some (.int .i64 l[k].expr.n) := (hb.cell (p := ⟨b, o + k * 14 + 3, none⟩) hbb).trans (hat.nth 3 rfl)
      have q4 : wr.cell? ⟨b, o + k * 14 + 4, none⟩ = some (.string l[k].expr.text) := (hb.cell (p := ⟨b, o + k * 14 + 4, none⟩) hbb).trans (hat.nth 4 rfl)
      have q5 : wr.cell? ⟨b, o + k * 14 + 5, none⟩ = some (.slice B0 l[k].expr.args.length e0_) := (hb.cell (p := ⟨b, o + k * 14 + 5, none⟩) hbb).trans (hat.nth 5 rfl)
      have q6 : wr.cell? ⟨b, o + k * 14 + 6, none⟩ = some (.int .i64 l[k].value.kind) := (hb.cell (p := ⟨b, o + k * 14 + 6, none⟩) hbb).trans (hat.nth 6 rfl)
      have q7 : wr.cell? ⟨b, o + k * 14 + 7, none⟩ = some (.int .i64 l[k].value.n) := (hb.cell (p := ⟨b, o + k * 14 + 7, none⟩) hbb).trans (hat.nth 7 rfl)
      have q8 : wr.cell? ⟨b, o + k * 14 + 8, none⟩ = some (.int .i64 l[k].value.step) := (hb.cell (p := ⟨b, o + k * 14 + 8, none⟩) hbb).trans (hat.nth 8 rfl)
      have q9 : wr.cell? ⟨b, o + k * 14 + 9, none⟩ = some (.string l[k].value.text) := (hb.cell (p := ⟨b, o + k * 14 + 9, none⟩) hbb).trans (hat.nth 9 rfl)
      have q10 : wr.cell? ⟨b, o + k * 14 + 10, none⟩ = some (.slice B1 l[k].value.list.length e1_) := (hb.cell (p := ⟨b, o + k * 14 + 10, none⟩) hbb).trans (hat.nth 10 rfl)
      have q11 : wr.cell? ⟨b, o + k * 14 + 11, none⟩ = some (.slice B2 l[k].value.cols.length e2_) := (hb.cell (p := ⟨b, o + k * 14 + 11, none⟩) hbb).trans (hat.nth 11 rfl)
      have q12 : wr.cell? ⟨b, o + k * 14 + 12, none⟩ = some (.slice B3 l[k].value.rows.length e3_) := (hb.cell (p := ⟨b, o + k * 14 + 12, none⟩) hbb).trans (hat.nth 12 rfl)
      have q13 : wr.cell? ⟨b, o + k * 14 + 13, none⟩ = some (.int .i64 l[k].pos) := (hb.cell (p := ⟨b, o + k * 14 + 13, none⟩) hbb).trans (hat.nth 13 rfl)
      clear hat hd hri
      have hskip := Lib.hid (yI l false k hlt)
      have hhit := Lib.hid (Ac l false k hlt)
      have hfl := Lib.hid (kM l false k)
      have hD := fun W h => kE l l[k].name fp _ W (hS.below (w' := W) h) hn'.out
      cases e1 : (l[k].kind != 1) with
      | false =>
        go_wp2_with fail
        go_roundw
        case rel => exact ⟨k + 1, g, c1, by omega, by go_num, by rw [hskip.out (by simp [vZ, e1])], by rw [hskip.out (by simp [vZ, e1])]; exact ho.below ((Below.refl _ _).alloc (Nat.le_refl _) _), (hb.alloc hb.size _)⟩
        case measure => (simp [intOf] <;> omega)
      | true =>
        by_cases p2 : (1 : Int) < ((cu l l[k].name l.length).length : Int)
        · skip
          have e2 := Lib.hid (show dB l false (k + 1) = dB l false k from hskip.out (by simp [vZ, e1]; omega))
          go_wp2_with (go_at_call 23; refine (hD _ (hb.alloc hb.size _)).mono ?_; rintro e w1 ⟨vd, rfl, hod, hbd⟩; obtain ⟨Ad, cd, rfl, _, _⟩ := hod.sl.fH; obtain ⟨rw0, hz1, L1⟩ := rU hbd; have kk := rw0.cell; clear hbd)
          go_roundw
          case rel => exact ⟨k + 1, g, c1, by omega, by go_num, by rw [e2.out], by rw [e2.out]; exact ho.below L1, hb.trans (L1.mono hb.size)⟩
          case measure => (simp [intOf] <;> omega)
        · have p3 : decide ((1 : Int) < ((cu l l[k].name l.length).length : Int)) = false := by simpa using p2
          have e2 := Lib.hid (show dB l false (k + 1) = dB l false k ++ [l[k].name] from hhit.out (by simp [vZ, e1]; omega))
          go_wp2_with (first
            | (go_at_call 23; refine (hD _ (hb.alloc hb.size _)).mono ?_; rintro e w1 ⟨vd, rfl, hod, hbd⟩; obtain ⟨Ad, cd, rfl, _, _⟩ := hod.sl.fH; obtain ⟨rw0, hz1, L1⟩ := rU hbd; have kk := rw0.cell; clear hbd)
            | (at_builtin; refine nJ rfl V9 (.tmp 28) (.tmp 31) rfl w.heap.size _ (by rfl) _ [] ((ho.below L1).below ((Below.refl _ _).alloc (Nat.le_refl _) _)) ([l[k].name].map ls) [] _ (by rfl) (Src.one (Row.LQ rfl) ⟨rfl, rfl⟩) Ag vg wU Gw (by have := hfl.out; have := hn'.out; simp; omega) (by have := hb.size; have := L1.size; simp; omega) ?_; intro v1 w2 ho1 hg1 hat1))
          rw [← List.map_append, ← e2.out] at ho1
          have hlen : 0 < (dB l false (k + 1)).length := by rw [e2.out]; simp
          obtain ⟨g5, c5, hv5⟩ := ho1.Gq (by rw [List.length_map]; exact hlen)
          rw [List.length_map] at hv5
          subst hv5
          have L3 : Below w.heap.size w w2 := qB ((hb.trans (L1.mono hb.size)).alloc (Nat.le_trans hb.size L1.size) _) hg1 (by have := hb.size; have := L1.size; simp; omega) (fun g' h => (ho.ge g' h).1)
          go_roundw
          case rel => exact ⟨k + 1, g5, c5, by omega, by go_num, rfl, ho1, L3⟩
          case measure => (simp [intOf] <;> omega)
    · have hf := Lib.hid (show k = l.length by omega)
      have hfl := kM l false k
      have hs := rO (dB l false k) _ _ wr ho.sl (by have := hn'.out; omega)
      clear hfl
      go_wp2_with (go_at_call 67; refine hs.mono ?_; rintro e w2 ⟨f2, v2, rfl, S2, F2, hb2⟩)
      go_ret
      have e := hf.out
      clear hf
      subst e
      exact ⟨f2, v2, rfl, S2, F2.mono hb.size, hb.trans (hb2.mono hb.size)⟩

set_option maxRecDepth 20000 in
set_option maxHeartbeats 8000000 in
theorem zu (l : List GPart) (fp : List Nat) (v : Value) (w : World) (hS : Sl w (l.map GPart.toD) fp v) (hn : l.length ≤ 1048576) : Calls Tryz.prog 64 #[v, .bool true] w (jC ((lZ (dB l true l.length)).map ls) w) := by
  obtain ⟨A, c, rfl, hl, hc⟩ := hS.fH
  have hm : l.length ≤ 9223372036854775807 := by omega
  have hn' := Lib.hid hn
  clear hl hc hn
  go_enter Tryz.func64, Tryz.ntmps64
  go_wp2_with fail
  go_loopw [5, 11] (fun nv iv wr => ∃ (k g c1 : Nat), k ≤ l.length ∧ iv = .int .i64 k ∧ nv = .slice (some ⟨g, 0, none⟩) (dB l true k).length c1 ∧ gZ wr w.heap.size 9 1 ((dB l true k).map ls) [] nv ∧ Below w.heap.size w wr) (fun _ iv _ => l.length - (intOf iv).toNat)
  case atStart => exact ⟨0, _, _, by omega, rfl, rfl, gZ.lit rfl (Nat.le_refl _), (Below.refl _ _).alloc (Nat.le_refl _) _⟩
  case round =>
    obtain ⟨k, g, c1, hk, rfl, rfl, ho, hb⟩ := hrel
    by_cases hlt : k < l.length
    · skip
      have hd : (l.map GPart.toD)[k]? = some (GPart.toD l[k]) := by rw [List.getElem?_map, List.getElem?_eq_getElem hlt]; rfl
      obtain ⟨b, o, fi, ci, rfl, hbb, hbf, hri, hfi, hat⟩ := hS.elem GPart.szs hd
      obtain ⟨v0_, v1_, v2_, v3_, f0_, f1_, f2_, f3_, rfl, rfl, hV0, hV1, hV2, hV3⟩ := GPart.opened.1 hri
      obtain ⟨B0, e0_, rfl, hqa, hqb⟩ := hV0.fH
      clear hqa hqb hV0
      obtain ⟨B1, e1_, rfl, hqa, hqb⟩ := hV1.fH
      clear hqa hqb hV1
      obtain ⟨B2, e2_, rfl, hqa, hqb⟩ := hV2.fH
      clear hqa hqb hV2
      obtain ⟨B3, e3_, rfl, hqa, hqb⟩ := hV3.fH
      clear hqa hqb hV3
      have q0 : wr.cell? ⟨b, o + k * 14, none⟩ = some (.int .i64 l[k].kind) := (hb.cell (p := ⟨b, o + k * 14, none⟩) hbb).trans (hat.head)
      have q1 : wr.cell? ⟨b, o + k * 14 + 1, none⟩ = some (.string l[k].name) := (hb.cell (p := ⟨b, o + k * 14 + 1, none⟩) hbb).trans (hat.nth 1 rfl)
      have q2 : wr.cell? ⟨b, o + k * 14 + 2, none⟩ = some (.int .i64 l[k].expr.kind) := (hb.cell (p := ⟨b, o + k * 14 + 2, none⟩) hbb).trans (hat.nth 2 rfl)
      have q3 : wr.cell? ⟨b, o + k * 14 + 3, none⟩ = some (.int .i64 l[k].expr.n) := (hb.cell (p := ⟨b, o + k * 14 + 3, none⟩) hbb).trans (hat.nth 3 rfl)
      have q4 : wr.cell? ⟨b, o + k * 14 + 4, none⟩ = some (.string l[k].expr.text) := (hb.cell (p := ⟨b, o + k * 14 + 4, none⟩) hbb).trans (hat.nth 4 rfl)
      have q5 : wr.cell? ⟨b, o + k * 14 + 5, none⟩ = some (.slice B0 l[k].expr.args.length e0_) := (hb.cell (p := ⟨b, o + k * 14 + 5, none⟩) hbb).trans (hat.nth 5 rfl)
      have q6 : wr.cell? ⟨b, o + k * 14 + 6, none⟩ = some (.int .i64 l[k].value.kind) := (hb.cell (p := ⟨b, o + k * 14 + 6, none⟩) hbb).trans (hat.nth 6 rfl)
      have q7 : wr.cell? ⟨b, o + k * 14 + 7, none⟩ = some (.int .i64 l[k].value.n) := (hb.cell (p := ⟨b, o + k * 14 + 7, none⟩) hbb).trans (hat.nth 7 rfl)
      have q8 : wr.cell? ⟨b, o + k * 14 + 8, none⟩ = some (.int .i64 l[k].value.step) := (hb.cell (p := ⟨b, o + k * 14 + 8, none⟩) hbb).trans (hat.nth 8 rfl)
      have q9 : wr.cell? ⟨b, o + k * 14 + 9, none⟩ = some (.string l[k].value.text) := (hb.cell (p := ⟨b, o + k * 14 + 9, none⟩) hbb).trans (hat.nth 9 rfl)
      have q10 : wr.cell? ⟨b, o + k * 14 + 10, none⟩ = some (.slice B1 l[k].value.list.length e1_) := (hb.cell (p := ⟨b, o + k * 14 + 10, none⟩) hbb).trans (hat.nth 10 rfl)
      have q11 : wr.cell? ⟨b, o + k * 14 + 11, none⟩ = some (.slice B2 l[k].value.cols.length e2_) := (hb.cell (p := ⟨b, o + k * 14 + 11, none⟩) hbb).trans (hat.nth 11 rfl)
      have q12 : wr.cell? ⟨b, o + k * 14 + 12, none⟩ = some (.slice B3 l[k].value.rows.length e3_) := (hb.cell (p := ⟨b, o + k * 14 + 12, none⟩) hbb).trans (hat.nth 12 rfl)
      have q13 : wr.cell? ⟨b, o + k * 14 + 13, none⟩ = some (.int .i64 l[k].pos) := (hb.cell (p := ⟨b, o + k * 14 + 13, none⟩) hbb).trans (hat.nth 13 rfl)
      clear hat hd hri
      have hskip := Lib.hid (yI l true k hlt)
      have hhit := Lib.hid (Ac l true k hlt)
      have hfl := Lib.hid (kM l true k)
      have hD := fun W h => kE l l[k].name fp _ W (hS.below (w' := W) h) hn'.out
      cases e1 : (l[k].kind != 1) with
      | false =>
        go_wp2_with fail
        go_roundw
        case rel => exact ⟨k + 1, g, c1, by omega, by go_num, by rw [hskip.out (by simp [vZ, e1])], by rw [hskip.out (by simp [vZ, e1])]; exact ho.below ((Below.refl _ _).alloc (Nat.le_refl _) _), (hb.alloc hb.size _)⟩
        case measure => (simp [intOf] <;> omega)
      | true =>
        by_cases p2 : (1 : Int) < ((cu l l[k].name l.length).length : Int)
        · skip
          have e2 := Lib.hid (show dB l true (k + 1) = dB l true k ++ [l[k].name] from hhit.out (by simp [vZ, e1]; omega))
          go_wp2_with (first
            | (go_at_call 23; refine (hD _ (hb.alloc hb.size _)).mono ?_; rintro e w1 ⟨vd, rfl, hod, hbd⟩; obtain ⟨Ad, cd, rfl, _, _⟩ := hod.sl.fH; obtain ⟨rw0, hz1, L1⟩ := rU hbd; have kk := rw0.cell; clear hbd)
            | (at_builtin; refine nJ rfl V9 (.tmp 28) (.tmp 31) rfl w.heap.size _ (by rfl) _ [] ((ho.below L1).below ((Below.refl _ _).alloc (Nat.le_refl _) _)) ([l[k].name].map ls) [] _ (by rfl) (Src.one (Row.LQ rfl) ⟨rfl, rfl⟩) Ag vg wU Gw (by have := hfl.out; have := hn'.out; simp; omega) (by have := hb.size; have := L1.size; simp; omega) ?_; intro v1 w2 ho1 hg1 hat1))
          rw [← List.map_append, ← e2.out] at ho1
          have hlen : 0 < (dB l true (k + 1)).length := by rw [e2.out]; simp
          obtain ⟨g5, c5, hv5⟩ := ho1.Gq (by rw [List.length_map]; exact hlen)
          rw [List.length_map] at hv5
          subst hv5
          have L3 : Below w.heap.size w w2 := qB ((hb.trans (L1.mono hb.size)).alloc (Nat.le_trans hb.size L1.size) _) hg1 (by have := hb.size; have := L1.size; simp; omega) (fun g' h => (ho.ge g' h).1)
          go_roundw
          case rel => exact ⟨k + 1, g5, c5, by omega, by go_num, rfl, ho1, L3⟩
          case measure => (simp [intOf] <;> omega)
        · have p3 : decide ((1 : Int) < ((cu l l[k].name l.length).length : Int)) = false := by simpa using p2
          have e2 := Lib.hid (show dB l true (k + 1) = dB l true k from hskip.out (by simp [vZ, e1]; omega))
          go_wp2_with (go_at_call 23; refine (hD _ (hb.alloc hb.size _)).mono ?_; rintro e w1 ⟨vd, rfl, hod, hbd⟩; obtain ⟨Ad, cd, rfl, _, _⟩ := hod.sl.fH; obtain ⟨rw0, hz1, L1⟩ := rU hbd; have kk := rw0.cell; clear hbd)
          go_roundw
          case rel => exact ⟨k + 1, g, c1, by omega, by go_num, by rw [e2.out], by rw [e2.out]; exact ho.below L1, hb.trans (L1.mono hb.size)⟩
          case measure => (simp [intOf] <;> omega)
    · have hf := Lib.hid (show k = l.length by omega)
      have hfl := kM l true k
      have hs := rO (dB l true k) _ _ wr ho.sl (by have := hn'.out; omega)
      clear hfl
      go_wp2_with (go_at_call 67; refine hs.mono ?_; rintro e w2 ⟨f2, v2, rfl, S2, F2, hb2⟩)
      go_ret
      have e := hf.out
      clear hf
      subst e
      exact ⟨f2, v2, rfl, S2, F2.mono hb.size, hb.trans (hb2.mono hb.size)⟩

theorem xg (l : List GPart) (fp : List Nat) (v : Value) (w : World) (hS : Sl w (l.map GPart.toD) fp v) (hn : l.length ≤ 1048576) : Calls Tryz.prog 27 #[v] w (jC ((lZ (dB l false l.length)).map ls) w) := by
  have h := xX l fp v w hS hn
  obtain ⟨A, c, rfl, hl, hc⟩ := hS.fH
  clear hS hl hc
  go_enter Tryz.func27, Tryz.ntmps27
  go_wp2_with (go_at_call 64; refine h.mono ?_; rintro e w2 ⟨f2, v2, rfl, S2, F2, hb2⟩)
  go_ret
  exact ⟨f2, v2, rfl, S2, F2, hb2⟩

theorem uK (l : List GPart) (fp : List Nat) (v : Value) (w : World) (hS : Sl w (l.map GPart.toD) fp v) (hn : l.length ≤ 1048576) : Calls Tryz.prog 29 #[v] w (jC ((lZ (dB l true l.length)).map ls) w) := by
  have h := zu l fp v w hS hn
  obtain ⟨A, c, rfl, hl, hc⟩ := hS.fH
  clear hS hl hc
  go_enter Tryz.func29, Tryz.ntmps29
  go_wp2_with (go_at_call 64; refine h.mono ?_; rintro e w2 ⟨f2, v2, rfl, S2, F2, hb2⟩)
  go_ret
  exact ⟨f2, v2, rfl, S2, F2, hb2⟩
end Go.Proofs.YtfjmoicellpnhaaGreat

