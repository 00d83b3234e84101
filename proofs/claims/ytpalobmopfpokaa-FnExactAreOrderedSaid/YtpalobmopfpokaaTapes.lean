/-
  Tapes: how many reads there are; both packages.
-/
import Derived.Test.YtpalobmopfpokaaNames
namespace Go.Proofs.Ytpalobmopfpokaa
open Go.RowKit
set_option linter.unusedSimpArgs false
set_option linter.unusedVariables false

def countR : List GTape → Nat
  | [] => 0
  | t :: l => t.reads.length + countR l
theorem countR_append (l r : List GTape) : countR (l ++ r) = countR l + countR r := by
  induction l with
  | nil => simp [countR]
  | cons x l ih => rw [List.cons_append, countR, countR, ih]; omega
theorem countR_succ (l : List GTape) (k : Nat) (h : k < l.length) : countR (l.take (k + 1)) = countR (l.take k) + l[k].reads.length := by
  rw [List.take_succ_eq_append_getElem h, countR_append]
  simp [countR]
theorem countR_take (l : List GTape) (k : Nat) : countR (l.take k) ≤ countR l := by
  have h := countR_append (l.take k) (l.drop k)
  rw [List.take_append_drop] at h
  omega
theorem countR_wts : ∀ (l : List GTape), countR l ≤ D.wts (l.map GTape.toD)
  | [] => Nat.le_refl _
  | x :: l => by
    have h := countR_wts l
    rw [List.map_cons, D.wts, countR, GTape.wt_eq, List.length_map]
    omega

set_option maxHeartbeats 1000000 in
theorem countReads_impl (l : List GTape) (fp : List Nat) (v : Value) (w : World) (hS : Sl w (l.map GTape.toD) fp v) (hn : countR l ≤ 1048576) : Calls Try.prog 18 #[v] w (RetB (.int .i64 (countR l : Nat)) w) := by
  obtain ⟨A, c, rfl, hl, hc⟩ := hS.formT
  have hm : l.length ≤ 9223372036854775807 := by unfold maxLen at hc; omega
  clear hl hc
  go_enter Try.func18, Try.ntmps18
  go_wp2_with fail
  go_loopw [3, 8] (fun nv iv wr => ∃ k : Nat, k ≤ l.length ∧ iv = .int .i64 k ∧ nv = .int .i64 (countR (l.take k) : Nat) ∧ Below w.heap.size w wr) (fun _ iv _ => l.length - (intOf iv).toNat)
  case atStart => exact ⟨0, by omega, rfl, rfl, Below.refl _ _⟩
  case round =>
    obtain ⟨k, hk, rfl, rfl, hb⟩ := hrel
    by_cases hlt : k < l.length
    · have hd : (l.map GTape.toD)[k]? = some (GTape.toD l[k]) := by rw [List.getElem?_map, List.getElem?_eq_getElem hlt]; rfl
      obtain ⟨b, o, fi, ci, rfl, hbb, hbf, hri, hfi, hat⟩ := hS.elem GTape.szs hd
      obtain ⟨vr, fr, rfl, rfl, hSr⟩ := GTape.opened.1 hri
      obtain ⟨Ar, cr, rfl, _, _⟩ := hSr.formT
      have q0 : wr.cell? ⟨b, o + k * 3, none⟩ = some (.int .i64 l[k].cell) := (hb.cell (p := ⟨b, o + k * 3, none⟩) hbb).trans (hat.head)
      have q1 : wr.cell? ⟨b, o + k * 3 + 1, none⟩ = some (.int .i64 l[k].ver) := (hb.cell (p := ⟨b, o + k * 3 + 1, none⟩) hbb).trans (hat.nth 1 rfl)
      have q2 : wr.cell? ⟨b, o + k * 3 + 2, none⟩ = some (.slice Ar l[k].reads.length cr) := (hb.cell (p := ⟨b, o + k * 3 + 2, none⟩) hbb).trans (hat.nth 2 rfl)
      clear hat hd hri hSr
      have hst := Lib.hid (countR_succ l k hlt)
      have hle := countR_take l (k + 1)
      have hle2 := Lib.hid hle
      have hbd : (countR (l.take k) : Int) + (l[k].reads.length : Int) ≤ 1048576 := by have := countR_succ l k hlt; omega
      have hbd2 : 0 ≤ (countR (l.take k) : Int) := by omega
      clear hle
      go_wp2_with fail
      go_roundw
      case rel => exact ⟨k + 1, by omega, by go_num, by rw [hst.out]; go_num, by first | exact hb | exact hb.alloc hb.size _⟩
      case measure => (simp [intOf] <;> omega)
    · have hf := Lib.hid (show (countR (l.take k) : Int) = (countR l : Nat) by rw [List.take_of_length_le (by omega)])
      go_wp2_with fail
      go_ret
      exact ⟨ret_int hf.out, hb⟩

set_option maxHeartbeats 1000000 in
theorem countReads_spec (l : List GTape) (fp : List Nat) (v : Value) (w : World) (hS : Sl w (l.map GTape.toD) fp v) (hn : countR l ≤ 1048576) : Calls Try.prog 16 #[v] w (RetB (.int .i64 (countR l : Nat)) w) := by
  obtain ⟨A, c, rfl, hl, hc⟩ := hS.formT
  have hm : l.length ≤ 9223372036854775807 := by unfold maxLen at hc; omega
  clear hl hc
  go_enter Try.func16, Try.ntmps16
  go_wp2_with fail
  go_loopw [3, 4] (fun nv iv wr => ∃ k : Nat, k ≤ l.length ∧ iv = .int .i64 k ∧ nv = .int .i64 (countR (l.take k) : Nat) ∧ Below w.heap.size w wr) (fun _ iv _ => l.length - (intOf iv).toNat)
  case atStart => exact ⟨0, by omega, rfl, rfl, Below.refl _ _⟩
  case round =>
    obtain ⟨k, hk, rfl, rfl, hb⟩ := hrel
    by_cases hlt : k < l.length
    · have hd : (l.map GTape.toD)[k]? = some (GTape.toD l[k]) := by rw [List.getElem?_map, List.getElem?_eq_getElem hlt]; rfl
      obtain ⟨b, o, fi, ci, rfl, hbb, hbf, hri, hfi, hat⟩ := hS.elem GTape.szs hd
      obtain ⟨vr, fr, rfl, rfl, hSr⟩ := GTape.opened.1 hri
      obtain ⟨Ar, cr, rfl, _, _⟩ := hSr.formT
      have q0 : wr.cell? ⟨b, o + k * 3, none⟩ = some (.int .i64 l[k].cell) := (hb.cell (p := ⟨b, o + k * 3, none⟩) hbb).trans (hat.head)
      have q1 : wr.cell? ⟨b, o + k * 3 + 1, none⟩ = some (.int .i64 l[k].ver) := (hb.cell (p := ⟨b, o + k * 3 + 1, none⟩) hbb).trans (hat.nth 1 rfl)
      have q2 : wr.cell? ⟨b, o + k * 3 + 2, none⟩ = some (.slice Ar l[k].reads.length cr) := (hb.cell (p := ⟨b, o + k * 3 + 2, none⟩) hbb).trans (hat.nth 2 rfl)
      clear hat hd hri hSr
      have hst := Lib.hid (countR_succ l k hlt)
      have hle := countR_take l (k + 1)
      have hle2 := Lib.hid hle
      have hbd : (countR (l.take k) : Int) + (l[k].reads.length : Int) ≤ 1048576 := by have := countR_succ l k hlt; omega
      have hbd2 : 0 ≤ (countR (l.take k) : Int) := by omega
      clear hle
      go_wp2_with fail
      go_roundw
      case rel => exact ⟨k + 1, by omega, by go_num, by rw [hst.out]; go_num, by first | exact hb | exact hb.alloc hb.size _⟩
      case measure => (simp [intOf] <;> omega)
    · have hf := Lib.hid (show (countR (l.take k) : Int) = (countR l : Nat) by rw [List.take_of_length_le (by omega)])
      go_wp2_with fail
      go_ret
      exact ⟨ret_int hf.out, hb⟩

/-- The order of tapes. -/
def befT (a b : GTape) : Bool := decide (a.cell < b.cell) || ((a.cell == b.cell) && decide (a.ver < b.ver))
def ordT : List GTape → Bool
  | [] => true
  | [_] => true
  | a :: b :: r => befT a b && ordT (b :: r)

set_option maxHeartbeats 1000000 in
theorem before_impl (a b : GTape) (va vb : Value) (Aa Ab : Option Addr) (na nb ca cb : Nat) (h1 : va = .slice Aa na ca) (h2 : vb = .slice Ab nb cb) (w : World) : Calls Try.prog 42 #[.agg #[.int .i64 a.cell, .int .i64 a.ver, va], .agg #[.int .i64 b.cell, .int .i64 b.ver, vb]] w (RetB (.bool (befT a b)) w) := by
  subst h1 h2
  unfold befT
  cases e1 : decide (a.cell < b.cell) with
  | true =>
    have p1 : a.cell < b.cell := of_decide_eq_true e1
    clear e1
    go_enter Try.func42, Try.ntmps42
    go_wp2_with fail
    go_ret
    exact ⟨rfl, ((Below.refl _ _).alloc (by simp) _).alloc (by simp; try omega) _⟩
  | false =>
    cases e2 : (a.cell == b.cell) with
    | true =>
      cases e3 : decide (a.ver < b.ver) with
      | true =>
        have p3 : a.ver < b.ver := of_decide_eq_true e3
        clear e3
        go_enter Try.func42, Try.ntmps42
        go_wp2_with fail
        go_ret
        exact ⟨rfl, ((Below.refl _ _).alloc (by simp) _).alloc (by simp; try omega) _⟩
      | false =>
        go_enter Try.func42, Try.ntmps42
        go_wp2_with fail
        go_ret
        exact ⟨rfl, ((Below.refl _ _).alloc (by simp) _).alloc (by simp; try omega) _⟩
    | false =>
      go_enter Try.func42, Try.ntmps42
      go_wp2_with fail
      go_ret
      exact ⟨rfl, ((Below.refl _ _).alloc (by simp) _).alloc (by simp; try omega) _⟩

set_option maxHeartbeats 1000000 in
theorem before_spec (a b : GTape) (va vb : Value) (Aa Ab : Option Addr) (na nb ca cb : Nat) (h1 : va = .slice Aa na ca) (h2 : vb = .slice Ab nb cb) (w : World) : Calls Try.prog 41 #[.agg #[.int .i64 a.cell, .int .i64 a.ver, va], .agg #[.int .i64 b.cell, .int .i64 b.ver, vb]] w (RetB (.bool (befT a b)) w) := by
  subst h1 h2
  unfold befT
  cases e1 : decide (a.cell < b.cell) with
  | true =>
    have p1 : a.cell < b.cell := of_decide_eq_true e1
    clear e1
    go_enter Try.func41, Try.ntmps41
    go_wp2_with fail
    go_ret
    exact ⟨rfl, ((Below.refl _ _).alloc (by simp) _).alloc (by simp; try omega) _⟩
  | false =>
    cases e2 : (a.cell == b.cell) with
    | true =>
      cases e3 : decide (a.ver < b.ver) with
      | true =>
        have p3 : a.ver < b.ver := of_decide_eq_true e3
        clear e3
        go_enter Try.func41, Try.ntmps41
        go_wp2_with fail
        go_ret
        exact ⟨rfl, ((Below.refl _ _).alloc (by simp) _).alloc (by simp; try omega) _⟩
      | false =>
        go_enter Try.func41, Try.ntmps41
        go_wp2_with fail
        go_ret
        exact ⟨rfl, ((Below.refl _ _).alloc (by simp) _).alloc (by simp; try omega) _⟩
    | false =>
      go_enter Try.func41, Try.ntmps41
      go_wp2_with fail
      go_ret
      exact ⟨rfl, ((Below.refl _ _).alloc (by simp) _).alloc (by simp; try omega) _⟩

set_option maxHeartbeats 2000000 in
theorem areOrdered_impl (l : List GTape) (fp : List Nat) (v : Value) (w : World) (hS : Sl w (l.map GTape.toD) fp v) (hn : countR l ≤ 1048576) : Calls Try.prog 21 #[v] w (RetB (.bool (ordT l)) w) := by
  obtain ⟨A, c, rfl, hl, hc⟩ := hS.formT
  have hm : l.length ≤ 9223372036854775807 := by unfold maxLen at hc; omega
  clear hl hc
  go_enter Try.func21, Try.ntmps21
  go_wp2_with fail
  go_loopw [3] (fun iv wr => ∃ j : Nat, (j ≤ l.length) ∧ iv = .int .i64 ((j : Int) + 1) ∧ ordT l = ordT (l.drop j) ∧ Below w.heap.size w wr) (fun iv _ => l.length + 1 - (intOf iv).toNat)
  case atStart => exact ⟨0, by omega, rfl, rfl, Below.refl _ _⟩
  case round =>
    obtain ⟨j, hj, rfl, he, hb⟩ := hrel
    have he' := Lib.hid he
    clear he
    by_cases hlt : j + 1 < l.length
    · have hd1 : (l.map GTape.toD)[j]? = some (GTape.toD l[j]) := by rw [List.getElem?_map, List.getElem?_eq_getElem (by omega)]; rfl
      have hd2 : (l.map GTape.toD)[j + 1]? = some (GTape.toD l[j + 1]) := by rw [List.getElem?_map, List.getElem?_eq_getElem hlt]; rfl
      obtain ⟨b, o, fi1, ci1, rfl, hbb, hbf, hri1, hfi1, hat1⟩ := hS.elem GTape.szs hd1
      obtain ⟨b', o', fi2, ci2, hA2, hbb2, hbf2, hri2, hfi2, hat2⟩ := hS.elem GTape.szs hd2
      obtain ⟨rfl, rfl⟩ : b = b' ∧ o = o' := by
        injection hA2 with h
        injection h with h1 h2 _
        exact ⟨h1, h2⟩
      clear hA2 hbb2 hbf2
      obtain ⟨v1, g1, rfl, rfl, hS1⟩ := GTape.opened.1 hri1
      obtain ⟨v2, g2, rfl, rfl, hS2⟩ := GTape.opened.1 hri2
      obtain ⟨B1, e1, rfl, _, _⟩ := hS1.formT
      obtain ⟨B2, e2, rfl, _, _⟩ := hS2.formT
      have q10 : wr.cell? ⟨b, o + j * 3, none⟩ = some (.int .i64 l[j].cell) := (hb.cell (p := ⟨b, o + j * 3, none⟩) hbb).trans (hat1.head)
      have q11 : wr.cell? ⟨b, o + j * 3 + 1, none⟩ = some (.int .i64 l[j].ver) := (hb.cell (p := ⟨b, o + j * 3 + 1, none⟩) hbb).trans (hat1.nth 1 rfl)
      have q12 : wr.cell? ⟨b, o + j * 3 + 2, none⟩ = some (.slice B1 l[j].reads.length e1) := (hb.cell (p := ⟨b, o + j * 3 + 2, none⟩) hbb).trans (hat1.nth 2 rfl)
      have q20 : wr.cell? ⟨b, o + (j + 1) * 3, none⟩ = some (.int .i64 l[j + 1].cell) := (hb.cell (p := ⟨b, o + (j + 1) * 3, none⟩) hbb).trans (hat2.head)
      have q21 : wr.cell? ⟨b, o + (j + 1) * 3 + 1, none⟩ = some (.int .i64 l[j + 1].ver) := (hb.cell (p := ⟨b, o + (j + 1) * 3 + 1, none⟩) hbb).trans (hat2.nth 1 rfl)
      have q22 : wr.cell? ⟨b, o + (j + 1) * 3 + 2, none⟩ = some (.slice B2 l[j + 1].reads.length e2) := (hb.cell (p := ⟨b, o + (j + 1) * 3 + 2, none⟩) hbb).trans (hat2.nth 2 rfl)
      clear hat1 hat2 hd1 hd2 hri1 hri2 hS1 hS2
      have hbr : b < wr.heap.size := Nat.lt_of_lt_of_le hbb hb.size
      have hi1 : 0 ≤ (j : Int) := by omega
      have hi2 : (j : Int) < l.length := by omega
      have hi3 : (j : Int) + 1 < l.length := by omega
      have hi4 : 0 ≤ (j : Int) + 1 := by omega
      have hw1 : IntKind.i64.wrap ((j : Int) + 1 - 1) = (j : Int) := by rw [Int.add_sub_cancel]; exact IntWalk.i64_in _ (by omega)
      have hw2 : IntKind.i64.wrap (j : Int) = (j : Int) := IntWalk.i64_in _ (by omega)
      have hw3 : ((j : Int) + 1).toNat = j + 1 := by omega
      have hw1' := Lib.hid hw1
      have hw2' := Lib.hid hw2
      have hw3' := Lib.hid hw3
      have hB := fun wx => before_impl l[j] l[j + 1] _ _ B1 B2 l[j].reads.length l[j + 1].reads.length e1 e2 rfl rfl wx
      have hst := Lib.hid (show ordT (l.drop j) = (befT l[j] l[j + 1] && ordT (l.drop (j + 1))) by
        rw [List.drop_eq_getElem_cons (i := j) (by omega), List.drop_eq_getElem_cons (i := j + 1) hlt]
        rfl)
      cases hbe : befT l[j] l[j + 1] with
      | true =>
        have hf := Lib.hid (show ordT l = ordT (l.drop (j + 1)) by rw [he'.out, hst.out, hbe]; rfl)
        rw [hbe] at hB
        clear hbe
        go_wp2_with fail
        go_region_held3 (fun w' => w'.cell? ⟨b, o + j * 3, none⟩ = some (.int .i64 l[j].cell) ∧ w'.cell? ⟨b, o + j * 3 + 1, none⟩ = some (.int .i64 l[j].ver) ∧ w'.cell? ⟨b, o + j * 3 + 2, none⟩ = some (.slice B1 l[j].reads.length e1) ∧ w'.cell? ⟨b, o + (j + 1) * 3, none⟩ = some (.int .i64 l[j + 1].cell) ∧ w'.cell? ⟨b, o + (j + 1) * 3 + 1, none⟩ = some (.int .i64 l[j + 1].ver) ∧ w'.cell? ⟨b, o + (j + 1) * 3 + 2, none⟩ = some (.slice B2 l[j + 1].reads.length e2)) (go_keep)
          ((go_at_call 42; refine (hB _).mono ?_; rintro e w1 ⟨rfl, hb1⟩; have L1 : Below wr.heap.size wr w1 := (Below.refl _ _).drew.trans hb1; have c1 : ∀ o, w1.cell? ⟨b, o, none⟩ = wr.cell? ⟨b, o, none⟩ := fun o => L1.cell (p := ⟨b, o, none⟩) hbr))
        go_wp2_with fail
        go_roundw
        case rel => exact ⟨j + 1, by omega, by go_num, hf.out, hb.trans (L1.mono hb.size)⟩
        case measure => (simp [intOf] <;> omega)
      | false =>
        have hf := Lib.hid (show false = ordT l by rw [he'.out, hst.out, hbe]; rfl)
        rw [hbe] at hB
        clear hbe
        go_wp2_with fail
        go_region_held3 (fun w' => w'.cell? ⟨b, o + j * 3, none⟩ = some (.int .i64 l[j].cell) ∧ w'.cell? ⟨b, o + j * 3 + 1, none⟩ = some (.int .i64 l[j].ver) ∧ w'.cell? ⟨b, o + j * 3 + 2, none⟩ = some (.slice B1 l[j].reads.length e1) ∧ w'.cell? ⟨b, o + (j + 1) * 3, none⟩ = some (.int .i64 l[j + 1].cell) ∧ w'.cell? ⟨b, o + (j + 1) * 3 + 1, none⟩ = some (.int .i64 l[j + 1].ver) ∧ w'.cell? ⟨b, o + (j + 1) * 3 + 2, none⟩ = some (.slice B2 l[j + 1].reads.length e2)) (go_keep)
          ((go_at_call 42; refine (hB _).mono ?_; rintro e w1 ⟨rfl, hb1⟩; have L1 : Below wr.heap.size wr w1 := (Below.refl _ _).drew.trans hb1; have c1 : ∀ o, w1.cell? ⟨b, o, none⟩ = wr.cell? ⟨b, o, none⟩ := fun o => L1.cell (p := ⟨b, o, none⟩) hbr))
        go_wp2_with fail
        go_ret
        exact ⟨ret_bool hf.out, hb.trans (L1.mono hb.size)⟩
    · have hf := Lib.hid (show true = ordT l by
        rw [he'.out]
        match hq : l.drop j with
        | [] => rfl
        | [_] => rfl
        | _ :: _ :: r =>
          have := congrArg List.length hq
          simp at this
          omega)
      go_wp2_with fail
      go_ret
      exact ⟨ret_bool hf.out, hb⟩

set_option maxHeartbeats 2000000 in
theorem areOrdered_spec (l : List GTape) (fp : List Nat) (v : Value) (w : World) (hS : Sl w (l.map GTape.toD) fp v) (hn : countR l ≤ 1048576) : Calls Try.prog 20 #[v] w (RetB (.bool (ordT l)) w) := by
  obtain ⟨A, c, rfl, hl, hc⟩ := hS.formT
  have hm : l.length ≤ 9223372036854775807 := by unfold maxLen at hc; omega
  clear hl hc
  go_enter Try.func20, Try.ntmps20
  go_wp2_with fail
  go_loopw [3] (fun iv wr => ∃ j : Nat, (j ≤ l.length) ∧ iv = .int .i64 ((j : Int) + 1) ∧ ordT l = ordT (l.drop j) ∧ Below w.heap.size w wr) (fun iv _ => l.length + 1 - (intOf iv).toNat)
  case atStart => exact ⟨0, by omega, rfl, rfl, Below.refl _ _⟩
  case round =>
    obtain ⟨j, hj, rfl, he, hb⟩ := hrel
    have he' := Lib.hid he
    clear he
    by_cases hlt : j + 1 < l.length
    · have hd1 : (l.map GTape.toD)[j]? = some (GTape.toD l[j]) := by rw [List.getElem?_map, List.getElem?_eq_getElem (by omega)]; rfl
      have hd2 : (l.map GTape.toD)[j + 1]? = some (GTape.toD l[j + 1]) := by rw [List.getElem?_map, List.getElem?_eq_getElem hlt]; rfl
      obtain ⟨b, o, fi1, ci1, rfl, hbb, hbf, hri1, hfi1, hat1⟩ := hS.elem GTape.szs hd1
      obtain ⟨b', o', fi2, ci2, hA2, hbb2, hbf2, hri2, hfi2, hat2⟩ := hS.elem GTape.szs hd2
      obtain ⟨rfl, rfl⟩ : b = b' ∧ o = o' := by
        injection hA2 with h
        injection h with h1 h2 _
        exact ⟨h1, h2⟩
      clear hA2 hbb2 hbf2
      obtain ⟨v1, g1, rfl, rfl, hS1⟩ := GTape.opened.1 hri1
      obtain ⟨v2, g2, rfl, rfl, hS2⟩ := GTape.opened.1 hri2
      obtain ⟨B1, e1, rfl, _, _⟩ := hS1.formT
      obtain ⟨B2, e2, rfl, _, _⟩ := hS2.formT
      have q10 : wr.cell? ⟨b, o + j * 3, none⟩ = some (.int .i64 l[j].cell) := (hb.cell (p := ⟨b, o + j * 3, none⟩) hbb).trans (hat1.head)
      have q11 : wr.cell? ⟨b, o + j * 3 + 1, none⟩ = some (.int .i64 l[j].ver) := (hb.cell (p := ⟨b, o + j * 3 + 1, none⟩) hbb).trans (hat1.nth 1 rfl)
      have q12 : wr.cell? ⟨b, o + j * 3 + 2, none⟩ = some (.slice B1 l[j].reads.length e1) := (hb.cell (p := ⟨b, o + j * 3 + 2, none⟩) hbb).trans (hat1.nth 2 rfl)
      have q20 : wr.cell? ⟨b, o + (j + 1) * 3, none⟩ = some (.int .i64 l[j + 1].cell) := (hb.cell (p := ⟨b, o + (j + 1) * 3, none⟩) hbb).trans (hat2.head)
      have q21 : wr.cell? ⟨b, o + (j + 1) * 3 + 1, none⟩ = some (.int .i64 l[j + 1].ver) := (hb.cell (p := ⟨b, o + (j + 1) * 3 + 1, none⟩) hbb).trans (hat2.nth 1 rfl)
      have q22 : wr.cell? ⟨b, o + (j + 1) * 3 + 2, none⟩ = some (.slice B2 l[j + 1].reads.length e2) := (hb.cell (p := ⟨b, o + (j + 1) * 3 + 2, none⟩) hbb).trans (hat2.nth 2 rfl)
      clear hat1 hat2 hd1 hd2 hri1 hri2 hS1 hS2
      have hbr : b < wr.heap.size := Nat.lt_of_lt_of_le hbb hb.size
      have hi1 : 0 ≤ (j : Int) := by omega
      have hi2 : (j : Int) < l.length := by omega
      have hi3 : (j : Int) + 1 < l.length := by omega
      have hi4 : 0 ≤ (j : Int) + 1 := by omega
      have hw1 : IntKind.i64.wrap ((j : Int) + 1 - 1) = (j : Int) := by rw [Int.add_sub_cancel]; exact IntWalk.i64_in _ (by omega)
      have hw2 : IntKind.i64.wrap (j : Int) = (j : Int) := IntWalk.i64_in _ (by omega)
      have hw3 : ((j : Int) + 1).toNat = j + 1 := by omega
      have hw1' := Lib.hid hw1
      have hw2' := Lib.hid hw2
      have hw3' := Lib.hid hw3
      have hB := fun wx => before_spec l[j] l[j + 1] _ _ B1 B2 l[j].reads.length l[j + 1].reads.length e1 e2 rfl rfl wx
      have hst := Lib.hid (show ordT (l.drop j) = (befT l[j] l[j + 1] && ordT (l.drop (j + 1))) by
        rw [List.drop_eq_getElem_cons (i := j) (by omega), List.drop_eq_getElem_cons (i := j + 1) hlt]
        rfl)
      cases hbe : befT l[j] l[j + 1] with
      | true =>
        have hf := Lib.hid (show ordT l = ordT (l.drop (j + 1)) by rw [he'.out, hst.out, hbe]; rfl)
        rw [hbe] at hB
        clear hbe
        go_wp2_with fail
        go_region_held3 (fun w' => w'.cell? ⟨b, o + j * 3, none⟩ = some (.int .i64 l[j].cell) ∧ w'.cell? ⟨b, o + j * 3 + 1, none⟩ = some (.int .i64 l[j].ver) ∧ w'.cell? ⟨b, o + j * 3 + 2, none⟩ = some (.slice B1 l[j].reads.length e1) ∧ w'.cell? ⟨b, o + (j + 1) * 3, none⟩ = some (.int .i64 l[j + 1].cell) ∧ w'.cell? ⟨b, o + (j + 1) * 3 + 1, none⟩ = some (.int .i64 l[j + 1].ver) ∧ w'.cell? ⟨b, o + (j + 1) * 3 + 2, none⟩ = some (.slice B2 l[j + 1].reads.length e2)) (go_keep)
          ((go_at_call 41; refine (hB _).mono ?_; rintro e w1 ⟨rfl, hb1⟩; have L1 : Below wr.heap.size wr w1 := (Below.refl _ _).drew.trans hb1; have c1 : ∀ o, w1.cell? ⟨b, o, none⟩ = wr.cell? ⟨b, o, none⟩ := fun o => L1.cell (p := ⟨b, o, none⟩) hbr))
        go_wp2_with fail
        go_roundw
        case rel => exact ⟨j + 1, by omega, by go_num, hf.out, hb.trans (L1.mono hb.size)⟩
        case measure => (simp [intOf] <;> omega)
      | false =>
        have hf := Lib.hid (show false = ordT l by rw [he'.out, hst.out, hbe]; rfl)
        rw [hbe] at hB
        clear hbe
        go_wp2_with fail
        go_region_held3 (fun w' => w'.cell? ⟨b, o + j * 3, none⟩ = some (.int .i64 l[j].cell) ∧ w'.cell? ⟨b, o + j * 3 + 1, none⟩ = some (.int .i64 l[j].ver) ∧ w'.cell? ⟨b, o + j * 3 + 2, none⟩ = some (.slice B1 l[j].reads.length e1) ∧ w'.cell? ⟨b, o + (j + 1) * 3, none⟩ = some (.int .i64 l[j + 1].cell) ∧ w'.cell? ⟨b, o + (j + 1) * 3 + 1, none⟩ = some (.int .i64 l[j + 1].ver) ∧ w'.cell? ⟨b, o + (j + 1) * 3 + 2, none⟩ = some (.slice B2 l[j + 1].reads.length e2)) (go_keep)
          ((go_at_call 41; refine (hB _).mono ?_; rintro e w1 ⟨rfl, hb1⟩; have L1 : Below wr.heap.size wr w1 := (Below.refl _ _).drew.trans hb1; have c1 : ∀ o, w1.cell? ⟨b, o, none⟩ = wr.cell? ⟨b, o, none⟩ := fun o => L1.cell (p := ⟨b, o, none⟩) hbr))
        go_wp2_with fail
        go_ret
        exact ⟨ret_bool hf.out, hb.trans (L1.mono hb.size)⟩
    · have hf := Lib.hid (show true = ordT l by
        rw [he'.out]
        match hq : l.drop j with
        | [] => rfl
        | [_] => rfl
        | _ :: _ :: r =>
          have := congrArg List.length hq
          simp at this
          omega)
      go_wp2_with fail
      go_ret
      exact ⟨ret_bool hf.out, hb⟩
end Go.Proofs.Ytpalobmopfpokaa
