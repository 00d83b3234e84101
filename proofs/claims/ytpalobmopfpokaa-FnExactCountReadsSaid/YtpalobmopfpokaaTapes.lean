/-
  Tapes: how many reads there are; both packages.
-/
import Derived.Test.YtpalobmopfpokaaNames
namespace Go.Proofs.Ytpalobmopfpokaa
open Go.RowKit
set_option linter.unusedSimpArgs false
set_option linter.unusedVariables false

def countR : List GTape → Nat
  | [] => 0
  | t :: l => t.reads.length + countR l
theorem countR_append (l r : List GTape) : countR (l ++ r) = countR l + countR r := by
  induction l with
  | nil => simp [countR]
  | cons x l ih => rw [List.cons_append, countR, countR, ih]; omega
theorem countR_succ (l : List GTape) (k : Nat) (h : k < l.length) : countR (l.take (k + 1)) = countR (l.take k) + l[k].reads.length := by
  rw [List.take_succ_eq_append_getElem h, countR_append]
  simp [countR]
theorem countR_take (l : List GTape) (k : Nat) : countR (l.take k) ≤ countR l := by
  have h := countR_append (l.take k) (l.drop k)
  rw [List.take_append_drop] at h
  omega
theorem countR_wts : ∀ (l : List GTape), countR l ≤ D.wts (l.map GTape.toD)
  | [] => Nat.le_refl _
  | x :: l => by
    have h := countR_wts l
    rw [List.map_cons, D.wts, countR, GTape.wt_eq, List.length_map]
    omega

set_option maxHeartbeats 1000000 in
theorem countReads_impl (l : List GTape) (fp : List Nat) (v : Value) (w : World) (hS : Sl w (l.map GTape.toD) fp v) (hn : countR l ≤ 1048576) : Calls Try.prog 18 #[v] w (RetB (.int .i64 (countR l : Nat)) w) := by
  obtain ⟨A, c, rfl, hl, hc⟩ := hS.formT
  have hm : l.length ≤ 9223372036854775807 := by unfold maxLen at hc; omega
  clear hl hc
  go_enter Try.func18, Try.ntmps18
  go_wp2_with fail
  go_loopw [3, 8] (fun nv iv wr => ∃ k : Nat, k ≤ l.length ∧ iv = .int .i64 k ∧ nv = .int .i64 (countR (l.take k) : Nat) ∧ Below w.heap.size w wr) (fun _ iv _ => l.length - (intOf iv).toNat)
  case atStart => exact ⟨0, by omega, rfl, rfl, Below.refl _ _⟩
  case round =>
    obtain ⟨k, hk, rfl, rfl, hb⟩ := hrel
    by_cases hlt : k < l.length
    · have hd : (l.map GTape.toD)[k]? = some (GTape.toD l[k]) := by rw [List.getElem?_map, List.getElem?_eq_getElem hlt]; rfl
      obtain ⟨b, o, fi, ci, rfl, hbb, hbf, hri, hfi, hat⟩ := hS.elem GTape.szs hd
      obtain ⟨vr, fr, rfl, rfl, hSr⟩ := GTape.opened.1 hri
      obtain ⟨Ar, cr, rfl, _, _⟩ := hSr.formT
      have q0 : wr.cell? ⟨b, o + k * 3, none⟩ = some (.int .i64 l[k].cell) := (hb.cell (p := ⟨b, o + k * 3, none⟩) hbb).trans (hat.head)
      have q1 : wr.cell? ⟨b, o + k * 3 + 1, none⟩ = some (.int .i64 l[k].ver) := (hb.cell (p := ⟨b, o + k * 3 + 1, none⟩) hbb).trans (hat.nth 1 rfl)
      have q2 : wr.cell? ⟨b, o + k * 3 + 2, none⟩ = some (.slice Ar l[k].reads.length cr) := (hb.cell (p := ⟨b, o + k * 3 + 2, none⟩) hbb).trans (hat.nth 2 rfl)
      clear hat hd hri hSr
      have hst := Lib.hid (countR_succ l k hlt)
      have hle := countR_take l (k + 1)
      have hle2 := Lib.hid hle
      have hbd : (countR (l.take k) : Int) + (l[k].reads.length : Int) ≤ 1048576 := by have := countR_succ l k hlt; omega
      have hbd2 : 0 ≤ (countR (l.take k) : Int) := by omega
      clear hle
      go_wp2_with fail
      go_roundw
      case rel => exact ⟨k + 1, by omega, by go_num, by rw [hst.out]; go_num, by first | exact hb | exact hb.alloc hb.size _⟩
      case measure => (simp [intOf] <;> omega)
    · have hf := Lib.hid (show (countR (l.take k) : Int) = (countR l : Nat) by rw [List.take_of_length_le (by omega)])
      go_wp2_with fail
      go_ret
      exact ⟨ret_int hf.out, hb⟩

set_option maxHeartbeats 1000000 in
theorem countReads_spec (l : List GTape) (fp : List Nat) (v : Value) (w : World) (hS : Sl w (l.map GTape.toD) fp v) (hn : countR l ≤ 1048576) : Calls Try.prog 16 #[v] w (RetB (.int .i64 (countR l : Nat)) w) := by
  obtain ⟨A, c, rfl, hl, hc⟩ := hS.formT
  have hm : l.length ≤ 9223372036854775807 := by unfold maxLen at hc; omega
  clear hl hc
  go_enter Try.func16, Try.ntmps16
  go_wp2_with fail
  go_loopw [3, 4] (fun nv iv wr => ∃ k : Nat, k ≤ l.length ∧ iv = .int .i64 k ∧ nv = .int .i64 (countR (l.take k) : Nat) ∧ Below w.heap.size w wr) (fun _ iv _ => l.length - (intOf iv).toNat)
  case atStart => exact ⟨0, by omega, rfl, rfl, Below.refl _ _⟩
  case round =>
    obtain ⟨k, hk, rfl, rfl, hb⟩ := hrel
    by_cases hlt : k < l.length
    · have hd : (l.map GTape.toD)[k]? = some (GTape.toD l[k]) := by rw [List.getElem?_map, List.getElem?_eq_getElem hlt]; rfl
      obtain ⟨b, o, fi, ci, rfl, hbb, hbf, hri, hfi, hat⟩ := hS.elem GTape.szs hd
      obtain ⟨vr, fr, rfl, rfl, hSr⟩ := GTape.opened.1 hri
      obtain ⟨Ar, cr, rfl, _, _⟩ := hSr.formT
      have q0 : wr.cell? ⟨b, o + k * 3, none⟩ = some (.int .i64 l[k].cell) := (hb.cell (p := ⟨b, o + k * 3, none⟩) hbb).trans (hat.head)
      have q1 : wr.cell? ⟨b, o + k * 3 + 1, none⟩ = some (.int .i64 l[k].ver) := (hb.cell (p := ⟨b, o + k * 3 + 1, none⟩) hbb).trans (hat.nth 1 rfl)
      have q2 : wr.cell? ⟨b, o + k * 3 + 2, none⟩ = some (.slice Ar l[k].reads.length cr) := (hb.cell (p := ⟨b, o + k * 3 + 2, none⟩) hbb).trans (hat.nth 2 rfl)
      clear hat hd hri hSr
      have hst := Lib.hid (countR_succ l k hlt)
      have hle := countR_take l (k + 1)
      have hle2 := Lib.hid hle
      have hbd : (countR (l.take k) : Int) + (l[k].reads.length : Int) ≤ 1048576 := by have := countR_succ l k hlt; omega
      have hbd2 : 0 ≤ (countR (l.take k) : Int) := by omega
      clear hle
      go_wp2_with fail
      go_roundw
      case rel => exact ⟨k + 1, by omega, by go_num, by rw [hst.out]; go_num, by first | exact hb | exact hb.alloc hb.size _⟩
      case measure => (simp [intOf] <;> omega)
    · have hf := Lib.hid (show (countR (l.take k) : Int) = (countR l : Nat) by rw [List.take_of_length_le (by omega)])
      go_wp2_with fail
      go_ret
      exact ⟨ret_int hf.out, hb⟩
end Go.Proofs.Ytpalobmopfpokaa
