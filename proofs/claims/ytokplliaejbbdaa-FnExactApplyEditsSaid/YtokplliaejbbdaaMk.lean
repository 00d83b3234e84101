/-
  The text of a mark.
-/
import Derived.Test.YtokplliaejbbdaaMark
import Derived.Test.YtokplliaejbbdaaProg
import Derived.Laws.IdiomStrings
import Derived.Laws.Concat
namespace Go.Proofs.Ytokplliaejbbdaa
open Go.RowKit
set_option linter.unusedSimpArgs false
set_option linter.unusedVariables false

theorem ret_str {a b : ByteArray} (h : a = b) : Ending.returned (.string a) = .returned (.string b) := by rw [h]
def RetBW (v : Value) (w : World) (e : Ending) (w' : World) : Prop := e = .returned v ∧ Below w.heap.size w w'
theorem decN_len (n : Nat) : (decN n).length ≤ n := by
  induction n using Nat.strongRecOn with
  | ind n ih =>
    by_cases h : n = 0
    · subst h; rw [decN_zero]; simp
    · rw [decN_pos h, List.length_append]
      have := ih (n / 10) (by omega)
      simp only [List.length_cons, List.length_nil]
      omega
theorem conv1 (w : World) (g n : Nat) (hn : n < 256) (hc : w.cell? ⟨g, 0, none⟩ = some (.int .u8 (n : Int))) :
    (convert 77 9 (.slice (some ⟨g, 0, none⟩) 1 1)).run Try.prog w = .ok (.string ⟨#[UInt8.ofNat n]⟩) w := by
  have h := run_convert_bytes_back (P := Try.prog) w 77 9 5 ⟨g, 0, none⟩ 1 [UInt8.ofNat n] Try.underlying77 Try.underlying5 Try.underlying9 (fun j hj => by
    have : j = 0 := by simpa using hj
    subst this
    have e : ((UInt8.ofNat n).toNat : Int) = (n : Int) := by simp; omega
    simp only [List.getElem_cons_zero, e]
    exact hc)
  exact h
set_option maxRecDepth 20000 in
set_option maxHeartbeats 1000000 in
theorem markText_any (k : Int) (w : World) (hk : k ≤ 4611686018427387904) : Calls Try.prog 48 #[.int .i64 k] w (RetBW (.string (mtxt k)) w) := by
  by_cases h : k ≤ 0
  · go_enter Try.func48, Try.ntmps48
    go_wp2
    go_ret
    exact ⟨ret_str (by unfold mtxt; rw [if_pos h]), Below.refl _ _⟩
  · obtain ⟨n, rfl⟩ := Int.eq_ofNat_of_zero_le (show 0 ≤ k by omega)
    go_enter Try.func48, Try.ntmps48
    go_wp2
    go_loopw [0, 3] (fun kv ov wr => ∃ (m : Nat) (l : List UInt8), m ≤ n ∧ kv = .int .i64 m ∧ ov = .string ⟨l.toArray⟩ ∧ decN n = decN m ++ l ∧ Below w.heap.size w wr) (fun kv _ _ => (intOf kv).toNat)
    case atStart => exact ⟨n, [], by omega, rfl, rfl, by simp, Below.refl _ _⟩
    case round =>
      obtain ⟨m, l, hmn, rfl, rfl, hd, hb⟩ := hrel
      have hl : l.length ≤ n := by have := decN_len n; rw [hd, List.length_append] at this; omega
      have hd' := Lib.hid hd
      clear hd
      by_cases hm : m = 0
      · have hm' : ¬ (0 : Int) < (m : Int) := by omega
        go_wp2
        go_ret
        refine ⟨ret_str ?_, hb⟩
        subst hm
        have e := hd'.out
        rw [decN_zero, List.nil_append] at e
        unfold mtxt
        rw [if_neg (by omega), Int.toNat_natCast, e, ByteArray.mk_append_mk]
        rfl
      · have hm' : (0 : Int) < (m : Int) := by omega
        have hcv := conv1 (wr.alloc (.cells #[.int .u8 (48 + (m : Int) % 10)] 5)) wr.heap.size (48 + m % 10) (by omega) (by simp)
        obtain ⟨c, hc⟩ : ∃ c : UInt8, c = UInt8.ofNat (48 + m % 10) := ⟨_, rfl⟩
        rw [← hc] at hcv
        have hc' := Lib.hid hc
        clear hc
        go_wp2
        go_roundw
        case rel => exact ⟨m / 10, c :: l, by omega, by simp, by rw [ByteArray.mk_append_mk]; rfl, by rw [hd'.out, decN_pos hm, List.append_assoc, ← hc'.out]; rfl, hb.alloc hb.size _⟩
        case measure => (simp [intOf] <;> omega)
end Go.Proofs.Ytokplliaejbbdaa
