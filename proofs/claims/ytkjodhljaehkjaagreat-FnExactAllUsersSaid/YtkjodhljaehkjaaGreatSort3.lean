/-
  The program's SortNames; both packages agree.
-/
import Derived.Test.YtkjodhljaehkjaaGreatSort2
import Derived.Test.YtkjodhljaehkjaaGreatShelf
import Derived.Sort.OwnSorted
namespace Go.Proofs.YtkjodhljaehkjaaGreat
open Go.RowKit
set_option linter.unusedSimpArgs false
set_option linter.unusedVariables false

def toB (x : List UInt8) : ByteArray := ⟨x.toArray⟩
def ofB (s : ByteArray) : List UInt8 := s.data.toList
theorem toB_ofB (s : ByteArray) : toB (ofB s) = s := by cases s; simp [toB, ofB]
theorem ofB_toB (x : List UInt8) : ofB (toB x) = x := by simp [toB, ofB]
def sortB (l : List ByteArray) : List ByteArray := ((l.map ofB).mergeSort fun x y => decide (x ≤ y)).map toB
theorem sortB_len (l : List ByteArray) : (sortB l).length = l.length := by simp [sortB]
theorem Rs_strs {w : World} : ∀ {l : List ByteArray} {fp : List Nat} {cs : List Value}, Rs w (l.map ls) fp cs ↔ fp = [] ∧ cs = l.map Value.string
  | [], fp, cs => by rw [List.map_nil, Rs]; rfl
  | x :: l, fp, cs => by
    rw [List.map_cons, Rs]
    constructor
    · rintro ⟨f1, f2, c1, c2, rfl, rfl, ⟨rfl, rfl⟩, h2⟩
      obtain ⟨rfl, rfl⟩ := Rs_strs.1 h2
      exact ⟨rfl, rfl⟩
    · rintro ⟨rfl, rfl⟩
      exact ⟨[], [], [.string x], l.map Value.string, rfl, rfl, ⟨rfl, rfl⟩, Rs_strs.2 ⟨rfl, rfl⟩⟩
theorem encB (s : ByteArray) : encStr (ofB s) = .string s := by show Value.string (toB (ofB s)) = _; rw [toB_ofB]

theorem sortStrings_own (l : List ByteArray) (g c base : Nat) (w : World) (h : OwnG w base 9 1 (l.map ls) [] (.slice (some ⟨g, 0, none⟩) l.length c)) (hn : l.length ≤ 4194304) :
    Calls Tryz.prog 115 #[.slice (some ⟨g, 0, none⟩) l.length c] w fun e w' => e = .returned (.tuple #[]) ∧ OwnG w' base 9 1 ((sortB l).map ls) [] (.slice (some ⟨g, 0, none⟩) l.length c) ∧ w.grownBy w' (some g) := by
  obtain ⟨cs, ⟨h1, h2⟩, h3, h4, h5⟩ := h
  obtain ⟨_, rfl⟩ := Rs_strs.1 h3
  rw [List.length_map] at h1 h2
  rcases h2 with ⟨h6, _⟩ | ⟨g', cap, cur, h6, h7, h8, h9, h10, h11, h12⟩
  · injection h6 with h6
    cases h6
  · injection h6 with h61 _ h63
    injection h61 with h61
    injection h61 with h61
    subst h61 h63
    have hg : g < w.heap.size := (Array.getElem?_eq_some_iff.1 h8).1
    have hH : Go.Sort.Holds encStr w g 0 (l.map ofB).toArray := by
      intro j hj
      have hj' : j < l.length := by simpa using hj
      have hc : cur[j]? = some (.string l[j]) := by
        have e : (cur.toList.take (l.length * 1))[j]? = (l.map Value.string)[j]? := by rw [h12]
        rw [List.getElem?_take_of_lt (by omega), Array.getElem?_toList, List.getElem?_map, List.getElem?_eq_getElem hj'] at e
        exact e
      refine ⟨?_, by simp [World.frozen?, h8]⟩
      have e2 : encStr (l.map ofB).toArray[j]! = .string l[j] := by
        rw [getElem!_pos _ j hj]
        simp only [List.getElem_toArray, List.getElem_map]
        exact encB _
      rw [e2]
      simpa [World.cell?, h8] using hc
    have hc := Tryz.sort_Strings g 0 c (l.map ofB) w hH hg (by rw [List.length_map]; omega)
    rw [List.length_map] at hc
    refine hc.mono ?_
    rintro e w' ⟨rfl, n, os, rfl⟩
    have hlen : ((l.map ofB).mergeSort fun x y => decide (x ≤ y)).length = (l.map ofB).length := by simp
    have ho := ownsRow_sorted (w := w) (n := n) (os := os) (base := base) (e := 9) hlen h7 h8 (by rw [List.length_map]; exact h9) h10 h11
    rw [List.length_map] at ho
    refine ⟨rfl, ⟨_, ?_, Rs_strs.2 ⟨rfl, rfl⟩, Free.nil, fun _ _ => by simp⟩, grownBy_sorted _⟩
    rw [List.length_map, sortB_len]
    have e3 : ((l.map ofB).mergeSort fun x y => decide (x ≤ y)).map encStr = (sortB l).map Value.string := by
      unfold sortB
      rw [List.map_map]
      rfl
    rw [e3] at ho
    exact ho

def firstsTo (l : List ByteArray) : Nat → List ByteArray
  | 0 => []
  | k + 1 => firstsTo l k ++ (match l[k]? with | some x => if idxS l x = (k : Int) then [x] else [] | none => [])
theorem firstsTo_len (l : List ByteArray) : ∀ k, (firstsTo l k).length ≤ k
  | 0 => Nat.le_refl _
  | k + 1 => by
    have := firstsTo_len l k
    rw [firstsTo, List.length_append]
    split
    · split <;> simp <;> omega
    · simp; omega
theorem firstsTo_succ (l : List ByteArray) (k : Nat) (h : k < l.length) : firstsTo l (k + 1) = firstsTo l k ++ (if idxS l l[k] = (k : Int) then [l[k]] else []) := by rw [firstsTo, List.getElem?_eq_getElem h]

set_option maxRecDepth 20000 in
set_option maxHeartbeats 4000000 in
theorem sortNames_impl0 (l : List ByteArray) (fp : List Nat) (v : Value) (w : World) (hS : Sl w (l.map ls) fp v) (hn : l.length ≤ 1048576) : Calls Tryz.prog 108 #[v] w (OwnStrs (sortB (firstsTo l l.length)) w) := by
  obtain ⟨A, c, rfl, hl, hc⟩ := hS.formT
  have hm : l.length ≤ 9223372036854775807 := by omega
  have hn' := Lib.hid hn
  clear hl hc hn
  go_enter Tryz.func108, Tryz.ntmps108
  go_wp2_with fail
  go_loopw [3, 9] (fun nv iv wr => ∃ (k g c1 : Nat), k ≤ l.length ∧ iv = .int .i64 k ∧ nv = .slice (some ⟨g, 0, none⟩) (firstsTo l k).length c1 ∧ OwnG wr w.heap.size 9 1 ((firstsTo l k).map ls) [] nv ∧ Below w.heap.size w wr) (fun _ iv _ => l.length - (intOf iv).toNat)
  case atStart => exact ⟨0, _, _, by omega, rfl, rfl, OwnG.lit rfl (Nat.le_refl _), (Below.refl _ _).alloc (Nat.le_refl _) _⟩
  case round =>
    obtain ⟨k, g, c1, hk, rfl, rfl, ho, hb⟩ := hrel
    by_cases hlt : k < l.length
    · have hd : (l.map ls)[k]? = some (ls l[k]) := by rw [List.getElem?_map, List.getElem?_eq_getElem hlt]; rfl
      obtain ⟨b, o, fi, ci, rfl, hbb, hbf, hri, hfi, hat⟩ := hS.elem ls_szs hd
      obtain ⟨rfl, rfl⟩ := hri
      simp only [Nat.mul_one] at hat
      have q0 : wr.cell? ⟨b, o + k, none⟩ = some (.string l[k]) := (hb.cell (p := ⟨b, o + k, none⟩) hbb).trans hat.head
      have hsu := Lib.hid (firstsTo_succ l k hlt)
      have hfl := Lib.hid (firstsTo_len l k)
      have hI := fun W h => indexOf_impl l l[k] fp _ W (hS.below (w' := W) h)
      clear hat hd
      cases e1 : (idxS l l[k] == (k : Int)) with
      | false =>
        have e2 := Lib.hid (show firstsTo l (k + 1) = firstsTo l k by rw [hsu.out, if_neg (by simpa using e1), List.append_nil])
        go_wp2_with (go_at_call 114; refine (hI _ hb).mono ?_; rintro e w' ⟨rfl, rfl⟩)
        go_roundw
        case rel => exact ⟨k + 1, g, c1, by omega, by go_num, by rw [e2.out], by rw [e2.out]; exact ho, hb⟩
        case measure => (simp [intOf] <;> omega)
      | true =>
        have e2 := Lib.hid (show firstsTo l (k + 1) = firstsTo l k ++ [l[k]] by rw [hsu.out, if_pos (by simpa using e1)])
        go_wp2_with (first
          | (go_at_call 114; refine (hI _ hb).mono ?_; rintro e w' ⟨rfl, rfl⟩)
          | (at_builtin; refine wpList_append_G rfl ekstr (.tmp 19) (.tmp 21) rfl w.heap.size _ (by rfl) _ [] (ho.below ((Below.refl _ _).alloc (Nat.le_refl _) _)) ([l[k]].map ls) [] _ (by rfl) (Src.one (Row.new_at rfl) ⟨rfl, rfl⟩) str_ones ls_szs free_nil dis_nil (by have := hfl.out; have := hn'.out; simp; omega) (by have := hb.size; simp; omega) ?_; intro v1 w1 ho1 hg1 hat1))
        rw [← List.map_append, ← e2.out] at ho1
        have hlen : 0 < (firstsTo l (k + 1)).length := by rw [e2.out]; simp
        obtain ⟨g5, c5, hv5⟩ := ho1.formPos (by rw [List.length_map]; exact hlen)
        rw [List.length_map] at hv5
        subst hv5
        have L3 : Below w.heap.size w w1 := below_own (hb.alloc hb.size _) hg1 (by have := hb.size; simp; omega) (fun g' h => (ho.ge g' h).1)
        go_roundw
        case rel => exact ⟨k + 1, g5, c5, by omega, by go_num, rfl, ho1, L3⟩
        case measure => (simp [intOf] <;> omega)
    · have hf := Lib.hid (show k = l.length by omega)
      have hfl := firstsTo_len l k
      have hs := sortStrings_own (firstsTo l k) g c1 w.heap.size wr ho (by have := hn'.out; omega)
      clear hfl
      go_wp2_with (go_at_call 115; refine hs.mono ?_; rintro e w2 ⟨rfl, ho2, hg2⟩)
      have L2 : Below w.heap.size w w2 := below_own (v := .slice (some ⟨g, 0, none⟩) 0 0) hb hg2 hb.size (fun g' h => by have h := Option.some.inj h; subst h; exact (ho.ge g rfl).1)
      go_ret
      have e := hf.out
      clear hf
      subst e
      exact ⟨_, _, rfl, ho2, L2⟩
end Go.Proofs.YtkjodhljaehkjaaGreat
