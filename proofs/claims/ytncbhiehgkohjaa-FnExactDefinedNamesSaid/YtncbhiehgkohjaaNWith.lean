/-
  The names of definers of which there is one, or several; DefinedNames, DuplicateNames, both packages.
-/
import Derived.Test.YtncbhiehgkohjaaSortLaw
namespace Go.Proofs.Ytncbhiehgkohjaa
open Go.RowKit
set_option linter.unusedSimpArgs false
set_option linter.unusedVariables false

def selW (l : List GPart) (sv : Bool) (x : GPart) : Bool := (x.kind != 1) && (decide (1 < (defsTo l x.name l.length).length) == sv)
def withTo (l : List GPart) (sv : Bool) : Nat → List ByteArray
  | 0 => []
  | k + 1 => withTo l sv k ++ (match l[k]? with | some x => if selW l sv x then [x.name] else [] | none => [])
theorem withTo_len (l : List GPart) (sv : Bool) : ∀ k, (withTo l sv k).length ≤ k
  | 0 => Nat.le_refl _
  | k + 1 => by
    have := withTo_len l sv k
    rw [withTo, List.length_append]
    split
    · split <;> simp <;> omega
    · simp; omega
theorem withTo_skip (l : List GPart) (sv : Bool) (k : Nat) (h : k < l.length) (e : selW l sv l[k] = false) : withTo l sv (k + 1) = withTo l sv k := by
  rw [withTo, List.getElem?_eq_getElem h]
  simp [e]
theorem withTo_hit (l : List GPart) (sv : Bool) (k : Nat) (h : k < l.length) (e : selW l sv l[k] = true) : withTo l sv (k + 1) = withTo l sv k ++ [l[k].name] := by
  rw [withTo, List.getElem?_eq_getElem h]
  simp [e]

set_option maxRecDepth 20000 in
set_option maxHeartbeats 8000000 in
theorem names_impl_false (l : List GPart) (fp : List Nat) (v : Value) (w : World) (hS : Sl w (l.map GPart.toD) fp v) (hn : l.length ≤ 1048576) : Calls Try.prog 92 #[v, .bool false] w (TosPost ((sortN (withTo l false l.length)).map ls) w) := by
  obtain ⟨A, c, rfl, hl, hc⟩ := hS.formT
  have hm : l.length ≤ 9223372036854775807 := by omega
  have hn' := Lib.hid hn
  clear hl hc hn
  go_enter Try.func92, Try.ntmps92
  go_wp2_with fail
  go_loopw [5, 11] (fun nv iv wr => ∃ (k g c1 : Nat), k ≤ l.length ∧ iv = .int .i64 k ∧ nv = .slice (some ⟨g, 0, none⟩) (withTo l false k).length c1 ∧ OwnG wr w.heap.size 9 1 ((withTo l false k).map ls) [] nv ∧ Below w.heap.size w wr) (fun _ iv _ => l.length - (intOf iv).toNat)
  case atStart => exact ⟨0, _, _, by omega, rfl, rfl, OwnG.lit rfl (Nat.le_refl _), (Below.refl _ _).alloc (Nat.le_refl _) _⟩
  case round =>
    obtain ⟨k, g, c1, hk, rfl, rfl, ho, hb⟩ := hrel
    by_cases hlt : k < l.length
    · skip
      have hd : (l.map GPart.toD)[k]? = some (GPart.toD l[k]) := by rw [List.getElem?_map, List.getElem?_eq_getElem hlt]; rfl
      obtain ⟨b, o, fi, ci, rfl, hbb, hbf, hri, hfi, hat⟩ := hS.elem GPart.szs hd
      obtain ⟨v0_, v1_, v2_, v3_, f0_, f1_, f2_, f3_, rfl, rfl, hV0, hV1, hV2, hV3⟩ := GPart.opened.1 hri
      obtain ⟨B0, e0_, rfl, hqa, hqb⟩ := hV0.formT
      clear hqa hqb hV0
      obtain ⟨B1, e1_, rfl, hqa, hqb⟩ := hV1.formT
      clear hqa hqb hV1
      obtain ⟨B2, e2_, rfl, hqa, hqb⟩ := hV2.formT
      clear hqa hqb hV2
      obtain ⟨B3, e3_, rfl, hqa, hqb⟩ := hV3.formT
      clear hqa hqb hV3
      have q0 : wr.cell? ⟨b, o + k * 14, none⟩ = some (.int .i64 l[k].kind) := (hb.cell (p := ⟨b, o + k * 14, none⟩) hbb).trans (hat.head)
      have q1 : wr.cell? ⟨b, o + k * 14 + 1, none⟩ = some (.string l[k].name) := (hb.cell (p := ⟨b, o + k * 14 + 1, none⟩) hbb).trans (hat.nth 1 rfl)
      have q2 : wr.cell? ⟨b, o + k * 14 + 2, none⟩ = some (.int .i64 l[k].expr.kind) := (hb.cell (p := ⟨b, o + k * 14 + 2, none⟩) hbb).trans (hat.nth 2 rfl)
      have q3 : wr.cell? ⟨b, o + k * 14 + 3, none⟩ = some (.int .i64 l[k].expr.n) := (hb.cell (p := ⟨b, o + k * 14 + 3, none⟩) hbb).trans (hat.nth 3 rfl)
      have q4 : wr.cell? ⟨b, o + k * 14 + 4, none⟩ = some (.string l[k].expr.text) := (hb.cell (p := ⟨b, o + k * 14 + 4, none⟩) hbb).trans (hat.nth 4 rfl)
      have q5 : wr.cell? ⟨b, o + k * 14 + 5, none⟩ = some (.slice B0 l[k].expr.args.length e0_) := (hb.cell (p := ⟨b, o + k * 14 + 5, none⟩) hbb).trans (hat.nth 5 rfl)
      have q6 : wr.cell? ⟨b, o + k * 14 + 6, none⟩ = some (.int .i64 l[k].value.kind) := (hb.cell (p := ⟨b, o + k * 14 + 6, none⟩) hbb).trans (hat.nth 6 rfl)
      have q7 : wr.cell? ⟨b, o + k * 14 + 7, none⟩ = some (.int .i64 l[k].value.n) := (hb.cell (p := ⟨b, o + k * 14 + 7, none⟩) hbb).trans (hat.nth 7 rfl)
      have q8 : wr.cell? ⟨b, o + k * 14 + 8, none⟩ = some (.int .i64 l[k].value.step) := (hb.cell (p := ⟨b, o + k * 14 + 8, none⟩) hbb).trans (hat.nth 8 rfl)
      have q9 : wr.cell? ⟨b, o + k * 14 + 9, none⟩ = some (.string l[k].value.text) := (hb.cell (p := ⟨b, o + k * 14 + 9, none⟩) hbb).trans (hat.nth 9 rfl)
      have q10 : wr.cell? ⟨b, o + k * 14 + 10, none⟩ = some (.slice B1 l[k].value.list.length e1_) := (hb.cell (p := ⟨b, o + k * 14 + 10, none⟩) hbb).trans (hat.nth 10 rfl)
      have q11 : wr.cell? ⟨b, o + k * 14 + 11, none⟩ = some (.slice B2 l[k].value.cols.length e2_) := (hb.cell (p := ⟨b, o + k * 14 + 11, none⟩) hbb).trans (hat.nth 11 rfl)
      have q12 : wr.cell? ⟨b, o + k * 14 + 12, none⟩ = some (.slice B3 l[k].value.rows.length e3_) := (hb.cell (p := ⟨b, o + k * 14 + 12, none⟩) hbb).trans (hat.nth 12 rfl)
      have q13 : wr.cell? ⟨b, o + k * 14 + 13, none⟩ = some (.int .i64 l[k].pos) := (hb.cell (p := ⟨b, o + k * 14 + 13, none⟩) hbb).trans (hat.nth 13 rfl)
      clear hat hd hri
      have hskip := Lib.hid (withTo_skip l false k hlt)
      have hhit := Lib.hid (withTo_hit l false k hlt)
      have hfl := Lib.hid (withTo_len l false k)
      have hD := fun W h => definers_impl l l[k].name fp _ W (hS.below (w' := W) h) hn'.out
      cases e1 : (l[k].kind != 1) with
      | false =>
        go_wp2_with fail
        go_roundw
        case rel => exact ⟨k + 1, g, c1, by omega, by go_num, by rw [hskip.out (by simp [selW, e1])], by rw [hskip.out (by simp [selW, e1])]; exact ho.below ((Below.refl _ _).alloc (Nat.le_refl _) _), (hb.alloc hb.size _)⟩
        case measure => (simp [intOf] <;> omega)
      | true =>
        by_cases p2 : (1 : Int) < ((defsTo l l[k].name l.length).length : Int)
        · skip
          have e2 := Lib.hid (show withTo l false (k + 1) = withTo l false k from hskip.out (by simp [selW, e1]; omega))
          go_wp2_with (go_at_call 106; refine (hD _ (hb.alloc hb.size _)).mono ?_; rintro e w1 ⟨vd, rfl, hod, hbd⟩; obtain ⟨Ad, cd, rfl, _, _⟩ := hod.sl.formT; obtain ⟨rw0, hz1, L1⟩ := rows1 hbd; have kk := rw0.cell; clear hbd)
          go_roundw
          case rel => exact ⟨k + 1, g, c1, by omega, by go_num, by rw [e2.out], by rw [e2.out]; exact ho.below L1, hb.trans (L1.mono hb.size)⟩
          case measure => (simp [intOf] <;> omega)
        · have p3 : decide ((1 : Int) < ((defsTo l l[k].name l.length).length : Int)) = false := by simpa using p2
          have e2 := Lib.hid (show withTo l false (k + 1) = withTo l false k ++ [l[k].name] from hhit.out (by simp [selW, e1]; omega))
          go_wp2_with (first
            | (go_at_call 106; refine (hD _ (hb.alloc hb.size _)).mono ?_; rintro e w1 ⟨vd, rfl, hod, hbd⟩; obtain ⟨Ad, cd, rfl, _, _⟩ := hod.sl.formT; obtain ⟨rw0, hz1, L1⟩ := rows1 hbd; have kk := rw0.cell; clear hbd)
            | (at_builtin; refine wpList_append_G rfl ekstr (.tmp 28) (.tmp 31) rfl w.heap.size _ (by rfl) _ [] ((ho.below L1).below ((Below.refl _ _).alloc (Nat.le_refl _) _)) ([l[k].name].map ls) [] _ (by rfl) (Src.one (Row.new_at rfl) ⟨rfl, rfl⟩) str_ones ls_szs free_nil dis_nil (by have := hfl.out; have := hn'.out; simp; omega) (by have := hb.size; have := L1.size; simp; omega) ?_; intro v1 w2 ho1 hg1 hat1))
          rw [← List.map_append, ← e2.out] at ho1
          have hlen : 0 < (withTo l false (k + 1)).length := by rw [e2.out]; simp
          obtain ⟨g5, c5, hv5⟩ := ho1.formPos (by rw [List.length_map]; exact hlen)
          rw [List.length_map] at hv5
          subst hv5
          have L3 : Below w.heap.size w w2 := below_own ((hb.trans (L1.mono hb.size)).alloc (Nat.le_trans hb.size L1.size) _) hg1 (by have := hb.size; have := L1.size; simp; omega) (fun g' h => (ho.ge g' h).1)
          go_roundw
          case rel => exact ⟨k + 1, g5, c5, by omega, by go_num, rfl, ho1, L3⟩
          case measure => (simp [intOf] <;> omega)
    · have hf := Lib.hid (show k = l.length by omega)
      have hfl := withTo_len l false k
      have hs := sortNames_impl (withTo l false k) _ _ wr ho.sl (by have := hn'.out; omega)
      clear hfl
      go_wp2_with (go_at_call 94; refine hs.mono ?_; rintro e w2 ⟨f2, v2, rfl, S2, F2, hb2⟩)
      go_ret
      have e := hf.out
      clear hf
      subst e
      exact ⟨f2, v2, rfl, S2, F2.mono hb.size, hb.trans (hb2.mono hb.size)⟩

set_option maxRecDepth 20000 in
set_option maxHeartbeats 8000000 in
theorem names_impl_true (l : List GPart) (fp : List Nat) (v : Value) (w : World) (hS : Sl w (l.map GPart.toD) fp v) (hn : l.length ≤ 1048576) : Calls Try.prog 92 #[v, .bool true] w (TosPost ((sortN (withTo l true l.length)).map ls) w) := by
  obtain ⟨A, c, rfl, hl, hc⟩ := hS.formT
  have hm : l.length ≤ 9223372036854775807 := by omega
  have hn' := Lib.hid hn
  clear hl hc hn
  go_enter Try.func92, Try.ntmps92
  go_wp2_with fail
  go_loopw [5, 11] (fun nv iv wr => ∃ (k g c1 : Nat), k ≤ l.length ∧ iv = .int .i64 k ∧ nv = .slice (some ⟨g, 0, none⟩) (withTo l true k).length c1 ∧ OwnG wr w.heap.size 9 1 ((withTo l true k).map ls) [] nv ∧ Below w.heap.size w wr) (fun _ iv _ => l.length - (intOf iv).toNat)
  case atStart => exact ⟨0, _, _, by omega, rfl, rfl, OwnG.lit rfl (Nat.le_refl _), (Below.refl _ _).alloc (Nat.le_refl _) _⟩
  case round =>
    obtain ⟨k, g, c1, hk, rfl, rfl, ho, hb⟩ := hrel
    by_cases hlt : k < l.length
    · skip
      have hd : (l.map GPart.toD)[k]? = some (GPart.toD l[k]) := by rw [List.getElem?_map, List.getElem?_eq_getElem hlt]; rfl
      obtain ⟨b, o, fi, ci, rfl, hbb, hbf, hri, hfi, hat⟩ := hS.elem GPart.szs hd
      obtain ⟨v0_, v1_, v2_, v3_, f0_, f1_, f2_, f3_, rfl, rfl, hV0, hV1, hV2, hV3⟩ := GPart.opened.1 hri
      obtain ⟨B0, e0_, rfl, hqa, hqb⟩ := hV0.formT
      clear hqa hqb hV0
      obtain ⟨B1, e1_, rfl, hqa, hqb⟩ := hV1.formT
      clear hqa hqb hV1
      obtain ⟨B2, e2_, rfl, hqa, hqb⟩ := hV2.formT
      clear hqa hqb hV2
      obtain ⟨B3, e3_, rfl, hqa, hqb⟩ := hV3.formT
      clear hqa hqb hV3
      have q0 : wr.cell? ⟨b, o + k * 14, none⟩ = some (.int .i64 l[k].kind) := (hb.cell (p := ⟨b, o + k * 14, none⟩) hbb).trans (hat.head)
      have q1 : wr.cell? ⟨b, o + k * 14 + 1, none⟩ = some (.string l[k].name) := (hb.cell (p := ⟨b, o + k * 14 + 1, none⟩) hbb).trans (hat.nth 1 rfl)
      have q2 : wr.cell? ⟨b, o + k * 14 + 2, none⟩ = some (.int .i64 l[k].expr.kind) := (hb.cell (p := ⟨b, o + k * 14 + 2, none⟩) hbb).trans (hat.nth 2 rfl)
      have q3 : wr.cell? ⟨b, o + k * 14 + 3, none⟩ = some (.int .i64 l[k].expr.n) := (hb.cell (p := ⟨b, o + k * 14 + 3, none⟩) hbb).trans (hat.nth 3 rfl)
      have q4 : wr.cell? ⟨b, o + k * 14 + 4, none⟩ = some (.string l[k].expr.text) := (hb.cell (p := ⟨b, o + k * 14 + 4, none⟩) hbb).trans (hat.nth 4 rfl)
      have q5 : wr.cell? ⟨b, o + k * 14 + 5, none⟩ = some (.slice B0 l[k].expr.args.length e0_) := (hb.cell (p := ⟨b, o + k * 14 + 5, none⟩) hbb).trans (hat.nth 5 rfl)
      have q6 : wr.cell? ⟨b, o + k * 14 + 6, none⟩ = some (.int .i64 l[k].value.kind) := (hb.cell (p := ⟨b, o + k * 14 + 6, none⟩) hbb).trans (hat.nth 6 rfl)
      have q7 : wr.cell? ⟨b, o + k * 14 + 7, none⟩ = some (.int .i64 l[k].value.n) := (hb.cell (p := ⟨b, o + k * 14 + 7, none⟩) hbb).trans (hat.nth 7 rfl)
      have q8 : wr.cell? ⟨b, o + k * 14 + 8, none⟩ = some (.int .i64 l[k].value.step) := (hb.cell (p := ⟨b, o + k * 14 + 8, none⟩) hbb).trans (hat.nth 8 rfl)
      have q9 : wr.cell? ⟨b, o + k * 14 + 9, none⟩ = some (.string l[k].value.text) := (hb.cell (p := ⟨b, o + k * 14 + 9, none⟩) hbb).trans (hat.nth 9 rfl)
      have q10 : wr.cell? ⟨b, o + k * 14 + 10, none⟩ = some (.slice B1 l[k].value.list.length e1_) := (hb.cell (p := ⟨b, o + k * 14 + 10, none⟩) hbb).trans (hat.nth 10 rfl)
      have q11 : wr.cell? ⟨b, o + k * 14 + 11, none⟩ = some (.slice B2 l[k].value.cols.length e2_) := (hb.cell (p := ⟨b, o + k * 14 + 11, none⟩) hbb).trans (hat.nth 11 rfl)
      have q12 : wr.cell? ⟨b, o + k * 14 + 12, none⟩ = some (.slice B3 l[k].value.rows.length e3_) := (hb.cell (p := ⟨b, o + k * 14 + 12, none⟩) hbb).trans (hat.nth 12 rfl)
      have q13 : wr.cell? ⟨b, o + k * 14 + 13, none⟩ = some (.int .i64 l[k].pos) := (hb.cell (p := ⟨b, o + k * 14 + 13, none⟩) hbb).trans (hat.nth 13 rfl)
      clear hat hd hri
      have hskip := Lib.hid (withTo_skip l true k hlt)
      have hhit := Lib.hid (withTo_hit l true k hlt)
      have hfl := Lib.hid (withTo_len l true k)
      have hD := fun W h => definers_impl l l[k].name fp _ W (hS.below (w' := W) h) hn'.out
      cases e1 : (l[k].kind != 1) with
      | false =>
        go_wp2_with fail
        go_roundw
        case rel => exact ⟨k + 1, g, c1, by omega, by go_num, by rw [hskip.out (by simp [selW, e1])], by rw [hskip.out (by simp [selW, e1])]; exact ho.below ((Below.refl _ _).alloc (Nat.le_refl _) _), (hb.alloc hb.size _)⟩
        case measure => (simp [intOf] <;> omega)
      | true =>
        by_cases p2 : (1 : Int) < ((defsTo l l[k].name l.length).length : Int)
        · skip
          have e2 := Lib.hid (show withTo l true (k + 1) = withTo l true k ++ [l[k].name] from hhit.out (by simp [selW, e1]; omega))
          go_wp2_with (first
            | (go_at_call 106; refine (hD _ (hb.alloc hb.size _)).mono ?_; rintro e w1 ⟨vd, rfl, hod, hbd⟩; obtain ⟨Ad, cd, rfl, _, _⟩ := hod.sl.formT; obtain ⟨rw0, hz1, L1⟩ := rows1 hbd; have kk := rw0.cell; clear hbd)
            | (at_builtin; refine wpList_append_G rfl ekstr (.tmp 28) (.tmp 31) rfl w.heap.size _ (by rfl) _ [] ((ho.below L1).below ((Below.refl _ _).alloc (Nat.le_refl _) _)) ([l[k].name].map ls) [] _ (by rfl) (Src.one (Row.new_at rfl) ⟨rfl, rfl⟩) str_ones ls_szs free_nil dis_nil (by have := hfl.out; have := hn'.out; simp; omega) (by have := hb.size; have := L1.size; simp; omega) ?_; intro v1 w2 ho1 hg1 hat1))
          rw [← List.map_append, ← e2.out] at ho1
          have hlen : 0 < (withTo l true (k + 1)).length := by rw [e2.out]; simp
          obtain ⟨g5, c5, hv5⟩ := ho1.formPos (by rw [List.length_map]; exact hlen)
          rw [List.length_map] at hv5
          subst hv5
          have L3 : Below w.heap.size w w2 := below_own ((hb.trans (L1.mono hb.size)).alloc (Nat.le_trans hb.size L1.size) _) hg1 (by have := hb.size; have := L1.size; simp; omega) (fun g' h => (ho.ge g' h).1)
          go_roundw
          case rel => exact ⟨k + 1, g5, c5, by omega, by go_num, rfl, ho1, L3⟩
          case measure => (simp [intOf] <;> omega)
        · have p3 : decide ((1 : Int) < ((defsTo l l[k].name l.length).length : Int)) = false := by simpa using p2
          have e2 := Lib.hid (show withTo l true (k + 1) = withTo l true k from hskip.out (by simp [selW, e1]; omega))
          go_wp2_with (go_at_call 106; refine (hD _ (hb.alloc hb.size _)).mono ?_; rintro e w1 ⟨vd, rfl, hod, hbd⟩; obtain ⟨Ad, cd, rfl, _, _⟩ := hod.sl.formT; obtain ⟨rw0, hz1, L1⟩ := rows1 hbd; have kk := rw0.cell; clear hbd)
          go_roundw
          case rel => exact ⟨k + 1, g, c1, by omega, by go_num, by rw [e2.out], by rw [e2.out]; exact ho.below L1, hb.trans (L1.mono hb.size)⟩
          case measure => (simp [intOf] <;> omega)
    · have hf := Lib.hid (show k = l.length by omega)
      have hfl := withTo_len l true k
      have hs := sortNames_impl (withTo l true k) _ _ wr ho.sl (by have := hn'.out; omega)
      clear hfl
      go_wp2_with (go_at_call 94; refine hs.mono ?_; rintro e w2 ⟨f2, v2, rfl, S2, F2, hb2⟩)
      go_ret
      have e := hf.out
      clear hf
      subst e
      exact ⟨f2, v2, rfl, S2, F2.mono hb.size, hb.trans (hb2.mono hb.size)⟩

set_option maxRecDepth 20000 in
set_option maxHeartbeats 8000000 in
theorem names_spec_false (l : List GPart) (fp : List Nat) (v : Value) (w : World) (hS : Sl w (l.map GPart.toD) fp v) (hn : l.length ≤ 1048576) : Calls Try.prog 91 #[v, .bool false] w (TosPost ((sortN (withTo l false l.length)).map ls) w) := by
  obtain ⟨A, c, rfl, hl, hc⟩ := hS.formT
  have hm : l.length ≤ 9223372036854775807 := by omega
  have hn' := Lib.hid hn
  clear hl hc hn
  go_enter Try.func91, Try.ntmps91
  go_wp2_with fail
  go_loopw [5, 6] (fun nv iv wr => ∃ (k g c1 : Nat), k ≤ l.length ∧ iv = .int .i64 k ∧ nv = .slice (some ⟨g, 0, none⟩) (withTo l false k).length c1 ∧ OwnG wr w.heap.size 9 1 ((withTo l false k).map ls) [] nv ∧ Below w.heap.size w wr) (fun _ iv _ => l.length - (intOf iv).toNat)
  case atStart => exact ⟨0, _, _, by omega, rfl, rfl, OwnG.lit rfl (Nat.le_refl _), (Below.refl _ _).alloc (Nat.le_refl _) _⟩
  case round =>
    obtain ⟨k, g, c1, hk, rfl, rfl, ho, hb⟩ := hrel
    by_cases hlt : k < l.length
    · skip
      have hd : (l.map GPart.toD)[k]? = some (GPart.toD l[k]) := by rw [List.getElem?_map, List.getElem?_eq_getElem hlt]; rfl
      obtain ⟨b, o, fi, ci, rfl, hbb, hbf, hri, hfi, hat⟩ := hS.elem GPart.szs hd
      obtain ⟨v0_, v1_, v2_, v3_, f0_, f1_, f2_, f3_, rfl, rfl, hV0, hV1, hV2, hV3⟩ := GPart.opened.1 hri
      obtain ⟨B0, e0_, rfl, hqa, hqb⟩ := hV0.formT
      clear hqa hqb hV0
      obtain ⟨B1, e1_, rfl, hqa, hqb⟩ := hV1.formT
      clear hqa hqb hV1
      obtain ⟨B2, e2_, rfl, hqa, hqb⟩ := hV2.formT
      clear hqa hqb hV2
      obtain ⟨B3, e3_, rfl, hqa, hqb⟩ := hV3.formT
      clear hqa hqb hV3
      have q0 : wr.cell? ⟨b, o + k * 14, none⟩ = some (.int .i64 l[k].kind) := (hb.cell (p := ⟨b, o + k * 14, none⟩) hbb).trans (hat.head)
      have q1 : wr.cell? ⟨b, o + k * 14 + 1, none⟩ = some (.string l[k].name) := (hb.cell (p := ⟨b, o + k * 14 + 1, none⟩) hbb).trans (hat.nth 1 rfl)
      clear hat hd hri
      have hskip := Lib.hid (withTo_skip l false k hlt)
      have hhit := Lib.hid (withTo_hit l false k hlt)
      have hfl := Lib.hid (withTo_len l false k)
      have hD := fun W h => definers_spec l l[k].name fp _ W (hS.below (w' := W) h) hn'.out
      cases e1 : (l[k].kind != 1) with
      | false =>
        go_wp2_with fail
        go_roundw
        case rel => exact ⟨k + 1, g, c1, by omega, by go_num, by rw [hskip.out (by simp [selW, e1])], by rw [hskip.out (by simp [selW, e1])]; exact ho, hb⟩
        case measure => (simp [intOf] <;> omega)
      | true =>
        by_cases p2 : (1 : Int) < ((defsTo l l[k].name l.length).length : Int)
        · skip
          have e2 := Lib.hid (show withTo l false (k + 1) = withTo l false k from hskip.out (by simp [selW, e1]; omega))
          go_wp2_with (go_at_call 102; refine (hD _ hb).mono ?_; rintro e w1 ⟨vd, rfl, hod, hbd⟩; obtain ⟨Ad, cd, rfl, _, _⟩ := hod.sl.formT; have L1 : Below wr.heap.size wr w1 := hbd; have qq : w1.cell? ⟨b, o + k * 14 + 1, none⟩ = some (.string l[k].name) := (L1.cell (p := ⟨b, o + k * 14 + 1, none⟩) (Nat.lt_of_lt_of_le hbb hb.size)).trans q1; clear hbd)
          go_roundw
          case rel => exact ⟨k + 1, g, c1, by omega, by go_num, by rw [e2.out], by rw [e2.out]; exact ho.below L1, hb.trans (L1.mono hb.size)⟩
          case measure => (simp [intOf] <;> omega)
        · have p3 : decide ((1 : Int) < ((defsTo l l[k].name l.length).length : Int)) = false := by simpa using p2
          have e2 := Lib.hid (show withTo l false (k + 1) = withTo l false k ++ [l[k].name] from hhit.out (by simp [selW, e1]; omega))
          go_wp2_with (first
            | (go_at_call 102; refine (hD _ hb).mono ?_; rintro e w1 ⟨vd, rfl, hod, hbd⟩; obtain ⟨Ad, cd, rfl, _, _⟩ := hod.sl.formT; have L1 : Below wr.heap.size wr w1 := hbd; have qq : w1.cell? ⟨b, o + k * 14 + 1, none⟩ = some (.string l[k].name) := (L1.cell (p := ⟨b, o + k * 14 + 1, none⟩) (Nat.lt_of_lt_of_le hbb hb.size)).trans q1; clear hbd)
            | (at_builtin; refine wpList_append_G rfl ekstr (.tmp 33) (.tmp 39) rfl w.heap.size _ (by rfl) _ [] ((ho.below L1).below ((Below.refl _ _).alloc (Nat.le_refl _) _)) ([l[k].name].map ls) [] _ (by rfl) (Src.one (Row.new_at rfl) ⟨rfl, rfl⟩) str_ones ls_szs free_nil dis_nil (by have := hfl.out; have := hn'.out; simp; omega) (by have := hb.size; have := L1.size; simp; omega) ?_; intro v1 w2 ho1 hg1 hat1))
          rw [← List.map_append, ← e2.out] at ho1
          have hlen : 0 < (withTo l false (k + 1)).length := by rw [e2.out]; simp
          obtain ⟨g5, c5, hv5⟩ := ho1.formPos (by rw [List.length_map]; exact hlen)
          rw [List.length_map] at hv5
          subst hv5
          have L3 : Below w.heap.size w w2 := below_own ((hb.trans (L1.mono hb.size)).alloc (Nat.le_trans hb.size L1.size) _) hg1 (by have := hb.size; have := L1.size; simp; omega) (fun g' h => (ho.ge g' h).1)
          go_roundw
          case rel => exact ⟨k + 1, g5, c5, by omega, by go_num, rfl, ho1, L3⟩
          case measure => (simp [intOf] <;> omega)
    · have hf := Lib.hid (show k = l.length by omega)
      have hfl := withTo_len l false k
      have hs := sortNames_spec (withTo l false k) _ _ wr ho.sl (by have := hn'.out; omega)
      clear hfl
      go_wp2_with (go_at_call 93; refine hs.mono ?_; rintro e w2 ⟨f2, v2, rfl, S2, F2, hb2⟩)
      go_ret
      have e := hf.out
      clear hf
      subst e
      exact ⟨f2, v2, rfl, S2, F2.mono hb.size, hb.trans (hb2.mono hb.size)⟩

set_option maxRecDepth 20000 in
set_option maxHeartbeats 8000000 in
theorem names_spec_true (l : List GPart) (fp : List Nat) (v : Value) (w : World) (hS : Sl w (l.map GPart.toD) fp v) (hn : l.length ≤ 1048576) : Calls Try.prog 91 #[v, .bool true] w (TosPost ((sortN (withTo l true l.length)).map ls) w) := by
  obtain ⟨A, c, rfl, hl, hc⟩ := hS.formT
  have hm : l.length ≤ 9223372036854775807 := by omega
  have hn' := Lib.hid hn
  clear hl hc hn
  go_enter Try.func91, Try.ntmps91
  go_wp2_with fail
  go_loopw [5, 6] (fun nv iv wr => ∃ (k g c1 : Nat), k ≤ l.length ∧ iv = .int .i64 k ∧ nv = .slice (some ⟨g, 0, none⟩) (withTo l true k).length c1 ∧ OwnG wr w.heap.size 9 1 ((withTo l true k).map ls) [] nv ∧ Below w.heap.size w wr) (fun _ iv _ => l.length - (intOf iv).toNat)
  case atStart => exact ⟨0, _, _, by omega, rfl, rfl, OwnG.lit rfl (Nat.le_refl _), (Below.refl _ _).alloc (Nat.le_refl _) _⟩
  case round =>
    obtain ⟨k, g, c1, hk, rfl, rfl, ho, hb⟩ := hrel
    by_cases hlt : k < l.length
    · skip
      have hd : (l.map GPart.toD)[k]? = some (GPart.toD l[k]) := by rw [List.getElem?_map, List.getElem?_eq_getElem hlt]; rfl
      obtain ⟨b, o, fi, ci, rfl, hbb, hbf, hri, hfi, hat⟩ := hS.elem GPart.szs hd
      obtain ⟨v0_, v1_, v2_, v3_, f0_, f1_, f2_, f3_, rfl, rfl, hV0, hV1, hV2, hV3⟩ := GPart.opened.1 hri
      obtain ⟨B0, e0_, rfl, hqa, hqb⟩ := hV0.formT
      clear hqa hqb hV0
      obtain ⟨B1, e1_, rfl, hqa, hqb⟩ := hV1.formT
      clear hqa hqb hV1
      obtain ⟨B2, e2_, rfl, hqa, hqb⟩ := hV2.formT
      clear hqa hqb hV2
      obtain ⟨B3, e3_, rfl, hqa, hqb⟩ := hV3.formT
      clear hqa hqb hV3
      have q0 : wr.cell? ⟨b, o + k * 14, none⟩ = some (.int .i64 l[k].kind) := (hb.cell (p := ⟨b, o + k * 14, none⟩) hbb).trans (hat.head)
      have q1 : wr.cell? ⟨b, o + k * 14 + 1, none⟩ = some (.string l[k].name) := (hb.cell (p := ⟨b, o + k * 14 + 1, none⟩) hbb).trans (hat.nth 1 rfl)
      clear hat hd hri
      have hskip := Lib.hid (withTo_skip l true k hlt)
      have hhit := Lib.hid (withTo_hit l true k hlt)
      have hfl := Lib.hid (withTo_len l true k)
      have hD := fun W h => definers_spec l l[k].name fp _ W (hS.below (w' := W) h) hn'.out
      cases e1 : (l[k].kind != 1) with
      | false =>
        go_wp2_with fail
        go_roundw
        case rel => exact ⟨k + 1, g, c1, by omega, by go_num, by rw [hskip.out (by simp [selW, e1])], by rw [hskip.out (by simp [selW, e1])]; exact ho, hb⟩
        case measure => (simp [intOf] <;> omega)
      | true =>
        by_cases p2 : (1 : Int) < ((defsTo l l[k].name l.length).length : Int)
        · skip
          have e2 := Lib.hid (show withTo l true (k + 1) = withTo l true k ++ [l[k].name] from hhit.out (by simp [selW, e1]; omega))
          go_wp2_with (first
            | (go_at_call 102; refine (hD _ hb).mono ?_; rintro e w1 ⟨vd, rfl, hod, hbd⟩; obtain ⟨Ad, cd, rfl, _, _⟩ := hod.sl.formT; have L1 : Below wr.heap.size wr w1 := hbd; have qq : w1.cell? ⟨b, o + k * 14 + 1, none⟩ = some (.string l[k].name) := (L1.cell (p := ⟨b, o + k * 14 + 1, none⟩) (Nat.lt_of_lt_of_le hbb hb.size)).trans q1; clear hbd)
            | (at_builtin; refine wpList_append_G rfl ekstr (.tmp 33) (.tmp 39) rfl w.heap.size _ (by rfl) _ [] ((ho.below L1).below ((Below.refl _ _).alloc (Nat.le_refl _) _)) ([l[k].name].map ls) [] _ (by rfl) (Src.one (Row.new_at rfl) ⟨rfl, rfl⟩) str_ones ls_szs free_nil dis_nil (by have := hfl.out; have := hn'.out; simp; omega) (by have := hb.size; have := L1.size; simp; omega) ?_; intro v1 w2 ho1 hg1 hat1))
          rw [← List.map_append, ← e2.out] at ho1
          have hlen : 0 < (withTo l true (k + 1)).length := by rw [e2.out]; simp
          obtain ⟨g5, c5, hv5⟩ := ho1.formPos (by rw [List.length_map]; exact hlen)
          rw [List.length_map] at hv5
          subst hv5
          have L3 : Below w.heap.size w w2 := below_own ((hb.trans (L1.mono hb.size)).alloc (Nat.le_trans hb.size L1.size) _) hg1 (by have := hb.size; have := L1.size; simp; omega) (fun g' h => (ho.ge g' h).1)
          go_roundw
          case rel => exact ⟨k + 1, g5, c5, by omega, by go_num, rfl, ho1, L3⟩
          case measure => (simp [intOf] <;> omega)
        · have p3 : decide ((1 : Int) < ((defsTo l l[k].name l.length).length : Int)) = false := by simpa using p2
          have e2 := Lib.hid (show withTo l true (k + 1) = withTo l true k from hskip.out (by simp [selW, e1]; omega))
          go_wp2_with (go_at_call 102; refine (hD _ hb).mono ?_; rintro e w1 ⟨vd, rfl, hod, hbd⟩; obtain ⟨Ad, cd, rfl, _, _⟩ := hod.sl.formT; have L1 : Below wr.heap.size wr w1 := hbd; have qq : w1.cell? ⟨b, o + k * 14 + 1, none⟩ = some (.string l[k].name) := (L1.cell (p := ⟨b, o + k * 14 + 1, none⟩) (Nat.lt_of_lt_of_le hbb hb.size)).trans q1; clear hbd)
          go_roundw
          case rel => exact ⟨k + 1, g, c1, by omega, by go_num, by rw [e2.out], by rw [e2.out]; exact ho.below L1, hb.trans (L1.mono hb.size)⟩
          case measure => (simp [intOf] <;> omega)
    · have hf := Lib.hid (show k = l.length by omega)
      have hfl := withTo_len l true k
      have hs := sortNames_spec (withTo l true k) _ _ wr ho.sl (by have := hn'.out; omega)
      clear hfl
      go_wp2_with (go_at_call 93; refine hs.mono ?_; rintro e w2 ⟨f2, v2, rfl, S2, F2, hb2⟩)
      go_ret
      have e := hf.out
      clear hf
      subst e
      exact ⟨f2, v2, rfl, S2, F2.mono hb.size, hb.trans (hb2.mono hb.size)⟩

theorem definedNames_impl (l : List GPart) (fp : List Nat) (v : Value) (w : World) (hS : Sl w (l.map GPart.toD) fp v) (hn : l.length ≤ 1048576) : Calls Try.prog 50 #[v] w (TosPost ((sortN (withTo l false l.length)).map ls) w) := by
  have h := names_impl_false l fp v w hS hn
  obtain ⟨A, c, rfl, hl, hc⟩ := hS.formT
  clear hS hl hc
  go_enter Try.func50, Try.ntmps50
  go_wp2_with (go_at_call 92; refine h.mono ?_; rintro e w2 ⟨f2, v2, rfl, S2, F2, hb2⟩)
  go_ret
  exact ⟨f2, v2, rfl, S2, F2, hb2⟩

theorem duplicateNames_impl (l : List GPart) (fp : List Nat) (v : Value) (w : World) (hS : Sl w (l.map GPart.toD) fp v) (hn : l.length ≤ 1048576) : Calls Try.prog 52 #[v] w (TosPost ((sortN (withTo l true l.length)).map ls) w) := by
  have h := names_impl_true l fp v w hS hn
  obtain ⟨A, c, rfl, hl, hc⟩ := hS.formT
  clear hS hl hc
  go_enter Try.func52, Try.ntmps52
  go_wp2_with (go_at_call 92; refine h.mono ?_; rintro e w2 ⟨f2, v2, rfl, S2, F2, hb2⟩)
  go_ret
  exact ⟨f2, v2, rfl, S2, F2, hb2⟩

theorem definedNames_spec (l : List GPart) (fp : List Nat) (v : Value) (w : World) (hS : Sl w (l.map GPart.toD) fp v) (hn : l.length ≤ 1048576) : Calls Try.prog 49 #[v] w (TosPost ((sortN (withTo l false l.length)).map ls) w) := by
  have h := names_spec_false l fp v w hS hn
  obtain ⟨A, c, rfl, hl, hc⟩ := hS.formT
  clear hS hl hc
  go_enter Try.func49, Try.ntmps49
  go_wp2_with (go_at_call 91; refine h.mono ?_; rintro e w2 ⟨f2, v2, rfl, S2, F2, hb2⟩)
  go_ret
  exact ⟨f2, v2, rfl, S2, F2, hb2⟩

theorem duplicateNames_spec (l : List GPart) (fp : List Nat) (v : Value) (w : World) (hS : Sl w (l.map GPart.toD) fp v) (hn : l.length ≤ 1048576) : Calls Try.prog 51 #[v] w (TosPost ((sortN (withTo l true l.length)).map ls) w) := by
  have h := names_spec_true l fp v w hS hn
  obtain ⟨A, c, rfl, hl, hc⟩ := hS.formT
  clear hS hl hc
  go_enter Try.func51, Try.ntmps51
  go_wp2_with (go_at_call 91; refine h.mono ?_; rintro e w2 ⟨f2, v2, rfl, S2, F2, hb2⟩)
  go_ret
  exact ⟨f2, v2, rfl, S2, F2, hb2⟩
end Go.Proofs.Ytncbhiehgkohjaa
