/-
  The reference's SortNames: an insertion.
-/
import Derived.Test.YtkjodhljaehkjaaGreatSort
import Derived.BigQuiet
namespace Go.Proofs.YtkjodhljaehkjaaGreat
open Go.RowKit
set_option linter.unusedSimpArgs false
set_option linter.unusedVariables false

theorem flat_strs {w : World} {l : List ByteArray} : ∀ (f : List Nat) (cs : List Value), Rs w (l.map ls) f cs → f = [] := by
  induction l with
  | nil => intro f cs h; exact h.1
  | cons x l ih =>
    intro f cs h
    rw [List.map_cons, Rs] at h
    obtain ⟨f1, f2, c1, c2, rfl, rfl, h1, h2⟩ := h
    rw [h1.1, ih f2 c2 h2]
    rfl
def insAt (acc : List ByteArray) (x : ByteArray) (at_ : Nat) : List ByteArray := if acc[at_]? = some x then acc else acc.take at_ ++ [x] ++ acc.drop at_
def ltS (a b : ByteArray) : Bool := Op.bytesLess a.toList b.toList
def posS : List ByteArray → ByteArray → Nat
  | [], _ => 0
  | y :: r, x => if ltS y x then posS r x + 1 else 0
theorem posS_le (l : List ByteArray) (x : ByteArray) : posS l x ≤ l.length := by
  induction l with
  | nil => simp [posS]
  | cons y r ih => rw [posS]; split <;> simp <;> omega
def insS (acc : List ByteArray) (x : ByteArray) : List ByteArray := insAt acc x (posS acc x)
theorem insS_len (acc : List ByteArray) (x : ByteArray) : (insS acc x).length ≤ acc.length + 1 := by
  unfold insS insAt
  have := posS_le acc x
  split <;> simp <;> omega
def sortTo (l : List ByteArray) (k : Nat) : List ByteArray := (l.take k).foldl insS []
theorem sortTo_len (l : List ByteArray) (k : Nat) : (sortTo l k).length ≤ k := by
  induction k with
  | zero => simp [sortTo]
  | succ k ih =>
    by_cases h : k < l.length
    · unfold sortTo
      rw [List.take_succ_eq_append_getElem h, List.foldl_append]
      have := insS_len ((l.take k).foldl insS []) l[k]
      unfold sortTo at ih
      simp only [List.foldl_cons, List.foldl_nil]
      omega
    · unfold sortTo at ih ⊢
      rw [List.take_of_length_le (by omega)] at ih ⊢
      omega
theorem sortTo_succ (l : List ByteArray) (k : Nat) (h : k < l.length) : sortTo l (k + 1) = insS (sortTo l k) l[k] := by
  unfold sortTo
  rw [List.take_succ_eq_append_getElem h, List.foldl_append]
  rfl

/-- What is handed back: strings in memory of one's own. -/
def OwnStrs (l : List ByteArray) (w : World) (en : Ending) (w' : World) : Prop := ∃ f v, en = .returned v ∧ OwnG w' w.heap.size 9 1 (l.map ls) f v ∧ Below w.heap.size w w'
theorem OwnStrs.tos {l : List ByteArray} {w w' : World} {en : Ending} (h : OwnStrs l w en w') : TosPost (l.map ls) w en w' := by
  obtain ⟨f, v, rfl, h1, h2⟩ := h
  exact h1.tos h2
set_option maxRecDepth 20000 in
set_option maxHeartbeats 8000000 in
theorem sortNames_spec_own (l : List ByteArray) (fp : List Nat) (v : Value) (w : World) (hS : Sl w (l.map ls) fp v) (hn : l.length ≤ 1048576) : Calls Tryz.prog 104 #[v] w (OwnStrs (sortTo l l.length) w) := by
  obtain ⟨A, c, rfl, hl, hc⟩ := hS.formT
  have hm : l.length ≤ 9223372036854775807 := by omega
  have hn' := Lib.hid hn
  clear hl hc hn
  go_enter Tryz.func104, Tryz.ntmps104
  go_wp2_with fail
  go_loopw [3, 4] (fun nv iv wr => ∃ (k : Nat) (g c1 : Nat), k ≤ l.length ∧ iv = .int .i64 k ∧ nv = .slice (some ⟨g, 0, none⟩) (sortTo l k).length c1 ∧ OwnG wr w.heap.size 9 1 ((sortTo l k).map ls) [] nv ∧ Below w.heap.size w wr) (fun _ iv _ => l.length - (intOf iv).toNat)
  case atStart => exact ⟨0, _, _, by omega, rfl, rfl, OwnG.lit rfl (Nat.le_refl _), (Below.refl _ _).alloc (Nat.le_refl _) _⟩
  case round =>
    obtain ⟨k, g, c1, hk, rfl, rfl, ho, hb⟩ := hrel
    by_cases hlt : k < l.length
    · have hd : (l.map ls)[k]? = some (ls l[k]) := by rw [List.getElem?_map, List.getElem?_eq_getElem hlt]; rfl
      obtain ⟨b, o, fi, ci, rfl, hbb, hbf, hri, hfi, hat⟩ := hS.elem ls_szs hd
      obtain ⟨rfl, rfl⟩ := hri
      simp only [Nat.mul_one] at hat
      have hsl := Lib.hid (sortTo_len l k)
      have hsu := Lib.hid (sortTo_succ l k hlt)
      generalize hacc : sortTo l k = acc at *
      have hx : w.cell? ⟨b, o + k, none⟩ = some (.string l[k]) := hat.head
      generalize l[k] = x at *
      clear hacc hat hd
      have q0 : wr.cell? ⟨b, o + k, none⟩ = some (.string x) := (hb.cell (p := ⟨b, o + k, none⟩) hbb).trans hx
      have hk1 : (k : Int) < l.length := by omega
      have hk0 : (0 : Int) ≤ (k : Int) := by omega
      have hal : acc.length ≤ 1048576 := by have := hsl.out; have := hn'.out; omega
      have hbr : b < wr.heap.size := Nat.lt_of_lt_of_le hbb hb.size
      have hac : acc.length ≤ c1 := by
        obtain ⟨A', c', e1, e2, _⟩ := ho.sl.formT
        injection e1 with _ _ e1
        omega
      go_wp2_with fail
      go_loopw [5] (fun av w2 => ∃ (j n : Nat), j ≤ acc.length ∧ av = .int .i64 j ∧ posS acc x = posS (acc.drop j) x + j ∧ w2 = wr.drewN n) (fun av _ => acc.length - (intOf av).toNat)
      case atStart => exact ⟨0, 0, by omega, rfl, by simp, rfl⟩
      case round =>
        obtain ⟨j, n, hj, rfl, hpos, hw2⟩ := hrel
        subst hw2
        have hpos' := Lib.hid hpos
        clear hpos
        have hj0 : (0 : Int) ≤ (j : Int) := by omega
        by_cases hjl : j < acc.length
        · have hj1 : (j : Int) < acc.length := by omega
          have hda : (acc.map ls)[j]? = some (ls acc[j]) := by rw [List.getElem?_map, List.getElem?_eq_getElem hjl]; rfl
          obtain ⟨b2, o2, fi2, ci2, hbo, hbb2, hbf2, hri2, hfi2, hat2⟩ := ho.sl.elem ls_szs hda
          obtain ⟨rfl, rfl⟩ := hri2
          injection hbo with hbo
          injection hbo with hb1 hb2 _
          subst hb1 hb2
          simp only [Nat.mul_one, Nat.zero_add] at hat2
          have q1 : wr.cell? ⟨g, j, none⟩ = some (.string acc[j]) := hat2.head
          clear hat2 hda
          generalize hy : acc[j] = y at *
          have hy' := Lib.hid hy
          clear hy
          have h1 : ∀ W : World, (Instr.slice 40 (.slice (some ⟨g, 0, none⟩) acc.length c1) none (some (.int .i64 (j : Int))) none).run Tryz.prog W = .ok (.slice (some ⟨g, 0, none⟩) j c1) W := ekstr.sub_hi j hj hac
          obtain ⟨A2, h2', h2s⟩ := ekstr.sub_lo (A := some ⟨g, 0, none⟩) j hj hac
          have h2 : ∀ W : World, (Instr.slice 40 (.slice (some ⟨g, 0, none⟩) acc.length c1) (some (.int .i64 (j : Int))) none none).run Tryz.prog W = .ok (.slice A2 (acc.length - j) (c1 - j)) W := h2'
          obtain ⟨fd, hSd, _⟩ := h2s wr _ _ ls_szs ho.sl
          rw [← List.map_drop] at hSd
          clear h2' h2s
          cases e2 : Op.bytesLess y.toList x.toList with
          | true =>
            have hst := Lib.hid (show posS acc x = posS (acc.drop (j + 1)) x + (j + 1) by
              have h1 := hpos'.out
              rw [List.drop_eq_getElem_cons hjl, posS, hy'.out, ltS, e2, if_pos rfl] at h1
              omega)
            go_wp2_with fail
            go_quiet (fail)
            go_wp2_with fail
            go_roundw
            case rel => exact ⟨j + 1, _, by omega, by go_num, hst.out, by first | rfl | rw [World.drewN_drewN]⟩
            case measure => (simp [intOf] <;> omega)
          | false =>
            have hst := Lib.hid (show posS acc x = j by
              have h1 := hpos'.out
              rw [List.drop_eq_getElem_cons hjl, posS, hy'.out, ltS, e2, if_neg (by simp)] at h1
              omega)
            cases e3 : (y.toList == x.toList) with
            | true =>
              have heq := Lib.hid (show insS acc x = acc by
                have hyx : y = x := bytes_eq_of (by simpa using e3)
                unfold insS insAt
                rw [hst.out, List.getElem?_eq_getElem hjl, hy'.out, hyx, if_pos rfl])
              go_wp2_with fail
              go_quiet (fail)
              go_wp2_with fail
              go_quiet (fail)
              go_wp2_with fail
              go_roundw
              case rel => exact ⟨k + 1, g, c1, by omega, by go_num, by rw [hsu.out, heq.out], by rw [hsu.out, heq.out]; exact ho.below (below_drewN (Below.refl _ _) _), below_drewN hb _⟩
              case measure => (simp [intOf] <;> omega)
            | false =>
              have heq := Lib.hid (show insS acc x = acc.take j ++ [x] ++ acc.drop j by
                have hyx : ¬ y = x := fun e => by simp [e] at e3
                unfold insS insAt
                rw [hst.out, List.getElem?_eq_getElem hjl, hy'.out, if_neg (by simpa using hyx)])
              go_wp2_with fail
              go_quiet (fail)
              go_wp2_with fail
              go_quiet (fail)
              go_wp2_with (at_builtin; refine wpList_append_G rfl ekstr (.tmp 46) (.tmp 49) rfl wr.heap.size _ (by rfl) [] [] (by first | exact (OwnG.lit rfl (Nat.le_refl _)).drewN _ | exact OwnG.lit rfl (Nat.le_refl _)) ((acc.drop j).map ls) [] _ (by rfl) (Src.of_flat (hSd.below (by first | exact below_drewN ((Below.refl _ _).alloc (Nat.le_refl _) _) _ | exact (Below.refl _ _).alloc (Nat.le_refl _) _)) flat_strs) str_ones ls_szs free_nil dis_nil (by simp; try omega) (by simp) ?_; intro v1 w1 ho1 hg1 hat1; have L1 : Below wr.heap.size wr w1 := below_own (by first | exact below_drewN ((Below.refl _ _).alloc (Nat.le_refl _) _) _ | exact (Below.refl _ _).alloc (Nat.le_refl _) _) hg1 (by simp) (fun g' h => by have h := Option.some.inj h; try dsimp only at h; omega); clear hg1 hat1)
              have hot : OwnG w1 w.heap.size 9 1 ((acc.take j).map ls) [] (.slice (some ⟨g, 0, none⟩) j c1) := by rw [List.map_take]; exact (ho.below L1).trunc ls_szs (by rw [List.length_map]; exact hj)
              have q2 : w1.cell? ⟨b, o + k, none⟩ = some (.string x) := (L1.cell (p := ⟨b, o + k, none⟩) hbr).trans q0
              have hgl := (ho.ge g rfl)
              have tok1 : True := trivial
              go_region_held3 (fun w' => w'.cell? ⟨b, o + k, none⟩ = some (.string x)) (go_keep)
                (first
                | (refine step_append_G rfl ekstr (.tmp 59) (.tmp 60) rfl w.heap.size _ (by rfl) _ [] ho3 ((acc.drop j).map ls) [] _ (by rfl) (Src.of_flat hS4 flat_strs) str_ones ls_szs free_nil dis_nil (by simp; try omega) Z3 ?_; intro v3 w3 ho4 hg3 hat3; have q4 : w3.cell? ⟨b, o + k, none⟩ = some (.string x) := (hg3.cell_far _ (Nat.lt_of_lt_of_le hbr Z4) (fun e => Nat.lt_irrefl _ (Nat.lt_of_lt_of_le hbb (ho3.ge _ e.symm).1))).trans q3)
                | (have _t := tok1; refine step_append_G rfl ekstr (.tmp 53) (.tmp 58) rfl w.heap.size _ (by rfl) _ [] (hot.below ((Below.refl _ _).alloc (Nat.le_refl _) _).drew) ([x].map ls) [] _ (by rfl) (Src.one (Row.drew (Row.new_at rfl)) ⟨rfl, rfl⟩) str_ones ls_szs free_nil dis_nil (by simp; try omega) (by have := hb.size; have := L1.size; simp; omega) ?_; intro v2 w2 ho3 hg2 hat2; have hS4 : Sl w2 ((acc.drop j).map ls) _ v1 := R.grown (ho1.sl.below ((Below.refl _ _).alloc (Nat.le_refl _) _).drew) hg2 (fun g' e hm => by have e1 := Option.some.inj e; dsimp only at e1; subst e1; have := (ho1.ge g (Option.mem_toList.1 (by simpa using hm))).1; omega); have Z4 : wr.heap.size ≤ w2.heap.size := Nat.le_trans L1.size (Nat.le_trans (by simp) hg2.size); have Z3 : w.heap.size ≤ w2.heap.size := Nat.le_trans hb.size Z4; have L2 : Below w.heap.size w w2 := below_own (((hb.trans (L1.mono hb.size)).alloc (Nat.le_trans hb.size L1.size) _).drew) hg2 (by have := hb.size; have := L1.size; simp; omega) (fun g' h => by have h := Option.some.inj h; dsimp only at h; omega); have q3 : w2.cell? ⟨b, o + k, none⟩ = some (.string x) := (L2.cell (p := ⟨b, o + k, none⟩) hbb).trans hx; clear tok1))
              rw [← List.map_append, ← List.map_append, ← heq.out, ← hsu.out] at ho4
              have hlen : 0 < (sortTo l (k + 1)).length := by rw [hsu.out, heq.out]; simp; try omega
              obtain ⟨g5, c5, hv5⟩ := ho4.formPos (by rw [List.length_map]; exact hlen)
              rw [List.length_map] at hv5
              subst hv5
              have L3 : Below w.heap.size w w3 := below_own L2 hg3 Z3 (fun g' h => (ho3.ge g' h).1)
              clear hg3 hg2 hat3 hat2
              go_wp2_with fail
              go_roundw
              case rel => exact ⟨k + 1, g5, c5, by omega, by go_num, rfl, ho4, L3⟩
              case measure => (simp [intOf] <;> omega)
        · have hj2 : decide (j < acc.length) = false := by simpa using hjl
          have hjn : ¬ (j : Int) < acc.length := by omega
          have hst := Lib.hid (show posS acc x = j by
            have h1 := hpos'.out
            rw [List.drop_eq_nil_of_le (by omega), posS] at h1
            omega)
          have heq := Lib.hid (show insS acc x = acc.take j ++ [x] ++ acc.drop j by
            unfold insS insAt
            rw [hst.out, List.getElem?_eq_none (by omega), if_neg (by simp)])
          have h1 : ∀ W : World, (Instr.slice 40 (.slice (some ⟨g, 0, none⟩) acc.length c1) none (some (.int .i64 (j : Int))) none).run Tryz.prog W = .ok (.slice (some ⟨g, 0, none⟩) j c1) W := ekstr.sub_hi j hj hac
          obtain ⟨A2, h2', h2s⟩ := ekstr.sub_lo (A := some ⟨g, 0, none⟩) j hj hac
          have h2 : ∀ W : World, (Instr.slice 40 (.slice (some ⟨g, 0, none⟩) acc.length c1) (some (.int .i64 (j : Int))) none none).run Tryz.prog W = .ok (.slice A2 (acc.length - j) (c1 - j)) W := h2'
          obtain ⟨fd, hSd, _⟩ := h2s wr _ _ ls_szs ho.sl
          rw [← List.map_drop] at hSd
          clear h2' h2s
          clear hjl
          go_wp2_with fail
          go_quiet (fail)
          go_wp2_with fail
          go_quiet (fail)
          go_wp2_with (at_builtin; refine wpList_append_G rfl ekstr (.tmp 46) (.tmp 49) rfl wr.heap.size _ (by rfl) [] [] (by first | exact (OwnG.lit rfl (Nat.le_refl _)).drewN _ | exact OwnG.lit rfl (Nat.le_refl _)) ((acc.drop j).map ls) [] _ (by rfl) (Src.of_flat (hSd.below (by first | exact below_drewN ((Below.refl _ _).alloc (Nat.le_refl _) _) _ | exact (Below.refl _ _).alloc (Nat.le_refl _) _)) flat_strs) str_ones ls_szs free_nil dis_nil (by simp; try omega) (by simp) ?_; intro v1 w1 ho1 hg1 hat1; have L1 : Below wr.heap.size wr w1 := below_own (by first | exact below_drewN ((Below.refl _ _).alloc (Nat.le_refl _) _) _ | exact (Below.refl _ _).alloc (Nat.le_refl _) _) hg1 (by simp) (fun g' h => by have h := Option.some.inj h; try dsimp only at h; omega); clear hg1 hat1)
          have hot : OwnG w1 w.heap.size 9 1 ((acc.take j).map ls) [] (.slice (some ⟨g, 0, none⟩) j c1) := by rw [List.map_take]; exact (ho.below L1).trunc ls_szs (by rw [List.length_map]; exact hj)
          have q2 : w1.cell? ⟨b, o + k, none⟩ = some (.string x) := (L1.cell (p := ⟨b, o + k, none⟩) hbr).trans q0
          have hgl := (ho.ge g rfl)
          have tok1 : True := trivial
          go_region_held3 (fun w' => w'.cell? ⟨b, o + k, none⟩ = some (.string x)) (go_keep)
            (first
            | (refine step_append_G rfl ekstr (.tmp 59) (.tmp 60) rfl w.heap.size _ (by rfl) _ [] ho3 ((acc.drop j).map ls) [] _ (by rfl) (Src.of_flat hS4 flat_strs) str_ones ls_szs free_nil dis_nil (by simp; try omega) Z3 ?_; intro v3 w3 ho4 hg3 hat3; have q4 : w3.cell? ⟨b, o + k, none⟩ = some (.string x) := (hg3.cell_far _ (Nat.lt_of_lt_of_le hbr Z4) (fun e => Nat.lt_irrefl _ (Nat.lt_of_lt_of_le hbb (ho3.ge _ e.symm).1))).trans q3)
            | (have _t := tok1; refine step_append_G rfl ekstr (.tmp 53) (.tmp 58) rfl w.heap.size _ (by rfl) _ [] (hot.below ((Below.refl _ _).alloc (Nat.le_refl _) _).drew) ([x].map ls) [] _ (by rfl) (Src.one (Row.drew (Row.new_at rfl)) ⟨rfl, rfl⟩) str_ones ls_szs free_nil dis_nil (by simp; try omega) (by have := hb.size; have := L1.size; simp; omega) ?_; intro v2 w2 ho3 hg2 hat2; have hS4 : Sl w2 ((acc.drop j).map ls) _ v1 := R.grown (ho1.sl.below ((Below.refl _ _).alloc (Nat.le_refl _) _).drew) hg2 (fun g' e hm => by have e1 := Option.some.inj e; dsimp only at e1; subst e1; have := (ho1.ge g (Option.mem_toList.1 (by simpa using hm))).1; omega); have Z4 : wr.heap.size ≤ w2.heap.size := Nat.le_trans L1.size (Nat.le_trans (by simp) hg2.size); have Z3 : w.heap.size ≤ w2.heap.size := Nat.le_trans hb.size Z4; have L2 : Below w.heap.size w w2 := below_own (((hb.trans (L1.mono hb.size)).alloc (Nat.le_trans hb.size L1.size) _).drew) hg2 (by have := hb.size; have := L1.size; simp; omega) (fun g' h => by have h := Option.some.inj h; dsimp only at h; omega); have q3 : w2.cell? ⟨b, o + k, none⟩ = some (.string x) := (L2.cell (p := ⟨b, o + k, none⟩) hbb).trans hx; clear tok1))
          rw [← List.map_append, ← List.map_append, ← heq.out, ← hsu.out] at ho4
          have hlen : 0 < (sortTo l (k + 1)).length := by rw [hsu.out, heq.out]; simp; try omega
          obtain ⟨g5, c5, hv5⟩ := ho4.formPos (by rw [List.length_map]; exact hlen)
          rw [List.length_map] at hv5
          subst hv5
          have L3 : Below w.heap.size w w3 := below_own L2 hg3 Z3 (fun g' h => (ho3.ge g' h).1)
          clear hg3 hg2 hat3 hat2
          go_wp2_with fail
          go_roundw
          case rel => exact ⟨k + 1, g5, c5, by omega, by go_num, rfl, ho4, L3⟩
          case measure => (simp [intOf] <;> omega)
    · have hf := Lib.hid (show k = l.length by omega)
      go_wp2_with fail
      go_ret
      have e := hf.out
      clear hf
      subst e
      exact ⟨_, _, rfl, ho, hb⟩
theorem sortNames_spec (l : List ByteArray) (fp : List Nat) (v : Value) (w : World) (hS : Sl w (l.map ls) fp v) (hn : l.length ≤ 1048576) : Calls Tryz.prog 104 #[v] w (TosPost ((sortTo l l.length).map ls) w) :=
  (sortNames_spec_own l fp v w hS hn).mono fun _ _ h => h.tos
end Go.Proofs.YtkjodhljaehkjaaGreat
