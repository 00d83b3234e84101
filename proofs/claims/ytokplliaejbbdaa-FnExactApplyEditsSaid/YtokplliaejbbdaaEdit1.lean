/-
  Cells put into a list and struck from it, both packages.
-/
import Derived.Test.YtokplliaejbbdaaKinds
import Derived.Test.YtokplliaejbbdaaNames
namespace Go.Proofs.Ytokplliaejbbdaa
open Go.RowKit
set_option linter.unusedSimpArgs false
set_option linter.unusedVariables false

theorem flat_cells {w : World} {l : List GCell} : ∀ (f : List Nat) (cs : List Value), Rs w (l.map GCell.toD) f cs → f = [] := by
  induction l with
  | nil => intro f cs h; exact h.1
  | cons x l ih =>
    intro f cs h
    rw [List.map_cons, Rs] at h
    obtain ⟨f1, f2, c1, c2, rfl, rfl, h1, h2⟩ := h
    rw [(GCell.opened.1 h1).1, ih f2 c2 h2]
    rfl
def putAt (l : List GCell) (k : Nat) (c : GCell) : List GCell := l.take k ++ [c] ++ l.drop k
def dropAt (l : List GCell) (k : Nat) : List GCell := l.take k ++ l.drop (k + 1)

set_option maxRecDepth 20000 in
set_option maxHeartbeats 2000000 in
theorem removed_impl (l : List GCell) (k : Nat) (fp : List Nat) (v : Value) (w : World) (hS : Sl w (l.map GCell.toD) fp v) (hk : k < l.length) (hn : l.length ≤ 1048576) : Calls Try.prog 55 #[v, .int .i64 k] w (TosPost ((dropAt l k).map GCell.toD) w) := by
  obtain ⟨A, c, rfl, hl, hc⟩ := hS.formT
  have h1 : ∀ w : World, (Instr.slice 31 (.slice A l.length c) none (some (.int .i64 (k : Int))) none).run Try.prog w = .ok (.slice A k c) w := ekGCell.sub_hi (A := A) k (Nat.le_of_lt hk) hl
  obtain ⟨A2, h2', h2s⟩ := ekGCell.sub_lo (A := A) (k + 1) hk hl
  have h2 : ∀ w : World, (Instr.slice 31 (.slice A l.length c) (some (.int .i64 ((k : Int) + 1))) none none).run Try.prog w = .ok (.slice A2 (l.length - (k + 1)) (c - (k + 1))) w := h2'
  clear h2'
  obtain ⟨f1, hS1, _⟩ := Sl.take hS (by rw [List.length_map]; omega : k ≤ (l.map GCell.toD).length)
  obtain ⟨f2, hS2, _⟩ := h2s w _ _ GCell.szs hS
  rw [← List.map_take] at hS1
  rw [← List.map_drop] at hS2
  have hk0 : (0 : Int) ≤ (k : Int) := by omega
  have hk1 : (k : Int) + 1 ≤ l.length := by omega
  clear h2s
  have hwr : IntKind.i64.wrap ((k : Int) + 1) = (k : Int) + 1 := IntWalk.i64_in _ (by omega)
  go_enter Try.func55, Try.ntmps55
  go_wp2_with fail
  have tok1 : True := trivial
  go_region_held3 (fun _ => True) (trivial)
    (first
    | (have _t := tok1; refine step_append_G rfl ekGCell (.tmp 5) (.tmp 8) rfl w.heap.size _ (by rfl) [] [] (OwnG.lit (by rfl) (by simp)) ((l.take k).map GCell.toD) [] _ (by rfl) (Src.of_flat (hS1.below ((Below.refl _ _).drew.alloc (by simp) _)) flat_cells) GCell.ones_ GCell.szs free_nil dis_nil (by simp; omega) (by simp) ?_; intro v1 w1 ho1 hg1 hat1; have L1 : Below w.heap.size w w1 := below_own ((Below.refl _ _).alloc (Nat.le_refl _) _).drew hg1 (by simp) (fun g hg => by simp [Value.ownBlock] at hg; omega); clear tok1)
    | (refine step_append_G rfl ekGCell (.tmp 9) (.tmp 13) rfl w.heap.size _ (by rfl) _ [] ho1 ((l.drop (k + 1)).map GCell.toD) [] _ (by rfl) (Src.of_flat (hS2.below L1) flat_cells) GCell.ones_ GCell.szs free_nil dis_nil (by simp; omega) L1.size ?_; intro v2 w2 ho2 hg2 hat2))
  go_wp2_with fail
  go_ret
  rw [List.nil_append, ← List.map_append] at ho2
  exact ho2.tos (below_own L1 hg2 L1.size (fun g hg => (ho1.ge g hg).1))
set_option maxRecDepth 20000 in
set_option maxHeartbeats 2000000 in
theorem l20Drop_spec (l : List GCell) (k : Nat) (fp : List Nat) (v : Value) (w : World) (hS : Sl w (l.map GCell.toD) fp v) (hk : k < l.length) (hn : l.length ≤ 1048576) : Calls Try.prog 35 #[v, .int .i64 k] w (TosPost ((dropAt l k).map GCell.toD) w) := by
  obtain ⟨A, c, rfl, hl, hc⟩ := hS.formT
  have h1 : ∀ w : World, (Instr.slice 31 (.slice A l.length c) none (some (.int .i64 (k : Int))) none).run Try.prog w = .ok (.slice A k c) w := ekGCell.sub_hi (A := A) k (Nat.le_of_lt hk) hl
  obtain ⟨A2, h2', h2s⟩ := ekGCell.sub_lo (A := A) (k + 1) hk hl
  have h2 : ∀ w : World, (Instr.slice 31 (.slice A l.length c) (some (.int .i64 ((k : Int) + 1))) none none).run Try.prog w = .ok (.slice A2 (l.length - (k + 1)) (c - (k + 1))) w := h2'
  clear h2'
  obtain ⟨f1, hS1, _⟩ := Sl.take hS (by rw [List.length_map]; omega : k ≤ (l.map GCell.toD).length)
  obtain ⟨f2, hS2, _⟩ := h2s w _ _ GCell.szs hS
  rw [← List.map_take] at hS1
  rw [← List.map_drop] at hS2
  have hk0 : (0 : Int) ≤ (k : Int) := by omega
  have hk1 : (k : Int) + 1 ≤ l.length := by omega
  clear h2s
  have hwr : IntKind.i64.wrap ((k : Int) + 1) = (k : Int) + 1 := IntWalk.i64_in _ (by omega)
  go_enter Try.func35, Try.ntmps35
  go_wp2_with fail
  have tok1 : True := trivial
  go_region_held3 (fun _ => True) (trivial)
    (first
    | (have _t := tok1; refine step_append_G rfl ekGCell (.tmp 5) (.tmp 8) rfl w.heap.size _ (by rfl) [] [] (OwnG.lit (by rfl) (by simp)) ((l.take k).map GCell.toD) [] _ (by rfl) (Src.of_flat (hS1.below ((Below.refl _ _).drew.alloc (by simp) _)) flat_cells) GCell.ones_ GCell.szs free_nil dis_nil (by simp; omega) (by simp) ?_; intro v1 w1 ho1 hg1 hat1; have L1 : Below w.heap.size w w1 := below_own ((Below.refl _ _).alloc (Nat.le_refl _) _).drew hg1 (by simp) (fun g hg => by simp [Value.ownBlock] at hg; omega); clear tok1)
    | (refine step_append_G rfl ekGCell (.tmp 9) (.tmp 13) rfl w.heap.size _ (by rfl) _ [] ho1 ((l.drop (k + 1)).map GCell.toD) [] _ (by rfl) (Src.of_flat (hS2.below L1) flat_cells) GCell.ones_ GCell.szs free_nil dis_nil (by simp; omega) L1.size ?_; intro v2 w2 ho2 hg2 hat2))
  go_wp2_with fail
  go_ret
  rw [List.nil_append, ← List.map_append] at ho2
  exact ho2.tos (below_own L1 hg2 L1.size (fun g hg => (ho1.ge g hg).1))

def clampN (a : Int) (n : Nat) : Nat := (max 0 (min a (n : Int))).toNat
theorem clampN_le (a : Int) (n : Nat) : clampN a n ≤ n := by unfold clampN; omega
theorem clampN_eq (a : Int) (n : Nat) : max 0 (min a (n : Int)) = (clampN a n : Int) := by unfold clampN; omega

set_option maxRecDepth 20000 in
set_option maxHeartbeats 4000000 in
theorem inserted_impl (l : List GCell) (a : Int) (x : GCell) (fp : List Nat) (v : Value) (w : World) (hS : Sl w (l.map GCell.toD) fp v) (hn : l.length ≤ 1048576) : Calls Try.prog 54 #[v, .int .i64 a, .agg #[.int .i64 x.id, .int .i64 x.ver, .int .i64 x.kind, .string x.name, .string x.code, .int .i64 x.n]] w (TosPost ((putAt l (clampN a l.length) x).map GCell.toD) w) := by
  obtain ⟨A, c, rfl, hl, hc⟩ := hS.formT
  by_cases ha : a ≤ 0
  · have e : clampN a l.length = 0 := by unfold clampN; omega
    rw [e]
    clear e
    have h1 : ∀ w : World, (Instr.slice 31 (.slice A l.length c) none (some (.int .i64 (0))) none).run Try.prog w = .ok (.slice A (0) c) w := ekGCell.sub_hi (A := A) (0) (Nat.zero_le _) hl
    obtain ⟨A2, h2', h2s⟩ := ekGCell.sub_lo (A := A) (0) (Nat.zero_le _) hl
    have h2 : ∀ w : World, (Instr.slice 31 (.slice A l.length c) (some (.int .i64 (0))) none none).run Try.prog w = .ok (.slice A2 (l.length - (0)) (c - (0))) w := h2'
    clear h2'
    obtain ⟨f1, hS1, _⟩ := Sl.take hS (by rw [List.length_map]; exact Nat.zero_le _ : (0) ≤ (l.map GCell.toD).length)
    obtain ⟨f2, hS2, _⟩ := h2s w _ _ GCell.szs hS
    rw [← List.map_take] at hS1
    rw [← List.map_drop] at hS2
    clear h2s
    have tok1 : True := trivial
    have tok2 : True := trivial
    go_enter Try.func54, Try.ntmps54
    go_wp2_with fail
    go_region_held3 (fun w' => w'.cell? ⟨w.heap.size, 0, none⟩ = some (.int .i64 x.id) ∧ w'.cell? ⟨w.heap.size, 1, none⟩ = some (.int .i64 x.ver) ∧ w'.cell? ⟨w.heap.size, 2, none⟩ = some (.int .i64 x.kind) ∧ w'.cell? ⟨w.heap.size, 3, none⟩ = some (.string x.name) ∧ w'.cell? ⟨w.heap.size, 4, none⟩ = some (.string x.code) ∧ w'.cell? ⟨w.heap.size, 5, none⟩ = some (.int .i64 x.n)) (go_keep)
      (first
      | (have _t := tok1; refine step_append_G rfl ekGCell (.tmp 13) (.tmp 16) rfl (w.heap.size + 1) _ (by rfl) [] [] (by first | exact OwnG.lit (by simp) (by simp) | exact (OwnG.lit (by simp) (by simp)).below (((Below.refl _ _).alloc (Nat.le_refl _) _).drew)) ((l.take (0)).map GCell.toD) [] _ (by rfl) (Src.of_flat (hS1.below (by repeat' (first | exact Below.refl _ _ | exact Nat.le_refl _ | apply Below.drew | apply Below.alloc | (simp; done) | (simp; omega)))) flat_cells) GCell.ones_ GCell.szs free_nil dis_nil (by simp; try omega) (by simp; try omega) ?_; intro v1 w1 ho1 hg1 hat1; have L1 : Below w.heap.size w w1 := below_own (by repeat' (first | exact Below.refl _ _ | exact Nat.le_refl _ | apply Below.drew | apply Below.alloc | (simp; done) | (simp; omega))) hg1 (by simp; try omega) (fun g hg => by have h := Option.some.inj hg; try simp at h; omega); have hrB : Row w1 w.heap.size 37 (#[.int .i64 x.id, .int .i64 x.ver, .int .i64 x.kind, .string x.name, .string x.code, .int .i64 x.n] : Array Value).toList := Row.grown (Row.below (Row.new w _ _) (by repeat' (first | exact Below.refl _ _ | exact Nat.le_refl _ | apply Below.drew | apply Below.alloc | (simp; done) | (simp; omega)))) hg1 (fun e => by have h := Option.some.inj e; try dsimp only at h; omega); have kB := hrB.cell; (first | have hrA : Row w1 (w.heap.size + 2) 37 (#[.int .i64 x.id, .int .i64 x.ver, .int .i64 x.kind, .string x.name, .string x.code, .int .i64 x.n] : Array Value).toList := Row.grown (Row.drew (Row.new_at (by simp))) hg1 (fun e => by have h := Option.some.inj e; try dsimp only at h; omega) | have hrA : Row w1 (w.heap.size + 1) 37 (#[.int .i64 x.id, .int .i64 x.ver, .int .i64 x.kind, .string x.name, .string x.code, .int .i64 x.n] : Array Value).toList := Row.grown (Row.drew (Row.below (Row.new_at (w := w.alloc _) (by simp)) ((Below.refl _ _).alloc (Nat.le_refl _) _))) hg1 (fun e => by have h := Option.some.inj e; try dsimp only at h; omega) | have hrA : True := trivial); clear tok1)
      | (refine step_append_G rfl ekGCell (.tmp 20) (.tmp 23) rfl (w.heap.size + 1) _ (by rfl) _ [] ho2 ((l.drop (0)).map GCell.toD) [] _ (by rfl) (Src.of_flat (hS2.below L2) flat_cells) GCell.ones_ GCell.szs free_nil dis_nil (by simp; try omega) Z2 ?_; intro v3 w3 ho3 hg3 hat3; have hrE : Row w3 w.heap.size 37 (#[.int .i64 x.id, .int .i64 x.ver, .int .i64 x.kind, .string x.name, .string x.code, .int .i64 x.n] : Array Value).toList := Row.grown hrC hg3 (fun e => by have := (ho2.ge _ e.symm).1; omega); have kE := hrE.cell)
      | (have _t := tok2; refine step_append_G rfl ekGCell (.tmp 17) (.tmp 19) rfl (w.heap.size + 1) _ (by rfl) _ [] (by first | exact ho1 | exact ho1.below ((Below.refl _ _).alloc (Nat.le_refl _) _)) ([x].map GCell.toD) [] _ (by rfl) (by first | exact Src.one hrA (GCell.opened.2 ⟨rfl, rfl⟩) | exact Src.one (Row.new _ _ _) (GCell.opened.2 ⟨rfl, rfl⟩)) GCell.ones_ GCell.szs free_nil dis_nil (by simp; try omega) (by first | exact hrB.lt | (have := hrB.lt; simp; omega)) ?_; intro v2 w2 ho2 hg2 hat2; have L2 : Below w.heap.size w w2 := below_own (by first | exact L1 | exact L1.alloc L1.size _) hg2 (by first | exact L1.size | (have := L1.size; simp; omega)) (fun g hg => by have := (ho1.ge g hg).1; omega); have hrC : Row w2 w.heap.size 37 (#[.int .i64 x.id, .int .i64 x.ver, .int .i64 x.kind, .string x.name, .string x.code, .int .i64 x.n] : Array Value).toList := Row.grown (by first | exact hrB | exact hrB.below ((Below.refl _ _).alloc (Nat.le_refl _) _)) hg2 (fun e => by have := (ho1.ge _ e.symm).1; omega); have kC := hrC.cell; have Z2 : w.heap.size + 1 ≤ w2.heap.size := hrC.lt; clear tok2))
    all_goals
      go_wp2_with fail
      go_ret
      have hfin := (ho3.mono (base' := w.heap.size) (by omega)).tos (below_own L2 hg3 L2.size (fun g hg => by have := (ho2.ge g hg).1; omega))
      rw [List.nil_append, ← List.map_append, ← List.map_append] at hfin
      exact hfin

  · by_cases hb : a ≤ l.length
    · obtain ⟨k, rfl⟩ := Int.eq_ofNat_of_zero_le (show 0 ≤ a by omega)
      have hk : k ≤ l.length := by omega
      have e : clampN (k : Int) l.length = k := by unfold clampN; omega
      rw [e]
      clear e
      have hk0 : (0 : Int) < (k : Int) := by omega
      have h1 : ∀ w : World, (Instr.slice 31 (.slice A l.length c) none (some (.int .i64 (k : Int))) none).run Try.prog w = .ok (.slice A (k) c) w := ekGCell.sub_hi (A := A) (k) (hk) hl
      obtain ⟨A2, h2', h2s⟩ := ekGCell.sub_lo (A := A) (k) (hk) hl
      have h2 : ∀ w : World, (Instr.slice 31 (.slice A l.length c) (some (.int .i64 (k : Int))) none none).run Try.prog w = .ok (.slice A2 (l.length - (k)) (c - (k))) w := h2'
      clear h2'
      obtain ⟨f1, hS1, _⟩ := Sl.take hS (by rw [List.length_map]; exact hk : (k) ≤ (l.map GCell.toD).length)
      obtain ⟨f2, hS2, _⟩ := h2s w _ _ GCell.szs hS
      rw [← List.map_take] at hS1
      rw [← List.map_drop] at hS2
      clear h2s
      have tok1 : True := trivial
      have tok2 : True := trivial
      go_enter Try.func54, Try.ntmps54
      go_wp2_with fail
      go_region_held3 (fun w' => w'.cell? ⟨w.heap.size, 0, none⟩ = some (.int .i64 x.id) ∧ w'.cell? ⟨w.heap.size, 1, none⟩ = some (.int .i64 x.ver) ∧ w'.cell? ⟨w.heap.size, 2, none⟩ = some (.int .i64 x.kind) ∧ w'.cell? ⟨w.heap.size, 3, none⟩ = some (.string x.name) ∧ w'.cell? ⟨w.heap.size, 4, none⟩ = some (.string x.code) ∧ w'.cell? ⟨w.heap.size, 5, none⟩ = some (.int .i64 x.n)) (go_keep)
        (first
        | (have _t := tok1; refine step_append_G rfl ekGCell (.tmp 13) (.tmp 16) rfl (w.heap.size + 1) _ (by rfl) [] [] (by first | exact OwnG.lit (by simp) (by simp) | exact (OwnG.lit (by simp) (by simp)).below (((Below.refl _ _).alloc (Nat.le_refl _) _).drew)) ((l.take (k)).map GCell.toD) [] _ (by rfl) (Src.of_flat (hS1.below (by repeat' (first | exact Below.refl _ _ | exact Nat.le_refl _ | apply Below.drew | apply Below.alloc | (simp; done) | (simp; omega)))) flat_cells) GCell.ones_ GCell.szs free_nil dis_nil (by simp; try omega) (by simp; try omega) ?_; intro v1 w1 ho1 hg1 hat1; have L1 : Below w.heap.size w w1 := below_own (by repeat' (first | exact Below.refl _ _ | exact Nat.le_refl _ | apply Below.drew | apply Below.alloc | (simp; done) | (simp; omega))) hg1 (by simp; try omega) (fun g hg => by have h := Option.some.inj hg; try simp at h; omega); have hrB : Row w1 w.heap.size 37 (#[.int .i64 x.id, .int .i64 x.ver, .int .i64 x.kind, .string x.name, .string x.code, .int .i64 x.n] : Array Value).toList := Row.grown (Row.below (Row.new w _ _) (by repeat' (first | exact Below.refl _ _ | exact Nat.le_refl _ | apply Below.drew | apply Below.alloc | (simp; done) | (simp; omega)))) hg1 (fun e => by have h := Option.some.inj e; try dsimp only at h; omega); have kB := hrB.cell; (first | have hrA : Row w1 (w.heap.size + 2) 37 (#[.int .i64 x.id, .int .i64 x.ver, .int .i64 x.kind, .string x.name, .string x.code, .int .i64 x.n] : Array Value).toList := Row.grown (Row.drew (Row.new_at (by simp))) hg1 (fun e => by have h := Option.some.inj e; try dsimp only at h; omega) | have hrA : Row w1 (w.heap.size + 1) 37 (#[.int .i64 x.id, .int .i64 x.ver, .int .i64 x.kind, .string x.name, .string x.code, .int .i64 x.n] : Array Value).toList := Row.grown (Row.drew (Row.below (Row.new_at (w := w.alloc _) (by simp)) ((Below.refl _ _).alloc (Nat.le_refl _) _))) hg1 (fun e => by have h := Option.some.inj e; try dsimp only at h; omega) | have hrA : True := trivial); clear tok1)
        | (refine step_append_G rfl ekGCell (.tmp 20) (.tmp 23) rfl (w.heap.size + 1) _ (by rfl) _ [] ho2 ((l.drop (k)).map GCell.toD) [] _ (by rfl) (Src.of_flat (hS2.below L2) flat_cells) GCell.ones_ GCell.szs free_nil dis_nil (by simp; try omega) Z2 ?_; intro v3 w3 ho3 hg3 hat3; have hrE : Row w3 w.heap.size 37 (#[.int .i64 x.id, .int .i64 x.ver, .int .i64 x.kind, .string x.name, .string x.code, .int .i64 x.n] : Array Value).toList := Row.grown hrC hg3 (fun e => by have := (ho2.ge _ e.symm).1; omega); have kE := hrE.cell)
        | (have _t := tok2; refine step_append_G rfl ekGCell (.tmp 17) (.tmp 19) rfl (w.heap.size + 1) _ (by rfl) _ [] (by first | exact ho1 | exact ho1.below ((Below.refl _ _).alloc (Nat.le_refl _) _)) ([x].map GCell.toD) [] _ (by rfl) (by first | exact Src.one hrA (GCell.opened.2 ⟨rfl, rfl⟩) | exact Src.one (Row.new _ _ _) (GCell.opened.2 ⟨rfl, rfl⟩)) GCell.ones_ GCell.szs free_nil dis_nil (by simp; try omega) (by first | exact hrB.lt | (have := hrB.lt; simp; omega)) ?_; intro v2 w2 ho2 hg2 hat2; have L2 : Below w.heap.size w w2 := below_own (by first | exact L1 | exact L1.alloc L1.size _) hg2 (by first | exact L1.size | (have := L1.size; simp; omega)) (fun g hg => by have := (ho1.ge g hg).1; omega); have hrC : Row w2 w.heap.size 37 (#[.int .i64 x.id, .int .i64 x.ver, .int .i64 x.kind, .string x.name, .string x.code, .int .i64 x.n] : Array Value).toList := Row.grown (by first | exact hrB | exact hrB.below ((Below.refl _ _).alloc (Nat.le_refl _) _)) hg2 (fun e => by have := (ho1.ge _ e.symm).1; omega); have kC := hrC.cell; have Z2 : w.heap.size + 1 ≤ w2.heap.size := hrC.lt; clear tok2))
      all_goals
        go_wp2_with fail
        go_ret
        have hfin := (ho3.mono (base' := w.heap.size) (by omega)).tos (below_own L2 hg3 L2.size (fun g hg => by have := (ho2.ge g hg).1; omega))
        rw [List.nil_append, ← List.map_append, ← List.map_append] at hfin
        exact hfin
    · have e : clampN a l.length = l.length := by unfold clampN; omega
      rw [e]
      clear e
      have hb1 : (l.length : Int) < a := by omega
      cases l with
      | nil =>
        have h1 : ∀ w : World, (Instr.slice 31 (.slice A 0 c) none (some (.int .i64 (0))) none).run Try.prog w = .ok (.slice A (0) c) w := ekGCell.sub_hi (A := A) (0) (Nat.zero_le _) hl
        obtain ⟨A2, h2', h2s⟩ := ekGCell.sub_lo (A := A) (0) (Nat.zero_le _) hl
        have h2 : ∀ w : World, (Instr.slice 31 (.slice A 0 c) (some (.int .i64 (0))) none none).run Try.prog w = .ok (.slice A2 (0 - (0)) (c - (0))) w := h2'
        clear h2'
        obtain ⟨f1, hS1, _⟩ := Sl.take hS (by rw [List.length_map]; exact Nat.zero_le _ : (0) ≤ (([] : List GCell).map GCell.toD).length)
        obtain ⟨f2, hS2, _⟩ := h2s w _ _ GCell.szs hS
        rw [← List.map_take] at hS1
        rw [← List.map_drop] at hS2
        clear h2s
        have tok1 : True := trivial
        have tok2 : True := trivial
        go_enter Try.func54, Try.ntmps54
        go_wp2_with fail
        go_region_held3 (fun w' => w'.cell? ⟨w.heap.size, 0, none⟩ = some (.int .i64 x.id) ∧ w'.cell? ⟨w.heap.size, 1, none⟩ = some (.int .i64 x.ver) ∧ w'.cell? ⟨w.heap.size, 2, none⟩ = some (.int .i64 x.kind) ∧ w'.cell? ⟨w.heap.size, 3, none⟩ = some (.string x.name) ∧ w'.cell? ⟨w.heap.size, 4, none⟩ = some (.string x.code) ∧ w'.cell? ⟨w.heap.size, 5, none⟩ = some (.int .i64 x.n)) (go_keep)
          (first
          | (have _t := tok1; refine step_append_G rfl ekGCell (.tmp 13) (.tmp 16) rfl (w.heap.size + 1) _ (by rfl) [] [] (by first | exact OwnG.lit (by simp) (by simp) | exact (OwnG.lit (by simp) (by simp)).below (((Below.refl _ _).alloc (Nat.le_refl _) _).drew)) ((([] : List GCell).take (0)).map GCell.toD) [] _ (by rfl) (Src.of_flat (hS1.below (by repeat' (first | exact Below.refl _ _ | exact Nat.le_refl _ | apply Below.drew | apply Below.alloc | (simp; done) | (simp; omega)))) flat_cells) GCell.ones_ GCell.szs free_nil dis_nil (by simp; try omega) (by simp; try omega) ?_; intro v1 w1 ho1 hg1 hat1; have L1 : Below w.heap.size w w1 := below_own (by repeat' (first | exact Below.refl _ _ | exact Nat.le_refl _ | apply Below.drew | apply Below.alloc | (simp; done) | (simp; omega))) hg1 (by simp; try omega) (fun g hg => by have h := Option.some.inj hg; try simp at h; omega); have hrB : Row w1 w.heap.size 37 (#[.int .i64 x.id, .int .i64 x.ver, .int .i64 x.kind, .string x.name, .string x.code, .int .i64 x.n] : Array Value).toList := Row.grown (Row.below (Row.new w _ _) (by repeat' (first | exact Below.refl _ _ | exact Nat.le_refl _ | apply Below.drew | apply Below.alloc | (simp; done) | (simp; omega)))) hg1 (fun e => by have h := Option.some.inj e; try dsimp only at h; omega); have kB := hrB.cell; (first | have hrA : Row w1 (w.heap.size + 2) 37 (#[.int .i64 x.id, .int .i64 x.ver, .int .i64 x.kind, .string x.name, .string x.code, .int .i64 x.n] : Array Value).toList := Row.grown (Row.drew (Row.new_at (by simp))) hg1 (fun e => by have h := Option.some.inj e; try dsimp only at h; omega) | have hrA : Row w1 (w.heap.size + 1) 37 (#[.int .i64 x.id, .int .i64 x.ver, .int .i64 x.kind, .string x.name, .string x.code, .int .i64 x.n] : Array Value).toList := Row.grown (Row.drew (Row.below (Row.new_at (w := w.alloc _) (by simp)) ((Below.refl _ _).alloc (Nat.le_refl _) _))) hg1 (fun e => by have h := Option.some.inj e; try dsimp only at h; omega) | have hrA : True := trivial); clear tok1)
          | (refine step_append_G rfl ekGCell (.tmp 20) (.tmp 23) rfl (w.heap.size + 1) _ (by rfl) _ [] ho2 ((([] : List GCell).drop (0)).map GCell.toD) [] _ (by rfl) (Src.of_flat (hS2.below L2) flat_cells) GCell.ones_ GCell.szs free_nil dis_nil (by simp; try omega) Z2 ?_; intro v3 w3 ho3 hg3 hat3; have hrE : Row w3 w.heap.size 37 (#[.int .i64 x.id, .int .i64 x.ver, .int .i64 x.kind, .string x.name, .string x.code, .int .i64 x.n] : Array Value).toList := Row.grown hrC hg3 (fun e => by have := (ho2.ge _ e.symm).1; omega); have kE := hrE.cell)
          | (have _t := tok2; refine step_append_G rfl ekGCell (.tmp 17) (.tmp 19) rfl (w.heap.size + 1) _ (by rfl) _ [] (by first | exact ho1 | exact ho1.below ((Below.refl _ _).alloc (Nat.le_refl _) _)) ([x].map GCell.toD) [] _ (by rfl) (by first | exact Src.one hrA (GCell.opened.2 ⟨rfl, rfl⟩) | exact Src.one (Row.new _ _ _) (GCell.opened.2 ⟨rfl, rfl⟩)) GCell.ones_ GCell.szs free_nil dis_nil (by simp; try omega) (by first | exact hrB.lt | (have := hrB.lt; simp; omega)) ?_; intro v2 w2 ho2 hg2 hat2; have L2 : Below w.heap.size w w2 := below_own (by first | exact L1 | exact L1.alloc L1.size _) hg2 (by first | exact L1.size | (have := L1.size; simp; omega)) (fun g hg => by have := (ho1.ge g hg).1; omega); have hrC : Row w2 w.heap.size 37 (#[.int .i64 x.id, .int .i64 x.ver, .int .i64 x.kind, .string x.name, .string x.code, .int .i64 x.n] : Array Value).toList := Row.grown (by first | exact hrB | exact hrB.below ((Below.refl _ _).alloc (Nat.le_refl _) _)) hg2 (fun e => by have := (ho1.ge _ e.symm).1; omega); have kC := hrC.cell; have Z2 : w.heap.size + 1 ≤ w2.heap.size := hrC.lt; clear tok2))
        all_goals
          go_wp2_with fail
          go_ret
          have hfin := (ho3.mono (base' := w.heap.size) (by omega)).tos (below_own L2 hg3 L2.size (fun g hg => by have := (ho2.ge g hg).1; omega))
          rw [List.nil_append, ← List.map_append, ← List.map_append] at hfin
          exact hfin
      | cons y l' =>
        generalize hll : y :: l' = l at *
        have hz' : (0 : Int) < (l.length : Int) := by rw [← hll]; simp
        clear hll
        have h1 : ∀ w : World, (Instr.slice 31 (.slice A l.length c) none (some (.int .i64 (l.length : Int))) none).run Try.prog w = .ok (.slice A (l.length) c) w := ekGCell.sub_hi (A := A) (l.length) (Nat.le_refl _) hl
        obtain ⟨A2, h2', h2s⟩ := ekGCell.sub_lo (A := A) (l.length) (Nat.le_refl _) hl
        have h2 : ∀ w : World, (Instr.slice 31 (.slice A l.length c) (some (.int .i64 (l.length : Int))) none none).run Try.prog w = .ok (.slice A2 (l.length - (l.length)) (c - (l.length))) w := h2'
        clear h2'
        obtain ⟨f1, hS1, _⟩ := Sl.take hS (by rw [List.length_map]; exact Nat.le_refl _ : (l.length) ≤ (l.map GCell.toD).length)
        obtain ⟨f2, hS2, _⟩ := h2s w _ _ GCell.szs hS
        rw [← List.map_take] at hS1
        rw [← List.map_drop] at hS2
        rw [Nat.sub_self] at hS2
        simp only [Nat.sub_self] at h2
        clear h2s
        have tok1 : True := trivial
        have tok2 : True := trivial
        go_enter Try.func54, Try.ntmps54
        go_wp2_with fail
        go_region_held3 (fun w' => w'.cell? ⟨w.heap.size, 0, none⟩ = some (.int .i64 x.id) ∧ w'.cell? ⟨w.heap.size, 1, none⟩ = some (.int .i64 x.ver) ∧ w'.cell? ⟨w.heap.size, 2, none⟩ = some (.int .i64 x.kind) ∧ w'.cell? ⟨w.heap.size, 3, none⟩ = some (.string x.name) ∧ w'.cell? ⟨w.heap.size, 4, none⟩ = some (.string x.code) ∧ w'.cell? ⟨w.heap.size, 5, none⟩ = some (.int .i64 x.n)) (go_keep)
          (first
          | (have _t := tok1; refine step_append_G rfl ekGCell (.tmp 13) (.tmp 16) rfl (w.heap.size + 1) _ (by rfl) [] [] (by first | exact OwnG.lit (by simp) (by simp) | exact (OwnG.lit (by simp) (by simp)).below (((Below.refl _ _).alloc (Nat.le_refl _) _).drew)) ((l.take (l.length)).map GCell.toD) [] _ (by rfl) (Src.of_flat (hS1.below (by repeat' (first | exact Below.refl _ _ | exact Nat.le_refl _ | apply Below.drew | apply Below.alloc | (simp; done) | (simp; omega)))) flat_cells) GCell.ones_ GCell.szs free_nil dis_nil (by simp; try omega) (by simp; try omega) ?_; intro v1 w1 ho1 hg1 hat1; have L1 : Below w.heap.size w w1 := below_own (by repeat' (first | exact Below.refl _ _ | exact Nat.le_refl _ | apply Below.drew | apply Below.alloc | (simp; done) | (simp; omega))) hg1 (by simp; try omega) (fun g hg => by have h := Option.some.inj hg; try simp at h; omega); have hrB : Row w1 w.heap.size 37 (#[.int .i64 x.id, .int .i64 x.ver, .int .i64 x.kind, .string x.name, .string x.code, .int .i64 x.n] : Array Value).toList := Row.grown (Row.below (Row.new w _ _) (by repeat' (first | exact Below.refl _ _ | exact Nat.le_refl _ | apply Below.drew | apply Below.alloc | (simp; done) | (simp; omega)))) hg1 (fun e => by have h := Option.some.inj e; try dsimp only at h; omega); have kB := hrB.cell; (first | have hrA : Row w1 (w.heap.size + 2) 37 (#[.int .i64 x.id, .int .i64 x.ver, .int .i64 x.kind, .string x.name, .string x.code, .int .i64 x.n] : Array Value).toList := Row.grown (Row.drew (Row.new_at (by simp))) hg1 (fun e => by have h := Option.some.inj e; try dsimp only at h; omega) | have hrA : Row w1 (w.heap.size + 1) 37 (#[.int .i64 x.id, .int .i64 x.ver, .int .i64 x.kind, .string x.name, .string x.code, .int .i64 x.n] : Array Value).toList := Row.grown (Row.drew (Row.below (Row.new_at (w := w.alloc _) (by simp)) ((Below.refl _ _).alloc (Nat.le_refl _) _))) hg1 (fun e => by have h := Option.some.inj e; try dsimp only at h; omega) | have hrA : True := trivial); clear tok1)
          | (refine step_append_G rfl ekGCell (.tmp 20) (.tmp 23) rfl (w.heap.size + 1) _ (by rfl) _ [] ho2 ((l.drop (l.length)).map GCell.toD) [] _ (by rfl) (Src.of_flat (hS2.below L2) flat_cells) GCell.ones_ GCell.szs free_nil dis_nil (by simp; try omega) Z2 ?_; intro v3 w3 ho3 hg3 hat3; have hrE : Row w3 w.heap.size 37 (#[.int .i64 x.id, .int .i64 x.ver, .int .i64 x.kind, .string x.name, .string x.code, .int .i64 x.n] : Array Value).toList := Row.grown hrC hg3 (fun e => by have := (ho2.ge _ e.symm).1; omega); have kE := hrE.cell)
          | (have _t := tok2; refine step_append_G rfl ekGCell (.tmp 17) (.tmp 19) rfl (w.heap.size + 1) _ (by rfl) _ [] (by first | exact ho1 | exact ho1.below ((Below.refl _ _).alloc (Nat.le_refl _) _)) ([x].map GCell.toD) [] _ (by rfl) (by first | exact Src.one hrA (GCell.opened.2 ⟨rfl, rfl⟩) | exact Src.one (Row.new _ _ _) (GCell.opened.2 ⟨rfl, rfl⟩)) GCell.ones_ GCell.szs free_nil dis_nil (by simp; try omega) (by first | exact hrB.lt | (have := hrB.lt; simp; omega)) ?_; intro v2 w2 ho2 hg2 hat2; have L2 : Below w.heap.size w w2 := below_own (by first | exact L1 | exact L1.alloc L1.size _) hg2 (by first | exact L1.size | (have := L1.size; simp; omega)) (fun g hg => by have := (ho1.ge g hg).1; omega); have hrC : Row w2 w.heap.size 37 (#[.int .i64 x.id, .int .i64 x.ver, .int .i64 x.kind, .string x.name, .string x.code, .int .i64 x.n] : Array Value).toList := Row.grown (by first | exact hrB | exact hrB.below ((Below.refl _ _).alloc (Nat.le_refl _) _)) hg2 (fun e => by have := (ho1.ge _ e.symm).1; omega); have kC := hrC.cell; have Z2 : w.heap.size + 1 ≤ w2.heap.size := hrC.lt; clear tok2))
        all_goals
          go_wp2_with fail
          go_ret
          have hfin := (ho3.mono (base' := w.heap.size) (by omega)).tos (below_own L2 hg3 L2.size (fun g hg => by have := (ho2.ge g hg).1; omega))
          rw [List.nil_append, ← List.map_append, ← List.map_append] at hfin
          exact hfin

theorem l1Min_any (a b : Int) (w : World) : Calls Try.prog 52 #[.int .i64 a, .int .i64 b] w (RetQ (.int .i64 (min a b)) w) := by
  by_cases h : a < b
  · go_enter Try.func52, Try.ntmps52
    go_wp2
    go_ret
    exact ⟨ret_int (by omega), rfl⟩
  · go_enter Try.func52, Try.ntmps52
    go_wp2
    go_ret
    exact ⟨ret_int (by omega), rfl⟩
theorem l1Max_any (a b : Int) (w : World) : Calls Try.prog 51 #[.int .i64 a, .int .i64 b] w (RetQ (.int .i64 (max a b)) w) := by
  by_cases h : b < a
  · go_enter Try.func51, Try.ntmps51
    go_wp2
    go_ret
    exact ⟨ret_int (by omega), rfl⟩
  · go_enter Try.func51, Try.ntmps51
    go_wp2
    go_ret
    exact ⟨ret_int (by omega), rfl⟩

set_option maxRecDepth 20000 in
set_option maxHeartbeats 4000000 in
theorem l20Put_spec (l : List GCell) (a : Int) (x : GCell) (fp : List Nat) (v : Value) (w : World) (hS : Sl w (l.map GCell.toD) fp v) (hn : l.length ≤ 1048576) : Calls Try.prog 34 #[v, .int .i64 a, .agg #[.int .i64 x.id, .int .i64 x.ver, .int .i64 x.kind, .string x.name, .string x.code, .int .i64 x.n]] w (TosPost ((putAt l (clampN a l.length) x).map GCell.toD) w) := by
  obtain ⟨A, c, rfl, hl, hc⟩ := hS.formT
  have hk := clampN_le a l.length
  have hMin := fun W => l1Min_any a l.length W
  have hMax := fun W => l1Max_any 0 (min a l.length) W
  rw [clampN_eq] at hMax
  generalize clampN a l.length = k at *
  generalize min a (l.length : Int) = mm at *
  have h1 : ∀ w : World, (Instr.slice 31 (.slice A l.length c) none (some (.int .i64 (k : Int))) none).run Try.prog w = .ok (.slice A (k) c) w := ekGCell.sub_hi (A := A) (k) (hk) hl
  obtain ⟨A2, h2', h2s⟩ := ekGCell.sub_lo (A := A) (k) (hk) hl
  have h2 : ∀ w : World, (Instr.slice 31 (.slice A l.length c) (some (.int .i64 (k : Int))) none none).run Try.prog w = .ok (.slice A2 (l.length - (k)) (c - (k))) w := h2'
  clear h2'
  obtain ⟨f1, hS1, _⟩ := Sl.take hS (by rw [List.length_map]; exact hk : (k) ≤ (l.map GCell.toD).length)
  obtain ⟨f2, hS2, _⟩ := h2s w _ _ GCell.szs hS
  rw [← List.map_take] at hS1
  rw [← List.map_drop] at hS2
  clear h2s
  go_enter Try.func34, Try.ntmps34
  go_wp2_with (first
    | (go_at_call 52; refine (hMin _).mono ?_; rintro e w' ⟨rfl, rfl⟩)
    | (go_at_call 51; refine (hMax _).mono ?_; rintro e w' ⟨rfl, rfl⟩)
    | (at_builtin; refine wpList_append_G rfl ekGCell (.tmp 13) (.tmp 16) rfl (w.heap.size + 1) _ (by rfl) [] [] (OwnG.lit (by simp) (by simp)) ((l.take k).map GCell.toD) [] _ (by rfl) (Src.of_flat (hS1.below (by repeat' (first | exact Below.refl _ _ | exact Nat.le_refl _ | apply Below.drew | apply Below.alloc | (simp; done) | (simp; omega)))) flat_cells) GCell.ones_ GCell.szs free_nil dis_nil (by simp; try omega) (by simp) ?_; intro v1 w1 ho1 hg1 hat1; have L1 : Below w.heap.size w w1 := below_own (by repeat' (first | exact Below.refl _ _ | exact Nat.le_refl _ | apply Below.drew | apply Below.alloc | (simp; done) | (simp; omega))) hg1 (by simp; try omega) (fun g hg => by have h := Option.some.inj hg; try simp at h; omega); have hrB : Row w1 w.heap.size 37 (#[.int .i64 x.id, .int .i64 x.ver, .int .i64 x.kind, .string x.name, .string x.code, .int .i64 x.n] : Array Value).toList := Row.grown (Row.below (Row.new w _ _) (by repeat' (first | exact Below.refl _ _ | exact Nat.le_refl _ | apply Below.drew | apply Below.alloc | (simp; done) | (simp; omega)))) hg1 (fun e => by have h := Option.some.inj e; try dsimp only at h; omega); have kB := hrB.cell; clear hg1 hat1)
    | (at_builtin; refine wpList_append_G rfl ekGCell (.tmp 18) (.tmp 20) rfl (w.heap.size + 1) _ (by rfl) _ [] (ho1.below ((Below.refl _ _).alloc (Nat.le_refl _) _)) ([x].map GCell.toD) [] _ (by rfl) (Src.one (Row.new _ _ _) (GCell.opened.2 ⟨rfl, rfl⟩)) GCell.ones_ GCell.szs free_nil dis_nil (by simp; try omega) (by have := hrB.lt; simp; try omega) ?_; intro v2 w2 ho2 hg2 hat2; have L2 : Below w.heap.size w w2 := below_own (L1.alloc L1.size _) hg2 (by have := L1.size; simp; try omega) (fun g hg => by have := (ho1.ge g hg).1; omega); have Z2 : w.heap.size + 1 ≤ w2.heap.size := Nat.le_trans hrB.lt (Nat.le_trans (by simp) hg2.size); clear hg2 hat2)
    | (at_builtin; refine wpList_append_G rfl ekGCell (.tmp 22) (.tmp 25) rfl (w.heap.size + 1) _ (by rfl) _ [] ho2 ((l.drop k).map GCell.toD) [] _ (by rfl) (Src.of_flat (hS2.below L2) flat_cells) GCell.ones_ GCell.szs free_nil dis_nil (by simp; try omega) Z2 ?_; intro v3 w3 ho3 hg3 hat3))
  go_ret
  have hfin := (ho3.mono (base' := w.heap.size) (by omega)).tos (below_own L2 hg3 L2.size (fun g hg => by have := (ho2.ge g hg).1; omega))
  rw [List.nil_append, ← List.map_append, ← List.map_append] at hfin
  exact hfin
end Go.Proofs.Ytokplliaejbbdaa
