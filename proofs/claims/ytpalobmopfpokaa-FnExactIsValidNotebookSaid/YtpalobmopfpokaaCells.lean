/-
  Notebooks: copies, contents without versions, equality: both packages.
-/
import Derived.Test.YtpalobmopfpokaaTypes
import Derived.Test.YtpalobmopfpokaaProg
import Derived.Test.YtpalobmopfpokaaNames
import Derived.Test.YtpalobmopfpokaaApp
import Derived.KernelRfl
namespace Go.Proofs.Ytpalobmopfpokaa
open Go.RowKit
set_option linter.unusedSimpArgs false
set_option linter.unusedVariables false

def GCell.cs (x : GCell) : List Value := [.int .i64 x.id, .int .i64 x.ver, .int .i64 x.kind, .string x.name, .string x.code, .int .i64 x.n]
theorem GCell.cs_len (x : GCell) : x.cs.length = 6 := rfl
def cellsOf (l : List GCell) : List Value := l.flatMap GCell.cs
theorem cellsOf_len (l : List GCell) : (cellsOf l).length = l.length * 6 := by
  induction l with
  | nil => rfl
  | cons x l ih =>
    have e : cellsOf (x :: l) = x.cs ++ cellsOf l := rfl
    rw [e, List.length_append, ih, GCell.cs_len, List.length_cons]
    omega
theorem Rs_cells {w : World} : ∀ {l : List GCell} {fp : List Nat} {cs : List Value}, Rs w (l.map GCell.toD) fp cs ↔ fp = [] ∧ cs = cellsOf l
  | [], fp, cs => by rw [List.map_nil, Rs]; rfl
  | x :: l, fp, cs => by
    rw [List.map_cons, Rs]
    constructor
    · rintro ⟨f1, f2, c1, c2, rfl, rfl, h1, h2⟩
      obtain ⟨rfl, rfl⟩ := GCell.opened.1 h1
      obtain ⟨rfl, rfl⟩ := Rs_cells.1 h2
      exact ⟨rfl, rfl⟩
    · rintro ⟨rfl, rfl⟩
      exact ⟨[], [], x.cs, cellsOf l, rfl, rfl, GCell.opened.2 ⟨rfl, rfl⟩, Rs_cells.2 ⟨rfl, rfl⟩⟩
theorem cellsOf_set : ∀ (l : List GCell) (k j : Nat) (u : Value) (x : GCell), (h : k < l.length) → j < 6 → (l[k]).cs.set j u = x.cs → (cellsOf l).set (k * 6 + j) u = cellsOf (l.set k x)
  | [], k, _, _, _, h, _, _ => by simp at h
  | y :: l, 0, j, u, x, h, hj, e => by
    have e1 : cellsOf (y :: l) = y.cs ++ cellsOf l := rfl
    have e2 : cellsOf ((y :: l).set 0 x) = x.cs ++ cellsOf l := rfl
    rw [e1, e2, Nat.zero_mul, Nat.zero_add, List.set_append_left _ _ (by rw [GCell.cs_len]; exact hj)]
    rw [show y.cs.set j u = x.cs from e]
  | y :: l, k + 1, j, u, x, h, hj, e => by
    have e1 : cellsOf (y :: l) = y.cs ++ cellsOf l := rfl
    have e2 : cellsOf ((y :: l).set (k + 1) x) = y.cs ++ cellsOf (l.set k x) := rfl
    rw [e1, e2, List.set_append_right _ _ (by rw [GCell.cs_len]; omega), GCell.cs_len, show (k + 1) * 6 + j - 6 = k * 6 + j by omega, cellsOf_set l k j u x (by simpa using h) hj e]

deriving instance DecidableEq for GCell
theorem bytes_inj {a b : ByteArray} : a.toList = b.toList ↔ a = b := by
  rw [ByteArray.toList_eq, ByteArray.toList_eq]
  constructor
  · intro h
    have : a.data = b.data := Array.toList_inj.1 h
    cases a; cases b; simp_all
  · rintro rfl; rfl
set_option maxHeartbeats 1000000 in
theorem neqCell (x y : GCell) (w : World) : (binOp .neq 52 (.agg #[.int .i64 x.id, .int .i64 x.ver, .int .i64 x.kind, .string x.name, .string x.code, .int .i64 x.n]) (.agg #[.int .i64 y.id, .int .i64 y.ver, .int .i64 y.kind, .string y.name, .string y.code, .int .i64 y.n])).run Try.prog w = .ok (.bool (!decide (x = y))) w := by
  go_simp
  simp only [bytes_inj]
  cases x; cases y
  simp
  repeat' split
  all_goals simp_all
theorem info_cell : (Try.prog.info? 52).map (fun i => (i.zero, i.size, i.bytes)) = some (some (.agg #[.int .i64 0, .int .i64 0, .int .i64 0, .string ⟨#[]⟩, .string ⟨#[]⟩, .int .i64 0]), 6, 64) := by kernel_rfl

/-- A slice of cells that the call owns. -/
def OwnC (w : World) (base : Nat) (l : List GCell) (v : Value) : Prop := w.ownsRow base 52 6 v l.length (cellsOf l)
theorem OwnC.sl {w : World} {base : Nat} {l : List GCell} {v : Value} (h : OwnC w base l v) : Sl w (l.map GCell.toD) v.ownBlock.toList v := by
  have h' : w.ownsRow base 52 6 v (l.map GCell.toD).length (cellsOf l) := by rw [List.length_map]; exact h
  have := Sl.of_own h' (Rs_cells.2 ⟨rfl, rfl⟩)
  rwa [List.append_nil] at this
theorem GCell.one (x : GCell) : x.toD.one := by simp [GCell.toD_eq, D.one, D.ones, li, ls, Value.oneCell']
theorem GCell.ones {l : List GCell} : ∀ d ∈ l.map GCell.toD, d.one := fun d h => by obtain ⟨x, _, rfl⟩ := List.mem_map.1 h; exact x.one

def CopyPost (x : GNb) (w : World) (e : Ending) (w' : World) : Prop := ∃ v, e = .returned (.agg #[v]) ∧ OwnC w' w.heap.size x.cells v ∧ Below w.heap.size w w'
theorem wpList_append_cells {w : World} {ops : Array Oper} {rest : List Oper} {o : Oper} {a : Act} {Q : Exit → Act → World → Prop} (hgd : o.guard = none) (s x : Operand)
    (ho : o.op = .call { callee := .builtin .append, args := #[s, x], argTypes := #[27, 27] })
    (base : Nat) (v : Value) (l0 : List GCell) (hs : a.eval s = v) (hown : OwnC w base l0 v) (l : List GCell) (fp : List Nat) (vx : Value) (hx : a.eval x = vx) (hsl : Sl w (l.map GCell.toD) fp vx)
    (hn : l0.length + l.length ≤ 2097152) (hbase : base ≤ w.heap.size)
    (h : ∀ v' w', OwnC w' base (l0 ++ l) v' → w.grownBy w' v.ownBlock → (v'.ownBlock = v.ownBlock ∨ v'.ownBlock = some w.heap.size) → wpList Try.prog ops Q rest (a.put o.dst v') w') : wpList Try.prog ops Q (o :: rest) a w := by
  obtain ⟨i0, hi0, hz0, hz1, hz2⟩ := info_parts info_cell
  refine wpList_append_sl hgd s x _ ho base 52 i0 _ 6 64 Try.underlying27 hi0 hz0 hz1 hz2 rfl (by omega) v l0.length (cellsOf l0) hs hown (l.map GCell.toD) fp vx hx hsl GCell.ones GCell.szs (by rw [List.length_map]; unfold maxLen; omega) (by rw [List.length_map]; omega) hbase ?_
  intro v' w' fp' cs hr _ hown' hg hat
  refine h v' w' ?_ hg hat
  obtain ⟨rfl, rfl⟩ := Rs_cells.1 hr
  unfold OwnC
  rw [List.length_append, List.length_map] at *
  have e : cellsOf (l0 ++ l) = cellsOf l0 ++ cellsOf l := by unfold cellsOf; rw [List.flatMap_append]
  rw [e]
  exact hown'
theorem OwnC.lit {w : World} {base g : Nat} (hg : w.heap.size = g) (hb : base ≤ g) : OwnC (w.alloc (.cells #[] 52)) base [] (.slice (some ⟨g, 0, none⟩) 0 0) := by
  subst hg
  exact World.ownsRow_lit w #[] 0 hb (by simp) rfl

set_option maxHeartbeats 1000000 in
theorem l17Copy_spec (x : GNb) (fp : List Nat) (cs : List Value) (w : World) (hR : R w x.toD fp cs) (hn : x.cells.length ≤ 1048576) : Calls Try.prog 28 #[.agg cs.toArray] w (CopyPost x w) := by
  obtain ⟨v0, f0, rfl, rfl, hS⟩ := GNb.opened.1 hR
  obtain ⟨A, c, rfl, hq1, hq2⟩ := hS.formT
  clear hR hq1 hq2
  go_enter Try.func28, Try.ntmps28
  go_wp2_with (at_builtin; refine wpList_append_cells rfl (.tmp 3) (.tmp 5) rfl (w.heap.size + 2) (.slice (some ⟨w.heap.size + 1 + 1, 0, none⟩) 0 0) [] rfl ?h1 x.cells fp _ rfl ?h2 ?h3 ?h4 ?_; rotate_left 4; intro v1 w1 hown1 hg1 hat1; obtain ⟨A1, c1, hv1⟩ := ownsRow_form hown1; obtain ⟨hr10, hr11, hz1, G1⟩ := grown3 hg1 (by simp [Value.ownBlock]); have k10 := hr10.cell; have k11 := hr11.cell; have n11 := hr11.frozen; rw [hv1]; clear hg1 hat1)
  case h1 => exact OwnC.lit (by simp) (by omega)
  case h2 => exact hS.below ((((Below.refl _ _).alloc (by simp) _).alloc (by simp; try omega) _).alloc (by simp; try omega) _)
  case h3 => simp; omega
  case h4 => simp
  have hfin : OwnC w1 w.heap.size x.cells (.slice A1 x.cells.length c1) := by
    rw [← List.nil_append x.cells, ← hv1]
    exact ownsRow_mono hown1 (by omega)
  refine bodyPost_ret (v := .agg #[.slice A1 x.cells.length c1]) (by simp [results, Try.results28, go_sem, k11]) rfl ⟨_, rfl, ?_, G1.setCell (by simp) _⟩
  refine ownsRow_far hfin (fun e => ?_) _
  rcases hown1.2 with ⟨h, _⟩ | ⟨g, cap, cur, h, hg, _⟩
  · rw [hv1] at h
    injection h with h1
    subst h1
    simp [Value.ownBlock] at e
  · rw [hv1] at h
    injection h with h1
    subst h1
    simp [Value.ownBlock] at e
    omega

set_option maxHeartbeats 1000000 in
theorem copyNotebook_impl (x : GNb) (fp : List Nat) (cs : List Value) (w : World) (hR : R w x.toD fp cs) (hn : x.cells.length ≤ 1048576) : Calls Try.prog 52 #[.agg cs.toArray] w (CopyPost x w) := by
  obtain ⟨v0, f0, rfl, rfl, hS⟩ := GNb.opened.1 hR
  obtain ⟨A, c, rfl, hq1, hq2⟩ := hS.formT
  clear hR hq1 hq2
  go_enter Try.func52, Try.ntmps52
  go_wp2_with (at_builtin; refine wpList_append_cells rfl (.tmp 3) (.tmp 5) rfl (w.heap.size + 2) (.slice (some ⟨w.heap.size + 1 + 1, 0, none⟩) 0 0) [] rfl ?h1 x.cells fp _ rfl ?h2 ?h3 ?h4 ?_; rotate_left 4; intro v1 w1 hown1 hg1 hat1; obtain ⟨A1, c1, hv1⟩ := ownsRow_form hown1; obtain ⟨hr10, hr11, hz1, G1⟩ := grown3 hg1 (by simp [Value.ownBlock]); have k10 := hr10.cell; have k11 := hr11.cell; have n11 := hr11.frozen; rw [hv1]; clear hg1 hat1)
  case h1 => exact OwnC.lit (by simp) (by omega)
  case h2 => exact hS.below ((((Below.refl _ _).alloc (by simp) _).alloc (by simp; try omega) _).alloc (by simp; try omega) _)
  case h3 => simp; omega
  case h4 => simp
  have hfin : OwnC w1 w.heap.size x.cells (.slice A1 x.cells.length c1) := by
    rw [← List.nil_append x.cells, ← hv1]
    exact ownsRow_mono hown1 (by omega)
  refine bodyPost_ret (v := .agg #[.slice A1 x.cells.length c1]) (by simp [results, Try.results52, go_sem, k11]) rfl ⟨_, rfl, ?_, G1.setCell (by simp) _⟩
  refine ownsRow_far hfin (fun e => ?_) _
  rcases hown1.2 with ⟨h, _⟩ | ⟨g, cap, cur, h, hg, _⟩
  · rw [hv1] at h
    injection h with h1
    subst h1
    simp [Value.ownBlock] at e
  · rw [hv1] at h
    injection h with h1
    subst h1
    simp [Value.ownBlock] at e
    omega

def GCell.unver (c : GCell) : GCell := { c with ver := 0 }
/-- The first k cells without their versions. -/
def unverTo (l : List GCell) (k : Nat) : List GCell := (l.take k).map GCell.unver ++ l.drop k
theorem unverTo_zero (l : List GCell) : unverTo l 0 = l := by simp [unverTo]
theorem unverTo_all (l : List GCell) : unverTo l l.length = l.map GCell.unver := by simp [unverTo]
theorem unverTo_len (l : List GCell) (k : Nat) : (unverTo l k).length = l.length := by simp [unverTo]; omega
theorem unverTo_get (l : List GCell) (k : Nat) (h : k < l.length) : (unverTo l k)[k]'(by rw [unverTo_len]; exact h) = l[k] := by
  have h1 : ((l.take k).map GCell.unver).length = k := by simp; omega
  simp only [unverTo]
  rw [List.getElem_append_right (by omega), List.getElem_drop]
  congr 1
  omega
theorem unverTo_set (l : List GCell) (k : Nat) (h : k < l.length) : (unverTo l k).set k (l[k]).unver = unverTo l (k + 1) := by
  have h1 : ((l.take k).map GCell.unver).length = k := by simp; omega
  unfold unverTo
  rw [List.set_append_right _ _ (by omega), h1, Nat.sub_self, List.drop_eq_getElem_cons h, List.set_cons_zero, List.take_succ_eq_append_getElem h, List.map_append]
  simp
theorem unver_cells (l : List GCell) (k : Nat) (h : k < l.length) : (cellsOf (unverTo l k)).set (k * 6 + 1) (.int .i64 0) = cellsOf (unverTo l (k + 1)) := by
  rw [cellsOf_set (unverTo l k) k 1 (.int .i64 0) (l[k]).unver (by rw [unverTo_len]; exact h) (by omega) (by rw [unverTo_get l k h]; rfl), unverTo_set l k h]

set_option maxHeartbeats 1000000 in
theorem unversioned_impl (x : GNb) (fp : List Nat) (cs : List Value) (w : World) (hR : R w x.toD fp cs) (hn : x.cells.length ≤ 1048576) : Calls Try.prog 32 #[.agg cs.toArray] w (CopyPost ⟨x.cells.map GCell.unver⟩ w) := by
  have hP : ∀ wx : World, Below w.heap.size w wx → Calls Try.prog 52 #[.agg cs.toArray] wx (CopyPost x wx) := fun wx h => copyNotebook_impl x fp cs wx (hR.below h) hn
  obtain ⟨v0, f0, rfl, rfl, hS⟩ := GNb.opened.1 hR
  obtain ⟨A, c, rfl, hq1, hq2⟩ := hS.formT
  clear hR hq1 hq2
  go_enter Try.func32, Try.ntmps32
  go_wp2_with fail
  refine (hP _ ?_).mono ?_
  · exact ((Below.refl _ _).alloc (by simp) _).alloc (by simp; try omega) _
  rintro e w1 ⟨v, rfl, hown, hb1⟩
  obtain ⟨A1, c1, rfl⟩ := ownsRow_form hown
  obtain ⟨hr0, hr1, hz1, G1⟩ := rows2 hb1
  have k0 := hr0.cell
  have k1 := hr1.cell
  have n1 := hr1.frozen
  clear hb1 hP
  have hA := hown.lt
  have hA1 : ∀ g, A1 = some ⟨g, 0, none⟩ → w.heap.size + 2 ≤ g ∧ g < w1.heap.size := fun g e => by
    have := hA g (by rw [e]; rfl)
    simpa using this
  have hown1 : OwnC w1 (w.heap.size + 2) x.cells (.slice A1 x.cells.length c1) := by simpa using hown
  clear hA hown
  go_wp2_with fail
  go_loopw [10] (fun iv wr => ∃ k : Nat, k ≤ x.cells.length ∧ iv = .int .i64 k ∧ OwnC wr (w.heap.size + 2) (unverTo x.cells k) (.slice A1 x.cells.length c1) ∧ Row wr (w.heap.size + 1) 29 [.slice none 0 0] ∧ Row wr w1.heap.size 29 [.slice A1 x.cells.length c1] ∧ w1.heap.size + 1 ≤ wr.heap.size ∧ Below w.heap.size w wr) (fun iv _ => x.cells.length - (intOf iv).toNat)
  case atStart =>
    refine ⟨0, by omega, rfl, ?_, ?_, Row.new _ _ _, by simp, G1.alloc (by omega) _⟩
    · rw [unverTo_zero]
      exact ownsRow_below hown1 ((Below.refl _ _).alloc (Nat.le_refl _) _)
    · exact hr1.below ((Below.refl _ _).alloc (Nat.le_refl _) _)
  case round =>
    obtain ⟨k, hk, rfl, hown, hq1, hq3, hsz, hb⟩ := hrel
    have j1 := hq1.cell
    have j3 := hq3.cell
    have jn1 := hq1.frozen
    by_cases hlt : k < x.cells.length
    · have hfm : ∃ g, A1 = some ⟨g, 0, none⟩ := by
        rcases hown.2 with ⟨_, h⟩ | ⟨g, cap, cur, h, _⟩
        · rw [unverTo_len] at h; omega
        · injection h with h1 _ _
          exact ⟨g, h1⟩
      obtain ⟨g, rfl⟩ := hfm
      obtain ⟨hg1, hg2⟩ := hA1 g rfl
      have hown' := hown
      unfold OwnC at hown'
      rw [unverTo_len] at hown'
      have hcl : (cellsOf (unverTo x.cells k))[k * 6 + 1]? = some ((cellsOf (unverTo x.cells k))[k * 6 + 1]'(by rw [cellsOf_len, unverTo_len]; omega)) := List.getElem?_eq_getElem _
      have q0 := (hown'.cellAt (k * 6 + 1) (by omega)).trans hcl
      have qf := hown'.frozenAt (k * 6 + 1)
      have hset := hown'.stored (k * 6 + 1) (.int .i64 0)
      rw [unver_cells _ _ hlt] at hset
      clear hcl hown hA1
      go_wp2_with fail
      go_roundw
      case rel =>
        refine ⟨k + 1, by omega, by go_num, ?_, hq1.far (by simp; omega) _, hq3.far (by simp; omega) _, by simpa [World.setCell] using hsz, hb.setCell (by simp; omega) _⟩
        unfold OwnC
        rw [unverTo_len]
        exact hset.1
      case measure => (simp [intOf] <;> omega)
    · have hkk := Lib.hid (show k = x.cells.length by omega)
      have hh := Lib.hid hA1
      clear hA1
      go_wp2_with fail
      have hk2 := hkk.out
      subst hk2
      rw [unverTo_all] at hown
      refine bodyPost_ret (v := .agg #[.slice A1 x.cells.length c1]) (by simp [results, Try.results32, go_sem, j1]) rfl ⟨_, rfl, ?_, hb.setCell (by simp) _⟩
      refine ownsRow_far (ownsRow_mono hown (by omega)) (fun e => ?_) _
      cases A1 with
      | none => simp [Value.ownBlock] at e
      | some a =>
        have := hown.lt a.block (by rfl)
        simp [Value.ownBlock] at e
        omega

theorem neq_take {l l' : List GCell} {k : Nat} (h1 : k < l.length) (h2 : k < l'.length) (h : l[k] ≠ l'[k]) : l ≠ l' := fun e => by
  subst e
  exact h rfl
theorem take_step {l l' : List GCell} {k : Nat} (h1 : k < l.length) (h2 : k < l'.length) (ht : l.take k = l'.take k) (h : l[k] = l'[k]) : l.take (k + 1) = l'.take (k + 1) := by
  rw [List.take_succ_eq_append_getElem h1, List.take_succ_eq_append_getElem h2, ht, h]

set_option maxHeartbeats 2000000 in
theorem same_cells (l l' : List GCell) (fp fp' : List Nat) (v v' : Value) (w : World) (hS1 : Sl w (l.map GCell.toD) fp v) (hS2 : Sl w (l'.map GCell.toD) fp' v') (hn : l.length ≤ 1048576) :
    Calls Try.prog 51 #[v, v'] w (RetB (.bool (decide (l = l'))) w) := by
  obtain ⟨A, c, rfl, hq1, hq2⟩ := hS1.formT
  obtain ⟨A', c', rfl, hq3, hq4⟩ := hS2.formT
  clear hq1 hq2 hq3 hq4
  by_cases hlen : l.length = l'.length
  · have hb0 : ((l.length : Int) != (l'.length : Int)) = false := by simp [hlen]
    have hlen' := Lib.hid hlen
    clear hlen
    go_enter Try.func51, Try.ntmps51
    go_wp2_with fail
    go_loopw [13] (fun iv wr => ∃ k : Nat, k ≤ l.length ∧ iv = .int .i64 k ∧ l.take k = l'.take k ∧ Below w.heap.size w wr) (fun iv _ => l.length - (intOf iv).toNat)
    case atStart => exact ⟨0, by omega, rfl, by simp, Below.refl _ _⟩
    case round =>
      obtain ⟨k, hk, rfl, hte, hb⟩ := hrel
      have hte' := Lib.hid hte
      clear hte
      by_cases hlt : k < l.length
      · have hlt2 : k < l'.length := by have := hlen'.out; omega
        have hi1 : 0 ≤ (k : Int) := by omega
        have hi2 : (k : Int) < l.length := by omega
        have hi3 : (k : Int) < l'.length := by omega
        have hd1 : (l.map GCell.toD)[k]? = some (GCell.toD l[k]) := by rw [List.getElem?_map, List.getElem?_eq_getElem hlt]; rfl
        have hd2 : (l'.map GCell.toD)[k]? = some (GCell.toD l'[k]) := by rw [List.getElem?_map, List.getElem?_eq_getElem hlt2]; rfl
        obtain ⟨b1, o1, fi1, ci1, rfl, hbb1, hbf1, hri1, hfi1, hat1⟩ := hS1.elem GCell.szs hd1
        obtain ⟨b2, o2, fi2, ci2, rfl, hbb2, hbf2, hri2, hfi2, hat2⟩ := hS2.elem GCell.szs hd2
        obtain ⟨rfl, rfl⟩ := GCell.opened.1 hri1
        obtain ⟨rfl, rfl⟩ := GCell.opened.1 hri2
        have q10 : wr.cell? ⟨b1, o1 + k * 6, none⟩ = some (.int .i64 l[k].id) := (hb.cell (p := ⟨b1, o1 + k * 6, none⟩) hbb1).trans (hat1.head)
        have q11 : wr.cell? ⟨b1, o1 + k * 6 + 1, none⟩ = some (.int .i64 l[k].ver) := (hb.cell (p := ⟨b1, o1 + k * 6 + 1, none⟩) hbb1).trans (hat1.nth 1 rfl)
        have q12 : wr.cell? ⟨b1, o1 + k * 6 + 2, none⟩ = some (.int .i64 l[k].kind) := (hb.cell (p := ⟨b1, o1 + k * 6 + 2, none⟩) hbb1).trans (hat1.nth 2 rfl)
        have q13 : wr.cell? ⟨b1, o1 + k * 6 + 3, none⟩ = some (.string l[k].name) := (hb.cell (p := ⟨b1, o1 + k * 6 + 3, none⟩) hbb1).trans (hat1.nth 3 rfl)
        have q14 : wr.cell? ⟨b1, o1 + k * 6 + 4, none⟩ = some (.string l[k].code) := (hb.cell (p := ⟨b1, o1 + k * 6 + 4, none⟩) hbb1).trans (hat1.nth 4 rfl)
        have q15 : wr.cell? ⟨b1, o1 + k * 6 + 5, none⟩ = some (.int .i64 l[k].n) := (hb.cell (p := ⟨b1, o1 + k * 6 + 5, none⟩) hbb1).trans (hat1.nth 5 rfl)
        have q20 : wr.cell? ⟨b2, o2 + k * 6, none⟩ = some (.int .i64 l'[k].id) := (hb.cell (p := ⟨b2, o2 + k * 6, none⟩) hbb2).trans (hat2.head)
        have q21 : wr.cell? ⟨b2, o2 + k * 6 + 1, none⟩ = some (.int .i64 l'[k].ver) := (hb.cell (p := ⟨b2, o2 + k * 6 + 1, none⟩) hbb2).trans (hat2.nth 1 rfl)
        have q22 : wr.cell? ⟨b2, o2 + k * 6 + 2, none⟩ = some (.int .i64 l'[k].kind) := (hb.cell (p := ⟨b2, o2 + k * 6 + 2, none⟩) hbb2).trans (hat2.nth 2 rfl)
        have q23 : wr.cell? ⟨b2, o2 + k * 6 + 3, none⟩ = some (.string l'[k].name) := (hb.cell (p := ⟨b2, o2 + k * 6 + 3, none⟩) hbb2).trans (hat2.nth 3 rfl)
        have q24 : wr.cell? ⟨b2, o2 + k * 6 + 4, none⟩ = some (.string l'[k].code) := (hb.cell (p := ⟨b2, o2 + k * 6 + 4, none⟩) hbb2).trans (hat2.nth 4 rfl)
        have q25 : wr.cell? ⟨b2, o2 + k * 6 + 5, none⟩ = some (.int .i64 l'[k].n) := (hb.cell (p := ⟨b2, o2 + k * 6 + 5, none⟩) hbb2).trans (hat2.nth 5 rfl)

        clear hat1 hat2 hd1 hd2 hri1 hri2
        have hneq := neqCell l[k] l'[k]
        by_cases hxy : l[k] = l'[k]
        · have hde : (!decide (l[k] = l'[k])) = false := by simp [hxy]
          rw [hde] at hneq
          clear hde
          have hxy' := Lib.hid hxy
          clear hxy
          go_wp2_with fail
          go_quiet (fail)
          go_wp2_with fail
          go_roundw
          case rel => exact ⟨k + 1, by omega, by go_num, take_step hlt hlt2 hte'.out hxy'.out, below_drewN hb _⟩
          case measure => (simp [intOf] <;> omega)
        · have hde : (!decide (l[k] = l'[k])) = true := by simp [hxy]
          rw [hde] at hneq
          clear hde
          have hf := Lib.hid (show false = decide (l = l') by rw [decide_eq_false (neq_take hlt hlt2 hxy)])
          clear hxy
          go_wp2_with fail
          go_quiet (fail)
          go_wp2_with fail
          go_ret
          exact ⟨ret_bool hf.out, below_drewN hb _⟩
      · have hf := Lib.hid (show true = decide (l = l') by
          have h1 := hte'.out
          have h2 := hlen'.out
          rw [List.take_of_length_le (by omega), List.take_of_length_le (by omega)] at h1
          rw [decide_eq_true h1])
        go_wp2_with fail
        go_ret
        exact ⟨ret_bool hf.out, hb⟩
  · have hb0 : ((l.length : Int) != (l'.length : Int)) = true := by simp; omega
    have hf := Lib.hid (show false = decide (l = l') by rw [decide_eq_false (fun e => hlen (by rw [e]))])
    clear hlen
    go_enter Try.func51, Try.ntmps51
    go_wp2_with fail
    go_ret
    exact ⟨ret_bool hf.out, Below.refl _ _⟩
set_option maxHeartbeats 2000000 in
theorem equalNotebook_spec (l l' : List GCell) (fp fp' : List Nat) (v v' : Value) (w : World) (hS1 : Sl w (l.map GCell.toD) fp v) (hS2 : Sl w (l'.map GCell.toD) fp' v') (hn : l.length ≤ 1048576) :
    Calls Try.prog 29 #[.agg #[v], .agg #[v']] w (RetB (.bool (decide (l = l'))) w) := by
  obtain ⟨A, c, rfl, hq1, hq2⟩ := hS1.formT
  obtain ⟨A', c', rfl, hq3, hq4⟩ := hS2.formT
  clear hq1 hq2 hq3 hq4
  by_cases hlen : l.length = l'.length
  · have hb0 : ((l.length : Int) != (l'.length : Int)) = false := by simp [hlen]
    have hlen' := Lib.hid hlen
    clear hlen
    go_enter Try.func29, Try.ntmps29
    go_wp2_with fail
    go_loopw [5] (fun iv wr => ∃ k : Nat, k ≤ l.length ∧ iv = .int .i64 k ∧ l.take k = l'.take k ∧ Row wr w.heap.size 29 [.slice A l.length c] ∧ Row wr (w.heap.size + 1) 29 [.slice A' l'.length c'] ∧ Below w.heap.size w wr) (fun iv _ => l.length - (intOf iv).toNat)
    case atStart =>
      obtain ⟨r0, r1, _, hB⟩ := rows2 (Below.refl _ ((w.alloc (.cells #[.slice A l.length c] 29)).alloc (.cells #[.slice A' l'.length c'] 29)))
      exact ⟨0, by omega, rfl, by simp, r0, r1, hB⟩
    case round =>
      obtain ⟨k, hk, rfl, hte, hro0, hro1, hb⟩ := hrel
      have kk0 := hro0.cell
      have kk1 := hro1.cell
      have hte' := Lib.hid hte
      clear hte
      by_cases hlt : k < l.length
      · have hlt2 : k < l'.length := by have := hlen'.out; omega
        have hi1 : 0 ≤ (k : Int) := by omega
        have hi2 : (k : Int) < l.length := by omega
        have hi3 : (k : Int) < l'.length := by omega
        have hd1 : (l.map GCell.toD)[k]? = some (GCell.toD l[k]) := by rw [List.getElem?_map, List.getElem?_eq_getElem hlt]; rfl
        have hd2 : (l'.map GCell.toD)[k]? = some (GCell.toD l'[k]) := by rw [List.getElem?_map, List.getElem?_eq_getElem hlt2]; rfl
        obtain ⟨b1, o1, fi1, ci1, rfl, hbb1, hbf1, hri1, hfi1, hat1⟩ := hS1.elem GCell.szs hd1
        obtain ⟨b2, o2, fi2, ci2, rfl, hbb2, hbf2, hri2, hfi2, hat2⟩ := hS2.elem GCell.szs hd2
        obtain ⟨rfl, rfl⟩ := GCell.opened.1 hri1
        obtain ⟨rfl, rfl⟩ := GCell.opened.1 hri2
        have q10 : wr.cell? ⟨b1, o1 + k * 6, none⟩ = some (.int .i64 l[k].id) := (hb.cell (p := ⟨b1, o1 + k * 6, none⟩) hbb1).trans (hat1.head)
        have q11 : wr.cell? ⟨b1, o1 + k * 6 + 1, none⟩ = some (.int .i64 l[k].ver) := (hb.cell (p := ⟨b1, o1 + k * 6 + 1, none⟩) hbb1).trans (hat1.nth 1 rfl)
        have q12 : wr.cell? ⟨b1, o1 + k * 6 + 2, none⟩ = some (.int .i64 l[k].kind) := (hb.cell (p := ⟨b1, o1 + k * 6 + 2, none⟩) hbb1).trans (hat1.nth 2 rfl)
        have q13 : wr.cell? ⟨b1, o1 + k * 6 + 3, none⟩ = some (.string l[k].name) := (hb.cell (p := ⟨b1, o1 + k * 6 + 3, none⟩) hbb1).trans (hat1.nth 3 rfl)
        have q14 : wr.cell? ⟨b1, o1 + k * 6 + 4, none⟩ = some (.string l[k].code) := (hb.cell (p := ⟨b1, o1 + k * 6 + 4, none⟩) hbb1).trans (hat1.nth 4 rfl)
        have q15 : wr.cell? ⟨b1, o1 + k * 6 + 5, none⟩ = some (.int .i64 l[k].n) := (hb.cell (p := ⟨b1, o1 + k * 6 + 5, none⟩) hbb1).trans (hat1.nth 5 rfl)
        have q20 : wr.cell? ⟨b2, o2 + k * 6, none⟩ = some (.int .i64 l'[k].id) := (hb.cell (p := ⟨b2, o2 + k * 6, none⟩) hbb2).trans (hat2.head)
        have q21 : wr.cell? ⟨b2, o2 + k * 6 + 1, none⟩ = some (.int .i64 l'[k].ver) := (hb.cell (p := ⟨b2, o2 + k * 6 + 1, none⟩) hbb2).trans (hat2.nth 1 rfl)
        have q22 : wr.cell? ⟨b2, o2 + k * 6 + 2, none⟩ = some (.int .i64 l'[k].kind) := (hb.cell (p := ⟨b2, o2 + k * 6 + 2, none⟩) hbb2).trans (hat2.nth 2 rfl)
        have q23 : wr.cell? ⟨b2, o2 + k * 6 + 3, none⟩ = some (.string l'[k].name) := (hb.cell (p := ⟨b2, o2 + k * 6 + 3, none⟩) hbb2).trans (hat2.nth 3 rfl)
        have q24 : wr.cell? ⟨b2, o2 + k * 6 + 4, none⟩ = some (.string l'[k].code) := (hb.cell (p := ⟨b2, o2 + k * 6 + 4, none⟩) hbb2).trans (hat2.nth 4 rfl)
        have q25 : wr.cell? ⟨b2, o2 + k * 6 + 5, none⟩ = some (.int .i64 l'[k].n) := (hb.cell (p := ⟨b2, o2 + k * 6 + 5, none⟩) hbb2).trans (hat2.nth 5 rfl)

        clear hat1 hat2 hd1 hd2 hri1 hri2
        have hneq := neqCell l[k] l'[k]
        by_cases hxy : l[k] = l'[k]
        · have hde : (!decide (l[k] = l'[k])) = false := by simp [hxy]
          rw [hde] at hneq
          clear hde
          have hxy' := Lib.hid hxy
          clear hxy
          go_wp2_with fail
          go_quiet (fail)
          go_wp2_with fail
          go_roundw
          case rel => exact ⟨k + 1, by omega, by go_num, take_step hlt hlt2 hte'.out hxy'.out, hro0, hro1, below_drewN hb _⟩
          case measure => (simp [intOf] <;> omega)
        · have hde : (!decide (l[k] = l'[k])) = true := by simp [hxy]
          rw [hde] at hneq
          clear hde
          have hf := Lib.hid (show false = decide (l = l') by rw [decide_eq_false (neq_take hlt hlt2 hxy)])
          clear hxy
          go_wp2_with fail
          go_quiet (fail)
          go_wp2_with fail
          go_ret
          exact ⟨ret_bool hf.out, below_drewN hb _⟩
      · have hf := Lib.hid (show true = decide (l = l') by
          have h1 := hte'.out
          have h2 := hlen'.out
          rw [List.take_of_length_le (by omega), List.take_of_length_le (by omega)] at h1
          rw [decide_eq_true h1])
        go_wp2_with fail
        go_ret
        exact ⟨ret_bool hf.out, hb⟩
  · have hb0 : ((l.length : Int) != (l'.length : Int)) = true := by simp; omega
    have hf := Lib.hid (show false = decide (l = l') by rw [decide_eq_false (fun e => hlen (by rw [e]))])
    clear hlen
    go_enter Try.func29, Try.ntmps29
    go_wp2_with fail
    go_ret
    exact ⟨ret_bool hf.out, ((Below.refl _ _).alloc (by simp) _).alloc (by simp; try omega) _⟩

theorem equalNotebook_impl (l l' : List GCell) (fp fp' : List Nat) (v v' : Value) (w : World) (hS1 : Sl w (l.map GCell.toD) fp v) (hS2 : Sl w (l'.map GCell.toD) fp' v') (hn : l.length ≤ 1048576) :
    Calls Try.prog 31 #[.agg #[v], .agg #[v']] w (RetB (.bool (decide (l = l'))) w) := by
  have hP : ∀ wx : World, Below w.heap.size w wx → Calls Try.prog 51 #[v, v'] wx (RetB (.bool (decide (l = l'))) wx) := fun wx h => same_cells l l' fp fp' v v' wx (hS1.below h) (hS2.below h) hn
  obtain ⟨A, c, rfl, hq1, hq2⟩ := hS1.formT
  obtain ⟨A', c', rfl, hq3, hq4⟩ := hS2.formT
  clear hq1 hq2 hq3 hq4
  generalize decide (l = l') = b at *
  go_enter Try.func31, Try.ntmps31
  go_wp2_with fail
  refine (hP _ ?_).mono ?_
  · exact ((Below.refl _ _).alloc (by simp) _).alloc (by simp; try omega) _
  rintro e w1 ⟨rfl, hb1⟩
  obtain ⟨hr0, hr1, hz1, G1⟩ := rows2 hb1
  clear hb1
  go_wp2_with fail
  go_ret
  exact ⟨rfl, G1⟩

theorem unver_length (l : List GCell) : (l.map GCell.unver).length = l.length := List.length_map ..
set_option maxHeartbeats 1000000 in
theorem sameContent_impl (x y : GNb) (f1 f2 : List Nat) (c1 c2 : List Value) (w : World) (h1 : R w x.toD f1 c1) (h2 : R w y.toD f2 c2) (hn : x.cells.length ≤ 1048576) (hm : y.cells.length ≤ 1048576) :
    Calls Try.prog 11 #[.agg c1.toArray, .agg c2.toArray] w (RetB (.bool (decide (x.cells.map GCell.unver = y.cells.map GCell.unver))) w) := by
  have hP : ∀ wx : World, Below w.heap.size w wx → Calls Try.prog 32 #[.agg c1.toArray] wx (CopyPost ⟨x.cells.map GCell.unver⟩ wx) := fun wx h => unversioned_impl x f1 c1 wx (h1.below h) hn
  have hQ : ∀ wx : World, Below w.heap.size w wx → Calls Try.prog 32 #[.agg c2.toArray] wx (CopyPost ⟨y.cells.map GCell.unver⟩ wx) := fun wx h => unversioned_impl y f2 c2 wx (h2.below h) hm
  obtain ⟨v1, g1, rfl, rfl, hS1⟩ := GNb.opened.1 h1
  obtain ⟨v2, g2, rfl, rfl, hS2⟩ := GNb.opened.1 h2
  obtain ⟨A1, d1, rfl, _, _⟩ := hS1.formT
  obtain ⟨A2, d2, rfl, _, _⟩ := hS2.formT
  clear h1 h2 hS1 hS2
  go_enter Try.func11, Try.ntmps11
  have tok1 : True := trivial
  have tok2 : True := trivial
  go_wp2_with fail
  go_region_held3 (fun w' => w'.cell? ⟨w.heap.size, 0, none⟩ = some (.slice A1 x.cells.length d1) ∧ w'.cell? ⟨w.heap.size + 1, 0, none⟩ = some (.slice A2 y.cells.length d2)) (go_keep)
    (first
    | (go_at_call 32; have _t := tok1; refine (hP _ ?_).mono ?_; (exact (((Below.refl _ _).alloc (by simp) _).alloc (by simp; try omega) _).drew); rintro e w1 ⟨u1, rfl, ho1, hb1⟩; obtain ⟨hr0, hr1, hz1, G1⟩ := rows2 ((Below.refl _ _).drew.trans hb1); have k0 := hr0.cell; have k1 := hr1.cell; clear hb1 tok1)
    | (go_at_call 32; have _t := tok2; refine (hQ _ ?_).mono ?_; (exact G1); rintro e w2 ⟨u2, rfl, ho2, hb2⟩; have k2 := (hr0.below hb2).cell; have k3 := (hr1.below hb2).cell; clear tok2)
    | (go_at_call 31; refine (equalNotebook_impl _ _ _ _ _ _ _ ((ho1.sl).below hb2) ho2.sl (by rw [unver_length]; exact hn)).mono ?_; rintro e w3 ⟨rfl, hb3⟩; have k4 := ((hr0.below hb2).below hb3).cell; have k5 := ((hr1.below hb2).below hb3).cell))
  go_wp2_with fail
  go_ret
  exact ⟨rfl, (G1.trans (hb2.mono (by omega))).trans (hb3.mono (by have := hb2.size; omega))⟩

/-- The address of an owned slice of cells that is not empty, and its block. -/
theorem OwnC.addr {w : World} {base : Nat} {l : List GCell} {A : Option Addr} {n c : Nat} (h : OwnC w base l (.slice A n c)) (hn : 0 < l.length) : ∃ g, A = some ⟨g, 0, none⟩ ∧ base ≤ g ∧ g < w.heap.size := by
  rcases h.2 with ⟨_, h'⟩ | ⟨g, cap, cur, h', hb, hh, _⟩
  · omega
  · injection h' with h1 _ _
    refine ⟨g, h1, hb, ?_⟩
    rcases Nat.lt_or_ge g w.heap.size with hlt | hge
    · exact hlt
    · rw [Array.getElem?_eq_none hge] at hh; cases hh
theorem OwnC.lt_ {w : World} {base : Nat} {l : List GCell} {A : Option Addr} {n c : Nat} (h : OwnC w base l (.slice A n c)) : ∀ g, A = some ⟨g, 0, none⟩ → base ≤ g ∧ g < w.heap.size := fun g e => World.ownsRow.lt h g (by rw [e]; rfl)
/-- One version struck: the cell, its mark, and what the store leaves. -/
theorem OwnC.strike {w : World} {base g c k : Nat} {l : List GCell} (h : OwnC w base (unverTo l k) (.slice (some ⟨g, 0, none⟩) l.length c)) (hk : k < l.length) :
    (∃ u, w.cell? ⟨g, k * 6 + 1, none⟩ = some u) ∧ w.frozen? ⟨g, k * 6 + 1, none⟩ = false ∧ OwnC (w.setCell ⟨g, k * 6 + 1, none⟩ (.int .i64 0)) base (unverTo l (k + 1)) (.slice (some ⟨g, 0, none⟩) l.length c) := by
  unfold OwnC at *
  rw [unverTo_len] at *
  have hset := h.stored (k * 6 + 1) (.int .i64 0)
  rw [unver_cells _ _ hk] at hset
  refine ⟨⟨_, (h.cellAt (k * 6 + 1) (by omega)).trans (List.getElem?_eq_getElem (by rw [cellsOf_len, unverTo_len]; omega))⟩, h.frozenAt _, hset.1⟩

set_option maxHeartbeats 2000000 in
theorem sameContent_spec (x y : GNb) (f1 f2 : List Nat) (c1 c2 : List Value) (w : World) (h1 : R w x.toD f1 c1) (h2 : R w y.toD f2 c2) (hn : x.cells.length ≤ 1048576) (hm : y.cells.length ≤ 1048576) :
    Calls Try.prog 9 #[.agg c1.toArray, .agg c2.toArray] w (RetB (.bool (decide (x.cells.map GCell.unver = y.cells.map GCell.unver))) w) := by
  have hP : ∀ wx : World, Below w.heap.size w wx → Calls Try.prog 28 #[.agg c1.toArray] wx (CopyPost x wx) := fun wx h => l17Copy_spec x f1 c1 wx (h1.below h) hn
  have hQ : ∀ wx : World, Below w.heap.size w wx → Calls Try.prog 28 #[.agg c2.toArray] wx (CopyPost y wx) := fun wx h => l17Copy_spec y f2 c2 wx (h2.below h) hm
  obtain ⟨v1, g1, rfl, rfl, hS1⟩ := GNb.opened.1 h1
  obtain ⟨v2, g2, rfl, rfl, hS2⟩ := GNb.opened.1 h2
  obtain ⟨A1, d1, rfl, _, _⟩ := hS1.formT
  obtain ⟨A2, d2, rfl, _, _⟩ := hS2.formT
  clear h1 h2 hS1 hS2
  go_enter Try.func9, Try.ntmps9
  go_wp2_with fail
  refine (hP _ ?_).mono ?_
  · exact ((Below.refl _ _).alloc (by simp) _).alloc (by simp; try omega) _
  rintro e w1 ⟨u1, rfl, ho1, hb1⟩
  obtain ⟨hr0, hr1, hz1, G1⟩ := rows2 hb1
  obtain ⟨B1, e1, hv1⟩ := ownsRow_form ho1
  have k1 := fun o => (hr1.below ((Below.refl w1.heap.size w1).alloc (Nat.le_refl _) o)).cell
  clear hb1
  subst hv1
  go_wp2_with fail
  refine (hQ _ ?_).mono ?_
  · exact G1.alloc (by omega) _
  rintro e w2 ⟨u2, rfl, ho2, hb2⟩
  obtain ⟨B2, e2, hv2⟩ := ownsRow_form ho2
  subst hv2
  obtain ⟨hr2, hz2, G2⟩ := rows1 hb2
  have ho1' : OwnC w2 (w.heap.size + 2) x.cells (.slice B1 x.cells.length e1) := ownsRow_below (ownsRow_below (ownsRow_mono ho1 (by simp)) ((Below.refl _ _).alloc (Nat.le_refl _) _)) hb2
  have ho2' : OwnC w2 (w1.heap.size + 1) y.cells (.slice B2 y.cells.length e2) := ownsRow_mono ho2 (by simp)
  have hA1 : ∀ g, B1 = some ⟨g, 0, none⟩ → w.heap.size + 2 ≤ g ∧ g < w1.heap.size := fun g e => by have := ho1.lt_ g e; simpa using this
  have hA2 := ho2'.lt_
  have hA1' := hA1
  have H2 : Below w.heap.size w w2 := G1.trans (G2.mono (by omega))
  clear ho1 ho2 hb2 hr0 hr1 k1 G1 G2
  go_wp2_with fail
  go_loopw [7] (fun iv wr => ∃ k : Nat, k ≤ x.cells.length ∧ iv = .int .i64 k ∧ OwnC wr (w.heap.size + 2) (unverTo x.cells k) (.slice B1 x.cells.length e1) ∧ OwnC wr (w1.heap.size + 1) y.cells (.slice B2 y.cells.length e2) ∧ Row wr w1.heap.size 29 [.slice B1 x.cells.length e1] ∧ Row wr w2.heap.size 29 [.slice B2 y.cells.length e2] ∧ w2.heap.size + 1 ≤ wr.heap.size ∧ Below w.heap.size w wr) (fun iv _ => x.cells.length - (intOf iv).toNat)
  case atStart =>
    have ha := (Below.refl w2.heap.size w2).alloc (Nat.le_refl _) (.cells #[.slice B2 y.cells.length e2] 29)
    refine ⟨0, by omega, rfl, ?_, ownsRow_below ho2' ha, hr2.below ha, Row.new _ _ _, by simp, H2.trans (ha.mono H2.size)⟩
    rw [unverTo_zero]
    exact ownsRow_below ho1' ha
  case round =>
    obtain ⟨k, hk, rfl, hox, hoy, hq1, hq2, hsz, hb⟩ := hrel
    have j1 := hq1.cell
    have j2 := hq2.cell
    have n1 := hq1.frozen
    by_cases hlt : k < x.cells.length
    · obtain ⟨g, rfl, hga, hgb⟩ := hox.addr (by rw [unverTo_len]; omega)
      obtain ⟨hgc, hgd⟩ := hA1 g rfl
      obtain ⟨⟨ou, q0⟩, qf, hset⟩ := hox.strike hlt
      have hfar : OwnC (wr.setCell ⟨g, k * 6 + 1, none⟩ (.int .i64 0)) (w1.heap.size + 1) y.cells (.slice B2 y.cells.length e2) := ownsRow_far hoy (fun e => by
        cases B2 with
        | none => simp [Value.ownBlock] at e
        | some a =>
          have := World.ownsRow.lt hoy a.block rfl
          simp [Value.ownBlock] at e
          omega) _
      clear hox hA1 hA1' hA2 ho1' ho2' hoy
      go_wp2_with fail
      go_roundw
      case rel => exact ⟨k + 1, by omega, by go_num, hset, hfar, hq1.far (by simp; omega) _, hq2.far (by simp; omega) _, by simpa [World.setCell] using hsz, hb.setCell (by simp; omega) _⟩
      case measure => (simp [intOf] <;> omega)
    · have hkk := Lib.hid (show k = x.cells.length by omega)
      clear ho1' ho2' hA1
      go_wp2_with fail
      have hk2 := hkk.out
      subst hk2
      rw [unverTo_all] at hox
      clear hkk
      obtain ⟨wo, rfl⟩ : ∃ wo : World, wo = wr := ⟨_, rfl⟩
      go_loopw [8] (fun iv wr => ∃ k : Nat, k ≤ y.cells.length ∧ iv = .int .i64 k ∧ OwnC wr (w.heap.size + 2) (x.cells.map GCell.unver) (.slice B1 x.cells.length e1) ∧ OwnC wr (w1.heap.size + 1) (unverTo y.cells k) (.slice B2 y.cells.length e2) ∧ Row wr w1.heap.size 29 [.slice B1 x.cells.length e1] ∧ Row wr w2.heap.size 29 [.slice B2 y.cells.length e2] ∧ w2.heap.size + 1 ≤ wr.heap.size ∧ Below w.heap.size w wr) (fun iv _ => y.cells.length - (intOf iv).toNat)
      case atStart =>
        refine ⟨0, by omega, rfl, hox, ?_, hq1, hq2, hsz, hb⟩
        rw [unverTo_zero]
        exact hoy
      case round =>
        obtain ⟨k, hk, rfl, hox, hoy, hq1, hq2, hsz, hb⟩ := hrel
        have j1 := hq1.cell
        have j2 := hq2.cell
        by_cases hlt : k < y.cells.length
        · obtain ⟨g, rfl, hga, hgb⟩ := hoy.addr (by rw [unverTo_len]; omega)
          obtain ⟨hgc, hgd⟩ := hA2 g rfl
          obtain ⟨⟨ou, q0⟩, qf, hset⟩ := hoy.strike hlt
          have hfar : OwnC (wr.setCell ⟨g, k * 6 + 1, none⟩ (.int .i64 0)) (w.heap.size + 2) (x.cells.map GCell.unver) (.slice B1 x.cells.length e1) := ownsRow_far hox (fun e => by
            cases B1 with
            | none => simp [Value.ownBlock] at e
            | some a =>
              have h1 := World.ownsRow.lt hox a.block rfl
              have h2 : a.spot = none ∧ a.off = 0 := by
                rcases hox.2 with ⟨h, _⟩ | ⟨g', cap, cur, h, _⟩
                · cases h
                · injection h with h' _ _
                  injection h' with h''
                  rw [h'']
                  exact ⟨rfl, rfl⟩
              obtain ⟨ab, ao, asp⟩ := a
              obtain ⟨rfl, rfl⟩ := h2
              have h3 := hA1' ab rfl
              simp [Value.ownBlock] at e
              omega) _
          clear hoy hA1' hA2 hox
          go_wp2_with fail
          go_roundw
          case rel => exact ⟨k + 1, by omega, by go_num, hfar, hset, hq1.far (by simp; omega) _, hq2.far (by simp; omega) _, by simpa [World.setCell] using hsz, hb.setCell (by simp; omega) _⟩
          case measure => (simp [intOf] <;> omega)
        · have hkk := Lib.hid (show k = y.cells.length by omega)
          clear hA1' hA2
          go_wp2_with fail
          have hk2 := hkk.out
          subst hk2
          rw [unverTo_all] at hoy
          have so1 : Sl wr ((x.cells.map GCell.unver).map GCell.toD) _ (.slice B1 x.cells.length e1) := OwnC.sl hox
          have so2 : Sl wr ((y.cells.map GCell.unver).map GCell.toD) _ (.slice B2 y.cells.length e2) := OwnC.sl hoy
          have hE : ∀ wx : World, Below wr.heap.size wr wx → Calls Try.prog 29 #[.agg #[.slice B1 x.cells.length e1], .agg #[.slice B2 y.cells.length e2]] wx (RetB (.bool (decide (x.cells.map GCell.unver = y.cells.map GCell.unver))) wx) := fun wx h => equalNotebook_spec _ _ _ _ _ _ wx (so1.below h) (so2.below h) (by rw [unver_length]; exact hn)
          generalize decide (x.cells.map GCell.unver = y.cells.map GCell.unver) = bb at *
          clear hkk so1 so2 hox hoy
          go_wp2_with fail
          refine (hE _ (Below.refl _ _)).mono ?_
          rintro e w3 ⟨rfl, hb3⟩
          go_wp2_with fail
          go_ret
          exact ⟨rfl, hb.trans (hb3.mono (by have := hb.size; omega))⟩
end Go.Proofs.Ytpalobmopfpokaa
