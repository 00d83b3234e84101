/-
  Notebooks: copies, contents without versions, equality: both packages.
-/
import Derived.Test.YtdjcflnemnknaaaDoorTypes
import Derived.Test.YtdjcflnemnknaaaDoorProg
import Derived.Test.YtdjcflnemnknaaaDoorNames
import Derived.Test.YtdjcflnemnknaaaDoorApp
import Derived.KernelRfl
namespace Go.Proofs.YtdjcflnemnknaaaDoor
open Go.RowKit
set_option linter.unusedSimpArgs false
set_option linter.unusedVariables false

def GCell.cs (x : GCell) : List Value := [.int .i64 x.id, .int .i64 x.ver, .int .i64 x.kind, .string x.name, .string x.code, .int .i64 x.n]
theorem GCell.cs_len (x : GCell) : x.cs.length = 6 := rfl
def cellsOf (l : List GCell) : List Value := l.flatMap GCell.cs
theorem cellsOf_len (l : List GCell) : (cellsOf l).length = l.length * 6 := by
  induction l with
  | nil => rfl
  | cons x l ih =>
    have e : cellsOf (x :: l) = x.cs ++ cellsOf l := rfl
    rw [e, List.length_append, ih, GCell.cs_len, List.length_cons]
    omega
theorem Rs_cells {w : World} : ∀ {l : List GCell} {fp : List Nat} {cs : List Value}, Rs w (l.map GCell.toD) fp cs ↔ fp = [] ∧ cs = cellsOf l
  | [], fp, cs => by rw [List.map_nil, Rs]; rfl
  | x :: l, fp, cs => by
    rw [List.map_cons, Rs]
    constructor
    · rintro ⟨f1, f2, c1, c2, rfl, rfl, h1, h2⟩
      obtain ⟨rfl, rfl⟩ := GCell.opened.1 h1
      obtain ⟨rfl, rfl⟩ := Rs_cells.1 h2
      exact ⟨rfl, rfl⟩
    · rintro ⟨rfl, rfl⟩
      exact ⟨[], [], x.cs, cellsOf l, rfl, rfl, GCell.opened.2 ⟨rfl, rfl⟩, Rs_cells.2 ⟨rfl, rfl⟩⟩
theorem cellsOf_set : ∀ (l : List GCell) (k j : Nat) (u : Value) (x : GCell), (h : k < l.length) → j < 6 → (l[k]).cs.set j u = x.cs → (cellsOf l).set (k * 6 + j) u = cellsOf (l.set k x)
  | [], k, _, _, _, h, _, _ => by simp at h
  | y :: l, 0, j, u, x, h, hj, e => by
    have e1 : cellsOf (y :: l) = y.cs ++ cellsOf l := rfl
    have e2 : cellsOf ((y :: l).set 0 x) = x.cs ++ cellsOf l := rfl
    rw [e1, e2, Nat.zero_mul, Nat.zero_add, List.set_append_left _ _ (by rw [GCell.cs_len]; exact hj)]
    rw [show y.cs.set j u = x.cs from e]
  | y :: l, k + 1, j, u, x, h, hj, e => by
    have e1 : cellsOf (y :: l) = y.cs ++ cellsOf l := rfl
    have e2 : cellsOf ((y :: l).set (k + 1) x) = y.cs ++ cellsOf (l.set k x) := rfl
    rw [e1, e2, List.set_append_right _ _ (by rw [GCell.cs_len]; omega), GCell.cs_len, show (k + 1) * 6 + j - 6 = k * 6 + j by omega, cellsOf_set l k j u x (by simpa using h) hj e]

deriving instance DecidableEq for GCell
theorem bytes_inj {a b : ByteArray} : a.toList = b.toList ↔ a = b := by
  rw [ByteArray.toList_eq, ByteArray.toList_eq]
  constructor
  · intro h
    have : a.data = b.data := Array.toList_inj.1 h
    cases a; cases b; simp_all
  · rintro rfl; rfl
set_option maxHeartbeats 1000000 in
theorem neqCell (x y : GCell) (w : World) : (binOp .neq 26 (.agg #[.int .i64 x.id, .int .i64 x.ver, .int .i64 x.kind, .string x.name, .string x.code, .int .i64 x.n]) (.agg #[.int .i64 y.id, .int .i64 y.ver, .int .i64 y.kind, .string y.name, .string y.code, .int .i64 y.n])).run Tryd.prog w = .ok (.bool (!decide (x = y))) w := by
  go_simp
  simp only [bytes_inj]
  cases x; cases y
  simp
  repeat' split
  all_goals simp_all
theorem info_cell : (Tryd.prog.info? 26).map (fun i => (i.zero, i.size, i.bytes)) = some (some (.agg #[.int .i64 0, .int .i64 0, .int .i64 0, .string ⟨#[]⟩, .string ⟨#[]⟩, .int .i64 0]), 6, 64) := by kernel_rfl

/-- A slice of cells that the call owns. -/
def OwnC (w : World) (base : Nat) (l : List GCell) (v : Value) : Prop := w.ownsRow base 26 6 v l.length (cellsOf l)
theorem OwnC.sl {w : World} {base : Nat} {l : List GCell} {v : Value} (h : OwnC w base l v) : Sl w (l.map GCell.toD) v.ownBlock.toList v := by
  have h' : w.ownsRow base 26 6 v (l.map GCell.toD).length (cellsOf l) := by rw [List.length_map]; exact h
  have := Sl.of_own h' (Rs_cells.2 ⟨rfl, rfl⟩)
  rwa [List.append_nil] at this
theorem GCell.one (x : GCell) : x.toD.one := by simp [GCell.toD_eq, D.one, D.ones, li, ls, Value.oneCell']
theorem GCell.ones {l : List GCell} : ∀ d ∈ l.map GCell.toD, d.one := fun d h => by obtain ⟨x, _, rfl⟩ := List.mem_map.1 h; exact x.one

def CopyPost (x : GNb) (w : World) (e : Ending) (w' : World) : Prop := ∃ v, e = .returned (.agg #[v]) ∧ OwnC w' w.heap.size x.cells v ∧ Below w.heap.size w w'
theorem wpList_append_cells {w : World} {ops : Array Oper} {rest : List Oper} {o : Oper} {a : Act} {Q : Exit → Act → World → Prop} (hgd : o.guard = none) (s x : Operand)
    (ho : o.op = .call { callee := .builtin .append, args := #[s, x], argTypes := #[34, 34] })
    (base : Nat) (v : Value) (l0 : List GCell) (hs : a.eval s = v) (hown : OwnC w base l0 v) (l : List GCell) (fp : List Nat) (vx : Value) (hx : a.eval x = vx) (hsl : Sl w (l.map GCell.toD) fp vx)
    (hn : l0.length + l.length ≤ 2097152) (hbase : base ≤ w.heap.size)
    (h : ∀ v' w', OwnC w' base (l0 ++ l) v' → w.grownBy w' v.ownBlock → (v'.ownBlock = v.ownBlock ∨ v'.ownBlock = some w.heap.size) → wpList Tryd.prog ops Q rest (a.put o.dst v') w') : wpList Tryd.prog ops Q (o :: rest) a w := by
  obtain ⟨i0, hi0, hz0, hz1, hz2⟩ := info_parts info_cell
  refine wpList_append_sl hgd s x _ ho base 26 i0 _ 6 64 Tryd.underlying34 hi0 hz0 hz1 hz2 rfl (by omega) v l0.length (cellsOf l0) hs hown (l.map GCell.toD) fp vx hx hsl GCell.ones GCell.szs (by rw [List.length_map]; unfold maxLen; omega) (by rw [List.length_map]; omega) hbase ?_
  intro v' w' fp' cs hr _ hown' hg hat
  refine h v' w' ?_ hg hat
  obtain ⟨rfl, rfl⟩ := Rs_cells.1 hr
  unfold OwnC
  rw [List.length_append, List.length_map] at *
  have e : cellsOf (l0 ++ l) = cellsOf l0 ++ cellsOf l := by unfold cellsOf; rw [List.flatMap_append]
  rw [e]
  exact hown'
theorem OwnC.lit {w : World} {base g : Nat} (hg : w.heap.size = g) (hb : base ≤ g) : OwnC (w.alloc (.cells #[] 26)) base [] (.slice (some ⟨g, 0, none⟩) 0 0) := by
  subst hg
  exact World.ownsRow_lit w #[] 0 hb (by simp) rfl

def GCell.unver (c : GCell) : GCell := { c with ver := 0 }
/-- The first k cells without their versions. -/
def unverTo (l : List GCell) (k : Nat) : List GCell := (l.take k).map GCell.unver ++ l.drop k
theorem unverTo_zero (l : List GCell) : unverTo l 0 = l := by simp [unverTo]
theorem unverTo_all (l : List GCell) : unverTo l l.length = l.map GCell.unver := by simp [unverTo]
theorem unverTo_len (l : List GCell) (k : Nat) : (unverTo l k).length = l.length := by simp [unverTo]; omega
theorem unverTo_get (l : List GCell) (k : Nat) (h : k < l.length) : (unverTo l k)[k]'(by rw [unverTo_len]; exact h) = l[k] := by
  have h1 : ((l.take k).map GCell.unver).length = k := by simp; omega
  simp only [unverTo]
  rw [List.getElem_append_right (by omega), List.getElem_drop]
  congr 1
  omega
theorem unverTo_set (l : List GCell) (k : Nat) (h : k < l.length) : (unverTo l k).set k (l[k]).unver = unverTo l (k + 1) := by
  have h1 : ((l.take k).map GCell.unver).length = k := by simp; omega
  unfold unverTo
  rw [List.set_append_right _ _ (by omega), h1, Nat.sub_self, List.drop_eq_getElem_cons h, List.set_cons_zero, List.take_succ_eq_append_getElem h, List.map_append]
  simp
theorem unver_cells (l : List GCell) (k : Nat) (h : k < l.length) : (cellsOf (unverTo l k)).set (k * 6 + 1) (.int .i64 0) = cellsOf (unverTo l (k + 1)) := by
  rw [cellsOf_set (unverTo l k) k 1 (.int .i64 0) (l[k]).unver (by rw [unverTo_len]; exact h) (by omega) (by rw [unverTo_get l k h]; rfl), unverTo_set l k h]

theorem neq_take {l l' : List GCell} {k : Nat} (h1 : k < l.length) (h2 : k < l'.length) (h : l[k] ≠ l'[k]) : l ≠ l' := fun e => by
  subst e
  exact h rfl
theorem take_step {l l' : List GCell} {k : Nat} (h1 : k < l.length) (h2 : k < l'.length) (ht : l.take k = l'.take k) (h : l[k] = l'[k]) : l.take (k + 1) = l'.take (k + 1) := by
  rw [List.take_succ_eq_append_getElem h1, List.take_succ_eq_append_getElem h2, ht, h]

theorem unver_length (l : List GCell) : (l.map GCell.unver).length = l.length := List.length_map ..
/-- The address of an owned slice of cells that is not empty, and its block. -/
theorem OwnC.addr {w : World} {base : Nat} {l : List GCell} {A : Option Addr} {n c : Nat} (h : OwnC w base l (.slice A n c)) (hn : 0 < l.length) : ∃ g, A = some ⟨g, 0, none⟩ ∧ base ≤ g ∧ g < w.heap.size := by
  rcases h.2 with ⟨_, h'⟩ | ⟨g, cap, cur, h', hb, hh, _⟩
  · omega
  · injection h' with h1 _ _
    refine ⟨g, h1, hb, ?_⟩
    rcases Nat.lt_or_ge g w.heap.size with hlt | hge
    · exact hlt
    · rw [Array.getElem?_eq_none hge] at hh; cases hh
theorem OwnC.lt_ {w : World} {base : Nat} {l : List GCell} {A : Option Addr} {n c : Nat} (h : OwnC w base l (.slice A n c)) : ∀ g, A = some ⟨g, 0, none⟩ → base ≤ g ∧ g < w.heap.size := fun g e => World.ownsRow.lt h g (by rw [e]; rfl)
/-- One version struck: the cell, its mark, and what the store leaves. -/
theorem OwnC.strike {w : World} {base g c k : Nat} {l : List GCell} (h : OwnC w base (unverTo l k) (.slice (some ⟨g, 0, none⟩) l.length c)) (hk : k < l.length) :
    (∃ u, w.cell? ⟨g, k * 6 + 1, none⟩ = some u) ∧ w.frozen? ⟨g, k * 6 + 1, none⟩ = false ∧ OwnC (w.setCell ⟨g, k * 6 + 1, none⟩ (.int .i64 0)) base (unverTo l (k + 1)) (.slice (some ⟨g, 0, none⟩) l.length c) := by
  unfold OwnC at *
  rw [unverTo_len] at *
  have hset := h.stored (k * 6 + 1) (.int .i64 0)
  rw [unver_cells _ _ hk] at hset
  refine ⟨⟨_, (h.cellAt (k * 6 + 1) (by omega)).trans (List.getElem?_eq_getElem (by rw [cellsOf_len, unverTo_len]; omega))⟩, h.frozenAt _, hset.1⟩

end Go.Proofs.YtdjcflnemnknaaaDoor
