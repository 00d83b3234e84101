/-
  The program's struct types as Lean types; their trees of data; the cells that hold them.
-/
import Derived.Test.YtdjcflnemnknaaaDoorLib
namespace Go.Proofs.YtdjcflnemnknaaaDoor
open Go.RowKit
set_option linter.unusedSimpArgs false

def li (n : Int) : D := .leaf (.int .i64 n)
def ls (s : ByteArray) : D := .leaf (.string s)
theorem li_sz (n : Int) : (li n).sz = 1 := rfl
theorem ls_sz (s : ByteArray) : (ls s).sz = 1 := rfl
theorem li_szs {l : List Int} : ∀ d ∈ l.map li, d.sz = 1 := fun d h => by obtain ⟨_, _, rfl⟩ := List.mem_map.1 h; rfl
theorem ls_szs {l : List ByteArray} : ∀ d ∈ l.map ls, d.sz = 1 := fun d h => by obtain ⟨_, _, rfl⟩ := List.mem_map.1 h; rfl

/-! The parts of a struct, cell by cell. -/
section
variable {w : World} {fp : List Nat} {cs : List Value} {l l' : List D}
theorem R_agg : R w (.agg l) fp cs = Rs w l fp cs := by rw [R]
theorem R_leaf {v : Value} : R w (.leaf v) fp cs = (fp = [] ∧ cs = [v]) := by rw [R]
theorem Rs_nil : Rs w [] fp cs = (fp = [] ∧ cs = []) := by rw [Rs]
theorem Rs_leaf {v : Value} : Rs w (.leaf v :: l) fp cs ↔ ∃ c, cs = v :: c ∧ Rs w l fp c := by
  rw [Rs]
  constructor
  · rintro ⟨f1, f2, c1, c2, rfl, rfl, ⟨rfl, rfl⟩, h⟩
    exact ⟨c2, rfl, h⟩
  · rintro ⟨c, rfl, h⟩
    exact ⟨[], fp, [v], c, rfl, rfl, ⟨rfl, rfl⟩, h⟩
theorem Rs_sl : Rs w (.sl l' :: l) fp cs ↔ ∃ v c f1 f2, fp = f1 ++ f2 ∧ cs = v :: c ∧ Sl w l' f1 v ∧ Rs w l f2 c := by
  rw [Rs]
  constructor
  · rintro ⟨f1, f2, c1, c2, rfl, rfl, h1, h2⟩
    have h := h1
    rw [R] at h
    obtain ⟨A, cap, rfl, _⟩ := h
    exact ⟨_, c2, f1, f2, rfl, rfl, h1, h2⟩
  · rintro ⟨v, c, f1, f2, rfl, rfl, h1, h2⟩
    exact ⟨f1, f2, [v], c, rfl, rfl, h1, h2⟩
theorem Rs_agg : Rs w (.agg l' :: l) fp cs ↔ Rs w (l' ++ l) fp cs := by
  constructor
  · intro h
    rw [Rs] at h
    obtain ⟨f1, f2, c1, c2, rfl, rfl, h1, h2⟩ := h
    rw [R_agg] at h1
    exact Rs.append h2 h1
  · intro h
    obtain ⟨f1, f2, c1, c2, rfl, rfl, h1, h2⟩ := Rs.split h
    rw [Rs]
    exact ⟨f1, f2, c1, c2, rfl, rfl, by rw [R_agg]; exact h1, h2⟩
end

structure GOrigin where
  cell : Int
  row : Int
def GOrigin.toD (x : GOrigin) : D := .agg [li x.cell, li x.row]
theorem GOrigin.toD_eq (x : GOrigin) : x.toD = .agg [li x.cell, li x.row] := rfl
theorem GOrigin.sz_eq (x : GOrigin) : x.toD.sz = 2 := by simp [GOrigin.toD_eq, D.sz, D.szs, li, ls]
theorem GOrigin.szs {l : List GOrigin} : ∀ d ∈ l.map GOrigin.toD, d.sz = 2 := fun d h => by obtain ⟨x, _, rfl⟩ := List.mem_map.1 h; exact x.sz_eq
theorem GOrigin.opened {w : World} {fp : List Nat} {cs : List Value} {x : GOrigin} : R w x.toD fp cs ↔ fp = [] ∧ cs = [.int .i64 x.cell, .int .i64 x.row] := by
  rw [GOrigin.toD_eq, R_agg]
  simp only [Rs_agg, List.cons_append, List.nil_append, li, ls, Rs_leaf, Rs_sl, Rs_nil]
  constructor
  · rintro ⟨_, rfl, ⟨_, rfl, ⟨rfl, rfl⟩⟩⟩
    exact ⟨rfl, rfl⟩
  · rintro ⟨rfl, rfl⟩
    exact ⟨_, rfl, ⟨_, rfl, ⟨rfl, rfl⟩⟩⟩

structure GRow where
  cells : List Int
  src : List GOrigin
def GRow.toD (x : GRow) : D := .agg [.sl (x.cells.map li), .sl (x.src.map GOrigin.toD)]
theorem GRow.toD_eq (x : GRow) : x.toD = .agg [.sl (x.cells.map li), .sl (x.src.map GOrigin.toD)] := rfl
theorem GRow.sz_eq (x : GRow) : x.toD.sz = 2 := by simp [GRow.toD_eq, D.sz, D.szs, li, ls]
theorem GRow.szs {l : List GRow} : ∀ d ∈ l.map GRow.toD, d.sz = 2 := fun d h => by obtain ⟨x, _, rfl⟩ := List.mem_map.1 h; exact x.sz_eq
theorem GRow.opened {w : World} {fp : List Nat} {cs : List Value} {x : GRow} : R w x.toD fp cs ↔ ∃ v0 v1 f0 f1, fp = f0 ++ f1 ∧ cs = [v0, v1] ∧ Sl w (x.cells.map li) f0 v0 ∧ Sl w (x.src.map GOrigin.toD) f1 v1 := by
  rw [GRow.toD_eq, R_agg]
  simp only [Rs_agg, List.cons_append, List.nil_append, li, ls, Rs_leaf, Rs_sl, Rs_nil]
  constructor
  · rintro ⟨_, _, _, _, rfl, rfl, h0, ⟨_, _, _, _, rfl, rfl, h1, ⟨rfl, rfl⟩⟩⟩
    exact ⟨_, _, _, _, by simp, rfl, h0, h1⟩
  · rintro ⟨v0, v1, f0, f1, rfl, rfl, h0, h1⟩
    exact ⟨_, _, _, _, rfl, rfl, h0, ⟨_, _, _, _, (List.append_nil _).symm, rfl, h1, ⟨rfl, rfl⟩⟩⟩

inductive GVal where
  | mk (kind : Int) (n : Int) (step : Int) (text : ByteArray) (list : List GVal) (cols : List ByteArray) (rows : List GRow)
def GVal.kind : GVal → Int | .mk kind _ _ _ _ _ _ => kind
def GVal.n : GVal → Int | .mk _ n _ _ _ _ _ => n
def GVal.step : GVal → Int | .mk _ _ step _ _ _ _ => step
def GVal.text : GVal → ByteArray | .mk _ _ _ text _ _ _ => text
def GVal.list : GVal → List GVal | .mk _ _ _ _ list _ _ => list
def GVal.cols : GVal → List ByteArray | .mk _ _ _ _ _ cols _ => cols
def GVal.rows : GVal → List GRow | .mk _ _ _ _ _ _ rows => rows
mutual
def GVal.toD : GVal → D
  | .mk kind n step text list cols rows => .agg [li kind, li n, li step, ls text, .sl (GVal.toDs list), .sl (cols.map ls), .sl (rows.map GRow.toD)]
def GVal.toDs : List GVal → List D
  | [] => []
  | x :: l => x.toD :: GVal.toDs l
end
theorem GVal.toDs_eq (l : List GVal) : GVal.toDs l = l.map GVal.toD := by
  induction l with
  | nil => rfl
  | cons x l ih => rw [GVal.toDs, ih]; rfl
theorem GVal.lt_of_mem {x y : GVal} (h : y ∈ x.list) : SizeOf.sizeOf y < SizeOf.sizeOf x := by
  cases x with
  | mk kind n step text list cols rows =>
    have := List.sizeOf_lt_of_mem h
    simp only [GVal.list] at this
    simp only [GVal.mk.sizeOf_spec]
    omega
theorem GVal.toD_eq (x : GVal) : x.toD = .agg [li x.kind, li x.n, li x.step, ls x.text, .sl (x.list.map GVal.toD), .sl (x.cols.map ls), .sl (x.rows.map GRow.toD)] := by
  cases x with
  | mk kind n step text list cols rows => rw [GVal.toD, GVal.toDs_eq]; rfl
theorem GVal.sz_eq (x : GVal) : x.toD.sz = 7 := by simp [GVal.toD_eq, D.sz, D.szs, li, ls]
theorem GVal.szs {l : List GVal} : ∀ d ∈ l.map GVal.toD, d.sz = 7 := fun d h => by obtain ⟨x, _, rfl⟩ := List.mem_map.1 h; exact x.sz_eq
theorem GVal.opened {w : World} {fp : List Nat} {cs : List Value} {x : GVal} : R w x.toD fp cs ↔ ∃ v0 v1 v2 f0 f1 f2, fp = f0 ++ (f1 ++ f2) ∧ cs = [.int .i64 x.kind, .int .i64 x.n, .int .i64 x.step, .string x.text, v0, v1, v2] ∧ Sl w (x.list.map GVal.toD) f0 v0 ∧ Sl w (x.cols.map ls) f1 v1 ∧ Sl w (x.rows.map GRow.toD) f2 v2 := by
  rw [GVal.toD_eq, R_agg]
  simp only [Rs_agg, List.cons_append, List.nil_append, li, ls, Rs_leaf, Rs_sl, Rs_nil]
  constructor
  · rintro ⟨_, rfl, ⟨_, rfl, ⟨_, rfl, ⟨_, rfl, ⟨_, _, _, _, rfl, rfl, h0, ⟨_, _, _, _, rfl, rfl, h1, ⟨_, _, _, _, rfl, rfl, h2, ⟨rfl, rfl⟩⟩⟩⟩⟩⟩⟩⟩
    exact ⟨_, _, _, _, _, _, by simp, rfl, h0, h1, h2⟩
  · rintro ⟨v0, v1, v2, f0, f1, f2, rfl, rfl, h0, h1, h2⟩
    exact ⟨_, rfl, ⟨_, rfl, ⟨_, rfl, ⟨_, rfl, ⟨_, _, _, _, rfl, rfl, h0, ⟨_, _, _, _, rfl, rfl, h1, ⟨_, _, _, _, (List.append_nil _).symm, rfl, h2, ⟨rfl, rfl⟩⟩⟩⟩⟩⟩⟩⟩

structure GTok where
  kind : Int
  n : Int
  pos : Int
  text : ByteArray
def GTok.toD (x : GTok) : D := .agg [li x.kind, li x.n, li x.pos, ls x.text]
theorem GTok.toD_eq (x : GTok) : x.toD = .agg [li x.kind, li x.n, li x.pos, ls x.text] := rfl
theorem GTok.sz_eq (x : GTok) : x.toD.sz = 4 := by simp [GTok.toD_eq, D.sz, D.szs, li, ls]
theorem GTok.szs {l : List GTok} : ∀ d ∈ l.map GTok.toD, d.sz = 4 := fun d h => by obtain ⟨x, _, rfl⟩ := List.mem_map.1 h; exact x.sz_eq
theorem GTok.opened {w : World} {fp : List Nat} {cs : List Value} {x : GTok} : R w x.toD fp cs ↔ fp = [] ∧ cs = [.int .i64 x.kind, .int .i64 x.n, .int .i64 x.pos, .string x.text] := by
  rw [GTok.toD_eq, R_agg]
  simp only [Rs_agg, List.cons_append, List.nil_append, li, ls, Rs_leaf, Rs_sl, Rs_nil]
  constructor
  · rintro ⟨_, rfl, ⟨_, rfl, ⟨_, rfl, ⟨_, rfl, ⟨rfl, rfl⟩⟩⟩⟩⟩
    exact ⟨rfl, rfl⟩
  · rintro ⟨rfl, rfl⟩
    exact ⟨_, rfl, ⟨_, rfl, ⟨_, rfl, ⟨_, rfl, ⟨rfl, rfl⟩⟩⟩⟩⟩

inductive GExpr where
  | mk (kind : Int) (n : Int) (text : ByteArray) (args : List GExpr)
def GExpr.kind : GExpr → Int | .mk kind _ _ _ => kind
def GExpr.n : GExpr → Int | .mk _ n _ _ => n
def GExpr.text : GExpr → ByteArray | .mk _ _ text _ => text
def GExpr.args : GExpr → List GExpr | .mk _ _ _ args => args
mutual
def GExpr.toD : GExpr → D
  | .mk kind n text args => .agg [li kind, li n, ls text, .sl (GExpr.toDs args)]
def GExpr.toDs : List GExpr → List D
  | [] => []
  | x :: l => x.toD :: GExpr.toDs l
end
theorem GExpr.toDs_eq (l : List GExpr) : GExpr.toDs l = l.map GExpr.toD := by
  induction l with
  | nil => rfl
  | cons x l ih => rw [GExpr.toDs, ih]; rfl
theorem GExpr.lt_of_mem {x y : GExpr} (h : y ∈ x.args) : SizeOf.sizeOf y < SizeOf.sizeOf x := by
  cases x with
  | mk kind n text args =>
    have := List.sizeOf_lt_of_mem h
    simp only [GExpr.args] at this
    simp only [GExpr.mk.sizeOf_spec]
    omega
theorem GExpr.toD_eq (x : GExpr) : x.toD = .agg [li x.kind, li x.n, ls x.text, .sl (x.args.map GExpr.toD)] := by
  cases x with
  | mk kind n text args => rw [GExpr.toD, GExpr.toDs_eq]; rfl
theorem GExpr.sz_eq (x : GExpr) : x.toD.sz = 4 := by simp [GExpr.toD_eq, D.sz, D.szs, li, ls]
theorem GExpr.szs {l : List GExpr} : ∀ d ∈ l.map GExpr.toD, d.sz = 4 := fun d h => by obtain ⟨x, _, rfl⟩ := List.mem_map.1 h; exact x.sz_eq
theorem GExpr.opened {w : World} {fp : List Nat} {cs : List Value} {x : GExpr} : R w x.toD fp cs ↔ ∃ v0 f0, fp = f0 ∧ cs = [.int .i64 x.kind, .int .i64 x.n, .string x.text, v0] ∧ Sl w (x.args.map GExpr.toD) f0 v0 := by
  rw [GExpr.toD_eq, R_agg]
  simp only [Rs_agg, List.cons_append, List.nil_append, li, ls, Rs_leaf, Rs_sl, Rs_nil]
  constructor
  · rintro ⟨_, rfl, ⟨_, rfl, ⟨_, rfl, ⟨_, _, _, _, rfl, rfl, h0, ⟨rfl, rfl⟩⟩⟩⟩⟩
    exact ⟨_, _, by simp, rfl, h0⟩
  · rintro ⟨v0, f0, rfl, rfl, h0⟩
    exact ⟨_, rfl, ⟨_, rfl, ⟨_, rfl, ⟨_, _, _, _, (List.append_nil _).symm, rfl, h0, ⟨rfl, rfl⟩⟩⟩⟩⟩

structure GCell where
  id : Int
  ver : Int
  kind : Int
  name : ByteArray
  code : ByteArray
  n : Int
def GCell.toD (x : GCell) : D := .agg [li x.id, li x.ver, li x.kind, ls x.name, ls x.code, li x.n]
theorem GCell.toD_eq (x : GCell) : x.toD = .agg [li x.id, li x.ver, li x.kind, ls x.name, ls x.code, li x.n] := rfl
theorem GCell.sz_eq (x : GCell) : x.toD.sz = 6 := by simp [GCell.toD_eq, D.sz, D.szs, li, ls]
theorem GCell.szs {l : List GCell} : ∀ d ∈ l.map GCell.toD, d.sz = 6 := fun d h => by obtain ⟨x, _, rfl⟩ := List.mem_map.1 h; exact x.sz_eq
theorem GCell.opened {w : World} {fp : List Nat} {cs : List Value} {x : GCell} : R w x.toD fp cs ↔ fp = [] ∧ cs = [.int .i64 x.id, .int .i64 x.ver, .int .i64 x.kind, .string x.name, .string x.code, .int .i64 x.n] := by
  rw [GCell.toD_eq, R_agg]
  simp only [Rs_agg, List.cons_append, List.nil_append, li, ls, Rs_leaf, Rs_sl, Rs_nil]
  constructor
  · rintro ⟨_, rfl, ⟨_, rfl, ⟨_, rfl, ⟨_, rfl, ⟨_, rfl, ⟨_, rfl, ⟨rfl, rfl⟩⟩⟩⟩⟩⟩⟩
    exact ⟨rfl, rfl⟩
  · rintro ⟨rfl, rfl⟩
    exact ⟨_, rfl, ⟨_, rfl, ⟨_, rfl, ⟨_, rfl, ⟨_, rfl, ⟨_, rfl, ⟨rfl, rfl⟩⟩⟩⟩⟩⟩⟩

structure GNb where
  cells : List GCell
def GNb.toD (x : GNb) : D := .agg [.sl (x.cells.map GCell.toD)]
theorem GNb.toD_eq (x : GNb) : x.toD = .agg [.sl (x.cells.map GCell.toD)] := rfl
theorem GNb.sz_eq (x : GNb) : x.toD.sz = 1 := by simp [GNb.toD_eq, D.sz, D.szs, li, ls]
theorem GNb.szs {l : List GNb} : ∀ d ∈ l.map GNb.toD, d.sz = 1 := fun d h => by obtain ⟨x, _, rfl⟩ := List.mem_map.1 h; exact x.sz_eq
theorem GNb.opened {w : World} {fp : List Nat} {cs : List Value} {x : GNb} : R w x.toD fp cs ↔ ∃ v0 f0, fp = f0 ∧ cs = [v0] ∧ Sl w (x.cells.map GCell.toD) f0 v0 := by
  rw [GNb.toD_eq, R_agg]
  simp only [Rs_agg, List.cons_append, List.nil_append, li, ls, Rs_leaf, Rs_sl, Rs_nil]
  constructor
  · rintro ⟨_, _, _, _, rfl, rfl, h0, ⟨rfl, rfl⟩⟩
    exact ⟨_, _, by simp, rfl, h0⟩
  · rintro ⟨v0, f0, rfl, rfl, h0⟩
    exact ⟨_, _, _, _, (List.append_nil _).symm, rfl, h0, ⟨rfl, rfl⟩⟩

structure GPart where
  kind : Int
  name : ByteArray
  expr : GExpr
  value : GVal
  pos : Int
def GPart.toD (x : GPart) : D := .agg [li x.kind, ls x.name, GExpr.toD x.expr, GVal.toD x.value, li x.pos]
theorem GPart.toD_eq (x : GPart) : x.toD = .agg [li x.kind, ls x.name, GExpr.toD x.expr, GVal.toD x.value, li x.pos] := rfl
theorem GPart.sz_eq (x : GPart) : x.toD.sz = 14 := by simp [GPart.toD_eq, GExpr.toD_eq, GVal.toD_eq, D.sz, D.szs, li, ls]
theorem GPart.szs {l : List GPart} : ∀ d ∈ l.map GPart.toD, d.sz = 14 := fun d h => by obtain ⟨x, _, rfl⟩ := List.mem_map.1 h; exact x.sz_eq
theorem GPart.opened {w : World} {fp : List Nat} {cs : List Value} {x : GPart} : R w x.toD fp cs ↔ ∃ v0 v1 v2 v3 f0 f1 f2 f3, fp = f0 ++ (f1 ++ (f2 ++ f3)) ∧ cs = [.int .i64 x.kind, .string x.name, .int .i64 x.expr.kind, .int .i64 x.expr.n, .string x.expr.text, v0, .int .i64 x.value.kind, .int .i64 x.value.n, .int .i64 x.value.step, .string x.value.text, v1, v2, v3, .int .i64 x.pos] ∧ Sl w (x.expr.args.map GExpr.toD) f0 v0 ∧ Sl w (x.value.list.map GVal.toD) f1 v1 ∧ Sl w (x.value.cols.map ls) f2 v2 ∧ Sl w (x.value.rows.map GRow.toD) f3 v3 := by
  rw [GPart.toD_eq, R_agg]
  simp only [GExpr.toD_eq, GVal.toD_eq, Rs_agg, List.cons_append, List.nil_append, li, ls, Rs_leaf, Rs_sl, Rs_nil]
  constructor
  · rintro ⟨_, rfl, ⟨_, rfl, ⟨_, rfl, ⟨_, rfl, ⟨_, rfl, ⟨_, _, _, _, rfl, rfl, h0, ⟨_, rfl, ⟨_, rfl, ⟨_, rfl, ⟨_, rfl, ⟨_, _, _, _, rfl, rfl, h1, ⟨_, _, _, _, rfl, rfl, h2, ⟨_, _, _, _, rfl, rfl, h3, ⟨_, rfl, ⟨rfl, rfl⟩⟩⟩⟩⟩⟩⟩⟩⟩⟩⟩⟩⟩⟩⟩
    exact ⟨_, _, _, _, _, _, _, _, by simp, rfl, h0, h1, h2, h3⟩
  · rintro ⟨v0, v1, v2, v3, f0, f1, f2, f3, rfl, rfl, h0, h1, h2, h3⟩
    exact ⟨_, rfl, ⟨_, rfl, ⟨_, rfl, ⟨_, rfl, ⟨_, rfl, ⟨_, _, _, _, rfl, rfl, h0, ⟨_, rfl, ⟨_, rfl, ⟨_, rfl, ⟨_, rfl, ⟨_, _, _, _, rfl, rfl, h1, ⟨_, _, _, _, rfl, rfl, h2, ⟨_, _, _, _, (List.append_nil _).symm, rfl, h3, ⟨_, rfl, ⟨rfl, rfl⟩⟩⟩⟩⟩⟩⟩⟩⟩⟩⟩⟩⟩⟩⟩

structure GEdit where
  kind : Int
  pos : Int
  cell : GCell
def GEdit.toD (x : GEdit) : D := .agg [li x.kind, li x.pos, GCell.toD x.cell]
theorem GEdit.toD_eq (x : GEdit) : x.toD = .agg [li x.kind, li x.pos, GCell.toD x.cell] := rfl
theorem GEdit.sz_eq (x : GEdit) : x.toD.sz = 8 := by simp [GEdit.toD_eq, GCell.toD_eq, D.sz, D.szs, li, ls]
theorem GEdit.szs {l : List GEdit} : ∀ d ∈ l.map GEdit.toD, d.sz = 8 := fun d h => by obtain ⟨x, _, rfl⟩ := List.mem_map.1 h; exact x.sz_eq
theorem GEdit.opened {w : World} {fp : List Nat} {cs : List Value} {x : GEdit} : R w x.toD fp cs ↔ fp = [] ∧ cs = [.int .i64 x.kind, .int .i64 x.pos, .int .i64 x.cell.id, .int .i64 x.cell.ver, .int .i64 x.cell.kind, .string x.cell.name, .string x.cell.code, .int .i64 x.cell.n] := by
  rw [GEdit.toD_eq, R_agg]
  simp only [GCell.toD_eq, Rs_agg, List.cons_append, List.nil_append, li, ls, Rs_leaf, Rs_sl, Rs_nil]
  constructor
  · rintro ⟨_, rfl, ⟨_, rfl, ⟨_, rfl, ⟨_, rfl, ⟨_, rfl, ⟨_, rfl, ⟨_, rfl, ⟨_, rfl, ⟨rfl, rfl⟩⟩⟩⟩⟩⟩⟩⟩⟩
    exact ⟨rfl, rfl⟩
  · rintro ⟨rfl, rfl⟩
    exact ⟨_, rfl, ⟨_, rfl, ⟨_, rfl, ⟨_, rfl, ⟨_, rfl, ⟨_, rfl, ⟨_, rfl, ⟨_, rfl, ⟨rfl, rfl⟩⟩⟩⟩⟩⟩⟩⟩⟩

structure GRead where
  kind : Int
  n : Int
  time : Int
  text : ByteArray
  result : GVal
def GRead.toD (x : GRead) : D := .agg [li x.kind, li x.n, li x.time, ls x.text, GVal.toD x.result]
theorem GRead.toD_eq (x : GRead) : x.toD = .agg [li x.kind, li x.n, li x.time, ls x.text, GVal.toD x.result] := rfl
theorem GRead.sz_eq (x : GRead) : x.toD.sz = 11 := by simp [GRead.toD_eq, GVal.toD_eq, D.sz, D.szs, li, ls]
theorem GRead.szs {l : List GRead} : ∀ d ∈ l.map GRead.toD, d.sz = 11 := fun d h => by obtain ⟨x, _, rfl⟩ := List.mem_map.1 h; exact x.sz_eq
theorem GRead.opened {w : World} {fp : List Nat} {cs : List Value} {x : GRead} : R w x.toD fp cs ↔ ∃ v0 v1 v2 f0 f1 f2, fp = f0 ++ (f1 ++ f2) ∧ cs = [.int .i64 x.kind, .int .i64 x.n, .int .i64 x.time, .string x.text, .int .i64 x.result.kind, .int .i64 x.result.n, .int .i64 x.result.step, .string x.result.text, v0, v1, v2] ∧ Sl w (x.result.list.map GVal.toD) f0 v0 ∧ Sl w (x.result.cols.map ls) f1 v1 ∧ Sl w (x.result.rows.map GRow.toD) f2 v2 := by
  rw [GRead.toD_eq, R_agg]
  simp only [GVal.toD_eq, Rs_agg, List.cons_append, List.nil_append, li, ls, Rs_leaf, Rs_sl, Rs_nil]
  constructor
  · rintro ⟨_, rfl, ⟨_, rfl, ⟨_, rfl, ⟨_, rfl, ⟨_, rfl, ⟨_, rfl, ⟨_, rfl, ⟨_, rfl, ⟨_, _, _, _, rfl, rfl, h0, ⟨_, _, _, _, rfl, rfl, h1, ⟨_, _, _, _, rfl, rfl, h2, ⟨rfl, rfl⟩⟩⟩⟩⟩⟩⟩⟩⟩⟩⟩⟩
    exact ⟨_, _, _, _, _, _, by simp, rfl, h0, h1, h2⟩
  · rintro ⟨v0, v1, v2, f0, f1, f2, rfl, rfl, h0, h1, h2⟩
    exact ⟨_, rfl, ⟨_, rfl, ⟨_, rfl, ⟨_, rfl, ⟨_, rfl, ⟨_, rfl, ⟨_, rfl, ⟨_, rfl, ⟨_, _, _, _, rfl, rfl, h0, ⟨_, _, _, _, rfl, rfl, h1, ⟨_, _, _, _, (List.append_nil _).symm, rfl, h2, ⟨rfl, rfl⟩⟩⟩⟩⟩⟩⟩⟩⟩⟩⟩⟩

structure GTape where
  cell : Int
  ver : Int
  reads : List GRead
def GTape.toD (x : GTape) : D := .agg [li x.cell, li x.ver, .sl (x.reads.map GRead.toD)]
theorem GTape.toD_eq (x : GTape) : x.toD = .agg [li x.cell, li x.ver, .sl (x.reads.map GRead.toD)] := rfl
theorem GTape.sz_eq (x : GTape) : x.toD.sz = 3 := by simp [GTape.toD_eq, D.sz, D.szs, li, ls]
theorem GTape.szs {l : List GTape} : ∀ d ∈ l.map GTape.toD, d.sz = 3 := fun d h => by obtain ⟨x, _, rfl⟩ := List.mem_map.1 h; exact x.sz_eq
theorem GTape.opened {w : World} {fp : List Nat} {cs : List Value} {x : GTape} : R w x.toD fp cs ↔ ∃ v0 f0, fp = f0 ∧ cs = [.int .i64 x.cell, .int .i64 x.ver, v0] ∧ Sl w (x.reads.map GRead.toD) f0 v0 := by
  rw [GTape.toD_eq, R_agg]
  simp only [Rs_agg, List.cons_append, List.nil_append, li, ls, Rs_leaf, Rs_sl, Rs_nil]
  constructor
  · rintro ⟨_, rfl, ⟨_, rfl, ⟨_, _, _, _, rfl, rfl, h0, ⟨rfl, rfl⟩⟩⟩⟩
    exact ⟨_, _, by simp, rfl, h0⟩
  · rintro ⟨v0, f0, rfl, rfl, h0⟩
    exact ⟨_, rfl, ⟨_, rfl, ⟨_, _, _, _, (List.append_nil _).symm, rfl, h0, ⟨rfl, rfl⟩⟩⟩⟩

theorem GOrigin.wt_eq (x : GOrigin) : x.toD.wt = 0 := by
  simp [GOrigin.toD_eq, D.wt, D.wts, li, ls, leafWt] <;> omega
theorem GRow.wt_eq (x : GRow) : x.toD.wt = 0 + ((x.cells.map li).length + D.wts (x.cells.map li)) + ((x.src.map GOrigin.toD).length + D.wts (x.src.map GOrigin.toD)) := by
  simp [GRow.toD_eq, D.wt, D.wts, li, ls, leafWt] <;> omega
theorem GVal.wt_eq (x : GVal) : x.toD.wt = 0 + x.text.size + ((x.list.map GVal.toD).length + D.wts (x.list.map GVal.toD)) + ((x.cols.map ls).length + D.wts (x.cols.map ls)) + ((x.rows.map GRow.toD).length + D.wts (x.rows.map GRow.toD)) := by
  simp [GVal.toD_eq, D.wt, D.wts, li, ls, leafWt] <;> omega
theorem GTok.wt_eq (x : GTok) : x.toD.wt = 0 + x.text.size := by
  simp [GTok.toD_eq, D.wt, D.wts, li, ls, leafWt] <;> omega
theorem GExpr.wt_eq (x : GExpr) : x.toD.wt = 0 + x.text.size + ((x.args.map GExpr.toD).length + D.wts (x.args.map GExpr.toD)) := by
  simp [GExpr.toD_eq, D.wt, D.wts, li, ls, leafWt] <;> omega
theorem GCell.wt_eq (x : GCell) : x.toD.wt = 0 + x.name.size + x.code.size := by
  simp [GCell.toD_eq, D.wt, D.wts, li, ls, leafWt] <;> omega
theorem GNb.wt_eq (x : GNb) : x.toD.wt = 0 + ((x.cells.map GCell.toD).length + D.wts (x.cells.map GCell.toD)) := by
  simp [GNb.toD_eq, D.wt, D.wts, li, ls, leafWt] <;> omega
theorem GPart.wt_eq (x : GPart) : x.toD.wt = 0 + x.name.size + x.expr.toD.wt + x.value.toD.wt := by
  simp [GPart.toD_eq, D.wt, D.wts, li, ls, leafWt] <;> omega
theorem GEdit.wt_eq (x : GEdit) : x.toD.wt = 0 + x.cell.toD.wt := by
  simp [GEdit.toD_eq, D.wt, D.wts, li, ls, leafWt] <;> omega
theorem GRead.wt_eq (x : GRead) : x.toD.wt = 0 + x.text.size + x.result.toD.wt := by
  simp [GRead.toD_eq, D.wt, D.wts, li, ls, leafWt] <;> omega
theorem GTape.wt_eq (x : GTape) : x.toD.wt = 0 + ((x.reads.map GRead.toD).length + D.wts (x.reads.map GRead.toD)) := by
  simp [GTape.toD_eq, D.wt, D.wts, li, ls, leafWt] <;> omega
end Go.Proofs.YtdjcflnemnknaaaDoor
