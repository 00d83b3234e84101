/-
  The struct types' data, cell by cell, for reckoning.
-/
import Derived.Test.YtdjcflnemnknaaaDoorIrF
namespace Go.Proofs.YtdjcflnemnknaaaDoor
open Go.RowKit
set_option linter.unusedSimpArgs false
set_option linter.unusedVariables false
theorem GOrigin.flat_eq (x : GOrigin) : x.toD.flat = [.leaf (.int .i64 x.cell), .leaf (.int .i64 x.row)] := by
  simp [GOrigin.toD_eq, D.flat, D.flats, li, ls]
theorem GOrigin.acs_eq (x : GOrigin) (b : Bool) : x.toD.acs b = [.raw (.int .i64 x.cell), .raw (.int .i64 x.row)] := by
  simp [D.acs, GOrigin.flat_eq, D.ac]
theorem GOrigin.agg_eq (x : GOrigin) : x.toD.isAgg = true := by rw [GOrigin.toD_eq]; rfl
theorem GOrigin.one_eq (x : GOrigin) : x.toD.one := by
  simp [GOrigin.toD_eq, D.one, D.ones, li, ls, Value.oneCell']
theorem GOrigin.el (l : List GOrigin) : El 2 (l.map GOrigin.toD) := fun d h => by obtain ⟨x, _, rfl⟩ := List.mem_map.1 h; exact ⟨x.one_eq, x.sz_eq⟩
theorem GOrigin.flatL (l : List GOrigin) : FlatL (l.map GOrigin.toD) := flatL_map (fun x w f cs h => (GOrigin.opened.1 h).1) l
theorem GRow.flat_eq (x : GRow) : x.toD.flat = [.sl (x.cells.map li), .sl (x.src.map GOrigin.toD)] := by
  simp [GRow.toD_eq, D.flat, D.flats, li, ls]
theorem GRow.acs_eq (x : GRow) (b : Bool) : x.toD.acs b = [.sl b (x.cells.map li), .sl b (x.src.map GOrigin.toD)] := by
  simp [D.acs, GRow.flat_eq, D.ac]
theorem GRow.agg_eq (x : GRow) : x.toD.isAgg = true := by rw [GRow.toD_eq]; rfl
theorem GRow.one_eq (x : GRow) : x.toD.one := by
  simp [GRow.toD_eq, D.one, D.ones, li, ls, Value.oneCell']
theorem GRow.el (l : List GRow) : El 2 (l.map GRow.toD) := fun d h => by obtain ⟨x, _, rfl⟩ := List.mem_map.1 h; exact ⟨x.one_eq, x.sz_eq⟩
theorem GVal.flat_eq (x : GVal) : x.toD.flat = [.leaf (.int .i64 x.kind), .leaf (.int .i64 x.n), .leaf (.int .i64 x.step), .leaf (.string x.text), .sl (x.list.map GVal.toD), .sl (x.cols.map ls), .sl (x.rows.map GRow.toD)] := by
  simp [GVal.toD_eq, D.flat, D.flats, li, ls]
theorem GVal.acs_eq (x : GVal) (b : Bool) : x.toD.acs b = [.raw (.int .i64 x.kind), .raw (.int .i64 x.n), .raw (.int .i64 x.step), .raw (.string x.text), .sl b (x.list.map GVal.toD), .sl b (x.cols.map ls), .sl b (x.rows.map GRow.toD)] := by
  simp [D.acs, GVal.flat_eq, D.ac]
theorem GVal.agg_eq (x : GVal) : x.toD.isAgg = true := by rw [GVal.toD_eq]; rfl
theorem GVal.one_eq (x : GVal) : x.toD.one := by
  simp [GVal.toD_eq, D.one, D.ones, li, ls, Value.oneCell']
theorem GVal.el (l : List GVal) : El 7 (l.map GVal.toD) := fun d h => by obtain ⟨x, _, rfl⟩ := List.mem_map.1 h; exact ⟨x.one_eq, x.sz_eq⟩
theorem GTok.flat_eq (x : GTok) : x.toD.flat = [.leaf (.int .i64 x.kind), .leaf (.int .i64 x.n), .leaf (.int .i64 x.pos), .leaf (.string x.text)] := by
  simp [GTok.toD_eq, D.flat, D.flats, li, ls]
theorem GTok.acs_eq (x : GTok) (b : Bool) : x.toD.acs b = [.raw (.int .i64 x.kind), .raw (.int .i64 x.n), .raw (.int .i64 x.pos), .raw (.string x.text)] := by
  simp [D.acs, GTok.flat_eq, D.ac]
theorem GTok.agg_eq (x : GTok) : x.toD.isAgg = true := by rw [GTok.toD_eq]; rfl
theorem GTok.one_eq (x : GTok) : x.toD.one := by
  simp [GTok.toD_eq, D.one, D.ones, li, ls, Value.oneCell']
theorem GTok.el (l : List GTok) : El 4 (l.map GTok.toD) := fun d h => by obtain ⟨x, _, rfl⟩ := List.mem_map.1 h; exact ⟨x.one_eq, x.sz_eq⟩
theorem GTok.flatL (l : List GTok) : FlatL (l.map GTok.toD) := flatL_map (fun x w f cs h => (GTok.opened.1 h).1) l
theorem GExpr.flat_eq (x : GExpr) : x.toD.flat = [.leaf (.int .i64 x.kind), .leaf (.int .i64 x.n), .leaf (.string x.text), .sl (x.args.map GExpr.toD)] := by
  simp [GExpr.toD_eq, D.flat, D.flats, li, ls]
theorem GExpr.acs_eq (x : GExpr) (b : Bool) : x.toD.acs b = [.raw (.int .i64 x.kind), .raw (.int .i64 x.n), .raw (.string x.text), .sl b (x.args.map GExpr.toD)] := by
  simp [D.acs, GExpr.flat_eq, D.ac]
theorem GExpr.agg_eq (x : GExpr) : x.toD.isAgg = true := by rw [GExpr.toD_eq]; rfl
theorem GExpr.one_eq (x : GExpr) : x.toD.one := by
  simp [GExpr.toD_eq, D.one, D.ones, li, ls, Value.oneCell']
theorem GExpr.el (l : List GExpr) : El 4 (l.map GExpr.toD) := fun d h => by obtain ⟨x, _, rfl⟩ := List.mem_map.1 h; exact ⟨x.one_eq, x.sz_eq⟩
theorem GCell.flat_eq (x : GCell) : x.toD.flat = [.leaf (.int .i64 x.id), .leaf (.int .i64 x.ver), .leaf (.int .i64 x.kind), .leaf (.string x.name), .leaf (.string x.code), .leaf (.int .i64 x.n)] := by
  simp [GCell.toD_eq, D.flat, D.flats, li, ls]
theorem GCell.acs_eq (x : GCell) (b : Bool) : x.toD.acs b = [.raw (.int .i64 x.id), .raw (.int .i64 x.ver), .raw (.int .i64 x.kind), .raw (.string x.name), .raw (.string x.code), .raw (.int .i64 x.n)] := by
  simp [D.acs, GCell.flat_eq, D.ac]
theorem GCell.agg_eq (x : GCell) : x.toD.isAgg = true := by rw [GCell.toD_eq]; rfl
theorem GCell.one_eq (x : GCell) : x.toD.one := by
  simp [GCell.toD_eq, D.one, D.ones, li, ls, Value.oneCell']
theorem GCell.el (l : List GCell) : El 6 (l.map GCell.toD) := fun d h => by obtain ⟨x, _, rfl⟩ := List.mem_map.1 h; exact ⟨x.one_eq, x.sz_eq⟩
theorem GCell.flatL (l : List GCell) : FlatL (l.map GCell.toD) := flatL_map (fun x w f cs h => (GCell.opened.1 h).1) l
theorem GNb.flat_eq (x : GNb) : x.toD.flat = [.sl (x.cells.map GCell.toD)] := by
  simp [GNb.toD_eq, D.flat, D.flats, li, ls]
theorem GNb.acs_eq (x : GNb) (b : Bool) : x.toD.acs b = [.sl b (x.cells.map GCell.toD)] := by
  simp [D.acs, GNb.flat_eq, D.ac]
theorem GNb.agg_eq (x : GNb) : x.toD.isAgg = true := by rw [GNb.toD_eq]; rfl
theorem GNb.one_eq (x : GNb) : x.toD.one := by
  simp [GNb.toD_eq, D.one, D.ones, li, ls, Value.oneCell']
theorem GNb.el (l : List GNb) : El 1 (l.map GNb.toD) := fun d h => by obtain ⟨x, _, rfl⟩ := List.mem_map.1 h; exact ⟨x.one_eq, x.sz_eq⟩
theorem GPart.flat_eq (x : GPart) : x.toD.flat = [.leaf (.int .i64 x.kind), .leaf (.string x.name), .leaf (.int .i64 x.expr.kind), .leaf (.int .i64 x.expr.n), .leaf (.string x.expr.text), .sl (x.expr.args.map GExpr.toD), .leaf (.int .i64 x.value.kind), .leaf (.int .i64 x.value.n), .leaf (.int .i64 x.value.step), .leaf (.string x.value.text), .sl (x.value.list.map GVal.toD), .sl (x.value.cols.map ls), .sl (x.value.rows.map GRow.toD), .leaf (.int .i64 x.pos)] := by
  simp [GPart.toD_eq, GExpr.toD_eq, GVal.toD_eq, D.flat, D.flats, li, ls]
theorem GPart.acs_eq (x : GPart) (b : Bool) : x.toD.acs b = [.raw (.int .i64 x.kind), .raw (.string x.name), .raw (.int .i64 x.expr.kind), .raw (.int .i64 x.expr.n), .raw (.string x.expr.text), .sl b (x.expr.args.map GExpr.toD), .raw (.int .i64 x.value.kind), .raw (.int .i64 x.value.n), .raw (.int .i64 x.value.step), .raw (.string x.value.text), .sl b (x.value.list.map GVal.toD), .sl b (x.value.cols.map ls), .sl b (x.value.rows.map GRow.toD), .raw (.int .i64 x.pos)] := by
  simp [D.acs, GPart.flat_eq, D.ac]
theorem GPart.agg_eq (x : GPart) : x.toD.isAgg = true := by rw [GPart.toD_eq]; rfl
theorem GPart.one_eq (x : GPart) : x.toD.one := by
  simp [GPart.toD_eq, GExpr.toD_eq, GVal.toD_eq, D.one, D.ones, li, ls, Value.oneCell']
theorem GPart.el (l : List GPart) : El 14 (l.map GPart.toD) := fun d h => by obtain ⟨x, _, rfl⟩ := List.mem_map.1 h; exact ⟨x.one_eq, x.sz_eq⟩
theorem GEdit.flat_eq (x : GEdit) : x.toD.flat = [.leaf (.int .i64 x.kind), .leaf (.int .i64 x.pos), .leaf (.int .i64 x.cell.id), .leaf (.int .i64 x.cell.ver), .leaf (.int .i64 x.cell.kind), .leaf (.string x.cell.name), .leaf (.string x.cell.code), .leaf (.int .i64 x.cell.n)] := by
  simp [GEdit.toD_eq, GCell.toD_eq, D.flat, D.flats, li, ls]
theorem GEdit.acs_eq (x : GEdit) (b : Bool) : x.toD.acs b = [.raw (.int .i64 x.kind), .raw (.int .i64 x.pos), .raw (.int .i64 x.cell.id), .raw (.int .i64 x.cell.ver), .raw (.int .i64 x.cell.kind), .raw (.string x.cell.name), .raw (.string x.cell.code), .raw (.int .i64 x.cell.n)] := by
  simp [D.acs, GEdit.flat_eq, D.ac]
theorem GEdit.agg_eq (x : GEdit) : x.toD.isAgg = true := by rw [GEdit.toD_eq]; rfl
theorem GEdit.one_eq (x : GEdit) : x.toD.one := by
  simp [GEdit.toD_eq, GCell.toD_eq, D.one, D.ones, li, ls, Value.oneCell']
theorem GEdit.el (l : List GEdit) : El 8 (l.map GEdit.toD) := fun d h => by obtain ⟨x, _, rfl⟩ := List.mem_map.1 h; exact ⟨x.one_eq, x.sz_eq⟩
theorem GEdit.flatL (l : List GEdit) : FlatL (l.map GEdit.toD) := flatL_map (fun x w f cs h => (GEdit.opened.1 h).1) l
theorem GRead.flat_eq (x : GRead) : x.toD.flat = [.leaf (.int .i64 x.kind), .leaf (.int .i64 x.n), .leaf (.int .i64 x.time), .leaf (.string x.text), .leaf (.int .i64 x.result.kind), .leaf (.int .i64 x.result.n), .leaf (.int .i64 x.result.step), .leaf (.string x.result.text), .sl (x.result.list.map GVal.toD), .sl (x.result.cols.map ls), .sl (x.result.rows.map GRow.toD)] := by
  simp [GRead.toD_eq, GVal.toD_eq, D.flat, D.flats, li, ls]
theorem GRead.acs_eq (x : GRead) (b : Bool) : x.toD.acs b = [.raw (.int .i64 x.kind), .raw (.int .i64 x.n), .raw (.int .i64 x.time), .raw (.string x.text), .raw (.int .i64 x.result.kind), .raw (.int .i64 x.result.n), .raw (.int .i64 x.result.step), .raw (.string x.result.text), .sl b (x.result.list.map GVal.toD), .sl b (x.result.cols.map ls), .sl b (x.result.rows.map GRow.toD)] := by
  simp [D.acs, GRead.flat_eq, D.ac]
theorem GRead.agg_eq (x : GRead) : x.toD.isAgg = true := by rw [GRead.toD_eq]; rfl
theorem GRead.one_eq (x : GRead) : x.toD.one := by
  simp [GRead.toD_eq, GVal.toD_eq, D.one, D.ones, li, ls, Value.oneCell']
theorem GRead.el (l : List GRead) : El 11 (l.map GRead.toD) := fun d h => by obtain ⟨x, _, rfl⟩ := List.mem_map.1 h; exact ⟨x.one_eq, x.sz_eq⟩
theorem GTape.flat_eq (x : GTape) : x.toD.flat = [.leaf (.int .i64 x.cell), .leaf (.int .i64 x.ver), .sl (x.reads.map GRead.toD)] := by
  simp [GTape.toD_eq, D.flat, D.flats, li, ls]
theorem GTape.acs_eq (x : GTape) (b : Bool) : x.toD.acs b = [.raw (.int .i64 x.cell), .raw (.int .i64 x.ver), .sl b (x.reads.map GRead.toD)] := by
  simp [D.acs, GTape.flat_eq, D.ac]
theorem GTape.agg_eq (x : GTape) : x.toD.isAgg = true := by rw [GTape.toD_eq]; rfl
theorem GTape.one_eq (x : GTape) : x.toD.one := by
  simp [GTape.toD_eq, D.one, D.ones, li, ls, Value.oneCell']
theorem GTape.el (l : List GTape) : El 3 (l.map GTape.toD) := fun d h => by obtain ⟨x, _, rfl⟩ := List.mem_map.1 h; exact ⟨x.one_eq, x.sz_eq⟩
end Go.Proofs.YtdjcflnemnknaaaDoor
