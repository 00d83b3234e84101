/-
  A region of any order that makes the box of a struct: the box made before, between or behind the calls.
-/
import Derived.Test.YtokplliaejbbdaaIrL
namespace Go.Proofs.Ytokplliaejbbdaa
open Go.RowKit
set_option linter.unusedSimpArgs false
set_option linter.unusedVariables false
theorem setCell_cell {w : World} {a b : Addr} {u : Value} (h : b.block ≠ a.block) : (w.setCell a u).cell? b = w.cell? b := World.cell?_of_block (Below.heap_setCell _ _ _ _ h)
section
variable {w w' : World} {d : D} {f : List Nat} {cs : List Value} {o : Obj} {B b : Nat}
theorem dataLast (S : R w d f cs) : R (w.alloc o) d f cs := S.below ((Below.refl _ _).alloc (Nat.le_refl _) o)
theorem freeLast (F : Free w b f) (S : R w d f cs) (hb : B ≤ b) : Free (w.alloc o) B f := (F.mono hb).below (R.lt S) ((Below.refl _ _).alloc (Nat.le_refl _) o)
theorem freeWany (F : FreeW w b f) (hb : B ≤ b) : FreeW w' B f := ⟨trivial, fun x hx => ⟨Nat.le_trans hb (F.2 x hx).1, trivial⟩⟩
theorem notLast (S : R w d f cs) : w.heap.size ∉ f := fun h => Nat.lt_irrefl _ (R.lt S _ h)
theorem rowLast {xs : Array Value} {ty : TypeId} : Row (w.alloc (.cells xs ty)) w.heap.size ty xs.toList := Row.new w ty xs
end
end Go.Proofs.Ytokplliaejbbdaa
