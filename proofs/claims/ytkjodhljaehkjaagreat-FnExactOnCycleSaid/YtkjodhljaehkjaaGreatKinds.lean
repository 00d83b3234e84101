/-
  The kinds of elements of the program's slices.
-/
import Derived.Test.YtkjodhljaehkjaaGreatOwn
import Derived.Test.YtkjodhljaehkjaaGreatProg
import Derived.KernelRfl
namespace Go.Proofs.YtkjodhljaehkjaaGreat
open Go.RowKit
set_option linter.unusedSimpArgs false

def ekint : EK Tryz.prog where
  t := 29
  e := 3
  s := 1
  ht := Tryz.underlying29
  info := ek_info (by kernel_rfl)
  h0 := by omega
def ekstr : EK Tryz.prog where
  t := 40
  e := 9
  s := 1
  ht := Tryz.underlying40
  info := ek_info (by kernel_rfl)
  h0 := by omega
def eku8 : EK Tryz.prog where
  t := 88
  e := 5
  s := 1
  ht := Tryz.underlying88
  info := ek_info (by kernel_rfl)
  h0 := by omega
def ekGOrigin : EK Tryz.prog where
  t := 89
  e := 111
  s := 2
  ht := Tryz.underlying89
  info := ek_info (by kernel_rfl)
  h0 := by omega
theorem GOrigin.one_ (x : GOrigin) : x.toD.one := by
  rw [GOrigin.toD_eq]
  simp [D.one, D.ones, li, ls, Value.oneCell']
theorem GOrigin.ones_ {l : List GOrigin} : ∀ d ∈ l.map GOrigin.toD, d.one := fun d h => by obtain ⟨x, _, rfl⟩ := List.mem_map.1 h; exact x.one_
def ekGRow : EK Tryz.prog where
  t := 59
  e := 91
  s := 2
  ht := Tryz.underlying59
  info := ek_info (by kernel_rfl)
  h0 := by omega
theorem GRow.one_ (x : GRow) : x.toD.one := by
  rw [GRow.toD_eq]
  simp [D.one, D.ones, li, ls, Value.oneCell']
theorem GRow.ones_ {l : List GRow} : ∀ d ∈ l.map GRow.toD, d.one := fun d h => by obtain ⟨x, _, rfl⟩ := List.mem_map.1 h; exact x.one_
def ekGVal : EK Tryz.prog where
  t := 58
  e := 61
  s := 7
  ht := Tryz.underlying58
  info := ek_info (by kernel_rfl)
  h0 := by omega
theorem GVal.one_ (x : GVal) : x.toD.one := by
  rw [GVal.toD_eq]
  simp [D.one, D.ones, li, ls, Value.oneCell']
theorem GVal.ones_ {l : List GVal} : ∀ d ∈ l.map GVal.toD, d.one := fun d h => by obtain ⟨x, _, rfl⟩ := List.mem_map.1 h; exact x.one_
def ekGExpr : EK Tryz.prog where
  t := 55
  e := 57
  s := 4
  ht := Tryz.underlying55
  info := ek_info (by kernel_rfl)
  h0 := by omega
theorem GExpr.one_ (x : GExpr) : x.toD.one := by
  rw [GExpr.toD_eq]
  simp [D.one, D.ones, li, ls, Value.oneCell']
theorem GExpr.ones_ {l : List GExpr} : ∀ d ∈ l.map GExpr.toD, d.one := fun d h => by obtain ⟨x, _, rfl⟩ := List.mem_map.1 h; exact x.one_
def ekGPart : EK Tryz.prog where
  t := 25
  e := 63
  s := 14
  ht := Tryz.underlying25
  info := ek_info (by kernel_rfl)
  h0 := by omega
theorem GPart.one_ (x : GPart) : x.toD.one := by
  rw [GPart.toD_eq]
  simp [D.one, D.ones, li, ls, Value.oneCell', GExpr.toD_eq, GVal.toD_eq]
theorem GPart.ones_ {l : List GPart} : ∀ d ∈ l.map GPart.toD, d.one := fun d h => by obtain ⟨x, _, rfl⟩ := List.mem_map.1 h; exact x.one_
theorem int_ones {l : List Int} : ∀ d ∈ l.map li, d.one := fun d h => by obtain ⟨x, _, rfl⟩ := List.mem_map.1 h; rfl
theorem str_ones {l : List ByteArray} : ∀ d ∈ l.map ls, d.one := fun d h => by obtain ⟨x, _, rfl⟩ := List.mem_map.1 h; rfl
end Go.Proofs.YtkjodhljaehkjaaGreat
