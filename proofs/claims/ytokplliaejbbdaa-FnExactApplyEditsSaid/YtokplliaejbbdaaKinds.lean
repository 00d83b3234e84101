/-
  The kinds of elements of the program's slices.
-/
import Derived.Test.YtokplliaejbbdaaOwn
import Derived.Test.YtokplliaejbbdaaProg
import Derived.KernelRfl
namespace Go.Proofs.Ytokplliaejbbdaa
open Go.RowKit
set_option linter.unusedSimpArgs false

def ekint : EK Try.prog where
  t := 49
  e := 3
  s := 1
  ht := Try.underlying49
  info := ek_info (by kernel_rfl)
  h0 := by omega
def ekstr : EK Try.prog where
  t := 79
  e := 9
  s := 1
  ht := Try.underlying79
  info := ek_info (by kernel_rfl)
  h0 := by omega
def eku8 : EK Try.prog where
  t := 77
  e := 5
  s := 1
  ht := Try.underlying77
  info := ek_info (by kernel_rfl)
  h0 := by omega
def ekGCell : EK Try.prog where
  t := 31
  e := 37
  s := 6
  ht := Try.underlying31
  info := ek_info (by kernel_rfl)
  h0 := by omega
theorem GCell.one_ (x : GCell) : x.toD.one := by
  rw [GCell.toD_eq]
  simp [D.one, D.ones, li, ls, Value.oneCell']
theorem GCell.ones_ {l : List GCell} : ∀ d ∈ l.map GCell.toD, d.one := fun d h => by obtain ⟨x, _, rfl⟩ := List.mem_map.1 h; exact x.one_
def ekGEdit : EK Try.prog where
  t := 52
  e := 39
  s := 8
  ht := Try.underlying52
  info := ek_info (by kernel_rfl)
  h0 := by omega
theorem GEdit.one_ (x : GEdit) : x.toD.one := by
  rw [GEdit.toD_eq]
  simp [D.one, D.ones, li, ls, Value.oneCell', GCell.toD_eq]
theorem GEdit.ones_ {l : List GEdit} : ∀ d ∈ l.map GEdit.toD, d.one := fun d h => by obtain ⟨x, _, rfl⟩ := List.mem_map.1 h; exact x.one_
theorem int_ones {l : List Int} : ∀ d ∈ l.map li, d.one := fun d h => by obtain ⟨x, _, rfl⟩ := List.mem_map.1 h; rfl
theorem str_ones {l : List ByteArray} : ∀ d ∈ l.map ls, d.one := fun d h => by obtain ⟨x, _, rfl⟩ := List.mem_map.1 h; rfl
end Go.Proofs.Ytokplliaejbbdaa
