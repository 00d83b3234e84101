/-
  The kinds of elements of the program's slices.
-/
import Derived.Test.YtdjcflnemnknaaaDoorOwn
import Derived.Test.YtdjcflnemnknaaaDoorProg
import Derived.KernelRfl
namespace Go.Proofs.YtdjcflnemnknaaaDoor
open Go.RowKit
set_option linter.unusedSimpArgs false

def ekint : EK Tryd.prog where
  t := 73
  e := 3
  s := 1
  ht := Tryd.underlying73
  info := ek_info (by kernel_rfl)
  h0 := by omega
def ekstr : EK Tryd.prog where
  t := 41
  e := 9
  s := 1
  ht := Tryd.underlying41
  info := ek_info (by kernel_rfl)
  h0 := by omega
def eku8 : EK Tryd.prog where
  t := 96
  e := 5
  s := 1
  ht := Tryd.underlying96
  info := ek_info (by kernel_rfl)
  h0 := by omega
def ekGOrigin : EK Tryd.prog where
  t := 74
  e := 114
  s := 2
  ht := Tryd.underlying74
  info := ek_info (by kernel_rfl)
  h0 := by omega
theorem GOrigin.one_ (x : GOrigin) : x.toD.one := by
  rw [GOrigin.toD_eq]
  simp [D.one, D.ones, li, ls, Value.oneCell']
theorem GOrigin.ones_ {l : List GOrigin} : ∀ d ∈ l.map GOrigin.toD, d.one := fun d h => by obtain ⟨x, _, rfl⟩ := List.mem_map.1 h; exact x.one_
def ekGRow : EK Tryd.prog where
  t := 48
  e := 76
  s := 2
  ht := Tryd.underlying48
  info := ek_info (by kernel_rfl)
  h0 := by omega
theorem GRow.one_ (x : GRow) : x.toD.one := by
  rw [GRow.toD_eq]
  simp [D.one, D.ones, li, ls, Value.oneCell']
theorem GRow.ones_ {l : List GRow} : ∀ d ∈ l.map GRow.toD, d.one := fun d h => by obtain ⟨x, _, rfl⟩ := List.mem_map.1 h; exact x.one_
def ekGVal : EK Tryd.prog where
  t := 47
  e := 50
  s := 7
  ht := Tryd.underlying47
  info := ek_info (by kernel_rfl)
  h0 := by omega
theorem GVal.one_ (x : GVal) : x.toD.one := by
  rw [GVal.toD_eq]
  simp [D.one, D.ones, li, ls, Value.oneCell']
theorem GVal.ones_ {l : List GVal} : ∀ d ∈ l.map GVal.toD, d.one := fun d h => by obtain ⟨x, _, rfl⟩ := List.mem_map.1 h; exact x.one_
def ekGCell : EK Tryd.prog where
  t := 34
  e := 26
  s := 6
  ht := Tryd.underlying34
  info := ek_info (by kernel_rfl)
  h0 := by omega
theorem GCell.one_ (x : GCell) : x.toD.one := by
  rw [GCell.toD_eq]
  simp [D.one, D.ones, li, ls, Value.oneCell']
theorem GCell.ones_ {l : List GCell} : ∀ d ∈ l.map GCell.toD, d.one := fun d h => by obtain ⟨x, _, rfl⟩ := List.mem_map.1 h; exact x.one_
theorem int_ones {l : List Int} : ∀ d ∈ l.map li, d.one := fun d h => by obtain ⟨x, _, rfl⟩ := List.mem_map.1 h; rfl
theorem str_ones {l : List ByteArray} : ∀ d ∈ l.map ls, d.one := fun d h => by obtain ⟨x, _, rfl⟩ := List.mem_map.1 h; rfl
end Go.Proofs.YtdjcflnemnknaaaDoor
