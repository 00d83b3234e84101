/-
  The kinds of elements of the program's slices.
-/
import Derived.Test.YtncbhiehgkohjaaOwn
import Derived.Test.YtncbhiehgkohjaaProg
import Derived.KernelRfl
namespace Go.Proofs.Ytncbhiehgkohjaa
open Go.RowKit
set_option linter.unusedSimpArgs false

def ekint : EK Try.prog where
  t := 120
  e := 3
  s := 1
  ht := Try.underlying120
  info := ek_info (by kernel_rfl)
  h0 := by omega
def ekstr : EK Try.prog where
  t := 38
  e := 9
  s := 1
  ht := Try.underlying38
  info := ek_info (by kernel_rfl)
  h0 := by omega
def eku8 : EK Try.prog where
  t := 118
  e := 5
  s := 1
  ht := Try.underlying118
  info := ek_info (by kernel_rfl)
  h0 := by omega
def ekGOrigin : EK Try.prog where
  t := 121
  e := 146
  s := 2
  ht := Try.underlying121
  info := ek_info (by kernel_rfl)
  h0 := by omega
theorem GOrigin.one_ (x : GOrigin) : x.toD.one := by
  rw [GOrigin.toD_eq]
  simp [D.one, D.ones, li, ls, Value.oneCell']
theorem GOrigin.ones_ {l : List GOrigin} : ∀ d ∈ l.map GOrigin.toD, d.one := fun d h => by obtain ⟨x, _, rfl⟩ := List.mem_map.1 h; exact x.one_
def ekGRow : EK Try.prog where
  t := 39
  e := 123
  s := 2
  ht := Try.underlying39
  info := ek_info (by kernel_rfl)
  h0 := by omega
theorem GRow.one_ (x : GRow) : x.toD.one := by
  rw [GRow.toD_eq]
  simp [D.one, D.ones, li, ls, Value.oneCell']
theorem GRow.ones_ {l : List GRow} : ∀ d ∈ l.map GRow.toD, d.one := fun d h => by obtain ⟨x, _, rfl⟩ := List.mem_map.1 h; exact x.one_
def ekGVal : EK Try.prog where
  t := 37
  e := 41
  s := 7
  ht := Try.underlying37
  info := ek_info (by kernel_rfl)
  h0 := by omega
theorem GVal.one_ (x : GVal) : x.toD.one := by
  rw [GVal.toD_eq]
  simp [D.one, D.ones, li, ls, Value.oneCell']
theorem GVal.ones_ {l : List GVal} : ∀ d ∈ l.map GVal.toD, d.one := fun d h => by obtain ⟨x, _, rfl⟩ := List.mem_map.1 h; exact x.one_
def ekGExpr : EK Try.prog where
  t := 70
  e := 72
  s := 4
  ht := Try.underlying70
  info := ek_info (by kernel_rfl)
  h0 := by omega
theorem GExpr.one_ (x : GExpr) : x.toD.one := by
  rw [GExpr.toD_eq]
  simp [D.one, D.ones, li, ls, Value.oneCell']
theorem GExpr.ones_ {l : List GExpr} : ∀ d ∈ l.map GExpr.toD, d.one := fun d h => by obtain ⟨x, _, rfl⟩ := List.mem_map.1 h; exact x.one_
def ekGPart : EK Try.prog where
  t := 43
  e := 74
  s := 14
  ht := Try.underlying43
  info := ek_info (by kernel_rfl)
  h0 := by omega
theorem GPart.one_ (x : GPart) : x.toD.one := by
  rw [GPart.toD_eq]
  simp [D.one, D.ones, li, ls, Value.oneCell', GExpr.toD_eq, GVal.toD_eq]
theorem GPart.ones_ {l : List GPart} : ∀ d ∈ l.map GPart.toD, d.one := fun d h => by obtain ⟨x, _, rfl⟩ := List.mem_map.1 h; exact x.one_
def ekGRead : EK Try.prog where
  t := 24
  e := 93
  s := 11
  ht := Try.underlying24
  info := ek_info (by kernel_rfl)
  h0 := by omega
theorem GRead.one_ (x : GRead) : x.toD.one := by
  rw [GRead.toD_eq]
  simp [D.one, D.ones, li, ls, Value.oneCell', GVal.toD_eq]
theorem GRead.ones_ {l : List GRead} : ∀ d ∈ l.map GRead.toD, d.one := fun d h => by obtain ⟨x, _, rfl⟩ := List.mem_map.1 h; exact x.one_
def ekGTape : EK Try.prog where
  t := 26
  e := 89
  s := 3
  ht := Try.underlying26
  info := ek_info (by kernel_rfl)
  h0 := by omega
theorem GTape.one_ (x : GTape) : x.toD.one := by
  rw [GTape.toD_eq]
  simp [D.one, D.ones, li, ls, Value.oneCell']
theorem GTape.ones_ {l : List GTape} : ∀ d ∈ l.map GTape.toD, d.one := fun d h => by obtain ⟨x, _, rfl⟩ := List.mem_map.1 h; exact x.one_
theorem int_ones {l : List Int} : ∀ d ∈ l.map li, d.one := fun d h => by obtain ⟨x, _, rfl⟩ := List.mem_map.1 h; rfl
theorem str_ones {l : List ByteArray} : ∀ d ∈ l.map ls, d.one := fun d h => by obtain ⟨x, _, rfl⟩ := List.mem_map.1 h; rfl
end Go.Proofs.Ytncbhiehgkohjaa
