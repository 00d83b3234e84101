/-
  What is a valid cell, in both packages.
-/
import Derived.Test.YtdjcflnemnknaaaDoorRes2
namespace Go.Proofs.YtdjcflnemnknaaaDoor
open Go.RowKit
set_option linter.unusedSimpArgs false
set_option linter.unusedVariables false

/-- The part of a cell's rule that hangs on its kind; d: the name is valid; f: the number is that of a slider. -/
def kindOk (x : GCell) (d f : Bool) : Bool :=
  if x.kind == 1 then x.name.toList.isEmpty && x.n == 0
  else if x.kind == 2 then d && x.n == 0
  else if x.kind == 4 then d && x.n == 0
  else if x.kind == 3 then d && x.code.toList.isEmpty && f
  else false
def validCell (x : GCell) : Bool := inR x.id 1 999 && inR x.ver 1 999 && printable x.code && kindOk x (wordB x.name && !resB x.name.toList) (inR x.n 0 100)
theorem kind_cases (x : GCell) {d f : Bool} : ((x.kind == 1) = true ∧ x.name.toList.isEmpty = true ∧ kindOk x d f = (x.n == 0)) ∨ ((x.kind == 1) = true ∧ x.name.toList.isEmpty = false ∧ kindOk x d f = false) ∨ ((x.kind == 1) = false ∧ (x.kind == 2) = true ∧ kindOk x d f = (d && x.n == 0)) ∨
    ((x.kind == 1) = false ∧ (x.kind == 2) = false ∧ (x.kind == 4) = true ∧ kindOk x d f = (d && x.n == 0)) ∨ ((x.kind == 1) = false ∧ (x.kind == 2) = false ∧ (x.kind == 4) = false ∧ (x.kind == 3) = true ∧ kindOk x d f = (d && x.code.toList.isEmpty && f)) ∨
    ((x.kind == 1) = false ∧ (x.kind == 2) = false ∧ (x.kind == 4) = false ∧ (x.kind == 3) = false ∧ kindOk x d f = false) := by
  unfold kindOk
  cases x.kind == 1 <;> cases x.kind == 2 <;> cases x.kind == 4 <;> cases x.kind == 3 <;> cases x.name.toList.isEmpty <;> simp

set_option maxRecDepth 20000 in
set_option maxHeartbeats 4000000 in
theorem isValidCell_impl (x : GCell) (hw : x.toD.wf) (w : World) : Calls Tryd.prog 35 #[.agg #[.int .i64 x.id, .int .i64 x.ver, .int .i64 x.kind, .string x.name, .string x.code, .int .i64 x.n]] w (RetB (.bool (validCell x)) w) := by
  have hw3 : x.name.size ≤ 9223372036854775807 := hw.2.2.2.1
  have hw4 : x.code.size ≤ 9223372036854775807 := hw.2.2.2.2.1
  clear hw
  have hA := fun wx => within_any x.id 1 999 wx
  have hB := fun wx => within_any x.ver 1 999 wx
  have hC := fun wx => isPrintable_impl x.code hw4 wx
  have hD := fun wx => isValidName_impl x.name hw3 wx
  have hE := fun wx => within_any x.n 0 100 wx
  clear hw3 hw4
  have hv := Lib.hid (show validCell x = (inR x.id 1 999 && inR x.ver 1 999 && printable x.code && kindOk x (wordB x.name && !resB x.name.toList) (inR x.n 0 100)) from rfl)
  generalize inR x.id 1 999 = a at hA hv
  generalize inR x.ver 1 999 = b at hB hv
  generalize printable x.code = c at hC hv
  generalize (wordB x.name && !resB x.name.toList) = d at hD hv
  generalize inR x.n 0 100 = f at hE hv
  rw [hv.out]
  clear hv
  cases a with
  | false =>
    go_enter Tryd.func35, Tryd.ntmps35
    go_wp2_with fail
    refine (hA _).mono ?_
    rintro e w1 ⟨rfl, rfl⟩
    go_wp2_with fail
    go_ret
    exact ⟨rfl, (Below.refl _ _).alloc (by simp) _⟩
  | true =>
    cases b with
    | false =>
      go_enter Tryd.func35, Tryd.ntmps35
      go_wp2_with fail
      refine (hA _).mono ?_
      rintro e w1 ⟨rfl, rfl⟩
      go_wp2_with fail
      refine (hB _).mono ?_
      rintro e w1 ⟨rfl, rfl⟩
      go_wp2_with fail
      go_ret
      exact ⟨rfl, (Below.refl _ _).alloc (by simp) _⟩
    | true =>
      cases c with
      | false =>
        go_enter Tryd.func35, Tryd.ntmps35
        go_wp2_with fail
        refine (hA _).mono ?_
        rintro e w1 ⟨rfl, rfl⟩
        go_wp2_with fail
        refine (hB _).mono ?_
        rintro e w1 ⟨rfl, rfl⟩
        go_wp2_with fail
        refine (hC _).mono ?_
        rintro e w1 ⟨rfl, rfl⟩
        go_wp2_with fail
        go_ret
        exact ⟨rfl, (Below.refl _ _).alloc (by simp) _⟩
      | true =>
        rcases kind_cases x with ⟨h1, hn, hk⟩ | ⟨h1, hn, hk⟩ | ⟨h1, h2, hk⟩ | ⟨h1, h2, h4, hk⟩ | ⟨h1, h2, h4, h3, hk⟩ | ⟨h1, h2, h4, h3, hk⟩
        all_goals rw [show (true && true && true && kindOk x d f) = kindOk x d f from rfl, hk]
        all_goals clear hk
        all_goals
          go_enter Tryd.func35, Tryd.ntmps35
          go_wp2_with fail
          refine (hA _).mono ?_
          rintro e w1 ⟨rfl, rfl⟩
          go_wp2_with fail
          refine (hB _).mono ?_
          rintro e w1 ⟨rfl, rfl⟩
          go_wp2_with fail
          refine (hC _).mono ?_
          rintro e w1 ⟨rfl, rfl⟩
          go_wp2_with fail
        · go_ret
          exact ⟨rfl, (Below.refl _ _).alloc (by simp) _⟩
        · go_ret
          exact ⟨rfl, (Below.refl _ _).alloc (by simp) _⟩
        · cases d with
          | true =>
            refine (hD _).mono ?_
            rintro e w1 ⟨rfl, rfl⟩
            go_wp2_with fail
            go_ret
            exact ⟨by simp [*], (Below.refl _ _).alloc (by simp) _⟩
          | false =>
            refine (hD _).mono ?_
            rintro e w1 ⟨rfl, rfl⟩
            go_wp2_with fail
            go_ret
            exact ⟨by simp [*], (Below.refl _ _).alloc (by simp) _⟩
        · cases d with
          | true =>
            refine (hD _).mono ?_
            rintro e w1 ⟨rfl, rfl⟩
            go_wp2_with fail
            go_ret
            exact ⟨by simp [*], (Below.refl _ _).alloc (by simp) _⟩
          | false =>
            refine (hD _).mono ?_
            rintro e w1 ⟨rfl, rfl⟩
            go_wp2_with fail
            go_ret
            exact ⟨by simp [*], (Below.refl _ _).alloc (by simp) _⟩
        · cases d with
          | true =>
            cases hc : x.code.toList.isEmpty with
            | true =>
              refine (hD _).mono ?_
              rintro e w1 ⟨rfl, rfl⟩
              skip
              go_wp2_with fail
              refine (hE _).mono ?_
              rintro e w2 ⟨rfl, rfl⟩
              go_wp2_with fail
              go_ret
              exact ⟨by simp [*], (Below.refl _ _).alloc (by simp) _⟩
            | false =>
              refine (hD _).mono ?_
              rintro e w1 ⟨rfl, rfl⟩
              skip
              go_wp2_with fail
              go_ret
              exact ⟨by simp [*], (Below.refl _ _).alloc (by simp) _⟩
          | false =>
            refine (hD _).mono ?_
            rintro e w1 ⟨rfl, rfl⟩
            go_wp2_with fail
            go_ret
            exact ⟨by simp [*], (Below.refl _ _).alloc (by simp) _⟩
        · go_ret
          exact ⟨by simp [*], (Below.refl _ _).alloc (by simp) _⟩

set_option maxRecDepth 20000 in
set_option maxHeartbeats 4000000 in
theorem isValidCell_spec (x : GCell) (hw : x.toD.wf) (w : World) : Calls Tryd.prog 32 #[.agg #[.int .i64 x.id, .int .i64 x.ver, .int .i64 x.kind, .string x.name, .string x.code, .int .i64 x.n]] w (RetB (.bool (validCell x)) w) := by
  have hw3 : x.name.size ≤ 9223372036854775807 := hw.2.2.2.1
  have hw4 : x.code.size ≤ 9223372036854775807 := hw.2.2.2.2.1
  clear hw
  have hA := fun wx => l1In_any x.id 1 999 wx
  have hB := fun wx => l1In_any x.ver 1 999 wx
  have hC := fun wx => isPrintable_spec x.code hw4 wx
  have hD := fun wx => isValidName_spec x.name hw3 wx
  have hE := fun wx => l1In_any x.n 0 100 wx
  clear hw3 hw4
  have hv := Lib.hid (show validCell x = (inR x.id 1 999 && inR x.ver 1 999 && printable x.code && kindOk x (wordB x.name && !resB x.name.toList) (inR x.n 0 100)) from rfl)
  generalize inR x.id 1 999 = a at hA hv
  generalize inR x.ver 1 999 = b at hB hv
  generalize printable x.code = c at hC hv
  generalize (wordB x.name && !resB x.name.toList) = d at hD hv
  generalize inR x.n 0 100 = f at hE hv
  rw [hv.out]
  clear hv
  cases a with
  | false =>
    go_enter Tryd.func32, Tryd.ntmps32
    go_wp2_with fail
    refine (hA _).mono ?_
    rintro e w1 ⟨rfl, rfl⟩
    go_wp2_with fail
    go_ret
    exact ⟨rfl, (Below.refl _ _).alloc (by simp) _⟩
  | true =>
    cases b with
    | false =>
      go_enter Tryd.func32, Tryd.ntmps32
      go_wp2_with fail
      refine (hA _).mono ?_
      rintro e w1 ⟨rfl, rfl⟩
      go_wp2_with fail
      refine (hB _).mono ?_
      rintro e w1 ⟨rfl, rfl⟩
      go_wp2_with fail
      go_ret
      exact ⟨rfl, (Below.refl _ _).alloc (by simp) _⟩
    | true =>
      cases c with
      | false =>
        go_enter Tryd.func32, Tryd.ntmps32
        go_wp2_with fail
        refine (hA _).mono ?_
        rintro e w1 ⟨rfl, rfl⟩
        go_wp2_with fail
        refine (hB _).mono ?_
        rintro e w1 ⟨rfl, rfl⟩
        go_wp2_with fail
        refine (hC _).mono ?_
        rintro e w1 ⟨rfl, rfl⟩
        go_wp2_with fail
        go_ret
        exact ⟨rfl, (Below.refl _ _).alloc (by simp) _⟩
      | true =>
        rcases kind_cases x with ⟨h1, hn, hk⟩ | ⟨h1, hn, hk⟩ | ⟨h1, h2, hk⟩ | ⟨h1, h2, h4, hk⟩ | ⟨h1, h2, h4, h3, hk⟩ | ⟨h1, h2, h4, h3, hk⟩
        all_goals rw [show (true && true && true && kindOk x d f) = kindOk x d f from rfl, hk]
        all_goals clear hk
        all_goals
          go_enter Tryd.func32, Tryd.ntmps32
          go_wp2_with fail
          refine (hA _).mono ?_
          rintro e w1 ⟨rfl, rfl⟩
          go_wp2_with fail
          refine (hB _).mono ?_
          rintro e w1 ⟨rfl, rfl⟩
          go_wp2_with fail
          refine (hC _).mono ?_
          rintro e w1 ⟨rfl, rfl⟩
          go_wp2_with fail
        · go_ret
          exact ⟨rfl, (Below.refl _ _).alloc (by simp) _⟩
        · go_ret
          exact ⟨rfl, (Below.refl _ _).alloc (by simp) _⟩
        · cases d with
          | true =>
            refine (hD _).mono ?_
            rintro e w1 ⟨rfl, hb1⟩; have kk := (rows1 hb1).1.cell
            go_wp2_with fail
            go_ret
            exact ⟨by simp [*], ((Below.refl _ _).alloc (by simp) _).trans (hb1.mono (by simp))⟩
          | false =>
            refine (hD _).mono ?_
            rintro e w1 ⟨rfl, hb1⟩; have kk := (rows1 hb1).1.cell
            go_wp2_with fail
            go_ret
            exact ⟨by simp [*], ((Below.refl _ _).alloc (by simp) _).trans (hb1.mono (by simp))⟩
        · cases d with
          | true =>
            refine (hD _).mono ?_
            rintro e w1 ⟨rfl, hb1⟩; have kk := (rows1 hb1).1.cell
            go_wp2_with fail
            go_ret
            exact ⟨by simp [*], ((Below.refl _ _).alloc (by simp) _).trans (hb1.mono (by simp))⟩
          | false =>
            refine (hD _).mono ?_
            rintro e w1 ⟨rfl, hb1⟩; have kk := (rows1 hb1).1.cell
            go_wp2_with fail
            go_ret
            exact ⟨by simp [*], ((Below.refl _ _).alloc (by simp) _).trans (hb1.mono (by simp))⟩
        · cases d with
          | true =>
            cases hc : x.code.toList.isEmpty with
            | true =>
              refine (hD _).mono ?_
              rintro e w1 ⟨rfl, hb1⟩; have kk := (rows1 hb1).1.cell
              skip
              go_wp2_with fail
              refine (hE _).mono ?_
              rintro e w2 ⟨rfl, rfl⟩
              go_wp2_with fail
              go_ret
              exact ⟨by simp [*], ((Below.refl _ _).alloc (by simp) _).trans (hb1.mono (by simp))⟩
            | false =>
              refine (hD _).mono ?_
              rintro e w1 ⟨rfl, hb1⟩; have kk := (rows1 hb1).1.cell
              skip
              go_wp2_with fail
              go_ret
              exact ⟨by simp [*], ((Below.refl _ _).alloc (by simp) _).trans (hb1.mono (by simp))⟩
          | false =>
            refine (hD _).mono ?_
            rintro e w1 ⟨rfl, hb1⟩; have kk := (rows1 hb1).1.cell
            go_wp2_with fail
            go_ret
            exact ⟨by simp [*], ((Below.refl _ _).alloc (by simp) _).trans (hb1.mono (by simp))⟩
        · go_ret
          exact ⟨by simp [*], (Below.refl _ _).alloc (by simp) _⟩
end Go.Proofs.YtdjcflnemnknaaaDoor
