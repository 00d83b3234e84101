/-
  Definers as fresh slices; the program's Resolve.
-/
import Derived.Test.YtkjodhljaehkjaaGreatDefs
namespace Go.Proofs.YtkjodhljaehkjaaGreat
open Go.RowKit
set_option linter.unusedSimpArgs false
set_option linter.unusedVariables false

theorem OwnI.tos {w w' : World} {l : List Int} {v : Value} (h : OwnI w' w.heap.size l v) (hb : Below w.heap.size w w') : TosPost (l.map li) w (.returned v) w' :=
  ⟨v.ownBlock.toList, v, rfl, h.sl, by have := Free.of_own h Free.nil (fun g _ => by simp); rwa [List.append_nil] at this, hb⟩
theorem DefPost.tos {l : List GPart} {nm : ByteArray} {w w' : World} {e : Ending} (h : DefPost l nm w e w') : TosPost ((defsTo l nm l.length).map li) w e w' := by
  obtain ⟨v, rfl, ho, hb⟩ := h
  exact ho.tos hb
theorem definers_impl_to (l : List GPart) (nm : ByteArray) (fp : List Nat) (v : Value) (w : World) (hS : Sl w (l.map GPart.toD) fp v) (hn : l.length ≤ 1048576) : Calls Tryz.prog 86 #[v, .string nm] w (TosPost ((defsTo l nm l.length).map li) w) :=
  (definers_impl l nm fp v w hS hn).mono fun _ _ h => h.tos
theorem definers_spec_to (l : List GPart) (nm : ByteArray) (fp : List Nat) (v : Value) (w : World) (hS : Sl w (l.map GPart.toD) fp v) (hn : l.length ≤ 1048576) : Calls Tryz.prog 88 #[v, .string nm] w (TosPost ((defsTo l nm l.length).map li) w) :=
  (definers_spec l nm fp v w hS hn).mono fun _ _ h => h.tos

set_option maxHeartbeats 1000000 in
theorem resolve_impl (l : List GPart) (nm : ByteArray) (fp : List Nat) (v : Value) (w : World) (hS : Sl w (l.map GPart.toD) fp v) (hn : l.length ≤ 1048576) : Calls Tryz.prog 62 #[v, .string nm] w (RetB (.int .i64 (resV (defsTo l nm l.length))) w) := by
  have hc := definers_impl l nm fp v w hS hn
  have hle := Lib.hid (defsTo_len l nm l.length)
  unfold DefPost at hc
  generalize defsTo l nm l.length = D at *
  obtain ⟨A, c, rfl, _, _⟩ := hS.formT
  clear hS
  go_enter Tryz.func62, Tryz.ntmps62
  go_wp2_with fail
  refine hc.mono ?_
  rintro e w1 ⟨v1, rfl, ho, hb⟩
  have hsl := ho.sl
  obtain ⟨A1, c1, rfl, _, _⟩ := hsl.formT
  match D, ho, hsl, hle with
  | [], ho, hsl, hle =>
    clear ho hsl hle
    go_wp2_with fail
    go_ret
    exact ⟨rfl, hb⟩
  | [x], ho, hsl, hle =>
    obtain ⟨b, o, fi, ci, rfl, hbb, hbf, hri, hfi, hat⟩ := hsl.elem li_szs (k := 0) (d := li x) rfl
    obtain ⟨rfl, rfl⟩ := hri
    have q0 : w1.cell? ⟨b, o, none⟩ = some (.int .i64 x) := by simpa using hat.head
    clear hat ho hsl hle
    go_wp2_with fail
    go_ret
    exact ⟨rfl, hb⟩
  | x :: y :: r, ho, hsl, hle =>
    have hl : (x :: y :: r).length ≤ 1048576 := Nat.le_trans hle.out hn
    rw [List.length_cons, List.length_cons] at hl
    clear ho hsl hle
    go_wp2_with fail
    go_ret
    exact ⟨rfl, hb⟩

end Go.Proofs.YtkjodhljaehkjaaGreat
