/-
  Texts joined: Nbs.
-/
import Derived.Test.YtnongnchpplacaaJW
import Derived.Test.YtnongnchpplacaaJO
import Derived.Test.YtnongnchpplacaaJA
namespace Go.Proofs.Ytnongnchpplacaa
open Go.RowKit
set_option linter.unusedSimpArgs false
set_option linter.unusedVariables false
theorem IJ {n : Int} (h0 : -9000000000000000000 ≤ n) (h1 : n ≤ 9000000000000000000) : (li n).wf := by
  show (decide (IntKind.i64.min ≤ n) && decide (n ≤ IntKind.i64.max)) = true
  rw [show IntKind.i64.min = -9223372036854775808 from rfl, show IntKind.i64.max = 9223372036854775807 from rfl]
  simp
  omega
theorem Af (x y : GNb) (hn : x.cells.length ≤ 1048576) : aK Try.prog 16 [x.toD, y.toD] (.c false [.raw (.bool (decide (x.cells = y.cells)))]) := oP fun w vs hr => by
  obtain ⟨v, u, rfl, h1, h2⟩ := O7 hr
  obtain ⟨fp, a, rfl, hS, _⟩ := qI h1
  obtain ⟨fq, b, rfl, hT, _⟩ := qI h2
  exact qc x.cells y.cells fp fq a b w hS hT hn
theorem Dx (x y : GNb) (hn : x.cells.length ≤ 1048576) (hm : y.cells.length ≤ 1048576) : aK Try.prog 18 [x.toD, y.toD] (.c false [.raw (.bool (decide (x.cells.map GCell.unver = y.cells.map GCell.unver)))]) := oP fun w vs hr => by
  obtain ⟨v, u, rfl, h1, h2⟩ := O7 hr
  obtain ⟨fp, a, rfl, _, hS⟩ := qI h1
  obtain ⟨fq, b, rfl, _, hT⟩ := qI h2
  exact yB x y fp fq [a] [b] w hS hT hn hm
theorem Xt {H : Type} {enc : TypeId × Value → H} {P : Program} {w : World} {spare : Nat → Bool} {t : TypeId} (ht : P.underlying t = some (.int .u8)) (fuel : Nat) : Rdg enc P w spare lu8 t fuel := fun cs x h => by
  obtain ⟨n, rfl, _, hw⟩ := DataW.trod_int ht h
  have hw2 : (decide (IntKind.u8.min ≤ n) && decide (n ≤ IntKind.u8.max)) = true := hw
  rw [show IntKind.u8.min = 0 from rfl, show IntKind.u8.max = 255 from rfl] at hw2
  simp at hw2
  have hn : ((UInt8.ofNat n.toNat).toNat : Int) = n := by
    rw [UInt8.toNat_ofNat']
    omega
  refine ⟨UInt8.ofNat n.toNat, ⟨[], rfl, ?_⟩, ?_⟩
  · show [Value.int .u8 n] = [Value.int .u8 ((UInt8.ofNat n.toNat).toNat : Int)]
    rw [hn]
  · show (Lit.int .u8 ((UInt8.ofNat n.toNat).toNat : Int)).wf = true
    rw [hn]
    exact hw
theorem LX : Try.prog.cellsOf 5 = 1 := by kernel_rfl
theorem QS {H : Type} {enc : TypeId × Value → H} {w : World} {spare : Nat → Bool} (fuel : Nat) : Rdg enc Try.prog w spare (fun l : List UInt8 => .sl (l.map lu8)) 22 fuel := QN Try.underlying22 LX (fun y => rfl) (by omega) fuel fun n _ => Xt Try.underlying5 n
def SI : IC := (.seq (.reg false [⟨(some 2), none, .mov (.k (.bool false))⟩]) (.seq (.reg false [⟨(some 3), none, .mov (.t 0)⟩, ⟨(some 4), none, .len false (.t 3)⟩, ⟨(some 5), none, .bin .gtr (.t 4) (.k (.int .i64 1048576))⟩, ⟨(some 2), none, .mov (.t 5)⟩]) .ret))
theorem PD : aF Try.prog (Try.f7.body.getD .skip) = some SI := by kernel_rfl
theorem GN (l : List UInt8) : aK Try.prog 7 [.sl (l.map lu8)] (.c false [.raw (.bool (decide ((l.length : Int) > 1048576)))]) := by
  refine fZ (fn := Try.f7) (t := 2) (by kernel_rfl) (by kernel_rfl) (by kernel_rfl) PD ?_
  unfold SI
  change AWP _ _ _ (st0 6 _)
  refine sS tdX ?_
  repeat' (first | ((with_reducible refine aG ?_); intro K hK) | ((with_reducible refine hK _ ?_); clear hK K) | (with_reducible refine ak ?_ ?_) | ((with_reducible refine aH ?_); refine ss (XR tdC @gQ) ?_) | refine nv ?_ | (with_reducible (refine cS rfl ?_ ?_) <;> (intro hb hb'; first | (exfalso; omega) | skip)) | (exact GCell.el _) | exact aZ | exact aI)
  exact aS ⟨_, rfl, ⟨rfl, trivial⟩⟩
end Go.Proofs.Ytnongnchpplacaa

