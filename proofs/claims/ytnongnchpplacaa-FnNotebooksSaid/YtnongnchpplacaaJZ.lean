/-
  Texts joined: Nbs.
-/
import Derived.Test.YtnongnchpplacaaJW
import Derived.Test.YtnongnchpplacaaJO
import Derived.Test.YtnongnchpplacaaJA
namespace Go.Proofs.Ytnongnchpplacaa
open Go.RowKit
set_option linter.unusedSimpArgs false
set_option linter.unusedVariables false
theorem li_wf {n : Int} (h0 : -9000000000000000000 ≤ n) (h1 : n ≤ 9000000000000000000) : (li n).wf := by
  show (decide (IntKind.i64.min ≤ n) && decide (n ≤ IntKind.i64.max)) = true
  rw [show IntKind.i64.min = -9223372036854775808 from rfl, show IntKind.i64.max = 9223372036854775807 from rfl]
  simp
  omega
theorem cellB_wf {W : Nat} (hW : W ≤ 1000000) {x : GCell} (h : CellB W x) : x.toD.wf := by
  obtain ⟨h1, h2, h3, h4, h5, h6⟩ := h
  refine ⟨li_wf (by omega) (by omega), li_wf (by omega) (by omega), li_wf (by omega) (by omega), ?_, ?_, li_wf (by omega) (by omega), trivial⟩
  · show x.name.size ≤ maxLen
    unfold maxLen; omega
  · show x.code.size ≤ maxLen
    unfold maxLen; omega
theorem cellsB_wf {W : Nat} (hW : W ≤ 1000000) : ∀ {cs : List GCell}, (∀ x ∈ cs, CellB W x) → D.wfs (cs.map GCell.toD)
  | [], _ => trivial
  | x :: cs, h => ⟨cellB_wf hW (h x (by simp)), cellsB_wf hW fun y hy => h y (by simp [hy])⟩
theorem equalNb_impl_to (x y : GNb) (hn : x.cells.length ≤ 1048576) : CallsTo Try.prog 15 [x.toD, y.toD] (.c false [.raw (.bool (decide (x.cells = y.cells)))]) := to_retB fun w vs hr => by
  obtain ⟨v, u, rfl, h1, h2⟩ := rds2 hr
  obtain ⟨fp, a, rfl, hS, _⟩ := nb_leaf h1
  obtain ⟨fq, b, rfl, hT, _⟩ := nb_leaf h2
  exact equalNotebook_impl x.cells y.cells fp fq a b w hS hT hn
theorem equalNb_spec_to (x y : GNb) (hn : x.cells.length ≤ 1048576) : CallsTo Try.prog 16 [x.toD, y.toD] (.c false [.raw (.bool (decide (x.cells = y.cells)))]) := to_retB fun w vs hr => by
  obtain ⟨v, u, rfl, h1, h2⟩ := rds2 hr
  obtain ⟨fp, a, rfl, hS, _⟩ := nb_leaf h1
  obtain ⟨fq, b, rfl, hT, _⟩ := nb_leaf h2
  exact equalNotebook_spec x.cells y.cells fp fq a b w hS hT hn
theorem sameC_impl_to (x y : GNb) (hn : x.cells.length ≤ 1048576) (hm : y.cells.length ≤ 1048576) : CallsTo Try.prog 17 [x.toD, y.toD] (.c false [.raw (.bool (decide (x.cells.map GCell.unver = y.cells.map GCell.unver)))]) := to_retB fun w vs hr => by
  obtain ⟨v, u, rfl, h1, h2⟩ := rds2 hr
  obtain ⟨fp, a, rfl, _, hS⟩ := nb_leaf h1
  obtain ⟨fq, b, rfl, _, hT⟩ := nb_leaf h2
  exact sameContent_impl x y fp fq [a] [b] w hS hT hn hm
theorem sameC_spec_to (x y : GNb) (hn : x.cells.length ≤ 1048576) (hm : y.cells.length ≤ 1048576) : CallsTo Try.prog 18 [x.toD, y.toD] (.c false [.raw (.bool (decide (x.cells.map GCell.unver = y.cells.map GCell.unver)))]) := to_retB fun w vs hr => by
  obtain ⟨v, u, rfl, h1, h2⟩ := rds2 hr
  obtain ⟨fp, a, rfl, _, hS⟩ := nb_leaf h1
  obtain ⟨fq, b, rfl, _, hT⟩ := nb_leaf h2
  exact sameContent_spec x y fp fq [a] [b] w hS hT hn hm
theorem printable_impl_to (s : ByteArray) (hs : s.size ≤ 1048576) : CallsTo Try.prog 13 [ls s] (.c false [.raw (.bool (printable s))]) := to_retQ fun w vs hr => by
  obtain ⟨v, rfl, hv⟩ := rds1 hr
  obtain rfl := rd_leaf hv
  exact isPrintable_impl s (by omega) w
theorem rd_u8 {H : Type} {enc : TypeId × Value → H} {P : Program} {w : World} {spare : Nat → Bool} {t : TypeId} (ht : P.underlying t = some (.int .u8)) (fuel : Nat) : Rdg enc P w spare lu8 t fuel := fun cs x h => by
  obtain ⟨n, rfl, _, hw⟩ := DataW.trod_int ht h
  have hw2 : (decide (IntKind.u8.min ≤ n) && decide (n ≤ IntKind.u8.max)) = true := hw
  rw [show IntKind.u8.min = 0 from rfl, show IntKind.u8.max = 255 from rfl] at hw2
  simp at hw2
  have hn : ((UInt8.ofNat n.toNat).toNat : Int) = n := by
    rw [UInt8.toNat_ofNat']
    omega
  refine ⟨UInt8.ofNat n.toNat, ⟨[], rfl, ?_⟩, ?_⟩
  · show [Value.int .u8 n] = [Value.int .u8 ((UInt8.ofNat n.toNat).toNat : Int)]
    rw [hn]
  · show (Lit.int .u8 ((UInt8.ofNat n.toNat).toNat : Int)).wf = true
    rw [hn]
    exact hw
theorem cellsOf_u8 : Try.prog.cellsOf 5 = 1 := by kernel_rfl
theorem rd_Su8 {H : Type} {enc : TypeId × Value → H} {w : World} {spare : Nat → Bool} (fuel : Nat) : Rdg enc Try.prog w spare (fun l : List UInt8 => .sl (l.map lu8)) 22 fuel := rd_slice Try.underlying22 cellsOf_u8 (fun y => rfl) (by omega) fuel fun n _ => rd_u8 Try.underlying5 n
theorem valid_at {l : List GCell} (h : validNb l = true) {k : Nat} (hk : k < l.length) : validCell l[k] = true ∧ cellIdx l (l[k]).id = (k : Int) := by
  have : ∀ (r : List GCell) (j : Nat), validFrom l r j = true → ∀ (i : Nat) (hi : i < r.length), validCell r[i] = true ∧ cellIdx l (r[i]).id = ((j + i : Nat) : Int) := by
    intro r
    induction r with
    | nil => intro j _ i hi; simp at hi
    | cons c r ih =>
      intro j hv i hi
      simp only [validFrom, Bool.and_eq_true] at hv
      cases i with
      | zero => exact ⟨hv.1.1, by simpa using hv.1.2⟩
      | succ i =>
        have := ih _ hv.2 i (by simpa using hi)
        refine ⟨by simpa using this.1, ?_⟩
        rw [show j + (i + 1) = j + 1 + i by omega]
        simpa using this.2
  unfold validNb at h
  simp only [Bool.and_eq_true] at h
  have h2 := this l 0 h.1 k hk
  simpa using h2
theorem valid_print {x : GCell} (h : validCell x = true) : printable x.code = true := by
  unfold validCell at h
  simp only [Bool.and_eq_true] at h
  exact h.1.2
def ic_big : IC := (.seq (.reg false [⟨(some 2), none, .mov (.k (.bool false))⟩]) (.seq (.reg false [⟨(some 3), none, .mov (.t 0)⟩, ⟨(some 4), none, .len false (.t 3)⟩, ⟨(some 5), none, .bin .gtr (.t 4) (.k (.int .i64 1048576))⟩, ⟨(some 2), none, .mov (.t 5)⟩]) .ret))
theorem ic_big_ok : compC Try.prog (Try.f7.body.getD .skip) = some ic_big := by kernel_rfl
theorem big_to (l : List UInt8) : CallsTo Try.prog 7 [.sl (l.map lu8)] (.c false [.raw (.bool (decide ((l.length : Int) > 1048576)))]) := by
  refine calls_one (fn := Try.f7) (t := 2) (by kernel_rfl) (by kernel_rfl) (by kernel_rfl) ic_big_ok ?_
  unfold ic_big
  change AWP _ _ _ (st0 6 _)
  simp only [undef, stS, st0, stN, D.av, D.avN, sl_agg, leaf_agg, li_agg, ls_agg, sl_acs, leaf_acs, li_acs, ls_acs, dE_acs, dE_agg, dE_flat, List.map_cons, List.map_nil, List.replicate, List.cons_append, List.nil_append, List.length_cons, List.length_nil, Nat.reduceAdd, Nat.reduceSub]
  repeat' (first | (with_reducible first | refine awp_seq ?_ | refine awp_block ?_ | refine awp_skip ?_ | refine awp_exit ?_ | refine awp_ret ?_ | refine athen ?_ | refine thenExit ?_ | refine thenRet ?_ | refine blockNormal ?_ | refine blockExit ?_ | refine blockRet ?_ | refine roundExit ?_ | refine roundRet ?_ | refine roundExitR ?_ | refine roundRetR ?_) | ((with_reducible refine blockPass ?_ ?_); rfl) | ((with_reducible refine awp_condT ?_ ?_); rfl) | ((with_reducible refine awp_condF ?_ ?_); rfl) | (with_reducible (refine awp_condS rfl ?_ ?_); all_goals (intro hb; have hb' := hb; (try simp only [pkC] at hb'); first | (exfalso; omega) | skip)) | ((with_reducible refine awp_reg ?_); intro K hK) | ((with_reducible refine hK _ ?_); clear hK K) | (with_reducible refine and_split ?_ ?_) | ((with_reducible refine sw_id ?_); simp (disch := first | decide | omega) only [↓pkS, pkW, pkA, pkZ, List.flatMap_cons, List.flatMap_nil, List.append_nil, linSrc, lvD, lcD, lvK, lcK, capsOf, ex, kav, gdA, opI, rawI, vbin, srcOf, AV.toD, AC.toD, AV.nw, AC.nw, AC.one, Value.oneCell', if_true, if_false, Bool.false_eq_true, fillA, D.one, D.sz, Nat.reduceAdd, Nat.reduceSub, Nat.reduceLeDiff, Nat.reduceEqDiff, reduceIte, pkN, Int.reduceLT, Int.reduceLE, li_acs, ls_acs, AV.fl, AC.fl, AV.shift, AC.shift, List.map_cons, List.map_nil, List.set_cons_zero, List.set_cons_succ, List.append_nil, dE_acs, dE_agg, dE_flat, curC, dE, dC_acs, dC_agg, dC_flat, dC, leaf_acs, GCell.acs_eq, GCell.flat_eq, GCell.agg_eq, List.take_succ_cons, List.take_zero, szle, Int.toNat_natCast, List.length_map, List.length_cons, List.length_nil, List.drop_succ_cons, List.drop_zero, List.cons_append, List.nil_append, Nat.reduceAdd, Nat.zero_add, Nat.add_zero, GNb.acs_eq, GNb.flat_eq, GNb.agg_eq]) | (exact GCell.el _) | exact bndQ | exact argsQ)
  exact endRet ⟨_, rfl, ⟨rfl, trivial⟩⟩
end Go.Proofs.Ytnongnchpplacaa

