/-
  Joined strings: the program.
-/
import Derived.Test.YtdjcflnemnknaaaDoorFmt
import Derived.Lib.Join
namespace Go.Proofs.YtdjcflnemnknaaaDoor
open Go.RowKit
set_option linter.unusedSimpArgs false
set_option linter.unusedVariables false
theorem join_cons2 (x y : List UInt8) (r : List (List UInt8)) (sep : List UInt8) : Lib.join (x :: y :: r) sep = x ++ (sep ++ Lib.join (y :: r) sep) := by
  simp [Lib.join, List.intercalate, List.intersperse]
theorem join_snoc (sep x : List UInt8) : ∀ (xs : List (List UInt8)), Lib.join (xs ++ [x]) sep = Lib.join xs sep ++ ((if 0 < xs.length then sep else []) ++ x)
  | [] => by simp [Lib.join, List.intercalate]
  | [y] => by simp [Lib.join, List.intercalate, List.intersperse]
  | y :: z :: r => by
    have ih := join_snoc sep x (z :: r)
    simp only [List.cons_append] at ih ⊢
    rw [join_cons2, join_cons2, ih]
    simp
theorem joinK_join (l : List ByteArray) (b : ByteArray) : ∀ k, k ≤ l.length → joinK l b k = Lib.join ((l.take k).map (·.data.toList)) b.data.toList
  | 0, _ => by simp [joinK, Lib.join, List.intercalate]
  | k + 1, h => by
    rw [List.take_succ_eq_append_getElem (by omega), List.map_append, List.map_cons, List.map_nil, join_snoc, ← joinK_join l b k (by omega), joinK]
    simp [List.getD_eq_getElem?_getD, show k < l.length by omega, Nat.min_eq_left (show k ≤ l.length by omega)]
theorem joinB_eq (l : List ByteArray) (b : ByteArray) : joinB l b = ⟨(Lib.join (l.map (·.data.toList)) b.data.toList).toArray⟩ := by
  unfold joinB
  rw [joinK_join l b l.length (Nat.le_refl _), List.take_length]
theorem joinB_size (l : List ByteArray) (b : ByteArray) : (joinB l b).size = (joinK l b l.length).length := by simp [joinB, ByteArray.size]
theorem joinK_bound {l : List ByteArray} {b : ByteArray} {m : Nat} (h : ∀ s ∈ l, s.size ≤ m) : ∀ k, (joinK l b k).length ≤ k * (m + b.size)
  | 0 => by simp [joinK]
  | k + 1 => by
    have ih := joinK_bound (b := b) h k
    rw [joinK, List.length_append, List.length_append, Nat.succ_mul]
    have h1 : (if 0 < k then b.data.toList else []).length ≤ b.size := by split <;> simp
    have h2 : (l.getD k ⟨#[]⟩).data.toList.length ≤ m := by
      by_cases hk : k < l.length
      · rw [List.getD_eq_getElem?_getD, List.getElem?_eq_getElem hk]
        have := h _ (List.getElem_mem hk)
        simpa using this
      · rw [List.getD_eq_getElem?_getD, List.getElem?_eq_none (by omega)]
        simp
    omega
theorem rs_strs {w : World} : ∀ {l : List ByteArray} {fp : List Nat} {cs : List Value}, Rs w (l.map ls) fp cs → cs = l.map Value.string
  | [], _, _, h => h.2
  | s :: l, fp, cs, h => by
    rw [List.map_cons, show ls s = .leaf (.string s) from rfl, Rs_leaf] at h
    obtain ⟨c, rfl, h2⟩ := h
    rw [rs_strs h2]
    rfl
theorem sjoin_to (l : List ByteArray) (b : ByteArray) (hb : (joinK l b l.length).length ≤ 1073741824) (hn : l.length ≤ 4194304) : CallsTo Tryd.prog 87 [.sl (l.map ls), ls b] (.c false [.raw (.string (joinB l b))]) := to_retB fun w vs hr => by
  obtain ⟨v, u, rfl, h1, h2⟩ := rds2 hr
  obtain ⟨fp, hS⟩ := rd_sl h1
  obtain rfl := rd_leaf h2
  unfold Sl at hS
  rw [R] at hS
  obtain ⟨Ad, cap, hv, hc, _, h3⟩ := hS
  simp only [List.cons.injEq, and_true, List.length_map] at hv hc
  subst hv
  rcases h3 with ⟨h4, _⟩ | ⟨bk, o, fp', cs', rfl, rfl, hbk, hrs, hat⟩
  · obtain rfl : l = [] := by simpa using h4
    exact (Tryd.strings_Join_none Ad cap b w).mono fun e w' ⟨he, hw⟩ => ⟨he, hw ▸ Below.refl _ _⟩
  · have e := rs_strs hrs
    subst e
    have hj : joinK l b l.length = Lib.join (l.map (·.data.toList)) b.data.toList := by
      have := joinK_join l b l.length (Nat.le_refl _)
      rwa [List.take_length] at this
    rw [joinB_eq]
    exact Tryd.strings_Join bk o cap l b w (fun j x hx => hat j _ (by rw [List.getElem?_map, hx]; rfl)) hbk (by omega) hc (by rw [← hj]; omega)
def ic_join_impl : IC := (.seq (.reg false [⟨(some 4), none, .mov (.k (.string ⟨#[]⟩))⟩]) (.seq (.reg false [⟨(some 5), none, .mov (.t 0)⟩, ⟨(some 6), none, .mov (.t 1)⟩, ⟨(some 7), none, .call 87 [(.t 5), (.t 6)]⟩, ⟨(some 4), none, .mov (.t 7)⟩]) .ret))
theorem ic_join_impl_ok : compC Tryd.prog (Tryd.f50.body.getD .skip) = some ic_join_impl := by kernel_rfl
theorem join_impl_to (l : List ByteArray) (b : ByteArray) (hb : (joinK l b l.length).length ≤ 1073741824) (hn : l.length ≤ 4194304) : CallsTo Tryd.prog 50 [.sl (l.map ls), ls b] (.c false [.raw (.string (joinB l b))]) := by
  refine calls_one (fn := Tryd.f50) (t := 4) (by kernel_rfl) (by kernel_rfl) (by kernel_rfl) ic_join_impl_ok ?_
  unfold ic_join_impl
  change AWP _ _ _ (st0 8 _)
  simp only [undef, stS, st0, stN, D.av, D.avN, sl_agg, leaf_agg, li_agg, ls_agg, sl_acs, leaf_acs, li_acs, ls_acs, GRow.acs_eq, GRow.flat_eq, GRow.agg_eq, GVal.acs_eq, GVal.flat_eq, GVal.agg_eq, List.map_cons, List.map_nil, List.replicate, List.cons_append, List.nil_append, List.length_cons, List.length_nil, Nat.reduceAdd, Nat.reduceSub]
  have hi := sjoin_to l b hb hn
  repeat' (first | (with_reducible first | refine awp_seq ?_ | refine awp_block ?_ | refine awp_skip ?_ | refine awp_exit ?_ | refine awp_ret ?_ | refine athen ?_ | refine thenExit ?_ | refine thenRet ?_ | refine blockNormal ?_ | refine blockExit ?_ | refine blockRet ?_ | refine roundExit ?_ | refine roundRet ?_ | refine roundExitR ?_ | refine roundRetR ?_) | ((with_reducible refine blockPass ?_ ?_); rfl) | ((with_reducible refine awp_condT ?_ ?_); rfl) | ((with_reducible refine awp_condF ?_ ?_); rfl) | (with_reducible (refine awp_condS rfl ?_ ?_); all_goals (intro hb; have hb' := hb; (try simp only [pkC] at hb'); first | (exfalso; omega) | skip)) | ((with_reducible refine awp_reg ?_); intro K hK) | ((with_reducible refine hK _ ?_); clear hK K) | (with_reducible refine and_split ?_ ?_) | ((with_reducible refine ct_id ?_); first | (refine callThen hi trivial ?_ ?_)) | ((with_reducible refine ctd_id ?_); first | (refine callThenD hi trivial ?_ ?_)) | ((with_reducible refine sw_id ?_); simp (disch := first | decide | omega) only [↓pkS, pkW, pkA, undef, capsOf, ex, St.put, St.ev, kav, gdA, opI, rawI, vbin, srcOf, avsD, acsD, AV.toD, AC.toD, AV.nw, AC.nw, AC.one, Value.oneCell', fillA, D.one, D.ones, D.sz, D.szs, Nat.reduceAdd, Nat.reduceSub, Nat.reduceLeDiff, Nat.reduceEqDiff, reduceIte, pkN, li_acs, ls_acs, sl_acs, GRow.acs_eq, GRow.flat_eq, GRow.agg_eq, GRow.el, GVal.acs_eq, GVal.flat_eq, GVal.agg_eq, el_ints, el_strs]) | (first | (with_reducible rfl) | (with_reducible refine fnok_id ?_; kernel_rfl) | exact el_strs _ | exact el_ints _ | exact el_ln _ | exact el_tk _ _ | exact el_td _ _ _ | omega | (simp; done) | (simp; omega)) | ((with_reducible refine args_id ?_); simp [ArgsOk, ArgOk, argsD, argD, AC.toD, Value.oneCell', sl_flat, leaf_flat, li_flat, ls_flat, sl_agg, leaf_agg, li_agg, ls_agg, mo_t, mo_f, li_acs, ls_acs, sl_acs, GRow.acs_eq, GRow.flat_eq, GRow.agg_eq, GRow.el, GVal.acs_eq, GVal.flat_eq, GVal.agg_eq, el_ints, el_strs]; first | done | rfl))
  exact endRet ⟨_, rfl, rfl, trivial⟩
end Go.Proofs.YtdjcflnemnknaaaDoor
