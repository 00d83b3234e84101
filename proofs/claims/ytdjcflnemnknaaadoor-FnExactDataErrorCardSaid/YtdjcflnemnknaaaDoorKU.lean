/-
  Texts joined: Prs1 Prs2 Prs3.
-/
import Derived.Test.YtdjcflnemnknaaaDoorKS
namespace Go.Proofs.YtdjcflnemnknaaaDoor
open Go.RowKit
set_option linter.unusedSimpArgs false
set_option linter.unusedVariables false
/-! ### The program -/
set_option maxHeartbeats 2000000 in
theorem parse_any (s : ByteArray) (lo hi : Int) (hs : s.size ≤ 1048576) (w : World) (ht : TabP w) : Calls Tryd.prog 91 #[.string s, .int .i64 lo, .int .i64 hi] w fun e w' => e = .returned (.tuple #[.int .i64 (rdN lo hi s).1, .bool (rdN lo hi s).2]) ∧ Below w.heap.size w w' := by
  obtain ⟨hp, ⟨ev0, hv0, he0⟩, ⟨ev1, hv1, he1⟩, _⟩ := id ht
  cases h : Lib.atoiAll s.data.toList with
  | ok v =>
    obtain ⟨hb0, hb1⟩ := Lib.atoiAll_bounds h
    by_cases hlo : v < lo
    · have hr : rdN lo hi s = (0, false) := by unfold rdN; rw [h]; simp only; rw [if_neg (by omega)]
      rw [hr]
      go_enter Tryd.func91, Tryd.ntmps91
      go_wp2_with (go_at_call 117; refine (Tryd.strconv_Atoi_ok s (by omega) v h _).mono ?_; rintro e w' ⟨rfl, hw⟩)
      have hB : Below w.heap.size w w' := by
        rcases hw with rfl | ⟨t, rfl⟩
        · exact Below.refl _ _
        · exact Lib.bytesWorld_below _ _ _
      go_wp2
      go_ret2
      exact ⟨rfl, hB⟩
    by_cases hhi : hi < v
    · have hr : rdN lo hi s = (0, false) := by unfold rdN; rw [h]; simp only; rw [if_neg (by omega)]
      rw [hr]
      go_enter Tryd.func91, Tryd.ntmps91
      go_wp2_with (go_at_call 117; refine (Tryd.strconv_Atoi_ok s (by omega) v h _).mono ?_; rintro e w' ⟨rfl, hw⟩)
      have hB : Below w.heap.size w w' := by
        rcases hw with rfl | ⟨t, rfl⟩
        · exact Below.refl _ _
        · exact Lib.bytesWorld_below _ _ _
      go_wp2
      go_ret2
      exact ⟨rfl, hB⟩
    have hIt : ∀ W, TabP W → Calls Tryd.prog 74 #[.int .i64 v] W (RetB (.string (fmtI v)) W) := fun W hW => of_raw (itoa_to hb0 hb1) (vs := [.int .i64 v]) ⟨rd_of_leaf _, trivial⟩ hW
    by_cases heq : fmtI v = s
    · have hr : rdN lo hi s = (v, true) := rdN_some hb0 hb1 (by omega) (by omega) heq
      have hq : ((fmtI v).toList == s.toList) = true := by rw [heq]; simp
      rw [hr]
      go_enter Tryd.func91, Tryd.ntmps91
      go_wp2_with (go_at_call 117; refine (Tryd.strconv_Atoi_ok s (by omega) v h _).mono ?_; rintro e w' ⟨rfl, hw⟩)
      have hB : Below w.heap.size w w' := by
        rcases hw with rfl | ⟨t, rfl⟩
        · exact Below.refl _ _
        · exact Lib.bytesWorld_below _ _ _
      clear hw
      go_wp2_with (go_at_call 74; refine (hIt _ (tab_stay ht hB)).mono ?_; rintro e w2 ⟨rfl, hB2⟩)
      go_wp2
      go_ret2
      exact ⟨rfl, hB.trans (hB2.mono hB.size)⟩
    · have hr : rdN lo hi s = (0, false) := by unfold rdN; rw [h]; simp only; rw [if_neg (fun hc => heq hc.2.2)]
      have hq : ((fmtI v).toList == s.toList) = false := by
        rw [beq_eq_false_iff_ne]
        exact fun e => heq (bytes_inj.1 e)
      rw [hr]
      go_enter Tryd.func91, Tryd.ntmps91
      go_wp2_with (go_at_call 117; refine (Tryd.strconv_Atoi_ok s (by omega) v h _).mono ?_; rintro e w' ⟨rfl, hw⟩)
      have hB : Below w.heap.size w w' := by
        rcases hw with rfl | ⟨t, rfl⟩
        · exact Below.refl _ _
        · exact Lib.bytesWorld_below _ _ _
      clear hw
      go_wp2_with (go_at_call 74; refine (hIt _ (tab_stay ht hB)).mono ?_; rintro e w2 ⟨rfl, hB2⟩)
      go_wp2
      go_ret2
      exact ⟨rfl, hB.trans (hB2.mono hB.size)⟩
  | «syntax» =>
    have hr : rdN lo hi s = (0, false) := by unfold rdN; rw [h]
    rw [hr]
    go_enter Tryd.func91, Tryd.ntmps91
    go_wp2_with (go_at_call 117; refine (Tryd.strconv_Atoi_syntax s (by omega) h ev0 _ ?_ he0).mono ?_)
    · exact hv0
    rintro e W1 ⟨N, rfl, -, -, hb⟩
    go_wp2
    go_ret2
    exact ⟨rfl, hb⟩
  | range =>
    have hr : rdN lo hi s = (0, false) := by unfold rdN; rw [h]
    rw [hr]
    go_enter Tryd.func91, Tryd.ntmps91
    go_wp2_with (go_at_call 117; refine (Tryd.strconv_Atoi_range s (by omega) h ev1 _ ?_ he1).mono ?_)
    · exact hv1
    rintro e W1 ⟨N, rfl, -, -, hb⟩
    go_wp2
    go_ret2
    exact ⟨rfl, hb⟩
abbrev pairIB (p : Int × Bool) : AV := .tup [(false, [.raw (.int .i64 p.1)]), (false, [.raw (.bool p.2)])]
theorem parse_to (s : ByteArray) (lo hi : Int) (hs : s.size ≤ 1048576) : CallsTo Tryd.prog 91 [ls s, li lo, li hi] (pairIB (rdN lo hi s)) := fun w vs hr ht => by
  obtain ⟨v, u, z, rfl, h1, h2, h3⟩ := rds3 hr
  obtain rfl := rd_leaf h1
  obtain rfl := rd_leaf h2
  obtain rfl := rd_leaf h3
  exact (parse_any s lo hi hs w ht).mono fun e w' ⟨he, hb⟩ => ⟨_, he, ⟨[.int .i64 (rdN lo hi s).1, .bool (rdN lo hi s).2], rfl, ⟨rfl, trivial⟩, ⟨rfl, trivial⟩, trivial⟩, hb⟩
/-! ### Pieces -/
theorem rs_of_strs {w : World} : ∀ (l : List ByteArray), Rs w (l.map ls) [] (l.map Value.string)
  | [] => ⟨rfl, rfl⟩
  | s :: l => ⟨[], [], [.string s], l.map Value.string, rfl, rfl, ⟨rfl, rfl⟩, rs_of_strs l⟩
theorem to_tosT {P : Program} {f : Nat} {ds l : List D} (h : ∀ w vs, Rds w ds vs → TabP w → Calls P f vs.toArray w (TosPost l w)) : CallsTo P f ds (.c false [.sl true l]) := fun w vs hr ht => (h w vs hr ht).mono fun e w' ⟨fp, v, h1, h2, h3, h4⟩ =>
  ⟨v, h1, ⟨⟨fp, h2, fun b hb => ⟨newEnv_M.2 (h3.2 b hb).1, fun _ => Or.inl (h3.2 b hb).1⟩⟩, trivial⟩, h4⟩
theorem cut_len (sep s : ByteArray) (h1 : 1 ≤ sep.size) : (cut sep s).length = Lib.countB s sep + 1 := Lib.splitB_all sep h1 0 _ s rfl
theorem cut_le (sep s : ByteArray) (h1 : 1 ≤ sep.size) : (cut sep s).length ≤ s.size + 1 := by
  rw [cut_len sep s h1]
  have := Lib.countB_le sep h1 s.size s (Nat.le_refl _)
  omega
theorem split_to (s sep : ByteArray) (hs : s.size ≤ 1048576) (h1 : 1 ≤ sep.size) : CallsTo Tryd.prog 62 [ls s, ls sep] (.c false [.sl true ((cut sep s).map ls)]) := to_tosT fun w vs hr ht => by
  obtain ⟨v, u, rfl, g1, g2⟩ := rds2 hr
  obtain rfl := rd_leaf g1
  obtain rfl := rd_leaf g2
  obtain ⟨_, _, _, m, hm⟩ := ht
  refine (Tryd.strings_Split s sep m w (by omega) hm h1).mono ?_
  rintro e w' ⟨rfl, rfl⟩
  have hl := cut_len sep s h1
  have hle := cut_le sep s h1
  have hrow := Row.new w 9 ((cut sep s).map Value.string).toArray
  rw [List.toList_toArray] at hrow
  have hS := Sl.of_row (n := Lib.countB s sep + 1) hrow (rs_of_strs (cut sep s)) (by rw [List.length_map, hl]) (by unfold maxLen; omega)
  exact ⟨[w.heap.size], _, rfl, hS, Free.cons_row hrow (Nat.le_refl _) Free.nil, (Below.refl _ _).alloc (Nat.le_refl _) _⟩
def ic_spl_impl : IC := (.seq (.reg false [⟨(some 4), none, .mov (.k (.slice none 0 0))⟩]) (.seq (.reg false [⟨(some 5), none, .mov (.t 0)⟩, ⟨(some 6), none, .mov (.t 1)⟩, ⟨(some 7), none, .brow true 5 1 1 false [(.t 6)]⟩, ⟨(some 8), none, .cvs (.t 7)⟩, ⟨(some 9), none, .call 62 [(.t 5), (.t 8)]⟩, ⟨(some 4), none, .mov (.t 9)⟩]) .ret))
theorem ic_spl_impl_ok : compC Tryd.prog (Tryd.f63.body.getD .skip) = some ic_spl_impl := by kernel_rfl
theorem splitByte_impl_to (s : ByteArray) (c : UInt8) (hs : s.size ≤ 1048576) : CallsTo Tryd.prog 63 [ls s, lu8 c] (.c false [.sl true ((cut ⟨#[c]⟩ s).map ls)]) := by
  refine calls_one (fn := Tryd.f63) (t := 4) (by kernel_rfl) (by kernel_rfl) (by kernel_rfl) ic_spl_impl_ok ?_
  unfold ic_spl_impl
  change AWP _ _ _ (st0 10 _)
  unfold lu8
  simp only [undef, stS, st0, stN, D.av, D.avN, sl_agg, leaf_agg, li_agg, ls_agg, sl_acs, leaf_acs, li_acs, ls_acs, List.map_cons, List.map_nil, List.replicate, List.cons_append, List.nil_append, List.length_cons, List.length_nil, Nat.reduceAdd, Nat.reduceSub]
  have hi := split_to s ⟨#[c]⟩ hs (Nat.le_refl 1)
  have hb : bytesD [.leaf (.int .u8 (c.toNat : Int))] = some [c] := bytesD_map [c]
  repeat' (first | (with_reducible first | refine awp_seq ?_ | refine awp_block ?_ | refine awp_skip ?_ | refine awp_exit ?_ | refine awp_ret ?_ | refine athen ?_ | refine thenExit ?_ | refine thenRet ?_ | refine blockNormal ?_ | refine blockExit ?_ | refine blockRet ?_ | refine roundExit ?_ | refine roundRet ?_ | refine roundExitR ?_ | refine roundRetR ?_) | ((with_reducible refine blockPass ?_ ?_); rfl) | ((with_reducible refine awp_condT ?_ ?_); rfl) | ((with_reducible refine awp_condF ?_ ?_); rfl) | (with_reducible (refine awp_condS rfl ?_ ?_); all_goals (intro hb; have hb' := hb; (try simp only [pkC] at hb'); first | (exfalso; omega) | skip)) | ((with_reducible refine awp_reg ?_); intro K hK) | ((with_reducible refine hK _ ?_); clear hK K) | (with_reducible refine and_split ?_ ?_) | ((with_reducible refine ct_id ?_); first | (refine callThen hi trivial ?_ ?_)) | ((with_reducible refine ctd_id ?_); first | (refine callThenD hi trivial ?_ ?_)) | ((with_reducible refine sw_id ?_); simp (disch := first | decide | omega) only [↓pkS, pkW, pkA, undef, capsOf, ex, St.put, St.ev, kav, gdA, opI, rawI, vbin, srcOf, avsD, acsD, AV.toD, AC.toD, AV.nw, AC.nw, AC.one, Value.oneCell', fillA, D.one, D.ones, D.sz, D.szs, Nat.reduceAdd, Nat.reduceSub, Nat.reduceLeDiff, Nat.reduceEqDiff, reduceIte, pkN, li_acs, ls_acs, sl_acs, el_ints, el_strs, hb]) | (first | (with_reducible rfl) | (with_reducible refine fnok_id ?_; kernel_rfl) | exact el_strs _ | exact el_ints _ | exact el_ln _ | exact el_tk _ _ | exact el_td _ _ _ | omega | (simp; done) | (simp; omega)) | ((with_reducible refine args_id ?_); simp [ArgsOk, ArgOk, argsD, argD, AC.toD, Value.oneCell', sl_flat, leaf_flat, li_flat, ls_flat, sl_agg, leaf_agg, li_agg, ls_agg, mo_t, mo_f, li_acs, ls_acs, sl_acs, el_ints, el_strs, hb]; first | done | rfl))
  exact endRet ⟨_, rfl, ⟨rfl, rfl⟩, trivial⟩
/-- The reference's way through a string: the pieces laid so far, and where the next one begins. -/
def SplAt (s : ByteArray) (c : UInt8) (i k : Nat) (l : List ByteArray) : Prop :=
  l.length ≤ i ∧ ((i ≤ s.size ∧ k ≤ i ∧ (∀ j, k ≤ j → j < i → Lib.occAt s.data.toList [c] j = false) ∧ l ++ cut ⟨#[c]⟩ (s.extract k s.size) = cut ⟨#[c]⟩ s) ∨ (i = s.size + 1 ∧ l = cut ⟨#[c]⟩ s))
theorem SplAt.start (s : ByteArray) (c : UInt8) : SplAt s c 0 0 [] := ⟨Nat.le_refl _, Or.inl ⟨Nat.zero_le _, Nat.le_refl _, fun j _ h => absurd h (Nat.not_lt_zero _), by rw [ext_self]; rfl⟩⟩
theorem SplAt.last {s : ByteArray} {c : UInt8} {k : Nat} {l : List ByteArray} (h : SplAt s c s.size k l) : SplAt s c (s.size + 1) (s.size + 1) (l ++ [s.extract k s.size]) := by
  obtain ⟨h1, ⟨h2, h3, h4, h5⟩ | ⟨h2, _⟩⟩ := h
  · refine ⟨by simp; omega, Or.inr ⟨rfl, ?_⟩⟩
    rw [← h5, cut_miss s ⟨#[c]⟩ (fun j hj hj2 => ?_) h3]
    rcases Nat.lt_or_ge j s.size with hlt | hge
    · exact h4 j hj hlt
    · exact occ1_end s c hge
  · omega
theorem SplAt.hit {s : ByteArray} {c : UInt8} {i k : Nat} {l : List ByteArray} (h : SplAt s c i k l) (hi : i < s.size) (hc : s[i] = c) : SplAt s c (i + 1) (i + 1) (l ++ [s.extract k i]) := by
  obtain ⟨h1, ⟨h2, h3, h4, h5⟩ | ⟨h2, _⟩⟩ := h
  · refine ⟨by simp; omega, Or.inl ⟨by omega, Nat.le_refl _, fun j hj hj2 => by omega, ?_⟩⟩
    rw [← h5, cut_hit s ⟨#[c]⟩ (Nat.le_refl 1) h3 (show i + 1 ≤ s.size by omega) h4 ((occ1 s c hi).trans (by simp [hc]))]
    simp
    rfl
  · omega
theorem SplAt.miss {s : ByteArray} {c : UInt8} {i k : Nat} {l : List ByteArray} (h : SplAt s c i k l) (hi : i < s.size) (hc : s[i] ≠ c) : SplAt s c (i + 1) k l := by
  obtain ⟨h1, ⟨h2, h3, h4, h5⟩ | ⟨h2, _⟩⟩ := h
  · refine ⟨by omega, Or.inl ⟨by omega, by omega, fun j hj hj2 => ?_, h5⟩⟩
    by_cases e : j = i
    · subst e
      rw [occ1 s c hi, beq_eq_false_iff_ne]
      exact fun e => hc e.symm
    · exact h4 j hj (by omega)
  · omega
theorem SplAt.k_le {s : ByteArray} {c : UInt8} {i k : Nat} {l : List ByteArray} (h : SplAt s c i k l) (hi : i ≤ s.size) : k ≤ i := by
  obtain ⟨h1, ⟨h2, h3, _⟩ | ⟨h2, _⟩⟩ := h
  · exact h3
  · omega
theorem SplAt.i_le {s : ByteArray} {c : UInt8} {i k : Nat} {l : List ByteArray} (h : SplAt s c i k l) : i ≤ s.size + 1 := by
  obtain ⟨h1, ⟨h2, h3, _⟩ | ⟨h2, _⟩⟩ := h
  · omega
  · omega
theorem SplAt.fin {s : ByteArray} {c : UInt8} {k : Nat} {l : List ByteArray} (h : SplAt s c (s.size + 1) k l) : l = cut ⟨#[c]⟩ s := by
  obtain ⟨h1, ⟨h2, h3, _⟩ | ⟨h2, h3⟩⟩ := h
  · omega
  · exact h3
theorem u8_eq (a b : UInt8) : (((a.toNat : Nat) : Int) == ((b.toNat : Nat) : Int)) = decide (a = b) := by
  by_cases h : a = b
  · subst h; simp
  · rw [decide_eq_false h, beq_eq_false_iff_ne]
    intro e
    exact h (UInt8.toNat_inj.1 (by omega))
theorem data_at {s : ByteArray} {k : Nat} (h : k < s.size) : s.data[k]? = some s[k] := by
  rw [Array.getElem?_eq_getElem (by simpa using h)]
  rfl
theorem zle (k : Nat) : ((0 : Int) ≤ ((k : Nat) : Int)) = True := by simp
def ic_spl_spec : IC := (.seq (.reg false [⟨(some 4), none, .mov (.k (.slice none 0 0))⟩]) (.seq (.reg false [⟨(some 8), none, .brow true 9 1 0 false []⟩, ⟨(some 5), none, .mov (.t 8)⟩]) (.seq (.reg false [⟨(some 6), none, .mov (.k (.int .i64 0))⟩]) (.seq (.seq (.reg false [⟨(some 7), none, .mov (.k (.int .i64 0))⟩]) (.block 0 (.loop (.seq (.seq (.reg false [⟨(some 9), none, .mov (.t 7)⟩, ⟨(some 10), none, .mov (.t 0)⟩, ⟨(some 11), none, .len true (.t 10)⟩, ⟨(some 12), none, .bin .leq (.t 9) (.t 11)⟩]) (.cond (.t 12) .skip (.exit 0))) (.seq (.block 1 (.seq (.reg false [⟨(some 15), none, .mov (.t 7)⟩, ⟨(some 16), none, .mov (.t 0)⟩, ⟨(some 17), none, .len true (.t 16)⟩, ⟨(some 18), none, .bin .eql (.t 15) (.t 17)⟩, ⟨(some 19), none, .mov (.t 18)⟩, ⟨(some 20), (some (19, false)), .mov (.t 0)⟩, ⟨(some 21), (some (19, false)), .mov (.t 7)⟩, ⟨(some 22), (some (19, false)), .sidx (.t 20) (.t 21)⟩, ⟨(some 23), (some (19, false)), .mov (.t 1)⟩, ⟨(some 24), (some (19, false)), .bin .eql (.t 22) (.t 23)⟩, ⟨(some 25), none, .pick (.t 19) (.k (.bool true)) (.t 24)⟩]) (.cond (.t 25) (.seq (.reg false [⟨(some 26), none, .mov (.t 5)⟩, ⟨(some 27), none, .mov (.t 0)⟩, ⟨(some 28), none, .mov (.t 6)⟩, ⟨(some 29), none, .mov (.t 7)⟩, ⟨(some 30), none, .ssl (.t 27) (some (.t 28)) (some (.t 29))⟩, ⟨(some 31), none, .brow false 9 1 1 false [(.t 30)]⟩, ⟨(some 32), none, .app 9 1 (.t 26) (.t 31)⟩, ⟨(some 5), none, .mov (.t 32)⟩]) (.reg false [⟨(some 33), none, .mov (.t 7)⟩, ⟨(some 34), none, .bin .add (.t 33) (.k (.int .i64 1))⟩, ⟨(some 6), none, .mov (.t 34)⟩])) .skip))) (.reg false [⟨(some 13), none, .mov (.t 7)⟩, ⟨(some 14), none, .bin .add (.t 13) (.k (.int .i64 1))⟩, ⟨(some 7), none, .mov (.t 14)⟩])))))) (.seq (.reg false [⟨(some 35), none, .mov (.t 5)⟩, ⟨(some 4), none, .mov (.t 35)⟩]) .ret)))))
theorem ic_spl_spec_ok : compC Tryd.prog (Tryd.f54.body.getD .skip) = some ic_spl_spec := by kernel_rfl
set_option maxHeartbeats 8000000 in
theorem splitByte_spec_to (s : ByteArray) (c : UInt8) (hs : s.size ≤ 1048576) : CallsTo Tryd.prog 54 [ls s, lu8 c] (.c false [.sl true ((cut ⟨#[c]⟩ s).map ls)]) := by
  refine calls_one (fn := Tryd.f54) (t := 4) (by kernel_rfl) (by kernel_rfl) (by kernel_rfl) ic_spl_spec_ok ?_
  unfold ic_spl_spec
  change AWP _ _ _ (st0 36 _)
  unfold lu8
  simp only [undef, stS, st0, stN, D.av, D.avN, sl_agg, leaf_agg, li_agg, ls_agg, sl_acs, leaf_acs, li_acs, ls_acs, List.map_cons, List.map_nil, List.replicate, List.cons_append, List.nil_append, List.length_cons, List.length_nil, Nat.reduceAdd, Nat.reduceSub]
  repeat' (first | (with_reducible first | refine awp_seq ?_ | refine awp_block ?_ | refine awp_skip ?_ | refine awp_exit ?_ | refine awp_ret ?_ | refine athen ?_ | refine thenExit ?_ | refine thenRet ?_ | refine blockNormal ?_ | refine blockExit ?_ | refine blockRet ?_ | refine roundExit ?_ | refine roundRet ?_ | refine roundExitR ?_ | refine roundRetR ?_) | ((with_reducible refine blockPass ?_ ?_); rfl) | ((with_reducible refine awp_condT ?_ ?_); rfl) | ((with_reducible refine awp_condF ?_ ?_); rfl) | (with_reducible (refine awp_condS rfl ?_ ?_); all_goals (intro hb; have hb' := hb; (try simp only [pkC] at hb'); first | (exfalso; omega) | skip)) | ((with_reducible refine awp_reg ?_); intro K hK) | ((with_reducible refine sw_guardT ?_ ?_); rfl) | ((with_reducible refine sw_guardF ?_ ?_); (rfl; try simp only [St.put, undef, pkA, Nat.reduceAdd, Nat.reduceSub, Nat.reduceLeDiff, Nat.reduceEqDiff])) | (with_reducible (refine sw_guardS rfl ?_ ?_); all_goals (intro hb; have hb' := hb; (try simp only [pkC] at hb'); first | (exfalso; omega) | skip)) | ((with_reducible refine hK _ ?_); clear hK K) | (with_reducible refine and_split ?_ ?_) | ((with_reducible refine sw_id ?_); simp (disch := first | decide | omega) only [↓pkS, pkW, pkA, undef, capsOf, ex, St.put, St.ev, kav, gdA, opI, rawI, vbin, srcOf, avsD, acsD, AV.toD, AC.toD, AV.nw, AC.nw, AC.one, Value.oneCell', fillA, D.one, D.ones, D.sz, D.szs, Nat.reduceAdd, Nat.reduceSub, Nat.reduceLeDiff, Nat.reduceEqDiff, reduceIte, pkN, li_acs, ls_acs, sl_acs, el_ints, el_strs]) | (first | (with_reducible rfl) | (with_reducible refine fnok_id ?_; kernel_rfl) | exact el_strs _ | exact el_ints _ | exact el_ln _ | exact el_tk _ _ | exact el_td _ _ _ | omega | (simp; done) | (simp; omega)) | ((with_reducible refine args_id ?_); simp [ArgsOk, ArgOk, argsD, argD, AC.toD, Value.oneCell', sl_flat, leaf_flat, li_flat, ls_flat, sl_agg, leaf_agg, li_agg, ls_agg, mo_t, mo_f, li_acs, ls_acs, sl_acs, el_ints, el_strs]; first | done | rfl))
  refine awp_loopB (X := Nat × Nat × List ByteArray × Nat) (fun q => [.k, .k, .d, .d, .d, .v (.c false [.own 0 q.2.2.2]), .v (.c false [.raw (.int .i64 (q.2.1 : Nat))]), .v (.c false [.raw (.int .i64 (q.1 : Nat))]), .d, .d, .d, .d, .d, .d, .d, .d, .d, .d, .d, .d, .d, .d, .d, .d, .d, .d, .d, .d, .d, .d, .d, .d, .d, .d, .d, .d]) (fun q => [⟨q.2.2.1.map ls, 9, 1, q.2.2.2, true⟩]) (fun q bs => []) (fun q => SplAt s c q.1 q.2.1 q.2.2.1) (fun q => s.size + 1 - q.1) (0, 0, [], 0) (SplAt.start s c) ?_ ?_
  · simp [StLe', FrLe, OwnLe, BoxLe, AV.fits, AC.fits, FB, mask]
  rintro ⟨i, k, l, v⟩ hinv0
  have hinv : SplAt s c i k l := hinv0
  clear hinv0
  simp only [FB, mask]
  have hil := hinv.i_le
  have hll : l.length ≤ 1048577 := by have := hinv.1; omega
  by_cases hi : i ≤ s.size
  case neg =>
    obtain rfl : i = s.size + 1 := by omega
    have e0 : decide ((((s.size + 1 : Nat)) : Int) ≤ (s.size : Int)) = false := decide_eq_false (by omega)
    have hfin := hinv.fin
    subst hfin
    repeat' (first | (with_reducible first | refine awp_seq ?_ | refine awp_block ?_ | refine awp_skip ?_ | refine awp_exit ?_ | refine awp_ret ?_ | refine athen ?_ | refine thenExit ?_ | refine thenRet ?_ | refine blockNormal ?_ | refine blockExit ?_ | refine blockRet ?_ | refine roundExit ?_ | refine roundRet ?_ | refine roundExitR ?_ | refine roundRetR ?_) | ((with_reducible refine blockPass ?_ ?_); rfl) | ((with_reducible refine awp_condT ?_ ?_); rfl) | ((with_reducible refine awp_condF ?_ ?_); rfl) | (with_reducible (refine awp_condS rfl ?_ ?_); all_goals (intro hb; have hb' := hb; (try simp only [pkC] at hb'); first | (exfalso; omega) | skip)) | ((with_reducible refine awp_reg ?_); intro K hK) | ((with_reducible refine sw_guardT ?_ ?_); rfl) | ((with_reducible refine sw_guardF ?_ ?_); (rfl; try simp only [St.put, undef, pkA, Nat.reduceAdd, Nat.reduceSub, Nat.reduceLeDiff, Nat.reduceEqDiff])) | (with_reducible (refine sw_guardS rfl ?_ ?_); all_goals (intro hb; have hb' := hb; (try simp only [pkC] at hb'); first | (exfalso; omega) | skip)) | ((with_reducible refine hK _ ?_); clear hK K) | (with_reducible refine and_split ?_ ?_) | ((with_reducible refine sw_id ?_); simp (disch := first | decide | omega) only [↓pkS, pkW, pkA, undef, capsOf, ex, St.put, St.ev, kav, gdA, opI, rawI, vbin, srcOf, avsD, acsD, AV.toD, AC.toD, AV.nw, AC.nw, AC.one, Value.oneCell', fillA, D.one, D.ones, D.sz, D.szs, Nat.reduceAdd, Nat.reduceSub, Nat.reduceLeDiff, Nat.reduceEqDiff, reduceIte, pkN, li_acs, ls_acs, sl_acs, el_ints, el_strs, e0]) | (first | (with_reducible rfl) | (with_reducible refine fnok_id ?_; kernel_rfl) | exact el_strs _ | exact el_ints _ | exact el_ln _ | exact el_tk _ _ | exact el_td _ _ _ | omega | (simp; done) | (simp; omega)) | ((with_reducible refine args_id ?_); simp [ArgsOk, ArgOk, argsD, argD, AC.toD, Value.oneCell', sl_flat, leaf_flat, li_flat, ls_flat, sl_agg, leaf_agg, li_agg, ls_agg, mo_t, mo_f, li_acs, ls_acs, sl_acs, el_ints, el_strs, e0]; first | done | rfl))
    exact endRet ⟨_, rfl, ⟨_, rfl, rfl, rfl, Or.inl rfl⟩, trivial⟩
  have hk := hinv.k_le hi
  have e1 : decide ((i : Int) ≤ (s.size : Int)) = true := decide_eq_true (by omega)
  by_cases he : i = s.size
  · have e2 : ((i : Int) == (s.size : Int)) = true := by simp [he]
    have hn := hinv
    rw [he] at hn
    have hn2 := hn.last
    rw [← he] at hn2
    have hse : (l ++ [s.extract k i]).map ls = l.map ls ++ [ls (s.extract k i)] := by simp
    repeat' (first | (with_reducible first | refine awp_seq ?_ | refine awp_block ?_ | refine awp_skip ?_ | refine awp_exit ?_ | refine awp_ret ?_ | refine athen ?_ | refine thenExit ?_ | refine thenRet ?_ | refine blockNormal ?_ | refine blockExit ?_ | refine blockRet ?_ | refine roundExit ?_ | refine roundRet ?_ | refine roundExitR ?_ | refine roundRetR ?_) | ((with_reducible refine blockPass ?_ ?_); rfl) | ((with_reducible refine awp_condT ?_ ?_); rfl) | ((with_reducible refine awp_condF ?_ ?_); rfl) | (with_reducible (refine awp_condS rfl ?_ ?_); all_goals (intro hb; have hb' := hb; (try simp only [pkC] at hb'); first | (exfalso; omega) | skip)) | ((with_reducible refine awp_reg ?_); intro K hK) | ((with_reducible refine sw_guardT ?_ ?_); rfl) | ((with_reducible refine sw_guardF ?_ ?_); (rfl; try simp only [St.put, undef, pkA, Nat.reduceAdd, Nat.reduceSub, Nat.reduceLeDiff, Nat.reduceEqDiff])) | (with_reducible (refine sw_guardS rfl ?_ ?_); all_goals (intro hb; have hb' := hb; (try simp only [pkC] at hb'); first | (exfalso; omega) | skip)) | ((with_reducible refine hK _ ?_); clear hK K) | (with_reducible refine and_split ?_ ?_) | ((with_reducible refine sw_id ?_); simp (disch := first | decide | omega) only [↓pkS, pkW, pkA, undef, capsOf, ex, St.put, St.ev, kav, gdA, opI, rawI, vbin, srcOf, avsD, acsD, AV.toD, AC.toD, AV.nw, AC.nw, AC.one, Value.oneCell', fillA, D.one, D.ones, D.sz, D.szs, Nat.reduceAdd, Nat.reduceSub, Nat.reduceLeDiff, Nat.reduceEqDiff, reduceIte, pkN, li_acs, ls_acs, sl_acs, el_ints, el_strs, e1, e2, hse]) | (first | (with_reducible rfl) | (with_reducible refine fnok_id ?_; kernel_rfl) | exact el_strs _ | exact el_ints _ | exact el_ln _ | exact el_tk _ _ | exact el_td _ _ _ | omega | (simp; done) | (simp; omega)) | ((with_reducible refine args_id ?_); simp [ArgsOk, ArgOk, argsD, argD, AC.toD, Value.oneCell', sl_flat, leaf_flat, li_flat, ls_flat, sl_agg, leaf_agg, li_agg, ls_agg, mo_t, mo_f, li_acs, ls_acs, sl_acs, el_ints, el_strs, e1, e2, hse]; first | done | rfl))
    refine roundB (i + 1, i + 1, l ++ [s.extract k i], v + 1) ?_ (show SplAt s c (i + 1) (i + 1) (l ++ [s.extract k i]) by exact hn2) (show s.size + 1 - (i + 1) < s.size + 1 - i by omega)
    simp [StLe', FrLe, OwnLe, BoxLe, AV.fits, AC.fits, FB, mask, ls]
  have hlt : i < s.size := by omega
  have e2 : ((i : Int) == (s.size : Int)) = false := beq_f (by omega)
  have hsx := data_at hlt
  have hu := u8_eq s[i] c
  by_cases hc : s[i] = c
  · rw [decide_eq_true hc] at hu
    have hn2 := hinv.hit hlt hc
    have hse : (l ++ [s.extract k i]).map ls = l.map ls ++ [ls (s.extract k i)] := by simp
    repeat' (first | (with_reducible first | refine awp_seq ?_ | refine awp_block ?_ | refine awp_skip ?_ | refine awp_exit ?_ | refine awp_ret ?_ | refine athen ?_ | refine thenExit ?_ | refine thenRet ?_ | refine blockNormal ?_ | refine blockExit ?_ | refine blockRet ?_ | refine roundExit ?_ | refine roundRet ?_ | refine roundExitR ?_ | refine roundRetR ?_) | ((with_reducible refine blockPass ?_ ?_); rfl) | ((with_reducible refine awp_condT ?_ ?_); rfl) | ((with_reducible refine awp_condF ?_ ?_); rfl) | (with_reducible (refine awp_condS rfl ?_ ?_); all_goals (intro hb; have hb' := hb; (try simp only [pkC] at hb'); first | (exfalso; omega) | skip)) | ((with_reducible refine awp_reg ?_); intro K hK) | ((with_reducible refine sw_guardT ?_ ?_); rfl) | ((with_reducible refine sw_guardF ?_ ?_); (rfl; try simp only [St.put, undef, pkA, Nat.reduceAdd, Nat.reduceSub, Nat.reduceLeDiff, Nat.reduceEqDiff])) | (with_reducible (refine sw_guardS rfl ?_ ?_); all_goals (intro hb; have hb' := hb; (try simp only [pkC] at hb'); first | (exfalso; omega) | skip)) | ((with_reducible refine hK _ ?_); clear hK K) | (with_reducible refine and_split ?_ ?_) | ((with_reducible refine sw_id ?_); simp (disch := first | decide | omega) only [↓pkS, pkW, pkA, undef, capsOf, ex, St.put, St.ev, kav, gdA, opI, rawI, vbin, srcOf, avsD, acsD, AV.toD, AC.toD, AV.nw, AC.nw, AC.one, Value.oneCell', fillA, D.one, D.ones, D.sz, D.szs, Nat.reduceAdd, Nat.reduceSub, Nat.reduceLeDiff, Nat.reduceEqDiff, reduceIte, pkN, li_acs, ls_acs, sl_acs, el_ints, el_strs, e1, e2, hsx, hu, zle, Int.toNat_natCast, hse]) | (first | (with_reducible rfl) | (with_reducible refine fnok_id ?_; kernel_rfl) | exact el_strs _ | exact el_ints _ | exact el_ln _ | exact el_tk _ _ | exact el_td _ _ _ | omega | (simp; done) | (simp; omega)) | ((with_reducible refine args_id ?_); simp [ArgsOk, ArgOk, argsD, argD, AC.toD, Value.oneCell', sl_flat, leaf_flat, li_flat, ls_flat, sl_agg, leaf_agg, li_agg, ls_agg, mo_t, mo_f, li_acs, ls_acs, sl_acs, el_ints, el_strs, e1, e2, hsx, hu, zle, Int.toNat_natCast, hse]; first | done | rfl))
    refine roundB (i + 1, i + 1, l ++ [s.extract k i], v + 1) ?_ (show SplAt s c (i + 1) (i + 1) (l ++ [s.extract k i]) by exact hn2) (show s.size + 1 - (i + 1) < s.size + 1 - i by omega)
    simp [StLe', FrLe, OwnLe, BoxLe, AV.fits, AC.fits, FB, mask, ls]
  · rw [decide_eq_false hc] at hu
    have hn2 := hinv.miss hlt hc
    repeat' (first | (with_reducible first | refine awp_seq ?_ | refine awp_block ?_ | refine awp_skip ?_ | refine awp_exit ?_ | refine awp_ret ?_ | refine athen ?_ | refine thenExit ?_ | refine thenRet ?_ | refine blockNormal ?_ | refine blockExit ?_ | refine blockRet ?_ | refine roundExit ?_ | refine roundRet ?_ | refine roundExitR ?_ | refine roundRetR ?_) | ((with_reducible refine blockPass ?_ ?_); rfl) | ((with_reducible refine awp_condT ?_ ?_); rfl) | ((with_reducible refine awp_condF ?_ ?_); rfl) | (with_reducible (refine awp_condS rfl ?_ ?_); all_goals (intro hb; have hb' := hb; (try simp only [pkC] at hb'); first | (exfalso; omega) | skip)) | ((with_reducible refine awp_reg ?_); intro K hK) | ((with_reducible refine sw_guardT ?_ ?_); rfl) | ((with_reducible refine sw_guardF ?_ ?_); (rfl; try simp only [St.put, undef, pkA, Nat.reduceAdd, Nat.reduceSub, Nat.reduceLeDiff, Nat.reduceEqDiff])) | (with_reducible (refine sw_guardS rfl ?_ ?_); all_goals (intro hb; have hb' := hb; (try simp only [pkC] at hb'); first | (exfalso; omega) | skip)) | ((with_reducible refine hK _ ?_); clear hK K) | (with_reducible refine and_split ?_ ?_) | ((with_reducible refine sw_id ?_); simp (disch := first | decide | omega) only [↓pkS, pkW, pkA, undef, capsOf, ex, St.put, St.ev, kav, gdA, opI, rawI, vbin, srcOf, avsD, acsD, AV.toD, AC.toD, AV.nw, AC.nw, AC.one, Value.oneCell', fillA, D.one, D.ones, D.sz, D.szs, Nat.reduceAdd, Nat.reduceSub, Nat.reduceLeDiff, Nat.reduceEqDiff, reduceIte, pkN, li_acs, ls_acs, sl_acs, el_ints, el_strs, e1, e2, hsx, hu, zle, Int.toNat_natCast]) | (first | (with_reducible rfl) | (with_reducible refine fnok_id ?_; kernel_rfl) | exact el_strs _ | exact el_ints _ | exact el_ln _ | exact el_tk _ _ | exact el_td _ _ _ | omega | (simp; done) | (simp; omega)) | ((with_reducible refine args_id ?_); simp [ArgsOk, ArgOk, argsD, argD, AC.toD, Value.oneCell', sl_flat, leaf_flat, li_flat, ls_flat, sl_agg, leaf_agg, li_agg, ls_agg, mo_t, mo_f, li_acs, ls_acs, sl_acs, el_ints, el_strs, e1, e2, hsx, hu, zle, Int.toNat_natCast]; first | done | rfl))
    refine roundB (i + 1, k, l, v) ?_ (show SplAt s c (i + 1) k l by exact hn2) (show s.size + 1 - (i + 1) < s.size + 1 - i by omega)
    simp [StLe', FrLe, OwnLe, BoxLe, AV.fits, AC.fits, FB, mask]
end Go.Proofs.YtdjcflnemnknaaaDoor

namespace Go.Proofs.YtdjcflnemnknaaaDoor
open Go.RowKit
set_option linter.unusedSimpArgs false
set_option linter.unusedVariables false
def bodyS (s : ByteArray) : ByteArray := if isMi s then s.extract 1 s.size else s
theorem bodyS_list (s : ByteArray) : (bodyS s).data.toList = bodyL s := by
  unfold bodyS bodyL
  split
  · rw [ext_end]
  · rfl
theorem isMi_true {s : ByteArray} (h0 : 0 < s.size) (h : s[0] = 45) : isMi s = true := by
  unfold isMi
  rw [getD_get s 0 h0, h]
  simp [h0]
theorem isMi_false1 {s : ByteArray} (h0 : ¬ 0 < s.size) : isMi s = false := by simp [isMi, h0]
theorem isMi_false2 {s : ByteArray} (h0 : 0 < s.size) (h : s[0] ≠ 45) : isMi s = false := by
  unfold isMi
  rw [getD_get s 0 h0]
  simp [h]
theorem list_size (s : ByteArray) : s.data.toList.length = s.size := by simp
theorem mem_at {s : ByteArray} {i : Nat} (h : i < s.size) : s[i] ∈ s.data.toList := by
  have : s.data.toList[i]'(by simpa using h) = s[i] := rfl
  rw [← this]
  exact List.getElem_mem _
theorem take_at {s : ByteArray} {i : Nat} (h : i < s.size) : s.data.toList.take (i + 1) = s.data.toList.take i ++ [s[i]] := List.take_succ_eq_append_getElem (by simpa using h)
theorem dfold_le {l : List UInt8} {i m : Nat} (hd : ∀ c ∈ l.take i, isDg c = true) (hi : i ≤ m) : dfold 0 (l.take i) < 10 ^ m := by
  have h := dfold_lt (l.take i) 0 0 hd (by simp)
  rw [Nat.zero_add] at h
  exact Nat.lt_of_lt_of_le h (Nat.pow_le_pow_right (by decide) (by rw [List.length_take]; omega))
theorem isDg_lo {c : UInt8} (h : (c.toNat : Int) < 48) : isDg c = false := by simp [isDg]; omega
theorem isDg_hi {c : UInt8} (h : (c.toNat : Int) > 57) : isDg c = false := by simp [isDg]; omega
theorem isDg_ok {c : UInt8} (h1 : ¬ (c.toNat : Int) < 48) (h2 : ¬ (c.toNat : Int) > 57) : isDg c = true := by simp [isDg]; omega
def ic_read_spec : IC := (.seq (.reg false [⟨(some 4), none, .mov (.k (.int .i64 0))⟩, ⟨(some 5), none, .mov (.k (.bool false))⟩]) (.seq (.reg false [⟨(some 10), none, .mov (.t 0)⟩, ⟨(some 11), none, .len true (.t 10)⟩, ⟨(some 12), none, .bin .gtr (.t 11) (.k (.int .i64 0))⟩, ⟨(some 13), none, .mov (.t 12)⟩, ⟨(some 14), (some (13, true)), .mov (.t 0)⟩, ⟨(some 15), (some (13, true)), .sidx (.t 14) (.k (.int .i64 0))⟩, ⟨(some 16), (some (13, true)), .bin .eql (.t 15) (.k (.int .u8 45))⟩, ⟨(some 17), none, .pick (.t 13) (.t 16) (.k (.bool false))⟩, ⟨(some 6), none, .mov (.t 17)⟩]) (.seq (.reg false [⟨(some 18), none, .mov (.t 0)⟩, ⟨(some 7), none, .mov (.t 18)⟩]) (.seq (.seq (.reg false [⟨(some 19), none, .mov (.t 6)⟩]) (.cond (.t 19) (.reg false [⟨(some 20), none, .mov (.t 0)⟩, ⟨(some 21), none, .ssl (.t 20) (some (.k (.int .i64 1))) none⟩, ⟨(some 7), none, .mov (.t 21)⟩]) .skip)) (.seq (.seq (.reg false [⟨(some 22), none, .mov (.t 7)⟩, ⟨(some 23), none, .len true (.t 22)⟩, ⟨(some 24), none, .bin .lss (.t 23) (.k (.int .i64 1))⟩, ⟨(some 25), none, .mov (.t 24)⟩, ⟨(some 26), (some (25, false)), .mov (.t 7)⟩, ⟨(some 27), (some (25, false)), .len true (.t 26)⟩, ⟨(some 28), (some (25, false)), .mov (.t 1)⟩, ⟨(some 29), (some (25, false)), .bin .gtr (.t 27) (.t 28)⟩, ⟨(some 30), none, .pick (.t 25) (.k (.bool true)) (.t 29)⟩]) (.cond (.t 30) (.seq (.reg false [⟨(some 4), none, .mov (.k (.int .i64 0))⟩, ⟨(some 5), none, .mov (.k (.bool false))⟩]) .ret) .skip)) (.seq (.reg false [⟨(some 8), none, .mov (.k (.int .i64 0))⟩]) (.seq (.seq (.reg false [⟨(some 9), none, .mov (.k (.int .i64 0))⟩]) (.block 0 (.loop (.seq (.seq (.reg false [⟨(some 31), none, .mov (.t 9)⟩, ⟨(some 32), none, .mov (.t 7)⟩, ⟨(some 33), none, .len true (.t 32)⟩, ⟨(some 34), none, .bin .lss (.t 31) (.t 33)⟩]) (.cond (.t 34) .skip (.exit 0))) (.seq (.block 1 (.seq (.seq (.reg false [⟨(some 37), none, .mov (.t 7)⟩, ⟨(some 38), none, .mov (.t 9)⟩, ⟨(some 39), none, .sidx (.t 37) (.t 38)⟩, ⟨(some 40), none, .bin .lss (.t 39) (.k (.int .u8 48))⟩, ⟨(some 41), none, .mov (.t 40)⟩, ⟨(some 42), (some (41, false)), .mov (.t 7)⟩, ⟨(some 43), (some (41, false)), .mov (.t 9)⟩, ⟨(some 44), (some (41, false)), .sidx (.t 42) (.t 43)⟩, ⟨(some 45), (some (41, false)), .bin .gtr (.t 44) (.k (.int .u8 57))⟩, ⟨(some 46), none, .pick (.t 41) (.k (.bool true)) (.t 45)⟩]) (.cond (.t 46) (.seq (.reg false [⟨(some 4), none, .mov (.k (.int .i64 0))⟩, ⟨(some 5), none, .mov (.k (.bool false))⟩]) .ret) .skip)) (.reg false [⟨(some 47), none, .mov (.t 8)⟩, ⟨(some 48), none, .bin .mul (.k (.int .i64 10)) (.t 47)⟩, ⟨(some 49), none, .mov (.t 7)⟩, ⟨(some 50), none, .mov (.t 9)⟩, ⟨(some 51), none, .sidx (.t 49) (.t 50)⟩, ⟨(some 52), none, .bin .sub (.t 51) (.k (.int .u8 48))⟩, ⟨(some 53), none, .cvi .i64 (.t 52)⟩, ⟨(some 54), none, .bin .add (.t 48) (.t 53)⟩, ⟨(some 8), none, .mov (.t 54)⟩]))) (.reg false [⟨(some 35), none, .mov (.t 9)⟩, ⟨(some 36), none, .bin .add (.t 35) (.k (.int .i64 1))⟩, ⟨(some 9), none, .mov (.t 36)⟩])))))) (.seq (.seq (.reg false [⟨(some 55), none, .mov (.t 6)⟩]) (.cond (.t 55) (.reg false [⟨(some 56), none, .mov (.t 8)⟩, ⟨(some 57), none, .bin .sub (.k (.int .i64 0)) (.t 56)⟩, ⟨(some 8), none, .mov (.t 57)⟩]) .skip)) (.seq (.seq (.reg false [⟨(some 58), none, .mov (.t 8)⟩, ⟨(some 59), none, .call 34 [(.t 58)]⟩, ⟨(some 60), none, .mov (.t 0)⟩, ⟨(some 61), none, .bin .neq (.t 59) (.t 60)⟩]) (.cond (.t 61) (.seq (.reg false [⟨(some 4), none, .mov (.k (.int .i64 0))⟩, ⟨(some 5), none, .mov (.k (.bool false))⟩]) .ret) .skip)) (.seq (.reg false [⟨(some 62), none, .mov (.t 8)⟩, ⟨(some 4), none, .mov (.t 62)⟩, ⟨(some 5), none, .mov (.k (.bool true))⟩]) .ret))))))))))
theorem ic_read_spec_ok : compC Tryd.prog (Tryd.f89.body.getD .skip) = some ic_read_spec := by kernel_rfl
set_option maxHeartbeats 16000000 in
theorem l1Read_to (s : ByteArray) (m : Nat) (hm1 : 1 ≤ m) (hm18 : m ≤ 18) (hs : s.size ≤ 1048576) : CallsTo Tryd.prog 89 [ls s, li m] (pairIB (rdS m s)) := by
  refine calls_two (fn := Tryd.f89) (r := .tmp 4) (q := .tmp 5) (by kernel_rfl) (by kernel_rfl) (by kernel_rfl) rfl ic_read_spec_ok ?_
  unfold ic_read_spec
  change AWP _ _ _ (st0 63 _)
  simp only [undef, stS, st0, stN, D.av, D.avN, sl_agg, leaf_agg, li_agg, ls_agg, sl_acs, leaf_acs, li_acs, ls_acs, List.map_cons, List.map_nil, List.replicate, List.cons_append, List.nil_append, List.length_cons, List.length_nil, Nat.reduceAdd, Nat.reduceSub]
  by_cases h0 : 0 < s.size
  · have d0 : decide ((s.size : Int) > 0) = true := decide_eq_true (by omega)
    have hsx := data_at h0
    have hz0 : (0 : Int).toNat = 0 := rfl
    have hz1 : ((0 : Int) ≤ 0) = True := by simp
    by_cases hc : s[0] = 45
    · have hmi := isMi_true h0 hc
      have he : ((s[0].toNat : Int) == 45) = true := by rw [hc]; rfl
      obtain ⟨tb, htb⟩ : ∃ tb, bodyS s = tb := ⟨_, rfl⟩
      have hex : s.extract 1 s.size = tb := by rw [← htb]; unfold bodyS; rw [if_pos hmi]
      have hbl : tb.data.toList = bodyL s := (congrArg (fun z : ByteArray => z.data.toList) htb).symm.trans (bodyS_list s)
      have hbn := list_size tb
      rw [hbl] at hbn
      have htz : tb.size ≤ 1048576 := by rw [← hex]; simp; omega
      by_cases h1 : tb.size < 1
      · have hr : rdS m s = (0, false) := rdS_len hm18 (Or.inl (by omega)) hm1
        have g1 : decide ((tb.size : Int) < 1) = true := decide_eq_true (by omega)
        rw [hr]
        repeat' (first | (with_reducible first | refine awp_seq ?_ | refine awp_block ?_ | refine awp_skip ?_ | refine awp_exit ?_ | refine awp_ret ?_ | refine athen ?_ | refine thenExit ?_ | refine thenRet ?_ | refine blockNormal ?_ | refine blockExit ?_ | refine blockRet ?_ | refine roundExit ?_ | refine roundRet ?_ | refine roundExitR ?_ | refine roundRetR ?_) | ((with_reducible refine blockPass ?_ ?_); rfl) | ((with_reducible refine awp_condT ?_ ?_); rfl) | ((with_reducible refine awp_condF ?_ ?_); rfl) | (with_reducible (refine awp_condS rfl ?_ ?_); all_goals (intro hb; have hb' := hb; (try simp only [pkC] at hb'); first | (exfalso; omega) | skip)) | ((with_reducible refine awp_reg ?_); intro K hK) | ((with_reducible refine sw_guardT ?_ ?_); rfl) | ((with_reducible refine sw_guardF ?_ ?_); (rfl; try simp only [St.put, undef, pkA, Nat.reduceAdd, Nat.reduceSub, Nat.reduceLeDiff, Nat.reduceEqDiff])) | (with_reducible (refine sw_guardS rfl ?_ ?_); all_goals (intro hb; have hb' := hb; (try simp only [pkC] at hb'); first | (exfalso; omega) | skip)) | ((with_reducible refine hK _ ?_); clear hK K) | (with_reducible refine and_split ?_ ?_) | ((with_reducible refine sw_id ?_); simp (disch := first | decide | omega) only [↓pkS, pkW, pkA, undef, capsOf, ex, St.put, St.ev, kav, gdA, opI, rawI, vbin, srcOf, avsD, acsD, AV.toD, AC.toD, AV.nw, AC.nw, AC.one, Value.oneCell', fillA, D.one, D.ones, D.sz, D.szs, Nat.reduceAdd, Nat.reduceSub, Nat.reduceLeDiff, Nat.reduceEqDiff, reduceIte, pkN, li_acs, ls_acs, sl_acs, el_ints, el_strs, d0, hsx, hz0, hz1, he, hex, g1]) | (first | (with_reducible rfl) | (with_reducible refine fnok_id ?_; kernel_rfl) | exact el_strs _ | exact el_ints _ | exact el_ln _ | exact el_tk _ _ | exact el_td _ _ _ | omega | (simp; done) | (simp; omega)) | ((with_reducible refine args_id ?_); simp [ArgsOk, ArgOk, argsD, argD, AC.toD, Value.oneCell', sl_flat, leaf_flat, li_flat, ls_flat, sl_agg, leaf_agg, li_agg, ls_agg, mo_t, mo_f, li_acs, ls_acs, sl_acs, el_ints, el_strs, d0, hsx, hz0, hz1, he, hex, g1]; first | done | rfl))
        exact endRet ⟨⟨_, rfl, rfl, trivial⟩, ⟨_, rfl, rfl, trivial⟩⟩
      have g1 : decide ((tb.size : Int) < 1) = false := decide_eq_false (by omega)
      by_cases h2 : m < tb.size
      · have hr : rdS m s = (0, false) := rdS_len hm18 (Or.inr (by omega)) hm1
        have g2 : decide ((tb.size : Int) > (m : Int)) = true := decide_eq_true (by omega)
        rw [hr]
        repeat' (first | (with_reducible first | refine awp_seq ?_ | refine awp_block ?_ | refine awp_skip ?_ | refine awp_exit ?_ | refine awp_ret ?_ | refine athen ?_ | refine thenExit ?_ | refine thenRet ?_ | refine blockNormal ?_ | refine blockExit ?_ | refine blockRet ?_ | refine roundExit ?_ | refine roundRet ?_ | refine roundExitR ?_ | refine roundRetR ?_) | ((with_reducible refine blockPass ?_ ?_); rfl) | ((with_reducible refine awp_condT ?_ ?_); rfl) | ((with_reducible refine awp_condF ?_ ?_); rfl) | (with_reducible (refine awp_condS rfl ?_ ?_); all_goals (intro hb; have hb' := hb; (try simp only [pkC] at hb'); first | (exfalso; omega) | skip)) | ((with_reducible refine awp_reg ?_); intro K hK) | ((with_reducible refine sw_guardT ?_ ?_); rfl) | ((with_reducible refine sw_guardF ?_ ?_); (rfl; try simp only [St.put, undef, pkA, Nat.reduceAdd, Nat.reduceSub, Nat.reduceLeDiff, Nat.reduceEqDiff])) | (with_reducible (refine sw_guardS rfl ?_ ?_); all_goals (intro hb; have hb' := hb; (try simp only [pkC] at hb'); first | (exfalso; omega) | skip)) | ((with_reducible refine hK _ ?_); clear hK K) | (with_reducible refine and_split ?_ ?_) | ((with_reducible refine sw_id ?_); simp (disch := first | decide | omega) only [↓pkS, pkW, pkA, undef, capsOf, ex, St.put, St.ev, kav, gdA, opI, rawI, vbin, srcOf, avsD, acsD, AV.toD, AC.toD, AV.nw, AC.nw, AC.one, Value.oneCell', fillA, D.one, D.ones, D.sz, D.szs, Nat.reduceAdd, Nat.reduceSub, Nat.reduceLeDiff, Nat.reduceEqDiff, reduceIte, pkN, li_acs, ls_acs, sl_acs, el_ints, el_strs, d0, hsx, hz0, hz1, he, hex, g1, g2]) | (first | (with_reducible rfl) | (with_reducible refine fnok_id ?_; kernel_rfl) | exact el_strs _ | exact el_ints _ | exact el_ln _ | exact el_tk _ _ | exact el_td _ _ _ | omega | (simp; done) | (simp; omega)) | ((with_reducible refine args_id ?_); simp [ArgsOk, ArgOk, argsD, argD, AC.toD, Value.oneCell', sl_flat, leaf_flat, li_flat, ls_flat, sl_agg, leaf_agg, li_agg, ls_agg, mo_t, mo_f, li_acs, ls_acs, sl_acs, el_ints, el_strs, d0, hsx, hz0, hz1, he, hex, g1, g2]; first | done | rfl))
        exact endRet ⟨⟨_, rfl, rfl, trivial⟩, ⟨_, rfl, rfl, trivial⟩⟩
      have g2 : decide ((tb.size : Int) > (m : Int)) = false := decide_eq_false (by omega)
      repeat' (first | (with_reducible first | refine awp_seq ?_ | refine awp_block ?_ | refine awp_skip ?_ | refine awp_exit ?_ | refine awp_ret ?_ | refine athen ?_ | refine thenExit ?_ | refine thenRet ?_ | refine blockNormal ?_ | refine blockExit ?_ | refine blockRet ?_ | refine roundExit ?_ | refine roundRet ?_ | refine roundExitR ?_ | refine roundRetR ?_) | ((with_reducible refine blockPass ?_ ?_); rfl) | ((with_reducible refine awp_condT ?_ ?_); rfl) | ((with_reducible refine awp_condF ?_ ?_); rfl) | (with_reducible (refine awp_condS rfl ?_ ?_); all_goals (intro hb; have hb' := hb; (try simp only [pkC] at hb'); first | (exfalso; omega) | skip)) | ((with_reducible refine awp_reg ?_); intro K hK) | ((with_reducible refine sw_guardT ?_ ?_); rfl) | ((with_reducible refine sw_guardF ?_ ?_); (rfl; try simp only [St.put, undef, pkA, Nat.reduceAdd, Nat.reduceSub, Nat.reduceLeDiff, Nat.reduceEqDiff])) | (with_reducible (refine sw_guardS rfl ?_ ?_); all_goals (intro hb; have hb' := hb; (try simp only [pkC] at hb'); first | (exfalso; omega) | skip)) | ((with_reducible refine hK _ ?_); clear hK K) | (with_reducible refine and_split ?_ ?_) | ((with_reducible refine sw_id ?_); simp (disch := first | decide | omega) only [↓pkS, pkW, pkA, undef, capsOf, ex, St.put, St.ev, kav, gdA, opI, rawI, vbin, srcOf, avsD, acsD, AV.toD, AC.toD, AV.nw, AC.nw, AC.one, Value.oneCell', fillA, D.one, D.ones, D.sz, D.szs, Nat.reduceAdd, Nat.reduceSub, Nat.reduceLeDiff, Nat.reduceEqDiff, reduceIte, pkN, li_acs, ls_acs, sl_acs, el_ints, el_strs, d0, hsx, hz0, hz1, he, hex, g1, g2]) | (first | (with_reducible rfl) | (with_reducible refine fnok_id ?_; kernel_rfl) | exact el_strs _ | exact el_ints _ | exact el_ln _ | exact el_tk _ _ | exact el_td _ _ _ | omega | (simp; done) | (simp; omega)) | ((with_reducible refine args_id ?_); simp [ArgsOk, ArgOk, argsD, argD, AC.toD, Value.oneCell', sl_flat, leaf_flat, li_flat, ls_flat, sl_agg, leaf_agg, li_agg, ls_agg, mo_t, mo_f, li_acs, ls_acs, sl_acs, el_ints, el_strs, d0, hsx, hz0, hz1, he, hex, g1, g2]; first | done | rfl))
      clear g1 g2 d0 hsx hz0 hz1 he
      refine awp_loopB (X := Nat) (fun q => [.k, .d, .d, .d, .d, .d, .k, .k, .v (.c false [.raw (.int .i64 (dfold 0 (tb.data.toList.take q) : Nat))]), .v (.c false [.raw (.int .i64 (q : Nat))]), .d, .d, .d, .d, .d, .d, .d, .d, .d, .d, .d, .d, .d, .d, .d, .d, .d, .d, .d, .d, .d, .d, .d, .d, .d, .d, .d, .d, .d, .d, .d, .d, .d, .d, .d, .d, .d, .d, .d, .d, .d, .d, .d, .d, .d, .d, .d, .d, .d, .d, .d, .d, .d]) (fun q => []) (fun q bs => []) (fun q => q ≤ tb.size ∧ ∀ c ∈ tb.data.toList.take q, isDg c = true) (fun q => tb.size - q) 0 ⟨Nat.zero_le _, fun c hc => by simp at hc⟩ ?_ ?_
      · simp [StLe', FrLe, OwnLe, BoxLe, AV.fits, AC.fits, FB, mask, dfold_nil]
      rintro i ⟨hi, hdg⟩
      simp only [FB, mask]
      have hp18 : (10 : Nat) ^ 18 = 1000000000000000000 := by decide
      by_cases hlt : i < tb.size
      · have hsx := data_at hlt
        by_cases c1 : (tb[i].toNat : Int) < 48
        · have hr : rdS m s = (0, false) := rdS_dig (by rw [← hbl]; exact mem_at hlt) (isDg_lo c1)
          have b1 : decide ((tb[i].toNat : Int) < 48) = true := decide_eq_true c1
          rw [hr]
          repeat' (first | (with_reducible first | refine awp_seq ?_ | refine awp_block ?_ | refine awp_skip ?_ | refine awp_exit ?_ | refine awp_ret ?_ | refine athen ?_ | refine thenExit ?_ | refine thenRet ?_ | refine blockNormal ?_ | refine blockExit ?_ | refine blockRet ?_ | refine roundExit ?_ | refine roundRet ?_ | refine roundExitR ?_ | refine roundRetR ?_) | ((with_reducible refine blockPass ?_ ?_); rfl) | ((with_reducible refine awp_condT ?_ ?_); rfl) | ((with_reducible refine awp_condF ?_ ?_); rfl) | (with_reducible (refine awp_condS rfl ?_ ?_); all_goals (intro hb; have hb' := hb; (try simp only [pkC] at hb'); first | (exfalso; omega) | skip)) | ((with_reducible refine awp_reg ?_); intro K hK) | ((with_reducible refine sw_guardT ?_ ?_); rfl) | ((with_reducible refine sw_guardF ?_ ?_); (rfl; try simp only [St.put, undef, pkA, Nat.reduceAdd, Nat.reduceSub, Nat.reduceLeDiff, Nat.reduceEqDiff])) | (with_reducible (refine sw_guardS rfl ?_ ?_); all_goals (intro hb; have hb' := hb; (try simp only [pkC] at hb'); first | (exfalso; omega) | skip)) | ((with_reducible refine hK _ ?_); clear hK K) | (with_reducible refine and_split ?_ ?_) | ((with_reducible refine sw_id ?_); simp (disch := first | decide | omega) only [↓pkS, pkW, pkA, undef, capsOf, ex, St.put, St.ev, kav, gdA, opI, rawI, vbin, srcOf, avsD, acsD, AV.toD, AC.toD, AV.nw, AC.nw, AC.one, Value.oneCell', fillA, D.one, D.ones, D.sz, D.szs, Nat.reduceAdd, Nat.reduceSub, Nat.reduceLeDiff, Nat.reduceEqDiff, reduceIte, pkN, li_acs, ls_acs, sl_acs, el_ints, el_strs, hsx, zle, Int.toNat_natCast, b1]) | (first | (with_reducible rfl) | (with_reducible refine fnok_id ?_; kernel_rfl) | exact el_strs _ | exact el_ints _ | exact el_ln _ | exact el_tk _ _ | exact el_td _ _ _ | omega | (simp; done) | (simp; omega)) | ((with_reducible refine args_id ?_); simp [ArgsOk, ArgOk, argsD, argD, AC.toD, Value.oneCell', sl_flat, leaf_flat, li_flat, ls_flat, sl_agg, leaf_agg, li_agg, ls_agg, mo_t, mo_f, li_acs, ls_acs, sl_acs, el_ints, el_strs, hsx, zle, Int.toNat_natCast, b1]; first | done | rfl))
          exact endRet ⟨⟨_, rfl, rfl, trivial⟩, ⟨_, rfl, rfl, trivial⟩⟩
        have b1 : decide ((tb[i].toNat : Int) < 48) = false := decide_eq_false c1
        by_cases c2 : (tb[i].toNat : Int) > 57
        · have hr : rdS m s = (0, false) := rdS_dig (by rw [← hbl]; exact mem_at hlt) (isDg_hi c2)
          have b2 : decide ((tb[i].toNat : Int) > 57) = true := decide_eq_true c2
          rw [hr]
          repeat' (first | (with_reducible first | refine awp_seq ?_ | refine awp_block ?_ | refine awp_skip ?_ | refine awp_exit ?_ | refine awp_ret ?_ | refine athen ?_ | refine thenExit ?_ | refine thenRet ?_ | refine blockNormal ?_ | refine blockExit ?_ | refine blockRet ?_ | refine roundExit ?_ | refine roundRet ?_ | refine roundExitR ?_ | refine roundRetR ?_) | ((with_reducible refine blockPass ?_ ?_); rfl) | ((with_reducible refine awp_condT ?_ ?_); rfl) | ((with_reducible refine awp_condF ?_ ?_); rfl) | (with_reducible (refine awp_condS rfl ?_ ?_); all_goals (intro hb; have hb' := hb; (try simp only [pkC] at hb'); first | (exfalso; omega) | skip)) | ((with_reducible refine awp_reg ?_); intro K hK) | ((with_reducible refine sw_guardT ?_ ?_); rfl) | ((with_reducible refine sw_guardF ?_ ?_); (rfl; try simp only [St.put, undef, pkA, Nat.reduceAdd, Nat.reduceSub, Nat.reduceLeDiff, Nat.reduceEqDiff])) | (with_reducible (refine sw_guardS rfl ?_ ?_); all_goals (intro hb; have hb' := hb; (try simp only [pkC] at hb'); first | (exfalso; omega) | skip)) | ((with_reducible refine hK _ ?_); clear hK K) | (with_reducible refine and_split ?_ ?_) | ((with_reducible refine sw_id ?_); simp (disch := first | decide | omega) only [↓pkS, pkW, pkA, undef, capsOf, ex, St.put, St.ev, kav, gdA, opI, rawI, vbin, srcOf, avsD, acsD, AV.toD, AC.toD, AV.nw, AC.nw, AC.one, Value.oneCell', fillA, D.one, D.ones, D.sz, D.szs, Nat.reduceAdd, Nat.reduceSub, Nat.reduceLeDiff, Nat.reduceEqDiff, reduceIte, pkN, li_acs, ls_acs, sl_acs, el_ints, el_strs, hsx, zle, Int.toNat_natCast, b1, b2]) | (first | (with_reducible rfl) | (with_reducible refine fnok_id ?_; kernel_rfl) | exact el_strs _ | exact el_ints _ | exact el_ln _ | exact el_tk _ _ | exact el_td _ _ _ | omega | (simp; done) | (simp; omega)) | ((with_reducible refine args_id ?_); simp [ArgsOk, ArgOk, argsD, argD, AC.toD, Value.oneCell', sl_flat, leaf_flat, li_flat, ls_flat, sl_agg, leaf_agg, li_agg, ls_agg, mo_t, mo_f, li_acs, ls_acs, sl_acs, el_ints, el_strs, hsx, zle, Int.toNat_natCast, b1, b2]; first | done | rfl))
          exact endRet ⟨⟨_, rfl, rfl, trivial⟩, ⟨_, rfl, rfl, trivial⟩⟩
        have b2 : decide ((tb[i].toNat : Int) > 57) = false := decide_eq_false c2
        have hdn : ∀ c ∈ tb.data.toList.take (i + 1), isDg c = true := fun c hc => by
          rw [take_at hlt] at hc
          rcases List.mem_append.1 hc with hc | hc
          · exact hdg c hc
          · simp only [List.mem_singleton] at hc
            subst hc
            exact isDg_ok c1 c2
        have hnx : dfold 0 (tb.data.toList.take (i + 1)) = dfold 0 (tb.data.toList.take i) * 10 + (tb[i].toNat - 48) := by rw [take_at hlt, dfold_app, dfold_cons, dfold_nil]
        have hv1 := dfold_le (m := 18) hdn (by omega)
        rw [hnx, hp18] at hv1
        have w1 : IntKind.i64.wrap (10 * ((dfold 0 (tb.data.toList.take i) : Nat) : Int)) = ((dfold 0 (tb.data.toList.take i) * 10 : Nat) : Int) := by rw [wrap_id (by omega) (by omega)]; omega
        have w2 : IntKind.u8.wrap ((tb[i].toNat : Int) - 48) = ((tb[i].toNat - 48 : Nat) : Int) := by rw [u8_wrap (by omega) (by omega)]; omega
        have w3 : IntKind.i64.wrap ((tb[i].toNat - 48 : Nat) : Int) = ((tb[i].toNat - 48 : Nat) : Int) := wrap_id (by omega) (by omega)
        have w4 : IntKind.i64.wrap (((dfold 0 (tb.data.toList.take i) * 10 : Nat) : Int) + ((tb[i].toNat - 48 : Nat) : Int)) = ((dfold 0 (tb.data.toList.take (i + 1)) : Nat) : Int) := by rw [hnx, wrap_id (by omega) (by omega)]; omega
        clear hnx
        repeat' (first | (with_reducible first | refine awp_seq ?_ | refine awp_block ?_ | refine awp_skip ?_ | refine awp_exit ?_ | refine awp_ret ?_ | refine athen ?_ | refine thenExit ?_ | refine thenRet ?_ | refine blockNormal ?_ | refine blockExit ?_ | refine blockRet ?_ | refine roundExit ?_ | refine roundRet ?_ | refine roundExitR ?_ | refine roundRetR ?_) | ((with_reducible refine blockPass ?_ ?_); rfl) | ((with_reducible refine awp_condT ?_ ?_); rfl) | ((with_reducible refine awp_condF ?_ ?_); rfl) | (with_reducible (refine awp_condS rfl ?_ ?_); all_goals (intro hb; have hb' := hb; (try simp only [pkC] at hb'); first | (exfalso; omega) | skip)) | ((with_reducible refine awp_reg ?_); intro K hK) | ((with_reducible refine sw_guardT ?_ ?_); rfl) | ((with_reducible refine sw_guardF ?_ ?_); (rfl; try simp only [St.put, undef, pkA, Nat.reduceAdd, Nat.reduceSub, Nat.reduceLeDiff, Nat.reduceEqDiff])) | (with_reducible (refine sw_guardS rfl ?_ ?_); all_goals (intro hb; have hb' := hb; (try simp only [pkC] at hb'); first | (exfalso; omega) | skip)) | ((with_reducible refine hK _ ?_); clear hK K) | (with_reducible refine and_split ?_ ?_) | ((with_reducible refine sw_id ?_); simp (disch := first | decide | omega) only [↓pkS, pkW, pkA, undef, capsOf, ex, St.put, St.ev, kav, gdA, opI, rawI, vbin, srcOf, avsD, acsD, AV.toD, AC.toD, AV.nw, AC.nw, AC.one, Value.oneCell', fillA, D.one, D.ones, D.sz, D.szs, Nat.reduceAdd, Nat.reduceSub, Nat.reduceLeDiff, Nat.reduceEqDiff, reduceIte, pkN, li_acs, ls_acs, sl_acs, el_ints, el_strs, hsx, zle, Int.toNat_natCast, b1, b2, w1, w2, w3, w4]) | (first | (with_reducible rfl) | (with_reducible refine fnok_id ?_; kernel_rfl) | exact el_strs _ | exact el_ints _ | exact el_ln _ | exact el_tk _ _ | exact el_td _ _ _ | omega | (simp; done) | (simp; omega)) | ((with_reducible refine args_id ?_); simp [ArgsOk, ArgOk, argsD, argD, AC.toD, Value.oneCell', sl_flat, leaf_flat, li_flat, ls_flat, sl_agg, leaf_agg, li_agg, ls_agg, mo_t, mo_f, li_acs, ls_acs, sl_acs, el_ints, el_strs, hsx, zle, Int.toNat_natCast, b1, b2, w1, w2, w3, w4]; first | done | rfl))
        refine roundB (i + 1) ?_ ⟨show i + 1 ≤ tb.size by omega, hdn⟩ (show tb.size - (i + 1) < tb.size - i by omega)
        simp [StLe', FrLe, OwnLe, BoxLe, AV.fits, AC.fits, FB, mask]
      obtain rfl : i = tb.size := by omega
      have htk : tb.data.toList.take tb.size = bodyL s := by rw [← list_size tb, List.take_length, hbl]
      have hv1 := dfold_le (m := 18) hdg (by omega)
      rw [hp18] at hv1
      rw [htk] at hdg hv1 ⊢
      have hval : valS s = -((dfold 0 (bodyL s) : Nat) : Int) := by unfold valS; rw [hmi]; rfl
      have w5 : IntKind.i64.wrap (0 - ((dfold 0 (bodyL s) : Nat) : Int)) = -((dfold 0 (bodyL s) : Nat) : Int) := by rw [wrap_id (by omega) (by omega)]; omega
      have hfi := formatInt_spec_to (n := valS s) (by rw [hval]; omega) (by rw [hval]; omega)
      rw [hval] at hfi
      cases hq : ((fmtI (valS s)).toList == s.toList) with
      | true =>
        have heq : fmtI (valS s) = s := bytes_inj.1 (by simpa using hq)
        have hr := rdS_ok (m := m) hm18 hdg (by omega) heq
        rw [hr, hval]
        rw [hval] at hq
        repeat' (first | (with_reducible first | refine awp_seq ?_ | refine awp_block ?_ | refine awp_skip ?_ | refine awp_exit ?_ | refine awp_ret ?_ | refine athen ?_ | refine thenExit ?_ | refine thenRet ?_ | refine blockNormal ?_ | refine blockExit ?_ | refine blockRet ?_ | refine roundExit ?_ | refine roundRet ?_ | refine roundExitR ?_ | refine roundRetR ?_) | ((with_reducible refine blockPass ?_ ?_); rfl) | ((with_reducible refine awp_condT ?_ ?_); rfl) | ((with_reducible refine awp_condF ?_ ?_); rfl) | (with_reducible (refine awp_condS rfl ?_ ?_); all_goals (intro hb; have hb' := hb; (try simp only [pkC] at hb'); first | (exfalso; omega) | skip)) | ((with_reducible refine awp_reg ?_); intro K hK) | ((with_reducible refine sw_guardT ?_ ?_); rfl) | ((with_reducible refine sw_guardF ?_ ?_); (rfl; try simp only [St.put, undef, pkA, Nat.reduceAdd, Nat.reduceSub, Nat.reduceLeDiff, Nat.reduceEqDiff])) | (with_reducible (refine sw_guardS rfl ?_ ?_); all_goals (intro hb; have hb' := hb; (try simp only [pkC] at hb'); first | (exfalso; omega) | skip)) | ((with_reducible refine hK _ ?_); clear hK K) | (with_reducible refine and_split ?_ ?_) | ((with_reducible refine ct_id ?_); first | (refine callThen hfi trivial ?_ ?_)) | ((with_reducible refine ctd_id ?_); first | (refine callThenD hfi trivial ?_ ?_)) | ((with_reducible refine sw_id ?_); simp (disch := first | decide | omega) only [↓pkS, pkW, pkA, undef, capsOf, ex, St.put, St.ev, kav, gdA, opI, rawI, vbin, srcOf, avsD, acsD, AV.toD, AC.toD, AV.nw, AC.nw, AC.one, Value.oneCell', fillA, D.one, D.ones, D.sz, D.szs, Nat.reduceAdd, Nat.reduceSub, Nat.reduceLeDiff, Nat.reduceEqDiff, reduceIte, pkN, li_acs, ls_acs, sl_acs, el_ints, el_strs, w5, hq]) | (first | (with_reducible rfl) | (with_reducible refine fnok_id ?_; kernel_rfl) | exact el_strs _ | exact el_ints _ | exact el_ln _ | exact el_tk _ _ | exact el_td _ _ _ | omega | (simp; done) | (simp; omega)) | ((with_reducible refine args_id ?_); simp [ArgsOk, ArgOk, argsD, argD, AC.toD, Value.oneCell', sl_flat, leaf_flat, li_flat, ls_flat, sl_agg, leaf_agg, li_agg, ls_agg, mo_t, mo_f, li_acs, ls_acs, sl_acs, el_ints, el_strs, w5, hq]; first | done | rfl))
        exact endRet ⟨⟨_, rfl, rfl, trivial⟩, ⟨_, rfl, rfl, trivial⟩⟩
      | false =>
        have hne : fmtI (valS s) ≠ s := fun e => by rw [e] at hq; simp at hq
        have hr := rdS_val (m := m) hne
        rw [hr]
        rw [hval] at hq
        repeat' (first | (with_reducible first | refine awp_seq ?_ | refine awp_block ?_ | refine awp_skip ?_ | refine awp_exit ?_ | refine awp_ret ?_ | refine athen ?_ | refine thenExit ?_ | refine thenRet ?_ | refine blockNormal ?_ | refine blockExit ?_ | refine blockRet ?_ | refine roundExit ?_ | refine roundRet ?_ | refine roundExitR ?_ | refine roundRetR ?_) | ((with_reducible refine blockPass ?_ ?_); rfl) | ((with_reducible refine awp_condT ?_ ?_); rfl) | ((with_reducible refine awp_condF ?_ ?_); rfl) | (with_reducible (refine awp_condS rfl ?_ ?_); all_goals (intro hb; have hb' := hb; (try simp only [pkC] at hb'); first | (exfalso; omega) | skip)) | ((with_reducible refine awp_reg ?_); intro K hK) | ((with_reducible refine sw_guardT ?_ ?_); rfl) | ((with_reducible refine sw_guardF ?_ ?_); (rfl; try simp only [St.put, undef, pkA, Nat.reduceAdd, Nat.reduceSub, Nat.reduceLeDiff, Nat.reduceEqDiff])) | (with_reducible (refine sw_guardS rfl ?_ ?_); all_goals (intro hb; have hb' := hb; (try simp only [pkC] at hb'); first | (exfalso; omega) | skip)) | ((with_reducible refine hK _ ?_); clear hK K) | (with_reducible refine and_split ?_ ?_) | ((with_reducible refine ct_id ?_); first | (refine callThen hfi trivial ?_ ?_)) | ((with_reducible refine ctd_id ?_); first | (refine callThenD hfi trivial ?_ ?_)) | ((with_reducible refine sw_id ?_); simp (disch := first | decide | omega) only [↓pkS, pkW, pkA, undef, capsOf, ex, St.put, St.ev, kav, gdA, opI, rawI, vbin, srcOf, avsD, acsD, AV.toD, AC.toD, AV.nw, AC.nw, AC.one, Value.oneCell', fillA, D.one, D.ones, D.sz, D.szs, Nat.reduceAdd, Nat.reduceSub, Nat.reduceLeDiff, Nat.reduceEqDiff, reduceIte, pkN, li_acs, ls_acs, sl_acs, el_ints, el_strs, w5, hq]) | (first | (with_reducible rfl) | (with_reducible refine fnok_id ?_; kernel_rfl) | exact el_strs _ | exact el_ints _ | exact el_ln _ | exact el_tk _ _ | exact el_td _ _ _ | omega | (simp; done) | (simp; omega)) | ((with_reducible refine args_id ?_); simp [ArgsOk, ArgOk, argsD, argD, AC.toD, Value.oneCell', sl_flat, leaf_flat, li_flat, ls_flat, sl_agg, leaf_agg, li_agg, ls_agg, mo_t, mo_f, li_acs, ls_acs, sl_acs, el_ints, el_strs, w5, hq]; first | done | rfl))
        exact endRet ⟨⟨_, rfl, rfl, trivial⟩, ⟨_, rfl, rfl, trivial⟩⟩
    · have hmi := isMi_false2 h0 hc
      have he : ((s[0].toNat : Int) == 45) = false := beq_f (fun e => hc (UInt8.toNat_inj.1 (by have h45 : (45 : UInt8).toNat = 45 := rfl; omega)))
      obtain ⟨tb, htb⟩ : ∃ tb, bodyS s = tb := ⟨_, rfl⟩
      have hex : s = tb := by rw [← htb]; unfold bodyS; rw [if_neg (by rw [hmi]; decide)]
      subst hex
      have hbl : s.data.toList = bodyL s := (congrArg (fun z : ByteArray => z.data.toList) htb).symm.trans (bodyS_list s)
      have hbn := list_size s
      rw [hbl] at hbn
      have htz : s.size ≤ 1048576 := hs
      have g1 : decide ((s.size : Int) < 1) = false := decide_eq_false (by omega)
      by_cases h2 : m < s.size
      · have hr : rdS m s = (0, false) := rdS_len hm18 (Or.inr (by omega)) hm1
        have g2 : decide ((s.size : Int) > (m : Int)) = true := decide_eq_true (by omega)
        rw [hr]
        repeat' (first | (with_reducible first | refine awp_seq ?_ | refine awp_block ?_ | refine awp_skip ?_ | refine awp_exit ?_ | refine awp_ret ?_ | refine athen ?_ | refine thenExit ?_ | refine thenRet ?_ | refine blockNormal ?_ | refine blockExit ?_ | refine blockRet ?_ | refine roundExit ?_ | refine roundRet ?_ | refine roundExitR ?_ | refine roundRetR ?_) | ((with_reducible refine blockPass ?_ ?_); rfl) | ((with_reducible refine awp_condT ?_ ?_); rfl) | ((with_reducible refine awp_condF ?_ ?_); rfl) | (with_reducible (refine awp_condS rfl ?_ ?_); all_goals (intro hb; have hb' := hb; (try simp only [pkC] at hb'); first | (exfalso; omega) | skip)) | ((with_reducible refine awp_reg ?_); intro K hK) | ((with_reducible refine sw_guardT ?_ ?_); rfl) | ((with_reducible refine sw_guardF ?_ ?_); (rfl; try simp only [St.put, undef, pkA, Nat.reduceAdd, Nat.reduceSub, Nat.reduceLeDiff, Nat.reduceEqDiff])) | (with_reducible (refine sw_guardS rfl ?_ ?_); all_goals (intro hb; have hb' := hb; (try simp only [pkC] at hb'); first | (exfalso; omega) | skip)) | ((with_reducible refine hK _ ?_); clear hK K) | (with_reducible refine and_split ?_ ?_) | ((with_reducible refine sw_id ?_); simp (disch := first | decide | omega) only [↓pkS, pkW, pkA, undef, capsOf, ex, St.put, St.ev, kav, gdA, opI, rawI, vbin, srcOf, avsD, acsD, AV.toD, AC.toD, AV.nw, AC.nw, AC.one, Value.oneCell', fillA, D.one, D.ones, D.sz, D.szs, Nat.reduceAdd, Nat.reduceSub, Nat.reduceLeDiff, Nat.reduceEqDiff, reduceIte, pkN, li_acs, ls_acs, sl_acs, el_ints, el_strs, d0, hsx, hz0, hz1, he, g1, g2]) | (first | (with_reducible rfl) | (with_reducible refine fnok_id ?_; kernel_rfl) | exact el_strs _ | exact el_ints _ | exact el_ln _ | exact el_tk _ _ | exact el_td _ _ _ | omega | (simp; done) | (simp; omega)) | ((with_reducible refine args_id ?_); simp [ArgsOk, ArgOk, argsD, argD, AC.toD, Value.oneCell', sl_flat, leaf_flat, li_flat, ls_flat, sl_agg, leaf_agg, li_agg, ls_agg, mo_t, mo_f, li_acs, ls_acs, sl_acs, el_ints, el_strs, d0, hsx, hz0, hz1, he, g1, g2]; first | done | rfl))
        exact endRet ⟨⟨_, rfl, rfl, trivial⟩, ⟨_, rfl, rfl, trivial⟩⟩
      have g2 : decide ((s.size : Int) > (m : Int)) = false := decide_eq_false (by omega)
      repeat' (first | (with_reducible first | refine awp_seq ?_ | refine awp_block ?_ | refine awp_skip ?_ | refine awp_exit ?_ | refine awp_ret ?_ | refine athen ?_ | refine thenExit ?_ | refine thenRet ?_ | refine blockNormal ?_ | refine blockExit ?_ | refine blockRet ?_ | refine roundExit ?_ | refine roundRet ?_ | refine roundExitR ?_ | refine roundRetR ?_) | ((with_reducible refine blockPass ?_ ?_); rfl) | ((with_reducible refine awp_condT ?_ ?_); rfl) | ((with_reducible refine awp_condF ?_ ?_); rfl) | (with_reducible (refine awp_condS rfl ?_ ?_); all_goals (intro hb; have hb' := hb; (try simp only [pkC] at hb'); first | (exfalso; omega) | skip)) | ((with_reducible refine awp_reg ?_); intro K hK) | ((with_reducible refine sw_guardT ?_ ?_); rfl) | ((with_reducible refine sw_guardF ?_ ?_); (rfl; try simp only [St.put, undef, pkA, Nat.reduceAdd, Nat.reduceSub, Nat.reduceLeDiff, Nat.reduceEqDiff])) | (with_reducible (refine sw_guardS rfl ?_ ?_); all_goals (intro hb; have hb' := hb; (try simp only [pkC] at hb'); first | (exfalso; omega) | skip)) | ((with_reducible refine hK _ ?_); clear hK K) | (with_reducible refine and_split ?_ ?_) | ((with_reducible refine sw_id ?_); simp (disch := first | decide | omega) only [↓pkS, pkW, pkA, undef, capsOf, ex, St.put, St.ev, kav, gdA, opI, rawI, vbin, srcOf, avsD, acsD, AV.toD, AC.toD, AV.nw, AC.nw, AC.one, Value.oneCell', fillA, D.one, D.ones, D.sz, D.szs, Nat.reduceAdd, Nat.reduceSub, Nat.reduceLeDiff, Nat.reduceEqDiff, reduceIte, pkN, li_acs, ls_acs, sl_acs, el_ints, el_strs, d0, hsx, hz0, hz1, he, g1, g2]) | (first | (with_reducible rfl) | (with_reducible refine fnok_id ?_; kernel_rfl) | exact el_strs _ | exact el_ints _ | exact el_ln _ | exact el_tk _ _ | exact el_td _ _ _ | omega | (simp; done) | (simp; omega)) | ((with_reducible refine args_id ?_); simp [ArgsOk, ArgOk, argsD, argD, AC.toD, Value.oneCell', sl_flat, leaf_flat, li_flat, ls_flat, sl_agg, leaf_agg, li_agg, ls_agg, mo_t, mo_f, li_acs, ls_acs, sl_acs, el_ints, el_strs, d0, hsx, hz0, hz1, he, g1, g2]; first | done | rfl))
      clear g1 g2 d0 hsx hz0 hz1 he
      refine awp_loopB (X := Nat) (fun q => [.k, .d, .d, .d, .d, .d, .k, .k, .v (.c false [.raw (.int .i64 (dfold 0 (s.data.toList.take q) : Nat))]), .v (.c false [.raw (.int .i64 (q : Nat))]), .d, .d, .d, .d, .d, .d, .d, .d, .d, .d, .d, .d, .d, .d, .d, .d, .d, .d, .d, .d, .d, .d, .d, .d, .d, .d, .d, .d, .d, .d, .d, .d, .d, .d, .d, .d, .d, .d, .d, .d, .d, .d, .d, .d, .d, .d, .d, .d, .d, .d, .d, .d, .d]) (fun q => []) (fun q bs => []) (fun q => q ≤ s.size ∧ ∀ c ∈ s.data.toList.take q, isDg c = true) (fun q => s.size - q) 0 ⟨Nat.zero_le _, fun c hc => by simp at hc⟩ ?_ ?_
      · simp [StLe', FrLe, OwnLe, BoxLe, AV.fits, AC.fits, FB, mask, dfold_nil]
      rintro i ⟨hi, hdg⟩
      simp only [FB, mask]
      have hp18 : (10 : Nat) ^ 18 = 1000000000000000000 := by decide
      by_cases hlt : i < s.size
      · have hsx := data_at hlt
        by_cases c1 : (s[i].toNat : Int) < 48
        · have hr : rdS m s = (0, false) := rdS_dig (by rw [← hbl]; exact mem_at hlt) (isDg_lo c1)
          have b1 : decide ((s[i].toNat : Int) < 48) = true := decide_eq_true c1
          rw [hr]
          repeat' (first | (with_reducible first | refine awp_seq ?_ | refine awp_block ?_ | refine awp_skip ?_ | refine awp_exit ?_ | refine awp_ret ?_ | refine athen ?_ | refine thenExit ?_ | refine thenRet ?_ | refine blockNormal ?_ | refine blockExit ?_ | refine blockRet ?_ | refine roundExit ?_ | refine roundRet ?_ | refine roundExitR ?_ | refine roundRetR ?_) | ((with_reducible refine blockPass ?_ ?_); rfl) | ((with_reducible refine awp_condT ?_ ?_); rfl) | ((with_reducible refine awp_condF ?_ ?_); rfl) | (with_reducible (refine awp_condS rfl ?_ ?_); all_goals (intro hb; have hb' := hb; (try simp only [pkC] at hb'); first | (exfalso; omega) | skip)) | ((with_reducible refine awp_reg ?_); intro K hK) | ((with_reducible refine sw_guardT ?_ ?_); rfl) | ((with_reducible refine sw_guardF ?_ ?_); (rfl; try simp only [St.put, undef, pkA, Nat.reduceAdd, Nat.reduceSub, Nat.reduceLeDiff, Nat.reduceEqDiff])) | (with_reducible (refine sw_guardS rfl ?_ ?_); all_goals (intro hb; have hb' := hb; (try simp only [pkC] at hb'); first | (exfalso; omega) | skip)) | ((with_reducible refine hK _ ?_); clear hK K) | (with_reducible refine and_split ?_ ?_) | ((with_reducible refine sw_id ?_); simp (disch := first | decide | omega) only [↓pkS, pkW, pkA, undef, capsOf, ex, St.put, St.ev, kav, gdA, opI, rawI, vbin, srcOf, avsD, acsD, AV.toD, AC.toD, AV.nw, AC.nw, AC.one, Value.oneCell', fillA, D.one, D.ones, D.sz, D.szs, Nat.reduceAdd, Nat.reduceSub, Nat.reduceLeDiff, Nat.reduceEqDiff, reduceIte, pkN, li_acs, ls_acs, sl_acs, el_ints, el_strs, hsx, zle, Int.toNat_natCast, b1]) | (first | (with_reducible rfl) | (with_reducible refine fnok_id ?_; kernel_rfl) | exact el_strs _ | exact el_ints _ | exact el_ln _ | exact el_tk _ _ | exact el_td _ _ _ | omega | (simp; done) | (simp; omega)) | ((with_reducible refine args_id ?_); simp [ArgsOk, ArgOk, argsD, argD, AC.toD, Value.oneCell', sl_flat, leaf_flat, li_flat, ls_flat, sl_agg, leaf_agg, li_agg, ls_agg, mo_t, mo_f, li_acs, ls_acs, sl_acs, el_ints, el_strs, hsx, zle, Int.toNat_natCast, b1]; first | done | rfl))
          exact endRet ⟨⟨_, rfl, rfl, trivial⟩, ⟨_, rfl, rfl, trivial⟩⟩
        have b1 : decide ((s[i].toNat : Int) < 48) = false := decide_eq_false c1
        by_cases c2 : (s[i].toNat : Int) > 57
        · have hr : rdS m s = (0, false) := rdS_dig (by rw [← hbl]; exact mem_at hlt) (isDg_hi c2)
          have b2 : decide ((s[i].toNat : Int) > 57) = true := decide_eq_true c2
          rw [hr]
          repeat' (first | (with_reducible first | refine awp_seq ?_ | refine awp_block ?_ | refine awp_skip ?_ | refine awp_exit ?_ | refine awp_ret ?_ | refine athen ?_ | refine thenExit ?_ | refine thenRet ?_ | refine blockNormal ?_ | refine blockExit ?_ | refine blockRet ?_ | refine roundExit ?_ | refine roundRet ?_ | refine roundExitR ?_ | refine roundRetR ?_) | ((with_reducible refine blockPass ?_ ?_); rfl) | ((with_reducible refine awp_condT ?_ ?_); rfl) | ((with_reducible refine awp_condF ?_ ?_); rfl) | (with_reducible (refine awp_condS rfl ?_ ?_); all_goals (intro hb; have hb' := hb; (try simp only [pkC] at hb'); first | (exfalso; omega) | skip)) | ((with_reducible refine awp_reg ?_); intro K hK) | ((with_reducible refine sw_guardT ?_ ?_); rfl) | ((with_reducible refine sw_guardF ?_ ?_); (rfl; try simp only [St.put, undef, pkA, Nat.reduceAdd, Nat.reduceSub, Nat.reduceLeDiff, Nat.reduceEqDiff])) | (with_reducible (refine sw_guardS rfl ?_ ?_); all_goals (intro hb; have hb' := hb; (try simp only [pkC] at hb'); first | (exfalso; omega) | skip)) | ((with_reducible refine hK _ ?_); clear hK K) | (with_reducible refine and_split ?_ ?_) | ((with_reducible refine sw_id ?_); simp (disch := first | decide | omega) only [↓pkS, pkW, pkA, undef, capsOf, ex, St.put, St.ev, kav, gdA, opI, rawI, vbin, srcOf, avsD, acsD, AV.toD, AC.toD, AV.nw, AC.nw, AC.one, Value.oneCell', fillA, D.one, D.ones, D.sz, D.szs, Nat.reduceAdd, Nat.reduceSub, Nat.reduceLeDiff, Nat.reduceEqDiff, reduceIte, pkN, li_acs, ls_acs, sl_acs, el_ints, el_strs, hsx, zle, Int.toNat_natCast, b1, b2]) | (first | (with_reducible rfl) | (with_reducible refine fnok_id ?_; kernel_rfl) | exact el_strs _ | exact el_ints _ | exact el_ln _ | exact el_tk _ _ | exact el_td _ _ _ | omega | (simp; done) | (simp; omega)) | ((with_reducible refine args_id ?_); simp [ArgsOk, ArgOk, argsD, argD, AC.toD, Value.oneCell', sl_flat, leaf_flat, li_flat, ls_flat, sl_agg, leaf_agg, li_agg, ls_agg, mo_t, mo_f, li_acs, ls_acs, sl_acs, el_ints, el_strs, hsx, zle, Int.toNat_natCast, b1, b2]; first | done | rfl))
          exact endRet ⟨⟨_, rfl, rfl, trivial⟩, ⟨_, rfl, rfl, trivial⟩⟩
        have b2 : decide ((s[i].toNat : Int) > 57) = false := decide_eq_false c2
        have hdn : ∀ c ∈ s.data.toList.take (i + 1), isDg c = true := fun c hc => by
          rw [take_at hlt] at hc
          rcases List.mem_append.1 hc with hc | hc
          · exact hdg c hc
          · simp only [List.mem_singleton] at hc
            subst hc
            exact isDg_ok c1 c2
        have hnx : dfold 0 (s.data.toList.take (i + 1)) = dfold 0 (s.data.toList.take i) * 10 + (s[i].toNat - 48) := by rw [take_at hlt, dfold_app, dfold_cons, dfold_nil]
        have hv1 := dfold_le (m := 18) hdn (by omega)
        rw [hnx, hp18] at hv1
        have w1 : IntKind.i64.wrap (10 * ((dfold 0 (s.data.toList.take i) : Nat) : Int)) = ((dfold 0 (s.data.toList.take i) * 10 : Nat) : Int) := by rw [wrap_id (by omega) (by omega)]; omega
        have w2 : IntKind.u8.wrap ((s[i].toNat : Int) - 48) = ((s[i].toNat - 48 : Nat) : Int) := by rw [u8_wrap (by omega) (by omega)]; omega
        have w3 : IntKind.i64.wrap ((s[i].toNat - 48 : Nat) : Int) = ((s[i].toNat - 48 : Nat) : Int) := wrap_id (by omega) (by omega)
        have w4 : IntKind.i64.wrap (((dfold 0 (s.data.toList.take i) * 10 : Nat) : Int) + ((s[i].toNat - 48 : Nat) : Int)) = ((dfold 0 (s.data.toList.take (i + 1)) : Nat) : Int) := by rw [hnx, wrap_id (by omega) (by omega)]; omega
        clear hnx
        repeat' (first | (with_reducible first | refine awp_seq ?_ | refine awp_block ?_ | refine awp_skip ?_ | refine awp_exit ?_ | refine awp_ret ?_ | refine athen ?_ | refine thenExit ?_ | refine thenRet ?_ | refine blockNormal ?_ | refine blockExit ?_ | refine blockRet ?_ | refine roundExit ?_ | refine roundRet ?_ | refine roundExitR ?_ | refine roundRetR ?_) | ((with_reducible refine blockPass ?_ ?_); rfl) | ((with_reducible refine awp_condT ?_ ?_); rfl) | ((with_reducible refine awp_condF ?_ ?_); rfl) | (with_reducible (refine awp_condS rfl ?_ ?_); all_goals (intro hb; have hb' := hb; (try simp only [pkC] at hb'); first | (exfalso; omega) | skip)) | ((with_reducible refine awp_reg ?_); intro K hK) | ((with_reducible refine sw_guardT ?_ ?_); rfl) | ((with_reducible refine sw_guardF ?_ ?_); (rfl; try simp only [St.put, undef, pkA, Nat.reduceAdd, Nat.reduceSub, Nat.reduceLeDiff, Nat.reduceEqDiff])) | (with_reducible (refine sw_guardS rfl ?_ ?_); all_goals (intro hb; have hb' := hb; (try simp only [pkC] at hb'); first | (exfalso; omega) | skip)) | ((with_reducible refine hK _ ?_); clear hK K) | (with_reducible refine and_split ?_ ?_) | ((with_reducible refine sw_id ?_); simp (disch := first | decide | omega) only [↓pkS, pkW, pkA, undef, capsOf, ex, St.put, St.ev, kav, gdA, opI, rawI, vbin, srcOf, avsD, acsD, AV.toD, AC.toD, AV.nw, AC.nw, AC.one, Value.oneCell', fillA, D.one, D.ones, D.sz, D.szs, Nat.reduceAdd, Nat.reduceSub, Nat.reduceLeDiff, Nat.reduceEqDiff, reduceIte, pkN, li_acs, ls_acs, sl_acs, el_ints, el_strs, hsx, zle, Int.toNat_natCast, b1, b2, w1, w2, w3, w4]) | (first | (with_reducible rfl) | (with_reducible refine fnok_id ?_; kernel_rfl) | exact el_strs _ | exact el_ints _ | exact el_ln _ | exact el_tk _ _ | exact el_td _ _ _ | omega | (simp; done) | (simp; omega)) | ((with_reducible refine args_id ?_); simp [ArgsOk, ArgOk, argsD, argD, AC.toD, Value.oneCell', sl_flat, leaf_flat, li_flat, ls_flat, sl_agg, leaf_agg, li_agg, ls_agg, mo_t, mo_f, li_acs, ls_acs, sl_acs, el_ints, el_strs, hsx, zle, Int.toNat_natCast, b1, b2, w1, w2, w3, w4]; first | done | rfl))
        refine roundB (i + 1) ?_ ⟨show i + 1 ≤ s.size by omega, hdn⟩ (show s.size - (i + 1) < s.size - i by omega)
        simp [StLe', FrLe, OwnLe, BoxLe, AV.fits, AC.fits, FB, mask]
      obtain rfl : i = s.size := by omega
      have htk : s.data.toList.take s.size = bodyL s := by rw [← list_size s, List.take_length, hbl]
      have hv1 := dfold_le (m := 18) hdg (by omega)
      rw [hp18] at hv1
      rw [htk] at hdg hv1 ⊢
      have hval : valS s = ((dfold 0 (bodyL s) : Nat) : Int) := by unfold valS; rw [hmi]; rfl
      have hfi := formatInt_spec_to (n := valS s) (by rw [hval]; omega) (by rw [hval]; omega)
      rw [hval] at hfi
      cases hq : ((fmtI (valS s)).toList == s.toList) with
      | true =>
        have heq : fmtI (valS s) = s := bytes_inj.1 (by simpa using hq)
        have hr := rdS_ok (m := m) hm18 hdg (by omega) heq
        rw [hr, hval]
        rw [hval] at hq
        repeat' (first | (with_reducible first | refine awp_seq ?_ | refine awp_block ?_ | refine awp_skip ?_ | refine awp_exit ?_ | refine awp_ret ?_ | refine athen ?_ | refine thenExit ?_ | refine thenRet ?_ | refine blockNormal ?_ | refine blockExit ?_ | refine blockRet ?_ | refine roundExit ?_ | refine roundRet ?_ | refine roundExitR ?_ | refine roundRetR ?_) | ((with_reducible refine blockPass ?_ ?_); rfl) | ((with_reducible refine awp_condT ?_ ?_); rfl) | ((with_reducible refine awp_condF ?_ ?_); rfl) | (with_reducible (refine awp_condS rfl ?_ ?_); all_goals (intro hb; have hb' := hb; (try simp only [pkC] at hb'); first | (exfalso; omega) | skip)) | ((with_reducible refine awp_reg ?_); intro K hK) | ((with_reducible refine sw_guardT ?_ ?_); rfl) | ((with_reducible refine sw_guardF ?_ ?_); (rfl; try simp only [St.put, undef, pkA, Nat.reduceAdd, Nat.reduceSub, Nat.reduceLeDiff, Nat.reduceEqDiff])) | (with_reducible (refine sw_guardS rfl ?_ ?_); all_goals (intro hb; have hb' := hb; (try simp only [pkC] at hb'); first | (exfalso; omega) | skip)) | ((with_reducible refine hK _ ?_); clear hK K) | (with_reducible refine and_split ?_ ?_) | ((with_reducible refine ct_id ?_); first | (refine callThen hfi trivial ?_ ?_)) | ((with_reducible refine ctd_id ?_); first | (refine callThenD hfi trivial ?_ ?_)) | ((with_reducible refine sw_id ?_); simp (disch := first | decide | omega) only [↓pkS, pkW, pkA, undef, capsOf, ex, St.put, St.ev, kav, gdA, opI, rawI, vbin, srcOf, avsD, acsD, AV.toD, AC.toD, AV.nw, AC.nw, AC.one, Value.oneCell', fillA, D.one, D.ones, D.sz, D.szs, Nat.reduceAdd, Nat.reduceSub, Nat.reduceLeDiff, Nat.reduceEqDiff, reduceIte, pkN, li_acs, ls_acs, sl_acs, el_ints, el_strs, hq]) | (first | (with_reducible rfl) | (with_reducible refine fnok_id ?_; kernel_rfl) | exact el_strs _ | exact el_ints _ | exact el_ln _ | exact el_tk _ _ | exact el_td _ _ _ | omega | (simp; done) | (simp; omega)) | ((with_reducible refine args_id ?_); simp [ArgsOk, ArgOk, argsD, argD, AC.toD, Value.oneCell', sl_flat, leaf_flat, li_flat, ls_flat, sl_agg, leaf_agg, li_agg, ls_agg, mo_t, mo_f, li_acs, ls_acs, sl_acs, el_ints, el_strs, hq]; first | done | rfl))
        exact endRet ⟨⟨_, rfl, rfl, trivial⟩, ⟨_, rfl, rfl, trivial⟩⟩
      | false =>
        have hne : fmtI (valS s) ≠ s := fun e => by rw [e] at hq; simp at hq
        have hr := rdS_val (m := m) hne
        rw [hr]
        rw [hval] at hq
        repeat' (first | (with_reducible first | refine awp_seq ?_ | refine awp_block ?_ | refine awp_skip ?_ | refine awp_exit ?_ | refine awp_ret ?_ | refine athen ?_ | refine thenExit ?_ | refine thenRet ?_ | refine blockNormal ?_ | refine blockExit ?_ | refine blockRet ?_ | refine roundExit ?_ | refine roundRet ?_ | refine roundExitR ?_ | refine roundRetR ?_) | ((with_reducible refine blockPass ?_ ?_); rfl) | ((with_reducible refine awp_condT ?_ ?_); rfl) | ((with_reducible refine awp_condF ?_ ?_); rfl) | (with_reducible (refine awp_condS rfl ?_ ?_); all_goals (intro hb; have hb' := hb; (try simp only [pkC] at hb'); first | (exfalso; omega) | skip)) | ((with_reducible refine awp_reg ?_); intro K hK) | ((with_reducible refine sw_guardT ?_ ?_); rfl) | ((with_reducible refine sw_guardF ?_ ?_); (rfl; try simp only [St.put, undef, pkA, Nat.reduceAdd, Nat.reduceSub, Nat.reduceLeDiff, Nat.reduceEqDiff])) | (with_reducible (refine sw_guardS rfl ?_ ?_); all_goals (intro hb; have hb' := hb; (try simp only [pkC] at hb'); first | (exfalso; omega) | skip)) | ((with_reducible refine hK _ ?_); clear hK K) | (with_reducible refine and_split ?_ ?_) | ((with_reducible refine ct_id ?_); first | (refine callThen hfi trivial ?_ ?_)) | ((with_reducible refine ctd_id ?_); first | (refine callThenD hfi trivial ?_ ?_)) | ((with_reducible refine sw_id ?_); simp (disch := first | decide | omega) only [↓pkS, pkW, pkA, undef, capsOf, ex, St.put, St.ev, kav, gdA, opI, rawI, vbin, srcOf, avsD, acsD, AV.toD, AC.toD, AV.nw, AC.nw, AC.one, Value.oneCell', fillA, D.one, D.ones, D.sz, D.szs, Nat.reduceAdd, Nat.reduceSub, Nat.reduceLeDiff, Nat.reduceEqDiff, reduceIte, pkN, li_acs, ls_acs, sl_acs, el_ints, el_strs, hq]) | (first | (with_reducible rfl) | (with_reducible refine fnok_id ?_; kernel_rfl) | exact el_strs _ | exact el_ints _ | exact el_ln _ | exact el_tk _ _ | exact el_td _ _ _ | omega | (simp; done) | (simp; omega)) | ((with_reducible refine args_id ?_); simp [ArgsOk, ArgOk, argsD, argD, AC.toD, Value.oneCell', sl_flat, leaf_flat, li_flat, ls_flat, sl_agg, leaf_agg, li_agg, ls_agg, mo_t, mo_f, li_acs, ls_acs, sl_acs, el_ints, el_strs, hq]; first | done | rfl))
        exact endRet ⟨⟨_, rfl, rfl, trivial⟩, ⟨_, rfl, rfl, trivial⟩⟩
  · have d0 : decide ((s.size : Int) > 0) = false := decide_eq_false (by omega)
    have hmi := isMi_false1 h0
    obtain ⟨tb, htb⟩ : ∃ tb, bodyS s = tb := ⟨_, rfl⟩
    have hex : s = tb := by rw [← htb]; unfold bodyS; rw [if_neg (by rw [hmi]; decide)]
    have hr : rdS m s = (0, false) := rdS_len hm18 (Or.inl (by rw [← bodyS_list, list_size, htb, ← hex]; omega)) hm1
    have g1 : decide ((s.size : Int) < 1) = true := decide_eq_true (by omega)
    rw [hr]
    repeat' (first | (with_reducible first | refine awp_seq ?_ | refine awp_block ?_ | refine awp_skip ?_ | refine awp_exit ?_ | refine awp_ret ?_ | refine athen ?_ | refine thenExit ?_ | refine thenRet ?_ | refine blockNormal ?_ | refine blockExit ?_ | refine blockRet ?_ | refine roundExit ?_ | refine roundRet ?_ | refine roundExitR ?_ | refine roundRetR ?_) | ((with_reducible refine blockPass ?_ ?_); rfl) | ((with_reducible refine awp_condT ?_ ?_); rfl) | ((with_reducible refine awp_condF ?_ ?_); rfl) | (with_reducible (refine awp_condS rfl ?_ ?_); all_goals (intro hb; have hb' := hb; (try simp only [pkC] at hb'); first | (exfalso; omega) | skip)) | ((with_reducible refine awp_reg ?_); intro K hK) | ((with_reducible refine sw_guardT ?_ ?_); rfl) | ((with_reducible refine sw_guardF ?_ ?_); (rfl; try simp only [St.put, undef, pkA, Nat.reduceAdd, Nat.reduceSub, Nat.reduceLeDiff, Nat.reduceEqDiff])) | (with_reducible (refine sw_guardS rfl ?_ ?_); all_goals (intro hb; have hb' := hb; (try simp only [pkC] at hb'); first | (exfalso; omega) | skip)) | ((with_reducible refine hK _ ?_); clear hK K) | (with_reducible refine and_split ?_ ?_) | ((with_reducible refine sw_id ?_); simp (disch := first | decide | omega) only [↓pkS, pkW, pkA, undef, capsOf, ex, St.put, St.ev, kav, gdA, opI, rawI, vbin, srcOf, avsD, acsD, AV.toD, AC.toD, AV.nw, AC.nw, AC.one, Value.oneCell', fillA, D.one, D.ones, D.sz, D.szs, Nat.reduceAdd, Nat.reduceSub, Nat.reduceLeDiff, Nat.reduceEqDiff, reduceIte, pkN, li_acs, ls_acs, sl_acs, el_ints, el_strs, d0, g1]) | (first | (with_reducible rfl) | (with_reducible refine fnok_id ?_; kernel_rfl) | exact el_strs _ | exact el_ints _ | exact el_ln _ | exact el_tk _ _ | exact el_td _ _ _ | omega | (simp; done) | (simp; omega)) | ((with_reducible refine args_id ?_); simp [ArgsOk, ArgOk, argsD, argD, AC.toD, Value.oneCell', sl_flat, leaf_flat, li_flat, ls_flat, sl_agg, leaf_agg, li_agg, ls_agg, mo_t, mo_f, li_acs, ls_acs, sl_acs, el_ints, el_strs, d0, g1]; first | done | rfl))
    exact endRet ⟨⟨_, rfl, rfl, trivial⟩, ⟨_, rfl, rfl, trivial⟩⟩
end Go.Proofs.YtdjcflnemnknaaaDoor

namespace Go.Proofs.YtdjcflnemnknaaaDoor
open Go.RowKit
set_option linter.unusedSimpArgs false
set_option linter.unusedVariables false
theorem fmtI_inj {a b : Int} (h : fmtI a = fmtI b) : a = b := by rw [← val_fmt a, ← val_fmt b, h]
/-- What the reference makes of what it has read: a number of a range inside. -/
theorem rdN_sub {lo hi a b : Int} (s : ByteArray) (h1 : a ≤ lo) (h2 : hi ≤ b) (ha : -9223372036854775808 ≤ a) (hb : b ≤ 9223372036854775807) :
    rdN lo hi s = if (rdN a b s).2 = true ∧ lo ≤ (rdN a b s).1 ∧ (rdN a b s).1 ≤ hi then ((rdN a b s).1, true) else (0, false) := by
  rcases rdN_cases a b s with ⟨n, g1, g2, g3, g4⟩ | ⟨g1, g2⟩
  · rw [g4]
    by_cases h : lo ≤ n ∧ n ≤ hi
    · rw [if_pos ⟨rfl, h.1, h.2⟩]
      exact rdN_some (by omega) (by omega) h.1 h.2 g3
    · rw [if_neg (fun hc => h hc.2)]
      refine rdN_none fun m m1 m2 m3 => ?_
      have := fmtI_inj (m3.trans g3.symm)
      subst this
      exact h ⟨m1, m2⟩
  · rw [g2, if_neg (fun hc => by simp at hc)]
    exact rdN_none fun m m1 m2 m3 => g1 m (by omega) (by omega) (by omega) (by omega) m3
theorem rdS_12 (s : ByteArray) : rdS 12 s = rdN (-999999999999) 999999999999 s := rfl
theorem rdN_hi (lo hi : Int) (s : ByteArray) : (rdN lo hi s).2 = true → lo ≤ (rdN lo hi s).1 ∧ (rdN lo hi s).1 ≤ hi := by
  intro h
  rcases rdN_cases lo hi s with ⟨n, g1, g2, g3, g4⟩ | ⟨g1, g2⟩
  · rw [g4]; exact ⟨g1, g2⟩
  · rw [g2] at h; cases h
theorem piece_size (sep : ByteArray) (h1 : 1 ≤ sep.size) : ∀ (k : Nat) (s : ByteArray), s.size ≤ k → ∀ x ∈ cut sep s, x.size ≤ s.size := by
  intro k
  induction k with
  | zero =>
    intro s hs x hx
    have hs0 : s.size = 0 := by omega
    have : cut sep s = [s] := by
      have := cut_miss s sep (a := 0) (fun j _ _ => by
        unfold Lib.occAt
        have e : s.data.toList = [] := List.eq_nil_of_length_eq_zero (by simpa using hs0)
        rw [e, List.drop_nil]
        have : sep.data.toList ≠ [] := fun hn => by
          have h0 := ba_size sep
          rw [hn, List.length_nil] at h0
          omega
        cases hq : sep.data.toList with
        | nil => exact absurd hq this
        | cons a b => rfl) (Nat.zero_le _)
      rwa [ext_self] at this
    rw [this] at hx
    simp only [List.mem_singleton] at hx
    subst hx
    exact Nat.le_refl _
  | succ k ih =>
    intro s hs x hx
    rcases Lib.index_spec s.data.toList sep.data.toList with ⟨h, hn⟩ | ⟨i, h2, h3, h4, h5⟩
    · have := cut_miss s sep (a := 0) (fun j _ hj => hn j (by simpa using hj)) (Nat.zero_le _)
      rw [ext_self] at this
      rw [this] at hx
      simp only [List.mem_singleton] at hx
      subst hx
      exact Nat.le_refl _
    · have hroom := Lib.index_room s.data.toList sep.data.toList (by omega)
      rw [h2] at hroom
      simp only [ba_size] at hroom
      have := cut_hit s sep (a := 0) (i := i) h1 (Nat.zero_le _) (by omega) (fun j _ hj => h5 j hj) h4
      rw [ext_self] at this
      rw [this] at hx
      rcases List.mem_cons.1 hx with rfl | hx
      · simp; omega
      · have hsz : (s.extract (i + sep.size) s.size).size = s.size - (i + sep.size) := by simp
        have := ih _ (by omega) x hx
        omega
theorem cut_piece {sep s x : ByteArray} (h1 : 1 ≤ sep.size) (hx : x ∈ cut sep s) : x.size ≤ s.size := piece_size sep h1 s.size s (Nat.le_refl _) x hx
def ic_pn_impl : IC := (.seq (.reg false [⟨(some 2), none, .mov (.k (.int .i64 0))⟩, ⟨(some 3), none, .mov (.k (.bool false))⟩]) (.seq (.reg false [⟨(some 7), none, .mov (.t 0)⟩, ⟨(some 8), none, .call 91 [(.t 7), (.k (.int .i64 0)), (.k (.int .i64 999999))]⟩, ⟨(some 6), none, .mov (.t 8)⟩, ⟨(some 9), none, .ext 0 (.t 6)⟩, ⟨(some 10), none, .ext 1 (.t 6)⟩, ⟨(some 4), none, .mov (.t 9)⟩, ⟨(some 5), none, .mov (.t 10)⟩]) (.seq (.reg false [⟨(some 11), none, .mov (.t 4)⟩, ⟨(some 12), none, .mov (.t 5)⟩, ⟨(some 2), none, .mov (.t 11)⟩, ⟨(some 3), none, .mov (.t 12)⟩]) .ret)))
def ic_pn_spec : IC := (.seq (.reg false [⟨(some 2), none, .mov (.k (.int .i64 0))⟩, ⟨(some 3), none, .mov (.k (.bool false))⟩]) (.seq (.reg false [⟨(some 7), none, .mov (.t 0)⟩, ⟨(some 8), none, .call 89 [(.t 7), (.k (.int .i64 6))]⟩, ⟨(some 6), none, .mov (.t 8)⟩, ⟨(some 9), none, .ext 0 (.t 6)⟩, ⟨(some 10), none, .ext 1 (.t 6)⟩, ⟨(some 4), none, .mov (.t 9)⟩, ⟨(some 5), none, .mov (.t 10)⟩]) (.seq (.seq (.reg false [⟨(some 11), none, .mov (.t 5)⟩, ⟨(some 12), none, .not (.t 11)⟩, ⟨(some 13), none, .mov (.t 12)⟩, ⟨(some 14), (some (13, false)), .mov (.t 4)⟩, ⟨(some 15), (some (13, false)), .bin .lss (.t 14) (.k (.int .i64 0))⟩, ⟨(some 16), none, .pick (.t 13) (.k (.bool true)) (.t 15)⟩]) (.cond (.t 16) (.seq (.reg false [⟨(some 2), none, .mov (.k (.int .i64 0))⟩, ⟨(some 3), none, .mov (.k (.bool false))⟩]) .ret) .skip)) (.seq (.reg false [⟨(some 17), none, .mov (.t 4)⟩, ⟨(some 2), none, .mov (.t 17)⟩, ⟨(some 3), none, .mov (.k (.bool true))⟩]) .ret))))
def ic_pi_spec : IC := (.seq (.reg false [⟨(some 2), none, .mov (.k (.int .i64 0))⟩, ⟨(some 3), none, .mov (.k (.bool false))⟩]) (.seq (.reg false [⟨(some 4), none, .mov (.t 0)⟩, ⟨(some 5), none, .call 89 [(.t 4), (.k (.int .i64 12))]⟩, ⟨(some 6), none, .ext 0 (.t 5)⟩, ⟨(some 7), none, .ext 1 (.t 5)⟩, ⟨(some 2), none, .mov (.t 6)⟩, ⟨(some 3), none, .mov (.t 7)⟩]) .ret))
theorem ic_pi_spec_ok : compC Tryd.prog (Tryd.f93.body.getD .skip) = some ic_pi_spec := by kernel_rfl
theorem parseInt_spec_to (s : ByteArray) (hs : s.size ≤ 1048576) : CallsTo Tryd.prog 93 [ls s] (pairIB (rdS 12 s)) := by
  refine calls_two (fn := Tryd.f93) (r := .tmp 2) (q := .tmp 3) (by kernel_rfl) (by kernel_rfl) (by kernel_rfl) rfl ic_pi_spec_ok ?_
  unfold ic_pi_spec
  change AWP _ _ _ (st0 8 _)
  simp only [undef, stS, st0, stN, D.av, D.avN, sl_agg, leaf_agg, li_agg, ls_agg, sl_acs, leaf_acs, li_acs, ls_acs, List.map_cons, List.map_nil, List.replicate, List.cons_append, List.nil_append, List.length_cons, List.length_nil, Nat.reduceAdd, Nat.reduceSub]
  have hi := l1Read_to s 12 (by decide) (by decide) hs
  repeat' (first | (with_reducible first | refine awp_seq ?_ | refine awp_block ?_ | refine awp_skip ?_ | refine awp_exit ?_ | refine awp_ret ?_ | refine athen ?_ | refine thenExit ?_ | refine thenRet ?_ | refine blockNormal ?_ | refine blockExit ?_ | refine blockRet ?_ | refine roundExit ?_ | refine roundRet ?_ | refine roundExitR ?_ | refine roundRetR ?_) | ((with_reducible refine blockPass ?_ ?_); rfl) | ((with_reducible refine awp_condT ?_ ?_); rfl) | ((with_reducible refine awp_condF ?_ ?_); rfl) | (with_reducible (refine awp_condS rfl ?_ ?_); all_goals (intro hb; have hb' := hb; (try simp only [pkC] at hb'); first | (exfalso; omega) | skip)) | ((with_reducible refine awp_reg ?_); intro K hK) | ((with_reducible refine hK _ ?_); clear hK K) | (with_reducible refine and_split ?_ ?_) | ((with_reducible refine ct_id ?_); first | (refine callThen hi trivial ?_ ?_)) | ((with_reducible refine ctd_id ?_); first | (refine callThenD hi trivial ?_ ?_)) | ((with_reducible refine sw_id ?_); simp (disch := first | decide | omega) only [↓pkS, pkW, pkA, undef, capsOf, ex, St.put, St.ev, kav, gdA, opI, rawI, vbin, srcOf, avsD, acsD, AV.toD, AC.toD, AV.nw, AC.nw, AC.one, Value.oneCell', fillA, D.one, D.ones, D.sz, D.szs, Nat.reduceAdd, Nat.reduceSub, Nat.reduceLeDiff, Nat.reduceEqDiff, reduceIte, pkN, li_acs, ls_acs, sl_acs, el_ints, el_strs]) | (first | (with_reducible rfl) | (with_reducible refine fnok_id ?_; kernel_rfl) | exact el_strs _ | exact el_ints _ | exact el_ln _ | exact el_tk _ _ | exact el_td _ _ _ | omega | (simp; done) | (simp; omega)) | ((with_reducible refine args_id ?_); simp [ArgsOk, ArgOk, argsD, argD, AC.toD, Value.oneCell', sl_flat, leaf_flat, li_flat, ls_flat, sl_agg, leaf_agg, li_agg, ls_agg, mo_t, mo_f, li_acs, ls_acs, sl_acs, el_ints, el_strs]; first | done | rfl))
  exact endRet ⟨⟨_, rfl, rfl, trivial⟩, ⟨_, rfl, rfl, trivial⟩⟩
end Go.Proofs.YtdjcflnemnknaaaDoor

