/-
  Texts joined: Prs4.
-/
import Derived.Test.YtdjcflnemnknaaaDoorKU
import Derived.Test.YtdjcflnemnknaaaDoorKT
namespace Go.Proofs.YtdjcflnemnknaaaDoor
open Go.RowKit
set_option linter.unusedSimpArgs false
set_option linter.unusedVariables false
/-- A word of a row: is it a number of a table, and which. -/
def okW (w : ByteArray) : Bool := (rdN (-1000000000) 1000000000 w).2
def valW (w : ByteArray) : Int := (rdN (-1000000000) 1000000000 w).1
theorem okW_spec (w : ByteArray) : okW w = ((rdS 12 w).2 && numB (rdS 12 w).1) ∧ (okW w = true → valW w = (rdS 12 w).1) := by
  have h := rdN_sub (lo := -1000000000) (hi := 1000000000) (a := -999999999999) (b := 999999999999) w (by decide) (by decide) (by decide) (by decide)
  unfold okW valW
  rw [h, rdS_12]
  generalize rdN (-999999999999) 999999999999 w = p
  obtain ⟨v, b⟩ := p
  by_cases hc : b = true ∧ -1000000000 ≤ v ∧ v ≤ 1000000000
  · rw [if_pos hc]
    refine ⟨?_, fun _ => rfl⟩
    simp [hc.1, numB, inR, hc.2.1, hc.2.2]
  · rw [if_neg hc]
    refine ⟨?_, fun h => by cases h⟩
    cases b with
    | false => rfl
    | true =>
      simp only [true_and] at hc
      have : numB v = false := by
        simp only [numB, inR, Bool.and_eq_false_iff, decide_eq_false_iff_not]
        omega
      simp [this]
def rowOk (s : ByteArray) : Bool := allL okW (cut spB s)
def rowV (s : ByteArray) : List Int := (cut spB s).map valW
/-- A table's parts in a text. -/
def partsD (s : ByteArray) : List ByteArray := cut ⟨#[59, 32]⟩ s
/-- The reference's way through a text: the parts laid so far, and where the next one begins. -/
def Spl2 (s : ByteArray) (i k : Nat) (l : List ByteArray) : Prop :=
  l.length ≤ i ∧ k ≤ i + 1 ∧ k ≤ s.size ∧ (∀ j, k ≤ j → j < i → Lib.occAt s.data.toList [59, 32] j = false) ∧ (k = i + 1 → ∀ h : i < s.size, s[i] = 32) ∧ l ++ cut ⟨#[59, 32]⟩ (s.extract k s.size) = partsD s
theorem Spl2.start (s : ByteArray) : Spl2 s 0 0 [] := ⟨Nat.le_refl _, by omega, Nat.zero_le _, fun j _ h => absurd h (Nat.not_lt_zero _), fun h => by omega, by rw [ext_self]; rfl⟩
theorem Spl2.hit {s : ByteArray} {i k : Nat} {l : List ByteArray} (h : Spl2 s i k l) (hi : i + 1 < s.size) (h1 : s[i] = 59) (h2 : s[i + 1] = 32) : k ≤ i ∧ Spl2 s (i + 1) (i + 2) (l ++ [s.extract k i]) := by
  obtain ⟨g1, g2, g3, g4, g5, g6⟩ := h
  have hk : k ≤ i := by
    rcases Nat.lt_or_ge k (i + 1) with hlt | hge
    · omega
    · have := g5 (by omega) (by omega)
      rw [h1] at this
      cases this
  refine ⟨hk, by simp; omega, Nat.le_refl _, by omega, fun j hj hj2 => by omega, fun _ _ => h2, ?_⟩
  rw [← g6, cut_hit s ⟨#[59, 32]⟩ (show 1 ≤ 2 by decide) hk (show i + 2 ≤ s.size by omega) g4 ((occ2 s 59 32 hi).trans (by rw [h1, h2]; rfl))]
  simp
  rfl
theorem Spl2.miss {s : ByteArray} {i k : Nat} {l : List ByteArray} (h : Spl2 s i k l) (hi : i + 1 < s.size) (hn : ¬ (s[i] = 59 ∧ s[i + 1] = 32)) : Spl2 s (i + 1) k l := by
  obtain ⟨g1, g2, g3, g4, g5, g6⟩ := h
  refine ⟨by omega, by omega, g3, fun j hj hj2 => ?_, fun h => by omega, g6⟩
  by_cases e : j = i
  · subst e
    rw [occ2 s 59 32 hi, Bool.and_eq_false_iff]
    by_cases ha : s[j] = 59
    · right
      rw [beq_eq_false_iff_ne]
      exact fun e => hn ⟨ha, e.symm⟩
    · left
      rw [beq_eq_false_iff_ne]
      exact fun e => ha e.symm
  · exact g4 j hj (by omega)
theorem Spl2.fin {s : ByteArray} {i k : Nat} {l : List ByteArray} (h : Spl2 s i k l) (hi : s.size ≤ i + 1) : l ++ [s.extract k s.size] = partsD s := by
  obtain ⟨g1, g2, g3, g4, g5, g6⟩ := h
  rw [← g6, cut_miss s ⟨#[59, 32]⟩ (fun j hj hj2 => ?_) g3]
  rcases Nat.lt_or_ge j i with hlt | hge
  · exact g4 j hj hlt
  · exact occ2_end s 59 32 (by omega)
theorem u8_ne {a : UInt8} {n : Nat} (hn : n < 256) (h : a ≠ UInt8.ofNat n) : (((a.toNat : Nat) : Int) == ((n : Nat) : Int)) = false := beq_f (fun e => h (by
  have e2 : a.toNat = n := by omega
  exact UInt8.toNat_inj.1 (by rw [e2, UInt8.toNat_ofNat']; omega)))
def ic_parts_spec : IC := (.seq (.reg false [⟨(some 2), none, .mov (.k (.slice none 0 0))⟩]) (.seq (.reg false [⟨(some 6), none, .brow true 9 1 0 false []⟩, ⟨(some 3), none, .mov (.t 6)⟩]) (.seq (.reg false [⟨(some 4), none, .mov (.k (.int .i64 0))⟩]) (.seq (.seq (.reg false [⟨(some 5), none, .mov (.k (.int .i64 0))⟩]) (.block 0 (.loop (.seq (.seq (.reg false [⟨(some 7), none, .mov (.t 5)⟩, ⟨(some 8), none, .bin .add (.t 7) (.k (.int .i64 1))⟩, ⟨(some 9), none, .mov (.t 0)⟩, ⟨(some 10), none, .len true (.t 9)⟩, ⟨(some 11), none, .bin .lss (.t 8) (.t 10)⟩]) (.cond (.t 11) .skip (.exit 0))) (.seq (.block 1 (.seq (.reg false [⟨(some 14), none, .mov (.t 0)⟩, ⟨(some 15), none, .mov (.t 5)⟩, ⟨(some 16), none, .sidx (.t 14) (.t 15)⟩, ⟨(some 17), none, .bin .eql (.t 16) (.k (.int .u8 59))⟩, ⟨(some 18), none, .mov (.t 17)⟩, ⟨(some 19), (some (18, true)), .mov (.t 0)⟩, ⟨(some 20), (some (18, true)), .mov (.t 5)⟩, ⟨(some 21), (some (18, true)), .bin .add (.t 20) (.k (.int .i64 1))⟩, ⟨(some 22), (some (18, true)), .sidx (.t 19) (.t 21)⟩, ⟨(some 23), (some (18, true)), .bin .eql (.t 22) (.k (.int .u8 32))⟩, ⟨(some 24), none, .pick (.t 18) (.t 23) (.k (.bool false))⟩]) (.cond (.t 24) (.seq (.reg false [⟨(some 25), none, .mov (.t 3)⟩, ⟨(some 26), none, .mov (.t 0)⟩, ⟨(some 27), none, .mov (.t 4)⟩, ⟨(some 28), none, .mov (.t 5)⟩, ⟨(some 29), none, .ssl (.t 26) (some (.t 27)) (some (.t 28))⟩, ⟨(some 30), none, .brow false 9 1 1 false [(.t 29)]⟩, ⟨(some 31), none, .app 9 1 (.t 25) (.t 30)⟩, ⟨(some 3), none, .mov (.t 31)⟩]) (.reg false [⟨(some 32), none, .mov (.t 5)⟩, ⟨(some 33), none, .bin .add (.t 32) (.k (.int .i64 2))⟩, ⟨(some 4), none, .mov (.t 33)⟩])) .skip))) (.reg false [⟨(some 12), none, .mov (.t 5)⟩, ⟨(some 13), none, .bin .add (.t 12) (.k (.int .i64 1))⟩, ⟨(some 5), none, .mov (.t 13)⟩])))))) (.seq (.reg false [⟨(some 34), none, .mov (.t 3)⟩, ⟨(some 35), none, .mov (.t 0)⟩, ⟨(some 36), none, .mov (.t 4)⟩, ⟨(some 37), none, .ssl (.t 35) (some (.t 36)) none⟩, ⟨(some 38), none, .brow false 9 1 1 false [(.t 37)]⟩, ⟨(some 39), none, .app 9 1 (.t 34) (.t 38)⟩, ⟨(some 2), none, .mov (.t 39)⟩]) .ret)))))
theorem ic_parts_spec_ok : compC Tryd.prog (Tryd.f58.body.getD .skip) = some ic_parts_spec := by kernel_rfl
set_option maxHeartbeats 8000000 in
theorem parts_spec_to (s : ByteArray) (hs : s.size ≤ 1048576) : CallsTo Tryd.prog 58 [ls s] (.c false [.sl true ((partsD s).map ls)]) := by
  refine calls_one (fn := Tryd.f58) (t := 2) (by kernel_rfl) (by kernel_rfl) (by kernel_rfl) ic_parts_spec_ok ?_
  unfold ic_parts_spec
  change AWP _ _ _ (st0 40 _)
  simp only [undef, stS, st0, stN, D.av, D.avN, sl_agg, leaf_agg, li_agg, ls_agg, sl_acs, leaf_acs, li_acs, ls_acs, List.map_cons, List.map_nil, List.replicate, List.cons_append, List.nil_append, List.length_cons, List.length_nil, Nat.reduceAdd, Nat.reduceSub]
  have wi : IntKind.i64.wrap 1 = 1 := by decide
  repeat' (first | (with_reducible first | refine awp_seq ?_ | refine awp_block ?_ | refine awp_skip ?_ | refine awp_exit ?_ | refine awp_ret ?_ | refine athen ?_ | refine thenExit ?_ | refine thenRet ?_ | refine blockNormal ?_ | refine blockExit ?_ | refine blockRet ?_ | refine roundExit ?_ | refine roundRet ?_ | refine roundExitR ?_ | refine roundRetR ?_) | ((with_reducible refine blockPass ?_ ?_); rfl) | ((with_reducible refine awp_condT ?_ ?_); rfl) | ((with_reducible refine awp_condF ?_ ?_); rfl) | (with_reducible (refine awp_condS rfl ?_ ?_); all_goals (intro hb; have hb' := hb; (try simp only [pkC] at hb'); first | (exfalso; omega) | skip)) | ((with_reducible refine awp_reg ?_); intro K hK) | ((with_reducible refine sw_guardT ?_ ?_); rfl) | ((with_reducible refine sw_guardF ?_ ?_); (rfl; try simp only [St.put, undef, pkA, Nat.reduceAdd, Nat.reduceSub, Nat.reduceLeDiff, Nat.reduceEqDiff])) | (with_reducible (refine sw_guardS rfl ?_ ?_); all_goals (intro hb; have hb' := hb; (try simp only [pkC] at hb'); first | (exfalso; omega) | skip)) | ((with_reducible refine hK _ ?_); clear hK K) | (with_reducible refine and_split ?_ ?_) | ((with_reducible refine sw_id ?_); simp (disch := first | decide | omega) only [↓pkS, pkW, pkA, undef, capsOf, ex, St.put, St.ev, kav, gdA, opI, rawI, vbin, srcOf, avsD, acsD, AV.toD, AC.toD, AV.nw, AC.nw, AC.one, Value.oneCell', fillA, D.one, D.ones, D.sz, D.szs, Nat.reduceAdd, Nat.reduceSub, Nat.reduceLeDiff, Nat.reduceEqDiff, reduceIte, pkN, li_acs, ls_acs, sl_acs, el_ints, el_strs, wi]) | (first | (with_reducible rfl) | (with_reducible refine fnok_id ?_; kernel_rfl) | exact el_strs _ | exact el_ints _ | exact el_ln _ | exact el_tk _ _ | exact el_td _ _ _ | omega | (simp; done) | (simp; omega)) | ((with_reducible refine args_id ?_); simp [ArgsOk, ArgOk, argsD, argD, AC.toD, Value.oneCell', sl_flat, leaf_flat, li_flat, ls_flat, sl_agg, leaf_agg, li_agg, ls_agg, mo_t, mo_f, li_acs, ls_acs, sl_acs, el_ints, el_strs, wi]; first | done | rfl))
  refine awp_loopB (X := Nat × Nat × List ByteArray × Nat) (fun q => [.k, .d, .d, .v (.c false [.own 0 q.2.2.2]), .v (.c false [.raw (.int .i64 (q.2.1 : Nat))]), .v (.c false [.raw (.int .i64 (q.1 : Nat))]), .d, .d, .d, .d, .d, .d, .d, .d, .d, .d, .d, .d, .d, .d, .d, .d, .d, .d, .d, .d, .d, .d, .d, .d, .d, .d, .d, .d, .d, .d, .d, .d, .d, .d]) (fun q => [⟨q.2.2.1.map ls, 9, 1, q.2.2.2, true⟩]) (fun q bs => []) (fun q => Spl2 s q.1 q.2.1 q.2.2.1 ∧ q.1 ≤ s.size) (fun q => s.size - q.1) (0, 0, [], 0) ⟨Spl2.start s, Nat.zero_le _⟩ ?_ ?_
  · simp [StLe', FrLe, OwnLe, BoxLe, AV.fits, AC.fits, FB, mask]
  rintro ⟨i, k, l, v⟩ hinv0
  obtain ⟨hinv, hiz⟩ : Spl2 s i k l ∧ i ≤ s.size := hinv0
  simp only [FB, mask]
  have hll : l.length ≤ 1048577 := by have := hinv.1; omega
  have hks : k ≤ s.size := hinv.2.2.1
  by_cases hi : i + 1 < s.size
  case neg =>
    have e0 : decide (((i + 1 : Nat) : Int) < (s.size : Int)) = false := decide_eq_false (by omega)
    have hfin := hinv.fin (by omega)
    have hse : (l ++ [s.extract k s.size]).map ls = l.map ls ++ [ls (s.extract k s.size)] := by simp
    rw [hfin] at hse
    repeat' (first | (with_reducible first | refine awp_seq ?_ | refine awp_block ?_ | refine awp_skip ?_ | refine awp_exit ?_ | refine awp_ret ?_ | refine athen ?_ | refine thenExit ?_ | refine thenRet ?_ | refine blockNormal ?_ | refine blockExit ?_ | refine blockRet ?_ | refine roundExit ?_ | refine roundRet ?_ | refine roundExitR ?_ | refine roundRetR ?_) | ((with_reducible refine blockPass ?_ ?_); rfl) | ((with_reducible refine awp_condT ?_ ?_); rfl) | ((with_reducible refine awp_condF ?_ ?_); rfl) | (with_reducible (refine awp_condS rfl ?_ ?_); all_goals (intro hb; have hb' := hb; (try simp only [pkC] at hb'); first | (exfalso; omega) | skip)) | ((with_reducible refine awp_reg ?_); intro K hK) | ((with_reducible refine sw_guardT ?_ ?_); rfl) | ((with_reducible refine sw_guardF ?_ ?_); (rfl; try simp only [St.put, undef, pkA, Nat.reduceAdd, Nat.reduceSub, Nat.reduceLeDiff, Nat.reduceEqDiff])) | (with_reducible (refine sw_guardS rfl ?_ ?_); all_goals (intro hb; have hb' := hb; (try simp only [pkC] at hb'); first | (exfalso; omega) | skip)) | ((with_reducible refine hK _ ?_); clear hK K) | (with_reducible refine and_split ?_ ?_) | ((with_reducible refine sw_id ?_); simp (disch := first | decide | omega) only [↓pkS, pkW, pkA, undef, capsOf, ex, St.put, St.ev, kav, gdA, opI, rawI, vbin, srcOf, avsD, acsD, AV.toD, AC.toD, AV.nw, AC.nw, AC.one, Value.oneCell', fillA, D.one, D.ones, D.sz, D.szs, Nat.reduceAdd, Nat.reduceSub, Nat.reduceLeDiff, Nat.reduceEqDiff, reduceIte, pkN, li_acs, ls_acs, sl_acs, el_ints, el_strs, wi, e0]) | (first | (with_reducible rfl) | (with_reducible refine fnok_id ?_; kernel_rfl) | exact el_strs _ | exact el_ints _ | exact el_ln _ | exact el_tk _ _ | exact el_td _ _ _ | omega | (simp; done) | (simp; omega)) | ((with_reducible refine args_id ?_); simp [ArgsOk, ArgOk, argsD, argD, AC.toD, Value.oneCell', sl_flat, leaf_flat, li_flat, ls_flat, sl_agg, leaf_agg, li_agg, ls_agg, mo_t, mo_f, li_acs, ls_acs, sl_acs, el_ints, el_strs, wi, e0]; first | done | rfl))
    exact endRet ⟨_, rfl, ⟨_, rfl, rfl, hse.symm, Or.inl rfl⟩, trivial⟩
  have e0 : decide (((i + 1 : Nat) : Int) < (s.size : Int)) = true := decide_eq_true (by omega)
  have hs1 := data_at (show i < s.size by omega)
  have hs2 := data_at hi
  have zi1 : ((0 : Int) ≤ (i : Int) + 1) = True := by simp; omega
  have ti1 : ((i : Int) + 1).toNat = i + 1 := by omega
  by_cases c1 : s[i] = 59
  · have e1 : ((s[i].toNat : Int) == 59) = true := by rw [c1]; rfl
    by_cases c2 : s[i + 1] = 32
    · have e2 : ((s[i + 1].toNat : Int) == 32) = true := by rw [c2]; rfl
      obtain ⟨hk, hn2⟩ := hinv.hit hi c1 c2
      have hse : (l ++ [s.extract k i]).map ls = l.map ls ++ [ls (s.extract k i)] := by simp
      have w2 : IntKind.i64.wrap ((i : Int) + 2) = ((i + 2 : Nat) : Int) := by rw [wrap_id (by omega) (by omega)]; rfl
      repeat' (first | (with_reducible first | refine awp_seq ?_ | refine awp_block ?_ | refine awp_skip ?_ | refine awp_exit ?_ | refine awp_ret ?_ | refine athen ?_ | refine thenExit ?_ | refine thenRet ?_ | refine blockNormal ?_ | refine blockExit ?_ | refine blockRet ?_ | refine roundExit ?_ | refine roundRet ?_ | refine roundExitR ?_ | refine roundRetR ?_) | ((with_reducible refine blockPass ?_ ?_); rfl) | ((with_reducible refine awp_condT ?_ ?_); rfl) | ((with_reducible refine awp_condF ?_ ?_); rfl) | (with_reducible (refine awp_condS rfl ?_ ?_); all_goals (intro hb; have hb' := hb; (try simp only [pkC] at hb'); first | (exfalso; omega) | skip)) | ((with_reducible refine awp_reg ?_); intro K hK) | ((with_reducible refine sw_guardT ?_ ?_); rfl) | ((with_reducible refine sw_guardF ?_ ?_); (rfl; try simp only [St.put, undef, pkA, Nat.reduceAdd, Nat.reduceSub, Nat.reduceLeDiff, Nat.reduceEqDiff])) | (with_reducible (refine sw_guardS rfl ?_ ?_); all_goals (intro hb; have hb' := hb; (try simp only [pkC] at hb'); first | (exfalso; omega) | skip)) | ((with_reducible refine hK _ ?_); clear hK K) | (with_reducible refine and_split ?_ ?_) | ((with_reducible refine sw_id ?_); simp (disch := first | decide | omega) only [↓pkS, pkW, pkA, undef, capsOf, ex, St.put, St.ev, kav, gdA, opI, rawI, vbin, srcOf, avsD, acsD, AV.toD, AC.toD, AV.nw, AC.nw, AC.one, Value.oneCell', fillA, D.one, D.ones, D.sz, D.szs, Nat.reduceAdd, Nat.reduceSub, Nat.reduceLeDiff, Nat.reduceEqDiff, reduceIte, pkN, li_acs, ls_acs, sl_acs, el_ints, el_strs, zle, Int.toNat_natCast, wi, zi1, ti1, e0, hs1, hs2, e1, e2, w2, hse]) | (first | (with_reducible rfl) | (with_reducible refine fnok_id ?_; kernel_rfl) | exact el_strs _ | exact el_ints _ | exact el_ln _ | exact el_tk _ _ | exact el_td _ _ _ | omega | (simp; done) | (simp; omega)) | ((with_reducible refine args_id ?_); simp [ArgsOk, ArgOk, argsD, argD, AC.toD, Value.oneCell', sl_flat, leaf_flat, li_flat, ls_flat, sl_agg, leaf_agg, li_agg, ls_agg, mo_t, mo_f, li_acs, ls_acs, sl_acs, el_ints, el_strs, zle, Int.toNat_natCast, wi, zi1, ti1, e0, hs1, hs2, e1, e2, w2, hse]; first | done | rfl))
      refine roundB (i + 1, i + 2, l ++ [s.extract k i], v + 1) ?_ (show Spl2 s (i + 1) (i + 2) (l ++ [s.extract k i]) ∧ i + 1 ≤ s.size from ⟨hn2, by omega⟩) (show s.size - (i + 1) < s.size - i by omega)
      simp [StLe', FrLe, OwnLe, BoxLe, AV.fits, AC.fits, FB, mask, ls]
    · have e2 : ((s[i + 1].toNat : Int) == 32) = false := u8_ne (n := 32) (by decide) c2
      have hn2 := hinv.miss hi (fun hc => c2 hc.2)
      repeat' (first | (with_reducible first | refine awp_seq ?_ | refine awp_block ?_ | refine awp_skip ?_ | refine awp_exit ?_ | refine awp_ret ?_ | refine athen ?_ | refine thenExit ?_ | refine thenRet ?_ | refine blockNormal ?_ | refine blockExit ?_ | refine blockRet ?_ | refine roundExit ?_ | refine roundRet ?_ | refine roundExitR ?_ | refine roundRetR ?_) | ((with_reducible refine blockPass ?_ ?_); rfl) | ((with_reducible refine awp_condT ?_ ?_); rfl) | ((with_reducible refine awp_condF ?_ ?_); rfl) | (with_reducible (refine awp_condS rfl ?_ ?_); all_goals (intro hb; have hb' := hb; (try simp only [pkC] at hb'); first | (exfalso; omega) | skip)) | ((with_reducible refine awp_reg ?_); intro K hK) | ((with_reducible refine sw_guardT ?_ ?_); rfl) | ((with_reducible refine sw_guardF ?_ ?_); (rfl; try simp only [St.put, undef, pkA, Nat.reduceAdd, Nat.reduceSub, Nat.reduceLeDiff, Nat.reduceEqDiff])) | (with_reducible (refine sw_guardS rfl ?_ ?_); all_goals (intro hb; have hb' := hb; (try simp only [pkC] at hb'); first | (exfalso; omega) | skip)) | ((with_reducible refine hK _ ?_); clear hK K) | (with_reducible refine and_split ?_ ?_) | ((with_reducible refine sw_id ?_); simp (disch := first | decide | omega) only [↓pkS, pkW, pkA, undef, capsOf, ex, St.put, St.ev, kav, gdA, opI, rawI, vbin, srcOf, avsD, acsD, AV.toD, AC.toD, AV.nw, AC.nw, AC.one, Value.oneCell', fillA, D.one, D.ones, D.sz, D.szs, Nat.reduceAdd, Nat.reduceSub, Nat.reduceLeDiff, Nat.reduceEqDiff, reduceIte, pkN, li_acs, ls_acs, sl_acs, el_ints, el_strs, zle, Int.toNat_natCast, wi, zi1, ti1, e0, hs1, hs2, e1, e2]) | (first | (with_reducible rfl) | (with_reducible refine fnok_id ?_; kernel_rfl) | exact el_strs _ | exact el_ints _ | exact el_ln _ | exact el_tk _ _ | exact el_td _ _ _ | omega | (simp; done) | (simp; omega)) | ((with_reducible refine args_id ?_); simp [ArgsOk, ArgOk, argsD, argD, AC.toD, Value.oneCell', sl_flat, leaf_flat, li_flat, ls_flat, sl_agg, leaf_agg, li_agg, ls_agg, mo_t, mo_f, li_acs, ls_acs, sl_acs, el_ints, el_strs, zle, Int.toNat_natCast, wi, zi1, ti1, e0, hs1, hs2, e1, e2]; first | done | rfl))
      refine roundB (i + 1, k, l, v) ?_ (show Spl2 s (i + 1) k l ∧ i + 1 ≤ s.size from ⟨hn2, by omega⟩) (show s.size - (i + 1) < s.size - i by omega)
      simp [StLe', FrLe, OwnLe, BoxLe, AV.fits, AC.fits, FB, mask]
  · have e1 : ((s[i].toNat : Int) == 59) = false := u8_ne (n := 59) (by decide) c1
    have hn2 := hinv.miss hi (fun hc => c1 hc.1)
    repeat' (first | (with_reducible first | refine awp_seq ?_ | refine awp_block ?_ | refine awp_skip ?_ | refine awp_exit ?_ | refine awp_ret ?_ | refine athen ?_ | refine thenExit ?_ | refine thenRet ?_ | refine blockNormal ?_ | refine blockExit ?_ | refine blockRet ?_ | refine roundExit ?_ | refine roundRet ?_ | refine roundExitR ?_ | refine roundRetR ?_) | ((with_reducible refine blockPass ?_ ?_); rfl) | ((with_reducible refine awp_condT ?_ ?_); rfl) | ((with_reducible refine awp_condF ?_ ?_); rfl) | (with_reducible (refine awp_condS rfl ?_ ?_); all_goals (intro hb; have hb' := hb; (try simp only [pkC] at hb'); first | (exfalso; omega) | skip)) | ((with_reducible refine awp_reg ?_); intro K hK) | ((with_reducible refine sw_guardT ?_ ?_); rfl) | ((with_reducible refine sw_guardF ?_ ?_); (rfl; try simp only [St.put, undef, pkA, Nat.reduceAdd, Nat.reduceSub, Nat.reduceLeDiff, Nat.reduceEqDiff])) | (with_reducible (refine sw_guardS rfl ?_ ?_); all_goals (intro hb; have hb' := hb; (try simp only [pkC] at hb'); first | (exfalso; omega) | skip)) | ((with_reducible refine hK _ ?_); clear hK K) | (with_reducible refine and_split ?_ ?_) | ((with_reducible refine sw_id ?_); simp (disch := first | decide | omega) only [↓pkS, pkW, pkA, undef, capsOf, ex, St.put, St.ev, kav, gdA, opI, rawI, vbin, srcOf, avsD, acsD, AV.toD, AC.toD, AV.nw, AC.nw, AC.one, Value.oneCell', fillA, D.one, D.ones, D.sz, D.szs, Nat.reduceAdd, Nat.reduceSub, Nat.reduceLeDiff, Nat.reduceEqDiff, reduceIte, pkN, li_acs, ls_acs, sl_acs, el_ints, el_strs, zle, Int.toNat_natCast, wi, zi1, ti1, e0, hs1, e1]) | (first | (with_reducible rfl) | (with_reducible refine fnok_id ?_; kernel_rfl) | exact el_strs _ | exact el_ints _ | exact el_ln _ | exact el_tk _ _ | exact el_td _ _ _ | omega | (simp; done) | (simp; omega)) | ((with_reducible refine args_id ?_); simp [ArgsOk, ArgOk, argsD, argD, AC.toD, Value.oneCell', sl_flat, leaf_flat, li_flat, ls_flat, sl_agg, leaf_agg, li_agg, ls_agg, mo_t, mo_f, li_acs, ls_acs, sl_acs, el_ints, el_strs, zle, Int.toNat_natCast, wi, zi1, ti1, e0, hs1, e1]; first | done | rfl))
    refine roundB (i + 1, k, l, v) ?_ (show Spl2 s (i + 1) k l ∧ i + 1 ≤ s.size from ⟨hn2, by omega⟩) (show s.size - (i + 1) < s.size - i by omega)
    simp [StLe', FrLe, OwnLe, BoxLe, AV.fits, AC.fits, FB, mask]
def ic_row_spec : IC := (.seq (.reg false [⟨(some 4), none, .mov (.k (.slice none 0 0))⟩, ⟨(some 5), none, .mov (.k (.bool false))⟩]) (.seq (.reg false [⟨(some 11), none, .brow true 3 1 0 false []⟩, ⟨(some 6), none, .mov (.t 11)⟩]) (.seq (.reg false [⟨(some 12), none, .mov (.t 0)⟩, ⟨(some 13), none, .call 54 [(.t 12), (.k (.int .u8 32))]⟩, ⟨(some 7), none, .mov (.t 13)⟩]) (.seq (.seq (.reg false [⟨(some 8), none, .mov (.k (.int .i64 0))⟩]) (.block 0 (.loop (.seq (.seq (.reg false [⟨(some 14), none, .mov (.t 8)⟩, ⟨(some 15), none, .mov (.t 7)⟩, ⟨(some 16), none, .len false (.t 15)⟩, ⟨(some 17), none, .bin .lss (.t 14) (.t 16)⟩]) (.cond (.t 17) .skip (.exit 0))) (.seq (.block 1 (.seq (.reg false [⟨(some 21), none, .mov (.t 7)⟩, ⟨(some 22), none, .mov (.t 8)⟩, ⟨(some 23), none, .iad 1 (.t 21) (.t 22)⟩, ⟨(some 24), none, .load 1 false (.t 23)⟩, ⟨(some 25), none, .call 93 [(.t 24)]⟩, ⟨(some 20), none, .mov (.t 25)⟩, ⟨(some 26), none, .ext 0 (.t 20)⟩, ⟨(some 27), none, .ext 1 (.t 20)⟩, ⟨(some 9), none, .mov (.t 26)⟩, ⟨(some 10), none, .mov (.t 27)⟩]) (.seq (.seq (.reg false [⟨(some 28), none, .mov (.t 10)⟩, ⟨(some 29), none, .not (.t 28)⟩, ⟨(some 30), none, .mov (.t 29)⟩, ⟨(some 31), (some (30, false)), .mov (.t 9)⟩, ⟨(some 32), (some (30, false)), .call 78 [(.t 31)]⟩, ⟨(some 33), (some (30, false)), .not (.t 32)⟩, ⟨(some 34), none, .pick (.t 30) (.k (.bool true)) (.t 33)⟩]) (.cond (.t 34) (.seq (.reg false [⟨(some 35), none, .mov (.t 6)⟩, ⟨(some 4), none, .mov (.t 35)⟩, ⟨(some 5), none, .mov (.k (.bool false))⟩]) .ret) .skip)) (.reg false [⟨(some 36), none, .mov (.t 6)⟩, ⟨(some 37), none, .mov (.t 9)⟩, ⟨(some 38), none, .brow false 3 1 1 false [(.t 37)]⟩, ⟨(some 39), none, .app 3 1 (.t 36) (.t 38)⟩, ⟨(some 6), none, .mov (.t 39)⟩])))) (.reg false [⟨(some 18), none, .mov (.t 8)⟩, ⟨(some 19), none, .bin .add (.t 18) (.k (.int .i64 1))⟩, ⟨(some 8), none, .mov (.t 19)⟩])))))) (.seq (.reg false [⟨(some 40), none, .mov (.t 6)⟩, ⟨(some 41), none, .mov (.t 6)⟩, ⟨(some 42), none, .len false (.t 41)⟩, ⟨(some 43), none, .mov (.t 1)⟩, ⟨(some 44), none, .bin .eql (.t 42) (.t 43)⟩, ⟨(some 4), none, .mov (.t 40)⟩, ⟨(some 5), none, .mov (.t 44)⟩]) .ret)))))
theorem ic_row_spec_ok : compC Tryd.prog (Tryd.f60.body.getD .skip) = some ic_row_spec := by kernel_rfl
set_option maxHeartbeats 8000000 in
theorem row_spec_ok (s : ByteArray) (c : Nat) (hs : s.size ≤ 1048576) (hc : c ≤ 1048577) (hok : rowOk s = true) : CallsTo Tryd.prog 60 [ls s, li c] (.tup [(false, [.sl true ((rowV s).map li)]), (false, [.raw (.bool (decide ((rowV s).length = c)))])]) := by
  refine calls_two (fn := Tryd.f60) (r := .tmp 4) (q := .tmp 5) (by kernel_rfl) (by kernel_rfl) (by kernel_rfl) rfl ic_row_spec_ok ?_
  unfold ic_row_spec
  change AWP _ _ _ (st0 45 _)
  simp only [undef, stS, st0, stN, D.av, D.avN, sl_agg, leaf_agg, li_agg, ls_agg, sl_acs, leaf_acs, li_acs, ls_acs, List.map_cons, List.map_nil, List.replicate, List.cons_append, List.nil_append, List.length_cons, List.length_nil, Nat.reduceAdd, Nat.reduceSub]
  obtain ⟨ws, hws⟩ : ∃ ws, cut spB s = ws := ⟨_, rfl⟩
  have hrow : rowOk s = allL okW ws := by unfold rowOk; rw [hws]
  have hsp : CallsTo Tryd.prog _ [ls s, .leaf (.int .u8 32)] (.c false [.sl true (ws.map ls)]) := hws ▸ splitByte_spec_to s 32 hs
  have hwl : ws.length ≤ 1048577 := by have := cut_le spB s (by decide); rw [hws] at this; omega
  have hwz : ∀ w ∈ ws, w.size ≤ 1048576 := fun w hw => by rw [← hws] at hw; have := cut_piece (sep := spB) (by decide) hw; omega
  repeat' (first | (with_reducible first | refine awp_seq ?_ | refine awp_block ?_ | refine awp_skip ?_ | refine awp_exit ?_ | refine awp_ret ?_ | refine athen ?_ | refine thenExit ?_ | refine thenRet ?_ | refine blockNormal ?_ | refine blockExit ?_ | refine blockRet ?_ | refine roundExit ?_ | refine roundRet ?_ | refine roundExitR ?_ | refine roundRetR ?_) | ((with_reducible refine blockPass ?_ ?_); rfl) | ((with_reducible refine awp_condT ?_ ?_); rfl) | ((with_reducible refine awp_condF ?_ ?_); rfl) | (with_reducible (refine awp_condS rfl ?_ ?_); all_goals (intro hb; have hb' := hb; (try simp only [pkC] at hb'); first | (exfalso; omega) | skip)) | ((with_reducible refine awp_reg ?_); intro K hK) | ((with_reducible refine sw_guardT ?_ ?_); rfl) | ((with_reducible refine sw_guardF ?_ ?_); (rfl; try simp only [St.put, undef, pkA, Nat.reduceAdd, Nat.reduceSub, Nat.reduceLeDiff, Nat.reduceEqDiff])) | (with_reducible (refine sw_guardS rfl ?_ ?_); all_goals (intro hb; have hb' := hb; (try simp only [pkC] at hb'); first | (exfalso; omega) | skip)) | ((with_reducible refine hK _ ?_); clear hK K) | (with_reducible refine and_split ?_ ?_) | ((with_reducible refine ct_id ?_); first | (refine callThen hsp trivial ?_ ?_)) | ((with_reducible refine ctd_id ?_); first | (refine callThenD hsp trivial ?_ ?_)) | ((with_reducible refine sw_id ?_); simp (disch := first | decide | omega) only [↓pkS, pkW, pkA, undef, capsOf, ex, St.put, St.ev, kav, gdA, opI, rawI, vbin, srcOf, avsD, acsD, AV.toD, AC.toD, AV.nw, AC.nw, AC.one, Value.oneCell', fillA, D.one, D.ones, D.sz, D.szs, Nat.reduceAdd, Nat.reduceSub, Nat.reduceLeDiff, Nat.reduceEqDiff, reduceIte, pkN, li_acs, ls_acs, sl_acs, el_ints, el_strs]) | (first | (with_reducible rfl) | (with_reducible refine fnok_id ?_; kernel_rfl) | exact el_strs _ | exact el_ints _ | exact el_ln _ | exact el_tk _ _ | exact el_td _ _ _ | omega | (simp; done) | (simp; omega)) | ((with_reducible refine args_id ?_); simp [ArgsOk, ArgOk, argsD, argD, AC.toD, Value.oneCell', sl_flat, leaf_flat, li_flat, ls_flat, sl_agg, leaf_agg, li_agg, ls_agg, mo_t, mo_f, li_acs, ls_acs, sl_acs, el_ints, el_strs]; first | done | rfl))
  clear hsp
  refine awp_loopB (X := Nat × Nat) (fun q => [.d, .k, .d, .d, .d, .d, .v (.c false [.own 0 q.2]), .k, .v (.c false [.raw (.int .i64 (q.1 : Nat))]), .d, .d, .d, .d, .d, .d, .d, .d, .d, .d, .d, .d, .d, .d, .d, .d, .d, .d, .d, .d, .d, .d, .d, .d, .d, .d, .d, .d, .d, .d, .d, .d, .d, .d, .d, .d]) (fun q => [⟨((ws.map valW).take q.1).map li, 3, 1, q.2, true⟩]) (fun q bs => []) (fun q => q.1 ≤ ws.length ∧ allN (pAt okW ws) q.1 = true) (fun q => ws.length - q.1) (0, 0) ⟨Nat.zero_le _, rfl⟩ ?_ ?_
  · simp [StLe', FrLe, OwnLe, BoxLe, AV.fits, AC.fits, FB, mask]
  rintro ⟨k, v⟩ hinv
  obtain ⟨hk, hall⟩ : k ≤ ws.length ∧ allN (pAt okW ws) k = true := hinv
  simp only [FB, mask]
  by_cases hlt : k < ws.length
  · have hwk := hwz _ (List.getElem_mem hlt)
    have hg := getq_mapF (f := ls) hlt
    have hi := parseInt_spec_to ws[k] hwk
    have hx := okW_spec ws[k]
    generalize rdS 12 ws[k] = pr at hi hx
    obtain ⟨pv, pb⟩ := pr
    simp only at hx
    have hnum := num_spec_to pv
    cases hh : okW ws[k] with
    | false =>
      exact absurd hok (by rw [show rowOk s = false from by rw [hrow]; exact allL_false hlt hh]; decide)
    | true =>
      have hvw := hx.2 hh
      have hpb : pb = true ∧ numB pv = true := by simpa using hx.1.symm.trans hh
      obtain ⟨rfl, hnb⟩ := hpb
      rw [hnb] at hnum
      have hin : (((ws.map valW).take k).map li).length ≤ 1048577 := by simp only [List.length_map, List.length_take]; omega
      have hvl : (ws.map valW)[k]'(by rw [List.length_map]; exact hlt) = pv := by rw [List.getElem_map]; exact hvw
      have htk : ((ws.map valW).take (k + 1)).map li = ((ws.map valW).take k).map li ++ [li pv] := by
        rw [List.take_succ_eq_append_getElem (by rw [List.length_map]; exact hlt), List.map_append, hvl]
        rfl
      have hs1 := allN_succ hall ((pAt_eq okW hlt).trans hh)
      clear hx
      repeat' (first | (with_reducible first | refine awp_seq ?_ | refine awp_block ?_ | refine awp_skip ?_ | refine awp_exit ?_ | refine awp_ret ?_ | refine athen ?_ | refine thenExit ?_ | refine thenRet ?_ | refine blockNormal ?_ | refine blockExit ?_ | refine blockRet ?_ | refine roundExit ?_ | refine roundRet ?_ | refine roundExitR ?_ | refine roundRetR ?_) | ((with_reducible refine blockPass ?_ ?_); rfl) | ((with_reducible refine awp_condT ?_ ?_); rfl) | ((with_reducible refine awp_condF ?_ ?_); rfl) | (with_reducible (refine awp_condS rfl ?_ ?_); all_goals (intro hb; have hb' := hb; (try simp only [pkC] at hb'); first | (exfalso; omega) | skip)) | ((with_reducible refine awp_reg ?_); intro K hK) | ((with_reducible refine sw_guardT ?_ ?_); rfl) | ((with_reducible refine sw_guardF ?_ ?_); (rfl; try simp only [St.put, undef, pkA, Nat.reduceAdd, Nat.reduceSub, Nat.reduceLeDiff, Nat.reduceEqDiff])) | (with_reducible (refine sw_guardS rfl ?_ ?_); all_goals (intro hb; have hb' := hb; (try simp only [pkC] at hb'); first | (exfalso; omega) | skip)) | ((with_reducible refine hK _ ?_); clear hK K) | (with_reducible refine and_split ?_ ?_) | ((with_reducible refine ct_id ?_); first | (refine callThen hi trivial ?_ ?_) | (refine callThen hnum trivial ?_ ?_)) | ((with_reducible refine ctd_id ?_); first | (refine callThenD hi trivial ?_ ?_) | (refine callThenD hnum trivial ?_ ?_)) | ((with_reducible refine sw_id ?_); simp (disch := first | decide | omega) only [↓pkS, pkW, pkA, undef, capsOf, ex, St.put, St.ev, kav, gdA, opI, rawI, vbin, srcOf, avsD, acsD, AV.toD, AC.toD, AV.nw, AC.nw, AC.one, Value.oneCell', fillA, D.one, D.ones, D.sz, D.szs, Nat.reduceAdd, Nat.reduceSub, Nat.reduceLeDiff, Nat.reduceEqDiff, reduceIte, pkN, li_acs, ls_acs, sl_acs, el_ints, el_strs, hg, hin]) | (first | (with_reducible rfl) | (with_reducible refine fnok_id ?_; kernel_rfl) | exact el_strs _ | exact el_ints _ | exact el_ln _ | exact el_tk _ _ | exact el_td _ _ _ | omega | (simp; done) | (simp; omega)) | ((with_reducible refine args_id ?_); simp [ArgsOk, ArgOk, argsD, argD, AC.toD, Value.oneCell', sl_flat, leaf_flat, li_flat, ls_flat, sl_agg, leaf_agg, li_agg, ls_agg, mo_t, mo_f, li_acs, ls_acs, sl_acs, el_ints, el_strs, hg, hin]; first | done | rfl))
      refine roundB (k + 1, v + 1) ?_ (show k + 1 ≤ ws.length ∧ allN (pAt okW ws) (k + 1) = true from ⟨by omega, hs1⟩) (show ws.length - (k + 1) < ws.length - k by omega)
      simp only [StLe', FrLe, OwnLe, BoxLe, AV.fits, AC.fits, FB, mask, htk]
      simp [AV.fits, AC.fits, li]
  obtain rfl : k = ws.length := by omega
  have hval : (rowV s).map li = (ws.map valW).map li := by unfold rowV; rw [hws]
  have hvl : (rowV s).length = ws.length := by unfold rowV; rw [hws, List.length_map]
  have htk : (ws.map valW).take ws.length = ws.map valW := List.take_of_length_le (by rw [List.length_map]; exact Nat.le_refl _)
  have hlen : ((ws.length : Int) == (c : Int)) = decide ((rowV s).length = c) := by
    rw [hvl]
    by_cases e : ws.length = c
    · rw [decide_eq_true e]; simp [e]
    · rw [decide_eq_false e]; exact beq_f (by omega)
  repeat' (first | (with_reducible first | refine awp_seq ?_ | refine awp_block ?_ | refine awp_skip ?_ | refine awp_exit ?_ | refine awp_ret ?_ | refine athen ?_ | refine thenExit ?_ | refine thenRet ?_ | refine blockNormal ?_ | refine blockExit ?_ | refine blockRet ?_ | refine roundExit ?_ | refine roundRet ?_ | refine roundExitR ?_ | refine roundRetR ?_) | ((with_reducible refine blockPass ?_ ?_); rfl) | ((with_reducible refine awp_condT ?_ ?_); rfl) | ((with_reducible refine awp_condF ?_ ?_); rfl) | (with_reducible (refine awp_condS rfl ?_ ?_); all_goals (intro hb; have hb' := hb; (try simp only [pkC] at hb'); first | (exfalso; omega) | skip)) | ((with_reducible refine awp_reg ?_); intro K hK) | ((with_reducible refine sw_guardT ?_ ?_); rfl) | ((with_reducible refine sw_guardF ?_ ?_); (rfl; try simp only [St.put, undef, pkA, Nat.reduceAdd, Nat.reduceSub, Nat.reduceLeDiff, Nat.reduceEqDiff])) | (with_reducible (refine sw_guardS rfl ?_ ?_); all_goals (intro hb; have hb' := hb; (try simp only [pkC] at hb'); first | (exfalso; omega) | skip)) | ((with_reducible refine hK _ ?_); clear hK K) | (with_reducible refine and_split ?_ ?_) | ((with_reducible refine sw_id ?_); simp (disch := first | decide | omega) only [↓pkS, pkW, pkA, undef, capsOf, ex, St.put, St.ev, kav, gdA, opI, rawI, vbin, srcOf, avsD, acsD, AV.toD, AC.toD, AV.nw, AC.nw, AC.one, Value.oneCell', fillA, D.one, D.ones, D.sz, D.szs, Nat.reduceAdd, Nat.reduceSub, Nat.reduceLeDiff, Nat.reduceEqDiff, reduceIte, pkN, li_acs, ls_acs, sl_acs, el_ints, el_strs, hlen, htk, Nat.min_self]) | (first | (with_reducible rfl) | (with_reducible refine fnok_id ?_; kernel_rfl) | exact el_strs _ | exact el_ints _ | exact el_ln _ | exact el_tk _ _ | exact el_td _ _ _ | omega | (simp; done) | (simp; omega)) | ((with_reducible refine args_id ?_); simp [ArgsOk, ArgOk, argsD, argD, AC.toD, Value.oneCell', sl_flat, leaf_flat, li_flat, ls_flat, sl_agg, leaf_agg, li_agg, ls_agg, mo_t, mo_f, li_acs, ls_acs, sl_acs, el_ints, el_strs, hlen, htk, Nat.min_self]; first | done | rfl))
  exact endRet ⟨⟨_, rfl, ⟨_, rfl, rfl, by rw [hval], Or.inl rfl⟩, trivial⟩, ⟨_, rfl, rfl, trivial⟩⟩
set_option maxHeartbeats 8000000 in
theorem row_spec_bad (s : ByteArray) (c : Nat) (hs : s.size ≤ 1048576) (hc : c ≤ 1048577) (hbad : rowOk s = false) : CallsTo Tryd.prog 60 [ls s, li c] (.tup [(false, [.any]), (false, [.raw (.bool false)])]) := by
  refine calls_two (fn := Tryd.f60) (r := .tmp 4) (q := .tmp 5) (by kernel_rfl) (by kernel_rfl) (by kernel_rfl) rfl ic_row_spec_ok ?_
  unfold ic_row_spec
  change AWP _ _ _ (st0 45 _)
  simp only [undef, stS, st0, stN, D.av, D.avN, sl_agg, leaf_agg, li_agg, ls_agg, sl_acs, leaf_acs, li_acs, ls_acs, List.map_cons, List.map_nil, List.replicate, List.cons_append, List.nil_append, List.length_cons, List.length_nil, Nat.reduceAdd, Nat.reduceSub]
  obtain ⟨ws, hws⟩ : ∃ ws, cut spB s = ws := ⟨_, rfl⟩
  have hrow : rowOk s = allL okW ws := by unfold rowOk; rw [hws]
  have hsp : CallsTo Tryd.prog _ [ls s, .leaf (.int .u8 32)] (.c false [.sl true (ws.map ls)]) := hws ▸ splitByte_spec_to s 32 hs
  have hwl : ws.length ≤ 1048577 := by have := cut_le spB s (by decide); rw [hws] at this; omega
  have hwz : ∀ w ∈ ws, w.size ≤ 1048576 := fun w hw => by rw [← hws] at hw; have := cut_piece (sep := spB) (by decide) hw; omega
  repeat' (first | (with_reducible first | refine awp_seq ?_ | refine awp_block ?_ | refine awp_skip ?_ | refine awp_exit ?_ | refine awp_ret ?_ | refine athen ?_ | refine thenExit ?_ | refine thenRet ?_ | refine blockNormal ?_ | refine blockExit ?_ | refine blockRet ?_ | refine roundExit ?_ | refine roundRet ?_ | refine roundExitR ?_ | refine roundRetR ?_) | ((with_reducible refine blockPass ?_ ?_); rfl) | ((with_reducible refine awp_condT ?_ ?_); rfl) | ((with_reducible refine awp_condF ?_ ?_); rfl) | (with_reducible (refine awp_condS rfl ?_ ?_); all_goals (intro hb; have hb' := hb; (try simp only [pkC] at hb'); first | (exfalso; omega) | skip)) | ((with_reducible refine awp_reg ?_); intro K hK) | ((with_reducible refine sw_guardT ?_ ?_); rfl) | ((with_reducible refine sw_guardF ?_ ?_); (rfl; try simp only [St.put, undef, pkA, Nat.reduceAdd, Nat.reduceSub, Nat.reduceLeDiff, Nat.reduceEqDiff])) | (with_reducible (refine sw_guardS rfl ?_ ?_); all_goals (intro hb; have hb' := hb; (try simp only [pkC] at hb'); first | (exfalso; omega) | skip)) | ((with_reducible refine hK _ ?_); clear hK K) | (with_reducible refine and_split ?_ ?_) | ((with_reducible refine ct_id ?_); first | (refine callThen hsp trivial ?_ ?_)) | ((with_reducible refine ctd_id ?_); first | (refine callThenD hsp trivial ?_ ?_)) | ((with_reducible refine sw_id ?_); simp (disch := first | decide | omega) only [↓pkS, pkW, pkA, undef, capsOf, ex, St.put, St.ev, kav, gdA, opI, rawI, vbin, srcOf, avsD, acsD, AV.toD, AC.toD, AV.nw, AC.nw, AC.one, Value.oneCell', fillA, D.one, D.ones, D.sz, D.szs, Nat.reduceAdd, Nat.reduceSub, Nat.reduceLeDiff, Nat.reduceEqDiff, reduceIte, pkN, li_acs, ls_acs, sl_acs, el_ints, el_strs]) | (first | (with_reducible rfl) | (with_reducible refine fnok_id ?_; kernel_rfl) | exact el_strs _ | exact el_ints _ | exact el_ln _ | exact el_tk _ _ | exact el_td _ _ _ | omega | (simp; done) | (simp; omega)) | ((with_reducible refine args_id ?_); simp [ArgsOk, ArgOk, argsD, argD, AC.toD, Value.oneCell', sl_flat, leaf_flat, li_flat, ls_flat, sl_agg, leaf_agg, li_agg, ls_agg, mo_t, mo_f, li_acs, ls_acs, sl_acs, el_ints, el_strs]; first | done | rfl))
  clear hsp
  refine awp_loopB (X := Nat × Nat) (fun q => [.d, .k, .d, .d, .d, .d, .v (.c false [.own 0 q.2]), .k, .v (.c false [.raw (.int .i64 (q.1 : Nat))]), .d, .d, .d, .d, .d, .d, .d, .d, .d, .d, .d, .d, .d, .d, .d, .d, .d, .d, .d, .d, .d, .d, .d, .d, .d, .d, .d, .d, .d, .d, .d, .d, .d, .d, .d, .d]) (fun q => [⟨((ws.map valW).take q.1).map li, 3, 1, q.2, true⟩]) (fun q bs => []) (fun q => q.1 ≤ ws.length ∧ allN (pAt okW ws) q.1 = true) (fun q => ws.length - q.1) (0, 0) ⟨Nat.zero_le _, rfl⟩ ?_ ?_
  · simp [StLe', FrLe, OwnLe, BoxLe, AV.fits, AC.fits, FB, mask]
  rintro ⟨k, v⟩ hinv
  obtain ⟨hk, hall⟩ : k ≤ ws.length ∧ allN (pAt okW ws) k = true := hinv
  simp only [FB, mask]
  by_cases hlt : k < ws.length
  · have hwk := hwz _ (List.getElem_mem hlt)
    have hg := getq_mapF (f := ls) hlt
    have hi := parseInt_spec_to ws[k] hwk
    have hx := okW_spec ws[k]
    generalize rdS 12 ws[k] = pr at hi hx
    obtain ⟨pv, pb⟩ := pr
    simp only at hx
    have hnum := num_spec_to pv
    cases hh : okW ws[k] with
    | false =>
      cases pb with
      | false =>
        repeat' (first | (with_reducible first | refine awp_seq ?_ | refine awp_block ?_ | refine awp_skip ?_ | refine awp_exit ?_ | refine awp_ret ?_ | refine athen ?_ | refine thenExit ?_ | refine thenRet ?_ | refine blockNormal ?_ | refine blockExit ?_ | refine blockRet ?_ | refine roundExit ?_ | refine roundRet ?_ | refine roundExitR ?_ | refine roundRetR ?_) | ((with_reducible refine blockPass ?_ ?_); rfl) | ((with_reducible refine awp_condT ?_ ?_); rfl) | ((with_reducible refine awp_condF ?_ ?_); rfl) | (with_reducible (refine awp_condS rfl ?_ ?_); all_goals (intro hb; have hb' := hb; (try simp only [pkC] at hb'); first | (exfalso; omega) | skip)) | ((with_reducible refine awp_reg ?_); intro K hK) | ((with_reducible refine sw_guardT ?_ ?_); rfl) | ((with_reducible refine sw_guardF ?_ ?_); (rfl; try simp only [St.put, undef, pkA, Nat.reduceAdd, Nat.reduceSub, Nat.reduceLeDiff, Nat.reduceEqDiff])) | (with_reducible (refine sw_guardS rfl ?_ ?_); all_goals (intro hb; have hb' := hb; (try simp only [pkC] at hb'); first | (exfalso; omega) | skip)) | ((with_reducible refine hK _ ?_); clear hK K) | (with_reducible refine and_split ?_ ?_) | ((with_reducible refine ct_id ?_); first | (refine callThen hi trivial ?_ ?_) | (refine callThen hnum trivial ?_ ?_)) | ((with_reducible refine ctd_id ?_); first | (refine callThenD hi trivial ?_ ?_) | (refine callThenD hnum trivial ?_ ?_)) | ((with_reducible refine sw_id ?_); simp (disch := first | decide | omega) only [↓pkS, pkW, pkA, undef, capsOf, ex, St.put, St.ev, kav, gdA, opI, rawI, vbin, srcOf, avsD, acsD, AV.toD, AC.toD, AV.nw, AC.nw, AC.one, Value.oneCell', fillA, D.one, D.ones, D.sz, D.szs, Nat.reduceAdd, Nat.reduceSub, Nat.reduceLeDiff, Nat.reduceEqDiff, reduceIte, pkN, li_acs, ls_acs, sl_acs, el_ints, el_strs, hg]) | (first | (with_reducible rfl) | (with_reducible refine fnok_id ?_; kernel_rfl) | exact el_strs _ | exact el_ints _ | exact el_ln _ | exact el_tk _ _ | exact el_td _ _ _ | omega | (simp; done) | (simp; omega)) | ((with_reducible refine args_id ?_); simp [ArgsOk, ArgOk, argsD, argD, AC.toD, Value.oneCell', sl_flat, leaf_flat, li_flat, ls_flat, sl_agg, leaf_agg, li_agg, ls_agg, mo_t, mo_f, li_acs, ls_acs, sl_acs, el_ints, el_strs, hg]; first | done | rfl))
        exact endRet ⟨⟨_, rfl, trivial, trivial⟩, ⟨_, rfl, rfl, trivial⟩⟩
      | true =>
        have hnb : numB pv = false := by simpa using hx.1.symm.trans hh
        rw [hnb] at hnum
        repeat' (first | (with_reducible first | refine awp_seq ?_ | refine awp_block ?_ | refine awp_skip ?_ | refine awp_exit ?_ | refine awp_ret ?_ | refine athen ?_ | refine thenExit ?_ | refine thenRet ?_ | refine blockNormal ?_ | refine blockExit ?_ | refine blockRet ?_ | refine roundExit ?_ | refine roundRet ?_ | refine roundExitR ?_ | refine roundRetR ?_) | ((with_reducible refine blockPass ?_ ?_); rfl) | ((with_reducible refine awp_condT ?_ ?_); rfl) | ((with_reducible refine awp_condF ?_ ?_); rfl) | (with_reducible (refine awp_condS rfl ?_ ?_); all_goals (intro hb; have hb' := hb; (try simp only [pkC] at hb'); first | (exfalso; omega) | skip)) | ((with_reducible refine awp_reg ?_); intro K hK) | ((with_reducible refine sw_guardT ?_ ?_); rfl) | ((with_reducible refine sw_guardF ?_ ?_); (rfl; try simp only [St.put, undef, pkA, Nat.reduceAdd, Nat.reduceSub, Nat.reduceLeDiff, Nat.reduceEqDiff])) | (with_reducible (refine sw_guardS rfl ?_ ?_); all_goals (intro hb; have hb' := hb; (try simp only [pkC] at hb'); first | (exfalso; omega) | skip)) | ((with_reducible refine hK _ ?_); clear hK K) | (with_reducible refine and_split ?_ ?_) | ((with_reducible refine ct_id ?_); first | (refine callThen hi trivial ?_ ?_) | (refine callThen hnum trivial ?_ ?_)) | ((with_reducible refine ctd_id ?_); first | (refine callThenD hi trivial ?_ ?_) | (refine callThenD hnum trivial ?_ ?_)) | ((with_reducible refine sw_id ?_); simp (disch := first | decide | omega) only [↓pkS, pkW, pkA, undef, capsOf, ex, St.put, St.ev, kav, gdA, opI, rawI, vbin, srcOf, avsD, acsD, AV.toD, AC.toD, AV.nw, AC.nw, AC.one, Value.oneCell', fillA, D.one, D.ones, D.sz, D.szs, Nat.reduceAdd, Nat.reduceSub, Nat.reduceLeDiff, Nat.reduceEqDiff, reduceIte, pkN, li_acs, ls_acs, sl_acs, el_ints, el_strs, hg]) | (first | (with_reducible rfl) | (with_reducible refine fnok_id ?_; kernel_rfl) | exact el_strs _ | exact el_ints _ | exact el_ln _ | exact el_tk _ _ | exact el_td _ _ _ | omega | (simp; done) | (simp; omega)) | ((with_reducible refine args_id ?_); simp [ArgsOk, ArgOk, argsD, argD, AC.toD, Value.oneCell', sl_flat, leaf_flat, li_flat, ls_flat, sl_agg, leaf_agg, li_agg, ls_agg, mo_t, mo_f, li_acs, ls_acs, sl_acs, el_ints, el_strs, hg]; first | done | rfl))
        exact endRet ⟨⟨_, rfl, trivial, trivial⟩, ⟨_, rfl, rfl, trivial⟩⟩
    | true =>
      have hvw := hx.2 hh
      have hpb : pb = true ∧ numB pv = true := by simpa using hx.1.symm.trans hh
      obtain ⟨rfl, hnb⟩ := hpb
      rw [hnb] at hnum
      have hin : (((ws.map valW).take k).map li).length ≤ 1048577 := by simp only [List.length_map, List.length_take]; omega
      have hvl : (ws.map valW)[k]'(by rw [List.length_map]; exact hlt) = pv := by rw [List.getElem_map]; exact hvw
      have htk : ((ws.map valW).take (k + 1)).map li = ((ws.map valW).take k).map li ++ [li pv] := by
        rw [List.take_succ_eq_append_getElem (by rw [List.length_map]; exact hlt), List.map_append, hvl]
        rfl
      have hs1 := allN_succ hall ((pAt_eq okW hlt).trans hh)
      clear hx
      repeat' (first | (with_reducible first | refine awp_seq ?_ | refine awp_block ?_ | refine awp_skip ?_ | refine awp_exit ?_ | refine awp_ret ?_ | refine athen ?_ | refine thenExit ?_ | refine thenRet ?_ | refine blockNormal ?_ | refine blockExit ?_ | refine blockRet ?_ | refine roundExit ?_ | refine roundRet ?_ | refine roundExitR ?_ | refine roundRetR ?_) | ((with_reducible refine blockPass ?_ ?_); rfl) | ((with_reducible refine awp_condT ?_ ?_); rfl) | ((with_reducible refine awp_condF ?_ ?_); rfl) | (with_reducible (refine awp_condS rfl ?_ ?_); all_goals (intro hb; have hb' := hb; (try simp only [pkC] at hb'); first | (exfalso; omega) | skip)) | ((with_reducible refine awp_reg ?_); intro K hK) | ((with_reducible refine sw_guardT ?_ ?_); rfl) | ((with_reducible refine sw_guardF ?_ ?_); (rfl; try simp only [St.put, undef, pkA, Nat.reduceAdd, Nat.reduceSub, Nat.reduceLeDiff, Nat.reduceEqDiff])) | (with_reducible (refine sw_guardS rfl ?_ ?_); all_goals (intro hb; have hb' := hb; (try simp only [pkC] at hb'); first | (exfalso; omega) | skip)) | ((with_reducible refine hK _ ?_); clear hK K) | (with_reducible refine and_split ?_ ?_) | ((with_reducible refine ct_id ?_); first | (refine callThen hi trivial ?_ ?_) | (refine callThen hnum trivial ?_ ?_)) | ((with_reducible refine ctd_id ?_); first | (refine callThenD hi trivial ?_ ?_) | (refine callThenD hnum trivial ?_ ?_)) | ((with_reducible refine sw_id ?_); simp (disch := first | decide | omega) only [↓pkS, pkW, pkA, undef, capsOf, ex, St.put, St.ev, kav, gdA, opI, rawI, vbin, srcOf, avsD, acsD, AV.toD, AC.toD, AV.nw, AC.nw, AC.one, Value.oneCell', fillA, D.one, D.ones, D.sz, D.szs, Nat.reduceAdd, Nat.reduceSub, Nat.reduceLeDiff, Nat.reduceEqDiff, reduceIte, pkN, li_acs, ls_acs, sl_acs, el_ints, el_strs, hg, hin]) | (first | (with_reducible rfl) | (with_reducible refine fnok_id ?_; kernel_rfl) | exact el_strs _ | exact el_ints _ | exact el_ln _ | exact el_tk _ _ | exact el_td _ _ _ | omega | (simp; done) | (simp; omega)) | ((with_reducible refine args_id ?_); simp [ArgsOk, ArgOk, argsD, argD, AC.toD, Value.oneCell', sl_flat, leaf_flat, li_flat, ls_flat, sl_agg, leaf_agg, li_agg, ls_agg, mo_t, mo_f, li_acs, ls_acs, sl_acs, el_ints, el_strs, hg, hin]; first | done | rfl))
      refine roundB (k + 1, v + 1) ?_ (show k + 1 ≤ ws.length ∧ allN (pAt okW ws) (k + 1) = true from ⟨by omega, hs1⟩) (show ws.length - (k + 1) < ws.length - k by omega)
      simp only [StLe', FrLe, OwnLe, BoxLe, AV.fits, AC.fits, FB, mask, htk]
      simp [AV.fits, AC.fits, li]
  obtain rfl : k = ws.length := by omega
  have : rowOk s = true := by rw [hrow]; exact hall
  rw [this] at hbad
  cases hbad
def ic_row_impl : IC := (.seq (.reg false [⟨(some 4), none, .mov (.k (.slice none 0 0))⟩, ⟨(some 5), none, .mov (.k (.bool false))⟩]) (.seq (.reg false [⟨(some 12), none, .mov (.t 0)⟩, ⟨(some 13), none, .call 63 [(.t 12), (.k (.int .u8 32))]⟩, ⟨(some 6), none, .mov (.t 13)⟩]) (.seq (.reg false [⟨(some 14), none, .brow true 3 1 0 false []⟩, ⟨(some 7), none, .mov (.t 14)⟩]) (.seq (.seq (.reg false [⟨(some 15), none, .mov (.t 6)⟩, ⟨(some 16), none, .len false (.t 15)⟩, ⟨(some 17), none, .mov (.k (.int .i64 0))⟩]) (.block 0 (.loop (.seq (.reg false [⟨(some 18), none, .bin .lss (.t 17) (.t 16)⟩]) (.seq (.cond (.t 18) .skip (.exit 0)) (.seq (.block 1 (.seq (.reg false [⟨(some 19), none, .iad 1 (.t 15) (.t 17)⟩, ⟨(some 20), none, .load 1 false (.t 19)⟩, ⟨(some 9), none, .mov (.t 20)⟩]) (.seq (.reg false [⟨(some 22), none, .mov (.t 9)⟩, ⟨(some 23), none, .call 91 [(.t 22), (.k (.int .i64 (-1000000000))), (.k (.int .i64 1000000000))]⟩, ⟨(some 21), none, .mov (.t 23)⟩, ⟨(some 24), none, .ext 0 (.t 21)⟩, ⟨(some 25), none, .ext 1 (.t 21)⟩, ⟨(some 10), none, .mov (.t 24)⟩, ⟨(some 11), none, .mov (.t 25)⟩]) (.seq (.seq (.reg false [⟨(some 26), none, .mov (.t 11)⟩, ⟨(some 27), none, .not (.t 26)⟩]) (.cond (.t 27) (.seq (.reg false [⟨(some 4), none, .mov (.k (.slice none 0 0))⟩, ⟨(some 5), none, .mov (.k (.bool false))⟩]) .ret) .skip)) (.reg false [⟨(some 28), none, .mov (.t 7)⟩, ⟨(some 29), none, .mov (.t 10)⟩, ⟨(some 30), none, .brow false 3 1 1 false [(.t 29)]⟩, ⟨(some 31), none, .app 3 1 (.t 28) (.t 30)⟩, ⟨(some 7), none, .mov (.t 31)⟩]))))) (.reg false [⟨(some 32), none, .bin .add (.t 17) (.k (.int .i64 1))⟩, ⟨(some 17), none, .mov (.t 32)⟩]))))))) (.seq (.reg false [⟨(some 33), none, .mov (.t 7)⟩, ⟨(some 34), none, .mov (.t 7)⟩, ⟨(some 35), none, .len false (.t 34)⟩, ⟨(some 36), none, .mov (.t 1)⟩, ⟨(some 37), none, .bin .eql (.t 35) (.t 36)⟩, ⟨(some 4), none, .mov (.t 33)⟩, ⟨(some 5), none, .mov (.t 37)⟩]) .ret)))))
theorem ic_row_impl_ok : compC Tryd.prog (Tryd.f65.body.getD .skip) = some ic_row_impl := by kernel_rfl
set_option maxHeartbeats 8000000 in
theorem row_impl_ok (s : ByteArray) (c : Nat) (hs : s.size ≤ 1048576) (hc : c ≤ 1048577) (hok : rowOk s = true) : CallsTo Tryd.prog 65 [ls s, li c] (.tup [(false, [.sl true ((rowV s).map li)]), (false, [.raw (.bool (decide ((rowV s).length = c)))])]) := by
  refine calls_two (fn := Tryd.f65) (r := .tmp 4) (q := .tmp 5) (by kernel_rfl) (by kernel_rfl) (by kernel_rfl) rfl ic_row_impl_ok ?_
  unfold ic_row_impl
  change AWP _ _ _ (st0 38 _)
  simp only [undef, stS, st0, stN, D.av, D.avN, sl_agg, leaf_agg, li_agg, ls_agg, sl_acs, leaf_acs, li_acs, ls_acs, List.map_cons, List.map_nil, List.replicate, List.cons_append, List.nil_append, List.length_cons, List.length_nil, Nat.reduceAdd, Nat.reduceSub]
  obtain ⟨ws, hws⟩ : ∃ ws, cut spB s = ws := ⟨_, rfl⟩
  have hrow : rowOk s = allL okW ws := by unfold rowOk; rw [hws]
  have hsp : CallsTo Tryd.prog _ [ls s, .leaf (.int .u8 32)] (.c false [.sl true (ws.map ls)]) := hws ▸ splitByte_impl_to s 32 hs
  have hwl : ws.length ≤ 1048577 := by have := cut_le spB s (by decide); rw [hws] at this; omega
  have hwz : ∀ w ∈ ws, w.size ≤ 1048576 := fun w hw => by rw [← hws] at hw; have := cut_piece (sep := spB) (by decide) hw; omega
  repeat' (first | (with_reducible first | refine awp_seq ?_ | refine awp_block ?_ | refine awp_skip ?_ | refine awp_exit ?_ | refine awp_ret ?_ | refine athen ?_ | refine thenExit ?_ | refine thenRet ?_ | refine blockNormal ?_ | refine blockExit ?_ | refine blockRet ?_ | refine roundExit ?_ | refine roundRet ?_ | refine roundExitR ?_ | refine roundRetR ?_) | ((with_reducible refine blockPass ?_ ?_); rfl) | ((with_reducible refine awp_condT ?_ ?_); rfl) | ((with_reducible refine awp_condF ?_ ?_); rfl) | (with_reducible (refine awp_condS rfl ?_ ?_); all_goals (intro hb; have hb' := hb; (try simp only [pkC] at hb'); first | (exfalso; omega) | skip)) | ((with_reducible refine awp_reg ?_); intro K hK) | ((with_reducible refine hK _ ?_); clear hK K) | (with_reducible refine and_split ?_ ?_) | ((with_reducible refine ct_id ?_); first | (refine callThen hsp trivial ?_ ?_)) | ((with_reducible refine ctd_id ?_); first | (refine callThenD hsp trivial ?_ ?_)) | ((with_reducible refine sw_id ?_); simp (disch := first | decide | omega) only [↓pkS, pkW, pkA, undef, capsOf, ex, St.put, St.ev, kav, gdA, opI, rawI, vbin, srcOf, avsD, acsD, AV.toD, AC.toD, AV.nw, AC.nw, AC.one, Value.oneCell', fillA, D.one, D.ones, D.sz, D.szs, Nat.reduceAdd, Nat.reduceSub, Nat.reduceLeDiff, Nat.reduceEqDiff, reduceIte, pkN, li_acs, ls_acs, sl_acs, el_ints, el_strs]) | (first | (with_reducible rfl) | (with_reducible refine fnok_id ?_; kernel_rfl) | exact el_strs _ | exact el_ints _ | exact el_ln _ | exact el_tk _ _ | exact el_td _ _ _ | omega | (simp; done) | (simp; omega)) | ((with_reducible refine args_id ?_); simp [ArgsOk, ArgOk, argsD, argD, AC.toD, Value.oneCell', sl_flat, leaf_flat, li_flat, ls_flat, sl_agg, leaf_agg, li_agg, ls_agg, mo_t, mo_f, li_acs, ls_acs, sl_acs, el_ints, el_strs]; first | done | rfl))
  clear hsp
  refine awp_loopB (X := Nat × Nat) (fun q => [.d, .k, .d, .d, .d, .d, .d, .v (.c false [.own 0 q.2]), .d, .d, .d, .d, .d, .d, .d, .k, .k, .v (.c false [.raw (.int .i64 (q.1 : Nat))]), .d, .d, .d, .d, .d, .d, .d, .d, .d, .d, .d, .d, .d, .d, .d, .d, .d, .d, .d, .d]) (fun q => [⟨((ws.map valW).take q.1).map li, 3, 1, q.2, true⟩]) (fun q bs => []) (fun q => q.1 ≤ ws.length ∧ allN (pAt okW ws) q.1 = true) (fun q => ws.length - q.1) (0, 0) ⟨Nat.zero_le _, rfl⟩ ?_ ?_
  · simp [StLe', FrLe, OwnLe, BoxLe, AV.fits, AC.fits, FB, mask]
  rintro ⟨k, v⟩ hinv
  obtain ⟨hk, hall⟩ : k ≤ ws.length ∧ allN (pAt okW ws) k = true := hinv
  simp only [FB, mask]
  by_cases hlt : k < ws.length
  · have hwk := hwz _ (List.getElem_mem hlt)
    have hg := getq_mapF (f := ls) hlt
    have hi := parse_to ws[k] (-1000000000) 1000000000 hwk
    have hx : okW ws[k] = (rdN (-1000000000) 1000000000 ws[k]).2 ∧ (okW ws[k] = true → valW ws[k] = (rdN (-1000000000) 1000000000 ws[k]).1) := ⟨rfl, fun _ => rfl⟩
    generalize rdN (-1000000000) 1000000000 ws[k] = pr at hi hx
    obtain ⟨pv, pb⟩ := pr
    simp only at hx
    cases hh : okW ws[k] with
    | false =>
      exact absurd hok (by rw [show rowOk s = false from by rw [hrow]; exact allL_false hlt hh]; decide)
    | true =>
      have hvw := hx.2 hh
      obtain rfl : pb = true := hx.1.symm.trans hh
      have hin : (((ws.map valW).take k).map li).length ≤ 1048577 := by simp only [List.length_map, List.length_take]; omega
      have hvl : (ws.map valW)[k]'(by rw [List.length_map]; exact hlt) = pv := by rw [List.getElem_map]; exact hvw
      have htk : ((ws.map valW).take (k + 1)).map li = ((ws.map valW).take k).map li ++ [li pv] := by
        rw [List.take_succ_eq_append_getElem (by rw [List.length_map]; exact hlt), List.map_append, hvl]
        rfl
      have hs1 := allN_succ hall ((pAt_eq okW hlt).trans hh)
      clear hx
      repeat' (first | (with_reducible first | refine awp_seq ?_ | refine awp_block ?_ | refine awp_skip ?_ | refine awp_exit ?_ | refine awp_ret ?_ | refine athen ?_ | refine thenExit ?_ | refine thenRet ?_ | refine blockNormal ?_ | refine blockExit ?_ | refine blockRet ?_ | refine roundExit ?_ | refine roundRet ?_ | refine roundExitR ?_ | refine roundRetR ?_) | ((with_reducible refine blockPass ?_ ?_); rfl) | ((with_reducible refine awp_condT ?_ ?_); rfl) | ((with_reducible refine awp_condF ?_ ?_); rfl) | (with_reducible (refine awp_condS rfl ?_ ?_); all_goals (intro hb; have hb' := hb; (try simp only [pkC] at hb'); first | (exfalso; omega) | skip)) | ((with_reducible refine awp_reg ?_); intro K hK) | ((with_reducible refine hK _ ?_); clear hK K) | (with_reducible refine and_split ?_ ?_) | ((with_reducible refine ct_id ?_); first | (refine callThen hi trivial ?_ ?_)) | ((with_reducible refine ctd_id ?_); first | (refine callThenD hi trivial ?_ ?_)) | ((with_reducible refine sw_id ?_); simp (disch := first | decide | omega) only [↓pkS, pkW, pkA, undef, capsOf, ex, St.put, St.ev, kav, gdA, opI, rawI, vbin, srcOf, avsD, acsD, AV.toD, AC.toD, AV.nw, AC.nw, AC.one, Value.oneCell', fillA, D.one, D.ones, D.sz, D.szs, Nat.reduceAdd, Nat.reduceSub, Nat.reduceLeDiff, Nat.reduceEqDiff, reduceIte, pkN, li_acs, ls_acs, sl_acs, el_ints, el_strs, hg, hin]) | (first | (with_reducible rfl) | (with_reducible refine fnok_id ?_; kernel_rfl) | exact el_strs _ | exact el_ints _ | exact el_ln _ | exact el_tk _ _ | exact el_td _ _ _ | omega | (simp; done) | (simp; omega)) | ((with_reducible refine args_id ?_); simp [ArgsOk, ArgOk, argsD, argD, AC.toD, Value.oneCell', sl_flat, leaf_flat, li_flat, ls_flat, sl_agg, leaf_agg, li_agg, ls_agg, mo_t, mo_f, li_acs, ls_acs, sl_acs, el_ints, el_strs, hg, hin]; first | done | rfl))
      refine roundB (k + 1, v + 1) ?_ (show k + 1 ≤ ws.length ∧ allN (pAt okW ws) (k + 1) = true from ⟨by omega, hs1⟩) (show ws.length - (k + 1) < ws.length - k by omega)
      simp only [StLe', FrLe, OwnLe, BoxLe, AV.fits, AC.fits, FB, mask, htk]
      simp [AV.fits, AC.fits, li]
  obtain rfl : k = ws.length := by omega
  have hval : (rowV s).map li = (ws.map valW).map li := by unfold rowV; rw [hws]
  have hvl : (rowV s).length = ws.length := by unfold rowV; rw [hws, List.length_map]
  have htk : (ws.map valW).take ws.length = ws.map valW := List.take_of_length_le (by rw [List.length_map]; exact Nat.le_refl _)
  have hlen : ((ws.length : Int) == (c : Int)) = decide ((rowV s).length = c) := by
    rw [hvl]
    by_cases e : ws.length = c
    · rw [decide_eq_true e]; simp [e]
    · rw [decide_eq_false e]; exact beq_f (by omega)
  repeat' (first | (with_reducible first | refine awp_seq ?_ | refine awp_block ?_ | refine awp_skip ?_ | refine awp_exit ?_ | refine awp_ret ?_ | refine athen ?_ | refine thenExit ?_ | refine thenRet ?_ | refine blockNormal ?_ | refine blockExit ?_ | refine blockRet ?_ | refine roundExit ?_ | refine roundRet ?_ | refine roundExitR ?_ | refine roundRetR ?_) | ((with_reducible refine blockPass ?_ ?_); rfl) | ((with_reducible refine awp_condT ?_ ?_); rfl) | ((with_reducible refine awp_condF ?_ ?_); rfl) | (with_reducible (refine awp_condS rfl ?_ ?_); all_goals (intro hb; have hb' := hb; (try simp only [pkC] at hb'); first | (exfalso; omega) | skip)) | ((with_reducible refine awp_reg ?_); intro K hK) | ((with_reducible refine hK _ ?_); clear hK K) | (with_reducible refine and_split ?_ ?_) | ((with_reducible refine sw_id ?_); simp (disch := first | decide | omega) only [↓pkS, pkW, pkA, undef, capsOf, ex, St.put, St.ev, kav, gdA, opI, rawI, vbin, srcOf, avsD, acsD, AV.toD, AC.toD, AV.nw, AC.nw, AC.one, Value.oneCell', fillA, D.one, D.ones, D.sz, D.szs, Nat.reduceAdd, Nat.reduceSub, Nat.reduceLeDiff, Nat.reduceEqDiff, reduceIte, pkN, li_acs, ls_acs, sl_acs, el_ints, el_strs, hlen, htk, Nat.min_self]) | (first | (with_reducible rfl) | (with_reducible refine fnok_id ?_; kernel_rfl) | exact el_strs _ | exact el_ints _ | exact el_ln _ | exact el_tk _ _ | exact el_td _ _ _ | omega | (simp; done) | (simp; omega)) | ((with_reducible refine args_id ?_); simp [ArgsOk, ArgOk, argsD, argD, AC.toD, Value.oneCell', sl_flat, leaf_flat, li_flat, ls_flat, sl_agg, leaf_agg, li_agg, ls_agg, mo_t, mo_f, li_acs, ls_acs, sl_acs, el_ints, el_strs, hlen, htk, Nat.min_self]; first | done | rfl))
  exact endRet ⟨⟨_, rfl, ⟨_, rfl, rfl, by rw [hval], Or.inl rfl⟩, trivial⟩, ⟨_, rfl, rfl, trivial⟩⟩
set_option maxHeartbeats 8000000 in
theorem row_impl_bad (s : ByteArray) (c : Nat) (hs : s.size ≤ 1048576) (hc : c ≤ 1048577) (hbad : rowOk s = false) : CallsTo Tryd.prog 65 [ls s, li c] (.tup [(false, [.any]), (false, [.raw (.bool false)])]) := by
  refine calls_two (fn := Tryd.f65) (r := .tmp 4) (q := .tmp 5) (by kernel_rfl) (by kernel_rfl) (by kernel_rfl) rfl ic_row_impl_ok ?_
  unfold ic_row_impl
  change AWP _ _ _ (st0 38 _)
  simp only [undef, stS, st0, stN, D.av, D.avN, sl_agg, leaf_agg, li_agg, ls_agg, sl_acs, leaf_acs, li_acs, ls_acs, List.map_cons, List.map_nil, List.replicate, List.cons_append, List.nil_append, List.length_cons, List.length_nil, Nat.reduceAdd, Nat.reduceSub]
  obtain ⟨ws, hws⟩ : ∃ ws, cut spB s = ws := ⟨_, rfl⟩
  have hrow : rowOk s = allL okW ws := by unfold rowOk; rw [hws]
  have hsp : CallsTo Tryd.prog _ [ls s, .leaf (.int .u8 32)] (.c false [.sl true (ws.map ls)]) := hws ▸ splitByte_impl_to s 32 hs
  have hwl : ws.length ≤ 1048577 := by have := cut_le spB s (by decide); rw [hws] at this; omega
  have hwz : ∀ w ∈ ws, w.size ≤ 1048576 := fun w hw => by rw [← hws] at hw; have := cut_piece (sep := spB) (by decide) hw; omega
  repeat' (first | (with_reducible first | refine awp_seq ?_ | refine awp_block ?_ | refine awp_skip ?_ | refine awp_exit ?_ | refine awp_ret ?_ | refine athen ?_ | refine thenExit ?_ | refine thenRet ?_ | refine blockNormal ?_ | refine blockExit ?_ | refine blockRet ?_ | refine roundExit ?_ | refine roundRet ?_ | refine roundExitR ?_ | refine roundRetR ?_) | ((with_reducible refine blockPass ?_ ?_); rfl) | ((with_reducible refine awp_condT ?_ ?_); rfl) | ((with_reducible refine awp_condF ?_ ?_); rfl) | (with_reducible (refine awp_condS rfl ?_ ?_); all_goals (intro hb; have hb' := hb; (try simp only [pkC] at hb'); first | (exfalso; omega) | skip)) | ((with_reducible refine awp_reg ?_); intro K hK) | ((with_reducible refine hK _ ?_); clear hK K) | (with_reducible refine and_split ?_ ?_) | ((with_reducible refine ct_id ?_); first | (refine callThen hsp trivial ?_ ?_)) | ((with_reducible refine ctd_id ?_); first | (refine callThenD hsp trivial ?_ ?_)) | ((with_reducible refine sw_id ?_); simp (disch := first | decide | omega) only [↓pkS, pkW, pkA, undef, capsOf, ex, St.put, St.ev, kav, gdA, opI, rawI, vbin, srcOf, avsD, acsD, AV.toD, AC.toD, AV.nw, AC.nw, AC.one, Value.oneCell', fillA, D.one, D.ones, D.sz, D.szs, Nat.reduceAdd, Nat.reduceSub, Nat.reduceLeDiff, Nat.reduceEqDiff, reduceIte, pkN, li_acs, ls_acs, sl_acs, el_ints, el_strs]) | (first | (with_reducible rfl) | (with_reducible refine fnok_id ?_; kernel_rfl) | exact el_strs _ | exact el_ints _ | exact el_ln _ | exact el_tk _ _ | exact el_td _ _ _ | omega | (simp; done) | (simp; omega)) | ((with_reducible refine args_id ?_); simp [ArgsOk, ArgOk, argsD, argD, AC.toD, Value.oneCell', sl_flat, leaf_flat, li_flat, ls_flat, sl_agg, leaf_agg, li_agg, ls_agg, mo_t, mo_f, li_acs, ls_acs, sl_acs, el_ints, el_strs]; first | done | rfl))
  clear hsp
  refine awp_loopB (X := Nat × Nat) (fun q => [.d, .k, .d, .d, .d, .d, .d, .v (.c false [.own 0 q.2]), .d, .d, .d, .d, .d, .d, .d, .k, .k, .v (.c false [.raw (.int .i64 (q.1 : Nat))]), .d, .d, .d, .d, .d, .d, .d, .d, .d, .d, .d, .d, .d, .d, .d, .d, .d, .d, .d, .d]) (fun q => [⟨((ws.map valW).take q.1).map li, 3, 1, q.2, true⟩]) (fun q bs => []) (fun q => q.1 ≤ ws.length ∧ allN (pAt okW ws) q.1 = true) (fun q => ws.length - q.1) (0, 0) ⟨Nat.zero_le _, rfl⟩ ?_ ?_
  · simp [StLe', FrLe, OwnLe, BoxLe, AV.fits, AC.fits, FB, mask]
  rintro ⟨k, v⟩ hinv
  obtain ⟨hk, hall⟩ : k ≤ ws.length ∧ allN (pAt okW ws) k = true := hinv
  simp only [FB, mask]
  by_cases hlt : k < ws.length
  · have hwk := hwz _ (List.getElem_mem hlt)
    have hg := getq_mapF (f := ls) hlt
    have hi := parse_to ws[k] (-1000000000) 1000000000 hwk
    have hx : okW ws[k] = (rdN (-1000000000) 1000000000 ws[k]).2 ∧ (okW ws[k] = true → valW ws[k] = (rdN (-1000000000) 1000000000 ws[k]).1) := ⟨rfl, fun _ => rfl⟩
    generalize rdN (-1000000000) 1000000000 ws[k] = pr at hi hx
    obtain ⟨pv, pb⟩ := pr
    simp only at hx
    cases hh : okW ws[k] with
    | false =>
      obtain rfl : pb = false := hx.1.symm.trans hh
      repeat' (first | (with_reducible first | refine awp_seq ?_ | refine awp_block ?_ | refine awp_skip ?_ | refine awp_exit ?_ | refine awp_ret ?_ | refine athen ?_ | refine thenExit ?_ | refine thenRet ?_ | refine blockNormal ?_ | refine blockExit ?_ | refine blockRet ?_ | refine roundExit ?_ | refine roundRet ?_ | refine roundExitR ?_ | refine roundRetR ?_) | ((with_reducible refine blockPass ?_ ?_); rfl) | ((with_reducible refine awp_condT ?_ ?_); rfl) | ((with_reducible refine awp_condF ?_ ?_); rfl) | (with_reducible (refine awp_condS rfl ?_ ?_); all_goals (intro hb; have hb' := hb; (try simp only [pkC] at hb'); first | (exfalso; omega) | skip)) | ((with_reducible refine awp_reg ?_); intro K hK) | ((with_reducible refine hK _ ?_); clear hK K) | (with_reducible refine and_split ?_ ?_) | ((with_reducible refine ct_id ?_); first | (refine callThen hi trivial ?_ ?_)) | ((with_reducible refine ctd_id ?_); first | (refine callThenD hi trivial ?_ ?_)) | ((with_reducible refine sw_id ?_); simp (disch := first | decide | omega) only [↓pkS, pkW, pkA, undef, capsOf, ex, St.put, St.ev, kav, gdA, opI, rawI, vbin, srcOf, avsD, acsD, AV.toD, AC.toD, AV.nw, AC.nw, AC.one, Value.oneCell', fillA, D.one, D.ones, D.sz, D.szs, Nat.reduceAdd, Nat.reduceSub, Nat.reduceLeDiff, Nat.reduceEqDiff, reduceIte, pkN, li_acs, ls_acs, sl_acs, el_ints, el_strs, hg]) | (first | (with_reducible rfl) | (with_reducible refine fnok_id ?_; kernel_rfl) | exact el_strs _ | exact el_ints _ | exact el_ln _ | exact el_tk _ _ | exact el_td _ _ _ | omega | (simp; done) | (simp; omega)) | ((with_reducible refine args_id ?_); simp [ArgsOk, ArgOk, argsD, argD, AC.toD, Value.oneCell', sl_flat, leaf_flat, li_flat, ls_flat, sl_agg, leaf_agg, li_agg, ls_agg, mo_t, mo_f, li_acs, ls_acs, sl_acs, el_ints, el_strs, hg]; first | done | rfl))
      exact endRet ⟨⟨_, rfl, trivial, trivial⟩, ⟨_, rfl, rfl, trivial⟩⟩
    | true =>
      have hvw := hx.2 hh
      obtain rfl : pb = true := hx.1.symm.trans hh
      have hin : (((ws.map valW).take k).map li).length ≤ 1048577 := by simp only [List.length_map, List.length_take]; omega
      have hvl : (ws.map valW)[k]'(by rw [List.length_map]; exact hlt) = pv := by rw [List.getElem_map]; exact hvw
      have htk : ((ws.map valW).take (k + 1)).map li = ((ws.map valW).take k).map li ++ [li pv] := by
        rw [List.take_succ_eq_append_getElem (by rw [List.length_map]; exact hlt), List.map_append, hvl]
        rfl
      have hs1 := allN_succ hall ((pAt_eq okW hlt).trans hh)
      clear hx
      repeat' (first | (with_reducible first | refine awp_seq ?_ | refine awp_block ?_ | refine awp_skip ?_ | refine awp_exit ?_ | refine awp_ret ?_ | refine athen ?_ | refine thenExit ?_ | refine thenRet ?_ | refine blockNormal ?_ | refine blockExit ?_ | refine blockRet ?_ | refine roundExit ?_ | refine roundRet ?_ | refine roundExitR ?_ | refine roundRetR ?_) | ((with_reducible refine blockPass ?_ ?_); rfl) | ((with_reducible refine awp_condT ?_ ?_); rfl) | ((with_reducible refine awp_condF ?_ ?_); rfl) | (with_reducible (refine awp_condS rfl ?_ ?_); all_goals (intro hb; have hb' := hb; (try simp only [pkC] at hb'); first | (exfalso; omega) | skip)) | ((with_reducible refine awp_reg ?_); intro K hK) | ((with_reducible refine hK _ ?_); clear hK K) | (with_reducible refine and_split ?_ ?_) | ((with_reducible refine ct_id ?_); first | (refine callThen hi trivial ?_ ?_)) | ((with_reducible refine ctd_id ?_); first | (refine callThenD hi trivial ?_ ?_)) | ((with_reducible refine sw_id ?_); simp (disch := first | decide | omega) only [↓pkS, pkW, pkA, undef, capsOf, ex, St.put, St.ev, kav, gdA, opI, rawI, vbin, srcOf, avsD, acsD, AV.toD, AC.toD, AV.nw, AC.nw, AC.one, Value.oneCell', fillA, D.one, D.ones, D.sz, D.szs, Nat.reduceAdd, Nat.reduceSub, Nat.reduceLeDiff, Nat.reduceEqDiff, reduceIte, pkN, li_acs, ls_acs, sl_acs, el_ints, el_strs, hg, hin]) | (first | (with_reducible rfl) | (with_reducible refine fnok_id ?_; kernel_rfl) | exact el_strs _ | exact el_ints _ | exact el_ln _ | exact el_tk _ _ | exact el_td _ _ _ | omega | (simp; done) | (simp; omega)) | ((with_reducible refine args_id ?_); simp [ArgsOk, ArgOk, argsD, argD, AC.toD, Value.oneCell', sl_flat, leaf_flat, li_flat, ls_flat, sl_agg, leaf_agg, li_agg, ls_agg, mo_t, mo_f, li_acs, ls_acs, sl_acs, el_ints, el_strs, hg, hin]; first | done | rfl))
      refine roundB (k + 1, v + 1) ?_ (show k + 1 ≤ ws.length ∧ allN (pAt okW ws) (k + 1) = true from ⟨by omega, hs1⟩) (show ws.length - (k + 1) < ws.length - k by omega)
      simp only [StLe', FrLe, OwnLe, BoxLe, AV.fits, AC.fits, FB, mask, htk]
      simp [AV.fits, AC.fits, li]
  obtain rfl : k = ws.length := by omega
  have : rowOk s = true := by rw [hrow]; exact hall
  rw [this] at hbad
  cases hbad
end Go.Proofs.YtdjcflnemnknaaaDoor

