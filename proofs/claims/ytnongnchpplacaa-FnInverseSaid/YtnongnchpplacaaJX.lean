/-
  Texts joined: Exv Exw.
-/
import Derived.Test.YtnongnchpplacaaJO
import Derived.Test.YtnongnchpplacaaJE
namespace Go.Proofs.Ytnongnchpplacaa
open Go.RowKit
set_option linter.unusedSimpArgs false
set_option linter.unusedVariables false
def FC (b : UInt8) : Bool := !(decide ((b.toNat : Int) < 32)) && !(decide ((b.toNat : Int) > 126)) && !((b.toNat : Int) == 34)
def Ho (s : ByteArray) : Bool := s.data.toList.all FC && decide ((s.size : Int) ≤ 20)
def nmB (s : ByteArray) : Bool := kS s && !ni s.toList
def rC (s : ByteArray) : Bool := s.toList == (⟨#[]⟩ : ByteArray).toList
def jk (e : GExpr) : Bool :=
  if e.kind = 1 then (e.args.length == 0 && rC e.text && inR e.n 0 1000000000)
  else if e.kind = 2 then (e.args.length == 0 && e.n == 0 && Ho e.text)
  else if e.kind = 3 then (e.args.length == 0 && e.n == 0 && nmB e.text)
  else if e.kind = 4 then (e.n == 0 && rC e.text && decide (e.args.length ≤ 8))
  else if e.kind = 5 then (e.n == 0 && (e.args.length : Int) == bF e.text.toList)
  else if e.kind = 6 then (rC e.text && e.args.length == 2 && inR e.n 1 5)
  else if e.kind = 7 ∨ e.kind = 9 then (e.n == 0 && e.args.length == 2 && nmB e.text)
  else if e.kind = 8 then (e.n == 0 && rC e.text && e.args.length == 3)
  else false
mutual
def GExpr.allN : GExpr → Bool
  | .mk k n t q => GExpr.OG q && jk (.mk k n t q)
def GExpr.OG : List GExpr → Bool
  | [] => true
  | e :: l => e.allN && GExpr.OG l
end
mutual
def GExpr.left : GExpr → Int → Int
  | .mk _ _ _ q, n => GExpr.lefts q (n - 1)
def GExpr.lefts : List GExpr → Int → Int
  | [], n => n
  | e :: l, n => if n ≥ 0 then GExpr.lefts l (e.left n) else n
end
mutual
def GExpr.nest : GExpr → Nat
  | .mk _ _ _ q => GExpr.pU q + 1
def GExpr.pU : List GExpr → Nat
  | [] => 0
  | e :: l => max e.nest (GExpr.pU l)
end
mutual
def GExpr.nodes : GExpr → Nat
  | .mk _ _ _ q => GExpr.tV q + 1
def GExpr.tV : List GExpr → Nat
  | [] => 0
  | e :: l => e.nodes + GExpr.tV l
end
def Fv (e : GExpr) : Bool := decide (e.nodes ≤ 40) && decide (e.nest ≤ 8) && e.allN
theorem KJ : ∀ (l : List GExpr), GExpr.OG l = l.all GExpr.allN
  | [] => rfl
  | e :: l => by rw [GExpr.OG, KJ l, List.all_cons]
theorem AQ (e : GExpr) : e.allN = (e.args.all GExpr.allN && jk e) := by cases e; rw [GExpr.allN, KJ]; rfl
theorem Vh (e : GExpr) (n : Int) : e.left n = GExpr.lefts e.args (n - 1) := by cases e; rw [GExpr.left]; rfl
theorem Va (e : GExpr) : e.nest = GExpr.pU e.args + 1 := by cases e; rw [GExpr.nest]; rfl
theorem Eo : ∀ (l : List GExpr) {n : Int}, n < 0 → GExpr.lefts l n = n
  | [], n, _ => by rw [GExpr.lefts]
  | e :: l, n, h => by rw [GExpr.lefts, if_neg (by omega)]
theorem Ep : ∀ (l : List GExpr) (e : GExpr) (n : Int), GExpr.lefts (l ++ [e]) n = if GExpr.lefts l n ≥ 0 then e.left (GExpr.lefts l n) else GExpr.lefts l n
  | [], e, n => by simp [GExpr.lefts]
  | x :: l, e, n => by
    simp only [List.cons_append, GExpr.lefts]
    split
    · exact Ep l e _
    · next h => simp
theorem En : ∀ (l : List GExpr) (e : GExpr), GExpr.pU (l ++ [e]) = max (GExpr.pU l) e.nest
  | [], e => by simp [GExpr.pU]
  | x :: l, e => by simp only [List.cons_append, GExpr.pU]; rw [En l e, Nat.max_assoc]
mutual
theorem GExpr.Es : ∀ (e : GExpr) (n : Int), 0 ≤ n → -1 ≤ e.left n ∧ e.left n < n ∧ (e.nodes ≤ n → e.left n = n - e.nodes) ∧ (n < e.nodes → e.left n < 0)
  | .mk k m t q, n, hn => by
    have := GExpr.su q (n - 1) (by omega)
    rw [GExpr.left, GExpr.nodes]
    omega
theorem GExpr.su : ∀ (l : List GExpr) (n : Int), -1 ≤ n → -1 ≤ GExpr.lefts l n ∧ GExpr.lefts l n ≤ n ∧ (GExpr.tV l ≤ n → GExpr.lefts l n = n - GExpr.tV l) ∧ (n < GExpr.tV l → 0 ≤ n → GExpr.lefts l n < 0)
  | [], n, hn => by rw [GExpr.lefts, GExpr.tV]; omega
  | e :: l, n, hn => by
    rw [GExpr.lefts, GExpr.tV]
    split
    · next h =>
      have h1 := GExpr.Es e n h
      have h2 := GExpr.su l (e.left n) h1.1
      by_cases h3 : (e.nodes : Int) ≤ n
      · have := h1.2.2.1 h3
        rw [this] at h2 ⊢
        by_cases h4 : (GExpr.tV l : Int) ≤ n - e.nodes
        · have := h2.2.2.1 h4; omega
        · have h5 := h2.2.2.2 (by omega) (by omega); omega
      · have h5 := h1.2.2.2 (by omega)
        have h6 := Eo l h5
        rw [h6]
        omega
    · next h => omega
end
theorem Sz (e : GExpr) : decide (e.left 40 ≥ 0) = decide (e.nodes ≤ 40) := by
  have := e.Es 40 (by decide)
  by_cases h : e.nodes ≤ 40
  · rw [decide_eq_true h, decide_eq_true (by have := this.2.2.1 (by omega); omega)]
  · rw [decide_eq_false h, decide_eq_false (by have := this.2.2.2 (by omega); omega)]
mutual
theorem GExpr.NP : ∀ (e : GExpr), e.nest ≤ e.toD.wt + 1
  | .mk k n t q => by
    have := GExpr.Iw q
    rw [GExpr.nest, GExpr.oL]
    simp only [GExpr.args, List.length_map]
    omega
theorem GExpr.Iw : ∀ (l : List GExpr), GExpr.pU l ≤ l.length + D.wts (l.map GExpr.toD)
  | [] => by simp [GExpr.pU]
  | e :: l => by
    have h1 := GExpr.NP e
    have h2 := GExpr.Iw l
    rw [GExpr.pU, List.length_cons, List.map_cons, D.wts]
    omega
end
theorem qx {e x : GExpr} (h : x ∈ e.args) : x.toD.wt < e.toD.wt := by
  rw [GExpr.oL e]
  have : x.toD.wt ≤ D.wts (e.args.map GExpr.toD) := by
    revert h
    generalize e.args = l
    intro h
    induction l with
    | nil => simp at h
    | cons y l ih =>
      rw [List.map_cons, D.wts]
      rcases List.mem_cons.1 h with rfl | h
      · omega
      · have := ih h; omega
  have h2 : 0 < (e.args.map GExpr.toD).length := by rw [List.length_map]; exact List.length_pos_of_mem h
  omega
theorem Ah (e : GExpr) : e.args.length ≤ e.toD.wt := by rw [GExpr.oL e, List.length_map]; omega
def uh : IC := (.seq (.reg false [⟨(some 2), none, .mov (.k (.bool false))⟩]) (.seq (.seq (.reg false [⟨(some 3), none, .mov (.k (.int .i64 0))⟩]) (.block 0 (.loop (.seq (.seq (.reg false [⟨(some 4), none, .mov (.t 3)⟩, ⟨(some 5), none, .mov (.t 0)⟩, ⟨(some 6), none, .len true (.t 5)⟩, ⟨(some 7), none, .bin .lss (.t 4) (.t 6)⟩]) (.cond (.t 7) .skip (.exit 0))) (.seq (.block 1 (.seq (.reg false [⟨(some 10), none, .mov (.t 0)⟩, ⟨(some 11), none, .mov (.t 3)⟩, ⟨(some 12), none, .sidx (.t 10) (.t 11)⟩, ⟨(some 13), none, .bin .lss (.t 12) (.k (.int .u8 32))⟩, ⟨(some 14), none, .mov (.t 13)⟩, ⟨(some 15), (some (14, false)), .mov (.t 0)⟩, ⟨(some 16), (some (14, false)), .mov (.t 3)⟩, ⟨(some 17), (some (14, false)), .sidx (.t 15) (.t 16)⟩, ⟨(some 18), (some (14, false)), .bin .gtr (.t 17) (.k (.int .u8 126))⟩, ⟨(some 19), none, .pick (.t 14) (.k (.bool true)) (.t 18)⟩, ⟨(some 20), none, .mov (.t 19)⟩, ⟨(some 21), (some (20, false)), .mov (.t 0)⟩, ⟨(some 22), (some (20, false)), .mov (.t 3)⟩, ⟨(some 23), (some (20, false)), .sidx (.t 21) (.t 22)⟩, ⟨(some 24), (some (20, false)), .bin .eql (.t 23) (.k (.int .u8 34))⟩, ⟨(some 25), none, .pick (.t 20) (.k (.bool true)) (.t 24)⟩]) (.cond (.t 25) (.seq (.reg false [⟨(some 2), none, .mov (.k (.bool false))⟩]) .ret) .skip))) (.reg false [⟨(some 8), none, .mov (.t 3)⟩, ⟨(some 9), none, .bin .add (.t 8) (.k (.int .i64 1))⟩, ⟨(some 3), none, .mov (.t 9)⟩])))))) (.seq (.reg false [⟨(some 26), none, .mov (.t 0)⟩, ⟨(some 27), none, .len true (.t 26)⟩, ⟨(some 28), none, .bin .leq (.t 27) (.k (.int .i64 20))⟩, ⟨(some 2), none, .mov (.t 28)⟩]) .ret)))
theorem xC : aF Try.prog (Try.f94.body.getD .skip) = some uh := by kernel_rfl
set_option maxRecDepth 8000 in
set_option maxHeartbeats 8000000 in
theorem BG (s : ByteArray) (hs : s.size ≤ 1048576) : aK Try.prog 94 [ls s] (.c false [.raw (.bool (Ho s))]) := by
  refine fZ (fn := Try.f94) (t := 2) (by kernel_rfl) (by kernel_rfl) (by kernel_rfl) xC ?_
  unfold uh
  change AWP _ _ _ (st0 29 _)
  refine sS trivial ?_
  repeat' (first | ((with_reducible refine aG ?_); intro K hK) | ((with_reducible refine hK _ ?_); clear hK K) | (with_reducible refine ak ?_ ?_) | ((with_reducible refine gi ?_); first | (refine aB ?_ ?_; rfl) | (refine aC ?_ ?_; (rfl; refine gF ?_)) | ((with_reducible refine gS rfl ?_ ?_) <;> (intro hb hb'; first | (exfalso; omega) | skip))) | ((with_reducible refine aH ?_); refine ss trivial ?_) | refine nv ?_ | (with_reducible (refine cS rfl ?_ ?_) <;> (intro hb hb'; first | (exfalso; omega) | skip)) | (exact GExpr.el _) | exact aZ | exact aI)
  refine kQ (X := Nat) (fun i => [.k, .d, .d, .v (.c false [.raw (.int .i64 ((i : Nat)))]), .d, .d, .d, .d, .d, .d, .d, .d, .d, .d, .d, .d, .d, .d, .d, .d, .d, .d, .d, .d, .d, .d, .d, .d, .d]) (fun _ => []) (fun _ b => b) (fun i => i ≤ s.size ∧ (s.data.toList.take i).all FC = true) (fun i => s.size - i) 0 ⟨Nat.zero_le _, rfl⟩ ?_ ?_
  · simp [gu, je, gX, gZ, AV.fits, AC.fits, FB, fF]
  · rintro i ⟨hi, hall⟩
    simp only [FB, fF]
    by_cases hlt : i < s.size
    · have hT : decide ((i : Int) < (s.size : Int)) = true := decide_eq_true (by omega)
      have hw1 : IntKind.i64.wrap ((i : Int) + 1) = ((i + 1 : Nat) : Int) := fE (by omega)
      have hlt' : i < s.data.size := hlt
      have hg : s.data[i]? = some s.data[i] := Array.getElem?_eq_getElem hlt'
      have hc : FC s.data[i] = (!(decide (((s.data[i]).toNat : Int) < 32)) && !(decide (((s.data[i]).toNat : Int) > 126)) && !(((s.data[i]).toNat : Int) == 34)) := rfl
      have hl' : i < s.data.toList.length := by simpa using hlt'
      have htk : (s.data.toList.take (i + 1)).all FC = FC s.data[i] := by
        rw [List.take_succ_eq_append_getElem hl', List.all_append, hall]
        simp
      cases k1 : decide (((s.data[i]).toNat : Int) < 32) <;> cases k2 : decide (((s.data[i]).toNat : Int) > 126) <;> cases k3 : (((s.data[i]).toNat : Int) == 34) <;> rw [k1, k2, k3] at hc
      all_goals (first | (have hn : FC s.data[i] = false := by rw [hc]; rfl) | (have hn : FC s.data[i] = true := by rw [hc]; rfl))
      all_goals (repeat' (first | ((with_reducible refine aG ?_); intro K hK) | ((with_reducible refine hK _ ?_); clear hK K) | (with_reducible refine ak ?_ ?_) | ((with_reducible refine gi ?_); first | (refine aB ?_ ?_; rfl) | (refine aC ?_ ?_; (rfl; refine gF ?_)) | ((with_reducible refine gS rfl ?_ ?_) <;> (intro hb hb'; first | (exfalso; omega) | skip))) | ((with_reducible refine aH ?_); refine ss (XR hT (XR hw1 (XR hg (XR k1 (XR k2 k3))))) ?_) | refine nv ?_ | (with_reducible (refine cS rfl ?_ ?_) <;> (intro hb hb'; first | (exfalso; omega) | skip)) | (exact GExpr.el _) | exact aZ | exact aI))
      all_goals first
        | (refine iZ (i + 1) ?_ ⟨by omega, by rw [htk]; exact hn⟩ (show s.size - (i + 1) < s.size - i by omega)
           simp [gu, je, gX, gZ, AV.fits, AC.fits, FB, fF])
        | (refine aS ⟨_, rfl, ?_, trivial⟩
           show _ = _
           have hm : s.data.toList.all FC = false := by
             rw [List.all_eq_false]
             exact ⟨s.data[i], by simp, by rw [hn]; simp⟩
           unfold Ho
           rw [hm]
           rfl)
    · have hT : decide ((i : Int) < (s.size : Int)) = false := decide_eq_false (by omega)
      have hi' : i = s.size := by omega
      have hall' : s.data.toList.all FC = true := by
        have : s.data.toList.take i = s.data.toList := List.take_of_length_le (by rw [hi']; exact Nat.le_refl _)
        rw [← this]; exact hall
      repeat' (first | ((with_reducible refine aG ?_); intro K hK) | ((with_reducible refine hK _ ?_); clear hK K) | (with_reducible refine ak ?_ ?_) | ((with_reducible refine gi ?_); first | (refine aB ?_ ?_; rfl) | (refine aC ?_ ?_; (rfl; refine gF ?_)) | ((with_reducible refine gS rfl ?_ ?_) <;> (intro hb hb'; first | (exfalso; omega) | skip))) | ((with_reducible refine aH ?_); refine ss hT ?_) | refine nv ?_ | (with_reducible (refine cS rfl ?_ ?_) <;> (intro hb hb'; first | (exfalso; omega) | skip)) | (exact GExpr.el _) | exact aZ | exact aI)
      refine aS ⟨_, rfl, ?_, trivial⟩
      show _ = _
      unfold Ho
      rw [hall']
      rfl
theorem XP (n : Nat) : ((n : Int) == 0) = (n == 0) := by cases n <;> rfl
theorem Xy (n k : Nat) : ((n : Int) == (k : Int)) = (n == k) := by
  by_cases h : n = k
  · subst h; simp
  · rw [beq_eq_false_iff_ne.2 h, beq_eq_false_iff_ne.2 (by omega)]
theorem BH (s : ByteArray) (hs : s.size ≤ 1048576) : aK Try.prog 54 [ls s] (.c false [.raw (.bool (nmB s))]) := oP fun w vs hr => by
  obtain ⟨v, rfl, hv⟩ := O8 hr
  obtain rfl := jU hv
  exact rG s (by omega) w
theorem GV (s : ByteArray) : aK Try.prog 95 [ls s] (.c false [.raw (.int .i64 (bF s.toList))]) := FH fun w vs hr => by
  obtain ⟨v, rfl, hv⟩ := O8 hr
  obtain rfl := jU hv
  exact DW s w
def zG : IC := (.seq (.reg false [⟨(some 6), none, .mov (.k (.bool false))⟩]) (.seq (.reg false [⟨(some 7), none, .mov (.t 0)⟩, ⟨(some 8), none, .mov (.t 1)⟩, ⟨(some 9), none, .bin .geq (.t 7) (.t 8)⟩, ⟨(some 10), none, .mov (.t 9)⟩, ⟨(some 11), (some (10, true)), .mov (.t 0)⟩, ⟨(some 12), (some (10, true)), .mov (.t 2)⟩, ⟨(some 13), (some (10, true)), .bin .leq (.t 11) (.t 12)⟩, ⟨(some 14), none, .pick (.t 10) (.t 13) (.k (.bool false))⟩, ⟨(some 6), none, .mov (.t 14)⟩]) .ret))
theorem BX : aF Try.prog (Try.f44.body.getD .skip) = some zG := by kernel_rfl
set_option maxRecDepth 8000 in
set_option maxHeartbeats 8000000 in
theorem uf (n lo hi : Int) : aK Try.prog 44 [li n, li lo, li hi] (.c false [.raw (.bool (inR n lo hi))]) := by
  refine fZ (fn := Try.f44) (t := 6) (by kernel_rfl) (by kernel_rfl) (by kernel_rfl) BX ?_
  unfold zG
  change AWP _ _ _ (st0 15 _)
  refine sS trivial ?_
  cases h1 : decide (lo ≤ n) <;> cases h2 : decide (n ≤ hi)
  all_goals (have h3 : decide (n ≥ lo) = decide (lo ≤ n) := rfl
             rw [h1] at h3
             repeat' (first | ((with_reducible refine aG ?_); intro K hK) | ((with_reducible refine hK _ ?_); clear hK K) | (with_reducible refine ak ?_ ?_) | ((with_reducible refine gi ?_); first | (refine aB ?_ ?_; rfl) | (refine aC ?_ ?_; (rfl; refine gF ?_)) | ((with_reducible refine gS rfl ?_ ?_) <;> (intro hb hb'; first | (exfalso; omega) | skip))) | ((with_reducible refine aH ?_); refine ss (XR h1 (XR h2 h3)) ?_) | refine nv ?_ | (with_reducible (refine cS rfl ?_ ?_) <;> (intro hb hb'; first | (exfalso; omega) | skip)) | (exact GExpr.el _) | exact aZ | exact aI))
  all_goals exact aS ⟨_, rfl, ⟨by unfold inR; rw [h1, h2]; rfl, trivial⟩⟩
def xw : IC := (.seq (.reg false [⟨(some 1), none, .box (.t 0)⟩, ⟨(some 2), none, .mov (.k (.bool false))⟩]) (.seq (.reg false [⟨(some 4), none, .fad 3 (.t 1)⟩, ⟨(some 5), none, .load 1 false (.t 4)⟩, ⟨(some 6), none, .len false (.t 5)⟩, ⟨(some 3), none, .mov (.t 6)⟩]) (.seq (.seq (.reg false [⟨(some 7), none, .fad 0 (.t 1)⟩, ⟨(some 8), none, .load 1 false (.t 7)⟩]) (.block 0 (.seq (.reg false [⟨(some 10), none, .bin .eql (.t 8) (.k (.int .i64 1))⟩, ⟨(some 9), none, .mov (.t 10)⟩]) (.cond (.t 9) (.seq (.reg false [⟨(some 11), none, .mov (.t 3)⟩, ⟨(some 12), none, .bin .eql (.t 11) (.k (.int .i64 0))⟩, ⟨(some 13), none, .mov (.t 12)⟩, ⟨(some 14), (some (13, true)), .fad 2 (.t 1)⟩, ⟨(some 15), (some (13, true)), .load 1 false (.t 14)⟩, ⟨(some 16), (some (13, true)), .bin .eql (.t 15) (.k (.string ⟨#[]⟩))⟩, ⟨(some 17), none, .pick (.t 13) (.t 16) (.k (.bool false))⟩, ⟨(some 18), none, .mov (.t 17)⟩, ⟨(some 19), (some (18, true)), .fad 1 (.t 1)⟩, ⟨(some 20), (some (18, true)), .load 1 false (.t 19)⟩, ⟨(some 21), (some (18, true)), .call 44 [(.t 20), (.k (.int .i64 0)), (.k (.int .i64 1000000000))]⟩, ⟨(some 22), none, .pick (.t 18) (.t 21) (.k (.bool false))⟩, ⟨(some 2), none, .mov (.t 22)⟩]) .ret) (.seq (.reg false [⟨(some 24), none, .bin .eql (.t 8) (.k (.int .i64 2))⟩, ⟨(some 23), none, .mov (.t 24)⟩]) (.cond (.t 23) (.seq (.reg false [⟨(some 25), none, .mov (.t 3)⟩, ⟨(some 26), none, .bin .eql (.t 25) (.k (.int .i64 0))⟩, ⟨(some 27), none, .mov (.t 26)⟩, ⟨(some 28), (some (27, true)), .fad 1 (.t 1)⟩, ⟨(some 29), (some (27, true)), .load 1 false (.t 28)⟩, ⟨(some 30), (some (27, true)), .bin .eql (.t 29) (.k (.int .i64 0))⟩, ⟨(some 31), none, .pick (.t 27) (.t 30) (.k (.bool false))⟩, ⟨(some 32), none, .mov (.t 31)⟩, ⟨(some 33), (some (32, true)), .fad 2 (.t 1)⟩, ⟨(some 34), (some (32, true)), .load 1 false (.t 33)⟩, ⟨(some 35), (some (32, true)), .call 94 [(.t 34)]⟩, ⟨(some 36), none, .pick (.t 32) (.t 35) (.k (.bool false))⟩, ⟨(some 2), none, .mov (.t 36)⟩]) .ret) (.seq (.reg false [⟨(some 38), none, .bin .eql (.t 8) (.k (.int .i64 3))⟩, ⟨(some 37), none, .mov (.t 38)⟩]) (.cond (.t 37) (.seq (.reg false [⟨(some 39), none, .mov (.t 3)⟩, ⟨(some 40), none, .bin .eql (.t 39) (.k (.int .i64 0))⟩, ⟨(some 41), none, .mov (.t 40)⟩, ⟨(some 42), (some (41, true)), .fad 1 (.t 1)⟩, ⟨(some 43), (some (41, true)), .load 1 false (.t 42)⟩, ⟨(some 44), (some (41, true)), .bin .eql (.t 43) (.k (.int .i64 0))⟩, ⟨(some 45), none, .pick (.t 41) (.t 44) (.k (.bool false))⟩, ⟨(some 46), none, .mov (.t 45)⟩, ⟨(some 47), (some (46, true)), .fad 2 (.t 1)⟩, ⟨(some 48), (some (46, true)), .load 1 false (.t 47)⟩, ⟨(some 49), (some (46, true)), .call 54 [(.t 48)]⟩, ⟨(some 50), none, .pick (.t 46) (.t 49) (.k (.bool false))⟩, ⟨(some 2), none, .mov (.t 50)⟩]) .ret) (.seq (.reg false [⟨(some 52), none, .bin .eql (.t 8) (.k (.int .i64 4))⟩, ⟨(some 51), none, .mov (.t 52)⟩]) (.cond (.t 51) (.seq (.reg false [⟨(some 53), none, .fad 1 (.t 1)⟩, ⟨(some 54), none, .load 1 false (.t 53)⟩, ⟨(some 55), none, .bin .eql (.t 54) (.k (.int .i64 0))⟩, ⟨(some 56), none, .mov (.t 55)⟩, ⟨(some 57), (some (56, true)), .fad 2 (.t 1)⟩, ⟨(some 58), (some (56, true)), .load 1 false (.t 57)⟩, ⟨(some 59), (some (56, true)), .bin .eql (.t 58) (.k (.string ⟨#[]⟩))⟩, ⟨(some 60), none, .pick (.t 56) (.t 59) (.k (.bool false))⟩, ⟨(some 61), none, .mov (.t 60)⟩, ⟨(some 62), (some (61, true)), .mov (.t 3)⟩, ⟨(some 63), (some (61, true)), .bin .leq (.t 62) (.k (.int .i64 8))⟩, ⟨(some 64), none, .pick (.t 61) (.t 63) (.k (.bool false))⟩, ⟨(some 2), none, .mov (.t 64)⟩]) .ret) (.seq (.reg false [⟨(some 66), none, .bin .eql (.t 8) (.k (.int .i64 5))⟩, ⟨(some 65), none, .mov (.t 66)⟩]) (.cond (.t 65) (.seq (.reg false [⟨(some 67), none, .fad 1 (.t 1)⟩, ⟨(some 68), none, .load 1 false (.t 67)⟩, ⟨(some 69), none, .bin .eql (.t 68) (.k (.int .i64 0))⟩, ⟨(some 70), none, .mov (.t 69)⟩, ⟨(some 71), (some (70, true)), .mov (.t 3)⟩, ⟨(some 72), (some (70, true)), .fad 2 (.t 1)⟩, ⟨(some 73), (some (70, true)), .load 1 false (.t 72)⟩, ⟨(some 74), (some (70, true)), .call 95 [(.t 73)]⟩, ⟨(some 75), (some (70, true)), .bin .eql (.t 71) (.t 74)⟩, ⟨(some 76), none, .pick (.t 70) (.t 75) (.k (.bool false))⟩, ⟨(some 2), none, .mov (.t 76)⟩]) .ret) (.seq (.reg false [⟨(some 78), none, .bin .eql (.t 8) (.k (.int .i64 6))⟩, ⟨(some 77), none, .mov (.t 78)⟩]) (.cond (.t 77) (.seq (.reg false [⟨(some 79), none, .fad 2 (.t 1)⟩, ⟨(some 80), none, .load 1 false (.t 79)⟩, ⟨(some 81), none, .bin .eql (.t 80) (.k (.string ⟨#[]⟩))⟩, ⟨(some 82), none, .mov (.t 81)⟩, ⟨(some 83), (some (82, true)), .mov (.t 3)⟩, ⟨(some 84), (some (82, true)), .bin .eql (.t 83) (.k (.int .i64 2))⟩, ⟨(some 85), none, .pick (.t 82) (.t 84) (.k (.bool false))⟩, ⟨(some 86), none, .mov (.t 85)⟩, ⟨(some 87), (some (86, true)), .fad 1 (.t 1)⟩, ⟨(some 88), (some (86, true)), .load 1 false (.t 87)⟩, ⟨(some 89), (some (86, true)), .call 44 [(.t 88), (.k (.int .i64 1)), (.k (.int .i64 5))]⟩, ⟨(some 90), none, .pick (.t 86) (.t 89) (.k (.bool false))⟩, ⟨(some 2), none, .mov (.t 90)⟩]) .ret) (.seq (.seq (.reg false [⟨(some 92), none, .bin .eql (.t 8) (.k (.int .i64 7))⟩, ⟨(some 91), none, .mov (.t 92)⟩]) (.cond (.t 91) .skip (.reg false [⟨(some 93), none, .bin .eql (.t 8) (.k (.int .i64 9))⟩, ⟨(some 91), none, .mov (.t 93)⟩]))) (.cond (.t 91) (.seq (.reg false [⟨(some 94), none, .fad 1 (.t 1)⟩, ⟨(some 95), none, .load 1 false (.t 94)⟩, ⟨(some 96), none, .bin .eql (.t 95) (.k (.int .i64 0))⟩, ⟨(some 97), none, .mov (.t 96)⟩, ⟨(some 98), (some (97, true)), .mov (.t 3)⟩, ⟨(some 99), (some (97, true)), .bin .eql (.t 98) (.k (.int .i64 2))⟩, ⟨(some 100), none, .pick (.t 97) (.t 99) (.k (.bool false))⟩, ⟨(some 101), none, .mov (.t 100)⟩, ⟨(some 102), (some (101, true)), .fad 2 (.t 1)⟩, ⟨(some 103), (some (101, true)), .load 1 false (.t 102)⟩, ⟨(some 104), (some (101, true)), .call 54 [(.t 103)]⟩, ⟨(some 105), none, .pick (.t 101) (.t 104) (.k (.bool false))⟩, ⟨(some 2), none, .mov (.t 105)⟩]) .ret) (.seq (.reg false [⟨(some 107), none, .bin .eql (.t 8) (.k (.int .i64 8))⟩, ⟨(some 106), none, .mov (.t 107)⟩]) (.cond (.t 106) (.seq (.reg false [⟨(some 108), none, .fad 1 (.t 1)⟩, ⟨(some 109), none, .load 1 false (.t 108)⟩, ⟨(some 110), none, .bin .eql (.t 109) (.k (.int .i64 0))⟩, ⟨(some 111), none, .mov (.t 110)⟩, ⟨(some 112), (some (111, true)), .fad 2 (.t 1)⟩, ⟨(some 113), (some (111, true)), .load 1 false (.t 112)⟩, ⟨(some 114), (some (111, true)), .bin .eql (.t 113) (.k (.string ⟨#[]⟩))⟩, ⟨(some 115), none, .pick (.t 111) (.t 114) (.k (.bool false))⟩, ⟨(some 116), none, .mov (.t 115)⟩, ⟨(some 117), (some (116, true)), .mov (.t 3)⟩, ⟨(some 118), (some (116, true)), .bin .eql (.t 117) (.k (.int .i64 3))⟩, ⟨(some 119), none, .pick (.t 116) (.t 118) (.k (.bool false))⟩, ⟨(some 2), none, .mov (.t 119)⟩]) .ret) .skip)))))))))))))))))) (.seq (.reg false [⟨(some 2), none, .mov (.k (.bool false))⟩]) .ret))))
theorem Ac : aF Try.prog (Try.f93.body.getD .skip) = some xw := by kernel_rfl
set_option maxRecDepth 8000 in
set_option maxHeartbeats 32000000 in
theorem F7 (e : GExpr) (hw : e.toD.wt ≤ 1048576) : aK Try.prog 93 [e.toD] (.c false [.raw (.bool (jk e))]) := by
  refine fZ (fn := Try.f93) (t := 2) (by kernel_rfl) (by kernel_rfl) (by kernel_rfl) Ac ?_
  unfold xw
  change AWP _ _ _ (st0 120 _)
  refine sS trivial ?_
  have htx : e.text.size ≤ 1048576 := by rw [GExpr.oL e] at hw; omega
  have c1 := uf e.n 0 1000000000
  have c2 := uf e.n 1 5
  have c3 := BG e.text htx
  have c4 := BH e.text htx
  have c5 := GV e.text
  have kk : ∀ j : Int, (e.kind == j) = decide (e.kind = j) := fun j => by by_cases h : e.kind = j <;> simp [h]
  have l0 := XP e.args.length
  have l2 : ((e.args.length : Int) == 2) = (e.args.length == 2) := Xy e.args.length 2
  have l3 : ((e.args.length : Int) == 3) = (e.args.length == 3) := Xy e.args.length 3
  have tn : (e.text.toList == (⟨#[]⟩ : ByteArray).toList) = rC e.text := rfl
  have l8 : decide ((e.args.length : Int) ≤ 8) = decide (e.args.length ≤ 8) := by by_cases h : e.args.length ≤ 8 <;> simp [h] <;> omega
  have la : ((e.args.length : Int) == bF e.text.toList) = ((e.args.length : Int) == bF e.text.toList) := rfl
  by_cases k1 : e.kind = 1
  · have e1 : jk e = (e.args.length == 0 && rC e.text && inR e.n 0 1000000000) := by unfold jk; simp [k1]
    rw [e1]
    have f1 : (e.kind == 1) = true := by rw [kk]; exact decide_eq_true (by omega)
    have f2 : (e.kind == 2) = false := by rw [kk]; exact decide_eq_false (by omega)
    have f3 : (e.kind == 3) = false := by rw [kk]; exact decide_eq_false (by omega)
    have f4 : (e.kind == 4) = false := by rw [kk]; exact decide_eq_false (by omega)
    have f5 : (e.kind == 5) = false := by rw [kk]; exact decide_eq_false (by omega)
    have f6 : (e.kind == 6) = false := by rw [kk]; exact decide_eq_false (by omega)
    have f7 : (e.kind == 7) = false := by rw [kk]; exact decide_eq_false (by omega)
    have f8 : (e.kind == 8) = false := by rw [kk]; exact decide_eq_false (by omega)
    have f9 : (e.kind == 9) = false := by rw [kk]; exact decide_eq_false (by omega)
    cases q0 : (e.args.length == 0)
    all_goals cases q1 : rC e.text
    all_goals rw [q0] at l0
    all_goals rw [q1] at tn
    all_goals (repeat' (first | ((with_reducible refine aG ?_); intro K hK) | ((with_reducible refine hK _ ?_); clear hK K) | (with_reducible refine ak ?_ ?_) | ((with_reducible refine gi ?_); first | (refine aB ?_ ?_; rfl) | (refine aC ?_ ?_; (rfl; refine gF ?_))) | ((with_reducible refine aU ?_); first | refine au (hc := c1) (h := ?_) | refine au (hc := c2) (h := ?_) | refine au (hc := c3) (h := ?_) | refine au (hc := c4) (h := ?_) | refine au (hc := c5) (h := ?_)) | ((with_reducible refine aH ?_); refine ss (XR f1 (XR f2 (XR f3 (XR f4 (XR f5 (XR f6 (XR f7 (XR f8 (XR f9 (XR l0 tn)))))))))) ?_) | refine nv ?_ | (exact GExpr.el _) | exact aZ | exact aI))
    all_goals exact aS ⟨_, rfl, ⟨by simp [dA], trivial⟩⟩
  by_cases k2 : e.kind = 2
  · have e1 : jk e = (e.args.length == 0 && e.n == 0 && Ho e.text) := by unfold jk; simp [k2, k1]
    rw [e1]
    have f1 : (e.kind == 1) = false := by rw [kk]; exact decide_eq_false (by omega)
    have f2 : (e.kind == 2) = true := by rw [kk]; exact decide_eq_true (by omega)
    have f3 : (e.kind == 3) = false := by rw [kk]; exact decide_eq_false (by omega)
    have f4 : (e.kind == 4) = false := by rw [kk]; exact decide_eq_false (by omega)
    have f5 : (e.kind == 5) = false := by rw [kk]; exact decide_eq_false (by omega)
    have f6 : (e.kind == 6) = false := by rw [kk]; exact decide_eq_false (by omega)
    have f7 : (e.kind == 7) = false := by rw [kk]; exact decide_eq_false (by omega)
    have f8 : (e.kind == 8) = false := by rw [kk]; exact decide_eq_false (by omega)
    have f9 : (e.kind == 9) = false := by rw [kk]; exact decide_eq_false (by omega)
    cases q0 : (e.args.length == 0)
    all_goals cases q1 : (e.n == 0)
    all_goals rw [q0] at l0
    all_goals (repeat' (first | ((with_reducible refine aG ?_); intro K hK) | ((with_reducible refine hK _ ?_); clear hK K) | (with_reducible refine ak ?_ ?_) | ((with_reducible refine gi ?_); first | (refine aB ?_ ?_; rfl) | (refine aC ?_ ?_; (rfl; refine gF ?_))) | ((with_reducible refine aU ?_); first | refine au (hc := c1) (h := ?_) | refine au (hc := c2) (h := ?_) | refine au (hc := c3) (h := ?_) | refine au (hc := c4) (h := ?_) | refine au (hc := c5) (h := ?_)) | ((with_reducible refine aH ?_); refine ss (XR f1 (XR f2 (XR f3 (XR f4 (XR f5 (XR f6 (XR f7 (XR f8 (XR f9 (XR l0 q1)))))))))) ?_) | refine nv ?_ | (exact GExpr.el _) | exact aZ | exact aI))
    all_goals exact aS ⟨_, rfl, ⟨by simp [dA], trivial⟩⟩
  by_cases k3 : e.kind = 3
  · have e1 : jk e = (e.args.length == 0 && e.n == 0 && nmB e.text) := by unfold jk; simp [k3, k1, k2]
    rw [e1]
    have f1 : (e.kind == 1) = false := by rw [kk]; exact decide_eq_false (by omega)
    have f2 : (e.kind == 2) = false := by rw [kk]; exact decide_eq_false (by omega)
    have f3 : (e.kind == 3) = true := by rw [kk]; exact decide_eq_true (by omega)
    have f4 : (e.kind == 4) = false := by rw [kk]; exact decide_eq_false (by omega)
    have f5 : (e.kind == 5) = false := by rw [kk]; exact decide_eq_false (by omega)
    have f6 : (e.kind == 6) = false := by rw [kk]; exact decide_eq_false (by omega)
    have f7 : (e.kind == 7) = false := by rw [kk]; exact decide_eq_false (by omega)
    have f8 : (e.kind == 8) = false := by rw [kk]; exact decide_eq_false (by omega)
    have f9 : (e.kind == 9) = false := by rw [kk]; exact decide_eq_false (by omega)
    cases q0 : (e.args.length == 0)
    all_goals cases q1 : (e.n == 0)
    all_goals rw [q0] at l0
    all_goals (repeat' (first | ((with_reducible refine aG ?_); intro K hK) | ((with_reducible refine hK _ ?_); clear hK K) | (with_reducible refine ak ?_ ?_) | ((with_reducible refine gi ?_); first | (refine aB ?_ ?_; rfl) | (refine aC ?_ ?_; (rfl; refine gF ?_))) | ((with_reducible refine aU ?_); first | refine au (hc := c1) (h := ?_) | refine au (hc := c2) (h := ?_) | refine au (hc := c3) (h := ?_) | refine au (hc := c4) (h := ?_) | refine au (hc := c5) (h := ?_)) | ((with_reducible refine aH ?_); refine ss (XR f1 (XR f2 (XR f3 (XR f4 (XR f5 (XR f6 (XR f7 (XR f8 (XR f9 (XR l0 q1)))))))))) ?_) | refine nv ?_ | (exact GExpr.el _) | exact aZ | exact aI))
    all_goals exact aS ⟨_, rfl, ⟨by simp [dA], trivial⟩⟩
  by_cases k4 : e.kind = 4
  · have e1 : jk e = (e.n == 0 && rC e.text && decide (e.args.length ≤ 8)) := by unfold jk; simp [k4, k1, k2, k3]
    rw [e1]
    have f1 : (e.kind == 1) = false := by rw [kk]; exact decide_eq_false (by omega)
    have f2 : (e.kind == 2) = false := by rw [kk]; exact decide_eq_false (by omega)
    have f3 : (e.kind == 3) = false := by rw [kk]; exact decide_eq_false (by omega)
    have f4 : (e.kind == 4) = true := by rw [kk]; exact decide_eq_true (by omega)
    have f5 : (e.kind == 5) = false := by rw [kk]; exact decide_eq_false (by omega)
    have f6 : (e.kind == 6) = false := by rw [kk]; exact decide_eq_false (by omega)
    have f7 : (e.kind == 7) = false := by rw [kk]; exact decide_eq_false (by omega)
    have f8 : (e.kind == 8) = false := by rw [kk]; exact decide_eq_false (by omega)
    have f9 : (e.kind == 9) = false := by rw [kk]; exact decide_eq_false (by omega)
    cases q0 : (e.n == 0)
    all_goals cases q1 : rC e.text
    all_goals cases q2 : decide (e.args.length ≤ 8)
    all_goals rw [q1] at tn
    all_goals rw [q2] at l8
    all_goals (repeat' (first | ((with_reducible refine aG ?_); intro K hK) | ((with_reducible refine hK _ ?_); clear hK K) | (with_reducible refine ak ?_ ?_) | ((with_reducible refine gi ?_); first | (refine aB ?_ ?_; rfl) | (refine aC ?_ ?_; (rfl; refine gF ?_))) | ((with_reducible refine aU ?_); first | refine au (hc := c1) (h := ?_) | refine au (hc := c2) (h := ?_) | refine au (hc := c3) (h := ?_) | refine au (hc := c4) (h := ?_) | refine au (hc := c5) (h := ?_)) | ((with_reducible refine aH ?_); refine ss (XR f1 (XR f2 (XR f3 (XR f4 (XR f5 (XR f6 (XR f7 (XR f8 (XR f9 (XR q0 (XR tn l8))))))))))) ?_) | refine nv ?_ | (exact GExpr.el _) | exact aZ | exact aI))
    all_goals exact aS ⟨_, rfl, ⟨by simp [dA], trivial⟩⟩
  by_cases k5 : e.kind = 5
  · have e1 : jk e = (e.n == 0 && (e.args.length : Int) == bF e.text.toList) := by unfold jk; simp [k5, k1, k2, k3, k4]
    rw [e1]
    have f1 : (e.kind == 1) = false := by rw [kk]; exact decide_eq_false (by omega)
    have f2 : (e.kind == 2) = false := by rw [kk]; exact decide_eq_false (by omega)
    have f3 : (e.kind == 3) = false := by rw [kk]; exact decide_eq_false (by omega)
    have f4 : (e.kind == 4) = false := by rw [kk]; exact decide_eq_false (by omega)
    have f5 : (e.kind == 5) = true := by rw [kk]; exact decide_eq_true (by omega)
    have f6 : (e.kind == 6) = false := by rw [kk]; exact decide_eq_false (by omega)
    have f7 : (e.kind == 7) = false := by rw [kk]; exact decide_eq_false (by omega)
    have f8 : (e.kind == 8) = false := by rw [kk]; exact decide_eq_false (by omega)
    have f9 : (e.kind == 9) = false := by rw [kk]; exact decide_eq_false (by omega)
    cases q0 : (e.n == 0)
    all_goals cases q1 : ((e.args.length : Int) == bF e.text.toList)
    all_goals (repeat' (first | ((with_reducible refine aG ?_); intro K hK) | ((with_reducible refine hK _ ?_); clear hK K) | (with_reducible refine ak ?_ ?_) | ((with_reducible refine gi ?_); first | (refine aB ?_ ?_; rfl) | (refine aC ?_ ?_; (rfl; refine gF ?_))) | ((with_reducible refine aU ?_); first | refine au (hc := c1) (h := ?_) | refine au (hc := c2) (h := ?_) | refine au (hc := c3) (h := ?_) | refine au (hc := c4) (h := ?_) | refine au (hc := c5) (h := ?_)) | ((with_reducible refine aH ?_); refine ss (XR f1 (XR f2 (XR f3 (XR f4 (XR f5 (XR f6 (XR f7 (XR f8 (XR f9 (XR q0 q1)))))))))) ?_) | refine nv ?_ | (exact GExpr.el _) | exact aZ | exact aI))
    all_goals exact aS ⟨_, rfl, ⟨by simp [dA], trivial⟩⟩
  by_cases k6 : e.kind = 6
  · have e1 : jk e = (rC e.text && e.args.length == 2 && inR e.n 1 5) := by unfold jk; simp [k6, k1, k2, k3, k4, k5]
    rw [e1]
    have f1 : (e.kind == 1) = false := by rw [kk]; exact decide_eq_false (by omega)
    have f2 : (e.kind == 2) = false := by rw [kk]; exact decide_eq_false (by omega)
    have f3 : (e.kind == 3) = false := by rw [kk]; exact decide_eq_false (by omega)
    have f4 : (e.kind == 4) = false := by rw [kk]; exact decide_eq_false (by omega)
    have f5 : (e.kind == 5) = false := by rw [kk]; exact decide_eq_false (by omega)
    have f6 : (e.kind == 6) = true := by rw [kk]; exact decide_eq_true (by omega)
    have f7 : (e.kind == 7) = false := by rw [kk]; exact decide_eq_false (by omega)
    have f8 : (e.kind == 8) = false := by rw [kk]; exact decide_eq_false (by omega)
    have f9 : (e.kind == 9) = false := by rw [kk]; exact decide_eq_false (by omega)
    cases q0 : rC e.text
    all_goals cases q1 : (e.args.length == 2)
    all_goals rw [q0] at tn
    all_goals rw [q1] at l2
    all_goals (repeat' (first | ((with_reducible refine aG ?_); intro K hK) | ((with_reducible refine hK _ ?_); clear hK K) | (with_reducible refine ak ?_ ?_) | ((with_reducible refine gi ?_); first | (refine aB ?_ ?_; rfl) | (refine aC ?_ ?_; (rfl; refine gF ?_))) | ((with_reducible refine aU ?_); first | refine au (hc := c1) (h := ?_) | refine au (hc := c2) (h := ?_) | refine au (hc := c3) (h := ?_) | refine au (hc := c4) (h := ?_) | refine au (hc := c5) (h := ?_)) | ((with_reducible refine aH ?_); refine ss (XR f1 (XR f2 (XR f3 (XR f4 (XR f5 (XR f6 (XR f7 (XR f8 (XR f9 (XR tn l2)))))))))) ?_) | refine nv ?_ | (exact GExpr.el _) | exact aZ | exact aI))
    all_goals exact aS ⟨_, rfl, ⟨by simp [dA], trivial⟩⟩
  by_cases k7 : e.kind = 7
  · have e1 : jk e = (e.n == 0 && e.args.length == 2 && nmB e.text) := by unfold jk; simp [k7, k1, k2, k3, k4, k5, k6]
    rw [e1]
    have f1 : (e.kind == 1) = false := by rw [kk]; exact decide_eq_false (by omega)
    have f2 : (e.kind == 2) = false := by rw [kk]; exact decide_eq_false (by omega)
    have f3 : (e.kind == 3) = false := by rw [kk]; exact decide_eq_false (by omega)
    have f4 : (e.kind == 4) = false := by rw [kk]; exact decide_eq_false (by omega)
    have f5 : (e.kind == 5) = false := by rw [kk]; exact decide_eq_false (by omega)
    have f6 : (e.kind == 6) = false := by rw [kk]; exact decide_eq_false (by omega)
    have f7 : (e.kind == 7) = true := by rw [kk]; exact decide_eq_true (by omega)
    have f8 : (e.kind == 8) = false := by rw [kk]; exact decide_eq_false (by omega)
    have f9 : (e.kind == 9) = false := by rw [kk]; exact decide_eq_false (by omega)
    cases q0 : (e.n == 0)
    all_goals cases q1 : (e.args.length == 2)
    all_goals rw [q1] at l2
    all_goals (repeat' (first | ((with_reducible refine aG ?_); intro K hK) | ((with_reducible refine hK _ ?_); clear hK K) | (with_reducible refine ak ?_ ?_) | ((with_reducible refine gi ?_); first | (refine aB ?_ ?_; rfl) | (refine aC ?_ ?_; (rfl; refine gF ?_))) | ((with_reducible refine aU ?_); first | refine au (hc := c1) (h := ?_) | refine au (hc := c2) (h := ?_) | refine au (hc := c3) (h := ?_) | refine au (hc := c4) (h := ?_) | refine au (hc := c5) (h := ?_)) | ((with_reducible refine aH ?_); refine ss (XR f1 (XR f2 (XR f3 (XR f4 (XR f5 (XR f6 (XR f7 (XR f8 (XR f9 (XR q0 l2)))))))))) ?_) | refine nv ?_ | (exact GExpr.el _) | exact aZ | exact aI))
    all_goals exact aS ⟨_, rfl, ⟨by simp [dA], trivial⟩⟩
  by_cases k8 : e.kind = 8
  · have e1 : jk e = (e.n == 0 && rC e.text && e.args.length == 3) := by unfold jk; simp [k8, k1, k2, k3, k4, k5, k6, k7]
    rw [e1]
    have f1 : (e.kind == 1) = false := by rw [kk]; exact decide_eq_false (by omega)
    have f2 : (e.kind == 2) = false := by rw [kk]; exact decide_eq_false (by omega)
    have f3 : (e.kind == 3) = false := by rw [kk]; exact decide_eq_false (by omega)
    have f4 : (e.kind == 4) = false := by rw [kk]; exact decide_eq_false (by omega)
    have f5 : (e.kind == 5) = false := by rw [kk]; exact decide_eq_false (by omega)
    have f6 : (e.kind == 6) = false := by rw [kk]; exact decide_eq_false (by omega)
    have f7 : (e.kind == 7) = false := by rw [kk]; exact decide_eq_false (by omega)
    have f8 : (e.kind == 8) = true := by rw [kk]; exact decide_eq_true (by omega)
    have f9 : (e.kind == 9) = false := by rw [kk]; exact decide_eq_false (by omega)
    cases q0 : (e.n == 0)
    all_goals cases q1 : rC e.text
    all_goals cases q2 : (e.args.length == 3)
    all_goals rw [q1] at tn
    all_goals rw [q2] at l3
    all_goals (repeat' (first | ((with_reducible refine aG ?_); intro K hK) | ((with_reducible refine hK _ ?_); clear hK K) | (with_reducible refine ak ?_ ?_) | ((with_reducible refine gi ?_); first | (refine aB ?_ ?_; rfl) | (refine aC ?_ ?_; (rfl; refine gF ?_))) | ((with_reducible refine aU ?_); first | refine au (hc := c1) (h := ?_) | refine au (hc := c2) (h := ?_) | refine au (hc := c3) (h := ?_) | refine au (hc := c4) (h := ?_) | refine au (hc := c5) (h := ?_)) | ((with_reducible refine aH ?_); refine ss (XR f1 (XR f2 (XR f3 (XR f4 (XR f5 (XR f6 (XR f7 (XR f8 (XR f9 (XR q0 (XR tn l3))))))))))) ?_) | refine nv ?_ | (exact GExpr.el _) | exact aZ | exact aI))
    all_goals exact aS ⟨_, rfl, ⟨by simp [dA], trivial⟩⟩
  by_cases k9 : e.kind = 9
  · have e1 : jk e = (e.n == 0 && e.args.length == 2 && nmB e.text) := by unfold jk; simp [k9, k1, k2, k3, k4, k5, k6, k7, k8]
    rw [e1]
    have f1 : (e.kind == 1) = false := by rw [kk]; exact decide_eq_false (by omega)
    have f2 : (e.kind == 2) = false := by rw [kk]; exact decide_eq_false (by omega)
    have f3 : (e.kind == 3) = false := by rw [kk]; exact decide_eq_false (by omega)
    have f4 : (e.kind == 4) = false := by rw [kk]; exact decide_eq_false (by omega)
    have f5 : (e.kind == 5) = false := by rw [kk]; exact decide_eq_false (by omega)
    have f6 : (e.kind == 6) = false := by rw [kk]; exact decide_eq_false (by omega)
    have f7 : (e.kind == 7) = false := by rw [kk]; exact decide_eq_false (by omega)
    have f8 : (e.kind == 8) = false := by rw [kk]; exact decide_eq_false (by omega)
    have f9 : (e.kind == 9) = true := by rw [kk]; exact decide_eq_true (by omega)
    cases q0 : (e.n == 0)
    all_goals cases q1 : (e.args.length == 2)
    all_goals rw [q1] at l2
    all_goals (repeat' (first | ((with_reducible refine aG ?_); intro K hK) | ((with_reducible refine hK _ ?_); clear hK K) | (with_reducible refine ak ?_ ?_) | ((with_reducible refine gi ?_); first | (refine aB ?_ ?_; rfl) | (refine aC ?_ ?_; (rfl; refine gF ?_))) | ((with_reducible refine aU ?_); first | refine au (hc := c1) (h := ?_) | refine au (hc := c2) (h := ?_) | refine au (hc := c3) (h := ?_) | refine au (hc := c4) (h := ?_) | refine au (hc := c5) (h := ?_)) | ((with_reducible refine aH ?_); refine ss (XR f1 (XR f2 (XR f3 (XR f4 (XR f5 (XR f6 (XR f7 (XR f8 (XR f9 (XR q0 l2)))))))))) ?_) | refine nv ?_ | (exact GExpr.el _) | exact aZ | exact aI))
    all_goals exact aS ⟨_, rfl, ⟨by simp [dA], trivial⟩⟩
  have e1 : jk e = false := by unfold jk; simp [k1, k2, k3, k4, k5, k6, k7, k8, k9]
  rw [e1]
  have f1 : (e.kind == 1) = false := by rw [kk]; exact decide_eq_false (by omega)
  have f2 : (e.kind == 2) = false := by rw [kk]; exact decide_eq_false (by omega)
  have f3 : (e.kind == 3) = false := by rw [kk]; exact decide_eq_false (by omega)
  have f4 : (e.kind == 4) = false := by rw [kk]; exact decide_eq_false (by omega)
  have f5 : (e.kind == 5) = false := by rw [kk]; exact decide_eq_false (by omega)
  have f6 : (e.kind == 6) = false := by rw [kk]; exact decide_eq_false (by omega)
  have f7 : (e.kind == 7) = false := by rw [kk]; exact decide_eq_false (by omega)
  have f8 : (e.kind == 8) = false := by rw [kk]; exact decide_eq_false (by omega)
  have f9 : (e.kind == 9) = false := by rw [kk]; exact decide_eq_false (by omega)
  all_goals (repeat' (first | ((with_reducible refine aG ?_); intro K hK) | ((with_reducible refine hK _ ?_); clear hK K) | (with_reducible refine ak ?_ ?_) | ((with_reducible refine gi ?_); first | (refine aB ?_ ?_; rfl) | (refine aC ?_ ?_; (rfl; refine gF ?_))) | ((with_reducible refine aU ?_); first | refine au (hc := c1) (h := ?_) | refine au (hc := c2) (h := ?_) | refine au (hc := c3) (h := ?_) | refine au (hc := c4) (h := ?_) | refine au (hc := c5) (h := ?_)) | ((with_reducible refine aH ?_); refine ss (XR f1 (XR f2 (XR f3 (XR f4 (XR f5 (XR f6 (XR f7 (XR f8 f9)))))))) ?_) | refine nv ?_ | (exact GExpr.el _) | exact aZ | exact aI))
  all_goals exact aS ⟨_, rfl, ⟨by simp [dA], trivial⟩⟩
def zI : IC := (.seq (.reg false [⟨(some 1), none, .box (.t 0)⟩, ⟨(some 2), none, .mov (.k (.bool false))⟩]) (.seq (.seq (.reg false [⟨(some 3), none, .mov (.k (.int .i64 0))⟩]) (.block 0 (.loop (.seq (.seq (.reg false [⟨(some 4), none, .mov (.t 3)⟩, ⟨(some 5), none, .fad 3 (.t 1)⟩, ⟨(some 6), none, .load 1 false (.t 5)⟩, ⟨(some 7), none, .len false (.t 6)⟩, ⟨(some 8), none, .bin .lss (.t 4) (.t 7)⟩]) (.cond (.t 8) .skip (.exit 0))) (.seq (.block 1 (.seq (.reg false [⟨(some 11), none, .fad 3 (.t 1)⟩, ⟨(some 12), none, .load 1 false (.t 11)⟩, ⟨(some 13), none, .mov (.t 3)⟩, ⟨(some 14), none, .iad 4 (.t 12) (.t 13)⟩, ⟨(some 15), none, .load 4 true (.t 14)⟩, ⟨(some 16), none, .call 88 [(.t 15)]⟩, ⟨(some 17), none, .not (.t 16)⟩]) (.cond (.t 17) (.seq (.reg false [⟨(some 2), none, .mov (.k (.bool false))⟩]) .ret) .skip))) (.reg false [⟨(some 9), none, .mov (.t 3)⟩, ⟨(some 10), none, .bin .add (.t 9) (.k (.int .i64 1))⟩, ⟨(some 3), none, .mov (.t 10)⟩])))))) (.seq (.reg false [⟨(some 18), none, .load 4 true (.t 1)⟩, ⟨(some 19), none, .call 93 [(.t 18)]⟩, ⟨(some 2), none, .mov (.t 19)⟩]) .ret)))
theorem Cc : aF Try.prog (Try.f88.body.getD .skip) = some zI := by kernel_rfl
def ji (e : GExpr) : Prop := aK Try.prog 88 [e.toD] (.c false [.raw (.bool (e.allN))])
set_option maxRecDepth 8000 in
set_option maxHeartbeats 8000000 in
theorem KI (e : GExpr) (hw : e.toD.wt ≤ 1048576) (hI : ∀ y ∈ e.args, ji y) : ji e := by
  unfold ji
  have hlen := Ah e
  refine fZ (fn := Try.f88) (t := 2) (by kernel_rfl) (by kernel_rfl) (by kernel_rfl) Cc ?_
  unfold zI
  change AWP _ _ _ (st0 20 _)
  refine sS trivial ?_
  repeat' (first | ((with_reducible refine aG ?_); intro K hK) | ((with_reducible refine hK _ ?_); clear hK K) | (with_reducible refine ak ?_ ?_) | ((with_reducible refine aH ?_); refine ss trivial ?_) | refine nv ?_ | (with_reducible (refine cS rfl ?_ ?_) <;> (intro hb hb'; first | (exfalso; omega) | skip)) | (exact GExpr.el _) | exact aZ | exact aI)
  refine kQ (X := Nat) (fun i => [.d, .k, .d, .v (.c false [.raw (.int .i64 ((i : Nat)))]), .d, .d, .d, .d, .d, .d, .d, .d, .d, .d, .d, .d, .d, .d, .d, .d]) (fun _ => []) (fun _ _ => [[.raw (.int .i64 e.kind), .raw (.int .i64 e.n), .raw (.string e.text), .sl false (e.args.map GExpr.toD)]]) (fun i => i ≤ e.args.length ∧ (e.args.take i).all GExpr.allN = true) (fun i => e.args.length - i) 0 ⟨Nat.zero_le _, rfl⟩ ?_ ?_
  · simp [gu, je, gX, gZ, AV.fits, AC.fits, FB, fF]
  · rintro i ⟨hi, hall⟩
    simp only [FB, fF]
    by_cases hlt : i < e.args.length
    · have hT : decide ((i : Int) < (e.args.length : Int)) = true := decide_eq_true (by omega)
      have hw1 : IntKind.i64.wrap ((i : Int) + 1) = ((i + 1 : Nat) : Int) := fE (by omega)
      have hix := dR GExpr.toD e.args hlt
      have hmem : e.args[i] ∈ e.args := List.getElem_mem hlt
      have htk : e.args.take (i + 1) = e.args.take i ++ [e.args[i]] := List.take_succ_eq_append_getElem hlt
      have hI1 := hI _ hmem
      unfold ji at hI1
      cases hb : (e.args[i]).allN
      · rw [hb] at hI1
        repeat' (first | ((with_reducible refine aG ?_); intro K hK) | ((with_reducible refine hK _ ?_); clear hK K) | (with_reducible refine ak ?_ ?_) | ((with_reducible refine aU ?_); first | refine au (hc := hI1) (h := ?_)) | ((with_reducible refine aH ?_); refine ss (XR hT (XR hw1 hix)) ?_) | refine nv ?_ | (with_reducible (refine cS rfl ?_ ?_) <;> (intro hb hb'; first | (exfalso; omega) | skip)) | (exact GExpr.el _) | exact aZ | exact aI)
        have hn : e.allN = false := by
          rw [AQ, List.all_eq_false.2 ⟨_, hmem, by rw [hb]; simp⟩]; rfl
        exact aS ⟨_, rfl, ⟨by simp [dA, hn], trivial⟩⟩
      · rw [hb] at hI1
        repeat' (first | ((with_reducible refine aG ?_); intro K hK) | ((with_reducible refine hK _ ?_); clear hK K) | (with_reducible refine ak ?_ ?_) | ((with_reducible refine aU ?_); first | refine au (hc := hI1) (h := ?_)) | ((with_reducible refine aH ?_); refine ss (XR hT (XR hw1 hix)) ?_) | refine nv ?_ | (with_reducible (refine cS rfl ?_ ?_) <;> (intro hb hb'; first | (exfalso; omega) | skip)) | (exact GExpr.el _) | exact aZ | exact aI)
        refine iZ (i + 1) ?_ ⟨by omega, by rw [htk, List.all_append, hall]; simp [hb]⟩ (show e.args.length - (i + 1) < e.args.length - i by omega)
        simp [gu, je, gX, gZ, AV.fits, AC.fits, FB, fF]
    · have hT : decide ((i : Int) < (e.args.length : Int)) = false := decide_eq_false (by omega)
      have hall' : e.args.all GExpr.allN = true := by
        have : e.args.take i = e.args := List.take_of_length_le (by omega)
        rw [← this]; exact hall
      have hnd := F7 e hw
      repeat' (first | ((with_reducible refine aG ?_); intro K hK) | ((with_reducible refine hK _ ?_); clear hK K) | (with_reducible refine ak ?_ ?_) | ((with_reducible refine aU ?_); first | refine au (hc := hnd) (h := ?_)) | ((with_reducible refine aH ?_); refine ss hT ?_) | refine nv ?_ | (with_reducible (refine cS rfl ?_ ?_) <;> (intro hb hb'; first | (exfalso; omega) | skip)) | (exact GExpr.el _) | exact aZ | exact aI)
      have hn : e.allN = jk e := by rw [AQ, hall']; rfl
      exact aS ⟨_, rfl, ⟨by simp [dA, hn], trivial⟩⟩
theorem GY : ∀ (n : Nat) (e : GExpr), e.toD.wt < n → e.toD.wt ≤ 1048576 → ji e := by
  intro n
  induction n with
  | zero => intro e h; omega
  | succ n ih => intro e h hw; exact KI e hw (fun y hy => ih y (by have := qx hy; omega) (by have := qx hy; omega))
theorem KH (e : GExpr) (hw : e.toD.wt ≤ 1048576) : ji e := GY _ e (Nat.lt_succ_self _) hw
def N7 : IC := (.seq (.reg false [⟨(some 2), none, .box (.t 0)⟩, ⟨(some 4), none, .mov (.k (.int .i64 0))⟩]) (.seq (.reg false [⟨(some 6), none, .mov (.t 1)⟩, ⟨(some 7), none, .bin .sub (.t 6) (.k (.int .i64 1))⟩, ⟨(some 1), none, .mov (.t 7)⟩]) (.seq (.seq (.reg false [⟨(some 5), none, .mov (.k (.int .i64 0))⟩]) (.block 0 (.loop (.seq (.seq (.reg false [⟨(some 8), none, .mov (.t 5)⟩, ⟨(some 9), none, .fad 3 (.t 2)⟩, ⟨(some 10), none, .load 1 false (.t 9)⟩, ⟨(some 11), none, .len false (.t 10)⟩, ⟨(some 12), none, .bin .lss (.t 8) (.t 11)⟩, ⟨(some 13), none, .mov (.t 12)⟩, ⟨(some 14), (some (13, true)), .mov (.t 1)⟩, ⟨(some 15), (some (13, true)), .bin .geq (.t 14) (.k (.int .i64 0))⟩, ⟨(some 16), none, .pick (.t 13) (.t 15) (.k (.bool false))⟩]) (.cond (.t 16) .skip (.exit 0))) (.seq (.block 1 (.reg false [⟨(some 19), none, .fad 3 (.t 2)⟩, ⟨(some 20), none, .load 1 false (.t 19)⟩, ⟨(some 21), none, .mov (.t 5)⟩, ⟨(some 22), none, .iad 4 (.t 20) (.t 21)⟩, ⟨(some 23), none, .load 4 true (.t 22)⟩, ⟨(some 24), none, .mov (.t 1)⟩, ⟨(some 25), none, .call 86 [(.t 23), (.t 24)]⟩, ⟨(some 1), none, .mov (.t 25)⟩])) (.reg false [⟨(some 17), none, .mov (.t 5)⟩, ⟨(some 18), none, .bin .add (.t 17) (.k (.int .i64 1))⟩, ⟨(some 5), none, .mov (.t 18)⟩])))))) (.seq (.reg false [⟨(some 26), none, .mov (.t 1)⟩, ⟨(some 4), none, .mov (.t 26)⟩]) .ret))))
theorem LC : aF Try.prog (Try.f86.body.getD .skip) = some N7 := by kernel_rfl
def pI (e : GExpr) : Prop := ∀ n : Int, 0 ≤ n → n ≤ 1048576 → aK Try.prog 86 [e.toD, li n] (.c false [.raw (.int .i64 (e.left n))])
set_option maxRecDepth 8000 in
set_option maxHeartbeats 8000000 in
theorem Vg (e : GExpr) (hw : e.toD.wt ≤ 1048576) (hI : ∀ y ∈ e.args, pI y) : pI e := by
  unfold pI
  intro n hn hn2
  have hws : IntKind.i64.wrap (n - 1) = n - 1 := jq (by omega) (by omega)
  have hlen := Ah e
  refine fZ (fn := Try.f86) (t := 4) (by kernel_rfl) (by kernel_rfl) (by kernel_rfl) LC ?_
  unfold N7
  change AWP _ _ _ (st0 27 _)
  refine sS trivial ?_
  repeat' (first | ((with_reducible refine aG ?_); intro K hK) | ((with_reducible refine hK _ ?_); clear hK K) | (with_reducible refine ak ?_ ?_) | ((with_reducible refine gi ?_); first | (refine aB ?_ ?_; rfl) | (refine aC ?_ ?_; (rfl; refine gF ?_)) | ((with_reducible refine gS rfl ?_ ?_) <;> (intro hb hb'; first | (exfalso; omega) | skip))) | ((with_reducible refine aH ?_); refine ss trivial ?_) | refine nv ?_ | (with_reducible (refine cS rfl ?_ ?_) <;> (intro hb hb'; first | (exfalso; omega) | skip)) | (exact GExpr.el _) | exact aZ | exact aI)
  have h00 := GExpr.su e.args (n - 1) (by omega)
  refine kQ (X := Nat) (fun i => [.d, .v (.c false [.raw (.int .i64 (GExpr.lefts (e.args.take i) (n - 1)))]), .k, .d, .d, .v (.c false [.raw (.int .i64 ((i : Nat)))]), .d, .d, .d, .d, .d, .d, .d, .d, .d, .d, .d, .d, .d, .d, .d, .d, .d, .d, .d, .d, .d]) (fun _ => []) (fun _ _ => [[.raw (.int .i64 e.kind), .raw (.int .i64 e.n), .raw (.string e.text), .sl false (e.args.map GExpr.toD)]]) (fun i => i ≤ e.args.length) (fun i => e.args.length - i) 0 (Nat.zero_le _) ?_ ?_
  · simp [gu, je, gX, gZ, AV.fits, AC.fits, FB, fF, GExpr.lefts]
  · intro i hi
    simp only [FB, fF]
    have h0 := GExpr.su (e.args.take i) (n - 1) (by omega)
    have hv := Vh e n
    by_cases hlt : i < e.args.length
    · have hT : decide ((i : Int) < (e.args.length : Int)) = true := decide_eq_true (by omega)
      have hw1 : IntKind.i64.wrap ((i : Int) + 1) = ((i + 1 : Nat) : Int) := fE (by omega)
      have hix := dR GExpr.toD e.args hlt
      have hmem : e.args[i] ∈ e.args := List.getElem_mem hlt
      have htk : e.args.take (i + 1) = e.args.take i ++ [e.args[i]] := List.take_succ_eq_append_getElem hlt
      have hI1 := hI _ hmem
      unfold pI at hI1
      have happ := Ep (e.args.take i) e.args[i] (n - 1)
      rw [← htk] at happ
      cases hb : decide (GExpr.lefts (e.args.take i) (n - 1) ≥ 0)
      · have hneg : GExpr.lefts (e.args.take i) (n - 1) < 0 := by have := of_decide_eq_false hb; omega
        have hall : GExpr.lefts e.args (n - 1) = GExpr.lefts (e.args.take i) (n - 1) := by
          have e1 : e.args = e.args.take i ++ e.args.drop i := (List.take_append_drop i e.args).symm
          have e2 : ∀ (a b : List GExpr) (m : Int), GExpr.lefts a m < 0 → GExpr.lefts (a ++ b) m = GExpr.lefts a m := by
            intro a
            induction a with
            | nil => intro b m hm; simp only [GExpr.lefts] at hm; rw [List.nil_append, Eo b hm]; simp [GExpr.lefts]
            | cons x a ih =>
              intro b m hm
              simp only [List.cons_append, GExpr.lefts] at hm ⊢
              split
              · next h => rw [if_pos h] at hm; exact ih b _ hm
              · rfl
          rw [← e2 (e.args.take i) (e.args.drop i) (n - 1) hneg, List.take_append_drop]
        repeat' (first | ((with_reducible refine aG ?_); intro K hK) | ((with_reducible refine hK _ ?_); clear hK K) | (with_reducible refine ak ?_ ?_) | ((with_reducible refine gi ?_); first | (refine aB ?_ ?_; rfl) | (refine aC ?_ ?_; (rfl; refine gF ?_)) | ((with_reducible refine gS rfl ?_ ?_) <;> (intro hb hb'; first | (exfalso; omega) | skip))) | ((with_reducible refine aH ?_); refine ss (XR hT (XR hw1 (XR hix hb))) ?_) | refine nv ?_ | (with_reducible (refine cS rfl ?_ ?_) <;> (intro hb hb'; first | (exfalso; omega) | skip)) | (exact GExpr.el _) | exact aZ | exact aI)
        exact aS ⟨_, rfl, ⟨by simp [dA, hv, hall], trivial⟩⟩
      · have hpos : GExpr.lefts (e.args.take i) (n - 1) ≥ 0 := of_decide_eq_true hb
        rw [if_pos hpos] at happ
        have hI2 := hI1 _ hpos (by omega)
        repeat' (first | ((with_reducible refine aG ?_); intro K hK) | ((with_reducible refine hK _ ?_); clear hK K) | (with_reducible refine ak ?_ ?_) | ((with_reducible refine gi ?_); first | (refine aB ?_ ?_; rfl) | (refine aC ?_ ?_; (rfl; refine gF ?_)) | ((with_reducible refine gS rfl ?_ ?_) <;> (intro hb hb'; first | (exfalso; omega) | skip))) | ((with_reducible refine aU ?_); first | refine au (hc := hI2) (h := ?_)) | ((with_reducible refine aH ?_); refine ss (XR hT (XR hw1 (XR hix hb))) ?_) | refine nv ?_ | (with_reducible (refine cS rfl ?_ ?_) <;> (intro hb hb'; first | (exfalso; omega) | skip)) | (exact GExpr.el _) | exact aZ | exact aI)
        refine iZ (i + 1) ?_ (by omega) (show e.args.length - (i + 1) < e.args.length - i by omega)
        simp [gu, je, gX, gZ, AV.fits, AC.fits, FB, fF, happ]
    · have hT : decide ((i : Int) < (e.args.length : Int)) = false := decide_eq_false (by omega)
      have hall : e.args.take i = e.args := List.take_of_length_le (by omega)
      repeat' (first | ((with_reducible refine aG ?_); intro K hK) | ((with_reducible refine hK _ ?_); clear hK K) | (with_reducible refine ak ?_ ?_) | ((with_reducible refine gi ?_); first | (refine aB ?_ ?_; rfl) | (refine aC ?_ ?_; (rfl; refine gF ?_)) | ((with_reducible refine gS rfl ?_ ?_) <;> (intro hb hb'; first | (exfalso; omega) | skip))) | ((with_reducible refine aH ?_); refine ss hT ?_) | refine nv ?_ | (with_reducible (refine cS rfl ?_ ?_) <;> (intro hb hb'; first | (exfalso; omega) | skip)) | (exact GExpr.el _) | exact aZ | exact aI)
      exact aS ⟨_, rfl, ⟨by simp [dA, hv, hall], trivial⟩⟩
theorem SA : ∀ (n : Nat) (e : GExpr), e.toD.wt < n → e.toD.wt ≤ 1048576 → pI e := by
  intro n
  induction n with
  | zero => intro e h; omega
  | succ n ih => intro e h hw; exact Vg e hw (fun y hy => ih y (by have := qx hy; omega) (by have := qx hy; omega))
theorem Vf (e : GExpr) (hw : e.toD.wt ≤ 1048576) : pI e := SA _ e (Nat.lt_succ_self _) hw
def zD : IC := (.seq (.reg false [⟨(some 4), none, .mov (.k (.int .i64 0))⟩]) (.seq (.seq (.reg false [⟨(some 5), none, .mov (.t 0)⟩, ⟨(some 6), none, .mov (.t 1)⟩, ⟨(some 7), none, .bin .gtr (.t 5) (.t 6)⟩]) (.cond (.t 7) (.seq (.reg false [⟨(some 8), none, .mov (.t 0)⟩, ⟨(some 4), none, .mov (.t 8)⟩]) .ret) .skip)) (.seq (.reg false [⟨(some 9), none, .mov (.t 1)⟩, ⟨(some 4), none, .mov (.t 9)⟩]) .ret)))
theorem BO : aF Try.prog (Try.f60.body.getD .skip) = some zD := by kernel_rfl
set_option maxRecDepth 8000 in
set_option maxHeartbeats 8000000 in
theorem IB (a b : Nat) : aK Try.prog 60 [li (a : Int), li (b : Int)] (.c false [.raw (.int .i64 ((max a b : Nat) : Int))]) := by
  refine fZ (fn := Try.f60) (t := 4) (by kernel_rfl) (by kernel_rfl) (by kernel_rfl) BO ?_
  unfold zD
  change AWP _ _ _ (st0 10 _)
  refine sS trivial ?_
  by_cases h : (a : Int) > (b : Int)
  · have hT : decide ((a : Int) > (b : Int)) = true := decide_eq_true h
    repeat' (first | ((with_reducible refine aG ?_); intro K hK) | ((with_reducible refine hK _ ?_); clear hK K) | (with_reducible refine ak ?_ ?_) | ((with_reducible refine aH ?_); refine ss hT ?_) | refine nv ?_ | (with_reducible (refine cS rfl ?_ ?_) <;> (intro hb hb'; first | (exfalso; omega) | skip)) | (exact GExpr.el _) | exact aZ | exact aI)
    exact aS ⟨_, rfl, ⟨by simp [dA]; omega, trivial⟩⟩
  · have hT : decide ((a : Int) > (b : Int)) = false := decide_eq_false h
    repeat' (first | ((with_reducible refine aG ?_); intro K hK) | ((with_reducible refine hK _ ?_); clear hK K) | (with_reducible refine ak ?_ ?_) | ((with_reducible refine aH ?_); refine ss hT ?_) | refine nv ?_ | (with_reducible (refine cS rfl ?_ ?_) <;> (intro hb hb'; first | (exfalso; omega) | skip)) | (exact GExpr.el _) | exact aZ | exact aI)
    exact aS ⟨_, rfl, ⟨by simp [dA]; omega, trivial⟩⟩
def xA : IC := (.seq (.reg false [⟨(some 1), none, .box (.t 0)⟩, ⟨(some 2), none, .mov (.k (.int .i64 0))⟩]) (.seq (.reg false [⟨(some 3), none, .mov (.k (.int .i64 0))⟩]) (.seq (.seq (.reg false [⟨(some 4), none, .mov (.k (.int .i64 0))⟩]) (.block 0 (.loop (.seq (.seq (.reg false [⟨(some 5), none, .mov (.t 4)⟩, ⟨(some 6), none, .fad 3 (.t 1)⟩, ⟨(some 7), none, .load 1 false (.t 6)⟩, ⟨(some 8), none, .len false (.t 7)⟩, ⟨(some 9), none, .bin .lss (.t 5) (.t 8)⟩]) (.cond (.t 9) .skip (.exit 0))) (.seq (.block 1 (.reg false [⟨(some 12), none, .mov (.t 3)⟩, ⟨(some 13), none, .fad 3 (.t 1)⟩, ⟨(some 14), none, .load 1 false (.t 13)⟩, ⟨(some 15), none, .mov (.t 4)⟩, ⟨(some 16), none, .iad 4 (.t 14) (.t 15)⟩, ⟨(some 17), none, .load 4 true (.t 16)⟩, ⟨(some 18), none, .call 87 [(.t 17)]⟩, ⟨(some 19), none, .call 60 [(.t 12), (.t 18)]⟩, ⟨(some 3), none, .mov (.t 19)⟩])) (.reg false [⟨(some 10), none, .mov (.t 4)⟩, ⟨(some 11), none, .bin .add (.t 10) (.k (.int .i64 1))⟩, ⟨(some 4), none, .mov (.t 11)⟩])))))) (.seq (.reg false [⟨(some 20), none, .mov (.t 3)⟩, ⟨(some 21), none, .bin .add (.t 20) (.k (.int .i64 1))⟩, ⟨(some 2), none, .mov (.t 21)⟩]) .ret))))
theorem Ad : aF Try.prog (Try.f87.body.getD .skip) = some xA := by kernel_rfl
def iU (e : GExpr) : Prop := aK Try.prog 87 [e.toD] (.c false [.raw (.int .i64 ((e.nest : Nat) : Int))])
set_option maxRecDepth 8000 in
set_option maxHeartbeats 8000000 in
theorem F9 (e : GExpr) (hw : e.toD.wt ≤ 1048576) (hI : ∀ y ∈ e.args, iU y) : iU e := by
  unfold iU
  have hlen := Ah e
  refine fZ (fn := Try.f87) (t := 2) (by kernel_rfl) (by kernel_rfl) (by kernel_rfl) Ad ?_
  unfold xA
  change AWP _ _ _ (st0 22 _)
  refine sS trivial ?_
  repeat' (first | ((with_reducible refine aG ?_); intro K hK) | ((with_reducible refine hK _ ?_); clear hK K) | (with_reducible refine ak ?_ ?_) | ((with_reducible refine aH ?_); refine ss trivial ?_) | refine nv ?_ | (with_reducible (refine cS rfl ?_ ?_) <;> (intro hb hb'; first | (exfalso; omega) | skip)) | (exact GExpr.el _) | exact aZ | exact aI)
  have hnl := e.NP
  refine kQ (X := Nat) (fun i => [.d, .k, .d, .v (.c false [.raw (.int .i64 (((GExpr.pU (e.args.take i) : Nat) : Int)))]), .v (.c false [.raw (.int .i64 ((i : Nat)))]), .d, .d, .d, .d, .d, .d, .d, .d, .d, .d, .d, .d, .d, .d, .d, .d, .d]) (fun _ => []) (fun _ _ => [[.raw (.int .i64 e.kind), .raw (.int .i64 e.n), .raw (.string e.text), .sl false (e.args.map GExpr.toD)]]) (fun i => i ≤ e.args.length) (fun i => e.args.length - i) 0 (Nat.zero_le _) ?_ ?_
  · simp [gu, je, gX, gZ, AV.fits, AC.fits, FB, fF, GExpr.pU]
  · intro i hi
    simp only [FB, fF]
    by_cases hlt : i < e.args.length
    · have hT : decide ((i : Int) < (e.args.length : Int)) = true := decide_eq_true (by omega)
      have hw1 : IntKind.i64.wrap ((i : Int) + 1) = ((i + 1 : Nat) : Int) := fE (by omega)
      have hix := dR GExpr.toD e.args hlt
      have hmem : e.args[i] ∈ e.args := List.getElem_mem hlt
      have htk : e.args.take (i + 1) = e.args.take i ++ [e.args[i]] := List.take_succ_eq_append_getElem hlt
      have hI1 := hI _ hmem
      unfold iU at hI1
      have happ := En (e.args.take i) e.args[i]
      rw [← htk] at happ
      have hm := IB (GExpr.pU (e.args.take i)) (e.args[i]).nest
      rw [← happ] at hm
      repeat' (first | ((with_reducible refine aG ?_); intro K hK) | ((with_reducible refine hK _ ?_); clear hK K) | (with_reducible refine ak ?_ ?_) | ((with_reducible refine aU ?_); first | refine au (hc := hI1) (h := ?_) | refine au (hc := hm) (h := ?_)) | ((with_reducible refine aH ?_); refine ss (XR hT (XR hw1 hix)) ?_) | refine nv ?_ | (with_reducible (refine cS rfl ?_ ?_) <;> (intro hb hb'; first | (exfalso; omega) | skip)) | (exact GExpr.el _) | exact aZ | exact aI)
      refine iZ (i + 1) ?_ (by omega) (show e.args.length - (i + 1) < e.args.length - i by omega)
      simp [gu, je, gX, gZ, AV.fits, AC.fits, FB, fF]
    · have hT : decide ((i : Int) < (e.args.length : Int)) = false := decide_eq_false (by omega)
      have hall : e.args.take i = e.args := List.take_of_length_le (by omega)
      have hv := Va e
      have hws : IntKind.i64.wrap (((GExpr.pU e.args : Nat) : Int) + 1) = ((GExpr.pU e.args + 1 : Nat) : Int) := fE (by omega)
      rw [hall]
      repeat' (first | ((with_reducible refine aG ?_); intro K hK) | ((with_reducible refine hK _ ?_); clear hK K) | (with_reducible refine ak ?_ ?_) | ((with_reducible refine aH ?_); refine ss (XR hT hws) ?_) | refine nv ?_ | (with_reducible (refine cS rfl ?_ ?_) <;> (intro hb hb'; first | (exfalso; omega) | skip)) | (exact GExpr.el _) | exact aZ | exact aI)
      exact aS ⟨_, rfl, ⟨by simp [dA, hv], trivial⟩⟩
theorem DC : ∀ (n : Nat) (e : GExpr), e.toD.wt < n → e.toD.wt ≤ 1048576 → iU e := by
  intro n
  induction n with
  | zero => intro e h; omega
  | succ n ih => intro e h hw; exact F9 e hw (fun y hy => ih y (by have := qx hy; omega) (by have := qx hy; omega))
theorem F8 (e : GExpr) (hw : e.toD.wt ≤ 1048576) : iU e := DC _ e (Nat.lt_succ_self _) hw
def ug : IC := (.seq (.reg false [⟨(some 1), none, .box (.t 0)⟩, ⟨(some 2), none, .mov (.k (.bool false))⟩]) (.seq (.reg false [⟨(some 3), none, .load 4 true (.t 1)⟩, ⟨(some 4), none, .call 86 [(.t 3), (.k (.int .i64 40))]⟩, ⟨(some 5), none, .bin .geq (.t 4) (.k (.int .i64 0))⟩, ⟨(some 6), none, .mov (.t 5)⟩, ⟨(some 7), (some (6, true)), .load 4 true (.t 1)⟩, ⟨(some 8), (some (6, true)), .call 87 [(.t 7)]⟩, ⟨(some 9), (some (6, true)), .bin .leq (.t 8) (.k (.int .i64 8))⟩, ⟨(some 10), none, .pick (.t 6) (.t 9) (.k (.bool false))⟩, ⟨(some 11), none, .mov (.t 10)⟩, ⟨(some 12), (some (11, true)), .load 4 true (.t 1)⟩, ⟨(some 13), (some (11, true)), .call 88 [(.t 12)]⟩, ⟨(some 14), none, .pick (.t 11) (.t 13) (.k (.bool false))⟩, ⟨(some 2), none, .mov (.t 14)⟩]) .ret))
theorem xu : aF Try.prog (Try.f83.body.getD .skip) = some ug := by kernel_rfl
set_option maxRecDepth 8000 in
set_option maxHeartbeats 8000000 in
theorem AY (e : GExpr) (hw : e.toD.wt ≤ 1048576) : aK Try.prog 83 [e.toD] (.c false [.raw (.bool (Fv e))]) := by
  refine fZ (fn := Try.f83) (t := 2) (by kernel_rfl) (by kernel_rfl) (by kernel_rfl) xu ?_
  unfold ug
  change AWP _ _ _ (st0 15 _)
  refine sS trivial ?_
  have c1 := Vf e hw 40 (by decide) (by decide)
  have c2 := F8 e hw
  have c3 := KH e hw
  unfold iU at c2
  unfold ji at c3
  have h1 := Sz e
  have h2 : decide (((e.nest : Nat) : Int) ≤ 8) = decide (e.nest ≤ 8) := by by_cases h : e.nest ≤ 8 <;> simp [h] <;> omega
  have hv : Fv e = (decide (e.nodes ≤ 40) && decide (e.nest ≤ 8) && e.allN) := rfl
  rw [hv]
  cases q1 : decide (e.nodes ≤ 40) <;> cases q2 : decide (e.nest ≤ 8)
  all_goals (rw [q1] at h1; rw [q2] at h2)
  all_goals (repeat' (first | ((with_reducible refine aG ?_); intro K hK) | ((with_reducible refine hK _ ?_); clear hK K) | (with_reducible refine ak ?_ ?_) | ((with_reducible refine gi ?_); first | (refine aB ?_ ?_; rfl) | (refine aC ?_ ?_; (rfl; refine gF ?_))) | ((with_reducible refine aU ?_); first | refine au (hc := c1) (h := ?_) | refine au (hc := c2) (h := ?_) | refine au (hc := c3) (h := ?_)) | ((with_reducible refine aH ?_); refine ss (XR h1 h2) ?_) | refine nv ?_ | (exact GExpr.el _) | exact aZ | exact aI))
  all_goals exact aS ⟨_, rfl, ⟨by simp [dA], trivial⟩⟩
end Go.Proofs.Ytnongnchpplacaa

