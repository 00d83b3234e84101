/-
  New slices, parts of slices and strings, calls, append, len.
-/
import Derived.Test.YtdjcflnemnknaaaDoorIr7
import Derived.Deep.OwnRows
namespace Go.Proofs.YtdjcflnemnknaaaDoor
open Go.RowKit
set_option linter.unusedSimpArgs false
set_option linter.unusedVariables false
section
variable {P : Program} {B : Nat} {Xs : List Nat} {G : Org} {w0 : World} {fr : List AV} {os : List Own} {bs : List (List AC)} {E : Env} {a : Act} {w : World} {d : Option Tmp} {K : Act → World → Prop} {Q : Exit → Act → World → Prop}
  {ty : TypeId} {pos : String} {after : Array Edge} {guard : Option (Nat × Bool)}
theorem avs_ok {st : St} (h : Rel B Xs G w0 st E a w) : ∀ (xs : List Operand) (ds : List D), avsD (xs.map fun x => st.ev (opd x)) = some ds →
    D.ones ds ∧ ds.length = xs.length ∧ (∀ s, (∀ d ∈ ds, d.sz = s) → ∀ x ∈ xs, (a.eval x).cells.size = s) ∧
    ∃ fp, Rs w ds fp (xs.flatMap fun x => (a.eval x).cells.toList) ∧ ∀ b ∈ fp, b ∉ E.M ∧ ((xs.map fun x => st.ev (opd x)).all AV.nw = true → E.nw b)
  | [], ds, hd => by
    injection hd with hd
    subst hd
    exact ⟨trivial, rfl, fun _ _ x hx => by simp at hx, [], ⟨rfl, rfl⟩, fun b hb => by simp at hb⟩
  | x :: xs, ds, hd => by
    rw [List.map_cons, avsD] at hd
    split at hd
    · next d ds' h1 h2 =>
      injection hd with hd
      subst hd
      obtain ⟨o1, s1, f1, r1, m1⟩ := AV.toD_ok h1 (ev_ok h x)
      obtain ⟨o2, l2, s2, f2, r2, m2⟩ := avs_ok h xs ds' h2
      refine ⟨⟨o1, o2⟩, by simp [l2], fun s hs y hy => ?_, f1 ++ f2, ?_, fun b hb => ?_⟩
      · rcases List.mem_cons.1 hy with rfl | hy
        · rw [← s1]; exact hs d (by simp)
        · exact s2 s (fun z hz => hs z (by simp [hz])) y hy
      · rw [List.flatMap_cons]
        exact ⟨f1, f2, _, _, rfl, rfl, r1, r2⟩
      · simp only [List.map_cons, List.all_cons, Bool.and_eq_true]
        rcases List.mem_append.1 hb with h' | h'
        · exact ⟨(m1 b h').1, fun e => (m1 b h').2 e.1⟩
        · exact ⟨(m2 b h').1, fun e => (m2 b h').2 e.2⟩
    · cases hd
theorem run_bs {t e s n : Nat} {ps : Array (Nat × Operand)} (ht : elemOf' P t = some (e, s)) (he : ekOk P e s = true) (hn : n * s ≤ 2 ^ 24) (hp : ps.toList.map (·.1) = List.range n) (hs : ∀ x ∈ ps.toList.map (·.2), (a.eval x).cells.size = s) :
    (Instr.buildSlice t n (ps.map fun (i, x) => (i, a.eval x))).run P w = .ok (.slice (some ⟨w.heap.size, 0, none⟩) n n) (w.alloc (.cells ((ps.toList.map (·.2)).flatMap fun x => (a.eval x).cells.toList).toArray e)) := by
  obtain ⟨h1, inf, h2, h3⟩ := elemOf_spec ht
  obtain ⟨i, z, h4, h5, h6, h7, h8, h9⟩ := ekOk_spec he
  rw [h2] at h4
  injection h4 with h4
  subst h4
  have hlen : ps.toList.length = n := by have := congrArg List.length hp; simpa using this
  have hl : n * s = (ps.toList.map (·.2)).length * s := by rw [List.length_map, hlen]
  by_cases h0 : n = 0
  · subst h0
    have : ps.toList = [] := List.eq_nil_of_length_eq_zero hlen
    have hps : ps = #[] := by
      apply Array.toList_inj.1
      simpa using this
    subst hps
    have e0 : Array.map (fun x => (default : Value)) (Array.range 0) = #[] := by apply Array.eq_empty_of_size_eq_zero; simp
    simp [Instr.buildSlice, run_underlying h1, sizeOf, typeInfo, h2, Instr.fill, newRow, e0]
  · have hpos : ¬ n * s = 0 := by
      intro e0
      rcases Nat.mul_eq_zero.1 e0 with h | h <;> omega
    have hfill := Go.Great.fill_whole (s := s) h9 ((ps.toList.map (·.2)).map a.eval) ((Array.range (n * s)).map (z.cells[· % z.cells.size]!)) (fun v hv => by
      obtain ⟨x, hx, rfl⟩ := List.mem_map.1 hv
      exact hs x hx) (by simp [hlen])
    have hz : (((ps.toList.map (·.2)).map a.eval).zipIdx 0).map (fun x => (x.2, x.1)) = (ps.map fun (i, x) => (i, a.eval x)).toList := by
      rw [Array.toList_map]
      apply List.ext_getElem?
      intro j
      have hj : (ps.toList.map (·.1))[j]? = (List.range n)[j]? := by rw [hp]
      rw [List.getElem?_map, List.getElem?_zipIdx, List.getElem?_map, List.getElem?_map, List.getElem?_map]
      rw [List.getElem?_map] at hj
      cases hg : ps.toList[j]? with
      | none => simp
      | some p =>
        rw [hg] at hj
        have hjl : j < n := by rw [← hlen]; exact (List.getElem?_eq_some_iff.1 hg).1
        rw [List.getElem?_range hjl] at hj
        simp at hj
        simp [hj]
    have hrun := run_buildSlice (P := P) w t e n (ps.map fun (i, x) => (i, a.eval x)) (((ps.toList.map (·.2)).map a.eval).flatMap fun v => v.cells.toList).toArray inf z h1 h2 h5 (by rw [h6]; omega) (by rw [h6]; exact hpos) (by rw [← hz, h6]; exact hfill)
    rw [hrun, List.flatMap_map]
theorem flat_len {s : Nat} {xs : List Operand} (h : ∀ x ∈ xs, (a.eval x).cells.size = s) : (xs.flatMap fun x => (a.eval x).cells.toList).length = xs.length * s := by
  induction xs with
  | nil => simp
  | cons x xs ih =>
    rw [List.flatMap_cons, List.length_append, ih (fun y hy => h y (by simp [hy])), List.length_cons, Nat.add_mul]
    have := h x (by simp)
    simp [this]
    omega
theorem good_brow {t e s n : Nat} {ps : Array (Nat × Operand)} {ds : List D} (h : Rel B Xs G w0 ⟨fr, os, bs⟩ E a w) (ht : elemOf' P t = some (e, s)) (he : ekOk P e s = true) (hn : n * s ≤ 2 ^ 24) (hp : ps.toList.map (·.1) = List.range n)
    (hd : avsD ((ps.toList.map fun p => opd p.2).map (St.ev ⟨fr, os, bs⟩)) = some ds) (hs : ∀ d ∈ ds, d.sz = s) (hl : ds.length = n) :
    Good P B Xs G w0 fr a w ⟨d, .buildSlice t n ps, ty, pos, after, guard⟩ Q (.c false [.sl (((ps.toList.map fun p => opd p.2).map (St.ev ⟨fr, os, bs⟩)).all AV.nw) ds]) os bs := by
  have e1 : (ps.toList.map fun p => opd p.2).map (St.ev ⟨fr, os, bs⟩) = (ps.toList.map (·.2)).map fun x => St.ev ⟨fr, os, bs⟩ (opd x) := by simp
  rw [e1] at hd ⊢
  obtain ⟨o1, l1, s1, fp, r1, m1⟩ := avs_ok h _ ds hd
  have hrun := run_bs (P := P) (w := w) (a := a) ht he hn hp (s1 s hs)
  have hb : Below w.heap.size w (w.alloc (.cells ((ps.toList.map (·.2)).flatMap fun x => (a.eval x).cells.toList).toArray e)) := (Below.refl _ _).alloc (Nat.le_refl _) _
  intro K hK
  refine wp_run (v := .slice (some ⟨w.heap.size, 0, none⟩) n n) ?_ (hK E _ _ (h.below_put hb ⟨?_, trivial⟩))
  · simp only [execOp, Sem.run_bind, hrun, Result.andThen_ok]; rfl
  · have hs9 : 0 < s := by obtain ⟨_, _, _, _, _, _, _, h9⟩ := ekOk_spec he; exact h9
    have hnm : n ≤ maxLen := by
      have : n * 1 ≤ n * s := Nat.mul_le_mul_left n hs9
      unfold maxLen
      omega
    have hrow := Row.new w e ((ps.toList.map (·.2)).flatMap fun x => (a.eval x).cells.toList).toArray
    refine ⟨w.heap.size :: fp, Sl.of_row (by simpa using hrow) (r1.below hb) hl hnm, fun b hbm => ?_⟩
    rcases List.mem_cons.1 hbm with rfl | hbm
    · exact ⟨fun hm => Nat.lt_irrefl _ (M_lt h hm).2, fun _ => h.nw_of h.base⟩
    · exact m1 b hbm
theorem D.ones_mem : ∀ {l : List D}, D.ones l → ∀ d ∈ l, d.one
  | [], _, d, hd => by simp at hd
  | x :: l, h, d, hd => by
    rcases List.mem_cons.1 hd with rfl | hd
    · exact h.1
    · exact D.ones_mem h.2 d hd
theorem good_bown {t e s n : Nat} {ps : Array (Nat × Operand)} {ds : List D} (h : Rel B Xs G w0 ⟨fr, os, bs⟩ E a w) (ht : elemOf' P t = some (e, s)) (he : ekOk P e s = true) (hn : n * s ≤ 2 ^ 24) (hp : ps.toList.map (·.1) = List.range n)
    (hd : avsD ((ps.toList.map fun p => opd p.2).map (St.ev ⟨fr, os, bs⟩)) = some ds) (hs : ∀ d ∈ ds, d.sz = s) (hl : ds.length = n) :
    Good P B Xs G w0 fr a w ⟨d, .buildSlice t n ps, ty, pos, after, guard⟩ Q (.c false [.own os.length 0]) (os ++ [⟨ds, e, s, 0, ((ps.toList.map fun p => opd p.2).map (St.ev ⟨fr, os, bs⟩)).all AV.nw⟩]) bs := by
  have e1 : (ps.toList.map fun p => opd p.2).map (St.ev ⟨fr, os, bs⟩) = (ps.toList.map (·.2)).map fun x => St.ev ⟨fr, os, bs⟩ (opd x) := by simp
  rw [e1] at hd ⊢
  obtain ⟨o1, l1, s1, fp, r1, m1⟩ := avs_ok h _ ds hd
  have hrun := run_bs (P := P) (w := w) (a := a) ht he hn hp (s1 s hs)
  have hb : Below w.heap.size w (w.alloc (.cells ((ps.toList.map (·.2)).flatMap fun x => (a.eval x).cells.toList).toArray e)) := (Below.refl _ _).alloc (Nat.le_refl _) _
  have hs9 : 0 < s := by obtain ⟨_, _, _, _, _, _, _, h9⟩ := ekOk_spec he; exact h9
  have hnm : n ≤ maxLen := by
    have : n * 1 ≤ n * s := Nat.mul_le_mul_left n hs9
    unfold maxLen
    omega
  have hfl := flat_len (a := a) (s1 s hs)
  intro K hK
  refine wp_run (v := .slice (some ⟨w.heap.size, 0, none⟩) n n) ?_ (hK { E with om := E.om ++ [(.slice (some ⟨w.heap.size, 0, none⟩) n n, fp)] } _ _ (h.newOwn hb (o := ⟨ds, e, s, 0, _⟩) (cs := (ps.toList.map (·.2)).flatMap fun x => (a.eval x).cells.toList) ?_ (r1.below hb) (fun z hz => ⟨D.ones_mem o1 z hz, hs z hz⟩) (fun b hbm => ?_) rfl d))
  · simp only [execOp, Sem.run_bind, hrun, Result.andThen_ok]; rfl
  · have := OwnsAt.of (World.ownsRow_lit (base := w.heap.size) (e := e) (size := s) w ((ps.toList.map (·.2)).flatMap fun x => (a.eval x).cells.toList).toArray n (Nat.le_refl _) hnm (by simp only [List.size_toArray]; rw [hfl, ← l1, hl]))
    simpa [hl] using this
  · refine ⟨(m1 b hbm).1, fun e2 => ?_, fun e2 => (m1 b hbm).2 e2⟩
    simp only [Value.ownBlock, Option.some.injEq] at e2
    have := Rs.lt r1 b hbm
    omega

theorem Rs_rep {w : World} (z : Value) : ∀ k, Rs w (List.replicate k (.leaf z)) [] (List.replicate k z)
  | 0 => ⟨rfl, rfl⟩
  | k + 1 => by
    rw [List.replicate_succ, List.replicate_succ]
    exact (Rs_leaf).2 ⟨_, rfl, Rs_rep z k⟩
theorem simpleZ_cells {z : Value} (h : simpleZ z = true) : z.cells = #[z] ∧ (D.leaf z).one ∧ (D.leaf z).sz = 1 := by
  cases z <;> first | (simp [simpleZ] at h; done) | exact ⟨rfl, rfl, rfl⟩
theorem same_eval {a : Act} {l c : Operand} (h : sameT (opd l) (opd c) = true) : a.eval c = a.eval l := by
  cases l <;> cases c <;> simp [opd, sameT] at h <;> (try subst h) <;> first | rfl | (simp_all; done)
theorem good_mk {t e k : Nat} {l c : Operand} {z : Value} (h : Rel B Xs G w0 ⟨fr, os, bs⟩ E a w) (ht : elemOf' P t = some (e, 1)) (he : ekOk P e 1 = true) (hz : (P.info? e).bind (·.zero) = some z) (hs : simpleZ z = true) (hlc : sameT (opd l) (opd c) = true)
    (hl : rawI (St.ev ⟨fr, os, bs⟩ (opd l)) = some ((k : Nat) : Int)) (hk : k ≤ 4194304) :
    Good P B Xs G w0 fr a w ⟨d, .makeSlice t l c, ty, pos, after, guard⟩ Q (.c false [.own os.length 0]) (os ++ [⟨List.replicate k (.leaf z), e, 1, 0, true⟩]) bs := by
  obtain ⟨ik, hx⟩ := rawI_of hl
  have hev : a.eval l = .int ik k := eval_raw h hx
  have hec : a.eval c = .int ik k := (same_eval hlc).trans hev
  obtain ⟨g1, i, g2, g3⟩ := elemOf_spec ht
  obtain ⟨i', z', g4, g5, g6, g7, g8, g9⟩ := ekOk_spec he
  rw [g2] at g4
  injection g4 with g4
  subst g4
  rw [g2] at hz
  have hz' : i.zero = some z := hz
  obtain ⟨q1, q2, q3⟩ := simpleZ_cells hs
  have hby : i.bytes * k ≤ 281474976710656 := Nat.le_trans (Nat.mul_le_mul g7 hk) (by decide)
  have hrun := Go.run_make_row (P := P) t e i z g1 g2 hz' g3 q1 ik ik k hby (by omega) w
  have hb : Below w.heap.size w (w.alloc (.cells (madeCells #[z] k) e)) := (Below.refl _ _).alloc (Nat.le_refl _) _
  have hcs : (madeCells #[z] k).toList = List.replicate k z := by
    apply List.ext_getElem
    · simp [madeCells]
    · intro j h1 h2
      simp [madeCells, Nat.mod_one]
  intro K hK
  refine wp_run (v := .slice (some ⟨w.heap.size, 0, none⟩) k k) ?_ (hK { E with om := E.om ++ [(.slice (some ⟨w.heap.size, 0, none⟩) k k, [])] } _ _ (h.newOwn hb (o := ⟨List.replicate k (.leaf z), e, 1, 0, true⟩) (cs := List.replicate k z) ?_ (Rs_rep z k) (fun y hy => by obtain ⟨_, rfl⟩ := List.mem_replicate.1 hy; exact ⟨q2, q3⟩) (fun b hb => by simp at hb) rfl d))
  · simp only [execOp, Sem.run_bind, hev, hec, hrun, Result.andThen_ok]; rfl
  · have := OwnsAt.of (World.ownsRow_lit (base := w.heap.size) (e := e) (size := 1) w (madeCells #[z] k) k (Nat.le_refl _) (by unfold maxLen; omega) (by simp [madeCells]))
    rw [hcs] at this
    simpa using this
/-! ### Calls -/
theorem argD_ok {st : St} (h : Rel B Xs G w0 st E a w) {x : AC} {dd : D} {v : Value} (hd : argD st.owns x = some dd) (hx : x.ok E st.owns w v) : dd.sz = 1 ∧ ∃ fp, R w dd fp [v] := by
  cases x with
  | own k i =>
    simp only [argD] at hd
    obtain ⟨_, o, p, h1, h2, h3, h4⟩ := hx
    rw [h1] at hd
    simp only at hd
    split at hd
    · next hv =>
      injection hd with hd
      subst hd
      obtain rfl := h4 hv
      obtain ⟨cs, h5, h6, _⟩ := h.own k o p h1 h2
      exact ⟨rfl, _, Sl.of_at h5 h6⟩
    · cases hd
  | osub k i p q =>
    simp only [argD] at hd
    obtain ⟨_, o, pp, h1, h2, h3, h4⟩ := hx
    rw [h1] at hd
    simp only at hd
    split at hd
    · next hv =>
      injection hd with hd
      subst hd
      obtain ⟨A, n, c, q1, q2, q3, rfl⟩ := h4 hv
      obtain ⟨cs, h5, h6, h7, _⟩ := h.own k o pp h1 h2
      have hS := Sl.of_at h5 h6
      rw [q1] at hS
      have hn : n = o.l.length := by
        obtain ⟨A', c', e1, _, _⟩ := hS.form
        injection e1
      obtain ⟨f, h9, _⟩ := Sl.sub hS (s := o.s) (fun d hd => (h7 d hd).2) q2 (by omega)
      exact ⟨rfl, f, h9⟩
    · cases hd
  | cl f caps => simp [argD, AC.toD] at hd
  | any => simp [argD, AC.toD] at hd
  | raw u => obtain ⟨_, h1, fp, h2, _⟩ := toD_ok (x := .raw u) hd hx; exact ⟨h1, fp, h2⟩
  | sl n l => obtain ⟨_, h1, fp, h2, _⟩ := toD_ok (x := .sl n l) hd hx; exact ⟨h1, fp, h2⟩
theorem argsD_ok {st : St} (h : Rel B Xs G w0 st E a w) : ∀ {xs : List AC} {ds : List D} {vs : List Value}, argsD st.owns xs = some ds → Oks E st.owns w xs vs → ∃ fp, Rs w ds fp vs
  | [], ds, [], hd, _ => by
    injection hd with hd
    subst hd
    exact ⟨[], rfl, rfl⟩
  | x :: xs, ds, v :: vs, hd, hx => by
    rw [argsD] at hd
    split at hd
    · next d ds' h1 h2 =>
      injection hd with hd
      subst hd
      obtain ⟨_, f1, r1⟩ := argD_ok h h1 hx.1
      obtain ⟨f2, r2⟩ := argsD_ok h h2 hx.2
      exact ⟨f1 ++ f2, f1, f2, [v], vs, rfl, rfl, r1, r2⟩
    · cases hd
  | [], _, _ :: _, _, h => h.elim
  | _ :: _, _, [], _, h => h.elim
theorem arg_ok {st : St} (h : Rel B Xs G w0 st E a w) {x : AV} {dd : D} {v : Value} (hd : ArgOk st.owns x dd) (hx : x.ok E st.owns w v) : Rd w dd v := by
  cases x with
  | c g xs =>
    obtain ⟨h1, rfl⟩ := hd
    unfold Rd
    cases hg : dd.isAgg with
    | true =>
      rw [if_pos rfl]
      rw [hg] at hx
      obtain ⟨vs, h2, h3⟩ := hx
      obtain ⟨fp, h4⟩ := argsD_ok h h1 h3
      exact ⟨fp, vs, h2, R_flat.2 h4⟩
    | false =>
      rw [if_neg (by simp)]
      rw [hg] at hx
      obtain ⟨fp, h4⟩ := argsD_ok h h1 (show Oks E st.owns w xs [v] from hx)
      exact ⟨fp, R_flat.2 h4⟩
  | any => exact hd.elim
  | ptr _ => exact hd.elim
  | bptr _ _ => exact hd.elim
  | eptr _ _ _ _ => exact hd.elim
  | tup _ => exact hd.elim
theorem args_ok {st : St} (h : Rel B Xs G w0 st E a w) : ∀ {xs : List Operand} {ds : List D}, ArgsOk st.owns (xs.map fun x => st.ev (opd x)) ds → Rds w ds (xs.map a.eval)
  | [], [], _ => trivial
  | x :: xs, d :: ds, hd => ⟨arg_ok h hd.1 (ev_ok h x), args_ok h hd.2⟩
  | [], _ :: _, hd => hd.elim
  | _ :: _, [], hd => hd.elim
theorem argsD_okF {st : St} (h : Rel B Xs G w0 st E a w) : ∀ {xs : List AC} {ds : List D} {vs : List Value}, argsD [] xs = some ds → Oks E st.owns w xs vs → ∃ fp, Rs w ds fp vs ∧ ∀ b ∈ fp, b < w.heap.size ∧ b ∉ E.M
  | [], ds, [], hd, _ => by
    injection hd with hd
    subst hd
    exact ⟨[], ⟨rfl, rfl⟩, fun b hb => by simp at hb⟩
  | x :: xs, ds, v :: vs, hd, hx => by
    rw [argsD] at hd
    split at hd
    · next d ds' h1 h2 =>
      injection hd with hd
      subst hd
      have h1' : x.toD = some d := by cases x <;> simp_all [argD]
      obtain ⟨_, _, f1, r1, m1⟩ := toD_ok h1' hx.1
      obtain ⟨f2, r2, m2⟩ := argsD_okF h h2 hx.2
      refine ⟨f1 ++ f2, ⟨f1, f2, [v], vs, rfl, rfl, r1, r2⟩, fun b hb => ?_⟩
      rcases List.mem_append.1 hb with hb | hb
      · exact ⟨R.lt r1 b hb, (m1 b hb).1⟩
      · exact m2 b hb
    · cases hd
  | [], _, _ :: _, _, h => h.elim
  | _ :: _, _, [], _, h => h.elim
theorem RdF.mono {F G : List Nat} {d : D} {v : Value} (h : RdF w F d v) (hs : ∀ b ∈ F, b ∈ G) : RdF w G d v := by
  unfold RdF at *
  split at h
  · obtain ⟨fp, cs, h1, h2, h3⟩ := h
    rw [if_pos (by assumption)]
    exact ⟨fp, cs, h1, h2, fun b hb => hs b (h3 b hb)⟩
  · obtain ⟨fp, h2, h3⟩ := h
    rw [if_neg (by assumption)]
    exact ⟨fp, h2, fun b hb => hs b (h3 b hb)⟩
theorem RdsF.mono {F G : List Nat} (hs : ∀ b ∈ F, b ∈ G) : ∀ {ds : List D} {vs : List Value}, RdsF w F ds vs → RdsF w G ds vs
  | [], [], _ => trivial
  | d :: ds, v :: vs, h => ⟨h.1.mono hs, RdsF.mono hs h.2⟩
  | [], _ :: _, h => h.elim
  | _ :: _, [], h => h.elim
theorem arg_okF {st : St} (h : Rel B Xs G w0 st E a w) {x : AV} {dd : D} {v : Value} (hd : ArgOk [] x dd) (hx : x.ok E st.owns w v) : ∃ F, RdF w F dd v ∧ ∀ b ∈ F, b < w.heap.size ∧ b ∉ E.M := by
  cases x with
  | c g xs =>
    obtain ⟨h1, rfl⟩ := hd
    unfold RdF
    cases hg : dd.isAgg with
    | true =>
      rw [hg] at hx
      obtain ⟨vs, h2, h3⟩ := hx
      obtain ⟨fp, h4, h5⟩ := argsD_okF h h1 h3
      exact ⟨fp, by rw [if_pos rfl]; exact ⟨fp, vs, h2, R_flat.2 h4, fun b hb => hb⟩, h5⟩
    | false =>
      rw [hg] at hx
      obtain ⟨fp, h4, h5⟩ := argsD_okF h h1 (show Oks E st.owns w xs [v] from hx)
      exact ⟨fp, by rw [if_neg (by simp)]; exact ⟨fp, R_flat.2 h4, fun b hb => hb⟩, h5⟩
  | any => exact hd.elim
  | ptr _ => exact hd.elim
  | bptr _ _ => exact hd.elim
  | eptr _ _ _ _ => exact hd.elim
  | tup _ => exact hd.elim
theorem args_okF {st : St} (h : Rel B Xs G w0 st E a w) : ∀ {xs : List Operand} {ds : List D}, ArgsOk [] (xs.map fun x => st.ev (opd x)) ds → ∃ F, RdsF w F ds (xs.map a.eval) ∧ ∀ b ∈ F, b < w.heap.size ∧ b ∉ E.M
  | [], [], _ => ⟨[], trivial, fun b hb => by simp at hb⟩
  | x :: xs, d :: ds, hd => by
    obtain ⟨F1, h1, h2⟩ := arg_okF h hd.1 (ev_ok h x)
    obtain ⟨F2, h3, h4⟩ := args_okF h hd.2
    refine ⟨F1 ++ F2, ⟨h1.mono (fun b hb => List.mem_append_left _ hb), h3.mono (fun b hb => List.mem_append_right _ hb)⟩, fun b hb => ?_⟩
    rcases List.mem_append.1 hb with hb | hb
    · exact h2 b hb
    · exact h4 b hb
  | [], _ :: _, hd => hd.elim
  | _ :: _, [], hd => hd.elim
theorem wp_call {f : Nat} {args : Array Operand} {ats : Array TypeId} {fn : Func} (hf : P.funcs[f]? = some fn) (hn : (fn.name == "runtime.NumGoroutine" || fn.body.isNone) = false)
    (h : Calls P f (args.toList.map a.eval).toArray w fun e w' => ∃ v, e = .returned v ∧ K (a.put d v) w') : Oper.wp P ⟨d, .call { callee := .value (.func f), args := args, argTypes := ats }, ty, pos, after, guard⟩ a w K Q := by
  simp only [Bool.or_eq_false_iff] at hn
  have hn1 : ¬ fn.name = "runtime.NumGoroutine" := by simpa using hn.1
  have hn2 : ¬ fn.body = none := by intro e0; rw [e0] at hn; simp at hn
  have hrun : (execOp a.eval ⟨d, .call { callee := .value (.func f), args := args, argTypes := ats }, ty, pos, after, guard⟩).run P w = .ok (.enter f (args.toList.map a.eval).toArray) w := by
    have e1 : args.map a.eval = (args.toList.map a.eval).toArray := by apply Array.ext'; simp
    simp [execOp, resolve, Deferred.ofValue, invoke, callFunc, Act.eval, hf, hn1, hn2, e1]
  unfold Oper.wp
  rw [hrun, Oper.upon_enter]
  refine h.mono ?_
  rintro e w' ⟨v, rfl, hK⟩
  exact hK
theorem ok_of_new {H : Nat} {w' : World} (h : Rel B Xs G w0 ⟨fr, os, bs⟩ E a w) (hH : H = w.heap.size) : ∀ {x : AC} {v : Value}, x.ok (newEnv H) [] w' v → x.ok E os w' v := by
  subst hH
  intro x v hx
  cases x with
  | any => trivial
  | raw u => exact hx
  | sl n l =>
    obtain ⟨fp, h1, h2⟩ := hx
    refine ⟨fp, h1, fun b hb => ⟨fun hm => ?_, fun _ => ?_⟩⟩
    · have := newEnv_M.1 (h2 b hb).1
      have := (M_lt h hm).2
      omega
    · have := newEnv_M.1 (h2 b hb).1
      have := h.base
      exact h.nw_of (by omega)
  | own k i =>
    obtain ⟨_, o, p, h1, _⟩ := hx
    simp at h1
  | osub k i a b =>
    obtain ⟨_, o, p, h1, _⟩ := hx
    simp at h1
  | cl f caps =>
    obtain ⟨ps, h1, h2⟩ := hx
    cases caps with
    | nil =>
      cases ps with
      | nil => exact ⟨[], rfl, h2⟩
      | cons p ps => simp at h1
    | cons k caps => cases ps <;> simp [newEnv, oldEnv] at h1
theorem oks_of_new {w' : World} (h : Rel B Xs G w0 ⟨fr, os, bs⟩ E a w) : ∀ {xs : List AC} {vs : List Value}, Oks (newEnv w.heap.size) [] w' xs vs → Oks E os w' xs vs
  | [], [], _ => trivial
  | x :: xs, v :: vs, hx => ⟨ok_of_new h rfl hx.1, oks_of_new h hx.2⟩
  | [], _ :: _, hx => hx.elim
  | _ :: _, [], hx => hx.elim
theorem gok_of_new {w' : World} (h : Rel B Xs G w0 ⟨fr, os, bs⟩ E a w) {g : Bool} {xs : List AC} {v : Value} (hx : Gok (newEnv w.heap.size) [] w' g xs v) : Gok E os w' g xs v := by
  cases g with
  | true => obtain ⟨vs, h1, h2⟩ := hx; exact ⟨vs, h1, oks_of_new h h2⟩
  | false => exact oks_of_new h (show Oks _ _ _ xs [v] from hx)
theorem toks_of_new {w' : World} (h : Rel B Xs G w0 ⟨fr, os, bs⟩ E a w) : ∀ {xs : List (Bool × List AC)} {vs : List Value}, Toks (newEnv w.heap.size) [] w' xs vs → Toks E os w' xs vs
  | [], [], _ => trivial
  | x :: xs, v :: vs, hx => ⟨gok_of_new h hx.1, toks_of_new h hx.2⟩
  | [], _ :: _, hx => hx.elim
  | _ :: _, [], hx => hx.elim
theorem av_of_new {w' : World} (h : Rel B Xs G w0 ⟨fr, os, bs⟩ E a w) {r : AV} {v : Value} (hr : r.res) (hx : r.ok (newEnv w.heap.size) [] w' v) : r.ok E os w' v := by
  cases r with
  | any => trivial
  | c g xs => exact gok_of_new h hx
  | tup ys => obtain ⟨vs, h1, h2⟩ := hx; exact ⟨vs, h1, toks_of_new h h2⟩
  | ptr _ => exact hr.elim
  | bptr _ _ => exact hr.elim
  | eptr _ _ _ _ => exact hr.elim
theorem ok_of_old {H : Nat} {F : List Nat} {w' : World} (h : Rel B Xs G w0 ⟨fr, os, bs⟩ E a w) (hH : H = w.heap.size) (hF : ∀ b ∈ F, b ∉ E.M) : ∀ {x : AC} {v : Value}, x.old = true → x.ok (oldEnv H F) [] w' v → x.ok E os w' v := by
  subst hH
  intro x v ho hx
  cases x with
  | any => trivial
  | raw u => exact hx
  | sl n l =>
    obtain ⟨fp, h1, h2⟩ := hx
    refine ⟨fp, h1, fun b hb => ⟨fun hm => ?_, fun e => ?_⟩⟩
    · rcases oldEnv_M.1 (h2 b hb).1 with h3 | h3
      · have := (M_lt h hm).2
        omega
      · exact hF b h3 hm
    · subst e
      simp [AC.old] at ho
  | own k i =>
    obtain ⟨_, o, p, h1, _⟩ := hx
    simp at h1
  | osub k i a b =>
    obtain ⟨_, o, p, h1, _⟩ := hx
    simp at h1
  | cl f caps =>
    obtain ⟨ps, h1, h2⟩ := hx
    cases caps with
    | nil =>
      cases ps with
      | nil => exact ⟨[], rfl, h2⟩
      | cons p ps => simp at h1
    | cons k caps => cases ps <;> simp [newEnv, oldEnv] at h1
theorem oks_of_old {F : List Nat} {w' : World} (h : Rel B Xs G w0 ⟨fr, os, bs⟩ E a w) (hF : ∀ b ∈ F, b ∉ E.M) : ∀ {xs : List AC} {vs : List Value}, xs.all AC.old = true → Oks (oldEnv w.heap.size F) [] w' xs vs → Oks E os w' xs vs
  | [], [], _, _ => trivial
  | x :: xs, v :: vs, ho, hx => by
    simp only [List.all_cons, Bool.and_eq_true] at ho
    exact ⟨ok_of_old h rfl hF ho.1 hx.1, oks_of_old h hF ho.2 hx.2⟩
  | [], _ :: _, _, hx => hx.elim
  | _ :: _, [], _, hx => hx.elim
theorem gok_of_old {F : List Nat} {w' : World} (h : Rel B Xs G w0 ⟨fr, os, bs⟩ E a w) (hF : ∀ b ∈ F, b ∉ E.M) {g : Bool} {xs : List AC} {v : Value} (ho : xs.all AC.old = true) (hx : Gok (oldEnv w.heap.size F) [] w' g xs v) : Gok E os w' g xs v := by
  cases g with
  | true => obtain ⟨vs, h1, h2⟩ := hx; exact ⟨vs, h1, oks_of_old h hF ho h2⟩
  | false => exact oks_of_old h hF ho (show Oks _ _ _ xs [v] from hx)
theorem toks_of_old {F : List Nat} {w' : World} (h : Rel B Xs G w0 ⟨fr, os, bs⟩ E a w) (hF : ∀ b ∈ F, b ∉ E.M) : ∀ {xs : List (Bool × List AC)} {vs : List Value}, (xs.all fun y => y.2.all AC.old) = true → Toks (oldEnv w.heap.size F) [] w' xs vs → Toks E os w' xs vs
  | [], [], _, _ => trivial
  | x :: xs, v :: vs, ho, hx => by
    simp only [List.all_cons, Bool.and_eq_true] at ho
    exact ⟨gok_of_old h hF ho.1 hx.1, toks_of_old h hF ho.2 hx.2⟩
  | [], _ :: _, _, hx => hx.elim
  | _ :: _, [], _, hx => hx.elim
theorem av_of_old {F : List Nat} {w' : World} (h : Rel B Xs G w0 ⟨fr, os, bs⟩ E a w) (hF : ∀ b ∈ F, b ∉ E.M) {r : AV} {v : Value} (hr : r.old = true) (hx : r.ok (oldEnv w.heap.size F) [] w' v) : r.ok E os w' v := by
  cases r with
  | any => trivial
  | c g xs => exact gok_of_old h hF hr hx
  | tup ys => obtain ⟨vs, h1, h2⟩ := hx; exact ⟨vs, h1, toks_of_old h hF hr h2⟩
  | ptr _ => cases hr
  | bptr _ _ => cases hr
  | eptr _ _ _ _ => cases hr
theorem ok_of_out {w' : World} {os' : List Own} {om : List (Value × List Nat)} {E' : Env} (h : Rel B Xs G w0 ⟨fr, os, bs⟩ E a w) (hM : ∀ b, b ∈ E'.M ↔ b ∈ E.M ∨ b ∈ om.flatMap fun q => q.1.ownBlock.toList) (hn : E'.nw = E.nw) (ho : E'.om = E.om ++ om) :
    ∀ {x : AC} {v : Value}, x.out = true → x.ok ⟨w.heap.size, om, [], []⟩ os' w' v → (x.shift os.length).ok E' (os ++ os') w' v := by
  intro x v hx hv
  cases x with
  | any => trivial
  | raw u => exact hv
  | sl n l =>
    obtain rfl : n = true := hx
    obtain ⟨fp, h1, h2⟩ := hv
    refine ⟨fp, h1, fun b hb => ⟨fun hm => ?_, fun _ => ?_⟩⟩
    · have h3 : w.heap.size ≤ b := by have := (h2 b hb).2 rfl; simpa [Env.nw] using this
      rcases (hM b).1 hm with h' | h'
      · have := (M_lt h h').2
        omega
      · exact (h2 b hb).1 (by simpa [Env.M] using h')
    · have h3 : w.heap.size ≤ b := by have := (h2 b hb).2 rfl; simpa [Env.nw] using this
      rw [hn]
      exact h.nw_of (Nat.le_trans h.base h3)
  | own k i =>
    obtain ⟨hf, o, p, h1, h2, h3, h4⟩ := hv
    refine ⟨hf, o, p, ?_, ?_, h3, h4⟩
    · rw [List.getElem?_append_right (by omega), Nat.add_sub_cancel_left]; exact h1
    · have := h.olen
      simp only at this
      rw [ho, List.getElem?_append_right (by omega), this, Nat.add_sub_cancel_left]; exact h2
  | osub k i a b => cases hx
  | cl f caps =>
    obtain ⟨ps, h1, h2⟩ := hv
    cases caps with
    | nil =>
      cases ps with
      | nil => exact ⟨[], rfl, h2⟩
      | cons p ps => simp at h1
    | cons k caps => cases ps <;> simp [newEnv, oldEnv] at h1
theorem oks_of_out {w' : World} {os' : List Own} {om : List (Value × List Nat)} {E' : Env} (h : Rel B Xs G w0 ⟨fr, os, bs⟩ E a w) (hM : ∀ b, b ∈ E'.M ↔ b ∈ E.M ∨ b ∈ om.flatMap fun q => q.1.ownBlock.toList) (hn : E'.nw = E.nw) (ho : E'.om = E.om ++ om) :
    ∀ {xs : List AC} {vs : List Value}, xs.all AC.out = true → Oks ⟨w.heap.size, om, [], []⟩ os' w' xs vs → Oks E' (os ++ os') w' (xs.map (AC.shift os.length)) vs
  | [], [], _, _ => trivial
  | x :: xs, v :: vs, hx, hv => by
    simp only [List.all_cons, Bool.and_eq_true] at hx
    exact ⟨ok_of_out h hM hn ho hx.1 hv.1, oks_of_out h hM hn ho hx.2 hv.2⟩
  | [], _ :: _, _, hv => hv.elim
  | _ :: _, [], _, hv => hv.elim
theorem gok_of_out {w' : World} {os' : List Own} {om : List (Value × List Nat)} {E' : Env} (h : Rel B Xs G w0 ⟨fr, os, bs⟩ E a w) (hM : ∀ b, b ∈ E'.M ↔ b ∈ E.M ∨ b ∈ om.flatMap fun q => q.1.ownBlock.toList) (hn : E'.nw = E.nw) (ho : E'.om = E.om ++ om)
    {g : Bool} {xs : List AC} {v : Value} (hx : xs.all AC.out = true) (hv : Gok ⟨w.heap.size, om, [], []⟩ os' w' g xs v) : Gok E' (os ++ os') w' g (xs.map (AC.shift os.length)) v := by
  cases g with
  | true => obtain ⟨vs, h1, h2⟩ := hv; exact ⟨vs, h1, oks_of_out h hM hn ho hx h2⟩
  | false => exact oks_of_out h hM hn ho hx (show Oks _ _ _ xs [v] from hv)
theorem toks_of_out {w' : World} {os' : List Own} {om : List (Value × List Nat)} {E' : Env} (h : Rel B Xs G w0 ⟨fr, os, bs⟩ E a w) (hM : ∀ b, b ∈ E'.M ↔ b ∈ E.M ∨ b ∈ om.flatMap fun q => q.1.ownBlock.toList) (hn : E'.nw = E.nw) (ho : E'.om = E.om ++ om) :
    ∀ {ys : List (Bool × List AC)} {vs : List Value}, (ys.all fun y => y.2.all AC.out) = true → Toks ⟨w.heap.size, om, [], []⟩ os' w' ys vs → Toks E' (os ++ os') w' (ys.map fun y => (y.1, y.2.map (AC.shift os.length))) vs
  | [], [], _, _ => trivial
  | y :: ys, v :: vs, hx, hv => by
    simp only [List.all_cons, Bool.and_eq_true] at hx
    exact ⟨gok_of_out h hM hn ho hx.1 hv.1, toks_of_out h hM hn ho hx.2 hv.2⟩
  | [], _ :: _, _, hv => hv.elim
  | _ :: _, [], _, hv => hv.elim
theorem good_callX {f : Nat} {args : Array Operand} {ats : Array TypeId} {fn : Func} {ds : List D} {r : AV} {os' : List Own} (h : Rel B Xs G w0 ⟨fr, os, bs⟩ E a w) (hf : P.funcs[f]? = some fn) (hn : (fn.name == "runtime.NumGoroutine" || fn.body.isNone) = false)
    (ha : ArgsOk os (args.toList.map fun x => St.ev ⟨fr, os, bs⟩ (opd x)) ds) (hc : CallsX P f ds r os') (hr : r.out = true) :
    Good P B Xs G w0 fr a w ⟨d, .call { callee := .value (.func f), args := args, argTypes := ats }, ty, pos, after, guard⟩ Q (r.shift os.length) (os ++ os') bs := by
  intro K hK
  refine wp_call hf hn ((hc w _ (args_ok h ha) h.below.now).mono ?_)
  rintro e w' ⟨v, om, rfl, ho, hx, hb⟩
  refine ⟨_, rfl, hK _ _ w' (h.addOwns hb ho d (fun E' hM hnw hom => ?_))⟩
  cases r with
  | any => trivial
  | c g xs => exact gok_of_out h hM hnw hom hr hx
  | tup ys => obtain ⟨vs, h1, h2⟩ := hx; exact ⟨vs, h1, toks_of_out h hM hnw hom hr h2⟩
  | ptr _ => cases hr
  | bptr _ _ => cases hr
  | eptr _ _ _ _ => cases hr
theorem good_callA {f : Nat} {args : Array Operand} {ats : Array TypeId} {fn : Func} {ds : List D} {r : AV} (h : Rel B Xs G w0 ⟨fr, os, bs⟩ E a w) (hf : P.funcs[f]? = some fn) (hn : (fn.name == "runtime.NumGoroutine" || fn.body.isNone) = false)
    (ha : ArgsOk [] (args.toList.map fun x => St.ev ⟨fr, os, bs⟩ (opd x)) ds) (hc : CallsToA P f ds r) (hr : r.old = true) :
    Good P B Xs G w0 fr a w ⟨d, .call { callee := .value (.func f), args := args, argTypes := ats }, ty, pos, after, guard⟩ Q r os bs := by
  intro K hK
  obtain ⟨F, h1, h2⟩ := args_okF h ha
  refine wp_call hf hn ((hc w F _ (fun b hb => (h2 b hb).1) h1 h.below.now).mono ?_)
  rintro e w' ⟨v, rfl, hx, hb⟩
  exact ⟨v, rfl, hK E v w' (h.below_put hb (av_of_old h (fun b hb => (h2 b hb).2) hr hx))⟩
theorem good_call {f : Nat} {args : Array Operand} {ats : Array TypeId} {fn : Func} {ds : List D} {r : AV} (h : Rel B Xs G w0 ⟨fr, os, bs⟩ E a w) (hf : P.funcs[f]? = some fn) (hn : (fn.name == "runtime.NumGoroutine" || fn.body.isNone) = false)
    (ha : ArgsOk os (args.toList.map fun x => St.ev ⟨fr, os, bs⟩ (opd x)) ds) (hc : CallsTo P f ds r) (hr : r.res) :
    Good P B Xs G w0 fr a w ⟨d, .call { callee := .value (.func f), args := args, argTypes := ats }, ty, pos, after, guard⟩ Q r os bs := by
  intro K hK
  refine wp_call hf hn ((hc w _ (args_ok h ha) h.below.now).mono ?_)
  rintro e w' ⟨v, rfl, hx, hb⟩
  exact ⟨v, rfl, hK E v w' (h.below_put hb (av_of_new h hr hx))⟩
theorem good_callO {f : Nat} {args : Array Operand} {ats : Array TypeId} {fn : Func} {ds l : List D} {g : Bool} {e s : Nat} (h : Rel B Xs G w0 ⟨fr, os, bs⟩ E a w) (hf : P.funcs[f]? = some fn) (hn : (fn.name == "runtime.NumGoroutine" || fn.body.isNone) = false)
    (ha : ArgsOk os (args.toList.map fun x => St.ev ⟨fr, os, bs⟩ (opd x)) ds) (hc : CallsOwnG P f ds g l e s) (hl : El s l) :
    Good P B Xs G w0 fr a w ⟨d, .call { callee := .value (.func f), args := args, argTypes := ats }, ty, pos, after, guard⟩ Q (.c g [.own os.length 0]) (os ++ [⟨l, e, s, 0, true⟩]) bs := by
  intro K hK
  refine wp_call hf hn ((hc w _ (args_ok h ha) h.below.now).mono ?_)
  rintro e w' ⟨v, cs, f', rfl, h1, h2, h3, hb⟩
  refine ⟨_, rfl, hK _ _ w' (h.newOwnG hb (o := ⟨l, _, s, 0, true⟩) h1 h2 hl (fun b hbm => ⟨fun hm => ?_, (h3 b hbm).1, fun _ => ?_⟩) rfl d (fun E' os' hx => ?_))⟩
  · have := (M_lt h hm).2
    have := (h3 b hbm).2
    omega
  · have := h.base
    have := (h3 b hbm).2
    exact h.nw_of (by omega)
  · cases g with
    | false => exact ⟨hx, trivial⟩
    | true => exact ⟨[v], rfl, hx, trivial⟩
end
end Go.Proofs.YtdjcflnemnknaaaDoor
