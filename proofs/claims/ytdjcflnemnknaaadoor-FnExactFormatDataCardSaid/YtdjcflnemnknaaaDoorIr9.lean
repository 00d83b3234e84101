/-
  Parts of slices and strings, len, append.
-/
import Derived.Test.YtdjcflnemnknaaaDoorIr8
import Derived.Laws.BytesArg
namespace Go.Proofs.YtdjcflnemnknaaaDoor
open Go.RowKit
set_option linter.unusedSimpArgs false
set_option linter.unusedVariables false
section
variable {P : Program} {B : Nat} {Xs : List Nat} {G : Org} {w0 : World} {fr : List AV} {os : List Own} {bs : List (List AC)} {E : Env} {a : Act} {w : World} {d : Option Tmp} {K : Act → World → Prop} {Q : Exit → Act → World → Prop}
  {ty : TypeId} {pos : String} {after : Array Edge} {guard : Option (Nat × Bool)}
theorem subB_spec {lo hi : Option Int} {n x y : Nat} (h : subB lo hi n = some (x, y)) : lo.getD 0 = (x : Int) ∧ hi.getD n = (y : Int) ∧ x ≤ y ∧ y ≤ n := by
  unfold subB at h
  simp only at h
  split at h
  · next hc =>
    injection h with h
    injection h with h1 h2
    have := Int.toNat_of_nonneg hc.1
    have := Int.toNat_of_nonneg (Int.le_trans hc.1 hc.2.1)
    refine ⟨by omega, by omega, by omega, by omega⟩
  · cases h
theorem opt_raw {st : St} (h : Rel B Xs G w0 st E a w) {lo : Option Operand} {lo' : Option Int} (hl : (lo.map opd).map (fun y => rawI (st.ev y)) = lo'.map some) :
    (lo = none ∧ lo' = none) ∨ ∃ x k z, lo = some x ∧ lo' = some z ∧ a.eval x = .int k z := by
  cases lo with
  | none => cases lo' with
    | none => exact Or.inl ⟨rfl, rfl⟩
    | some z => simp at hl
  | some x => cases lo' with
    | none => simp at hl
    | some z =>
      simp only [Option.map_some, Option.some.injEq] at hl
      obtain ⟨k, hk⟩ := rawI_of hl
      exact Or.inr ⟨x, k, z, rfl, rfl, eval_raw h hk⟩
theorem run_lsl {st : St} {t e : Nat} {x : Operand} {lo hi : Option Operand} {i : TypeInfo} {A : Option Addr} {n c p q : Nat} {lo' hi' : Option Int} (h : Rel B Xs G w0 st E a w) (ht : P.underlying t = some (.slice e)) (hi0 : P.info? e = some i) (he : a.eval x = .slice A n c) (hlc : n ≤ c) (hcm : c ≤ maxLen)
    (hlo : (lo.map opd).map (fun y => rawI (st.ev y)) = lo'.map some) (hhi : (hi.map opd).map (fun y => rawI (st.ev y)) = hi'.map some)
    (hb : subB lo' hi' n = some (p, q)) : (execOp a.eval ⟨d, .slice t x lo hi none, ty, pos, after, guard⟩).run P w = .ok (.value (sliced A p q c i.size)) w := by
  obtain ⟨b1, b2, b3, b4⟩ := subB_spec hb
  have ht' : P.underlying t = some (.slice (P.elem t)) := by rw [ht]; simp [Program.elem, ht]
  have hel : P.elem t = e := by simp [Program.elem, ht]
  have hsz : (sizeOf (P.elem t)).run P w = .ok i.size w := by rw [hel]; simp [sizeOf, typeInfo, hi0]
  rcases opt_raw h hlo with ⟨rfl, rfl⟩ | ⟨y, k, z, rfl, rfl, hy⟩ <;> rcases opt_raw h hhi with ⟨rfl, rfl⟩ | ⟨y2, k2, z2, rfl, rfl, hy2⟩
  · simp only [Option.getD_none] at b1 b2
    have : p = 0 := by omega
    have : q = n := by omega
    subst p q
    simp [execOp, he, run_sliceAt_slice w t _ _ _ _ ht', run_slice_all w t A n c ht', hsz]
  · simp only [Option.getD_none, Option.getD_some] at b1 b2
    have : p = 0 := by omega
    subst p b2
    have := run_slice_h w t A n c ht' k2 (q : Int) (by omega) (by omega)
    simp [execOp, he, hy2, run_sliceAt_slice w t _ _ _ _ ht', this, hsz]
  · simp only [Option.getD_none, Option.getD_some] at b1 b2
    have : q = n := by omega
    subst q b1
    have := run_slice_l w t A n c ht' k (p : Int) (by omega) (by omega)
    simp [execOp, he, hy, run_sliceAt_slice w t _ _ _ _ ht', this, hsz]
  · simp only [Option.getD_some] at b1 b2
    subst b1 b2
    have := run_slice_lh w t A n c ht' k k2 (p : Int) (q : Int) (by omega) (by omega) (by omega)
    simp [execOp, he, hy, hy2, run_sliceAt_slice w t _ _ _ _ ht', this, hsz]
theorem good_lsl {t e : Nat} {x : Operand} {lo hi : Option Operand} {i : TypeInfo} {n : Bool} {l : List D} {p q : Nat} {lo' hi' : Option Int} (h : Rel B Xs G w0 ⟨fr, os, bs⟩ E a w) (ht : P.underlying t = some (.slice e)) (hi0 : P.info? e = some i)
    (hx : St.ev ⟨fr, os, bs⟩ (opd x) = .c false [.sl n l]) (hlo : (lo.map opd).map (fun y => rawI (St.ev ⟨fr, os, bs⟩ y)) = lo'.map some) (hhi : (hi.map opd).map (fun y => rawI (St.ev ⟨fr, os, bs⟩ y)) = hi'.map some)
    (hb : subB lo' hi' l.length = some (p, q)) (hl : El i.size l) : Good P B Xs G w0 fr a w ⟨d, .slice t x lo hi none, ty, pos, after, guard⟩ Q (.c false [.sl n ((l.take q).drop p)]) os bs := by
  have hv := ev_ok h x
  rw [hx] at hv
  obtain ⟨⟨fp, h1, h2⟩, _⟩ := hv
  obtain ⟨A, c, he, hlc, hcm⟩ := Sl.form h1
  rw [he] at h1
  obtain ⟨b1, b2, b3, b4⟩ := subB_spec hb
  obtain ⟨f, h3, h4⟩ := Sl.sub h1 (s := i.size) (fun d hd => (hl d hd).2) b3 b4
  exact good_pure h (run_lsl h ht hi0 he hlc hcm hlo hhi hb) ⟨⟨f, h3, fun b hb => h2 b (h4 b hb)⟩, trivial⟩
/-- A part of an own slice: its value. -/
theorem lslO_run {st : St} {t e : Nat} {x : Operand} {lo hi : Option Operand} {i : TypeInfo} {k v p q : Nat} {o : Own} {lo' hi' : Option Int} (h : Rel B Xs G w0 st E a w) (ht : P.underlying t = some (.slice e)) (hi0 : P.info? e = some i)
    (hx : st.ev (opd x) = .c false [.own k v]) (ho : st.owns[k]? = some o) (hv : o.ver = v) (hs : o.s = i.size) (hlo : (lo.map opd).map (fun y => rawI (st.ev y)) = lo'.map some) (hhi : (hi.map opd).map (fun y => rawI (st.ev y)) = hi'.map some)
    (hb : subB lo' hi' o.l.length = some (p, q)) : ∃ u, (execOp a.eval ⟨d, .slice t x lo hi none, ty, pos, after, guard⟩).run P w = .ok (.value u) w ∧ (AC.osub k v p q).ok E st.owns w u := by
  have hev := ev_ok h x
  rw [hx] at hev
  obtain ⟨⟨_, o', pp, h1, h2, h3, h4⟩, _⟩ := hev
  rw [ho] at h1
  injection h1 with h1
  subst h1
  have he := h4 hv
  obtain ⟨cs, h5, h6, h7, h8⟩ := h.own k o pp ho h2
  obtain ⟨b1, b2, b3, b4⟩ := subB_spec hb
  obtain ⟨A, c, hlc, hcm, hv'⟩ : ∃ A c, o.l.length ≤ c ∧ c ≤ maxLen ∧ pp.1 = .slice A o.l.length c := by
    rcases h5.2 with ⟨q1, q2⟩ | ⟨g, z, cap, cur, q1, _, _, q2, q3, _⟩
    · exact ⟨none, 0, by omega, Nat.zero_le _, by rw [q1, q2]⟩
    · exact ⟨_, cap, q2, q3, q1⟩
  exact ⟨_, run_lsl h ht hi0 (he.trans hv') hlc hcm hlo hhi hb, ⟨_, _, _, rfl⟩, o, pp, ho, h2, h3, fun _ => ⟨A, _, c, hv', b3, b4, by rw [hs]⟩⟩
theorem good_ssl {t : Nat} {x : Operand} {lo hi : Option Operand} {s : ByteArray} {p q : Nat} {lo' hi' : Option Int} (h : Rel B Xs G w0 ⟨fr, os, bs⟩ E a w) (ht : P.underlying t = some .string)
    (hx : St.ev ⟨fr, os, bs⟩ (opd x) = .c false [.raw (.string s)]) (hlo : (lo.map opd).map (fun y => rawI (St.ev ⟨fr, os, bs⟩ y)) = lo'.map some) (hhi : (hi.map opd).map (fun y => rawI (St.ev ⟨fr, os, bs⟩ y)) = hi'.map some)
    (hb : subB lo' hi' s.size = some (p, q)) : Good P B Xs G w0 fr a w ⟨d, .slice t x lo hi none, ty, pos, after, guard⟩ Q (.c false [.raw (.string (s.extract p q))]) os bs := by
  have he := eval_raw h hx
  obtain ⟨b1, b2, b3, b4⟩ := subB_spec hb
  refine good_pure h (v := .string (s.extract p q)) ?_ ⟨rfl, trivial⟩
  rcases opt_raw h hlo with ⟨rfl, rfl⟩ | ⟨y, k, z, rfl, rfl, hy⟩ <;> rcases opt_raw h hhi with ⟨rfl, rfl⟩ | ⟨y2, k2, z2, rfl, rfl, hy2⟩
  · simp only [Option.getD_none] at b1 b2
    have : p = 0 := by omega
    have : q = s.size := by omega
    subst p q
    simp [execOp, he, Instr.sliceAt, Instr.slice, run_underlying ht, Instr.sliceBounds]
  · simp only [Option.getD_none, Option.getD_some] at b1 b2
    have : p = 0 := by omega
    subst p b2
    simp [execOp, he, hy2, Instr.sliceAt, Instr.slice, run_underlying ht, Instr.sliceBounds, Instr.sliceBound, asIntOf, b4]
  · simp only [Option.getD_none, Option.getD_some] at b1 b2
    have : q = s.size := by omega
    subst q b1
    simp [execOp, he, hy, Instr.sliceAt, Instr.slice, run_underlying ht, Instr.sliceBounds, Instr.sliceBound, asIntOf, b3]
  · simp only [Option.getD_some] at b1 b2
    subst b1 b2
    simp [execOp, he, hy, hy2, Instr.sliceAt, Instr.slice, run_underlying ht, Instr.sliceBounds, Instr.sliceBound, asIntOf, b3, b4]
theorem wp_len {t : Nat} {x : Operand} {ats : Array TypeId} {n : Int} (h : Rel B Xs G w0 ⟨fr, os, bs⟩ E a w) (hats : ats = #[t]) (hrun : (Builtin.len_ #[t] ty #[a.eval x]).run P w = .ok (.int .i64 n) w) :
    Good P B Xs G w0 fr a w ⟨d, .call { callee := .builtin .len, args := #[x], argTypes := ats }, ty, pos, after, guard⟩ Q (.c false [.raw (.int .i64 n)]) os bs := by
  subst hats
  refine good_pure h (v := .int .i64 n) ?_ ⟨rfl, trivial⟩
  simp [execOp, resolve, invoke, builtin, hrun]
theorem good_lenS {t e : Nat} {x : Operand} {m : Nat} (h : Rel B Xs G w0 ⟨fr, os, bs⟩ E a w) (ht : P.underlying t = some (.slice e)) (hx : ∃ A c, a.eval x = .slice A m c) :
    Good P B Xs G w0 fr a w ⟨d, .call { callee := .builtin .len, args := #[x], argTypes := #[t] }, ty, pos, after, guard⟩ Q (.c false [.raw (.int .i64 m)]) os bs := by
  obtain ⟨A, c, he⟩ := hx
  exact wp_len h rfl (by rw [he]; simp [Builtin.len_, run_underlying ht, goInt])
theorem good_lenT {t : Nat} {x : Operand} {s : ByteArray} (h : Rel B Xs G w0 ⟨fr, os, bs⟩ E a w) (ht : P.underlying t = some .string) (hx : a.eval x = .string s) :
    Good P B Xs G w0 fr a w ⟨d, .call { callee := .builtin .len, args := #[x], argTypes := #[t] }, ty, pos, after, guard⟩ Q (.c false [.raw (.int .i64 s.size)]) os bs :=
  wp_len h rfl (by rw [hx]; simp [Builtin.len_, run_underlying ht, goInt])

/-! ### append -/
theorem src_at {w : World} {base e s : Nat} {v : Value} {l : List D} {f : List Nat} {cs : List Value} (h : OwnsAt w base e s v l.length cs) (hr : Rs w l f cs) : Src w l f v := by
  rcases h.2 with ⟨hv', h9⟩ | ⟨g, z, cap, cur, hv', hg, hh, hn, hm, hsz, htk⟩
  · have : l = [] := List.eq_nil_of_length_eq_zero h9
    subst this
    exact ⟨none, 0, [], hv', by rw [hr.1]; exact ⟨rfl, rfl⟩, Or.inl ⟨rfl, rfl⟩⟩
  · obtain ⟨hat, hlt⟩ := h.at_ (g := g) (z := z) (by rw [hv']; rfl)
    exact ⟨some ⟨g, z, none⟩, cap, cs, hv', hr, Or.inr ⟨g, z, rfl, hlt, hat⟩⟩
theorem Rs.sub {w : World} {s : Nat} {l : List D} {f : List Nat} {cs : List Value} (h : Rs w l f cs) (hs : ∀ d ∈ l, d.sz = s) {a b : Nat} (hab : a ≤ b) (hb : b ≤ l.length) :
    ∃ f', Rs w ((l.take b).drop a) f' ((cs.take (b * s)).drop (a * s)) ∧ ∀ x ∈ f', x ∈ f := by
  rw [← List.take_append_drop b l] at h
  obtain ⟨f1, f2, c1, c2, rfl, rfl, h1, h2⟩ := Rs.split h
  have l1 : c1.length = b * s := by
    rw [h1.len, szs_const (s := s) _ (fun x hx => hs x (List.mem_of_mem_take hx)), List.length_take, Nat.min_eq_left hb]
  rw [List.take_left' l1]
  rw [← List.take_append_drop a (l.take b)] at h1
  obtain ⟨g1, g2, e1, e2, rfl, rfl, h3, h4⟩ := Rs.split h1
  have l2 : e1.length = a * s := by
    rw [h3.len, szs_const (s := s) _ (fun x hx => hs x (List.mem_of_mem_take (List.mem_of_mem_take hx))), List.length_take, List.length_take, Nat.min_eq_left (by omega)]
  rw [List.drop_left' l2]
  exact ⟨g2, h4, fun x hx => by simp [hx]⟩
theorem run_append_src {P : Program} {w : World} {t e s : Nat} (ty : TypeId) (ht : P.underlying t = some (.slice e)) (he : ekOk P e s = true) (base : Nat) (v : Value) (n : Nat) (cs0 : List Value) (hown : OwnsAt w base e s v n cs0) (l : List D) (f : List Nat) (vx : Value) (hsrc : Src w l f vx)
    (hel : El s l) (hn : n + l.length ≤ capN s) (hbase : base ≤ w.heap.size) :
    ∃ v' w' cs, (Builtin.append_ #[t, t] ty #[v, vx]).run P w = .ok v' w' ∧ Rs w l f cs ∧ OwnsAt w' base e s v' (n + l.length) (cs0 ++ cs) ∧ w.grownBy w' v.ownBlock ∧ (v'.ownBlock = v.ownBlock ∨ v'.ownBlock = some w.heap.size) := by
  obtain ⟨A, c, cs, rfl, hr, hcs⟩ := hsrc
  obtain ⟨i, z, hi, hz, hsz, hby, hzs, h0⟩ := ekOk_spec he
  have hlen : cs.length = l.length * s := by rw [hr.len, szs_const _ (fun d hd => (hel d hd).2)]
  have h63 : n + l.length ≤ maxLen := by have := capN_le s; unfold maxLen; omega
  have hbytes : (n + l.length) * i.bytes ≤ 140737488355328 := Nat.le_trans (Nat.mul_le_mul hn hby) (capN_by s)
  rcases hcs with ⟨rfl, rfl⟩ | ⟨b, o, rfl, hb, ha⟩
  · cases A with
    | none => exact ⟨v, w, [], run_append_of_nilA w base t ty e i s ht hi v _ _ hown c, hr, by simpa using hown, World.grownBy.refl w _, .inl rfl⟩
    | some ad =>
      obtain ⟨v', w', hrun, h2, h3, h5⟩ := run_append_at (P := P) w base t ty e i z s i.bytes ht hi hz hsz rfl hzs h0 v _ _ hown ad 0 c [] (by simp) (fun j u hj => by simp at hj) (by simp) (by simpa using h63) (by simpa using hbytes) hbase
      exact ⟨v', w', [], hrun, hr, by simpa using h2, h3, h5⟩
  · obtain ⟨v', w', hrun, h2, h3, h5⟩ := run_append_at (P := P) w base t ty e i z s i.bytes ht hi hz hsz rfl hzs h0 v _ _ hown ⟨b, o, none⟩ l.length c cs hlen (fun j u hj => by rw [addr_add]; exact ha j u hj) (hr.one_ (D.ones_of fun d hd => (hel d hd).1)) h63 hbytes hbase
    exact ⟨v', w', cs, hrun, hr, h2, h3, h5⟩
/-- A part of an own slice: what it is. -/
theorem osub_ok {st : St} (h : Rel B Xs G w0 st E a w) {k i p q : Nat} {o : Own} {v : Value} (hx : (AC.osub k i p q).ok E st.owns w v) (ho : st.owns[k]? = some o) (hv : o.ver = i) :
    p ≤ q ∧ q ≤ o.l.length ∧ ∃ pp cs f, E.om[k]? = some pp ∧ OwnsAt w B o.e o.s v ((o.l.take q).drop p).length cs ∧ Rs w ((o.l.take q).drop p) f cs ∧ (∀ b ∈ f, b ∈ pp.2) ∧ v.ownBlock = pp.1.ownBlock ∧ (∃ A n c, pp.1 = .slice A n c ∧ v = sliced A p q c o.s) := by
  obtain ⟨_, o', pp, h1, h2, h3, h4⟩ := hx
  rw [ho] at h1
  injection h1 with h1
  subst h1
  obtain ⟨A, n, c, q1, q2, q3, rfl⟩ := h4 hv
  obtain ⟨cs, h5, h6, h7, h8⟩ := h.own k o pp ho h2
  rw [q1] at h5
  have hn : n = o.l.length := by
    obtain ⟨A', c', e1⟩ := ownsAt_form h5
    injection e1
  subst hn
  obtain ⟨f, r1, r2⟩ := h6.sub (s := o.s) (fun d hd => (h7 d hd).2) q2 q3
  refine ⟨q2, q3, pp, _, f, h2, ?_, r1, r2, ?_, A, _, c, q1, rfl⟩
  · rw [List.length_drop, List.length_take, Nat.min_eq_left q3]
    exact h5.sub q2 q3
  · rw [sliced_block, q1]
    cases A <;> rfl
/-- The source of an append. -/
theorem src_ok {st : St} (h : Rel B Xs G w0 st E a w) {x : AV} {l : List D} {n : Bool} {v : Value} (hs : srcOf st.owns x = some (l, n)) (hx : x.ok E st.owns w v) :
    ∃ f, Src w l f v ∧ ∀ b ∈ f, b < w.heap.size ∧ b ∉ E.M ∧ (n = true → E.nw b) := by
  unfold srcOf at hs
  split at hs
  · next n' l' =>
    injection hs with hs
    injection hs with e1 e2
    subst e1 e2
    obtain ⟨⟨fp, h1, h2⟩, _⟩ := hx
    obtain ⟨f, h3, h4⟩ := Src.of_sl h1
    exact ⟨f, h3, fun b hb => ⟨R.lt h1 b (h4 b hb), (h2 b (h4 b hb)).1, fun e => (h2 b (h4 b hb)).2 e⟩⟩
  · next k i =>
    obtain ⟨⟨_, o, p, h1, h2, h3, h4⟩, _⟩ := hx
    rw [h1] at hs
    simp only at hs
    split at hs
    · next hv =>
      injection hs with hs
      injection hs with e1 e2
      subst e1 e2
      obtain rfl := h4 hv
      obtain ⟨cs, h5, h6, h7, h8⟩ := h.own k o p h1 h2
      exact ⟨p.2, src_at h5 h6, fun b hb => ⟨Rs.lt h6 b hb, h8 b hb⟩⟩
    · cases hs
  · next k i p q =>
    have hx1 := hx.1
    obtain ⟨⟨_, o, pp, h1, h2, h3, h4⟩, _⟩ := hx
    rw [h1] at hs
    simp only at hs
    split at hs
    · next hv =>
      injection hs with hs
      injection hs with e1 e2
      subst e1 e2
      obtain ⟨_, _, pp', cs, f, g1, g2, g3, g4, _⟩ := osub_ok h hx1 h1 hv
      obtain ⟨cs', h5, h6, h7, h8⟩ := h.own k o pp' h1 g1
      exact ⟨f, src_at g2 g3, fun b hb => ⟨Rs.lt h6 b (g4 b hb), h8 b (g4 b hb)⟩⟩
    · cases hs
  · injection hs with hs
    injection hs with e1 e2
    subst e1 e2
    obtain rfl := hx.1
    exact ⟨[], ⟨none, 0, [], rfl, ⟨rfl, rfl⟩, Or.inl ⟨rfl, rfl⟩⟩, fun b hb => by simp at hb⟩
  · cases hs
theorem Rs.set {s : Nat} {d : D} {fd : List Nat} {cd : List Value} (hd : R w d fd cd) {j : Nat} : ∀ {l : List D} {f : List Nat} {cs : List Value}, Rs w l f cs → (∀ x ∈ l, x.sz = s) → j < l.length →
    ∃ f', Rs w (l.set j d) f' (cs.take (j * s) ++ cd ++ cs.drop (j * s + s)) ∧ ∀ b ∈ f', b ∈ f ∨ b ∈ fd := by
  intro l f cs h hs hj
  have e : l = l.take j ++ ([l[j]] ++ l.drop (j + 1)) := by rw [List.singleton_append, ← List.drop_eq_getElem_cons, List.take_append_drop]
  have e2 : l.set j d = l.take j ++ ([d] ++ l.drop (j + 1)) := by rw [List.set_eq_take_append_cons_drop, if_pos hj]; rfl
  rw [e] at h
  obtain ⟨f1, f2, c1, c2, rfl, rfl, h1, h2⟩ := Rs.split h
  obtain ⟨g1, g2, e3, e4, rfl, rfl, h3, h4⟩ := Rs.split h2
  have l1 : c1.length = j * s := by
    rw [h1.len, szs_const (s := s) _ (fun x hx => hs x (List.mem_of_mem_take hx)), List.length_take, Nat.min_eq_left (by omega)]
  have l2 : e3.length = s := by rw [h3.len, D.szs, D.szs, hs _ (List.getElem_mem hj)]; omega
  refine ⟨f1 ++ (fd ++ g2), ?_, fun b hb => ?_⟩
  · rw [e2, List.take_left' l1, show (c1 ++ (e3 ++ e4)).drop (j * s + s) = e4 from by rw [← List.drop_drop, List.drop_left' l1, List.drop_left' l2], List.append_assoc]
    exact Rs.append (Rs.append h4 (Rs.one hd)) h1
  · simp only [List.mem_append] at hb ⊢
    rcases hb with hb | hb | hb
    · exact Or.inl (Or.inl hb)
    · exact Or.inr hb
    · exact Or.inl (Or.inr (Or.inr hb))
theorem good_storeE {t : TypeId} {x y : Operand} {i : TypeInfo} {k v j : Nat} {o : Own} {dd : D} (h : Rel B Xs G w0 ⟨fr, os, bs⟩ E a w) (hi : P.info? t = some i)
    (hx : St.ev ⟨fr, os, bs⟩ (opd x) = .eptr k v j 0) (ho : os[k]? = some o) (hv : o.ver = v) (hs : o.s = i.size) (hj : j < o.l.length) (hy : (St.ev ⟨fr, os, bs⟩ (opd y)).toD = some dd) (hd : dd.sz = i.size)
    (hK : ∀ E' w', Rel B Xs G w0 (St.put ⟨fr, os.set k ⟨o.l.set j dd, o.e, o.s, o.ver, o.nw && (St.ev ⟨fr, os, bs⟩ (opd y)).nw⟩, bs⟩ d .any) E' (a.put d undef) w' → K (a.put d undef) w') :
    Oper.wp P ⟨d, .store t x y, ty, pos, after, guard⟩ a w K Q := by
  have hex := ev_ok h x
  rw [hx] at hex
  obtain ⟨o', p, h1, h2, h3, h4⟩ := hex
  simp only at h1
  rw [ho] at h1
  injection h1 with h1
  subst h1
  obtain ⟨b, z0, he, hb⟩ := h4 hv
  obtain ⟨one1, sz1, fd, rd, md⟩ := AV.toD_ok hy (ev_ok h y)
  obtain ⟨cs, h5, h6, h7, h8⟩ := h.own k o p ho h2
  have h5' := h5
  obtain ⟨hl, h9⟩ := h5
  rcases h9 with ⟨hv', h9⟩ | ⟨g, zz, cap, cur, hv', hg, hh, hn', hm, hsz, htk⟩
  · omega
  rw [hv'] at hb
  simp only [baseOf, Option.some.injEq, Prod.mk.injEq] at hb
  obtain ⟨rfl, rfl⟩ := hb
  have hcs : cs.length = o.l.length * o.s := hl
  have hys : (a.eval y).cells.size = i.size := by rw [← sz1, hd]
  have hjs : j * o.s + o.s ≤ o.l.length * o.s := by
    have : (j + 1) * o.s ≤ o.l.length * o.s := Nat.mul_le_mul_right _ hj
    rw [Nat.add_mul] at this
    omega
  have hcap0 : o.l.length * o.s ≤ cap * o.s := Nat.mul_le_mul_right _ hn'
  have hcap : zz + o.l.length * o.s ≤ cur.size := by omega
  have hrun := run_storeCells_at (P := P) g (zz + j * o.s) o.e (a.eval y).cells.toList 0 cur w hh (by simp; rw [hys, ← hs]; omega) ((Rs.one rd).one_ (D.ones_of fun z hz => by simp at hz; subst hz; exact one1))
  have hrun2 : (execOp a.eval ⟨d, .store t x y, ty, pos, after, guard⟩).run P w = .ok .skip (w.setRow g (cur.toList.take (zz + j * o.s) ++ (a.eval y).cells.toList ++ cur.toList.drop (zz + j * o.s + i.size)).toArray) := by
    simp only [Nat.add_zero] at hrun he
    simp [execOp, Instr.storeAt, he, Instr.sureAddr, storeVar, sizeOf, typeInfo, hi, hys] at hrun ⊢
    rw [hrun]
    simp
  unfold Oper.wp
  rw [hrun2]
  obtain ⟨f', r2, m2⟩ := h6.set rd (s := o.s) (fun z hz => (h7 z hz).2) hj
  have hw' : (w.setRow g (cur.toList.take (zz + j * o.s) ++ (a.eval y).cells.toList ++ cur.toList.drop (zz + j * o.s + i.size)).toArray).heap.size = w.heap.size := by simp
  refine hK _ _ (h.setOwn (l := o.l.set j dd) (f := f') (cs := cs.take (j * o.s) ++ (a.eval y).cells.toList ++ cs.drop (j * o.s + o.s)) ho h2 (b := g) (by rw [hv']; rfl) hw' ⟨rfl, rfl, rfl⟩ (fun b hb => setRow_other _ _ _ _ hb) ⟨?_, Or.inr ⟨g, zz, cap, _, by rw [List.length_set]; exact hv', hg, setRow_heap _ _ _ _ _ _ hh, by rw [List.length_set]; exact hn', hm, ?_, ?_⟩⟩ ?_ ?_ ?_ d)
  · rw [List.length_append, List.length_append, List.length_take, List.length_drop, List.length_set, hcs, Array.length_toList, hys, ← hs]
    omega
  · rw [List.size_toArray, List.length_append, List.length_append, List.length_take, List.length_drop, Array.length_toList, Array.length_toList, hys, ← hs]
    omega
  · rw [List.length_set]
    subst htk
    simp only [List.toList_toArray]
    have e2 : (a.eval y).cells.toList.length = o.s := by simp [hys, hs]
    have hzl : (cur.toList.take zz).length = zz := by rw [List.length_take, Array.length_toList]; omega
    have e3 : cur.toList.drop (zz + j * o.s + i.size) = (cur.toList.drop zz).drop (j * o.s + i.size) := by rw [List.drop_drop, Nat.add_assoc]
    rw [List.take_add, e3, List.append_assoc, List.append_assoc, List.drop_left' hzl]
    have e1 : (cur.toList.drop zz).length = cur.size - zz := by simp
    generalize cur.toList.drop zz = rest at e1
    rw [← List.append_assoc, ← hs, List.take_append, List.take_append, List.take_of_length_le (l := List.take (j * o.s) rest) (by rw [List.length_take]; omega), List.take_of_length_le (l := (a.eval y).cells.toList) (by rw [List.length_take, e2]; omega), List.take_take, Nat.min_eq_left (by omega)]
    congr 1
    rw [List.length_append, List.length_take, e2, e1, List.drop_take]
    congr 1
    omega
  · refine r2.same (fun b hb => setRow_other _ _ _ _ (fun e => ?_)) (Nat.le_of_eq hw'.symm)
    have hgM : g ∈ E.M := mem_M.2 (Or.inr ⟨k, p, h2, by rw [hv']; rfl⟩)
    rcases m2 b hb with hb | hb
    · exact (h8 b hb).1 (e ▸ hgM)
    · exact (md b hb).1 (e ▸ hgM)
  · intro z hz
    rcases List.mem_or_eq_of_mem_set hz with hz | rfl
    · exact h7 z hz
    · exact ⟨one1, by rw [hd, hs]⟩
  · intro b hb
    rcases m2 b hb with hb | hb
    · exact ⟨(h8 b hb).1, fun e => (h8 b hb).2 (by simp at e; exact e.1)⟩
    · exact ⟨(md b hb).1, fun e => (md b hb).2 (by simp at e; exact e.2)⟩
theorem wp_app {t : Nat} {x y : Operand} {v' : Value} {w' : World} (hrun : (Builtin.append_ #[t, t] ty #[a.eval x, a.eval y]).run P w = .ok v' w') (hK : K (a.put d v') w') :
    Oper.wp P ⟨d, .call { callee := .builtin .append, args := #[x, y], argTypes := #[t, t] }, ty, pos, after, guard⟩ a w K Q := by
  refine wp_run (v := v') (w' := w') ?_ hK
  simp [execOp, resolve, invoke, builtin, hrun]
theorem good_appO {t e s : Nat} {x y : Operand} {k i : Nat} {o : Own} {l : List D} {n : Bool} (h : Rel B Xs G w0 ⟨fr, os, bs⟩ E a w) (ht : P.underlying t = some (.slice e)) (he : ekOk P e s = true) (hx : St.ev ⟨fr, os, bs⟩ (opd x) = .c false [.own k i])
    (ho : os[k]? = some o) (hv : o.ver = i) (hoe : o.e = e) (hos : o.s = s) (hsrc : srcOf os (St.ev ⟨fr, os, bs⟩ (opd y)) = some (l, n)) (hl : El s l) (hn : o.l.length + l.length ≤ capN s) :
    Good P B Xs G w0 fr a w ⟨d, .call { callee := .builtin .append, args := #[x, y], argTypes := #[t, t] }, ty, pos, after, guard⟩ Q (.c false [.own k (i + 1)]) (os.set k ⟨o.l ++ l, e, s, i + 1, o.nw && n⟩) bs := by
  subst hv hoe hos
  intro K hK
  have hev := ev_ok h x
  rw [hx] at hev
  obtain ⟨⟨_, o', p, h1, h2, _, h4⟩, _⟩ := hev
  simp only at h1
  rw [ho] at h1
  injection h1 with h1
  subst h1
  have hxv := h4 rfl
  obtain ⟨cs0, h5, h6, h7, h8⟩ := h.own k o p ho h2
  obtain ⟨f, hS, hf⟩ := src_ok h hsrc (ev_ok h y)
  obtain ⟨v', w', cs, hrun, hr, hown, hg, hat⟩ := run_append_src (P := P) ty ht he B p.1 _ cs0 h5 l f _ hS hl hn h.base
  have hpM : ∀ b, p.1.ownBlock = some b → b ∈ E.M := fun b hb => mem_M.2 (Or.inr ⟨k, p, h2, hb⟩)
  have r0 := h6.grown hg (fun g hgv hm => (h8 g hm).1 (hpM g hgv))
  have r1 := hr.grown hg (fun g hgv hm => (hf g hm).2.1 (hpM g hgv))
  refine wp_app (by rw [hxv]; exact hrun) (hK _ v' w' (h.grow ho h2 (f := p.2 ++ f) hg hat (l := o.l ++ l) (by rw [List.length_append]; exact hown) (Rs.append r1 r0) (h7.append hl) (fun b hb => ?_) d))
  rcases List.mem_append.1 hb with hb | hb
  · exact ⟨Rs.lt h6 b hb, (h8 b hb).1, fun e => (h8 b hb).2 (by simp at e; exact e.1)⟩
  · exact ⟨(hf b hb).1, (hf b hb).2.1, fun e => (hf b hb).2.2 (by simp at e; exact e.2)⟩
theorem good_appU {t e s : Nat} {x y : Operand} {k i pa qa : Nat} {o : Own} {l : List D} {n : Bool} (h : Rel B Xs G w0 ⟨fr, os, bs⟩ E a w) (ht : P.underlying t = some (.slice e)) (he : ekOk P e s = true) (hx : St.ev ⟨fr, os, bs⟩ (opd x) = .c false [.osub k i pa qa])
    (ho : os[k]? = some o) (hv : o.ver = i) (hoe : o.e = e) (hos : o.s = s) (hsrc : srcOf os (St.ev ⟨fr, os, bs⟩ (opd y)) = some (l, n)) (hl : El s l) (hn : o.l.length + l.length ≤ capN s) :
    Good P B Xs G w0 fr a w ⟨d, .call { callee := .builtin .append, args := #[x, y], argTypes := #[t, t] }, ty, pos, after, guard⟩ Q (.c false [.own k (i + 1)]) (os.set k ⟨(o.l.take qa).drop pa ++ l, e, s, i + 1, o.nw && n⟩) bs := by
  subst hv hoe hos
  intro K hK
  have hev := ev_ok h x
  rw [hx] at hev
  obtain ⟨g1, g2, p, cs0, f0, h2, h5, h6, g4, g5, g6⟩ := osub_ok h hev.1 ho rfl
  obtain ⟨cs1, q5, q6, q7, h8⟩ := h.own k o p ho h2
  obtain ⟨f, hS, hf⟩ := src_ok h hsrc (ev_ok h y)
  obtain ⟨v', w', cs, hrun, hr, hown, hg, hat⟩ := run_append_src (P := P) ty ht he B (a.eval x) _ cs0 h5 l f _ hS hl (by rw [List.length_drop, List.length_take]; omega) h.base
  rw [g5] at hg hat
  have hpM : ∀ b, p.1.ownBlock = some b → b ∈ E.M := fun b hb => mem_M.2 (Or.inr ⟨k, p, h2, hb⟩)
  have r0 := h6.grown hg (fun g hgv hm => (h8 g (g4 g hm)).1 (hpM g hgv))
  have r1 := hr.grown hg (fun g hgv hm => (hf g hm).2.1 (hpM g hgv))
  refine wp_app hrun (hK _ v' w' (h.grow ho h2 (f := f0 ++ f) hg hat (l := (o.l.take qa).drop pa ++ l) (by rw [List.length_append]; exact hown) (Rs.append r1 r0) (El.append (fun z hz => q7 z (List.mem_of_mem_take (List.mem_of_mem_drop hz))) hl) (fun b hb => ?_) d))
  rcases List.mem_append.1 hb with hb | hb
  · exact ⟨Rs.lt q6 b (g4 b hb), (h8 b (g4 b hb)).1, fun e => (h8 b (g4 b hb)).2 (by simp at e; exact e.1)⟩
  · exact ⟨(hf b hb).1, (hf b hb).2.1, fun e => (hf b hb).2.2 (by simp at e; exact e.2)⟩
theorem lenU_ok {t e : Nat} {x : Operand} {k i p q : Nat} {o : Own} (h : Rel B Xs G w0 ⟨fr, os, bs⟩ E a w) (ht : P.underlying t = some (.slice e)) (hx : St.ev ⟨fr, os, bs⟩ (opd x) = .c false [.osub k i p q]) (ho : os[k]? = some o) (hv : o.ver = i) :
    Good P B Xs G w0 fr a w ⟨d, .call { callee := .builtin .len, args := #[x], argTypes := #[t] }, ty, pos, after, guard⟩ Q (.c false [.raw (.int .i64 ((q - p : Nat) : Int))]) os bs := by
  have hev := ev_ok h x
  rw [hx] at hev
  obtain ⟨_, _, pp, cs, f, _, _, _, _, _, A, n, c, _, g⟩ := osub_ok h hev.1 ho hv
  refine good_lenS h ht ⟨_, _, g⟩
theorem good_appN {t e s : Nat} {x y : Operand} {l : List D} {n : Bool} (h : Rel B Xs G w0 ⟨fr, os, bs⟩ E a w) (ht : P.underlying t = some (.slice e)) (he : ekOk P e s = true) (hx : St.ev ⟨fr, os, bs⟩ (opd x) = .c false [.raw (.slice none 0 0)])
    (hsrc : srcOf os (St.ev ⟨fr, os, bs⟩ (opd y)) = some (l, n)) (hl : El s l) (hn : l.length ≤ capN s) :
    Good P B Xs G w0 fr a w ⟨d, .call { callee := .builtin .append, args := #[x, y], argTypes := #[t, t] }, ty, pos, after, guard⟩ Q (.c false [.own os.length 0]) (os ++ [⟨l, e, s, 0, n⟩]) bs := by
  intro K hK
  have hxv := eval_raw h hx
  obtain ⟨f, hS, hf⟩ := src_ok h hsrc (ev_ok h y)
  obtain ⟨v', w', cs, hrun, hr, hown, hg, hat⟩ := run_append_src (P := P) ty ht he w.heap.size (.slice none 0 0) 0 [] OwnsAt.nil l f _ hS hl (by simpa using hn) (Nat.le_refl _)
  have hb : Below w.heap.size w w' := (Below.refl _ _).grown hg (Nat.le_refl _) (fun b hb => by simp [Value.ownBlock] at hb)
  refine wp_app (by rw [hxv]; exact hrun) (hK _ v' w' (h.newOwn hb (o := ⟨l, e, s, 0, n⟩) (f := f) (cs := cs) (by simpa using hown) (hr.below hb) hl (fun b hbm => ⟨(hf b hbm).2.1, fun e2 => ?_, (hf b hbm).2.2⟩) rfl d))
  rcases hat with h' | h'
  · rw [h'] at e2; simp [Value.ownBlock] at e2
  · rw [h'] at e2
    injection e2 with e2
    have := (hf b hbm).1
    omega
theorem good_cvi {src dst : Nat} {x : Operand} {k k' k0 : IntKind} {z : Int} (h : Rel B Xs G w0 ⟨fr, os, bs⟩ E a w) (hs : P.underlying src = some (.int k0)) (hd : P.underlying dst = some (.int k)) (hx : St.ev ⟨fr, os, bs⟩ (opd x) = .c false [.raw (.int k' z)]) :
    Good P B Xs G w0 fr a w ⟨d, .convert src dst x, ty, pos, after, guard⟩ Q (.c false [.raw (.int k (k.wrap z))]) os bs := by
  refine good_pure h (v := .int k (k.wrap z)) ?_ ⟨rfl, trivial⟩
  simp [execOp, eval_raw h hx, convert, run_underlying hs, run_underlying hd, Conv.intToInt]
theorem bytes_cells : ∀ {l : List D} {b : List UInt8} {f : List Nat} {cs : List Value}, bytesD l = some b → Rs w l f cs → ∃ xs : List Int, cs = xs.map (Value.int .u8) ∧ xs.length = l.length ∧ xs.map (fun n => UInt8.ofNat n.toNat) = b
  | [], b, f, cs, hb, hr => by
    simp only [bytesD, Option.some.injEq] at hb
    subst hb
    exact ⟨[], by rw [hr.2]; rfl, rfl, rfl⟩
  | d :: l, b, f, cs, hb, hr => by
    rw [Rs] at hr
    obtain ⟨f1, f2, c1, c2, rfl, rfl, h1, h2⟩ := hr
    unfold bytesD at hb
    split at hb
    · next heq => cases heq
    · next n l' heq =>
      injection heq with e1 e2
      subst e1 e2
      split at hb
      · next r hr' =>
        injection hb with hb
        subst hb
        obtain ⟨xs, g1, g2, g3⟩ := bytes_cells hr' h2
        obtain ⟨_, rfl⟩ := h1
        exact ⟨n :: xs, by rw [g1]; rfl, by simp [g2], by simp [g3]⟩
      · cases hb
    · cases hb
theorem run_cvs {src dst e : Nat} {l : List D} {b : List UInt8} {f : List Nat} {v : Value} (hs : P.underlying src = some (.slice e)) (he : P.underlying e = some (.int .u8)) (hd : P.underlying dst = some .string) (hb : bytesD l = some b) (hS : Sl w l f v) :
    (convert src dst v).run P w = .ok (.string ⟨b.toArray⟩) w := by
  have hS' := hS
  unfold Sl at hS'
  rw [R] at hS'
  obtain ⟨A, c, e1, _, _, h4⟩ := hS'
  simp only [List.cons.injEq, and_true] at e1
  subst e1
  rcases h4 with ⟨rfl, _⟩ | ⟨bk, o, fp', cs', rfl, rfl, _, hrs, hat⟩
  · simp only [bytesD, Option.some.injEq] at hb
    subst hb
    cases A with
    | none => exact run_convert_bytes_nil w src e hs he _ _ dst hd
    | some p =>
      rw [run_convert_bytes_string w src dst e _ _ c hs he hd, run_bytesToString w _ _ c [] (by simp [loadCells, loadCellsFrom])]
      rfl
  · obtain ⟨xs, g1, g2, g3⟩ := bytes_cells hb hrs
    rw [run_convert_bytes_arg w src e hs he bk o l.length c xs g2 (fun i hi => ?_) dst hd]
    · unfold strOfNums
      rw [g3]
    · exact hat i (.int .u8 (xs.getD i 0)) (by rw [g1, List.getElem?_map, List.getD_eq_getElem?_getD, List.getElem?_eq_getElem (by omega)]; rfl)
theorem good_cvs {src dst e : Nat} {x : Operand} {l : List D} {b : List UInt8} {f : List Nat} (h : Rel B Xs G w0 ⟨fr, os, bs⟩ E a w) (hs : P.underlying src = some (.slice e)) (he : P.underlying e = some (.int .u8)) (hd : P.underlying dst = some .string) (hb : bytesD l = some b) (hS : Sl w l f (a.eval x)) :
    Good P B Xs G w0 fr a w ⟨d, .convert src dst x, ty, pos, after, guard⟩ Q (.c false [.raw (.string ⟨b.toArray⟩)]) os bs := by
  refine good_pure h (v := .string ⟨b.toArray⟩) ?_ ⟨rfl, trivial⟩
  simp [execOp, run_cvs hs he hd hb hS]
theorem good_cvsS {src dst e : Nat} {x : Operand} {n : Bool} {l : List D} {b : List UInt8} (h : Rel B Xs G w0 ⟨fr, os, bs⟩ E a w) (hs : P.underlying src = some (.slice e)) (he : P.underlying e = some (.int .u8)) (hd : P.underlying dst = some .string) (hx : St.ev ⟨fr, os, bs⟩ (opd x) = .c false [.sl n l]) (hb : bytesD l = some b) :
    Good P B Xs G w0 fr a w ⟨d, .convert src dst x, ty, pos, after, guard⟩ Q (.c false [.raw (.string ⟨b.toArray⟩)]) os bs := by
  have hv := ev_ok h x
  rw [hx] at hv
  obtain ⟨⟨fp, h1, _⟩, _⟩ := hv
  exact good_cvs h hs he hd hb h1
theorem good_cvsO {src dst e : Nat} {x : Operand} {k i : Nat} {o : Own} {b : List UInt8} (h : Rel B Xs G w0 ⟨fr, os, bs⟩ E a w) (hs : P.underlying src = some (.slice e)) (he : P.underlying e = some (.int .u8)) (hd : P.underlying dst = some .string) (hx : St.ev ⟨fr, os, bs⟩ (opd x) = .c false [.own k i]) (ho : os[k]? = some o) (hv : o.ver = i) (hb : bytesD o.l = some b) :
    Good P B Xs G w0 fr a w ⟨d, .convert src dst x, ty, pos, after, guard⟩ Q (.c false [.raw (.string ⟨b.toArray⟩)]) os bs := by
  have hev := ev_ok h x
  rw [hx] at hev
  obtain ⟨⟨_, o', p, h1, h2, _, h4⟩, _⟩ := hev
  simp only at h1
  rw [ho] at h1
  injection h1 with h1
  subst h1
  have hxv := h4 hv
  obtain ⟨cs0, h5, h6, h7, h8⟩ := h.own k o p ho h2
  exact good_cvs h hs he hd hb (hxv ▸ Sl.of_at h5 h6)
theorem strD_cells (s : ByteArray) : Rs w (strD s) [] (Go.Lib.strCells s) := by
  unfold strD Go.Lib.strCells
  generalize s.data.toList = l
  induction l with
  | nil => exact ⟨rfl, rfl⟩
  | cons b l ih =>
    rw [List.map_cons, List.map_cons, Rs]
    exact ⟨[], [], [_], _, rfl, rfl, ⟨rfl, rfl⟩, ih⟩
theorem strD_el (s : ByteArray) : El 1 (strD s) := fun x hx => by
  obtain ⟨b, _, rfl⟩ := List.mem_map.1 hx
  exact ⟨rfl, rfl⟩
theorem good_apps {t u e : Nat} {x y : Operand} {k i : Nat} {o : Own} {s : ByteArray} (h : Rel B Xs G w0 ⟨fr, os, bs⟩ E a w) (ht : P.underlying t = some (.slice e)) (hu : P.underlying u = some .string) (he : byteE P e = true) (hx : St.ev ⟨fr, os, bs⟩ (opd x) = .c false [.own k i])
    (ho : os[k]? = some o) (hv : o.ver = i) (hoe : o.e = e) (hos : o.s = 1) (hy : St.ev ⟨fr, os, bs⟩ (opd y) = .c false [.raw (.string s)]) (hn : o.l.length + s.size ≤ 1073741824) :
    Good P B Xs G w0 fr a w ⟨d, .call { callee := .builtin .append, args := #[x, y], argTypes := #[t, u] }, ty, pos, after, guard⟩ Q (.c false [.own k (i + 1)]) (os.set k ⟨o.l ++ strD s, e, 1, i + 1, o.nw⟩) bs := by
  obtain ⟨ol, oe, osz, over, onw⟩ := o
  simp only at hv hoe hos hn
  subst hv hoe hos
  intro K hK
  have hev := ev_ok h x
  rw [hx] at hev
  obtain ⟨⟨_, o', p, h1, h2, _, h4⟩, _⟩ := hev
  simp only at h1
  rw [ho] at h1
  injection h1 with h1
  subst h1
  have hxv := h4 rfl
  have hyv := eval_raw h hy
  obtain ⟨cs0, h5, h6, h7, h8⟩ := h.own k _ p ho h2
  obtain ⟨ti, e1, e2, e3, e4⟩ := byteE_spec he
  obtain ⟨v', w', hrun, hown, hg, hat⟩ := run_append_at_string (P := P) w B t u ty oe ti _ ht hu e1 e2 rfl e3 e4 p.1 _ cs0 h5 s (by unfold maxLen; show ol.length + s.size ≤ _; omega) (by show ol.length + s.size ≤ _; omega) h.base
  have hpM : ∀ b, p.1.ownBlock = some b → b ∈ E.M := fun b hb => mem_M.2 (Or.inr ⟨k, p, h2, hb⟩)
  have r0 := h6.grown hg (fun g hgv hm => (h8 g hm).1 (hpM g hgv))
  refine wp_run (v := v') (w' := w') (by simp [execOp, resolve, invoke, builtin, hxv, hyv, hrun]) (hK _ v' w' (h.grow ho h2 (f := p.2) hg hat (l := ol ++ strD s) (by rw [List.length_append, strD_len]; exact hown) (by have := Rs.append (strD_cells (w := w') s) r0; rwa [List.append_nil] at this) (h7.append (strD_el s)) (fun b hb => ?_) d))
  exact ⟨Rs.lt h6 b hb, (h8 b hb).1, fun e => (h8 b hb).2 e⟩
end
end Go.Proofs.YtdjcflnemnknaaaDoor
