/-
  Each of the machine's operations does what its step says.
-/
import Derived.Test.YtdjcflnemnknaaaDoorIr5
namespace Go.Proofs.YtdjcflnemnknaaaDoor
open Go.RowKit
set_option linter.unusedSimpArgs false
set_option linter.unusedVariables false
section
variable {P : Program} {B : Nat} {Xs : List Nat} {G : Org} {w0 : World} {fr : List AV} {os : List Own} {bs : List (List AC)} {E : Env} {a : Act} {w : World} {d : Option Tmp} {K : Act → World → Prop} {Q : Exit → Act → World → Prop}
  {ty : TypeId} {pos : String} {after : Array Edge} {guard : Option (Nat × Bool)}
theorem one_of {E : Env} {os : List Own} {w : World} {y : AC} {v : Value} (hy : y.ok E os w v) (ho : y.one = true) : v.oneCell' = true := by
  cases y with
  | any => cases ho
  | raw u => obtain rfl := hy; exact ho
  | sl n l =>
    obtain ⟨fp, h1, _⟩ := hy
    obtain ⟨A, c, rfl, _⟩ := Sl.form h1
    rfl
  | own k i =>
    obtain ⟨⟨A, n, c, rfl⟩, _⟩ := hy
    rfl
  | osub k i a b =>
    obtain ⟨⟨A, n, c, rfl⟩, _⟩ := hy
    rfl
  | cl f caps =>
    obtain ⟨ps, _, rfl⟩ := hy
    rfl
theorem cells_one {E : Env} {os : List Own} {w : World} {y : AC} {v : Value} (hy : y.ok E os w v) (ho : y.one = true) : v.cells = #[v] := by
  have := one_of hy ho
  cases v <;> simp_all [Value.cells, Value.oneCell']
theorem ones_of {E : Env} {os : List Own} {w : World} : ∀ {xs : List AC} {vs : List Value}, Oks E os w xs vs → xs.all AC.one = true → ∀ v ∈ vs, v.oneCell' = true
  | [], [], _, _, v, hv => by simp at hv
  | x :: xs, u :: vs, h, ho, v, hv => by
    simp only [List.all_cons, Bool.and_eq_true] at ho
    rcases List.mem_cons.1 hv with rfl | hv
    · exact one_of h.1 ho.1
    · exact ones_of h.2 ho.2 v hv
  | [], _ :: _, h, _, _, _ => h.elim
  | _ :: _, [], h, _, _, _ => h.elim
/-- What is left to be shown at one operation. -/
def Good (P : Program) (B : Nat) (Xs : List Nat) (G : Org) (w0 : World) (fr : List AV) (a : Act) (w : World) (o : Oper) (Q : Exit → Act → World → Prop) (r : AV) (os' : List Own) (bs' : List (List AC)) : Prop :=
  ∀ K : Act → World → Prop, (∀ E' v w', Rel B Xs G w0 (St.put ⟨fr, os', bs'⟩ o.dst r) E' (a.put o.dst v) w' → K (a.put o.dst v) w') → o.wp P a w K Q
theorem good_pure {o : Oper} {r : AV} {v : Value} (h : Rel B Xs G w0 ⟨fr, os, bs⟩ E a w) (hrun : (execOp a.eval o).run P w = .ok (.value v) w) (hx : r.ok E os w v) : Good P B Xs G w0 fr a w o Q r os bs :=
  fun K hK => wp_run hrun (hK E v w (h.below_put (Below.refl _ _) hx))

theorem good_mov {x : Operand} {b : Bool} (h : Rel B Xs G w0 ⟨fr, os, bs⟩ E a w) : Good P B Xs G w0 fr a w ⟨d, if b then .move x else .assign x, ty, pos, after, guard⟩ Q (St.ev ⟨fr, os, bs⟩ (opd x)) os bs := by
  refine good_pure h (v := a.eval x) ?_ (ev_ok h x)
  cases b <;> simp [execOp]
theorem good_pick {c x y : Operand} {b : Bool} (h : Rel B Xs G w0 ⟨fr, os, bs⟩ E a w) (hc : St.ev ⟨fr, os, bs⟩ (opd c) = .c false [.raw (.bool b)]) :
    Good P B Xs G w0 fr a w ⟨d, .pick c x y, ty, pos, after, guard⟩ Q (if b then St.ev ⟨fr, os, bs⟩ (opd x) else St.ev ⟨fr, os, bs⟩ (opd y)) os bs := by
  refine good_pure h (v := if b then a.eval x else a.eval y) ?_ ?_
  · simp [execOp, eval_raw h hc, asBool]
  · cases b
    · exact ev_ok h y
    · exact ev_ok h x
theorem good_bin {op : BinOp} {t yt : TypeId} {x y : Operand} {u v z : Value} (h : Rel B Xs G w0 ⟨fr, os, bs⟩ E a w) (hx : St.ev ⟨fr, os, bs⟩ (opd x) = .c false [.raw u]) (hy : St.ev ⟨fr, os, bs⟩ (opd y) = .c false [.raw v]) (hz : vbin op u v = some z) :
    Good P B Xs G w0 fr a w ⟨d, .binOp op t x y yt, ty, pos, after, guard⟩ Q (.c false [.raw z]) os bs := by
  refine good_pure h (v := z) ?_ ⟨rfl, trivial⟩
  have := vbin_run (P := P) (w := w) (t := t) (x := x) (y := y) hz
  simp only [execOp, eval_raw h hx, eval_raw h hy, Sem.run_bind] at this ⊢
  cases h1 : (eqGuard op t x y u v).run P w <;> simp_all
theorem good_beq {ne : Bool} {t yt : TypeId} {x y : Operand} {u v : Bool} (h : Rel B Xs G w0 ⟨fr, os, bs⟩ E a w) (hx : St.ev ⟨fr, os, bs⟩ (opd x) = .c false [.raw (.bool u)]) (hy : St.ev ⟨fr, os, bs⟩ (opd y) = .c false [.raw (.bool v)]) (ht : P.underlying t = some .bool) :
    Good P B Xs G w0 fr a w ⟨d, .binOp (if ne then .neq else .eql) t x y yt, ty, pos, after, guard⟩ Q (.c false [.raw (.bool (if ne then !(u == v) else u == v))]) os bs := by
  refine good_pure h (v := .bool (if ne then !(u == v) else u == v)) ?_ ⟨rfl, trivial⟩
  have heq : (Op.equal t (.bool u) (.bool v)).run P w = .ok (u == v) w := by
    show (Op.equalIn (9999 + 1) t _ _).run P w = _
    rw [Op.equalIn]
    simp [run_underlying ht]
  cases ne
  · simp [execOp, eval_raw h hx, eval_raw h hy, eqGuard, binOp, heq]
  · simp [execOp, eval_raw h hx, eval_raw h hy, eqGuard, binOp, heq]
theorem good_fnil {ne : Bool} {t yt : TypeId} {x : Operand} {ps rs : Array TypeId} {vr : Bool} (h : Rel B Xs G w0 ⟨fr, os, bs⟩ E a w) (ht : P.underlying t = some (.func ps rs vr)) {b : Bool}
    (hx : (∃ f caps, St.ev ⟨fr, os, bs⟩ (opd x) = .c false [.cl f caps] ∧ b = ne) ∨ (St.ev ⟨fr, os, bs⟩ (opd x) = .c false [.raw .nilFunc] ∧ b = !ne)) :
    Good P B Xs G w0 fr a w ⟨d, .binOp (if ne then .neq else .eql) t x (.const .nilFunc) yt, ty, pos, after, guard⟩ Q (.c false [.raw (.bool b)]) os bs := by
  refine good_pure h (v := .bool b) ?_ ⟨rfl, trivial⟩
  have ec : a.eval (.const .nilFunc) = .nilFunc := rfl
  rcases hx with ⟨f, caps, hx, rfl⟩ | ⟨hx, rfl⟩
  · have hv := ev_ok h x
    rw [hx] at hv
    obtain ⟨⟨qs, _, he⟩, _⟩ := hv
    have heq : ∀ u c, (Op.equal t (.func (.func f) u c) .nilFunc).run P w = .ok false w := by
      intro u c
      show (Op.equalIn (9999 + 1) t _ _).run P w = _
      rw [Op.equalIn]
      simp [run_underlying ht]
    cases b
    · simp [execOp, he, eqGuard, binOp, heq, ec]
    · simp [execOp, he, eqGuard, binOp, heq, ec]
  · have heq : (Op.equal t .nilFunc .nilFunc).run P w = .ok true w := by
      show (Op.equalIn (9999 + 1) t _ _).run P w = _
      rw [Op.equalIn]
      simp [run_underlying ht]
    cases ne
    · simp [execOp, eval_raw h hx, eqGuard, binOp, heq, ec]
    · simp [execOp, eval_raw h hx, eqGuard, binOp, heq, ec]
theorem good_snil {ne : Bool} {t yt e : TypeId} {x : Operand} (h : Rel B Xs G w0 ⟨fr, os, bs⟩ E a w) (ht : P.underlying t = some (.slice e)) {b : Bool}
    (hx : (∃ k i o, St.ev ⟨fr, os, bs⟩ (opd x) = .c false [.own k i] ∧ os[k]? = some o ∧ o.ver = i ∧ 0 < o.l.length ∧ b = ne) ∨ (St.ev ⟨fr, os, bs⟩ (opd x) = .c false [.raw (.slice none 0 0)] ∧ b = !ne)) :
    Good P B Xs G w0 fr a w ⟨d, .binOp (if ne then .neq else .eql) t x (.const (.slice none 0 0)) yt, ty, pos, after, guard⟩ Q (.c false [.raw (.bool b)]) os bs := by
  refine good_pure h (v := .bool b) ?_ ⟨rfl, trivial⟩
  have ec : a.eval (.const (.slice none 0 0)) = .slice none 0 0 := rfl
  rcases hx with ⟨k, i, o, hx, ho, hv, hl, rfl⟩ | ⟨hx, rfl⟩
  · have hev := ev_ok h x
    rw [hx] at hev
    obtain ⟨⟨_, o', p, h1, h2, h3, h4⟩, _⟩ := hev
    simp only at h1
    rw [ho] at h1
    injection h1 with h1
    subst h1
    have he := h4 hv
    obtain ⟨cs, h5, h6, h7, h8⟩ := h.own _ _ p ho h2
    rcases h5.2 with ⟨hv', h9⟩ | ⟨g, z, cap, cur, hv', _⟩
    · omega
    have he' := he.trans hv'
    have heq : (Op.equal t (.slice (some ⟨g, z, none⟩) o.l.length cap) (.slice none 0 0)).run P w = .ok false w := by
      show (Op.equalIn (9999 + 1) t _ _).run P w = _
      rw [Op.equalIn]
      simp [run_underlying ht]
    cases b
    · simp [execOp, he', eqGuard, binOp, heq, ec]
    · simp [execOp, he', eqGuard, binOp, heq, ec]
  · have heq : (Op.equal t (.slice none 0 0) (.slice none 0 0)).run P w = .ok true w := by
      show (Op.equalIn (9999 + 1) t _ _).run P w = _
      rw [Op.equalIn]
      simp [run_underlying ht]
    cases ne
    · simp [execOp, eval_raw h hx, eqGuard, binOp, heq, ec]
    · simp [execOp, eval_raw h hx, eqGuard, binOp, heq, ec]
theorem caps_ok {st : St} (h : Rel B Xs G w0 st E a w) : ∀ (xs : List Operand) (caps : List Nat), capsOf (xs.map fun x => st.ev (opd x)) = some caps →
    ∃ ps : List (Nat × TypeId), caps.map (fun k => E.bm[k]?) = ps.map some ∧ xs.map a.eval = ps.map fun p => .pointer (some ⟨p.1, 0, none⟩)
  | [], caps, hc => by
    simp [capsOf] at hc
    subst hc
    exact ⟨[], rfl, rfl⟩
  | x :: xs, caps, hc => by
    have hv := ev_ok h x
    rw [List.map_cons] at hc
    unfold capsOf at hc
    split at hc
    · next heq => cases heq
    · next k ys heq =>
      injection heq with h1 h2
      rw [h1] at hv
      subst h2
      obtain ⟨caps', hc', rfl⟩ := Option.map_eq_some_iff.1 hc
      obtain ⟨ps, g1, g2⟩ := caps_ok h xs caps' hc'
      obtain ⟨p, g3, g4⟩ := hv
      exact ⟨p :: ps, by simp [g1, g3], by rw [List.map_cons, g4, g2]; rfl⟩
    · cases hc
theorem good_mkf {f : Nat} {first caps : Array Operand} {cs : List Nat} (h : Rel B Xs G w0 ⟨fr, os, bs⟩ E a w) (hf : first.toList.isEmpty = true) (hc : capsOf ((caps.toList.map opd).map (St.ev ⟨fr, os, bs⟩)) = some cs) :
    Good P B Xs G w0 fr a w ⟨d, .makeFunc (.func f) first caps, ty, pos, after, guard⟩ Q (.c false [.cl f cs]) os bs := by
  obtain ⟨ps, h1, h2⟩ := caps_ok h caps.toList cs (by rw [List.map_map] at hc; exact hc)
  have e1 : first = #[] := by apply Array.toList_inj.1; simpa using hf
  have e2 : caps.map a.eval = (ps.map fun p => (.pointer (some ⟨p.1, 0, none⟩) : Value)).toArray := by
    apply Array.toList_inj.1
    rw [Array.toList_map, h2]
  refine good_pure h (v := .func (.func f) #[] (ps.map fun p => (.pointer (some ⟨p.1, 0, none⟩) : Value)).toArray) ?_ ⟨⟨ps, h1, rfl⟩, trivial⟩
  subst e1
  simp [execOp, Instr.makeFunc, e2]
theorem good_not {t : TypeId} {x : Operand} {u : Bool} (h : Rel B Xs G w0 ⟨fr, os, bs⟩ E a w) (hx : St.ev ⟨fr, os, bs⟩ (opd x) = .c false [.raw (.bool u)]) :
    Good P B Xs G w0 fr a w ⟨d, .unOp .not t x, ty, pos, after, guard⟩ Q (.c false [.raw (.bool !u)]) os bs := by
  refine good_pure h (v := .bool !u) ?_ ⟨rfl, trivial⟩
  simp [execOp, eval_raw h hx, Op.unary]
theorem good_load {t : TypeId} {x : Operand} {i : TypeInfo} {dd : TypeDesc} {n : Nat} {g : Bool} {b o : Nat} {xs : List AC} {vs : List Value} (h : Rel B Xs G w0 ⟨fr, os, bs⟩ E a w)
    (hi : P.info? t = some i) (hd : P.underlying t = some dd) (hg : isAggD dd = g) (hn : if g then i.size = n else n = 1)
    (he : a.eval x = .pointer (some ⟨b, o, none⟩)) (ha : At w b o vs) (hx : Oks E os w xs vs) (hl : n ≤ xs.length) :
    Good P B Xs G w0 fr a w ⟨d, .load t x, ty, pos, after, guard⟩ Q (.c g (xs.take n)) os bs := by
  obtain ⟨v, h1, h2⟩ := run_loadAt_cells (P := P) hi hd ha g n hg hn (by rw [← hx.len]; exact hl)
  refine good_pure h (v := v) ?_ (gok_take hx h2)
  simp [execOp, he, h1]
theorem good_fad {s f : Nat} {x : Operand} {off n : Nat} {g : Bool} {r : AV} {b o : Nat} (h : Rel B Xs G w0 ⟨fr, os, bs⟩ E a w) (hf : fieldOf P s f = some (off, n, g)) (hn : ¬ n = 0) (he : a.eval x = .pointer (some ⟨b, o, none⟩)) (hr : r.ok E os w (.pointer (some ⟨b, o + off, none⟩))) :
    Good P B Xs G w0 fr a w ⟨d, .fieldAddr s x f, ty, pos, after, guard⟩ Q r os bs := by
  obtain ⟨fs, fd, i, dd, h1, h2, h3, h4, h5, h6, h7⟩ := fieldOf_spec hf
  refine good_pure h ?_ hr
  simp [execOp, he, Instr.fieldAt, run_underlying h1, h2, Instr.sureAddr, fieldPlace, sizeOf, typeInfo, h3, h6, hn, addr_add, h5]
theorem good_iad {t e s : Nat} {x i : Operand} {z : Int} {r : AV} {b o m c : Nat} (h : Rel B Xs G w0 ⟨fr, os, bs⟩ E a w) (ht : elemOf' P t = some (e, s)) (he : a.eval x = .slice (some ⟨b, o, none⟩) m c) {k : IntKind} (hi : a.eval i = .int k z) (h0 : 0 ≤ z) (hl : z.toNat < m)
    (hr : r.ok E os w (.pointer (some ⟨b, o + z.toNat * s, none⟩))) : Good P B Xs G w0 fr a w ⟨d, .indexAddr t x i, ty, pos, after, guard⟩ Q r os bs := by
  obtain ⟨h1, inf, h2, h3⟩ := elemOf_spec ht
  refine good_pure h ?_ hr
  have h4 : z < (m : Int) := by omega
  simp [execOp, he, hi, Instr.indexAt, asIntOf, run_underlying h1, h0, h4, sizeOf, typeInfo, h2, h3, addr_add]
theorem good_nck {x : Operand} {b o : Nat} {r : AV} (h : Rel B Xs G w0 ⟨fr, os, bs⟩ E a w) (he : a.eval x = .pointer (some ⟨b, o, none⟩)) (hr : r.ok E os w (.pointer (some ⟨b, o, none⟩))) :
    Good P B Xs G w0 fr a w ⟨d, .nilCheck x, ty, pos, after, guard⟩ Q r os bs := by
  refine good_pure h ?_ hr
  simp [execOp, he]
theorem good_alloc {t : TypeId} {i : TypeInfo} {z : Value} (h : Rel B Xs G w0 ⟨fr, os, bs⟩ E a w) (hi : P.info? t = some i) (hz : i.zero = some z) :
    Good P B Xs G w0 fr a w ⟨d, .alloc t, ty, pos, after, guard⟩ Q (.bptr bs.length 0) os (bs ++ [z.cells.toList.map .raw]) := by
  intro K hK
  refine wp_run (v := .pointer (some ⟨w.heap.size, 0, none⟩)) (w' := w.alloc (.cells z.cells t)) ?_ (hK { E with bm := E.bm ++ [(w.heap.size, t)] } _ _ ?_)
  · simp [execOp, Instr.alloc, zeroValue, typeInfo, hi, hz, newVar, newRow]
  · have := h.newBox t (oks_raw (E := E) (os := os) (w := w) z.cells.toList) d
    simpa using this
theorem good_box {t : TypeId} {x : Operand} {g : Bool} {xs : List AC} (h : Rel B Xs G w0 ⟨fr, os, bs⟩ E a w) (hx : St.ev ⟨fr, os, bs⟩ (opd x) = .c g xs) (hone : xs.all AC.one = true) :
    Good P B Xs G w0 fr a w ⟨d, .box t x, ty, pos, after, guard⟩ Q (.bptr bs.length 0) os (bs ++ [xs]) := by
  intro K hK
  have hev := ev_ok h x
  rw [hx] at hev
  have hok : Oks E os w xs (a.eval x).cells.toList := by
    cases g with
    | true => obtain ⟨vs, h1, h2⟩ := hev; rw [h1]; simpa [Value.cells] using h2
    | false =>
      have h1 : Oks E os w xs [a.eval x] := hev
      have h3 : (a.eval x).cells = #[a.eval x] := by
        match xs, h1, hone with
        | [], h1, hone => exact h1.elim
        | _ :: _ :: _, h1, hone => exact h1.2.elim
        | [y], h1, hone =>
          have hy := h1.1
          have ho : y.one = true := by simpa using hone
          exact cells_one hy ho
      rw [h3]
      exact h1
  refine wp_run (v := .pointer (some ⟨w.heap.size, 0, none⟩)) (w' := w.alloc (.cells (a.eval x).cells t)) ?_ (hK { E with bm := E.bm ++ [(w.heap.size, t)] } _ _ ?_)
  · simp [execOp, Instr.box, newVar, newRow]
  · have := h.newBox t hok d
    simpa using this
end
end Go.Proofs.YtdjcflnemnknaaaDoor
