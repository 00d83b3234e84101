/-
  append onto a slice that the call owns, its source a slice that reads as a list of data (nil and empty let in).
-/
import Derived.Test.YtdjcflnemnknaaaDoorTypes
import Derived.RegionTactic
import Derived.OwnWalk
namespace Go.Proofs.YtdjcflnemnknaaaDoor
open Go.RowKit
set_option linter.unusedSimpArgs false
set_option linter.unusedVariables false

mutual
/-- Each leaf is one cell. -/
def D.one : D → Prop
  | .leaf v => v.oneCell' = true
  | .sl _ => True
  | .agg l => D.ones l
def D.ones : List D → Prop
  | [] => True
  | d :: l => d.one ∧ D.ones l
end
mutual
theorem R.one {w : World} : ∀ {d : D} {fp : List Nat} {cs : List Value}, R w d fp cs → d.one → ∀ u ∈ cs, u.oneCell' = true
  | .leaf v, _, _, h, ho, u, hu => by rw [h.2] at hu; simp at hu; subst hu; exact ho
  | .sl _, _, _, h, _, u, hu => by
    rw [R] at h
    obtain ⟨A, cap, rfl, _⟩ := h
    simp at hu
    subst hu
    rfl
  | .agg l, fp, cs, h, ho, u, hu => by
    rw [R] at h
    exact Rs.one_ h ho u hu
theorem Rs.one_ {w : World} : ∀ {l : List D} {fp : List Nat} {cs : List Value}, Rs w l fp cs → D.ones l → ∀ u ∈ cs, u.oneCell' = true
  | [], _, _, h, _, u, hu => by rw [h.2] at hu; simp at hu
  | d :: l, _, _, h, ho, u, hu => by
    obtain ⟨f1, f2, c1, c2, rfl, rfl, h1, h2⟩ := h
    rcases List.mem_append.1 hu with hu | hu
    · exact h1.one ho.1 u hu
    · exact Rs.one_ h2 ho.2 u hu
end
theorem D.ones_of : ∀ {l : List D}, (∀ d ∈ l, d.one) → D.ones l
  | [], _ => trivial
  | d :: l, h => ⟨h d (by simp), D.ones_of fun x hx => h x (by simp [hx])⟩

theorem run_append_of_nil {P : Program} {w : World} (base : Nat) (t ty e : TypeId) (i : TypeInfo) (size : Nat) (ht : P.underlying t = some (.slice e)) (hi : P.info? e = some i)
    (v : Value) (n : Nat) (xs : List Value) (hown : w.ownsRow base e size v n xs) (c : Nat) : (Builtin.append_ #[t, t] ty #[v, .slice none 0 c]).run P w = .ok v w := by
  rcases hown.2 with ⟨rfl, rfl⟩ | ⟨g, cap, cur, rfl, _, _, hnc, _⟩
  · simp [Builtin.append_, run_underlying ht, sizeOf, typeInfo, hi, Builtin.lenOf, Builtin.firstCells]
  · simp [Builtin.append_, run_underlying ht, sizeOf, typeInfo, hi, Builtin.lenOf, Builtin.firstCells, hnc, storeCells]

/-- A slice that reads as a list: its cells. -/
theorem Sl.cells {w : World} {l : List D} {fp : List Nat} {A : Option Addr} {m c : Nat} (h : Sl w l fp (.slice A m c)) : m = l.length ∧ ∃ fp' cs, Rs w l fp' cs ∧ (∀ b ∈ fp', b ∈ fp) ∧
    ((l = [] ∧ cs = []) ∨ ∃ b o, A = some ⟨b, o, none⟩ ∧ b < w.heap.size ∧ At w b o cs) := by
  unfold Sl at h
  rw [R] at h
  obtain ⟨A', cap', h1, _, _, h3⟩ := h
  simp only [List.cons.injEq, and_true, Value.slice.injEq] at h1
  obtain ⟨rfl, rfl, rfl⟩ := h1
  refine ⟨rfl, ?_⟩
  rcases h3 with ⟨rfl, rfl⟩ | ⟨b, o, fp', cs', rfl, rfl, hb, hr, ha⟩
  · exact ⟨[], [], ⟨rfl, rfl⟩, fun _ h => h, Or.inl ⟨rfl, rfl⟩⟩
  · exact ⟨fp', cs', hr, fun x hx => by simp [hx], Or.inr ⟨b, o, rfl, hb, ha⟩⟩

theorem run_append_sl {P : Program} {w : World} (base : Nat) (t ty e : TypeId) (i : TypeInfo) (z : Value) (size bytes : Nat) (ht : P.underlying t = some (.slice e)) (hi : P.info? e = some i) (hz : i.zero = some z)
    (hsize : i.size = size) (hby : i.bytes = bytes) (hzs : z.cells.size = size) (hsz : 0 < size)
    (v : Value) (n : Nat) (xs : List Value) (hown : w.ownsRow base e size v n xs)
    (l : List D) (fp : List Nat) (vx : Value) (hsl : Sl w l fp vx) (h1 : ∀ d ∈ l, d.one) (hds : ∀ d ∈ l, d.sz = size)
    (h63 : n + l.length ≤ maxLen) (hbytes : (n + l.length) * bytes ≤ 140737488355328) (hbase : base ≤ w.heap.size) :
    ∃ v' w' fp' cs, (Builtin.append_ #[t, t] ty #[v, vx]).run P w = .ok v' w' ∧ Rs w l fp' cs ∧ (∀ b ∈ fp', b ∈ fp) ∧ w'.ownsRow base e size v' (n + l.length) (xs ++ cs) ∧ w.grownBy w' v.ownBlock ∧
      (v'.ownBlock = v.ownBlock ∨ v'.ownBlock = some w.heap.size) := by
  obtain ⟨A, c, rfl, _, _⟩ := hsl.form
  obtain ⟨_, fp', cs, hr, hfp, hcs⟩ := hsl.cells
  have hlen : cs.length = l.length * size := by rw [hr.len, szs_const _ hds]
  rcases hcs with ⟨rfl, rfl⟩ | ⟨b, o, rfl, hb, ha⟩
  · cases A with
    | none => exact ⟨v, w, fp', [], run_append_of_nil base t ty e i size ht hi v n xs hown c, hr, hfp, by simpa using hown, World.grownBy.refl w _, .inl rfl⟩
    | some ad =>
      obtain ⟨v', w', hrun, h2, h3, _, h5⟩ := run_append_own_at (P := P) w base t ty e i z size bytes ht hi hz hsize hby hzs hsz v n xs hown ad 0 c [] (by simp) (fun j u hj => by simp at hj) (by simp) (by simpa using h63) (by simpa using hbytes) hbase
      exact ⟨v', w', fp', [], hrun, hr, hfp, by simpa using h2, h3, h5⟩
  · have hadd : ∀ j, (⟨b, o, none⟩ : Addr).add j = ⟨b, o + j, none⟩ := fun j => by
      unfold Addr.add
      split
      · next h => subst h; rfl
      · rfl
    obtain ⟨v', w', hrun, h2, h3, _, h5⟩ := run_append_own_at (P := P) w base t ty e i z size bytes ht hi hz hsize hby hzs hsz v n xs hown ⟨b, o, none⟩ l.length c cs hlen (fun j u hj => by rw [hadd]; exact ha j u hj) (hr.one_ (D.ones_of h1)) h63 hbytes hbase
    exact ⟨v', w', fp', cs, hrun, hr, hfp, h2, h3, h5⟩

theorem wp_append_sl {P : Program} {w : World} {o : Oper} {a : Act} {K : Act → World → Prop} {Q : Exit → Act → World → Prop} (s x : Operand) (t : TypeId)
    (ho : o.op = .call { callee := .builtin .append, args := #[s, x], argTypes := #[t, t] })
    (base : Nat) (e : TypeId) (i : TypeInfo) (z : Value) (size bytes : Nat) (ht : P.underlying t = some (.slice e)) (hi : P.info? e = some i) (hz : i.zero = some z)
    (hsize : i.size = size) (hby : i.bytes = bytes) (hzs : z.cells.size = size) (hsz : 0 < size)
    (v : Value) (n : Nat) (xs : List Value) (hs : a.eval s = v) (hown : w.ownsRow base e size v n xs)
    (l : List D) (fp : List Nat) (vx : Value) (hx : a.eval x = vx) (hsl : Sl w l fp vx) (h1 : ∀ d ∈ l, d.one) (hds : ∀ d ∈ l, d.sz = size)
    (h63 : n + l.length ≤ maxLen) (hbytes : (n + l.length) * bytes ≤ 140737488355328) (hbase : base ≤ w.heap.size)
    (h : ∀ v' w' fp' cs, Rs w l fp' cs → (∀ b ∈ fp', b ∈ fp) → w'.ownsRow base e size v' (n + l.length) (xs ++ cs) → w.grownBy w' v.ownBlock → (v'.ownBlock = v.ownBlock ∨ v'.ownBlock = some w.heap.size) → K (a.put o.dst v') w') : o.wp P a w K Q := by
  obtain ⟨v', w', fp', cs, hrun, hr, hfp, h2, h3, h4⟩ := run_append_sl (P := P) base t o.type e i z size bytes ht hi hz hsize hby hzs hsz v n xs hown l fp vx hsl h1 hds h63 hbytes hbase
  unfold Oper.wp execOp
  simp only [ho, resolve, invoke, builtin, Sem.run_bind, Sem.run_pure, Result.andThen_ok, List.map_toArray, List.map_cons, List.map_nil, hs, hx, hrun]
  exact h v' w' fp' cs hr hfp h2 h3 h4

theorem wpList_append_sl {P : Program} {w : World} {ops : Array Oper} {rest : List Oper} {o : Oper} {a : Act} {Q : Exit → Act → World → Prop} (hgd : o.guard = none) (s x : Operand) (t : TypeId)
    (ho : o.op = .call { callee := .builtin .append, args := #[s, x], argTypes := #[t, t] })
    (base : Nat) (e : TypeId) (i : TypeInfo) (z : Value) (size bytes : Nat) (ht : P.underlying t = some (.slice e)) (hi : P.info? e = some i) (hz : i.zero = some z)
    (hsize : i.size = size) (hby : i.bytes = bytes) (hzs : z.cells.size = size) (hsz : 0 < size)
    (v : Value) (n : Nat) (xs : List Value) (hs : a.eval s = v) (hown : w.ownsRow base e size v n xs)
    (l : List D) (fp : List Nat) (vx : Value) (hx : a.eval x = vx) (hsl : Sl w l fp vx) (h1 : ∀ d ∈ l, d.one) (hds : ∀ d ∈ l, d.sz = size)
    (h63 : n + l.length ≤ maxLen) (hbytes : (n + l.length) * bytes ≤ 140737488355328) (hbase : base ≤ w.heap.size)
    (h : ∀ v' w' fp' cs, Rs w l fp' cs → (∀ b ∈ fp', b ∈ fp) → w'.ownsRow base e size v' (n + l.length) (xs ++ cs) → w.grownBy w' v.ownBlock → (v'.ownBlock = v.ownBlock ∨ v'.ownBlock = some w.heap.size) → wpList P ops Q rest (a.put o.dst v') w') : wpList P ops Q (o :: rest) a w :=
  wpList_plain hgd fun _ hK => wp_append_sl s x t ho base e i z size bytes ht hi hz hsize hby hzs hsz v n xs hs hown l fp vx hx hsl h1 hds h63 hbytes hbase fun v' w' fp' cs h2 h3 h4 h5 h6 => hK _ _ (h v' w' fp' cs h2 h3 h4 h5 h6)
theorem Row.grown {w w' : World} {g : Nat} {e : TypeId} {xs : List Value} {row : Option Nat} (h : Row w g e xs) (hg : w.grownBy w' row) (hne : some g ≠ row) : Row w' g e xs := (hg.block g h.lt hne).trans h
/-- Behind two boxes, a third block, and what may have written to that one alone. -/
theorem grown3 {w w1 : World} {a b c : Array Value} {ta tb tc : TypeId} {row : Option Nat} (hg : (((w.alloc (.cells a ta)).alloc (.cells b tb)).alloc (.cells c tc)).grownBy w1 row) (hr : ∀ g, row = some g → w.heap.size + 2 ≤ g) :
    Row w1 w.heap.size ta a.toList ∧ Row w1 (w.heap.size + 1) tb b.toList ∧ w.heap.size + 3 ≤ w1.heap.size ∧ Below w.heap.size w w1 := by
  obtain ⟨h0, h1, h2, hz, hb⟩ := rows3 (Below.refl _ (((w.alloc (.cells a ta)).alloc (.cells b tb)).alloc (.cells c tc)))
  refine ⟨h0.grown hg (fun e => by have := hr _ e.symm; omega), h1.grown hg (fun e => by have := hr _ e.symm; omega), Nat.le_trans hz hg.size, hb.grown hg (by omega) (fun k hk => by have := hr _ hk; omega)⟩
theorem grown2 {w w1 : World} {a c : Array Value} {ta tc : TypeId} {row : Option Nat} (hg : ((w.alloc (.cells a ta)).alloc (.cells c tc)).grownBy w1 row) (hr : ∀ g, row = some g → w.heap.size + 1 ≤ g) :
    Row w1 w.heap.size ta a.toList ∧ w.heap.size + 2 ≤ w1.heap.size ∧ Below w.heap.size w w1 := by
  obtain ⟨h0, h1, hz, hb⟩ := rows2 (Below.refl _ ((w.alloc (.cells a ta)).alloc (.cells c tc)))
  refine ⟨h0.grown hg (fun e => by have := hr _ e.symm; omega), Nat.le_trans hz hg.size, hb.grown hg (by omega) (fun k hk => by have := hr _ hk; omega)⟩
theorem ownsRow_form {w : World} {base : Nat} {e : TypeId} {s : Nat} {v : Value} {n : Nat} {xs : List Value} (h : w.ownsRow base e s v n xs) : ∃ A c, v = .slice A n c := by
  rcases h.2 with ⟨rfl, rfl⟩ | ⟨g, cap, cur, rfl, _⟩
  · exact ⟨_, _, rfl⟩
  · exact ⟨_, _, rfl⟩
theorem ownsRow_below {w w' : World} {base : Nat} {e : TypeId} {s : Nat} {v : Value} {n : Nat} {xs : List Value} (h : w.ownsRow base e s v n xs) (hb : Below w.heap.size w w') : w'.ownsRow base e s v n xs := by
  obtain ⟨h1, h2⟩ := h
  refine ⟨h1, ?_⟩
  rcases h2 with h2 | ⟨g, cap, cur, hv, hg, hh, r⟩
  · exact Or.inl h2
  · refine Or.inr ⟨g, cap, cur, hv, hg, ?_, r⟩
    rw [hb.block]
    · exact hh
    · rcases Nat.lt_or_ge g w.heap.size with hlt | hge
      · exact hlt
      · rw [Array.getElem?_eq_none hge] at hh; cases hh
theorem ownsRow_far {w : World} {base : Nat} {e : TypeId} {s : Nat} {v : Value} {n : Nat} {xs : List Value} (h : w.ownsRow base e s v n xs) {a : Addr} (ha : v.ownBlock ≠ some a.block) (u : Value) : (w.setCell a u).ownsRow base e s v n xs := by
  obtain ⟨h1, h2⟩ := h
  refine ⟨h1, ?_⟩
  rcases h2 with h2 | ⟨g, cap, cur, hv, hg, hh, r⟩
  · exact Or.inl h2
  · refine Or.inr ⟨g, cap, cur, hv, hg, by rw [Below.heap_setCell _ _ _ _ (fun e => ha (by rw [hv, e]; rfl))]; exact hh, r⟩
theorem ownsRow_mono {w : World} {base base' : Nat} {e : TypeId} {s : Nat} {v : Value} {n : Nat} {xs : List Value} (h : w.ownsRow base e s v n xs) (hb : base' ≤ base) : w.ownsRow base' e s v n xs := by
  obtain ⟨h1, h2⟩ := h
  refine ⟨h1, ?_⟩
  rcases h2 with h2 | ⟨g, cap, cur, hv, hg, r⟩
  · exact Or.inl h2
  · exact Or.inr ⟨g, cap, cur, hv, Nat.le_trans hb hg, r⟩
end Go.Proofs.YtdjcflnemnknaaaDoor
