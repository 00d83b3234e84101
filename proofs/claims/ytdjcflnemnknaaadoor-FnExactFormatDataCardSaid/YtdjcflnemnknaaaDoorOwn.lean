/-
  Slices that the call owns, of any kind of element; append onto them; parts of slices.
-/
import Derived.Test.YtdjcflnemnknaaaDoorApp
import Derived.Test.YtdjcflnemnknaaaDoorMark
namespace Go.Proofs.YtdjcflnemnknaaaDoor
open Go.RowKit
set_option linter.unusedSimpArgs false
set_option linter.unusedVariables false

theorem Row.drew {w : World} {g : Nat} {e : TypeId} {xs : List Value} (h : Row w g e xs) : Row w.drew g e xs := h
theorem Row.new_at {w : World} {e : TypeId} {cs : Array Value} {g : Nat} (hg : w.heap.size = g) : Row (w.alloc (.cells cs e)) g e cs.toList := by
  subst hg
  exact Row.new w e cs

/-- A kind of element: its slice's type, its own type, its size. -/
structure EK (P : Program) where
  t : TypeId
  e : TypeId
  s : Nat
  ht : P.underlying t = some (.slice e)
  info : ∃ (i : TypeInfo) (z : Value), P.info? e = some i ∧ i.zero = some z ∧ i.size = s ∧ i.bytes ≤ 1024 ∧ z.cells.size = s
  h0 : 0 < s

/-- A slice that is the call's own: nil, or a row of its own; its elements' own blocks are fresh too. -/
def OwnG (w : World) (base : Nat) (e : TypeId) (s : Nat) (l : List D) (f : List Nat) (v : Value) : Prop :=
  ∃ cs, w.ownsRow base e s v l.length cs ∧ Rs w l f cs ∧ Free w base f ∧ ∀ g, v.ownBlock = some g → g ∉ f

/-- What may be appended: the cells of a list of data, somewhere. -/
def Src (w : World) (l : List D) (f : List Nat) (v : Value) : Prop :=
  ∃ A c cs, v = .slice A l.length c ∧ Rs w l f cs ∧ ((l = [] ∧ cs = []) ∨ ∃ b o, A = some ⟨b, o, none⟩ ∧ b < w.heap.size ∧ At w b o cs)

theorem Src.of_sl {w : World} {l : List D} {fp : List Nat} {v : Value} (h : Sl w l fp v) : ∃ f, Src w l f v ∧ (∀ x ∈ f, x ∈ fp) := by
  obtain ⟨A, c, rfl, _, _⟩ := h.form
  obtain ⟨_, f, cs, h1, h2, h3⟩ := h.cells
  exact ⟨f, ⟨A, c, cs, rfl, h1, h3⟩, h2⟩
theorem Src.of_flat {w : World} {l : List D} {fp : List Nat} {v : Value} (h : Sl w l fp v) (hf : ∀ (f : List Nat) (cs : List Value), Rs w l f cs → f = []) : Src w l [] v := by
  obtain ⟨f, ⟨A, c, cs, h1, h2, h3⟩, _⟩ := Src.of_sl h
  have := hf f cs h2
  subst this
  exact ⟨A, c, cs, h1, h2, h3⟩
theorem Src.one {w : World} {g : Nat} {e : TypeId} {cs : List Value} {d : D} {f : List Nat} (h : Row w g e cs) (hR : R w d f cs) : Src w [d] f (.slice (some ⟨g, 0, none⟩) 1 1) :=
  ⟨_, _, cs, rfl, Rs.one hR, Or.inr ⟨g, 0, rfl, h.lt, fun j u hj => by rw [Nat.zero_add, h.cell, hj]⟩⟩
theorem Src.two {w : World} {g : Nat} {e : TypeId} {cs : List Value} {l : List D} {f : List Nat} {n : Nat} (h : Row w g e cs) (hR : Rs w l f cs) (hn : l.length = n) : Src w l f (.slice (some ⟨g, 0, none⟩) n n) := by
  subst hn
  exact ⟨_, _, cs, rfl, hR, Or.inr ⟨g, 0, rfl, h.lt, fun j u hj => by rw [Nat.zero_add, h.cell, hj]⟩⟩

section
variable {w w' : World} {base : Nat} {e : TypeId} {s : Nat} {l : List D} {f : List Nat} {v : Value}
theorem OwnG.sl (h : OwnG w base e s l f v) : Sl w l (v.ownBlock.toList ++ f) v := by
  obtain ⟨cs, h1, h2, _⟩ := h
  exact Sl.of_own h1 h2
theorem OwnG.free (h : OwnG w base e s l f v) : Free w base (v.ownBlock.toList ++ f) := by
  obtain ⟨cs, h1, h2, h3, h4⟩ := h
  exact Free.of_own h1 h3 h4
theorem OwnG.lit {g : Nat} (hg : w.heap.size = g) (hb : base ≤ g) : OwnG (w.alloc (.cells #[] e)) base e s [] [] (.slice (some ⟨g, 0, none⟩) 0 0) := by
  subst hg
  exact ⟨[], World.ownsRow_lit w #[] 0 hb (by simp) (by simp), ⟨rfl, rfl⟩, Free.nil, fun _ _ => by simp⟩
theorem OwnG.nil : OwnG w base e s [] [] (.slice none 0 0) :=
  ⟨[], ⟨by simp, Or.inl ⟨rfl, rfl⟩⟩, ⟨rfl, rfl⟩, Free.nil, fun _ _ => by simp⟩
theorem OwnG.lt (h : OwnG w base e s l f v) : ∀ x ∈ f, x < w.heap.size := by
  obtain ⟨cs, h1, h2, _⟩ := h
  exact Rs.lt h2
theorem OwnG.below (h : OwnG w base e s l f v) (hb : Below w.heap.size w w') : OwnG w' base e s l f v := by
  obtain ⟨cs, h1, h2, h3, h4⟩ := h
  exact ⟨cs, ownsRow_below h1 hb, h2.below hb, h3.below (Rs.lt h2) hb, h4⟩
theorem OwnG.far (h : OwnG w base e s l f v) {a : Addr} (ha : v.ownBlock ≠ some a.block) (hf : a.block ∉ f) (u : Value) : OwnG (w.setCell a u) base e s l f v := by
  obtain ⟨cs, h1, h2, h3, h4⟩ := h
  exact ⟨cs, ownsRow_far h1 ha u, h2.setCell hf u, h3.setCell hf u, h4⟩
theorem OwnG.mono {base' : Nat} (h : OwnG w base e s l f v) (hb : base' ≤ base) : OwnG w base' e s l f v := by
  obtain ⟨cs, h1, h2, h3, h4⟩ := h
  exact ⟨cs, ownsRow_mono h1 hb, h2, h3.mono hb, h4⟩
theorem OwnG.form (h : OwnG w base e s l f v) : ∃ A c, v = .slice A l.length c := by
  obtain ⟨cs, h1, _⟩ := h
  exact ownsRow_form h1
theorem OwnG.ge (h : OwnG w base e s l f v) : ∀ g, v.ownBlock = some g → base ≤ g ∧ g < w.heap.size := by
  obtain ⟨cs, h1, _⟩ := h
  intro g hg
  exact World.ownsRow.lt h1 g hg
theorem OwnG.tos {W : World} (h : OwnG w' W.heap.size e s l f v) (hb : Below W.heap.size W w') : TosPost l W (.returned v) w' := ⟨_, v, rfl, h.sl, h.free, hb⟩
end
theorem run_append_G {P : Program} {w : World} (k : EK P) (ty : TypeId) (base : Nat) (v : Value) (l0 : List D) (f0 : List Nat) (hown : OwnG w base k.e k.s l0 f0 v) (l : List D) (f : List Nat) (vx : Value) (hsrc : Src w l f vx)
    (h1 : ∀ d ∈ l, d.one) (hds : ∀ d ∈ l, d.sz = k.s) (hF : Free w base f) (hdis : ∀ x ∈ f, x ∉ f0 ∧ v.ownBlock ≠ some x) (hn : l0.length + l.length ≤ 4194304) (hbase : base ≤ w.heap.size) :
    ∃ v' w', (Builtin.append_ #[k.t, k.t] ty #[v, vx]).run P w = .ok v' w' ∧ OwnG w' base k.e k.s (l0 ++ l) (f0 ++ f) v' ∧ w.grownBy w' v.ownBlock ∧ (v'.ownBlock = v.ownBlock ∨ v'.ownBlock = some w.heap.size) := by
  obtain ⟨cs0, o1, o2, o3, o4⟩ := hown
  obtain ⟨A, c, cs, rfl, hr, hcs⟩ := hsrc
  obtain ⟨i, z, hi, hz, hsz, hby, hzs⟩ := k.info
  have h0 := k.h0
  have hlen : cs.length = l.length * k.s := by rw [hr.len, szs_const _ hds]
  have h63 : l0.length + l.length ≤ maxLen := by unfold maxLen; omega
  have hbytes : (l0.length + l.length) * i.bytes ≤ 140737488355328 := Nat.le_trans (Nat.mul_le_mul hn hby) (by decide)
  have key : ∃ v' w', (Builtin.append_ #[k.t, k.t] ty #[v, .slice A l.length c]).run P w = .ok v' w' ∧ w'.ownsRow base k.e k.s v' (l0.length + l.length) (cs0 ++ cs) ∧ w.grownBy w' v.ownBlock ∧ (v'.ownBlock = v.ownBlock ∨ v'.ownBlock = some w.heap.size) := by
    rcases hcs with ⟨rfl, rfl⟩ | ⟨b, o, rfl, hb, ha⟩
    · cases A with
      | none => exact ⟨v, w, run_append_of_nil base k.t ty k.e i k.s k.ht hi v _ _ o1 c, by simpa using o1, World.grownBy.refl w _, .inl rfl⟩
      | some ad =>
        obtain ⟨v', w', hrun, h2, h3, _, h5⟩ := run_append_own_at (P := P) w base k.t ty k.e i z k.s i.bytes k.ht hi hz hsz rfl hzs h0 v _ _ o1 ad 0 c [] (by simp) (fun j u hj => by simp at hj) (by simp) (by simpa using h63) (by simpa using hbytes) hbase
        exact ⟨v', w', hrun, by simpa using h2, h3, h5⟩
    · have hadd : ∀ j, (⟨b, o, none⟩ : Addr).add j = ⟨b, o + j, none⟩ := fun j => by
        unfold Addr.add
        split
        · next h => subst h; rfl
        · rfl
      obtain ⟨v', w', hrun, h2, h3, _, h5⟩ := run_append_own_at (P := P) w base k.t ty k.e i z k.s i.bytes k.ht hi hz hsz rfl hzs h0 v _ _ o1 ⟨b, o, none⟩ l.length c cs hlen (fun j u hj => by rw [hadd]; exact ha j u hj) (hr.one_ (D.ones_of h1)) h63 hbytes hbase
      exact ⟨v', w', hrun, h2, h3, h5⟩
  obtain ⟨v', w', hrun, h2, hg, hat⟩ := key
  have hl0 := Rs.lt o2
  have hl1 := Rs.lt hr
  have r0 := o2.grown hg (fun g hgv => o4 g hgv)
  have r1 := hr.grown hg (fun g hgv hm => (hdis g hm).2 hgv)
  refine ⟨v', w', hrun, ⟨cs0 ++ cs, by rw [List.length_append]; exact h2, Rs.append r1 r0, ⟨List.nodup_append.2 ⟨o3.1, hF.1, fun a ha b hb' e => (hdis b hb').1 (e ▸ ha)⟩, fun b hb => ?_⟩, fun g hgv hm => ?_⟩, hg, hat⟩
  · have hold : base ≤ b ∧ (∀ o, w.frozen? ⟨b, o, none⟩ = false) ∧ b < w.heap.size ∧ some b ≠ v.ownBlock := by
      rcases List.mem_append.1 hb with h | h
      · exact ⟨(o3.2 b h).1, (o3.2 b h).2, hl0 b h, fun e => o4 b e.symm h⟩
      · exact ⟨(hF.2 b h).1, (hF.2 b h).2, hl1 b h, fun e => (hdis b h).2 e.symm⟩
    exact ⟨hold.1, fun o => by rw [World.frozen?_of_block (w := w) (hg.block b hold.2.2.1 hold.2.2.2)]; exact hold.2.1 o⟩
  · rcases hat with h | h
    · rw [h] at hgv
      rcases List.mem_append.1 hm with h' | h'
      · exact o4 g hgv h'
      · exact (hdis g h').2 hgv
    · rw [h] at hgv
      injection hgv with e
      subst e
      rcases List.mem_append.1 hm with h' | h'
      · exact Nat.lt_irrefl _ (hl0 _ h')
      · exact Nat.lt_irrefl _ (hl1 _ h')

theorem wp_append_G {P : Program} {w : World} {o : Oper} {a : Act} {K : Act → World → Prop} {Q : Exit → Act → World → Prop} (k : EK P) (s x : Operand)
    (ho : o.op = .call { callee := .builtin .append, args := #[s, x], argTypes := #[k.t, k.t] })
    (base : Nat) (v : Value) (hs : a.eval s = v) (l0 : List D) (f0 : List Nat) (hown : OwnG w base k.e k.s l0 f0 v) (l : List D) (f : List Nat) (vx : Value) (hx : a.eval x = vx) (hsrc : Src w l f vx)
    (h1 : ∀ d ∈ l, d.one) (hds : ∀ d ∈ l, d.sz = k.s) (hF : Free w base f) (hdis : ∀ x ∈ f, x ∉ f0 ∧ v.ownBlock ≠ some x) (hn : l0.length + l.length ≤ 4194304) (hbase : base ≤ w.heap.size)
    (h : ∀ v' w', OwnG w' base k.e k.s (l0 ++ l) (f0 ++ f) v' → w.grownBy w' v.ownBlock → (v'.ownBlock = v.ownBlock ∨ v'.ownBlock = some w.heap.size) → K (a.put o.dst v') w') : o.wp P a w K Q := by
  obtain ⟨v', w', hrun, h2, h3, h4⟩ := run_append_G (P := P) k o.type base v l0 f0 hown l f vx hsrc h1 hds hF hdis hn hbase
  unfold Oper.wp execOp
  simp only [ho, resolve, invoke, builtin, Sem.run_bind, Sem.run_pure, Result.andThen_ok, List.map_toArray, List.map_cons, List.map_nil, hs, hx, hrun]
  exact h v' w' h2 h3 h4
theorem wpList_append_G {P : Program} {w : World} {ops : Array Oper} {rest : List Oper} {o : Oper} {a : Act} {Q : Exit → Act → World → Prop} (hgd : o.guard = none) (k : EK P) (s x : Operand)
    (ho : o.op = .call { callee := .builtin .append, args := #[s, x], argTypes := #[k.t, k.t] })
    (base : Nat) (v : Value) (hs : a.eval s = v) (l0 : List D) (f0 : List Nat) (hown : OwnG w base k.e k.s l0 f0 v) (l : List D) (f : List Nat) (vx : Value) (hx : a.eval x = vx) (hsrc : Src w l f vx)
    (h1 : ∀ d ∈ l, d.one) (hds : ∀ d ∈ l, d.sz = k.s) (hF : Free w base f) (hdis : ∀ x ∈ f, x ∉ f0 ∧ v.ownBlock ≠ some x) (hn : l0.length + l.length ≤ 4194304) (hbase : base ≤ w.heap.size)
    (h : ∀ v' w', OwnG w' base k.e k.s (l0 ++ l) (f0 ++ f) v' → w.grownBy w' v.ownBlock → (v'.ownBlock = v.ownBlock ∨ v'.ownBlock = some w.heap.size) → wpList P ops Q rest (a.put o.dst v') w') : wpList P ops Q (o :: rest) a w :=
  wpList_plain hgd fun _ hK => wp_append_G k s x ho base v hs l0 f0 hown l f vx hx hsrc h1 hds hF hdis hn hbase fun v' w' h2 h3 h4 => hK _ _ (h v' w' h2 h3 h4)
theorem step_append_G {P : Program} {w : World} {ops : Array Oper} {o : Oper} {a : Act} {K : Act → World → Prop} {Q : Exit → Act → World → Prop} {E : Prop} (hgd : o.guard = none) (k : EK P) (s x : Operand)
    (ho : o.op = .call { callee := .builtin .append, args := #[s, x], argTypes := #[k.t, k.t] })
    (base : Nat) (v : Value) (hs : a.eval s = v) (l0 : List D) (f0 : List Nat) (hown : OwnG w base k.e k.s l0 f0 v) (l : List D) (f : List Nat) (vx : Value) (hx : a.eval x = vx) (hsrc : Src w l f vx)
    (h1 : ∀ d ∈ l, d.one) (hds : ∀ d ∈ l, d.sz = k.s) (hF : Free w base f) (hdis : ∀ x ∈ f, x ∉ f0 ∧ v.ownBlock ≠ some x) (hn : l0.length + l.length ≤ 4194304) (hbase : base ≤ w.heap.size)
    (h : ∀ v' w', OwnG w' base k.e k.s (l0 ++ l) (f0 ++ f) v' → w.grownBy w' v.ownBlock → (v'.ownBlock = v.ownBlock ∨ v'.ownBlock = some w.heap.size) → K (a.put o.dst v') w') :
    if Region.wanted o (yielded ops a.tmps) = true then Oper.wp P o a w K Q else E := by
  have hw : Region.wanted o (yielded ops a.tmps) = true := by simp [Region.wanted, hgd]
  rw [if_pos hw]
  exact wp_append_G k s x ho base v hs l0 f0 hown l f vx hx hsrc h1 hds hF hdis hn hbase h

/-- A block that was grown past: what is behind the call's beginning. -/
theorem below_own {B : Nat} {a w w1 : World} {v : Value} (hb : Below B a w) (hg : w.grownBy w1 v.ownBlock) (hs : B ≤ w.heap.size) (hv : ∀ g, v.ownBlock = some g → B ≤ g) : Below B a w1 := hb.grown hg hs hv
theorem free_nil {w : World} {base : Nat} : Free w base [] := Free.nil
theorem dis_nil {f0 : List Nat} {v : Value} : ∀ x ∈ ([] : List Nat), x ∉ f0 ∧ v.ownBlock ≠ some x := fun x hx => by simp at hx

/-! ### Parts of slices -/
theorem Sl.take {w : World} {l : List D} {fp : List Nat} {A : Option Addr} {n cap k : Nat} (h : Sl w l fp (.slice A n cap)) (hk : k ≤ l.length) : ∃ f, Sl w (l.take k) f (.slice A k cap) ∧ ∀ x ∈ f, x ∈ fp := by
  unfold Sl at h ⊢
  rw [R] at h
  obtain ⟨A', cap', h1, h2, h3, h4⟩ := h
  simp only [List.cons.injEq, and_true, Value.slice.injEq] at h1
  obtain ⟨rfl, rfl, rfl⟩ := h1
  have hl : (l.take k).length = k := by rw [List.length_take]; omega
  rcases h4 with ⟨rfl, rfl⟩ | ⟨b, o, fp', cs', rfl, rfl, hb, hr, ha⟩
  · have : k = 0 := by simpa using hk
    subst this
    refine ⟨[], ?_, fun _ hx => hx⟩
    rw [R]
    exact ⟨A, cap, by simp, by simp, h3, Or.inl ⟨by simp, rfl⟩⟩
  · have hr' := hr
    rw [← List.take_append_drop k l] at hr'
    obtain ⟨f1, f2, c1, c2, rfl, rfl, r1, r2⟩ := Rs.split hr'
    refine ⟨b :: f1, ?_, fun x hx => by
      rcases List.mem_cons.1 hx with rfl | h
      · simp
      · simp [h]⟩
    rw [R]
    exact ⟨_, cap, by rw [hl], by rw [hl]; omega, h3, Or.inr ⟨b, o, f1, c1, rfl, rfl, hb, r1, ha.left⟩⟩
theorem Sl.drop {w : World} {l : List D} {fp : List Nat} {b o n cap k s : Nat} (h : Sl w l fp (.slice (some ⟨b, o, none⟩) n cap)) (hs : ∀ d ∈ l, d.sz = s) (hk : k ≤ l.length) : ∃ f, Sl w (l.drop k) f (.slice (some ⟨b, o + k * s, none⟩) (n - k) (cap - k)) ∧ ∀ x ∈ f, x ∈ fp := by
  unfold Sl at h ⊢
  rw [R] at h
  obtain ⟨A', cap', h1, h2, h3, h4⟩ := h
  simp only [List.cons.injEq, and_true, Value.slice.injEq] at h1
  obtain ⟨rfl, rfl, rfl⟩ := h1
  have hl : (l.drop k).length = l.length - k := List.length_drop
  rcases h4 with ⟨rfl, rfl⟩ | ⟨b', o', fp', cs', hbo, rfl, hb, hr, ha⟩
  · refine ⟨[], ?_, fun _ hx => hx⟩
    rw [R]
    exact ⟨some ⟨b, o + k * s, none⟩, cap - k, by simp, by simp, by omega, Or.inl ⟨by simp, rfl⟩⟩
  · injection hbo with hbo
    injection hbo with hb1 hb2 _
    subst hb1 hb2
    have hr' := hr
    rw [← List.take_append_drop k l] at hr'
    obtain ⟨f1, f2, c1, c2, rfl, rfl, r1, r2⟩ := Rs.split hr'
    have hc1 : c1.length = k * s := by rw [r1.len, szs_const (s := s) _ (fun d hd => hs d (List.mem_of_mem_take hd)), List.length_take, Nat.min_eq_left hk]
    refine ⟨b :: f2, ?_, fun x hx => by
      rcases List.mem_cons.1 hx with rfl | h
      · simp
      · simp [h]⟩
    rw [R]
    exact ⟨_, _, by rw [hl], by rw [hl]; omega, by omega, Or.inr ⟨b, o + k * s, f2, c2, rfl, rfl, hb, r2, by have := ha.right; rwa [hc1] at this⟩⟩

theorem ek_info {P : Program} {e : TypeId} {s : Nat} (h : (P.info? e).map (fun i => (i.zero.map (fun z => z.cells.size), i.size, decide (i.bytes ≤ 1024))) = some (some s, s, true)) :
    ∃ (i : TypeInfo) (z : Value), P.info? e = some i ∧ i.zero = some z ∧ i.size = s ∧ i.bytes ≤ 1024 ∧ z.cells.size = s := by
  obtain ⟨i, hi, h2⟩ := Option.map_eq_some_iff.1 h
  simp only [Prod.mk.injEq, decide_eq_true_eq] at h2
  obtain ⟨hz, hs, hb⟩ := h2
  obtain ⟨z, hz1, hz2⟩ := Option.map_eq_some_iff.1 hz
  exact ⟨i, z, hi, hz1, hs, hb, hz2⟩
theorem addr_add_zero (a : Addr) : a.add (0 : Nat) = a := by unfold Addr.add; simp
theorem EK.elem {P : Program} (k : EK P) : P.elem k.t = k.e := by
  have h := k.ht
  simp only [Program.elem]
  rw [h]
theorem EK.sizeOf {P : Program} (k : EK P) (w : World) : (Go.sizeOf k.e).run P w = .ok k.s w := by
  obtain ⟨i, z, hi, hz, hs, _, _⟩ := k.info
  simp [Go.sizeOf, typeInfo, hi, hs]
theorem EK.sub_hi {P : Program} (k : EK P) {A : Option Addr} {n cap : Nat} (hi : Nat) (h : hi ≤ n) (hc : n ≤ cap) (w : World) :
    (Instr.slice k.t (.slice A n cap) none (some (.int .i64 (hi : Int))) none).run P w = .ok (.slice A hi cap) w := by
  have ht : P.underlying k.t = some (.slice (P.elem k.t)) := by rw [k.elem]; exact k.ht
  rw [run_slice_h (P := P) w k.t A n cap ht .i64 (hi : Int) (by omega) (by omega), k.elem, k.sizeOf]
  simp only [Result.andThen, sliced, Int.toNat_natCast, Nat.sub_zero, Nat.zero_mul]
  congr 2
  split
  · rfl
  · cases A with
    | none => rfl
    | some a => simp [addr_add_zero]
theorem EK.sub_lo {P : Program} (k : EK P) {A : Option Addr} {n cap : Nat} (lo : Nat) (h : lo ≤ n) (hc : n ≤ cap) :
    ∃ A', (∀ w : World, (Instr.slice k.t (.slice A n cap) (some (.int .i64 (lo : Int))) none none).run P w = .ok (.slice A' (n - lo) (cap - lo)) w) ∧
      ∀ (w : World) (l : List D) (fp : List Nat), (∀ d ∈ l, d.sz = k.s) → Sl w l fp (.slice A n cap) → ∃ f, Sl w (l.drop lo) f (.slice A' (n - lo) (cap - lo)) ∧ ∀ x ∈ f, x ∈ fp := by
  have ht : P.underlying k.t = some (.slice (P.elem k.t)) := by rw [k.elem]; exact k.ht
  refine ⟨if cap = lo then A else A.map (·.add (lo * k.s)), fun w => ?_, fun w l fp hs hS => ?_⟩
  · rw [run_slice_l (P := P) w k.t A n cap ht .i64 (lo : Int) (by omega) (by omega), k.elem, k.sizeOf]
    simp only [Result.andThen, sliced, Int.toNat_natCast]
  · have hn : n = l.length := by
      obtain ⟨A', c', h1, _, _⟩ := hS.form
      injection h1
    have hcap : cap ≤ maxLen := by
      obtain ⟨A', c', h1, _, h3⟩ := hS.form
      injection h1 with _ _ e
      omega
    subst hn
    by_cases hd : l.drop lo = []
    · have hl : l.length - lo = 0 := by have := congrArg List.length hd; simpa using this
      refine ⟨[], ?_, fun _ hx => by simp at hx⟩
      unfold Sl
      rw [hd, R, hl]
      exact ⟨_, _, rfl, by simp, by omega, Or.inl ⟨rfl, rfl⟩⟩
    · have hlt : lo < l.length := by
        rcases Nat.lt_or_ge lo l.length with h1 | h1
        · exact h1
        · exact absurd (List.drop_eq_nil_of_le h1) hd
      rw [if_neg (by omega)]
      have hS' := hS
      unfold Sl at hS'
      rw [R] at hS'
      obtain ⟨A', c', h1, _, _, h4⟩ := hS'
      simp only [List.cons.injEq, and_true, Value.slice.injEq] at h1
      obtain ⟨rfl, _, rfl⟩ := h1
      rcases h4 with ⟨rfl, _⟩ | ⟨b, o, fp', cs', rfl, _⟩
      · simp at hlt
      · obtain ⟨f, h5, h6⟩ := Sl.drop hS hs h
        refine ⟨f, ?_, h6⟩
        have ha : (⟨b, o, none⟩ : Addr).add (lo * k.s) = ⟨b, o + lo * k.s, none⟩ := by
          unfold Addr.add
          split
          · next h => rw [h]; rfl
          · rfl
        rw [Option.map_some, ha]
        exact h5

/-- The first k of an owned row of flat elements. -/
theorem OwnG.trunc {w : World} {base : Nat} {e : TypeId} {s : Nat} {l : List D} {A : Option Addr} {n c k : Nat} (h : OwnG w base e s l [] (.slice A n c)) (hds : ∀ d ∈ l, d.sz = s) (hk : k ≤ l.length) : OwnG w base e s (l.take k) [] (.slice A k c) := by
  obtain ⟨cs, ⟨h1, h2⟩, h3, h4, h5⟩ := h
  have hl : (l.take k).length = k := by rw [List.length_take]; omega
  have h3' := h3
  rw [← List.take_append_drop k l] at h3'
  obtain ⟨f1, f2, c1, c2, hf, rfl, r1, r2⟩ := Rs.split h3'
  obtain ⟨rfl, rfl⟩ := List.append_eq_nil_iff.1 hf.symm
  have hc1 : c1.length = k * s := by rw [r1.len, szs_const (s := s) _ (fun d hd => hds d (List.mem_of_mem_take hd)), hl]
  refine ⟨c1, ⟨by rw [hl]; exact hc1, ?_⟩, r1, Free.nil, fun _ _ => by simp⟩
  rcases h2 with ⟨h6, h7⟩ | ⟨g, cap, cur, h6, h7, h8, h9, h10, h11, h12⟩
  · have : k = 0 := by omega
    subst this
    injection h6 with h61 h62 h63
    subst h61 h63
    exact Or.inl ⟨rfl, by rw [hl]⟩
  · injection h6 with h61 h62 h63
    subst h61 h63
    refine Or.inr ⟨g, c, cur, by rw [hl], h7, h8, by rw [hl]; omega, h10, h11, ?_⟩
    rw [hl]
    have := congrArg (List.take (k * s)) h12
    rw [List.take_take, Nat.min_eq_left (Nat.mul_le_mul_right s hk), ← hc1, List.take_left'] at this
    · rw [← hc1]; exact this
    · rfl
theorem OwnG.drewN {w : World} {base : Nat} {e : TypeId} {s : Nat} {l : List D} {f : List Nat} {v : Value} (h : OwnG w base e s l f v) (n : Nat) : OwnG (w.drewN n) base e s l f v := h.below (below_drewN (Below.refl _ _) n)

theorem OwnG.formPos {w : World} {base : Nat} {e : TypeId} {s : Nat} {l : List D} {f : List Nat} {v : Value} (h : OwnG w base e s l f v) (hl : 0 < l.length) : ∃ g c, v = .slice (some ⟨g, 0, none⟩) l.length c := by
  obtain ⟨cs, ⟨h1, h2⟩, _⟩ := h
  rcases h2 with ⟨_, h3⟩ | ⟨g, cap, cur, h3, _⟩
  · omega
  · exact ⟨g, cap, h3⟩
end Go.Proofs.YtdjcflnemnknaaaDoor
