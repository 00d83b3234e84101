/-
  Data that is marked, leaf by leaf, with numbers that go up; what a mark leaves as it was. No Go text in sight.
-/
import Derived.Test.YtdjcflnemnknaaaDoorTypes
namespace Go.Proofs.YtdjcflnemnknaaaDoor
open Go.RowKit
set_option linter.unusedVariables false

/-- The decimal digits of a number; none for 0. -/
def decN (n : Nat) : List UInt8 := if h : n = 0 then [] else decN (n / 10) ++ [UInt8.ofNat (48 + n % 10)]
termination_by n
decreasing_by omega
theorem decN_zero : decN 0 = [] := by rw [decN]; simp
theorem decN_pos {n : Nat} (h : n ≠ 0) : decN n = decN (n / 10) ++ [UInt8.ofNat (48 + n % 10)] := by rw [decN]; simp [h]
def mtxt (k : Int) : ByteArray := if k ≤ 0 then ⟨#[109, 48]⟩ else ⟨(109 :: decN k.toNat).toArray⟩

mutual
def D.cnt : D → Nat
  | .leaf _ => 1
  | .sl l => D.cnts l
  | .agg l => D.cnts l
def D.cnts : List D → Nat
  | [] => 0
  | d :: l => d.cnt + D.cnts l
end
def mleaf (v : Value) (k : Int) : Value := match v with | .string _ => .string (mtxt k) | _ => .int .i64 k
mutual
def D.mk : D → Int → D
  | .leaf v, k => .leaf (mleaf v k)
  | .sl l, k => .sl (D.mks l k)
  | .agg l, k => .agg (D.mks l k)
def D.mks : List D → Int → List D
  | [], _ => []
  | d :: l, k => d.mk k :: D.mks l (k + d.cnt)
end
theorem D.mks_nil (k : Int) : D.mks [] k = [] := by rw [D.mks]
theorem D.mks_cons (d : D) (l : List D) (k : Int) : D.mks (d :: l) k = d.mk k :: D.mks l (k + d.cnt) := by rw [D.mks]
theorem D.cnts_nil : D.cnts [] = 0 := by rw [D.cnts]
theorem D.cnts_cons (d : D) (l : List D) : D.cnts (d :: l) = d.cnt + D.cnts l := by rw [D.cnts]
theorem D.mks_length : ∀ (l : List D) (k : Int), (D.mks l k).length = l.length
  | [], _ => by rw [D.mks_nil]
  | d :: l, k => by rw [D.mks_cons, List.length_cons, List.length_cons, D.mks_length l]
theorem D.cnts_append : ∀ (a b : List D), D.cnts (a ++ b) = D.cnts a + D.cnts b
  | [], b => by rw [D.cnts_nil, List.nil_append, Nat.zero_add]
  | d :: a, b => by rw [List.cons_append, D.cnts_cons, D.cnts_cons, D.cnts_append a b, Nat.add_assoc]
theorem D.mks_append : ∀ (a b : List D) (k : Int), D.mks (a ++ b) k = D.mks a k ++ D.mks b (k + D.cnts a)
  | [], b, k => by rw [D.mks_nil, D.cnts_nil, List.nil_append, List.nil_append]; simp
  | d :: a, b, k => by
    rw [List.cons_append, D.mks_cons, D.mks_cons, D.mks_append a b, D.cnts_cons, List.cons_append]
    congr 3
    push_cast
    omega
mutual
theorem D.mk_sz : ∀ (d : D) (k : Int), (d.mk k).sz = d.sz
  | .leaf _, _ => rfl
  | .sl _, _ => rfl
  | .agg l, k => by rw [D.mk, D.sz, D.sz, D.mks_szs l]
theorem D.mks_szs : ∀ (l : List D) (k : Int), D.szs (D.mks l k) = D.szs l
  | [], _ => by rw [D.mks_nil]
  | d :: l, k => by rw [D.mks_cons, D.szs, D.szs, D.mk_sz d, D.mks_szs l]
end
mutual
theorem D.mk_cnt : ∀ (d : D) (k : Int), (d.mk k).cnt = d.cnt
  | .leaf _, _ => rfl
  | .sl l, k => by rw [D.mk, D.cnt, D.cnt, D.mks_cnts l]
  | .agg l, k => by rw [D.mk, D.cnt, D.cnt, D.mks_cnts l]
theorem D.mks_cnts : ∀ (l : List D) (k : Int), D.cnts (D.mks l k) = D.cnts l
  | [], _ => by rw [D.mks_nil]
  | d :: l, k => by rw [D.mks_cons, D.cnts, D.cnts, D.mk_cnt d, D.mks_cnts l]
end
theorem D.cnts_take (l : List D) {i : Nat} (h : i < l.length) : D.cnts (l.take (i + 1)) = D.cnts (l.take i) + (l[i]).cnt := by
  rw [List.take_succ_eq_append_getElem h, D.cnts_append, D.cnts_cons, D.cnts_nil, Nat.add_zero]
theorem D.cnts_take_le (l : List D) (i : Nat) : D.cnts (l.take i) ≤ D.cnts l := by
  have := D.cnts_append (l.take i) (l.drop i)
  rw [List.take_append_drop] at this
  omega
/-- The first i are marked. -/
def part (l : List D) (k : Int) (i : Nat) : List D := D.mks (l.take i) k ++ l.drop i
theorem part_zero (l : List D) (k : Int) : part l k 0 = l := by simp [part, D.mks_nil]
theorem part_all (l : List D) (k : Int) {i : Nat} (h : l.length ≤ i) : part l k i = D.mks l k := by
  unfold part
  rw [List.take_of_length_le h, List.drop_eq_nil_of_le h, List.append_nil]
theorem part_length (l : List D) (k : Int) (i : Nat) : (part l k i).length = l.length := by
  unfold part
  rw [List.length_append, D.mks_length, ← List.length_append, List.take_append_drop]
theorem part_get (l : List D) (k : Int) {i : Nat} (h : i < l.length) : (part l k i)[i]? = some l[i] := by
  unfold part
  rw [List.getElem?_append_right (by rw [D.mks_length, List.length_take]; omega), D.mks_length, List.length_take, Nat.min_eq_left (by omega), Nat.sub_self, List.getElem?_drop, Nat.add_zero, List.getElem?_eq_getElem h]
theorem part_succ (l : List D) (k : Int) {i : Nat} (h : i < l.length) : (part l k i).set i ((l[i]).mk (k + D.cnts (l.take i))) = part l k (i + 1) := by
  unfold part
  have hl : (D.mks (l.take i) k).length = i := by rw [D.mks_length, List.length_take]; omega
  rw [List.take_succ_eq_append_getElem h, D.mks_append, List.set_append_right _ _ (by omega), hl, Nat.sub_self, List.drop_eq_getElem_cons h, List.set_cons_zero, D.mks_cons, D.mks_nil, List.append_assoc]
  rfl
theorem part_sz {l : List D} {s : Nat} (hs : ∀ d ∈ l, d.sz = s) (k : Int) (i : Nat) : ∀ d ∈ part l k i, d.sz = s := by
  intro d hd
  unfold part at hd
  rcases List.mem_append.1 hd with h | h
  · have aux : ∀ (l : List D) (k : Int), (∀ d ∈ l, d.sz = s) → ∀ d ∈ D.mks l k, d.sz = s := by
      intro l
      induction l with
      | nil => intro k _ d hd; rw [D.mks_nil] at hd; simp at hd
      | cons x l ih =>
        intro k hx d hd
        rw [D.mks_cons] at hd
        rcases List.mem_cons.1 hd with rfl | hd
        · rw [D.mk_sz]; exact hx x (by simp)
        · exact ih _ (fun y hy => hx y (by simp [hy])) d hd
    exact aux _ _ (fun y hy => hs y (List.mem_of_mem_take hy)) d h
  · exact hs d (List.mem_of_mem_drop h)
theorem mks_get (l : List D) (k : Int) {i : Nat} (h : i < l.length) : (D.mks l k)[i]? = some ((l[i]).mk (k + D.cnts (l.take i))) := by
  have e : D.mks l k = part l k l.length := (part_all l k (Nat.le_refl _)).symm
  have hp := part_succ l k h
  have : D.mks l k = D.mks (l.take (i + 1)) k ++ D.mks (l.drop (i + 1)) (k + D.cnts (l.take (i + 1))) := by rw [← D.mks_append, List.take_append_drop]
  rw [this, List.getElem?_append_left (by rw [D.mks_length, List.length_take]; omega), List.take_succ_eq_append_getElem h, D.mks_append, List.getElem?_append_right (by rw [D.mks_length, List.length_take]; omega), D.mks_length, List.length_take, Nat.min_eq_left (by omega), Nat.sub_self, D.mks_cons]
  rfl

mutual
/-- The marks of a value that is handed on: what stands in its slices alone. -/
def D.acnt : D → Nat
  | .leaf _ => 0
  | .sl l => D.cnts l
  | .agg l => D.acnts l
def D.acnts : List D → Nat
  | [] => 0
  | d :: l => d.acnt + D.acnts l
end
mutual
def D.amk : D → Int → D
  | .leaf v, _ => .leaf v
  | .sl l, k => .sl (D.mks l k)
  | .agg l, k => .agg (D.amks l k)
def D.amks : List D → Int → List D
  | [], _ => []
  | d :: l, k => d.amk k :: D.amks l (k + d.acnt)
end

/-! ### What is touched -/
structure Touch (fp : List Nat) (w w' : World) : Prop where
  os : w'.os = w.os
  tape : w'.tape = w.tape
  output : w'.output = w.output
  size : w.heap.size ≤ w'.heap.size
  block : ∀ k, k < w.heap.size → k ∉ fp → w'.heap[k]? = w.heap[k]?
  froz : ∀ b o, b < w.heap.size → w'.frozen? ⟨b, o, none⟩ = w.frozen? ⟨b, o, none⟩
theorem Touch.refl (fp : List Nat) (w : World) : Touch fp w w := ⟨rfl, rfl, rfl, Nat.le_refl _, fun _ _ _ => rfl, fun _ _ _ => rfl⟩
theorem Touch.trans {fp : List Nat} {a b c : World} (h : Touch fp a b) (k : Touch fp b c) : Touch fp a c :=
  ⟨k.os.trans h.os, k.tape.trans h.tape, k.output.trans h.output, Nat.le_trans h.size k.size, fun i hi hn => (k.block i (Nat.lt_of_lt_of_le hi h.size) hn).trans (h.block i hi hn), fun b o hb => (k.froz b o (Nat.lt_of_lt_of_le hb h.size)).trans (h.froz b o hb)⟩
theorem Touch.mono {fp fp' : List Nat} {a b : World} (h : Touch fp a b) (hf : ∀ x ∈ fp, x ∈ fp') : Touch fp' a b :=
  ⟨h.os, h.tape, h.output, h.size, fun i hi hn => h.block i hi fun hm => hn (hf i hm), h.froz⟩
theorem Touch.of_below {fp : List Nat} {a b : World} (h : Below a.heap.size a b) : Touch fp a b :=
  ⟨h.os, h.tape, h.output, h.size, fun i hi _ => h.block i hi, fun x o hx => h.frozen (p := ⟨x, o, none⟩) hx⟩
theorem Touch.below {fp : List Nat} {a b c : World} (h : Touch fp a b) (k : Below b.heap.size b c) : Touch fp a c := h.trans (Touch.of_below k)
theorem Touch.toBelow {fp : List Nat} {B : Nat} {a b c : World} (h : Below B a b) (k : Touch fp b c) (hf : ∀ x ∈ fp, B ≤ x) (hs : B ≤ b.heap.size) : Below B a c :=
  h.trans ⟨k.os, k.tape, k.output, k.size, fun i hi => k.block i (by omega) (fun hm => by have := hf i hm; omega)⟩
theorem Touch.kept {fp : List Nat} {lo hi : Nat} {a b : World} (h : Touch fp a b) (hf : ∀ x ∈ fp, lo ≤ x ∧ x < hi) : Kept lo hi a b :=
  ⟨h.os, h.tape, h.output, h.size, fun i hi' ho => h.block i hi' (fun hm => by have := hf i hm; omega)⟩
theorem Free.touch {fp : List Nat} {a b : World} {base : Nat} {g : List Nat} (hF : Free a base g) (hl : ∀ x ∈ g, x < a.heap.size) (h : Touch fp a b) : Free b base g :=
  ⟨hF.1, fun x hx => ⟨(hF.2 x hx).1, fun o => by rw [h.froz x o (hl x hx)]; exact (hF.2 x hx).2 o⟩⟩
theorem R.touch {fp : List Nat} {a b : World} {d : D} {g : List Nat} {cs : List Value} (hR : R a d g cs) (h : Touch fp a b) (hd : ∀ x ∈ g, x ∉ fp) : R b d g cs :=
  hR.same (fun x hx => h.block x (hR.lt x hx) (hd x hx)) h.size
theorem Sl.touch {fp : List Nat} {a b : World} {l : List D} {g : List Nat} {v : Value} (hR : Sl a l g v) (h : Touch fp a b) (hd : ∀ x ∈ g, x ∉ fp) : Sl b l g v := R.touch hR h hd
theorem Row.touch {fp : List Nat} {a b : World} {g : Nat} {e : TypeId} {xs : List Value} (hR : Row a g e xs) (h : Touch fp a b) (hd : g ∉ fp) : Row b g e xs := (h.block g hR.lt hd).trans hR

/-- Within one round: cells lo .. hi of block b, and the blocks fi. -/
structure Inr (b lo hi : Nat) (fi : List Nat) (w w' : World) : Prop where
  os : w'.os = w.os
  tape : w'.tape = w.tape
  output : w'.output = w.output
  size : w.heap.size ≤ w'.heap.size
  block : ∀ x, x < w.heap.size → x ≠ b → x ∉ fi → w'.heap[x]? = w.heap[x]?
  cell : ∀ off, (off < lo ∨ hi ≤ off) → w'.cell? ⟨b, off, none⟩ = w.cell? ⟨b, off, none⟩
  froz : ∀ x o, x < w.heap.size → w'.frozen? ⟨x, o, none⟩ = w.frozen? ⟨x, o, none⟩
section
variable {b lo hi : Nat} {fi : List Nat} {w a c : World}
theorem Inr.refl (b lo hi : Nat) (fi : List Nat) (w : World) : Inr b lo hi fi w w := ⟨rfl, rfl, rfl, Nat.le_refl _, fun _ _ _ _ => rfl, fun _ _ => rfl, fun _ _ _ => rfl⟩
theorem Inr.below (h : Inr b lo hi fi w a) (hb : b < w.heap.size) (k : Below a.heap.size a c) : Inr b lo hi fi w c :=
  ⟨k.os.trans h.os, k.tape.trans h.tape, k.output.trans h.output, Nat.le_trans h.size k.size, fun x hx h1 h2 => (k.block x (Nat.lt_of_lt_of_le hx h.size)).trans (h.block x hx h1 h2), fun off ho => (k.cell (p := ⟨b, off, none⟩) (Nat.lt_of_lt_of_le hb h.size)).trans (h.cell off ho), fun x o hx => (k.frozen (p := ⟨x, o, none⟩) (Nat.lt_of_lt_of_le hx h.size)).trans (h.froz x o hx)⟩
theorem Inr.touch {F : List Nat} (h : Inr b lo hi fi w a) (hb : b < w.heap.size) (k : Touch F a c) (hF : ∀ x ∈ F, x ∈ fi) (hn : b ∉ F) : Inr b lo hi fi w c :=
  ⟨k.os.trans h.os, k.tape.trans h.tape, k.output.trans h.output, Nat.le_trans h.size k.size, fun x hx h1 h2 => (k.block x (Nat.lt_of_lt_of_le hx h.size) (fun hm => h2 (hF x hm))).trans (h.block x hx h1 h2), fun off ho => (World.cell?_of_block (k.block b (Nat.lt_of_lt_of_le hb h.size) hn)).trans (h.cell off ho), fun x o hx => (k.froz x o (Nat.lt_of_lt_of_le hx h.size)).trans (h.froz x o hx)⟩
theorem Inr.setCell (h : Inr b lo hi fi w a) {off : Nat} (h1 : lo ≤ off) (h2 : off < hi) (u : Value) : Inr b lo hi fi w (a.setCell ⟨b, off, none⟩ u) :=
  ⟨h.os, h.tape, h.output, by simpa [World.setCell] using h.size, fun x hx h3 h4 => (Below.heap_setCell _ _ _ _ h3).trans (h.block x hx h3 h4),
   fun o ho => by
     rw [World.cell?_setCell_other]
     · exact h.cell o ho
     · intro e; injection e with _ e2; omega,
   fun x o hx => by rw [World.frozen?_setCell]; exact h.froz x o hx⟩
theorem Inr.toTouch {fp : List Nat} (h : Inr b lo hi fi w a) (hb : b ∈ fp) (hf : ∀ x ∈ fi, x ∈ fp) : Touch fp w a :=
  ⟨h.os, h.tape, h.output, h.size, fun x hx hn => h.block x hx (fun e => hn (e ▸ hb)) (fun hm => hn (hf x hm)), h.froz⟩
end
theorem At.below {w a : World} {b o : Nat} {cs : List Value} (h : At w b o cs) (hb : b < w.heap.size) (k : Below w.heap.size w a) : At a b o cs :=
  fun j u hj => (k.cell (p := ⟨b, o + j, none⟩) hb).trans (h j u hj)
theorem At.touch {w a : World} {b o : Nat} {cs : List Value} {F : List Nat} (h : At w b o cs) (hb : b < w.heap.size) (k : Touch F w a) (hn : b ∉ F) : At a b o cs :=
  fun j u hj => (World.cell?_of_block (k.block b hb hn)).trans (h j u hj)
theorem At.set {w : World} {b o : Nat} {cs : List Value} (h : At w b o cs) {j : Nat} (hj : j < cs.length) (u : Value) : At (w.setCell ⟨b, o + j, none⟩ u) b o (cs.set j u) := by
  intro i v hi
  rw [List.getElem?_set] at hi
  split at hi
  · next e =>
    subst e
    try rw [if_pos hj] at hi
    cases hi
    exact World.cell?_setCell_same _ _ _ (h j _ (List.getElem?_eq_getElem hj))
  · next e =>
    rw [World.cell?_setCell_other]
    · exact h i v hi
    · intro e2; injection e2 with _ e3; omega

theorem Rs.nodup_split {w : World} {a b : List Nat} (h : (a ++ b).Nodup) : a.Nodup ∧ b.Nodup ∧ ∀ x ∈ a, x ∉ b :=
  ⟨(List.nodup_append.1 h).1, (List.nodup_append.1 h).2.1, fun x hx hy => (List.nodup_append.1 h).2.2 x hx x hy rfl⟩

/-- One element in sight, and what it is good for to write it anew. -/
theorem Sl.focus {w : World} {s : Nat} {l : List D} {fp : List Nat} {A : Option Addr} {n cap : Nat} (h : Sl w l fp (.slice A n cap)) (hnd : fp.Nodup) (hs : ∀ d ∈ l, d.sz = s) {k : Nat} {d : D} (hd : l[k]? = some d) :
    ∃ b o fi ci, A = some ⟨b, o, none⟩ ∧ b < w.heap.size ∧ b ∈ fp ∧ R w d fi ci ∧ (∀ x ∈ fi, x ∈ fp) ∧ b ∉ fi ∧ fi.Nodup ∧ At w b (o + k * s) ci ∧
      ∀ (w' : World) (d' : D) (ci' : List Value), d'.sz = s → R w' d' fi ci' → At w' b (o + k * s) ci' → Inr b (o + k * s) (o + k * s + s) fi w w' → Sl w' (l.set k d') fp (.slice A n cap) := by
  unfold Sl at h
  rw [R] at h
  obtain ⟨A', cap', h1, hle, hcap, h3⟩ := h
  simp only [List.cons.injEq, and_true, Value.slice.injEq] at h1
  obtain ⟨rfl, rfl, rfl⟩ := h1
  rcases h3 with ⟨rfl, _⟩ | ⟨b, o, fp', cs', rfl, rfl, hb, hr, ha⟩
  · simp at hd
  · obtain ⟨hi, hd'⟩ := List.getElem?_eq_some_iff.1 hd
    have e : l = l.take k ++ (d :: l.drop (k + 1)) := by rw [← hd', ← List.drop_eq_getElem_cons, List.take_append_drop]
    rw [e] at hr
    obtain ⟨f1, f2, c1, c2, rfl, rfl, h1, h2⟩ := Rs.split hr
    obtain ⟨g1, g2, e1, e2, rfl, rfl, h3, h4⟩ := h2
    have hl : c1.length = k * s := by
      rw [h1.len, szs_const (s := s) _ (fun x hx => hs x (List.mem_of_mem_take hx)), List.length_take, Nat.min_eq_left (by omega)]
    have hl1 : e1.length = s := by rw [h3.len, hs d (List.mem_of_getElem? hd)]
    have hnd' := (List.nodup_cons.1 hnd)
    obtain ⟨n1, n2, n3⟩ := Rs.nodup_split (w := w) hnd'.2
    obtain ⟨n4, n5, n6⟩ := Rs.nodup_split (w := w) n2
    have ha2 : At w b (o + k * s) (e1 ++ e2) := by have := ha.right; rwa [hl] at this
    refine ⟨b, o, g1, e1, rfl, hb, by simp, h3, fun x hx => by simp [hx], fun hm => hnd'.1 (by simp [hm]), n4, ha2.left, ?_⟩
    intro w' d' ci' hsz hR' hA' hI
    have hbl : ∀ x ∈ f1 ++ g2, w'.heap[x]? = w.heap[x]? := by
      intro x hx
      have hx' : x ∈ f1 ++ (g1 ++ g2) := by rcases List.mem_append.1 hx with h | h <;> simp [h]
      refine hI.block x (Rs.lt hr x hx') (fun e => hnd'.1 (e ▸ hx')) (fun hm => ?_)
      rcases List.mem_append.1 hx with h | h
      · exact n3 x h (by simp [hm])
      · exact n6 x hm h
    unfold Sl
    rw [R]
    have hls : (l.set k d').length = l.length := List.length_set
    have hc' : ci'.length = s := by rw [hR'.len, hsz]
    refine ⟨_, cap, by rw [hls], by rw [hls]; exact hle, hcap, Or.inr ⟨b, o, f1 ++ (g1 ++ g2), c1 ++ (ci' ++ e2), rfl, rfl, Nat.lt_of_lt_of_le hb hI.size, ?_, ?_⟩⟩
    · have e' : l.set k d' = l.take k ++ (d' :: l.drop (k + 1)) := by rw [List.set_eq_take_append_cons_drop, if_pos hi]
      rw [e']
      have h5 : Rs w' (d' :: l.drop (k + 1)) (g1 ++ g2) (ci' ++ e2) := by
        rw [Rs]
        exact ⟨g1, g2, ci', e2, rfl, rfl, hR', h4.same (fun x hx => hbl x (by simp [hx])) hI.size⟩
      exact Rs.append h5 (h1.same (fun x hx => hbl x (by simp [hx])) hI.size)
    · intro j u hj
      rcases Nat.lt_or_ge j c1.length with hj1 | hj1
      · rw [List.getElem?_append_left hj1] at hj
        rw [hI.cell _ (Or.inl (by omega))]
        exact ha j u (by rw [List.getElem?_append_left hj1]; exact hj)
      · rw [List.getElem?_append_right hj1] at hj
        rcases Nat.lt_or_ge (j - c1.length) ci'.length with hj2 | hj2
        · rw [List.getElem?_append_left hj2] at hj
          have := hA' _ u hj
          rwa [show o + k * s + (j - c1.length) = o + j by omega] at this
        · rw [List.getElem?_append_right hj2] at hj
          rw [hI.cell _ (Or.inr (by omega))]
          refine ha j u ?_
          rw [List.getElem?_append_right hj1, List.getElem?_append_right (by omega), ← hj]
          congr 1
          omega

/-- To mark a slice; a value. -/
def MarkPost (l : List D) (fp : List Nat) (v : Value) (k : Int) (w : World) (e : Ending) (w' : World) : Prop := e = .returned (.int .i64 (k + D.cnts l)) ∧ Sl w' (D.mks l k) fp v ∧ Touch fp w w'
def MarksSaid (P : Program) (f : Nat) (l : List D) : Prop := ∀ (w : World) (fp : List Nat) (v : Value) (k : Int), Sl w l fp v → Free w 0 fp → 0 ≤ k → k + D.cnts l ≤ 4611686018427387904 → Calls P f #[v, .int .i64 k] w (MarkPost l fp v k w)
def AMarkPost (d : D) (fp : List Nat) (cs : List Value) (k : Int) (w : World) (e : Ending) (w' : World) : Prop := e = .returned (.int .i64 (k + d.acnt)) ∧ R w' (d.amk k) fp cs ∧ Touch fp w w'
def AMarkSaid (P : Program) (f : Nat) (d : D) : Prop := ∀ (w : World) (fp : List Nat) (cs : List Value) (k : Int), R w d fp cs → Free w 0 fp → 0 ≤ k → k + d.acnt ≤ 4611686018427387904 → Calls P f #[.agg cs.toArray, .int .i64 k] w (AMarkPost d fp cs k w)
/-- To look whether the marks stand. -/
def HeldPost (n : Nat) (k : Int) (w : World) (e : Ending) (w' : World) : Prop := e = .returned (.int .i64 (k + n)) ∧ Below w.heap.size w w'
def HeldsSaid (P : Program) (f : Nat) (l : List D) : Prop := ∀ (w : World) (fp : List Nat) (v : Value) (k : Int), Sl w (D.mks l k) fp v → 0 ≤ k → k + D.cnts l ≤ 4611686018427387904 → Calls P f #[v, .int .i64 k] w (HeldPost (D.cnts l) k w)
def AHeldSaid (P : Program) (f : Nat) (d : D) : Prop := ∀ (w : World) (fp : List Nat) (cs : List Value) (k : Int), R w (d.amk k) fp cs → 0 ≤ k → k + d.acnt ≤ 4611686018427387904 → Calls P f #[.agg cs.toArray, .int .i64 k] w (HeldPost d.acnt k w)

theorem Sl.inr {b lo hi : Nat} {F : List Nat} {w a : World} {l : List D} {g : List Nat} {v : Value} (h : Sl w l g v) (hI : Inr b lo hi F w a) (hb : b ∉ g) (hd : ∀ x ∈ g, x ∉ F) : Sl a l g v :=
  R.same h (fun x hx => hI.block x (R.lt h x hx) (fun e => hb (e ▸ hx)) (hd x hx)) hI.size
theorem Free.inr {b lo hi : Nat} {F : List Nat} {w a : World} {base : Nat} {g : List Nat} (h : Free w base g) (hl : ∀ x ∈ g, x < w.heap.size) (hI : Inr b lo hi F w a) : Free a base g :=
  ⟨h.1, fun x hx => ⟨(h.2 x hx).1, fun o => by rw [hI.froz x o (hl x hx)]; exact (h.2 x hx).2 o⟩⟩
theorem Inr.mono {b lo hi : Nat} {F F' : List Nat} {w a : World} (h : Inr b lo hi F w a) (hf : ∀ x ∈ F, x ∈ F') : Inr b lo hi F' w a :=
  ⟨h.os, h.tape, h.output, h.size, fun x hx h1 h2 => h.block x hx h1 (fun hm => h2 (hf x hm)), h.cell, h.froz⟩
theorem Free.sub {w : World} {base : Nat} {fp g : List Nat} (h : Free w base fp) (hn : g.Nodup) (hs : ∀ x ∈ g, x ∈ fp) : Free w base g := ⟨hn, fun x hx => h.2 x (hs x hx)⟩
theorem size_setCell (w : World) (p : Addr) (u : Value) : (w.setCell p u).heap.size = w.heap.size := by simp [World.setCell]
theorem nodup3 {a b c : List Nat} (h : (a ++ (b ++ c)).Nodup) : a.Nodup ∧ b.Nodup ∧ c.Nodup ∧ (∀ x ∈ b, x ∉ a) ∧ (∀ x ∈ c, x ∉ a) ∧ (∀ x ∈ c, x ∉ b) := by
  obtain ⟨h1, h2, h3⟩ := List.nodup_append.1 h
  obtain ⟨h4, h5, h6⟩ := List.nodup_append.1 h2
  exact ⟨h1, h4, h5, fun x hx hy => h3 x hy x (by simp [hx]) rfl, fun x hx hy => h3 x hy x (by simp [hx]) rfl, fun x hx hy => h6 x hy x hx rfl⟩

mutual
/-- No element of a slice takes more than 14 cells. -/
def D.thin : D → Prop
  | .leaf _ => True
  | .sl l => D.thins l
  | .agg l => D.athins l
def D.thins : List D → Prop
  | [] => True
  | d :: l => d.sz ≤ 14 ∧ d.thin ∧ D.thins l
def D.athins : List D → Prop
  | [] => True
  | d :: l => d.thin ∧ D.athins l
end
mutual
theorem D.cnt_le : ∀ (d : D), d.thin → d.cnt ≤ d.sz + 14 * d.wt
  | .leaf _, _ => by simp only [D.cnt, D.sz]; omega
  | .sl l, h => by
    have := D.cnts_le l h
    simp only [D.cnt, D.sz, D.wt]
    omega
  | .agg l, h => by
    have := D.acnts_le l h
    simp only [D.cnt, D.sz, D.wt]
    omega
theorem D.cnts_le : ∀ (l : List D), D.thins l → D.cnts l ≤ 14 * (l.length + D.wts l)
  | [], _ => by simp only [D.cnts]; omega
  | d :: l, h => by
    obtain ⟨h1, h2, h3⟩ := h
    have e1 := D.cnt_le d h2
    have e2 := D.cnts_le l h3
    simp only [D.cnts, D.wts, List.length_cons]
    omega
theorem D.acnts_le : ∀ (l : List D), D.athins l → D.cnts l ≤ D.szs l + 14 * D.wts l
  | [], _ => by simp only [D.cnts, D.szs]; omega
  | d :: l, h => by
    obtain ⟨h1, h2⟩ := h
    have e1 := D.cnt_le d h1
    have e2 := D.acnts_le l h2
    simp only [D.cnts, D.wts, D.szs]
    omega
end
mutual
theorem D.acnt_le : ∀ (d : D), d.acnt ≤ d.cnt
  | .leaf _ => by simp only [D.acnt]; omega
  | .sl l => by simp only [D.acnt, D.cnt]; omega
  | .agg l => by
    have := D.aacnts_le l
    simp only [D.acnt, D.cnt]
    omega
theorem D.aacnts_le : ∀ (l : List D), D.acnts l ≤ D.cnts l
  | [] => by simp only [D.acnts]; omega
  | d :: l => by
    have e1 := D.acnt_le d
    have e2 := D.aacnts_le l
    simp only [D.acnts, D.cnts]
    omega
end
theorem D.thins_of {l : List D} (h : ∀ d ∈ l, d.sz ≤ 14 ∧ d.thin) : D.thins l := by
  induction l with
  | nil => trivial
  | cons d l ih => exact ⟨(h d (by simp)).1, (h d (by simp)).2, ih fun x hx => h x (by simp [hx])⟩
theorem D.cnts_map {α : Type} (f : α → D) (c : Nat) (l : List α) (h : ∀ x ∈ l, (f x).cnt = c) : D.cnts (l.map f) = l.length * c := by
  induction l with
  | nil => simp [D.cnts]
  | cons x l ih =>
    rw [List.map_cons, D.cnts_cons, ih (fun y hy => h y (by simp [hy])), h x (by simp), List.length_cons, Nat.add_mul]
    omega
theorem cnts_ints (l : List Int) : D.cnts (l.map li) = l.length := by rw [D.cnts_map li 1 l (fun _ _ => rfl), Nat.mul_one]
theorem cnts_strs (l : List ByteArray) : D.cnts (l.map ls) = l.length := by rw [D.cnts_map ls 1 l (fun _ _ => rfl), Nat.mul_one]
theorem thin_ints (l : List Int) : D.thins (l.map li) := D.thins_of fun d hd => by obtain ⟨x, _, rfl⟩ := List.mem_map.1 hd; exact ⟨by simp [li, D.sz], trivial⟩
theorem thin_strs (l : List ByteArray) : D.thins (l.map ls) := D.thins_of fun d hd => by obtain ⟨x, _, rfl⟩ := List.mem_map.1 hd; exact ⟨by simp [ls, D.sz], trivial⟩
theorem GOrigin.thin (x : GOrigin) : x.toD.thin := by
  rw [GOrigin.toD_eq]
  exact ⟨trivial, trivial, trivial⟩
theorem GOrigin.thins (l : List GOrigin) : D.thins (l.map GOrigin.toD) := D.thins_of fun d hd => by obtain ⟨y, _, rfl⟩ := List.mem_map.1 hd; exact ⟨by rw [GOrigin.sz_eq]; omega, y.thin⟩
theorem GRow.thin (x : GRow) : x.toD.thin := by
  rw [GRow.toD_eq]
  exact ⟨thin_ints _, GOrigin.thins _, trivial⟩
theorem GRow.thins (l : List GRow) : D.thins (l.map GRow.toD) := D.thins_of fun d hd => by obtain ⟨y, _, rfl⟩ := List.mem_map.1 hd; exact ⟨by rw [GRow.sz_eq]; omega, y.thin⟩
theorem GVal.thin (x : GVal) : x.toD.thin := by
  rw [GVal.toD_eq]
  exact ⟨trivial, trivial, trivial, trivial, (D.thins_of fun d hd => by obtain ⟨y, hy, rfl⟩ := List.mem_map.1 hd; exact ⟨by rw [GVal.sz_eq]; omega, GVal.thin y⟩), thin_strs _, GRow.thins _, trivial⟩
termination_by SizeOf.sizeOf x
decreasing_by exact GVal.lt_of_mem hy
theorem GVal.thins (l : List GVal) : D.thins (l.map GVal.toD) := D.thins_of fun d hd => by obtain ⟨y, _, rfl⟩ := List.mem_map.1 hd; exact ⟨by rw [GVal.sz_eq]; omega, y.thin⟩
theorem GTok.thin (x : GTok) : x.toD.thin := by
  rw [GTok.toD_eq]
  exact ⟨trivial, trivial, trivial, trivial, trivial⟩
theorem GTok.thins (l : List GTok) : D.thins (l.map GTok.toD) := D.thins_of fun d hd => by obtain ⟨y, _, rfl⟩ := List.mem_map.1 hd; exact ⟨by rw [GTok.sz_eq]; omega, y.thin⟩
theorem GExpr.thin (x : GExpr) : x.toD.thin := by
  rw [GExpr.toD_eq]
  exact ⟨trivial, trivial, trivial, (D.thins_of fun d hd => by obtain ⟨y, hy, rfl⟩ := List.mem_map.1 hd; exact ⟨by rw [GExpr.sz_eq]; omega, GExpr.thin y⟩), trivial⟩
termination_by SizeOf.sizeOf x
decreasing_by exact GExpr.lt_of_mem hy
theorem GExpr.thins (l : List GExpr) : D.thins (l.map GExpr.toD) := D.thins_of fun d hd => by obtain ⟨y, _, rfl⟩ := List.mem_map.1 hd; exact ⟨by rw [GExpr.sz_eq]; omega, y.thin⟩
theorem GCell.thin (x : GCell) : x.toD.thin := by
  rw [GCell.toD_eq]
  exact ⟨trivial, trivial, trivial, trivial, trivial, trivial, trivial⟩
theorem GCell.thins (l : List GCell) : D.thins (l.map GCell.toD) := D.thins_of fun d hd => by obtain ⟨y, _, rfl⟩ := List.mem_map.1 hd; exact ⟨by rw [GCell.sz_eq]; omega, y.thin⟩
theorem GNb.thin (x : GNb) : x.toD.thin := by
  rw [GNb.toD_eq]
  exact ⟨GCell.thins _, trivial⟩
theorem GNb.thins (l : List GNb) : D.thins (l.map GNb.toD) := D.thins_of fun d hd => by obtain ⟨y, _, rfl⟩ := List.mem_map.1 hd; exact ⟨by rw [GNb.sz_eq]; omega, y.thin⟩
theorem GPart.thin (x : GPart) : x.toD.thin := by
  rw [GPart.toD_eq]
  exact ⟨trivial, trivial, GExpr.thin _, GVal.thin _, trivial, trivial⟩
theorem GPart.thins (l : List GPart) : D.thins (l.map GPart.toD) := D.thins_of fun d hd => by obtain ⟨y, _, rfl⟩ := List.mem_map.1 hd; exact ⟨by rw [GPart.sz_eq]; omega, y.thin⟩
theorem GEdit.thin (x : GEdit) : x.toD.thin := by
  rw [GEdit.toD_eq]
  exact ⟨trivial, trivial, GCell.thin _, trivial⟩
theorem GEdit.thins (l : List GEdit) : D.thins (l.map GEdit.toD) := D.thins_of fun d hd => by obtain ⟨y, _, rfl⟩ := List.mem_map.1 hd; exact ⟨by rw [GEdit.sz_eq]; omega, y.thin⟩
theorem GRead.thin (x : GRead) : x.toD.thin := by
  rw [GRead.toD_eq]
  exact ⟨trivial, trivial, trivial, trivial, GVal.thin _, trivial⟩
theorem GRead.thins (l : List GRead) : D.thins (l.map GRead.toD) := D.thins_of fun d hd => by obtain ⟨y, _, rfl⟩ := List.mem_map.1 hd; exact ⟨by rw [GRead.sz_eq]; omega, y.thin⟩
theorem GTape.thin (x : GTape) : x.toD.thin := by
  rw [GTape.toD_eq]
  exact ⟨trivial, trivial, GRead.thins _, trivial⟩
theorem GTape.thins (l : List GTape) : D.thins (l.map GTape.toD) := D.thins_of fun d hd => by obtain ⟨y, _, rfl⟩ := List.mem_map.1 hd; exact ⟨by rw [GTape.sz_eq]; omega, y.thin⟩
end Go.Proofs.YtdjcflnemnknaaaDoor
