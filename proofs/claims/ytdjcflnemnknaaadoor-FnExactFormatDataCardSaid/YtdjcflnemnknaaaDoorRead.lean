/-
  From the reading of an argument (the form's own) to the typed data of XTypes.
-/
import Derived.Test.YtdjcflnemnknaaaDoorTypes
import Derived.Test.YtdjcflnemnknaaaDoorProg
import Derived.KernelRfl
namespace Go.Proofs.YtdjcflnemnknaaaDoor
open Go.RowKit Go.ChangeShapes Go.WideShapes
set_option linter.unusedSimpArgs false
set_option linter.unusedVariables false

section
variable {H : Type} {enc : TypeId × Value → H} {P : Program} {w : World} {spare : Nat → Bool}

/-- The parts of a struct, segment by segment. -/
def Segs (w : World) (cs : List Value) : Nat → List D → Prop
  | _, [] => True
  | off, d :: l => (∃ fp, R w d fp ((cs.drop off).take d.sz)) ∧ Segs w cs (off + d.sz) l
theorem Segs.cons {cs : List Value} {off s : Nat} {d : D} {l : List D} (hs : d.sz = s) (h : ∃ fp, R w d fp ((cs.drop off).take s)) (t : Segs w cs (off + s) l) : Segs w cs off (d :: l) := by
  subst hs
  exact ⟨h, t⟩
theorem Segs.rs {cs : List Value} : ∀ (l : List D) (off : Nat), Segs w cs off l → cs.length = off + D.szs l → ∃ fp, Rs w l fp (cs.drop off)
  | [], off, _, h => ⟨[], by
      rw [D.szs, Nat.add_zero] at h
      rw [List.drop_eq_nil_of_le (by omega)]
      exact ⟨rfl, rfl⟩⟩
  | d :: l, off, ⟨⟨f1, h1⟩, h2⟩, h => by
    rw [D.szs] at h
    obtain ⟨f2, h3⟩ := Segs.rs l (off + d.sz) h2 (by omega)
    refine ⟨f1 ++ f2, f1, f2, _, _, rfl, ?_, h1, h3⟩
    rw [← List.drop_drop, List.take_append_drop]

def Rdg {α : Type} (enc : TypeId × Value → H) (P : Program) (w : World) (spare : Nat → Bool) (f : α → D) (t : TypeId) (fuel : Nat) : Prop :=
  ∀ (cs : List Value) (x : DataW H × List MemPlace), DataW.trod enc P w 0 spare true fuel t cs = some x → ∃ y : α, (∃ fp, R w (f y) fp cs) ∧ (f y).wf

theorem rd_int {t : TypeId} (ht : P.underlying t = some (.int .i64)) (fuel : Nat) : Rdg enc P w spare li t fuel := fun cs x h => by
  obtain ⟨n, rfl, _, hw⟩ := DataW.trod_int ht h
  exact ⟨n, ⟨[], rfl, rfl⟩, hw⟩
theorem rd_str {t : TypeId} (ht : P.underlying t = some .string) (fuel : Nat) : Rdg enc P w spare ls t fuel := fun cs x h => by
  obtain ⟨n, rfl, _, hw⟩ := DataW.trod_string ht h
  exact ⟨n, ⟨[], rfl, rfl⟩, hw⟩

theorem rs_build {α : Type} (f : α → D) {s : Nat} (hs : ∀ y, (f y).sz = s) {b : Nat} : ∀ (n o : Nat), (∀ i, i < n → ∃ (cs : List Value) (y : α), cs.length = s ∧ At w b (o + i * s) cs ∧ (∃ fp, R w (f y) fp cs) ∧ (f y).wf) →
    ∃ (l : List α) (fp : List Nat) (cs : List Value), l.length = n ∧ Rs w (l.map f) fp cs ∧ At w b o cs ∧ D.wfs (l.map f)
  | 0, _, _ => ⟨[], [], [], rfl, ⟨rfl, rfl⟩, fun j u hj => by simp at hj, trivial⟩
  | n + 1, o, h => by
    obtain ⟨c1, y, hl, ha, ⟨f1, hr⟩, hw⟩ := h 0 (by omega)
    obtain ⟨l, f2, c2, hn, hrs, ha2, hws⟩ := rs_build f hs n (o + s) (fun i hi => by
      obtain ⟨cs, y, h1, h2, h3⟩ := h (i + 1) (by omega)
      refine ⟨cs, y, h1, ?_, h3⟩
      rw [show o + s + i * s = o + (i + 1) * s by rw [Nat.add_mul]; omega]
      exact h2)
    refine ⟨y :: l, f1 ++ f2, c1 ++ c2, by simp [hn], ⟨f1, f2, c1, c2, rfl, rfl, hr, hrs⟩, fun j u hj => ?_, ⟨hw, hws⟩⟩
    by_cases hjl : j < c1.length
    · rw [List.getElem?_append_left hjl] at hj
      have := ha j u hj
      rwa [Nat.zero_mul, Nat.add_zero] at this
    · rw [List.getElem?_append_right (by omega)] at hj
      have := ha2 _ u hj
      rwa [show o + s + (j - c1.length) = o + j by omega] at this

theorem rd_slice {α : Type} {f : α → D} {t e : TypeId} {s : Nat} (ht : P.underlying t = some (.slice e)) (hc : P.cellsOf e = s) (hs : ∀ y, (f y).sz = s) (h0 : 0 < s) (fuel : Nat)
    (he : ∀ n, n < fuel → Rdg enc P w spare f e n) : Rdg enc P w spare (fun l : List α => .sl (l.map f)) t fuel := fun cs x h => by
  rcases DataW.trod_slice ht h with ⟨rfl, _⟩ | ⟨a, len, cap, elems, rest, n, rfl, rfl, _, hb, hlc, hcap, hlen, hel, _, _⟩
  · refine ⟨[], ⟨[], ?_⟩, trivial⟩
    rw [R]
    exact ⟨none, 0, rfl, by simp, by simp, Or.inl ⟨rfl, rfl⟩⟩
  · rw [hc] at hel
    by_cases hz : len = 0
    · subst hz
      refine ⟨[], ⟨[], ?_⟩, trivial⟩
      rw [R]
      exact ⟨some a, cap, rfl, by simp, hcap, Or.inl ⟨rfl, rfl⟩⟩
    · have hel' : ∀ i, i < len → ∃ (cs : List Value), w.cells? 0 (a.add (i * s)) s = some cs ∧ ∃ x, DataW.trod enc P w 0 spare true n e cs = some x := fun i hi => by
        have := hel i hi
        rw [List.getElem?_eq_getElem (by omega)] at this
        obtain ⟨cs, h1, h2⟩ := Option.bind_eq_some_iff.1 this
        exact ⟨cs, h1, _, h2⟩
      have hspot : a.spot = none := by
        obtain ⟨cs, h1, _⟩ := hel' 0 (by omega)
        obtain ⟨_, h2, h3⟩ := World.cells?_some h1
        have h4 := h3 0 h0
        rw [Nat.zero_mul] at h4
        have e1 : (a.add 0).add 0 = a := by simp [Addr.add]
        rw [e1] at h4
        have h5 : (w.cell? a).isSome := by rw [h4, List.getElem?_eq_getElem (by omega)]; rfl
        unfold World.cell? at h5
        cases hsp : a.spot with
        | none => rfl
        | some q => rw [hsp] at h5; split at h5 <;> simp at h5
      obtain ⟨b, o, sp⟩ := a
      simp only at hspot
      subst hspot
      have hadd : ∀ i, (⟨b, o, none⟩ : Addr).add i = ⟨b, o + i, none⟩ := fun i => by
        unfold Addr.add
        split
        · next h => subst h; rfl
        · rfl
      obtain ⟨l, fp, cs', h1, h2, h3, h4⟩ := rs_build (w := w) f hs (b := b) len o (fun i hi => by
        obtain ⟨cs, h1, x, h2⟩ := hel' i hi
        obtain ⟨y, hy, hw⟩ := he n (by omega) cs x h2
        obtain ⟨_, h4, h5⟩ := World.cells?_some h1
        refine ⟨cs, y, h4, fun j u hj => ?_, hy, hw⟩
        have hjl : j < s := by have := (List.getElem?_eq_some_iff.1 hj).1; omega
        have := h5 j hjl
        rw [hadd, show (⟨b, o + i * s, none⟩ : Addr).add j = ⟨b, o + i * s + j, none⟩ from by unfold Addr.add; split <;> simp_all] at this
        rw [this, hj])
      have hb' : b < w.heap.size := by
        have hl0 : cs'.length = len * s := by
          rw [h2.len, szs_const (s := s) _ (fun d hd => by obtain ⟨y, _, rfl⟩ := List.mem_map.1 hd; exact hs y), List.length_map, h1]
        have hpos : 0 < cs'.length := by rw [hl0]; exact Nat.mul_pos (by omega) h0
        have h5 := h3 0 _ (List.getElem?_eq_getElem hpos)
        rcases Nat.lt_or_ge b w.heap.size with hlt | hge
        · exact hlt
        · simp [World.cell?, Array.getElem?_eq_none hge] at h5
      refine ⟨l, ⟨b :: fp, ?_⟩, h4⟩
      rw [R]
      exact ⟨some ⟨b, o, none⟩, cap, by simp [h1], by simp [h1]; exact hlc, hcap, Or.inr ⟨b, o, fp, cs', rfl, rfl, hb', h2, h3⟩⟩

/-- An argument that is a struct. -/
theorem arg_struct {α : Type} {f : α → D} {t : TypeId} {fs : Array Field} {v : Value} {d : DataW H} {p : List MemPlace} {r : Reach} {b0 : Nat} (hs : P.underlying t = some (.struct fs)) (hv : Value.okWide P w r b0 t v)
    (hr : ∀ fuel, Rdg enc P w spare f t fuel) (h : DataW.Trod enc P w 0 spare true t v d p) : ∃ (y : α) (fp : List Nat) (cs : List Value), v = .agg cs.toArray ∧ R w (f y) fp cs ∧ (f y).wf := by
  obtain ⟨cs, rfl, _⟩ := okWide_struct hs hv
  obtain ⟨fuel, hf⟩ := h
  obtain ⟨y, ⟨fp, hy⟩, hw⟩ := hr fuel _ _ hf
  exact ⟨y, fp, cs.toList, by simp, hy, hw⟩
/-- An argument that is a slice. -/
theorem arg_slice {α : Type} {f : α → D} {t e : TypeId} {v : Value} {d : DataW H} {p : List MemPlace} {r : Reach} {b0 : Nat} (hs : P.underlying t = some (.slice e)) (hv : Value.okWide P w r b0 t v)
    (hr : ∀ fuel, Rdg enc P w spare (fun l : List α => .sl (l.map f)) t fuel) (h : DataW.Trod enc P w 0 spare true t v d p) : ∃ (l : List α) (fp : List Nat), Sl w (l.map f) fp v ∧ D.wfs (l.map f) := by
  obtain ⟨a, n, cap, rfl⟩ := okWide_slice hs hv
  obtain ⟨fuel, hf⟩ := h
  obtain ⟨y, ⟨fp, hy⟩, hw⟩ := hr fuel _ _ hf
  exact ⟨y, fp, hy, hw⟩

/-- An argument that is an integer; a string. -/
theorem arg_int {t : TypeId} {v : Value} {d : DataW H} {p : List MemPlace} {r : Reach} {b0 : Nat} (hs : P.underlying t = some (.int .i64)) (hv : Value.okWide P w r b0 t v)
    (h : DataW.Trod enc P w 0 spare true t v d p) : ∃ n : Int, v = .int .i64 n ∧ (Lit.int .i64 n).wf = true := by
  obtain ⟨n, rfl⟩ := okWide_int hs hv
  obtain ⟨fuel, hf⟩ := h
  obtain ⟨m, h1, _, h2⟩ := DataW.trod_int hs hf
  have e : n = m := by simpa [Value.cells] using h1
  exact ⟨n, rfl, e ▸ h2⟩
theorem arg_str {t : TypeId} {v : Value} {d : DataW H} {p : List MemPlace} {r : Reach} {b0 : Nat} (hs : P.underlying t = some .string) (hv : Value.okWide P w r b0 t v)
    (h : DataW.Trod enc P w 0 spare true t v d p) : ∃ s : ByteArray, v = .string s ∧ s.size ≤ maxLen := by
  obtain ⟨n, rfl⟩ := okWide_string hs hv
  obtain ⟨fuel, hf⟩ := h
  obtain ⟨m, h1, _, h2⟩ := DataW.trod_string hs hf
  have e : n = m := by simpa [Value.cells] using h1
  exact ⟨n, rfl, e ▸ h2⟩
end

section
variable {H : Type} {enc : TypeId × Value → H} {w : World} {spare : Nat → Bool}
theorem rd_int0 (fuel : Nat) : Rdg enc Tryd.prog w spare li 3 fuel := rd_int Tryd.underlying3 fuel
theorem rd_str0 (fuel : Nat) : Rdg enc Tryd.prog w spare ls 9 fuel := rd_str Tryd.underlying9 fuel
theorem cellsOf_int : Tryd.prog.cellsOf 3 = 1 := by kernel_rfl
theorem rd_Sint (fuel : Nat) : Rdg enc Tryd.prog w spare (fun l : List Int => .sl (l.map li)) 73 fuel := rd_slice Tryd.underlying73 cellsOf_int (fun y => rfl) (by omega) fuel fun n _ => rd_int0 n
theorem cellsOf_str : Tryd.prog.cellsOf 9 = 1 := by kernel_rfl
theorem rd_Sstr (fuel : Nat) : Rdg enc Tryd.prog w spare (fun l : List ByteArray => .sl (l.map ls)) 41 fuel := rd_slice Tryd.underlying41 cellsOf_str (fun y => rfl) (by omega) fuel fun n _ => rd_str0 n
theorem cellsOf_GOrigin : Tryd.prog.cellsOf 135 = 2 := by kernel_rfl
theorem rd_GOrigin (fuel : Nat) : Rdg enc Tryd.prog w spare GOrigin.toD 135 fuel := fun cs x h => by
  obtain ⟨xs, n, rfl, _, hlen, hxl, hf⟩ := DataW.trod_struct Tryd.underlying135 h
  rw [cellsOf_GOrigin] at hlen
  have h0 : DataW.trod enc Tryd.prog w 0 spare true n 3 ((cs.drop 0).take (Tryd.prog.cellsOf 3)) = xs[0]? := hf 0 _ rfl
  rw [cellsOf_int, List.getElem?_eq_getElem (by rw [hxl]; decide)] at h0
  obtain ⟨y0, hy0, hw0⟩ := (rd_int0 n) _ _ h0
  have h1 : DataW.trod enc Tryd.prog w 0 spare true n 3 ((cs.drop 1).take (Tryd.prog.cellsOf 3)) = xs[1]? := hf 1 _ rfl
  rw [cellsOf_int, List.getElem?_eq_getElem (by rw [hxl]; decide)] at h1
  obtain ⟨y1, hy1, hw1⟩ := (rd_int0 n) _ _ h1
  have hsegs : Segs w cs 0 [li y0, li y1] := (Segs.cons (s := 1) rfl hy0 (Segs.cons (s := 1) rfl hy1 trivial))
  obtain ⟨fp, hr⟩ := hsegs.rs _ 0 (by have := (GOrigin.mk y0 y1).sz_eq; rw [GOrigin.toD_eq] at this; rw [hlen, Nat.zero_add]; exact this.symm)
  refine ⟨GOrigin.mk y0 y1, ⟨fp, ?_⟩, ?_⟩
  · rw [GOrigin.toD_eq, R_agg]; exact hr
  · rw [GOrigin.toD_eq]; exact ⟨hw0, hw1, trivial⟩
theorem rd_SGOrigin (fuel : Nat) : Rdg enc Tryd.prog w spare (fun l : List GOrigin => .sl (l.map GOrigin.toD)) 98 fuel := rd_slice Tryd.underlying98 cellsOf_GOrigin (fun y => y.sz_eq) (by omega) fuel fun n _ => rd_GOrigin n
theorem cellsOf_Sint : Tryd.prog.cellsOf 73 = 1 := by kernel_rfl
theorem cellsOf_SGOrigin : Tryd.prog.cellsOf 98 = 1 := by kernel_rfl
theorem cellsOf_GRow : Tryd.prog.cellsOf 100 = 2 := by kernel_rfl
theorem rd_GRow (fuel : Nat) : Rdg enc Tryd.prog w spare GRow.toD 100 fuel := fun cs x h => by
  obtain ⟨xs, n, rfl, _, hlen, hxl, hf⟩ := DataW.trod_struct Tryd.underlying100 h
  rw [cellsOf_GRow] at hlen
  have h0 : DataW.trod enc Tryd.prog w 0 spare true n 73 ((cs.drop 0).take (Tryd.prog.cellsOf 73)) = xs[0]? := hf 0 _ rfl
  rw [cellsOf_Sint, List.getElem?_eq_getElem (by rw [hxl]; decide)] at h0
  obtain ⟨y0, hy0, hw0⟩ := (rd_Sint n) _ _ h0
  have h1 : DataW.trod enc Tryd.prog w 0 spare true n 98 ((cs.drop 1).take (Tryd.prog.cellsOf 98)) = xs[1]? := hf 1 _ rfl
  rw [cellsOf_SGOrigin, List.getElem?_eq_getElem (by rw [hxl]; decide)] at h1
  obtain ⟨y1, hy1, hw1⟩ := (rd_SGOrigin n) _ _ h1
  have hsegs : Segs w cs 0 [.sl (y0.map li), .sl (y1.map GOrigin.toD)] := (Segs.cons (s := 1) rfl hy0 (Segs.cons (s := 1) rfl hy1 trivial))
  obtain ⟨fp, hr⟩ := hsegs.rs _ 0 (by have := (GRow.mk y0 y1).sz_eq; rw [GRow.toD_eq] at this; rw [hlen, Nat.zero_add]; exact this.symm)
  refine ⟨GRow.mk y0 y1, ⟨fp, ?_⟩, ?_⟩
  · rw [GRow.toD_eq, R_agg]; exact hr
  · rw [GRow.toD_eq]; exact ⟨hw0, hw1, trivial⟩
theorem rd_SGRow (fuel : Nat) : Rdg enc Tryd.prog w spare (fun l : List GRow => .sl (l.map GRow.toD)) 42 fuel := rd_slice Tryd.underlying42 cellsOf_GRow (fun y => y.sz_eq) (by omega) fuel fun n _ => rd_GRow n
theorem cellsOf_SGVal : Tryd.prog.cellsOf 40 = 1 := by kernel_rfl
theorem cellsOf_Sstr : Tryd.prog.cellsOf 41 = 1 := by kernel_rfl
theorem cellsOf_SGRow : Tryd.prog.cellsOf 42 = 1 := by kernel_rfl
theorem cellsOf_GVal : Tryd.prog.cellsOf 44 = 7 := by kernel_rfl
theorem rd_GVal_of (fuel : Nat) (IH : ∀ n, n < fuel → Rdg enc Tryd.prog w spare GVal.toD 44 n) : Rdg enc Tryd.prog w spare GVal.toD 44 fuel := fun cs x h => by
  obtain ⟨xs, n, rfl, _, hlen, hxl, hf⟩ := DataW.trod_struct Tryd.underlying44 h
  rw [cellsOf_GVal] at hlen
  have h0 : DataW.trod enc Tryd.prog w 0 spare true n 3 ((cs.drop 0).take (Tryd.prog.cellsOf 3)) = xs[0]? := hf 0 _ rfl
  rw [cellsOf_int, List.getElem?_eq_getElem (by rw [hxl]; decide)] at h0
  obtain ⟨y0, hy0, hw0⟩ := (rd_int0 n) _ _ h0
  have h1 : DataW.trod enc Tryd.prog w 0 spare true n 3 ((cs.drop 1).take (Tryd.prog.cellsOf 3)) = xs[1]? := hf 1 _ rfl
  rw [cellsOf_int, List.getElem?_eq_getElem (by rw [hxl]; decide)] at h1
  obtain ⟨y1, hy1, hw1⟩ := (rd_int0 n) _ _ h1
  have h2 : DataW.trod enc Tryd.prog w 0 spare true n 3 ((cs.drop 2).take (Tryd.prog.cellsOf 3)) = xs[2]? := hf 2 _ rfl
  rw [cellsOf_int, List.getElem?_eq_getElem (by rw [hxl]; decide)] at h2
  obtain ⟨y2, hy2, hw2⟩ := (rd_int0 n) _ _ h2
  have h3 : DataW.trod enc Tryd.prog w 0 spare true n 9 ((cs.drop 3).take (Tryd.prog.cellsOf 9)) = xs[3]? := hf 3 _ rfl
  rw [cellsOf_str, List.getElem?_eq_getElem (by rw [hxl]; decide)] at h3
  obtain ⟨y3, hy3, hw3⟩ := (rd_str0 n) _ _ h3
  have h4 : DataW.trod enc Tryd.prog w 0 spare true n 40 ((cs.drop 4).take (Tryd.prog.cellsOf 40)) = xs[4]? := hf 4 _ rfl
  rw [cellsOf_SGVal, List.getElem?_eq_getElem (by rw [hxl]; decide)] at h4
  obtain ⟨y4, hy4, hw4⟩ := (rd_slice (f := GVal.toD) Tryd.underlying40 cellsOf_GVal (fun y => y.sz_eq) (by omega) n (fun q hq => IH q (by omega))) _ _ h4
  have h5 : DataW.trod enc Tryd.prog w 0 spare true n 41 ((cs.drop 5).take (Tryd.prog.cellsOf 41)) = xs[5]? := hf 5 _ rfl
  rw [cellsOf_Sstr, List.getElem?_eq_getElem (by rw [hxl]; decide)] at h5
  obtain ⟨y5, hy5, hw5⟩ := (rd_Sstr n) _ _ h5
  have h6 : DataW.trod enc Tryd.prog w 0 spare true n 42 ((cs.drop 6).take (Tryd.prog.cellsOf 42)) = xs[6]? := hf 6 _ rfl
  rw [cellsOf_SGRow, List.getElem?_eq_getElem (by rw [hxl]; decide)] at h6
  obtain ⟨y6, hy6, hw6⟩ := (rd_SGRow n) _ _ h6
  have hsegs : Segs w cs 0 [li y0, li y1, li y2, ls y3, .sl (y4.map GVal.toD), .sl (y5.map ls), .sl (y6.map GRow.toD)] := (Segs.cons (s := 1) rfl hy0 (Segs.cons (s := 1) rfl hy1 (Segs.cons (s := 1) rfl hy2 (Segs.cons (s := 1) rfl hy3 (Segs.cons (s := 1) rfl hy4 (Segs.cons (s := 1) rfl hy5 (Segs.cons (s := 1) rfl hy6 trivial)))))))
  obtain ⟨fp, hr⟩ := hsegs.rs _ 0 (by have := (GVal.mk y0 y1 y2 y3 y4 y5 y6).sz_eq; rw [GVal.toD_eq] at this; rw [hlen, Nat.zero_add]; exact this.symm)
  refine ⟨GVal.mk y0 y1 y2 y3 y4 y5 y6, ⟨fp, ?_⟩, ?_⟩
  · rw [GVal.toD_eq, R_agg]; exact hr
  · rw [GVal.toD_eq]; exact ⟨hw0, hw1, hw2, hw3, hw4, hw5, hw6, trivial⟩
theorem rd_GVal (fuel : Nat) : Rdg enc Tryd.prog w spare GVal.toD 44 fuel := by
  induction fuel using Nat.strongRecOn with
  | ind n ih => exact rd_GVal_of n ih
theorem rd_SGVal (fuel : Nat) : Rdg enc Tryd.prog w spare (fun l : List GVal => .sl (l.map GVal.toD)) 40 fuel := rd_slice Tryd.underlying40 cellsOf_GVal (fun y => y.sz_eq) (by omega) fuel fun n _ => rd_GVal n
theorem cellsOf_GCell : Tryd.prog.cellsOf 23 = 6 := by kernel_rfl
theorem rd_GCell (fuel : Nat) : Rdg enc Tryd.prog w spare GCell.toD 23 fuel := fun cs x h => by
  obtain ⟨xs, n, rfl, _, hlen, hxl, hf⟩ := DataW.trod_struct Tryd.underlying23 h
  rw [cellsOf_GCell] at hlen
  have h0 : DataW.trod enc Tryd.prog w 0 spare true n 3 ((cs.drop 0).take (Tryd.prog.cellsOf 3)) = xs[0]? := hf 0 _ rfl
  rw [cellsOf_int, List.getElem?_eq_getElem (by rw [hxl]; decide)] at h0
  obtain ⟨y0, hy0, hw0⟩ := (rd_int0 n) _ _ h0
  have h1 : DataW.trod enc Tryd.prog w 0 spare true n 3 ((cs.drop 1).take (Tryd.prog.cellsOf 3)) = xs[1]? := hf 1 _ rfl
  rw [cellsOf_int, List.getElem?_eq_getElem (by rw [hxl]; decide)] at h1
  obtain ⟨y1, hy1, hw1⟩ := (rd_int0 n) _ _ h1
  have h2 : DataW.trod enc Tryd.prog w 0 spare true n 3 ((cs.drop 2).take (Tryd.prog.cellsOf 3)) = xs[2]? := hf 2 _ rfl
  rw [cellsOf_int, List.getElem?_eq_getElem (by rw [hxl]; decide)] at h2
  obtain ⟨y2, hy2, hw2⟩ := (rd_int0 n) _ _ h2
  have h3 : DataW.trod enc Tryd.prog w 0 spare true n 9 ((cs.drop 3).take (Tryd.prog.cellsOf 9)) = xs[3]? := hf 3 _ rfl
  rw [cellsOf_str, List.getElem?_eq_getElem (by rw [hxl]; decide)] at h3
  obtain ⟨y3, hy3, hw3⟩ := (rd_str0 n) _ _ h3
  have h4 : DataW.trod enc Tryd.prog w 0 spare true n 9 ((cs.drop 4).take (Tryd.prog.cellsOf 9)) = xs[4]? := hf 4 _ rfl
  rw [cellsOf_str, List.getElem?_eq_getElem (by rw [hxl]; decide)] at h4
  obtain ⟨y4, hy4, hw4⟩ := (rd_str0 n) _ _ h4
  have h5 : DataW.trod enc Tryd.prog w 0 spare true n 3 ((cs.drop 5).take (Tryd.prog.cellsOf 3)) = xs[5]? := hf 5 _ rfl
  rw [cellsOf_int, List.getElem?_eq_getElem (by rw [hxl]; decide)] at h5
  obtain ⟨y5, hy5, hw5⟩ := (rd_int0 n) _ _ h5
  have hsegs : Segs w cs 0 [li y0, li y1, li y2, ls y3, ls y4, li y5] := (Segs.cons (s := 1) rfl hy0 (Segs.cons (s := 1) rfl hy1 (Segs.cons (s := 1) rfl hy2 (Segs.cons (s := 1) rfl hy3 (Segs.cons (s := 1) rfl hy4 (Segs.cons (s := 1) rfl hy5 trivial))))))
  obtain ⟨fp, hr⟩ := hsegs.rs _ 0 (by have := (GCell.mk y0 y1 y2 y3 y4 y5).sz_eq; rw [GCell.toD_eq] at this; rw [hlen, Nat.zero_add]; exact this.symm)
  refine ⟨GCell.mk y0 y1 y2 y3 y4 y5, ⟨fp, ?_⟩, ?_⟩
  · rw [GCell.toD_eq, R_agg]; exact hr
  · rw [GCell.toD_eq]; exact ⟨hw0, hw1, hw2, hw3, hw4, hw5, trivial⟩
theorem rd_SGCell (fuel : Nat) : Rdg enc Tryd.prog w spare (fun l : List GCell => .sl (l.map GCell.toD)) 29 fuel := rd_slice Tryd.underlying29 cellsOf_GCell (fun y => y.sz_eq) (by omega) fuel fun n _ => rd_GCell n
theorem cellsOf_SGCell : Tryd.prog.cellsOf 29 = 1 := by kernel_rfl
theorem cellsOf_GNb : Tryd.prog.cellsOf 31 = 1 := by kernel_rfl
theorem rd_GNb (fuel : Nat) : Rdg enc Tryd.prog w spare GNb.toD 31 fuel := fun cs x h => by
  obtain ⟨xs, n, rfl, _, hlen, hxl, hf⟩ := DataW.trod_struct Tryd.underlying31 h
  rw [cellsOf_GNb] at hlen
  have h0 : DataW.trod enc Tryd.prog w 0 spare true n 29 ((cs.drop 0).take (Tryd.prog.cellsOf 29)) = xs[0]? := hf 0 _ rfl
  rw [cellsOf_SGCell, List.getElem?_eq_getElem (by rw [hxl]; decide)] at h0
  obtain ⟨y0, hy0, hw0⟩ := (rd_SGCell n) _ _ h0
  have hsegs : Segs w cs 0 [.sl (y0.map GCell.toD)] := (Segs.cons (s := 1) rfl hy0 trivial)
  obtain ⟨fp, hr⟩ := hsegs.rs _ 0 (by have := (GNb.mk y0).sz_eq; rw [GNb.toD_eq] at this; rw [hlen, Nat.zero_add]; exact this.symm)
  refine ⟨GNb.mk y0, ⟨fp, ?_⟩, ?_⟩
  · rw [GNb.toD_eq, R_agg]; exact hr
  · rw [GNb.toD_eq]; exact ⟨hw0, trivial⟩
end
end Go.Proofs.YtdjcflnemnknaaaDoor
