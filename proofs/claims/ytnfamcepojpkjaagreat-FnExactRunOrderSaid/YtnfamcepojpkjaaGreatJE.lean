/-
  Texts joined: Defs Defs2 Sort Sort2 Sort3 SortLaw Free2 Uses Visit0 Visit Missing Gr Rch.
-/
import Derived.Test.YtnfamcepojpkjaaGreatJA
import Derived.BigQuiet
import Derived.Test.YtnfamcepojpkjaaGreatShelf
import Derived.Sort.OwnSorted
import Derived.Sort.Walk0
import Derived.Test.YtnfamcepojpkjaaGreatJD
namespace Go.Proofs.YtnfamcepojpkjaaGreat
open Go.RowKit
set_option linter.unusedSimpArgs false
set_option linter.unusedVariables false

def isDef (x : GPart) (nm : ByteArray) : Bool := (x.kind != 1) && decide (x.name = nm)
def defsTo (l : List GPart) (nm : ByteArray) : Nat → List Int
  | 0 => []
  | k + 1 => defsTo l nm k ++ (match l[k]? with | some x => if isDef x nm then [(k : Int)] else [] | none => [])
theorem defsTo_len (l : List GPart) (nm : ByteArray) : ∀ k, (defsTo l nm k).length ≤ k
  | 0 => Nat.le_refl _
  | k + 1 => by
    have := defsTo_len l nm k
    rw [defsTo, List.length_append]
    split
    · split <;> simp <;> omega
    · simp; omega
theorem defsTo_skip (l : List GPart) (nm : ByteArray) (k : Nat) (h : k < l.length) (e : isDef l[k] nm = false) : defsTo l nm (k + 1) = defsTo l nm k := by
  rw [defsTo, List.getElem?_eq_getElem h]
  simp [e]
theorem defsTo_hit (l : List GPart) (nm : ByteArray) (k : Nat) (h : k < l.length) (e : isDef l[k] nm = true) : defsTo l nm (k + 1) = defsTo l nm k ++ [(k : Int)] := by
  rw [defsTo, List.getElem?_eq_getElem h]
  simp [e]

/-- A slice of ints that the call owns. -/
def OwnI (w : World) (base : Nat) (l : List Int) (v : Value) : Prop := w.ownsRow base 3 1 v l.length (l.map (Value.int .i64))
theorem Rs_ints {w : World} : ∀ {l : List Int} {fp : List Nat} {cs : List Value}, Rs w (l.map li) fp cs ↔ fp = [] ∧ cs = l.map (Value.int .i64)
  | [], fp, cs => by rw [List.map_nil, Rs]; rfl
  | x :: l, fp, cs => by
    rw [List.map_cons, Rs]
    constructor
    · rintro ⟨f1, f2, c1, c2, rfl, rfl, ⟨rfl, rfl⟩, h2⟩
      obtain ⟨rfl, rfl⟩ := Rs_ints.1 h2
      exact ⟨rfl, rfl⟩
    · rintro ⟨rfl, rfl⟩
      exact ⟨[], [], [.int .i64 x], l.map (Value.int .i64), rfl, rfl, ⟨rfl, rfl⟩, Rs_ints.2 ⟨rfl, rfl⟩⟩
theorem OwnI.sl {w : World} {base : Nat} {l : List Int} {v : Value} (h : OwnI w base l v) : Sl w (l.map li) v.ownBlock.toList v := by
  have h' : w.ownsRow base 3 1 v (l.map li).length (l.map (Value.int .i64)) := by rw [List.length_map]; exact h
  have := Sl.of_own h' (Rs_ints.2 ⟨rfl, rfl⟩)
  rwa [List.append_nil] at this
theorem li_ones {l : List Int} : ∀ d ∈ l.map li, d.one := fun d h => by obtain ⟨x, _, rfl⟩ := List.mem_map.1 h; rfl
theorem info_int1 : (Tryz.prog.info? 3).map (fun i => (i.zero, i.size, i.bytes)) = some (some (.int .i64 0), 1, 8) := by kernel_rfl
theorem wpList_append_int {w : World} {ops : Array Oper} {rest : List Oper} {o : Oper} {a : Act} {Q : Exit → Act → World → Prop} (hgd : o.guard = none) (s x : Operand)
    (ho : o.op = .call { callee := .builtin .append, args := #[s, x], argTypes := #[24, 24] })
    (base : Nat) (v : Value) (l0 : List Int) (hs : a.eval s = v) (hown : OwnI w base l0 v) (g : Nat) (n : Int) (hx : a.eval x = .slice (some ⟨g, 0, none⟩) 1 1) (hrow : Row w g 3 [.int .i64 n])
    (hn : l0.length + 1 ≤ 2097152) (hbase : base ≤ w.heap.size)
    (h : ∀ v' w', OwnI w' base (l0 ++ [n]) v' → w.grownBy w' v.ownBlock → (v'.ownBlock = v.ownBlock ∨ v'.ownBlock = some w.heap.size) → wpList Tryz.prog ops Q rest (a.put o.dst v') w') : wpList Tryz.prog ops Q (o :: rest) a w := by
  obtain ⟨i0, hi0, hz0, hz1, hz2⟩ := info_parts info_int1
  have hsl : Sl w ([n].map li) [g] (.slice (some ⟨g, 0, none⟩) 1 1) := Sl.of_row hrow (Rs_ints.2 ⟨rfl, rfl⟩) rfl (by unfold maxLen; omega)
  refine wpList_append_sl hgd s x _ ho base 3 i0 _ 1 8 Tryz.underlying24 hi0 hz0 hz1 hz2 rfl (by omega) v l0.length (l0.map (Value.int .i64)) hs hown ([n].map li) [g] _ hx hsl li_ones li_szs (by simp only [List.map_cons, List.map_nil, List.length_cons, List.length_nil]; unfold maxLen; omega) (by simp only [List.map_cons, List.map_nil, List.length_cons, List.length_nil]; omega) hbase ?_
  intro v' w' fp' cs hr _ hown' hg hat
  refine h v' w' ?_ hg hat
  obtain ⟨rfl, rfl⟩ := Rs_ints.1 hr
  unfold OwnI
  rw [List.map_append, List.length_append]
  exact hown'
theorem ownsRow_ge {w : World} {base : Nat} {e : TypeId} {s : Nat} {v : Value} {n : Nat} {xs : List Value} (h : w.ownsRow base e s v n xs) {g : Nat} (hg : v.ownBlock = some g) : base ≤ g := by
  rcases h.2 with ⟨rfl, _⟩ | ⟨g', cap, cur, rfl, hb, _⟩
  · simp [Value.ownBlock] at hg
  · simp [Value.ownBlock] at hg
    omega
theorem OwnI.lit {w : World} {base g : Nat} (hg : w.heap.size = g) (hb : base ≤ g) : OwnI (w.alloc (.cells #[] 3)) base [] (.slice (some ⟨g, 0, none⟩) 0 0) := by
  subst hg
  exact World.ownsRow_lit w #[] 0 hb (by simp) rfl

def DefPost (l : List GPart) (nm : ByteArray) (w : World) (e : Ending) (w' : World) : Prop := ∃ v, e = .returned v ∧ OwnI w' w.heap.size (defsTo l nm l.length) v ∧ Below w.heap.size w w'
theorem bytes_eq_of {a b : ByteArray} (h : a.toList = b.toList) : a = b := by
  rw [ByteArray.toList_eq, ByteArray.toList_eq] at h
  have : a.data = b.data := Array.toList_inj.1 h
  cases a; cases b; simp_all

set_option maxRecDepth 20000 in
set_option maxHeartbeats 4000000 in
theorem definers_impl (l : List GPart) (nm : ByteArray) (fp : List Nat) (v : Value) (w : World) (hS : Sl w (l.map GPart.toD) fp v) (hn : l.length ≤ 1048576) : Calls Tryz.prog 54 #[v, .string nm] w (DefPost l nm w) := by
  obtain ⟨A, c, rfl, hl, hc⟩ := hS.formT
  have hm : l.length ≤ 9223372036854775807 := by omega
  have hn' := Lib.hid hn
  clear hl hc hn
  go_enter Tryz.func54, Tryz.ntmps54
  go_wp2_with fail
  go_loopw [5, 11] (fun nv iv wr => ∃ k : Nat, k ≤ l.length ∧ iv = .int .i64 k ∧ OwnI wr w.heap.size (defsTo l nm k) nv ∧ Below w.heap.size w wr) (fun _ iv _ => l.length - (intOf iv).toNat)
  case atStart => exact ⟨0, by omega, rfl, OwnI.lit rfl (Nat.le_refl _), (Below.refl _ _).alloc (Nat.le_refl _) _⟩
  case round =>
    obtain ⟨k, hk, rfl, ho, hb⟩ := hrel
    by_cases hlt : k < l.length
    · have hd : (l.map GPart.toD)[k]? = some (GPart.toD l[k]) := by rw [List.getElem?_map, List.getElem?_eq_getElem hlt]; rfl
      obtain ⟨b, o, fi, ci, rfl, hbb, hbf, hri, hfi, hat⟩ := hS.elem GPart.szs hd
      obtain ⟨v0, v1, v2, v3, f0, f1, f2, f3, rfl, rfl, hS0, hS1, hS2, hS3⟩ := GPart.opened.1 hri
      have hdl := Lib.hid (defsTo_len l nm k)
      have q0 : wr.cell? ⟨b, o + k * 14, none⟩ = some (.int .i64 l[k].kind) := (hb.cell (p := ⟨b, o + k * 14, none⟩) hbb).trans (hat.head)
      have q1 : wr.cell? ⟨b, o + k * 14 + 1, none⟩ = some (.string l[k].name) := (hb.cell (p := ⟨b, o + k * 14 + 1, none⟩) hbb).trans (hat.nth 1 rfl)
      have q2 : wr.cell? ⟨b, o + k * 14 + 2, none⟩ = some (.int .i64 l[k].expr.kind) := (hb.cell (p := ⟨b, o + k * 14 + 2, none⟩) hbb).trans (hat.nth 2 rfl)
      have q3 : wr.cell? ⟨b, o + k * 14 + 3, none⟩ = some (.int .i64 l[k].expr.n) := (hb.cell (p := ⟨b, o + k * 14 + 3, none⟩) hbb).trans (hat.nth 3 rfl)
      have q4 : wr.cell? ⟨b, o + k * 14 + 4, none⟩ = some (.string l[k].expr.text) := (hb.cell (p := ⟨b, o + k * 14 + 4, none⟩) hbb).trans (hat.nth 4 rfl)
      have q5 : wr.cell? ⟨b, o + k * 14 + 5, none⟩ = some (v0) := (hb.cell (p := ⟨b, o + k * 14 + 5, none⟩) hbb).trans (hat.nth 5 rfl)
      have q6 : wr.cell? ⟨b, o + k * 14 + 6, none⟩ = some (.int .i64 l[k].value.kind) := (hb.cell (p := ⟨b, o + k * 14 + 6, none⟩) hbb).trans (hat.nth 6 rfl)
      have q7 : wr.cell? ⟨b, o + k * 14 + 7, none⟩ = some (.int .i64 l[k].value.n) := (hb.cell (p := ⟨b, o + k * 14 + 7, none⟩) hbb).trans (hat.nth 7 rfl)
      have q8 : wr.cell? ⟨b, o + k * 14 + 8, none⟩ = some (.int .i64 l[k].value.step) := (hb.cell (p := ⟨b, o + k * 14 + 8, none⟩) hbb).trans (hat.nth 8 rfl)
      have q9 : wr.cell? ⟨b, o + k * 14 + 9, none⟩ = some (.string l[k].value.text) := (hb.cell (p := ⟨b, o + k * 14 + 9, none⟩) hbb).trans (hat.nth 9 rfl)
      have q10 : wr.cell? ⟨b, o + k * 14 + 10, none⟩ = some (v1) := (hb.cell (p := ⟨b, o + k * 14 + 10, none⟩) hbb).trans (hat.nth 10 rfl)
      have q11 : wr.cell? ⟨b, o + k * 14 + 11, none⟩ = some (v2) := (hb.cell (p := ⟨b, o + k * 14 + 11, none⟩) hbb).trans (hat.nth 11 rfl)
      have q12 : wr.cell? ⟨b, o + k * 14 + 12, none⟩ = some (v3) := (hb.cell (p := ⟨b, o + k * 14 + 12, none⟩) hbb).trans (hat.nth 12 rfl)
      have q13 : wr.cell? ⟨b, o + k * 14 + 13, none⟩ = some (.int .i64 l[k].pos) := (hb.cell (p := ⟨b, o + k * 14 + 13, none⟩) hbb).trans (hat.nth 13 rfl)
      obtain ⟨B0, c0, rfl, _, _⟩ := hS0.formT
      obtain ⟨B1, c1, rfl, _, _⟩ := hS1.formT
      obtain ⟨B2, c2, rfl, _, _⟩ := hS2.formT
      obtain ⟨B3, c3, rfl, _, _⟩ := hS3.formT
      clear hat hd hri hS0 hS1 hS2 hS3
      have hskip := Lib.hid (defsTo_skip l nm k hlt)
      have hhit := Lib.hid (defsTo_hit l nm k hlt)
      cases e1 : (l[k].kind != 1) with
      | false =>
        go_wp2_with fail
        go_roundw
        case rel => exact ⟨k + 1, by omega, by go_num, by rw [hskip.out (by simp [isDef, e1])]; exact ownsRow_below ho ((Below.refl _ _).alloc (Nat.le_refl _) _), hb.alloc hb.size _⟩
        case measure => (simp [intOf] <;> omega)
      | true =>
        cases e2 : (l[k].name.toList == nm.toList) with
        | false =>
          have e2' := Lib.hid (show ¬ l[k].name = nm from fun e => by simp [e] at e2)
          go_wp2_with fail
          go_roundw
          case rel => exact ⟨k + 1, by omega, by go_num, by rw [hskip.out (by simp [isDef, e1, e2'.out])]; exact ownsRow_below ho ((Below.refl _ _).alloc (Nat.le_refl _) _), hb.alloc hb.size _⟩
          case measure => (simp [intOf] <;> omega)
        | true =>
          have e2' := Lib.hid (show l[k].name = nm from bytes_eq_of (by simpa using e2))
          go_wp2_with (at_builtin; refine wpList_append_int rfl _ _ rfl w.heap.size _ (defsTo l nm k) rfl ?h1 (wr.heap.size + 1) (k : Int) ?hx ?h2 ?h3 ?h4 ?_; rotate_left 5; intro v1 w1 hown1 hg1 hat1; have hz1 := hg1.size)
          case hx => rfl
          case h1 => exact ownsRow_below ho (((Below.refl _ _).alloc (Nat.le_refl _) _).alloc (by simp) _)
          case h2 => have := Row.new (wr.alloc (.cells #[.int .i64 l[k].kind, .string l[k].name, .int .i64 l[k].expr.kind, .int .i64 l[k].expr.n, .string l[k].expr.text, .slice B0 l[k].expr.args.length c0, .int .i64 l[k].value.kind, .int .i64 l[k].value.n, .int .i64 l[k].value.step, .string l[k].value.text, .slice B1 l[k].value.list.length c1, .slice B2 l[k].value.cols.length c2, .slice B3 l[k].value.rows.length c3, .int .i64 l[k].pos] 57)) 3 #[.int .i64 (k : Int)]; simpa using this
          case h3 => have := hdl.out; have := hn'.out; omega
          case h4 => have := hb.size; simp; omega
          go_wp2_with fail
          go_roundw
          case rel =>
            refine ⟨k + 1, by omega, by go_num, by rw [hhit.out (by simp [isDef, e1, e2'.out])]; exact hown1, ?_⟩
            have hs0 := hb.size
            refine Below.grown ((hb.alloc hb.size _).alloc (by simp; omega) _) hg1 (by simp; omega) (fun g hg => ?_)
            have hge := ownsRow_ge ho hg
            omega
          case measure => (simp [intOf] <;> omega)
    · have hf := Lib.hid (show k = l.length by omega)
      go_wp2_with fail
      go_ret
      exact ⟨_, rfl, by rw [← hf.out]; exact ho, hb⟩

set_option maxRecDepth 20000 in
set_option maxHeartbeats 4000000 in
theorem definers_spec (l : List GPart) (nm : ByteArray) (fp : List Nat) (v : Value) (w : World) (hS : Sl w (l.map GPart.toD) fp v) (hn : l.length ≤ 1048576) : Calls Tryz.prog 65 #[v, .string nm] w (DefPost l nm w) := by
  obtain ⟨A, c, rfl, hl, hc⟩ := hS.formT
  have hm : l.length ≤ 9223372036854775807 := by omega
  have hn' := Lib.hid hn
  clear hl hc hn
  go_enter Tryz.func65, Tryz.ntmps65
  go_wp2_with fail
  go_loopw [5, 6] (fun nv iv wr => ∃ k : Nat, k ≤ l.length ∧ iv = .int .i64 k ∧ OwnI wr w.heap.size (defsTo l nm k) nv ∧ Below w.heap.size w wr) (fun _ iv _ => l.length - (intOf iv).toNat)
  case atStart => exact ⟨0, by omega, rfl, OwnI.lit rfl (Nat.le_refl _), (Below.refl _ _).alloc (Nat.le_refl _) _⟩
  case round =>
    obtain ⟨k, hk, rfl, ho, hb⟩ := hrel
    by_cases hlt : k < l.length
    · have hd : (l.map GPart.toD)[k]? = some (GPart.toD l[k]) := by rw [List.getElem?_map, List.getElem?_eq_getElem hlt]; rfl
      obtain ⟨b, o, fi, ci, rfl, hbb, hbf, hri, hfi, hat⟩ := hS.elem GPart.szs hd
      obtain ⟨v0, v1, v2, v3, f0, f1, f2, f3, rfl, rfl, hS0, hS1, hS2, hS3⟩ := GPart.opened.1 hri
      have hdl := Lib.hid (defsTo_len l nm k)
      have q0 : wr.cell? ⟨b, o + k * 14, none⟩ = some (.int .i64 l[k].kind) := (hb.cell (p := ⟨b, o + k * 14, none⟩) hbb).trans (hat.head)
      have q1 : wr.cell? ⟨b, o + k * 14 + 1, none⟩ = some (.string l[k].name) := (hb.cell (p := ⟨b, o + k * 14 + 1, none⟩) hbb).trans (hat.nth 1 rfl)
      clear hat hd hri hS0 hS1 hS2 hS3
      have hskip := Lib.hid (defsTo_skip l nm k hlt)
      have hhit := Lib.hid (defsTo_hit l nm k hlt)
      cases e1 : (l[k].kind != 1) with
      | false =>
        go_wp2_with fail
        go_roundw
        case rel => exact ⟨k + 1, by omega, by go_num, by rw [hskip.out (by simp [isDef, e1])]; exact ho, hb⟩
        case measure => (simp [intOf] <;> omega)
      | true =>
        cases e2 : (l[k].name.toList == nm.toList) with
        | false =>
          have e2' := Lib.hid (show ¬ l[k].name = nm from fun e => by simp [e] at e2)
          go_wp2_with fail
          go_roundw
          case rel => exact ⟨k + 1, by omega, by go_num, by rw [hskip.out (by simp [isDef, e1, e2'.out])]; exact ho, hb⟩
          case measure => (simp [intOf] <;> omega)
        | true =>
          have e2' := Lib.hid (show l[k].name = nm from bytes_eq_of (by simpa using e2))
          go_wp2_with (at_builtin; refine wpList_append_int rfl _ _ rfl w.heap.size _ (defsTo l nm k) rfl ?h1 wr.heap.size (k : Int) ?hx ?h2 ?h3 ?h4 ?_; rotate_left 5; intro v1 w1 hown1 hg1 hat1; have hz1 := hg1.size)
          case hx => rfl
          case h1 => exact ownsRow_below ho ((Below.refl _ _).alloc (Nat.le_refl _) _)
          case h2 => exact Row.new wr 3 #[.int .i64 (k : Int)]
          case h3 => have := hdl.out; have := hn'.out; omega
          case h4 => have := hb.size; simp; omega
          go_wp2_with fail
          go_roundw
          case rel =>
            refine ⟨k + 1, by omega, by go_num, by rw [hhit.out (by simp [isDef, e1, e2'.out])]; exact hown1, ?_⟩
            have hs0 := hb.size
            refine Below.grown (hb.alloc hb.size _) hg1 (by simp; omega) (fun g hg => ?_)
            have hge := ownsRow_ge ho hg
            omega
          case measure => (simp [intOf] <;> omega)
    · have hf := Lib.hid (show k = l.length by omega)
      go_wp2_with fail
      go_ret
      exact ⟨_, rfl, by rw [← hf.out]; exact ho, hb⟩

def resV (D : List Int) : Int := match D with | [] => -1 | [x] => x | _ => -2
set_option maxHeartbeats 1000000 in
theorem resolve_spec (l : List GPart) (nm : ByteArray) (fp : List Nat) (v : Value) (w : World) (hS : Sl w (l.map GPart.toD) fp v) (hn : l.length ≤ 1048576) : Calls Tryz.prog 48 #[v, .string nm] w (RetB (.int .i64 (resV (defsTo l nm l.length))) w) := by
  have hc := definers_spec l nm fp v w hS hn
  have hle := Lib.hid (defsTo_len l nm l.length)
  unfold DefPost at hc
  generalize defsTo l nm l.length = D at *
  obtain ⟨A, c, rfl, _, _⟩ := hS.formT
  clear hS
  go_enter Tryz.func48, Tryz.ntmps48
  go_wp2_with fail
  refine hc.mono ?_
  rintro e w1 ⟨v1, rfl, ho, hb⟩
  have hsl := ho.sl
  obtain ⟨A1, c1, rfl, _, _⟩ := hsl.formT
  match D, ho, hsl, hle with
  | [], ho, hsl, hle =>
    clear ho hsl hle
    go_wp2_with fail
    go_ret
    exact ⟨rfl, hb⟩
  | [x], ho, hsl, hle =>
    obtain ⟨b, o, fi, ci, rfl, hbb, hbf, hri, hfi, hat⟩ := hsl.elem li_szs (k := 0) (d := li x) rfl
    obtain ⟨rfl, rfl⟩ := hri
    have q0 : w1.cell? ⟨b, o, none⟩ = some (.int .i64 x) := by simpa using hat.head
    clear hat ho hsl hle
    go_wp2_with fail
    go_ret
    exact ⟨rfl, hb⟩
  | x :: y :: r, ho, hsl, hle =>
    have hl : (x :: y :: r).length ≤ 1048576 := Nat.le_trans hle.out hn
    rw [List.length_cons, List.length_cons] at hl
    clear ho hsl hle
    go_wp2_with fail
    go_ret
    exact ⟨rfl, hb⟩

def dupB (l : List GPart) (i : Int) : Bool := if 0 ≤ i then (match l[i.toNat]? with | some x => (x.kind != 1) && decide (1 < (defsTo l x.name l.length).length) | none => false) else false
theorem dup_res {l : List GPart} {nm : ByteArray} {n : Nat} : decide (1 < (defsTo l nm n).length) = (resV (defsTo l nm n) == -2) := by
  have hnn : ∀ x ∈ defsTo l nm n, 0 ≤ x := by
    induction n with
    | zero => intro x hx; simp [defsTo] at hx
    | succ k ih =>
      intro x hx
      rw [defsTo, List.mem_append] at hx
      rcases hx with hx | hx
      · exact ih x hx
      · split at hx
        · split at hx
          · simp at hx; omega
          · simp at hx
        · simp at hx
  generalize defsTo l nm n = D at *
  match D, hnn with
  | [], _ => rfl
  | [x], hnn =>
    have := hnn x (by simp)
    simp [resV]
    omega
  | x :: y :: r, _ => simp [resV]

set_option maxRecDepth 20000 in
set_option maxHeartbeats 2000000 in
theorem isDuplicate_impl (l : List GPart) (i : Int) (fp : List Nat) (v : Value) (w : World) (hS : Sl w (l.map GPart.toD) fp v) (hn : l.length ≤ 1048576) : Calls Tryz.prog 36 #[v, .int .i64 i] w (RetB (.bool (dupB l i)) w) := by
  have hc := fun nm => definers_impl l nm fp v w hS hn
  have hS' := hS
  obtain ⟨A, c, rfl, _, _⟩ := hS.formT
  clear hS
  unfold dupB
  by_cases h0 : 0 ≤ i
  · rw [if_pos h0]
    by_cases h1 : i < l.length
    · obtain ⟨k, rfl⟩ := Int.eq_ofNat_of_zero_le h0
      have hlt : k < l.length := by omega
      have hd : (l.map GPart.toD)[k]? = some (GPart.toD l[k]) := by rw [List.getElem?_map, List.getElem?_eq_getElem hlt]; rfl
      obtain ⟨b, o, fi, ci, rfl, hbb, hbf, hri, hfi, hat⟩ := hS'.elem GPart.szs hd
      obtain ⟨v0, v1, v2, v3, f0, f1, f2, f3, rfl, rfl, hS0, hS1, hS2, hS3⟩ := GPart.opened.1 hri
      have q0 : w.cell? ⟨b, o + k * 14, none⟩ = some (.int .i64 l[k].kind) := hat.head
      have q1 : w.cell? ⟨b, o + k * 14 + 1, none⟩ = some (.string l[k].name) := hat.nth 1 rfl
      have hc' := hc l[k].name
      rw [Int.toNat_natCast, List.getElem?_eq_getElem hlt]
      clear hat hd hri hS0 hS1 hS2 hS3 hc hS'
      dsimp only
      cases e1 : (l[k].kind != 1) with
      | false =>
        clear hc'
        go_enter Tryz.func36, Tryz.ntmps36
        go_wp2_with fail
        go_ret
        exact ⟨rfl, Below.refl _ _⟩
      | true =>
        rw [Bool.true_and]
        cases e2 : decide (1 < (defsTo l l[k].name l.length).length) with
        | true =>
          have p2 : (1 : Int) < ((defsTo l l[k].name l.length).length : Int) := by have := of_decide_eq_true e2; omega
          clear e2
          go_enter Tryz.func36, Tryz.ntmps36
          go_wp2_with (go_at_call 54; refine hc'.mono ?_; rintro e w1 ⟨v1, rfl, ho, hb⟩; obtain ⟨A1, c1, rfl, _, _⟩ := ho.sl.formT)
          go_ret
          exact ⟨rfl, hb⟩
        | false =>
          have p2 : ¬ (1 : Int) < ((defsTo l l[k].name l.length).length : Int) := by have := of_decide_eq_false e2; omega
          clear e2
          go_enter Tryz.func36, Tryz.ntmps36
          go_wp2_with (go_at_call 54; refine hc'.mono ?_; rintro e w1 ⟨v1, rfl, ho, hb⟩; obtain ⟨A1, c1, rfl, _, _⟩ := ho.sl.formT)
          go_ret
          exact ⟨ret_bool (decide_eq_false (Int.not_lt.2 p2)), hb⟩
    · have hnone : l[i.toNat]? = none := List.getElem?_eq_none (by omega)
      rw [hnone]
      clear hc hS'
      go_enter Tryz.func36, Tryz.ntmps36
      go_wp2_with fail
      go_ret
      exact ⟨rfl, Below.refl _ _⟩
  · rw [if_neg h0]
    clear hc hS'
    go_enter Tryz.func36, Tryz.ntmps36
    go_wp2_with fail
    go_ret
    exact ⟨rfl, Below.refl _ _⟩

set_option maxRecDepth 20000 in
set_option maxHeartbeats 2000000 in
theorem isDuplicate_spec (l : List GPart) (i : Int) (fp : List Nat) (v : Value) (w : World) (hS : Sl w (l.map GPart.toD) fp v) (hn : l.length ≤ 1048576) : Calls Tryz.prog 31 #[v, .int .i64 i] w (RetB (.bool (dupB l i)) w) := by
  have hc := fun nm => resolve_spec l nm fp v w hS hn
  have hS' := hS
  obtain ⟨A, c, rfl, _, _⟩ := hS.formT
  clear hS
  unfold dupB
  by_cases h0 : 0 ≤ i
  · rw [if_pos h0]
    by_cases h1 : i < l.length
    · obtain ⟨k, rfl⟩ := Int.eq_ofNat_of_zero_le h0
      have hlt : k < l.length := by omega
      have hd : (l.map GPart.toD)[k]? = some (GPart.toD l[k]) := by rw [List.getElem?_map, List.getElem?_eq_getElem hlt]; rfl
      obtain ⟨b, o, fi, ci, rfl, hbb, hbf, hri, hfi, hat⟩ := hS'.elem GPart.szs hd
      obtain ⟨v0, v1, v2, v3, f0, f1, f2, f3, rfl, rfl, hS0, hS1, hS2, hS3⟩ := GPart.opened.1 hri
      have q0 : w.cell? ⟨b, o + k * 14, none⟩ = some (.int .i64 l[k].kind) := hat.head
      have q1 : w.cell? ⟨b, o + k * 14 + 1, none⟩ = some (.string l[k].name) := hat.nth 1 rfl
      have hc' := hc l[k].name
      rw [Int.toNat_natCast, List.getElem?_eq_getElem hlt]
      clear hat hd hri hS0 hS1 hS2 hS3 hc hS'
      dsimp only
      have qin : inR (k : Int) 0 ((l.length : Int) - 1) = true := by unfold inR; simp; omega
      cases e1 : (l[k].kind != 1) with
      | false =>
        clear hc'
        go_enter Tryz.func31, Tryz.ntmps31
        go_wp2_with (go_at_call 46; refine (l1In_any _ _ _ _).mono ?_; rintro e w' ⟨rfl, rfl⟩)
        go_ret
        exact ⟨rfl, Below.refl _ _⟩
      | true =>
        rw [Bool.true_and]
        rw [dup_res]
        generalize resV (defsTo l l[k].name l.length) = rv at *
        cases e2 : (rv == -2) with
        | true =>
          go_enter Tryz.func31, Tryz.ntmps31
          go_wp2_with (first | (go_at_call 46; refine (l1In_any _ _ _ _).mono ?_; rintro e w' ⟨rfl, rfl⟩) | (go_at_call 48; refine hc'.mono ?_; rintro e w1 ⟨rfl, hb⟩))
          go_ret
          exact ⟨rfl, hb⟩
        | false =>
          go_enter Tryz.func31, Tryz.ntmps31
          go_wp2_with (first | (go_at_call 46; refine (l1In_any _ _ _ _).mono ?_; rintro e w' ⟨rfl, rfl⟩) | (go_at_call 48; refine hc'.mono ?_; rintro e w1 ⟨rfl, hb⟩))
          go_ret
          exact ⟨rfl, hb⟩
    · have hnone : l[i.toNat]? = none := List.getElem?_eq_none (by omega)
      rw [hnone]
      clear hc hS'
      have qin : inR i 0 ((l.length : Int) - 1) = false := by unfold inR; simp; omega
      go_enter Tryz.func31, Tryz.ntmps31
      go_wp2_with (go_at_call 46; refine (l1In_any _ _ _ _).mono ?_; rintro e w' ⟨rfl, rfl⟩)
      go_ret
      exact ⟨rfl, Below.refl _ _⟩
  · rw [if_neg h0]
    clear hc hS'
    have qin : inR i 0 ((l.length : Int) - 1) = false := by unfold inR; simp; omega
    go_enter Tryz.func31, Tryz.ntmps31
    go_wp2_with (go_at_call 46; refine (l1In_any _ _ _ _).mono ?_; rintro e w' ⟨rfl, rfl⟩)
    go_ret
    exact ⟨rfl, Below.refl _ _⟩
end Go.Proofs.YtnfamcepojpkjaaGreat

namespace Go.Proofs.YtnfamcepojpkjaaGreat
open Go.RowKit
set_option linter.unusedSimpArgs false
set_option linter.unusedVariables false

theorem OwnI.tos {w w' : World} {l : List Int} {v : Value} (h : OwnI w' w.heap.size l v) (hb : Below w.heap.size w w') : TosPost (l.map li) w (.returned v) w' :=
  ⟨v.ownBlock.toList, v, rfl, h.sl, by have := Free.of_own h Free.nil (fun g _ => by simp); rwa [List.append_nil] at this, hb⟩
theorem DefPost.tos {l : List GPart} {nm : ByteArray} {w w' : World} {e : Ending} (h : DefPost l nm w e w') : TosPost ((defsTo l nm l.length).map li) w e w' := by
  obtain ⟨v, rfl, ho, hb⟩ := h
  exact ho.tos hb
theorem definers_impl_to (l : List GPart) (nm : ByteArray) (fp : List Nat) (v : Value) (w : World) (hS : Sl w (l.map GPart.toD) fp v) (hn : l.length ≤ 1048576) : Calls Tryz.prog 54 #[v, .string nm] w (TosPost ((defsTo l nm l.length).map li) w) :=
  (definers_impl l nm fp v w hS hn).mono fun _ _ h => h.tos
theorem definers_spec_to (l : List GPart) (nm : ByteArray) (fp : List Nat) (v : Value) (w : World) (hS : Sl w (l.map GPart.toD) fp v) (hn : l.length ≤ 1048576) : Calls Tryz.prog 65 #[v, .string nm] w (TosPost ((defsTo l nm l.length).map li) w) :=
  (definers_spec l nm fp v w hS hn).mono fun _ _ h => h.tos

set_option maxHeartbeats 1000000 in
theorem resolve_impl (l : List GPart) (nm : ByteArray) (fp : List Nat) (v : Value) (w : World) (hS : Sl w (l.map GPart.toD) fp v) (hn : l.length ≤ 1048576) : Calls Tryz.prog 57 #[v, .string nm] w (RetB (.int .i64 (resV (defsTo l nm l.length))) w) := by
  have hc := definers_impl l nm fp v w hS hn
  have hle := Lib.hid (defsTo_len l nm l.length)
  unfold DefPost at hc
  generalize defsTo l nm l.length = D at *
  obtain ⟨A, c, rfl, _, _⟩ := hS.formT
  clear hS
  go_enter Tryz.func57, Tryz.ntmps57
  go_wp2_with fail
  refine hc.mono ?_
  rintro e w1 ⟨v1, rfl, ho, hb⟩
  have hsl := ho.sl
  obtain ⟨A1, c1, rfl, _, _⟩ := hsl.formT
  match D, ho, hsl, hle with
  | [], ho, hsl, hle =>
    clear ho hsl hle
    go_wp2_with fail
    go_ret
    exact ⟨rfl, hb⟩
  | [x], ho, hsl, hle =>
    obtain ⟨b, o, fi, ci, rfl, hbb, hbf, hri, hfi, hat⟩ := hsl.elem li_szs (k := 0) (d := li x) rfl
    obtain ⟨rfl, rfl⟩ := hri
    have q0 : w1.cell? ⟨b, o, none⟩ = some (.int .i64 x) := by simpa using hat.head
    clear hat ho hsl hle
    go_wp2_with fail
    go_ret
    exact ⟨rfl, hb⟩
  | x :: y :: r, ho, hsl, hle =>
    have hl : (x :: y :: r).length ≤ 1048576 := Nat.le_trans hle.out hn
    rw [List.length_cons, List.length_cons] at hl
    clear ho hsl hle
    go_wp2_with fail
    go_ret
    exact ⟨rfl, hb⟩

end Go.Proofs.YtnfamcepojpkjaaGreat

namespace Go.Proofs.YtnfamcepojpkjaaGreat
open Go.RowKit
set_option linter.unusedSimpArgs false
set_option linter.unusedVariables false

def idxFromS : List ByteArray → ByteArray → Nat → Int
  | [], _, _ => -1
  | x :: r, s, k => if x = s then (k : Int) else idxFromS r s (k + 1)
def hasS : List ByteArray → ByteArray → Bool
  | [], _ => false
  | x :: r, s => decide (x = s) || hasS r s
theorem hasS_iff {l : List ByteArray} {s : ByteArray} : hasS l s = true ↔ s ∈ l := by
  induction l with
  | nil => simp [hasS]
  | cons x l ih =>
    rw [hasS, Bool.or_eq_true, decide_eq_true_eq, ih, List.mem_cons]
    exact ⟨fun h => h.elim (fun e => Or.inl e.symm) Or.inr, fun h => h.elim (fun e => Or.inl e.symm) Or.inr⟩
def idxS (l : List ByteArray) (s : ByteArray) : Int := idxFromS l s 0

set_option maxHeartbeats 1000000 in
theorem indexOf_impl (l : List ByteArray) (s : ByteArray) (fp : List Nat) (v : Value) (w : World) (hS : Sl w (l.map ls) fp v) : Calls Tryz.prog 85 #[v, .string s] w (RetQ (.int .i64 (idxS l s)) w) := by
  obtain ⟨A, c, rfl, hl, hc⟩ := hS.formT
  have hm : l.length ≤ 9223372036854775807 := by unfold maxLen at hc; omega
  clear hl hc
  go_enter Tryz.func85, Tryz.ntmps85
  go_wp2_with fail
  go_loop [9] (fun iv => ∃ k : Nat, k ≤ l.length ∧ iv = .int .i64 k ∧ idxS l s = idxFromS (l.drop k) s k) (fun iv => l.length - (intOf iv).toNat)
  case atStart => exact ⟨0, by omega, rfl, rfl⟩
  case round =>
    obtain ⟨k, hk, rfl, he⟩ := hrel
    have he' := Lib.hid he
    clear he
    by_cases hlt : k < l.length
    · have hd : (l.map ls)[k]? = some (ls l[k]) := by rw [List.getElem?_map, List.getElem?_eq_getElem hlt]; rfl
      obtain ⟨b, o, fi, ci, rfl, hbb, hbf, hri, hfi, hat⟩ := hS.elem ls_szs hd
      obtain ⟨rfl, rfl⟩ := hri
      simp only [Nat.mul_one] at hat
      have q0 : w.cell? ⟨b, o + k, none⟩ = some (.string l[k]) := hat.head
      clear hat hd
      have hst := Lib.hid (show idxFromS (l.drop k) s k = if l[k] = s then (k : Int) else idxFromS (l.drop (k + 1)) s (k + 1) by rw [List.drop_eq_getElem_cons hlt, idxFromS])
      cases e1 : (l[k].toList == s.toList) with
      | true =>
        have hid : l[k] = s := bytes_eq_of (by simpa using e1)
        have hf := Lib.hid (show (k : Int) = idxS l s by rw [he'.out, hst.out, if_pos hid])
        clear hid
        go_wp2_with fail
        go_ret
        exact ⟨ret_int hf.out, rfl⟩
      | false =>
        have hid : ¬ l[k] = s := fun e => by simp [e] at e1
        have hf := Lib.hid (show idxS l s = idxFromS (l.drop (k + 1)) s (k + 1) by rw [he'.out, hst.out, if_neg hid])
        clear hid
        go_wp2_with fail
        go_round
        case rel => exact ⟨k + 1, by omega, by go_num, hf.out⟩
        case measure => (simp [intOf] <;> omega)
    · have hf := Lib.hid (show (-1 : Int) = idxS l s by rw [he'.out, List.drop_eq_nil_of_le (by omega)]; rfl)
      go_wp2_with fail
      go_ret
      exact ⟨ret_int hf.out, rfl⟩

set_option maxHeartbeats 1000000 in
theorem l1Has_spec (l : List ByteArray) (s : ByteArray) (fp : List Nat) (v : Value) (w : World) (hS : Sl w (l.map ls) fp v) : Calls Tryz.prog 83 #[v, .string s] w (RetQ (.bool (hasS l s)) w) := by
  obtain ⟨A, c, rfl, hl, hc⟩ := hS.formT
  have hm : l.length ≤ 9223372036854775807 := by unfold maxLen at hc; omega
  clear hl hc
  go_enter Tryz.func83, Tryz.ntmps83
  go_wp2_with fail
  go_loop [5] (fun iv => ∃ k : Nat, k ≤ l.length ∧ iv = .int .i64 k ∧ hasS l s = hasS (l.drop k) s) (fun iv => l.length - (intOf iv).toNat)
  case atStart => exact ⟨0, by omega, rfl, rfl⟩
  case round =>
    obtain ⟨k, hk, rfl, he⟩ := hrel
    have he' := Lib.hid he
    clear he
    by_cases hlt : k < l.length
    · have hd : (l.map ls)[k]? = some (ls l[k]) := by rw [List.getElem?_map, List.getElem?_eq_getElem hlt]; rfl
      obtain ⟨b, o, fi, ci, rfl, hbb, hbf, hri, hfi, hat⟩ := hS.elem ls_szs hd
      obtain ⟨rfl, rfl⟩ := hri
      simp only [Nat.mul_one] at hat
      have q0 : w.cell? ⟨b, o + k, none⟩ = some (.string l[k]) := hat.head
      clear hat hd
      have hst := Lib.hid (show hasS (l.drop k) s = (decide (l[k] = s) || hasS (l.drop (k + 1)) s) by rw [List.drop_eq_getElem_cons hlt, hasS])
      cases e1 : (l[k].toList == s.toList) with
      | true =>
        have hid : l[k] = s := bytes_eq_of (by simpa using e1)
        have hf := Lib.hid (show true = hasS l s by rw [he'.out, hst.out]; simp [hid])
        clear hid
        go_wp2_with fail
        go_ret
        exact ⟨ret_bool hf.out, rfl⟩
      | false =>
        have hid : ¬ l[k] = s := fun e => by simp [e] at e1
        have hf := Lib.hid (show hasS l s = hasS (l.drop (k + 1)) s by rw [he'.out, hst.out]; simp [hid])
        clear hid
        go_wp2_with fail
        go_round
        case rel => exact ⟨k + 1, by omega, by go_num, hf.out⟩
        case measure => (simp [intOf] <;> omega)
    · have hf := Lib.hid (show false = hasS l s by rw [he'.out, List.drop_eq_nil_of_le (by omega)]; rfl)
      go_wp2_with fail
      go_ret
      exact ⟨ret_bool hf.out, rfl⟩

end Go.Proofs.YtnfamcepojpkjaaGreat

namespace Go.Proofs.YtnfamcepojpkjaaGreat
open Go.RowKit
set_option linter.unusedSimpArgs false
set_option linter.unusedVariables false

theorem flat_strs {w : World} {l : List ByteArray} : ∀ (f : List Nat) (cs : List Value), Rs w (l.map ls) f cs → f = [] := by
  induction l with
  | nil => intro f cs h; exact h.1
  | cons x l ih =>
    intro f cs h
    rw [List.map_cons, Rs] at h
    obtain ⟨f1, f2, c1, c2, rfl, rfl, h1, h2⟩ := h
    rw [h1.1, ih f2 c2 h2]
    rfl
def insAt (acc : List ByteArray) (x : ByteArray) (at_ : Nat) : List ByteArray := if acc[at_]? = some x then acc else acc.take at_ ++ [x] ++ acc.drop at_
def ltS (a b : ByteArray) : Bool := Op.bytesLess a.toList b.toList
def posS : List ByteArray → ByteArray → Nat
  | [], _ => 0
  | y :: r, x => if ltS y x then posS r x + 1 else 0
theorem posS_le (l : List ByteArray) (x : ByteArray) : posS l x ≤ l.length := by
  induction l with
  | nil => simp [posS]
  | cons y r ih => rw [posS]; split <;> simp <;> omega
def insS (acc : List ByteArray) (x : ByteArray) : List ByteArray := insAt acc x (posS acc x)
theorem insS_len (acc : List ByteArray) (x : ByteArray) : (insS acc x).length ≤ acc.length + 1 := by
  unfold insS insAt
  have := posS_le acc x
  split <;> simp <;> omega
def sortTo (l : List ByteArray) (k : Nat) : List ByteArray := (l.take k).foldl insS []
theorem sortTo_len (l : List ByteArray) (k : Nat) : (sortTo l k).length ≤ k := by
  induction k with
  | zero => simp [sortTo]
  | succ k ih =>
    by_cases h : k < l.length
    · unfold sortTo
      rw [List.take_succ_eq_append_getElem h, List.foldl_append]
      have := insS_len ((l.take k).foldl insS []) l[k]
      unfold sortTo at ih
      simp only [List.foldl_cons, List.foldl_nil]
      omega
    · unfold sortTo at ih ⊢
      rw [List.take_of_length_le (by omega)] at ih ⊢
      omega
theorem sortTo_succ (l : List ByteArray) (k : Nat) (h : k < l.length) : sortTo l (k + 1) = insS (sortTo l k) l[k] := by
  unfold sortTo
  rw [List.take_succ_eq_append_getElem h, List.foldl_append]
  rfl

/-- What is handed back: strings in memory of one's own. -/
def OwnStrs (l : List ByteArray) (w : World) (en : Ending) (w' : World) : Prop := ∃ f v, en = .returned v ∧ OwnG w' w.heap.size 9 1 (l.map ls) f v ∧ Below w.heap.size w w'
theorem OwnStrs.tos {l : List ByteArray} {w w' : World} {en : Ending} (h : OwnStrs l w en w') : TosPost (l.map ls) w en w' := by
  obtain ⟨f, v, rfl, h1, h2⟩ := h
  exact h1.tos h2
set_option maxRecDepth 20000 in
set_option maxHeartbeats 8000000 in
theorem sortNames_spec_own (l : List ByteArray) (fp : List Nat) (v : Value) (w : World) (hS : Sl w (l.map ls) fp v) (hn : l.length ≤ 1048576) : Calls Tryz.prog 74 #[v] w (OwnStrs (sortTo l l.length) w) := by
  obtain ⟨A, c, rfl, hl, hc⟩ := hS.formT
  have hm : l.length ≤ 9223372036854775807 := by omega
  have hn' := Lib.hid hn
  clear hl hc hn
  go_enter Tryz.func74, Tryz.ntmps74
  go_wp2_with fail
  go_loopw [3, 4] (fun nv iv wr => ∃ (k : Nat) (g c1 : Nat), k ≤ l.length ∧ iv = .int .i64 k ∧ nv = .slice (some ⟨g, 0, none⟩) (sortTo l k).length c1 ∧ OwnG wr w.heap.size 9 1 ((sortTo l k).map ls) [] nv ∧ Below w.heap.size w wr) (fun _ iv _ => l.length - (intOf iv).toNat)
  case atStart => exact ⟨0, _, _, by omega, rfl, rfl, OwnG.lit rfl (Nat.le_refl _), (Below.refl _ _).alloc (Nat.le_refl _) _⟩
  case round =>
    obtain ⟨k, g, c1, hk, rfl, rfl, ho, hb⟩ := hrel
    by_cases hlt : k < l.length
    · have hd : (l.map ls)[k]? = some (ls l[k]) := by rw [List.getElem?_map, List.getElem?_eq_getElem hlt]; rfl
      obtain ⟨b, o, fi, ci, rfl, hbb, hbf, hri, hfi, hat⟩ := hS.elem ls_szs hd
      obtain ⟨rfl, rfl⟩ := hri
      simp only [Nat.mul_one] at hat
      have hsl := Lib.hid (sortTo_len l k)
      have hsu := Lib.hid (sortTo_succ l k hlt)
      generalize hacc : sortTo l k = acc at *
      have hx : w.cell? ⟨b, o + k, none⟩ = some (.string l[k]) := hat.head
      generalize l[k] = x at *
      clear hacc hat hd
      have q0 : wr.cell? ⟨b, o + k, none⟩ = some (.string x) := (hb.cell (p := ⟨b, o + k, none⟩) hbb).trans hx
      have hk1 : (k : Int) < l.length := by omega
      have hk0 : (0 : Int) ≤ (k : Int) := by omega
      have hal : acc.length ≤ 1048576 := by have := hsl.out; have := hn'.out; omega
      have hbr : b < wr.heap.size := Nat.lt_of_lt_of_le hbb hb.size
      have hac : acc.length ≤ c1 := by
        obtain ⟨A', c', e1, e2, _⟩ := ho.sl.formT
        injection e1 with _ _ e1
        omega
      go_wp2_with fail
      go_loopw [5] (fun av w2 => ∃ (j n : Nat), j ≤ acc.length ∧ av = .int .i64 j ∧ posS acc x = posS (acc.drop j) x + j ∧ w2 = wr.drewN n) (fun av _ => acc.length - (intOf av).toNat)
      case atStart => exact ⟨0, 0, by omega, rfl, by simp, rfl⟩
      case round =>
        obtain ⟨j, n, hj, rfl, hpos, hw2⟩ := hrel
        subst hw2
        have hpos' := Lib.hid hpos
        clear hpos
        have hj0 : (0 : Int) ≤ (j : Int) := by omega
        by_cases hjl : j < acc.length
        · have hj1 : (j : Int) < acc.length := by omega
          have hda : (acc.map ls)[j]? = some (ls acc[j]) := by rw [List.getElem?_map, List.getElem?_eq_getElem hjl]; rfl
          obtain ⟨b2, o2, fi2, ci2, hbo, hbb2, hbf2, hri2, hfi2, hat2⟩ := ho.sl.elem ls_szs hda
          obtain ⟨rfl, rfl⟩ := hri2
          injection hbo with hbo
          injection hbo with hb1 hb2 _
          subst hb1 hb2
          simp only [Nat.mul_one, Nat.zero_add] at hat2
          have q1 : wr.cell? ⟨g, j, none⟩ = some (.string acc[j]) := hat2.head
          clear hat2 hda
          generalize hy : acc[j] = y at *
          have hy' := Lib.hid hy
          clear hy
          have h1 : ∀ W : World, (Instr.slice 38 (.slice (some ⟨g, 0, none⟩) acc.length c1) none (some (.int .i64 (j : Int))) none).run Tryz.prog W = .ok (.slice (some ⟨g, 0, none⟩) j c1) W := ekstr.sub_hi j hj hac
          obtain ⟨A2, h2', h2s⟩ := ekstr.sub_lo (A := some ⟨g, 0, none⟩) j hj hac
          have h2 : ∀ W : World, (Instr.slice 38 (.slice (some ⟨g, 0, none⟩) acc.length c1) (some (.int .i64 (j : Int))) none none).run Tryz.prog W = .ok (.slice A2 (acc.length - j) (c1 - j)) W := h2'
          obtain ⟨fd, hSd, _⟩ := h2s wr _ _ ls_szs ho.sl
          rw [← List.map_drop] at hSd
          clear h2' h2s
          cases e2 : Op.bytesLess y.toList x.toList with
          | true =>
            have hst := Lib.hid (show posS acc x = posS (acc.drop (j + 1)) x + (j + 1) by
              have h1 := hpos'.out
              rw [List.drop_eq_getElem_cons hjl, posS, hy'.out, ltS, e2, if_pos rfl] at h1
              omega)
            go_wp2_with fail
            go_quiet (fail)
            go_wp2_with fail
            go_roundw
            case rel => exact ⟨j + 1, _, by omega, by go_num, hst.out, by first | rfl | rw [World.drewN_drewN]⟩
            case measure => (simp [intOf] <;> omega)
          | false =>
            have hst := Lib.hid (show posS acc x = j by
              have h1 := hpos'.out
              rw [List.drop_eq_getElem_cons hjl, posS, hy'.out, ltS, e2, if_neg (by simp)] at h1
              omega)
            cases e3 : (y.toList == x.toList) with
            | true =>
              have heq := Lib.hid (show insS acc x = acc by
                have hyx : y = x := bytes_eq_of (by simpa using e3)
                unfold insS insAt
                rw [hst.out, List.getElem?_eq_getElem hjl, hy'.out, hyx, if_pos rfl])
              go_wp2_with fail
              go_quiet (fail)
              go_wp2_with fail
              go_quiet (fail)
              go_wp2_with fail
              go_roundw
              case rel => exact ⟨k + 1, g, c1, by omega, by go_num, by rw [hsu.out, heq.out], by rw [hsu.out, heq.out]; exact ho.below (below_drewN (Below.refl _ _) _), below_drewN hb _⟩
              case measure => (simp [intOf] <;> omega)
            | false =>
              have heq := Lib.hid (show insS acc x = acc.take j ++ [x] ++ acc.drop j by
                have hyx : ¬ y = x := fun e => by simp [e] at e3
                unfold insS insAt
                rw [hst.out, List.getElem?_eq_getElem hjl, hy'.out, if_neg (by simpa using hyx)])
              go_wp2_with fail
              go_quiet (fail)
              go_wp2_with fail
              go_quiet (fail)
              go_wp2_with (at_builtin; refine wpList_append_G rfl ekstr (.tmp 46) (.tmp 49) rfl wr.heap.size _ (by rfl) [] [] (by first | exact (OwnG.lit rfl (Nat.le_refl _)).drewN _ | exact OwnG.lit rfl (Nat.le_refl _)) ((acc.drop j).map ls) [] _ (by rfl) (Src.of_flat (hSd.below (by first | exact below_drewN ((Below.refl _ _).alloc (Nat.le_refl _) _) _ | exact (Below.refl _ _).alloc (Nat.le_refl _) _)) flat_strs) str_ones ls_szs free_nil dis_nil (by simp; try omega) (by simp) ?_; intro v1 w1 ho1 hg1 hat1; have L1 : Below wr.heap.size wr w1 := below_own (by first | exact below_drewN ((Below.refl _ _).alloc (Nat.le_refl _) _) _ | exact (Below.refl _ _).alloc (Nat.le_refl _) _) hg1 (by simp) (fun g' h => by have h := Option.some.inj h; try dsimp only at h; omega); clear hg1 hat1)
              have hot : OwnG w1 w.heap.size 9 1 ((acc.take j).map ls) [] (.slice (some ⟨g, 0, none⟩) j c1) := by rw [List.map_take]; exact (ho.below L1).trunc ls_szs (by rw [List.length_map]; exact hj)
              have q2 : w1.cell? ⟨b, o + k, none⟩ = some (.string x) := (L1.cell (p := ⟨b, o + k, none⟩) hbr).trans q0
              have hgl := (ho.ge g rfl)
              have tok1 : True := trivial
              go_region_held3 (fun w' => w'.cell? ⟨b, o + k, none⟩ = some (.string x)) (go_keep)
                (first
                | (refine step_append_G rfl ekstr (.tmp 59) (.tmp 60) rfl w.heap.size _ (by rfl) _ [] ho3 ((acc.drop j).map ls) [] _ (by rfl) (Src.of_flat hS4 flat_strs) str_ones ls_szs free_nil dis_nil (by simp; try omega) Z3 ?_; intro v3 w3 ho4 hg3 hat3; have q4 : w3.cell? ⟨b, o + k, none⟩ = some (.string x) := (hg3.cell_far _ (Nat.lt_of_lt_of_le hbr Z4) (fun e => Nat.lt_irrefl _ (Nat.lt_of_lt_of_le hbb (ho3.ge _ e.symm).1))).trans q3)
                | (have _t := tok1; refine step_append_G rfl ekstr (.tmp 53) (.tmp 58) rfl w.heap.size _ (by rfl) _ [] (hot.below ((Below.refl _ _).alloc (Nat.le_refl _) _).drew) ([x].map ls) [] _ (by rfl) (Src.one (Row.drew (Row.new_at rfl)) ⟨rfl, rfl⟩) str_ones ls_szs free_nil dis_nil (by simp; try omega) (by have := hb.size; have := L1.size; simp; omega) ?_; intro v2 w2 ho3 hg2 hat2; have hS4 : Sl w2 ((acc.drop j).map ls) _ v1 := R.grown (ho1.sl.below ((Below.refl _ _).alloc (Nat.le_refl _) _).drew) hg2 (fun g' e hm => by have e1 := Option.some.inj e; dsimp only at e1; subst e1; have := (ho1.ge g (Option.mem_toList.1 (by simpa using hm))).1; omega); have Z4 : wr.heap.size ≤ w2.heap.size := Nat.le_trans L1.size (Nat.le_trans (by simp) hg2.size); have Z3 : w.heap.size ≤ w2.heap.size := Nat.le_trans hb.size Z4; have L2 : Below w.heap.size w w2 := below_own (((hb.trans (L1.mono hb.size)).alloc (Nat.le_trans hb.size L1.size) _).drew) hg2 (by have := hb.size; have := L1.size; simp; omega) (fun g' h => by have h := Option.some.inj h; dsimp only at h; omega); have q3 : w2.cell? ⟨b, o + k, none⟩ = some (.string x) := (L2.cell (p := ⟨b, o + k, none⟩) hbb).trans hx; clear tok1))
              rw [← List.map_append, ← List.map_append, ← heq.out, ← hsu.out] at ho4
              have hlen : 0 < (sortTo l (k + 1)).length := by rw [hsu.out, heq.out]; simp; try omega
              obtain ⟨g5, c5, hv5⟩ := ho4.formPos (by rw [List.length_map]; exact hlen)
              rw [List.length_map] at hv5
              subst hv5
              have L3 : Below w.heap.size w w3 := below_own L2 hg3 Z3 (fun g' h => (ho3.ge g' h).1)
              clear hg3 hg2 hat3 hat2
              go_wp2_with fail
              go_roundw
              case rel => exact ⟨k + 1, g5, c5, by omega, by go_num, rfl, ho4, L3⟩
              case measure => (simp [intOf] <;> omega)
        · have hj2 : decide (j < acc.length) = false := by simpa using hjl
          have hjn : ¬ (j : Int) < acc.length := by omega
          have hst := Lib.hid (show posS acc x = j by
            have h1 := hpos'.out
            rw [List.drop_eq_nil_of_le (by omega), posS] at h1
            omega)
          have heq := Lib.hid (show insS acc x = acc.take j ++ [x] ++ acc.drop j by
            unfold insS insAt
            rw [hst.out, List.getElem?_eq_none (by omega), if_neg (by simp)])
          have h1 : ∀ W : World, (Instr.slice 38 (.slice (some ⟨g, 0, none⟩) acc.length c1) none (some (.int .i64 (j : Int))) none).run Tryz.prog W = .ok (.slice (some ⟨g, 0, none⟩) j c1) W := ekstr.sub_hi j hj hac
          obtain ⟨A2, h2', h2s⟩ := ekstr.sub_lo (A := some ⟨g, 0, none⟩) j hj hac
          have h2 : ∀ W : World, (Instr.slice 38 (.slice (some ⟨g, 0, none⟩) acc.length c1) (some (.int .i64 (j : Int))) none none).run Tryz.prog W = .ok (.slice A2 (acc.length - j) (c1 - j)) W := h2'
          obtain ⟨fd, hSd, _⟩ := h2s wr _ _ ls_szs ho.sl
          rw [← List.map_drop] at hSd
          clear h2' h2s
          clear hjl
          go_wp2_with fail
          go_quiet (fail)
          go_wp2_with fail
          go_quiet (fail)
          go_wp2_with (at_builtin; refine wpList_append_G rfl ekstr (.tmp 46) (.tmp 49) rfl wr.heap.size _ (by rfl) [] [] (by first | exact (OwnG.lit rfl (Nat.le_refl _)).drewN _ | exact OwnG.lit rfl (Nat.le_refl _)) ((acc.drop j).map ls) [] _ (by rfl) (Src.of_flat (hSd.below (by first | exact below_drewN ((Below.refl _ _).alloc (Nat.le_refl _) _) _ | exact (Below.refl _ _).alloc (Nat.le_refl _) _)) flat_strs) str_ones ls_szs free_nil dis_nil (by simp; try omega) (by simp) ?_; intro v1 w1 ho1 hg1 hat1; have L1 : Below wr.heap.size wr w1 := below_own (by first | exact below_drewN ((Below.refl _ _).alloc (Nat.le_refl _) _) _ | exact (Below.refl _ _).alloc (Nat.le_refl _) _) hg1 (by simp) (fun g' h => by have h := Option.some.inj h; try dsimp only at h; omega); clear hg1 hat1)
          have hot : OwnG w1 w.heap.size 9 1 ((acc.take j).map ls) [] (.slice (some ⟨g, 0, none⟩) j c1) := by rw [List.map_take]; exact (ho.below L1).trunc ls_szs (by rw [List.length_map]; exact hj)
          have q2 : w1.cell? ⟨b, o + k, none⟩ = some (.string x) := (L1.cell (p := ⟨b, o + k, none⟩) hbr).trans q0
          have hgl := (ho.ge g rfl)
          have tok1 : True := trivial
          go_region_held3 (fun w' => w'.cell? ⟨b, o + k, none⟩ = some (.string x)) (go_keep)
            (first
            | (refine step_append_G rfl ekstr (.tmp 59) (.tmp 60) rfl w.heap.size _ (by rfl) _ [] ho3 ((acc.drop j).map ls) [] _ (by rfl) (Src.of_flat hS4 flat_strs) str_ones ls_szs free_nil dis_nil (by simp; try omega) Z3 ?_; intro v3 w3 ho4 hg3 hat3; have q4 : w3.cell? ⟨b, o + k, none⟩ = some (.string x) := (hg3.cell_far _ (Nat.lt_of_lt_of_le hbr Z4) (fun e => Nat.lt_irrefl _ (Nat.lt_of_lt_of_le hbb (ho3.ge _ e.symm).1))).trans q3)
            | (have _t := tok1; refine step_append_G rfl ekstr (.tmp 53) (.tmp 58) rfl w.heap.size _ (by rfl) _ [] (hot.below ((Below.refl _ _).alloc (Nat.le_refl _) _).drew) ([x].map ls) [] _ (by rfl) (Src.one (Row.drew (Row.new_at rfl)) ⟨rfl, rfl⟩) str_ones ls_szs free_nil dis_nil (by simp; try omega) (by have := hb.size; have := L1.size; simp; omega) ?_; intro v2 w2 ho3 hg2 hat2; have hS4 : Sl w2 ((acc.drop j).map ls) _ v1 := R.grown (ho1.sl.below ((Below.refl _ _).alloc (Nat.le_refl _) _).drew) hg2 (fun g' e hm => by have e1 := Option.some.inj e; dsimp only at e1; subst e1; have := (ho1.ge g (Option.mem_toList.1 (by simpa using hm))).1; omega); have Z4 : wr.heap.size ≤ w2.heap.size := Nat.le_trans L1.size (Nat.le_trans (by simp) hg2.size); have Z3 : w.heap.size ≤ w2.heap.size := Nat.le_trans hb.size Z4; have L2 : Below w.heap.size w w2 := below_own (((hb.trans (L1.mono hb.size)).alloc (Nat.le_trans hb.size L1.size) _).drew) hg2 (by have := hb.size; have := L1.size; simp; omega) (fun g' h => by have h := Option.some.inj h; dsimp only at h; omega); have q3 : w2.cell? ⟨b, o + k, none⟩ = some (.string x) := (L2.cell (p := ⟨b, o + k, none⟩) hbb).trans hx; clear tok1))
          rw [← List.map_append, ← List.map_append, ← heq.out, ← hsu.out] at ho4
          have hlen : 0 < (sortTo l (k + 1)).length := by rw [hsu.out, heq.out]; simp; try omega
          obtain ⟨g5, c5, hv5⟩ := ho4.formPos (by rw [List.length_map]; exact hlen)
          rw [List.length_map] at hv5
          subst hv5
          have L3 : Below w.heap.size w w3 := below_own L2 hg3 Z3 (fun g' h => (ho3.ge g' h).1)
          clear hg3 hg2 hat3 hat2
          go_wp2_with fail
          go_roundw
          case rel => exact ⟨k + 1, g5, c5, by omega, by go_num, rfl, ho4, L3⟩
          case measure => (simp [intOf] <;> omega)
    · have hf := Lib.hid (show k = l.length by omega)
      go_wp2_with fail
      go_ret
      have e := hf.out
      clear hf
      subst e
      exact ⟨_, _, rfl, ho, hb⟩
theorem sortNames_spec (l : List ByteArray) (fp : List Nat) (v : Value) (w : World) (hS : Sl w (l.map ls) fp v) (hn : l.length ≤ 1048576) : Calls Tryz.prog 74 #[v] w (TosPost ((sortTo l l.length).map ls) w) :=
  (sortNames_spec_own l fp v w hS hn).mono fun _ _ h => h.tos
end Go.Proofs.YtnfamcepojpkjaaGreat

namespace Go.Proofs.YtnfamcepojpkjaaGreat
open Go.RowKit
set_option linter.unusedSimpArgs false
set_option linter.unusedVariables false

def toB (x : List UInt8) : ByteArray := ⟨x.toArray⟩
def ofB (s : ByteArray) : List UInt8 := s.data.toList
theorem toB_ofB (s : ByteArray) : toB (ofB s) = s := by cases s; simp [toB, ofB]
theorem ofB_toB (x : List UInt8) : ofB (toB x) = x := by simp [toB, ofB]
def sortB (l : List ByteArray) : List ByteArray := ((l.map ofB).mergeSort fun x y => decide (x ≤ y)).map toB
theorem sortB_len (l : List ByteArray) : (sortB l).length = l.length := by simp [sortB]
theorem Rs_strs {w : World} : ∀ {l : List ByteArray} {fp : List Nat} {cs : List Value}, Rs w (l.map ls) fp cs ↔ fp = [] ∧ cs = l.map Value.string
  | [], fp, cs => by rw [List.map_nil, Rs]; rfl
  | x :: l, fp, cs => by
    rw [List.map_cons, Rs]
    constructor
    · rintro ⟨f1, f2, c1, c2, rfl, rfl, ⟨rfl, rfl⟩, h2⟩
      obtain ⟨rfl, rfl⟩ := Rs_strs.1 h2
      exact ⟨rfl, rfl⟩
    · rintro ⟨rfl, rfl⟩
      exact ⟨[], [], [.string x], l.map Value.string, rfl, rfl, ⟨rfl, rfl⟩, Rs_strs.2 ⟨rfl, rfl⟩⟩
theorem encB (s : ByteArray) : encStr (ofB s) = .string s := by show Value.string (toB (ofB s)) = _; rw [toB_ofB]

theorem sortStrings_own (l : List ByteArray) (g c base : Nat) (w : World) (h : OwnG w base 9 1 (l.map ls) [] (.slice (some ⟨g, 0, none⟩) l.length c)) (hn : l.length ≤ 4194304) :
    Calls Tryz.prog 86 #[.slice (some ⟨g, 0, none⟩) l.length c] w fun e w' => e = .returned (.tuple #[]) ∧ OwnG w' base 9 1 ((sortB l).map ls) [] (.slice (some ⟨g, 0, none⟩) l.length c) ∧ w.grownBy w' (some g) := by
  obtain ⟨cs, ⟨h1, h2⟩, h3, h4, h5⟩ := h
  obtain ⟨_, rfl⟩ := Rs_strs.1 h3
  rw [List.length_map] at h1 h2
  rcases h2 with ⟨h6, _⟩ | ⟨g', cap, cur, h6, h7, h8, h9, h10, h11, h12⟩
  · injection h6 with h6
    cases h6
  · injection h6 with h61 _ h63
    injection h61 with h61
    injection h61 with h61
    subst h61 h63
    have hg : g < w.heap.size := (Array.getElem?_eq_some_iff.1 h8).1
    have hH : Go.Sort.Holds encStr w g 0 (l.map ofB).toArray := by
      intro j hj
      have hj' : j < l.length := by simpa using hj
      have hc : cur[j]? = some (.string l[j]) := by
        have e : (cur.toList.take (l.length * 1))[j]? = (l.map Value.string)[j]? := by rw [h12]
        rw [List.getElem?_take_of_lt (by omega), Array.getElem?_toList, List.getElem?_map, List.getElem?_eq_getElem hj'] at e
        exact e
      refine ⟨?_, by simp [World.frozen?, h8]⟩
      have e2 : encStr (l.map ofB).toArray[j]! = .string l[j] := by
        rw [getElem!_pos _ j hj]
        simp only [List.getElem_toArray, List.getElem_map]
        exact encB _
      rw [e2]
      simpa [World.cell?, h8] using hc
    have hc := Tryz.sort_Strings g 0 c (l.map ofB) w hH hg (by rw [List.length_map]; omega)
    rw [List.length_map] at hc
    refine hc.mono ?_
    rintro e w' ⟨rfl, n, os, rfl⟩
    have hlen : ((l.map ofB).mergeSort fun x y => decide (x ≤ y)).length = (l.map ofB).length := by simp
    have ho := ownsRow_sorted (w := w) (n := n) (os := os) (base := base) (e := 9) hlen h7 h8 (by rw [List.length_map]; exact h9) h10 h11
    rw [List.length_map] at ho
    refine ⟨rfl, ⟨_, ?_, Rs_strs.2 ⟨rfl, rfl⟩, Free.nil, fun _ _ => by simp⟩, grownBy_sorted _⟩
    rw [List.length_map, sortB_len]
    have e3 : ((l.map ofB).mergeSort fun x y => decide (x ≤ y)).map encStr = (sortB l).map Value.string := by
      unfold sortB
      rw [List.map_map]
      rfl
    rw [e3] at ho
    exact ho

def firstsTo (l : List ByteArray) : Nat → List ByteArray
  | 0 => []
  | k + 1 => firstsTo l k ++ (match l[k]? with | some x => if idxS l x = (k : Int) then [x] else [] | none => [])
theorem firstsTo_len (l : List ByteArray) : ∀ k, (firstsTo l k).length ≤ k
  | 0 => Nat.le_refl _
  | k + 1 => by
    have := firstsTo_len l k
    rw [firstsTo, List.length_append]
    split
    · split <;> simp <;> omega
    · simp; omega
theorem firstsTo_succ (l : List ByteArray) (k : Nat) (h : k < l.length) : firstsTo l (k + 1) = firstsTo l k ++ (if idxS l l[k] = (k : Int) then [l[k]] else []) := by rw [firstsTo, List.getElem?_eq_getElem h]

set_option maxRecDepth 20000 in
set_option maxHeartbeats 4000000 in
theorem sortNames_impl0 (l : List ByteArray) (fp : List Nat) (v : Value) (w : World) (hS : Sl w (l.map ls) fp v) (hn : l.length ≤ 1048576) : Calls Tryz.prog 80 #[v] w (OwnStrs (sortB (firstsTo l l.length)) w) := by
  obtain ⟨A, c, rfl, hl, hc⟩ := hS.formT
  have hm : l.length ≤ 9223372036854775807 := by omega
  have hn' := Lib.hid hn
  clear hl hc hn
  go_enter Tryz.func80, Tryz.ntmps80
  go_wp2_with fail
  go_loopw [3, 9] (fun nv iv wr => ∃ (k g c1 : Nat), k ≤ l.length ∧ iv = .int .i64 k ∧ nv = .slice (some ⟨g, 0, none⟩) (firstsTo l k).length c1 ∧ OwnG wr w.heap.size 9 1 ((firstsTo l k).map ls) [] nv ∧ Below w.heap.size w wr) (fun _ iv _ => l.length - (intOf iv).toNat)
  case atStart => exact ⟨0, _, _, by omega, rfl, rfl, OwnG.lit rfl (Nat.le_refl _), (Below.refl _ _).alloc (Nat.le_refl _) _⟩
  case round =>
    obtain ⟨k, g, c1, hk, rfl, rfl, ho, hb⟩ := hrel
    by_cases hlt : k < l.length
    · have hd : (l.map ls)[k]? = some (ls l[k]) := by rw [List.getElem?_map, List.getElem?_eq_getElem hlt]; rfl
      obtain ⟨b, o, fi, ci, rfl, hbb, hbf, hri, hfi, hat⟩ := hS.elem ls_szs hd
      obtain ⟨rfl, rfl⟩ := hri
      simp only [Nat.mul_one] at hat
      have q0 : wr.cell? ⟨b, o + k, none⟩ = some (.string l[k]) := (hb.cell (p := ⟨b, o + k, none⟩) hbb).trans hat.head
      have hsu := Lib.hid (firstsTo_succ l k hlt)
      have hfl := Lib.hid (firstsTo_len l k)
      have hI := fun W h => indexOf_impl l l[k] fp _ W (hS.below (w' := W) h)
      clear hat hd
      cases e1 : (idxS l l[k] == (k : Int)) with
      | false =>
        have e2 := Lib.hid (show firstsTo l (k + 1) = firstsTo l k by rw [hsu.out, if_neg (by simpa using e1), List.append_nil])
        go_wp2_with (go_at_call 85; refine (hI _ hb).mono ?_; rintro e w' ⟨rfl, rfl⟩)
        go_roundw
        case rel => exact ⟨k + 1, g, c1, by omega, by go_num, by rw [e2.out], by rw [e2.out]; exact ho, hb⟩
        case measure => (simp [intOf] <;> omega)
      | true =>
        have e2 := Lib.hid (show firstsTo l (k + 1) = firstsTo l k ++ [l[k]] by rw [hsu.out, if_pos (by simpa using e1)])
        go_wp2_with (first
          | (go_at_call 85; refine (hI _ hb).mono ?_; rintro e w' ⟨rfl, rfl⟩)
          | (at_builtin; refine wpList_append_G rfl ekstr (.tmp 19) (.tmp 21) rfl w.heap.size _ (by rfl) _ [] (ho.below ((Below.refl _ _).alloc (Nat.le_refl _) _)) ([l[k]].map ls) [] _ (by rfl) (Src.one (Row.new_at rfl) ⟨rfl, rfl⟩) str_ones ls_szs free_nil dis_nil (by have := hfl.out; have := hn'.out; simp; omega) (by have := hb.size; simp; omega) ?_; intro v1 w1 ho1 hg1 hat1))
        rw [← List.map_append, ← e2.out] at ho1
        have hlen : 0 < (firstsTo l (k + 1)).length := by rw [e2.out]; simp
        obtain ⟨g5, c5, hv5⟩ := ho1.formPos (by rw [List.length_map]; exact hlen)
        rw [List.length_map] at hv5
        subst hv5
        have L3 : Below w.heap.size w w1 := below_own (hb.alloc hb.size _) hg1 (by have := hb.size; simp; omega) (fun g' h => (ho.ge g' h).1)
        go_roundw
        case rel => exact ⟨k + 1, g5, c5, by omega, by go_num, rfl, ho1, L3⟩
        case measure => (simp [intOf] <;> omega)
    · have hf := Lib.hid (show k = l.length by omega)
      have hfl := firstsTo_len l k
      have hs := sortStrings_own (firstsTo l k) g c1 w.heap.size wr ho (by have := hn'.out; omega)
      clear hfl
      go_wp2_with (go_at_call 86; refine hs.mono ?_; rintro e w2 ⟨rfl, ho2, hg2⟩)
      have L2 : Below w.heap.size w w2 := below_own (v := .slice (some ⟨g, 0, none⟩) 0 0) hb hg2 hb.size (fun g' h => by have h := Option.some.inj h; subst h; exact (ho.ge g rfl).1)
      go_ret
      have e := hf.out
      clear hf
      subst e
      exact ⟨_, _, rfl, ho2, L2⟩
end Go.Proofs.YtnfamcepojpkjaaGreat

namespace Go.Proofs.YtnfamcepojpkjaaGreat
open Go.RowKit
set_option linter.unusedSimpArgs false
set_option linter.unusedVariables false

def LtB (a b : ByteArray) : Prop := ofB a < ofB b
theorem ltS_iff {a b : ByteArray} : ltS a b = true ↔ LtB a b := by
  unfold ltS LtB ofB
  rw [bytesLess_eq, decide_eq_true_eq, ByteArray.toList_eq, ByteArray.toList_eq]
theorem ofB_inj {a b : ByteArray} (h : ofB a = ofB b) : a = b := by rw [← toB_ofB a, ← toB_ofB b, h]
theorem LtB.irrefl {a : ByteArray} : ¬ LtB a a := List.lt_irrefl _
theorem LtB.trans {a b c : ByteArray} (h : LtB a b) (k : LtB b c) : LtB a c := List.lt_trans h k
theorem LtB.tri {a b : ByteArray} (h : ¬ LtB a b) (k : a ≠ b) : LtB b a := by
  unfold LtB at *
  rcases Std.lt_trichotomy (ofB a) (ofB b) with h1 | h1 | h1
  · exact absurd h1 h
  · exact absurd (ofB_inj h1) k
  · exact h1

theorem insS_nil (x : ByteArray) : insS [] x = [x] := by simp [insS, insAt, posS]
theorem insS_cons (y : ByteArray) (r : List ByteArray) (x : ByteArray) : insS (y :: r) x = if ltS y x then y :: insS r x else if y = x then y :: r else x :: y :: r := by
  unfold insS insAt
  rw [posS]
  split
  · rw [List.getElem?_cons_succ, List.take_succ_cons, List.drop_succ_cons]
    split <;> rfl
  · rw [List.getElem?_cons_zero, List.take_zero, List.drop_zero]
    by_cases h : y = x
    · rw [if_pos (by rw [h]), if_pos h]
    · rw [if_neg (by intro e; injection e with e; exact h e), if_neg h]
      rfl
theorem insS_mem {acc : List ByteArray} {x y : ByteArray} : y ∈ insS acc x ↔ y = x ∨ y ∈ acc := by
  induction acc with
  | nil => rw [insS_nil]; simp
  | cons z r ih =>
    rw [insS_cons]
    split
    · rw [List.mem_cons, ih, List.mem_cons]
      exact ⟨fun h => h.elim (fun h => Or.inr (Or.inl h)) (fun h => h.elim Or.inl (fun h => Or.inr (Or.inr h))), fun h => h.elim (fun h => Or.inr (Or.inl h)) (fun h => h.elim Or.inl (fun h => Or.inr (Or.inr h)))⟩
    · split
      · next h => subst h; rw [List.mem_cons]; exact ⟨fun h => Or.inr h, fun h => h.elim Or.inl id⟩
      · rw [List.mem_cons]
theorem insS_sorted {acc : List ByteArray} {x : ByteArray} (h : acc.Pairwise LtB) : (insS acc x).Pairwise LtB := by
  induction acc with
  | nil => rw [insS_nil]; simp
  | cons z r ih =>
    rw [List.pairwise_cons] at h
    rw [insS_cons]
    split
    · next hz =>
      rw [List.pairwise_cons]
      refine ⟨fun y hy => ?_, ih h.2⟩
      rcases insS_mem.1 hy with rfl | hy
      · exact ltS_iff.1 hz
      · exact h.1 y hy
    · next hz =>
      split
      · exact List.pairwise_cons.2 h
      · next hne =>
        have hx : LtB x z := LtB.tri (fun e => hz (ltS_iff.2 e)) hne
        refine List.pairwise_cons.2 ⟨fun y hy => ?_, List.pairwise_cons.2 h⟩
        rcases List.mem_cons.1 hy with rfl | hy
        · exact hx
        · exact hx.trans (h.1 y hy)
theorem fold_mem {l acc : List ByteArray} {y : ByteArray} : y ∈ l.foldl insS acc ↔ y ∈ acc ∨ y ∈ l := by
  induction l generalizing acc with
  | nil => simp
  | cons x l ih =>
    rw [List.foldl_cons, ih, insS_mem, List.mem_cons]
    exact ⟨fun h => h.elim (fun h => h.elim (fun h => Or.inr (Or.inl h)) Or.inl) (fun h => Or.inr (Or.inr h)), fun h => h.elim (fun h => Or.inl (Or.inr h)) (fun h => h.elim (fun h => Or.inl (Or.inl h)) Or.inr)⟩
theorem fold_sorted {l acc : List ByteArray} (h : acc.Pairwise LtB) : (l.foldl insS acc).Pairwise LtB := by
  induction l generalizing acc with
  | nil => exact h
  | cons x l ih => rw [List.foldl_cons]; exact ih (insS_sorted h)

/-- Two strictly ascending lists of the same names are one. -/
theorem sorted_eq : ∀ {a b : List ByteArray}, a.Pairwise LtB → b.Pairwise LtB → (∀ y, y ∈ a ↔ y ∈ b) → a = b
  | [], [], _, _, _ => rfl
  | [], y :: b, _, _, h => absurd ((h y).2 (by simp)) (by simp)
  | x :: a, [], _, _, h => absurd ((h x).1 (by simp)) (by simp)
  | x :: a, y :: b, ha, hb, h => by
    rw [List.pairwise_cons] at ha hb
    have hxy : x = y := by
      rcases List.mem_cons.1 ((h x).1 (by simp)) with e | e
      · exact e
      · rcases List.mem_cons.1 ((h y).2 (by simp)) with e' | e'
        · exact e'.symm
        · exact absurd ((ha.1 y e').trans (hb.1 x e)) LtB.irrefl
    subst hxy
    have : a = b := sorted_eq ha.2 hb.2 fun z => by
      constructor
      · intro hz
        rcases List.mem_cons.1 ((h z).1 (by simp [hz])) with e | e
        · subst e; exact absurd (ha.1 z hz) LtB.irrefl
        · exact e
      · intro hz
        rcases List.mem_cons.1 ((h z).2 (by simp [hz])) with e | e
        · subst e; exact absurd (hb.1 z hz) LtB.irrefl
        · exact e
    rw [this]

theorem idxFromS_spec {s : ByteArray} : ∀ (l : List ByteArray) (k : Nat), s ∈ l → ∃ i, i < l.length ∧ idxFromS l s k = ((k + i : Nat) : Int) ∧ l[i]? = some s
  | [], _, h => by simp at h
  | x :: l, k, h => by
    rw [idxFromS]
    by_cases e : x = s
    · rw [if_pos e]
      exact ⟨0, by simp, by simp, by simp [e]⟩
    · rw [if_neg e]
      rcases List.mem_cons.1 h with h | h
      · exact absurd h.symm e
      · obtain ⟨i, h1, h2, h3⟩ := idxFromS_spec l (k + 1) h
        exact ⟨i + 1, by simp; omega, by rw [h2]; congr 1; omega, by simpa using h3⟩
theorem firsts_mem {l : List ByteArray} {y : ByteArray} : ∀ {k : Nat}, y ∈ firstsTo l k → y ∈ l ∧ ∃ i, i < k ∧ idxS l y = (i : Int)
  | 0, h => by simp [firstsTo] at h
  | k + 1, h => by
    rw [firstsTo, List.mem_append] at h
    rcases h with h | h
    · obtain ⟨h1, i, h2, h3⟩ := firsts_mem h
      exact ⟨h1, i, by omega, h3⟩
    · split at h
      · next x hx =>
        split at h
        · next e =>
          rw [List.mem_singleton] at h
          subst h
          exact ⟨List.mem_of_getElem? hx, k, by omega, e⟩
        · simp at h
      · simp at h
theorem firsts_nodup (l : List ByteArray) : ∀ k, (firstsTo l k).Nodup
  | 0 => List.nodup_nil
  | k + 1 => by
    rw [firstsTo]
    split
    · next x hx =>
      split
      · next e =>
        refine List.nodup_append.2 ⟨firsts_nodup l k, by simp, fun a ha b hb e2 => ?_⟩
        rw [List.mem_singleton] at hb
        subst hb e2
        obtain ⟨_, i, h1, h2⟩ := firsts_mem ha
        rw [h2] at e
        omega
      · rw [List.append_nil]; exact firsts_nodup l k
    · rw [List.append_nil]; exact firsts_nodup l k
theorem firsts_mono {l : List ByteArray} {y : ByteArray} {k : Nat} (h : y ∈ firstsTo l k) : ∀ n, y ∈ firstsTo l (k + n)
  | 0 => h
  | n + 1 => by rw [← Nat.add_assoc, firstsTo, List.mem_append]; exact Or.inl (firsts_mono h n)
theorem firsts_all {l : List ByteArray} {y : ByteArray} (h : y ∈ l) : y ∈ firstsTo l l.length := by
  obtain ⟨i, h1, h2, h3⟩ := idxFromS_spec l 0 h
  rw [Nat.zero_add] at h2
  have h4 : y ∈ firstsTo l (i + 1) := by
    rw [firstsTo, h3, List.mem_append]
    refine Or.inr ?_
    show y ∈ if idxS l y = (i : Int) then [y] else []
    rw [if_pos (show idxS l y = (i : Int) from h2)]
    simp
  have := firsts_mono h4 (l.length - (i + 1))
  rwa [show i + 1 + (l.length - (i + 1)) = l.length by omega] at this
theorem sortB_mem {l : List ByteArray} {y : ByteArray} : y ∈ sortB l ↔ y ∈ l := by
  unfold sortB
  rw [List.mem_map]
  constructor
  · rintro ⟨x, hx, rfl⟩
    rw [List.mem_mergeSort, List.mem_map] at hx
    obtain ⟨z, hz, rfl⟩ := hx
    rwa [toB_ofB]
  · intro h
    exact ⟨ofB y, by rw [List.mem_mergeSort]; exact List.mem_map_of_mem h, toB_ofB y⟩
theorem sortB_sorted {l : List ByteArray} (h : l.Nodup) : (sortB l).Pairwise LtB := by
  unfold sortB
  rw [List.pairwise_map]
  have h1 := List.pairwise_mergeSort (le := fun x y : List UInt8 => decide (x ≤ y)) (fun a b c h1 h2 => by
    rw [decide_eq_true_eq] at *
    exact List.le_trans h1 h2) (fun a b => by
    rcases List.le_total a b with h | h <;> simp [h]) (l.map ofB)
  have h2 : ((l.map ofB).mergeSort fun x y => decide (x ≤ y)).Nodup := by
    refine (List.mergeSort_perm _ _).nodup_iff.2 ?_
    exact List.Pairwise.map _ (fun a b hab e => hab (ofB_inj e)) h
  refine (h1.and h2).imp fun {a b} hab => ?_
  unfold LtB
  rw [ofB_toB, ofB_toB]
  obtain ⟨h3, h4⟩ := hab
  rw [decide_eq_true_eq] at h3
  rcases Std.lt_trichotomy a b with h5 | h5 | h5
  · exact h5
  · exact absurd h5 h4
  · exact absurd h5 (List.not_lt.2 h3)
theorem sort_law (l : List ByteArray) : sortB (firstsTo l l.length) = sortTo l l.length := by
  refine sorted_eq (sortB_sorted (firsts_nodup _ _)) ?_ fun y => ?_
  · unfold sortTo
    exact fold_sorted List.Pairwise.nil
  · unfold sortTo
    rw [sortB_mem, fold_mem, List.take_length]
    exact ⟨fun h => Or.inr (firsts_mem h).1, fun h => firsts_all (h.elim (fun h => by simp at h) id)⟩
def sortN (l : List ByteArray) : List ByteArray := sortTo l l.length
theorem sortN_len (l : List ByteArray) : (sortN l).length ≤ l.length := sortTo_len l l.length
theorem sortNames_impl_own (l : List ByteArray) (fp : List Nat) (v : Value) (w : World) (hS : Sl w (l.map ls) fp v) (hn : l.length ≤ 1048576) : Calls Tryz.prog 80 #[v] w (OwnStrs (sortN l) w) := by
  have h := sortNames_impl0 l fp v w hS hn
  rwa [sort_law] at h
theorem sortNames_impl (l : List ByteArray) (fp : List Nat) (v : Value) (w : World) (hS : Sl w (l.map ls) fp v) (hn : l.length ≤ 1048576) : Calls Tryz.prog 80 #[v] w (TosPost ((sortN l).map ls) w) :=
  (sortNames_impl_own l fp v w hS hn).mono fun _ _ h => h.tos
end Go.Proofs.YtnfamcepojpkjaaGreat

namespace Go.Proofs.YtnfamcepojpkjaaGreat
open Go.RowKit
set_option linter.unusedSimpArgs false
set_option linter.unusedVariables false

mutual
def GExpr.free : GExpr → List ByteArray → List ByteArray
  | .mk kind n text args, b => if (kind == 3) && !hasS b text then [text] else GExpr.frees args b (if kind == 7 || kind == 9 then b ++ [text] else b)
def GExpr.frees : List GExpr → List ByteArray → List ByteArray → List ByteArray
  | [], _, _ => []
  | a :: r, b0, b1 => GExpr.free a b0 ++ GExpr.frees r b1 b1
end
def GExpr.inner (x : GExpr) (b : List ByteArray) : List ByteArray := if x.kind == 7 || x.kind == 9 then b ++ [x.text] else b
theorem GExpr.free_eq (x : GExpr) (b : List ByteArray) : x.free b = if (x.kind == 3) && !hasS b x.text then [x.text] else GExpr.frees x.args b (x.inner b) := by
  cases x with
  | mk kind n text args => rw [GExpr.free]; rfl
theorem frees_nil (b0 b1 : List ByteArray) : GExpr.frees [] b0 b1 = [] := by rw [GExpr.frees]
theorem frees_snoc (a : GExpr) : ∀ (l : List GExpr) (b0 b1 : List ByteArray), GExpr.frees (l ++ [a]) b0 b1 = GExpr.frees l b0 b1 ++ a.free (if l.length = 0 then b0 else b1)
  | [], b0, b1 => by rw [List.nil_append, GExpr.frees, GExpr.frees, frees_nil]; simp
  | x :: l, b0, b1 => by
    rw [List.cons_append, GExpr.frees, GExpr.frees, frees_snoc a l]
    have h : (if l.length = 0 then b1 else b1) = b1 := by split <;> rfl
    rw [h, if_neg (by simp), List.append_assoc]
theorem frees_take (l : List GExpr) (b0 b1 : List ByteArray) {i : Nat} (h : i < l.length) : GExpr.frees (l.take (i + 1)) b0 b1 = GExpr.frees (l.take i) b0 b1 ++ (l[i]).free (if i = 0 then b0 else b1) := by
  rw [List.take_succ_eq_append_getElem h, frees_snoc, List.length_take, Nat.min_eq_left (by omega)]
theorem GExpr.wt_e (x : GExpr) : x.toD.wt = x.text.size + (x.args.length + D.wts (x.args.map GExpr.toD)) := by
  rw [GExpr.toD_eq]
  simp [D.wt, D.wts, li, ls, leafWt]
mutual
theorem GExpr.free_len : ∀ (x : GExpr) (b : List ByteArray), (x.free b).length ≤ 1 + x.toD.wt
  | .mk kind n text args, b => by
    rw [GExpr.free, GExpr.wt_e]
    split
    · simp
    · have := GExpr.frees_len args b (if kind == 7 || kind == 9 then b ++ [text] else b)
      simp only [GExpr.args, GExpr.text]
      omega
theorem GExpr.frees_len : ∀ (l : List GExpr) (b0 b1 : List ByteArray), (GExpr.frees l b0 b1).length ≤ l.length + D.wts (l.map GExpr.toD)
  | [], _, _ => by rw [frees_nil]; simp
  | a :: r, b0, b1 => by
    rw [GExpr.frees, List.length_append, List.map_cons, D.wts, List.length_cons]
    have h1 := GExpr.free_len a b0
    have h2 := GExpr.frees_len r b1 b1
    omega
end
theorem wts_take (l : List D) (i : Nat) : D.wts (l.take i) ≤ D.wts l := by
  induction l generalizing i with
  | nil => simp
  | cons d l ih =>
    cases i with
    | zero => simp [D.wts]
    | succ i => rw [List.take_succ_cons, D.wts, D.wts]; have := ih i; omega
theorem frees_take_len (l : List GExpr) (b0 b1 : List ByteArray) (i : Nat) : (GExpr.frees (l.take i) b0 b1).length ≤ l.length + D.wts (l.map GExpr.toD) := by
  have h1 := GExpr.frees_len (l.take i) b0 b1
  have h2 := wts_take (l.map GExpr.toD) i
  rw [List.map_take] at h1
  have h3 : (l.take i).length ≤ l.length := by rw [List.length_take]; omega
  omega
theorem wt_mem {x y : GExpr} (h : y ∈ x.args) : y.toD.wt + 1 ≤ x.toD.wt := by
  rw [GExpr.wt_e x]
  have h1 := D.wts_mem (List.mem_map_of_mem (f := GExpr.toD) h)
  have h2 := List.length_pos_of_mem h
  omega
theorem inner_len (x : GExpr) (b : List ByteArray) : (x.inner b).length ≤ b.length + 1 := by
  unfold GExpr.inner
  split <;> simp


theorem l1Has_to (l : List ByteArray) (s : ByteArray) : CallsTo Tryz.prog 83 [.sl (l.map ls), ls s] (.c false [.raw (.bool (hasS l s))]) := to_retQ fun w vs hr => by
  obtain ⟨v, u, rfl, h1, h2⟩ := rds2 hr
  obtain ⟨fp, hS⟩ := rd_sl h1
  obtain rfl := rd_leaf h2
  exact l1Has_spec l s fp v w hS
def ic_free : IC := (.seq (.reg false [⟨(some 2), none, .box (.t 0)⟩, ⟨(some 4), none, .mov (.k (.slice none 0 0))⟩]) (.seq (.reg false [⟨(some 8), none, .brow true 9 1 0 false []⟩, ⟨(some 5), none, .mov (.t 8)⟩]) (.seq (.seq (.reg false [⟨(some 9), none, .fad 0 (.t 2)⟩, ⟨(some 10), none, .load 1 false (.t 9)⟩, ⟨(some 11), none, .bin .eql (.t 10) (.k (.int .i64 3))⟩, ⟨(some 12), none, .mov (.t 11)⟩, ⟨(some 13), (some (12, true)), .mov (.t 1)⟩, ⟨(some 14), (some (12, true)), .fad 2 (.t 2)⟩, ⟨(some 15), (some (12, true)), .load 1 false (.t 14)⟩, ⟨(some 16), (some (12, true)), .call 83 [(.t 13), (.t 15)]⟩, ⟨(some 17), (some (12, true)), .not (.t 16)⟩, ⟨(some 18), none, .pick (.t 12) (.t 17) (.k (.bool false))⟩]) (.cond (.t 18) (.seq (.reg false [⟨(some 19), none, .mov (.t 5)⟩, ⟨(some 20), none, .fad 2 (.t 2)⟩, ⟨(some 21), none, .load 1 false (.t 20)⟩, ⟨(some 22), none, .brow false 9 1 1 false [(.t 21)]⟩, ⟨(some 23), none, .app 9 1 (.t 19) (.t 22)⟩, ⟨(some 4), none, .mov (.t 23)⟩]) .ret) .skip)) (.seq (.seq (.reg false [⟨(some 6), none, .mov (.k (.int .i64 0))⟩]) (.block 0 (.loop (.seq (.seq (.reg false [⟨(some 24), none, .mov (.t 6)⟩, ⟨(some 25), none, .fad 3 (.t 2)⟩, ⟨(some 26), none, .load 1 false (.t 25)⟩, ⟨(some 27), none, .len false (.t 26)⟩, ⟨(some 28), none, .bin .lss (.t 24) (.t 27)⟩]) (.cond (.t 28) .skip (.exit 0))) (.seq (.block 1 (.seq (.reg false [⟨(some 31), none, .mov (.t 1)⟩, ⟨(some 7), none, .mov (.t 31)⟩]) (.seq (.seq (.reg false [⟨(some 32), none, .fad 0 (.t 2)⟩, ⟨(some 33), none, .load 1 false (.t 32)⟩, ⟨(some 34), none, .bin .eql (.t 33) (.k (.int .i64 7))⟩, ⟨(some 35), none, .mov (.t 34)⟩, ⟨(some 36), (some (35, false)), .fad 0 (.t 2)⟩, ⟨(some 37), (some (35, false)), .load 1 false (.t 36)⟩, ⟨(some 38), (some (35, false)), .bin .eql (.t 37) (.k (.int .i64 9))⟩, ⟨(some 39), none, .pick (.t 35) (.k (.bool true)) (.t 38)⟩, ⟨(some 40), none, .mov (.t 39)⟩, ⟨(some 41), (some (40, true)), .mov (.t 6)⟩, ⟨(some 42), (some (40, true)), .bin .gtr (.t 41) (.k (.int .i64 0))⟩, ⟨(some 43), none, .pick (.t 40) (.t 42) (.k (.bool false))⟩]) (.cond (.t 43) (.reg true [⟨(some 44), none, .brow true 9 1 0 false []⟩, ⟨(some 45), none, .mov (.t 1)⟩, ⟨(some 46), none, .app 9 1 (.t 44) (.t 45)⟩, ⟨(some 47), none, .fad 2 (.t 2)⟩, ⟨(some 48), none, .load 1 false (.t 47)⟩, ⟨(some 49), none, .brow false 9 1 1 false [(.t 48)]⟩, ⟨(some 50), none, .app 9 1 (.t 46) (.t 49)⟩, ⟨(some 7), none, .mov (.t 50)⟩]) .skip)) (.reg false [⟨(some 51), none, .mov (.t 5)⟩, ⟨(some 52), none, .fad 3 (.t 2)⟩, ⟨(some 53), none, .load 1 false (.t 52)⟩, ⟨(some 54), none, .mov (.t 6)⟩, ⟨(some 55), none, .iad 4 (.t 53) (.t 54)⟩, ⟨(some 56), none, .load 4 true (.t 55)⟩, ⟨(some 57), none, .mov (.t 7)⟩, ⟨(some 58), none, .call 75 [(.t 56), (.t 57)]⟩, ⟨(some 59), none, .app 9 1 (.t 51) (.t 58)⟩, ⟨(some 5), none, .mov (.t 59)⟩])))) (.reg false [⟨(some 29), none, .mov (.t 6)⟩, ⟨(some 30), none, .bin .add (.t 29) (.k (.int .i64 1))⟩, ⟨(some 6), none, .mov (.t 30)⟩])))))) (.seq (.reg false [⟨(some 60), none, .mov (.t 5)⟩, ⟨(some 4), none, .mov (.t 60)⟩]) .ret)))))
theorem ic_free_ok : compC Tryz.prog (Tryz.f75.body.getD .skip) = some ic_free := by kernel_rfl
def FreeSaid (x : GExpr) : Prop := ∀ b : List ByteArray, b.length + x.toD.wt ≤ 1048577 → CallsOwn Tryz.prog 75 [x.toD, .sl (b.map ls)] ((x.free b).map ls) 9 1
set_option maxHeartbeats 8000000 in
theorem l13Free_of (x : GExpr) (hI : ∀ y ∈ x.args, FreeSaid y) : FreeSaid x := by
  intro b hw
  have hwl : x.args.length + D.wts (x.args.map GExpr.toD) ≤ 1048577 := by have := x.wt_e; omega
  refine calls_own (fn := Tryz.f75) (t := 4) (by kernel_rfl) (by kernel_rfl) (by kernel_rfl) ic_free_ok ?_
  change AWP _ _ _ (st0 61 _)
  rw [GExpr.free_eq]
  unfold ic_free
  simp only [undef, st0, stN, D.av, D.avN, sl_agg, leaf_agg, li_agg, ls_agg, sl_acs, leaf_acs, li_acs, ls_acs, GExpr.acs_eq, GExpr.flat_eq, GExpr.agg_eq, GExpr.el, GPart.acs_eq, GPart.flat_eq, GPart.agg_eq, List.map_cons, List.map_nil, List.replicate, List.cons_append, List.nil_append, List.length_cons, List.length_nil, Nat.reduceAdd, Nat.reduceSub]
  have hloop : (x.kind == 3 && !hasS b x.text) = false → True := fun _ => trivial
  cases k3 : (x.kind == 3) with
  | true =>
    cases hh : hasS b x.text with
    | false =>
      rw [if_pos (by simp [k3, hh])]
      repeat (first | (with_reducible refine awp_seq ?_) | (with_reducible refine awp_block ?_) | (with_reducible refine awp_skip ?_) | (with_reducible refine awp_exit ?_) | (with_reducible refine awp_ret ?_) | (with_reducible refine athen ?_) | (with_reducible refine thenExit ?_) | (with_reducible refine thenRet ?_) | (with_reducible refine blockNormal ?_) | (with_reducible refine blockExit ?_) | (with_reducible refine blockRet ?_) | (with_reducible refine roundExit ?_) | (with_reducible refine roundRet ?_) | ((with_reducible refine blockPass ?_ ?_); rfl) | ((with_reducible refine awp_condT ?_ ?_); rfl) | ((with_reducible refine awp_condF ?_ ?_); rfl) | ((with_reducible refine awp_reg ?_); intro K hK; simp only [↓pkS, ↓sw_guard, pkW, pkA, idx_nat, subB, undef, capsOf, ex, St.put, St.ev, kav, gdA, opI, rawI, vbin, srcOf, avsD, acsD, AV.toD, AC.toD, AV.nw, AC.nw, AC.one, Value.oneCell', fillA, D.one, D.ones, D.sz, D.szs, Nat.reduceAdd, Nat.reduceSub, Nat.reduceLeDiff, Nat.reduceEqDiff, reduceIte, GExpr.acs_eq, GExpr.flat_eq, GExpr.agg_eq, GExpr.el, GPart.acs_eq, GPart.flat_eq, GPart.agg_eq, k3, hh]; repeat (first | (refine hK _ ?_; clear hK K) | (refine ⟨by (first | omega | (simp; omega)), hK _ ?_⟩; clear hK K) | (refine ⟨by (first | omega | (simp; omega)), by (first | omega | (simp; omega)), hK _ ?_⟩; clear hK K) | ((first | (refine callThen (l1Has_to b x.text) trivial (by simp [ArgsOk, ArgOk, argsD, argD, AC.toD, Value.oneCell', sl_flat, leaf_flat, li_flat, ls_flat, sl_agg, leaf_agg, li_agg, ls_agg, mo_t, mo_f, GExpr.acs_eq, GExpr.flat_eq, GExpr.agg_eq, GExpr.el, GPart.acs_eq, GPart.flat_eq, GPart.agg_eq, k3, hh]) ?_)); simp only [↓pkS, ↓sw_guard, pkW, pkA, idx_nat, subB, undef, capsOf, ex, St.put, St.ev, kav, gdA, opI, rawI, vbin, srcOf, avsD, acsD, AV.toD, AC.toD, AV.nw, AC.nw, AC.one, Value.oneCell', fillA, D.one, D.ones, D.sz, D.szs, Nat.reduceAdd, Nat.reduceSub, Nat.reduceLeDiff, Nat.reduceEqDiff, reduceIte, GExpr.acs_eq, GExpr.flat_eq, GExpr.agg_eq, GExpr.el, GPart.acs_eq, GPart.flat_eq, GPart.agg_eq, k3, hh]))))
      exact endRet ⟨0, 1, _, rfl, rfl, rfl, rfl, rfl, rfl, Or.inl rfl⟩
    | true =>
      rw [if_neg (by simp [k3, hh])]
      repeat (first | (with_reducible refine awp_seq ?_) | (with_reducible refine awp_block ?_) | (with_reducible refine awp_skip ?_) | (with_reducible refine awp_exit ?_) | (with_reducible refine awp_ret ?_) | (with_reducible refine athen ?_) | (with_reducible refine thenExit ?_) | (with_reducible refine thenRet ?_) | (with_reducible refine blockNormal ?_) | (with_reducible refine blockExit ?_) | (with_reducible refine blockRet ?_) | (with_reducible refine roundExit ?_) | (with_reducible refine roundRet ?_) | ((with_reducible refine blockPass ?_ ?_); rfl) | ((with_reducible refine awp_condT ?_ ?_); rfl) | ((with_reducible refine awp_condF ?_ ?_); rfl) | ((with_reducible refine awp_reg ?_); intro K hK; simp only [↓pkS, ↓sw_guard, pkW, pkA, idx_nat, subB, undef, capsOf, ex, St.put, St.ev, kav, gdA, opI, rawI, vbin, srcOf, avsD, acsD, AV.toD, AC.toD, AV.nw, AC.nw, AC.one, Value.oneCell', fillA, D.one, D.ones, D.sz, D.szs, Nat.reduceAdd, Nat.reduceSub, Nat.reduceLeDiff, Nat.reduceEqDiff, reduceIte, GExpr.acs_eq, GExpr.flat_eq, GExpr.agg_eq, GExpr.el, GPart.acs_eq, GPart.flat_eq, GPart.agg_eq, k3, hh]; repeat (first | (refine hK _ ?_; clear hK K) | (refine ⟨by (first | omega | (simp; omega)), hK _ ?_⟩; clear hK K) | (refine ⟨by (first | omega | (simp; omega)), by (first | omega | (simp; omega)), hK _ ?_⟩; clear hK K) | ((first | (refine callThen (l1Has_to b x.text) trivial (by simp [ArgsOk, ArgOk, argsD, argD, AC.toD, Value.oneCell', sl_flat, leaf_flat, li_flat, ls_flat, sl_agg, leaf_agg, li_agg, ls_agg, mo_t, mo_f, GExpr.acs_eq, GExpr.flat_eq, GExpr.agg_eq, GExpr.el, GPart.acs_eq, GPart.flat_eq, GPart.agg_eq, k3, hh]) ?_)); simp only [↓pkS, ↓sw_guard, pkW, pkA, idx_nat, subB, undef, capsOf, ex, St.put, St.ev, kav, gdA, opI, rawI, vbin, srcOf, avsD, acsD, AV.toD, AC.toD, AV.nw, AC.nw, AC.one, Value.oneCell', fillA, D.one, D.ones, D.sz, D.szs, Nat.reduceAdd, Nat.reduceSub, Nat.reduceLeDiff, Nat.reduceEqDiff, reduceIte, GExpr.acs_eq, GExpr.flat_eq, GExpr.agg_eq, GExpr.el, GPart.acs_eq, GPart.flat_eq, GPart.agg_eq, k3, hh]))))
      refine awp_loopB (X := Nat × Nat) (fun q => [.d, .k, .k, .d, .d, .v (.c false [.own 0 q.2]), .v (.c false [.raw (.int .i64 (q.1 : Nat))]), .d, .d, .d, .d, .d, .d, .d, .d, .d, .d, .d, .d, .d, .d, .d, .d, .d, .d, .d, .d, .d, .d, .d, .d, .d, .d, .d, .d, .d, .d, .d, .d, .d, .d, .d, .d, .d, .d, .d, .d, .d, .d, .d, .d, .d, .d, .d, .d, .d, .d, .d, .d, .d, .d]) (fun q => [⟨(GExpr.frees (x.args.take q.1) b (x.inner b)).map ls, 9, 1, q.2, true⟩]) (fun q bs => bs) (fun q => q.1 ≤ x.args.length) (fun q => x.args.length - q.1) (0, 0) (by simp) ?_ ?_
      · simp [StLe', FrLe, OwnLe, BoxLe, AV.fits, AC.fits, FB, mask, frees_nil, GExpr.frees]
      rintro ⟨i, v⟩ hi
      have hi' : i ≤ x.args.length := hi
      clear hi
      simp only [FB, mask]
      by_cases hlt : i < x.args.length
      · have ht : decide ((i : Int) < (x.args.length : Int)) = true := by simp; omega
        have hw1 : IntKind.i64.wrap ((i : Int) + 1) = ((i + 1 : Nat) : Int) := wrap_nat (by omega)
        have hix := idx_map GExpr.toD x.args hlt
        have hmem : x.args[i] ∈ x.args := List.getElem_mem hlt
        have hwm := wt_mem hmem
        have hfl := frees_take_len x.args b (x.inner b) i
        have hft := frees_take x.args b (x.inner b) hlt
        have hil := inner_len x b
        by_cases hi0 : i = 0
        · have g : decide ((i : Int) > 0) = false := by simp; omega
          cases k7 : (x.kind == 7) with
          | true =>
            have hfa := GExpr.free_len x.args[i] (b)
            have hbl : (b).length ≤ b.length + 1 := by simp
            have hfree : GExpr.frees (x.args.take (i + 1)) b (x.inner b) = GExpr.frees (x.args.take i) b (x.inner b) ++ (x.args[i]).free (b) := by rw [hft]; simp [GExpr.inner, hi0]
            repeat (first | (with_reducible refine awp_seq ?_) | (with_reducible refine awp_block ?_) | (with_reducible refine awp_skip ?_) | (with_reducible refine awp_exit ?_) | (with_reducible refine awp_ret ?_) | (with_reducible refine athen ?_) | (with_reducible refine thenExit ?_) | (with_reducible refine thenRet ?_) | (with_reducible refine blockNormal ?_) | (with_reducible refine blockExit ?_) | (with_reducible refine blockRet ?_) | (with_reducible refine roundExit ?_) | (with_reducible refine roundRet ?_) | ((with_reducible refine blockPass ?_ ?_); rfl) | ((with_reducible refine awp_condT ?_ ?_); rfl) | ((with_reducible refine awp_condF ?_ ?_); rfl) | ((with_reducible refine awp_reg ?_); intro K hK; simp only [↓pkS, ↓sw_guard, pkW, pkA, idx_nat, subB, undef, capsOf, ex, St.put, St.ev, kav, gdA, opI, rawI, vbin, srcOf, avsD, acsD, AV.toD, AC.toD, AV.nw, AC.nw, AC.one, Value.oneCell', fillA, D.one, D.ones, D.sz, D.szs, Nat.reduceAdd, Nat.reduceSub, Nat.reduceLeDiff, Nat.reduceEqDiff, reduceIte, GExpr.acs_eq, GExpr.flat_eq, GExpr.agg_eq, GExpr.el, GPart.acs_eq, GPart.flat_eq, GPart.agg_eq, ht, hw1, hix, k7, g]; repeat (first | (refine hK _ ?_; clear hK K) | (refine ⟨by (first | omega | (simp; omega)), hK _ ?_⟩; clear hK K) | (refine ⟨by (first | omega | (simp; omega)), by (first | omega | (simp; omega)), hK _ ?_⟩; clear hK K) | ((first | (refine callOwn (hI x.args[i] hmem (b) (by omega)) (el_strs _) (by simp [ArgsOk, ArgOk, argsD, argD, AC.toD, Value.oneCell', sl_flat, leaf_flat, li_flat, ls_flat, sl_agg, leaf_agg, li_agg, ls_agg, List.map_append, List.map_cons, List.map_nil, ls, GExpr.acs_eq, GExpr.flat_eq, GExpr.agg_eq, GExpr.el, GPart.acs_eq, GPart.flat_eq, GPart.agg_eq, ht, hw1, hix, k7, g]) ?_)); simp only [↓pkS, ↓sw_guard, pkW, pkA, idx_nat, subB, undef, capsOf, ex, St.put, St.ev, kav, gdA, opI, rawI, vbin, srcOf, avsD, acsD, AV.toD, AC.toD, AV.nw, AC.nw, AC.one, Value.oneCell', fillA, D.one, D.ones, D.sz, D.szs, Nat.reduceAdd, Nat.reduceSub, Nat.reduceLeDiff, Nat.reduceEqDiff, reduceIte, GExpr.acs_eq, GExpr.flat_eq, GExpr.agg_eq, GExpr.el, GPart.acs_eq, GPart.flat_eq, GPart.agg_eq, ht, hw1, hix, k7, g]))) | ((first | ((with_reducible refine awp_regD false ?_ ?_); rfl) | ((with_reducible refine awp_regD true ?_ ?_); rfl)); intro K hK; simp only [↓pkR, ↓sd_guard, pkD, pkA, idx_nat, subB, undef, capsOf, ex, St.put, St.ev, kav, gdA, opI, rawI, vbin, srcOf, avsD, acsD, AV.toD, AC.toD, AV.nw, AC.nw, AC.one, Value.oneCell', fillA, D.one, D.ones, D.sz, D.szs, Nat.reduceAdd, Nat.reduceSub, Nat.reduceLeDiff, Nat.reduceEqDiff, reduceIte, GExpr.acs_eq, GExpr.flat_eq, GExpr.agg_eq, GExpr.el, GPart.acs_eq, GPart.flat_eq, GPart.agg_eq, ht, hw1, hix, k7, g]; first | (refine hK _ ?_; clear hK K) | (refine ⟨by (first | omega | (simp; omega)), hK _ ?_⟩; clear hK K) | (refine ⟨by (first | omega | (simp; omega)), by (first | omega | (simp; omega)), hK _ ?_⟩; clear hK K)))
            refine roundB (i + 1, v + 1) ?_ ?_ ?_
            · simp [StLe', FrLe, OwnLe, BoxLe, AV.fits, AC.fits, FB, mask, hfree]
            · show i + 1 ≤ x.args.length; omega
            · show x.args.length - (i + 1) < x.args.length - i; omega
          | false =>
            cases k9 : (x.kind == 9) with
            | true =>
              have hfa := GExpr.free_len x.args[i] (b)
              have hbl : (b).length ≤ b.length + 1 := by simp
              have hfree : GExpr.frees (x.args.take (i + 1)) b (x.inner b) = GExpr.frees (x.args.take i) b (x.inner b) ++ (x.args[i]).free (b) := by rw [hft]; simp [GExpr.inner, hi0]
              repeat (first | (with_reducible refine awp_seq ?_) | (with_reducible refine awp_block ?_) | (with_reducible refine awp_skip ?_) | (with_reducible refine awp_exit ?_) | (with_reducible refine awp_ret ?_) | (with_reducible refine athen ?_) | (with_reducible refine thenExit ?_) | (with_reducible refine thenRet ?_) | (with_reducible refine blockNormal ?_) | (with_reducible refine blockExit ?_) | (with_reducible refine blockRet ?_) | (with_reducible refine roundExit ?_) | (with_reducible refine roundRet ?_) | ((with_reducible refine blockPass ?_ ?_); rfl) | ((with_reducible refine awp_condT ?_ ?_); rfl) | ((with_reducible refine awp_condF ?_ ?_); rfl) | ((with_reducible refine awp_reg ?_); intro K hK; simp only [↓pkS, ↓sw_guard, pkW, pkA, idx_nat, subB, undef, capsOf, ex, St.put, St.ev, kav, gdA, opI, rawI, vbin, srcOf, avsD, acsD, AV.toD, AC.toD, AV.nw, AC.nw, AC.one, Value.oneCell', fillA, D.one, D.ones, D.sz, D.szs, Nat.reduceAdd, Nat.reduceSub, Nat.reduceLeDiff, Nat.reduceEqDiff, reduceIte, GExpr.acs_eq, GExpr.flat_eq, GExpr.agg_eq, GExpr.el, GPart.acs_eq, GPart.flat_eq, GPart.agg_eq, ht, hw1, hix, k7, k9, g]; repeat (first | (refine hK _ ?_; clear hK K) | (refine ⟨by (first | omega | (simp; omega)), hK _ ?_⟩; clear hK K) | (refine ⟨by (first | omega | (simp; omega)), by (first | omega | (simp; omega)), hK _ ?_⟩; clear hK K) | ((first | (refine callOwn (hI x.args[i] hmem (b) (by omega)) (el_strs _) (by simp [ArgsOk, ArgOk, argsD, argD, AC.toD, Value.oneCell', sl_flat, leaf_flat, li_flat, ls_flat, sl_agg, leaf_agg, li_agg, ls_agg, List.map_append, List.map_cons, List.map_nil, ls, GExpr.acs_eq, GExpr.flat_eq, GExpr.agg_eq, GExpr.el, GPart.acs_eq, GPart.flat_eq, GPart.agg_eq, ht, hw1, hix, k7, k9, g]) ?_)); simp only [↓pkS, ↓sw_guard, pkW, pkA, idx_nat, subB, undef, capsOf, ex, St.put, St.ev, kav, gdA, opI, rawI, vbin, srcOf, avsD, acsD, AV.toD, AC.toD, AV.nw, AC.nw, AC.one, Value.oneCell', fillA, D.one, D.ones, D.sz, D.szs, Nat.reduceAdd, Nat.reduceSub, Nat.reduceLeDiff, Nat.reduceEqDiff, reduceIte, GExpr.acs_eq, GExpr.flat_eq, GExpr.agg_eq, GExpr.el, GPart.acs_eq, GPart.flat_eq, GPart.agg_eq, ht, hw1, hix, k7, k9, g]))) | ((first | ((with_reducible refine awp_regD false ?_ ?_); rfl) | ((with_reducible refine awp_regD true ?_ ?_); rfl)); intro K hK; simp only [↓pkR, ↓sd_guard, pkD, pkA, idx_nat, subB, undef, capsOf, ex, St.put, St.ev, kav, gdA, opI, rawI, vbin, srcOf, avsD, acsD, AV.toD, AC.toD, AV.nw, AC.nw, AC.one, Value.oneCell', fillA, D.one, D.ones, D.sz, D.szs, Nat.reduceAdd, Nat.reduceSub, Nat.reduceLeDiff, Nat.reduceEqDiff, reduceIte, GExpr.acs_eq, GExpr.flat_eq, GExpr.agg_eq, GExpr.el, GPart.acs_eq, GPart.flat_eq, GPart.agg_eq, ht, hw1, hix, k7, k9, g]; first | (refine hK _ ?_; clear hK K) | (refine ⟨by (first | omega | (simp; omega)), hK _ ?_⟩; clear hK K) | (refine ⟨by (first | omega | (simp; omega)), by (first | omega | (simp; omega)), hK _ ?_⟩; clear hK K)))
              refine roundB (i + 1, v + 1) ?_ ?_ ?_
              · simp [StLe', FrLe, OwnLe, BoxLe, AV.fits, AC.fits, FB, mask, hfree]
              · show i + 1 ≤ x.args.length; omega
              · show x.args.length - (i + 1) < x.args.length - i; omega
            | false =>
              have hfa := GExpr.free_len x.args[i] (b)
              have hbl : (b).length ≤ b.length + 1 := by simp
              have hfree : GExpr.frees (x.args.take (i + 1)) b (x.inner b) = GExpr.frees (x.args.take i) b (x.inner b) ++ (x.args[i]).free (b) := by rw [hft]; simp [GExpr.inner, hi0]
              repeat (first | (with_reducible refine awp_seq ?_) | (with_reducible refine awp_block ?_) | (with_reducible refine awp_skip ?_) | (with_reducible refine awp_exit ?_) | (with_reducible refine awp_ret ?_) | (with_reducible refine athen ?_) | (with_reducible refine thenExit ?_) | (with_reducible refine thenRet ?_) | (with_reducible refine blockNormal ?_) | (with_reducible refine blockExit ?_) | (with_reducible refine blockRet ?_) | (with_reducible refine roundExit ?_) | (with_reducible refine roundRet ?_) | ((with_reducible refine blockPass ?_ ?_); rfl) | ((with_reducible refine awp_condT ?_ ?_); rfl) | ((with_reducible refine awp_condF ?_ ?_); rfl) | ((with_reducible refine awp_reg ?_); intro K hK; simp only [↓pkS, ↓sw_guard, pkW, pkA, idx_nat, subB, undef, capsOf, ex, St.put, St.ev, kav, gdA, opI, rawI, vbin, srcOf, avsD, acsD, AV.toD, AC.toD, AV.nw, AC.nw, AC.one, Value.oneCell', fillA, D.one, D.ones, D.sz, D.szs, Nat.reduceAdd, Nat.reduceSub, Nat.reduceLeDiff, Nat.reduceEqDiff, reduceIte, GExpr.acs_eq, GExpr.flat_eq, GExpr.agg_eq, GExpr.el, GPart.acs_eq, GPart.flat_eq, GPart.agg_eq, ht, hw1, hix, k7, k9]; repeat (first | (refine hK _ ?_; clear hK K) | (refine ⟨by (first | omega | (simp; omega)), hK _ ?_⟩; clear hK K) | (refine ⟨by (first | omega | (simp; omega)), by (first | omega | (simp; omega)), hK _ ?_⟩; clear hK K) | ((first | (refine callOwn (hI x.args[i] hmem (b) (by omega)) (el_strs _) (by simp [ArgsOk, ArgOk, argsD, argD, AC.toD, Value.oneCell', sl_flat, leaf_flat, li_flat, ls_flat, sl_agg, leaf_agg, li_agg, ls_agg, List.map_append, List.map_cons, List.map_nil, ls, GExpr.acs_eq, GExpr.flat_eq, GExpr.agg_eq, GExpr.el, GPart.acs_eq, GPart.flat_eq, GPart.agg_eq, ht, hw1, hix, k7, k9]) ?_)); simp only [↓pkS, ↓sw_guard, pkW, pkA, idx_nat, subB, undef, capsOf, ex, St.put, St.ev, kav, gdA, opI, rawI, vbin, srcOf, avsD, acsD, AV.toD, AC.toD, AV.nw, AC.nw, AC.one, Value.oneCell', fillA, D.one, D.ones, D.sz, D.szs, Nat.reduceAdd, Nat.reduceSub, Nat.reduceLeDiff, Nat.reduceEqDiff, reduceIte, GExpr.acs_eq, GExpr.flat_eq, GExpr.agg_eq, GExpr.el, GPart.acs_eq, GPart.flat_eq, GPart.agg_eq, ht, hw1, hix, k7, k9]))) | ((first | ((with_reducible refine awp_regD false ?_ ?_); rfl) | ((with_reducible refine awp_regD true ?_ ?_); rfl)); intro K hK; simp only [↓pkR, ↓sd_guard, pkD, pkA, idx_nat, subB, undef, capsOf, ex, St.put, St.ev, kav, gdA, opI, rawI, vbin, srcOf, avsD, acsD, AV.toD, AC.toD, AV.nw, AC.nw, AC.one, Value.oneCell', fillA, D.one, D.ones, D.sz, D.szs, Nat.reduceAdd, Nat.reduceSub, Nat.reduceLeDiff, Nat.reduceEqDiff, reduceIte, GExpr.acs_eq, GExpr.flat_eq, GExpr.agg_eq, GExpr.el, GPart.acs_eq, GPart.flat_eq, GPart.agg_eq, ht, hw1, hix, k7, k9]; first | (refine hK _ ?_; clear hK K) | (refine ⟨by (first | omega | (simp; omega)), hK _ ?_⟩; clear hK K) | (refine ⟨by (first | omega | (simp; omega)), by (first | omega | (simp; omega)), hK _ ?_⟩; clear hK K)))
              refine roundB (i + 1, v + 1) ?_ ?_ ?_
              · simp [StLe', FrLe, OwnLe, BoxLe, AV.fits, AC.fits, FB, mask, hfree]
              · show i + 1 ≤ x.args.length; omega
              · show x.args.length - (i + 1) < x.args.length - i; omega
        · have g : decide ((i : Int) > 0) = true := by simp; omega
          cases k7 : (x.kind == 7) with
          | true =>
            have hfa := GExpr.free_len x.args[i] (b ++ [x.text])
            have hbl : (b ++ [x.text]).length ≤ b.length + 1 := by simp
            have hfree : GExpr.frees (x.args.take (i + 1)) b (x.inner b) = GExpr.frees (x.args.take i) b (x.inner b) ++ (x.args[i]).free (b ++ [x.text]) := by rw [hft]; simp [GExpr.inner, hi0, k7]
            repeat (first | (with_reducible refine awp_seq ?_) | (with_reducible refine awp_block ?_) | (with_reducible refine awp_skip ?_) | (with_reducible refine awp_exit ?_) | (with_reducible refine awp_ret ?_) | (with_reducible refine athen ?_) | (with_reducible refine thenExit ?_) | (with_reducible refine thenRet ?_) | (with_reducible refine blockNormal ?_) | (with_reducible refine blockExit ?_) | (with_reducible refine blockRet ?_) | (with_reducible refine roundExit ?_) | (with_reducible refine roundRet ?_) | ((with_reducible refine blockPass ?_ ?_); rfl) | ((with_reducible refine awp_condT ?_ ?_); rfl) | ((with_reducible refine awp_condF ?_ ?_); rfl) | ((with_reducible refine awp_reg ?_); intro K hK; simp only [↓pkS, ↓sw_guard, pkW, pkA, idx_nat, subB, undef, capsOf, ex, St.put, St.ev, kav, gdA, opI, rawI, vbin, srcOf, avsD, acsD, AV.toD, AC.toD, AV.nw, AC.nw, AC.one, Value.oneCell', fillA, D.one, D.ones, D.sz, D.szs, Nat.reduceAdd, Nat.reduceSub, Nat.reduceLeDiff, Nat.reduceEqDiff, reduceIte, GExpr.acs_eq, GExpr.flat_eq, GExpr.agg_eq, GExpr.el, GPart.acs_eq, GPart.flat_eq, GPart.agg_eq, ht, hw1, hix, k7, g]; repeat (first | (refine hK _ ?_; clear hK K) | (refine ⟨by (first | omega | (simp; omega)), hK _ ?_⟩; clear hK K) | (refine ⟨by (first | omega | (simp; omega)), by (first | omega | (simp; omega)), hK _ ?_⟩; clear hK K) | ((first | (refine callOwn (hI x.args[i] hmem (b ++ [x.text]) (by omega)) (el_strs _) (by simp [ArgsOk, ArgOk, argsD, argD, AC.toD, Value.oneCell', sl_flat, leaf_flat, li_flat, ls_flat, sl_agg, leaf_agg, li_agg, ls_agg, List.map_append, List.map_cons, List.map_nil, ls, GExpr.acs_eq, GExpr.flat_eq, GExpr.agg_eq, GExpr.el, GPart.acs_eq, GPart.flat_eq, GPart.agg_eq, ht, hw1, hix, k7, g]) ?_)); simp only [↓pkS, ↓sw_guard, pkW, pkA, idx_nat, subB, undef, capsOf, ex, St.put, St.ev, kav, gdA, opI, rawI, vbin, srcOf, avsD, acsD, AV.toD, AC.toD, AV.nw, AC.nw, AC.one, Value.oneCell', fillA, D.one, D.ones, D.sz, D.szs, Nat.reduceAdd, Nat.reduceSub, Nat.reduceLeDiff, Nat.reduceEqDiff, reduceIte, GExpr.acs_eq, GExpr.flat_eq, GExpr.agg_eq, GExpr.el, GPart.acs_eq, GPart.flat_eq, GPart.agg_eq, ht, hw1, hix, k7, g]))) | ((first | ((with_reducible refine awp_regD false ?_ ?_); rfl) | ((with_reducible refine awp_regD true ?_ ?_); rfl)); intro K hK; simp only [↓pkR, ↓sd_guard, pkD, pkA, idx_nat, subB, undef, capsOf, ex, St.put, St.ev, kav, gdA, opI, rawI, vbin, srcOf, avsD, acsD, AV.toD, AC.toD, AV.nw, AC.nw, AC.one, Value.oneCell', fillA, D.one, D.ones, D.sz, D.szs, Nat.reduceAdd, Nat.reduceSub, Nat.reduceLeDiff, Nat.reduceEqDiff, reduceIte, GExpr.acs_eq, GExpr.flat_eq, GExpr.agg_eq, GExpr.el, GPart.acs_eq, GPart.flat_eq, GPart.agg_eq, ht, hw1, hix, k7, g]; first | (refine hK _ ?_; clear hK K) | (refine ⟨by (first | omega | (simp; omega)), hK _ ?_⟩; clear hK K) | (refine ⟨by (first | omega | (simp; omega)), by (first | omega | (simp; omega)), hK _ ?_⟩; clear hK K)))
            refine roundB (i + 1, v + 1) ?_ ?_ ?_
            · simp [StLe', FrLe, OwnLe, BoxLe, AV.fits, AC.fits, FB, mask, hfree]
            · show i + 1 ≤ x.args.length; omega
            · show x.args.length - (i + 1) < x.args.length - i; omega
          | false =>
            cases k9 : (x.kind == 9) with
            | true =>
              have hfa := GExpr.free_len x.args[i] (b ++ [x.text])
              have hbl : (b ++ [x.text]).length ≤ b.length + 1 := by simp
              have hfree : GExpr.frees (x.args.take (i + 1)) b (x.inner b) = GExpr.frees (x.args.take i) b (x.inner b) ++ (x.args[i]).free (b ++ [x.text]) := by rw [hft]; simp [GExpr.inner, hi0, k7, k9]
              repeat (first | (with_reducible refine awp_seq ?_) | (with_reducible refine awp_block ?_) | (with_reducible refine awp_skip ?_) | (with_reducible refine awp_exit ?_) | (with_reducible refine awp_ret ?_) | (with_reducible refine athen ?_) | (with_reducible refine thenExit ?_) | (with_reducible refine thenRet ?_) | (with_reducible refine blockNormal ?_) | (with_reducible refine blockExit ?_) | (with_reducible refine blockRet ?_) | (with_reducible refine roundExit ?_) | (with_reducible refine roundRet ?_) | ((with_reducible refine blockPass ?_ ?_); rfl) | ((with_reducible refine awp_condT ?_ ?_); rfl) | ((with_reducible refine awp_condF ?_ ?_); rfl) | ((with_reducible refine awp_reg ?_); intro K hK; simp only [↓pkS, ↓sw_guard, pkW, pkA, idx_nat, subB, undef, capsOf, ex, St.put, St.ev, kav, gdA, opI, rawI, vbin, srcOf, avsD, acsD, AV.toD, AC.toD, AV.nw, AC.nw, AC.one, Value.oneCell', fillA, D.one, D.ones, D.sz, D.szs, Nat.reduceAdd, Nat.reduceSub, Nat.reduceLeDiff, Nat.reduceEqDiff, reduceIte, GExpr.acs_eq, GExpr.flat_eq, GExpr.agg_eq, GExpr.el, GPart.acs_eq, GPart.flat_eq, GPart.agg_eq, ht, hw1, hix, k7, k9, g]; repeat (first | (refine hK _ ?_; clear hK K) | (refine ⟨by (first | omega | (simp; omega)), hK _ ?_⟩; clear hK K) | (refine ⟨by (first | omega | (simp; omega)), by (first | omega | (simp; omega)), hK _ ?_⟩; clear hK K) | ((first | (refine callOwn (hI x.args[i] hmem (b ++ [x.text]) (by omega)) (el_strs _) (by simp [ArgsOk, ArgOk, argsD, argD, AC.toD, Value.oneCell', sl_flat, leaf_flat, li_flat, ls_flat, sl_agg, leaf_agg, li_agg, ls_agg, List.map_append, List.map_cons, List.map_nil, ls, GExpr.acs_eq, GExpr.flat_eq, GExpr.agg_eq, GExpr.el, GPart.acs_eq, GPart.flat_eq, GPart.agg_eq, ht, hw1, hix, k7, k9, g]) ?_)); simp only [↓pkS, ↓sw_guard, pkW, pkA, idx_nat, subB, undef, capsOf, ex, St.put, St.ev, kav, gdA, opI, rawI, vbin, srcOf, avsD, acsD, AV.toD, AC.toD, AV.nw, AC.nw, AC.one, Value.oneCell', fillA, D.one, D.ones, D.sz, D.szs, Nat.reduceAdd, Nat.reduceSub, Nat.reduceLeDiff, Nat.reduceEqDiff, reduceIte, GExpr.acs_eq, GExpr.flat_eq, GExpr.agg_eq, GExpr.el, GPart.acs_eq, GPart.flat_eq, GPart.agg_eq, ht, hw1, hix, k7, k9, g]))) | ((first | ((with_reducible refine awp_regD false ?_ ?_); rfl) | ((with_reducible refine awp_regD true ?_ ?_); rfl)); intro K hK; simp only [↓pkR, ↓sd_guard, pkD, pkA, idx_nat, subB, undef, capsOf, ex, St.put, St.ev, kav, gdA, opI, rawI, vbin, srcOf, avsD, acsD, AV.toD, AC.toD, AV.nw, AC.nw, AC.one, Value.oneCell', fillA, D.one, D.ones, D.sz, D.szs, Nat.reduceAdd, Nat.reduceSub, Nat.reduceLeDiff, Nat.reduceEqDiff, reduceIte, GExpr.acs_eq, GExpr.flat_eq, GExpr.agg_eq, GExpr.el, GPart.acs_eq, GPart.flat_eq, GPart.agg_eq, ht, hw1, hix, k7, k9, g]; first | (refine hK _ ?_; clear hK K) | (refine ⟨by (first | omega | (simp; omega)), hK _ ?_⟩; clear hK K) | (refine ⟨by (first | omega | (simp; omega)), by (first | omega | (simp; omega)), hK _ ?_⟩; clear hK K)))
              refine roundB (i + 1, v + 1) ?_ ?_ ?_
              · simp [StLe', FrLe, OwnLe, BoxLe, AV.fits, AC.fits, FB, mask, hfree]
              · show i + 1 ≤ x.args.length; omega
              · show x.args.length - (i + 1) < x.args.length - i; omega
            | false =>
              have hfa := GExpr.free_len x.args[i] (b)
              have hbl : (b).length ≤ b.length + 1 := by simp
              have hfree : GExpr.frees (x.args.take (i + 1)) b (x.inner b) = GExpr.frees (x.args.take i) b (x.inner b) ++ (x.args[i]).free (b) := by rw [hft]; simp [GExpr.inner, hi0, k7, k9]
              repeat (first | (with_reducible refine awp_seq ?_) | (with_reducible refine awp_block ?_) | (with_reducible refine awp_skip ?_) | (with_reducible refine awp_exit ?_) | (with_reducible refine awp_ret ?_) | (with_reducible refine athen ?_) | (with_reducible refine thenExit ?_) | (with_reducible refine thenRet ?_) | (with_reducible refine blockNormal ?_) | (with_reducible refine blockExit ?_) | (with_reducible refine blockRet ?_) | (with_reducible refine roundExit ?_) | (with_reducible refine roundRet ?_) | ((with_reducible refine blockPass ?_ ?_); rfl) | ((with_reducible refine awp_condT ?_ ?_); rfl) | ((with_reducible refine awp_condF ?_ ?_); rfl) | ((with_reducible refine awp_reg ?_); intro K hK; simp only [↓pkS, ↓sw_guard, pkW, pkA, idx_nat, subB, undef, capsOf, ex, St.put, St.ev, kav, gdA, opI, rawI, vbin, srcOf, avsD, acsD, AV.toD, AC.toD, AV.nw, AC.nw, AC.one, Value.oneCell', fillA, D.one, D.ones, D.sz, D.szs, Nat.reduceAdd, Nat.reduceSub, Nat.reduceLeDiff, Nat.reduceEqDiff, reduceIte, GExpr.acs_eq, GExpr.flat_eq, GExpr.agg_eq, GExpr.el, GPart.acs_eq, GPart.flat_eq, GPart.agg_eq, ht, hw1, hix, k7, k9]; repeat (first | (refine hK _ ?_; clear hK K) | (refine ⟨by (first | omega | (simp; omega)), hK _ ?_⟩; clear hK K) | (refine ⟨by (first | omega | (simp; omega)), by (first | omega | (simp; omega)), hK _ ?_⟩; clear hK K) | ((first | (refine callOwn (hI x.args[i] hmem (b) (by omega)) (el_strs _) (by simp [ArgsOk, ArgOk, argsD, argD, AC.toD, Value.oneCell', sl_flat, leaf_flat, li_flat, ls_flat, sl_agg, leaf_agg, li_agg, ls_agg, List.map_append, List.map_cons, List.map_nil, ls, GExpr.acs_eq, GExpr.flat_eq, GExpr.agg_eq, GExpr.el, GPart.acs_eq, GPart.flat_eq, GPart.agg_eq, ht, hw1, hix, k7, k9]) ?_)); simp only [↓pkS, ↓sw_guard, pkW, pkA, idx_nat, subB, undef, capsOf, ex, St.put, St.ev, kav, gdA, opI, rawI, vbin, srcOf, avsD, acsD, AV.toD, AC.toD, AV.nw, AC.nw, AC.one, Value.oneCell', fillA, D.one, D.ones, D.sz, D.szs, Nat.reduceAdd, Nat.reduceSub, Nat.reduceLeDiff, Nat.reduceEqDiff, reduceIte, GExpr.acs_eq, GExpr.flat_eq, GExpr.agg_eq, GExpr.el, GPart.acs_eq, GPart.flat_eq, GPart.agg_eq, ht, hw1, hix, k7, k9]))) | ((first | ((with_reducible refine awp_regD false ?_ ?_); rfl) | ((with_reducible refine awp_regD true ?_ ?_); rfl)); intro K hK; simp only [↓pkR, ↓sd_guard, pkD, pkA, idx_nat, subB, undef, capsOf, ex, St.put, St.ev, kav, gdA, opI, rawI, vbin, srcOf, avsD, acsD, AV.toD, AC.toD, AV.nw, AC.nw, AC.one, Value.oneCell', fillA, D.one, D.ones, D.sz, D.szs, Nat.reduceAdd, Nat.reduceSub, Nat.reduceLeDiff, Nat.reduceEqDiff, reduceIte, GExpr.acs_eq, GExpr.flat_eq, GExpr.agg_eq, GExpr.el, GPart.acs_eq, GPart.flat_eq, GPart.agg_eq, ht, hw1, hix, k7, k9]; first | (refine hK _ ?_; clear hK K) | (refine ⟨by (first | omega | (simp; omega)), hK _ ?_⟩; clear hK K) | (refine ⟨by (first | omega | (simp; omega)), by (first | omega | (simp; omega)), hK _ ?_⟩; clear hK K)))
              refine roundB (i + 1, v + 1) ?_ ?_ ?_
              · simp [StLe', FrLe, OwnLe, BoxLe, AV.fits, AC.fits, FB, mask, hfree]
              · show i + 1 ≤ x.args.length; omega
              · show x.args.length - (i + 1) < x.args.length - i; omega
      · have ht : decide ((i : Int) < (x.args.length : Int)) = false := by simp; omega
        repeat (first | (with_reducible refine awp_seq ?_) | (with_reducible refine awp_block ?_) | (with_reducible refine awp_skip ?_) | (with_reducible refine awp_exit ?_) | (with_reducible refine awp_ret ?_) | (with_reducible refine athen ?_) | (with_reducible refine thenExit ?_) | (with_reducible refine thenRet ?_) | (with_reducible refine blockNormal ?_) | (with_reducible refine blockExit ?_) | (with_reducible refine blockRet ?_) | (with_reducible refine roundExit ?_) | (with_reducible refine roundRet ?_) | ((with_reducible refine blockPass ?_ ?_); rfl) | ((with_reducible refine awp_condT ?_ ?_); rfl) | ((with_reducible refine awp_condF ?_ ?_); rfl) | ((with_reducible refine awp_reg ?_); intro K hK; simp only [↓pkS, ↓sw_guard, pkW, pkA, idx_nat, subB, undef, capsOf, ex, St.put, St.ev, kav, gdA, opI, rawI, vbin, srcOf, avsD, acsD, AV.toD, AC.toD, AV.nw, AC.nw, AC.one, Value.oneCell', fillA, D.one, D.ones, D.sz, D.szs, Nat.reduceAdd, Nat.reduceSub, Nat.reduceLeDiff, Nat.reduceEqDiff, reduceIte, GExpr.acs_eq, GExpr.flat_eq, GExpr.agg_eq, GExpr.el, GPart.acs_eq, GPart.flat_eq, GPart.agg_eq, ht]; first | (refine hK _ ?_; clear hK K) | (refine ⟨by (first | omega | (simp; omega)), hK _ ?_⟩; clear hK K) | (refine ⟨by (first | omega | (simp; omega)), by (first | omega | (simp; omega)), hK _ ?_⟩; clear hK K)))
        obtain rfl : i = x.args.length := by omega
        exact endRet ⟨0, v, _, rfl, rfl, rfl, by simp, rfl, rfl, Or.inl rfl⟩
  | false =>
    rw [if_neg (by simp [k3])]
    repeat (first | (with_reducible refine awp_seq ?_) | (with_reducible refine awp_block ?_) | (with_reducible refine awp_skip ?_) | (with_reducible refine awp_exit ?_) | (with_reducible refine awp_ret ?_) | (with_reducible refine athen ?_) | (with_reducible refine thenExit ?_) | (with_reducible refine thenRet ?_) | (with_reducible refine blockNormal ?_) | (with_reducible refine blockExit ?_) | (with_reducible refine blockRet ?_) | (with_reducible refine roundExit ?_) | (with_reducible refine roundRet ?_) | ((with_reducible refine blockPass ?_ ?_); rfl) | ((with_reducible refine awp_condT ?_ ?_); rfl) | ((with_reducible refine awp_condF ?_ ?_); rfl) | ((with_reducible refine awp_reg ?_); intro K hK; simp only [↓pkS, ↓sw_guard, pkW, pkA, idx_nat, subB, undef, capsOf, ex, St.put, St.ev, kav, gdA, opI, rawI, vbin, srcOf, avsD, acsD, AV.toD, AC.toD, AV.nw, AC.nw, AC.one, Value.oneCell', fillA, D.one, D.ones, D.sz, D.szs, Nat.reduceAdd, Nat.reduceSub, Nat.reduceLeDiff, Nat.reduceEqDiff, reduceIte, GExpr.acs_eq, GExpr.flat_eq, GExpr.agg_eq, GExpr.el, GPart.acs_eq, GPart.flat_eq, GPart.agg_eq, k3]; repeat (first | (refine hK _ ?_; clear hK K) | (refine ⟨by (first | omega | (simp; omega)), hK _ ?_⟩; clear hK K) | (refine ⟨by (first | omega | (simp; omega)), by (first | omega | (simp; omega)), hK _ ?_⟩; clear hK K) | ((first | (refine callThen (l1Has_to b x.text) trivial (by simp [ArgsOk, ArgOk, argsD, argD, AC.toD, Value.oneCell', sl_flat, leaf_flat, li_flat, ls_flat, sl_agg, leaf_agg, li_agg, ls_agg, mo_t, mo_f, GExpr.acs_eq, GExpr.flat_eq, GExpr.agg_eq, GExpr.el, GPart.acs_eq, GPart.flat_eq, GPart.agg_eq, k3]) ?_)); simp only [↓pkS, ↓sw_guard, pkW, pkA, idx_nat, subB, undef, capsOf, ex, St.put, St.ev, kav, gdA, opI, rawI, vbin, srcOf, avsD, acsD, AV.toD, AC.toD, AV.nw, AC.nw, AC.one, Value.oneCell', fillA, D.one, D.ones, D.sz, D.szs, Nat.reduceAdd, Nat.reduceSub, Nat.reduceLeDiff, Nat.reduceEqDiff, reduceIte, GExpr.acs_eq, GExpr.flat_eq, GExpr.agg_eq, GExpr.el, GPart.acs_eq, GPart.flat_eq, GPart.agg_eq, k3]))))
    refine awp_loopB (X := Nat × Nat) (fun q => [.d, .k, .k, .d, .d, .v (.c false [.own 0 q.2]), .v (.c false [.raw (.int .i64 (q.1 : Nat))]), .d, .d, .d, .d, .d, .d, .d, .d, .d, .d, .d, .d, .d, .d, .d, .d, .d, .d, .d, .d, .d, .d, .d, .d, .d, .d, .d, .d, .d, .d, .d, .d, .d, .d, .d, .d, .d, .d, .d, .d, .d, .d, .d, .d, .d, .d, .d, .d, .d, .d, .d, .d, .d, .d]) (fun q => [⟨(GExpr.frees (x.args.take q.1) b (x.inner b)).map ls, 9, 1, q.2, true⟩]) (fun q bs => bs) (fun q => q.1 ≤ x.args.length) (fun q => x.args.length - q.1) (0, 0) (by simp) ?_ ?_
    · simp [StLe', FrLe, OwnLe, BoxLe, AV.fits, AC.fits, FB, mask, frees_nil, GExpr.frees]
    rintro ⟨i, v⟩ hi
    have hi' : i ≤ x.args.length := hi
    clear hi
    simp only [FB, mask]
    by_cases hlt : i < x.args.length
    · have ht : decide ((i : Int) < (x.args.length : Int)) = true := by simp; omega
      have hw1 : IntKind.i64.wrap ((i : Int) + 1) = ((i + 1 : Nat) : Int) := wrap_nat (by omega)
      have hix := idx_map GExpr.toD x.args hlt
      have hmem : x.args[i] ∈ x.args := List.getElem_mem hlt
      have hwm := wt_mem hmem
      have hfl := frees_take_len x.args b (x.inner b) i
      have hft := frees_take x.args b (x.inner b) hlt
      have hil := inner_len x b
      by_cases hi0 : i = 0
      · have g : decide ((i : Int) > 0) = false := by simp; omega
        cases k7 : (x.kind == 7) with
        | true =>
          have hfa := GExpr.free_len x.args[i] (b)
          have hbl : (b).length ≤ b.length + 1 := by simp
          have hfree : GExpr.frees (x.args.take (i + 1)) b (x.inner b) = GExpr.frees (x.args.take i) b (x.inner b) ++ (x.args[i]).free (b) := by rw [hft]; simp [GExpr.inner, hi0]
          repeat (first | (with_reducible refine awp_seq ?_) | (with_reducible refine awp_block ?_) | (with_reducible refine awp_skip ?_) | (with_reducible refine awp_exit ?_) | (with_reducible refine awp_ret ?_) | (with_reducible refine athen ?_) | (with_reducible refine thenExit ?_) | (with_reducible refine thenRet ?_) | (with_reducible refine blockNormal ?_) | (with_reducible refine blockExit ?_) | (with_reducible refine blockRet ?_) | (with_reducible refine roundExit ?_) | (with_reducible refine roundRet ?_) | ((with_reducible refine blockPass ?_ ?_); rfl) | ((with_reducible refine awp_condT ?_ ?_); rfl) | ((with_reducible refine awp_condF ?_ ?_); rfl) | ((with_reducible refine awp_reg ?_); intro K hK; simp only [↓pkS, ↓sw_guard, pkW, pkA, idx_nat, subB, undef, capsOf, ex, St.put, St.ev, kav, gdA, opI, rawI, vbin, srcOf, avsD, acsD, AV.toD, AC.toD, AV.nw, AC.nw, AC.one, Value.oneCell', fillA, D.one, D.ones, D.sz, D.szs, Nat.reduceAdd, Nat.reduceSub, Nat.reduceLeDiff, Nat.reduceEqDiff, reduceIte, GExpr.acs_eq, GExpr.flat_eq, GExpr.agg_eq, GExpr.el, GPart.acs_eq, GPart.flat_eq, GPart.agg_eq, ht, hw1, hix, k7, g]; repeat (first | (refine hK _ ?_; clear hK K) | (refine ⟨by (first | omega | (simp; omega)), hK _ ?_⟩; clear hK K) | (refine ⟨by (first | omega | (simp; omega)), by (first | omega | (simp; omega)), hK _ ?_⟩; clear hK K) | ((first | (refine callOwn (hI x.args[i] hmem (b) (by omega)) (el_strs _) (by simp [ArgsOk, ArgOk, argsD, argD, AC.toD, Value.oneCell', sl_flat, leaf_flat, li_flat, ls_flat, sl_agg, leaf_agg, li_agg, ls_agg, List.map_append, List.map_cons, List.map_nil, ls, GExpr.acs_eq, GExpr.flat_eq, GExpr.agg_eq, GExpr.el, GPart.acs_eq, GPart.flat_eq, GPart.agg_eq, ht, hw1, hix, k7, g]) ?_)); simp only [↓pkS, ↓sw_guard, pkW, pkA, idx_nat, subB, undef, capsOf, ex, St.put, St.ev, kav, gdA, opI, rawI, vbin, srcOf, avsD, acsD, AV.toD, AC.toD, AV.nw, AC.nw, AC.one, Value.oneCell', fillA, D.one, D.ones, D.sz, D.szs, Nat.reduceAdd, Nat.reduceSub, Nat.reduceLeDiff, Nat.reduceEqDiff, reduceIte, GExpr.acs_eq, GExpr.flat_eq, GExpr.agg_eq, GExpr.el, GPart.acs_eq, GPart.flat_eq, GPart.agg_eq, ht, hw1, hix, k7, g]))) | ((first | ((with_reducible refine awp_regD false ?_ ?_); rfl) | ((with_reducible refine awp_regD true ?_ ?_); rfl)); intro K hK; simp only [↓pkR, ↓sd_guard, pkD, pkA, idx_nat, subB, undef, capsOf, ex, St.put, St.ev, kav, gdA, opI, rawI, vbin, srcOf, avsD, acsD, AV.toD, AC.toD, AV.nw, AC.nw, AC.one, Value.oneCell', fillA, D.one, D.ones, D.sz, D.szs, Nat.reduceAdd, Nat.reduceSub, Nat.reduceLeDiff, Nat.reduceEqDiff, reduceIte, GExpr.acs_eq, GExpr.flat_eq, GExpr.agg_eq, GExpr.el, GPart.acs_eq, GPart.flat_eq, GPart.agg_eq, ht, hw1, hix, k7, g]; first | (refine hK _ ?_; clear hK K) | (refine ⟨by (first | omega | (simp; omega)), hK _ ?_⟩; clear hK K) | (refine ⟨by (first | omega | (simp; omega)), by (first | omega | (simp; omega)), hK _ ?_⟩; clear hK K)))
          refine roundB (i + 1, v + 1) ?_ ?_ ?_
          · simp [StLe', FrLe, OwnLe, BoxLe, AV.fits, AC.fits, FB, mask, hfree]
          · show i + 1 ≤ x.args.length; omega
          · show x.args.length - (i + 1) < x.args.length - i; omega
        | false =>
          cases k9 : (x.kind == 9) with
          | true =>
            have hfa := GExpr.free_len x.args[i] (b)
            have hbl : (b).length ≤ b.length + 1 := by simp
            have hfree : GExpr.frees (x.args.take (i + 1)) b (x.inner b) = GExpr.frees (x.args.take i) b (x.inner b) ++ (x.args[i]).free (b) := by rw [hft]; simp [GExpr.inner, hi0]
            repeat (first | (with_reducible refine awp_seq ?_) | (with_reducible refine awp_block ?_) | (with_reducible refine awp_skip ?_) | (with_reducible refine awp_exit ?_) | (with_reducible refine awp_ret ?_) | (with_reducible refine athen ?_) | (with_reducible refine thenExit ?_) | (with_reducible refine thenRet ?_) | (with_reducible refine blockNormal ?_) | (with_reducible refine blockExit ?_) | (with_reducible refine blockRet ?_) | (with_reducible refine roundExit ?_) | (with_reducible refine roundRet ?_) | ((with_reducible refine blockPass ?_ ?_); rfl) | ((with_reducible refine awp_condT ?_ ?_); rfl) | ((with_reducible refine awp_condF ?_ ?_); rfl) | ((with_reducible refine awp_reg ?_); intro K hK; simp only [↓pkS, ↓sw_guard, pkW, pkA, idx_nat, subB, undef, capsOf, ex, St.put, St.ev, kav, gdA, opI, rawI, vbin, srcOf, avsD, acsD, AV.toD, AC.toD, AV.nw, AC.nw, AC.one, Value.oneCell', fillA, D.one, D.ones, D.sz, D.szs, Nat.reduceAdd, Nat.reduceSub, Nat.reduceLeDiff, Nat.reduceEqDiff, reduceIte, GExpr.acs_eq, GExpr.flat_eq, GExpr.agg_eq, GExpr.el, GPart.acs_eq, GPart.flat_eq, GPart.agg_eq, ht, hw1, hix, k7, k9, g]; repeat (first | (refine hK _ ?_; clear hK K) | (refine ⟨by (first | omega | (simp; omega)), hK _ ?_⟩; clear hK K) | (refine ⟨by (first | omega | (simp; omega)), by (first | omega | (simp; omega)), hK _ ?_⟩; clear hK K) | ((first | (refine callOwn (hI x.args[i] hmem (b) (by omega)) (el_strs _) (by simp [ArgsOk, ArgOk, argsD, argD, AC.toD, Value.oneCell', sl_flat, leaf_flat, li_flat, ls_flat, sl_agg, leaf_agg, li_agg, ls_agg, List.map_append, List.map_cons, List.map_nil, ls, GExpr.acs_eq, GExpr.flat_eq, GExpr.agg_eq, GExpr.el, GPart.acs_eq, GPart.flat_eq, GPart.agg_eq, ht, hw1, hix, k7, k9, g]) ?_)); simp only [↓pkS, ↓sw_guard, pkW, pkA, idx_nat, subB, undef, capsOf, ex, St.put, St.ev, kav, gdA, opI, rawI, vbin, srcOf, avsD, acsD, AV.toD, AC.toD, AV.nw, AC.nw, AC.one, Value.oneCell', fillA, D.one, D.ones, D.sz, D.szs, Nat.reduceAdd, Nat.reduceSub, Nat.reduceLeDiff, Nat.reduceEqDiff, reduceIte, GExpr.acs_eq, GExpr.flat_eq, GExpr.agg_eq, GExpr.el, GPart.acs_eq, GPart.flat_eq, GPart.agg_eq, ht, hw1, hix, k7, k9, g]))) | ((first | ((with_reducible refine awp_regD false ?_ ?_); rfl) | ((with_reducible refine awp_regD true ?_ ?_); rfl)); intro K hK; simp only [↓pkR, ↓sd_guard, pkD, pkA, idx_nat, subB, undef, capsOf, ex, St.put, St.ev, kav, gdA, opI, rawI, vbin, srcOf, avsD, acsD, AV.toD, AC.toD, AV.nw, AC.nw, AC.one, Value.oneCell', fillA, D.one, D.ones, D.sz, D.szs, Nat.reduceAdd, Nat.reduceSub, Nat.reduceLeDiff, Nat.reduceEqDiff, reduceIte, GExpr.acs_eq, GExpr.flat_eq, GExpr.agg_eq, GExpr.el, GPart.acs_eq, GPart.flat_eq, GPart.agg_eq, ht, hw1, hix, k7, k9, g]; first | (refine hK _ ?_; clear hK K) | (refine ⟨by (first | omega | (simp; omega)), hK _ ?_⟩; clear hK K) | (refine ⟨by (first | omega | (simp; omega)), by (first | omega | (simp; omega)), hK _ ?_⟩; clear hK K)))
            refine roundB (i + 1, v + 1) ?_ ?_ ?_
            · simp [StLe', FrLe, OwnLe, BoxLe, AV.fits, AC.fits, FB, mask, hfree]
            · show i + 1 ≤ x.args.length; omega
            · show x.args.length - (i + 1) < x.args.length - i; omega
          | false =>
            have hfa := GExpr.free_len x.args[i] (b)
            have hbl : (b).length ≤ b.length + 1 := by simp
            have hfree : GExpr.frees (x.args.take (i + 1)) b (x.inner b) = GExpr.frees (x.args.take i) b (x.inner b) ++ (x.args[i]).free (b) := by rw [hft]; simp [GExpr.inner, hi0]
            repeat (first | (with_reducible refine awp_seq ?_) | (with_reducible refine awp_block ?_) | (with_reducible refine awp_skip ?_) | (with_reducible refine awp_exit ?_) | (with_reducible refine awp_ret ?_) | (with_reducible refine athen ?_) | (with_reducible refine thenExit ?_) | (with_reducible refine thenRet ?_) | (with_reducible refine blockNormal ?_) | (with_reducible refine blockExit ?_) | (with_reducible refine blockRet ?_) | (with_reducible refine roundExit ?_) | (with_reducible refine roundRet ?_) | ((with_reducible refine blockPass ?_ ?_); rfl) | ((with_reducible refine awp_condT ?_ ?_); rfl) | ((with_reducible refine awp_condF ?_ ?_); rfl) | ((with_reducible refine awp_reg ?_); intro K hK; simp only [↓pkS, ↓sw_guard, pkW, pkA, idx_nat, subB, undef, capsOf, ex, St.put, St.ev, kav, gdA, opI, rawI, vbin, srcOf, avsD, acsD, AV.toD, AC.toD, AV.nw, AC.nw, AC.one, Value.oneCell', fillA, D.one, D.ones, D.sz, D.szs, Nat.reduceAdd, Nat.reduceSub, Nat.reduceLeDiff, Nat.reduceEqDiff, reduceIte, GExpr.acs_eq, GExpr.flat_eq, GExpr.agg_eq, GExpr.el, GPart.acs_eq, GPart.flat_eq, GPart.agg_eq, ht, hw1, hix, k7, k9]; repeat (first | (refine hK _ ?_; clear hK K) | (refine ⟨by (first | omega | (simp; omega)), hK _ ?_⟩; clear hK K) | (refine ⟨by (first | omega | (simp; omega)), by (first | omega | (simp; omega)), hK _ ?_⟩; clear hK K) | ((first | (refine callOwn (hI x.args[i] hmem (b) (by omega)) (el_strs _) (by simp [ArgsOk, ArgOk, argsD, argD, AC.toD, Value.oneCell', sl_flat, leaf_flat, li_flat, ls_flat, sl_agg, leaf_agg, li_agg, ls_agg, List.map_append, List.map_cons, List.map_nil, ls, GExpr.acs_eq, GExpr.flat_eq, GExpr.agg_eq, GExpr.el, GPart.acs_eq, GPart.flat_eq, GPart.agg_eq, ht, hw1, hix, k7, k9]) ?_)); simp only [↓pkS, ↓sw_guard, pkW, pkA, idx_nat, subB, undef, capsOf, ex, St.put, St.ev, kav, gdA, opI, rawI, vbin, srcOf, avsD, acsD, AV.toD, AC.toD, AV.nw, AC.nw, AC.one, Value.oneCell', fillA, D.one, D.ones, D.sz, D.szs, Nat.reduceAdd, Nat.reduceSub, Nat.reduceLeDiff, Nat.reduceEqDiff, reduceIte, GExpr.acs_eq, GExpr.flat_eq, GExpr.agg_eq, GExpr.el, GPart.acs_eq, GPart.flat_eq, GPart.agg_eq, ht, hw1, hix, k7, k9]))) | ((first | ((with_reducible refine awp_regD false ?_ ?_); rfl) | ((with_reducible refine awp_regD true ?_ ?_); rfl)); intro K hK; simp only [↓pkR, ↓sd_guard, pkD, pkA, idx_nat, subB, undef, capsOf, ex, St.put, St.ev, kav, gdA, opI, rawI, vbin, srcOf, avsD, acsD, AV.toD, AC.toD, AV.nw, AC.nw, AC.one, Value.oneCell', fillA, D.one, D.ones, D.sz, D.szs, Nat.reduceAdd, Nat.reduceSub, Nat.reduceLeDiff, Nat.reduceEqDiff, reduceIte, GExpr.acs_eq, GExpr.flat_eq, GExpr.agg_eq, GExpr.el, GPart.acs_eq, GPart.flat_eq, GPart.agg_eq, ht, hw1, hix, k7, k9]; first | (refine hK _ ?_; clear hK K) | (refine ⟨by (first | omega | (simp; omega)), hK _ ?_⟩; clear hK K) | (refine ⟨by (first | omega | (simp; omega)), by (first | omega | (simp; omega)), hK _ ?_⟩; clear hK K)))
            refine roundB (i + 1, v + 1) ?_ ?_ ?_
            · simp [StLe', FrLe, OwnLe, BoxLe, AV.fits, AC.fits, FB, mask, hfree]
            · show i + 1 ≤ x.args.length; omega
            · show x.args.length - (i + 1) < x.args.length - i; omega
      · have g : decide ((i : Int) > 0) = true := by simp; omega
        cases k7 : (x.kind == 7) with
        | true =>
          have hfa := GExpr.free_len x.args[i] (b ++ [x.text])
          have hbl : (b ++ [x.text]).length ≤ b.length + 1 := by simp
          have hfree : GExpr.frees (x.args.take (i + 1)) b (x.inner b) = GExpr.frees (x.args.take i) b (x.inner b) ++ (x.args[i]).free (b ++ [x.text]) := by rw [hft]; simp [GExpr.inner, hi0, k7]
          repeat (first | (with_reducible refine awp_seq ?_) | (with_reducible refine awp_block ?_) | (with_reducible refine awp_skip ?_) | (with_reducible refine awp_exit ?_) | (with_reducible refine awp_ret ?_) | (with_reducible refine athen ?_) | (with_reducible refine thenExit ?_) | (with_reducible refine thenRet ?_) | (with_reducible refine blockNormal ?_) | (with_reducible refine blockExit ?_) | (with_reducible refine blockRet ?_) | (with_reducible refine roundExit ?_) | (with_reducible refine roundRet ?_) | ((with_reducible refine blockPass ?_ ?_); rfl) | ((with_reducible refine awp_condT ?_ ?_); rfl) | ((with_reducible refine awp_condF ?_ ?_); rfl) | ((with_reducible refine awp_reg ?_); intro K hK; simp only [↓pkS, ↓sw_guard, pkW, pkA, idx_nat, subB, undef, capsOf, ex, St.put, St.ev, kav, gdA, opI, rawI, vbin, srcOf, avsD, acsD, AV.toD, AC.toD, AV.nw, AC.nw, AC.one, Value.oneCell', fillA, D.one, D.ones, D.sz, D.szs, Nat.reduceAdd, Nat.reduceSub, Nat.reduceLeDiff, Nat.reduceEqDiff, reduceIte, GExpr.acs_eq, GExpr.flat_eq, GExpr.agg_eq, GExpr.el, GPart.acs_eq, GPart.flat_eq, GPart.agg_eq, ht, hw1, hix, k7, g]; repeat (first | (refine hK _ ?_; clear hK K) | (refine ⟨by (first | omega | (simp; omega)), hK _ ?_⟩; clear hK K) | (refine ⟨by (first | omega | (simp; omega)), by (first | omega | (simp; omega)), hK _ ?_⟩; clear hK K) | ((first | (refine callOwn (hI x.args[i] hmem (b ++ [x.text]) (by omega)) (el_strs _) (by simp [ArgsOk, ArgOk, argsD, argD, AC.toD, Value.oneCell', sl_flat, leaf_flat, li_flat, ls_flat, sl_agg, leaf_agg, li_agg, ls_agg, List.map_append, List.map_cons, List.map_nil, ls, GExpr.acs_eq, GExpr.flat_eq, GExpr.agg_eq, GExpr.el, GPart.acs_eq, GPart.flat_eq, GPart.agg_eq, ht, hw1, hix, k7, g]) ?_)); simp only [↓pkS, ↓sw_guard, pkW, pkA, idx_nat, subB, undef, capsOf, ex, St.put, St.ev, kav, gdA, opI, rawI, vbin, srcOf, avsD, acsD, AV.toD, AC.toD, AV.nw, AC.nw, AC.one, Value.oneCell', fillA, D.one, D.ones, D.sz, D.szs, Nat.reduceAdd, Nat.reduceSub, Nat.reduceLeDiff, Nat.reduceEqDiff, reduceIte, GExpr.acs_eq, GExpr.flat_eq, GExpr.agg_eq, GExpr.el, GPart.acs_eq, GPart.flat_eq, GPart.agg_eq, ht, hw1, hix, k7, g]))) | ((first | ((with_reducible refine awp_regD false ?_ ?_); rfl) | ((with_reducible refine awp_regD true ?_ ?_); rfl)); intro K hK; simp only [↓pkR, ↓sd_guard, pkD, pkA, idx_nat, subB, undef, capsOf, ex, St.put, St.ev, kav, gdA, opI, rawI, vbin, srcOf, avsD, acsD, AV.toD, AC.toD, AV.nw, AC.nw, AC.one, Value.oneCell', fillA, D.one, D.ones, D.sz, D.szs, Nat.reduceAdd, Nat.reduceSub, Nat.reduceLeDiff, Nat.reduceEqDiff, reduceIte, GExpr.acs_eq, GExpr.flat_eq, GExpr.agg_eq, GExpr.el, GPart.acs_eq, GPart.flat_eq, GPart.agg_eq, ht, hw1, hix, k7, g]; first | (refine hK _ ?_; clear hK K) | (refine ⟨by (first | omega | (simp; omega)), hK _ ?_⟩; clear hK K) | (refine ⟨by (first | omega | (simp; omega)), by (first | omega | (simp; omega)), hK _ ?_⟩; clear hK K)))
          refine roundB (i + 1, v + 1) ?_ ?_ ?_
          · simp [StLe', FrLe, OwnLe, BoxLe, AV.fits, AC.fits, FB, mask, hfree]
          · show i + 1 ≤ x.args.length; omega
          · show x.args.length - (i + 1) < x.args.length - i; omega
        | false =>
          cases k9 : (x.kind == 9) with
          | true =>
            have hfa := GExpr.free_len x.args[i] (b ++ [x.text])
            have hbl : (b ++ [x.text]).length ≤ b.length + 1 := by simp
            have hfree : GExpr.frees (x.args.take (i + 1)) b (x.inner b) = GExpr.frees (x.args.take i) b (x.inner b) ++ (x.args[i]).free (b ++ [x.text]) := by rw [hft]; simp [GExpr.inner, hi0, k7, k9]
            repeat (first | (with_reducible refine awp_seq ?_) | (with_reducible refine awp_block ?_) | (with_reducible refine awp_skip ?_) | (with_reducible refine awp_exit ?_) | (with_reducible refine awp_ret ?_) | (with_reducible refine athen ?_) | (with_reducible refine thenExit ?_) | (with_reducible refine thenRet ?_) | (with_reducible refine blockNormal ?_) | (with_reducible refine blockExit ?_) | (with_reducible refine blockRet ?_) | (with_reducible refine roundExit ?_) | (with_reducible refine roundRet ?_) | ((with_reducible refine blockPass ?_ ?_); rfl) | ((with_reducible refine awp_condT ?_ ?_); rfl) | ((with_reducible refine awp_condF ?_ ?_); rfl) | ((with_reducible refine awp_reg ?_); intro K hK; simp only [↓pkS, ↓sw_guard, pkW, pkA, idx_nat, subB, undef, capsOf, ex, St.put, St.ev, kav, gdA, opI, rawI, vbin, srcOf, avsD, acsD, AV.toD, AC.toD, AV.nw, AC.nw, AC.one, Value.oneCell', fillA, D.one, D.ones, D.sz, D.szs, Nat.reduceAdd, Nat.reduceSub, Nat.reduceLeDiff, Nat.reduceEqDiff, reduceIte, GExpr.acs_eq, GExpr.flat_eq, GExpr.agg_eq, GExpr.el, GPart.acs_eq, GPart.flat_eq, GPart.agg_eq, ht, hw1, hix, k7, k9, g]; repeat (first | (refine hK _ ?_; clear hK K) | (refine ⟨by (first | omega | (simp; omega)), hK _ ?_⟩; clear hK K) | (refine ⟨by (first | omega | (simp; omega)), by (first | omega | (simp; omega)), hK _ ?_⟩; clear hK K) | ((first | (refine callOwn (hI x.args[i] hmem (b ++ [x.text]) (by omega)) (el_strs _) (by simp [ArgsOk, ArgOk, argsD, argD, AC.toD, Value.oneCell', sl_flat, leaf_flat, li_flat, ls_flat, sl_agg, leaf_agg, li_agg, ls_agg, List.map_append, List.map_cons, List.map_nil, ls, GExpr.acs_eq, GExpr.flat_eq, GExpr.agg_eq, GExpr.el, GPart.acs_eq, GPart.flat_eq, GPart.agg_eq, ht, hw1, hix, k7, k9, g]) ?_)); simp only [↓pkS, ↓sw_guard, pkW, pkA, idx_nat, subB, undef, capsOf, ex, St.put, St.ev, kav, gdA, opI, rawI, vbin, srcOf, avsD, acsD, AV.toD, AC.toD, AV.nw, AC.nw, AC.one, Value.oneCell', fillA, D.one, D.ones, D.sz, D.szs, Nat.reduceAdd, Nat.reduceSub, Nat.reduceLeDiff, Nat.reduceEqDiff, reduceIte, GExpr.acs_eq, GExpr.flat_eq, GExpr.agg_eq, GExpr.el, GPart.acs_eq, GPart.flat_eq, GPart.agg_eq, ht, hw1, hix, k7, k9, g]))) | ((first | ((with_reducible refine awp_regD false ?_ ?_); rfl) | ((with_reducible refine awp_regD true ?_ ?_); rfl)); intro K hK; simp only [↓pkR, ↓sd_guard, pkD, pkA, idx_nat, subB, undef, capsOf, ex, St.put, St.ev, kav, gdA, opI, rawI, vbin, srcOf, avsD, acsD, AV.toD, AC.toD, AV.nw, AC.nw, AC.one, Value.oneCell', fillA, D.one, D.ones, D.sz, D.szs, Nat.reduceAdd, Nat.reduceSub, Nat.reduceLeDiff, Nat.reduceEqDiff, reduceIte, GExpr.acs_eq, GExpr.flat_eq, GExpr.agg_eq, GExpr.el, GPart.acs_eq, GPart.flat_eq, GPart.agg_eq, ht, hw1, hix, k7, k9, g]; first | (refine hK _ ?_; clear hK K) | (refine ⟨by (first | omega | (simp; omega)), hK _ ?_⟩; clear hK K) | (refine ⟨by (first | omega | (simp; omega)), by (first | omega | (simp; omega)), hK _ ?_⟩; clear hK K)))
            refine roundB (i + 1, v + 1) ?_ ?_ ?_
            · simp [StLe', FrLe, OwnLe, BoxLe, AV.fits, AC.fits, FB, mask, hfree]
            · show i + 1 ≤ x.args.length; omega
            · show x.args.length - (i + 1) < x.args.length - i; omega
          | false =>
            have hfa := GExpr.free_len x.args[i] (b)
            have hbl : (b).length ≤ b.length + 1 := by simp
            have hfree : GExpr.frees (x.args.take (i + 1)) b (x.inner b) = GExpr.frees (x.args.take i) b (x.inner b) ++ (x.args[i]).free (b) := by rw [hft]; simp [GExpr.inner, hi0, k7, k9]
            repeat (first | (with_reducible refine awp_seq ?_) | (with_reducible refine awp_block ?_) | (with_reducible refine awp_skip ?_) | (with_reducible refine awp_exit ?_) | (with_reducible refine awp_ret ?_) | (with_reducible refine athen ?_) | (with_reducible refine thenExit ?_) | (with_reducible refine thenRet ?_) | (with_reducible refine blockNormal ?_) | (with_reducible refine blockExit ?_) | (with_reducible refine blockRet ?_) | (with_reducible refine roundExit ?_) | (with_reducible refine roundRet ?_) | ((with_reducible refine blockPass ?_ ?_); rfl) | ((with_reducible refine awp_condT ?_ ?_); rfl) | ((with_reducible refine awp_condF ?_ ?_); rfl) | ((with_reducible refine awp_reg ?_); intro K hK; simp only [↓pkS, ↓sw_guard, pkW, pkA, idx_nat, subB, undef, capsOf, ex, St.put, St.ev, kav, gdA, opI, rawI, vbin, srcOf, avsD, acsD, AV.toD, AC.toD, AV.nw, AC.nw, AC.one, Value.oneCell', fillA, D.one, D.ones, D.sz, D.szs, Nat.reduceAdd, Nat.reduceSub, Nat.reduceLeDiff, Nat.reduceEqDiff, reduceIte, GExpr.acs_eq, GExpr.flat_eq, GExpr.agg_eq, GExpr.el, GPart.acs_eq, GPart.flat_eq, GPart.agg_eq, ht, hw1, hix, k7, k9]; repeat (first | (refine hK _ ?_; clear hK K) | (refine ⟨by (first | omega | (simp; omega)), hK _ ?_⟩; clear hK K) | (refine ⟨by (first | omega | (simp; omega)), by (first | omega | (simp; omega)), hK _ ?_⟩; clear hK K) | ((first | (refine callOwn (hI x.args[i] hmem (b) (by omega)) (el_strs _) (by simp [ArgsOk, ArgOk, argsD, argD, AC.toD, Value.oneCell', sl_flat, leaf_flat, li_flat, ls_flat, sl_agg, leaf_agg, li_agg, ls_agg, List.map_append, List.map_cons, List.map_nil, ls, GExpr.acs_eq, GExpr.flat_eq, GExpr.agg_eq, GExpr.el, GPart.acs_eq, GPart.flat_eq, GPart.agg_eq, ht, hw1, hix, k7, k9]) ?_)); simp only [↓pkS, ↓sw_guard, pkW, pkA, idx_nat, subB, undef, capsOf, ex, St.put, St.ev, kav, gdA, opI, rawI, vbin, srcOf, avsD, acsD, AV.toD, AC.toD, AV.nw, AC.nw, AC.one, Value.oneCell', fillA, D.one, D.ones, D.sz, D.szs, Nat.reduceAdd, Nat.reduceSub, Nat.reduceLeDiff, Nat.reduceEqDiff, reduceIte, GExpr.acs_eq, GExpr.flat_eq, GExpr.agg_eq, GExpr.el, GPart.acs_eq, GPart.flat_eq, GPart.agg_eq, ht, hw1, hix, k7, k9]))) | ((first | ((with_reducible refine awp_regD false ?_ ?_); rfl) | ((with_reducible refine awp_regD true ?_ ?_); rfl)); intro K hK; simp only [↓pkR, ↓sd_guard, pkD, pkA, idx_nat, subB, undef, capsOf, ex, St.put, St.ev, kav, gdA, opI, rawI, vbin, srcOf, avsD, acsD, AV.toD, AC.toD, AV.nw, AC.nw, AC.one, Value.oneCell', fillA, D.one, D.ones, D.sz, D.szs, Nat.reduceAdd, Nat.reduceSub, Nat.reduceLeDiff, Nat.reduceEqDiff, reduceIte, GExpr.acs_eq, GExpr.flat_eq, GExpr.agg_eq, GExpr.el, GPart.acs_eq, GPart.flat_eq, GPart.agg_eq, ht, hw1, hix, k7, k9]; first | (refine hK _ ?_; clear hK K) | (refine ⟨by (first | omega | (simp; omega)), hK _ ?_⟩; clear hK K) | (refine ⟨by (first | omega | (simp; omega)), by (first | omega | (simp; omega)), hK _ ?_⟩; clear hK K)))
            refine roundB (i + 1, v + 1) ?_ ?_ ?_
            · simp [StLe', FrLe, OwnLe, BoxLe, AV.fits, AC.fits, FB, mask, hfree]
            · show i + 1 ≤ x.args.length; omega
            · show x.args.length - (i + 1) < x.args.length - i; omega
    · have ht : decide ((i : Int) < (x.args.length : Int)) = false := by simp; omega
      repeat (first | (with_reducible refine awp_seq ?_) | (with_reducible refine awp_block ?_) | (with_reducible refine awp_skip ?_) | (with_reducible refine awp_exit ?_) | (with_reducible refine awp_ret ?_) | (with_reducible refine athen ?_) | (with_reducible refine thenExit ?_) | (with_reducible refine thenRet ?_) | (with_reducible refine blockNormal ?_) | (with_reducible refine blockExit ?_) | (with_reducible refine blockRet ?_) | (with_reducible refine roundExit ?_) | (with_reducible refine roundRet ?_) | ((with_reducible refine blockPass ?_ ?_); rfl) | ((with_reducible refine awp_condT ?_ ?_); rfl) | ((with_reducible refine awp_condF ?_ ?_); rfl) | ((with_reducible refine awp_reg ?_); intro K hK; simp only [↓pkS, ↓sw_guard, pkW, pkA, idx_nat, subB, undef, capsOf, ex, St.put, St.ev, kav, gdA, opI, rawI, vbin, srcOf, avsD, acsD, AV.toD, AC.toD, AV.nw, AC.nw, AC.one, Value.oneCell', fillA, D.one, D.ones, D.sz, D.szs, Nat.reduceAdd, Nat.reduceSub, Nat.reduceLeDiff, Nat.reduceEqDiff, reduceIte, GExpr.acs_eq, GExpr.flat_eq, GExpr.agg_eq, GExpr.el, GPart.acs_eq, GPart.flat_eq, GPart.agg_eq, ht]; first | (refine hK _ ?_; clear hK K) | (refine ⟨by (first | omega | (simp; omega)), hK _ ?_⟩; clear hK K) | (refine ⟨by (first | omega | (simp; omega)), by (first | omega | (simp; omega)), hK _ ?_⟩; clear hK K)))
      obtain rfl : i = x.args.length := by omega
      exact endRet ⟨0, v, _, rfl, rfl, rfl, by simp, rfl, rfl, Or.inl rfl⟩
theorem l13Free_all : ∀ (n : Nat) (x : GExpr), x.toD.wt < n → FreeSaid x := by
  intro n
  induction n with
  | zero => intro x h; omega
  | succ n ih =>
    intro x h
    exact l13Free_of x (fun y hy => ih y (by have := wt_mem hy; omega))
theorem l13Free_own (x : GExpr) : FreeSaid x := l13Free_all _ x (Nat.lt_succ_self _)
end Go.Proofs.YtnfamcepojpkjaaGreat

namespace Go.Proofs.YtnfamcepojpkjaaGreat
open Go.RowKit
set_option linter.unusedSimpArgs false
set_option linter.unusedVariables false
theorem OwnStrs.own {l : List ByteArray} {w w' : World} {en : Ending} (h : OwnStrs l w en w') : OwnPost false (l.map ls) 9 1 w en w' := by
  obtain ⟨f, v, rfl, ⟨cs, h1, h2, h3, h4⟩, h5⟩ := h
  exact ⟨v, cs, f, rfl, OwnsAt.of h1, h2, fun b hb => ⟨fun e => h4 b e.symm hb, (h3.2 b hb).1⟩, h5⟩
theorem GExpr.free_max (x : GExpr) (b : List ByteArray) : (x.free b).length ≤ max 1 x.toD.wt := by
  rw [GExpr.free_eq]
  split
  · simp; omega
  · have := GExpr.frees_len x.args b (x.inner b)
    have := x.wt_e
    omega
theorem sortNames_spec_to (l : List ByteArray) (hn : l.length ≤ 1048576) : CallsOwn Tryz.prog 74 [.sl (l.map ls)] ((sortN l).map ls) 9 1 := fun w vs hr _ => by
  obtain ⟨v, rfl, h1⟩ := rds1 hr
  obtain ⟨fp, hS⟩ := rd_sl h1
  exact (sortNames_spec_own l fp v w hS hn).mono fun _ _ h => h.own
theorem sortNames_impl_to (l : List ByteArray) (hn : l.length ≤ 1048576) : CallsOwn Tryz.prog 80 [.sl (l.map ls)] ((sortN l).map ls) 9 1 := fun w vs hr _ => by
  obtain ⟨v, rfl, h1⟩ := rds1 hr
  obtain ⟨fp, hS⟩ := rd_sl h1
  exact (sortNames_impl_own l fp v w hS hn).mono fun _ _ h => h.own
def ic_freeNames : IC := (.seq (.reg false [⟨(some 1), none, .box (.t 0)⟩, ⟨(some 2), none, .mov (.k (.slice none 0 0))⟩]) (.seq (.reg false [⟨(some 3), none, .load 4 true (.t 1)⟩, ⟨(some 4), none, .brow true 9 1 0 false []⟩, ⟨(some 5), none, .call 75 [(.t 3), (.t 4)]⟩, ⟨(some 6), none, .call 74 [(.t 5)]⟩, ⟨(some 2), none, .mov (.t 6)⟩]) .ret))
theorem ic_freeNames_ok : compC Tryz.prog (Tryz.f64.body.getD .skip) = some ic_freeNames := by kernel_rfl
theorem freeNames_spec_to (x : GExpr) (hw : x.toD.wt ≤ 1048576) : CallsOwn Tryz.prog 64 [x.toD] ((sortN (x.free [])).map ls) 9 1 := by
  refine calls_own (fn := Tryz.f64) (t := 2) (by kernel_rfl) (by kernel_rfl) (by kernel_rfl) ic_freeNames_ok ?_
  change AWP _ _ _ (st0 7 _)
  have hm := x.free_max []
  unfold ic_freeNames
  simp only [undef, st0, stN, D.av, D.avN, sl_agg, leaf_agg, li_agg, ls_agg, sl_acs, leaf_acs, li_acs, ls_acs, GExpr.acs_eq, GExpr.flat_eq, GExpr.agg_eq, GExpr.el, GPart.acs_eq, GPart.flat_eq, GPart.agg_eq, GPart.el, List.map_cons, List.map_nil, List.replicate, List.cons_append, List.nil_append, List.length_cons, List.length_nil, Nat.reduceAdd, Nat.reduceSub]
  repeat (first | (with_reducible refine awp_seq ?_) | (with_reducible refine awp_block ?_) | (with_reducible refine awp_skip ?_) | (with_reducible refine awp_exit ?_) | (with_reducible refine awp_ret ?_) | (with_reducible refine athen ?_) | (with_reducible refine thenExit ?_) | (with_reducible refine thenRet ?_) | (with_reducible refine blockNormal ?_) | (with_reducible refine blockExit ?_) | (with_reducible refine blockRet ?_) | (with_reducible refine roundExit ?_) | (with_reducible refine roundRet ?_) | ((with_reducible refine blockPass ?_ ?_); rfl) | ((with_reducible refine awp_condT ?_ ?_); rfl) | ((with_reducible refine awp_condF ?_ ?_); rfl) | ((with_reducible refine awp_reg ?_); intro K hK; simp only [↓pkS, ↓sw_guard, pkW, pkA, idx_nat, subB, undef, capsOf, ex, St.put, St.ev, kav, gdA, opI, rawI, vbin, srcOf, avsD, acsD, AV.toD, AC.toD, AV.nw, AC.nw, AC.one, Value.oneCell', fillA, D.one, D.ones, D.sz, D.szs, Nat.reduceAdd, Nat.reduceSub, Nat.reduceLeDiff, Nat.reduceEqDiff, reduceIte, GExpr.acs_eq, GExpr.flat_eq, GExpr.agg_eq, GExpr.el, GPart.acs_eq, GPart.flat_eq, GPart.agg_eq, GPart.el]; repeat (first | (refine hK _ ?_; clear hK K) | (refine ⟨by (first | omega | (simp; omega)), hK _ ?_⟩; clear hK K) | (refine ⟨by (first | omega | (simp; omega)), by (first | omega | (simp; omega)), hK _ ?_⟩; clear hK K) | ((first | (refine callOwn (l13Free_own x [] (by simp; omega)) (el_strs _) (by simp [ArgsOk, ArgOk, argsD, argD, AC.toD, Value.oneCell', sl_flat, leaf_flat, li_flat, ls_flat, sl_agg, leaf_agg, li_agg, ls_agg, GExpr.acs_eq, GExpr.flat_eq, GExpr.agg_eq, GExpr.el, GPart.acs_eq, GPart.flat_eq, GPart.agg_eq, GPart.el]) ?_) | (refine callOwn (sortNames_spec_to (x.free []) (by omega)) (el_strs _) (by simp [ArgsOk, ArgOk, argsD, argD, AC.toD, Value.oneCell', sl_flat, leaf_flat, li_flat, ls_flat, sl_agg, leaf_agg, li_agg, ls_agg, GExpr.acs_eq, GExpr.flat_eq, GExpr.agg_eq, GExpr.el, GPart.acs_eq, GPart.flat_eq, GPart.agg_eq, GPart.el]) ?_)); simp only [↓pkS, ↓sw_guard, pkW, pkA, idx_nat, subB, undef, capsOf, ex, St.put, St.ev, kav, gdA, opI, rawI, vbin, srcOf, avsD, acsD, AV.toD, AC.toD, AV.nw, AC.nw, AC.one, Value.oneCell', fillA, D.one, D.ones, D.sz, D.szs, Nat.reduceAdd, Nat.reduceSub, Nat.reduceLeDiff, Nat.reduceEqDiff, reduceIte, GExpr.acs_eq, GExpr.flat_eq, GExpr.agg_eq, GExpr.el, GPart.acs_eq, GPart.flat_eq, GPart.agg_eq, GPart.el]))))
  exact endRet ⟨2, 0, _, rfl, rfl, rfl, rfl, rfl, rfl, Or.inl rfl⟩
def usesL (x : GPart) : List ByteArray := if x.kind == 2 then sortN (x.expr.free []) else []
theorem usesL_len (x : GPart) (hw : x.expr.toD.wt ≤ 1048576) : (usesL x).length ≤ 1048576 := by
  unfold usesL
  split
  · have := sortN_len (x.expr.free [])
    have := x.expr.free_max []
    omega
  · simp
def ic_uses_spec : IC := (.seq (.reg false [⟨(some 1), none, .box (.t 0)⟩, ⟨(some 2), none, .mov (.k (.slice none 0 0))⟩]) (.seq (.seq (.reg false [⟨(some 3), none, .fad 0 (.t 1)⟩, ⟨(some 4), none, .load 1 false (.t 3)⟩, ⟨(some 5), none, .bin .neq (.t 4) (.k (.int .i64 2))⟩]) (.cond (.t 5) (.seq (.reg false [⟨(some 6), none, .brow true 9 1 0 false []⟩, ⟨(some 2), none, .mov (.t 6)⟩]) .ret) .skip)) (.seq (.reg false [⟨(some 7), none, .fad 2 (.t 1)⟩, ⟨(some 8), none, .load 4 true (.t 7)⟩, ⟨(some 9), none, .call 64 [(.t 8)]⟩, ⟨(some 2), none, .mov (.t 9)⟩]) .ret)))
theorem ic_uses_spec_ok : compC Tryz.prog (Tryz.f47.body.getD .skip) = some ic_uses_spec := by kernel_rfl
theorem usesOf_spec_to (x : GPart) (hw : x.expr.toD.wt ≤ 1048576) : CallsOwn Tryz.prog 47 [x.toD] ((usesL x).map ls) 9 1 := by
  refine calls_own (fn := Tryz.f47) (t := 2) (by kernel_rfl) (by kernel_rfl) (by kernel_rfl) ic_uses_spec_ok ?_
  change AWP _ _ _ (st0 10 _)
  unfold ic_uses_spec
  simp only [undef, st0, stN, D.av, D.avN, sl_agg, leaf_agg, li_agg, ls_agg, sl_acs, leaf_acs, li_acs, ls_acs, GExpr.acs_eq, GExpr.flat_eq, GExpr.agg_eq, GExpr.el, GPart.acs_eq, GPart.flat_eq, GPart.agg_eq, GPart.el, List.map_cons, List.map_nil, List.replicate, List.cons_append, List.nil_append, List.length_cons, List.length_nil, Nat.reduceAdd, Nat.reduceSub]
  cases k : (x.kind == 2) with
  | true =>
    have kn : (x.kind != 2) = false := by simp only [bne, k]; rfl
    have hU : usesL x = sortN (x.expr.free []) := by simp [usesL, k]
    rw [hU]
    repeat (first | (with_reducible refine awp_seq ?_) | (with_reducible refine awp_block ?_) | (with_reducible refine awp_skip ?_) | (with_reducible refine awp_exit ?_) | (with_reducible refine awp_ret ?_) | (with_reducible refine athen ?_) | (with_reducible refine thenExit ?_) | (with_reducible refine thenRet ?_) | (with_reducible refine blockNormal ?_) | (with_reducible refine blockExit ?_) | (with_reducible refine blockRet ?_) | (with_reducible refine roundExit ?_) | (with_reducible refine roundRet ?_) | ((with_reducible refine blockPass ?_ ?_); rfl) | ((with_reducible refine awp_condT ?_ ?_); rfl) | ((with_reducible refine awp_condF ?_ ?_); rfl) | ((with_reducible refine awp_reg ?_); intro K hK; simp only [↓pkS, ↓sw_guard, pkW, pkA, idx_nat, subB, undef, capsOf, ex, St.put, St.ev, kav, gdA, opI, rawI, vbin, srcOf, avsD, acsD, AV.toD, AC.toD, AV.nw, AC.nw, AC.one, Value.oneCell', fillA, D.one, D.ones, D.sz, D.szs, Nat.reduceAdd, Nat.reduceSub, Nat.reduceLeDiff, Nat.reduceEqDiff, reduceIte, GExpr.acs_eq, GExpr.flat_eq, GExpr.agg_eq, GExpr.el, GPart.acs_eq, GPart.flat_eq, GPart.agg_eq, GPart.el, k, kn]; repeat (first | (refine hK _ ?_; clear hK K) | (refine ⟨by (first | omega | (simp; omega)), hK _ ?_⟩; clear hK K) | (refine ⟨by (first | omega | (simp; omega)), by (first | omega | (simp; omega)), hK _ ?_⟩; clear hK K) | ((first | (refine callOwn (freeNames_spec_to x.expr hw) (el_strs _) (by simp [ArgsOk, ArgOk, argsD, argD, AC.toD, Value.oneCell', sl_flat, leaf_flat, li_flat, ls_flat, sl_agg, leaf_agg, li_agg, ls_agg, GExpr.acs_eq, GExpr.flat_eq, GExpr.agg_eq, GExpr.el, GPart.acs_eq, GPart.flat_eq, GPart.agg_eq, GPart.el, k, kn]) ?_)); simp only [↓pkS, ↓sw_guard, pkW, pkA, idx_nat, subB, undef, capsOf, ex, St.put, St.ev, kav, gdA, opI, rawI, vbin, srcOf, avsD, acsD, AV.toD, AC.toD, AV.nw, AC.nw, AC.one, Value.oneCell', fillA, D.one, D.ones, D.sz, D.szs, Nat.reduceAdd, Nat.reduceSub, Nat.reduceLeDiff, Nat.reduceEqDiff, reduceIte, GExpr.acs_eq, GExpr.flat_eq, GExpr.agg_eq, GExpr.el, GPart.acs_eq, GPart.flat_eq, GPart.agg_eq, GPart.el, k, kn]))))
    exact endRet ⟨0, 0, _, rfl, rfl, rfl, rfl, rfl, rfl, Or.inl rfl⟩
  | false =>
    have kn : (x.kind != 2) = true := by simp only [bne, k]; rfl
    have hU : usesL x = [] := by simp [usesL, k]
    rw [hU]
    repeat (first | (with_reducible refine awp_seq ?_) | (with_reducible refine awp_block ?_) | (with_reducible refine awp_skip ?_) | (with_reducible refine awp_exit ?_) | (with_reducible refine awp_ret ?_) | (with_reducible refine athen ?_) | (with_reducible refine thenExit ?_) | (with_reducible refine thenRet ?_) | (with_reducible refine blockNormal ?_) | (with_reducible refine blockExit ?_) | (with_reducible refine blockRet ?_) | (with_reducible refine roundExit ?_) | (with_reducible refine roundRet ?_) | ((with_reducible refine blockPass ?_ ?_); rfl) | ((with_reducible refine awp_condT ?_ ?_); rfl) | ((with_reducible refine awp_condF ?_ ?_); rfl) | ((with_reducible refine awp_reg ?_); intro K hK; simp only [↓pkS, ↓sw_guard, pkW, pkA, idx_nat, subB, undef, capsOf, ex, St.put, St.ev, kav, gdA, opI, rawI, vbin, srcOf, avsD, acsD, AV.toD, AC.toD, AV.nw, AC.nw, AC.one, Value.oneCell', fillA, D.one, D.ones, D.sz, D.szs, Nat.reduceAdd, Nat.reduceSub, Nat.reduceLeDiff, Nat.reduceEqDiff, reduceIte, GExpr.acs_eq, GExpr.flat_eq, GExpr.agg_eq, GExpr.el, GPart.acs_eq, GPart.flat_eq, GPart.agg_eq, GPart.el, k, kn]; repeat (first | (refine hK _ ?_; clear hK K) | (refine ⟨by (first | omega | (simp; omega)), hK _ ?_⟩; clear hK K) | (refine ⟨by (first | omega | (simp; omega)), by (first | omega | (simp; omega)), hK _ ?_⟩; clear hK K) | ((first | (refine callOwn (freeNames_spec_to x.expr hw) (el_strs _) (by simp [ArgsOk, ArgOk, argsD, argD, AC.toD, Value.oneCell', sl_flat, leaf_flat, li_flat, ls_flat, sl_agg, leaf_agg, li_agg, ls_agg, GExpr.acs_eq, GExpr.flat_eq, GExpr.agg_eq, GExpr.el, GPart.acs_eq, GPart.flat_eq, GPart.agg_eq, GPart.el, k, kn]) ?_)); simp only [↓pkS, ↓sw_guard, pkW, pkA, idx_nat, subB, undef, capsOf, ex, St.put, St.ev, kav, gdA, opI, rawI, vbin, srcOf, avsD, acsD, AV.toD, AC.toD, AV.nw, AC.nw, AC.one, Value.oneCell', fillA, D.one, D.ones, D.sz, D.szs, Nat.reduceAdd, Nat.reduceSub, Nat.reduceLeDiff, Nat.reduceEqDiff, reduceIte, GExpr.acs_eq, GExpr.flat_eq, GExpr.agg_eq, GExpr.el, GPart.acs_eq, GPart.flat_eq, GPart.agg_eq, GPart.el, k, kn]))))
    exact endRet ⟨0, 0, _, rfl, rfl, rfl, rfl, rfl, rfl, Or.inl rfl⟩
end Go.Proofs.YtnfamcepojpkjaaGreat

namespace Go.Proofs.YtnfamcepojpkjaaGreat
open Go.RowKit
set_option linter.unusedSimpArgs false
set_option linter.unusedVariables false
theorem idxFromS_neg : ∀ (l : List ByteArray) (s : ByteArray) (k : Nat), (decide (idxFromS l s k < 0)) = !hasS l s
  | [], s, k => by simp [idxFromS, hasS]
  | x :: l, s, k => by
    rw [idxFromS, hasS]
    by_cases h : x = s
    · rw [if_pos h]; simp [h]
    · rw [if_neg h, idxFromS_neg l s (k + 1)]; simp [h]
theorem idxS_neg (l : List ByteArray) (s : ByteArray) : decide (idxS l s < 0) = !hasS l s := idxFromS_neg l s 0
theorem indexOf_to (l : List ByteArray) (s : ByteArray) : CallsTo Tryz.prog 85 [.sl (l.map ls), ls s] (.c false [.raw (.int .i64 (idxS l s))]) := to_retQ fun w vs hr => by
  obtain ⟨v, u, rfl, h1, h2⟩ := rds2 hr
  obtain ⟨fp, hS⟩ := rd_sl h1
  obtain rfl := rd_leaf h2
  exact indexOf_impl l s fp v w hS
def ic_clos : IC := (.reg false [⟨(some 5), none, .load 1 false (.t 2)⟩, ⟨(some 6), none, .mov (.t 0)⟩, ⟨(some 7), none, .brow false 9 1 1 false [(.t 6)]⟩, ⟨(some 8), none, .app 9 1 (.t 5) (.t 7)⟩, ⟨none, none, .store 1 (.t 2) (.t 8)⟩])
theorem ic_clos_ok : compC Tryz.prog (Tryz.f78.body.getD .skip) = some ic_clos := by kernel_rfl
abbrev unitV : AV := .c false [.raw (.tuple #[])]
abbrev strsO (l : List ByteArray) (v : Nat) : Own := ⟨l.map ls, 9, 1, v, true⟩
theorem clos_s (pb : List AC) (hpb : ∀ n m, pb.all (AC.fits n m) = true) (l : List ByteArray) (s : ByteArray) (bv : AV) (ver : Nat) (ox : List Own) (bx : List (List AC)) (hl : l.length ≤ 4000000) (hb : BxFit (ox.length + 1) (bx.length + 2) bx) :
    CallsS Tryz.prog 78 [.c false [.raw (.string s)], bv, .bptr 1 0] (strsO l ver :: ox) (pb :: [.own 0 ver] :: bx) unitV (strsO (l ++ [s]) (ver + 1) :: ox) (pb :: [.own 0 (ver + 1)] :: bx) := by
  refine calls_s (fn := Tryz.f78) (rs := []) (by kernel_rfl) (by kernel_rfl) (by kernel_rfl) ic_clos_ok (by simp) (by simp) ?_
  unfold ic_clos
  change AWPn _ _ _ _ (stS 9 _ _ _)
  simp only [undef, stS, st0, stN, D.av, D.avN, sl_agg, leaf_agg, li_agg, ls_agg, sl_acs, leaf_acs, li_acs, ls_acs, GExpr.acs_eq, GExpr.flat_eq, GExpr.agg_eq, GExpr.el, GPart.acs_eq, GPart.flat_eq, GPart.agg_eq, GPart.el, List.map_cons, List.map_nil, List.replicate, List.cons_append, List.nil_append, List.length_cons, List.length_nil, Nat.reduceAdd, Nat.reduceSub]
  repeat' (first | (with_reducible first | refine awp_seq ?_ | refine awp_block ?_ | refine awp_skip ?_ | refine awp_exit ?_ | refine awp_ret ?_ | refine athen ?_ | refine thenExit ?_ | refine thenRet ?_ | refine blockNormal ?_ | refine blockExit ?_ | refine blockRet ?_ | refine roundExit ?_ | refine roundRet ?_ | refine roundExitR ?_ | refine roundRetR ?_) | ((with_reducible refine blockPass ?_ ?_); rfl) | ((with_reducible refine awp_condT ?_ ?_); rfl) | ((with_reducible refine awp_condF ?_ ?_); rfl) | (with_reducible (refine awp_condS rfl ?_ ?_); all_goals (intro hb; have hb' := hb; (try simp only [pkC] at hb'); first | (exfalso; omega) | skip)) | ((with_reducible refine awp_reg ?_); intro K hK) | ((first | ((with_reducible refine awp_regD false ?_ ?_); rfl) | ((with_reducible refine awp_regD true ?_ ?_); rfl)); intro K hK) | ((with_reducible refine sw_guardT ?_ ?_); rfl) | ((with_reducible refine sw_guardF ?_ ?_); rfl) | (with_reducible (refine sw_guardS rfl ?_ ?_); all_goals (intro hb; have hb' := hb; (try simp only [pkC] at hb'); first | (exfalso; omega) | skip)) | ((with_reducible refine sd_guardT ?_ ?_); rfl) | ((with_reducible refine sd_guardF ?_ ?_); rfl) | (with_reducible (refine sd_guardS rfl ?_ ?_); all_goals (intro hb; have hb' := hb; (try simp only [pkC] at hb'); first | (exfalso; omega) | skip)) | ((with_reducible refine hK _ ?_); clear hK K) | (with_reducible refine and_split ?_ ?_) | ((with_reducible refine sw_id ?_); simp (disch := first | decide | omega) only [↓pkS, pkW, pkA, undef, capsOf, ex, St.put, St.ev, kav, gdA, opI, rawI, vbin, srcOf, avsD, acsD, AV.toD, AC.toD, AV.nw, AC.nw, AC.one, Value.oneCell', fillA, D.one, D.ones, D.sz, D.szs, Nat.reduceAdd, Nat.reduceSub, Nat.reduceLeDiff, Nat.reduceEqDiff, reduceIte, pkN, GExpr.acs_eq, GExpr.flat_eq, GExpr.agg_eq, GExpr.el, GPart.acs_eq, GPart.flat_eq, GPart.agg_eq, GPart.el, tail_get, tail_get0, tail_set, tail_set0, List.append_assoc, Nat.add_assoc, Nat.reduceAdd, List.length_append]) | ((with_reducible refine sd_id ?_); simp (disch := first | decide | omega) only [↓pkR, pkD, pkA, undef, capsOf, ex, St.put, St.ev, kav, gdA, opI, rawI, vbin, srcOf, avsD, acsD, AV.toD, AC.toD, AV.nw, AC.nw, AC.one, Value.oneCell', fillA, D.one, D.ones, D.sz, D.szs, Nat.reduceAdd, Nat.reduceSub, Nat.reduceLeDiff, Nat.reduceEqDiff, reduceIte, pkN, GExpr.acs_eq, GExpr.flat_eq, GExpr.agg_eq, GExpr.el, GPart.acs_eq, GPart.flat_eq, GPart.agg_eq, GPart.el, tail_get, tail_get0, tail_set, tail_set0, List.append_assoc, Nat.add_assoc, Nat.reduceAdd, List.length_append]) | (first | (with_reducible rfl) | (with_reducible refine fnok_id ?_; kernel_rfl) | exact el_strs _ | exact el_ints _ | exact el_ln _ | exact el_tk _ _ | exact el_td _ _ _ | omega | (simp; done) | (simp; omega)) | ((with_reducible refine args_id ?_); simp [ArgsOk, ArgOk, argsD, argD, AC.toD, Value.oneCell', sl_flat, leaf_flat, li_flat, ls_flat, sl_agg, leaf_agg, li_agg, ls_agg, mo_t, mo_f, GExpr.acs_eq, GExpr.flat_eq, GExpr.agg_eq, GExpr.el, GPart.acs_eq, GPart.flat_eq, GPart.agg_eq, GPart.el, tail_get, tail_get0, tail_set, tail_set0, List.append_assoc, Nat.add_assoc, Nat.reduceAdd, List.length_append]; done))
  refine ⟨?_, ?_, ?_, rfl⟩
  · simp [OwnLe, ownLe_refl, strsO, ls]
  · exact ⟨rfl, rfl, boxLe_refl bx⟩
  · simp only [BxFit] at hb
    simp only [List.all_cons, hpb, Bool.true_and]
    simp [AC.fits, hb]
end Go.Proofs.YtnfamcepojpkjaaGreat

namespace Go.Proofs.YtnfamcepojpkjaaGreat
open Go.RowKit
set_option linter.unusedSimpArgs false
set_option linter.unusedVariables false
def ic_visit : IC := (.seq (.reg false [⟨(some 4), none, .box (.t 1)⟩]) (.seq (.seq (.reg false [⟨(some 10), none, .fad 0 (.t 4)⟩, ⟨(some 11), none, .load 1 false (.t 10)⟩, ⟨(some 12), none, .bin .eql (.t 11) (.k (.int .i64 3))⟩, ⟨(some 13), none, .mov (.t 12)⟩, ⟨(some 14), (some (13, true)), .mov (.t 2)⟩, ⟨(some 15), (some (13, true)), .fad 2 (.t 4)⟩, ⟨(some 16), (some (13, true)), .load 1 false (.t 15)⟩, ⟨(some 17), (some (13, true)), .call 85 [(.t 14), (.t 16)]⟩, ⟨(some 18), (some (13, true)), .bin .lss (.t 17) (.k (.int .i64 0))⟩, ⟨(some 19), none, .pick (.t 13) (.t 18) (.k (.bool false))⟩]) (.cond (.t 19) (.seq (.reg false [⟨(some 20), none, .mov (.t 0)⟩, ⟨(some 21), none, .nck (.t 20)⟩, ⟨(some 22), none, .fad 0 (.t 21)⟩, ⟨(some 23), none, .load 1 false (.t 22)⟩, ⟨(some 24), none, .fnil true (.t 23)⟩]) (.cond (.t 24) (.seq (.reg true [⟨(some 25), none, .mov (.t 0)⟩, ⟨(some 26), none, .nck (.t 25)⟩, ⟨(some 27), none, .fad 0 (.t 26)⟩, ⟨(some 28), none, .load 1 false (.t 27)⟩, ⟨(some 29), none, .fad 2 (.t 4)⟩, ⟨(some 30), none, .load 1 false (.t 29)⟩, ⟨(some 31), none, .mov (.t 2)⟩, ⟨(some 32), none, .callv (.t 28) [(.t 30), (.t 31)]⟩]) .ret) .skip)) .skip)) (.seq (.reg false [⟨(some 33), none, .fad 0 (.t 4)⟩, ⟨(some 34), none, .load 1 false (.t 33)⟩, ⟨(some 35), none, .bin .eql (.t 34) (.k (.int .i64 7))⟩, ⟨(some 36), none, .mov (.t 35)⟩, ⟨(some 37), (some (36, false)), .fad 0 (.t 4)⟩, ⟨(some 38), (some (36, false)), .load 1 false (.t 37)⟩, ⟨(some 39), (some (36, false)), .bin .eql (.t 38) (.k (.int .i64 9))⟩, ⟨(some 40), none, .pick (.t 36) (.k (.bool true)) (.t 39)⟩, ⟨(some 6), none, .mov (.t 40)⟩]) (.seq (.seq (.reg false [⟨(some 41), none, .mov (.t 6)⟩, ⟨(some 42), none, .mov (.t 41)⟩, ⟨(some 43), (some (42, true)), .mov (.t 0)⟩, ⟨(some 44), (some (42, true)), .nck (.t 43)⟩, ⟨(some 45), (some (42, true)), .fad 1 (.t 44)⟩, ⟨(some 46), (some (42, true)), .load 1 false (.t 45)⟩, ⟨(some 47), (some (42, true)), .fnil true (.t 46)⟩, ⟨(some 48), none, .pick (.t 42) (.t 47) (.k (.bool false))⟩]) (.cond (.t 48) (.reg true [⟨(some 49), none, .mov (.t 0)⟩, ⟨(some 50), none, .nck (.t 49)⟩, ⟨(some 51), none, .fad 1 (.t 50)⟩, ⟨(some 52), none, .load 1 false (.t 51)⟩, ⟨(some 53), none, .fad 2 (.t 4)⟩, ⟨(some 54), none, .load 1 false (.t 53)⟩, ⟨(some 55), none, .callv (.t 52) [(.t 54)]⟩]) .skip)) (.seq (.reg false [⟨(some 56), none, .fad 3 (.t 4)⟩, ⟨(some 57), none, .load 1 false (.t 56)⟩, ⟨(some 58), none, .len false (.t 57)⟩, ⟨(some 59), none, .mov (.k (.int .i64 0))⟩]) (.block 0 (.loop (.seq (.reg false [⟨(some 60), none, .bin .lss (.t 59) (.t 58)⟩]) (.seq (.cond (.t 60) .skip (.exit 0)) (.seq (.block 1 (.seq (.reg false [⟨(some 61), none, .mov (.t 59)⟩, ⟨(some 62), none, .iad 4 (.t 57) (.t 59)⟩, ⟨(some 63), none, .load 4 true (.t 62)⟩, ⟨(some 8), none, .alloc [(.int .i64 0), (.int .i64 0), (.string ⟨#[]⟩), (.slice none 0 0)]⟩, ⟨(some 7), none, .mov (.t 61)⟩, ⟨none, none, .store 4 (.t 8) (.t 63)⟩]) (.seq (.reg false [⟨(some 64), none, .mov (.t 2)⟩, ⟨(some 9), none, .mov (.t 64)⟩]) (.seq (.seq (.reg false [⟨(some 65), none, .mov (.t 6)⟩, ⟨(some 66), none, .mov (.t 65)⟩, ⟨(some 67), (some (66, true)), .mov (.t 7)⟩, ⟨(some 68), (some (66, true)), .bin .gtr (.t 67) (.k (.int .i64 0))⟩, ⟨(some 69), none, .pick (.t 66) (.t 68) (.k (.bool false))⟩]) (.cond (.t 69) (.reg true [⟨(some 70), none, .brow true 9 1 0 false []⟩, ⟨(some 71), none, .mov (.t 2)⟩, ⟨(some 72), none, .app 9 1 (.t 70) (.t 71)⟩, ⟨(some 73), none, .fad 2 (.t 4)⟩, ⟨(some 74), none, .load 1 false (.t 73)⟩, ⟨(some 75), none, .brow false 9 1 1 false [(.t 74)]⟩, ⟨(some 76), none, .app 9 1 (.t 72) (.t 75)⟩, ⟨(some 9), none, .mov (.t 76)⟩]) .skip)) (.reg false [⟨(some 77), none, .mov (.t 0)⟩, ⟨(some 78), none, .load 4 true (.t 8)⟩, ⟨(some 79), none, .mov (.t 9)⟩, ⟨(some 80), none, .call 79 [(.t 77), (.t 78), (.t 79)]⟩]))))) (.reg false [⟨(some 81), none, .bin .add (.t 59) (.k (.int .i64 1))⟩, ⟨(some 59), none, .mov (.t 81)⟩])))))))))))
theorem ic_visit_ok : compC Tryz.prog (Tryz.f79.body.getD .skip) = some ic_visit := by kernel_rfl
/-- The bound names, as a list that is read or as a slice of the caller's own. -/
def BV (ox : List Own) (b : List ByteArray) (bv : AV) : Prop := (∃ nb, bv = .c false [.sl nb (b.map ls)]) ∨ ∃ k i o, bv = .c false [.own (k + 1) i] ∧ ox[k]? = some o ∧ o.ver = i ∧ o.l = b.map ls
abbrev boxV (pb : List AC) (v : Nat) (bx : List (List AC)) : List (List AC) := pb :: [.own 0 v] :: [.cl 78 [1], .raw .nilFunc] :: bx
def VSaid (pb : List AC) (x : GExpr) : Prop := ∀ (b l : List ByteArray) (bv : AV) (ver : Nat) (ox : List Own) (bx : List (List AC)), BV ox b bv → l.length + x.toD.wt ≤ 2000000 → b.length + x.toD.wt ≤ 2000000 → BxFit (ox.length + 1) (bx.length + 3) bx →
  CallsS Tryz.prog 79 [.bptr 2 0, x.toD.av, bv] (strsO l ver :: ox) (boxV pb ver bx) unitV (strsO (l ++ x.free b) (ver + (x.free b).length) :: ox) (boxV pb (ver + (x.free b).length) bx)

theorem bv_sl {ox : List Own} {b : List ByteArray} {nb : Bool} : BV ox b (.c false [.sl nb (b.map ls)]) := Or.inl ⟨_, rfl⟩
theorem bv_own {ox : List Own} {b : List ByteArray} {k i : Nat} {o : Own} (h : ox[k]? = some o) (h1 : o.ver = i) (h2 : o.l = b.map ls) : BV ox b (.c false [.own (k + 1) i]) := Or.inr ⟨k, i, o, rfl, h, h1, h2⟩
theorem bv_last {ox : List Own} {b : List ByteArray} {i : Nat} {o : Own} (h1 : o.ver = i) (h2 : o.l = b.map ls) : BV (ox ++ [o]) b (.c false [.own (ox.length + 1) i]) := Or.inr ⟨ox.length, i, o, rfl, by simp, h1, h2⟩
theorem wts_take_get : ∀ (l : List D) (i : Nat) (h : i < l.length), D.wts (l.take i) + (l[i]).wt ≤ D.wts l
  | d :: l, 0, h => by simp [D.wts]
  | d :: l, i + 1, h => by
    have := wts_take_get l i (by simpa using h)
    simp only [List.take_succ_cons, D.wts, List.getElem_cons_succ]
    omega
theorem frees_room (x : GExpr) (b : List ByteArray) {q : Nat} (h : q < x.args.length) : (GExpr.frees (x.args.take q) b (x.inner b)).length + x.args[q].toD.wt ≤ x.toD.wt := by
  have h1 := GExpr.frees_len (x.args.take q) b (x.inner b)
  have h2 := wts_take_get (x.args.map GExpr.toD) q (by simpa using h)
  have h3 := x.wt_e
  rw [← List.map_take, List.getElem_map] at h2
  have h4 : (x.args.take q).length ≤ x.args.length := by rw [List.length_take]; omega
  omega
theorem bxfit_app {n m : Nat} {bx cx : List (List AC)} (h : BxFit n m bx) (h2 : BxFit n m cx) : BxFit n m (bx ++ cx) := by
  simp only [BxFit, List.all_append, Bool.and_eq_true] at h h2 ⊢
  exact ⟨h, h2⟩
theorem fitV {pb : List AC} (hpb : ∀ n m, pb.all (AC.fits n m) = true) {n m m' v : Nat} {bx cx : List (List AC)} (h : BxFit n m' bx) (hn : 0 < n) (hm : m' ≤ m) (hm0 : 1 < m') (hc : BxFit n m cx) : BxFit n m (boxV pb v (bx ++ cx)) :=
  bxfit_app (bx := [_, _, _]) (by simp only [BxFit, List.all_cons, hpb]; simp [AC.fits]; exact ⟨hn, Nat.lt_of_lt_of_le hm0 hm⟩) (bxfit_app (h.mono (Nat.le_refl _) hm) hc)
set_option maxHeartbeats 16000000 in
theorem visit_of (pb : List AC) (hpb : ∀ n m, pb.all (AC.fits n m) = true) (x : GExpr) (hI : ∀ y ∈ x.args, VSaid pb y) : VSaid pb x := by
  intro b l bv ver ox bx hbv hwl hwb hfit
  have hwe := x.wt_e
  refine calls_s (fn := Tryz.f79) (rs := []) (by kernel_rfl) (by kernel_rfl) (by kernel_rfl) ic_visit_ok (by simp) (by simp) ?_
  unfold ic_visit
  change AWPn _ _ _ _ (stS 82 _ _ _)
  have hneg := idxS_neg b x.text
  have hfree0 := x.free_eq b
  rcases hbv with ⟨nb, rfl⟩ | ⟨k, i, o, rfl, hk, hki, hkl⟩
  · simp only [undef, stS, st0, stN, D.av, D.avN, sl_agg, leaf_agg, li_agg, ls_agg, sl_acs, leaf_acs, li_acs, ls_acs, GExpr.acs_eq, GExpr.flat_eq, GExpr.agg_eq, GExpr.el, GPart.acs_eq, GPart.flat_eq, GPart.agg_eq, GPart.el, List.map_cons, List.map_nil, List.replicate, List.cons_append, List.nil_append, List.length_cons, List.length_nil, Nat.reduceAdd, Nat.reduceSub]
    repeat' (first | (with_reducible first | refine awp_seq ?_ | refine awp_block ?_ | refine awp_skip ?_ | refine awp_exit ?_ | refine awp_ret ?_ | refine athen ?_ | refine thenExit ?_ | refine thenRet ?_ | refine blockNormal ?_ | refine blockExit ?_ | refine blockRet ?_ | refine roundExit ?_ | refine roundRet ?_ | refine roundExitR ?_ | refine roundRetR ?_) | ((with_reducible refine blockPass ?_ ?_); rfl) | ((with_reducible refine awp_condT ?_ ?_); rfl) | ((with_reducible refine awp_condF ?_ ?_); rfl) | (with_reducible (refine awp_condS rfl ?_ ?_); all_goals (intro hb; have hb' := hb; (try simp only [pkC] at hb'); first | (exfalso; omega) | skip)) | ((with_reducible refine awp_reg ?_); intro K hK) | ((first | ((with_reducible refine awp_regD false ?_ ?_); rfl) | ((with_reducible refine awp_regD true ?_ ?_); rfl)); intro K hK) | ((with_reducible refine sw_guardT ?_ ?_); rfl) | ((with_reducible refine sw_guardF ?_ ?_); rfl) | (with_reducible (refine sw_guardS rfl ?_ ?_); all_goals (intro hb; have hb' := hb; (try simp only [pkC] at hb'); first | (exfalso; omega) | skip)) | ((with_reducible refine sd_guardT ?_ ?_); rfl) | ((with_reducible refine sd_guardF ?_ ?_); rfl) | (with_reducible (refine sd_guardS rfl ?_ ?_); all_goals (intro hb; have hb' := hb; (try simp only [pkC] at hb'); first | (exfalso; omega) | skip)) | ((with_reducible refine hK _ ?_); clear hK K) | (with_reducible refine and_split ?_ ?_) | ((with_reducible refine ct_id ?_); first | (refine callThen (indexOf_to b x.text) trivial ?_ ?_)) | ((with_reducible refine ctd_id ?_); first | (refine callThenD (indexOf_to b x.text) trivial ?_ ?_)) | ((with_reducible refine cv_id ?_); first | (refine callV ?_ (clos_s pb hpb l x.text _ ver ox _ ?_ ?_) ?_)) | ((with_reducible refine cvd_id ?_); first | (refine callVD ?_ (clos_s pb hpb l x.text _ ver ox _ ?_ ?_) ?_)) | ((with_reducible refine sw_id ?_); simp (disch := first | decide | omega) only [↓pkS, pkW, pkA, undef, capsOf, ex, St.put, St.ev, kav, gdA, opI, rawI, vbin, srcOf, avsD, acsD, AV.toD, AC.toD, AV.nw, AC.nw, AC.one, Value.oneCell', fillA, D.one, D.ones, D.sz, D.szs, Nat.reduceAdd, Nat.reduceSub, Nat.reduceLeDiff, Nat.reduceEqDiff, reduceIte, pkN, GExpr.acs_eq, GExpr.flat_eq, GExpr.agg_eq, GExpr.el, GPart.acs_eq, GPart.flat_eq, GPart.agg_eq, GPart.el, tail_get, tail_get0, tail_set, tail_set0, List.append_assoc, Nat.add_assoc, Nat.reduceAdd, List.length_append, hneg]) | ((with_reducible refine sd_id ?_); simp (disch := first | decide | omega) only [↓pkR, pkD, pkA, undef, capsOf, ex, St.put, St.ev, kav, gdA, opI, rawI, vbin, srcOf, avsD, acsD, AV.toD, AC.toD, AV.nw, AC.nw, AC.one, Value.oneCell', fillA, D.one, D.ones, D.sz, D.szs, Nat.reduceAdd, Nat.reduceSub, Nat.reduceLeDiff, Nat.reduceEqDiff, reduceIte, pkN, GExpr.acs_eq, GExpr.flat_eq, GExpr.agg_eq, GExpr.el, GPart.acs_eq, GPart.flat_eq, GPart.agg_eq, GPart.el, tail_get, tail_get0, tail_set, tail_set0, List.append_assoc, Nat.add_assoc, Nat.reduceAdd, List.length_append, hneg]) | (first | (with_reducible rfl) | (with_reducible refine fnok_id ?_; kernel_rfl) | exact el_strs _ | exact el_ints _ | exact el_ln _ | exact el_tk _ _ | exact el_td _ _ _ | omega | (simp; done) | (simp; omega)) | ((with_reducible refine args_id ?_); simp [ArgsOk, ArgOk, argsD, argD, AC.toD, Value.oneCell', sl_flat, leaf_flat, li_flat, ls_flat, sl_agg, leaf_agg, li_agg, ls_agg, mo_t, mo_f, GExpr.acs_eq, GExpr.flat_eq, GExpr.agg_eq, GExpr.el, GPart.acs_eq, GPart.flat_eq, GPart.agg_eq, GPart.el, tail_get, tail_get0, tail_set, tail_set0, List.append_assoc, Nat.add_assoc, Nat.reduceAdd, List.length_append, hneg]; done))
    · with_reducible refine bxf_id ?_
      refine bxfit_app (bx := [_]) (by simp [BxFit, AC.fits]) (bxfit_app (hfit.mono (by omega) (by simp)) (by simp [BxFit, AC.fits]))
    · have hfr : x.free b = [x.text] := by rw [hfree0]; simp [*]
      rw [hfr]
      refine endRet ⟨⟨⟨rfl, rfl, rfl, rfl, rfl⟩, ownLe_refl _⟩, ⟨rfl, rfl, rfl, boxLe_pre _ _⟩, ?_, rfl⟩
      refine bxfit_app (bx := [_, _, _]) (by simp only [BxFit, List.all_cons, hpb]; simp [AC.fits]) (hfit.mono (by simp) (by simp))
    all_goals
        (have hfr : x.free b = GExpr.frees x.args b (x.inner b) := by rw [hfree0]; simp [*]
         rw [hfr]
         refine awp_loopBN (X := Nat) (fun q => [.k, .d, .k, .d, .k, .d, .k, .d, .d, .d, .d, .d, .d, .d, .d, .d, .d, .d, .d, .d, .d, .d, .d, .d, .d, .d, .d, .d, .d, .d, .d, .d, .d, .d, .d, .d, .d, .d, .d, .d, .d, .d, .d, .d, .d, .d, .d, .d, .d, .d, .d, .d, .d, .d, .d, .d, .d, .k, .k, .v (.c false [.raw (.int .i64 (q : Nat))]), .d, .d, .d, .d, .d, .d, .d, .d, .d, .d, .d, .d, .d, .d, .d, .d, .d, .d, .d, .d, .d, .d]) (fun q => strsO (l ++ GExpr.frees (x.args.take q) b (x.inner b)) (ver + (GExpr.frees (x.args.take q) b (x.inner b)).length) :: ox)
           (fun q bs => boxV pb (ver + (GExpr.frees (x.args.take q) b (x.inner b)).length) (bx ++ [[AC.raw (Value.int IntKind.i64 x.kind), AC.raw (Value.int IntKind.i64 x.n), AC.raw (Value.string x.text), AC.sl false (List.map GExpr.toD x.args)]])) (fun q => q ≤ x.args.length) (fun q => x.args.length - q) 0 (Nat.zero_le _) (by intro q; simp) ?_ ?_
         · refine ⟨?_, ?_, ?_, ?_⟩
           · simp [FrLe, AV.fits, AC.fits, FB, mask]
           · simp [FB, OwnLe, ownLe_refl, frees_nil, strsO]
           · simp [FB, BoxLe, boxLe_refl, frees_nil]
           · exact fitV hpb (m' := bx.length + 3) hfit (by simp [FB]) (by simp [FB]) (by simp) (by simp [BxFit, AC.fits, FB])
         intro q hq
         have hq' : q ≤ x.args.length := hq
         clear hq
         simp only [FB, mask]
         by_cases hlt : q < x.args.length
         · have hmem := List.getElem_mem hlt
           have hV := hI x.args[q] hmem
           have hwm := wt_mem hmem
           have hft := frees_take x.args b (x.inner b) hlt
           have hfl := frees_take_len x.args b (x.inner b) q
           have hil := inner_len x b
           have hroom := frees_room x b hlt
           simp only [VSaid, D.av, GExpr.agg_eq, GExpr.acs_eq] at hV
           repeat' (first | (with_reducible first | refine awp_seq ?_ | refine awp_block ?_ | refine awp_skip ?_ | refine awp_exit ?_ | refine awp_ret ?_ | refine athen ?_ | refine thenExit ?_ | refine thenRet ?_ | refine blockNormal ?_ | refine blockExit ?_ | refine blockRet ?_ | refine roundExit ?_ | refine roundRet ?_ | refine roundExitR ?_ | refine roundRetR ?_) | ((with_reducible refine blockPass ?_ ?_); rfl) | ((with_reducible refine awp_condT ?_ ?_); rfl) | ((with_reducible refine awp_condF ?_ ?_); rfl) | (with_reducible (refine awp_condS rfl ?_ ?_); all_goals (intro hb; have hb' := hb; (try simp only [pkC] at hb'); first | (exfalso; omega) | skip)) | ((with_reducible refine awp_reg ?_); intro K hK) | ((first | ((with_reducible refine awp_regD false ?_ ?_); rfl) | ((with_reducible refine awp_regD true ?_ ?_); rfl)); intro K hK) | ((with_reducible refine sw_guardT ?_ ?_); rfl) | ((with_reducible refine sw_guardF ?_ ?_); rfl) | (with_reducible (refine sw_guardS rfl ?_ ?_); all_goals (intro hb; have hb' := hb; (try simp only [pkC] at hb'); first | (exfalso; omega) | skip)) | ((with_reducible refine sd_guardT ?_ ?_); rfl) | ((with_reducible refine sd_guardF ?_ ?_); rfl) | (with_reducible (refine sd_guardS rfl ?_ ?_); all_goals (intro hb; have hb' := hb; (try simp only [pkC] at hb'); first | (exfalso; omega) | skip)) | ((with_reducible refine hK _ ?_); clear hK K) | (with_reducible refine and_split ?_ ?_) | ((with_reducible refine ct_id ?_); first | (refine callS (hV b _ _ _ _ _ bv_sl ?_ ?_ ?_) ?_) | (refine callS (hV (b ++ [x.text]) _ _ _ _ _ (bv_last rfl (by simp [ls])) ?_ ?_ ?_) ?_)) | ((with_reducible refine sw_id ?_); simp (disch := first | decide | omega) only [↓pkS, pkW, pkA, undef, capsOf, ex, St.put, St.ev, kav, gdA, opI, rawI, vbin, srcOf, avsD, acsD, AV.toD, AC.toD, AV.nw, AC.nw, AC.one, Value.oneCell', fillA, D.one, D.ones, D.sz, D.szs, Nat.reduceAdd, Nat.reduceSub, Nat.reduceLeDiff, Nat.reduceEqDiff, reduceIte, pkN, GExpr.acs_eq, GExpr.flat_eq, GExpr.agg_eq, GExpr.el, GPart.acs_eq, GPart.flat_eq, GPart.agg_eq, GPart.el, tail_get, tail_get0, tail_set, tail_set0, List.append_assoc, Nat.add_assoc, Nat.reduceAdd, List.length_append]) | ((with_reducible refine sd_id ?_); simp (disch := first | decide | omega) only [↓pkR, pkD, pkA, undef, capsOf, ex, St.put, St.ev, kav, gdA, opI, rawI, vbin, srcOf, avsD, acsD, AV.toD, AC.toD, AV.nw, AC.nw, AC.one, Value.oneCell', fillA, D.one, D.ones, D.sz, D.szs, Nat.reduceAdd, Nat.reduceSub, Nat.reduceLeDiff, Nat.reduceEqDiff, reduceIte, pkN, GExpr.acs_eq, GExpr.flat_eq, GExpr.agg_eq, GExpr.el, GPart.acs_eq, GPart.flat_eq, GPart.agg_eq, GPart.el, tail_get, tail_get0, tail_set, tail_set0, List.append_assoc, Nat.add_assoc, Nat.reduceAdd, List.length_append]) | (first | (with_reducible rfl) | (with_reducible refine fnok_id ?_; kernel_rfl) | exact el_strs _ | exact el_ints _ | exact el_ln _ | exact el_tk _ _ | exact el_td _ _ _ | omega | (simp; done) | (simp; omega)) | ((with_reducible refine args_id ?_); simp [ArgsOk, ArgOk, argsD, argD, AC.toD, Value.oneCell', sl_flat, leaf_flat, li_flat, ls_flat, sl_agg, leaf_agg, li_agg, ls_agg, mo_t, mo_f, GExpr.acs_eq, GExpr.flat_eq, GExpr.agg_eq, GExpr.el, GPart.acs_eq, GPart.flat_eq, GPart.agg_eq, GPart.el, tail_get, tail_get0, tail_set, tail_set0, List.append_assoc, Nat.add_assoc, Nat.reduceAdd, List.length_append]; done))
           all_goals first
             | (simp only [List.length_append, List.length_cons, List.length_nil]; omega)
             | (with_reducible refine bxf_id ?_
                first
                  | exact bxfit_app (hfit.mono (by simp) (by simp)) (by simp [BxFit, AC.fits])
                  | exact bxfit_app (hfit.mono (by simp; omega) (by simp; omega)) (by simp [BxFit, AC.fits]))
             | (first
                  | (have hfree : GExpr.frees (x.args.take (q + 1)) b (x.inner b) = GExpr.frees (x.args.take q) b (x.inner b) ++ (x.args[q]).free b := by
                       rw [hft]; by_cases h0 : q = 0 <;> first | (exfalso; omega) | (simp [h0, GExpr.inner, *]; done))
                  | (have hfree : GExpr.frees (x.args.take (q + 1)) b (x.inner b) = GExpr.frees (x.args.take q) b (x.inner b) ++ (x.args[q]).free (b ++ [x.text]) := by
                       rw [hft]; by_cases h0 : q = 0 <;> first | (exfalso; omega) | (simp [h0, GExpr.inner, *]; done))
                have hfl2 := congrArg List.length hfree
                rw [List.length_append] at hfl2
                refine roundB (q + 1) ⟨?_, ?_, ?_, ?_⟩ (show q + 1 ≤ x.args.length by omega) (show x.args.length - (q + 1) < x.args.length - q by omega)
                · simp [FrLe, AV.fits, AC.fits, FB, mask]
                · refine ⟨⟨?_, rfl, rfl, ?_, rfl⟩, ?_⟩
                  · first | (rw [hfree]; done) | (rw [hfree]; simp [strsO])
                  · first | (simp only [strsO]; omega) | (simp only [strsO, hfl2]; omega) | (simp [strsO, hfl2]; omega)
                  · first | exact ownLe_refl _ | exact ownLe_pre _ _
                · refine ⟨rfl, ?_, rfl, boxLe_app _ ⟨rfl, trivial⟩⟩
                  simp only [List.cons.injEq, AC.own.injEq, and_true, true_and]
                  omega
                · exact fitV hpb (m' := bx.length + 3) hfit (by simp [FB]) (by simp [FB]) (by simp) (by simp [BxFit, AC.fits, FB]))
         · obtain rfl : q = x.args.length := by omega
           repeat' (first | (with_reducible first | refine awp_seq ?_ | refine awp_block ?_ | refine awp_skip ?_ | refine awp_exit ?_ | refine awp_ret ?_ | refine athen ?_ | refine thenExit ?_ | refine thenRet ?_ | refine blockNormal ?_ | refine blockExit ?_ | refine blockRet ?_ | refine roundExit ?_ | refine roundRet ?_ | refine roundExitR ?_ | refine roundRetR ?_) | ((with_reducible refine blockPass ?_ ?_); rfl) | ((with_reducible refine awp_condT ?_ ?_); rfl) | ((with_reducible refine awp_condF ?_ ?_); rfl) | (with_reducible (refine awp_condS rfl ?_ ?_); all_goals (intro hb; have hb' := hb; (try simp only [pkC] at hb'); first | (exfalso; omega) | skip)) | ((with_reducible refine awp_reg ?_); intro K hK) | ((first | ((with_reducible refine awp_regD false ?_ ?_); rfl) | ((with_reducible refine awp_regD true ?_ ?_); rfl)); intro K hK) | ((with_reducible refine sw_guardT ?_ ?_); rfl) | ((with_reducible refine sw_guardF ?_ ?_); rfl) | (with_reducible (refine sw_guardS rfl ?_ ?_); all_goals (intro hb; have hb' := hb; (try simp only [pkC] at hb'); first | (exfalso; omega) | skip)) | ((with_reducible refine sd_guardT ?_ ?_); rfl) | ((with_reducible refine sd_guardF ?_ ?_); rfl) | (with_reducible (refine sd_guardS rfl ?_ ?_); all_goals (intro hb; have hb' := hb; (try simp only [pkC] at hb'); first | (exfalso; omega) | skip)) | ((with_reducible refine hK _ ?_); clear hK K) | (with_reducible refine and_split ?_ ?_) | ((with_reducible refine sw_id ?_); simp (disch := first | decide | omega) only [↓pkS, pkW, pkA, undef, capsOf, ex, St.put, St.ev, kav, gdA, opI, rawI, vbin, srcOf, avsD, acsD, AV.toD, AC.toD, AV.nw, AC.nw, AC.one, Value.oneCell', fillA, D.one, D.ones, D.sz, D.szs, Nat.reduceAdd, Nat.reduceSub, Nat.reduceLeDiff, Nat.reduceEqDiff, reduceIte, pkN, GExpr.acs_eq, GExpr.flat_eq, GExpr.agg_eq, GExpr.el, GPart.acs_eq, GPart.flat_eq, GPart.agg_eq, GPart.el, tail_get, tail_get0, tail_set, tail_set0, List.append_assoc, Nat.add_assoc, Nat.reduceAdd, List.length_append]) | ((with_reducible refine sd_id ?_); simp (disch := first | decide | omega) only [↓pkR, pkD, pkA, undef, capsOf, ex, St.put, St.ev, kav, gdA, opI, rawI, vbin, srcOf, avsD, acsD, AV.toD, AC.toD, AV.nw, AC.nw, AC.one, Value.oneCell', fillA, D.one, D.ones, D.sz, D.szs, Nat.reduceAdd, Nat.reduceSub, Nat.reduceLeDiff, Nat.reduceEqDiff, reduceIte, pkN, GExpr.acs_eq, GExpr.flat_eq, GExpr.agg_eq, GExpr.el, GPart.acs_eq, GPart.flat_eq, GPart.agg_eq, GPart.el, tail_get, tail_get0, tail_set, tail_set0, List.append_assoc, Nat.add_assoc, Nat.reduceAdd, List.length_append]) | (first | (with_reducible rfl) | (with_reducible refine fnok_id ?_; kernel_rfl) | exact el_strs _ | exact el_ints _ | exact el_ln _ | exact el_tk _ _ | exact el_td _ _ _ | omega | (simp; done) | (simp; omega)) | ((with_reducible refine args_id ?_); simp [ArgsOk, ArgOk, argsD, argD, AC.toD, Value.oneCell', sl_flat, leaf_flat, li_flat, ls_flat, sl_agg, leaf_agg, li_agg, ls_agg, mo_t, mo_f, GExpr.acs_eq, GExpr.flat_eq, GExpr.agg_eq, GExpr.el, GPart.acs_eq, GPart.flat_eq, GPart.agg_eq, GPart.el, tail_get, tail_get0, tail_set, tail_set0, List.append_assoc, Nat.add_assoc, Nat.reduceAdd, List.length_append]; done))
           simp only [List.take_length]
           exact endNormal ⟨⟨⟨rfl, rfl, rfl, rfl, rfl⟩, ownLe_refl _⟩, ⟨rfl, rfl, rfl, boxLe_pre _ _⟩, bxfit_app (bx := [_, _, _]) (by simp only [BxFit, List.all_cons, hpb]; simp [AC.fits]) (hfit.mono (by simp) (by simp)), rfl⟩)
  · obtain rfl := hki
    have hkn : k < ox.length := (List.getElem?_eq_some_iff.1 hk).1
    have hka : ∀ ys : List Own, (ox ++ ys)[k]? = some o := fun ys => by rw [List.getElem?_append_left hkn]; exact hk
    simp only [undef, stS, st0, stN, D.av, D.avN, sl_agg, leaf_agg, li_agg, ls_agg, sl_acs, leaf_acs, li_acs, ls_acs, GExpr.acs_eq, GExpr.flat_eq, GExpr.agg_eq, GExpr.el, GPart.acs_eq, GPart.flat_eq, GPart.agg_eq, GPart.el, List.map_cons, List.map_nil, List.replicate, List.cons_append, List.nil_append, List.length_cons, List.length_nil, Nat.reduceAdd, Nat.reduceSub]
    repeat' (first | (with_reducible first | refine awp_seq ?_ | refine awp_block ?_ | refine awp_skip ?_ | refine awp_exit ?_ | refine awp_ret ?_ | refine athen ?_ | refine thenExit ?_ | refine thenRet ?_ | refine blockNormal ?_ | refine blockExit ?_ | refine blockRet ?_ | refine roundExit ?_ | refine roundRet ?_ | refine roundExitR ?_ | refine roundRetR ?_) | ((with_reducible refine blockPass ?_ ?_); rfl) | ((with_reducible refine awp_condT ?_ ?_); rfl) | ((with_reducible refine awp_condF ?_ ?_); rfl) | (with_reducible (refine awp_condS rfl ?_ ?_); all_goals (intro hb; have hb' := hb; (try simp only [pkC] at hb'); first | (exfalso; omega) | skip)) | ((with_reducible refine awp_reg ?_); intro K hK) | ((first | ((with_reducible refine awp_regD false ?_ ?_); rfl) | ((with_reducible refine awp_regD true ?_ ?_); rfl)); intro K hK) | ((with_reducible refine sw_guardT ?_ ?_); rfl) | ((with_reducible refine sw_guardF ?_ ?_); rfl) | (with_reducible (refine sw_guardS rfl ?_ ?_); all_goals (intro hb; have hb' := hb; (try simp only [pkC] at hb'); first | (exfalso; omega) | skip)) | ((with_reducible refine sd_guardT ?_ ?_); rfl) | ((with_reducible refine sd_guardF ?_ ?_); rfl) | (with_reducible (refine sd_guardS rfl ?_ ?_); all_goals (intro hb; have hb' := hb; (try simp only [pkC] at hb'); first | (exfalso; omega) | skip)) | ((with_reducible refine hK _ ?_); clear hK K) | (with_reducible refine and_split ?_ ?_) | ((with_reducible refine ct_id ?_); first | (refine callThen (indexOf_to b x.text) trivial ?_ ?_)) | ((with_reducible refine ctd_id ?_); first | (refine callThenD (indexOf_to b x.text) trivial ?_ ?_)) | ((with_reducible refine cv_id ?_); first | (refine callV ?_ (clos_s pb hpb l x.text _ ver ox _ ?_ ?_) ?_)) | ((with_reducible refine cvd_id ?_); first | (refine callVD ?_ (clos_s pb hpb l x.text _ ver ox _ ?_ ?_) ?_)) | ((with_reducible refine sw_id ?_); simp (disch := first | decide | omega) only [↓pkS, pkW, pkA, undef, capsOf, ex, St.put, St.ev, kav, gdA, opI, rawI, vbin, srcOf, avsD, acsD, AV.toD, AC.toD, AV.nw, AC.nw, AC.one, Value.oneCell', fillA, D.one, D.ones, D.sz, D.szs, Nat.reduceAdd, Nat.reduceSub, Nat.reduceLeDiff, Nat.reduceEqDiff, reduceIte, pkN, GExpr.acs_eq, GExpr.flat_eq, GExpr.agg_eq, GExpr.el, GPart.acs_eq, GPart.flat_eq, GPart.agg_eq, GPart.el, tail_get, tail_get0, tail_set, tail_set0, List.append_assoc, Nat.add_assoc, Nat.reduceAdd, List.length_append, hneg, hk, hka, hkl]) | ((with_reducible refine sd_id ?_); simp (disch := first | decide | omega) only [↓pkR, pkD, pkA, undef, capsOf, ex, St.put, St.ev, kav, gdA, opI, rawI, vbin, srcOf, avsD, acsD, AV.toD, AC.toD, AV.nw, AC.nw, AC.one, Value.oneCell', fillA, D.one, D.ones, D.sz, D.szs, Nat.reduceAdd, Nat.reduceSub, Nat.reduceLeDiff, Nat.reduceEqDiff, reduceIte, pkN, GExpr.acs_eq, GExpr.flat_eq, GExpr.agg_eq, GExpr.el, GPart.acs_eq, GPart.flat_eq, GPart.agg_eq, GPart.el, tail_get, tail_get0, tail_set, tail_set0, List.append_assoc, Nat.add_assoc, Nat.reduceAdd, List.length_append, hneg, hk, hka, hkl]) | (first | (with_reducible rfl) | (with_reducible refine fnok_id ?_; kernel_rfl) | exact el_strs _ | exact el_ints _ | exact el_ln _ | exact el_tk _ _ | exact el_td _ _ _ | omega | (simp; done) | (simp; omega)) | ((with_reducible refine args_id ?_); simp [ArgsOk, ArgOk, argsD, argD, AC.toD, Value.oneCell', sl_flat, leaf_flat, li_flat, ls_flat, sl_agg, leaf_agg, li_agg, ls_agg, mo_t, mo_f, GExpr.acs_eq, GExpr.flat_eq, GExpr.agg_eq, GExpr.el, GPart.acs_eq, GPart.flat_eq, GPart.agg_eq, GPart.el, tail_get, tail_get0, tail_set, tail_set0, List.append_assoc, Nat.add_assoc, Nat.reduceAdd, List.length_append, hneg, hk, hka, hkl]; done))
    · with_reducible refine bxf_id ?_
      refine bxfit_app (bx := [_]) (by simp [BxFit, AC.fits]) (bxfit_app (hfit.mono (by omega) (by simp)) (by simp [BxFit, AC.fits]))
    · have hfr : x.free b = [x.text] := by rw [hfree0]; simp [*]
      rw [hfr]
      refine endRet ⟨⟨⟨rfl, rfl, rfl, rfl, rfl⟩, ownLe_refl _⟩, ⟨rfl, rfl, rfl, boxLe_pre _ _⟩, ?_, rfl⟩
      refine bxfit_app (bx := [_, _, _]) (by simp only [BxFit, List.all_cons, hpb]; simp [AC.fits]) (hfit.mono (by simp) (by simp))
    all_goals
        (have hfr : x.free b = GExpr.frees x.args b (x.inner b) := by rw [hfree0]; simp [*]
         rw [hfr]
         refine awp_loopBN (X := Nat) (fun q => [.k, .d, .k, .d, .k, .d, .k, .d, .d, .d, .d, .d, .d, .d, .d, .d, .d, .d, .d, .d, .d, .d, .d, .d, .d, .d, .d, .d, .d, .d, .d, .d, .d, .d, .d, .d, .d, .d, .d, .d, .d, .d, .d, .d, .d, .d, .d, .d, .d, .d, .d, .d, .d, .d, .d, .d, .d, .k, .k, .v (.c false [.raw (.int .i64 (q : Nat))]), .d, .d, .d, .d, .d, .d, .d, .d, .d, .d, .d, .d, .d, .d, .d, .d, .d, .d, .d, .d, .d, .d]) (fun q => strsO (l ++ GExpr.frees (x.args.take q) b (x.inner b)) (ver + (GExpr.frees (x.args.take q) b (x.inner b)).length) :: ox)
           (fun q bs => boxV pb (ver + (GExpr.frees (x.args.take q) b (x.inner b)).length) (bx ++ [[AC.raw (Value.int IntKind.i64 x.kind), AC.raw (Value.int IntKind.i64 x.n), AC.raw (Value.string x.text), AC.sl false (List.map GExpr.toD x.args)]])) (fun q => q ≤ x.args.length) (fun q => x.args.length - q) 0 (Nat.zero_le _) (by intro q; simp) ?_ ?_
         · refine ⟨?_, ?_, ?_, ?_⟩
           · simp [FrLe, AV.fits, AC.fits, FB, mask, hkn]
           · simp [FB, OwnLe, ownLe_refl, frees_nil, strsO]
           · simp [FB, BoxLe, boxLe_refl, frees_nil]
           · exact fitV hpb (m' := bx.length + 3) hfit (by simp [FB]) (by simp [FB]) (by simp) (by simp [BxFit, AC.fits, FB])
         intro q hq
         have hq' : q ≤ x.args.length := hq
         clear hq
         simp only [FB, mask]
         by_cases hlt : q < x.args.length
         · have hmem := List.getElem_mem hlt
           have hV := hI x.args[q] hmem
           have hwm := wt_mem hmem
           have hft := frees_take x.args b (x.inner b) hlt
           have hfl := frees_take_len x.args b (x.inner b) q
           have hil := inner_len x b
           have hroom := frees_room x b hlt
           simp only [VSaid, D.av, GExpr.agg_eq, GExpr.acs_eq] at hV
           repeat' (first | (with_reducible first | refine awp_seq ?_ | refine awp_block ?_ | refine awp_skip ?_ | refine awp_exit ?_ | refine awp_ret ?_ | refine athen ?_ | refine thenExit ?_ | refine thenRet ?_ | refine blockNormal ?_ | refine blockExit ?_ | refine blockRet ?_ | refine roundExit ?_ | refine roundRet ?_ | refine roundExitR ?_ | refine roundRetR ?_) | ((with_reducible refine blockPass ?_ ?_); rfl) | ((with_reducible refine awp_condT ?_ ?_); rfl) | ((with_reducible refine awp_condF ?_ ?_); rfl) | (with_reducible (refine awp_condS rfl ?_ ?_); all_goals (intro hb; have hb' := hb; (try simp only [pkC] at hb'); first | (exfalso; omega) | skip)) | ((with_reducible refine awp_reg ?_); intro K hK) | ((first | ((with_reducible refine awp_regD false ?_ ?_); rfl) | ((with_reducible refine awp_regD true ?_ ?_); rfl)); intro K hK) | ((with_reducible refine sw_guardT ?_ ?_); rfl) | ((with_reducible refine sw_guardF ?_ ?_); rfl) | (with_reducible (refine sw_guardS rfl ?_ ?_); all_goals (intro hb; have hb' := hb; (try simp only [pkC] at hb'); first | (exfalso; omega) | skip)) | ((with_reducible refine sd_guardT ?_ ?_); rfl) | ((with_reducible refine sd_guardF ?_ ?_); rfl) | (with_reducible (refine sd_guardS rfl ?_ ?_); all_goals (intro hb; have hb' := hb; (try simp only [pkC] at hb'); first | (exfalso; omega) | skip)) | ((with_reducible refine hK _ ?_); clear hK K) | (with_reducible refine and_split ?_ ?_) | ((with_reducible refine ct_id ?_); first | (refine callS (hV b _ _ _ _ _ (bv_own hk rfl hkl) ?_ ?_ ?_) ?_) | (refine callS (hV (b ++ [x.text]) _ _ _ _ _ (bv_last rfl (by simp [ls])) ?_ ?_ ?_) ?_)) | ((with_reducible refine sw_id ?_); simp (disch := first | decide | omega) only [↓pkS, pkW, pkA, undef, capsOf, ex, St.put, St.ev, kav, gdA, opI, rawI, vbin, srcOf, avsD, acsD, AV.toD, AC.toD, AV.nw, AC.nw, AC.one, Value.oneCell', fillA, D.one, D.ones, D.sz, D.szs, Nat.reduceAdd, Nat.reduceSub, Nat.reduceLeDiff, Nat.reduceEqDiff, reduceIte, pkN, GExpr.acs_eq, GExpr.flat_eq, GExpr.agg_eq, GExpr.el, GPart.acs_eq, GPart.flat_eq, GPart.agg_eq, GPart.el, tail_get, tail_get0, tail_set, tail_set0, List.append_assoc, Nat.add_assoc, Nat.reduceAdd, List.length_append, hk, hka, hkl]) | ((with_reducible refine sd_id ?_); simp (disch := first | decide | omega) only [↓pkR, pkD, pkA, undef, capsOf, ex, St.put, St.ev, kav, gdA, opI, rawI, vbin, srcOf, avsD, acsD, AV.toD, AC.toD, AV.nw, AC.nw, AC.one, Value.oneCell', fillA, D.one, D.ones, D.sz, D.szs, Nat.reduceAdd, Nat.reduceSub, Nat.reduceLeDiff, Nat.reduceEqDiff, reduceIte, pkN, GExpr.acs_eq, GExpr.flat_eq, GExpr.agg_eq, GExpr.el, GPart.acs_eq, GPart.flat_eq, GPart.agg_eq, GPart.el, tail_get, tail_get0, tail_set, tail_set0, List.append_assoc, Nat.add_assoc, Nat.reduceAdd, List.length_append, hk, hka, hkl]) | (first | (with_reducible rfl) | (with_reducible refine fnok_id ?_; kernel_rfl) | exact el_strs _ | exact el_ints _ | exact el_ln _ | exact el_tk _ _ | exact el_td _ _ _ | omega | (simp; done) | (simp; omega)) | ((with_reducible refine args_id ?_); simp [ArgsOk, ArgOk, argsD, argD, AC.toD, Value.oneCell', sl_flat, leaf_flat, li_flat, ls_flat, sl_agg, leaf_agg, li_agg, ls_agg, mo_t, mo_f, GExpr.acs_eq, GExpr.flat_eq, GExpr.agg_eq, GExpr.el, GPart.acs_eq, GPart.flat_eq, GPart.agg_eq, GPart.el, tail_get, tail_get0, tail_set, tail_set0, List.append_assoc, Nat.add_assoc, Nat.reduceAdd, List.length_append, hk, hka, hkl]; done))
           all_goals first
             | (simp only [List.length_append, List.length_cons, List.length_nil]; omega)
             | (with_reducible refine bxf_id ?_
                first
                  | exact bxfit_app (hfit.mono (by simp) (by simp)) (by simp [BxFit, AC.fits])
                  | exact bxfit_app (hfit.mono (by simp; omega) (by simp; omega)) (by simp [BxFit, AC.fits]))
             | (first
                  | (have hfree : GExpr.frees (x.args.take (q + 1)) b (x.inner b) = GExpr.frees (x.args.take q) b (x.inner b) ++ (x.args[q]).free b := by
                       rw [hft]; by_cases h0 : q = 0 <;> first | (exfalso; omega) | (simp [h0, GExpr.inner, *]; done))
                  | (have hfree : GExpr.frees (x.args.take (q + 1)) b (x.inner b) = GExpr.frees (x.args.take q) b (x.inner b) ++ (x.args[q]).free (b ++ [x.text]) := by
                       rw [hft]; by_cases h0 : q = 0 <;> first | (exfalso; omega) | (simp [h0, GExpr.inner, *]; done))
                have hfl2 := congrArg List.length hfree
                rw [List.length_append] at hfl2
                refine roundB (q + 1) ⟨?_, ?_, ?_, ?_⟩ (show q + 1 ≤ x.args.length by omega) (show x.args.length - (q + 1) < x.args.length - q by omega)
                · simp [FrLe, AV.fits, AC.fits, FB, mask, hkn]
                · refine ⟨⟨?_, rfl, rfl, ?_, rfl⟩, ?_⟩
                  · first | (rw [hfree]; done) | (rw [hfree]; simp [strsO])
                  · first | (simp only [strsO]; omega) | (simp only [strsO, hfl2]; omega) | (simp [strsO, hfl2]; omega)
                  · first | exact ownLe_refl _ | exact ownLe_pre _ _
                · refine ⟨rfl, ?_, rfl, boxLe_app _ ⟨rfl, trivial⟩⟩
                  simp only [List.cons.injEq, AC.own.injEq, and_true, true_and]
                  omega
                · exact fitV hpb (m' := bx.length + 3) hfit (by simp [FB]) (by simp [FB]) (by simp) (by simp [BxFit, AC.fits, FB]))
         · obtain rfl : q = x.args.length := by omega
           repeat' (first | (with_reducible first | refine awp_seq ?_ | refine awp_block ?_ | refine awp_skip ?_ | refine awp_exit ?_ | refine awp_ret ?_ | refine athen ?_ | refine thenExit ?_ | refine thenRet ?_ | refine blockNormal ?_ | refine blockExit ?_ | refine blockRet ?_ | refine roundExit ?_ | refine roundRet ?_ | refine roundExitR ?_ | refine roundRetR ?_) | ((with_reducible refine blockPass ?_ ?_); rfl) | ((with_reducible refine awp_condT ?_ ?_); rfl) | ((with_reducible refine awp_condF ?_ ?_); rfl) | (with_reducible (refine awp_condS rfl ?_ ?_); all_goals (intro hb; have hb' := hb; (try simp only [pkC] at hb'); first | (exfalso; omega) | skip)) | ((with_reducible refine awp_reg ?_); intro K hK) | ((first | ((with_reducible refine awp_regD false ?_ ?_); rfl) | ((with_reducible refine awp_regD true ?_ ?_); rfl)); intro K hK) | ((with_reducible refine sw_guardT ?_ ?_); rfl) | ((with_reducible refine sw_guardF ?_ ?_); rfl) | (with_reducible (refine sw_guardS rfl ?_ ?_); all_goals (intro hb; have hb' := hb; (try simp only [pkC] at hb'); first | (exfalso; omega) | skip)) | ((with_reducible refine sd_guardT ?_ ?_); rfl) | ((with_reducible refine sd_guardF ?_ ?_); rfl) | (with_reducible (refine sd_guardS rfl ?_ ?_); all_goals (intro hb; have hb' := hb; (try simp only [pkC] at hb'); first | (exfalso; omega) | skip)) | ((with_reducible refine hK _ ?_); clear hK K) | (with_reducible refine and_split ?_ ?_) | ((with_reducible refine sw_id ?_); simp (disch := first | decide | omega) only [↓pkS, pkW, pkA, undef, capsOf, ex, St.put, St.ev, kav, gdA, opI, rawI, vbin, srcOf, avsD, acsD, AV.toD, AC.toD, AV.nw, AC.nw, AC.one, Value.oneCell', fillA, D.one, D.ones, D.sz, D.szs, Nat.reduceAdd, Nat.reduceSub, Nat.reduceLeDiff, Nat.reduceEqDiff, reduceIte, pkN, GExpr.acs_eq, GExpr.flat_eq, GExpr.agg_eq, GExpr.el, GPart.acs_eq, GPart.flat_eq, GPart.agg_eq, GPart.el, tail_get, tail_get0, tail_set, tail_set0, List.append_assoc, Nat.add_assoc, Nat.reduceAdd, List.length_append, hk, hka, hkl]) | ((with_reducible refine sd_id ?_); simp (disch := first | decide | omega) only [↓pkR, pkD, pkA, undef, capsOf, ex, St.put, St.ev, kav, gdA, opI, rawI, vbin, srcOf, avsD, acsD, AV.toD, AC.toD, AV.nw, AC.nw, AC.one, Value.oneCell', fillA, D.one, D.ones, D.sz, D.szs, Nat.reduceAdd, Nat.reduceSub, Nat.reduceLeDiff, Nat.reduceEqDiff, reduceIte, pkN, GExpr.acs_eq, GExpr.flat_eq, GExpr.agg_eq, GExpr.el, GPart.acs_eq, GPart.flat_eq, GPart.agg_eq, GPart.el, tail_get, tail_get0, tail_set, tail_set0, List.append_assoc, Nat.add_assoc, Nat.reduceAdd, List.length_append, hk, hka, hkl]) | (first | (with_reducible rfl) | (with_reducible refine fnok_id ?_; kernel_rfl) | exact el_strs _ | exact el_ints _ | exact el_ln _ | exact el_tk _ _ | exact el_td _ _ _ | omega | (simp; done) | (simp; omega)) | ((with_reducible refine args_id ?_); simp [ArgsOk, ArgOk, argsD, argD, AC.toD, Value.oneCell', sl_flat, leaf_flat, li_flat, ls_flat, sl_agg, leaf_agg, li_agg, ls_agg, mo_t, mo_f, GExpr.acs_eq, GExpr.flat_eq, GExpr.agg_eq, GExpr.el, GPart.acs_eq, GPart.flat_eq, GPart.agg_eq, GPart.el, tail_get, tail_get0, tail_set, tail_set0, List.append_assoc, Nat.add_assoc, Nat.reduceAdd, List.length_append, hk, hka, hkl]; done))
           simp only [List.take_length]
           exact endNormal ⟨⟨⟨rfl, rfl, rfl, rfl, rfl⟩, ownLe_refl _⟩, ⟨rfl, rfl, rfl, boxLe_pre _ _⟩, bxfit_app (bx := [_, _, _]) (by simp only [BxFit, List.all_cons, hpb]; simp [AC.fits]) (hfit.mono (by simp) (by simp)), rfl⟩)

theorem GPart.expr_wt (x : GPart) : x.expr.toD.wt ≤ x.toD.wt := by
  simp only [GPart.toD_eq, D.wt, D.wts]; omega
theorem visit_all (pb : List AC) (hpb : ∀ n m, pb.all (AC.fits n m) = true) : ∀ (n : Nat) (x : GExpr), x.toD.wt < n → VSaid pb x := by
  intro n
  induction n with
  | zero => intro x h; omega
  | succ n ih =>
    intro x h
    exact visit_of pb hpb x (fun y hy => ih y (by have := wt_mem hy; omega))
theorem visit_s (pb : List AC) (hpb : ∀ n m, pb.all (AC.fits n m) = true) (x : GExpr) : VSaid pb x := visit_all pb hpb _ x (Nat.lt_succ_self _)
/-- The first call: no name is bound. -/
theorem visit_0 (pb : List AC) (hpb : ∀ n m, pb.all (AC.fits n m) = true) (x : GExpr) (hw : x.toD.wt ≤ 1048576) :
    CallsS Tryz.prog 79 [.bptr 2 0, .c true (x.toD.acs false), .c false [.raw (.slice none 0 0)]] [strsO [] 0] (boxV pb 0 []) unitV [strsO (x.free []) (x.free []).length] (boxV pb (x.free []).length []) := by
  have h := visit_s pb hpb x [] [] (.c false [.sl true []]) 0 [] [] bv_sl (by simp; omega) (by simp; omega) (by simp [BxFit])
  simp only [List.nil_append, Nat.zero_add, D.av, GExpr.agg_eq] at h
  refine callsS_args h fun E w vs hv => ?_
  match vs, hv with
  | [v1, v2, v3], hv => exact ⟨hv.1, hv.2.1, nil_sl hv.2.2.1, trivial⟩
def ic_freeI : IC := (.seq (.reg false [⟨(some 1), none, .box (.t 0)⟩, ⟨(some 2), none, .mov (.k (.slice none 0 0))⟩]) (.seq (.reg false [⟨(some 5), none, .brow true 9 1 0 false []⟩, ⟨(some 3), none, .alloc [(.slice none 0 0)]⟩, ⟨none, none, .store 1 (.t 3) (.t 5)⟩]) (.seq (.reg false [⟨(some 6), none, .mkf 78 [(.t 3)]⟩, ⟨(some 7), none, .bld [.nilFunc, .nilFunc] [(0, 1, (.t 6))]⟩, ⟨(some 8), none, .box (.t 7)⟩, ⟨(some 4), none, .mov (.t 8)⟩]) (.seq (.reg false [⟨(some 9), none, .mov (.t 4)⟩, ⟨(some 10), none, .load 4 true (.t 1)⟩, ⟨(some 11), none, .call 79 [(.t 9), (.t 10), (.k (.slice none 0 0))]⟩]) (.seq (.reg false [⟨(some 12), none, .load 1 false (.t 3)⟩, ⟨(some 13), none, .call 80 [(.t 12)]⟩, ⟨(some 2), none, .mov (.t 13)⟩]) .ret)))))
theorem ic_freeI_ok : compC Tryz.prog (Tryz.f69.body.getD .skip) = some ic_freeI := by kernel_rfl
set_option maxHeartbeats 4000000 in
theorem freeNames_impl_to (x : GExpr) (hw : x.toD.wt ≤ 1048576) : CallsOwn Tryz.prog 69 [x.toD] ((sortN (x.free [])).map ls) 9 1 := by
  refine calls_own (fn := Tryz.f69) (t := 2) (by kernel_rfl) (by kernel_rfl) (by kernel_rfl) ic_freeI_ok ?_
  change AWP _ _ _ (st0 14 _)
  have hm := x.free_max []
  have hv := visit_0 (x.toD.acs false) (fun n m => by simp [GExpr.acs_eq, AC.fits]) x hw
  unfold ic_freeI
  simp only [GExpr.acs_eq] at hv
  simp only [undef, stS, st0, stN, D.av, D.avN, sl_agg, leaf_agg, li_agg, ls_agg, sl_acs, leaf_acs, li_acs, ls_acs, GExpr.acs_eq, GExpr.flat_eq, GExpr.agg_eq, GExpr.el, GPart.acs_eq, GPart.flat_eq, GPart.agg_eq, GPart.el, List.map_cons, List.map_nil, List.replicate, List.cons_append, List.nil_append, List.length_cons, List.length_nil, Nat.reduceAdd, Nat.reduceSub]
  repeat' (first | (with_reducible first | refine awp_seq ?_ | refine awp_block ?_ | refine awp_skip ?_ | refine awp_exit ?_ | refine awp_ret ?_ | refine athen ?_ | refine thenExit ?_ | refine thenRet ?_ | refine blockNormal ?_ | refine blockExit ?_ | refine blockRet ?_ | refine roundExit ?_ | refine roundRet ?_ | refine roundExitR ?_ | refine roundRetR ?_) | ((with_reducible refine blockPass ?_ ?_); rfl) | ((with_reducible refine awp_condT ?_ ?_); rfl) | ((with_reducible refine awp_condF ?_ ?_); rfl) | (with_reducible (refine awp_condS rfl ?_ ?_); all_goals (intro hb; have hb' := hb; (try simp only [pkC] at hb'); first | (exfalso; omega) | skip)) | ((with_reducible refine awp_reg ?_); intro K hK) | ((first | ((with_reducible refine awp_regD false ?_ ?_); rfl) | ((with_reducible refine awp_regD true ?_ ?_); rfl)); intro K hK) | ((with_reducible refine sw_guardT ?_ ?_); rfl) | ((with_reducible refine sw_guardF ?_ ?_); rfl) | (with_reducible (refine sw_guardS rfl ?_ ?_); all_goals (intro hb; have hb' := hb; (try simp only [pkC] at hb'); first | (exfalso; omega) | skip)) | ((with_reducible refine sd_guardT ?_ ?_); rfl) | ((with_reducible refine sd_guardF ?_ ?_); rfl) | (with_reducible (refine sd_guardS rfl ?_ ?_); all_goals (intro hb; have hb' := hb; (try simp only [pkC] at hb'); first | (exfalso; omega) | skip)) | ((with_reducible refine hK _ ?_); clear hK K) | (with_reducible refine and_split ?_ ?_) | ((with_reducible refine ct_id ?_); first | (refine callS hv ?_) | (refine callOwn (sortNames_impl_to (x.free []) (by omega)) (el_strs _) ?_ ?_)) | ((with_reducible refine sw_id ?_); simp (disch := first | decide | omega) only [↓pkS, pkW, pkA, undef, capsOf, ex, St.put, St.ev, kav, gdA, opI, rawI, vbin, srcOf, avsD, acsD, AV.toD, AC.toD, AV.nw, AC.nw, AC.one, Value.oneCell', fillA, D.one, D.ones, D.sz, D.szs, Nat.reduceAdd, Nat.reduceSub, Nat.reduceLeDiff, Nat.reduceEqDiff, reduceIte, pkN, GExpr.acs_eq, GExpr.flat_eq, GExpr.agg_eq, GExpr.el, GPart.acs_eq, GPart.flat_eq, GPart.agg_eq, GPart.el, tail_get, tail_get0, tail_set, tail_set0, List.append_assoc, Nat.add_assoc, Nat.reduceAdd, List.length_append]) | ((with_reducible refine sd_id ?_); simp (disch := first | decide | omega) only [↓pkR, pkD, pkA, undef, capsOf, ex, St.put, St.ev, kav, gdA, opI, rawI, vbin, srcOf, avsD, acsD, AV.toD, AC.toD, AV.nw, AC.nw, AC.one, Value.oneCell', fillA, D.one, D.ones, D.sz, D.szs, Nat.reduceAdd, Nat.reduceSub, Nat.reduceLeDiff, Nat.reduceEqDiff, reduceIte, pkN, GExpr.acs_eq, GExpr.flat_eq, GExpr.agg_eq, GExpr.el, GPart.acs_eq, GPart.flat_eq, GPart.agg_eq, GPart.el, tail_get, tail_get0, tail_set, tail_set0, List.append_assoc, Nat.add_assoc, Nat.reduceAdd, List.length_append]) | (first | (with_reducible rfl) | (with_reducible refine fnok_id ?_; kernel_rfl) | exact el_strs _ | exact el_ints _ | exact el_ln _ | exact el_tk _ _ | exact el_td _ _ _ | omega | (simp; done) | (simp; omega)) | ((with_reducible refine args_id ?_); simp [ArgsOk, ArgOk, argsD, argD, AC.toD, Value.oneCell', sl_flat, leaf_flat, li_flat, ls_flat, sl_agg, leaf_agg, li_agg, ls_agg, mo_t, mo_f, GExpr.acs_eq, GExpr.flat_eq, GExpr.agg_eq, GExpr.el, GPart.acs_eq, GPart.flat_eq, GPart.agg_eq, GPart.el, tail_get, tail_get0, tail_set, tail_set0, List.append_assoc, Nat.add_assoc, Nat.reduceAdd, List.length_append]; done))
  exact endRet ⟨1, 0, _, rfl, rfl, rfl, rfl, rfl, rfl, Or.inl rfl⟩
def ic_usesI : IC := (.seq (.reg false [⟨(some 1), none, .box (.t 0)⟩, ⟨(some 2), none, .mov (.k (.slice none 0 0))⟩]) (.seq (.seq (.reg false [⟨(some 3), none, .fad 0 (.t 1)⟩, ⟨(some 4), none, .load 1 false (.t 3)⟩, ⟨(some 5), none, .bin .neq (.t 4) (.k (.int .i64 2))⟩]) (.cond (.t 5) (.seq (.reg false [⟨(some 2), none, .mov (.k (.slice none 0 0))⟩]) .ret) .skip)) (.seq (.reg false [⟨(some 6), none, .fad 2 (.t 1)⟩, ⟨(some 7), none, .load 4 true (.t 6)⟩, ⟨(some 8), none, .call 69 [(.t 7)]⟩, ⟨(some 2), none, .mov (.t 8)⟩]) .ret)))
theorem ic_usesI_ok : compC Tryz.prog (Tryz.f56.body.getD .skip) = some ic_usesI := by kernel_rfl
theorem usesOf_impl_to (x : GPart) (hw : x.expr.toD.wt ≤ 1048576) : CallsOwn Tryz.prog 56 [x.toD] ((usesL x).map ls) 9 1 := by
  refine calls_ownN (fn := Tryz.f56) (t := 2) (by kernel_rfl) (by kernel_rfl) (by kernel_rfl) ic_usesI_ok ?_
  change AWP _ _ _ (st0 9 _)
  have hf := freeNames_impl_to x.expr hw
  unfold ic_usesI
  simp only [undef, stS, st0, stN, D.av, D.avN, sl_agg, leaf_agg, li_agg, ls_agg, sl_acs, leaf_acs, li_acs, ls_acs, GExpr.acs_eq, GExpr.flat_eq, GExpr.agg_eq, GExpr.el, GPart.acs_eq, GPart.flat_eq, GPart.agg_eq, GPart.el, List.map_cons, List.map_nil, List.replicate, List.cons_append, List.nil_append, List.length_cons, List.length_nil, Nat.reduceAdd, Nat.reduceSub]
  repeat' (first | (with_reducible first | refine awp_seq ?_ | refine awp_block ?_ | refine awp_skip ?_ | refine awp_exit ?_ | refine awp_ret ?_ | refine athen ?_ | refine thenExit ?_ | refine thenRet ?_ | refine blockNormal ?_ | refine blockExit ?_ | refine blockRet ?_ | refine roundExit ?_ | refine roundRet ?_ | refine roundExitR ?_ | refine roundRetR ?_) | ((with_reducible refine blockPass ?_ ?_); rfl) | ((with_reducible refine awp_condT ?_ ?_); rfl) | ((with_reducible refine awp_condF ?_ ?_); rfl) | (with_reducible (refine awp_condS rfl ?_ ?_); all_goals (intro hb; have hb' := hb; (try simp only [pkC] at hb'); first | (exfalso; omega) | skip)) | ((with_reducible refine awp_reg ?_); intro K hK) | ((first | ((with_reducible refine awp_regD false ?_ ?_); rfl) | ((with_reducible refine awp_regD true ?_ ?_); rfl)); intro K hK) | ((with_reducible refine sw_guardT ?_ ?_); rfl) | ((with_reducible refine sw_guardF ?_ ?_); rfl) | (with_reducible (refine sw_guardS rfl ?_ ?_); all_goals (intro hb; have hb' := hb; (try simp only [pkC] at hb'); first | (exfalso; omega) | skip)) | ((with_reducible refine sd_guardT ?_ ?_); rfl) | ((with_reducible refine sd_guardF ?_ ?_); rfl) | (with_reducible (refine sd_guardS rfl ?_ ?_); all_goals (intro hb; have hb' := hb; (try simp only [pkC] at hb'); first | (exfalso; omega) | skip)) | ((with_reducible refine hK _ ?_); clear hK K) | (with_reducible refine and_split ?_ ?_) | ((with_reducible refine ct_id ?_); first | (refine callOwn hf (el_strs _) ?_ ?_)) | ((with_reducible refine sw_id ?_); simp (disch := first | decide | omega) only [↓pkS, pkW, pkA, undef, capsOf, ex, St.put, St.ev, kav, gdA, opI, rawI, vbin, srcOf, avsD, acsD, AV.toD, AC.toD, AV.nw, AC.nw, AC.one, Value.oneCell', fillA, D.one, D.ones, D.sz, D.szs, Nat.reduceAdd, Nat.reduceSub, Nat.reduceLeDiff, Nat.reduceEqDiff, reduceIte, pkN, GExpr.acs_eq, GExpr.flat_eq, GExpr.agg_eq, GExpr.el, GPart.acs_eq, GPart.flat_eq, GPart.agg_eq, GPart.el, tail_get, tail_get0, tail_set, tail_set0, List.append_assoc, Nat.add_assoc, Nat.reduceAdd, List.length_append, GExpr.agg_eq, GExpr.flat_eq]) | ((with_reducible refine sd_id ?_); simp (disch := first | decide | omega) only [↓pkR, pkD, pkA, undef, capsOf, ex, St.put, St.ev, kav, gdA, opI, rawI, vbin, srcOf, avsD, acsD, AV.toD, AC.toD, AV.nw, AC.nw, AC.one, Value.oneCell', fillA, D.one, D.ones, D.sz, D.szs, Nat.reduceAdd, Nat.reduceSub, Nat.reduceLeDiff, Nat.reduceEqDiff, reduceIte, pkN, GExpr.acs_eq, GExpr.flat_eq, GExpr.agg_eq, GExpr.el, GPart.acs_eq, GPart.flat_eq, GPart.agg_eq, GPart.el, tail_get, tail_get0, tail_set, tail_set0, List.append_assoc, Nat.add_assoc, Nat.reduceAdd, List.length_append, GExpr.agg_eq, GExpr.flat_eq]) | (first | (with_reducible rfl) | (with_reducible refine fnok_id ?_; kernel_rfl) | exact el_strs _ | exact el_ints _ | exact el_ln _ | exact el_tk _ _ | exact el_td _ _ _ | omega | (simp; done) | (simp; omega)) | ((with_reducible refine args_id ?_); simp [ArgsOk, ArgOk, argsD, argD, AC.toD, Value.oneCell', sl_flat, leaf_flat, li_flat, ls_flat, sl_agg, leaf_agg, li_agg, ls_agg, mo_t, mo_f, GExpr.acs_eq, GExpr.flat_eq, GExpr.agg_eq, GExpr.el, GPart.acs_eq, GPart.flat_eq, GPart.agg_eq, GPart.el, tail_get, tail_get0, tail_set, tail_set0, List.append_assoc, Nat.add_assoc, Nat.reduceAdd, List.length_append, GExpr.agg_eq, GExpr.flat_eq]; done))
  · have hu : usesL x = [] := by simp [usesL, *]
    rw [hu]
    exact endNil rfl
  · have hu : usesL x = sortN (x.expr.free []) := by simp [usesL, *]
    rw [hu]
    exact endOwn rfl rfl rfl rfl rfl rfl (Or.inl rfl)
theorem usesOf_spec_law (x : GPart) (fp : List Nat) (cs : List Value) (w : World) (hR : R w x.toD fp cs) (hw : x.expr.toD.wt ≤ 1048576) : Calls Tryz.prog 47 #[.agg cs.toArray] w (TosPost ((usesL x).map ls) w) :=
  of_own (usesOf_spec_to x hw) (flat_strs' _) (vs := [.agg cs.toArray]) ⟨rd_of_agg x.agg_eq hR, trivial⟩
theorem usesOf_impl_law (x : GPart) (fp : List Nat) (cs : List Value) (w : World) (hR : R w x.toD fp cs) (hw : x.expr.toD.wt ≤ 1048576) : Calls Tryz.prog 56 #[.agg cs.toArray] w (TosPost ((usesL x).map ls) w) :=
  of_own (usesOf_impl_to x hw) (flat_strs' _) (vs := [.agg cs.toArray]) ⟨rd_of_agg x.agg_eq hR, trivial⟩
end Go.Proofs.YtnfamcepojpkjaaGreat

namespace Go.Proofs.YtnfamcepojpkjaaGreat
open Go.RowKit
set_option linter.unusedSimpArgs false
set_option linter.unusedVariables false
theorem wts_append : ∀ (a b : List D), D.wts (a ++ b) = D.wts a + D.wts b
  | [], b => by simp [D.wts]
  | d :: a, b => by rw [List.cons_append, D.wts, D.wts, wts_append a b]; omega
def missOf (l : List GPart) (us : List ByteArray) : List ByteArray := us.filter fun s => resV (defsTo l s l.length) == -1
theorem missOf_t (l : List GPart) (us : List ByteArray) {k : Nat} (h : k < us.length) (e : (resV (defsTo l us[k] l.length) == -1) = true) : missOf l (us.take (k + 1)) = missOf l (us.take k) ++ [us[k]] := by
  unfold missOf; rw [List.take_succ_eq_append_getElem h, List.filter_append, List.filter_cons, if_pos e]; rfl
theorem missOf_f (l : List GPart) (us : List ByteArray) {k : Nat} (h : k < us.length) (e : (resV (defsTo l us[k] l.length) == -1) = false) : missOf l (us.take (k + 1)) = missOf l (us.take k) := by
  unfold missOf; rw [List.take_succ_eq_append_getElem h, List.filter_append, List.filter_cons, if_neg (by simp [e])]; simp
def missTo (l : List GPart) : Nat → List ByteArray
  | 0 => []
  | k + 1 => missTo l k ++ (match l[k]? with | some p => missOf l (usesL p) | none => [])
theorem missTo_succ (l : List GPart) {k : Nat} (h : k < l.length) : missTo l (k + 1) = missTo l k ++ missOf l (usesL l[k]) := by
  rw [missTo, List.getElem?_eq_getElem h]
theorem usesL_wt (x : GPart) : (usesL x).length ≤ 1 + x.toD.wt := by
  unfold usesL
  split
  · have := sortN_len (x.expr.free [])
    have := x.expr.free_len []
    have := x.expr_wt
    omega
  · simp
theorem missOf_len (l : List GPart) (us : List ByteArray) (k : Nat) : (missOf l (us.take k)).length ≤ us.length := by
  unfold missOf
  refine Nat.le_trans (List.length_filter_le _ _) ?_
  rw [List.length_take]; omega
theorem missTo_len (l : List GPart) : ∀ (k : Nat), k ≤ l.length → (missTo l k).length ≤ k + D.wts ((l.take k).map GPart.toD)
  | 0, _ => by simp [missTo]
  | k + 1, h => by
    have ih := missTo_len l k (by omega)
    have h1 : k < l.length := by omega
    rw [missTo_succ l h1, List.length_append, List.take_succ_eq_append_getElem h1, List.map_append, wts_append]
    have h2 := missOf_len l (usesL l[k]) (usesL l[k]).length
    rw [List.take_length] at h2
    have h3 := usesL_wt l[k]
    simp only [List.map_cons, List.map_nil, D.wts]
    omega
theorem miss_room (l : List GPart) {k : Nat} (h : k < l.length) (j : Nat) : (missTo l k).length + (missOf l ((usesL l[k]).take j)).length ≤ l.length + D.wts (l.map GPart.toD) := by
  have h1 := missTo_len l k (by omega)
  have h2 := missOf_len l (usesL l[k]) j
  have h3 := usesL_wt l[k]
  have h4 := wts_take_get (l.map GPart.toD) k (by simpa using h)
  rw [← List.map_take, List.getElem_map] at h4
  omega
theorem missTo_all (l : List GPart) : (missTo l l.length).length ≤ l.length + D.wts (l.map GPart.toD) := by
  have := missTo_len l l.length (Nat.le_refl _)
  rwa [List.take_length] at this
theorem part_wt {l : List GPart} (hw : l.length + D.wts (l.map GPart.toD) ≤ 1048576) {k : Nat} (h : k < l.length) : (l[k]).expr.toD.wt ≤ 1048576 := by
  have h4 := wts_take_get (l.map GPart.toD) k (by simpa using h)
  rw [List.getElem_map] at h4
  have := (l[k]).expr_wt
  omega
theorem resolve_spec_t (l : List GPart) (s : ByteArray) (hn : l.length ≤ 1048576) : CallsTo Tryz.prog 48 [.sl (l.map GPart.toD), ls s] (.c false [.raw (.int .i64 (resV (defsTo l s l.length)))]) := to_retB fun w vs hr => by
  obtain ⟨v, u, rfl, h1, h2⟩ := rds2 hr
  obtain ⟨fp, hS⟩ := rd_sl h1
  obtain rfl := rd_leaf h2
  exact resolve_spec l s fp v w hS hn
theorem resolve_impl_t (l : List GPart) (s : ByteArray) (hn : l.length ≤ 1048576) : CallsTo Tryz.prog 57 [.sl (l.map GPart.toD), ls s] (.c false [.raw (.int .i64 (resV (defsTo l s l.length)))]) := to_retB fun w vs hr => by
  obtain ⟨v, u, rfl, h1, h2⟩ := rds2 hr
  obtain ⟨fp, hS⟩ := rd_sl h1
  obtain rfl := rd_leaf h2
  exact resolve_impl l s fp v w hS hn
end Go.Proofs.YtnfamcepojpkjaaGreat

namespace Go.Proofs.YtnfamcepojpkjaaGreat
set_option linter.unusedSimpArgs false
set_option linter.unusedVariables false
def ln (k : Nat) : D := li (k : Int)
/-- The numbers below n of which p holds, ascending. -/
def setN (n : Nat) (p : Nat → Bool) : List Nat := (List.range n).filter p
theorem setN_sorted (n : Nat) (p : Nat → Bool) : (setN n p).Pairwise (· < ·) := List.Pairwise.filter _ List.pairwise_lt_range
theorem mem_setN {n : Nat} {p : Nat → Bool} {x : Nat} : x ∈ setN n p ↔ x < n ∧ p x = true := by
  unfold setN
  rw [List.mem_filter, List.mem_range]
theorem setN_len (n : Nat) (p : Nat → Bool) : (setN n p).length ≤ n := by
  have := List.length_filter_le p (List.range n)
  rwa [List.length_range] at this
theorem setN_congr {n : Nat} {p q : Nat → Bool} (h : ∀ x, x < n → p x = q x) : setN n p = setN n q := by
  unfold setN
  refine List.filter_congr fun x hx => h x (List.mem_range.1 hx)
theorem sorted_ext : ∀ {l m : List Nat}, l.Pairwise (· < ·) → m.Pairwise (· < ·) → (∀ x, x ∈ l ↔ x ∈ m) → l = m
  | [], [], _, _, _ => rfl
  | [], y :: m, _, _, h => by have := (h y).2 (by simp); simp at this
  | x :: l, [], _, _, h => by have := (h x).1 (by simp); simp at this
  | x :: l, y :: m, hl, hm, h => by
    rw [List.pairwise_cons] at hl hm
    have e : x = y := by
      rcases List.mem_cons.1 ((h x).1 (by simp)) with e | h1
      · exact e
      · rcases List.mem_cons.1 ((h y).2 (by simp)) with e | h2
        · exact e.symm
        · have a1 := hm.1 x h1
          have a2 := hl.1 y h2
          omega
    subst e
    rw [sorted_ext hl.2 hm.2 (fun z => ?_)]
    constructor
    · intro hz
      rcases List.mem_cons.1 ((h z).1 (List.mem_cons_of_mem _ hz)) with e | h1
      · have := hl.1 z hz; omega
      · exact h1
    · intro hz
      rcases List.mem_cons.1 ((h z).2 (List.mem_cons_of_mem _ hz)) with e | h1
      · have := hm.1 z hz; omega
      · exact h1
/-- A number is put into its place. -/
theorem ins_list {n x pos : Nat} {p : Nat → Bool} {s : List Nat} (hs : s.Pairwise (· < ·)) (hy2 : ∀ y, y ∈ s ↔ y < n ∧ p y = true) (hx : x < n) (hp : p x = false) (hat : pos ≤ s.length) (h1 : ∀ (j : Nat) (h : j < pos), s[j]'(by omega) < x) (h2 : ∀ (h : pos < s.length), x ≤ s[pos]) :
    s.take pos ++ x :: s.drop pos = setN n (fun k => p k || k == x) := by
  have hm : ∀ y ∈ s, y ≠ x := fun y hy e => by
    subst e
    rw [((hy2 y).1 hy).2] at hp
    cases hp
  have hlow : ∀ y ∈ s.take pos, y < x := fun y hy => by
    obtain ⟨j, hj, rfl⟩ := List.mem_iff_getElem.1 hy
    rw [List.getElem_take]
    exact h1 j (by rw [List.length_take] at hj; omega)
  have hhigh : ∀ y ∈ s.drop pos, x < y := fun y hy => by
    have hne := hm y (List.mem_of_mem_drop hy)
    obtain ⟨j, hj, rfl⟩ := List.mem_iff_getElem.1 hy
    rw [List.getElem_drop] at hne ⊢
    rw [List.length_drop] at hj
    have h3 := h2 (by omega)
    rcases Nat.eq_zero_or_pos j with rfl | hj0
    · simp only [Nat.add_zero] at hne ⊢; omega
    · have := List.pairwise_iff_getElem.1 hs pos (pos + j) (by omega) (by omega) (by omega)
      omega
  refine sorted_ext ?_ (setN_sorted _ _) (fun y => ?_)
  · rw [List.pairwise_append]
    refine ⟨hs.sublist (List.take_sublist _ _), ?_, fun a ha b hb => ?_⟩
    · rw [List.pairwise_cons]
      exact ⟨hhigh, hs.sublist (List.drop_sublist _ _)⟩
    · have := hlow a ha
      rcases List.mem_cons.1 hb with rfl | hb
      · exact this
      · have := hhigh b hb; omega
  · have hy : y ∈ s ↔ y ∈ s.take pos ∨ y ∈ s.drop pos := by rw [← List.mem_append, List.take_append_drop]
    rw [mem_setN, List.mem_append, List.mem_cons]
    simp only [Bool.or_eq_true, beq_iff_eq]
    constructor
    · rintro (h | h | h)
      · have := (hy2 y).1 (hy.2 (Or.inl h)); exact ⟨this.1, Or.inl this.2⟩
      · subst h; exact ⟨hx, Or.inr rfl⟩
      · have := (hy2 y).1 (hy.2 (Or.inr h)); exact ⟨this.1, Or.inl this.2⟩
    · rintro ⟨h, h' | h'⟩
      · rcases hy.1 ((hy2 y).2 ⟨h, h'⟩) with h3 | h3
        · exact Or.inl h3
        · exact Or.inr (Or.inr h3)
      · exact Or.inr (Or.inl h')
theorem ins_set {n x pos : Nat} {p : Nat → Bool} (hx : x < n) (hp : p x = false) (hat : pos ≤ (setN n p).length) (h1 : ∀ (j : Nat) (h : j < pos), (setN n p)[j]'(by omega) < x) (h2 : ∀ (h : pos < (setN n p).length), x ≤ (setN n p)[pos]) :
    (setN n p).take pos ++ x :: (setN n p).drop pos = setN n (fun k => p k || k == x) := ins_list (setN_sorted n p) (fun y => mem_setN) hx hp hat h1 h2
/-- The set of the numbers of a list. -/
def setL (n : Nat) (l : List Nat) : List Nat := setN n (fun k => l.contains k)
theorem setL_nil (n : Nat) : setL n [] = [] := by simp [setL, setN]
theorem mem_setL {n : Nat} {l : List Nat} {x : Nat} : x ∈ setL n l ↔ x < n ∧ x ∈ l := by
  unfold setL
  rw [mem_setN]
  simp
theorem setL_eq {n : Nat} {l m : List Nat} (hs : m.Pairwise (· < ·)) (hm : ∀ x, x ∈ m ↔ x < n ∧ x ∈ l) : m = setL n l := sorted_ext hs (setN_sorted _ _) (fun x => by rw [hm]; exact mem_setL.symm)
def hasI (l : List Nat) (z : Int) : Bool := l.any fun x => (x : Int) == z
theorem hasI_iff {l : List Nat} {z : Int} : hasI l z = true ↔ ∃ x ∈ l, (x : Int) = z := by simp [hasI]
theorem hasI_nat {l : List Nat} {k : Nat} : hasI l (k : Int) = l.contains k := by
  rw [Bool.eq_iff_iff, hasI_iff, List.contains_iff_mem]
  constructor
  · rintro ⟨x, hx, e⟩
    have : x = k := by omega
    exact this ▸ hx
  · intro h; exact ⟨k, h, rfl⟩
theorem hasI_take (l : List Nat) (z : Int) {k : Nat} (h : k < l.length) : hasI (l.take (k + 1)) z = (hasI (l.take k) z || (((l[k] : Nat) : Int) == z)) := by
  unfold hasI
  rw [List.take_succ_eq_append_getElem h, List.any_append]
  simp
theorem hasI_at {l : List Nat} {z : Int} {k : Nat} (h : k < l.length) (e : (((l[k] : Nat) : Int) == z) = true) : hasI l z = true := hasI_iff.2 ⟨l[k], List.getElem_mem h, by simpa using e⟩
theorem el_ln (l : List Nat) : El 1 (l.map ln) := fun d h => by obtain ⟨x, _, rfl⟩ := List.mem_map.1 h; exact ⟨rfl, rfl⟩
theorem el_tk (l : List Nat) (k : Nat) : El 1 ((l.map ln).take k) := fun d h => el_ln l d (List.mem_of_mem_take h)
theorem el_td (l : List Nat) (j k : Nat) : El 1 (((l.map ln).take j).drop k) := fun d h => el_tk l j d (List.mem_of_mem_drop h)
theorem el_dr (l : List Nat) (k : Nat) : El 1 ((l.map ln).drop k) := fun d h => el_ln l d (List.mem_of_mem_drop h)
theorem flat_ln (l : List Nat) : FlatL (l.map ln) := flatL_map (g := ln) (fun x w f cs h => (show f = [] ∧ _ from h).1) l
theorem getq_map {α : Type} {f : α → D} {l : List α} {k : Nat} (h : k < l.length) : (l.map f)[k]? = some (f l[k]) := by
  rw [List.getElem?_map, List.getElem?_eq_getElem h]
  rfl
theorem ln_acs (b : Bool) (n : Nat) : (ln n).acs b = [.raw (.int .i64 (n : Int))] := rfl
theorem setL_has {n : Nat} {l : List Nat} {k : Nat} (hk : k < l.length) (hx : l[k] < n) (h : (setL n (l.take k)).contains l[k] = true) : setL n (l.take (k + 1)) = setL n (l.take k) := by
  refine setN_congr fun x hxn => ?_
  rw [List.take_succ_eq_append_getElem hk]
  rw [List.contains_iff_mem, mem_setL] at h
  rw [Bool.eq_iff_iff]
  simp only [List.contains_iff_mem, List.mem_append, List.mem_singleton]
  constructor
  · rintro (h' | rfl)
    · exact h'
    · exact h.2
  · exact Or.inl
theorem setL_ins {n : Nat} {l : List Nat} {k pos : Nat} (hk : k < l.length) (hx : l[k] < n) (h : (setL n (l.take k)).contains l[k] = false) (hat : pos ≤ (setL n (l.take k)).length) (h1 : ∀ (j : Nat) (h : j < pos), (setL n (l.take k))[j]'(by omega) < l[k])
    (h2 : ∀ (h : pos < (setL n (l.take k)).length), l[k] ≤ (setL n (l.take k))[pos]) : (setL n (l.take k)).take pos ++ l[k] :: (setL n (l.take k)).drop pos = setL n (l.take (k + 1)) := by
  have hp : (l.take k).contains l[k] = false := by
    rw [Bool.eq_false_iff] at h ⊢
    intro h'
    apply h
    rw [List.contains_iff_mem, mem_setL]
    rw [List.contains_iff_mem] at h'
    exact ⟨hx, h'⟩
  rw [setL, ins_set hx hp hat h1 h2]
  refine setN_congr fun x hxn => ?_
  rw [List.take_succ_eq_append_getElem hk, Bool.eq_iff_iff]
  simp only [Bool.or_eq_true, List.contains_iff_mem, beq_iff_eq, List.mem_append, List.mem_singleton]
end Go.Proofs.YtnfamcepojpkjaaGreat

namespace Go.Proofs.YtnfamcepojpkjaaGreat
open Go.RowKit
set_option linter.unusedSimpArgs false
set_option linter.unusedVariables false
/-! ### Sums over the small numbers -/
def sumF (p : Nat → Bool) (g : Nat → Nat) : Nat → Nat
  | 0 => 0
  | n + 1 => sumF p g n + if p n then g n else 0
theorem sumF_congr {p q : Nat → Bool} {g : Nat → Nat} : ∀ {n : Nat}, (∀ x, x < n → p x = q x) → sumF p g n = sumF q g n
  | 0, _ => rfl
  | n + 1, h => by
    simp only [sumF]
    rw [sumF_congr (fun x hx => h x (by omega)), h n (by omega)]
theorem sumF_one {p q : Nat → Bool} {g : Nat → Nat} {k : Nat} (hp : p k = true) (hq : q k = false) (ho : ∀ x, x ≠ k → p x = q x) : ∀ {n : Nat}, k < n → sumF p g n = sumF q g n + g k
  | 0, h => by omega
  | n + 1, h => by
    simp only [sumF]
    rcases Nat.lt_or_ge k n with h' | h'
    · rw [sumF_one hp hq ho h', ho n (by omega)]; omega
    · obtain rfl : k = n := by omega
      rw [sumF_congr (q := q) (fun x hx => ho x (by omega)), hp, hq]; simp
theorem sumF_le {p : Nat → Bool} {g : Nat → Nat} : ∀ (n : Nat), sumF p g n ≤ sumF (fun _ => true) g n
  | 0 => Nat.le_refl _
  | n + 1 => by
    have := sumF_le (p := p) (g := g) n
    simp only [sumF]
    split <;> simp <;> omega
theorem sumF_all (g : Nat → Nat) (c : Nat) (h : ∀ x, g x ≤ c) : ∀ n, sumF (fun _ => true) g n ≤ n * c
  | 0 => by simp [sumF]
  | n + 1 => by
    have := sumF_all g c h n
    have := h n
    simp only [sumF, if_true, Nat.succ_mul]
    omega
/-- The numbers that a list lacks. -/
def lacks (l : List Nat) (x : Nat) : Bool := !l.contains x
theorem lacks_add {l : List Nat} {k : Nat} (h : k ∉ l) {g : Nat → Nat} {n : Nat} (hk : k < n) : sumF (lacks l) g n = sumF (lacks (l ++ [k])) g n + g k := by
  refine sumF_one (by simp [lacks, h]) (by simp [lacks]) (fun x hx => ?_) hk
  simp [lacks, hx]
theorem lacks_cons {l : List Nat} {k : Nat} (h : k ∉ l) {g : Nat → Nat} {n : Nat} (hk : k < n) : sumF (lacks l) g n = sumF (lacks (k :: l)) g n + g k := by
  refine sumF_one (by simp [lacks, h]) (by simp [lacks]) (fun x hx => ?_) hk
  simp [lacks, hx]
theorem lacks_len {n : Nat} : ∀ {l : List Nat}, l.Nodup → (∀ x ∈ l, x < n) → sumF (lacks l) (fun _ => 1) n + l.length = n
  | [], _, _ => by
    have : ∀ m, sumF (lacks []) (fun _ => 1) m = m := by
      intro m
      induction m with
      | zero => rfl
      | succ m ih => simp only [sumF, ih]; simp [lacks]
    simp [this]
  | k :: l, hn, hb => by
    rw [List.nodup_cons] at hn
    have h1 := lacks_len hn.2 (fun x hx => hb x (List.mem_cons_of_mem _ hx))
    have h2 := lacks_cons hn.1 (g := fun _ => 1) (hb k (by simp))
    simp only [List.length_cons]
    omega
theorem nodup_len {n : Nat} {l : List Nat} (h : l.Nodup) (hb : ∀ x ∈ l, x < n) : l.length ≤ n := by
  have := lacks_len h hb
  omega
theorem nodup_snoc {l : List Nat} {k : Nat} (h : l.Nodup) (hk : k ∉ l) : (l ++ [k]).Nodup := by
  rw [List.nodup_append]
  refine ⟨h, by simp, fun a ha b hb e => ?_⟩
  rw [List.mem_singleton] at hb
  subst hb e
  exact hk ha
theorem nodup_sorted {l : List Nat} (h : l.Pairwise (· < ·)) : l.Nodup := h.imp fun hab => by omega
/-! ### What can be reached by one or more steps -/
inductive Rch (f : Int → List Nat) (z : Int) : Nat → Prop
  | one {x : Nat} : x ∈ f z → Rch f z x
  | more {x y : Nat} : Rch f z x → y ∈ f (x : Int) → Rch f z y
noncomputable def rchB (f : Int → List Nat) (z : Int) (x : Nat) : Bool := @decide (Rch f z x) (Classical.propDecidable _)
theorem rchB_iff {f : Int → List Nat} {z : Int} {x : Nat} : rchB f z x = true ↔ Rch f z x := by
  unfold rchB
  exact @decide_eq_true_iff _ (Classical.propDecidable _)
noncomputable def cl (n : Nat) (f : Int → List Nat) (z : Int) : List Nat := setN n (rchB f z)
theorem cl_len (n : Nat) (f : Int → List Nat) (z : Int) : (cl n f z).length ≤ n := setN_len _ _
theorem cl_lt {n : Nat} {f : Int → List Nat} {z : Int} : ∀ x ∈ cl n f z, x < n := fun x h => (mem_setN.1 h).1
theorem mem_cl {n : Nat} {f : Int → List Nat} {z : Int} {x : Nat} : x ∈ cl n f z ↔ x < n ∧ Rch f z x := by
  unfold cl
  rw [mem_setN, rchB_iff]
theorem cl_eq {n : Nat} {f : Int → List Nat} {z : Int} {l : List Nat} (h1 : ∀ x ∈ l, x < n ∧ Rch f z x) (h2 : ∀ x ∈ f z, x ∈ l) (h3 : ∀ y ∈ l, ∀ x ∈ f (y : Int), x ∈ l) : setL n l = cl n f z := by
  unfold setL cl
  refine setN_congr fun x hx => ?_
  rw [Bool.eq_iff_iff, rchB_iff, List.contains_iff_mem]
  refine ⟨fun h => (h1 x h).2, fun h => ?_⟩
  clear hx
  induction h with
  | one h => exact h2 _ h
  | more _ h ih => exact h3 _ ih _ h
/-- The way of a list that is looked through while it grows. -/
structure AllInv (n : Nat) (f : Int → List Nat) (z : Int) (k : Nat) (out : List Nat) : Prop where
  nd : out.Nodup
  lt : ∀ x ∈ out, x < n
  r : ∀ x ∈ out, Rch f z x
  a : ∀ x ∈ f z, x ∈ out
  b : ∀ y ∈ out.take k, ∀ x ∈ f (y : Int), x ∈ out
  le : k ≤ out.length
/-- Within the look at one of them. -/
structure MoreInv (n : Nat) (f : Int → List Nat) (z : Int) (k : Nat) (y : Nat) (j : Nat) (out : List Nat) : Prop extends AllInv n f z k out where
  lt1 : k < out.length
  at1 : out[k]? = some y
  c : ∀ x ∈ (f (y : Int)).take j, x ∈ out
  jle : j ≤ (f (y : Int)).length
theorem MoreInv.start {n : Nat} {f : Int → List Nat} {z : Int} {k : Nat} {out : List Nat} (h : AllInv n f z k out) (hk : k < out.length) : MoreInv n f z k out[k] 0 out :=
  { h with lt1 := hk, at1 := List.getElem?_eq_getElem hk, c := by simp, jle := Nat.zero_le _ }
theorem MoreInv.skip {n : Nat} {f : Int → List Nat} {z : Int} {k y j : Nat} {out : List Nat} (h : MoreInv n f z k y j out) (hj : j < (f (y : Int)).length) (hc : out.contains (f (y : Int))[j] = true) : MoreInv n f z k y (j + 1) out :=
  { h with c := fun x hx => by
             rw [List.take_succ_eq_append_getElem hj, List.mem_append, List.mem_singleton] at hx
             rcases hx with hx | rfl
             · exact h.c x hx
             · simpa using hc
           jle := hj }
theorem MoreInv.put {n : Nat} {f : Int → List Nat} (hf : ∀ z, ∀ x ∈ f z, x < n) {z : Int} {k y j : Nat} {out : List Nat} (h : MoreInv n f z k y j out) (hj : j < (f (y : Int)).length) (hc : out.contains (f (y : Int))[j] = false) : MoreInv n f z k y (j + 1) (out ++ [(f (y : Int))[j]]) :=
  have hy : y ∈ out := List.mem_of_getElem? h.at1
  have hm := List.getElem_mem hj
  { nd := nodup_snoc h.nd (by simpa using hc)
    lt := fun x hx => by
      rw [List.mem_append, List.mem_singleton] at hx
      rcases hx with hx | rfl
      · exact h.lt x hx
      · exact hf _ _ hm
    r := fun x hx => by
      rw [List.mem_append, List.mem_singleton] at hx
      rcases hx with hx | rfl
      · exact h.r x hx
      · exact .more (h.r y hy) hm
    a := fun x hx => List.mem_append_left _ (h.a x hx)
    b := fun w hw x hx => by
      rw [List.take_append_of_le_length h.le] at hw
      exact List.mem_append_left _ (h.b w hw x hx)
    le := by have := h.le; simp; omega
    lt1 := by have := h.lt1; simp; omega
    at1 := by rw [List.getElem?_append_left h.lt1]; exact h.at1
    c := fun x hx => by
      rw [List.take_succ_eq_append_getElem hj, List.mem_append, List.mem_singleton] at hx
      rcases hx with hx | rfl
      · exact List.mem_append_left _ (h.c x hx)
      · simp
    jle := hj }
theorem MoreInv.fin {n : Nat} {f : Int → List Nat} {z : Int} {k y : Nat} {out : List Nat} (h : MoreInv n f z k y (f (y : Int)).length out) : AllInv n f z (k + 1) out :=
  { h with b := fun w hw x hx => by
             rw [List.take_succ_eq_append_getElem h.lt1, List.mem_append, List.mem_singleton] at hw
             rcases hw with hw | rfl
             · exact h.b w hw x hx
             · have := h.at1
               rw [List.getElem?_eq_getElem h.lt1] at this
               injection this with this
               rw [this] at hx
               exact h.c x (by rw [List.take_length]; exact hx)
           le := h.lt1 }
theorem AllInv.start {n : Nat} {f : Int → List Nat} (hf : ∀ z, ∀ x ∈ f z, x < n) {z : Int} (hs : (f z).Pairwise (· < ·)) : AllInv n f z 0 (f z) :=
  { nd := nodup_sorted hs, lt := hf z, r := fun x h => .one h, a := fun x h => h, b := by simp, le := Nat.zero_le _ }
theorem AllInv.fin {n : Nat} {f : Int → List Nat} {z : Int} {out : List Nat} (h : AllInv n f z out.length out) : setL n out = cl n f z :=
  cl_eq (fun x hx => ⟨h.lt x hx, h.r x hx⟩) h.a (fun y hy x hx => h.b y (by rw [List.take_length]; exact hy) x hx)
/-- The way with a list of what is to be looked at. -/
structure TodoInv (n : Nat) (f : Int → List Nat) (z : Int) (out todo : List Nat) : Prop where
  nd : out.Nodup
  lt : ∀ x ∈ out, x < n
  r : ∀ x ∈ out, Rch f z x
  lt' : ∀ x ∈ todo, x < n
  r' : ∀ x ∈ todo, Rch f z x
  a : ∀ x ∈ f z, x ∈ out ∨ x ∈ todo
  b : ∀ y ∈ out, ∀ x ∈ f (y : Int), x ∈ out ∨ x ∈ todo
  t : todo.length + sumF (lacks out) (fun x => (f (x : Int)).length) n ≤ (f z).length + sumF (fun _ => true) (fun x => (f (x : Int)).length) n
theorem TodoInv.start {n : Nat} {f : Int → List Nat} (hf : ∀ z, ∀ x ∈ f z, x < n) {z : Int} : TodoInv n f z [] (f z) :=
  { nd := List.nodup_nil, lt := by simp, r := by simp, lt' := hf z, r' := fun x h => .one h, a := fun x h => Or.inr h, b := by simp, t := by have := sumF_le (p := lacks []) (g := fun x => (f (x : Int)).length) n; omega }
theorem head_tail {l : List Nat} (h : 0 < l.length) : l = l[0] :: l.drop 1 := by
  cases l with
  | nil => simp at h
  | cons x l => rfl
theorem TodoInv.skip {n : Nat} {f : Int → List Nat} {z : Int} {out todo : List Nat} (h : TodoInv n f z out todo) (h0 : 0 < todo.length) (hc : out.contains todo[0] = true) : TodoInv n f z out (todo.drop 1) := by
  have he := head_tail h0
  have hm : todo[0] ∈ out := by simpa using hc
  have key : ∀ x, x ∈ out ∨ x ∈ todo → x ∈ out ∨ x ∈ todo.drop 1 := fun x hx => by
    rcases hx with hx | hx
    · exact Or.inl hx
    · rw [he] at hx
      rcases List.mem_cons.1 hx with rfl | hx
      · exact Or.inl hm
      · exact Or.inr hx
  exact { h with lt' := fun x hx => h.lt' x (List.mem_of_mem_drop hx), r' := fun x hx => h.r' x (List.mem_of_mem_drop hx), a := fun x hx => key x (h.a x hx), b := fun y hy x hx => key x (h.b y hy x hx), t := by have := h.t; rw [List.length_drop]; omega }
theorem TodoInv.put {n : Nat} {f : Int → List Nat} (hf : ∀ z, ∀ x ∈ f z, x < n) {z : Int} {out todo : List Nat} (h : TodoInv n f z out todo) (h0 : 0 < todo.length) (hc : out.contains todo[0] = false) : TodoInv n f z (out ++ [todo[0]]) (todo.drop 1 ++ f (todo[0] : Int)) := by
  have he := head_tail h0
  have hm : todo[0] ∉ out := by simpa using hc
  have ht := List.getElem_mem h0
  have key : ∀ x, x ∈ out ∨ x ∈ todo → x ∈ out ++ [todo[0]] ∨ x ∈ todo.drop 1 ++ f (todo[0] : Int) := fun x hx => by
    rcases hx with hx | hx
    · exact Or.inl (List.mem_append_left _ hx)
    · rw [he] at hx
      rcases List.mem_cons.1 hx with rfl | hx
      · exact Or.inl (by simp)
      · exact Or.inr (List.mem_append_left _ hx)
  refine { nd := nodup_snoc h.nd hm, lt := fun x hx => ?_, r := fun x hx => ?_, lt' := fun x hx => ?_, r' := fun x hx => ?_, a := fun x hx => key x (h.a x hx), b := fun y hy x hx => ?_, t := ?_ }
  · rw [List.mem_append, List.mem_singleton] at hx
    rcases hx with hx | rfl
    · exact h.lt x hx
    · exact h.lt' _ ht
  · rw [List.mem_append, List.mem_singleton] at hx
    rcases hx with hx | rfl
    · exact h.r x hx
    · exact h.r' _ ht
  · rcases List.mem_append.1 hx with hx | hx
    · exact h.lt' x (List.mem_of_mem_drop hx)
    · exact hf _ _ hx
  · rcases List.mem_append.1 hx with hx | hx
    · exact h.r' x (List.mem_of_mem_drop hx)
    · exact .more (h.r' _ ht) hx
  · rw [List.mem_append, List.mem_singleton] at hy
    rcases hy with hy | rfl
    · exact key x (h.b y hy x hx)
    · exact Or.inr (List.mem_append_right _ hx)
  · have h1 := h.t
    have h2 := lacks_add hm (g := fun x => (f (x : Int)).length) (h.lt' _ ht)
    rw [List.length_append, List.length_drop]
    omega
theorem TodoInv.fin {n : Nat} {f : Int → List Nat} {z : Int} {out : List Nat} (h : TodoInv n f z out []) : setL n out = cl n f z :=
  cl_eq (fun x hx => ⟨h.lt x hx, h.r x hx⟩) (fun x hx => (h.a x hx).elim id (by simp)) (fun y hy x hx => (h.b y hy x hx).elim id (by simp))
/-- The measure of the way. -/
def todoM (n : Nat) (f : Int → List Nat) (out todo : List Nat) : Nat := todo.length + sumF (lacks out) (fun x => (f (x : Int)).length) n
theorem todoM_skip {n : Nat} {f : Int → List Nat} {out todo : List Nat} (h0 : 0 < todo.length) : todoM n f out (todo.drop 1) < todoM n f out todo := by
  unfold todoM
  rw [List.length_drop]
  omega
theorem todoM_put {n : Nat} {f : Int → List Nat} {z : Int} {out todo : List Nat} (h : TodoInv n f z out todo) (h0 : 0 < todo.length) (hc : out.contains todo[0] = false) : todoM n f (out ++ [todo[0]]) (todo.drop 1 ++ f (todo[0] : Int)) < todoM n f out todo := by
  have hm : todo[0] ∉ out := by simpa using hc
  have h2 := lacks_add hm (g := fun x => (f (x : Int)).length) (h.lt' _ (List.getElem_mem h0))
  unfold todoM
  rw [List.length_append, List.length_drop]
  omega
/-! ### A call that leaves one own slice -/
theorem frLeR_any {pk : List Nat} {n m : Nat} : ∀ (fr : List AV), FrLeR pk n m fr (List.replicate fr.length .any)
  | [] => trivial
  | x :: fr => ⟨Or.inl rfl, frLeR_any fr⟩
theorem frLeR_one {pk : List Nat} {n m : Nat} {x : AV} (hx : x.fits n m = true) : ∀ (fr : List AV) (t : Nat), fr.getD t .any = x.ren pk → FrLeR pk n m fr ((List.replicate fr.length AV.any).set t x)
  | [], t, _ => trivial
  | y :: fr, 0, h => ⟨Or.inr ⟨h, hx⟩, frLeR_any fr⟩
  | y :: fr, t + 1, h => ⟨Or.inl rfl, frLeR_one hx fr t (by simpa using h)⟩
def FinSR (t : Nat) (l : List D) (e s : Nat) (bs' : List (List AC)) (st : St) : Prop :=
  ∃ k i, st.fr.getD t .any = .c false [.own k i] ∧ st.owns[k]? = some ⟨l, e, s, i, true⟩ ∧ i = 0 ∧ st.boxes = bs'
theorem calls_sR {P : Program} {f : Nat} {fn : Func} {code : Code} {ic : IC} {avs : List AV} {bs bs' : List (List AC)} {t : Nat} {l : List D} {e s : Nat} (hf : P.funcs[f]? = some fn) (hb : fn.body = some code) (hr : fn.results = #[.tmp t]) (hc : compC P code = some ic)
    (h2 : bs.length ≤ bs'.length) (hbr : ∀ pk, BoxLeR pk bs' bs') (hbf : (bs'.all fun xs => xs.all (AC.fits 1 bs'.length)) = true) (h : AWPn (0, bs.length) P ic (AEnd (FinSR t l e s bs')) (stS fn.ntmps avs [] bs)) : CallsS P f avs [] bs (.c false [.own 0 0]) [⟨l, e, s, 0, true⟩] bs' := by
  intro B Xs G w0 fr E a w vs hR hv
  have hol := hR.olen
  have hbl := hR.blen
  simp only at hol hbl
  refine calls_of_wp hf hb ?_
  have := h code hc B Xs ⟨E, [], w⟩ w0 ⟨Nat.le_refl _, by simp only; omega⟩ E _ w (rel_call hR hv fn.ntmps)
  refine wp_mono this ?_
  rintro e' a' w' ⟨st', E', g1, g2⟩
  have fin : FinSR t l e s bs' st' → ∃ v, (results fn a'.tmps).run P w' = .ok v w' ∧ ∃ v' E', Ending.returned v = .returned v' ∧ Rel B Xs ⟨E, [], w⟩ w0 ⟨[], [⟨l, e, s, 0, true⟩], bs'⟩ E' { tmps := #[], defers := [] } w' ∧ AV.ok E' [⟨l, e, s, 0, true⟩] w' (.c false [.own 0 0]) v' := by
    rintro ⟨k, i, q1, q2, rfl, q4⟩
    have drop : ∀ {fr' : List AV} {E'' : Env}, Rel B Xs ⟨E, [], w⟩ w0 ⟨fr', [⟨l, e, s, 0, true⟩], bs'⟩ E'' a' w' → Rel B Xs ⟨E, [], w⟩ w0 ⟨[], [⟨l, e, s, 0, true⟩], bs'⟩ E'' { tmps := #[], defers := [] } w' := fun hh =>
      { eb := hh.eb, ex := hh.ex, sim := hh.sim, defers := rfl, size := rfl, fr := fun t y hy => by simp at hy, olen := hh.olen, own := hh.own, blen := hh.blen, box := hh.box, nodup := hh.nodup, below := hh.below, base := hh.base }
    have hle : StLeR [k] st' ⟨(List.replicate st'.fr.length .any).set t (.c false [.own 0 0]), [⟨l, e, s, 0, true⟩], bs'⟩ := ⟨by simp, frLeR_one (by simp [AV.fits, AC.fits]) _ _ (by rw [q1]; rfl), ⟨by rw [q2]; exact ⟨rfl, rfl, rfl, rfl, rfl⟩, trivial⟩, by rw [q4]; exact hbr _, by simpa using hbf⟩
    obtain ⟨E'', hh⟩ := g1.weakR hle rfl (by simp only; omega)
    refine ⟨_, results_tmp hr _ P w', _, E'', rfl, drop hh, ?_⟩
    have hlt : t < st'.fr.length := by
      rcases Nat.lt_or_ge t st'.fr.length with hlt | hge
      · exact hlt
      · rw [List.getD_eq_getElem?_getD, List.getElem?_eq_none hge] at q1
        cases q1
    exact hh.fr t _ (by simp only; rw [List.getElem?_set_self (by simpa using hlt)])
  cases e' with
  | normal =>
    obtain ⟨v, h3, h4⟩ := fin g2
    exact ⟨g1.defers, v, h3, h4⟩
  | ret =>
    obtain ⟨v, h3, h4⟩ := fin g2
    exact ⟨g1.defers, v, h3, h4⟩
  | _ => exact g2.elim
end Go.Proofs.YtnfamcepojpkjaaGreat
