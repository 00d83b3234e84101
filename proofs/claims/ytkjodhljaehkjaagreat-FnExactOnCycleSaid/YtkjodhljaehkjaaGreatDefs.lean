/-
  The parts that define a name; the reference's Resolve; IsDuplicate; both packages.
-/
import Derived.Test.YtkjodhljaehkjaaGreatApp
import Derived.Test.YtkjodhljaehkjaaGreatNames
namespace Go.Proofs.YtkjodhljaehkjaaGreat
open Go.RowKit
set_option linter.unusedSimpArgs false
set_option linter.unusedVariables false

def isDef (x : GPart) (nm : ByteArray) : Bool := (x.kind != 1) && decide (x.name = nm)
def defsTo (l : List GPart) (nm : ByteArray) : Nat → List Int
  | 0 => []
  | k + 1 => defsTo l nm k ++ (match l[k]? with | some x => if isDef x nm then [(k : Int)] else [] | none => [])
theorem defsTo_len (l : List GPart) (nm : ByteArray) : ∀ k, (defsTo l nm k).length ≤ k
  | 0 => Nat.le_refl _
  | k + 1 => by
    have := defsTo_len l nm k
    rw [defsTo, List.length_append]
    split
    · split <;> simp <;> omega
    · simp; omega
theorem defsTo_skip (l : List GPart) (nm : ByteArray) (k : Nat) (h : k < l.length) (e : isDef l[k] nm = false) : defsTo l nm (k + 1) = defsTo l nm k := by
  rw [defsTo, List.getElem?_eq_getElem h]
  simp [e]
theorem defsTo_hit (l : List GPart) (nm : ByteArray) (k : Nat) (h : k < l.length) (e : isDef l[k] nm = true) : defsTo l nm (k + 1) = defsTo l nm k ++ [(k : Int)] := by
  rw [defsTo, List.getElem?_eq_getElem h]
  simp [e]

/-- A slice of ints that the call owns. -/
def OwnI (w : World) (base : Nat) (l : List Int) (v : Value) : Prop := w.ownsRow base 3 1 v l.length (l.map (Value.int .i64))
theorem Rs_ints {w : World} : ∀ {l : List Int} {fp : List Nat} {cs : List Value}, Rs w (l.map li) fp cs ↔ fp = [] ∧ cs = l.map (Value.int .i64)
  | [], fp, cs => by rw [List.map_nil, Rs]; rfl
  | x :: l, fp, cs => by
    rw [List.map_cons, Rs]
    constructor
    · rintro ⟨f1, f2, c1, c2, rfl, rfl, ⟨rfl, rfl⟩, h2⟩
      obtain ⟨rfl, rfl⟩ := Rs_ints.1 h2
      exact ⟨rfl, rfl⟩
    · rintro ⟨rfl, rfl⟩
      exact ⟨[], [], [.int .i64 x], l.map (Value.int .i64), rfl, rfl, ⟨rfl, rfl⟩, Rs_ints.2 ⟨rfl, rfl⟩⟩
theorem OwnI.sl {w : World} {base : Nat} {l : List Int} {v : Value} (h : OwnI w base l v) : Sl w (l.map li) v.ownBlock.toList v := by
  have h' : w.ownsRow base 3 1 v (l.map li).length (l.map (Value.int .i64)) := by rw [List.length_map]; exact h
  have := Sl.of_own h' (Rs_ints.2 ⟨rfl, rfl⟩)
  rwa [List.append_nil] at this
theorem li_ones {l : List Int} : ∀ d ∈ l.map li, d.one := fun d h => by obtain ⟨x, _, rfl⟩ := List.mem_map.1 h; rfl
theorem info_int1 : (Tryz.prog.info? 3).map (fun i => (i.zero, i.size, i.bytes)) = some (some (.int .i64 0), 1, 8) := by kernel_rfl
theorem wpList_append_int {w : World} {ops : Array Oper} {rest : List Oper} {o : Oper} {a : Act} {Q : Exit → Act → World → Prop} (hgd : o.guard = none) (s x : Operand)
    (ho : o.op = .call { callee := .builtin .append, args := #[s, x], argTypes := #[29, 29] })
    (base : Nat) (v : Value) (l0 : List Int) (hs : a.eval s = v) (hown : OwnI w base l0 v) (g : Nat) (n : Int) (hx : a.eval x = .slice (some ⟨g, 0, none⟩) 1 1) (hrow : Row w g 3 [.int .i64 n])
    (hn : l0.length + 1 ≤ 2097152) (hbase : base ≤ w.heap.size)
    (h : ∀ v' w', OwnI w' base (l0 ++ [n]) v' → w.grownBy w' v.ownBlock → (v'.ownBlock = v.ownBlock ∨ v'.ownBlock = some w.heap.size) → wpList Tryz.prog ops Q rest (a.put o.dst v') w') : wpList Tryz.prog ops Q (o :: rest) a w := by
  obtain ⟨i0, hi0, hz0, hz1, hz2⟩ := info_parts info_int1
  have hsl : Sl w ([n].map li) [g] (.slice (some ⟨g, 0, none⟩) 1 1) := Sl.of_row hrow (Rs_ints.2 ⟨rfl, rfl⟩) rfl (by unfold maxLen; omega)
  refine wpList_append_sl hgd s x _ ho base 3 i0 _ 1 8 Tryz.underlying29 hi0 hz0 hz1 hz2 rfl (by omega) v l0.length (l0.map (Value.int .i64)) hs hown ([n].map li) [g] _ hx hsl li_ones li_szs (by simp only [List.map_cons, List.map_nil, List.length_cons, List.length_nil]; unfold maxLen; omega) (by simp only [List.map_cons, List.map_nil, List.length_cons, List.length_nil]; omega) hbase ?_
  intro v' w' fp' cs hr _ hown' hg hat
  refine h v' w' ?_ hg hat
  obtain ⟨rfl, rfl⟩ := Rs_ints.1 hr
  unfold OwnI
  rw [List.map_append, List.length_append]
  exact hown'
theorem ownsRow_ge {w : World} {base : Nat} {e : TypeId} {s : Nat} {v : Value} {n : Nat} {xs : List Value} (h : w.ownsRow base e s v n xs) {g : Nat} (hg : v.ownBlock = some g) : base ≤ g := by
  rcases h.2 with ⟨rfl, _⟩ | ⟨g', cap, cur, rfl, hb, _⟩
  · simp [Value.ownBlock] at hg
  · simp [Value.ownBlock] at hg
    omega
theorem OwnI.lit {w : World} {base g : Nat} (hg : w.heap.size = g) (hb : base ≤ g) : OwnI (w.alloc (.cells #[] 3)) base [] (.slice (some ⟨g, 0, none⟩) 0 0) := by
  subst hg
  exact World.ownsRow_lit w #[] 0 hb (by simp) rfl

def DefPost (l : List GPart) (nm : ByteArray) (w : World) (e : Ending) (w' : World) : Prop := ∃ v, e = .returned v ∧ OwnI w' w.heap.size (defsTo l nm l.length) v ∧ Below w.heap.size w w'
theorem bytes_eq_of {a b : ByteArray} (h : a.toList = b.toList) : a = b := by
  rw [ByteArray.toList_eq, ByteArray.toList_eq] at h
  have : a.data = b.data := Array.toList_inj.1 h
  cases a; cases b; simp_all

set_option maxRecDepth 20000 in
set_option maxHeartbeats 4000000 in
theorem definers_impl (l : List GPart) (nm : ByteArray) (fp : List Nat) (v : Value) (w : World) (hS : Sl w (l.map GPart.toD) fp v) (hn : l.length ≤ 1048576) : Calls Tryz.prog 86 #[v, .string nm] w (DefPost l nm w) := by
  obtain ⟨A, c, rfl, hl, hc⟩ := hS.formT
  have hm : l.length ≤ 9223372036854775807 := by omega
  have hn' := Lib.hid hn
  clear hl hc hn
  go_enter Tryz.func86, Tryz.ntmps86
  go_wp2_with fail
  go_loopw [5, 11] (fun nv iv wr => ∃ k : Nat, k ≤ l.length ∧ iv = .int .i64 k ∧ OwnI wr w.heap.size (defsTo l nm k) nv ∧ Below w.heap.size w wr) (fun _ iv _ => l.length - (intOf iv).toNat)
  case atStart => exact ⟨0, by omega, rfl, OwnI.lit rfl (Nat.le_refl _), (Below.refl _ _).alloc (Nat.le_refl _) _⟩
  case round =>
    obtain ⟨k, hk, rfl, ho, hb⟩ := hrel
    by_cases hlt : k < l.length
    · have hd : (l.map GPart.toD)[k]? = some (GPart.toD l[k]) := by rw [List.getElem?_map, List.getElem?_eq_getElem hlt]; rfl
      obtain ⟨b, o, fi, ci, rfl, hbb, hbf, hri, hfi, hat⟩ := hS.elem GPart.szs hd
      obtain ⟨v0, v1, v2, v3, f0, f1, f2, f3, rfl, rfl, hS0, hS1, hS2, hS3⟩ := GPart.opened.1 hri
      have hdl := Lib.hid (defsTo_len l nm k)
      have q0 : wr.cell? ⟨b, o + k * 14, none⟩ = some (.int .i64 l[k].kind) := (hb.cell (p := ⟨b, o + k * 14, none⟩) hbb).trans (hat.head)
      have q1 : wr.cell? ⟨b, o + k * 14 + 1, none⟩ = some (.string l[k].name) := (hb.cell (p := ⟨b, o + k * 14 + 1, none⟩) hbb).trans (hat.nth 1 rfl)
      have q2 : wr.cell? ⟨b, o + k * 14 + 2, none⟩ = some (.int .i64 l[k].expr.kind) := (hb.cell (p := ⟨b, o + k * 14 + 2, none⟩) hbb).trans (hat.nth 2 rfl)
      have q3 : wr.cell? ⟨b, o + k * 14 + 3, none⟩ = some (.int .i64 l[k].expr.n) := (hb.cell (p := ⟨b, o + k * 14 + 3, none⟩) hbb).trans (hat.nth 3 rfl)
      have q4 : wr.cell? ⟨b, o + k * 14 + 4, none⟩ = some (.string l[k].expr.text) := (hb.cell (p := ⟨b, o + k * 14 + 4, none⟩) hbb).trans (hat.nth 4 rfl)
      have q5 : wr.cell? ⟨b, o + k * 14 + 5, none⟩ = some (v0) := (hb.cell (p := ⟨b, o + k * 14 + 5, none⟩) hbb).trans (hat.nth 5 rfl)
      have q6 : wr.cell? ⟨b, o + k * 14 + 6, none⟩ = some (.int .i64 l[k].value.kind) := (hb.cell (p := ⟨b, o + k * 14 + 6, none⟩) hbb).trans (hat.nth 6 rfl)
      have q7 : wr.cell? ⟨b, o + k * 14 + 7, none⟩ = some (.int .i64 l[k].value.n) := (hb.cell (p := ⟨b, o + k * 14 + 7, none⟩) hbb).trans (hat.nth 7 rfl)
      have q8 : wr.cell? ⟨b, o + k * 14 + 8, none⟩ = some (.int .i64 l[k].value.step) := (hb.cell (p := ⟨b, o + k * 14 + 8, none⟩) hbb).trans (hat.nth 8 rfl)
      have q9 : wr.cell? ⟨b, o + k * 14 + 9, none⟩ = some (.string l[k].value.text) := (hb.cell (p := ⟨b, o + k * 14 + 9, none⟩) hbb).trans (hat.nth 9 rfl)
      have q10 : wr.cell? ⟨b, o + k * 14 + 10, none⟩ = some (v1) := (hb.cell (p := ⟨b, o + k * 14 + 10, none⟩) hbb).trans (hat.nth 10 rfl)
      have q11 : wr.cell? ⟨b, o + k * 14 + 11, none⟩ = some (v2) := (hb.cell (p := ⟨b, o + k * 14 + 11, none⟩) hbb).trans (hat.nth 11 rfl)
      have q12 : wr.cell? ⟨b, o + k * 14 + 12, none⟩ = some (v3) := (hb.cell (p := ⟨b, o + k * 14 + 12, none⟩) hbb).trans (hat.nth 12 rfl)
      have q13 : wr.cell? ⟨b, o + k * 14 + 13, none⟩ = some (.int .i64 l[k].pos) := (hb.cell (p := ⟨b, o + k * 14 + 13, none⟩) hbb).trans (hat.nth 13 rfl)
      obtain ⟨B0, c0, rfl, _, _⟩ := hS0.formT
      obtain ⟨B1, c1, rfl, _, _⟩ := hS1.formT
      obtain ⟨B2, c2, rfl, _, _⟩ := hS2.formT
      obtain ⟨B3, c3, rfl, _, _⟩ := hS3.formT
      clear hat hd hri hS0 hS1 hS2 hS3
      have hskip := Lib.hid (defsTo_skip l nm k hlt)
      have hhit := Lib.hid (defsTo_hit l nm k hlt)
      cases e1 : (l[k].kind != 1) with
      | false =>
        go_wp2_with fail
        go_roundw
        case rel => exact ⟨k + 1, by omega, by go_num, by rw [hskip.out (by simp [isDef, e1])]; exact ownsRow_below ho ((Below.refl _ _).alloc (Nat.le_refl _) _), hb.alloc hb.size _⟩
        case measure => (simp [intOf] <;> omega)
      | true =>
        cases e2 : (l[k].name.toList == nm.toList) with
        | false =>
          have e2' := Lib.hid (show ¬ l[k].name = nm from fun e => by simp [e] at e2)
          go_wp2_with fail
          go_roundw
          case rel => exact ⟨k + 1, by omega, by go_num, by rw [hskip.out (by simp [isDef, e1, e2'.out])]; exact ownsRow_below ho ((Below.refl _ _).alloc (Nat.le_refl _) _), hb.alloc hb.size _⟩
          case measure => (simp [intOf] <;> omega)
        | true =>
          have e2' := Lib.hid (show l[k].name = nm from bytes_eq_of (by simpa using e2))
          go_wp2_with (at_builtin; refine wpList_append_int rfl _ _ rfl w.heap.size _ (defsTo l nm k) rfl ?h1 (wr.heap.size + 1) (k : Int) ?hx ?h2 ?h3 ?h4 ?_; rotate_left 5; intro v1 w1 hown1 hg1 hat1; have hz1 := hg1.size)
          case hx => rfl
          case h1 => exact ownsRow_below ho (((Below.refl _ _).alloc (Nat.le_refl _) _).alloc (by simp) _)
          case h2 => have := Row.new (wr.alloc (.cells #[.int .i64 l[k].kind, .string l[k].name, .int .i64 l[k].expr.kind, .int .i64 l[k].expr.n, .string l[k].expr.text, .slice B0 l[k].expr.args.length c0, .int .i64 l[k].value.kind, .int .i64 l[k].value.n, .int .i64 l[k].value.step, .string l[k].value.text, .slice B1 l[k].value.list.length c1, .slice B2 l[k].value.cols.length c2, .slice B3 l[k].value.rows.length c3, .int .i64 l[k].pos] 63)) 3 #[.int .i64 (k : Int)]; simpa using this
          case h3 => have := hdl.out; have := hn'.out; omega
          case h4 => have := hb.size; simp; omega
          go_wp2_with fail
          go_roundw
          case rel =>
            refine ⟨k + 1, by omega, by go_num, by rw [hhit.out (by simp [isDef, e1, e2'.out])]; exact hown1, ?_⟩
            have hs0 := hb.size
            refine Below.grown ((hb.alloc hb.size _).alloc (by simp; omega) _) hg1 (by simp; omega) (fun g hg => ?_)
            have hge := ownsRow_ge ho hg
            omega
          case measure => (simp [intOf] <;> omega)
    · have hf := Lib.hid (show k = l.length by omega)
      go_wp2_with fail
      go_ret
      exact ⟨_, rfl, by rw [← hf.out]; exact ho, hb⟩

set_option maxRecDepth 20000 in
set_option maxHeartbeats 4000000 in
theorem definers_spec (l : List GPart) (nm : ByteArray) (fp : List Nat) (v : Value) (w : World) (hS : Sl w (l.map GPart.toD) fp v) (hn : l.length ≤ 1048576) : Calls Tryz.prog 88 #[v, .string nm] w (DefPost l nm w) := by
  obtain ⟨A, c, rfl, hl, hc⟩ := hS.formT
  have hm : l.length ≤ 9223372036854775807 := by omega
  have hn' := Lib.hid hn
  clear hl hc hn
  go_enter Tryz.func88, Tryz.ntmps88
  go_wp2_with fail
  go_loopw [5, 6] (fun nv iv wr => ∃ k : Nat, k ≤ l.length ∧ iv = .int .i64 k ∧ OwnI wr w.heap.size (defsTo l nm k) nv ∧ Below w.heap.size w wr) (fun _ iv _ => l.length - (intOf iv).toNat)
  case atStart => exact ⟨0, by omega, rfl, OwnI.lit rfl (Nat.le_refl _), (Below.refl _ _).alloc (Nat.le_refl _) _⟩
  case round =>
    obtain ⟨k, hk, rfl, ho, hb⟩ := hrel
    by_cases hlt : k < l.length
    · have hd : (l.map GPart.toD)[k]? = some (GPart.toD l[k]) := by rw [List.getElem?_map, List.getElem?_eq_getElem hlt]; rfl
      obtain ⟨b, o, fi, ci, rfl, hbb, hbf, hri, hfi, hat⟩ := hS.elem GPart.szs hd
      obtain ⟨v0, v1, v2, v3, f0, f1, f2, f3, rfl, rfl, hS0, hS1, hS2, hS3⟩ := GPart.opened.1 hri
      have hdl := Lib.hid (defsTo_len l nm k)
      have q0 : wr.cell? ⟨b, o + k * 14, none⟩ = some (.int .i64 l[k].kind) := (hb.cell (p := ⟨b, o + k * 14, none⟩) hbb).trans (hat.head)
      have q1 : wr.cell? ⟨b, o + k * 14 + 1, none⟩ = some (.string l[k].name) := (hb.cell (p := ⟨b, o + k * 14 + 1, none⟩) hbb).trans (hat.nth 1 rfl)
      clear hat hd hri hS0 hS1 hS2 hS3
      have hskip := Lib.hid (defsTo_skip l nm k hlt)
      have hhit := Lib.hid (defsTo_hit l nm k hlt)
      cases e1 : (l[k].kind != 1) with
      | false =>
        go_wp2_with fail
        go_roundw
        case rel => exact ⟨k + 1, by omega, by go_num, by rw [hskip.out (by simp [isDef, e1])]; exact ho, hb⟩
        case measure => (simp [intOf] <;> omega)
      | true =>
        cases e2 : (l[k].name.toList == nm.toList) with
        | false =>
          have e2' := Lib.hid (show ¬ l[k].name = nm from fun e => by simp [e] at e2)
          go_wp2_with fail
          go_roundw
          case rel => exact ⟨k + 1, by omega, by go_num, by rw [hskip.out (by simp [isDef, e1, e2'.out])]; exact ho, hb⟩
          case measure => (simp [intOf] <;> omega)
        | true =>
          have e2' := Lib.hid (show l[k].name = nm from bytes_eq_of (by simpa using e2))
          go_wp2_with (at_builtin; refine wpList_append_int rfl _ _ rfl w.heap.size _ (defsTo l nm k) rfl ?h1 wr.heap.size (k : Int) ?hx ?h2 ?h3 ?h4 ?_; rotate_left 5; intro v1 w1 hown1 hg1 hat1; have hz1 := hg1.size)
          case hx => rfl
          case h1 => exact ownsRow_below ho ((Below.refl _ _).alloc (Nat.le_refl _) _)
          case h2 => exact Row.new wr 3 #[.int .i64 (k : Int)]
          case h3 => have := hdl.out; have := hn'.out; omega
          case h4 => have := hb.size; simp; omega
          go_wp2_with fail
          go_roundw
          case rel =>
            refine ⟨k + 1, by omega, by go_num, by rw [hhit.out (by simp [isDef, e1, e2'.out])]; exact hown1, ?_⟩
            have hs0 := hb.size
            refine Below.grown (hb.alloc hb.size _) hg1 (by simp; omega) (fun g hg => ?_)
            have hge := ownsRow_ge ho hg
            omega
          case measure => (simp [intOf] <;> omega)
    · have hf := Lib.hid (show k = l.length by omega)
      go_wp2_with fail
      go_ret
      exact ⟨_, rfl, by rw [← hf.out]; exact ho, hb⟩

def resV (D : List Int) : Int := match D with | [] => -1 | [x] => x | _ => -2
set_option maxHeartbeats 1000000 in
theorem resolve_spec (l : List GPart) (nm : ByteArray) (fp : List Nat) (v : Value) (w : World) (hS : Sl w (l.map GPart.toD) fp v) (hn : l.length ≤ 1048576) : Calls Tryz.prog 59 #[v, .string nm] w (RetB (.int .i64 (resV (defsTo l nm l.length))) w) := by
  have hc := definers_spec l nm fp v w hS hn
  have hle := Lib.hid (defsTo_len l nm l.length)
  unfold DefPost at hc
  generalize defsTo l nm l.length = D at *
  obtain ⟨A, c, rfl, _, _⟩ := hS.formT
  clear hS
  go_enter Tryz.func59, Tryz.ntmps59
  go_wp2_with fail
  refine hc.mono ?_
  rintro e w1 ⟨v1, rfl, ho, hb⟩
  have hsl := ho.sl
  obtain ⟨A1, c1, rfl, _, _⟩ := hsl.formT
  match D, ho, hsl, hle with
  | [], ho, hsl, hle =>
    clear ho hsl hle
    go_wp2_with fail
    go_ret
    exact ⟨rfl, hb⟩
  | [x], ho, hsl, hle =>
    obtain ⟨b, o, fi, ci, rfl, hbb, hbf, hri, hfi, hat⟩ := hsl.elem li_szs (k := 0) (d := li x) rfl
    obtain ⟨rfl, rfl⟩ := hri
    have q0 : w1.cell? ⟨b, o, none⟩ = some (.int .i64 x) := by simpa using hat.head
    clear hat ho hsl hle
    go_wp2_with fail
    go_ret
    exact ⟨rfl, hb⟩
  | x :: y :: r, ho, hsl, hle =>
    have hl : (x :: y :: r).length ≤ 1048576 := Nat.le_trans hle.out hn
    rw [List.length_cons, List.length_cons] at hl
    clear ho hsl hle
    go_wp2_with fail
    go_ret
    exact ⟨rfl, hb⟩

def dupB (l : List GPart) (i : Int) : Bool := if 0 ≤ i then (match l[i.toNat]? with | some x => (x.kind != 1) && decide (1 < (defsTo l x.name l.length).length) | none => false) else false
theorem dup_res {l : List GPart} {nm : ByteArray} {n : Nat} : decide (1 < (defsTo l nm n).length) = (resV (defsTo l nm n) == -2) := by
  have hnn : ∀ x ∈ defsTo l nm n, 0 ≤ x := by
    induction n with
    | zero => intro x hx; simp [defsTo] at hx
    | succ k ih =>
      intro x hx
      rw [defsTo, List.mem_append] at hx
      rcases hx with hx | hx
      · exact ih x hx
      · split at hx
        · split at hx
          · simp at hx; omega
          · simp at hx
        · simp at hx
  generalize defsTo l nm n = D at *
  match D, hnn with
  | [], _ => rfl
  | [x], hnn =>
    have := hnn x (by simp)
    simp [resV]
    omega
  | x :: y :: r, _ => simp [resV]

set_option maxRecDepth 20000 in
set_option maxHeartbeats 2000000 in
theorem isDuplicate_impl (l : List GPart) (i : Int) (fp : List Nat) (v : Value) (w : World) (hS : Sl w (l.map GPart.toD) fp v) (hn : l.length ≤ 1048576) : Calls Tryz.prog 57 #[v, .int .i64 i] w (RetB (.bool (dupB l i)) w) := by
  have hc := fun nm => definers_impl l nm fp v w hS hn
  have hS' := hS
  obtain ⟨A, c, rfl, _, _⟩ := hS.formT
  clear hS
  unfold dupB
  by_cases h0 : 0 ≤ i
  · rw [if_pos h0]
    by_cases h1 : i < l.length
    · obtain ⟨k, rfl⟩ := Int.eq_ofNat_of_zero_le h0
      have hlt : k < l.length := by omega
      have hd : (l.map GPart.toD)[k]? = some (GPart.toD l[k]) := by rw [List.getElem?_map, List.getElem?_eq_getElem hlt]; rfl
      obtain ⟨b, o, fi, ci, rfl, hbb, hbf, hri, hfi, hat⟩ := hS'.elem GPart.szs hd
      obtain ⟨v0, v1, v2, v3, f0, f1, f2, f3, rfl, rfl, hS0, hS1, hS2, hS3⟩ := GPart.opened.1 hri
      have q0 : w.cell? ⟨b, o + k * 14, none⟩ = some (.int .i64 l[k].kind) := hat.head
      have q1 : w.cell? ⟨b, o + k * 14 + 1, none⟩ = some (.string l[k].name) := hat.nth 1 rfl
      have hc' := hc l[k].name
      rw [Int.toNat_natCast, List.getElem?_eq_getElem hlt]
      clear hat hd hri hS0 hS1 hS2 hS3 hc hS'
      dsimp only
      cases e1 : (l[k].kind != 1) with
      | false =>
        clear hc'
        go_enter Tryz.func57, Tryz.ntmps57
        go_wp2_with fail
        go_ret
        exact ⟨rfl, Below.refl _ _⟩
      | true =>
        rw [Bool.true_and]
        cases e2 : decide (1 < (defsTo l l[k].name l.length).length) with
        | true =>
          have p2 : (1 : Int) < ((defsTo l l[k].name l.length).length : Int) := by have := of_decide_eq_true e2; omega
          clear e2
          go_enter Tryz.func57, Tryz.ntmps57
          go_wp2_with (go_at_call 86; refine hc'.mono ?_; rintro e w1 ⟨v1, rfl, ho, hb⟩; obtain ⟨A1, c1, rfl, _, _⟩ := ho.sl.formT)
          go_ret
          exact ⟨rfl, hb⟩
        | false =>
          have p2 : ¬ (1 : Int) < ((defsTo l l[k].name l.length).length : Int) := by have := of_decide_eq_false e2; omega
          clear e2
          go_enter Tryz.func57, Tryz.ntmps57
          go_wp2_with (go_at_call 86; refine hc'.mono ?_; rintro e w1 ⟨v1, rfl, ho, hb⟩; obtain ⟨A1, c1, rfl, _, _⟩ := ho.sl.formT)
          go_ret
          exact ⟨ret_bool (decide_eq_false (Int.not_lt.2 p2)), hb⟩
    · have hnone : l[i.toNat]? = none := List.getElem?_eq_none (by omega)
      rw [hnone]
      clear hc hS'
      go_enter Tryz.func57, Tryz.ntmps57
      go_wp2_with fail
      go_ret
      exact ⟨rfl, Below.refl _ _⟩
  · rw [if_neg h0]
    clear hc hS'
    go_enter Tryz.func57, Tryz.ntmps57
    go_wp2_with fail
    go_ret
    exact ⟨rfl, Below.refl _ _⟩

set_option maxRecDepth 20000 in
set_option maxHeartbeats 2000000 in
theorem isDuplicate_spec (l : List GPart) (i : Int) (fp : List Nat) (v : Value) (w : World) (hS : Sl w (l.map GPart.toD) fp v) (hn : l.length ≤ 1048576) : Calls Tryz.prog 56 #[v, .int .i64 i] w (RetB (.bool (dupB l i)) w) := by
  have hc := fun nm => resolve_spec l nm fp v w hS hn
  have hS' := hS
  obtain ⟨A, c, rfl, _, _⟩ := hS.formT
  clear hS
  unfold dupB
  by_cases h0 : 0 ≤ i
  · rw [if_pos h0]
    by_cases h1 : i < l.length
    · obtain ⟨k, rfl⟩ := Int.eq_ofNat_of_zero_le h0
      have hlt : k < l.length := by omega
      have hd : (l.map GPart.toD)[k]? = some (GPart.toD l[k]) := by rw [List.getElem?_map, List.getElem?_eq_getElem hlt]; rfl
      obtain ⟨b, o, fi, ci, rfl, hbb, hbf, hri, hfi, hat⟩ := hS'.elem GPart.szs hd
      obtain ⟨v0, v1, v2, v3, f0, f1, f2, f3, rfl, rfl, hS0, hS1, hS2, hS3⟩ := GPart.opened.1 hri
      have q0 : w.cell? ⟨b, o + k * 14, none⟩ = some (.int .i64 l[k].kind) := hat.head
      have q1 : w.cell? ⟨b, o + k * 14 + 1, none⟩ = some (.string l[k].name) := hat.nth 1 rfl
      have hc' := hc l[k].name
      rw [Int.toNat_natCast, List.getElem?_eq_getElem hlt]
      clear hat hd hri hS0 hS1 hS2 hS3 hc hS'
      dsimp only
      have qin : inR (k : Int) 0 ((l.length : Int) - 1) = true := by unfold inR; simp; omega
      cases e1 : (l[k].kind != 1) with
      | false =>
        clear hc'
        go_enter Tryz.func56, Tryz.ntmps56
        go_wp2_with (go_at_call 55; refine (l1In_any _ _ _ _).mono ?_; rintro e w' ⟨rfl, rfl⟩)
        go_ret
        exact ⟨rfl, Below.refl _ _⟩
      | true =>
        rw [Bool.true_and]
        rw [dup_res]
        generalize resV (defsTo l l[k].name l.length) = rv at *
        cases e2 : (rv == -2) with
        | true =>
          go_enter Tryz.func56, Tryz.ntmps56
          go_wp2_with (first | (go_at_call 55; refine (l1In_any _ _ _ _).mono ?_; rintro e w' ⟨rfl, rfl⟩) | (go_at_call 59; refine hc'.mono ?_; rintro e w1 ⟨rfl, hb⟩))
          go_ret
          exact ⟨rfl, hb⟩
        | false =>
          go_enter Tryz.func56, Tryz.ntmps56
          go_wp2_with (first | (go_at_call 55; refine (l1In_any _ _ _ _).mono ?_; rintro e w' ⟨rfl, rfl⟩) | (go_at_call 59; refine hc'.mono ?_; rintro e w1 ⟨rfl, hb⟩))
          go_ret
          exact ⟨rfl, hb⟩
    · have hnone : l[i.toNat]? = none := List.getElem?_eq_none (by omega)
      rw [hnone]
      clear hc hS'
      have qin : inR i 0 ((l.length : Int) - 1) = false := by unfold inR; simp; omega
      go_enter Tryz.func56, Tryz.ntmps56
      go_wp2_with (go_at_call 55; refine (l1In_any _ _ _ _).mono ?_; rintro e w' ⟨rfl, rfl⟩)
      go_ret
      exact ⟨rfl, Below.refl _ _⟩
  · rw [if_neg h0]
    clear hc hS'
    have qin : inR i 0 ((l.length : Int) - 1) = false := by unfold inR; simp; omega
    go_enter Tryz.func56, Tryz.ntmps56
    go_wp2_with (go_at_call 55; refine (l1In_any _ _ _ _).mono ?_; rintro e w' ⟨rfl, rfl⟩)
    go_ret
    exact ⟨rfl, Below.refl _ _⟩
end Go.Proofs.YtkjodhljaehkjaaGreat
