/-
  The parts that define a name; the reference's Resolve; IsDuplicate; both packages.
-/
import Derived.Test.YtdjcflnemnknaaaDoorApp
import Derived.Test.YtdjcflnemnknaaaDoorNames
namespace Go.Proofs.YtdjcflnemnknaaaDoor
open Go.RowKit
set_option linter.unusedSimpArgs false
set_option linter.unusedVariables false

def isDef (x : GPart) (nm : ByteArray) : Bool := (x.kind != 1) && decide (x.name = nm)
def defsTo (l : List GPart) (nm : ByteArray) : Nat → List Int
  | 0 => []
  | k + 1 => defsTo l nm k ++ (match l[k]? with | some x => if isDef x nm then [(k : Int)] else [] | none => [])
theorem defsTo_len (l : List GPart) (nm : ByteArray) : ∀ k, (defsTo l nm k).length ≤ k
  | 0 => Nat.le_refl _
  | k + 1 => by
    have := defsTo_len l nm k
    rw [defsTo, List.length_append]
    split
    · split <;> simp <;> omega
    · simp; omega
theorem defsTo_skip (l : List GPart) (nm : ByteArray) (k : Nat) (h : k < l.length) (e : isDef l[k] nm = false) : defsTo l nm (k + 1) = defsTo l nm k := by
  rw [defsTo, List.getElem?_eq_getElem h]
  simp [e]
theorem defsTo_hit (l : List GPart) (nm : ByteArray) (k : Nat) (h : k < l.length) (e : isDef l[k] nm = true) : defsTo l nm (k + 1) = defsTo l nm k ++ [(k : Int)] := by
  rw [defsTo, List.getElem?_eq_getElem h]
  simp [e]

/-- A slice of ints that the call owns. -/
def OwnI (w : World) (base : Nat) (l : List Int) (v : Value) : Prop := w.ownsRow base 3 1 v l.length (l.map (Value.int .i64))
theorem Rs_ints {w : World} : ∀ {l : List Int} {fp : List Nat} {cs : List Value}, Rs w (l.map li) fp cs ↔ fp = [] ∧ cs = l.map (Value.int .i64)
  | [], fp, cs => by rw [List.map_nil, Rs]; rfl
  | x :: l, fp, cs => by
    rw [List.map_cons, Rs]
    constructor
    · rintro ⟨f1, f2, c1, c2, rfl, rfl, ⟨rfl, rfl⟩, h2⟩
      obtain ⟨rfl, rfl⟩ := Rs_ints.1 h2
      exact ⟨rfl, rfl⟩
    · rintro ⟨rfl, rfl⟩
      exact ⟨[], [], [.int .i64 x], l.map (Value.int .i64), rfl, rfl, ⟨rfl, rfl⟩, Rs_ints.2 ⟨rfl, rfl⟩⟩
theorem OwnI.sl {w : World} {base : Nat} {l : List Int} {v : Value} (h : OwnI w base l v) : Sl w (l.map li) v.ownBlock.toList v := by
  have h' : w.ownsRow base 3 1 v (l.map li).length (l.map (Value.int .i64)) := by rw [List.length_map]; exact h
  have := Sl.of_own h' (Rs_ints.2 ⟨rfl, rfl⟩)
  rwa [List.append_nil] at this
theorem li_ones {l : List Int} : ∀ d ∈ l.map li, d.one := fun d h => by obtain ⟨x, _, rfl⟩ := List.mem_map.1 h; rfl
theorem info_int1 : (Tryd.prog.info? 3).map (fun i => (i.zero, i.size, i.bytes)) = some (some (.int .i64 0), 1, 8) := by kernel_rfl
theorem wpList_append_int {w : World} {ops : Array Oper} {rest : List Oper} {o : Oper} {a : Act} {Q : Exit → Act → World → Prop} (hgd : o.guard = none) (s x : Operand)
    (ho : o.op = .call { callee := .builtin .append, args := #[s, x], argTypes := #[73, 73] })
    (base : Nat) (v : Value) (l0 : List Int) (hs : a.eval s = v) (hown : OwnI w base l0 v) (g : Nat) (n : Int) (hx : a.eval x = .slice (some ⟨g, 0, none⟩) 1 1) (hrow : Row w g 3 [.int .i64 n])
    (hn : l0.length + 1 ≤ 2097152) (hbase : base ≤ w.heap.size)
    (h : ∀ v' w', OwnI w' base (l0 ++ [n]) v' → w.grownBy w' v.ownBlock → (v'.ownBlock = v.ownBlock ∨ v'.ownBlock = some w.heap.size) → wpList Tryd.prog ops Q rest (a.put o.dst v') w') : wpList Tryd.prog ops Q (o :: rest) a w := by
  obtain ⟨i0, hi0, hz0, hz1, hz2⟩ := info_parts info_int1
  have hsl : Sl w ([n].map li) [g] (.slice (some ⟨g, 0, none⟩) 1 1) := Sl.of_row hrow (Rs_ints.2 ⟨rfl, rfl⟩) rfl (by unfold maxLen; omega)
  refine wpList_append_sl hgd s x _ ho base 3 i0 _ 1 8 Tryd.underlying73 hi0 hz0 hz1 hz2 rfl (by omega) v l0.length (l0.map (Value.int .i64)) hs hown ([n].map li) [g] _ hx hsl li_ones li_szs (by simp only [List.map_cons, List.map_nil, List.length_cons, List.length_nil]; unfold maxLen; omega) (by simp only [List.map_cons, List.map_nil, List.length_cons, List.length_nil]; omega) hbase ?_
  intro v' w' fp' cs hr _ hown' hg hat
  refine h v' w' ?_ hg hat
  obtain ⟨rfl, rfl⟩ := Rs_ints.1 hr
  unfold OwnI
  rw [List.map_append, List.length_append]
  exact hown'
theorem ownsRow_ge {w : World} {base : Nat} {e : TypeId} {s : Nat} {v : Value} {n : Nat} {xs : List Value} (h : w.ownsRow base e s v n xs) {g : Nat} (hg : v.ownBlock = some g) : base ≤ g := by
  rcases h.2 with ⟨rfl, _⟩ | ⟨g', cap, cur, rfl, hb, _⟩
  · simp [Value.ownBlock] at hg
  · simp [Value.ownBlock] at hg
    omega
theorem OwnI.lit {w : World} {base g : Nat} (hg : w.heap.size = g) (hb : base ≤ g) : OwnI (w.alloc (.cells #[] 3)) base [] (.slice (some ⟨g, 0, none⟩) 0 0) := by
  subst hg
  exact World.ownsRow_lit w #[] 0 hb (by simp) rfl

def DefPost (l : List GPart) (nm : ByteArray) (w : World) (e : Ending) (w' : World) : Prop := ∃ v, e = .returned v ∧ OwnI w' w.heap.size (defsTo l nm l.length) v ∧ Below w.heap.size w w'
theorem bytes_eq_of {a b : ByteArray} (h : a.toList = b.toList) : a = b := by
  rw [ByteArray.toList_eq, ByteArray.toList_eq] at h
  have : a.data = b.data := Array.toList_inj.1 h
  cases a; cases b; simp_all

def resV (D : List Int) : Int := match D with | [] => -1 | [x] => x | _ => -2
def dupB (l : List GPart) (i : Int) : Bool := if 0 ≤ i then (match l[i.toNat]? with | some x => (x.kind != 1) && decide (1 < (defsTo l x.name l.length).length) | none => false) else false
theorem dup_res {l : List GPart} {nm : ByteArray} {n : Nat} : decide (1 < (defsTo l nm n).length) = (resV (defsTo l nm n) == -2) := by
  have hnn : ∀ x ∈ defsTo l nm n, 0 ≤ x := by
    induction n with
    | zero => intro x hx; simp [defsTo] at hx
    | succ k ih =>
      intro x hx
      rw [defsTo, List.mem_append] at hx
      rcases hx with hx | hx
      · exact ih x hx
      · split at hx
        · split at hx
          · simp at hx; omega
          · simp at hx
        · simp at hx
  generalize defsTo l nm n = D at *
  match D, hnn with
  | [], _ => rfl
  | [x], hnn =>
    have := hnn x (by simp)
    simp [resV]
    omega
  | x :: y :: r, _ => simp [resV]

end Go.Proofs.YtdjcflnemnknaaaDoor
