/-
  The machine's operations as steps: the translation of one operation, and that it is right.
-/
import Derived.Test.YtdjcflnemnknaaaDoorIr4
namespace Go.Proofs.YtdjcflnemnknaaaDoor
open Go.RowKit
set_option linter.unusedSimpArgs false
set_option linter.unusedVariables false

def isAggD : TypeDesc → Bool
  | .struct _ => true
  | .array .. => true
  | _ => false
def ekOk (P : Program) (e s : Nat) : Bool := match P.info? e with
  | some i => (match i.zero with | some z => z.cells.size == s && i.size == s && decide (i.bytes ≤ byN s) && decide (0 < s) | none => false)
  | none => false
def fieldOf (P : Program) (s f : Nat) : Option (Nat × Nat × Bool) := match P.underlying s with
  | some (.struct fs) => (match fs[f]? with
    | some fd => (match P.info? fd.type, P.underlying fd.type with | some i, some d => some (fd.offset, i.size, isAggD d) | _, _ => none)
    | none => none)
  | _ => none
def elemOf' (P : Program) (t : Nat) : Option (Nat × Nat) := match P.underlying t with
  | some (.slice e) => (match P.info? e with | some i => some (e, i.size) | none => none)
  | _ => none
def simpleZ : Value → Bool
  | .bool _ => true
  | .int _ _ => true
  | .string _ => true
  | _ => false
def sameT : Opd → Opd → Bool
  | .t a, .t b => a == b
  | _, _ => false
/-- A type of bytes. -/
def byteE (P : Program) (e : Nat) : Bool := match P.info? e with
  | some i => (match i.zero with | some (.int .u8 0) => i.size == 1 && i.bytes == 1 | _ => false)
  | none => false
theorem byteE_spec {P : Program} {e : Nat} (h : byteE P e = true) : ∃ i, P.info? e = some i ∧ i.zero = some (.int .u8 0) ∧ i.size = 1 ∧ i.bytes = 1 := by
  unfold byteE at h
  split at h
  · next i hi =>
    split at h
    · next hz =>
      simp only [Bool.and_eq_true, beq_iff_eq] at h
      exact ⟨i, hi, hz, h.1, h.2⟩
    · cases h
  · cases h
/-- One operation as a step. -/
def comp1 (P : Program) (own : Bool) (op : Op) : Option I := match op with
  | .move x => some (.mov (opd x))
  | .assign x => some (.mov (opd x))
  | .pick c x y => some (.pick (opd c) (opd x) (opd y))
  | .binOp op t x y _ => (match op, P.underlying t with
    | .eql, some .bool => some (.beq false (opd x) (opd y))
    | .neq, some .bool => some (.beq true (opd x) (opd y))
    | .eql, some (.func _ _ _) => (match y with | .const .nilFunc => some (.fnil false (opd x)) | _ => none)
    | .neq, some (.func _ _ _) => (match y with | .const .nilFunc => some (.fnil true (opd x)) | _ => none)
    | .eql, some (.slice _) => (match y with | .const (.slice none 0 0) => some (.snil false (opd x)) | _ => none)
    | .neq, some (.slice _) => (match y with | .const (.slice none 0 0) => some (.snil true (opd x)) | _ => none)
    | op, _ => some (.bin op (opd x) (opd y)))
  | .unOp .not _ x => some (.not (opd x))
  | .load t x => (match P.info? t, P.underlying t with
    | some i, some d => if isAggD d then some (.load i.size true (opd x)) else some (.load 1 false (opd x))
    | _, _ => none)
  | .store t x y => (match P.info? t with | some i => some (.store i.size (opd x) (opd y)) | none => none)
  | .fieldAddr s x f => (match fieldOf P s f with | some (off, n, _) => if n = 0 then none else some (.fad off (opd x)) | none => none)
  | .indexAddr t x i => (match elemOf' P t with | some (_, s) => some (.iad s (opd x) (opd i)) | none => none)
  | .nilCheck x => some (.nck (opd x))
  | .alloc t => (match P.info? t with | some i => (match i.zero with | some z => some (.alloc z.cells.toList) | none => none) | none => none)
  | .box t x => some (.box (opd x))
  | .makeFunc (.func f) first caps => if first.toList.isEmpty then some (.mkf f (caps.toList.map opd)) else none
  | .buildSlice t n ps => (match elemOf' P t with
    | some (e, s) => if ekOk P e s && decide (n * s ≤ 2 ^ 24) && decide (ps.toList.map (·.1) = List.range n) then some (.brow own e s n false (ps.toList.map fun p => opd p.2)) else none
    | none => none)
  | .makeSlice t l c => (match elemOf' P t with
    | some (e, s) => (match (P.info? e).bind (·.zero) with
      | some z => if s == 1 && ekOk P e 1 && simpleZ z && sameT (opd l) (opd c) then some (.mk e z (opd l)) else none
      | none => none)
    | none => none)
  | .build t ps => (match P.info? t, P.underlying t with
    | some it, some (.struct fields) => (match it.zero, fields.toList.mapM (fun f => (P.info? f.type).map fun i => (f.offset, i.size)) with
      | some z, some places => (match ps.toList.mapM (fun p => (places.toArray[p.1]?).map fun q => (q.1, q.2, opd p.2)) with
        | some l => some (.bld z.cells.toList l)
        | none => none)
      | _, _ => none)
    | _, _ => none)
  | .field t x f => (match fieldOf P t f with | some (off, n, g) => if g then some (.fld off n true (opd x)) else some (.fld off 1 false (opd x)) | none => none)
  | .index t x i => (match P.underlying t with | some .string => some (.sidx (opd x) (opd i)) | _ => none)
  | .slice t x lo hi none => (match P.underlying t with
    | some .string => some (.ssl (opd x) (lo.map opd) (hi.map opd))
    | some (.slice e) => (match P.info? e with | some i => some (.lsl i.size (opd x) (lo.map opd) (hi.map opd)) | none => none)
    | _ => none)
  | .extract x j => some (.ext j (opd x))
  | .convert src dst x => (match P.underlying src, P.underlying dst with
    | some (.int _), some (.int k) => some (.cvi k (opd x))
    | some (.slice e), some .string => (match P.underlying e with | some (.int .u8) => some (.cvs (opd x)) | _ => none)
    | _, _ => none)
  | .call c => (match c.callee with
    | .value (.func f) => (match P.funcs[f]? with
      | some fn => if fn.name == "runtime.NumGoroutine" || fn.body.isNone then none else some (.call f (c.args.toList.map opd))
      | none => none)
    | .builtin .append => (match c.args.toList, c.argTypes.toList with
      | [x, y], [t, t'] => if t = t' then (match elemOf' P t with | some (e, s) => if ekOk P e s then some (.app e s (opd x) (opd y)) else none | none => none) else
          (match P.underlying t, P.underlying t' with
          | some (.slice e), some .string => if byteE P e then some (.apps e (opd x) (opd y)) else none
          | _, _ => none)
      | _, _ => none)
    | .builtin .len => (match c.args.toList, c.argTypes.toList with
      | [x], [t] => (match P.underlying t with | some .string => some (.len true (opd x)) | some (.slice _) => some (.len false (opd x)) | _ => none)
      | _, _ => none)
    | .value (.tmp t) => some (.callv (.t t) (c.args.toList.map opd))
    | _ => none)
  | _ => none

theorem oks_raw {E : Env} {os : List Own} {w : World} : ∀ (l : List Value), Oks E os w (l.map .raw) l
  | [] => trivial
  | v :: l => ⟨rfl, oks_raw l⟩
theorem kav_ok {E : Env} {os : List Own} {w : World} (v : Value) : (kav v).ok E os w v := by
  unfold kav
  split
  · next cs => exact ⟨cs.toList, by simp, oks_raw _⟩
  · exact ⟨rfl, trivial⟩
theorem ev_ok {B : Nat} {Xs : List Nat} {G : Org} {w0 : World} {st : St} {E : Env} {a : Act} {w : World} (h : Rel B Xs G w0 st E a w) (x : Operand) : (st.ev (opd x)).ok E st.owns w (a.eval x) := by
  cases x with
  | tmp t =>
    simp only [opd, St.ev, Act.eval]
    rw [List.getD_eq_getElem?_getD]
    cases hx : st.fr[t]? with
    | none => trivial
    | some y => exact h.fr t y hx
  | const v => exact kav_ok v
  | global g => exact kav_ok (.pointer (some ⟨g, 0, none⟩))
  | func f => exact kav_ok (.func (.func f) #[] #[])

section
variable {P : Program} {B : Nat} {Xs : List Nat} {G : Org} {w0 : World} {st : St} {E : Env} {a : Act} {w : World} {o : Oper} {K : Act → World → Prop} {Q : Exit → Act → World → Prop}
theorem wp_run {v : Value} {w' : World} (h : (execOp a.eval o).run P w = .ok (.value v) w') (hK : K (a.put o.dst v) w') : o.wp P a w K Q := by
  unfold Oper.wp
  rw [h]
  exact hK
theorem raw_of {E : Env} {os : List Own} {w : World} {u v : Value} (h : AV.ok E os w (.c false [.raw u]) v) : v = u := h.1
theorem eval_raw (h : Rel B Xs G w0 st E a w) {x : Operand} {u : Value} (hx : st.ev (opd x) = .c false [.raw u]) : a.eval x = u := raw_of (hx ▸ ev_ok h x)
theorem rawI_of {x : AV} {z : Int} (h : rawI x = some z) : ∃ k, x = .c false [.raw (.int k z)] := by
  unfold rawI at h
  split at h
  · next k z' => injection h with h; subst h; exact ⟨k, rfl⟩
  · cases h
theorem elemOf_spec {t e s : Nat} (h : elemOf' P t = some (e, s)) : P.underlying t = some (.slice e) ∧ ∃ i, P.info? e = some i ∧ i.size = s := by
  unfold elemOf' at h
  split at h
  · next e' he =>
    split at h
    · next i hi =>
      injection h with h
      injection h with h1 h2
      subst h1 h2
      exact ⟨he, i, hi, rfl⟩
    · cases h
  · cases h
theorem fieldOf_spec {s f off n : Nat} {g : Bool} (h : fieldOf P s f = some (off, n, g)) : ∃ fs fd i d, P.underlying s = some (.struct fs) ∧ fs[f]? = some fd ∧ P.info? fd.type = some i ∧ P.underlying fd.type = some d ∧ fd.offset = off ∧ i.size = n ∧ isAggD d = g := by
  unfold fieldOf at h
  split at h
  · next fs hfs =>
    split at h
    · next fd hfd =>
      split at h
      · next i d hi hd =>
        injection h with h
        injection h with h1 h2
        injection h2 with h2 h3
        exact ⟨fs, fd, i, d, hfs, hfd, hi, hd, h1, h2, h3⟩
      · cases h
    · cases h
  · cases h
theorem ekOk_spec {e s : Nat} (h : ekOk P e s = true) : ∃ (i : TypeInfo) (z : Value), P.info? e = some i ∧ i.zero = some z ∧ i.size = s ∧ i.bytes ≤ byN s ∧ z.cells.size = s ∧ 0 < s := by
  unfold ekOk at h
  split at h
  · next i hi =>
    split at h
    · next z hz =>
      simp only [Bool.and_eq_true, beq_iff_eq, decide_eq_true_eq] at h
      exact ⟨i, z, hi, hz, h.1.1.2, h.1.2, h.1.1.1, h.2⟩
    · cases h
  · cases h
theorem addr_add (b o n : Nat) : (⟨b, o, none⟩ : Addr).add n = ⟨b, o + n, none⟩ := by
  unfold Addr.add
  split
  · next h => subst h; rfl
  · rfl
theorem run_loadAt_cells {t : TypeId} {i : TypeInfo} {d : TypeDesc} {b o : Nat} {vs : List Value} (hi : P.info? t = some i) (hd : P.underlying t = some d) (ha : At w b o vs) (g : Bool) (n : Nat)
    (hg : isAggD d = g) (hn : if g then i.size = n else n = 1) (hl : n ≤ vs.length) :
    ∃ v, (Instr.loadAt t (.pointer (some ⟨b, o, none⟩))).run P w = .ok v w ∧ (if g then v = .agg (vs.take n).toArray else vs.take n = [v]) := by
  have hcells : ∀ m, m ≤ vs.length → (loadCells ⟨b, o, none⟩ m).run P w = .ok (vs.take m).toArray w := by
    intro m hm
    have := run_loadCells_list (P := P) w ⟨b, o, none⟩ (vs.take m) (fun j v hj => by
      rw [addr_add]
      rw [List.getElem?_take] at hj
      split at hj
      · exact ha j v hj
      · cases hj)
    rwa [List.length_take, Nat.min_eq_left hm] at this
  cases g with
  | true =>
    refine ⟨.agg (vs.take n).toArray, ?_, by simp⟩
    simp only [if_true] at hn
    subst hn
    have hagg : (isAgg t).run P w = .ok true w := by
      cases d <;> simp_all [isAggD, isAgg, run_underlying hd]
    simp [Instr.loadAt, Instr.sureAddr, loadVar, hagg, sizeOf, typeInfo, hi, hcells _ hl]
  | false =>
    simp only [Bool.false_eq_true, if_false] at hn
    subst hn
    have h0 : 0 < vs.length := by omega
    refine ⟨vs[0], ?_, by simp only [Bool.false_eq_true, if_false]; cases vs with | nil => simp at h0 | cons x xs => simp⟩
    have hagg : (isAgg t).run P w = .ok false w := by
      cases d <;> simp_all [isAggD, isAgg, run_underlying hd]
    have hc : w.cell? ⟨b, o, none⟩ = some vs[0] := by
      have := ha 0 vs[0] (List.getElem?_eq_getElem h0)
      simpa using this
    simp [Instr.loadAt, Instr.sureAddr, loadVar, hagg, hc]
theorem gok_take {E : Env} {os : List Own} {xs : List AC} {vs : List Value} {v : Value} {g : Bool} {n : Nat} (h : Oks E os w xs vs) (hv : if g then v = .agg (vs.take n).toArray else vs.take n = [v]) : AV.ok E os w (.c g (xs.take n)) v := by
  have ht := h.take n
  show Gok E os w g (xs.take n) v
  unfold Gok
  cases g with
  | true =>
    simp only [if_true] at hv ⊢
    exact ⟨_, hv, ht⟩
  | false =>
    simp only [Bool.false_eq_true, if_false] at hv ⊢
    rw [hv] at ht
    exact ht
theorem At.drop {b o n : Nat} {vs : List Value} (h : At w b o vs) : At w b (o + n) (vs.drop n) := fun j u hj => by
  have := h (n + j) u (by rw [List.getElem?_drop] at hj; exact hj)
  rwa [← Nat.add_assoc] at this
end
end Go.Proofs.YtdjcflnemnknaaaDoor
