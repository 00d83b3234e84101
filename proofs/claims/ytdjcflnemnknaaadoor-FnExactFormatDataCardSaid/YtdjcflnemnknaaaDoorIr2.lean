/-
  The steps: what each does to the state, and that the machine's operation does the same.
-/
import Derived.Test.YtdjcflnemnknaaaDoorIr
import Derived.Laws.Tables
import Derived.Great.BuildSlice
import Derived.Laws.CopyRow
import Derived.Laws.Cells
namespace Go.Proofs.YtdjcflnemnknaaaDoor
open Go.RowKit
set_option linter.unusedSimpArgs false
set_option linter.unusedVariables false
/-- How long an own slice may grow, by its elements' number of cells. -/
def capN : Nat → Nat
  | 1 => 2199023255552
  | _ => 4194304
/-- The bytes of an element. -/
def byN : Nat → Nat
  | 1 => 64
  | _ => 1024
theorem capN_1 : capN 1 = 2199023255552 := rfl
theorem capN_2 (n : Nat) : capN (n + 2) = 4194304 := rfl
theorem capN_by (s : Nat) : capN s * byN s ≤ 140737488355328 := by
  unfold capN byN
  split <;> decide
theorem capN_le (s : Nat) : capN s ≤ 2199023255552 := by
  unfold capN
  split <;> decide
theorem byN_le (s : Nat) : byN s ≤ 1024 := by
  unfold byN
  split <;> decide
theorem capN_ge (s : Nat) : 4194304 ≤ capN s := by
  unfold capN
  split <;> decide

inductive Opd where
  | t (n : Nat)
  | k (v : Value)
def opd : Operand → Opd
  | .tmp t => .t t
  | .const v => .k v
  | .global g => .k (.pointer (some ⟨g, 0, none⟩))
  | .func f => .k (.func (.func f) #[] #[])
def kav (v : Value) : AV := match v with | .agg cs => .c true (cs.toList.map .raw) | v => .c false [.raw v]
def St.ev (st : St) : Opd → AV
  | .t n => st.fr.getD n .any
  | .k v => kav v

inductive I where
  | mov (x : Opd)
  | pick (c x y : Opd)
  | bin (op : BinOp) (x y : Opd)
  | beq (ne : Bool) (x y : Opd)
  | not (x : Opd)
  | load (n : Nat) (g : Bool) (x : Opd)
  | fad (off : Nat) (x : Opd)
  | iad (s : Nat) (x i : Opd)
  | nck (x : Opd)
  | alloc (zs : List Value)
  | box (x : Opd)
  | store (n : Nat) (x y : Opd)
  | brow (own : Bool) (e s n : Nat) (g : Bool) (xs : List Opd)
  | bld (zs : List Value) (ps : List (Nat × Nat × Opd))
  | fld (off n : Nat) (g : Bool) (x : Opd)
  | sidx (x i : Opd)
  | ssl (x : Opd) (lo hi : Option Opd)
  | lsl (s : Nat) (x : Opd) (lo hi : Option Opd)
  | ext (j : Nat) (x : Opd)
  | call (f : Nat) (xs : List Opd)
  | app (e s : Nat) (x y : Opd)
  | len (str : Bool) (x : Opd)
  | mkf (f : Nat) (xs : List Opd)
  | fnil (ne : Bool) (x : Opd)
  | snil (ne : Bool) (x : Opd)
  | mk (e : Nat) (z : Value) (n : Opd)
  | callv (x : Opd) (xs : List Opd)
  | cvi (k : IntKind) (x : Opd)
  | cvs (x : Opd)
  | apps (e : Nat) (x y : Opd)

/-- Bytes as data; back. -/
def lu8 (b : UInt8) : D := .leaf (.int .u8 (b.toNat : Int))
def bytesD : List D → Option (List UInt8)
  | [] => some []
  | .leaf (.int .u8 n) :: l => (match bytesD l with | some r => some (UInt8.ofNat n.toNat :: r) | none => none)
  | _ => none
theorem bytesD_map : ∀ (l : List UInt8), bytesD (l.map lu8) = some l
  | [] => rfl
  | b :: l => by
    rw [List.map_cons, lu8, bytesD, bytesD_map l]
    simp
/-- The bytes of a string as data. -/
def strD (s : ByteArray) : List D := s.data.toList.map lu8
theorem strD_len (s : ByteArray) : (strD s).length = s.size := by simp [strD]
/-! ### Data, flat -/
mutual
def D.flat : D → List D
  | .leaf v => [.leaf v]
  | .sl l => [.sl l]
  | .agg l => D.flats l
def D.flats : List D → List D
  | [] => []
  | d :: l => d.flat ++ D.flats l
end
def D.isAgg : D → Bool | .agg _ => true | _ => false
mutual
theorem R_flat {w : World} : ∀ {d : D} {fp : List Nat} {cs : List Value}, R w d fp cs ↔ Rs w d.flat fp cs
  | .leaf v, fp, cs => by rw [D.flat]; exact ⟨Rs.one, Rs.of_one⟩
  | .sl l, fp, cs => by rw [D.flat]; exact ⟨Rs.one, Rs.of_one⟩
  | .agg l, fp, cs => by rw [D.flat, R_agg]; exact Rs_flat
theorem Rs_flat {w : World} : ∀ {l : List D} {fp : List Nat} {cs : List Value}, Rs w l fp cs ↔ Rs w (D.flats l) fp cs
  | [], fp, cs => by rw [D.flats]
  | d :: l, fp, cs => by
    rw [D.flats]
    constructor
    · intro h
      rw [Rs] at h
      obtain ⟨f1, f2, c1, c2, rfl, rfl, h1, h2⟩ := h
      exact Rs.append (Rs_flat.1 h2) (R_flat.1 h1)
    · intro h
      obtain ⟨f1, f2, c1, c2, rfl, rfl, h1, h2⟩ := Rs.split h
      rw [Rs]
      exact ⟨f1, f2, c1, c2, rfl, rfl, R_flat.2 h1, Rs_flat.2 h2⟩
end
def D.ac (n : Bool) : D → AC | .leaf v => .raw v | .sl l => .sl n l | .agg _ => .any
def D.acs (n : Bool) (d : D) : List AC := d.flat.map (D.ac n)
theorem oks_ac {E : Env} {os : List Own} {w : World} {n : Bool} : ∀ {l : List D} {fp : List Nat} {cs : List Value}, (∀ d ∈ l, d.isAgg = false) → Rs w l fp cs → (∀ b ∈ fp, b ∉ E.M ∧ (n = true → E.nw b)) → Oks E os w (l.map (D.ac n)) cs
  | [], fp, cs, _, h, _ => by rw [h.2]; trivial
  | d :: l, fp, cs, hn, h, hf => by
    rw [Rs] at h
    obtain ⟨f1, f2, c1, c2, rfl, rfl, h1, h2⟩ := h
    have ih := oks_ac (E := E) (os := os) (n := n) (fun x hx => hn x (by simp [hx])) h2 (fun b hb => hf b (by simp [hb]))
    cases d with
    | leaf v =>
      obtain ⟨rfl, rfl⟩ := h1
      exact ⟨rfl, ih⟩
    | sl l' =>
      have h1' := h1
      rw [R] at h1
      obtain ⟨A, cap, rfl, _⟩ := h1
      exact ⟨⟨f1, h1', fun b hb => hf b (by simp [hb])⟩, ih⟩
    | agg l' => exact absurd (hn (.agg l') (by simp)) (by simp [D.isAgg])
mutual
theorem flat_noagg : ∀ (d : D), ∀ x ∈ d.flat, x.isAgg = false
  | .leaf v, x, h => by rw [D.flat] at h; simp at h; subst h; rfl
  | .sl l, x, h => by rw [D.flat] at h; simp at h; subst h; rfl
  | .agg l, x, h => by rw [D.flat] at h; exact flats_noagg l x h
theorem flats_noagg : ∀ (l : List D), ∀ x ∈ D.flats l, x.isAgg = false
  | [], x, h => by rw [D.flats] at h; simp at h
  | d :: l, x, h => by
    rw [D.flats] at h
    rcases List.mem_append.1 h with h | h
    · exact flat_noagg d x h
    · exact flats_noagg l x h
end
theorem oks_acs {E : Env} {os : List Own} {w : World} {n : Bool} {d : D} {fp : List Nat} {cs : List Value} (h : R w d fp cs) (hf : ∀ b ∈ fp, b ∉ E.M ∧ (n = true → E.nw b)) : Oks E os w (d.acs n) cs :=
  oks_ac (flat_noagg d) (R_flat.1 h) hf


def AC.toD : AC → Option D
  | .raw v => if v.oneCell' then some (.leaf v) else none
  | .sl _ l => some (.sl l)
  | _ => none
def AC.nw : AC → Bool
  | .raw _ => true
  | .sl n _ => n
  | _ => false
def acsD : List AC → Option (List D)
  | [] => some []
  | x :: xs => match x.toD, acsD xs with | some d, some ds => some (d :: ds) | _, _ => none
/-- The datum of a value. -/
def AV.toD : AV → Option D
  | .c false [x] => x.toD
  | .c true xs => (acsD xs).map .agg
  | _ => none
def AV.nw : AV → Bool
  | .c _ xs => xs.all AC.nw
  | _ => false
def avsD : List AV → Option (List D)
  | [] => some []
  | x :: xs => match x.toD, avsD xs with | some d, some ds => some (d :: ds) | _, _ => none
theorem toD_ok {E : Env} {os : List Own} {w : World} {x : AC} {d : D} {v : Value} (h : x.toD = some d) (hx : x.ok E os w v) : d.one ∧ d.sz = 1 ∧ ∃ fp, R w d fp [v] ∧ ∀ b ∈ fp, b ∉ E.M ∧ (x.nw = true → E.nw b) := by
  cases x with
  | any => simp [AC.toD] at h
  | raw u =>
    simp only [AC.toD] at h
    split at h
    · next ho =>
      injection h with h
      subst h
      obtain rfl := hx
      exact ⟨ho, rfl, [], ⟨rfl, rfl⟩, fun b hb => by simp at hb⟩
    · cases h
  | sl n l =>
    simp only [AC.toD] at h
    injection h with h
    subst h
    obtain ⟨fp, h1, h2⟩ := hx
    exact ⟨trivial, rfl, fp, h1, fun b hb => ⟨(h2 b hb).1, fun e => (h2 b hb).2 e⟩⟩
  | own k i => simp [AC.toD] at h
  | osub k i a b => simp [AC.toD] at h
  | cl f caps => simp [AC.toD] at h
theorem acsD_ok {E : Env} {os : List Own} {w : World} : ∀ {xs : List AC} {ds : List D} {vs : List Value}, acsD xs = some ds → Oks E os w xs vs →
    D.ones ds ∧ D.szs ds = xs.length ∧ ∃ fp, Rs w ds fp vs ∧ ∀ b ∈ fp, b ∉ E.M ∧ (xs.all AC.nw = true → E.nw b)
  | [], ds, [], h, _ => by
    injection h with h
    subst h
    exact ⟨trivial, rfl, [], ⟨rfl, rfl⟩, fun b hb => by simp at hb⟩
  | x :: xs, ds, v :: vs, h, hx => by
    rw [acsD] at h
    split at h
    · next d ds' h1 h2 =>
      injection h with h
      subst h
      obtain ⟨o1, s1, f1, r1, m1⟩ := toD_ok h1 hx.1
      obtain ⟨o2, s2, f2, r2, m2⟩ := acsD_ok h2 hx.2
      refine ⟨⟨o1, o2⟩, by rw [D.szs, s1, s2, List.length_cons]; omega, f1 ++ f2, ⟨f1, f2, [v], vs, rfl, rfl, r1, r2⟩, fun b hb => ?_⟩
      rcases List.mem_append.1 hb with h | h
      · exact ⟨(m1 b h).1, fun e => (m1 b h).2 (by simp at e; exact e.1)⟩
      · exact ⟨(m2 b h).1, fun e => (m2 b h).2 (by simp at e ⊢; exact e.2)⟩
    · cases h
  | [], _, _ :: _, _, h => h.elim
  | _ :: _, _, [], _, h => h.elim
/-- A value's cells hold its datum. -/
theorem AV.toD_ok {E : Env} {os : List Own} {w : World} {x : AV} {d : D} {v : Value} (h : x.toD = some d) (hx : x.ok E os w v) : d.one ∧ d.sz = v.cells.size ∧ ∃ fp, R w d fp v.cells.toList ∧ ∀ b ∈ fp, b ∉ E.M ∧ (x.nw = true → E.nw b) := by
  unfold AV.toD at h
  split at h
  · next y =>
    have hx' : y.ok E os w v := hx.1
    obtain ⟨h1, h2, fp, h3, h4⟩ := Go.Proofs.YtdjcflnemnknaaaDoor.toD_ok h hx'
    have hv : v.cells = #[v] := by
      cases y with
      | raw u =>
        simp only [AC.toD] at h
        split at h
        · obtain rfl := hx'
          cases v <;> simp_all [Value.cells, Value.oneCell']
        · cases h
      | sl n l =>
        obtain ⟨fp', h5, _⟩ := hx'
        obtain ⟨A, c, rfl, _⟩ := Sl.form h5
        rfl
      | any => simp [AC.toD] at h
      | own k i => simp [AC.toD] at h
      | osub k i a b => simp [AC.toD] at h
      | cl f caps => simp [AC.toD] at h
    rw [hv]
    exact ⟨h1, by rw [h2]; rfl, fp, h3, fun b hb => ⟨(h4 b hb).1, fun e => (h4 b hb).2 (by simpa [AV.nw] using e)⟩⟩
  · next xs =>
    obtain ⟨vs, rfl, hxs⟩ := hx
    obtain ⟨ds, h1, h2⟩ := Option.map_eq_some_iff.1 h
    subst h2
    obtain ⟨o1, s1, fp, r1, m1⟩ := acsD_ok h1 hxs
    refine ⟨o1, by rw [D.sz, s1, hxs.len]; simp [Value.cells], fp, by rw [R_agg]; simpa [Value.cells] using r1, fun b hb => ⟨(m1 b hb).1, fun e => (m1 b hb).2 (by simpa [AV.nw] using e)⟩⟩
  · cases h

/-! ### Calls by contract -/
def newEnv (H : Nat) : Env := ⟨H, (List.range H).map fun b => (.slice (some ⟨b, 0, none⟩) 0 0, []), [], []⟩
theorem newEnv_M {H b : Nat} : b ∉ (newEnv H).M ↔ H ≤ b := by
  simp [newEnv, Env.M, Value.ownBlock, List.flatMap_map]
def Rd (w : World) (d : D) (v : Value) : Prop := if d.isAgg then ∃ fp cs, v = .agg cs.toArray ∧ R w d fp cs else ∃ fp, R w d fp [v]
def Rds (w : World) : List D → List Value → Prop
  | [], [] => True
  | d :: ds, v :: vs => Rd w d v ∧ Rds w ds vs
  | _, _ => False
def CallPost (r : AV) (w : World) (e : Ending) (w' : World) : Prop := ∃ v, e = .returned v ∧ r.ok (newEnv w.heap.size) [] w' v ∧ Below w.heap.size w w'
def CallsTo (P : Program) (f : Nat) (ds : List D) (r : AV) : Prop := ∀ w vs, Rds w ds vs → TabP w → Calls P f vs.toArray w (CallPost r w)
/-- A slice, or the struct that holds nothing else. -/
def wrapV (g : Bool) (v : Value) : Value := if g then .agg #[v] else v
def OwnPost (g : Bool) (l : List D) (e s : Nat) (w : World) (en : Ending) (w' : World) : Prop :=
  ∃ v cs f, en = .returned (wrapV g v) ∧ OwnsAt w' w.heap.size e s v l.length cs ∧ Rs w' l f cs ∧ (∀ b ∈ f, some b ≠ v.ownBlock ∧ w.heap.size ≤ b) ∧ Below w.heap.size w w'
def CallsOwnG (P : Program) (f : Nat) (ds : List D) (g : Bool) (l : List D) (e s : Nat) : Prop := ∀ w vs, Rds w ds vs → TabP w → Calls P f vs.toArray w (OwnPost g l e s w)
abbrev CallsOwn (P : Program) (f : Nat) (ds : List D) (l : List D) (e s : Nat) : Prop := CallsOwnG P f ds false l e s
/-! Results with several slices of one's own. -/
def OwnsOk (B : Nat) (w : World) (om : List (Value × List Nat)) (os : List Own) : Prop :=
  om.length = os.length ∧ (∀ (k : Nat) (o : Own) (p : Value × List Nat), os[k]? = some o → om[k]? = some p → ∃ cs, OwnsAt w B o.e o.s p.1 o.l.length cs ∧ Rs w o.l p.2 cs ∧ El o.s o.l ∧ ∀ b ∈ p.2, B ≤ b ∧ b ∉ om.flatMap fun q => q.1.ownBlock.toList) ∧
    (om.flatMap fun q => q.1.ownBlock.toList).Nodup
def OutPost (r : AV) (os : List Own) (w : World) (en : Ending) (w' : World) : Prop :=
  ∃ v om, en = .returned v ∧ OwnsOk w.heap.size w' om os ∧ r.ok ⟨w.heap.size, om, [], []⟩ os w' v ∧ Below w.heap.size w w'
def CallsX (P : Program) (f : Nat) (ds : List D) (r : AV) (os : List Own) : Prop := ∀ w vs, Rds w ds vs → TabP w → Calls P f vs.toArray w (OutPost r os w)
def AC.shift (n : Nat) : AC → AC
  | .own k i => .own (n + k) i
  | x => x
def AV.shift (n : Nat) : AV → AV
  | .c g xs => .c g (xs.map (AC.shift n))
  | .tup ys => .tup (ys.map fun y => (y.1, y.2.map (AC.shift n)))
  | x => x
def AC.out : AC → Bool
  | .sl n _ => n
  | .osub .. => false
  | _ => true
def AV.out : AV → Bool
  | .any => true
  | .c _ xs => xs.all AC.out
  | .tup ys => ys.all fun y => y.2.all AC.out
  | _ => false
/-! Results that may be parts of the arguments. -/
def oldEnv (H : Nat) (F : List Nat) : Env := ⟨H, ((List.range H).filter (fun b => !F.contains b)).map fun b => (.slice (some ⟨b, 0, none⟩) 0 0, []), [], F⟩
theorem oldEnv_M {H b : Nat} {F : List Nat} : b ∉ (oldEnv H F).M ↔ H ≤ b ∨ b ∈ F := by
  simp [oldEnv, Env.M, Value.ownBlock, List.flatMap_map]
  constructor
  · intro h
    rcases Nat.lt_or_ge b H with hlt | hge
    · exact Or.inr (h hlt)
    · exact Or.inl hge
  · rintro (h | h) hlt
    · omega
    · exact h
def RdF (w : World) (F : List Nat) (d : D) (v : Value) : Prop := if d.isAgg then ∃ fp cs, v = .agg cs.toArray ∧ R w d fp cs ∧ ∀ b ∈ fp, b ∈ F else ∃ fp, R w d fp [v] ∧ ∀ b ∈ fp, b ∈ F
def RdsF (w : World) (F : List Nat) : List D → List Value → Prop
  | [], [] => True
  | d :: ds, v :: vs => RdF w F d v ∧ RdsF w F ds vs
  | _, _ => False
def CallPostA (r : AV) (F : List Nat) (w : World) (e : Ending) (w' : World) : Prop := ∃ v, e = .returned v ∧ r.ok (oldEnv w.heap.size F) [] w' v ∧ Below w.heap.size w w'
def CallsToA (P : Program) (f : Nat) (ds : List D) (r : AV) : Prop := ∀ w F vs, (∀ b ∈ F, b < w.heap.size) → RdsF w F ds vs → TabP w → Calls P f vs.toArray w (CallPostA r F w)


def argD (os : List Own) : AC → Option D
  | .own k i => match os[k]? with | some o => if o.ver = i then some (.sl o.l) else none | none => none
  | .osub k i a b => match os[k]? with | some o => if o.ver = i then some (.sl ((o.l.take b).drop a)) else none | none => none
  | x => x.toD
def argsD (os : List Own) : List AC → Option (List D)
  | [] => some []
  | x :: xs => match argD os x, argsD os xs with | some d, some ds => some (d :: ds) | _, _ => none
def ArgOk (os : List Own) (x : AV) (d : D) : Prop := match x with | .c g xs => argsD os xs = some d.flat ∧ g = d.isAgg | _ => False
def ArgsOk (os : List Own) : List AV → List D → Prop
  | [], [] => True
  | x :: xs, d :: ds => ArgOk os x d ∧ ArgsOk os xs ds
  | _, _ => False
end Go.Proofs.YtdjcflnemnknaaaDoor
