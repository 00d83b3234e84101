/-
  The steps' meaning, and what memory does at each.
-/
import Derived.Test.YtdjcflnemnknaaaDoorIr2
namespace Go.Proofs.YtdjcflnemnknaaaDoor
open Go.RowKit
set_option linter.unusedSimpArgs false
set_option linter.unusedVariables false

/-- Bits and shifts, as the machine reckons them. -/
def bAnd (k : IntKind) (a b : Int) : Int := k.wrap (BitVec.ofInt k.bits a &&& BitVec.ofInt k.bits b).toNat
def bOr (k : IntKind) (a b : Int) : Int := k.wrap (BitVec.ofInt k.bits a ||| BitVec.ofInt k.bits b).toNat
def bXor (k : IntKind) (a b : Int) : Int := k.wrap (BitVec.ofInt k.bits a ^^^ BitVec.ofInt k.bits b).toNat
def bNot (k : IntKind) (a b : Int) : Int := k.wrap (BitVec.ofInt k.bits a &&& ~~~BitVec.ofInt k.bits b).toNat
def sShl (k : IntKind) (a b : Int) : Int := k.wrap (a * 2 ^ (min b.toNat k.bits))
def sShr (k : IntKind) (a b : Int) : Int := a.fdiv (2 ^ (min b.toNat k.bits))
/-- Arithmetic, comparison. -/
def vbin (op : BinOp) : Value → Value → Option Value
  | .int k a, .int k' b => match op with
    | .shl => if b < 0 then none else some (.int k (sShl k a b))
    | .shr => if b < 0 then none else some (.int k (sShr k a b))
    | .add => if k = k' then some (.int k (k.wrap (a + b))) else none
    | .sub => if k = k' then some (.int k (k.wrap (a - b))) else none
    | .mul => if k = k' then some (.int k (k.wrap (a * b))) else none
    | .quo => if k = k' then (if b = 0 then none else some (.int k (k.wrap (a.tdiv b)))) else none
    | .rem => if k = k' then (if b = 0 then none else some (.int k (a.tmod b))) else none
    | .and => if k = k' then some (.int k (bAnd k a b)) else none
    | .or => if k = k' then some (.int k (bOr k a b)) else none
    | .xor => if k = k' then some (.int k (bXor k a b)) else none
    | .andNot => if k = k' then some (.int k (bNot k a b)) else none
    | .eql => if k = k' then some (.bool (a == b)) else none
    | .neq => if k = k' then some (.bool (a != b)) else none
    | .lss => if k = k' then some (.bool (decide (a < b))) else none
    | .leq => if k = k' then some (.bool (decide (a ≤ b))) else none
    | .gtr => if k = k' then some (.bool (decide (a > b))) else none
    | .geq => if k = k' then some (.bool (decide (a ≥ b))) else none
  | .string a, .string b => match op with
    | .add => if ((a.size + b.size : Nat) : Int) > IntKind.i64.max then none else some (.string (a ++ b))
    | .eql => some (.bool (a.toList == b.toList))
    | .neq => some (.bool !(a.toList == b.toList))
    | .lss => some (.bool (Op.bytesLess a.toList b.toList))
    | .leq => some (.bool (Op.bytesLess a.toList b.toList || a.toList == b.toList))
    | .gtr => some (.bool !(Op.bytesLess a.toList b.toList || a.toList == b.toList))
    | .geq => some (.bool !(Op.bytesLess a.toList b.toList))
    | _ => none
  | _, _ => none
theorem vbin_run {P : Program} {w : World} {op : BinOp} {t : TypeId} {x y : Operand} {u v z : Value} (h : vbin op u v = some z) :
    (do eqGuard op t x y u v; binOp op t u v : Sem Value).run P w = .ok z w := by
  unfold vbin at h
  split at h
  · next k a k' b =>
    cases op <;> simp only [reduceCtorEq] at h <;> (try (split at h <;> simp only [reduceCtorEq] at h)) <;> (try (split at h <;> simp only [reduceCtorEq] at h)) <;> (try injection h with h) <;> (try subst h) <;>
      simp_all [eqGuard, binOp, Op.intArith, Op.intDiv, Op.intCmp, Op.intBits, Op.shift, bAnd, bOr, bXor, bNot, sShl, sShr] <;> (intro hneg; omega)
  · next a b =>
    cases op <;> simp only [reduceCtorEq] at h <;> (try (split at h <;> simp only [reduceCtorEq] at h)) <;> (try injection h with h) <;> (try subst h) <;>
      simp_all [eqGuard, binOp, Op.stringOp]
  · cases h

def rawI : AV → Option Int | .c false [.raw (.int _ z)] => some z | _ => none
def srcOf (os : List Own) : AV → Option (List D × Bool)
  | .c false [.sl n l] => some (l, n)
  | .c false [.own k i] => match os[k]? with | some o => if o.ver = i then some (o.l, o.nw) else none | none => none
  | .c false [.osub k i a b] => match os[k]? with | some o => if o.ver = i then some ((o.l.take b).drop a, o.nw) else none | none => none
  | .c false [.raw (.slice none 0 0)] => some ([], true)
  | _ => none
def subB (lo : Option Int) (hi : Option Int) (n : Nat) : Option (Nat × Nat) :=
  let l := lo.getD 0
  let h := hi.getD n
  if 0 ≤ l ∧ l ≤ h ∧ h ≤ n then some (l.toNat, h.toNat) else none
/-- A value of one cell. -/
def AC.one : AC → Bool
  | .raw u => u.oneCell'
  | .any => false
  | _ => true
/-- Cells filled in. -/
def fillA (ρ : Opd → AV) : List (Nat × Nat × Opd) → List AC → Option (List AC)
  | [], cs => some cs
  | (off, n, x) :: ps, cs => match ρ x with
    | .c g xs => if xs.length = n ∧ off + n ≤ cs.length ∧ xs.all AC.one = true then fillA ρ ps (cs.take off ++ xs ++ cs.drop (off + n)) else none
    | _ => none

def AV.res : AV → Prop
  | .c _ _ => True
  | .tup _ => True
  | .any => True
  | _ => False
/-- Values in which no slice counts as new. -/
def AC.old : AC → Bool
  | .sl n _ => !n
  | _ => true
def AV.old : AV → Bool
  | .any => true
  | .c _ xs => xs.all AC.old
  | .tup ys => ys.all fun y => y.2.all AC.old
  | _ => false
/-- Pointers to boxes, as their numbers. -/
def capsOf : List AV → Option (List Nat)
  | [] => some []
  | .bptr k 0 :: xs => (capsOf xs).map (k :: ·)
  | _ => none
inductive Res (P : Program) (ρ : Opd → AV) (os : List Own) (bs : List (List AC)) : I → AV → List Own → List (List AC) → Prop
  | mov {x} : Res P ρ os bs (.mov x) (ρ x) os bs
  | pick {c x y b} : ρ c = .c false [.raw (.bool b)] → Res P ρ os bs (.pick c x y) (if b then ρ x else ρ y) os bs
  | bin {op x y u v z} : ρ x = .c false [.raw u] → ρ y = .c false [.raw v] → vbin op u v = some z → Res P ρ os bs (.bin op x y) (.c false [.raw z]) os bs
  | beq {ne x y u v} : ρ x = .c false [.raw (.bool u)] → ρ y = .c false [.raw (.bool v)] → Res P ρ os bs (.beq ne x y) (.c false [.raw (.bool (if ne then !(u == v) else u == v))]) os bs
  | not {x u} : ρ x = .c false [.raw (.bool u)] → Res P ρ os bs (.not x) (.c false [.raw (.bool !u)]) os bs
  | loadP {n g x xs} : ρ x = .ptr xs → n ≤ xs.length → Res P ρ os bs (.load n g x) (.c g (xs.take n)) os bs
  | loadB {n g x xs k off} : ρ x = .bptr k off → bs[k]? = some xs → off + n ≤ xs.length → Res P ρ os bs (.load n g x) (.c g ((xs.drop off).take n)) os bs
  | loadE {n g x k i j off o d} : ρ x = .eptr k i j off → os[k]? = some o → o.ver = i → o.l[j]? = some d → off + n ≤ (d.acs o.nw).length → Res P ρ os bs (.load n g x) (.c g (((d.acs o.nw).drop off).take n)) os bs
  | fadP {off x xs} : ρ x = .ptr xs → off ≤ xs.length → Res P ρ os bs (.fad off x) (.ptr (xs.drop off)) os bs
  | fadB {off x k z} : ρ x = .bptr k z → Res P ρ os bs (.fad off x) (.bptr k (z + off)) os bs
  | fadE {off x k i j z o} : ρ x = .eptr k i j z → os[k]? = some o → o.ver = i → Res P ρ os bs (.fad off x) (.eptr k i j (z + off)) os bs
  | iadS {s x i n l z d} : ρ x = .c false [.sl n l] → rawI (ρ i) = some z → 0 ≤ z → l[z.toNat]? = some d → El s l → Res P ρ os bs (.iad s x i) (.ptr (d.acs n)) os bs
  | iadO {s x i k j o z} : ρ x = .c false [.own k j] → rawI (ρ i) = some z → 0 ≤ z → os[k]? = some o → o.ver = j → z.toNat < o.l.length → o.s = s → Res P ρ os bs (.iad s x i) (.eptr k j z.toNat 0) os bs
  | nckP {x xs} : ρ x = .ptr xs → Res P ρ os bs (.nck x) (.ptr xs) os bs
  | nckB {x k z} : ρ x = .bptr k z → Res P ρ os bs (.nck x) (.bptr k z) os bs
  | alloc {zs} : Res P ρ os bs (.alloc zs) (.bptr bs.length 0) os (bs ++ [zs.map .raw])
  | box {x g xs} : ρ x = .c g xs → xs.all AC.one = true → Res P ρ os bs (.box x) (.bptr bs.length 0) os (bs ++ [xs])
  | store {n x y k off g ys xs} : ρ x = .bptr k off → ρ y = .c g ys → ys.length = n → ys.all AC.one = true → bs[k]? = some xs → off + n ≤ xs.length →
      Res P ρ os bs (.store n x y) .any os (bs.set k (xs.take off ++ ys ++ xs.drop (off + n)))
  | brow {e s n g xs ds} : avsD (xs.map ρ) = some ds → (∀ d ∈ ds, d.sz = s) → ds.length = n → Res P ρ os bs (.brow false e s n g xs) (.c false [.sl ((xs.map ρ).all AV.nw) ds]) os bs
  | cvi {k x k' z} : ρ x = .c false [.raw (.int k' z)] → Res P ρ os bs (.cvi k x) (.c false [.raw (.int k (k.wrap z))]) os bs
  | cvsS {x n l b} : ρ x = .c false [.sl n l] → bytesD l = some b → Res P ρ os bs (.cvs x) (.c false [.raw (.string ⟨b.toArray⟩)]) os bs
  | cvsO {x k i o b} : ρ x = .c false [.own k i] → os[k]? = some o → o.ver = i → bytesD o.l = some b → Res P ρ os bs (.cvs x) (.c false [.raw (.string ⟨b.toArray⟩)]) os bs
  | apps {e x y k i o s} : ρ x = .c false [.own k i] → os[k]? = some o → o.ver = i → o.e = e → o.s = 1 → ρ y = .c false [.raw (.string s)] → o.l.length + s.size ≤ 1073741824 →
      Res P ρ os bs (.apps e x y) (.c false [.own k (i + 1)]) (os.set k ⟨o.l ++ strD s, e, 1, i + 1, o.nw⟩) bs
  | mkO {e z x k} : rawI (ρ x) = some ((k : Nat) : Int) → k ≤ 4194304 → Res P ρ os bs (.mk e z x) (.c false [.own os.length 0]) (os ++ [⟨List.replicate k (.leaf z), e, 1, 0, true⟩]) bs
  | bown {e s n g xs ds} : avsD (xs.map ρ) = some ds → (∀ d ∈ ds, d.sz = s) → ds.length = n → Res P ρ os bs (.brow true e s n g xs) (.c false [.own os.length 0]) (os ++ [⟨ds, e, s, 0, (xs.map ρ).all AV.nw⟩]) bs
  | bld {zs ps cs} : fillA ρ ps (zs.map .raw) = some cs → Res P ρ os bs (.bld zs ps) (.c true cs) os bs
  | fld {off n g x xs} : ρ x = .c true xs → off + n ≤ xs.length → Res P ρ os bs (.fld off n g x) (.c g ((xs.drop off).take n)) os bs
  | sidx {x i s z b} : ρ x = .c false [.raw (.string s)] → rawI (ρ i) = some z → 0 ≤ z → s.data[z.toNat]? = some b → Res P ρ os bs (.sidx x i) (.c false [.raw (.int .u8 b.toNat)]) os bs
  | ssl {x lo hi s l h lo' hi'} : ρ x = .c false [.raw (.string s)] → lo.map (fun y => rawI (ρ y)) = lo'.map some → hi.map (fun y => rawI (ρ y)) = hi'.map some → subB lo' hi' s.size = some (l, h) →
      Res P ρ os bs (.ssl x lo hi) (.c false [.raw (.string (s.extract l h))]) os bs
  | lsl {s x lo hi n l a b lo' hi'} : ρ x = .c false [.sl n l] → lo.map (fun y => rawI (ρ y)) = lo'.map some → hi.map (fun y => rawI (ρ y)) = hi'.map some → subB lo' hi' l.length = some (a, b) → El s l →
      Res P ρ os bs (.lsl s x lo hi) (.c false [.sl n ((l.take b).drop a)]) os bs
  | lslO {s x lo hi k i o a b lo' hi'} : ρ x = .c false [.own k i] → os[k]? = some o → o.ver = i → o.s = s → lo.map (fun y => rawI (ρ y)) = lo'.map some → hi.map (fun y => rawI (ρ y)) = hi'.map some → subB lo' hi' o.l.length = some (a, b) →
      Res P ρ os bs (.lsl s x lo hi) (.c false [.osub k i a b]) os bs
  | iadU {s x i k j p q o z} : ρ x = .c false [.osub k j p q] → rawI (ρ i) = some z → 0 ≤ z → os[k]? = some o → o.ver = j → z.toNat < q - p → o.s = s → Res P ρ os bs (.iad s x i) (.eptr k j (p + z.toNat) 0) os bs
  | lenU {x k i p q o} : ρ x = .c false [.osub k i p q] → os[k]? = some o → o.ver = i → Res P ρ os bs (.len false x) (.c false [.raw (.int .i64 ((q - p : Nat) : Int))]) os bs
  | appU {e s x y k i p q o l n} : ρ x = .c false [.osub k i p q] → os[k]? = some o → o.ver = i → o.e = e → o.s = s → srcOf os (ρ y) = some (l, n) → El s l → o.l.length + l.length ≤ capN s →
      Res P ρ os bs (.app e s x y) (.c false [.own k (i + 1)]) (os.set k ⟨(o.l.take q).drop p ++ l, e, s, i + 1, o.nw && n⟩) bs
  | ext {j x ys g xs} : ρ x = .tup ys → ys[j]? = some (g, xs) → Res P ρ os bs (.ext j x) (.c g xs) os bs
  | call {f xs ds r} : ArgsOk os (xs.map ρ) ds → CallsTo P f ds r → r.res → Res P ρ os bs (.call f xs) r os bs
  | callO {f xs ds g l e s} : ArgsOk os (xs.map ρ) ds → CallsOwnG P f ds g l e s → El s l → Res P ρ os bs (.call f xs) (.c g [.own os.length 0]) (os ++ [⟨l, e, s, 0, true⟩]) bs
  | callX {f xs ds r os'} : ArgsOk os (xs.map ρ) ds → CallsX P f ds r os' → r.out = true → 0 < os'.length → Res P ρ os bs (.call f xs) (r.shift os.length) (os ++ os') bs
  | callA {f xs ds r} : ArgsOk [] (xs.map ρ) ds → CallsToA P f ds r → r.old = true → Res P ρ os bs (.call f xs) r os bs
  | appO {e s x y k i o l n} : ρ x = .c false [.own k i] → os[k]? = some o → o.ver = i → o.e = e → o.s = s → srcOf os (ρ y) = some (l, n) → El s l → o.l.length + l.length ≤ capN s →
      Res P ρ os bs (.app e s x y) (.c false [.own k (i + 1)]) (os.set k ⟨o.l ++ l, e, s, i + 1, o.nw && n⟩) bs
  | appN {e s x y l n} : ρ x = .c false [.raw (.slice none 0 0)] → srcOf os (ρ y) = some (l, n) → El s l → l.length ≤ capN s →
      Res P ρ os bs (.app e s x y) (.c false [.own os.length 0]) (os ++ [⟨l, e, s, 0, n⟩]) bs
  | lenS {x n l} : ρ x = .c false [.sl n l] → Res P ρ os bs (.len false x) (.c false [.raw (.int .i64 l.length)]) os bs
  | lenO {x k i o} : ρ x = .c false [.own k i] → os[k]? = some o → o.ver = i → Res P ρ os bs (.len false x) (.c false [.raw (.int .i64 o.l.length)]) os bs
  | lenT {x s} : ρ x = .c false [.raw (.string s)] → Res P ρ os bs (.len true x) (.c false [.raw (.int .i64 s.size)]) os bs
  | mkf {f xs caps} : capsOf (xs.map ρ) = some caps → Res P ρ os bs (.mkf f xs) (.c false [.cl f caps]) os bs
  | fnilC {ne x f caps} : ρ x = .c false [.cl f caps] → Res P ρ os bs (.fnil ne x) (.c false [.raw (.bool ne)]) os bs
  | fnilN {ne x} : ρ x = .c false [.raw .nilFunc] → Res P ρ os bs (.fnil ne x) (.c false [.raw (.bool (!ne))]) os bs
  | snilZ {ne x} : ρ x = .c false [.raw (.slice none 0 0)] → Res P ρ os bs (.snil ne x) (.c false [.raw (.bool (!ne))]) os bs
  | snilO {ne x k i o} : ρ x = .c false [.own k i] → os[k]? = some o → o.ver = i → 0 < o.l.length → Res P ρ os bs (.snil ne x) (.c false [.raw (.bool ne)]) os bs
  | lenN {x} : ρ x = .c false [.raw (.slice none 0 0)] → Res P ρ os bs (.len false x) (.c false [.raw (.int .i64 0)]) os bs

/-! ### Memory -/
section
variable {B : Nat} {Xs : List Nat} {G : Org} {w0 : World} {fr : List AV} {os : List Own} {bs : List (List AC)} {E : Env} {a : Act} {w w' : World}
theorem M_newBox (E : Env) (p : Nat × TypeId) {b : Nat} : b ∈ ({ E with bm := E.bm ++ [p] } : Env).M ↔ b ∈ E.M ∨ b = p.1 := by
  simp only [Env.M, List.map_append, List.map_cons, List.map_nil, List.mem_append, List.mem_singleton]
  constructor
  · rintro ((h | h) | h)
    · exact Or.inl (Or.inl h)
    · exact Or.inr h
    · exact Or.inl (Or.inr h)
  · rintro ((h | h) | h)
    · exact Or.inl (Or.inl h)
    · exact Or.inr h
    · exact Or.inl (Or.inr h)
theorem M_newOwn (E : Env) (p : Value × List Nat) {b : Nat} : b ∈ ({ E with om := E.om ++ [p] } : Env).M ↔ b ∈ E.M ∨ p.1.ownBlock = some b := by
  simp only [Env.M, List.flatMap_append, List.flatMap_cons, List.flatMap_nil, List.append_nil, List.mem_append]
  rw [or_assoc]
  simp
theorem M_addOwns (E : Env) (om : List (Value × List Nat)) {b : Nat} : b ∈ ({ E with om := E.om ++ om } : Env).M ↔ b ∈ E.M ∨ b ∈ om.flatMap fun q => q.1.ownBlock.toList := by
  simp only [Env.M, List.flatMap_append, List.mem_append]
  rw [or_assoc]
theorem get_app {α : Type} {l m : List α} {y : α} {k : Nat} (h : (l ++ m)[k]? = some y) : l[k]? = some y ∨ (l.length ≤ k ∧ m[k - l.length]? = some y) := by
  rw [List.getElem?_append] at h
  split at h
  · exact Or.inl h
  · exact Or.inr ⟨by omega, h⟩
theorem get_snoc {α : Type} {l : List α} {x y : α} {k : Nat} (h : (l ++ [x])[k]? = some y) : l[k]? = some y ∨ (k = l.length ∧ y = x) := by
  rw [List.getElem?_append] at h
  split at h
  · exact Or.inl h
  · next hk =>
    have : k - l.length = 0 := by
      rcases Nat.eq_zero_or_pos (k - l.length) with h0 | h0
      · exact h0
      · rw [List.getElem?_eq_none (by simp; omega)] at h; cases h
    rw [this] at h
    simp at h
    exact Or.inr ⟨by omega, h.symm⟩
theorem snoc_get {α : Type} {l : List α} {x y : α} {k : Nat} (h : l[k]? = some y) : (l ++ [x])[k]? = some y := by
  rw [List.getElem?_append_left (List.getElem?_eq_some_iff.1 h).1]
  exact h
/-- A new box. -/
theorem Rel.newBox (h : Rel B Xs G w0 ⟨fr, os, bs⟩ E a w) {xs : List AC} {vs : List Value} (e : TypeId) (hx : Oks E os w xs vs) (d : Option Nat) :
    Rel B Xs G w0 (St.put ⟨fr, os, bs ++ [xs]⟩ d (.bptr bs.length 0)) { E with bm := E.bm ++ [(w.heap.size, e)] } (a.put d (.pointer (some ⟨w.heap.size, 0, none⟩))) (w.alloc (.cells vs.toArray e)) := by
  have hb : Below w.heap.size w (w.alloc (.cells vs.toArray e)) := (Below.refl _ _).alloc (Nat.le_refl _) _
  have hS : Sim E os w { E with bm := E.bm ++ [(w.heap.size, e)] } os (w.alloc (.cells vs.toArray e)) :=
    { base := rfl, size := hb.size, blk := fun b hlt _ => hb.block b hlt,
      old := fun b hlt hm => by
        rcases (M_newBox E _).1 hm with h' | h'
        · exact h'
        · simp only at h'; omega
      own := fun k o p h1 h2 => ⟨o, p, h1, h2, Nat.le_refl _, fun _ => ⟨rfl, rfl⟩⟩
      box := fun k p hp => snoc_get hp }
  have hbl : E.bm.length = bs.length := h.blen
  exact
    { eb := h.eb
      ex := h.ex
      sim := by rw [stput_owns]; exact h.sim.trans hS
      defers := by rw [put_defers]; exact h.defers
      size := by rw [put_size, stput_len]; exact h.size
      fr := by
        rw [stput_owns]
        exact fr_put (st := ⟨fr, os, bs ++ [xs]⟩) h.size (fun t y hy => (h.fr t y hy).sim hS) ⟨(w.heap.size, e), by simp [← hbl], rfl⟩
      olen := by rw [stput_owns]; exact h.olen
      own := by
        rw [stput_owns]
        intro k o p h1 h2
        obtain ⟨cs, h3, h4, h6, h5⟩ := h.own k o p h1 h2
        refine ⟨cs, ownsAt_below h3 hb, h4.below hb, h6, fun b hbm => ⟨fun hm => ?_, (h5 b hbm).2⟩⟩
        rcases (M_newBox E _).1 hm with h' | h'
        · exact (h5 b hbm).1 h'
        · have := Rs.lt h4 b hbm
          simp only at h'
          omega
      blen := by rw [stput_boxes]; simp [hbl]
      box := by
        rw [stput_boxes, stput_owns]
        intro k ys p h1 h2
        rcases get_snoc h2 with h2 | ⟨hk, rfl⟩
        · rcases get_snoc h1 with h1 | ⟨hk, rfl⟩
          · obtain ⟨h3, us, h4, h5⟩ := h.box k ys p h1 h2
            exact ⟨h3, us, h4.below hb, h5.sim hS⟩
          · rw [hk, ← hbl, List.getElem?_eq_none (Nat.le_refl _)] at h2; cases h2
        · rw [hk, hbl] at h1
          simp at h1
          subst h1
          exact ⟨h.base, vs, by simpa using Row.new w e vs.toArray, hx.sim hS⟩
      nodup := by
        have := h.nodup
        unfold Env.M at this ⊢
        simp only [List.map_append, List.map_cons, List.map_nil, List.append_assoc]
        rw [List.nodup_append] at this ⊢
        refine ⟨this.1, ?_, ?_⟩
        · rw [List.singleton_append, List.nodup_cons]
          exact ⟨fun hm => by have := (M_lt h (List.mem_append_right _ hm)).2; omega, this.2.1⟩
        · intro x hx y hy e
          subst e
          rcases List.mem_append.1 hy with hy | hy
          · simp at hy
            have := (M_lt h (List.mem_append_left _ hx)).2
            omega
          · exact this.2.2 x hx x hy rfl
      below := h.below.trans (hb.mono h.base)
      base := Nat.le_trans h.base hb.size }
end
end Go.Proofs.YtdjcflnemnknaaaDoor
