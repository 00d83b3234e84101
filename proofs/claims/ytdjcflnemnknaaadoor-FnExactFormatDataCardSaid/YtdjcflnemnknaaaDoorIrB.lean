/-
  Lists of steps, and whole code: what is left to be shown at each, in the states alone.
-/
import Derived.Test.YtdjcflnemnknaaaDoorIrA
namespace Go.Proofs.YtdjcflnemnknaaaDoor
open Go.RowKit
set_option linter.unusedSimpArgs false
set_option linter.unusedVariables false

structure IOp where
  d : Option Nat
  gd : Option (Nat × Bool)
  i : I
def ownFlag (ops : Array Oper) (o : Oper) : Bool := match o.dst with
  | some d => !(ops.any fun p => match p.op with
    | .call c => (match c.callee, c.args.toList with | .builtin .append, [_, .tmp t] => t == d | .value (.func _), l => l.any (fun x => match x with | .tmp t => t == d | _ => false) | _, _ => false)
    | _ => false)
  | none => false
def setOwn (b : Bool) : I → I
  | .brow _ e s n g xs => .brow b e s n g xs
  | i => i
def compOp (P : Program) (ops : Array Oper) (o : Oper) : Option IOp := match comp1 P (ownFlag ops o) o.op with
  | some i => (match o.guard with
    | none => some ⟨o.dst, none, i⟩
    | some (j, want) => (match (ops[j]?).bind (·.dst) with | some g => some ⟨o.dst, some (g, want), i⟩ | none => none))
  | none => none
def compOps (P : Program) (ops : Array Oper) : List Oper → Option (List IOp)
  | [] => some []
  | o :: l => match compOp P ops o, compOps P ops l with | some i, some is => some (i :: is) | _, _ => none

def gdA (st : St) : Option (Nat × Bool) → Option Bool
  | none => some true
  | some (g, want) => match st.fr.getD g .any with
    | .c false [.raw (.bool b)] => some (b == want)
    | .c false [.raw (.tuple _)] => some false
    | _ => none
def idx (l : List D) (z : Option Int) : Option D := match z with | some z => if 0 ≤ z then l[z.toNat]? else none | none => none
def opI (ρ : Opd → AV) : Option Opd → Option (Option Int)
  | none => some none
  | some x => match rawI (ρ x) with | some z => some (some z) | none => none
/-- A step that is reckoned. -/
def ex (ρ : Opd → AV) (os : List Own) (bs : List (List AC)) : I → Option (AV × List Own × List (List AC))
  | .mov x => some (ρ x, os, bs)
  | .pick c x y => (match ρ c with | .c false [.raw (.bool b)] => some (if b then ρ x else ρ y, os, bs) | _ => none)
  | .bin op x y => (match ρ x, ρ y with | .c false [.raw u], .c false [.raw v] => (match vbin op u v with | some z => some (.c false [.raw z], os, bs) | none => none) | _, _ => none)
  | .beq ne x y => (match ρ x, ρ y with | .c false [.raw (.bool u)], .c false [.raw (.bool v)] => some (.c false [.raw (.bool (if ne then !(u == v) else u == v))], os, bs) | _, _ => none)
  | .not x => (match ρ x with | .c false [.raw (.bool u)] => some (.c false [.raw (.bool !u)], os, bs) | _ => none)
  | .load n g x => (match ρ x with
    | .ptr xs => if n ≤ xs.length then some (.c g (xs.take n), os, bs) else none
    | .bptr k off => (match bs[k]? with | some xs => if off + n ≤ xs.length then some (.c g ((xs.drop off).take n), os, bs) else none | none => none)
    | .eptr k i j off => (match os[k]? with
      | some o => if o.ver = i then (match o.l[j]? with | some d => if off + n ≤ (d.acs o.nw).length then some (.c g (((d.acs o.nw).drop off).take n), os, bs) else none | none => none) else none
      | none => none)
    | _ => none)
  | .fad off x => (match ρ x with
    | .ptr xs => if off ≤ xs.length then some (.ptr (xs.drop off), os, bs) else none
    | .bptr k z => some (.bptr k (z + off), os, bs)
    | .eptr k i j z => (match os[k]? with | some o => if o.ver = i then some (.eptr k i j (z + off), os, bs) else none | none => none)
    | _ => none)
  | .nck x => (match ρ x with | .ptr xs => some (.ptr xs, os, bs) | .bptr k z => some (.bptr k z, os, bs) | _ => none)
  | .alloc zs => some (.bptr bs.length 0, os, bs ++ [zs.map .raw])
  | .box x => (match ρ x with | .c g xs => if xs.all AC.one then some (.bptr bs.length 0, os, bs ++ [xs]) else none | _ => none)
  | .store n x y => (match ρ x, ρ y with
    | .bptr k off, .c g ys => if ys.length = n && ys.all AC.one then (match bs[k]? with | some xs => if off + n ≤ xs.length then some (.any, os, bs.set k (xs.take off ++ ys ++ xs.drop (off + n))) else none | none => none) else none
    | _, _ => none)
  | .brow own e s n g xs => (match avsD (xs.map ρ) with
    | some ds => if ds.all (fun d => d.sz == s) && ds.length == n then
        (if own then some (.c false [.own os.length 0], os ++ [⟨ds, e, s, 0, (xs.map ρ).all AV.nw⟩], bs) else some (.c false [.sl ((xs.map ρ).all AV.nw) ds], os, bs)) else none
    | none => none)
  | .mk e z x => (match rawI (ρ x) with
    | some n => if 0 ≤ n then (if n.toNat ≤ 4194304 then some (.c false [.own os.length 0], os ++ [⟨List.replicate n.toNat (.leaf z), e, 1, 0, true⟩], bs) else none) else none
    | none => none)
  | .bld zs ps => (match fillA ρ ps (zs.map .raw) with | some cs => some (.c true cs, os, bs) | none => none)
  | .fld off n g x => (match ρ x with | .c true xs => if off + n ≤ xs.length then some (.c g ((xs.drop off).take n), os, bs) else none | _ => none)
  | .sidx x i => (match ρ x, rawI (ρ i) with
    | .c false [.raw (.string s)], some z => if 0 ≤ z then (match s.data[z.toNat]? with | some b => some (.c false [.raw (.int .u8 b.toNat)], os, bs) | none => none) else none
    | _, _ => none)
  | .ssl x lo hi => (match ρ x, opI ρ lo, opI ρ hi with
    | .c false [.raw (.string s)], some l, some h => (match subB l h s.size with | some (p, q) => some (.c false [.raw (.string (s.extract p q))], os, bs) | none => none)
    | _, _, _ => none)
  | .ext j x => (match ρ x with | .tup ys => (match ys[j]? with | some (g, xs) => some (.c g xs, os, bs) | none => none) | _ => none)
  | .len str x => (match str, ρ x with
    | false, .c false [.sl n l] => some (.c false [.raw (.int .i64 l.length)], os, bs)
    | false, .c false [.own k i] => (match os[k]? with | some o => if o.ver = i then some (.c false [.raw (.int .i64 o.l.length)], os, bs) else none | none => none)
    | false, .c false [.osub k i p q] => (match os[k]? with | some o => if o.ver = i then some (.c false [.raw (.int .i64 ((q - p : Nat) : Int))], os, bs) else none | none => none)
    | true, .c false [.raw (.string s)] => some (.c false [.raw (.int .i64 s.size)], os, bs)
    | false, .c false [.raw (.slice none 0 0)] => some (.c false [.raw (.int .i64 0)], os, bs)
    | _, _ => none)
  | .mkf f xs => (match capsOf (xs.map ρ) with | some cs => some (.c false [.cl f cs], os, bs) | none => none)
  | .fnil ne x => (match ρ x with | .c false [.cl _ _] => some (.c false [.raw (.bool ne)], os, bs) | .c false [.raw .nilFunc] => some (.c false [.raw (.bool (!ne))], os, bs) | _ => none)
  | .snil ne x => (match ρ x with
    | .c false [.raw (.slice none 0 0)] => some (.c false [.raw (.bool (!ne))], os, bs)
    | .c false [.own k i] => (match os[k]? with | some o => if o.ver = i then (if 0 < o.l.length then some (.c false [.raw (.bool ne)], os, bs) else none) else none | none => none)
    | _ => none)
  | .cvi k x => (match ρ x with | .c false [.raw (.int _ z)] => some (.c false [.raw (.int k (k.wrap z))], os, bs) | _ => none)
  | .cvs x => (match ρ x with
    | .c false [.sl n l] => (match bytesD l with | some b => some (.c false [.raw (.string ⟨b.toArray⟩)], os, bs) | none => none)
    | .c false [.own k i] => (match os[k]? with | some o => if o.ver = i then (match bytesD o.l with | some b => some (.c false [.raw (.string ⟨b.toArray⟩)], os, bs) | none => none) else none | none => none)
    | _ => none)
  | .apps e x y => (match ρ x, ρ y with
    | .c false [.own k i], .c false [.raw (.string s)] => (match os[k]? with
      | some o => if o.ver = i then (if o.e = e then (if o.s = 1 then (if o.l.length + s.size ≤ 1073741824 then some (.c false [.own k (i + 1)], os.set k ⟨o.l ++ strD s, e, 1, i + 1, o.nw⟩, bs) else none) else none) else none) else none
      | none => none)
    | _, _ => none)
  | .iad .. => none
  | .lsl .. => none
  | .call .. => none
  | .callv .. => none
  | .app .. => none
theorem opI_spec {ρ : Opd → AV} {lo : Option Opd} {l : Option Int} (h : opI ρ lo = some l) : lo.map (fun y => rawI (ρ y)) = l.map some := by
  cases lo with
  | none => simp only [opI] at h; injection h with h; subst h; rfl
  | some x =>
    simp only [opI] at h
    split at h
    · next z hz => injection h with h; subst h; simp [hz]
    · cases h
theorem ex_res {P : Program} {ρ : Opd → AV} {os os' : List Own} {bs bs' : List (List AC)} {i : I} {r : AV} (h : ex ρ os bs i = some (r, os', bs')) : Res P ρ os bs i r os' bs' := by
  have fin : ∀ {x y : AV × List Own × List (List AC)}, some x = some y → x = y := fun h => Option.some.inj h
  cases i with
  | mov x => cases fin h; exact .mov
  | pick c x y =>
    simp only [ex] at h
    split at h
    · next b hc => cases fin h; exact .pick hc
    · cases h
  | bin op x y =>
    simp only [ex] at h
    split at h
    · next u v hx hy =>
      split at h
      · next z hz => cases fin h; exact .bin hx hy hz
      · cases h
    · cases h
  | beq ne x y =>
    simp only [ex] at h
    split at h
    · next u v hx hy => cases fin h; exact .beq hx hy
    · cases h
  | not x =>
    simp only [ex] at h
    split at h
    · next u hx => cases fin h; exact .not hx
    · cases h
  | mkf f xs =>
    simp only [ex] at h
    split at h
    · next cs hc => cases fin h; exact .mkf hc
    · cases h
  | fnil ne x =>
    simp only [ex] at h
    split at h
    · next hx => cases fin h; exact .fnilC hx
    · next hx => cases fin h; exact .fnilN hx
    · cases h
  | snil ne x =>
    simp only [ex] at h
    split at h
    · next hx => cases fin h; exact .snilZ hx
    · next k i hx =>
      split at h
      · next o ho =>
        split at h
        · next hv =>
          split at h
          · next hl => cases fin h; exact .snilO hx ho hv hl
          · cases h
        · cases h
      · cases h
    · cases h
  | load n g x =>
    simp only [ex] at h
    split at h
    · next xs hx =>
      split at h
      · next hl => cases fin h; exact .loadP hx hl
      · cases h
    · next k off hx =>
      split at h
      · next xs hk =>
        split at h
        · next hl => cases fin h; exact .loadB hx hk hl
        · cases h
      · cases h
    · next k i j off hx =>
      split at h
      · next o ho =>
        split at h
        · next hv =>
          split at h
          · next d hd =>
            split at h
            · next hl => cases fin h; exact .loadE hx ho hv hd hl
            · cases h
          · cases h
        · cases h
      · cases h
    · cases h
  | fad off x =>
    simp only [ex] at h
    split at h
    · next xs hx =>
      split at h
      · next hl => cases fin h; exact .fadP hx hl
      · cases h
    · next k z hx => cases fin h; exact .fadB hx
    · next k i j z hx =>
      split at h
      · next o ho =>
        split at h
        · next hv => cases fin h; exact .fadE hx ho hv
        · cases h
      · cases h
    · cases h
  | nck x =>
    simp only [ex] at h
    split at h
    · next xs hx => cases fin h; exact .nckP hx
    · next k z hx => cases fin h; exact .nckB hx
    · cases h
  | alloc zs => cases fin h; exact .alloc
  | box x =>
    simp only [ex] at h
    split at h
    · next g xs hx =>
      split at h
      · next h1 => cases fin h; exact .box hx h1
      · cases h
    · cases h
  | store n x y =>
    simp only [ex] at h
    split at h
    · next k off g ys hx hy =>
      split at h
      · next h1 =>
        simp only [Bool.and_eq_true, decide_eq_true_eq] at h1
        split at h
        · next xs hk =>
          split at h
          · next hl => cases fin h; exact .store hx hy h1.1 h1.2 hk hl
          · cases h
        · cases h
      · cases h
    · cases h
  | brow own e s n g xs =>
    simp only [ex] at h
    split at h
    · next ds hd =>
      split at h
      · next h1 =>
        simp only [Bool.and_eq_true, beq_iff_eq, List.all_eq_true] at h1
        split at h
        · next ho => cases fin h; rw [ho]; exact .bown hd h1.1 h1.2
        · next ho => cases fin h; rw [show own = false by simpa using ho]; exact .brow hd h1.1 h1.2
      · cases h
    · cases h
  | cvi k x =>
    simp only [ex] at h
    split at h
    · next hx => cases fin h; exact .cvi hx
    · cases h
  | cvs x =>
    simp only [ex] at h
    split at h
    · next n l hx =>
      split at h
      · next b hb => cases fin h; exact .cvsS hx hb
      · cases h
    · next k i hx =>
      split at h
      · next o ho =>
        split at h
        · next hv =>
          split at h
          · next b hb => cases fin h; exact .cvsO hx ho hv hb
          · cases h
        · cases h
      · cases h
    · cases h
  | apps e x y =>
    simp only [ex] at h
    split at h
    · next k i s hx hy =>
      split at h
      · next o ho =>
        split at h
        · next hv =>
          split at h
          · next h1 =>
            split at h
            · next h2 =>
              split at h
              · next h3 => cases fin h; exact .apps hx ho hv h1 h2 hy h3
              · cases h
            · cases h
          · cases h
        · cases h
      · cases h
    · cases h
  | mk e z x =>
    simp only [ex] at h
    split at h
    · next n hn =>
      split at h
      · next h0 =>
        split at h
        · next h1 =>
          cases fin h
          exact .mkO (k := n.toNat) (by rw [hn]; congr 1; omega) h1
        · cases h
      · cases h
    · cases h
  | bld zs ps =>
    simp only [ex] at h
    split at h
    · next cs hf => cases fin h; exact .bld hf
    · cases h
  | fld off n g x =>
    simp only [ex] at h
    split at h
    · next xs hx =>
      split at h
      · next hl => cases fin h; exact .fld hx hl
      · cases h
    · cases h
  | sidx x i =>
    simp only [ex] at h
    split at h
    · next s z hx hz =>
      split at h
      · next h0 =>
        split at h
        · next b hb => cases fin h; exact .sidx hx hz h0 hb
        · cases h
      · cases h
    · cases h
  | ssl x lo hi =>
    simp only [ex] at h
    split at h
    · next s l hh hx hlo hhi =>
      split at h
      · next p q hs => cases fin h; exact .ssl hx (opI_spec hlo) (opI_spec hhi) hs
      · cases h
    · cases h
  | ext j x =>
    simp only [ex] at h
    split at h
    · next ys hx =>
      split at h
      · next g xs hj => cases fin h; exact .ext hx hj
      · cases h
    · cases h
  | len str x =>
    simp only [ex] at h
    split at h
    · next n l hx => cases fin h; exact .lenS hx
    · next k i hx =>
      split at h
      · next o ho =>
        split at h
        · next hv => cases fin h; exact .lenO hx ho hv
        · cases h
      · cases h
    · next k i p q hx =>
      split at h
      · next o ho =>
        split at h
        · next hv => cases fin h; exact .lenU hx ho hv
        · cases h
      · cases h
    · next s hx => cases fin h; exact .lenT hx
    · next hx => cases fin h; exact .lenN hx
    · cases h
  | iad => cases h
  | lsl => cases h
  | call => cases h
  | callv => cases h
  | app => cases h
end Go.Proofs.YtdjcflnemnknaaaDoor
