/-
  Regions that draw their order: the steps in the order of the text are right in whatever order, where those that touch one another are ordered.
-/
import Derived.Test.YtdjcflnemnknaaaDoorIrC
import Derived.Orders
namespace Go.Proofs.YtdjcflnemnknaaaDoor
open Go.RowKit
set_option linter.unusedSimpArgs false
set_option linter.unusedVariables false

def I.cls : I → Nat
  | .load .. => 2
  | .iad .. => 1
  | .lsl .. => 1
  | .fad .. => 1
  | .nck .. => 1
  | .len .. => 1
  | .snil .. => 1
  | .call .. => 1
  | .app .. => 3
  | .brow true .. => 3
  | .mk .. => 3
  | .apps .. => 3
  | .cvs .. => 1
  | .alloc .. => 4
  | .box .. => 4
  | .store .. => 5
  | _ => 0
def Opd.tmps : Opd → List Nat | .t n => [n] | .k _ => []
def optT : Option Opd → List Nat | some x => x.tmps | none => []
def I.reads : I → List Nat
  | .mov x => x.tmps
  | .pick c x y => c.tmps ++ (x.tmps ++ y.tmps)
  | .bin _ x y => x.tmps ++ y.tmps
  | .beq _ x y => x.tmps ++ y.tmps
  | .not x => x.tmps
  | .load _ _ x => x.tmps
  | .fad _ x => x.tmps
  | .iad _ x i => x.tmps ++ i.tmps
  | .nck x => x.tmps
  | .alloc _ => []
  | .box x => x.tmps
  | .store _ x y => x.tmps ++ y.tmps
  | .brow _ _ _ _ _ xs => xs.flatMap Opd.tmps
  | .bld _ ps => ps.flatMap fun p => p.2.2.tmps
  | .fld _ _ _ x => x.tmps
  | .sidx x i => x.tmps ++ i.tmps
  | .ssl x lo hi => x.tmps ++ (optT lo ++ optT hi)
  | .lsl _ x lo hi => x.tmps ++ (optT lo ++ optT hi)
  | .ext _ x => x.tmps
  | .call _ xs => xs.flatMap Opd.tmps
  | .app _ _ x y => x.tmps ++ y.tmps
  | .len _ x => x.tmps
  | .mkf _ xs => xs.flatMap Opd.tmps
  | .fnil _ x => x.tmps
  | .snil _ x => x.tmps
  | .mk _ _ x => x.tmps
  | .cvi _ x => x.tmps
  | .cvs x => x.tmps
  | .apps _ x y => x.tmps ++ y.tmps
  | .callv x xs => x.tmps ++ xs.flatMap Opd.tmps
def IOp.reads (o : IOp) : List Nat := o.i.reads ++ (match o.gd with | some (g, _) => [g] | none => [])

/-- Two readings of the slots that agree on those that are read. -/
def Agree (l : List Nat) (ρ ρ' : Opd → AV) : Prop := (∀ v, ρ (.k v) = ρ' (.k v)) ∧ ∀ n ∈ l, ρ (.t n) = ρ' (.t n)
section
variable {ρ ρ' : Opd → AV}
theorem Agree.opd {l : List Nat} (h : Agree l ρ ρ') {x : Opd} (hx : ∀ n ∈ x.tmps, n ∈ l) : ρ x = ρ' x := by
  cases x with
  | t n => exact h.2 n (hx n (by simp [Opd.tmps]))
  | k v => exact h.1 v
theorem Agree.map {l : List Nat} (h : Agree l ρ ρ') : ∀ {xs : List Opd}, (∀ n ∈ xs.flatMap Opd.tmps, n ∈ l) → xs.map ρ = xs.map ρ'
  | [], _ => rfl
  | x :: xs, hx => by
    rw [List.map_cons, List.map_cons, h.opd (fun n hn => hx n (by simp [hn])), Agree.map h (fun n hn => hx n (by rw [List.flatMap_cons]; exact List.mem_append_right _ hn))]
theorem Agree.opt {l : List Nat} (h : Agree l ρ ρ') {x : Option Opd} (hx : ∀ n ∈ optT x, n ∈ l) : x.map (fun y => rawI (ρ y)) = x.map (fun y => rawI (ρ' y)) := by
  cases x with
  | none => rfl
  | some x => simp only [Option.map_some]; rw [h.opd hx]
theorem Agree.fill {l : List Nat} (h : Agree l ρ ρ') : ∀ {ps : List (Nat × Nat × Opd)} {cs : List AC}, (∀ n ∈ ps.flatMap (fun p => p.2.2.tmps), n ∈ l) → fillA ρ ps cs = fillA ρ' ps cs
  | [], _, _ => rfl
  | (off, n, x) :: ps, cs, hx => by
    rw [fillA, fillA, h.opd (fun n hn => hx n (by simp [hn]))]
    split
    · split
      · exact Agree.fill h (fun n hn => hx n (by rw [List.flatMap_cons]; exact List.mem_append_right _ hn))
      · rfl
    · rfl
theorem Res.congr {P : Program} {os os' : List Own} {bs bs' : List (List AC)} {i : I} {r : AV} (h : Res P ρ os bs i r os' bs') (ha : Agree i.reads ρ ρ') : Res P ρ' os bs i r os' bs' := by
  have e : ∀ {x : Opd}, (∀ n ∈ x.tmps, n ∈ i.reads) → ρ x = ρ' x := fun hx => ha.opd hx
  cases h with
  | @mov x => rw [e (x := x) (fun n hn => hn)]; exact .mov
  | @pick c x y b hc =>
    rw [e (x := x) (fun n hn => by simp [I.reads, hn]), e (x := y) (fun n hn => by simp [I.reads, hn])]
    rw [e (x := c) (fun n hn => by simp [I.reads, hn])] at hc
    exact .pick hc
  | bin hx hy hz =>
    rw [e (fun n hn => by simp [I.reads, hn])] at hx hy
    exact .bin hx hy hz
  | beq hx hy =>
    rw [e (fun n hn => by simp [I.reads, hn])] at hx hy
    exact .beq hx hy
  | mkf h1 => rw [ha.map (fun n hn => hn)] at h1; exact .mkf h1
  | fnilC hx => rw [e (fun n hn => by simp [I.reads, hn])] at hx; exact .fnilC hx
  | fnilN hx => rw [e (fun n hn => by simp [I.reads, hn])] at hx; exact .fnilN hx
  | snilZ hx => rw [e (fun n hn => by simp [I.reads, hn])] at hx; exact .snilZ hx
  | snilO hx ho hv hl => rw [e (fun n hn => by simp [I.reads, hn])] at hx; exact .snilO hx ho hv hl
  | not hx =>
    rw [e (fun n hn => by simp [I.reads, hn])] at hx
    exact .not hx
  | loadP hx hl => rw [e (fun n hn => by simp [I.reads, hn])] at hx; exact .loadP hx hl
  | loadB hx hk hl => rw [e (fun n hn => by simp [I.reads, hn])] at hx; exact .loadB hx hk hl
  | loadE hx ho hv hd hl => rw [e (fun n hn => by simp [I.reads, hn])] at hx; exact .loadE hx ho hv hd hl
  | fadP hx hl => rw [e (fun n hn => by simp [I.reads, hn])] at hx; exact .fadP hx hl
  | fadB hx => rw [e (fun n hn => by simp [I.reads, hn])] at hx; exact .fadB hx
  | fadE hx ho hv => rw [e (fun n hn => by simp [I.reads, hn])] at hx; exact .fadE hx ho hv
  | iadS hx hi h0 hl hel => rw [e (fun n hn => by simp [I.reads, hn])] at hx hi; exact .iadS hx hi h0 hl hel
  | iadO hx hi h0 ho hv hl hs => rw [e (fun n hn => by simp [I.reads, hn])] at hx hi; exact .iadO hx hi h0 ho hv hl hs
  | iadU hx hi h0 ho hv hl hs => rw [e (fun n hn => by simp [I.reads, hn])] at hx hi; exact .iadU hx hi h0 ho hv hl hs
  | lenU hx ho hv => rw [e (fun n hn => by simp [I.reads, hn])] at hx; exact .lenU hx ho hv
  | nckP hx => rw [e (fun n hn => by simp [I.reads, hn])] at hx; exact .nckP hx
  | nckB hx => rw [e (fun n hn => by simp [I.reads, hn])] at hx; exact .nckB hx
  | alloc => exact .alloc
  | box hx h1 => rw [e (fun n hn => by simp [I.reads, hn])] at hx; exact .box hx h1
  | store hx hy hl h1 hk ho => rw [e (fun n hn => by simp [I.reads, hn])] at hx hy; exact .store hx hy hl h1 hk ho
  | brow hd hs hl => rw [ha.map (fun n hn => hn)] at hd ⊢; exact .brow hd hs hl
  | mkO hx hk => rw [e (fun n hn => by simp [I.reads, hn])] at hx; exact .mkO hx hk
  | cvi hx => rw [e (fun n hn => by simp [I.reads, hn])] at hx; exact .cvi hx
  | cvsS hx hb => rw [e (fun n hn => by simp [I.reads, hn])] at hx; exact .cvsS hx hb
  | cvsO hx ho hv hb => rw [e (fun n hn => by simp [I.reads, hn])] at hx; exact .cvsO hx ho hv hb
  | apps hx ho hv h1 h2 hy h3 => rw [e (fun n hn => by simp [I.reads, hn])] at hx hy; exact .apps hx ho hv h1 h2 hy h3
  | bown hd hs hl => rw [ha.map (fun n hn => hn)] at hd ⊢; exact .bown hd hs hl
  | bld hf => rw [ha.fill (fun n hn => hn)] at hf; exact .bld hf
  | fld hx hl => rw [e (fun n hn => by simp [I.reads, hn])] at hx; exact .fld hx hl
  | sidx hx hi h0 hb => rw [e (fun n hn => by simp [I.reads, hn])] at hx hi; exact .sidx hx hi h0 hb
  | ssl hx h1 h2 h3 =>
    rw [e (fun n hn => by simp [I.reads, hn])] at hx
    rw [ha.opt (fun n hn => by simp [I.reads, hn])] at h1 h2
    exact .ssl hx h1 h2 h3
  | lsl hx h1 h2 h3 h4 =>
    rw [e (fun n hn => by simp [I.reads, hn])] at hx
    rw [ha.opt (fun n hn => by simp [I.reads, hn])] at h1 h2
    exact .lsl hx h1 h2 h3 h4
  | lslO hx ho hv hs h1 h2 h3 =>
    rw [e (fun n hn => by simp [I.reads, hn])] at hx
    rw [ha.opt (fun n hn => by simp [I.reads, hn])] at h1 h2
    exact .lslO hx ho hv hs h1 h2 h3
  | ext hx hj => rw [e (fun n hn => by simp [I.reads, hn])] at hx; exact .ext hx hj
  | call h1 h2 h3 => rw [ha.map (fun n hn => hn)] at h1; exact .call h1 h2 h3
  | callO h1 h2 h3 => rw [ha.map (fun n hn => hn)] at h1; exact .callO h1 h2 h3
  | callX h1 h2 h3 h4 => rw [ha.map (fun n hn => hn)] at h1; exact .callX h1 h2 h3 h4
  | callA h1 h2 h3 => rw [ha.map (fun n hn => hn)] at h1; exact .callA h1 h2 h3
  | appO hx ho hv h1 h2 hs hl hn =>
    rw [e (fun n hn => by simp [I.reads, hn])] at hx hs
    exact .appO hx ho hv h1 h2 hs hl hn
  | appU hx ho hv h1 h2 hs hl hn =>
    rw [e (fun n hn => by simp [I.reads, hn])] at hx hs
    exact .appU hx ho hv h1 h2 hs hl hn
  | appN hx hs hl hn =>
    rw [e (fun n hn => by simp [I.reads, hn])] at hx hs
    exact .appN hx hs hl hn
  | lenS hx => rw [e (fun n hn => by simp [I.reads, hn])] at hx; exact .lenS hx
  | lenO hx ho hv => rw [e (fun n hn => by simp [I.reads, hn])] at hx; exact .lenO hx ho hv
  | lenT hx => rw [e (fun n hn => by simp [I.reads, hn])] at hx; exact .lenT hx
  | lenN hx => rw [e (fun n hn => by simp [I.reads, hn])] at hx; exact .lenN hx
end

/-! ### What each class of steps touches -/
section
variable {P : Program} {ρ : Opd → AV} {os os' : List Own} {bs bs' : List (List AC)} {i : I} {r : AV}
theorem self_snoc {α : Type} {l : List α} {x : α} (h : l = l ++ [x]) : False := by
  have := congrArg List.length h
  simp at this
theorem cls0 (h : Res P ρ os bs i r os' bs') (hc : i.cls = 0) : os' = os ∧ bs' = bs ∧ ∀ os2 bs2, Res P ρ os2 bs2 i r os2 bs2 := by
  cases h <;> first
    | (simp [I.cls] at hc; done)
    | exact ⟨rfl, rfl, fun _ _ => .mov⟩
    | exact ⟨rfl, rfl, fun _ _ => .pick (by assumption)⟩
    | exact ⟨rfl, rfl, fun _ _ => .bin (by assumption) (by assumption) (by assumption)⟩
    | exact ⟨rfl, rfl, fun _ _ => .beq (by assumption) (by assumption)⟩
    | exact ⟨rfl, rfl, fun _ _ => .not (by assumption)⟩
    | exact ⟨rfl, rfl, fun _ _ => .cvi (by assumption)⟩
    | exact ⟨rfl, rfl, fun _ _ => .mkf (by assumption)⟩
    | exact ⟨rfl, rfl, fun _ _ => .fnilC (by assumption)⟩
    | exact ⟨rfl, rfl, fun _ _ => .fnilN (by assumption)⟩
    | exact ⟨rfl, rfl, fun _ _ => .brow (by assumption) (by assumption) (by assumption)⟩
    | exact ⟨rfl, rfl, fun _ _ => .bld (by assumption)⟩
    | exact ⟨rfl, rfl, fun _ _ => .fld (by assumption) (by assumption)⟩
    | exact ⟨rfl, rfl, fun _ _ => .sidx (by assumption) (by assumption) (by assumption) (by assumption)⟩
    | exact ⟨rfl, rfl, fun _ _ => .ssl (by assumption) (by assumption) (by assumption) (by assumption)⟩
    | exact ⟨rfl, rfl, fun _ _ => .ext (by assumption) (by assumption)⟩
theorem cls1 (h : Res P ρ os bs i r os' bs') (hc : i.cls = 1) (he : os' = os) : bs' = bs ∧ ∀ bs2, Res P ρ os bs2 i r os bs2 := by
  cases h <;> first
    | (simp [I.cls] at hc; done)
    | exact ⟨rfl, fun _ => .iadS (by assumption) (by assumption) (by assumption) (by assumption) (by assumption)⟩
    | exact ⟨rfl, fun _ => .iadO (by assumption) (by assumption) (by assumption) (by assumption) (by assumption) (by assumption) (by assumption)⟩
    | exact ⟨rfl, fun _ => .iadU (by assumption) (by assumption) (by assumption) (by assumption) (by assumption) (by assumption) (by assumption)⟩
    | exact ⟨rfl, fun _ => .lsl (by assumption) (by assumption) (by assumption) (by assumption) (by assumption)⟩
    | exact ⟨rfl, fun _ => .lslO (by assumption) (by assumption) (by assumption) (by assumption) (by assumption) (by assumption) (by assumption)⟩
    | exact ⟨rfl, fun _ => .lenU (by assumption) (by assumption) (by assumption)⟩
    | exact ⟨rfl, fun _ => .fadP (by assumption) (by assumption)⟩
    | exact ⟨rfl, fun _ => .fadB (by assumption)⟩
    | exact ⟨rfl, fun _ => .fadE (by assumption) (by assumption) (by assumption)⟩
    | exact ⟨rfl, fun _ => .nckP (by assumption)⟩
    | exact ⟨rfl, fun _ => .nckB (by assumption)⟩
    | exact ⟨rfl, fun _ => .lenS (by assumption)⟩
    | exact ⟨rfl, fun _ => .cvsS (by assumption) (by assumption)⟩
    | exact ⟨rfl, fun _ => .cvsO (by assumption) (by assumption) (by assumption) (by assumption)⟩
    | exact ⟨rfl, fun _ => .lenO (by assumption) (by assumption) (by assumption)⟩
    | exact ⟨rfl, fun _ => .lenT (by assumption)⟩
    | exact ⟨rfl, fun _ => .snilZ (by assumption)⟩
    | exact ⟨rfl, fun _ => .snilO (by assumption) (by assumption) (by assumption) (by assumption)⟩
    | exact ⟨rfl, fun _ => .lenN (by assumption)⟩
    | exact ⟨rfl, fun _ => .call (by assumption) (by assumption) (by assumption)⟩
    | exact ⟨rfl, fun _ => .callA (by assumption) (by assumption) (by assumption)⟩
    | exact (self_snoc he.symm).elim
    | (exfalso; have := congrArg List.length he; rw [List.length_append] at this; omega)
theorem cls2 (h : Res P ρ os bs i r os' bs') (hc : i.cls = 2) : os' = os ∧ bs' = bs ∧ (∀ z, Res P ρ os (bs ++ [z]) i r os (bs ++ [z])) ∧
    ∀ bs2 z, bs = bs2 ++ [z] → (∀ v, ρ (.k v) = kav v) → (∀ x, ∀ n ∈ i.reads, x = .t n → ∀ k off, ρ x = .bptr k off → k < bs2.length) → Res P ρ os bs2 i r os bs2 := by
  cases h <;> first
    | (simp [I.cls] at hc; done)
    | exact ⟨rfl, rfl, fun _ => .loadP (by assumption) (by assumption), fun _ _ _ _ _ => .loadP (by assumption) (by assumption)⟩
    | exact ⟨rfl, rfl, fun _ => .loadE (by assumption) (by assumption) (by assumption) (by assumption) (by assumption), fun _ _ _ _ _ => .loadE (by assumption) (by assumption) (by assumption) (by assumption) (by assumption)⟩
    | skip
  next n g x xs k off hx hk hl =>
    refine ⟨rfl, rfl, fun z => .loadB hx (snoc_get hk) hl, fun bs2 z hb hkv hwf => ?_⟩
    subst hb
    cases x with
    | t m =>
      have := hwf (.t m) m (by simp [I.reads, Opd.tmps]) rfl k off hx
      rw [List.getElem?_append_left this] at hk
      exact .loadB hx hk hl
    | k v =>
      rw [hkv v] at hx
      unfold kav at hx
      split at hx <;> cases hx
theorem cls3 (h : Res P ρ os bs i r os' bs') (hc : i.cls = 3) : bs' = bs ∧ ∀ bs2, Res P ρ os bs2 i r os' bs2 := by
  cases h <;> first
    | (simp [I.cls] at hc; done)
    | exact ⟨rfl, fun _ => .bown (by assumption) (by assumption) (by assumption)⟩
    | exact ⟨rfl, fun _ => .mkO (by assumption) (by assumption)⟩
    | exact ⟨rfl, fun _ => .apps (by assumption) (by assumption) (by assumption) (by assumption) (by assumption) (by assumption) (by assumption)⟩
    | exact ⟨rfl, fun _ => .appO (by assumption) (by assumption) (by assumption) (by assumption) (by assumption) (by assumption) (by assumption) (by assumption)⟩
    | exact ⟨rfl, fun _ => .appU (by assumption) (by assumption) (by assumption) (by assumption) (by assumption) (by assumption) (by assumption) (by assumption)⟩
    | exact ⟨rfl, fun _ => .appN (by assumption) (by assumption) (by assumption) (by assumption)⟩
theorem cls4 (h : Res P ρ os bs i r os' bs') (hc : i.cls = 4) : os' = os ∧ (∃ z, bs' = bs ++ [z]) ∧ ∀ os2, Res P ρ os2 bs i r os2 bs' := by
  cases h <;> first
    | (simp [I.cls] at hc; done)
    | exact ⟨rfl, ⟨_, rfl⟩, fun _ => .alloc⟩
    | exact ⟨rfl, ⟨_, rfl⟩, fun _ => .box (by assumption) (by assumption)⟩
theorem cls5 (h : Res P ρ os bs i r os' bs') (hc : i.cls = 5) : os' = os ∧ ∀ os2, Res P ρ os2 bs i r os2 bs' := by
  cases h <;> first
    | (simp [I.cls] at hc; done)
    | exact ⟨rfl, fun _ => .store (by assumption) (by assumption) (by assumption) (by assumption) (by assumption) (by assumption)⟩
theorem cls_le (i : I) : i.cls = 0 ∨ i.cls = 1 ∨ i.cls = 2 ∨ i.cls = 3 ∨ i.cls = 4 ∨ i.cls = 5 := by
  cases i <;> (try (simp [I.cls]; done))
  next own e s n g xs => cases own <;> simp [I.cls]
end
/-- What own slices are seen at a step: none, where the region grows some. -/
def mo (m : Bool) (st : St) : List Own := if m then [] else st.owns
def eff (i : I) : Bool := decide (3 ≤ i.cls)
/-- One step in a region that draws. -/
inductive DStep (P : Program) (m : Bool) (o : IOp) (st : St) : St → Prop
  | pure {r bs'} : gdA st o.gd = some true → eff o.i = false → Res P st.ev (mo m st) st.boxes o.i r (mo m st) bs' → DStep P m o st (St.put ⟨st.fr, st.owns, bs'⟩ o.d r)
  | eff {r os' bs'} : gdA st o.gd = some true → eff o.i = true → Res P st.ev st.owns st.boxes o.i r os' bs' → DStep P m o st (St.put ⟨st.fr, os', bs'⟩ o.d r)
  | skip : gdA st o.gd = some false → DStep P m o st (st.put o.d (.c false [.raw undef]))
  | callV {x xs f caps r os' bs'} : gdA st o.gd = some true → o.i = .callv x xs → st.ev x = .c false [.cl f caps] → fnOk P f = true → CallsS P f (xs.map st.ev ++ caps.map fun k => .bptr k 0) st.owns st.boxes r os' bs' → DStep P m o st (St.put ⟨st.fr, os', bs'⟩ o.d r)
theorem argD_mono {os : List Own} {x : AC} {d : D} (h : argD [] x = some d) : argD os x = some d := by
  cases x with
  | own k i => simp [argD] at h
  | osub k i a b => simp [argD] at h
  | cl f caps => exact h
  | any => exact h
  | raw v => exact h
  | sl n l => exact h
theorem argsD_mono {os : List Own} : ∀ {xs : List AC} {ds : List D}, argsD [] xs = some ds → argsD os xs = some ds
  | [], _, h => h
  | x :: xs, ds, h => by
    rw [argsD] at h ⊢
    split at h
    · next d ds' h1 h2 => rw [argD_mono h1, argsD_mono h2]; exact h
    · cases h
theorem argsOk_mono {os : List Own} : ∀ {xs : List AV} {ds : List D}, ArgsOk [] xs ds → ArgsOk os xs ds
  | [], [], h => h
  | x :: xs, d :: ds, h => by
    refine ⟨?_, argsOk_mono h.2⟩
    have h1 := h.1
    cases x with
    | c g xs => exact ⟨argsD_mono h1.1, h1.2⟩
    | _ => exact h1.elim
  | [], _ :: _, h => h.elim
  | _ :: _, [], h => h.elim
theorem res_mono' {P : Program} {ρ : Opd → AV} {os o1 o2 : List Own} {bs bs' : List (List AC)} {i : I} {r : AV} (h : Res P ρ o1 bs i r o2 bs') (h1 : o1 = []) (h2 : o2 = []) (hc : eff i = false) : Res P ρ os bs i r os bs' := by
  rcases cls_le i with h0 | h0 | h0 | h0 | h0 | h0
  · obtain ⟨_, h2, h3⟩ := cls0 h h0; subst h2; exact h3 _ _
  · cases h <;> first
      | (simp [I.cls] at h0; done)
      | exact .iadS (by assumption) (by assumption) (by assumption) (by assumption) (by assumption)
      | exact .lsl (by assumption) (by assumption) (by assumption) (by assumption) (by assumption)
      | exact .fadP (by assumption) (by assumption)
      | exact .fadB (by assumption)
      | exact .nckP (by assumption)
      | exact .nckB (by assumption)
      | exact .cvsS (by assumption) (by assumption)
      | exact .lenS (by assumption)
      | exact .lenT (by assumption)
      | exact .lenN (by assumption)
      | exact .snilZ (by assumption)
      | (subst h1; exact .call (argsOk_mono (by assumption)) (by assumption) (by assumption))
      | exact .callA (by assumption) (by assumption) (by assumption)
      | (exfalso; have := congrArg List.length h2; rw [List.length_append, List.length_nil] at this; omega)
      | (subst h1; simp at *; done)
  · cases h <;> first
      | (simp [I.cls] at h0; done)
      | exact .loadP (by assumption) (by assumption)
      | exact .loadB (by assumption) (by assumption) (by assumption)
      | (subst h1; simp at *; done)
  · simp [eff, h0] at hc
  · simp [eff, h0] at hc
  · simp [eff, h0] at hc
theorem res_mono {P : Program} {ρ : Opd → AV} {os : List Own} {bs bs' : List (List AC)} {i : I} {r : AV} (h : Res P ρ [] bs i r [] bs') (hc : eff i = false) : Res P ρ os bs i r os bs' := res_mono' h rfl rfl hc
theorem DStep.step {P : Program} {m : Bool} {o : IOp} {st st' : St} (h : DStep P m o st st') : Step P o st st' := by
  cases h with
  | pure hg he hr =>
    refine .run hg ?_
    unfold mo at hr
    split at hr
    · exact res_mono hr he
    · exact hr
  | eff hg he hr => exact .run hg hr
  | skip hg => exact .skip hg
  | callV hg hi hx hf hs => exact .callV hg hi hx hf hs

/-! ### Two steps that do not touch one another -/
def confl (x y : Nat) : Bool := (x == 3 && y == 3) || (x == 4 && y == 4) || (x == 5 && y == 5) || (x == 2 && y == 5) || (x == 5 && y == 2) || (x == 4 && y == 5) || (x == 5 && y == 4)
def I.isV : I → Bool
  | .callv .. => true
  | _ => false
def indep (a b : IOp) : Bool :=
  (match a.d with | some t => !(b.reads.contains t) | none => true) && (match b.d with | some t => !(a.reads.contains t) | none => true) &&
  (match a.d, b.d with | some t, some u => t != u | _, _ => true) && !(confl a.i.cls b.i.cls) && !a.i.isV && !b.i.isV
/-- Pointers into boxes point to boxes that are there. -/
def WfB (st : St) : Prop := ∀ n k off, st.ev (.t n) = .bptr k off → k < st.boxes.length
theorem agree_put {st : St} {os : List Own} {bs : List (List AC)} {d : Option Nat} {x : AV} {l : List Nat} (h : ∀ t, d = some t → t ∉ l) : Agree l st.ev (St.put ⟨st.fr, os, bs⟩ d x).ev := by
  refine ⟨fun v => rfl, fun n hn => ?_⟩
  cases d with
  | none => rfl
  | some t =>
    have hne : t ≠ n := fun e => h t rfl (e ▸ hn)
    simp only [St.ev, St.put]
    rw [List.getD_eq_getElem?_getD, List.getD_eq_getElem?_getD, List.getElem?_set_ne hne]
theorem gd_put {st : St} {os : List Own} {bs : List (List AC)} {d : Option Nat} {x : AV} {o : IOp} (h : ∀ t, d = some t → t ∉ o.reads) : gdA (St.put ⟨st.fr, os, bs⟩ d x) o.gd = gdA st o.gd := by
  cases hg : o.gd with
  | none => rfl
  | some g =>
    obtain ⟨g, w⟩ := g
    have := (agree_put (st := st) (os := os) (bs := bs) (d := d) (x := x) (l := o.reads) h).2 g (by simp [IOp.reads, hg])
    simp only [St.ev] at this
    simp only [gdA]
    rw [← this]
theorem put_put {fr : List AV} {os : List Own} {bs : List (List AC)} {d e : Option Nat} {x y : AV} (h : ∀ t u, d = some t → e = some u → t ≠ u) (os2 : List Own) (bs2 : List (List AC)) :
    St.put ⟨(St.put ⟨fr, os, bs⟩ d x).fr, os2, bs2⟩ e y = St.put ⟨(St.put ⟨fr, os, bs⟩ e y).fr, os2, bs2⟩ d x := by
  cases d with
  | none => cases e <;> rfl
  | some t => cases e with
    | none => rfl
    | some u =>
      simp only [St.put]
      rw [List.set_comm _ _ (h t u rfl rfl)]
theorem indep_spec {a b : IOp} (h : indep a b = true) : (∀ t, a.d = some t → t ∉ b.reads) ∧ (∀ t, b.d = some t → t ∉ a.reads) ∧ (∀ t u, a.d = some t → b.d = some u → t ≠ u) ∧ confl a.i.cls b.i.cls = false ∧ a.i.isV = false ∧ b.i.isV = false := by
  unfold indep at h
  simp only [Bool.and_eq_true, Bool.not_eq_true'] at h
  obtain ⟨⟨⟨⟨⟨h1, h2⟩, h3⟩, h4⟩, h5⟩, h6⟩ := h
  refine ⟨fun t ht => ?_, fun t ht => ?_, fun t u ht hu => ?_, h4, h5, h6⟩
  · rw [ht] at h1; simpa using h1
  · rw [ht] at h2; simpa using h2
  · rw [ht, hu] at h3; simpa using h3
theorem reads_i {o : IOp} {d : Option Nat} (h : ∀ t, d = some t → t ∉ o.reads) : ∀ t, d = some t → t ∉ o.i.reads := fun t ht hm => h t ht (by simp [IOp.reads, hm])
theorem st_eta (st : St) : (⟨st.fr, st.owns, st.boxes⟩ : St) = st := rfl
/-- The effect of a step on own slices and boxes, for given operands. -/
def Eff (P : Program) (m : Bool) (o : IOp) (act : Bool) (ρ : Opd → AV) (os : List Own) (bs : List (List AC)) (r : AV) (os' : List Own) (bs' : List (List AC)) : Prop :=
  (act = true ∧ eff o.i = true ∧ Res P ρ os bs o.i r os' bs') ∨ (act = true ∧ eff o.i = false ∧ os' = os ∧ bs' = bs ∧ Res P ρ (if m then [] else os) bs o.i r (if m then [] else os) bs) ∨
  (act = false ∧ r = .c false [.raw undef] ∧ os' = os ∧ bs' = bs)
theorem pure_bs {P : Program} {ρ : Opd → AV} {os : List Own} {bs bs' : List (List AC)} {i : I} {r : AV} (h : Res P ρ os bs i r os bs') (hc : eff i = false) : bs' = bs := by
  rcases cls_le i with h0 | h0 | h0 | h0 | h0 | h0
  · exact (cls0 h h0).2.1
  · exact (cls1 h h0 rfl).1
  · exact (cls2 h h0).2.1
  · simp [eff, h0] at hc
  · simp [eff, h0] at hc
  · simp [eff, h0] at hc
theorem dstep_eff {P : Program} {m : Bool} {o : IOp} {st st' : St} (h : DStep P m o st st') (hv : o.i.isV = false) : ∃ act r os' bs', gdA st o.gd = some act ∧ Eff P m o act st.ev st.owns st.boxes r os' bs' ∧ st' = St.put ⟨st.fr, os', bs'⟩ o.d r := by
  cases h with
  | @pure r bs' hg he hr =>
    have := pure_bs hr he
    subst this
    exact ⟨true, r, _, _, hg, Or.inr (Or.inl ⟨rfl, he, rfl, rfl, hr⟩), rfl⟩
  | eff hg he hr => exact ⟨true, _, _, _, hg, Or.inl ⟨rfl, he, hr⟩, rfl⟩
  | skip hg => exact ⟨false, _, _, _, hg, Or.inr (Or.inr ⟨rfl, rfl, rfl, rfl⟩), rfl⟩
  | callV hg hi _ _ _ => rw [hi] at hv; cases hv
theorem eff_dstep {P : Program} {m : Bool} {o : IOp} {st : St} {act : Bool} {r : AV} {os' : List Own} {bs' : List (List AC)} (hg : gdA st o.gd = some act) (h : Eff P m o act st.ev st.owns st.boxes r os' bs') : DStep P m o st (St.put ⟨st.fr, os', bs'⟩ o.d r) := by
  rcases h with ⟨rfl, he, hr⟩ | ⟨rfl, he, rfl, rfl, hr⟩ | ⟨rfl, rfl, rfl, rfl⟩
  · exact .eff hg he hr
  · exact .pure hg he hr
  · exact .skip hg
theorem Eff.congr {P : Program} {m : Bool} {o : IOp} {act : Bool} {ρ ρ' : Opd → AV} {os os' : List Own} {bs bs' : List (List AC)} {r : AV} (h : Eff P m o act ρ os bs r os' bs') (ha : Agree o.i.reads ρ ρ') : Eff P m o act ρ' os bs r os' bs' := by
  rcases h with ⟨h1, he, hr⟩ | ⟨h1, he, h2, h3, hr⟩ | h
  · exact Or.inl ⟨h1, he, hr.congr ha⟩
  · exact Or.inr (Or.inl ⟨h1, he, h2, h3, hr.congr ha⟩)
  · exact Or.inr (Or.inr h)
theorem eff_cls {i : I} (h : eff i = true) : i.cls = 3 ∨ i.cls = 4 ∨ i.cls = 5 := by
  rcases cls_le i with h0 | h0 | h0 | h0 | h0 | h0 <;> simp [eff, h0] at h ⊢
theorem pure_cls {i : I} (h : eff i = false) : i.cls = 0 ∨ i.cls = 1 ∨ i.cls = 2 := by
  rcases cls_le i with h0 | h0 | h0 | h0 | h0 | h0 <;> simp [eff, h0] at h ⊢
theorem eff_swap {P : Program} {m : Bool} {a b : IOp} {xa xb : Bool} {ρa ρb : Opd → AV} {os os1 os2 : List Own} {bs bs1 bs2 : List (List AC)} {ra rb : AV}
    (ha : Eff P m a xa ρa os bs ra os1 bs1) (hb : Eff P m b xb ρb os1 bs1 rb os2 bs2) (hc : confl a.i.cls b.i.cls = false) (hm : a.i.cls = 3 ∨ b.i.cls = 3 → m = true)
    (hkv : ∀ v, ρb (.k v) = kav v) (hwf : ∀ n ∈ b.i.reads, ∀ k off, ρb (.t n) = .bptr k off → k < bs.length) :
    ∃ os1' bs1', Eff P m b xb ρb os bs rb os1' bs1' ∧ Eff P m a xa ρa os1' bs1' ra os2 bs2 := by
  rcases ha with ⟨rfl, ea, hra⟩ | ⟨rfl, ea, rfl, rfl, hra⟩ | ⟨rfl, rfl, rfl, rfl⟩
  · rcases hb with ⟨rfl, eb, hrb⟩ | ⟨rfl, eb, rfl, rfl, hrb⟩ | ⟨rfl, rfl, rfl, rfl⟩
    · -- both write
      rcases eff_cls ea with ca | ca | ca <;> rcases eff_cls eb with cb | cb | cb <;> (try (simp [confl, ca, cb] at hc; done))
      · obtain ⟨rfl, h1⟩ := cls3 hra ca
        obtain ⟨rfl, ⟨z, rfl⟩, h2⟩ := cls4 hrb cb
        exact ⟨os, _, Or.inl ⟨rfl, eb, h2 os⟩, Or.inl ⟨rfl, ea, h1 _⟩⟩
      · obtain ⟨rfl, h1⟩ := cls3 hra ca
        obtain ⟨rfl, h2⟩ := cls5 hrb cb
        exact ⟨os, _, Or.inl ⟨rfl, eb, h2 os⟩, Or.inl ⟨rfl, ea, h1 _⟩⟩
      · obtain ⟨rfl, ⟨z, rfl⟩, h1⟩ := cls4 hra ca
        obtain ⟨rfl, h2⟩ := cls3 hrb cb
        exact ⟨os2, _, Or.inl ⟨rfl, eb, h2 bs⟩, Or.inl ⟨rfl, ea, h1 _⟩⟩
      · obtain ⟨rfl, h1⟩ := cls5 hra ca
        obtain ⟨rfl, h2⟩ := cls3 hrb cb
        exact ⟨os2, _, Or.inl ⟨rfl, eb, h2 bs⟩, Or.inl ⟨rfl, ea, h1 _⟩⟩
    · -- a writes, b reads
      rcases eff_cls ea with ca | ca | ca
      · have hmt := hm (Or.inl ca)
        subst hmt
        obtain ⟨rfl, h1⟩ := cls3 hra ca
        exact ⟨os, _, Or.inr (Or.inl ⟨rfl, eb, rfl, rfl, hrb⟩), Or.inl ⟨rfl, ea, hra⟩⟩
      · obtain ⟨rfl, ⟨z, rfl⟩, h1⟩ := cls4 hra ca
        refine ⟨_, bs, Or.inr (Or.inl ⟨rfl, eb, rfl, rfl, ?_⟩), Or.inl ⟨rfl, ea, hra⟩⟩
        rcases pure_cls eb with cb | cb | cb
        · exact (cls0 hrb cb).2.2 _ _
        · exact (cls1 hrb cb rfl).2 _
        · exact (cls2 hrb cb).2.2.2 bs z rfl hkv (fun x n hn hx k off hk => hwf n hn k off (by rw [← hx]; exact hk))
      · obtain ⟨rfl, h1⟩ := cls5 hra ca
        refine ⟨_, bs, Or.inr (Or.inl ⟨rfl, eb, rfl, rfl, ?_⟩), Or.inl ⟨rfl, ea, hra⟩⟩
        rcases pure_cls eb with cb | cb | cb
        · exact (cls0 hrb cb).2.2 _ _
        · exact (cls1 hrb cb rfl).2 _
        · simp [confl, ca, cb] at hc
    · exact ⟨os, bs, Or.inr (Or.inr ⟨rfl, rfl, rfl, rfl⟩), Or.inl ⟨rfl, ea, hra⟩⟩
  · rcases hb with ⟨rfl, eb, hrb⟩ | ⟨rfl, eb, rfl, rfl, hrb⟩ | ⟨rfl, rfl, rfl, rfl⟩
    · refine ⟨os2, bs2, Or.inl ⟨rfl, eb, hrb⟩, Or.inr (Or.inl ⟨rfl, ea, rfl, rfl, ?_⟩)⟩
      rcases eff_cls eb with cb | cb | cb
      · have hmt := hm (Or.inr cb)
        subst hmt
        obtain ⟨rfl, _⟩ := cls3 hrb cb
        exact hra
      · obtain ⟨rfl, ⟨z, rfl⟩, _⟩ := cls4 hrb cb
        rcases pure_cls ea with ca | ca | ca
        · exact (cls0 hra ca).2.2 _ _
        · exact (cls1 hra ca rfl).2 _
        · exact (cls2 hra ca).2.2.1 z
      · obtain ⟨rfl, _⟩ := cls5 hrb cb
        rcases pure_cls ea with ca | ca | ca
        · exact (cls0 hra ca).2.2 _ _
        · exact (cls1 hra ca rfl).2 _
        · simp [confl, ca, cb] at hc
    · exact ⟨_, _, Or.inr (Or.inl ⟨rfl, eb, rfl, rfl, hrb⟩), Or.inr (Or.inl ⟨rfl, ea, rfl, rfl, hra⟩)⟩
    · exact ⟨_, _, Or.inr (Or.inr ⟨rfl, rfl, rfl, rfl⟩), Or.inr (Or.inl ⟨rfl, ea, rfl, rfl, hra⟩)⟩
  · exact ⟨os2, bs2, hb, Or.inr (Or.inr ⟨rfl, rfl, rfl, rfl⟩)⟩
theorem dswap {P : Program} {m : Bool} {a b : IOp} {st st1 st2 : St} (ha : DStep P m a st st1) (hb : DStep P m b st1 st2) (hi : indep a b = true) (hm : a.i.cls = 3 ∨ b.i.cls = 3 → m = true) (hwf : WfB st) :
    ∃ st1', DStep P m b st st1' ∧ DStep P m a st1' st2 := by
  obtain ⟨i1, i2, i3, i4, i5, i6⟩ := indep_spec hi
  obtain ⟨xa, ra, os1, bs1, ga, ea, rfl⟩ := dstep_eff ha i5
  obtain ⟨xb, rb, os2, bs2, gb, eb, rfl⟩ := dstep_eff hb i6
  rw [gd_put i1] at gb
  have hag : Agree b.i.reads (St.put ⟨st.fr, os1, bs1⟩ a.d ra).ev st.ev := by
    have := agree_put (st := st) (os := os1) (bs := bs1) (d := a.d) (x := ra) (reads_i i1)
    exact ⟨fun v => rfl, fun n hn => (this.2 n hn).symm⟩
  have e1 : (St.put ⟨st.fr, os1, bs1⟩ a.d ra).owns = os1 := stput_owns _ _ _
  have e2 : (St.put ⟨st.fr, os1, bs1⟩ a.d ra).boxes = bs1 := stput_boxes _ _ _
  rw [e1, e2] at eb
  obtain ⟨os1', bs1', h1, h2⟩ := eff_swap ea (eb.congr hag) i4 hm (fun v => rfl) (fun n _ k off hk => hwf n k off hk)
  refine ⟨_, eff_dstep gb h1, ?_⟩
  have h3 := h2.congr (agree_put (st := st) (os := os1') (bs := bs1') (d := b.d) (x := rb) (reads_i i2))
  have e3 : (St.put ⟨st.fr, os1', bs1'⟩ b.d rb).owns = os1' := stput_owns _ _ _
  have e4 : (St.put ⟨st.fr, os1', bs1'⟩ b.d rb).boxes = bs1' := stput_boxes _ _ _
  have h4 := eff_dstep (st := St.put ⟨st.fr, os1', bs1'⟩ b.d rb) (P := P) (m := m) (o := a) (act := xa) (r := ra) (os' := os2) (bs' := bs2) (by rw [gd_put i2]; exact ga) (by rw [e3, e4]; exact h3)
  rw [put_put (fun t u ht hu => (i3 u t hu ht).symm)] at h4
  have e5 : St.put ⟨(St.put ⟨st.fr, os1', bs1'⟩ a.d ra).fr, os2, bs2⟩ b.d rb = St.put ⟨(St.put ⟨st.fr, os1, bs1⟩ a.d ra).fr, os2, bs2⟩ b.d rb := by
    cases a.d <;> rfl
  rwa [e5] at h4

/-! ### Wherever pointers into boxes come from -/
theorem wfb_res {P : Program} {ρ : Opd → AV} {os os' : List Own} {bs bs' : List (List AC)} {i : I} {r : AV} (h : Res P ρ os bs i r os' bs') (hw : ∀ x k off, ρ x = .bptr k off → k < bs.length) : bs.length ≤ bs'.length ∧ ∀ k off, r = .bptr k off → k < bs'.length := by
  cases h <;> first
    | (refine ⟨Nat.le_refl _, fun k off e => ?_⟩; cases e; done)
    | exact ⟨Nat.le_refl _, fun k off e => hw _ k off e⟩
    | (refine ⟨Nat.le_refl _, fun k off e => ?_⟩; split at e <;> exact hw _ k off e)
    | (refine ⟨Nat.le_refl _, fun k off e => ?_⟩; cases e; exact hw _ _ _ (by assumption))
    | (refine ⟨Nat.le_refl _, fun k off e => ?_⟩; subst e; rename_i h; exact h.elim)
    | (refine ⟨Nat.le_refl _, fun k off e => ?_⟩; subst e; rename_i h; simp [AV.old] at h; done)
    | (refine ⟨Nat.le_refl _, fun k off e => ?_⟩; rename_i r' _ _ _ h _; cases r' <;> simp_all [AV.shift, AV.out]; done)
    | (refine ⟨by simp, fun k off e => ?_⟩; cases e; simp; done)
    | (refine ⟨by simp, fun k off e => ?_⟩; cases e; done)
theorem wfb_step {P : Program} {m : Bool} {o : IOp} {st st' : St} (h : DStep P m o st st') (hv : o.i.isV = false) (hw : WfB st) : WfB st' := by
  have hall : ∀ x k off, st.ev x = .bptr k off → k < st.boxes.length := fun x k off e => by
    cases x with
    | t n => exact hw n k off e
    | k v =>
      simp only [St.ev] at e
      unfold kav at e
      split at e <;> cases e
  have key : ∀ (r : AV) (os' : List Own) (bs' : List (List AC)), st.boxes.length ≤ bs'.length → (∀ k off, r = .bptr k off → k < bs'.length) → WfB (St.put ⟨st.fr, os', bs'⟩ o.d r) := by
    intro r os' bs' h1 h2 n k off e
    have hb : (St.put ⟨st.fr, os', bs'⟩ o.d r).boxes = bs' := stput_boxes _ _ _
    rw [hb]
    cases hd : o.d with
    | none =>
      rw [hd] at e
      exact Nat.lt_of_lt_of_le (hw n k off e) h1
    | some t =>
      rw [hd] at e
      simp only [St.ev, St.put] at e
      rw [List.getD_eq_getElem?_getD, List.getElem?_set] at e
      split at e
      · split at e
        · exact h2 k off e
        · cases e
      · exact Nat.lt_of_lt_of_le (hw n k off (by simp only [St.ev]; rw [List.getD_eq_getElem?_getD]; exact e)) h1
  cases h with
  | pure hg he hr =>
    obtain ⟨h1, h2⟩ := wfb_res hr hall
    exact key _ _ _ h1 h2
  | eff hg he hr =>
    obtain ⟨h1, h2⟩ := wfb_res hr hall
    exact key _ _ _ h1 h2
  | skip hg => exact key _ _ _ (Nat.le_refl _) (fun k off e => by cases e)
  | callV hg hi _ _ _ => rw [hi] at hv; cases hv
theorem wfb_rel {B : Nat} {Xs : List Nat} {G : Org} {w0 : World} {st : St} {E : Env} {a : Act} {w : World} (h : Rel B Xs G w0 st E a w) : WfB st := fun n k off e => by
  have := ev_ok h (.tmp n)
  simp only [opd] at this
  rw [e] at this
  obtain ⟨p, hp, _⟩ := this
  rw [← h.blen]
  exact (List.getElem?_eq_some_iff.1 hp).1

/-! ### The region -/
/-- Steps by their numbers, one behind the other. -/
inductive DSteps (P : Program) (m : Bool) (is : List IOp) : List Nat → St → St → Prop
  | nil {st} : DSteps P m is [] st st
  | cons {i io l st st1 st2} : is[i]? = some io → DStep P m io st st1 → DSteps P m is l st1 st2 → DSteps P m is (i :: l) st st2
theorem dfront {P : Program} {m : Bool} {is : List IOp} {i : Nat} {io : IOp} (hio : is[i]? = some io) (hm : ∀ (j : Nat) (jo : IOp), is[j]? = some jo → jo.i.cls = 3 → m = true) : ∀ (pre post : List Nat) (st st2 : St),
    DSteps P m is (pre ++ i :: post) st st2 → (∀ j ∈ pre, ∀ (jo : IOp), is[j]? = some jo → indep jo io = true) → WfB st → ∃ st1, DStep P m io st st1 ∧ DSteps P m is (pre ++ post) st1 st2
  | [], post, st, st2, h, _, _ => by
    cases h with
    | cons h1 h2 h3 =>
      rw [hio] at h1
      injection h1 with h1
      subst h1
      exact ⟨_, h2, h3⟩
  | j :: pre, post, st, st2, h, hi, hw => by
    rw [List.cons_append] at h
    cases h with
    | @cons _ jo _ _ st1 _ h1 h2 h3 =>
      obtain ⟨st3, h4, h5⟩ := dfront hio hm pre post st1 st2 h3 (fun j hj => hi j (by simp [hj])) (wfb_step h2 (indep_spec (hi j (by simp) jo h1)).2.2.2.2.1 hw)
      obtain ⟨st4, h6, h7⟩ := dswap h2 h4 (hi j (by simp) jo h1) (fun h => by
        rcases h with h | h
        · exact hm j jo h1 h
        · exact hm i io hio h) hw
      exact ⟨st4, h6, .cons h1 h7 h5⟩

/-- What stands before each operation, over however many edges. -/
def ancs : List Oper → List (List Nat) → List (List Nat)
  | [], acc => acc
  | o :: l, acc => ancs l (acc ++ [o.after.toList.flatMap fun e => if Region.binds .any e then e.on :: acc.getD e.on [] else []])
def drawB (ops : List Oper) (is : List IOp) : Bool :=
  let an := ancs ops []
  (ops.zipIdx.all fun p => p.1.after.toList.all fun e => !Region.binds .any e || decide (e.on < p.2)) &&
  (is.zipIdx.all fun p => is.zipIdx.all fun q => !decide (q.2 < p.2) || indep q.1 p.1 || (an.getD p.2 []).contains q.2)
/-- Listed with each operation all that it stands behind. -/
def ClosedL (ops : Array Oper) (listed : Array Bool) : Prop := ∀ i o, ops[i]? = some o → listed.getD i false = true → ∀ e ∈ o.after.toList, Region.binds .any e = true → listed.getD e.on false = true
theorem ancs_spec (ops : Array Oper) (listed : Array Bool) (hc : ClosedL ops listed) : ∀ (l : List Oper) (acc : List (List Nat)), (∀ j, l[j]? = ops[acc.length + j]?) →
    (∀ i o, i < acc.length → ops[i]? = some o → (∀ e ∈ o.after.toList, Region.binds .any e = true → listed.getD e.on false = true) → ∀ x ∈ acc.getD i [], listed.getD x false = true) →
    ∀ i o, ops[i]? = some o → (∀ e ∈ o.after.toList, Region.binds .any e = true → listed.getD e.on false = true) → i < (ancs l acc).length → ∀ x ∈ (ancs l acc).getD i [], listed.getD x false = true
  | [], acc, hl, ha, i, o, ho, he, hlt, x, hx => ha i o hlt ho he x hx
  | q :: l, acc, hl, ha, i, o, ho, he, hlt, x, hx => by
    rw [ancs] at hlt hx
    refine ancs_spec ops listed hc l _ (fun j => ?_) (fun i' o' hi' ho' he' x' hx' => ?_) i o ho he hlt x hx
    · have := hl (j + 1)
      simp only [List.getElem?_cons_succ] at this
      rw [this, List.length_append]
      congr 1
      simp
      omega
    · rw [List.length_append] at hi'
      simp only [List.length_cons, List.length_nil] at hi'
      rw [List.getD_eq_getElem?_getD, List.getElem?_append] at hx'
      split at hx'
      · next h => exact ha i' o' h ho' he' x' (by rw [List.getD_eq_getElem?_getD]; exact hx')
      · next h =>
        have e0 : i' = acc.length := by omega
        subst e0
        have hq : ops[acc.length]? = some q := by have := hl 0; simpa using this.symm
        rw [ho'] at hq
        injection hq with hq
        subst hq
        simp only [Nat.sub_self, List.getElem?_cons_zero, Option.getD_some] at hx'
        obtain ⟨e, hem, hxe⟩ := List.mem_flatMap.1 hx'
        split at hxe
        · next hb =>
          have hon := he' e hem hb
          rcases List.mem_cons.1 hxe with rfl | hxe
          · exact hon
          · by_cases hlt' : e.on < acc.length
            · cases hoo : ops[e.on]? with
              | some oo => exact ha e.on oo hlt' hoo (hc e.on oo hoo hon) x' hxe
              | none =>
                have : ops[e.on]? = none := hoo
                have h1 := Array.getElem?_eq_none_iff.1 this
                have h2 : acc.length < ops.size := (Array.getElem?_eq_some_iff.1 ho').1
                omega
            · rw [List.getD_eq_getElem?_getD, List.getElem?_eq_none (by omega)] at hxe
              simp at hxe
        · simp at hxe
theorem ancs_len : ∀ (l : List Oper) (acc : List (List Nat)), (ancs l acc).length = acc.length + l.length
  | [], acc => rfl
  | o :: l, acc => by rw [ancs, ancs_len l]; simp; omega
theorem compOps_spec {P : Program} {ops : Array Oper} : ∀ {l : List Oper} {is : List IOp}, compOps P ops l = some is → is.length = l.length ∧ ∀ (i : Nat) (o : Oper), l[i]? = some o → ∃ io, is[i]? = some io ∧ compOp P ops o = some io
  | [], is, h => by
    injection h with h
    subst h
    exact ⟨rfl, fun i o ho => by simp at ho⟩
  | o :: l, is, h => by
    rw [compOps] at h
    split at h
    · next io is' h1 h2 =>
      injection h with h
      subst h
      obtain ⟨h3, h4⟩ := compOps_spec h2
      refine ⟨by simp [h3], fun i q hq => ?_⟩
      cases i with
      | zero => simp at hq; subst hq; exact ⟨io, rfl, h1⟩
      | succ i => simpa using h4 i q (by simpa using hq)
    · cases h
theorem dsteps_nil {P : Program} {m : Bool} {is : List IOp} {st st2 : St} (h : DSteps P m is [] st st2) : st2 = st := by cases h; rfl
def remL (n : Nat) (listed : Array Bool) : List Nat := (List.range n).filter fun i => !listed.getD i true
theorem any_ok {P : Program} {B : Nat} {Xs : List Nat} {G : Org} {w0 : World} {ops : Array Oper} {is : List IOp} {m : Bool} {K : St → Prop} {Q : Exit → Act → World → Prop} (hcomp : compOps P ops ops.toList = some is) (hd : drawB ops.toList is = true)
    (hm : ∀ (j : Nat) (jo : IOp), is[j]? = some jo → jo.i.cls = 3 → m = true) (hQ : ∀ st' E' a' w', Rel B Xs G w0 st' E' a' w' → K st' → Q .normal a' w') :
    ∀ (fuel : Nat) (listed : Array Bool) (st st2 : St) (E : Env) (a : Act) (w : World), listed.size = ops.size → (remL ops.size listed).length = fuel → ClosedL ops listed → DSteps P m is (remL ops.size listed) st st2 → K st2 → Rel B Xs G w0 st E a w →
      wpAny P .any ops Q fuel listed a w := by
  obtain ⟨hlen, hget⟩ := compOps_spec hcomp
  have hlen' : is.length = ops.size := by rw [hlen]; simp
  unfold drawB at hd
  simp only [Bool.and_eq_true, List.all_eq_true] at hd
  obtain ⟨hd1, hd2⟩ := hd
  have hback : ∀ i o, ops[i]? = some o → ∀ e ∈ o.after.toList, Region.binds .any e = true → e.on < i := by
    intro i o ho e he hb
    have := hd1 (o, i) (by
      rw [List.mk_mem_zipIdx_iff_getElem?]
      simpa using ho) e he
    simpa [hb] using this
  have hpair : ∀ i j io jo, is[i]? = some io → is[j]? = some jo → j < i → indep jo io = true ∨ j ∈ (ancs ops.toList []).getD i [] := by
    intro i j io jo hi hj hlt
    have := hd2 (io, i) (by rw [List.mk_mem_zipIdx_iff_getElem?]; exact hi) (jo, j) (by rw [List.mk_mem_zipIdx_iff_getElem?]; exact hj)
    simp only [hlt, decide_true, Bool.not_true, Bool.false_or, Bool.or_eq_true, List.contains_iff_mem] at this
    exact this
  have hsub : ∀ listed i, i ∈ Region.ready .any ops listed → i < ops.size ∧ listed.getD i true = false ∧ ∃ o, ops[i]? = some o ∧ ∀ e ∈ o.after.toList, Region.binds .any e = true → listed.getD e.on false = true := by
    intro listed i hi
    unfold Region.ready at hi
    rw [List.mem_filter] at hi
    obtain ⟨h1, h2⟩ := hi
    simp only [Bool.and_eq_true, Bool.not_eq_true'] at h2
    obtain ⟨h2, h3⟩ := h2
    have hlt := List.mem_range.1 h1
    refine ⟨hlt, h2, ops[i], Array.getElem?_eq_getElem hlt, fun e he hb => ?_⟩
    rw [Array.getElem?_eq_getElem hlt] at h3
    simp only [Option.map_some, Option.getD_some] at h3
    rw [Array.all_eq_true'] at h3
    have := h3 e (by simpa using he)
    simpa [hb] using this
  intro fuel
  induction fuel with
  | zero =>
    intro listed st st2 E a w hsz hf hcl hs hK hR
    have hnil : remL ops.size listed = [] := List.eq_nil_of_length_eq_zero hf
    rw [hnil] at hs
    have := dsteps_nil hs
    subst this
    refine ⟨?_, hQ _ E a w hR hK⟩
    cases hr : Region.ready .any ops listed with
    | nil => rfl
    | cons i l =>
      obtain ⟨h1, h2, _⟩ := hsub listed i (by rw [hr]; simp)
      have : i ∈ remL ops.size listed := List.mem_filter.2 ⟨List.mem_range.2 h1, by simp [h2]⟩
      rw [hnil] at this
      simp at this
  | succ fuel ih =>
    intro listed st st2 E a w hsz hf hcl hs hK hR
    refine ⟨fun hr => ?_, fun i hi => ?_⟩
    · -- the first that is left is ready
      exfalso
      cases hrem : remL ops.size listed with
      | nil => rw [hrem] at hf; simp at hf
      | cons i l =>
        have hi : i ∈ remL ops.size listed := by rw [hrem]; simp
        obtain ⟨h1, h2⟩ := List.mem_filter.1 hi
        have hlt := List.mem_range.1 h1
        have hmin : ∀ j ∈ remL ops.size listed, i ≤ j := by
          have hp : (remL ops.size listed).Pairwise (· < ·) := List.Pairwise.filter _ List.pairwise_lt_range
          rw [hrem] at hp ⊢
          intro j hj
          rcases List.mem_cons.1 hj with rfl | hj
          · exact Nat.le_refl _
          · exact Nat.le_of_lt ((List.pairwise_cons.1 hp).1 j hj)
        have : i ∈ Region.ready .any ops listed := by
          unfold Region.ready
          rw [List.mem_filter]
          refine ⟨h1, ?_⟩
          rw [Array.getElem?_eq_getElem hlt]
          simp only [Option.map_some, Option.getD_some, Bool.and_eq_true]
          refine ⟨h2, ?_⟩
          rw [Array.all_eq_true']
          intro e he
          cases hb : Region.binds .any e with
          | false => simp
          | true =>
            have hon := hback i ops[i] (Array.getElem?_eq_getElem hlt) e (by simpa using he) hb
            simp only [Bool.not_true, Bool.false_or]
            cases hl : listed.getD e.on false with
            | true => rfl
            | false =>
              have : e.on ∈ remL ops.size listed := by
                refine List.mem_filter.2 ⟨List.mem_range.2 (by omega), ?_⟩
                have hs2 : e.on < listed.size := by omega
                simp only [Array.getD_eq_getD_getElem?, Array.getElem?_eq_getElem hs2, Option.getD_some] at hl ⊢
                simp [hl]
              have := hmin _ this
              omega
        rw [hr] at this
        simp at this
    · obtain ⟨hlt, hnl, o, ho, hed⟩ := hsub listed i hi
      have hmem : i ∈ remL ops.size listed := List.mem_filter.2 ⟨List.mem_range.2 hlt, by simp [hnl]⟩
      obtain ⟨io, hio, hco⟩ := hget i o (by simpa using ho)
      obtain ⟨pre, post, hsplit⟩ := List.append_of_mem hmem
      have hp : (remL ops.size listed).Pairwise (· < ·) := List.Pairwise.filter _ List.pairwise_lt_range
      rw [hsplit] at hs hp
      have hpre : ∀ j ∈ pre, j < i := fun j hj => (List.pairwise_append.1 hp).2.2 j hj i (by simp)
      have hpost : ∀ j ∈ post, i < j := fun j hj => (List.pairwise_cons.1 (List.pairwise_append.1 hp).2.1).1 j hj
      have hind : ∀ j ∈ pre, ∀ (jo : IOp), is[j]? = some jo → indep jo io = true := by
        intro j hj jo hjo
        rcases hpair i j io jo hio hjo (hpre j hj) with h | h
        · exact h
        · exfalso
          have hl := ancs_spec ops listed hcl ops.toList [] (fun j => by simp) (fun i o hi => by simp at hi) i o ho hed (by rw [ancs_len]; simpa using hlt) j h
          have hjm : j ∈ remL ops.size listed := by rw [hsplit]; simp [hj]
          have := (List.mem_filter.1 hjm).2
          have hjs : j < listed.size := by have := List.mem_range.1 (List.mem_filter.1 hjm).1; omega
          simp only [Array.getD_eq_getD_getElem?, Array.getElem?_eq_getElem hjs, Option.getD_some] at hl this
          simp [hl] at this
      obtain ⟨st1, h1, h2⟩ := dfront hio hm pre post st st2 hs hind (wfb_rel hR)
      have hg' : ∀ j, (listed.setIfInBounds i true).getD j true = if j = i then true else listed.getD j true := by
        intro j
        simp only [Array.getD_eq_getD_getElem?]
        by_cases e : j = i
        · subst e
          rw [if_pos rfl, Array.getElem?_setIfInBounds_self_of_lt (by omega)]
          rfl
        · rw [if_neg e, Array.getElem?_setIfInBounds_ne (fun h => e h.symm)]
      have hrem' : remL ops.size (listed.setIfInBounds i true) = pre ++ post := by
        have e1 : remL ops.size (listed.setIfInBounds i true) = (remL ops.size listed).filter (fun j => j != i) := by
          unfold remL
          rw [List.filter_filter]
          apply List.filter_congr
          intro j _
          rw [hg']
          by_cases e : j = i
          · simp [e]
          · simp [e]
        rw [e1, hsplit, List.filter_append, List.filter_cons]
        simp only [bne_self_eq_false, Bool.false_eq_true, if_false]
        rw [List.filter_eq_self.2 (fun j hj => by have := hpre j hj; simp; omega), List.filter_eq_self.2 (fun j hj => by have := hpost j hj; simp; omega)]
      have hcl' : ClosedL ops (listed.setIfInBounds i true) := by
        intro k q hq hk e he hb
        have hgf : ∀ j, (listed.setIfInBounds i true).getD j false = if j = i then true else listed.getD j false := by
          intro j
          simp only [Array.getD_eq_getD_getElem?]
          by_cases e : j = i
          · subst e
            rw [if_pos rfl, Array.getElem?_setIfInBounds_self_of_lt (by omega)]
            rfl
          · rw [if_neg e, Array.getElem?_setIfInBounds_ne (fun h => e h.symm)]
        rw [hgf] at hk ⊢
        split
        · rfl
        · split at hk
          · next e' =>
            subst e'
            rw [ho] at hq
            injection hq with hq
            subst hq
            exact hed e he hb
          · exact hcl k q hq hk e he hb
      have hlen2 : (pre ++ post).length = fuel := by
        rw [hsplit] at hf
        simp only [List.length_append, List.length_cons] at hf ⊢
        omega
      unfold wpOp
      rw [ho]
      have := step_wp (Q := Q) (K := wpAny P .any ops Q fuel (listed.setIfInBounds i true)) hR hco h1.step (fun E' a' w' hR' =>
        ih (listed.setIfInBounds i true) st1 st2 E' a' w' (by simp [hsz]) (by rw [hrem']; exact hlen2) hcl' (by rw [hrem']; exact h2) hK hR')
      simp only
      split
      · next hw => rw [if_pos hw] at this; exact Or.inl this
      · next hw => rw [if_neg hw] at this; exact this
theorem Rel.drewN {B : Nat} {Xs : List Nat} {G : Org} {w0 : World} {st : St} {E : Env} {a : Act} {w : World} (h : Rel B Xs G w0 st E a w) : Rel B Xs G w0 st E a { w with drawn := w.drawn + 1 } := by
  have := h.below_put (Below.refl w.heap.size w).drew (d := none) (x := .any) (v := undef) trivial
  exact this
/-- A region that draws. -/
theorem wp_draw {P : Program} {B : Nat} {Xs : List Nat} {G : Org} {w0 : World} {st st2 : St} {E : Env} {a : Act} {w : World} {id : Nat} {ops : Array Oper} {is : List IOp} {m : Bool} {K : St → Prop} {Q : Exit → Act → World → Prop} (hmix : P.follows .mixedOrders = true) (hcomp : compOps P ops ops.toList = some is) (hd : drawB ops.toList is = true)
    (hm : ∀ (j : Nat) (jo : IOp), is[j]? = some jo → jo.i.cls = 3 → m = true) (hQ : ∀ st' E' a' w', Rel B Xs G w0 st' E' a' w' → K st' → Q .normal a' w') (hs : DSteps P m is (List.range ops.size) st st2) (hK : K st2) (hR : Rel B Xs G w0 st E a w) :
    (Code.region id ops true).wp P Q a w := by
  have e : remL ops.size (Array.replicate ops.size false) = List.range ops.size := by
    unfold remL
    refine List.filter_eq_self.2 (fun j hj => ?_)
    have := List.mem_range.1 hj
    simp [Array.getD_eq_getD_getElem?, this]
  refine wp_region_any hmix (any_ok hcomp hd hm hQ ops.size _ st st2 E a _ (by simp) (by rw [e]; simp) ?_ (by rw [e]; exact hs) hK hR.drewN)
  intro i o _ h
  simp [Array.getD_eq_getD_getElem?, Array.getElem?_replicate] at h
  split at h <;> simp at h
end Go.Proofs.YtdjcflnemnknaaaDoor
