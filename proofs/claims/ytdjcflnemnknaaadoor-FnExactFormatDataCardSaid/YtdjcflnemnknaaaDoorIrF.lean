/-
  Going through code in states: small rules.
-/
import Derived.Test.YtdjcflnemnknaaaDoorIrE
namespace Go.Proofs.YtdjcflnemnknaaaDoor
open Go.RowKit
set_option linter.unusedSimpArgs false
set_option linter.unusedVariables false
section
variable {lo : Nat × Nat} {P : Program} {y : IC} {Q : Exit → St → Prop} {st : St} {i j : Nat} {c : Opd}
theorem athen (h : AWPn lo P y Q st) : AThenN lo P y Q .normal st := h
theorem thenExit (h : Q (.exit i) st) : AThenN lo P y Q (.exit i) st := h
theorem thenRet (h : Q .ret st) : AThenN lo P y Q .ret st := h
theorem blockNormal (h : Q .normal st) : ABlock i Q .normal st := h
theorem blockRet (h : Q .ret st) : ABlock i Q .ret st := h
theorem blockExit (h : Q .normal st) : ABlock i Q (.exit i) st := by
  show ite _ _ _
  rw [if_pos rfl]
  exact h
theorem blockPass (hij : (j == i) = false) (h : Q (.exit j) st) : ABlock i Q (.exit j) st := by
  show ite _ _ _
  rw [if_neg (by simpa using hij)]
  exact h
theorem roundExit {X : Type} {F : X → St} {inv : X → Prop} {μ : X → Nat} {x : X} (h : Q (.exit i) st) : ARound F inv μ x Q (.exit i) st := h
theorem roundRet {X : Type} {F : X → St} {inv : X → Prop} {μ : X → Nat} {x : X} (h : Q .ret st) : ARound F inv μ x Q .ret st := h
theorem roundEnd {X : Type} {F : X → St} {inv : X → Prop} {μ : X → Nat} {x : X} (x' : X) (h1 : StLe st (F x')) (h2 : inv x') (h3 : μ x' < μ x) : ARound F inv μ x Q .normal st := ⟨x', h1, h2, h3⟩
theorem endNormal {Fin : St → Prop} (h : Fin st) : AEnd Fin .normal st := h
theorem endRet {Fin : St → Prop} (h : Fin st) : AEnd Fin .ret st := h
theorem awp_condT {x : IC} (hb : st.ev c = .c false [.raw (.bool true)]) (h : AWPn lo P x Q st) : AWPn lo P (.cond c x y) Q st := awp_cond hb (fun _ => h) (fun e => by cases e)
theorem awp_condF {x : IC} (hb : st.ev c = .c false [.raw (.bool false)]) (h : AWPn lo P y Q st) : AWPn lo P (.cond c x y) Q st := awp_cond hb (fun e => by cases e) (fun _ => h)
end
/-! ### Reckoning -/
theorem pl_mov {x0 : Opd} : I.plain (.mov x0) = true := by simp only [I.plain]
theorem pl_pick {x0 : Opd} {x1 : Opd} {x2 : Opd} : I.plain (.pick x0 x1 x2) = true := by simp only [I.plain]
theorem pl_bin {x0 : BinOp} {x1 : Opd} {x2 : Opd} : I.plain (.bin x0 x1 x2) = true := by simp only [I.plain]
theorem pl_beq {x0 : Bool} {x1 : Opd} {x2 : Opd} : I.plain (.beq x0 x1 x2) = true := by simp only [I.plain]
theorem pl_not {x0 : Opd} : I.plain (.not x0) = true := by simp only [I.plain]
theorem pl_load {x0 : Nat} {x1 : Bool} {x2 : Opd} : I.plain (.load x0 x1 x2) = true := by simp only [I.plain]
theorem pl_fad {x0 : Nat} {x1 : Opd} : I.plain (.fad x0 x1) = true := by simp only [I.plain]
theorem pl_nck {x0 : Opd} : I.plain (.nck x0) = true := by simp only [I.plain]
theorem pl_alloc {x0 : List Value} : I.plain (.alloc x0) = true := by simp only [I.plain]
theorem pl_box {x0 : Opd} : I.plain (.box x0) = true := by simp only [I.plain]
theorem pl_store {x0 : Nat} {x1 : Opd} {x2 : Opd} : I.plain (.store x0 x1 x2) = true := by simp only [I.plain]
theorem pl_brow {x0 : Bool} {x1 : Nat} {x2 : Nat} {x3 : Nat} {x4 : Bool} {x5 : List Opd} : I.plain (.brow x0 x1 x2 x3 x4 x5) = true := by simp only [I.plain]
theorem pl_bld {x0 : List Value} {x1 : List (Nat × Nat × Opd)} : I.plain (.bld x0 x1) = true := by simp only [I.plain]
theorem pl_fld {x0 : Nat} {x1 : Nat} {x2 : Bool} {x3 : Opd} : I.plain (.fld x0 x1 x2 x3) = true := by simp only [I.plain]
theorem pl_sidx {x0 : Opd} {x1 : Opd} : I.plain (.sidx x0 x1) = true := by simp only [I.plain]
theorem pl_ssl {x0 : Opd} {x1 : Option Opd} {x2 : Option Opd} : I.plain (.ssl x0 x1 x2) = true := by simp only [I.plain]
theorem pl_ext {x0 : Nat} {x1 : Opd} : I.plain (.ext x0 x1) = true := by simp only [I.plain]
theorem pl_len {x0 : Bool} {x1 : Opd} : I.plain (.len x0 x1) = true := by simp only [I.plain]
theorem pw_mov {x0 : Opd} : I.plainW (.mov x0) = true := by simp only [I.plainW]
theorem pw_pick {x0 : Opd} {x1 : Opd} {x2 : Opd} : I.plainW (.pick x0 x1 x2) = true := by simp only [I.plainW]
theorem pw_bin {x0 : BinOp} {x1 : Opd} {x2 : Opd} : I.plainW (.bin x0 x1 x2) = true := by simp only [I.plainW]
theorem pw_beq {x0 : Bool} {x1 : Opd} {x2 : Opd} : I.plainW (.beq x0 x1 x2) = true := by simp only [I.plainW]
theorem pw_not {x0 : Opd} : I.plainW (.not x0) = true := by simp only [I.plainW]
theorem pw_load {x0 : Nat} {x1 : Bool} {x2 : Opd} : I.plainW (.load x0 x1 x2) = true := by simp only [I.plainW]
theorem pw_fad {x0 : Nat} {x1 : Opd} : I.plainW (.fad x0 x1) = true := by simp only [I.plainW]
theorem pw_nck {x0 : Opd} : I.plainW (.nck x0) = true := by simp only [I.plainW]
theorem pw_alloc {x0 : List Value} : I.plainW (.alloc x0) = true := by simp only [I.plainW]
theorem pw_box {x0 : Opd} : I.plainW (.box x0) = true := by simp only [I.plainW]
theorem pw_brow {x0 : Bool} {x1 : Nat} {x2 : Nat} {x3 : Nat} {x4 : Bool} {x5 : List Opd} : I.plainW (.brow x0 x1 x2 x3 x4 x5) = true := by simp only [I.plainW]
theorem pw_bld {x0 : List Value} {x1 : List (Nat × Nat × Opd)} : I.plainW (.bld x0 x1) = true := by simp only [I.plainW]
theorem pw_fld {x0 : Nat} {x1 : Nat} {x2 : Bool} {x3 : Opd} : I.plainW (.fld x0 x1 x2 x3) = true := by simp only [I.plainW]
theorem pw_sidx {x0 : Opd} {x1 : Opd} : I.plainW (.sidx x0 x1) = true := by simp only [I.plainW]
theorem pw_ssl {x0 : Opd} {x1 : Option Opd} {x2 : Option Opd} : I.plainW (.ssl x0 x1 x2) = true := by simp only [I.plainW]
theorem pw_ext {x0 : Nat} {x1 : Opd} : I.plainW (.ext x0 x1) = true := by simp only [I.plainW]
theorem pw_len {x0 : Bool} {x1 : Opd} : I.plainW (.len x0 x1) = true := by simp only [I.plainW]
theorem pl_mkf {f : Nat} {xs : List Opd} : I.plain (.mkf f xs) = true := by simp only [I.plain]
theorem pl_fnil {b : Bool} {x : Opd} : I.plain (.fnil b x) = true := by simp only [I.plain]
theorem pl_snil {b : Bool} {x : Opd} : I.plain (.snil b x) = true := by simp only [I.plain]
theorem pl_cvi {k : IntKind} {x : Opd} : I.plain (.cvi k x) = true := by simp only [I.plain]
theorem pl_cvs {x : Opd} : I.plain (.cvs x) = true := by simp only [I.plain]
theorem pl_apps {e : Nat} {x y : Opd} : I.plain (.apps e x y) = true := by simp only [I.plain]
theorem pw_cvi {k : IntKind} {x : Opd} : I.plainW (.cvi k x) = true := by simp only [I.plainW]
theorem pw_cvs {x : Opd} : I.plainW (.cvs x) = true := by simp only [I.plainW]
theorem pw_apps {e : Nat} {x y : Opd} : I.plainW (.apps e x y) = true := by simp only [I.plainW]
theorem ef_cvi {k : IntKind} {x : Opd} : eff (.cvi k x) = false := by simp [eff, I.cls]
theorem ef_cvs {x : Opd} : eff (.cvs x) = false := by simp [eff, I.cls]
theorem ef_apps {e : Nat} {x y : Opd} : eff (.apps e x y) = true := by simp [eff, I.cls]
theorem pl_mk {e : Nat} {z : Value} {x : Opd} : I.plain (.mk e z x) = true := by simp only [I.plain]
theorem pw_mkf {f : Nat} {xs : List Opd} : I.plainW (.mkf f xs) = true := by simp only [I.plainW]
theorem pw_fnil {b : Bool} {x : Opd} : I.plainW (.fnil b x) = true := by simp only [I.plainW]
theorem pw_snil {b : Bool} {x : Opd} : I.plainW (.snil b x) = true := by simp only [I.plainW]
theorem pw_mk {e : Nat} {z : Value} {x : Opd} : I.plainW (.mk e z x) = true := by simp only [I.plainW]
theorem ef_mkf {f : Nat} {xs : List Opd} : eff (.mkf f xs) = false := by simp [eff, I.cls]
theorem ef_fnil {b : Bool} {x : Opd} : eff (.fnil b x) = false := by simp [eff, I.cls]
theorem ef_snil {b : Bool} {x : Opd} : eff (.snil b x) = false := by simp [eff, I.cls]
theorem ef_mk {e : Nat} {z : Value} {x : Opd} : eff (.mk e z x) = true := by simp [eff, I.cls]
theorem ef_mov {x0 : Opd} : eff (.mov x0) = false := by simp [eff, I.cls]
theorem ef_pick {x0 : Opd} {x1 : Opd} {x2 : Opd} : eff (.pick x0 x1 x2) = false := by simp [eff, I.cls]
theorem ef_bin {x0 : BinOp} {x1 : Opd} {x2 : Opd} : eff (.bin x0 x1 x2) = false := by simp [eff, I.cls]
theorem ef_beq {x0 : Bool} {x1 : Opd} {x2 : Opd} : eff (.beq x0 x1 x2) = false := by simp [eff, I.cls]
theorem ef_not {x0 : Opd} : eff (.not x0) = false := by simp [eff, I.cls]
theorem ef_load {x0 : Nat} {x1 : Bool} {x2 : Opd} : eff (.load x0 x1 x2) = false := by simp [eff, I.cls]
theorem ef_fad {x0 : Nat} {x1 : Opd} : eff (.fad x0 x1) = false := by simp [eff, I.cls]
theorem ef_nck {x0 : Opd} : eff (.nck x0) = false := by simp [eff, I.cls]
theorem ef_alloc {x0 : List Value} : eff (.alloc x0) = true := by simp [eff, I.cls]
theorem ef_box {x0 : Opd} : eff (.box x0) = true := by simp [eff, I.cls]
theorem ef_store {x0 : Nat} {x1 : Opd} {x2 : Opd} : eff (.store x0 x1 x2) = true := by simp [eff, I.cls]
theorem ef_bld {x0 : List Value} {x1 : List (Nat × Nat × Opd)} : eff (.bld x0 x1) = false := by simp [eff, I.cls]
theorem ef_fld {x0 : Nat} {x1 : Nat} {x2 : Bool} {x3 : Opd} : eff (.fld x0 x1 x2 x3) = false := by simp [eff, I.cls]
theorem ef_sidx {x0 : Opd} {x1 : Opd} : eff (.sidx x0 x1) = false := by simp [eff, I.cls]
theorem ef_ssl {x0 : Opd} {x1 : Option Opd} {x2 : Option Opd} : eff (.ssl x0 x1 x2) = false := by simp [eff, I.cls]
theorem ef_ext {x0 : Nat} {x1 : Opd} : eff (.ext x0 x1) = false := by simp [eff, I.cls]
theorem ef_len {x0 : Bool} {x1 : Opd} : eff (.len x0 x1) = false := by simp [eff, I.cls]
theorem ef_brow {e s n : Nat} {g : Bool} {xs : List Opd} : eff (.brow false e s n g xs) = false := by simp [eff, I.cls]
theorem ef_bown {e s n : Nat} {g : Bool} {xs : List Opd} : eff (.brow true e s n g xs) = true := by simp [eff, I.cls]
theorem mo_t {st : St} : mo true st = [] := by simp [mo]
theorem mo_f {st : St} : mo false st = st.owns := by simp [mo]
/-- A slot at a loop's head: as before the loop, unknown, or given. -/
inductive Sp where
  | k
  | d
  | v (x : AV)
def mask : List Sp → List AV → List AV
  | .k :: ss, x :: xs => x :: mask ss xs
  | .d :: ss, _ :: xs => .any :: mask ss xs
  | .v y :: ss, _ :: xs => y :: mask ss xs
  | _, _ => []
def FB {X : Type} (fr0 : List AV) (bs0 : List (List AC)) (sp : X → List Sp) (ow : X → List Own) (bx : X → List (List AC) → List (List AC)) (x : X) : St := ⟨mask (sp x) fr0, ow x, bx x bs0⟩
theorem awp_loopB {P : Program} {Q : Exit → St → Prop} {X : Type} {c : IC} {fr0 : List AV} {os0 : List Own} {bs0 : List (List AC)} (sp : X → List Sp) (ow : X → List Own) (bx : X → List (List AC) → List (List AC)) (inv : X → Prop) (μ : X → Nat) (x0 : X) (h0 : inv x0)
    (hle : StLe' ⟨fr0, os0, bs0⟩ (FB fr0 bs0 sp ow bx x0)) (round : ∀ x, inv x → AWP P c (ARound (FB fr0 bs0 sp ow bx) inv μ x Q) (FB fr0 bs0 sp ow bx x)) : AWP P (.loop c) Q ⟨fr0, os0, bs0⟩ :=
  awp_loop (FB fr0 bs0 sp ow bx) inv μ x0 h0 (stLe_of hle) round
theorem roundB {Q : Exit → St → Prop} {st : St} {X : Type} {F : X → St} {inv : X → Prop} {μ : X → Nat} {x : X} (x' : X) (h1 : StLe' st (F x')) (h2 : inv x') (h3 : μ x' < μ x) : ARound F inv μ x Q .normal st := ⟨x', stLe_of h1, h2, h3⟩
theorem li_acs (b : Bool) (n : Int) : (li n).acs b = [.raw (.int .i64 n)] := rfl
theorem ls_acs (b : Bool) (s : ByteArray) : (ls s).acs b = [.raw (.string s)] := rfl
theorem leaf_acs (b : Bool) (v : Value) : (D.leaf v).acs b = [.raw v] := rfl
theorem sl_acs (b : Bool) (l : List D) : (D.sl l).acs b = [.sl b l] := rfl
theorem el_ints (l : List Int) : El 1 (l.map li) := fun d h => by obtain ⟨x, _, rfl⟩ := List.mem_map.1 h; exact ⟨rfl, rfl⟩
theorem el_strs (l : List ByteArray) : El 1 (l.map ls) := fun d h => by obtain ⟨x, _, rfl⟩ := List.mem_map.1 h; exact ⟨rfl, rfl⟩
theorem el_nil (s : Nat) : El s [] := fun d h => by simp at h
theorem el_cons {s : Nat} {d : D} {l : List D} : El s (d :: l) = ((d.one ∧ d.sz = s) ∧ El s l) := by
  apply propext
  constructor
  · intro h
    exact ⟨h d (by simp), fun x hx => h x (by simp [hx])⟩
  · rintro ⟨h1, h2⟩ x hx
    rcases List.mem_cons.1 hx with rfl | hx
    · exact h1
    · exact h2 x hx
theorem flatL_map {α : Type} {g : α → D} (hg : ∀ (x : α) (w : World) (f : List Nat) (cs : List Value), R w (g x) f cs → f = []) : ∀ (l : List α), FlatL (l.map g)
  | [], w, f, cs, h => h.1
  | x :: l, w, f, cs, h => by
    rw [List.map_cons, Rs] at h
    obtain ⟨f1, f2, c1, c2, rfl, rfl, h1, h2⟩ := h
    rw [hg x w f1 c1 h1, flatL_map hg l w f2 c2 h2]
    rfl
theorem flat_ints (l : List Int) : FlatL (l.map li) := flatL_map (g := li) (fun x w f cs h => (show f = [] ∧ _ from h).1) l
theorem flat_strs' (l : List ByteArray) : FlatL (l.map ls) := flatL_map (g := ls) (fun x w f cs h => (show f = [] ∧ _ from h).1) l
theorem idx_nat (l : List D) (k : Nat) : idx l (some (k : Int)) = l[k]? := by simp [idx]
theorem idx_map {α : Type} (f : α → D) (l : List α) {k : Nat} (h : k < l.length) : idx (l.map f) (some (k : Int)) = some (f l[k]) := by
  rw [idx_nat, List.getElem?_map, List.getElem?_eq_getElem h]
  rfl
theorem wrap_nat {n : Nat} (h : n ≤ 9223372036854775806) : IntKind.i64.wrap ((n : Int) + 1) = ((n + 1 : Nat) : Int) := by
  rw [IntWalk.i64_in _ (by omega)]
  rfl
/-- The ends. -/
theorem OwnPost.tos {l : List D} {e s : Nat} {w : World} {en : Ending} {w' : World} (h : OwnPost false l e s w en w') (hf : FlatL l) : TosPost l w en w' := by
  obtain ⟨v, cs, f, rfl, h1, h2, h3, h4⟩ := h
  have := hf _ _ _ h2
  subst this
  exact ⟨_, v, rfl, Sl.of_at h1 h2, Free.of_at h1 Free.nil (fun g hg => by simp), h4⟩
theorem CallsOwn.to {P : Program} {f : Nat} {ds l : List D} {e s : Nat} (h : CallsOwn P f ds l e s) (hf : FlatL l) : CallsTo P f ds (.c false [.sl true l]) := by
  intro w vs hr ht
  refine (h w vs hr ht).mono ?_
  rintro en w' ⟨v, cs, f', rfl, h1, h2, h3, h4⟩
  have := hf _ _ _ h2
  subst this
  refine ⟨v, rfl, ⟨⟨_, Sl.of_at h1 h2, fun b hb => ?_⟩, trivial⟩, h4⟩
  rw [List.append_nil] at hb
  have := (OwnsAt.lt h1 b (by simpa using hb)).1
  exact ⟨newEnv_M.2 this, fun _ => Or.inl this⟩
end Go.Proofs.YtdjcflnemnknaaaDoor
