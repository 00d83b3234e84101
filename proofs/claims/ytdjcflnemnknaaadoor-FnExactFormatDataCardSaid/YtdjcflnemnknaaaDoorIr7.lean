/-
  The rest of the operations: stores, new slices, structs, parts of slices and strings, calls, append.
-/
import Derived.Test.YtdjcflnemnknaaaDoorIr6
namespace Go.Proofs.YtdjcflnemnknaaaDoor
open Go.RowKit
set_option linter.unusedSimpArgs false
set_option linter.unusedVariables false
section
variable {P : Program} {B : Nat} {Xs : List Nat} {G : Org} {w0 : World} {fr : List AV} {os : List Own} {bs : List (List AC)} {E : Env} {a : Act} {w : World} {d : Option Tmp} {K : Act → World → Prop} {Q : Exit → Act → World → Prop}
  {ty : TypeId} {pos : String} {after : Array Edge} {guard : Option (Nat × Bool)}
/-- The cells of a value in a slot. -/
theorem cells_of {g : Bool} {ys : List AC} {v : Value} (h : AV.ok E os w (.c g ys) v) (ho : ys.all AC.one = true) : Oks E os w ys v.cells.toList := by
  cases g with
  | true => obtain ⟨vs, h1, h2⟩ := h; rw [h1]; simpa [Value.cells] using h2
  | false =>
    have h1 : Oks E os w ys [v] := h
    have h3 : v.cells = #[v] := by
      match ys, h1, ho with
      | [], h1, _ => exact h1.elim
      | _ :: _ :: _, h1, _ => exact h1.2.elim
      | [y], h1, ho => exact cells_one h1.1 (by simpa using ho)
    rw [h3]
    exact h1
theorem good_store {t : TypeId} {x y : Operand} {i : TypeInfo} {k off : Nat} {g : Bool} {ys xs : List AC} (h : Rel B Xs G w0 ⟨fr, os, bs⟩ E a w) (hi : P.info? t = some i)
    (hx : St.ev ⟨fr, os, bs⟩ (opd x) = .bptr k off) (hy : St.ev ⟨fr, os, bs⟩ (opd y) = .c g ys) (hl : ys.length = i.size) (h1 : ys.all AC.one = true) (hk : bs[k]? = some xs) (ho : off + i.size ≤ xs.length) :
    Good P B Xs G w0 fr a w ⟨d, .store t x y, ty, pos, after, guard⟩ Q .any os (bs.set k (xs.take off ++ ys ++ xs.drop (off + i.size))) := by
  intro K hK
  have hex := ev_ok h x
  rw [hx] at hex
  obtain ⟨p, hp, he⟩ := hex
  have hey := ev_ok h y
  rw [hy] at hey
  have hc := cells_of hey h1
  obtain ⟨hB, vs, hrow, hvs⟩ := h.box k xs p hk hp
  have hlen : (a.eval y).cells.toList.length = i.size := by rw [← hc.len]; exact hl
  have hlv := hvs.len
  have hrun := run_storeCells_at (P := P) p.1 off p.2 (a.eval y).cells.toList 0 vs.toArray w hrow (by simp; simp at hlen; omega) (fun v hv => ones_of hc h1 v hv)
  have hsz : (a.eval y).cells.size = i.size := by simpa using hlen
  have hrun2 : (execOp a.eval ⟨d, .store t x y, ty, pos, after, guard⟩).run P w = .ok .skip (w.setRow p.1 (vs.take off ++ (a.eval y).cells.toList ++ vs.drop (off + i.size)).toArray) := by
    simp only [Nat.add_zero] at hrun
    simp [execOp, Instr.storeAt, he, Instr.sureAddr, storeVar, sizeOf, typeInfo, hi, hsz] at hrun ⊢
    rw [hrun]
    simp
  unfold Oper.wp
  rw [hrun2]
  refine hK E undef _ (h.setBox (w' := w.setRow p.1 (vs.take off ++ (a.eval y).cells.toList ++ vs.drop (off + i.size)).toArray) hk hp (us := vs.take off ++ (a.eval y).cells.toList ++ vs.drop (off + i.size)) ?_ (by simp) ⟨rfl, rfl, rfl⟩ (fun b hb => setRow_other _ _ _ _ hb) ?_ d trivial)
  · exact Oks.append (hvs.drop _) (Oks.append hc (hvs.take off))
  · exact setRow_heap _ _ _ _ _ _ hrow
theorem fold_set (off : Nat) : ∀ (vs : List Value) (j : Nat) (cs : Array Value), off + j + vs.length ≤ cs.size →
    ((vs.zipIdx j).foldl (fun cs (x : Value × Nat) => cs.setIfInBounds (off + x.2) x.1) cs).toList = cs.toList.take (off + j) ++ vs ++ cs.toList.drop (off + j + vs.length)
  | [], j, cs, _ => by simp
  | v :: vs, j, cs, h => by
    simp only [List.length_cons] at h
    rw [List.zipIdx_cons, List.foldl_cons, fold_set off vs (j + 1) _ (by simp; omega)]
    simp only [Array.toList_setIfInBounds, List.length_cons]
    have e := list_seg_step cs.toList (off + j) v vs (by simp; omega)
    simpa [Nat.add_assoc, Nat.add_comm 1] using e
theorem fill_ok {st : St} {places : List (Nat × Nat)} (h : Rel B Xs G w0 st E a w) : ∀ (ps : List (Nat × Operand)) (l : List (Nat × Nat × Opd)) (xs cs : List AC) (vs : Array Value),
    ps.mapM (fun p => (places.toArray[p.1]?).map fun q => (q.1, q.2, opd p.2)) = some l → Oks E st.owns w xs vs.toList → fillA st.ev l xs = some cs →
    ∃ us, Instr.fill (fun i => places.toArray[i]?) vs (ps.map fun p => (p.1, a.eval p.2)) = some us ∧ Oks E st.owns w cs us.toList
  | [], l, xs, cs, vs, hm, hx, hf => by
    simp at hm
    subst hm
    simp only [fillA] at hf
    injection hf with hf
    subst hf
    exact ⟨vs, rfl, hx⟩
  | p :: ps, l, xs, cs, vs, hm, hx, hf => by
    simp only [List.mapM_cons, Option.bind_eq_bind, Option.pure_def] at hm
    cases hq : (places.toArray[p.1]?).map (fun q => (q.1, q.2, opd p.2)) with
    | none => rw [hq] at hm; simp at hm
    | some q =>
      cases hr : ps.mapM (fun p => (places.toArray[p.1]?).map fun q => (q.1, q.2, opd p.2)) with
      | none => rw [hq, hr] at hm; simp at hm
      | some l' =>
        rw [hq, hr] at hm
        simp at hm
        subst hm
        obtain ⟨q', hq1, hq2⟩ := Option.map_eq_some_iff.1 hq
        subst hq2
        simp only [fillA] at hf
        cases hev : st.ev (opd p.2) with
        | c g ys =>
          simp only [hev] at hf
          split at hf
          · next hc =>
            have hv := ev_ok h p.2
            rw [hev] at hv
            have hcells := cells_of hv hc.2.2
            have hl1 : (a.eval p.2).cells.toList.length = q'.2 := by rw [← hcells.len]; exact hc.1
            have hl2 := hx.len
            have hsz : (a.eval p.2).cells.size = q'.2 := by simpa using hl1
            have hfold := fold_set q'.1 (a.eval p.2).cells.toList 0 vs (by simp at hl1 hl2 ⊢; omega)
            obtain ⟨us, h2, h3⟩ := fill_ok h ps l' _ cs ((a.eval p.2).cells.zipIdx.foldl (fun cs (x : Value × Nat) => cs.setIfInBounds (q'.1 + x.2) x.1) vs) hr (by
              have e : ((a.eval p.2).cells.zipIdx.foldl (fun cs (x : Value × Nat) => cs.setIfInBounds (q'.1 + x.2) x.1) vs).toList = vs.toList.take q'.1 ++ (a.eval p.2).cells.toList ++ vs.toList.drop (q'.1 + q'.2) := by
                rw [← Array.foldl_toList, Array.toList_zipIdx]
                simp only [Nat.add_zero] at hfold
                rw [hfold, hl1]
              rw [e]
              exact Oks.append (hx.drop _) (Oks.append hcells (hx.take _))) hf
            refine ⟨us, ?_, h3⟩
            rw [List.map_cons, Instr.fill]
            simp only [hq1]
            rw [if_neg (by simp [hsz]; simp at hl2; omega)]
            exact h2
          · cases hf
        | any => simp [hev] at hf
        | ptr _ => simp [hev] at hf
        | bptr _ _ => simp [hev] at hf
        | eptr _ _ _ _ => simp [hev] at hf
        | tup _ => simp [hev] at hf
theorem good_bld {t : TypeId} {ps : Array (Nat × Operand)} {it : TypeInfo} {fields : Array Field} {z : Value} {places : List (Nat × Nat)} {l : List (Nat × Nat × Opd)} {cs : List AC} (h : Rel B Xs G w0 ⟨fr, os, bs⟩ E a w)
    (h1 : P.info? t = some it) (h2 : P.underlying t = some (.struct fields)) (h3 : it.zero = some z) (h4 : fields.toList.mapM (fun f => (P.info? f.type).map fun i => (f.offset, i.size)) = some places)
    (h5 : ps.toList.mapM (fun p => (places.toArray[p.1]?).map fun q => (q.1, q.2, opd p.2)) = some l) (hf : fillA (St.ev ⟨fr, os, bs⟩) l (z.cells.toList.map .raw) = some cs) :
    Good P B Xs G w0 fr a w ⟨d, .build t ps, ty, pos, after, guard⟩ Q (.c true cs) os bs := by
  obtain ⟨us, h6, h7⟩ := fill_ok h ps.toList l _ cs z.cells h5 (oks_raw _) hf
  refine good_pure h (v := .agg us) ?_ ⟨us.toList, by simp, h7⟩
  have hb : P.built t (ps.map fun (i, x) => (i, a.eval x)).toList = some us := by
    simp only [Program.built, h1, h2, h3, h4, Array.toList_map]
    exact h6
  simp only [execOp, Sem.run_bind, run_build w t _ us hb, Result.andThen_ok]
  rfl
theorem good_fld {t f off n : Nat} {x : Operand} {g : Bool} {m : Nat} {xs : List AC} (h : Rel B Xs G w0 ⟨fr, os, bs⟩ E a w) (hf : fieldOf P t f = some (off, n, g)) (hm : m = if g then n else 1)
    (hx : St.ev ⟨fr, os, bs⟩ (opd x) = .c true xs) (hl : off + m ≤ xs.length) : Good P B Xs G w0 fr a w ⟨d, .field t x f, ty, pos, after, guard⟩ Q (.c g ((xs.drop off).take m)) os bs := by
  obtain ⟨fs, fd, i, dd, h1, h2, h3, h4, h5, h6, h7⟩ := fieldOf_spec hf
  have hv := ev_ok h x
  rw [hx] at hv
  obtain ⟨vs, he, hvs⟩ := hv
  have hlv := hvs.len
  have hd := hvs.drop off
  cases g with
  | true =>
    simp only [if_true] at hm
    subst hm
    refine good_pure h (v := .agg (vs.toArray.extract off (off + m))) ?_ ⟨(vs.drop off).take m, ?_, hd.take m⟩
    rotate_left
    · congr 1
      apply Array.ext'
      simp [List.extract_eq_take_drop]
    have hagg : (isAgg fd.type).run P w = .ok true w := by
      cases dd <;> simp_all [isAggD, isAgg, run_underlying h4]
    simp only [execOp, he, Instr.field, Sem.run_bind, run_underlying h1, Result.andThen_ok, h2, Go.part, hagg, asAgg, sizeOf, typeInfo, Sem.run_pure, if_true]
    simp [h3, h6, h5]
  | false =>
    simp only [Bool.false_eq_true, if_false] at hm
    subst hm
    have hlt : off < vs.length := by omega
    have e1 : (vs.drop off).take 1 = [vs[off]] := by rw [List.drop_eq_getElem_cons hlt]; rfl
    have ht := hd.take 1
    rw [e1] at ht
    refine good_pure h (v := vs[off]) ?_ ht
    have hagg : (isAgg fd.type).run P w = .ok false w := by
      cases dd <;> simp_all [isAggD, isAgg, run_underlying h4]
    simp [execOp, he, Instr.field, run_underlying h1, h2, Go.part, hagg, asAgg, h5, hlt]
theorem good_sidx {t : TypeId} {x i : Operand} {s : ByteArray} {z : Int} {b : UInt8} (h : Rel B Xs G w0 ⟨fr, os, bs⟩ E a w) (ht : P.underlying t = some .string) (hx : St.ev ⟨fr, os, bs⟩ (opd x) = .c false [.raw (.string s)])
    (hi : rawI (St.ev ⟨fr, os, bs⟩ (opd i)) = some z) (h0 : 0 ≤ z) (hb : s.data[z.toNat]? = some b) : Good P B Xs G w0 fr a w ⟨d, .index t x i, ty, pos, after, guard⟩ Q (.c false [.raw (.int .u8 b.toNat)]) os bs := by
  obtain ⟨k, hk⟩ := rawI_of hi
  refine good_pure h (v := .int .u8 b.toNat) ?_ ⟨rfl, trivial⟩
  have hb' : s[z.toNat]? = some b := by
    obtain ⟨h1, h2⟩ := Array.getElem?_eq_some_iff.1 hb
    have : z.toNat < s.size := h1
    rw [getElem?_pos s z.toNat this]
    simp only [Option.some.injEq]
    exact h2
  simp [execOp, eval_raw h hx, eval_raw h hk, Instr.index, asIntOf, run_underlying ht, h0, hb']
theorem good_ext {x : Operand} {j : Nat} {ys : List (Bool × List AC)} {g : Bool} {xs : List AC} (h : Rel B Xs G w0 ⟨fr, os, bs⟩ E a w) (hx : St.ev ⟨fr, os, bs⟩ (opd x) = .tup ys) (hj : ys[j]? = some (g, xs)) :
    Good P B Xs G w0 fr a w ⟨d, .extract x j, ty, pos, after, guard⟩ Q (.c g xs) os bs := by
  have hv := ev_ok h x
  rw [hx] at hv
  obtain ⟨vs, he, hvs⟩ := hv
  have : ∀ (ys : List (Bool × List AC)) (vs : List Value) (j : Nat), Toks E os w ys vs → ys[j]? = some (g, xs) → ∃ v, vs[j]? = some v ∧ Gok E os w g xs v := by
    intro ys
    induction ys with
    | nil => intro vs j _ hj; simp at hj
    | cons y ys ih =>
      intro vs j h hj
      cases vs with
      | nil => exact h.elim
      | cons v vs =>
        cases j with
        | zero => simp at hj; subst hj; exact ⟨v, rfl, h.1⟩
        | succ j => simp at hj; obtain ⟨u, h1, h2⟩ := ih vs j h.2 hj; exact ⟨u, by simpa using h1, h2⟩
  obtain ⟨v, h1, h2⟩ := this ys vs j hvs hj
  refine good_pure h (v := v) ?_ h2
  simp [execOp, he, Instr.extract, h1]
end
end Go.Proofs.YtdjcflnemnknaaaDoor
