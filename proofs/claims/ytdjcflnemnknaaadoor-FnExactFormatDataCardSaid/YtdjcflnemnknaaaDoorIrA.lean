/-
  Every step is right.
-/
import Derived.Test.YtdjcflnemnknaaaDoorIr9
namespace Go.Proofs.YtdjcflnemnknaaaDoor
open Go.RowKit
set_option linter.unusedSimpArgs false
set_option linter.unusedVariables false
section
variable {P : Program} {B : Nat} {Xs : List Nat} {G : Org} {w0 : World} {fr : List AV} {os : List Own} {bs : List (List AC)} {E : Env} {a : Act} {w : World} {d : Option Tmp} {Q : Exit → Act → World → Prop}
  {ty : TypeId} {pos : String} {after : Array Edge} {guard : Option (Nat × Bool)} {own : Bool} {i : I} {r : AV} {os' : List Own} {bs' : List (List AC)}
theorem ptr_load {t : TypeId} {x : Operand} {inf : TypeInfo} {dd : TypeDesc} {n : Nat} {g : Bool} (h : Rel B Xs G w0 ⟨fr, os, bs⟩ E a w) (hi : P.info? t = some inf) (hd : P.underlying t = some dd) (hg : isAggD dd = g) (hn : if g then inf.size = n else n = 1)
    (hr : Res P (St.ev ⟨fr, os, bs⟩) os bs (.load n g (opd x)) r os' bs') : Good P B Xs G w0 fr a w ⟨d, .load t x, ty, pos, after, guard⟩ Q r os' bs' := by
  have hev := ev_ok h x
  cases hr with
  | loadP hx hl =>
    rw [hx] at hev
    obtain ⟨b, o, vs, he, _, _, ha, hvs⟩ := hev
    exact good_load h hi hd hg hn he ha hvs hl
  | @loadB _ _ _ xs k off hx hk hl =>
    rw [hx] at hev
    obtain ⟨p, hp, he⟩ := hev
    obtain ⟨_, vs, hrow, hvs⟩ := h.box k xs p hk hp
    have ha : At w p.1 off (vs.drop off) := fun j u hj => by rw [hrow.cell]; rw [List.getElem?_drop] at hj; exact hj
    exact good_load h hi hd hg hn he ha (hvs.drop off) (by rw [List.length_drop]; omega)
  | @loadE _ _ _ k i j off o dj hx ho hv hj hl =>
    rw [hx] at hev
    obtain ⟨o', p, h1, h2, _, h4⟩ := hev
    simp only at h1
    rw [ho] at h1
    injection h1 with h1
    subst h1
    obtain ⟨b, z0, he, hb⟩ := h4 hv
    obtain ⟨cs, h5, h6, h7, h8⟩ := h.own k o p ho h2
    obtain ⟨jl, jd⟩ := List.getElem?_eq_some_iff.1 hj
    obtain ⟨fi, ci, hR, hfi, hci⟩ := h6.get (fun d hd => (h7 d hd).2) hj
    have hat : At w b (z0 + j * o.s) ci := fun m u hm' => by
      have := (h5.at_ hb).1 _ u (hci m u hm')
      rwa [← Nat.add_assoc] at this
    have hoks : Oks E os w (dj.acs o.nw) ci := oks_acs hR (fun b hb => ⟨(h8 b (hfi b hb)).1, fun e => (h8 b (hfi b hb)).2 e⟩)
    exact good_load h hi hd hg hn (by rw [he, ← Nat.add_assoc]) hat.drop (hoks.drop off) (by rw [List.length_drop]; omega)
theorem ptr_fad {s f off n : Nat} {g : Bool} {x : Operand} (h : Rel B Xs G w0 ⟨fr, os, bs⟩ E a w) (hf : fieldOf P s f = some (off, n, g)) (hn : ¬ n = 0)
    (hr : Res P (St.ev ⟨fr, os, bs⟩) os bs (.fad off (opd x)) r os' bs') : Good P B Xs G w0 fr a w ⟨d, .fieldAddr s x f, ty, pos, after, guard⟩ Q r os' bs' := by
  have hev := ev_ok h x
  cases hr with
  | fadP hx hl =>
    rw [hx] at hev
    obtain ⟨b, o, vs, he, hb, hm, ha, hvs⟩ := hev
    exact good_fad h hf hn he ⟨b, o + off, vs.drop off, rfl, hb, hm, ha.drop, hvs.drop off⟩
  | fadB hx =>
    rw [hx] at hev
    obtain ⟨p, hp, he⟩ := hev
    exact good_fad h hf hn he ⟨p, hp, rfl⟩
  | fadE hx ho hv =>
    rw [hx] at hev
    obtain ⟨o', p, h1, h2, h3, h4⟩ := hev
    simp only at h1
    rw [ho] at h1
    injection h1 with h1
    subst h1
    obtain ⟨b, z0, he, hb⟩ := h4 hv
    exact good_fad h hf hn he ⟨_, p, ho, h2, h3, fun _ => ⟨b, z0, by simp only [Nat.add_assoc], hb⟩⟩
theorem ptr_iad {t e s : Nat} {x j : Operand} (h : Rel B Xs G w0 ⟨fr, os, bs⟩ E a w) (ht : elemOf' P t = some (e, s))
    (hr : Res P (St.ev ⟨fr, os, bs⟩) os bs (.iad s (opd x) (opd j)) r os' bs') : Good P B Xs G w0 fr a w ⟨d, .indexAddr t x j, ty, pos, after, guard⟩ Q r os' bs' := by
  have hev := ev_ok h x
  cases hr with
  | @iadS _ _ _ n l z dd hx hi h0 hl hel =>
    obtain ⟨k, hk⟩ := rawI_of hi
    rw [hx] at hev
    obtain ⟨⟨fp, h1, h2⟩, _⟩ := hev
    obtain ⟨A, c, he, _, _⟩ := Sl.form h1
    rw [he] at h1
    obtain ⟨b, o, fi, ci, rfl, hb, hbf, hR, hfi, hat⟩ := h1.elem (fun d hd => (hel d hd).2) hl
    have hlt := (List.getElem?_eq_some_iff.1 hl).1
    exact good_iad h ht he (eval_raw h hk) h0 hlt ⟨b, o + z.toNat * s, ci, rfl, hb, (h2 b hbf).1, hat, oks_acs hR (fun b' hb' => h2 b' (hfi b' hb'))⟩
  | @iadO _ _ _ k jj o z hx hi h0 ho hv hl hs =>
    obtain ⟨kk, hk⟩ := rawI_of hi
    rw [hx] at hev
    obtain ⟨⟨_, o', p, h1, h2, h3, h4⟩, _⟩ := hev
    simp only at h1
    rw [ho] at h1
    injection h1 with h1
    subst h1
    have he := h4 hv
    obtain ⟨cs, h5, h6, h7, h8⟩ := h.own k o p ho h2
    rcases h5.2 with ⟨hv', h9⟩ | ⟨g, zz, cap, cur, hv', _⟩
    · omega
    · subst hs
      refine good_iad h ht (he.trans hv') (eval_raw h hk) h0 hl ⟨o, p, ho, h2, h3, fun _ => ⟨g, zz, by simp, by rw [hv']; rfl⟩⟩
  | @iadU _ _ _ k jj pa qa o z hx hi h0 ho hv hl hs =>
    obtain ⟨kk, hk⟩ := rawI_of hi
    rw [hx] at hev
    have hev1 := hev.1
    obtain ⟨⟨_, o', p', h1, h2, h3, h4⟩, _⟩ := hev
    simp only at h1
    rw [ho] at h1
    injection h1 with h1
    subst h1
    obtain ⟨g1, g2, p, cs, f, g3, g4, g5, g6, g7, A, n, c, g8, g9⟩ := osub_ok h hev1 ho hv
    have hpp : p' = p := by rw [h2] at g3; injection g3
    subst hpp
    obtain ⟨cs', h5, h6, h7, h8⟩ := h.own k o p' ho h2
    rcases h5.2 with ⟨hv', h9⟩ | ⟨g, zz, cap, cur, hv', _, _, q1, _⟩
    · omega
    · subst hs
      rw [hv'] at g8
      injection g8 with e1 e2 e3
      subst e1 e2 e3
      have hne : ¬ cap = pa := by omega
      have hA : a.eval x = .slice (some ⟨g, zz + pa * o.s, none⟩) (qa - pa) (cap - pa) := by
        rw [g9]
        unfold sliced
        rw [if_neg hne, Option.map_some, addr_add]
      refine good_iad h ht hA (eval_raw h hk) h0 hl ⟨o, p', ho, h2, h3, fun _ => ⟨g, zz, ?_, by rw [hv']; rfl⟩⟩
      rw [Nat.add_mul, Nat.add_zero, Nat.add_assoc]
theorem ptr_nck {x : Operand} (h : Rel B Xs G w0 ⟨fr, os, bs⟩ E a w)
    (hr : Res P (St.ev ⟨fr, os, bs⟩) os bs (.nck (opd x)) r os' bs') : Good P B Xs G w0 fr a w ⟨d, .nilCheck x, ty, pos, after, guard⟩ Q r os' bs' := by
  have hev := ev_ok h x
  cases hr with
  | nckP hx =>
    rw [hx] at hev
    have hev' := hev
    obtain ⟨b, o, vs, he, _⟩ := hev
    rw [he] at hev'
    exact good_nck h he hev'
  | nckB hx =>
    rw [hx] at hev
    have hev' := hev
    obtain ⟨p, hp, he⟩ := hev
    rw [he] at hev'
    exact good_nck h he hev'
theorem ptr_lenS {t e : Nat} {x : Operand} (h : Rel B Xs G w0 ⟨fr, os, bs⟩ E a w) (ht : P.underlying t = some (.slice e))
    (hr : Res P (St.ev ⟨fr, os, bs⟩) os bs (.len false (opd x)) r os' bs') : Good P B Xs G w0 fr a w ⟨d, .call { callee := .builtin .len, args := #[x], argTypes := #[t] }, ty, pos, after, guard⟩ Q r os' bs' := by
  have hev := ev_ok h x
  cases hr with
  | lenS hx =>
    rw [hx] at hev
    obtain ⟨⟨fp, h1, h2⟩, _⟩ := hev
    obtain ⟨A, c, he, _, _⟩ := Sl.form h1
    exact good_lenS h ht ⟨A, c, he⟩
  | lenO hx ho hv =>
    rw [hx] at hev
    obtain ⟨⟨_, o', p, h1, h2, h3, h4⟩, _⟩ := hev
    simp only at h1
    rw [ho] at h1
    injection h1 with h1
    subst h1
    have he := h4 hv
    obtain ⟨cs, h5, h6, h7, h8⟩ := h.own _ _ p ho h2
    obtain ⟨A, c, hv'⟩ := ownsAt_form h5
    exact good_lenS h ht ⟨A, c, he.trans hv'⟩
  | lenU hx ho hv => exact lenU_ok h ht hx ho hv
  | lenN hx =>
    have := good_lenS (d := d) (ty := ty) (pos := pos) (after := after) (guard := guard) (Q := Q) h ht ⟨none, 0, eval_raw h hx⟩
    simpa using this
theorem ptr_app {t e s : Nat} {x y : Operand} (h : Rel B Xs G w0 ⟨fr, os, bs⟩ E a w) (ht : P.underlying t = some (.slice e)) (he : ekOk P e s = true)
    (hr : Res P (St.ev ⟨fr, os, bs⟩) os bs (.app e s (opd x) (opd y)) r os' bs') : Good P B Xs G w0 fr a w ⟨d, .call { callee := .builtin .append, args := #[x, y], argTypes := #[t, t] }, ty, pos, after, guard⟩ Q r os' bs' := by
  cases hr with
  | appO hx ho hv h1 h2 hs hl hn => exact good_appO h ht he hx ho hv h1 h2 hs hl hn
  | appU hx ho hv h1 h2 hs hl hn => exact good_appU h ht he hx ho hv h1 h2 hs hl hn
  | appN hx hs hl hn => exact good_appN h ht he hx hs hl hn
theorem map_op (ps : List (Nat × Operand)) : (ps.map fun p => opd p.2) = (ps.map (·.2)).map opd := by simp

/-- The step of an operation is right. -/
theorem step_sound {op : Op} (hc : comp1 P own op = some i) (h : Rel B Xs G w0 ⟨fr, os, bs⟩ E a w) (hr : Res P (St.ev ⟨fr, os, bs⟩) os bs i r os' bs') :
    Good P B Xs G w0 fr a w ⟨d, op, ty, pos, after, guard⟩ Q r os' bs' := by
  cases op with
  | move x =>
    simp only [comp1] at hc
    injection hc with hc
    subst hc
    cases hr
    exact good_mov (b := true) h
  | assign x =>
    simp only [comp1] at hc
    injection hc with hc
    subst hc
    cases hr
    exact good_mov (b := false) h
  | pick c x y =>
    simp only [comp1] at hc
    injection hc with hc
    subst hc
    cases hr with
    | pick hb => exact good_pick h hb
  | binOp op t x y yt =>
    simp only [comp1] at hc
    split at hc
    · next ht =>
      injection hc with hc
      subst hc
      cases hr with
      | beq hx hy => exact good_beq (ne := false) h hx hy ht
    · next ht =>
      injection hc with hc
      subst hc
      cases hr with
      | beq hx hy => exact good_beq (ne := true) h hx hy ht
    · next ht =>
      split at hc
      · injection hc with hc
        subst hc
        cases hr with
        | fnilC hx => exact good_fnil (ne := false) h ht (Or.inl ⟨_, _, hx, rfl⟩)
        | fnilN hx => exact good_fnil (ne := false) h ht (Or.inr ⟨hx, rfl⟩)
      · cases hc
    · next ht =>
      split at hc
      · injection hc with hc
        subst hc
        cases hr with
        | fnilC hx => exact good_fnil (ne := true) h ht (Or.inl ⟨_, _, hx, rfl⟩)
        | fnilN hx => exact good_fnil (ne := true) h ht (Or.inr ⟨hx, rfl⟩)
      · cases hc
    · next ht =>
      split at hc
      · injection hc with hc
        subst hc
        cases hr with
        | snilZ hx => exact good_snil (ne := false) h ht (Or.inr ⟨hx, rfl⟩)
        | snilO hx ho hv hl => exact good_snil (ne := false) h ht (Or.inl ⟨_, _, _, hx, ho, hv, hl, rfl⟩)
      · cases hc
    · next ht =>
      split at hc
      · injection hc with hc
        subst hc
        cases hr with
        | snilZ hx => exact good_snil (ne := true) h ht (Or.inr ⟨hx, rfl⟩)
        | snilO hx ho hv hl => exact good_snil (ne := true) h ht (Or.inl ⟨_, _, _, hx, ho, hv, hl, rfl⟩)
      · cases hc
    · injection hc with hc
      subst hc
      cases hr with
      | bin hx hy hz => exact good_bin h hx hy hz
  | unOp op t x =>
    cases op <;> simp only [comp1, reduceCtorEq] at hc
    injection hc with hc
    subst hc
    cases hr with
    | not hx => exact good_not h hx
  | makeFunc fn first caps =>
    cases fn <;> simp only [comp1, reduceCtorEq] at hc
    split at hc
    · next hf =>
      injection hc with hc
      subst hc
      cases hr with
      | mkf hcs => exact good_mkf h hf hcs
    · cases hc
  | load t x =>
    simp only [comp1] at hc
    split at hc
    · next inf dd hi hd =>
      split at hc
      · next hg =>
        injection hc with hc
        subst hc
        exact ptr_load h hi hd hg (by simp) hr
      · next hg =>
        injection hc with hc
        subst hc
        exact ptr_load h hi hd (by simpa using hg) (by simp) hr
    · cases hc
  | store t x y =>
    simp only [comp1] at hc
    split at hc
    · next inf hi =>
      injection hc with hc
      subst hc
      cases hr with
      | store hx hy hl h1 hk ho => exact good_store h hi hx hy hl h1 hk ho
    · cases hc
  | fieldAddr s x f =>
    simp only [comp1] at hc
    split at hc
    · next off n g hf =>
      split at hc
      · cases hc
      · next hn =>
        injection hc with hc
        subst hc
        exact ptr_fad h hf hn hr
    · cases hc
  | indexAddr t x j =>
    simp only [comp1] at hc
    split at hc
    · next e s ht =>
      injection hc with hc
      subst hc
      exact ptr_iad h ht hr
    · cases hc
  | nilCheck x =>
    simp only [comp1] at hc
    injection hc with hc
    subst hc
    exact ptr_nck h hr
  | alloc t =>
    simp only [comp1] at hc
    split at hc
    · next inf hi =>
      split at hc
      · next z hz =>
        injection hc with hc
        subst hc
        cases hr
        exact good_alloc h hi hz
      · cases hc
    · cases hc
  | box t x =>
    simp only [comp1] at hc
    injection hc with hc
    subst hc
    cases hr with
    | box hx h1 => exact good_box h hx h1
  | buildSlice t n ps =>
    simp only [comp1] at hc
    split at hc
    · next e s ht =>
      split at hc
      · next hk =>
        injection hc with hc
        subst hc
        simp only [Bool.and_eq_true, decide_eq_true_eq] at hk
        cases hr with
        | brow hd hs hl => exact good_brow h ht hk.1.1 hk.1.2 hk.2 hd hs hl
        | bown hd hs hl => exact good_bown h ht hk.1.1 hk.1.2 hk.2 hd hs hl
      · cases hc
    · cases hc
  | makeSlice t l c =>
    simp only [comp1] at hc
    split at hc
    · next e s ht =>
      split at hc
      · next z hz =>
        split at hc
        · next hk =>
          injection hc with hc
          subst hc
          simp only [Bool.and_eq_true, beq_iff_eq] at hk
          obtain ⟨⟨⟨rfl, h2⟩, h3⟩, h4⟩ := hk
          cases hr with
          | mkO hl hk => exact good_mk h ht h2 hz h3 h4 hl hk
        · cases hc
      · cases hc
    · cases hc
  | build t ps =>
    simp only [comp1] at hc
    split at hc
    · next it fields h1 h2 =>
      split at hc
      · next z places h3 h4 =>
        split at hc
        · next l h5 =>
          injection hc with hc
          subst hc
          cases hr with
          | bld hf => exact good_bld h h1 h2 h3 h4 h5 hf
        · cases hc
      · cases hc
    · cases hc
  | field t x f =>
    simp only [comp1] at hc
    split at hc
    · next off n g hf =>
      cases g with
      | true =>
        simp only [if_true] at hc
        injection hc with hc
        subst hc
        cases hr with
        | fld hx hl => exact good_fld h hf rfl hx hl
      | false =>
        simp only [Bool.false_eq_true, if_false] at hc
        injection hc with hc
        subst hc
        cases hr with
        | fld hx hl => exact good_fld h hf rfl hx hl
    · cases hc
  | index t x j =>
    simp only [comp1] at hc
    split at hc
    · next ht =>
      injection hc with hc
      subst hc
      cases hr with
      | sidx hx hi h0 hb => exact good_sidx h ht hx hi h0 hb
    · cases hc
  | slice t x lo hi mx =>
    cases mx with
    | some m => simp only [comp1, reduceCtorEq] at hc
    | none =>
      simp only [comp1] at hc
      split at hc
      · next ht =>
        injection hc with hc
        subst hc
        cases hr with
        | ssl hx h1 h2 h3 => exact good_ssl h ht hx h1 h2 h3
      · next e ht =>
        split at hc
        · next inf hi =>
          injection hc with hc
          subst hc
          cases hr with
          | lsl hx h1 h2 h3 h4 => exact good_lsl h ht hi hx h1 h2 h3 h4
          | lslO hx ho hv hs h1 h2 h3 =>
            obtain ⟨u, g1, g2⟩ := lslO_run (d := d) (ty := ty) (pos := pos) (after := after) (guard := guard) h ht hi hx ho hv hs h1 h2 h3
            exact good_pure h g1 ⟨g2, trivial⟩
        · cases hc
      · cases hc
  | extract x j =>
    simp only [comp1] at hc
    injection hc with hc
    subst hc
    cases hr with
    | ext hx hj => exact good_ext h hx hj
  | convert src dst x =>
    simp only [comp1] at hc
    split at hc
    · next hs hd =>
      injection hc with hc
      subst hc
      cases hr with
      | cvi hx => exact good_cvi h hs hd hx
    · next e hs hd =>
      split at hc
      · next he =>
        injection hc with hc
        subst hc
        cases hr with
        | cvsS hx hb => exact good_cvsS h hs he hd hx hb
        | cvsO hx ho hv hb => exact good_cvsO h hs he hd hx ho hv hb
      · cases hc
    · cases hc
  | call c =>
    obtain ⟨callee, args, ats⟩ := c
    simp only [comp1] at hc
    split at hc
    · next _ f =>
      split at hc
      · next fn hf =>
        split at hc
        · cases hc
        · next hn =>
          injection hc with hc
          subst hc
          have hn' : (fn.name == "runtime.NumGoroutine" || fn.body.isNone) = false := by
            cases hb : (fn.name == "runtime.NumGoroutine" || fn.body.isNone) with
            | true => exact absurd hb hn
            | false => rfl
          have hm : (args.toList.map opd).map (St.ev ⟨fr, os, bs⟩) = args.toList.map fun x => St.ev ⟨fr, os, bs⟩ (opd x) := by simp
          cases hr with
          | call ha hcc hres => exact good_call h hf hn' (hm ▸ ha) hcc hres
          | callO ha hcc hl => exact good_callO h hf hn' (hm ▸ ha) hcc hl
          | callX ha hcc hres hlen => exact good_callX h hf hn' (hm ▸ ha) hcc hres
          | callA ha hcc hres => exact good_callA h hf hn' (hm ▸ ha) hcc hres
      · cases hc
    · next _ =>
      split at hc
      · next x y t t' hargs hats =>
        have e1 : args = #[x, y] := by apply Array.toList_inj.1; simpa using hargs
        have e2 : ats = #[t, t'] := by apply Array.toList_inj.1; simpa using hats
        subst e1 e2
        split at hc
        · next htt =>
          subst htt
          split at hc
          · next e s ht =>
            split at hc
            · next he =>
              injection hc with hc
              subst hc
              exact ptr_app h (elemOf_spec ht).1 he hr
            · cases hc
          · cases hc
        · split at hc
          · next e ht hu =>
            split at hc
            · next he =>
              injection hc with hc
              subst hc
              cases hr with
              | apps hx ho hv h1 h2 hy h3 => exact good_apps h ht hu he hx ho hv h1 h2 hy h3
            · cases hc
          · cases hc
      · cases hc
    · next _ =>
      split at hc
      · next x t hargs hats =>
        have e1 : args = #[x] := by apply Array.toList_inj.1; simpa using hargs
        have e2 : ats = #[t] := by apply Array.toList_inj.1; simpa using hats
        subst e1 e2
        split at hc
        · next ht =>
          injection hc with hc
          subst hc
          cases hr with
          | lenT hx => exact good_lenT h ht (eval_raw h hx)
        · next e ht =>
          injection hc with hc
          subst hc
          exact ptr_lenS h ht hr
        · cases hc
      · cases hc
    · injection hc with hc
      subst hc
      cases hr
    · cases hc
  | _ => simp [comp1] at hc
/-- A store into an element of a slice of the call's own. -/
theorem storeE_sound {op : Op} {n k v j : Nat} {x y : Opd} {ow : Own} {dd : D} {K : Act → World → Prop} (hc : comp1 P own op = some (.store n x y)) (h : Rel B Xs G w0 ⟨fr, os, bs⟩ E a w)
    (hx : St.ev ⟨fr, os, bs⟩ x = .eptr k v j 0) (ho : os[k]? = some ow) (hv : ow.ver = v) (hs : ow.s = n) (hj : j < ow.l.length) (hy : (St.ev ⟨fr, os, bs⟩ y).toD = some dd) (hd : dd.sz = n)
    (hK : ∀ E' w', Rel B Xs G w0 (St.put ⟨fr, os.set k ⟨ow.l.set j dd, ow.e, ow.s, ow.ver, ow.nw && (St.ev ⟨fr, os, bs⟩ y).nw⟩, bs⟩ d .any) E' (a.put d undef) w' → K (a.put d undef) w') :
    Oper.wp P ⟨d, op, ty, pos, after, guard⟩ a w K Q := by
  have : ∃ t x' y' i, op = .store t x' y' ∧ P.info? t = some i ∧ i.size = n ∧ opd x' = x ∧ opd y' = y := by
    cases op with
    | store t x' y' =>
      simp only [comp1] at hc
      split at hc
      · next i hi =>
        injection hc with hc
        injection hc with h1 h2 h3
        exact ⟨t, x', y', i, rfl, hi, h1, h2, h3⟩
      · cases hc
    | _ =>
      simp only [comp1] at hc
      repeat' split at hc
      all_goals first | contradiction | (cases hc; done)
  obtain ⟨t, x', y', i, rfl, hi, rfl, rfl, rfl⟩ := this
  exact good_storeE h hi hx ho hv hs hj hy hd hK
/-- A part of an own slice takes its place. -/
theorem lslR_sound {op : Op} {s k v p q : Nat} {x : Opd} {lo hi : Option Opd} {ow : Own} {lo' hi' : Option Int} {K : Act → World → Prop} (hc : comp1 P own op = some (.lsl s x lo hi)) (h : Rel B Xs G w0 ⟨fr, os, bs⟩ E a w)
    (hx : St.ev ⟨fr, os, bs⟩ x = .c false [.own k v]) (ho : os[k]? = some ow) (hv : ow.ver = v) (hs : ow.s = s) (hlo : lo.map (fun y => rawI (St.ev ⟨fr, os, bs⟩ y)) = lo'.map some) (hhi : hi.map (fun y => rawI (St.ev ⟨fr, os, bs⟩ y)) = hi'.map some)
    (hb : subB lo' hi' ow.l.length = some (p, q))
    (hK : ∀ E' u, Rel B Xs G w0 (St.put ⟨fr, os.set k ⟨(ow.l.take q).drop p, ow.e, ow.s, ow.ver + 1, ow.nw⟩, bs⟩ d (.c false [.own k (ow.ver + 1)])) E' (a.put d u) w → K (a.put d u) w) :
    Oper.wp P ⟨d, op, ty, pos, after, guard⟩ a w K Q := by
  have : ∃ t x' lo2 hi2 e i, op = .slice t x' lo2 hi2 none ∧ P.underlying t = some (.slice e) ∧ P.info? e = some i ∧ i.size = s ∧ opd x' = x ∧ lo2.map opd = lo ∧ hi2.map opd = hi := by
    cases op with
    | slice t x' lo2 hi2 mx =>
      cases mx with
      | some m => simp only [comp1, reduceCtorEq] at hc
      | none =>
        simp only [comp1] at hc
        split at hc
        · cases hc
        · next e ht =>
          split at hc
          · next inf hi =>
            injection hc with hc
            injection hc with h1 h2 h3 h4
            exact ⟨t, x', lo2, hi2, e, inf, rfl, ht, hi, h1, h2, h3, h4⟩
          · cases hc
        · cases hc
    | _ =>
      simp only [comp1] at hc
      repeat' split at hc
      all_goals first | contradiction | (cases hc; done)
  obtain ⟨t, x', lo2, hi2, e, i, rfl, ht, hi0, rfl, rfl, rfl, rfl⟩ := this
  subst hv
  obtain ⟨u, g1, g2⟩ := lslO_run (d := d) (ty := ty) (pos := pos) (after := after) (guard := guard) h ht hi0 hx ho rfl hs hlo hhi hb
  obtain ⟨q1, q2, pp, cs, f, q3, q4, q5, q6, q7, _⟩ := osub_ok h g2 ho rfl
  obtain ⟨cs', h5, h6, h7, h8⟩ := h.own k ow pp ho q3
  refine wp_run g1 (hK _ u (h.grow ho q3 (World.grownBy.refl w _) (Or.inl q7) q4 q5 (fun z hz => h7 z (List.mem_of_mem_take (List.mem_of_mem_drop hz))) (fun b hb => ⟨Rs.lt h6 b (q6 b hb), h8 b (q6 b hb)⟩) d))
end
end Go.Proofs.YtdjcflnemnknaaaDoor
