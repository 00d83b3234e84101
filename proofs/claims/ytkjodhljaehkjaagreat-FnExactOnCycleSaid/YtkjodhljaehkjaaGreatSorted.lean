/-
  The program's lists as sets: a map that the call makes, and the shelf's sort of ints.
-/
import Derived.Test.YtkjodhljaehkjaaGreatGr
import Derived.Test.YtkjodhljaehkjaaGreatRch
import Derived.Test.YtkjodhljaehkjaaGreatSort3
import Derived.Maps.OwnOps
namespace Go.Proofs.YtkjodhljaehkjaaGreat
open Go.RowKit
set_option linter.unusedSimpArgs false
set_option linter.unusedVariables false
def sortI (l : List Int) : List Int := l.mergeSort fun x y => decide (x ≤ y)
theorem sortI_len (l : List Int) : (sortI l).length = l.length := by simp [sortI]
section
open Go.Sort
theorem heap_sortedI {w : World} {g n : Nat} {os : Array Obj} {cur : Array Value} {e : TypeId} {fr : Nat × Nat} (d : Array Int) (hb : w.heap[g]? = some (.cells cur e fr)) :
    (grow (putRow (Value.int .i64) (Sort.ahead w n) g 0 d) os).heap[g]? = some (.cells (putCells (Value.int .i64) 0 d cur) e fr) := by
  have hg : g < w.heap.size := (Array.getElem?_eq_some_iff.1 hb).1
  rw [heap_grow_old _ _ (by simpa using hg)]
  simp [putRow, mapBlock, Sort.ahead, Array.getElem?_modify, hb, onCells]
theorem grownBy_sortedI {w : World} {g n : Nat} {os : Array Obj} (d : Array Int) : w.grownBy (grow (putRow (Value.int .i64) (Sort.ahead w n) g 0 d) os) (some g) := by
  refine ⟨rfl, rfl, rfl, by simp, fun k hk hne => ?_⟩
  rw [heap_grow_old _ _ (by simpa using hk)]
  have : g ≠ k := fun e => hne (by rw [e])
  simp [putRow, mapBlock, Sort.ahead, Array.getElem?_modify, this]
theorem take_putI (cur : Array Value) (ts : List Int) (h : ts.length ≤ cur.size) : (putCells (Value.int .i64) 0 ts.toArray cur).toList.take ts.length = ts.map (Value.int .i64) := by
  apply List.ext_getElem?
  intro j
  by_cases hj : j < ts.length
  · rw [List.getElem?_take_of_lt hj, Array.getElem?_toList]
    simp [putCells, hj, show j < cur.size by omega]
  · rw [List.getElem?_take_eq_none (by omega), List.getElem?_eq_none (by simp; omega)]
theorem sortInts_own (l : List Int) (g c base : Nat) (w : World) (h : OwnG w base 3 1 (l.map li) [] (.slice (some ⟨g, 0, none⟩) l.length c)) (hn : l.length ≤ 4194304) :
    Calls Tryz.prog 90 #[.slice (some ⟨g, 0, none⟩) l.length c] w fun e w' => e = .returned (.tuple #[]) ∧ OwnG w' base 3 1 ((sortI l).map li) [] (.slice (some ⟨g, 0, none⟩) l.length c) ∧ w.grownBy w' (some g) := by
  obtain ⟨cs, ⟨h1, h2⟩, h3, h4, h5⟩ := h
  obtain ⟨_, rfl⟩ := Rs_ints.1 h3
  rw [List.length_map] at h1 h2
  rcases h2 with ⟨h6, _⟩ | ⟨g', cap, cur, h6, h7, h8, h9, h10, h11, h12⟩
  · injection h6 with h6
    cases h6
  · injection h6 with h61 _ h63
    injection h61 with h61
    injection h61 with h61
    subst h61 h63
    have hg : g < w.heap.size := (Array.getElem?_eq_some_iff.1 h8).1
    have hH : Go.Sort.Holds (Value.int .i64) w g 0 l.toArray := by
      intro j hj
      have hj' : j < l.length := by simpa using hj
      have hc : cur[j]? = some (.int .i64 l[j]) := by
        have e : (cur.toList.take (l.length * 1))[j]? = (l.map (Value.int .i64))[j]? := by rw [h12]
        rw [List.getElem?_take_of_lt (by omega), Array.getElem?_toList, List.getElem?_map, List.getElem?_eq_getElem hj'] at e
        exact e
      refine ⟨?_, by simp [World.frozen?, h8]⟩
      have e2 : Value.int .i64 l.toArray[j]! = .int .i64 l[j] := by
        rw [getElem!_pos _ j hj]
        simp
      rw [e2]
      simpa [World.cell?, h8] using hc
    have hc := Tryz.sort_Ints g 0 c l w hH hg (by omega)
    refine hc.mono ?_
    rintro e w' ⟨rfl, n, os, rfl⟩
    refine ⟨rfl, ⟨(sortI l).map (Value.int .i64), ?_, Rs_ints.2 ⟨rfl, rfl⟩, Free.nil, fun _ _ => by simp⟩, grownBy_sortedI _⟩
    rw [List.length_map, sortI_len]
    refine ⟨by simp [sortI_len], .inr ⟨g, c, _, rfl, h7, heap_sortedI _ h8, h9, h10, by simp [putCells, h11], ?_⟩⟩
    have := take_putI cur (sortI l) (by rw [sortI_len, h11]; omega)
    rw [sortI_len] at this
    rw [Nat.mul_one]
    exact this
end
/-! ### The numbers, each once -/
def dedTo (l : List Nat) : Nat → List Nat
  | 0 => []
  | k + 1 => dedTo l k ++ (match l[k]? with | some x => if (l.take k).contains x then [] else [x] | none => [])
theorem dedTo_succ (l : List Nat) {k : Nat} (h : k < l.length) : dedTo l (k + 1) = dedTo l k ++ (if (l.take k).contains l[k] then [] else [l[k]]) := by rw [dedTo, List.getElem?_eq_getElem h]
theorem dedTo_len (l : List Nat) : ∀ k, (dedTo l k).length ≤ k
  | 0 => Nat.le_refl _
  | k + 1 => by
    have := dedTo_len l k
    rw [dedTo, List.length_append]
    split
    · split <;> simp <;> omega
    · simp; omega
theorem dedTo_mem (l : List Nat) : ∀ k, k ≤ l.length → ∀ x, x ∈ dedTo l k ↔ x ∈ l.take k
  | 0, _, x => by simp [dedTo]
  | k + 1, h, x => by
    have hk : k < l.length := by omega
    have ih := dedTo_mem l k (by omega) x
    rw [dedTo_succ l hk, List.take_succ_eq_append_getElem hk, List.mem_append, List.mem_append, ih]
    cases hc : (l.take k).contains l[k] with
    | true =>
      rw [if_pos rfl]
      rw [List.contains_iff_mem] at hc
      constructor
      · rintro (h | h)
        · exact Or.inl h
        · simp at h
      · rintro (h | h)
        · exact Or.inl h
        · rw [List.mem_singleton] at h; subst h; exact Or.inl hc
    | false => rw [if_neg (by simp)]
theorem dedTo_nodup (l : List Nat) : ∀ k, k ≤ l.length → (dedTo l k).Nodup
  | 0, _ => List.nodup_nil
  | k + 1, h => by
    have hk : k < l.length := by omega
    rw [dedTo_succ l hk]
    cases hc : (l.take k).contains l[k] with
    | true => rw [if_pos rfl, List.append_nil]; exact dedTo_nodup l k (by omega)
    | false =>
      rw [if_neg (by simp), List.nodup_append]
      refine ⟨dedTo_nodup l k (by omega), by simp, fun a ha b hb e => ?_⟩
      rw [List.mem_singleton] at hb
      subst hb e
      rw [dedTo_mem l k (by omega), ← List.contains_iff_mem] at ha
      rw [ha] at hc
      cases hc
theorem dedTo_n (n : Nat) (l : List Nat) (hb : ∀ x ∈ l, x < n) (k : Nat) (hk : k ≤ l.length) : (dedTo l k).length ≤ n :=
  nodup_len (dedTo_nodup l k hk) fun x hx => hb x (List.mem_of_mem_take ((dedTo_mem l k hk x).1 hx))
theorem sortI_set (n : Nat) (l : List Nat) (hb : ∀ x ∈ l, x < n) : (sortI ((dedTo l l.length).map Int.ofNat)).map li = (setL n l).map ln := by
  have hperm : (sortI ((dedTo l l.length).map Int.ofNat)).Perm ((dedTo l l.length).map Int.ofNat) := List.mergeSort_perm _ _
  have hsort := List.pairwise_mergeSort (le := fun x y : Int => decide (x ≤ y)) (fun a b c h1 h2 => by simp at *; omega) (fun a b => by simp; omega) ((dedTo l l.length).map Int.ofNat)
  have hnd : (sortI ((dedTo l l.length).map Int.ofNat)).Nodup := by
    refine hperm.nodup_iff.2 ?_
    exact (dedTo_nodup l _ (Nat.le_refl _)).map _ (fun a b hab e => hab (Int.ofNat.inj e))
  have hm : ∀ z ∈ sortI ((dedTo l l.length).map Int.ofNat), ∃ x ∈ l, z = (x : Int) := fun z hz => by
    obtain ⟨x, hx, rfl⟩ := List.mem_map.1 (hperm.mem_iff.1 hz)
    rw [dedTo_mem l _ (Nat.le_refl _), List.take_length] at hx
    exact ⟨x, hx, rfl⟩
  have e : (sortI ((dedTo l l.length).map Int.ofNat)).map Int.toNat = setL n l := by
    refine setL_eq ?_ (fun x => ?_)
    · rw [List.pairwise_map]
      have h2 := hsort.and hnd
      refine (List.Pairwise.imp_of_mem ?_ h2)
      intro a b ha hb' hab
      obtain ⟨x, _, rfl⟩ := hm a ha
      obtain ⟨y, _, rfl⟩ := hm b hb'
      have h3 := of_decide_eq_true hab.1
      have h4 := hab.2
      omega
    · constructor
      · intro hx
        obtain ⟨z, hz, rfl⟩ := List.mem_map.1 hx
        obtain ⟨y, hy, rfl⟩ := hm z hz
        exact ⟨by simpa using hb y hy, by simpa using hy⟩
      · rintro ⟨_, hx⟩
        refine List.mem_map.2 ⟨(x : Int), hperm.mem_iff.2 (List.mem_map.2 ⟨x, ?_, rfl⟩), by simp⟩
        rw [dedTo_mem l _ (Nat.le_refl _), List.take_length]
        exact hx
  rw [← e, List.map_map]
  refine List.map_congr_left fun z hz => ?_
  obtain ⟨x, _, rfl⟩ := hm z hz
  rfl
/-! ### The set of those that were seen -/
theorem plainElem_bool_inv {H : Type} {P : Program} {e : TypeId} (he : P.underlying e = some .bool) {v : Value} {z : DataW H × List MemPlace} (h : plainElem P e v = some z) : ∃ b, v = .bool b ∧ z = (.lit (.bool b), []) := by
  unfold plainElem at h
  rw [he] at h
  cases v <;> simp at h
  exact ⟨_, rfl, h.symm⟩
def Seen (w : World) (b n : Nat) (l : List Nat) : Prop := ∃ D : DataW Unit, w.ownsMap Tryz.prog 3 (plainElem Tryz.prog 4) b n D ∧ Maps.IsMap D ∧ ∀ x : Nat, (Lit.int .i64 (x : Int)).wf = true → D.atKey (.int .i64 (x : Int)) (.lit (.bool false)) = .lit (.bool (l.contains x))
def mt : TypeId := 86
theorem mt_u : Tryz.prog.underlying mt = some (.map 3 4) := by kernel_rfl
theorem int_u : Tryz.prog.underlying 3 = some (.int .i64) := by kernel_rfl
theorem bool_u : Tryz.prog.underlying 4 = some .bool := by kernel_rfl
theorem bool_z (w : World) : (zeroValue 4).run Tryz.prog w = .ok (.bool false) w := by kernel_rfl
theorem Seen.look {w : World} {b n : Nat} {l : List Nat} (h : Seen w b n l) {x : Nat} (hx : (Lit.int .i64 (x : Int)).wf = true) : (Instr.lookup mt (.map (some b)) (.int .i64 (x : Int)) false).run Tryz.prog w = .ok (.bool (l.contains x)) w := by
  obtain ⟨D, h1, h2, h3⟩ := h
  obtain ⟨v, ps, hrun, hv⟩ := h1.lookup (Maps.int_keyed int_u) mt_u (bool_z w) (plainElem_bool bool_u false) (Maps.keyOf_int_mk int_u hx)
  obtain ⟨c, rfl, hc⟩ := plainElem_bool_inv bool_u hv
  simp only [Prod.mk.injEq] at hc
  rw [h3 x hx] at hc
  have : c = l.contains x := by have := hc.1; simpa using this.symm
  rw [hrun, this]
theorem Seen.put {w : World} {b n : Nat} {l : List Nat} (h : Seen w b n l) {x : Nat} (hx : (Lit.int .i64 (x : Int)).wf = true) (hn : n < maxLen) :
    ∃ w', (Instr.mapUpdate mt (.map (some b)) (.int .i64 (x : Int)) (.bool true)).run Tryz.prog w = .ok () w' ∧ Seen w' b (n + 1) (l ++ [x]) ∧ w.grownBy w' (some b) := by
  obtain ⟨D, h1, h2, h3⟩ := h
  obtain ⟨w', hrun, g1, g2⟩ := h1.update (Maps.int_keyed int_u) mt_u hn (Maps.keyOf_int_mk int_u hx) (plainElem_bool bool_u true)
  refine ⟨w', hrun, ⟨_, g1, h2.put _ _, fun y hy => ?_⟩, g2⟩
  by_cases e : y = x
  · subst e
    rw [Maps.atKey_put_same h2 (by simp [WideAt.IsKeyLit])]
    simp
  · rw [Maps.atKey_put_other (fun h => e (by simp only [Lit.int.injEq, true_and] at h; omega)), h3 y hy]
    have : (l ++ [x]).contains y = l.contains y := by
      rw [Bool.eq_iff_iff]
      simp [e]
    rw [this]
theorem Seen.mono {w : World} {b n m : Nat} {l : List Nat} (h : Seen w b n l) (hm : n ≤ m) : Seen w b m l := by
  obtain ⟨D, h1, h2, h3⟩ := h
  exact ⟨D, h1.mono hm, h2, h3⟩
theorem Seen.kept {w w' : World} {row : Option Nat} {b n : Nat} {l : List Nat} (h : Seen w b n l) (hg : w.grownBy w' row) (hne : some b ≠ row) : Seen w' b n l := by
  obtain ⟨D, h1, h2, h3⟩ := h
  exact ⟨D, h1.kept hg hne, h2, h3⟩
theorem Seen.alloc {w : World} {b n : Nat} {l : List Nat} (h : Seen w b n l) (o : Obj) : Seen (w.alloc o) b n l := by
  obtain ⟨D, h1, h2, h3⟩ := h
  exact ⟨D, h1.alloc o, h2, h3⟩
theorem Seen.congr {w : World} {b n : Nat} {l m : List Nat} (h : Seen w b n l) (hlm : ∀ x, l.contains x = m.contains x) : Seen w b n m := by
  obtain ⟨D, h1, h2, h3⟩ := h
  exact ⟨D, h1, h2, fun x hx => by rw [h3 x hx, hlm]⟩
theorem Seen.made (w : World) : Seen (w.alloc (.map #[] 0)) w.heap.size 0 [] := ⟨.map [], World.ownsMap_made w _ _ _, Maps.isMap_empty, fun x _ => by simp [DataW.atKey]⟩
theorem Seen.lt {w : World} {b n : Nat} {l : List Nat} (h : Seen w b n l) : b < w.heap.size := by
  obtain ⟨D, h1, _⟩ := h
  exact h1.lt
theorem OwnG.grown {w w' : World} {base : Nat} {e : TypeId} {s : Nat} {l : List D} {v : Value} {row : Option Nat} (h : OwnG w base e s l [] v) (hg : w.grownBy w' row) (hne : v.ownBlock = none ∨ v.ownBlock ≠ row) : OwnG w' base e s l [] v := by
  obtain ⟨cs, h1, h2, h3, h4⟩ := h
  exact ⟨cs, h1.kept hg hne, h2.same (fun b hb => by simp at hb) hg.size, Free.nil, fun _ _ => by simp⟩
theorem ln_ones {l : List Nat} : ∀ d ∈ l.map ln, d.one := fun d h => by obtain ⟨x, _, rfl⟩ := List.mem_map.1 h; rfl
theorem ln_szs {l : List Nat} : ∀ d ∈ l.map ln, d.sz = 1 := fun d h => by obtain ⟨_, _, rfl⟩ := List.mem_map.1 h; rfl
theorem wf_nat {x : Nat} (h : x ≤ 1048576) : (Lit.int .i64 (x : Int)).wf = true := by
  have h1 : IntKind.i64.min ≤ (x : Int) := by simp [IntKind.min, IntKind.signed, IntKind.bits]
  have h2 : (x : Int) ≤ IntKind.i64.max := by simp [IntKind.max, IntKind.signed, IntKind.bits]; omega
  simp [Lit.wf, h1, h2]; omega
set_option maxRecDepth 20000 in
set_option maxHeartbeats 4000000 in
theorem sorted_own (n : Nat) (l : List Nat) (hbn : ∀ x ∈ l, x < n) (hn1 : n ≤ 1048576) (hll : l.length ≤ 2199023255552) (fp : List Nat) (v : Value) (w : World) (hS : Sl w (l.map ln) fp v) :
    Calls Tryz.prog 63 #[v] w (OwnPost false ((setL n l).map ln) 3 1 w) := by
  obtain ⟨A, c, rfl, hl, hc⟩ := hS.formT
  have hm : l.length ≤ 9223372036854775807 := by omega
  have hn' := Lib.hid hll
  have hn1' := Lib.hid hn1
  clear hl hc hll hn1
  have hmm := @run_makeMap Tryz.prog
  go_enter Tryz.func63, Tryz.ntmps63
  go_wp2_with fail
  go_loopw [4, 11] (fun nv iv wr => ∃ (k g c1 : Nat), k ≤ l.length ∧ iv = .int .i64 k ∧ nv = .slice (some ⟨g, 0, none⟩) (dedTo l k).length c1 ∧ OwnG wr (w.heap.size + 1) 3 1 ((dedTo l k).map ln) [] nv ∧ Seen wr w.heap.size k (l.take k) ∧ Below w.heap.size w wr) (fun _ iv _ => l.length - (intOf iv).toNat)
  case atStart => exact ⟨0, _, _, by omega, rfl, rfl, OwnG.lit (by simp) (Nat.le_refl _), (Seen.made w).alloc _, ((Below.refl _ _).alloc (Nat.le_refl _) _).alloc (by simp) _⟩
  case round =>
    obtain ⟨k, g, c1, hk, rfl, rfl, ho, hse, hb⟩ := hrel
    by_cases hlt : k < l.length
    · have hd : (l.map ln)[k]? = some (ln l[k]) := by rw [List.getElem?_map, List.getElem?_eq_getElem hlt]; rfl
      obtain ⟨b, o, fi, ci, rfl, hbb, hbf, hri, hfi, hat⟩ := hS.elem ln_szs hd
      obtain ⟨rfl, rfl⟩ := hri
      simp only [Nat.mul_one] at hat
      have q0 : wr.cell? ⟨b, o + k, none⟩ = some (.int .i64 ((l[k] : Nat) : Int)) := (hb.cell (p := ⟨b, o + k, none⟩) hbb).trans hat.head
      have hsu := Lib.hid (dedTo_succ l hlt)
      have hfl := Lib.hid (dedTo_n n l hbn k hk)
      have hwf := Lib.hid (wf_nat (x := l[k]) (by have := hbn l[k] (List.getElem_mem hlt); have := hn1'.out; omega))
      have hlook := hse.look hwf.out
      clear hat hd
      cases e1 : (l.take k).contains l[k] with
      | true =>
        rw [e1] at hlook
        have e2 := Lib.hid (show dedTo l (k + 1) = dedTo l k by rw [hsu.out, if_pos e1, List.append_nil])
        have hse2 : Seen wr w.heap.size (k + 1) (l.take (k + 1)) := (hse.mono (Nat.le_succ k)).congr (fun x => by
          rw [List.take_succ_eq_append_getElem hlt, Bool.eq_iff_iff]
          simp only [List.contains_iff_mem, List.mem_append, List.mem_singleton]
          rw [List.contains_iff_mem] at e1
          exact ⟨Or.inl, fun h => h.elim id (fun h => h ▸ e1)⟩)
        unfold mt at hlook
        clear e1
        go_wp2_with fail
        go_roundw
        case rel => exact ⟨k + 1, g, c1, by omega, by go_num, by rw [e2.out], by rw [e2.out]; exact ho, hse2, hb⟩
        case measure => (simp [intOf] <;> omega)
      | false =>
        rw [e1] at hlook
        have e2 := Lib.hid (show dedTo l (k + 1) = dedTo l k ++ [l[k]] by rw [hsu.out, if_neg (by rw [e1]; simp)])
        obtain ⟨w1, hput, hse1, hg1⟩ := hse.put hwf.out (by have := hn'.out; unfold maxLen; omega)
        have ho1 := ho.grown hg1 (Or.inr (fun e => by have := (ho.ge w.heap.size e).1; omega))
        have hb1 : Below w.heap.size w w1 := hb.grown hg1 hb.size (fun b h => by have h := Option.some.inj h; omega)
        have hgne : ∀ g', (Value.slice (some ⟨g, 0, none⟩) (dedTo l k).length c1).ownBlock = some g' → w.heap.size ≠ g' := fun g' h e => by have := (ho.ge g' h).1; omega
        have hs1 : w.heap.size < w1.heap.size := hse1.lt
        have htk : l.take (k + 1) = l.take k ++ [l[k]] := List.take_succ_eq_append_getElem hlt
        have htk' := Lib.hid htk
        rw [← htk] at hse1
        unfold mt at hlook hput
        clear e1 htk hse
        go_wp2_with (at_builtin; refine wpList_append_G rfl ekint (.tmp 21) (.tmp 23) rfl (w.heap.size + 1) _ (by rfl) _ [] (ho1.below ((Below.refl _ _).alloc (Nat.le_refl _) _)) ([l[k]].map ln) [] _ (by rfl) (Src.one (Row.new_at rfl) ⟨rfl, rfl⟩) ln_ones ln_szs free_nil dis_nil (by have := hfl.out; have := hn1'.out; simp; omega) (by simp; omega) ?_; intro v1 w2 ho2 hg2 hat2)
        rw [← List.map_append, ← e2.out] at ho2
        have hlen : 0 < (dedTo l (k + 1)).length := by rw [e2.out]; simp
        obtain ⟨g5, c5, hv5⟩ := ho2.formPos (by rw [List.length_map]; exact hlen)
        rw [List.length_map] at hv5
        subst hv5
        have L3 : Below w.heap.size w w2 := below_own (hb1.alloc (Nat.le_of_lt hs1) _) hg2 (by simp; omega) (fun g' h => by have := (ho1.ge g' h).1; omega)
        have hse2 := (hse1.alloc _).kept hg2 (fun e => hgne _ e.symm rfl)
        go_roundw
        case rel => exact ⟨k + 1, g5, c5, by omega, by go_num, rfl, ho2, hse2, L3⟩
        case measure => (simp [intOf] <;> omega)
    · have hf := Lib.hid (show k = l.length by omega)
      have hfl := dedTo_n n l hbn k hk
      have ho' : OwnG wr (w.heap.size + 1) 3 1 (((dedTo l k).map Int.ofNat).map li) [] (.slice (some ⟨g, 0, none⟩) ((dedTo l k).map Int.ofNat).length c1) := by
        rw [List.length_map, List.map_map]; exact ho
      have hs := sortInts_own ((dedTo l k).map Int.ofNat) g c1 (w.heap.size + 1) wr ho' (by rw [List.length_map]; have := hn1'.out; omega)
      rw [List.length_map] at hs
      clear hfl ho'
      go_wp2_with (go_at_call 90; refine hs.mono ?_; rintro e w2 ⟨rfl, ho2, hg2⟩)
      have L2 : Below w.heap.size w w2 := below_own (v := .slice (some ⟨g, 0, none⟩) 0 0) hb hg2 hb.size (fun g' h => by have h := Option.some.inj h; subst h; have := (ho.ge g rfl).1; show w.heap.size ≤ g; omega)
      go_ret
      have e := hf.out
      clear hf
      subst e
      have hset := sortI_set n l hbn
      have hlen2 : (setL n l).length = (dedTo l l.length).length := by
        have := congrArg List.length hset
        rw [List.length_map, List.length_map, sortI_len, List.length_map] at this
        exact this.symm
      rw [hset, ← hlen2] at ho2
      obtain ⟨cs, q1, q2, q3, q4⟩ := ho2.mono (Nat.le_succ _)
      rw [List.length_map] at q1
      exact ⟨_, cs, [], by rw [← hlen2]; rfl, by rw [List.length_map]; exact OwnsAt.of q1, q2, fun b hb => by simp at hb, L2⟩
theorem sorted_to (n : Nat) (l : List Nat) (hbn : ∀ x ∈ l, x < n) (hn1 : n ≤ 1048576) (hll : l.length ≤ 2199023255552) : CallsOwn Tryz.prog 63 [.sl (l.map ln)] ((setL n l).map ln) 3 1 := fun w vs hr => by
  obtain ⟨v, rfl, h1⟩ := rds1 hr
  obtain ⟨fp, hS⟩ := rd_sl h1
  exact sorted_own n l hbn hn1 hll fp v w hS
end Go.Proofs.YtkjodhljaehkjaaGreat
