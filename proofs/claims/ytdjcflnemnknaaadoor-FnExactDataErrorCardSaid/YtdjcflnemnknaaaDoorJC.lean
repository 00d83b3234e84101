/-
  Texts joined: At Tab Ir Ir2 Ir3 Ir4 Ir5 Ir6 Ir7 Ir8 Ir9 IrA IrB IrC.
-/
import Derived.Test.YtdjcflnemnknaaaDoorJA
import Derived.Lib.AppendStr
import Derived.Test.YtdjcflnemnknaaaDoorProg
import Derived.Lib.SmallJoins
import Derived.Lib.ItoaLen
import Derived.Laws.Tables
import Derived.Great.BuildSlice
import Derived.Laws.CopyRow
import Derived.Laws.Cells
import Derived.Deep.OwnRows
import Derived.Laws.BytesArg
namespace Go.Proofs.YtdjcflnemnknaaaDoor
open Go.RowKit
set_option linter.unusedSimpArgs false
set_option linter.unusedVariables false

/-- The value is nil, or a slice of n elements somewhere in a row from block `base` on. -/
def OwnsAt (w : World) (base : Nat) (e : TypeId) (s : Nat) (v : Value) (n : Nat) (xs : List Value) : Prop :=
  xs.length = n * s ∧ ((v = .slice none 0 0 ∧ n = 0) ∨ ∃ g z cap cur, v = .slice (some ⟨g, z, none⟩) n cap ∧ base ≤ g ∧ w.heap[g]? = some (.cells cur e (0, 0)) ∧ n ≤ cap ∧ cap ≤ maxLen ∧ z + cap * s ≤ cur.size ∧ (cur.toList.drop z).take (n * s) = xs)
def baseOf : Value → Option (Nat × Nat)
  | .slice (some a) _ _ => some (a.block, a.off)
  | _ => none
theorem addr_add' (b o n : Nat) : (⟨b, o, none⟩ : Addr).add n = ⟨b, o + n, none⟩ := by
  unfold Addr.add
  split
  · next h => subst h; rfl
  · rfl
section
variable {w w' : World} {base : Nat} {e : TypeId} {s : Nat} {v : Value} {n : Nat} {xs : List Value}
theorem OwnsAt.of (h : w.ownsRow base e s v n xs) : OwnsAt w base e s v n xs := by
  refine ⟨h.1, ?_⟩
  rcases h.2 with h2 | ⟨g, cap, cur, hv, hb, hh, hn, hm, hs, ht⟩
  · exact Or.inl h2
  · exact Or.inr ⟨g, 0, cap, cur, hv, hb, hh, hn, hm, by omega, by simpa using ht⟩
theorem OwnsAt.nil : OwnsAt w base e s (.slice none 0 0) 0 [] := ⟨by simp, Or.inl ⟨rfl, rfl⟩⟩
theorem OwnsAt.lt (h : OwnsAt w base e s v n xs) : ∀ k, v.ownBlock = some k → base ≤ k ∧ k < w.heap.size := by
  intro k hk
  rcases h.2 with ⟨rfl, _⟩ | ⟨g, z, cap, cur, rfl, hb, hg, _⟩
  · simp [Value.ownBlock] at hk
  · simp [Value.ownBlock] at hk
    subst hk
    exact ⟨hb, (Array.getElem?_eq_some_iff.1 hg).1⟩
theorem OwnsAt.same (h : OwnsAt w base e s v n xs) (hs : ∀ g, v.ownBlock = some g → w'.heap[g]? = w.heap[g]?) : OwnsAt w' base e s v n xs := by
  refine ⟨h.1, ?_⟩
  rcases h.2 with h2 | ⟨g, z, cap, cur, rfl, hb, hg, r⟩
  · exact Or.inl h2
  · exact Or.inr ⟨g, z, cap, cur, rfl, hb, by rw [hs g rfl]; exact hg, r⟩
theorem ownsAt_below (h : OwnsAt w base e s v n xs) (hb : Below w.heap.size w w') : OwnsAt w' base e s v n xs := h.same fun g hg => hb.block g (h.lt g hg).2
theorem ownsAt_mono {base' : Nat} (h : OwnsAt w base e s v n xs) (hb : base' ≤ base) : OwnsAt w base' e s v n xs := by
  refine ⟨h.1, ?_⟩
  rcases h.2 with h2 | ⟨g, z, cap, cur, rfl, hb', r⟩
  · exact Or.inl h2
  · exact Or.inr ⟨g, z, cap, cur, rfl, Nat.le_trans hb hb', r⟩
theorem ownsAt_form (h : OwnsAt w base e s v n xs) : ∃ A c, v = .slice A n c := by
  rcases h.2 with ⟨rfl, rfl⟩ | ⟨g, z, cap, cur, rfl, _⟩
  · exact ⟨none, 0, rfl⟩
  · exact ⟨_, _, rfl⟩
/-- The cells lie there. -/
theorem OwnsAt.at_ (h : OwnsAt w base e s v n xs) {g z : Nat} (hg : baseOf v = some (g, z)) : At w g z xs ∧ g < w.heap.size := by
  rcases h.2 with ⟨rfl, rfl⟩ | ⟨g', z', cap, cur, rfl, hb, hh, hn, hm, hsz, ht⟩
  · simp [baseOf] at hg
  · simp [baseOf] at hg
    obtain ⟨rfl, rfl⟩ := hg
    refine ⟨fun j u hj => ?_, (Array.getElem?_eq_some_iff.1 hh).1⟩
    subst ht
    simp only [World.cell?, hh]
    rw [List.getElem?_take] at hj
    split at hj
    · rw [List.getElem?_drop] at hj
      simpa using hj
    · cases hj
theorem OwnsAt.base_or (h : OwnsAt w base e s v n xs) : (v = .slice none 0 0 ∧ n = 0) ∨ ∃ g z, baseOf v = some (g, z) ∧ v.ownBlock = some g := by
  rcases h.2 with h2 | ⟨g, z, cap, cur, rfl, _⟩
  · exact Or.inl h2
  · exact Or.inr ⟨g, z, rfl, rfl⟩
theorem Sl.of_at {l : List D} {fp : List Nat} {cs : List Value} (h : OwnsAt w base e s v l.length cs) (hr : Rs w l fp cs) : Sl w l (v.ownBlock.toList ++ fp) v := by
  unfold Sl
  rw [R]
  rcases h.2 with ⟨rfl, h3⟩ | ⟨g, z, cap, cur, rfl, hg, hh, hn, hm, hsz, ht⟩
  · have hl : l = [] := List.eq_nil_of_length_eq_zero h3
    subst hl
    exact ⟨none, 0, by simp, by simp, by simp, Or.inl ⟨rfl, by simpa [Value.ownBlock] using hr.1⟩⟩
  · obtain ⟨h1, h2⟩ := h.at_ (g := g) (z := z) rfl
    exact ⟨some ⟨g, z, none⟩, cap, rfl, hn, hm, Or.inr ⟨g, z, fp, cs, rfl, by simp [Value.ownBlock], h2, hr, h1⟩⟩
theorem Free.of_at {fp : List Nat} {cs : List Value} (h : OwnsAt w base e s v n cs) (hf : Free w base fp) (hn : ∀ g, v.ownBlock = some g → g ∉ fp) : Free w base (v.ownBlock.toList ++ fp) := by
  rcases h.2 with ⟨rfl, h3⟩ | ⟨g, z, cap, cur, rfl, hg, hh, _⟩
  · simpa [Value.ownBlock] using hf
  · refine ⟨by simp only [Value.ownBlock, Option.toList, List.singleton_append, List.nodup_cons]; exact ⟨hn g rfl, hf.1⟩, fun b hb => ?_⟩
    simp only [Value.ownBlock, Option.toList, List.singleton_append, List.mem_cons] at hb
    rcases hb with rfl | hb
    · refine ⟨hg, fun o => ?_⟩
      simp only [World.frozen?, hh]
      simp
    · exact hf.2 b hb
/-- A part of it. -/
theorem OwnsAt.sub {A : Option Addr} {cap a b : Nat} (h : OwnsAt w base e s (.slice A n cap) n xs) (hab : a ≤ b) (hb : b ≤ n) : OwnsAt w base e s (sliced A a b cap s) (b - a) ((xs.take (b * s)).drop (a * s)) := by
  have hlen := h.1
  have h1 : a * s ≤ b * s := Nat.mul_le_mul_right _ hab
  have h2 : b * s ≤ n * s := Nat.mul_le_mul_right _ hb
  refine ⟨by rw [List.length_drop, List.length_take, hlen, Nat.sub_mul]; omega, ?_⟩
  rcases h.2 with ⟨hv, rfl⟩ | ⟨g, z, cap', cur, hv, hbase, hh, hn, hm, hsz, ht⟩
  · injection hv with e1 e2 e3
    subst e1 e3
    have : a = 0 := by omega
    have : b = 0 := by omega
    subst a b
    exact Or.inl ⟨by simp [sliced], rfl⟩
  · injection hv with e1 e2 e3
    subst e1 e3
    by_cases hc : cap = a
    · have : b = a := by omega
      subst this
      refine Or.inr ⟨g, z, 0, cur, ?_, hbase, hh, by omega, Nat.zero_le _, by have := Nat.zero_le (cap * s); omega, ?_⟩
      · unfold sliced
        rw [if_pos hc]
        congr 1
        omega
      · rw [show (xs.take (b * s)).drop (b * s) = [] from List.drop_eq_nil_of_le (by rw [List.length_take]; omega)]
        simp
    · refine Or.inr ⟨g, z + a * s, cap - a, cur, ?_, hbase, hh, by omega, by omega, ?_, ?_⟩
      · unfold sliced
        rw [if_neg hc, Option.map_some, addr_add']
      · have : (cap - a) * s + a * s = cap * s := by rw [← Nat.add_mul]; congr 1; omega
        omega
      · subst ht
        rw [List.take_take, Nat.min_eq_left h2, List.drop_take, List.drop_drop, Nat.sub_mul]
theorem sliced_block {A : Option Addr} {a b cap s : Nat} : (sliced A a b cap s).ownBlock = (Value.slice A 0 0).ownBlock := by
  unfold sliced
  cases A with
  | none => split <;> rfl
  | some x =>
    split
    · rfl
    · simp only [Option.map_some, Value.ownBlock, Addr.add]
      split <;> rfl
end
section
variable {P : Program} (w : World)
theorem run_append_roomZ (t ty e : TypeId) (i : TypeInfo) (ht : P.underlying t = some (.slice e)) (hi : P.info? e = some i)
    (g z sLen sCap : Nat) (cur : Array Value) (hg : w.heap[g]? = some (.cells cur e (0, 0)))
    (a : Addr) (m c : Nat) (news : List Value) (hl : news.length = m * i.size) (hnews : ∀ j u, news[j]? = some u → w.cell? (a.add j) = some u) (h1 : ∀ u ∈ news, u.oneCell' = true)
    (hroom : sLen + m ≤ sCap) (hfit : z + sLen * i.size + news.length ≤ cur.size) :
    (Builtin.append_ #[t, t] ty #[.slice (some ⟨g, z, none⟩) sLen sCap, .slice (some a) m c]).run P w =
      .ok (.slice (some ⟨g, z, none⟩) (sLen + m) sCap) (w.setRow g (cur.toList.take (z + sLen * i.size) ++ news ++ cur.toList.drop (z + sLen * i.size + news.length)).toArray) := by
  have hf := run_firstCells_some (P := P) w i.size m a m c news hl hnews
  have hst := run_storeCells_at P g (z + sLen * i.size) e news 0 cur w hg (by simpa using hfit) h1
  simp only [Nat.add_zero] at hst
  simp [Builtin.append_, run_underlying ht, sizeOf, typeInfo, hi, Builtin.lenOf, hroom, hf, addr_add', hst]
theorem run_append_at (base : Nat) (t ty e : TypeId) (i : TypeInfo) (z : Value) (size bytes : Nat) (ht : P.underlying t = some (.slice e)) (hi : P.info? e = some i) (hz : i.zero = some z)
    (hsize : i.size = size) (hby : i.bytes = bytes) (hzs : z.cells.size = size) (hsz : 0 < size)
    (v : Value) (n : Nat) (xs : List Value) (hown : OwnsAt w base e size v n xs)
    (a : Addr) (m c : Nat) (news : List Value) (hl : news.length = m * size) (hnews : ∀ j u, news[j]? = some u → w.cell? (a.add j) = some u) (h1 : ∀ u ∈ news, u.oneCell' = true)
    (h63 : n + m ≤ maxLen) (hbytes : (n + m) * bytes ≤ 140737488355328) (hbase : base ≤ w.heap.size) :
    ∃ v' w', (Builtin.append_ #[t, t] ty #[v, .slice (some a) m c]).run P w = .ok v' w' ∧ OwnsAt w' base e size v' (n + m) (xs ++ news) ∧ w.grownBy w' v.ownBlock ∧ (v'.ownBlock = v.ownBlock ∨ v'.ownBlock = some w.heap.size) := by
  subst hsize
  subst hby
  have hsmall : n + m ≤ 9223372036854775807 := by simp only [maxLen] at h63; omega
  have hlen : (xs ++ news).length = (n + m) * i.size := by rw [List.length_append, hown.1, hl, Nat.add_mul]
  rcases hown.2 with ⟨rfl, rfl⟩ | ⟨g, zz, cap, cur, rfl, hbg, hg, hnc, hcm, hcs, htake⟩
  · have hx : xs = [] := List.eq_nil_of_length_eq_zero (by simpa using hown.1)
    subst hx
    obtain ⟨v', w', hr, h2, h3, _, h5⟩ := run_append_own_at (P := P) w base t ty e i z i.size i.bytes ht hi hz rfl rfl hzs hsz (.slice none 0 0) 0 [] (World.ownsRow_nil w base e i.size) a m c news hl hnews h1 h63 hbytes hbase
    exact ⟨v', w', hr, OwnsAt.of h2, h3, h5⟩
  · by_cases hroom : n + m ≤ cap
    · have hmul : n * i.size + m * i.size ≤ cap * i.size := by rw [← Nat.add_mul]; exact Nat.mul_le_mul_right _ hroom
      have hr := run_append_roomZ (P := P) w t ty e i ht hi g zz n cap cur hg a m c news hl hnews h1 hroom (by omega)
      refine ⟨_, _, hr, ⟨hlen, .inr ⟨g, zz, cap, _, rfl, hbg, setRow_heap w g cur _ e _ hg, hroom, hcm, ?_, ?_⟩⟩, ⟨rfl, rfl, rfl, by simp, fun k _ hk => setRow_other w g k _ (fun e => hk (by simp [Value.ownBlock, e]))⟩, Or.inl rfl⟩
      · simp only [List.size_toArray, List.length_append, List.length_take, List.length_drop, Array.length_toList]
        omega
      · have e1 : cur.toList.take (zz + n * i.size) = cur.toList.take zz ++ xs := by rw [List.take_add, htake]
        have hzl : (cur.toList.take zz).length = zz := by rw [List.length_take, Array.length_toList]; omega
        rw [e1, List.append_assoc, List.append_assoc, List.drop_left' hzl, ← List.append_assoc, ← hlen]
        exact List.take_left
    · have holds : ∀ j u, xs[j]? = some u → w.cell? ((⟨g, zz, none⟩ : Addr).add j) = some u := fun j u hj => by
        rw [addr_add']
        exact (hown.at_ (g := g) (z := zz) rfl).1 j u hj
      have hr := run_append_grow (P := P) w t ty e i z ht hi hz ⟨g, zz, none⟩ n cap xs hown.1 holds a m c news hl hnews (by omega) (by omega) (growslice_fits (by omega) hbytes)
      have hge := grownCap_ge w (n + m) cap e
      have hcm' : grownCap w (n + m) cap e ≤ maxLen := grownCap_le_maxLen w (n + m) cap e h63
      refine ⟨_, _, hr, ⟨hlen, .inr ⟨w.heap.size, 0, _, _, rfl, hbase, heap_alloc_new w.drew _, hge, hcm', ?_, ?_⟩⟩, ⟨rfl, rfl, rfl, by simp, fun k hk _ => (Below.heap_alloc w.drew _ k hk).trans rfl⟩, Or.inr rfl⟩
      · simp only [Array.size_append, List.size_toArray, size_zeroCells, hzs, hown.1, hl, ← Nat.add_mul]
        rw [Nat.zero_add]
        refine Nat.le_of_eq ?_
        congr 1
        omega
      · simp only [Array.toList_append, List.append_assoc, List.drop_zero]
        rw [← List.append_assoc, ← hlen]
        exact List.take_left
theorem run_append_of_nilA (base : Nat) (t ty e : TypeId) (i : TypeInfo) (size : Nat) (ht : P.underlying t = some (.slice e)) (hi : P.info? e = some i) (v : Value) (n : Nat) (xs : List Value) (hown : OwnsAt w base e size v n xs) (c : Nat) :
    (Builtin.append_ #[t, t] ty #[v, .slice none 0 c]).run P w = .ok v w := by
  rcases hown.2 with ⟨rfl, rfl⟩ | ⟨g, zz, cap, cur, rfl, hbg, hg, hnc, hcm, hcs, htake⟩
  · simp [Builtin.append_, run_underlying ht, sizeOf, typeInfo, hi, Builtin.lenOf, Builtin.firstCells]
  · simp [Builtin.append_, run_underlying ht, sizeOf, typeInfo, hi, Builtin.lenOf, Builtin.firstCells, hnc, storeCells]
end
section
variable {P : Program} (w : World)
open Go.Lib in
theorem run_append_roomZ_string (t u ty e : TypeId) (i : TypeInfo) (ht : P.underlying t = some (.slice e)) (hu : P.underlying u = some .string) (hi : P.info? e = some i) (hs1 : i.size = 1)
    (g z sLen sCap : Nat) (cur : Array Value) (hg : w.heap[g]? = some (.cells cur e (0, 0))) (s : ByteArray) (hroom : sLen + s.size ≤ sCap) (hfit : z + sLen + s.size ≤ cur.size) :
    (Builtin.append_ #[t, u] ty #[.slice (some ⟨g, z, none⟩) sLen sCap, .string s]).run P w =
      .ok (.slice (some ⟨g, z, none⟩) (sLen + s.size) sCap) (w.setRow g (cur.toList.take (z + sLen) ++ strCells s ++ cur.toList.drop (z + sLen + s.size)).toArray) := by
  have hf := run_firstCells_string (P := P) w 1 s
  have hst := run_storeCells_at P g (z + sLen) e (strCells s) 0 cur w hg (by simpa [strCells_length] using hfit) (strCells_oneCell s)
  simp only [Nat.add_zero, strCells_length] at hst
  simp [Builtin.append_, run_underlying ht, run_underlying hu, sizeOf, typeInfo, hi, hs1, Builtin.lenOf, hroom, hf, addr_add', hst]
open Go.Lib in
theorem run_append_at_string (base : Nat) (t u ty e : TypeId) (i : TypeInfo) (z : Value) (ht : P.underlying t = some (.slice e)) (hu : P.underlying u = some .string) (hi : P.info? e = some i) (hz : i.zero = some z)
    (hzi : z = .int .u8 0) (hsize : i.size = 1) (hby : i.bytes = 1) (v : Value) (n : Nat) (xs : List Value) (hown : OwnsAt w base e 1 v n xs) (s : ByteArray)
    (h63 : n + s.size ≤ maxLen) (hbytes : n + s.size ≤ 140737488355328) (hbase : base ≤ w.heap.size) :
    ∃ v' w', (Builtin.append_ #[t, u] ty #[v, .string s]).run P w = .ok v' w' ∧ OwnsAt w' base e 1 v' (n + s.size) (xs ++ strCells s) ∧ w.grownBy w' v.ownBlock ∧ (v'.ownBlock = v.ownBlock ∨ v'.ownBlock = some w.heap.size) := by
  have hsmall : n + s.size ≤ 9223372036854775807 := by simp only [maxLen] at h63; omega
  have hxl : xs.length = n := by have := hown.1; omega
  have hlen : (xs ++ strCells s).length = (n + s.size) * 1 := by rw [List.length_append, hxl, strCells_length]; omega
  subst hzi
  rcases hown.2 with ⟨rfl, rfl⟩ | ⟨g, zz, cap, cur, rfl, hbg, hg, hnc, hcm, hcs, htake⟩
  · have hx : xs = [] := List.eq_nil_of_length_eq_zero (by omega)
    subst hx
    by_cases h0 : s.size = 0
    · obtain ⟨v', w', hr, h2, h3, h4⟩ := run_append_own_string (P := P) w base t u ty e i ht hu hi hz hsize hby (.slice none 0 0) 0 [] (World.ownsRow_nil w base e 1) s h63 hbytes hbase
      obtain rfl := h4.2 ⟨rfl, h0⟩
      exact ⟨_, w', hr, OwnsAt.of h2, h3, Or.inl rfl⟩
    · have hr := run_append_nil_string (P := P) (ty := ty) w t u e i (.int .u8 0) ht hu hi hz s (by omega) (by omega) (by rw [hby]; omega)
      have hge := grownCap_ge w s.size 0 e
      have hcm' : grownCap w s.size 0 e ≤ maxLen := grownCap_le_maxLen w s.size 0 e (by omega)
      refine ⟨_, _, hr, ⟨hlen, .inr ⟨w.heap.size, 0, _, _, by rw [Nat.zero_add], hbase, heap_alloc_new w.drew _, by omega, hcm', ?_, ?_⟩⟩, ⟨rfl, rfl, rfl, by simp, fun k hk _ => (Below.heap_alloc w.drew _ k hk).trans rfl⟩, Or.inr rfl⟩
      · have hsd : s.data.size = s.size := rfl
        simp only [Array.size_append, Array.size_map, size_zeroCells, hsd, Value.cells]
        simp
        omega
      · simp only [Array.toList_append, Array.toList_map, List.nil_append, List.drop_zero, Nat.zero_add, Nat.mul_one]
        rw [← strCells_length]
        exact List.take_left
  · by_cases hroom : n + s.size ≤ cap
    · have hr := run_append_roomZ_string (P := P) w t u ty e i ht hu hi hsize g zz n cap cur hg s hroom (by omega)
      refine ⟨_, _, hr, ⟨hlen, .inr ⟨g, zz, cap, _, rfl, hbg, setRow_heap w g cur _ e _ hg, hroom, hcm, ?_, ?_⟩⟩, ⟨rfl, rfl, rfl, by simp, fun k _ hk => setRow_other w g k _ (fun e => hk (by simp [Value.ownBlock, e]))⟩, Or.inl rfl⟩
      · simp only [List.size_toArray, List.length_append, List.length_take, List.length_drop, Array.length_toList, strCells_length]
        omega
      · have e1 : cur.toList.take (zz + n) = cur.toList.take zz ++ xs := by
          rw [List.take_add]
          rw [Nat.mul_one] at htake
          rw [htake]
        have hzl : (cur.toList.take zz).length = zz := by rw [List.length_take, Array.length_toList]; omega
        rw [e1, List.append_assoc, List.append_assoc, List.drop_left' hzl, ← List.append_assoc, ← hlen]
        exact List.take_left
    · have holds : ∀ j u, xs[j]? = some u → w.cell? ((⟨g, zz, none⟩ : Addr).add j) = some u := fun j u hj => by
        rw [addr_add']
        exact (hown.at_ (g := g) (z := zz) rfl).1 j u hj
      have hr := run_append_grow_string (P := P) w t u ty e i (.int .u8 0) ht hu hi hz ⟨g, zz, none⟩ n cap xs (by rw [hxl, hsize]; omega) holds s (by omega) (by omega) (by rw [hby]; exact growslice_fits (by omega) (by omega))
      have hge := grownCap_ge w (n + s.size) cap e
      have hcm' : grownCap w (n + s.size) cap e ≤ maxLen := grownCap_le_maxLen w (n + s.size) cap e h63
      refine ⟨_, _, hr, ⟨hlen, .inr ⟨w.heap.size, 0, _, _, rfl, hbase, heap_alloc_new w.drew _, hge, hcm', ?_, ?_⟩⟩, ⟨rfl, rfl, rfl, by simp, fun k hk _ => (Below.heap_alloc w.drew _ k hk).trans rfl⟩, Or.inr rfl⟩
      · simp only [Array.size_append, List.size_toArray, size_zeroCells, hxl, strCells_length, Value.cells]
        simp
        omega
      · simp only [Array.toList_append, List.append_assoc, List.drop_zero]
        rw [← List.append_assoc, ← hlen]
        exact List.take_left
end
theorem Sl.sub {w : World} {l : List D} {fp : List Nat} {A : Option Addr} {n cap s x y : Nat} (h : Sl w l fp (.slice A n cap)) (hs : ∀ d ∈ l, d.sz = s) (hxy : x ≤ y) (hy : y ≤ l.length) :
    ∃ f, Sl w ((l.take y).drop x) f (sliced A x y cap s) ∧ ∀ b ∈ f, b ∈ fp := by
  obtain ⟨A', c', e1, h1, h2⟩ := h.form
  injection e1 with e1 e2 e3
  subst e1 e2 e3
  by_cases he : x = y
  · subst he
    refine ⟨[], ?_, fun b hb => by simp at hb⟩
    unfold Sl
    have : (l.take x).drop x = [] := by simp
    rw [this, R]
    exact ⟨if cap = x then A else A.map (·.add (x * s)), cap - x, by simp [sliced], by simp, by omega, Or.inl ⟨rfl, rfl⟩⟩
  · obtain ⟨f1, h3, h4⟩ := Sl.take h hy
    have hpos : 0 < l.length := by omega
    have h' := h
    unfold Sl at h'
    rw [R] at h'
    obtain ⟨A', c', g1, g2, g3, g4⟩ := h'
    simp only [List.cons.injEq, and_true, Value.slice.injEq] at g1
    obtain ⟨rfl, _, rfl⟩ := g1
    rcases g4 with ⟨rfl, _⟩ | ⟨b, o, fp', cs', rfl, rfl, _⟩
    · simp at hpos
    · obtain ⟨f2, h5, h6⟩ := Sl.drop h3 (s := s) (fun d hd => hs d (List.mem_of_mem_take hd)) (k := x) (by rw [List.length_take]; omega)
      refine ⟨f2, ?_, fun z hz => h4 z (h6 z hz)⟩
      have : sliced (some ⟨b, o, none⟩) x y cap s = .slice (some ⟨b, o + x * s, none⟩) (y - x) (cap - x) := by
        unfold sliced
        rw [if_neg (by omega), Option.map_some, addr_add']
      rw [this]
      exact h5
end Go.Proofs.YtdjcflnemnknaaaDoor

namespace Go.Proofs.YtdjcflnemnknaaaDoor
open Go.RowKit
set_option linter.unusedSimpArgs false
set_option linter.unusedVariables false
theorem gPow : ∃ g, Tryd.prog.globalNamed "internal/strconv.uint64pow10" = some g := by
  have h : (Tryd.prog.globalNamed "internal/strconv.uint64pow10").isSome = true := by kernel_rfl
  exact Option.isSome_iff_exists.1 h
def ErrV (w : World) (g : Nat) : Prop := ∃ ev, w.cell? ⟨g, 0, none⟩ = some ev ∧ (ev = .nilIface ∨ ∃ te pe, ev = .iface te pe)
def IntV (w : World) (g : Nat) : Prop := ∃ m, w.cell? ⟨g, 0, none⟩ = some (.int .i64 m)
def TabP (w : World) : Prop := Lib.TabIs Tryd.prog w "internal/strconv.uint64pow10" .u64 Lib.pow10Tab ∧ ErrV w 4 ∧ ErrV w 5 ∧ IntV w 0
theorem cell_block {w : World} {g : Nat} {v : Value} (h : w.cell? ⟨g, 0, none⟩ = some v) : g < w.heap.size := by
  rcases Nat.lt_or_ge g w.heap.size with hlt | hge
  · exact hlt
  · unfold World.cell? at h
    rw [Array.getElem?_eq_none hge] at h
    cases h
theorem cell_stay {w w' : World} {g : Nat} {v : Value} (h : w.cell? ⟨g, 0, none⟩ = some v) (hb : Below w.heap.size w w') : w'.cell? ⟨g, 0, none⟩ = some v := by
  rw [World.cell?_of_block (w := w) (hb.block g (cell_block h))]
  exact h
theorem TabP.pow {w : World} (h : TabP w) : Lib.TabIs Tryd.prog w "internal/strconv.uint64pow10" .u64 Lib.pow10Tab := h.1
theorem tab_stay {w w' : World} (h : TabP w) (hb : Below w.heap.size w w') : TabP w' := by
  obtain ⟨h1, ⟨e1, h2, h3⟩, ⟨e2, h4, h5⟩, m, h6⟩ := h
  obtain ⟨g, hg⟩ := gPow
  exact ⟨Go.Joins.tab_stays hg h1 hb (Nat.le_refl _), ⟨e1, cell_stay h2 hb, h3⟩, ⟨e2, cell_stay h4 hb, h5⟩, m, cell_stay h6 hb⟩
end Go.Proofs.YtdjcflnemnknaaaDoor

namespace Go.Proofs.YtdjcflnemnknaaaDoor
open Go.RowKit
set_option linter.unusedSimpArgs false
set_option linter.unusedVariables false

/-- What is known of one cell: nothing; its value; that it is a slice that reads as a list (n: over memory that the call has made); that it is the slice of the call's own number k, as it stood at version i. -/
inductive AC where
  | any
  | raw (v : Value)
  | sl (n : Bool) (l : List D)
  | own (k i : Nat)
  | osub (k i a b : Nat)
  | cl (f : Nat) (caps : List Nat)
/-- What is known of a value in a slot. -/
inductive AV where
  | any
  | c (g : Bool) (xs : List AC)
  | ptr (xs : List AC)
  | bptr (k off : Nat)
  | eptr (k i j off : Nat)
  | tup (ys : List (Bool × List AC))
/-- A slice of the call's own. -/
structure Own where
  l : List D
  e : TypeId
  s : Nat
  ver : Nat
  nw : Bool
structure St where
  fr : List AV
  owns : List Own
  boxes : List (List AC)
structure Env where
  B : Nat
  om : List (Value × List Nat)
  bm : List (Nat × TypeId)
  X : List Nat
/-- Blocks that count as new. -/
def Env.nw (E : Env) (b : Nat) : Prop := E.B ≤ b ∨ b ∈ E.X
/-- The blocks that the call may still write. -/
def Env.M (E : Env) : List Nat := E.bm.map (·.1) ++ E.om.flatMap (fun p => p.1.ownBlock.toList)

def AC.ok (E : Env) (os : List Own) (w : World) : AC → Value → Prop
  | .any, _ => True
  | .raw u, v => v = u
  | .sl n l, v => ∃ fp, Sl w l fp v ∧ ∀ b ∈ fp, b ∉ E.M ∧ (n = true → E.nw b)
  | .own k i, v => (∃ A n c, v = Value.slice A n c) ∧ ∃ o p, os[k]? = some o ∧ E.om[k]? = some p ∧ i ≤ o.ver ∧ (o.ver = i → v = p.1)
  | .osub k i a b, v => (∃ A n c, v = Value.slice A n c) ∧ ∃ o p, os[k]? = some o ∧ E.om[k]? = some p ∧ i ≤ o.ver ∧ (o.ver = i → ∃ A n c, p.1 = .slice A n c ∧ a ≤ b ∧ b ≤ n ∧ v = sliced A a b c o.s)
  | .cl f caps, v => ∃ ps : List (Nat × TypeId), caps.map (fun k => E.bm[k]?) = ps.map some ∧ v = .func (.func f) #[] (ps.map fun p => .pointer (some ⟨p.1, 0, none⟩)).toArray
def Oks (E : Env) (os : List Own) (w : World) : List AC → List Value → Prop
  | [], [] => True
  | x :: xs, v :: vs => x.ok E os w v ∧ Oks E os w xs vs
  | _, _ => False
def Gok (E : Env) (os : List Own) (w : World) (g : Bool) (xs : List AC) (v : Value) : Prop :=
  if g then ∃ vs, v = .agg vs.toArray ∧ Oks E os w xs vs else Oks E os w xs [v]
def Toks (E : Env) (os : List Own) (w : World) : List (Bool × List AC) → List Value → Prop
  | [], [] => True
  | x :: xs, v :: vs => Gok E os w x.1 x.2 v ∧ Toks E os w xs vs
  | _, _ => False
def AV.ok (E : Env) (os : List Own) (w : World) : AV → Value → Prop
  | .any, _ => True
  | .c g xs, v => Gok E os w g xs v
  | .ptr xs, v => ∃ b o vs, v = .pointer (some ⟨b, o, none⟩) ∧ b < w.heap.size ∧ b ∉ E.M ∧ At w b o vs ∧ Oks E os w xs vs
  | .bptr k off, v => ∃ p, E.bm[k]? = some p ∧ v = .pointer (some ⟨p.1, off, none⟩)
  | .eptr k i j off, v => ∃ o p, os[k]? = some o ∧ E.om[k]? = some p ∧ i ≤ o.ver ∧ (o.ver = i → ∃ b z, v = .pointer (some ⟨b, z + (j * o.s + off), none⟩) ∧ baseOf p.1 = some (b, z))
  | .tup ys, v => ∃ vs, v = .tuple vs.toArray ∧ Toks E os w ys vs

theorem Oks.len {E : Env} {os : List Own} {w : World} : ∀ {xs : List AC} {vs : List Value}, Oks E os w xs vs → xs.length = vs.length
  | [], [], _ => rfl
  | x :: xs, v :: vs, h => by rw [List.length_cons, List.length_cons, Oks.len h.2]
  | [], _ :: _, h => h.elim
  | _ :: _, [], h => h.elim
theorem Oks.take {E : Env} {os : List Own} {w : World} : ∀ {xs : List AC} {vs : List Value}, Oks E os w xs vs → ∀ n, Oks E os w (xs.take n) (vs.take n)
  | [], [], _, n => by simp [Oks]
  | x :: xs, v :: vs, h, 0 => by simp [Oks]
  | x :: xs, v :: vs, h, n + 1 => ⟨h.1, Oks.take h.2 n⟩
  | [], _ :: _, h, _ => h.elim
  | _ :: _, [], h, _ => h.elim
theorem Oks.drop {E : Env} {os : List Own} {w : World} : ∀ {xs : List AC} {vs : List Value}, Oks E os w xs vs → ∀ n, Oks E os w (xs.drop n) (vs.drop n)
  | [], [], _, n => by simp [Oks]
  | x :: xs, v :: vs, h, 0 => h
  | x :: xs, v :: vs, h, n + 1 => by simpa using Oks.drop h.2 n
  | [], _ :: _, h, _ => h.elim
  | _ :: _, [], h, _ => h.elim
theorem Oks.append {E : Env} {os : List Own} {w : World} {ys : List AC} {us : List Value} (h2 : Oks E os w ys us) : ∀ {xs : List AC} {vs : List Value}, Oks E os w xs vs → Oks E os w (xs ++ ys) (vs ++ us)
  | [], [], _ => h2
  | x :: xs, v :: vs, h => ⟨h.1, Oks.append h2 h.2⟩
  | [], _ :: _, h => h.elim
  | _ :: _, [], h => h.elim
theorem Oks.get {E : Env} {os : List Own} {w : World} : ∀ {xs : List AC} {vs : List Value}, Oks E os w xs vs → ∀ {j : Nat} {x : AC}, xs[j]? = some x → ∃ v, vs[j]? = some v ∧ x.ok E os w v
  | [], [], _, j, x, hx => by simp at hx
  | y :: xs, v :: vs, h, 0, x, hx => by
    simp at hx
    subst hx
    exact ⟨v, rfl, h.1⟩
  | y :: xs, v :: vs, h, j + 1, x, hx => by
    simp at hx
    obtain ⟨u, h1, h2⟩ := Oks.get h.2 hx
    exact ⟨u, by simpa using h1, h2⟩
  | [], _ :: _, h, _, _, _ => h.elim
  | _ :: _, [], h, _, _, _ => h.elim

/-- From one world to a later one: what is not the call's own to write stands; own slices keep their rows, or have a new version. -/
structure Sim (E : Env) (os : List Own) (w : World) (E' : Env) (os' : List Own) (w' : World) : Prop where
  base : E'.nw = E.nw
  size : w.heap.size ≤ w'.heap.size
  blk : ∀ b, b < w.heap.size → b ∉ E.M → w'.heap[b]? = w.heap[b]?
  old : ∀ b, b < w.heap.size → b ∈ E'.M → b ∈ E.M
  own : ∀ (k : Nat) (o : Own) (p : Value × List Nat), os[k]? = some o → E.om[k]? = some p → ∃ (o' : Own) (p' : Value × List Nat), os'[k]? = some o' ∧ E'.om[k]? = some p' ∧ o.ver ≤ o'.ver ∧
    (o.ver = o'.ver → p'.1 = p.1 ∧ o.s = o'.s)
  box : ∀ (k : Nat) (p : Nat × TypeId), E.bm[k]? = some p → E'.bm[k]? = some p
section
variable {E E' : Env} {os os' : List Own} {w w' : World}
theorem AC.ok.sim (h : Sim E os w E' os' w') {x : AC} {v : Value} (hx : x.ok E os w v) : x.ok E' os' w' v := by
  cases x with
  | any => trivial
  | raw u => exact hx
  | sl n l =>
    obtain ⟨fp, h1, h2⟩ := hx
    exact ⟨fp, R.same h1 (fun b hb => h.blk b (R.lt h1 b hb) (h2 b hb).1) h.size, fun b hb => ⟨fun hm => (h2 b hb).1 (h.old b (R.lt h1 b hb) hm), fun e => by rw [h.base]; exact (h2 b hb).2 e⟩⟩
  | own k i =>
    obtain ⟨hv, o, p, h1, h2, h3, h4⟩ := hx
    obtain ⟨o', p', h5, h6, h7, h8⟩ := h.own k o p h1 h2
    refine ⟨hv, o', p', h5, h6, Nat.le_trans h3 h7, fun e => ?_⟩
    have : o.ver = o'.ver := by omega
    rw [(h8 this).1]
    exact h4 (by omega)
  | osub k i a b =>
    obtain ⟨hv, o, p, h1, h2, h3, h4⟩ := hx
    obtain ⟨o', p', h5, h6, h7, h8⟩ := h.own k o p h1 h2
    refine ⟨hv, o', p', h5, h6, Nat.le_trans h3 h7, fun e => ?_⟩
    have e' : o.ver = o'.ver := by omega
    obtain ⟨A, n, c, q1, q2, q3, q4⟩ := h4 (by omega)
    obtain ⟨h13, h14⟩ := h8 e'
    exact ⟨A, n, c, by rw [h13]; exact q1, q2, q3, by rw [← h14]; exact q4⟩
  | cl f caps =>
    obtain ⟨ps, h1, h2⟩ := hx
    refine ⟨ps, ?_, h2⟩
    clear h2
    induction caps generalizing ps with
    | nil => exact h1
    | cons k caps ih =>
      cases ps with
      | nil => simp at h1
      | cons p ps =>
        simp only [List.map_cons, List.cons.injEq] at h1 ⊢
        exact ⟨h.box k p h1.1, ih ps h1.2⟩
theorem Oks.sim (h : Sim E os w E' os' w') : ∀ {xs : List AC} {vs : List Value}, Oks E os w xs vs → Oks E' os' w' xs vs
  | [], [], _ => trivial
  | x :: xs, v :: vs, hx => ⟨hx.1.sim h, Oks.sim h hx.2⟩
  | [], _ :: _, h => h.elim
  | _ :: _, [], h => h.elim
theorem Gok.sim (h : Sim E os w E' os' w') {g : Bool} {xs : List AC} {v : Value} (hx : Gok E os w g xs v) : Gok E' os' w' g xs v := by
  unfold Gok at *
  split at hx
  · obtain ⟨vs, h1, h2⟩ := hx
    rw [if_pos (by assumption)]
    exact ⟨vs, h1, h2.sim h⟩
  · rw [if_neg (by assumption)]
    exact hx.sim h
theorem Toks.sim (h : Sim E os w E' os' w') : ∀ {xs : List (Bool × List AC)} {vs : List Value}, Toks E os w xs vs → Toks E' os' w' xs vs
  | [], [], _ => trivial
  | x :: xs, v :: vs, hx => ⟨hx.1.sim h, Toks.sim h hx.2⟩
  | [], _ :: _, h => h.elim
  | _ :: _, [], h => h.elim
theorem At.blk {b o : Nat} {vs : List Value} (h : At w b o vs) (hb : w'.heap[b]? = w.heap[b]?) : At w' b o vs := fun j u hj => (World.cell?_of_block (a := ⟨b, o + j, none⟩) hb).trans (h j u hj)
theorem AV.ok.sim (h : Sim E os w E' os' w') {x : AV} {v : Value} (hx : x.ok E os w v) : x.ok E' os' w' v := by
  cases x with
  | any => trivial
  | c g xs => exact Gok.sim h hx
  | ptr xs =>
    obtain ⟨b, o, vs, h1, h2, h3, h4, h5⟩ := hx
    exact ⟨b, o, vs, h1, Nat.lt_of_lt_of_le h2 h.size, fun hm => h3 (h.old b h2 hm), h4.blk (h.blk b h2 h3), h5.sim h⟩
  | bptr k off =>
    obtain ⟨p, h1, h2⟩ := hx
    exact ⟨p, h.box k p h1, h2⟩
  | eptr k i j off =>
    obtain ⟨o, p, h1, h2, h3, h4⟩ := hx
    obtain ⟨o', p', h5, h6, h7, h8⟩ := h.own k o p h1 h2
    refine ⟨o', p', h5, h6, Nat.le_trans h3 h7, fun e => ?_⟩
    have e' : o.ver = o'.ver := by omega
    obtain ⟨b, z, h9, h10⟩ := h4 (by omega)
    obtain ⟨h13, h14⟩ := h8 e'
    exact ⟨b, z, by rw [← h14]; exact h9, by rw [h13]; exact h10⟩
  | tup ys =>
    obtain ⟨vs, h1, h2⟩ := hx
    exact ⟨vs, h1, h2.sim h⟩
end

/-- Where a call's own way began. -/
structure Org where
  E : Env
  os : List Own
  w : World
theorem Sim.refl (E : Env) (os : List Own) (w : World) : Sim E os w E os w where
  base := rfl
  size := Nat.le_refl _
  blk := fun _ _ _ => rfl
  old := fun _ _ h => h
  own := fun k o p h1 h2 => ⟨o, p, h1, h2, Nat.le_refl _, fun _ => ⟨rfl, rfl⟩⟩
  box := fun _ _ h => h
theorem Sim.trans {E E' E'' : Env} {os os' os'' : List Own} {w w' w'' : World} (h : Sim E os w E' os' w') (k : Sim E' os' w' E'' os'' w'') : Sim E os w E'' os'' w'' where
  base := k.base.trans h.base
  size := Nat.le_trans h.size k.size
  blk := fun b hb hm => (k.blk b (Nat.lt_of_lt_of_le hb h.size) (fun hm' => hm (h.old b hb hm'))).trans (h.blk b hb hm)
  old := fun b hb hm => h.old b hb (k.old b (Nat.lt_of_lt_of_le hb h.size) hm)
  own := fun j o p h1 h2 => by
    obtain ⟨o', p', g1, g2, g3, g4⟩ := h.own j o p h1 h2
    obtain ⟨o'', p'', q1, q2, q3, q4⟩ := k.own j o' p' g1 g2
    refine ⟨o'', p'', q1, q2, Nat.le_trans g3 q3, fun e => ?_⟩
    obtain ⟨a1, a2⟩ := g4 (by omega)
    obtain ⟨b1, b2⟩ := q4 (by omega)
    exact ⟨b1.trans a1, a2.trans b2⟩
  box := fun j p hp => k.box j p (h.box j p hp)
/-- Elements of one size, each leaf one cell. -/
def El (s : Nat) (l : List D) : Prop := ∀ d ∈ l, d.one ∧ d.sz = s
theorem El.append {s : Nat} {a b : List D} (h : El s a) (k : El s b) : El s (a ++ b) := fun d hd => (List.mem_append.1 hd).elim (h d) (k d)

/-- The elder memory stands, and what is known of the variables will stand. -/
structure BelowT (B : Nat) (w0 w : World) : Prop where
  out : Below B w0 w
  tab : ∀ w', Below B w w' → TabP w'
theorem BelowT.trans {B : Nat} {a b c : World} (h : BelowT B a b) (k : Below B b c) : BelowT B a c := ⟨h.out.trans k, fun w' h' => h.tab w' (k.trans h')⟩
theorem BelowT.grown {B : Nat} {a w w' : World} {row : Option Nat} (h : BelowT B a w) (hg : w.grownBy w' row) (hB : B ≤ w.heap.size) (hr : ∀ k, row = some k → B ≤ k) : BelowT B a w' := h.trans ((Below.refl _ _).grown hg hB hr)
theorem BelowT.now {B : Nat} {a w : World} (h : BelowT B a w) : TabP w := h.tab w (Below.refl _ _)
theorem BelowT.start {w : World} (h : TabP w) : BelowT w.heap.size w w := ⟨Below.refl _ _, fun _ hb => tab_stay h hb⟩
/-- Frame and memory hold the state. -/
structure Rel (B : Nat) (Xs : List Nat) (G : Org) (w0 : World) (st : St) (E : Env) (a : Act) (w : World) : Prop where
  eb : E.B = B
  ex : E.X = Xs
  sim : Sim G.E G.os G.w E st.owns w
  defers : a.defers = []
  size : a.tmps.size = st.fr.length
  fr : ∀ (t : Nat) (x : AV), st.fr[t]? = some x → x.ok E st.owns w (a.tmps.getD t undef)
  olen : E.om.length = st.owns.length
  own : ∀ (k : Nat) (o : Own) (p : Value × List Nat), st.owns[k]? = some o → E.om[k]? = some p → ∃ cs, OwnsAt w B o.e o.s p.1 o.l.length cs ∧ Rs w o.l p.2 cs ∧ El o.s o.l ∧ ∀ b ∈ p.2, b ∉ E.M ∧ (o.nw = true → E.nw b)
  blen : E.bm.length = st.boxes.length
  box : ∀ (k : Nat) (xs : List AC) (p : Nat × TypeId), st.boxes[k]? = some xs → E.bm[k]? = some p → B ≤ p.1 ∧ ∃ vs, Row w p.1 p.2 vs ∧ Oks E st.owns w xs vs
  nodup : E.M.Nodup
  below : BelowT B w0 w
  base : B ≤ w.heap.size

def St.put (st : St) (d : Option Nat) (x : AV) : St := match d with | some t => { st with fr := st.fr.set t x } | none => st
theorem put_tmps (a : Act) (d : Option Nat) (v : Value) : (a.put d v).tmps = match d with | some t => a.tmps.setIfInBounds t v | none => a.tmps := by cases d <;> rfl
theorem put_defers (a : Act) (d : Option Nat) (v : Value) : (a.put d v).defers = a.defers := by cases d <;> rfl
theorem put_size (a : Act) (d : Option Nat) (v : Value) : (a.put d v).tmps.size = a.tmps.size := by cases d <;> simp [Act.put]
theorem stput_len (st : St) (d : Option Nat) (x : AV) : (st.put d x).fr.length = st.fr.length := by cases d <;> simp [St.put]
theorem stput_owns (st : St) (d : Option Nat) (x : AV) : (st.put d x).owns = st.owns := by cases d <;> rfl
theorem stput_boxes (st : St) (d : Option Nat) (x : AV) : (st.put d x).boxes = st.boxes := by cases d <;> rfl

theorem fr_put {E : Env} {os : List Own} {w : World} {st : St} {a : Act} {d : Option Nat} {x : AV} {v : Value} (hs : a.tmps.size = st.fr.length)
    (h : ∀ (t : Nat) (y : AV), st.fr[t]? = some y → y.ok E os w (a.tmps.getD t undef)) (hx : x.ok E os w v) :
    ∀ (t : Nat) (y : AV), (st.put d x).fr[t]? = some y → y.ok E os w ((a.put d v).tmps.getD t undef) := by
  intro t y hy
  cases d with
  | none => exact h t y hy
  | some d =>
    simp only [St.put] at hy
    rw [List.getElem?_set] at hy
    rw [put_tmps]
    simp only [Array.getD_eq_getD_getElem?]
    by_cases e : d = t
    · subst e
      by_cases hlt : d < st.fr.length
      · rw [if_pos rfl, if_pos hlt] at hy
        injection hy with hy
        subst hy
        rw [Array.getElem?_setIfInBounds_self_of_lt (by omega)]
        exact hx
      · rw [if_pos rfl, if_neg hlt] at hy
        cases hy
    · rw [if_neg e] at hy
      rw [Array.getElem?_setIfInBounds_ne e]
      have := h t y hy
      rwa [Array.getD_eq_getD_getElem?] at this

section
variable {B : Nat} {Xs : List Nat} {G : Org} {w0 : World} {st : St} {E : Env} {a : Act} {w w' : World}
theorem Rel.nw_of (h : Rel B Xs G w0 st E a w) {b : Nat} (hb : B ≤ b) : E.nw b := Or.inl (by rw [h.eb]; exact hb)
theorem M_lt_box (h : Rel B Xs G w0 st E a w) {k : Nat} {p : Nat × TypeId} (hp : E.bm[k]? = some p) : B ≤ p.1 ∧ p.1 < w.heap.size := by
  have hk : k < st.boxes.length := by rw [← h.blen]; exact (List.getElem?_eq_some_iff.1 hp).1
  obtain ⟨h1, vs, h2, _⟩ := h.box k _ p (List.getElem?_eq_getElem hk) hp
  exact ⟨h1, h2.lt⟩
theorem M_lt_own (h : Rel B Xs G w0 st E a w) {k : Nat} {p : Value × List Nat} (hp : E.om[k]? = some p) {b : Nat} (hb : p.1.ownBlock = some b) : B ≤ b ∧ b < w.heap.size := by
  have hk : k < st.owns.length := by rw [← h.olen]; exact (List.getElem?_eq_some_iff.1 hp).1
  obtain ⟨cs, h1, _⟩ := h.own k _ p (List.getElem?_eq_getElem hk) hp
  exact OwnsAt.lt h1 b hb
theorem mem_M {b : Nat} : b ∈ E.M ↔ (∃ (k : Nat) (p : Nat × TypeId), E.bm[k]? = some p ∧ p.1 = b) ∨ ∃ (k : Nat) (p : Value × List Nat), E.om[k]? = some p ∧ p.1.ownBlock = some b := by
  unfold Env.M
  rw [List.mem_append, List.mem_map, List.mem_flatMap]
  constructor
  · rintro (⟨p, h1, h2⟩ | ⟨p, h1, h2⟩)
    · obtain ⟨k, hk⟩ := List.mem_iff_getElem?.1 h1
      exact Or.inl ⟨k, p, hk, h2⟩
    · obtain ⟨k, hk⟩ := List.mem_iff_getElem?.1 h1
      exact Or.inr ⟨k, p, hk, by simpa using h2⟩
  · rintro (⟨k, p, h1, h2⟩ | ⟨k, p, h1, h2⟩)
    · exact Or.inl ⟨p, List.mem_of_getElem? h1, h2⟩
    · exact Or.inr ⟨p, List.mem_of_getElem? h1, by simpa using h2⟩
theorem M_lt (h : Rel B Xs G w0 st E a w) {b : Nat} (hb : b ∈ E.M) : B ≤ b ∧ b < w.heap.size := by
  rcases mem_M.1 hb with ⟨k, p, h1, rfl⟩ | ⟨k, p, h1, h2⟩
  · exact M_lt_box h h1
  · exact M_lt_own h h1 h2

/-- Only new blocks: all stands. -/
theorem Sim.of_below (h : Rel B Xs G w0 st E a w) (hb : Below w.heap.size w w') : Sim E st.owns w E st.owns w' where
  base := rfl
  size := hb.size
  blk := fun b hlt _ => hb.block b hlt
  old := fun _ _ h => h
  own := fun k o p h1 h2 => ⟨o, p, h1, h2, Nat.le_refl _, fun _ => ⟨rfl, rfl⟩⟩
  box := fun _ _ h => h
theorem Rel.below_put (h : Rel B Xs G w0 st E a w) (hb : Below w.heap.size w w') {d : Option Nat} {x : AV} {v : Value} (hx : x.ok E st.owns w' v) : Rel B Xs G w0 (st.put d x) E (a.put d v) w' where
  eb := h.eb
  ex := h.ex
  sim := by rw [stput_owns]; exact h.sim.trans (Sim.of_below h hb)
  defers := by rw [put_defers]; exact h.defers
  size := by rw [put_size, stput_len]; exact h.size
  fr := by rw [stput_owns]; exact fr_put h.size (fun t y hy => (h.fr t y hy).sim (Sim.of_below h hb)) hx
  olen := by rw [stput_owns]; exact h.olen
  own := by
    rw [stput_owns]
    intro k o p h1 h2
    obtain ⟨cs, h3, h4, h5⟩ := h.own k o p h1 h2
    exact ⟨cs, ownsAt_below h3 hb, h4.below hb, h5⟩
  blen := by rw [stput_boxes]; exact h.blen
  box := by
    rw [stput_boxes, stput_owns]
    intro k xs p h1 h2
    obtain ⟨h3, vs, h4, h5⟩ := h.box k xs p h1 h2
    exact ⟨h3, vs, h4.below hb, h5.sim (Sim.of_below h hb)⟩
  nodup := h.nodup
  below := h.below.trans (hb.mono h.base)
  base := Nat.le_trans h.base hb.size
end
end Go.Proofs.YtdjcflnemnknaaaDoor

namespace Go.Proofs.YtdjcflnemnknaaaDoor
open Go.RowKit
set_option linter.unusedSimpArgs false
set_option linter.unusedVariables false
/-- How long an own slice may grow, by its elements' number of cells. -/
def capN : Nat → Nat
  | 1 => 2199023255552
  | _ => 4194304
/-- The bytes of an element. -/
def byN : Nat → Nat
  | 1 => 64
  | _ => 1024
theorem capN_1 : capN 1 = 2199023255552 := rfl
theorem capN_2 (n : Nat) : capN (n + 2) = 4194304 := rfl
theorem capN_by (s : Nat) : capN s * byN s ≤ 140737488355328 := by
  unfold capN byN
  split <;> decide
theorem capN_le (s : Nat) : capN s ≤ 2199023255552 := by
  unfold capN
  split <;> decide
theorem byN_le (s : Nat) : byN s ≤ 1024 := by
  unfold byN
  split <;> decide
theorem capN_ge (s : Nat) : 4194304 ≤ capN s := by
  unfold capN
  split <;> decide

inductive Opd where
  | t (n : Nat)
  | k (v : Value)
def opd : Operand → Opd
  | .tmp t => .t t
  | .const v => .k v
  | .global g => .k (.pointer (some ⟨g, 0, none⟩))
  | .func f => .k (.func (.func f) #[] #[])
def kav (v : Value) : AV := match v with | .agg cs => .c true (cs.toList.map .raw) | v => .c false [.raw v]
def St.ev (st : St) : Opd → AV
  | .t n => st.fr.getD n .any
  | .k v => kav v

inductive I where
  | mov (x : Opd)
  | pick (c x y : Opd)
  | bin (op : BinOp) (x y : Opd)
  | beq (ne : Bool) (x y : Opd)
  | not (x : Opd)
  | load (n : Nat) (g : Bool) (x : Opd)
  | fad (off : Nat) (x : Opd)
  | iad (s : Nat) (x i : Opd)
  | nck (x : Opd)
  | alloc (zs : List Value)
  | box (x : Opd)
  | store (n : Nat) (x y : Opd)
  | brow (own : Bool) (e s n : Nat) (g : Bool) (xs : List Opd)
  | bld (zs : List Value) (ps : List (Nat × Nat × Opd))
  | fld (off n : Nat) (g : Bool) (x : Opd)
  | sidx (x i : Opd)
  | ssl (x : Opd) (lo hi : Option Opd)
  | lsl (s : Nat) (x : Opd) (lo hi : Option Opd)
  | ext (j : Nat) (x : Opd)
  | call (f : Nat) (xs : List Opd)
  | app (e s : Nat) (x y : Opd)
  | len (str : Bool) (x : Opd)
  | mkf (f : Nat) (xs : List Opd)
  | fnil (ne : Bool) (x : Opd)
  | snil (ne : Bool) (x : Opd)
  | mk (e : Nat) (z : Value) (n : Opd)
  | callv (x : Opd) (xs : List Opd)
  | cvi (k : IntKind) (x : Opd)
  | cvs (x : Opd)
  | apps (e : Nat) (x y : Opd)

/-- Bytes as data; back. -/
def lu8 (b : UInt8) : D := .leaf (.int .u8 (b.toNat : Int))
def bytesD : List D → Option (List UInt8)
  | [] => some []
  | .leaf (.int .u8 n) :: l => (match bytesD l with | some r => some (UInt8.ofNat n.toNat :: r) | none => none)
  | _ => none
theorem bytesD_map : ∀ (l : List UInt8), bytesD (l.map lu8) = some l
  | [] => rfl
  | b :: l => by
    rw [List.map_cons, lu8, bytesD, bytesD_map l]
    simp
/-- The bytes of a string as data. -/
def strD (s : ByteArray) : List D := s.data.toList.map lu8
theorem strD_len (s : ByteArray) : (strD s).length = s.size := by simp [strD]
/-! ### Data, flat -/
mutual
def D.flat : D → List D
  | .leaf v => [.leaf v]
  | .sl l => [.sl l]
  | .agg l => D.flats l
def D.flats : List D → List D
  | [] => []
  | d :: l => d.flat ++ D.flats l
end
def D.isAgg : D → Bool | .agg _ => true | _ => false
mutual
theorem R_flat {w : World} : ∀ {d : D} {fp : List Nat} {cs : List Value}, R w d fp cs ↔ Rs w d.flat fp cs
  | .leaf v, fp, cs => by rw [D.flat]; exact ⟨Rs.one, Rs.of_one⟩
  | .sl l, fp, cs => by rw [D.flat]; exact ⟨Rs.one, Rs.of_one⟩
  | .agg l, fp, cs => by rw [D.flat, R_agg]; exact Rs_flat
theorem Rs_flat {w : World} : ∀ {l : List D} {fp : List Nat} {cs : List Value}, Rs w l fp cs ↔ Rs w (D.flats l) fp cs
  | [], fp, cs => by rw [D.flats]
  | d :: l, fp, cs => by
    rw [D.flats]
    constructor
    · intro h
      rw [Rs] at h
      obtain ⟨f1, f2, c1, c2, rfl, rfl, h1, h2⟩ := h
      exact Rs.append (Rs_flat.1 h2) (R_flat.1 h1)
    · intro h
      obtain ⟨f1, f2, c1, c2, rfl, rfl, h1, h2⟩ := Rs.split h
      rw [Rs]
      exact ⟨f1, f2, c1, c2, rfl, rfl, R_flat.2 h1, Rs_flat.2 h2⟩
end
def D.ac (n : Bool) : D → AC | .leaf v => .raw v | .sl l => .sl n l | .agg _ => .any
def D.acs (n : Bool) (d : D) : List AC := d.flat.map (D.ac n)
theorem oks_ac {E : Env} {os : List Own} {w : World} {n : Bool} : ∀ {l : List D} {fp : List Nat} {cs : List Value}, (∀ d ∈ l, d.isAgg = false) → Rs w l fp cs → (∀ b ∈ fp, b ∉ E.M ∧ (n = true → E.nw b)) → Oks E os w (l.map (D.ac n)) cs
  | [], fp, cs, _, h, _ => by rw [h.2]; trivial
  | d :: l, fp, cs, hn, h, hf => by
    rw [Rs] at h
    obtain ⟨f1, f2, c1, c2, rfl, rfl, h1, h2⟩ := h
    have ih := oks_ac (E := E) (os := os) (n := n) (fun x hx => hn x (by simp [hx])) h2 (fun b hb => hf b (by simp [hb]))
    cases d with
    | leaf v =>
      obtain ⟨rfl, rfl⟩ := h1
      exact ⟨rfl, ih⟩
    | sl l' =>
      have h1' := h1
      rw [R] at h1
      obtain ⟨A, cap, rfl, _⟩ := h1
      exact ⟨⟨f1, h1', fun b hb => hf b (by simp [hb])⟩, ih⟩
    | agg l' => exact absurd (hn (.agg l') (by simp)) (by simp [D.isAgg])
mutual
theorem flat_noagg : ∀ (d : D), ∀ x ∈ d.flat, x.isAgg = false
  | .leaf v, x, h => by rw [D.flat] at h; simp at h; subst h; rfl
  | .sl l, x, h => by rw [D.flat] at h; simp at h; subst h; rfl
  | .agg l, x, h => by rw [D.flat] at h; exact flats_noagg l x h
theorem flats_noagg : ∀ (l : List D), ∀ x ∈ D.flats l, x.isAgg = false
  | [], x, h => by rw [D.flats] at h; simp at h
  | d :: l, x, h => by
    rw [D.flats] at h
    rcases List.mem_append.1 h with h | h
    · exact flat_noagg d x h
    · exact flats_noagg l x h
end
theorem oks_acs {E : Env} {os : List Own} {w : World} {n : Bool} {d : D} {fp : List Nat} {cs : List Value} (h : R w d fp cs) (hf : ∀ b ∈ fp, b ∉ E.M ∧ (n = true → E.nw b)) : Oks E os w (d.acs n) cs :=
  oks_ac (flat_noagg d) (R_flat.1 h) hf


def AC.toD : AC → Option D
  | .raw v => if v.oneCell' then some (.leaf v) else none
  | .sl _ l => some (.sl l)
  | _ => none
def AC.nw : AC → Bool
  | .raw _ => true
  | .sl n _ => n
  | _ => false
def acsD : List AC → Option (List D)
  | [] => some []
  | x :: xs => match x.toD, acsD xs with | some d, some ds => some (d :: ds) | _, _ => none
/-- The datum of a value. -/
def AV.toD : AV → Option D
  | .c false [x] => x.toD
  | .c true xs => (acsD xs).map .agg
  | _ => none
def AV.nw : AV → Bool
  | .c _ xs => xs.all AC.nw
  | _ => false
def avsD : List AV → Option (List D)
  | [] => some []
  | x :: xs => match x.toD, avsD xs with | some d, some ds => some (d :: ds) | _, _ => none
theorem toD_ok {E : Env} {os : List Own} {w : World} {x : AC} {d : D} {v : Value} (h : x.toD = some d) (hx : x.ok E os w v) : d.one ∧ d.sz = 1 ∧ ∃ fp, R w d fp [v] ∧ ∀ b ∈ fp, b ∉ E.M ∧ (x.nw = true → E.nw b) := by
  cases x with
  | any => simp [AC.toD] at h
  | raw u =>
    simp only [AC.toD] at h
    split at h
    · next ho =>
      injection h with h
      subst h
      obtain rfl := hx
      exact ⟨ho, rfl, [], ⟨rfl, rfl⟩, fun b hb => by simp at hb⟩
    · cases h
  | sl n l =>
    simp only [AC.toD] at h
    injection h with h
    subst h
    obtain ⟨fp, h1, h2⟩ := hx
    exact ⟨trivial, rfl, fp, h1, fun b hb => ⟨(h2 b hb).1, fun e => (h2 b hb).2 e⟩⟩
  | own k i => simp [AC.toD] at h
  | osub k i a b => simp [AC.toD] at h
  | cl f caps => simp [AC.toD] at h
theorem acsD_ok {E : Env} {os : List Own} {w : World} : ∀ {xs : List AC} {ds : List D} {vs : List Value}, acsD xs = some ds → Oks E os w xs vs →
    D.ones ds ∧ D.szs ds = xs.length ∧ ∃ fp, Rs w ds fp vs ∧ ∀ b ∈ fp, b ∉ E.M ∧ (xs.all AC.nw = true → E.nw b)
  | [], ds, [], h, _ => by
    injection h with h
    subst h
    exact ⟨trivial, rfl, [], ⟨rfl, rfl⟩, fun b hb => by simp at hb⟩
  | x :: xs, ds, v :: vs, h, hx => by
    rw [acsD] at h
    split at h
    · next d ds' h1 h2 =>
      injection h with h
      subst h
      obtain ⟨o1, s1, f1, r1, m1⟩ := toD_ok h1 hx.1
      obtain ⟨o2, s2, f2, r2, m2⟩ := acsD_ok h2 hx.2
      refine ⟨⟨o1, o2⟩, by rw [D.szs, s1, s2, List.length_cons]; omega, f1 ++ f2, ⟨f1, f2, [v], vs, rfl, rfl, r1, r2⟩, fun b hb => ?_⟩
      rcases List.mem_append.1 hb with h | h
      · exact ⟨(m1 b h).1, fun e => (m1 b h).2 (by simp at e; exact e.1)⟩
      · exact ⟨(m2 b h).1, fun e => (m2 b h).2 (by simp at e ⊢; exact e.2)⟩
    · cases h
  | [], _, _ :: _, _, h => h.elim
  | _ :: _, _, [], _, h => h.elim
/-- A value's cells hold its datum. -/
theorem AV.toD_ok {E : Env} {os : List Own} {w : World} {x : AV} {d : D} {v : Value} (h : x.toD = some d) (hx : x.ok E os w v) : d.one ∧ d.sz = v.cells.size ∧ ∃ fp, R w d fp v.cells.toList ∧ ∀ b ∈ fp, b ∉ E.M ∧ (x.nw = true → E.nw b) := by
  unfold AV.toD at h
  split at h
  · next y =>
    have hx' : y.ok E os w v := hx.1
    obtain ⟨h1, h2, fp, h3, h4⟩ := Go.Proofs.YtdjcflnemnknaaaDoor.toD_ok h hx'
    have hv : v.cells = #[v] := by
      cases y with
      | raw u =>
        simp only [AC.toD] at h
        split at h
        · obtain rfl := hx'
          cases v <;> simp_all [Value.cells, Value.oneCell']
        · cases h
      | sl n l =>
        obtain ⟨fp', h5, _⟩ := hx'
        obtain ⟨A, c, rfl, _⟩ := Sl.form h5
        rfl
      | any => simp [AC.toD] at h
      | own k i => simp [AC.toD] at h
      | osub k i a b => simp [AC.toD] at h
      | cl f caps => simp [AC.toD] at h
    rw [hv]
    exact ⟨h1, by rw [h2]; rfl, fp, h3, fun b hb => ⟨(h4 b hb).1, fun e => (h4 b hb).2 (by simpa [AV.nw] using e)⟩⟩
  · next xs =>
    obtain ⟨vs, rfl, hxs⟩ := hx
    obtain ⟨ds, h1, h2⟩ := Option.map_eq_some_iff.1 h
    subst h2
    obtain ⟨o1, s1, fp, r1, m1⟩ := acsD_ok h1 hxs
    refine ⟨o1, by rw [D.sz, s1, hxs.len]; simp [Value.cells], fp, by rw [R_agg]; simpa [Value.cells] using r1, fun b hb => ⟨(m1 b hb).1, fun e => (m1 b hb).2 (by simpa [AV.nw] using e)⟩⟩
  · cases h

/-! ### Calls by contract -/
def newEnv (H : Nat) : Env := ⟨H, (List.range H).map fun b => (.slice (some ⟨b, 0, none⟩) 0 0, []), [], []⟩
theorem newEnv_M {H b : Nat} : b ∉ (newEnv H).M ↔ H ≤ b := by
  simp [newEnv, Env.M, Value.ownBlock, List.flatMap_map]
def Rd (w : World) (d : D) (v : Value) : Prop := if d.isAgg then ∃ fp cs, v = .agg cs.toArray ∧ R w d fp cs else ∃ fp, R w d fp [v]
def Rds (w : World) : List D → List Value → Prop
  | [], [] => True
  | d :: ds, v :: vs => Rd w d v ∧ Rds w ds vs
  | _, _ => False
def CallPost (r : AV) (w : World) (e : Ending) (w' : World) : Prop := ∃ v, e = .returned v ∧ r.ok (newEnv w.heap.size) [] w' v ∧ Below w.heap.size w w'
def CallsTo (P : Program) (f : Nat) (ds : List D) (r : AV) : Prop := ∀ w vs, Rds w ds vs → TabP w → Calls P f vs.toArray w (CallPost r w)
/-- A slice, or the struct that holds nothing else. -/
def wrapV (g : Bool) (v : Value) : Value := if g then .agg #[v] else v
def OwnPost (g : Bool) (l : List D) (e s : Nat) (w : World) (en : Ending) (w' : World) : Prop :=
  ∃ v cs f, en = .returned (wrapV g v) ∧ OwnsAt w' w.heap.size e s v l.length cs ∧ Rs w' l f cs ∧ (∀ b ∈ f, some b ≠ v.ownBlock ∧ w.heap.size ≤ b) ∧ Below w.heap.size w w'
def CallsOwnG (P : Program) (f : Nat) (ds : List D) (g : Bool) (l : List D) (e s : Nat) : Prop := ∀ w vs, Rds w ds vs → TabP w → Calls P f vs.toArray w (OwnPost g l e s w)
abbrev CallsOwn (P : Program) (f : Nat) (ds : List D) (l : List D) (e s : Nat) : Prop := CallsOwnG P f ds false l e s
/-! Results with several slices of one's own. -/
def OwnsOk (B : Nat) (w : World) (om : List (Value × List Nat)) (os : List Own) : Prop :=
  om.length = os.length ∧ (∀ (k : Nat) (o : Own) (p : Value × List Nat), os[k]? = some o → om[k]? = some p → ∃ cs, OwnsAt w B o.e o.s p.1 o.l.length cs ∧ Rs w o.l p.2 cs ∧ El o.s o.l ∧ ∀ b ∈ p.2, B ≤ b ∧ b ∉ om.flatMap fun q => q.1.ownBlock.toList) ∧
    (om.flatMap fun q => q.1.ownBlock.toList).Nodup
def OutPost (r : AV) (os : List Own) (w : World) (en : Ending) (w' : World) : Prop :=
  ∃ v om, en = .returned v ∧ OwnsOk w.heap.size w' om os ∧ r.ok ⟨w.heap.size, om, [], []⟩ os w' v ∧ Below w.heap.size w w'
def CallsX (P : Program) (f : Nat) (ds : List D) (r : AV) (os : List Own) : Prop := ∀ w vs, Rds w ds vs → TabP w → Calls P f vs.toArray w (OutPost r os w)
def AC.shift (n : Nat) : AC → AC
  | .own k i => .own (n + k) i
  | x => x
def AV.shift (n : Nat) : AV → AV
  | .c g xs => .c g (xs.map (AC.shift n))
  | .tup ys => .tup (ys.map fun y => (y.1, y.2.map (AC.shift n)))
  | x => x
def AC.out : AC → Bool
  | .sl n _ => n
  | .osub .. => false
  | _ => true
def AV.out : AV → Bool
  | .any => true
  | .c _ xs => xs.all AC.out
  | .tup ys => ys.all fun y => y.2.all AC.out
  | _ => false
/-! Results that may be parts of the arguments. -/
def oldEnv (H : Nat) (F : List Nat) : Env := ⟨H, ((List.range H).filter (fun b => !F.contains b)).map fun b => (.slice (some ⟨b, 0, none⟩) 0 0, []), [], F⟩
theorem oldEnv_M {H b : Nat} {F : List Nat} : b ∉ (oldEnv H F).M ↔ H ≤ b ∨ b ∈ F := by
  simp [oldEnv, Env.M, Value.ownBlock, List.flatMap_map]
  constructor
  · intro h
    rcases Nat.lt_or_ge b H with hlt | hge
    · exact Or.inr (h hlt)
    · exact Or.inl hge
  · rintro (h | h) hlt
    · omega
    · exact h
def RdF (w : World) (F : List Nat) (d : D) (v : Value) : Prop := if d.isAgg then ∃ fp cs, v = .agg cs.toArray ∧ R w d fp cs ∧ ∀ b ∈ fp, b ∈ F else ∃ fp, R w d fp [v] ∧ ∀ b ∈ fp, b ∈ F
def RdsF (w : World) (F : List Nat) : List D → List Value → Prop
  | [], [] => True
  | d :: ds, v :: vs => RdF w F d v ∧ RdsF w F ds vs
  | _, _ => False
def CallPostA (r : AV) (F : List Nat) (w : World) (e : Ending) (w' : World) : Prop := ∃ v, e = .returned v ∧ r.ok (oldEnv w.heap.size F) [] w' v ∧ Below w.heap.size w w'
def CallsToA (P : Program) (f : Nat) (ds : List D) (r : AV) : Prop := ∀ w F vs, (∀ b ∈ F, b < w.heap.size) → RdsF w F ds vs → TabP w → Calls P f vs.toArray w (CallPostA r F w)


def argD (os : List Own) : AC → Option D
  | .own k i => match os[k]? with | some o => if o.ver = i then some (.sl o.l) else none | none => none
  | .osub k i a b => match os[k]? with | some o => if o.ver = i then some (.sl ((o.l.take b).drop a)) else none | none => none
  | x => x.toD
def argsD (os : List Own) : List AC → Option (List D)
  | [] => some []
  | x :: xs => match argD os x, argsD os xs with | some d, some ds => some (d :: ds) | _, _ => none
def ArgOk (os : List Own) (x : AV) (d : D) : Prop := match x with | .c g xs => argsD os xs = some d.flat ∧ g = d.isAgg | _ => False
def ArgsOk (os : List Own) : List AV → List D → Prop
  | [], [] => True
  | x :: xs, d :: ds => ArgOk os x d ∧ ArgsOk os xs ds
  | _, _ => False
end Go.Proofs.YtdjcflnemnknaaaDoor

namespace Go.Proofs.YtdjcflnemnknaaaDoor
open Go.RowKit
set_option linter.unusedSimpArgs false
set_option linter.unusedVariables false

/-- Bits and shifts, as the machine reckons them. -/
def bAnd (k : IntKind) (a b : Int) : Int := k.wrap (BitVec.ofInt k.bits a &&& BitVec.ofInt k.bits b).toNat
def bOr (k : IntKind) (a b : Int) : Int := k.wrap (BitVec.ofInt k.bits a ||| BitVec.ofInt k.bits b).toNat
def bXor (k : IntKind) (a b : Int) : Int := k.wrap (BitVec.ofInt k.bits a ^^^ BitVec.ofInt k.bits b).toNat
def bNot (k : IntKind) (a b : Int) : Int := k.wrap (BitVec.ofInt k.bits a &&& ~~~BitVec.ofInt k.bits b).toNat
def sShl (k : IntKind) (a b : Int) : Int := k.wrap (a * 2 ^ (min b.toNat k.bits))
def sShr (k : IntKind) (a b : Int) : Int := a.fdiv (2 ^ (min b.toNat k.bits))
/-- Arithmetic, comparison. -/
def vbin (op : BinOp) : Value → Value → Option Value
  | .int k a, .int k' b => match op with
    | .shl => if b < 0 then none else some (.int k (sShl k a b))
    | .shr => if b < 0 then none else some (.int k (sShr k a b))
    | .add => if k = k' then some (.int k (k.wrap (a + b))) else none
    | .sub => if k = k' then some (.int k (k.wrap (a - b))) else none
    | .mul => if k = k' then some (.int k (k.wrap (a * b))) else none
    | .quo => if k = k' then (if b = 0 then none else some (.int k (k.wrap (a.tdiv b)))) else none
    | .rem => if k = k' then (if b = 0 then none else some (.int k (a.tmod b))) else none
    | .and => if k = k' then some (.int k (bAnd k a b)) else none
    | .or => if k = k' then some (.int k (bOr k a b)) else none
    | .xor => if k = k' then some (.int k (bXor k a b)) else none
    | .andNot => if k = k' then some (.int k (bNot k a b)) else none
    | .eql => if k = k' then some (.bool (a == b)) else none
    | .neq => if k = k' then some (.bool (a != b)) else none
    | .lss => if k = k' then some (.bool (decide (a < b))) else none
    | .leq => if k = k' then some (.bool (decide (a ≤ b))) else none
    | .gtr => if k = k' then some (.bool (decide (a > b))) else none
    | .geq => if k = k' then some (.bool (decide (a ≥ b))) else none
  | .string a, .string b => match op with
    | .add => if ((a.size + b.size : Nat) : Int) > IntKind.i64.max then none else some (.string (a ++ b))
    | .eql => some (.bool (a.toList == b.toList))
    | .neq => some (.bool !(a.toList == b.toList))
    | .lss => some (.bool (Op.bytesLess a.toList b.toList))
    | .leq => some (.bool (Op.bytesLess a.toList b.toList || a.toList == b.toList))
    | .gtr => some (.bool !(Op.bytesLess a.toList b.toList || a.toList == b.toList))
    | .geq => some (.bool !(Op.bytesLess a.toList b.toList))
    | _ => none
  | _, _ => none
theorem vbin_run {P : Program} {w : World} {op : BinOp} {t : TypeId} {x y : Operand} {u v z : Value} (h : vbin op u v = some z) :
    (do eqGuard op t x y u v; binOp op t u v : Sem Value).run P w = .ok z w := by
  unfold vbin at h
  split at h
  · next k a k' b =>
    cases op <;> simp only [reduceCtorEq] at h <;> (try (split at h <;> simp only [reduceCtorEq] at h)) <;> (try (split at h <;> simp only [reduceCtorEq] at h)) <;> (try injection h with h) <;> (try subst h) <;>
      simp_all [eqGuard, binOp, Op.intArith, Op.intDiv, Op.intCmp, Op.intBits, Op.shift, bAnd, bOr, bXor, bNot, sShl, sShr] <;> (intro hneg; omega)
  · next a b =>
    cases op <;> simp only [reduceCtorEq] at h <;> (try (split at h <;> simp only [reduceCtorEq] at h)) <;> (try injection h with h) <;> (try subst h) <;>
      simp_all [eqGuard, binOp, Op.stringOp]
  · cases h

def rawI : AV → Option Int | .c false [.raw (.int _ z)] => some z | _ => none
def srcOf (os : List Own) : AV → Option (List D × Bool)
  | .c false [.sl n l] => some (l, n)
  | .c false [.own k i] => match os[k]? with | some o => if o.ver = i then some (o.l, o.nw) else none | none => none
  | .c false [.osub k i a b] => match os[k]? with | some o => if o.ver = i then some ((o.l.take b).drop a, o.nw) else none | none => none
  | .c false [.raw (.slice none 0 0)] => some ([], true)
  | _ => none
def subB (lo : Option Int) (hi : Option Int) (n : Nat) : Option (Nat × Nat) :=
  let l := lo.getD 0
  let h := hi.getD n
  if 0 ≤ l ∧ l ≤ h ∧ h ≤ n then some (l.toNat, h.toNat) else none
/-- A value of one cell. -/
def AC.one : AC → Bool
  | .raw u => u.oneCell'
  | .any => false
  | _ => true
/-- Cells filled in. -/
def fillA (ρ : Opd → AV) : List (Nat × Nat × Opd) → List AC → Option (List AC)
  | [], cs => some cs
  | (off, n, x) :: ps, cs => match ρ x with
    | .c g xs => if xs.length = n ∧ off + n ≤ cs.length ∧ xs.all AC.one = true then fillA ρ ps (cs.take off ++ xs ++ cs.drop (off + n)) else none
    | _ => none

def AV.res : AV → Prop
  | .c _ _ => True
  | .tup _ => True
  | .any => True
  | _ => False
/-- Values in which no slice counts as new. -/
def AC.old : AC → Bool
  | .sl n _ => !n
  | _ => true
def AV.old : AV → Bool
  | .any => true
  | .c _ xs => xs.all AC.old
  | .tup ys => ys.all fun y => y.2.all AC.old
  | _ => false
/-- Pointers to boxes, as their numbers. -/
def capsOf : List AV → Option (List Nat)
  | [] => some []
  | .bptr k 0 :: xs => (capsOf xs).map (k :: ·)
  | _ => none
inductive Res (P : Program) (ρ : Opd → AV) (os : List Own) (bs : List (List AC)) : I → AV → List Own → List (List AC) → Prop
  | mov {x} : Res P ρ os bs (.mov x) (ρ x) os bs
  | pick {c x y b} : ρ c = .c false [.raw (.bool b)] → Res P ρ os bs (.pick c x y) (if b then ρ x else ρ y) os bs
  | bin {op x y u v z} : ρ x = .c false [.raw u] → ρ y = .c false [.raw v] → vbin op u v = some z → Res P ρ os bs (.bin op x y) (.c false [.raw z]) os bs
  | beq {ne x y u v} : ρ x = .c false [.raw (.bool u)] → ρ y = .c false [.raw (.bool v)] → Res P ρ os bs (.beq ne x y) (.c false [.raw (.bool (if ne then !(u == v) else u == v))]) os bs
  | not {x u} : ρ x = .c false [.raw (.bool u)] → Res P ρ os bs (.not x) (.c false [.raw (.bool !u)]) os bs
  | loadP {n g x xs} : ρ x = .ptr xs → n ≤ xs.length → Res P ρ os bs (.load n g x) (.c g (xs.take n)) os bs
  | loadB {n g x xs k off} : ρ x = .bptr k off → bs[k]? = some xs → off + n ≤ xs.length → Res P ρ os bs (.load n g x) (.c g ((xs.drop off).take n)) os bs
  | loadE {n g x k i j off o d} : ρ x = .eptr k i j off → os[k]? = some o → o.ver = i → o.l[j]? = some d → off + n ≤ (d.acs o.nw).length → Res P ρ os bs (.load n g x) (.c g (((d.acs o.nw).drop off).take n)) os bs
  | fadP {off x xs} : ρ x = .ptr xs → off ≤ xs.length → Res P ρ os bs (.fad off x) (.ptr (xs.drop off)) os bs
  | fadB {off x k z} : ρ x = .bptr k z → Res P ρ os bs (.fad off x) (.bptr k (z + off)) os bs
  | fadE {off x k i j z o} : ρ x = .eptr k i j z → os[k]? = some o → o.ver = i → Res P ρ os bs (.fad off x) (.eptr k i j (z + off)) os bs
  | iadS {s x i n l z d} : ρ x = .c false [.sl n l] → rawI (ρ i) = some z → 0 ≤ z → l[z.toNat]? = some d → El s l → Res P ρ os bs (.iad s x i) (.ptr (d.acs n)) os bs
  | iadO {s x i k j o z} : ρ x = .c false [.own k j] → rawI (ρ i) = some z → 0 ≤ z → os[k]? = some o → o.ver = j → z.toNat < o.l.length → o.s = s → Res P ρ os bs (.iad s x i) (.eptr k j z.toNat 0) os bs
  | nckP {x xs} : ρ x = .ptr xs → Res P ρ os bs (.nck x) (.ptr xs) os bs
  | nckB {x k z} : ρ x = .bptr k z → Res P ρ os bs (.nck x) (.bptr k z) os bs
  | alloc {zs} : Res P ρ os bs (.alloc zs) (.bptr bs.length 0) os (bs ++ [zs.map .raw])
  | box {x g xs} : ρ x = .c g xs → xs.all AC.one = true → Res P ρ os bs (.box x) (.bptr bs.length 0) os (bs ++ [xs])
  | store {n x y k off g ys xs} : ρ x = .bptr k off → ρ y = .c g ys → ys.length = n → ys.all AC.one = true → bs[k]? = some xs → off + n ≤ xs.length →
      Res P ρ os bs (.store n x y) .any os (bs.set k (xs.take off ++ ys ++ xs.drop (off + n)))
  | brow {e s n g xs ds} : avsD (xs.map ρ) = some ds → (∀ d ∈ ds, d.sz = s) → ds.length = n → Res P ρ os bs (.brow false e s n g xs) (.c false [.sl ((xs.map ρ).all AV.nw) ds]) os bs
  | cvi {k x k' z} : ρ x = .c false [.raw (.int k' z)] → Res P ρ os bs (.cvi k x) (.c false [.raw (.int k (k.wrap z))]) os bs
  | cvsS {x n l b} : ρ x = .c false [.sl n l] → bytesD l = some b → Res P ρ os bs (.cvs x) (.c false [.raw (.string ⟨b.toArray⟩)]) os bs
  | cvsO {x k i o b} : ρ x = .c false [.own k i] → os[k]? = some o → o.ver = i → bytesD o.l = some b → Res P ρ os bs (.cvs x) (.c false [.raw (.string ⟨b.toArray⟩)]) os bs
  | apps {e x y k i o s} : ρ x = .c false [.own k i] → os[k]? = some o → o.ver = i → o.e = e → o.s = 1 → ρ y = .c false [.raw (.string s)] → o.l.length + s.size ≤ 1073741824 →
      Res P ρ os bs (.apps e x y) (.c false [.own k (i + 1)]) (os.set k ⟨o.l ++ strD s, e, 1, i + 1, o.nw⟩) bs
  | mkO {e z x k} : rawI (ρ x) = some ((k : Nat) : Int) → k ≤ 4194304 → Res P ρ os bs (.mk e z x) (.c false [.own os.length 0]) (os ++ [⟨List.replicate k (.leaf z), e, 1, 0, true⟩]) bs
  | bown {e s n g xs ds} : avsD (xs.map ρ) = some ds → (∀ d ∈ ds, d.sz = s) → ds.length = n → Res P ρ os bs (.brow true e s n g xs) (.c false [.own os.length 0]) (os ++ [⟨ds, e, s, 0, (xs.map ρ).all AV.nw⟩]) bs
  | bld {zs ps cs} : fillA ρ ps (zs.map .raw) = some cs → Res P ρ os bs (.bld zs ps) (.c true cs) os bs
  | fld {off n g x xs} : ρ x = .c true xs → off + n ≤ xs.length → Res P ρ os bs (.fld off n g x) (.c g ((xs.drop off).take n)) os bs
  | sidx {x i s z b} : ρ x = .c false [.raw (.string s)] → rawI (ρ i) = some z → 0 ≤ z → s.data[z.toNat]? = some b → Res P ρ os bs (.sidx x i) (.c false [.raw (.int .u8 b.toNat)]) os bs
  | ssl {x lo hi s l h lo' hi'} : ρ x = .c false [.raw (.string s)] → lo.map (fun y => rawI (ρ y)) = lo'.map some → hi.map (fun y => rawI (ρ y)) = hi'.map some → subB lo' hi' s.size = some (l, h) →
      Res P ρ os bs (.ssl x lo hi) (.c false [.raw (.string (s.extract l h))]) os bs
  | lsl {s x lo hi n l a b lo' hi'} : ρ x = .c false [.sl n l] → lo.map (fun y => rawI (ρ y)) = lo'.map some → hi.map (fun y => rawI (ρ y)) = hi'.map some → subB lo' hi' l.length = some (a, b) → El s l →
      Res P ρ os bs (.lsl s x lo hi) (.c false [.sl n ((l.take b).drop a)]) os bs
  | lslO {s x lo hi k i o a b lo' hi'} : ρ x = .c false [.own k i] → os[k]? = some o → o.ver = i → o.s = s → lo.map (fun y => rawI (ρ y)) = lo'.map some → hi.map (fun y => rawI (ρ y)) = hi'.map some → subB lo' hi' o.l.length = some (a, b) →
      Res P ρ os bs (.lsl s x lo hi) (.c false [.osub k i a b]) os bs
  | iadU {s x i k j p q o z} : ρ x = .c false [.osub k j p q] → rawI (ρ i) = some z → 0 ≤ z → os[k]? = some o → o.ver = j → z.toNat < q - p → o.s = s → Res P ρ os bs (.iad s x i) (.eptr k j (p + z.toNat) 0) os bs
  | lenU {x k i p q o} : ρ x = .c false [.osub k i p q] → os[k]? = some o → o.ver = i → Res P ρ os bs (.len false x) (.c false [.raw (.int .i64 ((q - p : Nat) : Int))]) os bs
  | appU {e s x y k i p q o l n} : ρ x = .c false [.osub k i p q] → os[k]? = some o → o.ver = i → o.e = e → o.s = s → srcOf os (ρ y) = some (l, n) → El s l → o.l.length + l.length ≤ capN s →
      Res P ρ os bs (.app e s x y) (.c false [.own k (i + 1)]) (os.set k ⟨(o.l.take q).drop p ++ l, e, s, i + 1, o.nw && n⟩) bs
  | ext {j x ys g xs} : ρ x = .tup ys → ys[j]? = some (g, xs) → Res P ρ os bs (.ext j x) (.c g xs) os bs
  | call {f xs ds r} : ArgsOk os (xs.map ρ) ds → CallsTo P f ds r → r.res → Res P ρ os bs (.call f xs) r os bs
  | callO {f xs ds g l e s} : ArgsOk os (xs.map ρ) ds → CallsOwnG P f ds g l e s → El s l → Res P ρ os bs (.call f xs) (.c g [.own os.length 0]) (os ++ [⟨l, e, s, 0, true⟩]) bs
  | callX {f xs ds r os'} : ArgsOk os (xs.map ρ) ds → CallsX P f ds r os' → r.out = true → 0 < os'.length → Res P ρ os bs (.call f xs) (r.shift os.length) (os ++ os') bs
  | callA {f xs ds r} : ArgsOk [] (xs.map ρ) ds → CallsToA P f ds r → r.old = true → Res P ρ os bs (.call f xs) r os bs
  | appO {e s x y k i o l n} : ρ x = .c false [.own k i] → os[k]? = some o → o.ver = i → o.e = e → o.s = s → srcOf os (ρ y) = some (l, n) → El s l → o.l.length + l.length ≤ capN s →
      Res P ρ os bs (.app e s x y) (.c false [.own k (i + 1)]) (os.set k ⟨o.l ++ l, e, s, i + 1, o.nw && n⟩) bs
  | appN {e s x y l n} : ρ x = .c false [.raw (.slice none 0 0)] → srcOf os (ρ y) = some (l, n) → El s l → l.length ≤ capN s →
      Res P ρ os bs (.app e s x y) (.c false [.own os.length 0]) (os ++ [⟨l, e, s, 0, n⟩]) bs
  | lenS {x n l} : ρ x = .c false [.sl n l] → Res P ρ os bs (.len false x) (.c false [.raw (.int .i64 l.length)]) os bs
  | lenO {x k i o} : ρ x = .c false [.own k i] → os[k]? = some o → o.ver = i → Res P ρ os bs (.len false x) (.c false [.raw (.int .i64 o.l.length)]) os bs
  | lenT {x s} : ρ x = .c false [.raw (.string s)] → Res P ρ os bs (.len true x) (.c false [.raw (.int .i64 s.size)]) os bs
  | mkf {f xs caps} : capsOf (xs.map ρ) = some caps → Res P ρ os bs (.mkf f xs) (.c false [.cl f caps]) os bs
  | fnilC {ne x f caps} : ρ x = .c false [.cl f caps] → Res P ρ os bs (.fnil ne x) (.c false [.raw (.bool ne)]) os bs
  | fnilN {ne x} : ρ x = .c false [.raw .nilFunc] → Res P ρ os bs (.fnil ne x) (.c false [.raw (.bool (!ne))]) os bs
  | snilZ {ne x} : ρ x = .c false [.raw (.slice none 0 0)] → Res P ρ os bs (.snil ne x) (.c false [.raw (.bool (!ne))]) os bs
  | snilO {ne x k i o} : ρ x = .c false [.own k i] → os[k]? = some o → o.ver = i → 0 < o.l.length → Res P ρ os bs (.snil ne x) (.c false [.raw (.bool ne)]) os bs
  | lenN {x} : ρ x = .c false [.raw (.slice none 0 0)] → Res P ρ os bs (.len false x) (.c false [.raw (.int .i64 0)]) os bs

/-! ### Memory -/
section
variable {B : Nat} {Xs : List Nat} {G : Org} {w0 : World} {fr : List AV} {os : List Own} {bs : List (List AC)} {E : Env} {a : Act} {w w' : World}
theorem M_newBox (E : Env) (p : Nat × TypeId) {b : Nat} : b ∈ ({ E with bm := E.bm ++ [p] } : Env).M ↔ b ∈ E.M ∨ b = p.1 := by
  simp only [Env.M, List.map_append, List.map_cons, List.map_nil, List.mem_append, List.mem_singleton]
  constructor
  · rintro ((h | h) | h)
    · exact Or.inl (Or.inl h)
    · exact Or.inr h
    · exact Or.inl (Or.inr h)
  · rintro ((h | h) | h)
    · exact Or.inl (Or.inl h)
    · exact Or.inr h
    · exact Or.inl (Or.inr h)
theorem M_newOwn (E : Env) (p : Value × List Nat) {b : Nat} : b ∈ ({ E with om := E.om ++ [p] } : Env).M ↔ b ∈ E.M ∨ p.1.ownBlock = some b := by
  simp only [Env.M, List.flatMap_append, List.flatMap_cons, List.flatMap_nil, List.append_nil, List.mem_append]
  rw [or_assoc]
  simp
theorem M_addOwns (E : Env) (om : List (Value × List Nat)) {b : Nat} : b ∈ ({ E with om := E.om ++ om } : Env).M ↔ b ∈ E.M ∨ b ∈ om.flatMap fun q => q.1.ownBlock.toList := by
  simp only [Env.M, List.flatMap_append, List.mem_append]
  rw [or_assoc]
theorem get_app {α : Type} {l m : List α} {y : α} {k : Nat} (h : (l ++ m)[k]? = some y) : l[k]? = some y ∨ (l.length ≤ k ∧ m[k - l.length]? = some y) := by
  rw [List.getElem?_append] at h
  split at h
  · exact Or.inl h
  · exact Or.inr ⟨by omega, h⟩
theorem get_snoc {α : Type} {l : List α} {x y : α} {k : Nat} (h : (l ++ [x])[k]? = some y) : l[k]? = some y ∨ (k = l.length ∧ y = x) := by
  rw [List.getElem?_append] at h
  split at h
  · exact Or.inl h
  · next hk =>
    have : k - l.length = 0 := by
      rcases Nat.eq_zero_or_pos (k - l.length) with h0 | h0
      · exact h0
      · rw [List.getElem?_eq_none (by simp; omega)] at h; cases h
    rw [this] at h
    simp at h
    exact Or.inr ⟨by omega, h.symm⟩
theorem snoc_get {α : Type} {l : List α} {x y : α} {k : Nat} (h : l[k]? = some y) : (l ++ [x])[k]? = some y := by
  rw [List.getElem?_append_left (List.getElem?_eq_some_iff.1 h).1]
  exact h
/-- A new box. -/
theorem Rel.newBox (h : Rel B Xs G w0 ⟨fr, os, bs⟩ E a w) {xs : List AC} {vs : List Value} (e : TypeId) (hx : Oks E os w xs vs) (d : Option Nat) :
    Rel B Xs G w0 (St.put ⟨fr, os, bs ++ [xs]⟩ d (.bptr bs.length 0)) { E with bm := E.bm ++ [(w.heap.size, e)] } (a.put d (.pointer (some ⟨w.heap.size, 0, none⟩))) (w.alloc (.cells vs.toArray e)) := by
  have hb : Below w.heap.size w (w.alloc (.cells vs.toArray e)) := (Below.refl _ _).alloc (Nat.le_refl _) _
  have hS : Sim E os w { E with bm := E.bm ++ [(w.heap.size, e)] } os (w.alloc (.cells vs.toArray e)) :=
    { base := rfl, size := hb.size, blk := fun b hlt _ => hb.block b hlt,
      old := fun b hlt hm => by
        rcases (M_newBox E _).1 hm with h' | h'
        · exact h'
        · simp only at h'; omega
      own := fun k o p h1 h2 => ⟨o, p, h1, h2, Nat.le_refl _, fun _ => ⟨rfl, rfl⟩⟩
      box := fun k p hp => snoc_get hp }
  have hbl : E.bm.length = bs.length := h.blen
  exact
    { eb := h.eb
      ex := h.ex
      sim := by rw [stput_owns]; exact h.sim.trans hS
      defers := by rw [put_defers]; exact h.defers
      size := by rw [put_size, stput_len]; exact h.size
      fr := by
        rw [stput_owns]
        exact fr_put (st := ⟨fr, os, bs ++ [xs]⟩) h.size (fun t y hy => (h.fr t y hy).sim hS) ⟨(w.heap.size, e), by simp [← hbl], rfl⟩
      olen := by rw [stput_owns]; exact h.olen
      own := by
        rw [stput_owns]
        intro k o p h1 h2
        obtain ⟨cs, h3, h4, h6, h5⟩ := h.own k o p h1 h2
        refine ⟨cs, ownsAt_below h3 hb, h4.below hb, h6, fun b hbm => ⟨fun hm => ?_, (h5 b hbm).2⟩⟩
        rcases (M_newBox E _).1 hm with h' | h'
        · exact (h5 b hbm).1 h'
        · have := Rs.lt h4 b hbm
          simp only at h'
          omega
      blen := by rw [stput_boxes]; simp [hbl]
      box := by
        rw [stput_boxes, stput_owns]
        intro k ys p h1 h2
        rcases get_snoc h2 with h2 | ⟨hk, rfl⟩
        · rcases get_snoc h1 with h1 | ⟨hk, rfl⟩
          · obtain ⟨h3, us, h4, h5⟩ := h.box k ys p h1 h2
            exact ⟨h3, us, h4.below hb, h5.sim hS⟩
          · rw [hk, ← hbl, List.getElem?_eq_none (Nat.le_refl _)] at h2; cases h2
        · rw [hk, hbl] at h1
          simp at h1
          subst h1
          exact ⟨h.base, vs, by simpa using Row.new w e vs.toArray, hx.sim hS⟩
      nodup := by
        have := h.nodup
        unfold Env.M at this ⊢
        simp only [List.map_append, List.map_cons, List.map_nil, List.append_assoc]
        rw [List.nodup_append] at this ⊢
        refine ⟨this.1, ?_, ?_⟩
        · rw [List.singleton_append, List.nodup_cons]
          exact ⟨fun hm => by have := (M_lt h (List.mem_append_right _ hm)).2; omega, this.2.1⟩
        · intro x hx y hy e
          subst e
          rcases List.mem_append.1 hy with hy | hy
          · simp at hy
            have := (M_lt h (List.mem_append_left _ hx)).2
            omega
          · exact this.2.2 x hx x hy rfl
      below := h.below.trans (hb.mono h.base)
      base := Nat.le_trans h.base hb.size }
end
end Go.Proofs.YtdjcflnemnknaaaDoor

namespace Go.Proofs.YtdjcflnemnknaaaDoor
open Go.RowKit
set_option linter.unusedSimpArgs false
set_option linter.unusedVariables false
section
variable {B : Nat} {Xs : List Nat} {G : Org} {w0 : World} {fr : List AV} {os : List Own} {bs : List (List AC)} {E : Env} {a : Act} {w w' : World}
theorem map_fst_inj {l : List (Nat × TypeId)} (h : (l.map (·.1)).Nodup) {i j : Nat} {p q : Nat × TypeId} (hi : l[i]? = some p) (hj : l[j]? = some q) (e : p.1 = q.1) : i = j := by
  have hi' : (l.map (·.1))[i]? = some p.1 := by rw [List.getElem?_map, hi]; rfl
  have hj' : (l.map (·.1))[j]? = some p.1 := by rw [List.getElem?_map, hj, e]; rfl
  obtain ⟨h1, h2⟩ := List.getElem?_eq_some_iff.1 hi'
  obtain ⟨h3, h4⟩ := List.getElem?_eq_some_iff.1 hj'
  rcases Nat.lt_trichotomy i j with hij | hij | hij
  · exact absurd (h2.trans h4.symm) (List.pairwise_iff_getElem.1 h i j h1 h3 hij)
  · exact hij
  · exact absurd (h4.trans h2.symm) (List.pairwise_iff_getElem.1 h j i h3 h1 hij)
/-- A store into one box: the others stand, and so do own rows. -/
theorem Rel.setBox (h : Rel B Xs G w0 ⟨fr, os, bs⟩ E a w) {k : Nat} {p : Nat × TypeId} {ys xs : List AC} {us : List Value} (hk : bs[k]? = some xs) (hp : E.bm[k]? = some p)
    (hy : Oks E os w ys us) (hw : w'.heap.size = w.heap.size) (ho : w'.os = w.os ∧ w'.tape = w.tape ∧ w'.output = w.output)
    (hblk : ∀ b, b ≠ p.1 → w'.heap[b]? = w.heap[b]?) (hrow : Row w' p.1 p.2 us) (d : Option Nat) {x : AV} {v : Value} (hx : x.ok E os w v) :
    Rel B Xs G w0 (St.put ⟨fr, os, bs.set k ys⟩ d x) E (a.put d v) w' := by
  have hpM : p.1 ∈ E.M := mem_M.2 (Or.inl ⟨k, p, hp, rfl⟩)
  have hS : Sim E os w E os w' :=
    { base := rfl, size := Nat.le_of_eq hw.symm, blk := fun b hlt hm => hblk b (fun e => hm (e ▸ hpM)), old := fun _ _ h => h,
      own := fun k o p h1 h2 => ⟨o, p, h1, h2, Nat.le_refl _, fun _ => ⟨rfl, rfl⟩⟩, box := fun _ _ h => h }
  have hnd := h.nodup
  unfold Env.M at hnd
  rw [List.nodup_append] at hnd
  have hkl : k < bs.length := (List.getElem?_eq_some_iff.1 hk).1
  exact
    { eb := h.eb
      ex := h.ex
      sim := by rw [stput_owns]; exact h.sim.trans hS
      defers := by rw [put_defers]; exact h.defers
      size := by rw [put_size, stput_len]; exact h.size
      fr := by
        rw [stput_owns]
        exact fr_put (st := ⟨fr, os, bs.set k ys⟩) h.size (fun t y hy => (h.fr t y hy).sim hS) (hx.sim hS)
      olen := by rw [stput_owns]; exact h.olen
      own := by
        rw [stput_owns]
        intro j o q h1 h2
        obtain ⟨cs, h3, h4, h6, h5⟩ := h.own j o q h1 h2
        have hr : ∀ b, q.1.ownBlock = some b → b ≠ p.1 := fun b hb e =>
          hnd.2.2 p.1 (List.mem_map.2 ⟨p, List.mem_of_getElem? hp, rfl⟩) b (List.mem_flatMap.2 ⟨q, List.mem_of_getElem? h2, by simpa using hb⟩) e.symm
        refine ⟨cs, ?_, h4.same (fun b hb => hblk b (fun e => (h5 b hb).1 (e ▸ hpM))) (Nat.le_of_eq hw.symm), h6, h5⟩
        obtain ⟨h7, h8⟩ := h3
        refine ⟨h7, ?_⟩
        rcases h8 with h8 | ⟨g, zz, cap, cur, hv, hg, hh, r⟩
        · exact Or.inl h8
        · exact Or.inr ⟨g, zz, cap, cur, hv, hg, by rw [hblk g (hr g (by rw [hv]; rfl))]; exact hh, r⟩
      blen := by rw [stput_boxes]; simp only [List.length_set]; exact h.blen
      box := by
        rw [stput_boxes, stput_owns]
        intro j zs q h1 h2
        simp only at h1
        rw [List.getElem?_set] at h1
        split at h1
        · next e =>
          subst e
          try rw [if_pos hkl] at h1
          injection h1 with h1
          subst h1
          rw [hp] at h2
          injection h2 with h2
          subst h2
          exact ⟨(M_lt_box h hp).1, us, hrow, hy.sim hS⟩
        · next e =>
          obtain ⟨h3, rs, h4, h5⟩ := h.box j zs q h1 h2
          exact ⟨h3, rs, h4.same (hblk q.1 (fun e' => e (map_fst_inj hnd.1 hp h2 e'.symm))), h5.sim hS⟩
      nodup := h.nodup
      below := h.below.trans ⟨ho.1, ho.2.1, ho.2.2, Nat.le_of_eq hw.symm, fun b hb => hblk b (fun e => by have := (M_lt_box h hp).1; omega)⟩
      base := by rw [hw]; exact h.base }
/-- A new slice of the call's own, its value and its nested blocks given. -/
theorem Rel.newOwnG (h : Rel B Xs G w0 ⟨fr, os, bs⟩ E a w) (hb : Below w.heap.size w w') {o : Own} {v : Value} {x : AV} {u : Value} {f : List Nat} {cs : List Value} (h1 : OwnsAt w' w.heap.size o.e o.s v o.l.length cs) (h2 : Rs w' o.l f cs) (h3 : El o.s o.l)
    (h4 : ∀ b ∈ f, b ∉ E.M ∧ some b ≠ v.ownBlock ∧ (o.nw = true → E.nw b)) (h0 : o.ver = 0) (d : Option Nat)
    (hx : ∀ (E' : Env) (os' : List Own), (AC.own os.length 0).ok E' os' w' v → x.ok E' os' w' u) :
    Rel B Xs G w0 (St.put ⟨fr, os ++ [o], bs⟩ d x) { E with om := E.om ++ [(v, f)] } (a.put d u) w' := by
  have hge : ∀ b, v.ownBlock = some b → w.heap.size ≤ b := fun b hb => (OwnsAt.lt h1 b hb).1
  have hS : Sim E os w { E with om := E.om ++ [(v, f)] } (os ++ [o]) w' :=
    { base := rfl, size := hb.size, blk := fun b hlt _ => hb.block b hlt,
      old := fun b hlt hm => by
        rcases (M_newOwn E _).1 hm with h' | h'
        · exact h'
        · have := hge b h'; omega
      own := fun k o p h1 h2 => ⟨o, p, snoc_get h1, snoc_get h2, Nat.le_refl _, fun _ => ⟨rfl, rfl⟩⟩
      box := fun k p hp => hp }
  have hol : E.om.length = os.length := h.olen
  exact
    { eb := h.eb
      ex := h.ex
      sim := by rw [stput_owns]; exact h.sim.trans hS
      defers := by rw [put_defers]; exact h.defers
      size := by rw [put_size, stput_len]; exact h.size
      fr := by
        rw [stput_owns]
        exact fr_put (st := ⟨fr, os ++ [o], bs⟩) h.size (fun t y hy => (h.fr t y hy).sim hS) (hx _ _ ⟨(ownsAt_form h1).imp fun A h => ⟨_, h⟩, o, (v, f), by simp, by simp [← hol], by omega, fun _ => rfl⟩)
      olen := by rw [stput_owns]; simp [hol]
      own := by
        rw [stput_owns]
        intro k o' p' g1 g2
        rcases get_snoc g1 with g1 | ⟨hk, rfl⟩
        · rcases get_snoc g2 with g2 | ⟨hk, rfl⟩
          · obtain ⟨cs', h5, h6, h7, h8⟩ := h.own k o' p' g1 g2
            refine ⟨cs', ownsAt_below h5 hb, h6.below hb, h7, fun b hbm => ⟨fun hm => ?_, (h8 b hbm).2⟩⟩
            rcases (M_newOwn E _).1 hm with h' | h'
            · exact (h8 b hbm).1 h'
            · have := Rs.lt h6 b hbm
              have := hge b h'
              omega
          · rw [hk, hol, List.getElem?_eq_none (Nat.le_refl _)] at g1; cases g1
        · rw [hk, ← hol] at g2
          simp at g2
          subst g2
          refine ⟨cs, ownsAt_mono h1 h.base, h2, h3, fun b hbm => ⟨fun hm => ?_, (h4 b hbm).2.2⟩⟩
          rcases (M_newOwn E _).1 hm with h' | h'
          · exact (h4 b hbm).1 h'
          · exact (h4 b hbm).2.1 h'.symm
      blen := by rw [stput_boxes]; exact h.blen
      box := by
        rw [stput_boxes, stput_owns]
        intro k ys p g1 g2
        obtain ⟨h5, us, h6, h7⟩ := h.box k ys p g1 g2
        exact ⟨h5, us, h6.below hb, h7.sim hS⟩
      nodup := by
        have hM := h.nodup
        unfold Env.M at hM ⊢
        simp only [List.flatMap_append, List.flatMap_cons, List.flatMap_nil, List.append_nil]
        rw [← List.append_assoc, List.nodup_append]
        refine ⟨hM, by cases v.ownBlock <;> simp, fun x hx y hy e => ?_⟩
        subst e
        have := (M_lt h hx).2
        have := hge x (by simpa using hy)
        omega
      below := h.below.trans (hb.mono h.base)
      base := Nat.le_trans h.base hb.size }
theorem Rel.newOwn (h : Rel B Xs G w0 ⟨fr, os, bs⟩ E a w) (hb : Below w.heap.size w w') {o : Own} {v : Value} {f : List Nat} {cs : List Value} (h1 : OwnsAt w' w.heap.size o.e o.s v o.l.length cs) (h2 : Rs w' o.l f cs) (h3 : El o.s o.l)
    (h4 : ∀ b ∈ f, b ∉ E.M ∧ some b ≠ v.ownBlock ∧ (o.nw = true → E.nw b)) (h0 : o.ver = 0) (d : Option Nat) :
    Rel B Xs G w0 (St.put ⟨fr, os ++ [o], bs⟩ d (.c false [.own os.length 0])) { E with om := E.om ++ [(v, f)] } (a.put d v) w' :=
  h.newOwnG hb h1 h2 h3 h4 h0 d (fun E' os' hx => ⟨hx, trivial⟩)
/-- Several new slices of the call's own. -/
theorem Rel.addOwns (h : Rel B Xs G w0 ⟨fr, os, bs⟩ E a w) (hb : Below w.heap.size w w') {os' : List Own} {om : List (Value × List Nat)} {x : AV} {u : Value} (ho : OwnsOk w.heap.size w' om os') (d : Option Nat)
    (hx : ∀ E' : Env, (∀ b, b ∈ E'.M ↔ b ∈ E.M ∨ b ∈ om.flatMap fun q => q.1.ownBlock.toList) → E'.nw = E.nw → E'.om = E.om ++ om → x.ok E' (os ++ os') w' u) :
    Rel B Xs G w0 (St.put ⟨fr, os ++ os', bs⟩ d x) { E with om := E.om ++ om } (a.put d u) w' := by
  obtain ⟨o1, o2, o3⟩ := ho
  have hge : ∀ b ∈ om.flatMap fun q => q.1.ownBlock.toList, w.heap.size ≤ b := fun b hb => by
    obtain ⟨q, hq, hqb⟩ := List.mem_flatMap.1 hb
    obtain ⟨k, hk⟩ := List.mem_iff_getElem?.1 hq
    have hk' : k < os'.length := by rw [← o1]; exact (List.getElem?_eq_some_iff.1 hk).1
    obtain ⟨cs, h1, _⟩ := o2 k _ q (List.getElem?_eq_getElem hk') hk
    exact (OwnsAt.lt h1 b (by simpa using hqb)).1
  have hol : E.om.length = os.length := h.olen
  have hS : Sim E os w { E with om := E.om ++ om } (os ++ os') w' :=
    { base := rfl, size := hb.size, blk := fun b hlt _ => hb.block b hlt,
      old := fun b hlt hm => by
        rcases (M_addOwns E om).1 hm with h' | h'
        · exact h'
        · have := hge b h'; omega
      own := fun k o p h1 h2 => ⟨o, p, by rw [List.getElem?_append_left (List.getElem?_eq_some_iff.1 h1).1]; exact h1, by rw [List.getElem?_append_left (List.getElem?_eq_some_iff.1 h2).1]; exact h2, Nat.le_refl _, fun _ => ⟨rfl, rfl⟩⟩
      box := fun k p hp => hp }
  exact
    { eb := h.eb
      ex := h.ex
      sim := by rw [stput_owns]; exact h.sim.trans hS
      defers := by rw [put_defers]; exact h.defers
      size := by rw [put_size, stput_len]; exact h.size
      fr := by
        rw [stput_owns]
        exact fr_put (st := ⟨fr, os ++ os', bs⟩) h.size (fun t y hy => (h.fr t y hy).sim hS) (hx _ (fun b => M_addOwns E om) rfl rfl)
      olen := by rw [stput_owns]; simp [hol, o1]
      own := by
        rw [stput_owns]
        intro k o' p' g1 g2
        simp only at g1 g2
        rcases get_app g1 with g1 | ⟨hk, g1⟩
        · have hk : k < E.om.length := by rw [hol]; exact (List.getElem?_eq_some_iff.1 g1).1
          rw [List.getElem?_append_left hk] at g2
          obtain ⟨cs', h5, h6, h7, h8⟩ := h.own k o' p' g1 g2
          refine ⟨cs', ownsAt_below h5 hb, h6.below hb, h7, fun b hbm => ⟨fun hm => ?_, (h8 b hbm).2⟩⟩
          rcases (M_addOwns E om).1 hm with h' | h'
          · exact (h8 b hbm).1 h'
          · have := Rs.lt h6 b hbm
            have := hge b h'
            omega
        · rw [List.getElem?_append_right (by omega), hol] at g2
          obtain ⟨cs, h1, h2, h3, h4⟩ := o2 _ o' p' g1 g2
          refine ⟨cs, ownsAt_mono h1 h.base, h2, h3, fun b hbm => ⟨fun hm => ?_, fun _ => h.nw_of (Nat.le_trans h.base (h4 b hbm).1)⟩⟩
          rcases (M_addOwns E om).1 hm with h' | h'
          · have := (M_lt h h').2
            have := (h4 b hbm).1
            omega
          · exact (h4 b hbm).2 h'
      blen := by rw [stput_boxes]; exact h.blen
      box := by
        rw [stput_boxes, stput_owns]
        intro k ys p g1 g2
        obtain ⟨h5, us, h6, h7⟩ := h.box k ys p g1 g2
        exact ⟨h5, us, h6.below hb, h7.sim hS⟩
      nodup := by
        have hM := h.nodup
        unfold Env.M at hM ⊢
        simp only [List.flatMap_append]
        rw [← List.append_assoc, List.nodup_append]
        refine ⟨hM, o3, fun x hx y hy e => ?_⟩
        subst e
        have := (M_lt h hx).2
        have := hge x hy
        omega
      below := h.below.trans (hb.mono h.base)
      base := Nat.le_trans h.base hb.size }
/-- An element of own slice number k is replaced: its value stands. -/
theorem Rel.setOwn (h : Rel B Xs G w0 ⟨fr, os, bs⟩ E a w) {k : Nat} {o : Own} {p : Value × List Nat} (ho : os[k]? = some o) (hp : E.om[k]? = some p) {l : List D} {nw : Bool} {f : List Nat} {cs : List Value} {b : Nat}
    (hb : p.1.ownBlock = some b) (hw : w'.heap.size = w.heap.size) (hos : w'.os = w.os ∧ w'.tape = w.tape ∧ w'.output = w.output) (hblk : ∀ g, g ≠ b → w'.heap[g]? = w.heap[g]?)
    (h1 : OwnsAt w' B o.e o.s p.1 l.length cs) (h2 : Rs w' l f cs) (h3 : El o.s l) (h4 : ∀ b ∈ f, b ∉ E.M ∧ (nw = true → E.nw b)) (d : Option Nat) :
    Rel B Xs G w0 (St.put ⟨fr, os.set k ⟨l, o.e, o.s, o.ver, nw⟩, bs⟩ d .any) { E with om := E.om.set k (p.1, f) } (a.put d undef) w' := by
  have hkl : k < os.length := (List.getElem?_eq_some_iff.1 ho).1
  have hke : k < E.om.length := (List.getElem?_eq_some_iff.1 hp).1
  have hol : E.om.length = os.length := h.olen
  have hbM : b ∈ E.M := mem_M.2 (Or.inr ⟨k, p, hp, hb⟩)
  have hob : (E.om.set k (p.1, f)).map (fun q => q.1.ownBlock.toList) = E.om.map (fun q => q.1.ownBlock.toList) := by
    rw [List.map_set]
    refine List.ext_getElem? fun j => ?_
    rw [List.getElem?_set]
    split
    · next e =>
      subst e
      rw [List.getElem?_map, hp]
      simp [hke]
    · rfl
  have hM : ({ E with om := E.om.set k (p.1, f) } : Env).M = E.M := by
    simp only [Env.M, List.flatMap_def, hob]
  have hS : Sim E os w { E with om := E.om.set k (p.1, f) } (os.set k ⟨l, o.e, o.s, o.ver, nw⟩) w' :=
    { base := rfl, size := Nat.le_of_eq hw.symm, blk := fun g hlt hm => hblk g (fun e => hm (e ▸ hbM)), old := fun g _ hm => by rw [hM] at hm; exact hm,
      own := fun j o' p' g1 g2 => by
        by_cases e : k = j
        · subst e
          rw [ho] at g1
          injection g1 with g1
          subst g1
          rw [hp] at g2
          injection g2 with g2
          subst g2
          exact ⟨⟨l, o.e, o.s, o.ver, nw⟩, (p.1, f), by rw [List.getElem?_set_self hkl], by rw [List.getElem?_set_self hke], Nat.le_refl _, fun _ => ⟨rfl, rfl⟩⟩
        · exact ⟨o', p', by rw [List.getElem?_set_ne e]; exact g1, by rw [List.getElem?_set_ne e]; exact g2, Nat.le_refl _, fun _ => ⟨rfl, rfl⟩⟩
      box := fun j p hp => hp }
  have hnd := h.nodup
  unfold Env.M at hnd
  rw [List.nodup_append] at hnd
  have hne : ∀ j q, E.om[j]? = some q → j ≠ k → q.1.ownBlock ≠ some b := by
    intro j q g1 hjk g2
    have : ∀ (L : List (Value × List Nat)) (i j : Nat) (p q : Value × List Nat), (L.flatMap (fun p => p.1.ownBlock.toList)).Nodup → L[i]? = some p → L[j]? = some q → p.1.ownBlock = some b → q.1.ownBlock = some b → i = j := by
      intro L
      induction L with
      | nil => intro i j p q _ hi; simp at hi
      | cons z L ih =>
        intro i j p q hn hi hj hpb hqb
        rw [List.flatMap_cons, List.nodup_append] at hn
        cases i with
        | zero =>
          cases j with
          | zero => rfl
          | succ j =>
            simp at hi hj
            subst hi
            exact absurd rfl (hn.2.2 b (by simp [hpb]) b (List.mem_flatMap.2 ⟨q, List.mem_of_getElem? hj, by simp [hqb]⟩))
        | succ i =>
          cases j with
          | zero =>
            simp at hi hj
            subst hj
            exact absurd rfl (hn.2.2 b (by simp [hqb]) b (List.mem_flatMap.2 ⟨p, List.mem_of_getElem? hi, by simp [hpb]⟩))
          | succ j =>
            simp at hi hj
            rw [ih i j p q hn.2.1 hi hj hpb hqb]
    exact hjk (this E.om j k q p hnd.2.1 g1 hp g2 hb)
  exact
    { eb := h.eb
      ex := h.ex
      sim := by rw [stput_owns]; exact h.sim.trans hS
      defers := by rw [put_defers]; exact h.defers
      size := by rw [put_size, stput_len]; exact h.size
      fr := by
        rw [stput_owns]
        exact fr_put (st := ⟨fr, os.set k ⟨l, o.e, o.s, o.ver, nw⟩, bs⟩) h.size (fun t y hy => (h.fr t y hy).sim hS) trivial
      olen := by rw [stput_owns]; simp [hol]
      own := by
        rw [stput_owns]
        intro j o' p' g1 g2
        simp only at g1 g2
        by_cases e : k = j
        · subst e
          rw [List.getElem?_set_self hkl] at g1
          rw [List.getElem?_set_self hke] at g2
          injection g1 with g1
          injection g2 with g2
          subst g1 g2
          exact ⟨cs, h1, h2, h3, fun g hg => ⟨by rw [hM]; exact (h4 g hg).1, (h4 g hg).2⟩⟩
        · rw [List.getElem?_set_ne e] at g1 g2
          obtain ⟨cs', h5, h6, h7, h8⟩ := h.own j o' p' g1 g2
          refine ⟨cs', ?_, h6.same (fun g hg => hblk g (fun e' => (h8 g hg).1 (e' ▸ hbM))) (Nat.le_of_eq hw.symm), h7, fun g hg => ⟨by rw [hM]; exact (h8 g hg).1, (h8 g hg).2⟩⟩
          obtain ⟨h9, h10⟩ := h5
          refine ⟨h9, ?_⟩
          rcases h10 with h10 | ⟨g, zz, cap, cur, hv, hgb, hh, r⟩
          · exact Or.inl h10
          · exact Or.inr ⟨g, zz, cap, cur, hv, hgb, by rw [hblk g (fun e' => hne j p' g2 (fun e'' => e e''.symm) (by rw [hv, e']; rfl))]; exact hh, r⟩
      blen := by rw [stput_boxes]; exact h.blen
      box := by
        rw [stput_boxes, stput_owns]
        intro j ys q g1 g2
        obtain ⟨h5, us, h6, h7⟩ := h.box j ys q g1 g2
        refine ⟨h5, us, h6.same (hblk q.1 (fun e => ?_)), h7.sim hS⟩
        exact hnd.2.2 q.1 (List.mem_map.2 ⟨q, List.mem_of_getElem? g2, rfl⟩) b (List.mem_flatMap.2 ⟨p, List.mem_of_getElem? hp, by simp [hb]⟩) e
      nodup := by rw [hM]; exact h.nodup
      below := h.below.trans ⟨hos.1, hos.2.1, hos.2.2, Nat.le_of_eq hw.symm, fun g hg => hblk g (fun e => by have := (M_lt_own h hp hb).1; omega)⟩
      base := by rw [hw]; exact h.base }
/-- Own slice number k has grown. -/
theorem Rel.grow (h : Rel B Xs G w0 ⟨fr, os, bs⟩ E a w) {k : Nat} {o : Own} {p : Value × List Nat} (ho : os[k]? = some o) (hp : E.om[k]? = some p) {l : List D} {nw : Bool} {v : Value} {f : List Nat} {cs : List Value}
    (hg : w.grownBy w' p.1.ownBlock) (hat : v.ownBlock = p.1.ownBlock ∨ v.ownBlock = some w.heap.size)
    (h1 : OwnsAt w' B o.e o.s v l.length cs) (h2 : Rs w' l f cs) (h3 : El o.s l) (h4 : ∀ b ∈ f, b < w.heap.size ∧ b ∉ E.M ∧ (nw = true → E.nw b)) (d : Option Nat) :
    Rel B Xs G w0 (St.put ⟨fr, os.set k ⟨l, o.e, o.s, o.ver + 1, nw⟩, bs⟩ d (.c false [.own k (o.ver + 1)])) { E with om := E.om.set k (v, f) } (a.put d v) w' := by
  have hkl : k < os.length := (List.getElem?_eq_some_iff.1 ho).1
  have hke : k < E.om.length := (List.getElem?_eq_some_iff.1 hp).1
  have hol : E.om.length = os.length := h.olen
  have hpM : ∀ b, p.1.ownBlock = some b → b ∈ E.M := fun b hb => mem_M.2 (Or.inr ⟨k, p, hp, hb⟩)
  have hM : ∀ b, b ∈ ({ E with om := E.om.set k (v, f) } : Env).M → b ∈ E.M ∨ b = w.heap.size := by
    intro b hb
    rcases mem_M.1 hb with ⟨j, q, g1, g2⟩ | ⟨j, q, g1, g2⟩
    · exact Or.inl (mem_M.2 (Or.inl ⟨j, q, g1, g2⟩))
    · simp only at g1
      rw [List.getElem?_set] at g1
      split at g1
      · try rw [if_pos hke] at g1
        injection g1 with g1
        subst g1
        rcases hat with e | e
        · exact Or.inl (hpM b (by rw [← e]; exact g2))
        · simp only at g2
          rw [e] at g2
          injection g2 with g2
          exact Or.inr g2.symm
      · exact Or.inl (mem_M.2 (Or.inr ⟨j, q, g1, g2⟩))
  have hblk : ∀ b, b < w.heap.size → b ∉ E.M → w'.heap[b]? = w.heap[b]? := fun b hlt hm => hg.block b hlt (fun e => hm (hpM b e.symm))
  have hS : Sim E os w { E with om := E.om.set k (v, f) } (os.set k ⟨l, o.e, o.s, o.ver + 1, nw⟩) w' :=
    { base := rfl, size := hg.size, blk := hblk,
      old := fun b hlt hm => by
        rcases hM b hm with h' | h'
        · exact h'
        · omega
      own := fun j o' p' g1 g2 => by
        by_cases e : k = j
        · subst e
          rw [ho] at g1
          injection g1 with g1
          subst g1
          exact ⟨⟨l, o.e, o.s, o.ver + 1, nw⟩, (v, f), by rw [List.getElem?_set_self hkl], by rw [List.getElem?_set_self hke], Nat.le_succ _, fun e => by simp only at e; omega⟩
        · exact ⟨o', p', by rw [List.getElem?_set_ne e]; exact g1, by rw [List.getElem?_set_ne e]; exact g2, Nat.le_refl _, fun _ => ⟨rfl, rfl⟩⟩
      box := fun j p hp => hp }
  have hnd := h.nodup
  have hnd' := hnd
  unfold Env.M at hnd'
  rw [List.nodup_append] at hnd'
  have hne : ∀ j q, E.om[j]? = some q → j ≠ k → ∀ b, q.1.ownBlock = some b → some b ≠ p.1.ownBlock := by
    intro j q g1 hjk b g2 e
    -- two own slices with one block
    have hfl := hnd'.2.1
    have : ∀ (L : List (Value × List Nat)) (i j : Nat) (p q : Value × List Nat) (b : Nat), (L.flatMap (fun p => p.1.ownBlock.toList)).Nodup → L[i]? = some p → L[j]? = some q → p.1.ownBlock = some b → q.1.ownBlock = some b → i = j := by
      intro L
      induction L with
      | nil => intro i j p q b _ hi; simp at hi
      | cons z L ih =>
        intro i j p q b hn hi hj hpb hqb
        rw [List.flatMap_cons, List.nodup_append] at hn
        cases i with
        | zero =>
          cases j with
          | zero => rfl
          | succ j =>
            simp at hi hj
            subst hi
            exact absurd rfl (hn.2.2 b (by simp [hpb]) b (List.mem_flatMap.2 ⟨q, List.mem_of_getElem? hj, by simp [hqb]⟩))
        | succ i =>
          cases j with
          | zero =>
            simp at hi hj
            subst hj
            exact absurd rfl (hn.2.2 b (by simp [hqb]) b (List.mem_flatMap.2 ⟨p, List.mem_of_getElem? hi, by simp [hpb]⟩))
          | succ j =>
            simp at hi hj
            rw [ih i j p q b hn.2.1 hi hj hpb hqb]
    exact hjk (this E.om j k q p b hfl g1 hp g2 e.symm)
  exact
    { eb := h.eb
      ex := h.ex
      sim := by rw [stput_owns]; exact h.sim.trans hS
      defers := by rw [put_defers]; exact h.defers
      size := by rw [put_size, stput_len]; exact h.size
      fr := by
        rw [stput_owns]
        refine fr_put (st := ⟨fr, os.set k ⟨l, o.e, o.s, o.ver + 1, nw⟩, bs⟩) h.size (fun t y hy => (h.fr t y hy).sim hS) ⟨⟨(ownsAt_form h1).imp fun A h => ⟨_, h⟩, ⟨l, o.e, o.s, o.ver + 1, nw⟩, (v, f), ?_, ?_, Nat.le_refl _, fun _ => rfl⟩, trivial⟩
        · simp only; rw [List.getElem?_set_self hkl]
        · simp only; rw [List.getElem?_set_self hke]
      olen := by rw [stput_owns]; simp [hol]
      own := by
        rw [stput_owns]
        intro j o' p' g1 g2
        simp only at g1 g2
        by_cases e : k = j
        · subst e
          rw [List.getElem?_set_self hkl] at g1
          rw [List.getElem?_set_self hke] at g2
          injection g1 with g1
          injection g2 with g2
          subst g1 g2
          refine ⟨cs, h1, h2, h3, fun b hb => ⟨fun hm => ?_, (h4 b hb).2.2⟩⟩
          rcases hM b hm with h' | h'
          · exact (h4 b hb).2.1 h'
          · have := (h4 b hb).1; omega
        · rw [List.getElem?_set_ne e] at g1 g2
          obtain ⟨cs', h5, h6, h7, h8⟩ := h.own j o' p' g1 g2
          refine ⟨cs', ?_, h6.same (fun b hb => hblk b (Rs.lt h6 b hb) (h8 b hb).1) hg.size, h7, fun b hb => ⟨fun hm => ?_, (h8 b hb).2⟩⟩
          · obtain ⟨h9, h10⟩ := h5
            refine ⟨h9, ?_⟩
            rcases h10 with h10 | ⟨g, zz, cap, cur, hv, hgb, hh, r⟩
            · exact Or.inl h10
            · have hgl : g < w.heap.size := by
                rcases Nat.lt_or_ge g w.heap.size with hlt | hge
                · exact hlt
                · rw [Array.getElem?_eq_none hge] at hh; cases hh
              exact Or.inr ⟨g, zz, cap, cur, hv, hgb, by rw [hg.block g hgl (hne j p' g2 (fun e' => e e'.symm) g (by rw [hv]; rfl))]; exact hh, r⟩
          · rcases hM b hm with h' | h'
            · exact (h8 b hb).1 h'
            · have := Rs.lt h6 b hb; omega
      blen := by rw [stput_boxes]; exact h.blen
      box := by
        rw [stput_boxes, stput_owns]
        intro j ys q g1 g2
        obtain ⟨h5, us, h6, h7⟩ := h.box j ys q g1 g2
        refine ⟨h5, us, h6.same (hg.block q.1 h6.lt (fun e => ?_)), h7.sim hS⟩
        exact hnd'.2.2 q.1 (List.mem_map.2 ⟨q, List.mem_of_getElem? g2, rfl⟩) q.1 (List.mem_flatMap.2 ⟨p, List.mem_of_getElem? hp, by simp [← e]⟩) rfl
      nodup := by
        unfold Env.M
        rw [List.nodup_append]
        have hset : ∀ (L : List (Value × List Nat)) (i : Nat) (z : Value × List Nat) (p : Value × List Nat), L[i]? = some p → (L.flatMap (fun p => p.1.ownBlock.toList)).Nodup → (∀ b, z.1.ownBlock = some b → b ∈ p.1.ownBlock.toList ∨ b ∉ L.flatMap (fun p => p.1.ownBlock.toList)) →
            ((L.set i z).flatMap (fun p => p.1.ownBlock.toList)).Nodup ∧ ∀ x ∈ (L.set i z).flatMap (fun p => p.1.ownBlock.toList), x ∈ z.1.ownBlock.toList ∨ x ∈ L.flatMap (fun p => p.1.ownBlock.toList) := by
          intro L
          induction L with
          | nil => intro i z p hi; simp at hi
          | cons y L ih =>
            intro i z p hi hn hz
            rw [List.flatMap_cons, List.nodup_append] at hn
            cases i with
            | zero =>
              simp at hi
              subst hi
              rw [List.set_cons_zero, List.flatMap_cons]
              refine ⟨List.nodup_append.2 ⟨by cases z.1.ownBlock <;> simp, hn.2.1, fun x hx x' hx' e => ?_⟩, fun x hx => ?_⟩
              · subst e
                rcases hz x (by simpa using hx) with h' | h'
                · exact hn.2.2 x h' x hx' rfl
                · exact h' (by rw [List.flatMap_cons]; exact List.mem_append_right _ hx')
              · rcases List.mem_append.1 hx with h' | h'
                · exact Or.inl h'
                · exact Or.inr (by rw [List.flatMap_cons]; exact List.mem_append_right _ h')
            | succ i =>
              simp at hi
              obtain ⟨i1, i2⟩ := ih i z p hi hn.2.1 (fun b hb => by
                rcases hz b hb with h' | h'
                · exact Or.inl h'
                · exact Or.inr (fun hm => h' (by rw [List.flatMap_cons]; exact List.mem_append_right _ hm)))
              rw [List.set_cons_succ, List.flatMap_cons]
              refine ⟨List.nodup_append.2 ⟨hn.1, i1, fun x hx x' hx' e => ?_⟩, fun x hx => ?_⟩
              · subst e
                rcases i2 x hx' with h' | h'
                · rcases hz x (by simpa using h') with h'' | h''
                  · exact hn.2.2 x hx x (List.mem_flatMap.2 ⟨p, List.mem_of_getElem? hi, h''⟩) rfl
                  · exact h'' (by rw [List.flatMap_cons]; exact List.mem_append_left _ hx)
                · exact hn.2.2 x hx x h' rfl
              · rcases List.mem_append.1 hx with h' | h'
                · exact Or.inr (by rw [List.flatMap_cons]; exact List.mem_append_left _ h')
                · rcases i2 x h' with h'' | h''
                  · exact Or.inl h''
                  · exact Or.inr (by rw [List.flatMap_cons]; exact List.mem_append_right _ h'')
        obtain ⟨s1, s2⟩ := hset E.om k (v, f) p hp hnd'.2.1 (fun b hb => by
          rcases hat with e | e
          · exact Or.inl (by simp only at hb; rw [e] at hb; simp [hb])
          · refine Or.inr (fun hm => ?_)
            simp only at hb
            rw [e] at hb
            injection hb with hb
            subst hb
            exact Nat.lt_irrefl _ (M_lt h (List.mem_append_right _ hm)).2)
        refine ⟨hnd'.1, s1, fun x hx y hy e => ?_⟩
        subst e
        rcases s2 x hy with h' | h'
        · rcases hat with e | e
          · exact hnd'.2.2 x hx x (List.mem_flatMap.2 ⟨p, List.mem_of_getElem? hp, by simp only at h'; rw [e] at h'; exact h'⟩) rfl
          · simp only at h'
            rw [e] at h'
            simp at h'
            subst h'
            exact Nat.lt_irrefl _ (M_lt h (List.mem_append_left _ hx)).2
        · exact hnd'.2.2 x hx x h' rfl
      below := h.below.grown hg h.base (fun b hb => (M_lt_own h hp hb).1)
      base := Nat.le_trans h.base hg.size }
end
end Go.Proofs.YtdjcflnemnknaaaDoor

namespace Go.Proofs.YtdjcflnemnknaaaDoor
open Go.RowKit
set_option linter.unusedSimpArgs false
set_option linter.unusedVariables false

def isAggD : TypeDesc → Bool
  | .struct _ => true
  | .array .. => true
  | _ => false
def ekOk (P : Program) (e s : Nat) : Bool := match P.info? e with
  | some i => (match i.zero with | some z => z.cells.size == s && i.size == s && decide (i.bytes ≤ byN s) && decide (0 < s) | none => false)
  | none => false
def fieldOf (P : Program) (s f : Nat) : Option (Nat × Nat × Bool) := match P.underlying s with
  | some (.struct fs) => (match fs[f]? with
    | some fd => (match P.info? fd.type, P.underlying fd.type with | some i, some d => some (fd.offset, i.size, isAggD d) | _, _ => none)
    | none => none)
  | _ => none
def elemOf' (P : Program) (t : Nat) : Option (Nat × Nat) := match P.underlying t with
  | some (.slice e) => (match P.info? e with | some i => some (e, i.size) | none => none)
  | _ => none
def simpleZ : Value → Bool
  | .bool _ => true
  | .int _ _ => true
  | .string _ => true
  | _ => false
def sameT : Opd → Opd → Bool
  | .t a, .t b => a == b
  | _, _ => false
/-- A type of bytes. -/
def byteE (P : Program) (e : Nat) : Bool := match P.info? e with
  | some i => (match i.zero with | some (.int .u8 0) => i.size == 1 && i.bytes == 1 | _ => false)
  | none => false
theorem byteE_spec {P : Program} {e : Nat} (h : byteE P e = true) : ∃ i, P.info? e = some i ∧ i.zero = some (.int .u8 0) ∧ i.size = 1 ∧ i.bytes = 1 := by
  unfold byteE at h
  split at h
  · next i hi =>
    split at h
    · next hz =>
      simp only [Bool.and_eq_true, beq_iff_eq] at h
      exact ⟨i, hi, hz, h.1, h.2⟩
    · cases h
  · cases h
/-- One operation as a step. -/
def comp1 (P : Program) (own : Bool) (op : Op) : Option I := match op with
  | .move x => some (.mov (opd x))
  | .assign x => some (.mov (opd x))
  | .pick c x y => some (.pick (opd c) (opd x) (opd y))
  | .binOp op t x y _ => (match op, P.underlying t with
    | .eql, some .bool => some (.beq false (opd x) (opd y))
    | .neq, some .bool => some (.beq true (opd x) (opd y))
    | .eql, some (.func _ _ _) => (match y with | .const .nilFunc => some (.fnil false (opd x)) | _ => none)
    | .neq, some (.func _ _ _) => (match y with | .const .nilFunc => some (.fnil true (opd x)) | _ => none)
    | .eql, some (.slice _) => (match y with | .const (.slice none 0 0) => some (.snil false (opd x)) | _ => none)
    | .neq, some (.slice _) => (match y with | .const (.slice none 0 0) => some (.snil true (opd x)) | _ => none)
    | op, _ => some (.bin op (opd x) (opd y)))
  | .unOp .not _ x => some (.not (opd x))
  | .load t x => (match P.info? t, P.underlying t with
    | some i, some d => if isAggD d then some (.load i.size true (opd x)) else some (.load 1 false (opd x))
    | _, _ => none)
  | .store t x y => (match P.info? t with | some i => some (.store i.size (opd x) (opd y)) | none => none)
  | .fieldAddr s x f => (match fieldOf P s f with | some (off, n, _) => if n = 0 then none else some (.fad off (opd x)) | none => none)
  | .indexAddr t x i => (match elemOf' P t with | some (_, s) => some (.iad s (opd x) (opd i)) | none => none)
  | .nilCheck x => some (.nck (opd x))
  | .alloc t => (match P.info? t with | some i => (match i.zero with | some z => some (.alloc z.cells.toList) | none => none) | none => none)
  | .box t x => some (.box (opd x))
  | .makeFunc (.func f) first caps => if first.toList.isEmpty then some (.mkf f (caps.toList.map opd)) else none
  | .buildSlice t n ps => (match elemOf' P t with
    | some (e, s) => if ekOk P e s && decide (n * s ≤ 2 ^ 24) && decide (ps.toList.map (·.1) = List.range n) then some (.brow own e s n false (ps.toList.map fun p => opd p.2)) else none
    | none => none)
  | .makeSlice t l c => (match elemOf' P t with
    | some (e, s) => (match (P.info? e).bind (·.zero) with
      | some z => if s == 1 && ekOk P e 1 && simpleZ z && sameT (opd l) (opd c) then some (.mk e z (opd l)) else none
      | none => none)
    | none => none)
  | .build t ps => (match P.info? t, P.underlying t with
    | some it, some (.struct fields) => (match it.zero, fields.toList.mapM (fun f => (P.info? f.type).map fun i => (f.offset, i.size)) with
      | some z, some places => (match ps.toList.mapM (fun p => (places.toArray[p.1]?).map fun q => (q.1, q.2, opd p.2)) with
        | some l => some (.bld z.cells.toList l)
        | none => none)
      | _, _ => none)
    | _, _ => none)
  | .field t x f => (match fieldOf P t f with | some (off, n, g) => if g then some (.fld off n true (opd x)) else some (.fld off 1 false (opd x)) | none => none)
  | .index t x i => (match P.underlying t with | some .string => some (.sidx (opd x) (opd i)) | _ => none)
  | .slice t x lo hi none => (match P.underlying t with
    | some .string => some (.ssl (opd x) (lo.map opd) (hi.map opd))
    | some (.slice e) => (match P.info? e with | some i => some (.lsl i.size (opd x) (lo.map opd) (hi.map opd)) | none => none)
    | _ => none)
  | .extract x j => some (.ext j (opd x))
  | .convert src dst x => (match P.underlying src, P.underlying dst with
    | some (.int _), some (.int k) => some (.cvi k (opd x))
    | some (.slice e), some .string => (match P.underlying e with | some (.int .u8) => some (.cvs (opd x)) | _ => none)
    | _, _ => none)
  | .call c => (match c.callee with
    | .value (.func f) => (match P.funcs[f]? with
      | some fn => if fn.name == "runtime.NumGoroutine" || fn.body.isNone then none else some (.call f (c.args.toList.map opd))
      | none => none)
    | .builtin .append => (match c.args.toList, c.argTypes.toList with
      | [x, y], [t, t'] => if t = t' then (match elemOf' P t with | some (e, s) => if ekOk P e s then some (.app e s (opd x) (opd y)) else none | none => none) else
          (match P.underlying t, P.underlying t' with
          | some (.slice e), some .string => if byteE P e then some (.apps e (opd x) (opd y)) else none
          | _, _ => none)
      | _, _ => none)
    | .builtin .len => (match c.args.toList, c.argTypes.toList with
      | [x], [t] => (match P.underlying t with | some .string => some (.len true (opd x)) | some (.slice _) => some (.len false (opd x)) | _ => none)
      | _, _ => none)
    | .value (.tmp t) => some (.callv (.t t) (c.args.toList.map opd))
    | _ => none)
  | _ => none

theorem oks_raw {E : Env} {os : List Own} {w : World} : ∀ (l : List Value), Oks E os w (l.map .raw) l
  | [] => trivial
  | v :: l => ⟨rfl, oks_raw l⟩
theorem kav_ok {E : Env} {os : List Own} {w : World} (v : Value) : (kav v).ok E os w v := by
  unfold kav
  split
  · next cs => exact ⟨cs.toList, by simp, oks_raw _⟩
  · exact ⟨rfl, trivial⟩
theorem ev_ok {B : Nat} {Xs : List Nat} {G : Org} {w0 : World} {st : St} {E : Env} {a : Act} {w : World} (h : Rel B Xs G w0 st E a w) (x : Operand) : (st.ev (opd x)).ok E st.owns w (a.eval x) := by
  cases x with
  | tmp t =>
    simp only [opd, St.ev, Act.eval]
    rw [List.getD_eq_getElem?_getD]
    cases hx : st.fr[t]? with
    | none => trivial
    | some y => exact h.fr t y hx
  | const v => exact kav_ok v
  | global g => exact kav_ok (.pointer (some ⟨g, 0, none⟩))
  | func f => exact kav_ok (.func (.func f) #[] #[])

section
variable {P : Program} {B : Nat} {Xs : List Nat} {G : Org} {w0 : World} {st : St} {E : Env} {a : Act} {w : World} {o : Oper} {K : Act → World → Prop} {Q : Exit → Act → World → Prop}
theorem wp_run {v : Value} {w' : World} (h : (execOp a.eval o).run P w = .ok (.value v) w') (hK : K (a.put o.dst v) w') : o.wp P a w K Q := by
  unfold Oper.wp
  rw [h]
  exact hK
theorem raw_of {E : Env} {os : List Own} {w : World} {u v : Value} (h : AV.ok E os w (.c false [.raw u]) v) : v = u := h.1
theorem eval_raw (h : Rel B Xs G w0 st E a w) {x : Operand} {u : Value} (hx : st.ev (opd x) = .c false [.raw u]) : a.eval x = u := raw_of (hx ▸ ev_ok h x)
theorem rawI_of {x : AV} {z : Int} (h : rawI x = some z) : ∃ k, x = .c false [.raw (.int k z)] := by
  unfold rawI at h
  split at h
  · next k z' => injection h with h; subst h; exact ⟨k, rfl⟩
  · cases h
theorem elemOf_spec {t e s : Nat} (h : elemOf' P t = some (e, s)) : P.underlying t = some (.slice e) ∧ ∃ i, P.info? e = some i ∧ i.size = s := by
  unfold elemOf' at h
  split at h
  · next e' he =>
    split at h
    · next i hi =>
      injection h with h
      injection h with h1 h2
      subst h1 h2
      exact ⟨he, i, hi, rfl⟩
    · cases h
  · cases h
theorem fieldOf_spec {s f off n : Nat} {g : Bool} (h : fieldOf P s f = some (off, n, g)) : ∃ fs fd i d, P.underlying s = some (.struct fs) ∧ fs[f]? = some fd ∧ P.info? fd.type = some i ∧ P.underlying fd.type = some d ∧ fd.offset = off ∧ i.size = n ∧ isAggD d = g := by
  unfold fieldOf at h
  split at h
  · next fs hfs =>
    split at h
    · next fd hfd =>
      split at h
      · next i d hi hd =>
        injection h with h
        injection h with h1 h2
        injection h2 with h2 h3
        exact ⟨fs, fd, i, d, hfs, hfd, hi, hd, h1, h2, h3⟩
      · cases h
    · cases h
  · cases h
theorem ekOk_spec {e s : Nat} (h : ekOk P e s = true) : ∃ (i : TypeInfo) (z : Value), P.info? e = some i ∧ i.zero = some z ∧ i.size = s ∧ i.bytes ≤ byN s ∧ z.cells.size = s ∧ 0 < s := by
  unfold ekOk at h
  split at h
  · next i hi =>
    split at h
    · next z hz =>
      simp only [Bool.and_eq_true, beq_iff_eq, decide_eq_true_eq] at h
      exact ⟨i, z, hi, hz, h.1.1.2, h.1.2, h.1.1.1, h.2⟩
    · cases h
  · cases h
theorem addr_add (b o n : Nat) : (⟨b, o, none⟩ : Addr).add n = ⟨b, o + n, none⟩ := by
  unfold Addr.add
  split
  · next h => subst h; rfl
  · rfl
theorem run_loadAt_cells {t : TypeId} {i : TypeInfo} {d : TypeDesc} {b o : Nat} {vs : List Value} (hi : P.info? t = some i) (hd : P.underlying t = some d) (ha : At w b o vs) (g : Bool) (n : Nat)
    (hg : isAggD d = g) (hn : if g then i.size = n else n = 1) (hl : n ≤ vs.length) :
    ∃ v, (Instr.loadAt t (.pointer (some ⟨b, o, none⟩))).run P w = .ok v w ∧ (if g then v = .agg (vs.take n).toArray else vs.take n = [v]) := by
  have hcells : ∀ m, m ≤ vs.length → (loadCells ⟨b, o, none⟩ m).run P w = .ok (vs.take m).toArray w := by
    intro m hm
    have := run_loadCells_list (P := P) w ⟨b, o, none⟩ (vs.take m) (fun j v hj => by
      rw [addr_add]
      rw [List.getElem?_take] at hj
      split at hj
      · exact ha j v hj
      · cases hj)
    rwa [List.length_take, Nat.min_eq_left hm] at this
  cases g with
  | true =>
    refine ⟨.agg (vs.take n).toArray, ?_, by simp⟩
    simp only [if_true] at hn
    subst hn
    have hagg : (isAgg t).run P w = .ok true w := by
      cases d <;> simp_all [isAggD, isAgg, run_underlying hd]
    simp [Instr.loadAt, Instr.sureAddr, loadVar, hagg, sizeOf, typeInfo, hi, hcells _ hl]
  | false =>
    simp only [Bool.false_eq_true, if_false] at hn
    subst hn
    have h0 : 0 < vs.length := by omega
    refine ⟨vs[0], ?_, by simp only [Bool.false_eq_true, if_false]; cases vs with | nil => simp at h0 | cons x xs => simp⟩
    have hagg : (isAgg t).run P w = .ok false w := by
      cases d <;> simp_all [isAggD, isAgg, run_underlying hd]
    have hc : w.cell? ⟨b, o, none⟩ = some vs[0] := by
      have := ha 0 vs[0] (List.getElem?_eq_getElem h0)
      simpa using this
    simp [Instr.loadAt, Instr.sureAddr, loadVar, hagg, hc]
theorem gok_take {E : Env} {os : List Own} {xs : List AC} {vs : List Value} {v : Value} {g : Bool} {n : Nat} (h : Oks E os w xs vs) (hv : if g then v = .agg (vs.take n).toArray else vs.take n = [v]) : AV.ok E os w (.c g (xs.take n)) v := by
  have ht := h.take n
  show Gok E os w g (xs.take n) v
  unfold Gok
  cases g with
  | true =>
    simp only [if_true] at hv ⊢
    exact ⟨_, hv, ht⟩
  | false =>
    simp only [Bool.false_eq_true, if_false] at hv ⊢
    rw [hv] at ht
    exact ht
theorem At.drop {b o n : Nat} {vs : List Value} (h : At w b o vs) : At w b (o + n) (vs.drop n) := fun j u hj => by
  have := h (n + j) u (by rw [List.getElem?_drop] at hj; exact hj)
  rwa [← Nat.add_assoc] at this
end
end Go.Proofs.YtdjcflnemnknaaaDoor

namespace Go.Proofs.YtdjcflnemnknaaaDoor
open Go.RowKit
set_option linter.unusedSimpArgs false
set_option linter.unusedVariables false
section
variable {P : Program} {B : Nat} {Xs : List Nat} {G : Org} {w0 : World} {fr : List AV} {os : List Own} {bs : List (List AC)} {E : Env} {a : Act} {w : World} {d : Option Tmp} {K : Act → World → Prop} {Q : Exit → Act → World → Prop}
  {ty : TypeId} {pos : String} {after : Array Edge} {guard : Option (Nat × Bool)}
theorem one_of {E : Env} {os : List Own} {w : World} {y : AC} {v : Value} (hy : y.ok E os w v) (ho : y.one = true) : v.oneCell' = true := by
  cases y with
  | any => cases ho
  | raw u => obtain rfl := hy; exact ho
  | sl n l =>
    obtain ⟨fp, h1, _⟩ := hy
    obtain ⟨A, c, rfl, _⟩ := Sl.form h1
    rfl
  | own k i =>
    obtain ⟨⟨A, n, c, rfl⟩, _⟩ := hy
    rfl
  | osub k i a b =>
    obtain ⟨⟨A, n, c, rfl⟩, _⟩ := hy
    rfl
  | cl f caps =>
    obtain ⟨ps, _, rfl⟩ := hy
    rfl
theorem cells_one {E : Env} {os : List Own} {w : World} {y : AC} {v : Value} (hy : y.ok E os w v) (ho : y.one = true) : v.cells = #[v] := by
  have := one_of hy ho
  cases v <;> simp_all [Value.cells, Value.oneCell']
theorem ones_of {E : Env} {os : List Own} {w : World} : ∀ {xs : List AC} {vs : List Value}, Oks E os w xs vs → xs.all AC.one = true → ∀ v ∈ vs, v.oneCell' = true
  | [], [], _, _, v, hv => by simp at hv
  | x :: xs, u :: vs, h, ho, v, hv => by
    simp only [List.all_cons, Bool.and_eq_true] at ho
    rcases List.mem_cons.1 hv with rfl | hv
    · exact one_of h.1 ho.1
    · exact ones_of h.2 ho.2 v hv
  | [], _ :: _, h, _, _, _ => h.elim
  | _ :: _, [], h, _, _, _ => h.elim
/-- What is left to be shown at one operation. -/
def Good (P : Program) (B : Nat) (Xs : List Nat) (G : Org) (w0 : World) (fr : List AV) (a : Act) (w : World) (o : Oper) (Q : Exit → Act → World → Prop) (r : AV) (os' : List Own) (bs' : List (List AC)) : Prop :=
  ∀ K : Act → World → Prop, (∀ E' v w', Rel B Xs G w0 (St.put ⟨fr, os', bs'⟩ o.dst r) E' (a.put o.dst v) w' → K (a.put o.dst v) w') → o.wp P a w K Q
theorem good_pure {o : Oper} {r : AV} {v : Value} (h : Rel B Xs G w0 ⟨fr, os, bs⟩ E a w) (hrun : (execOp a.eval o).run P w = .ok (.value v) w) (hx : r.ok E os w v) : Good P B Xs G w0 fr a w o Q r os bs :=
  fun K hK => wp_run hrun (hK E v w (h.below_put (Below.refl _ _) hx))

theorem good_mov {x : Operand} {b : Bool} (h : Rel B Xs G w0 ⟨fr, os, bs⟩ E a w) : Good P B Xs G w0 fr a w ⟨d, if b then .move x else .assign x, ty, pos, after, guard⟩ Q (St.ev ⟨fr, os, bs⟩ (opd x)) os bs := by
  refine good_pure h (v := a.eval x) ?_ (ev_ok h x)
  cases b <;> simp [execOp]
theorem good_pick {c x y : Operand} {b : Bool} (h : Rel B Xs G w0 ⟨fr, os, bs⟩ E a w) (hc : St.ev ⟨fr, os, bs⟩ (opd c) = .c false [.raw (.bool b)]) :
    Good P B Xs G w0 fr a w ⟨d, .pick c x y, ty, pos, after, guard⟩ Q (if b then St.ev ⟨fr, os, bs⟩ (opd x) else St.ev ⟨fr, os, bs⟩ (opd y)) os bs := by
  refine good_pure h (v := if b then a.eval x else a.eval y) ?_ ?_
  · simp [execOp, eval_raw h hc, asBool]
  · cases b
    · exact ev_ok h y
    · exact ev_ok h x
theorem good_bin {op : BinOp} {t yt : TypeId} {x y : Operand} {u v z : Value} (h : Rel B Xs G w0 ⟨fr, os, bs⟩ E a w) (hx : St.ev ⟨fr, os, bs⟩ (opd x) = .c false [.raw u]) (hy : St.ev ⟨fr, os, bs⟩ (opd y) = .c false [.raw v]) (hz : vbin op u v = some z) :
    Good P B Xs G w0 fr a w ⟨d, .binOp op t x y yt, ty, pos, after, guard⟩ Q (.c false [.raw z]) os bs := by
  refine good_pure h (v := z) ?_ ⟨rfl, trivial⟩
  have := vbin_run (P := P) (w := w) (t := t) (x := x) (y := y) hz
  simp only [execOp, eval_raw h hx, eval_raw h hy, Sem.run_bind] at this ⊢
  cases h1 : (eqGuard op t x y u v).run P w <;> simp_all
theorem good_beq {ne : Bool} {t yt : TypeId} {x y : Operand} {u v : Bool} (h : Rel B Xs G w0 ⟨fr, os, bs⟩ E a w) (hx : St.ev ⟨fr, os, bs⟩ (opd x) = .c false [.raw (.bool u)]) (hy : St.ev ⟨fr, os, bs⟩ (opd y) = .c false [.raw (.bool v)]) (ht : P.underlying t = some .bool) :
    Good P B Xs G w0 fr a w ⟨d, .binOp (if ne then .neq else .eql) t x y yt, ty, pos, after, guard⟩ Q (.c false [.raw (.bool (if ne then !(u == v) else u == v))]) os bs := by
  refine good_pure h (v := .bool (if ne then !(u == v) else u == v)) ?_ ⟨rfl, trivial⟩
  have heq : (Op.equal t (.bool u) (.bool v)).run P w = .ok (u == v) w := by
    show (Op.equalIn (9999 + 1) t _ _).run P w = _
    rw [Op.equalIn]
    simp [run_underlying ht]
  cases ne
  · simp [execOp, eval_raw h hx, eval_raw h hy, eqGuard, binOp, heq]
  · simp [execOp, eval_raw h hx, eval_raw h hy, eqGuard, binOp, heq]
theorem good_fnil {ne : Bool} {t yt : TypeId} {x : Operand} {ps rs : Array TypeId} {vr : Bool} (h : Rel B Xs G w0 ⟨fr, os, bs⟩ E a w) (ht : P.underlying t = some (.func ps rs vr)) {b : Bool}
    (hx : (∃ f caps, St.ev ⟨fr, os, bs⟩ (opd x) = .c false [.cl f caps] ∧ b = ne) ∨ (St.ev ⟨fr, os, bs⟩ (opd x) = .c false [.raw .nilFunc] ∧ b = !ne)) :
    Good P B Xs G w0 fr a w ⟨d, .binOp (if ne then .neq else .eql) t x (.const .nilFunc) yt, ty, pos, after, guard⟩ Q (.c false [.raw (.bool b)]) os bs := by
  refine good_pure h (v := .bool b) ?_ ⟨rfl, trivial⟩
  have ec : a.eval (.const .nilFunc) = .nilFunc := rfl
  rcases hx with ⟨f, caps, hx, rfl⟩ | ⟨hx, rfl⟩
  · have hv := ev_ok h x
    rw [hx] at hv
    obtain ⟨⟨qs, _, he⟩, _⟩ := hv
    have heq : ∀ u c, (Op.equal t (.func (.func f) u c) .nilFunc).run P w = .ok false w := by
      intro u c
      show (Op.equalIn (9999 + 1) t _ _).run P w = _
      rw [Op.equalIn]
      simp [run_underlying ht]
    cases b
    · simp [execOp, he, eqGuard, binOp, heq, ec]
    · simp [execOp, he, eqGuard, binOp, heq, ec]
  · have heq : (Op.equal t .nilFunc .nilFunc).run P w = .ok true w := by
      show (Op.equalIn (9999 + 1) t _ _).run P w = _
      rw [Op.equalIn]
      simp [run_underlying ht]
    cases ne
    · simp [execOp, eval_raw h hx, eqGuard, binOp, heq, ec]
    · simp [execOp, eval_raw h hx, eqGuard, binOp, heq, ec]
theorem good_snil {ne : Bool} {t yt e : TypeId} {x : Operand} (h : Rel B Xs G w0 ⟨fr, os, bs⟩ E a w) (ht : P.underlying t = some (.slice e)) {b : Bool}
    (hx : (∃ k i o, St.ev ⟨fr, os, bs⟩ (opd x) = .c false [.own k i] ∧ os[k]? = some o ∧ o.ver = i ∧ 0 < o.l.length ∧ b = ne) ∨ (St.ev ⟨fr, os, bs⟩ (opd x) = .c false [.raw (.slice none 0 0)] ∧ b = !ne)) :
    Good P B Xs G w0 fr a w ⟨d, .binOp (if ne then .neq else .eql) t x (.const (.slice none 0 0)) yt, ty, pos, after, guard⟩ Q (.c false [.raw (.bool b)]) os bs := by
  refine good_pure h (v := .bool b) ?_ ⟨rfl, trivial⟩
  have ec : a.eval (.const (.slice none 0 0)) = .slice none 0 0 := rfl
  rcases hx with ⟨k, i, o, hx, ho, hv, hl, rfl⟩ | ⟨hx, rfl⟩
  · have hev := ev_ok h x
    rw [hx] at hev
    obtain ⟨⟨_, o', p, h1, h2, h3, h4⟩, _⟩ := hev
    simp only at h1
    rw [ho] at h1
    injection h1 with h1
    subst h1
    have he := h4 hv
    obtain ⟨cs, h5, h6, h7, h8⟩ := h.own _ _ p ho h2
    rcases h5.2 with ⟨hv', h9⟩ | ⟨g, z, cap, cur, hv', _⟩
    · omega
    have he' := he.trans hv'
    have heq : (Op.equal t (.slice (some ⟨g, z, none⟩) o.l.length cap) (.slice none 0 0)).run P w = .ok false w := by
      show (Op.equalIn (9999 + 1) t _ _).run P w = _
      rw [Op.equalIn]
      simp [run_underlying ht]
    cases b
    · simp [execOp, he', eqGuard, binOp, heq, ec]
    · simp [execOp, he', eqGuard, binOp, heq, ec]
  · have heq : (Op.equal t (.slice none 0 0) (.slice none 0 0)).run P w = .ok true w := by
      show (Op.equalIn (9999 + 1) t _ _).run P w = _
      rw [Op.equalIn]
      simp [run_underlying ht]
    cases ne
    · simp [execOp, eval_raw h hx, eqGuard, binOp, heq, ec]
    · simp [execOp, eval_raw h hx, eqGuard, binOp, heq, ec]
theorem caps_ok {st : St} (h : Rel B Xs G w0 st E a w) : ∀ (xs : List Operand) (caps : List Nat), capsOf (xs.map fun x => st.ev (opd x)) = some caps →
    ∃ ps : List (Nat × TypeId), caps.map (fun k => E.bm[k]?) = ps.map some ∧ xs.map a.eval = ps.map fun p => .pointer (some ⟨p.1, 0, none⟩)
  | [], caps, hc => by
    simp [capsOf] at hc
    subst hc
    exact ⟨[], rfl, rfl⟩
  | x :: xs, caps, hc => by
    have hv := ev_ok h x
    rw [List.map_cons] at hc
    unfold capsOf at hc
    split at hc
    · next heq => cases heq
    · next k ys heq =>
      injection heq with h1 h2
      rw [h1] at hv
      subst h2
      obtain ⟨caps', hc', rfl⟩ := Option.map_eq_some_iff.1 hc
      obtain ⟨ps, g1, g2⟩ := caps_ok h xs caps' hc'
      obtain ⟨p, g3, g4⟩ := hv
      exact ⟨p :: ps, by simp [g1, g3], by rw [List.map_cons, g4, g2]; rfl⟩
    · cases hc
theorem good_mkf {f : Nat} {first caps : Array Operand} {cs : List Nat} (h : Rel B Xs G w0 ⟨fr, os, bs⟩ E a w) (hf : first.toList.isEmpty = true) (hc : capsOf ((caps.toList.map opd).map (St.ev ⟨fr, os, bs⟩)) = some cs) :
    Good P B Xs G w0 fr a w ⟨d, .makeFunc (.func f) first caps, ty, pos, after, guard⟩ Q (.c false [.cl f cs]) os bs := by
  obtain ⟨ps, h1, h2⟩ := caps_ok h caps.toList cs (by rw [List.map_map] at hc; exact hc)
  have e1 : first = #[] := by apply Array.toList_inj.1; simpa using hf
  have e2 : caps.map a.eval = (ps.map fun p => (.pointer (some ⟨p.1, 0, none⟩) : Value)).toArray := by
    apply Array.toList_inj.1
    rw [Array.toList_map, h2]
  refine good_pure h (v := .func (.func f) #[] (ps.map fun p => (.pointer (some ⟨p.1, 0, none⟩) : Value)).toArray) ?_ ⟨⟨ps, h1, rfl⟩, trivial⟩
  subst e1
  simp [execOp, Instr.makeFunc, e2]
theorem good_not {t : TypeId} {x : Operand} {u : Bool} (h : Rel B Xs G w0 ⟨fr, os, bs⟩ E a w) (hx : St.ev ⟨fr, os, bs⟩ (opd x) = .c false [.raw (.bool u)]) :
    Good P B Xs G w0 fr a w ⟨d, .unOp .not t x, ty, pos, after, guard⟩ Q (.c false [.raw (.bool !u)]) os bs := by
  refine good_pure h (v := .bool !u) ?_ ⟨rfl, trivial⟩
  simp [execOp, eval_raw h hx, Op.unary]
theorem good_load {t : TypeId} {x : Operand} {i : TypeInfo} {dd : TypeDesc} {n : Nat} {g : Bool} {b o : Nat} {xs : List AC} {vs : List Value} (h : Rel B Xs G w0 ⟨fr, os, bs⟩ E a w)
    (hi : P.info? t = some i) (hd : P.underlying t = some dd) (hg : isAggD dd = g) (hn : if g then i.size = n else n = 1)
    (he : a.eval x = .pointer (some ⟨b, o, none⟩)) (ha : At w b o vs) (hx : Oks E os w xs vs) (hl : n ≤ xs.length) :
    Good P B Xs G w0 fr a w ⟨d, .load t x, ty, pos, after, guard⟩ Q (.c g (xs.take n)) os bs := by
  obtain ⟨v, h1, h2⟩ := run_loadAt_cells (P := P) hi hd ha g n hg hn (by rw [← hx.len]; exact hl)
  refine good_pure h (v := v) ?_ (gok_take hx h2)
  simp [execOp, he, h1]
theorem good_fad {s f : Nat} {x : Operand} {off n : Nat} {g : Bool} {r : AV} {b o : Nat} (h : Rel B Xs G w0 ⟨fr, os, bs⟩ E a w) (hf : fieldOf P s f = some (off, n, g)) (hn : ¬ n = 0) (he : a.eval x = .pointer (some ⟨b, o, none⟩)) (hr : r.ok E os w (.pointer (some ⟨b, o + off, none⟩))) :
    Good P B Xs G w0 fr a w ⟨d, .fieldAddr s x f, ty, pos, after, guard⟩ Q r os bs := by
  obtain ⟨fs, fd, i, dd, h1, h2, h3, h4, h5, h6, h7⟩ := fieldOf_spec hf
  refine good_pure h ?_ hr
  simp [execOp, he, Instr.fieldAt, run_underlying h1, h2, Instr.sureAddr, fieldPlace, sizeOf, typeInfo, h3, h6, hn, addr_add, h5]
theorem good_iad {t e s : Nat} {x i : Operand} {z : Int} {r : AV} {b o m c : Nat} (h : Rel B Xs G w0 ⟨fr, os, bs⟩ E a w) (ht : elemOf' P t = some (e, s)) (he : a.eval x = .slice (some ⟨b, o, none⟩) m c) {k : IntKind} (hi : a.eval i = .int k z) (h0 : 0 ≤ z) (hl : z.toNat < m)
    (hr : r.ok E os w (.pointer (some ⟨b, o + z.toNat * s, none⟩))) : Good P B Xs G w0 fr a w ⟨d, .indexAddr t x i, ty, pos, after, guard⟩ Q r os bs := by
  obtain ⟨h1, inf, h2, h3⟩ := elemOf_spec ht
  refine good_pure h ?_ hr
  have h4 : z < (m : Int) := by omega
  simp [execOp, he, hi, Instr.indexAt, asIntOf, run_underlying h1, h0, h4, sizeOf, typeInfo, h2, h3, addr_add]
theorem good_nck {x : Operand} {b o : Nat} {r : AV} (h : Rel B Xs G w0 ⟨fr, os, bs⟩ E a w) (he : a.eval x = .pointer (some ⟨b, o, none⟩)) (hr : r.ok E os w (.pointer (some ⟨b, o, none⟩))) :
    Good P B Xs G w0 fr a w ⟨d, .nilCheck x, ty, pos, after, guard⟩ Q r os bs := by
  refine good_pure h ?_ hr
  simp [execOp, he]
theorem good_alloc {t : TypeId} {i : TypeInfo} {z : Value} (h : Rel B Xs G w0 ⟨fr, os, bs⟩ E a w) (hi : P.info? t = some i) (hz : i.zero = some z) :
    Good P B Xs G w0 fr a w ⟨d, .alloc t, ty, pos, after, guard⟩ Q (.bptr bs.length 0) os (bs ++ [z.cells.toList.map .raw]) := by
  intro K hK
  refine wp_run (v := .pointer (some ⟨w.heap.size, 0, none⟩)) (w' := w.alloc (.cells z.cells t)) ?_ (hK { E with bm := E.bm ++ [(w.heap.size, t)] } _ _ ?_)
  · simp [execOp, Instr.alloc, zeroValue, typeInfo, hi, hz, newVar, newRow]
  · have := h.newBox t (oks_raw (E := E) (os := os) (w := w) z.cells.toList) d
    simpa using this
theorem good_box {t : TypeId} {x : Operand} {g : Bool} {xs : List AC} (h : Rel B Xs G w0 ⟨fr, os, bs⟩ E a w) (hx : St.ev ⟨fr, os, bs⟩ (opd x) = .c g xs) (hone : xs.all AC.one = true) :
    Good P B Xs G w0 fr a w ⟨d, .box t x, ty, pos, after, guard⟩ Q (.bptr bs.length 0) os (bs ++ [xs]) := by
  intro K hK
  have hev := ev_ok h x
  rw [hx] at hev
  have hok : Oks E os w xs (a.eval x).cells.toList := by
    cases g with
    | true => obtain ⟨vs, h1, h2⟩ := hev; rw [h1]; simpa [Value.cells] using h2
    | false =>
      have h1 : Oks E os w xs [a.eval x] := hev
      have h3 : (a.eval x).cells = #[a.eval x] := by
        match xs, h1, hone with
        | [], h1, hone => exact h1.elim
        | _ :: _ :: _, h1, hone => exact h1.2.elim
        | [y], h1, hone =>
          have hy := h1.1
          have ho : y.one = true := by simpa using hone
          exact cells_one hy ho
      rw [h3]
      exact h1
  refine wp_run (v := .pointer (some ⟨w.heap.size, 0, none⟩)) (w' := w.alloc (.cells (a.eval x).cells t)) ?_ (hK { E with bm := E.bm ++ [(w.heap.size, t)] } _ _ ?_)
  · simp [execOp, Instr.box, newVar, newRow]
  · have := h.newBox t hok d
    simpa using this
end
end Go.Proofs.YtdjcflnemnknaaaDoor

namespace Go.Proofs.YtdjcflnemnknaaaDoor
open Go.RowKit
set_option linter.unusedSimpArgs false
set_option linter.unusedVariables false
section
variable {P : Program} {B : Nat} {Xs : List Nat} {G : Org} {w0 : World} {fr : List AV} {os : List Own} {bs : List (List AC)} {E : Env} {a : Act} {w : World} {d : Option Tmp} {K : Act → World → Prop} {Q : Exit → Act → World → Prop}
  {ty : TypeId} {pos : String} {after : Array Edge} {guard : Option (Nat × Bool)}
/-- The cells of a value in a slot. -/
theorem cells_of {g : Bool} {ys : List AC} {v : Value} (h : AV.ok E os w (.c g ys) v) (ho : ys.all AC.one = true) : Oks E os w ys v.cells.toList := by
  cases g with
  | true => obtain ⟨vs, h1, h2⟩ := h; rw [h1]; simpa [Value.cells] using h2
  | false =>
    have h1 : Oks E os w ys [v] := h
    have h3 : v.cells = #[v] := by
      match ys, h1, ho with
      | [], h1, _ => exact h1.elim
      | _ :: _ :: _, h1, _ => exact h1.2.elim
      | [y], h1, ho => exact cells_one h1.1 (by simpa using ho)
    rw [h3]
    exact h1
theorem good_store {t : TypeId} {x y : Operand} {i : TypeInfo} {k off : Nat} {g : Bool} {ys xs : List AC} (h : Rel B Xs G w0 ⟨fr, os, bs⟩ E a w) (hi : P.info? t = some i)
    (hx : St.ev ⟨fr, os, bs⟩ (opd x) = .bptr k off) (hy : St.ev ⟨fr, os, bs⟩ (opd y) = .c g ys) (hl : ys.length = i.size) (h1 : ys.all AC.one = true) (hk : bs[k]? = some xs) (ho : off + i.size ≤ xs.length) :
    Good P B Xs G w0 fr a w ⟨d, .store t x y, ty, pos, after, guard⟩ Q .any os (bs.set k (xs.take off ++ ys ++ xs.drop (off + i.size))) := by
  intro K hK
  have hex := ev_ok h x
  rw [hx] at hex
  obtain ⟨p, hp, he⟩ := hex
  have hey := ev_ok h y
  rw [hy] at hey
  have hc := cells_of hey h1
  obtain ⟨hB, vs, hrow, hvs⟩ := h.box k xs p hk hp
  have hlen : (a.eval y).cells.toList.length = i.size := by rw [← hc.len]; exact hl
  have hlv := hvs.len
  have hrun := run_storeCells_at (P := P) p.1 off p.2 (a.eval y).cells.toList 0 vs.toArray w hrow (by simp; simp at hlen; omega) (fun v hv => ones_of hc h1 v hv)
  have hsz : (a.eval y).cells.size = i.size := by simpa using hlen
  have hrun2 : (execOp a.eval ⟨d, .store t x y, ty, pos, after, guard⟩).run P w = .ok .skip (w.setRow p.1 (vs.take off ++ (a.eval y).cells.toList ++ vs.drop (off + i.size)).toArray) := by
    simp only [Nat.add_zero] at hrun
    simp [execOp, Instr.storeAt, he, Instr.sureAddr, storeVar, sizeOf, typeInfo, hi, hsz] at hrun ⊢
    rw [hrun]
    simp
  unfold Oper.wp
  rw [hrun2]
  refine hK E undef _ (h.setBox (w' := w.setRow p.1 (vs.take off ++ (a.eval y).cells.toList ++ vs.drop (off + i.size)).toArray) hk hp (us := vs.take off ++ (a.eval y).cells.toList ++ vs.drop (off + i.size)) ?_ (by simp) ⟨rfl, rfl, rfl⟩ (fun b hb => setRow_other _ _ _ _ hb) ?_ d trivial)
  · exact Oks.append (hvs.drop _) (Oks.append hc (hvs.take off))
  · exact setRow_heap _ _ _ _ _ _ hrow
theorem fold_set (off : Nat) : ∀ (vs : List Value) (j : Nat) (cs : Array Value), off + j + vs.length ≤ cs.size →
    ((vs.zipIdx j).foldl (fun cs (x : Value × Nat) => cs.setIfInBounds (off + x.2) x.1) cs).toList = cs.toList.take (off + j) ++ vs ++ cs.toList.drop (off + j + vs.length)
  | [], j, cs, _ => by simp
  | v :: vs, j, cs, h => by
    simp only [List.length_cons] at h
    rw [List.zipIdx_cons, List.foldl_cons, fold_set off vs (j + 1) _ (by simp; omega)]
    simp only [Array.toList_setIfInBounds, List.length_cons]
    have e := list_seg_step cs.toList (off + j) v vs (by simp; omega)
    simpa [Nat.add_assoc, Nat.add_comm 1] using e
theorem fill_ok {st : St} {places : List (Nat × Nat)} (h : Rel B Xs G w0 st E a w) : ∀ (ps : List (Nat × Operand)) (l : List (Nat × Nat × Opd)) (xs cs : List AC) (vs : Array Value),
    ps.mapM (fun p => (places.toArray[p.1]?).map fun q => (q.1, q.2, opd p.2)) = some l → Oks E st.owns w xs vs.toList → fillA st.ev l xs = some cs →
    ∃ us, Instr.fill (fun i => places.toArray[i]?) vs (ps.map fun p => (p.1, a.eval p.2)) = some us ∧ Oks E st.owns w cs us.toList
  | [], l, xs, cs, vs, hm, hx, hf => by
    simp at hm
    subst hm
    simp only [fillA] at hf
    injection hf with hf
    subst hf
    exact ⟨vs, rfl, hx⟩
  | p :: ps, l, xs, cs, vs, hm, hx, hf => by
    simp only [List.mapM_cons, Option.bind_eq_bind, Option.pure_def] at hm
    cases hq : (places.toArray[p.1]?).map (fun q => (q.1, q.2, opd p.2)) with
    | none => rw [hq] at hm; simp at hm
    | some q =>
      cases hr : ps.mapM (fun p => (places.toArray[p.1]?).map fun q => (q.1, q.2, opd p.2)) with
      | none => rw [hq, hr] at hm; simp at hm
      | some l' =>
        rw [hq, hr] at hm
        simp at hm
        subst hm
        obtain ⟨q', hq1, hq2⟩ := Option.map_eq_some_iff.1 hq
        subst hq2
        simp only [fillA] at hf
        cases hev : st.ev (opd p.2) with
        | c g ys =>
          simp only [hev] at hf
          split at hf
          · next hc =>
            have hv := ev_ok h p.2
            rw [hev] at hv
            have hcells := cells_of hv hc.2.2
            have hl1 : (a.eval p.2).cells.toList.length = q'.2 := by rw [← hcells.len]; exact hc.1
            have hl2 := hx.len
            have hsz : (a.eval p.2).cells.size = q'.2 := by simpa using hl1
            have hfold := fold_set q'.1 (a.eval p.2).cells.toList 0 vs (by simp at hl1 hl2 ⊢; omega)
            obtain ⟨us, h2, h3⟩ := fill_ok h ps l' _ cs ((a.eval p.2).cells.zipIdx.foldl (fun cs (x : Value × Nat) => cs.setIfInBounds (q'.1 + x.2) x.1) vs) hr (by
              have e : ((a.eval p.2).cells.zipIdx.foldl (fun cs (x : Value × Nat) => cs.setIfInBounds (q'.1 + x.2) x.1) vs).toList = vs.toList.take q'.1 ++ (a.eval p.2).cells.toList ++ vs.toList.drop (q'.1 + q'.2) := by
                rw [← Array.foldl_toList, Array.toList_zipIdx]
                simp only [Nat.add_zero] at hfold
                rw [hfold, hl1]
              rw [e]
              exact Oks.append (hx.drop _) (Oks.append hcells (hx.take _))) hf
            refine ⟨us, ?_, h3⟩
            rw [List.map_cons, Instr.fill]
            simp only [hq1]
            rw [if_neg (by simp [hsz]; simp at hl2; omega)]
            exact h2
          · cases hf
        | any => simp [hev] at hf
        | ptr _ => simp [hev] at hf
        | bptr _ _ => simp [hev] at hf
        | eptr _ _ _ _ => simp [hev] at hf
        | tup _ => simp [hev] at hf
theorem good_bld {t : TypeId} {ps : Array (Nat × Operand)} {it : TypeInfo} {fields : Array Field} {z : Value} {places : List (Nat × Nat)} {l : List (Nat × Nat × Opd)} {cs : List AC} (h : Rel B Xs G w0 ⟨fr, os, bs⟩ E a w)
    (h1 : P.info? t = some it) (h2 : P.underlying t = some (.struct fields)) (h3 : it.zero = some z) (h4 : fields.toList.mapM (fun f => (P.info? f.type).map fun i => (f.offset, i.size)) = some places)
    (h5 : ps.toList.mapM (fun p => (places.toArray[p.1]?).map fun q => (q.1, q.2, opd p.2)) = some l) (hf : fillA (St.ev ⟨fr, os, bs⟩) l (z.cells.toList.map .raw) = some cs) :
    Good P B Xs G w0 fr a w ⟨d, .build t ps, ty, pos, after, guard⟩ Q (.c true cs) os bs := by
  obtain ⟨us, h6, h7⟩ := fill_ok h ps.toList l _ cs z.cells h5 (oks_raw _) hf
  refine good_pure h (v := .agg us) ?_ ⟨us.toList, by simp, h7⟩
  have hb : P.built t (ps.map fun (i, x) => (i, a.eval x)).toList = some us := by
    simp only [Program.built, h1, h2, h3, h4, Array.toList_map]
    exact h6
  simp only [execOp, Sem.run_bind, run_build w t _ us hb, Result.andThen_ok]
  rfl
theorem good_fld {t f off n : Nat} {x : Operand} {g : Bool} {m : Nat} {xs : List AC} (h : Rel B Xs G w0 ⟨fr, os, bs⟩ E a w) (hf : fieldOf P t f = some (off, n, g)) (hm : m = if g then n else 1)
    (hx : St.ev ⟨fr, os, bs⟩ (opd x) = .c true xs) (hl : off + m ≤ xs.length) : Good P B Xs G w0 fr a w ⟨d, .field t x f, ty, pos, after, guard⟩ Q (.c g ((xs.drop off).take m)) os bs := by
  obtain ⟨fs, fd, i, dd, h1, h2, h3, h4, h5, h6, h7⟩ := fieldOf_spec hf
  have hv := ev_ok h x
  rw [hx] at hv
  obtain ⟨vs, he, hvs⟩ := hv
  have hlv := hvs.len
  have hd := hvs.drop off
  cases g with
  | true =>
    simp only [if_true] at hm
    subst hm
    refine good_pure h (v := .agg (vs.toArray.extract off (off + m))) ?_ ⟨(vs.drop off).take m, ?_, hd.take m⟩
    rotate_left
    · congr 1
      apply Array.ext'
      simp [List.extract_eq_take_drop]
    have hagg : (isAgg fd.type).run P w = .ok true w := by
      cases dd <;> simp_all [isAggD, isAgg, run_underlying h4]
    simp only [execOp, he, Instr.field, Sem.run_bind, run_underlying h1, Result.andThen_ok, h2, Go.part, hagg, asAgg, sizeOf, typeInfo, Sem.run_pure, if_true]
    simp [h3, h6, h5]
  | false =>
    simp only [Bool.false_eq_true, if_false] at hm
    subst hm
    have hlt : off < vs.length := by omega
    have e1 : (vs.drop off).take 1 = [vs[off]] := by rw [List.drop_eq_getElem_cons hlt]; rfl
    have ht := hd.take 1
    rw [e1] at ht
    refine good_pure h (v := vs[off]) ?_ ht
    have hagg : (isAgg fd.type).run P w = .ok false w := by
      cases dd <;> simp_all [isAggD, isAgg, run_underlying h4]
    simp [execOp, he, Instr.field, run_underlying h1, h2, Go.part, hagg, asAgg, h5, hlt]
theorem good_sidx {t : TypeId} {x i : Operand} {s : ByteArray} {z : Int} {b : UInt8} (h : Rel B Xs G w0 ⟨fr, os, bs⟩ E a w) (ht : P.underlying t = some .string) (hx : St.ev ⟨fr, os, bs⟩ (opd x) = .c false [.raw (.string s)])
    (hi : rawI (St.ev ⟨fr, os, bs⟩ (opd i)) = some z) (h0 : 0 ≤ z) (hb : s.data[z.toNat]? = some b) : Good P B Xs G w0 fr a w ⟨d, .index t x i, ty, pos, after, guard⟩ Q (.c false [.raw (.int .u8 b.toNat)]) os bs := by
  obtain ⟨k, hk⟩ := rawI_of hi
  refine good_pure h (v := .int .u8 b.toNat) ?_ ⟨rfl, trivial⟩
  have hb' : s[z.toNat]? = some b := by
    obtain ⟨h1, h2⟩ := Array.getElem?_eq_some_iff.1 hb
    have : z.toNat < s.size := h1
    rw [getElem?_pos s z.toNat this]
    simp only [Option.some.injEq]
    exact h2
  simp [execOp, eval_raw h hx, eval_raw h hk, Instr.index, asIntOf, run_underlying ht, h0, hb']
theorem good_ext {x : Operand} {j : Nat} {ys : List (Bool × List AC)} {g : Bool} {xs : List AC} (h : Rel B Xs G w0 ⟨fr, os, bs⟩ E a w) (hx : St.ev ⟨fr, os, bs⟩ (opd x) = .tup ys) (hj : ys[j]? = some (g, xs)) :
    Good P B Xs G w0 fr a w ⟨d, .extract x j, ty, pos, after, guard⟩ Q (.c g xs) os bs := by
  have hv := ev_ok h x
  rw [hx] at hv
  obtain ⟨vs, he, hvs⟩ := hv
  have : ∀ (ys : List (Bool × List AC)) (vs : List Value) (j : Nat), Toks E os w ys vs → ys[j]? = some (g, xs) → ∃ v, vs[j]? = some v ∧ Gok E os w g xs v := by
    intro ys
    induction ys with
    | nil => intro vs j _ hj; simp at hj
    | cons y ys ih =>
      intro vs j h hj
      cases vs with
      | nil => exact h.elim
      | cons v vs =>
        cases j with
        | zero => simp at hj; subst hj; exact ⟨v, rfl, h.1⟩
        | succ j => simp at hj; obtain ⟨u, h1, h2⟩ := ih vs j h.2 hj; exact ⟨u, by simpa using h1, h2⟩
  obtain ⟨v, h1, h2⟩ := this ys vs j hvs hj
  refine good_pure h (v := v) ?_ h2
  simp [execOp, he, Instr.extract, h1]
end
end Go.Proofs.YtdjcflnemnknaaaDoor

namespace Go.Proofs.YtdjcflnemnknaaaDoor
open Go.RowKit
set_option linter.unusedSimpArgs false
set_option linter.unusedVariables false
section
variable {P : Program} {B : Nat} {Xs : List Nat} {G : Org} {w0 : World} {fr : List AV} {os : List Own} {bs : List (List AC)} {E : Env} {a : Act} {w : World} {d : Option Tmp} {K : Act → World → Prop} {Q : Exit → Act → World → Prop}
  {ty : TypeId} {pos : String} {after : Array Edge} {guard : Option (Nat × Bool)}
theorem avs_ok {st : St} (h : Rel B Xs G w0 st E a w) : ∀ (xs : List Operand) (ds : List D), avsD (xs.map fun x => st.ev (opd x)) = some ds →
    D.ones ds ∧ ds.length = xs.length ∧ (∀ s, (∀ d ∈ ds, d.sz = s) → ∀ x ∈ xs, (a.eval x).cells.size = s) ∧
    ∃ fp, Rs w ds fp (xs.flatMap fun x => (a.eval x).cells.toList) ∧ ∀ b ∈ fp, b ∉ E.M ∧ ((xs.map fun x => st.ev (opd x)).all AV.nw = true → E.nw b)
  | [], ds, hd => by
    injection hd with hd
    subst hd
    exact ⟨trivial, rfl, fun _ _ x hx => by simp at hx, [], ⟨rfl, rfl⟩, fun b hb => by simp at hb⟩
  | x :: xs, ds, hd => by
    rw [List.map_cons, avsD] at hd
    split at hd
    · next d ds' h1 h2 =>
      injection hd with hd
      subst hd
      obtain ⟨o1, s1, f1, r1, m1⟩ := AV.toD_ok h1 (ev_ok h x)
      obtain ⟨o2, l2, s2, f2, r2, m2⟩ := avs_ok h xs ds' h2
      refine ⟨⟨o1, o2⟩, by simp [l2], fun s hs y hy => ?_, f1 ++ f2, ?_, fun b hb => ?_⟩
      · rcases List.mem_cons.1 hy with rfl | hy
        · rw [← s1]; exact hs d (by simp)
        · exact s2 s (fun z hz => hs z (by simp [hz])) y hy
      · rw [List.flatMap_cons]
        exact ⟨f1, f2, _, _, rfl, rfl, r1, r2⟩
      · simp only [List.map_cons, List.all_cons, Bool.and_eq_true]
        rcases List.mem_append.1 hb with h' | h'
        · exact ⟨(m1 b h').1, fun e => (m1 b h').2 e.1⟩
        · exact ⟨(m2 b h').1, fun e => (m2 b h').2 e.2⟩
    · cases hd
theorem run_bs {t e s n : Nat} {ps : Array (Nat × Operand)} (ht : elemOf' P t = some (e, s)) (he : ekOk P e s = true) (hn : n * s ≤ 2 ^ 24) (hp : ps.toList.map (·.1) = List.range n) (hs : ∀ x ∈ ps.toList.map (·.2), (a.eval x).cells.size = s) :
    (Instr.buildSlice t n (ps.map fun (i, x) => (i, a.eval x))).run P w = .ok (.slice (some ⟨w.heap.size, 0, none⟩) n n) (w.alloc (.cells ((ps.toList.map (·.2)).flatMap fun x => (a.eval x).cells.toList).toArray e)) := by
  obtain ⟨h1, inf, h2, h3⟩ := elemOf_spec ht
  obtain ⟨i, z, h4, h5, h6, h7, h8, h9⟩ := ekOk_spec he
  rw [h2] at h4
  injection h4 with h4
  subst h4
  have hlen : ps.toList.length = n := by have := congrArg List.length hp; simpa using this
  have hl : n * s = (ps.toList.map (·.2)).length * s := by rw [List.length_map, hlen]
  by_cases h0 : n = 0
  · subst h0
    have : ps.toList = [] := List.eq_nil_of_length_eq_zero hlen
    have hps : ps = #[] := by
      apply Array.toList_inj.1
      simpa using this
    subst hps
    have e0 : Array.map (fun x => (default : Value)) (Array.range 0) = #[] := by apply Array.eq_empty_of_size_eq_zero; simp
    simp [Instr.buildSlice, run_underlying h1, sizeOf, typeInfo, h2, Instr.fill, newRow, e0]
  · have hpos : ¬ n * s = 0 := by
      intro e0
      rcases Nat.mul_eq_zero.1 e0 with h | h <;> omega
    have hfill := Go.Great.fill_whole (s := s) h9 ((ps.toList.map (·.2)).map a.eval) ((Array.range (n * s)).map (z.cells[· % z.cells.size]!)) (fun v hv => by
      obtain ⟨x, hx, rfl⟩ := List.mem_map.1 hv
      exact hs x hx) (by simp [hlen])
    have hz : (((ps.toList.map (·.2)).map a.eval).zipIdx 0).map (fun x => (x.2, x.1)) = (ps.map fun (i, x) => (i, a.eval x)).toList := by
      rw [Array.toList_map]
      apply List.ext_getElem?
      intro j
      have hj : (ps.toList.map (·.1))[j]? = (List.range n)[j]? := by rw [hp]
      rw [List.getElem?_map, List.getElem?_zipIdx, List.getElem?_map, List.getElem?_map, List.getElem?_map]
      rw [List.getElem?_map] at hj
      cases hg : ps.toList[j]? with
      | none => simp
      | some p =>
        rw [hg] at hj
        have hjl : j < n := by rw [← hlen]; exact (List.getElem?_eq_some_iff.1 hg).1
        rw [List.getElem?_range hjl] at hj
        simp at hj
        simp [hj]
    have hrun := run_buildSlice (P := P) w t e n (ps.map fun (i, x) => (i, a.eval x)) (((ps.toList.map (·.2)).map a.eval).flatMap fun v => v.cells.toList).toArray inf z h1 h2 h5 (by rw [h6]; omega) (by rw [h6]; exact hpos) (by rw [← hz, h6]; exact hfill)
    rw [hrun, List.flatMap_map]
theorem flat_len {s : Nat} {xs : List Operand} (h : ∀ x ∈ xs, (a.eval x).cells.size = s) : (xs.flatMap fun x => (a.eval x).cells.toList).length = xs.length * s := by
  induction xs with
  | nil => simp
  | cons x xs ih =>
    rw [List.flatMap_cons, List.length_append, ih (fun y hy => h y (by simp [hy])), List.length_cons, Nat.add_mul]
    have := h x (by simp)
    simp [this]
    omega
theorem good_brow {t e s n : Nat} {ps : Array (Nat × Operand)} {ds : List D} (h : Rel B Xs G w0 ⟨fr, os, bs⟩ E a w) (ht : elemOf' P t = some (e, s)) (he : ekOk P e s = true) (hn : n * s ≤ 2 ^ 24) (hp : ps.toList.map (·.1) = List.range n)
    (hd : avsD ((ps.toList.map fun p => opd p.2).map (St.ev ⟨fr, os, bs⟩)) = some ds) (hs : ∀ d ∈ ds, d.sz = s) (hl : ds.length = n) :
    Good P B Xs G w0 fr a w ⟨d, .buildSlice t n ps, ty, pos, after, guard⟩ Q (.c false [.sl (((ps.toList.map fun p => opd p.2).map (St.ev ⟨fr, os, bs⟩)).all AV.nw) ds]) os bs := by
  have e1 : (ps.toList.map fun p => opd p.2).map (St.ev ⟨fr, os, bs⟩) = (ps.toList.map (·.2)).map fun x => St.ev ⟨fr, os, bs⟩ (opd x) := by simp
  rw [e1] at hd ⊢
  obtain ⟨o1, l1, s1, fp, r1, m1⟩ := avs_ok h _ ds hd
  have hrun := run_bs (P := P) (w := w) (a := a) ht he hn hp (s1 s hs)
  have hb : Below w.heap.size w (w.alloc (.cells ((ps.toList.map (·.2)).flatMap fun x => (a.eval x).cells.toList).toArray e)) := (Below.refl _ _).alloc (Nat.le_refl _) _
  intro K hK
  refine wp_run (v := .slice (some ⟨w.heap.size, 0, none⟩) n n) ?_ (hK E _ _ (h.below_put hb ⟨?_, trivial⟩))
  · simp only [execOp, Sem.run_bind, hrun, Result.andThen_ok]; rfl
  · have hs9 : 0 < s := by obtain ⟨_, _, _, _, _, _, _, h9⟩ := ekOk_spec he; exact h9
    have hnm : n ≤ maxLen := by
      have : n * 1 ≤ n * s := Nat.mul_le_mul_left n hs9
      unfold maxLen
      omega
    have hrow := Row.new w e ((ps.toList.map (·.2)).flatMap fun x => (a.eval x).cells.toList).toArray
    refine ⟨w.heap.size :: fp, Sl.of_row (by simpa using hrow) (r1.below hb) hl hnm, fun b hbm => ?_⟩
    rcases List.mem_cons.1 hbm with rfl | hbm
    · exact ⟨fun hm => Nat.lt_irrefl _ (M_lt h hm).2, fun _ => h.nw_of h.base⟩
    · exact m1 b hbm
theorem D.ones_mem : ∀ {l : List D}, D.ones l → ∀ d ∈ l, d.one
  | [], _, d, hd => by simp at hd
  | x :: l, h, d, hd => by
    rcases List.mem_cons.1 hd with rfl | hd
    · exact h.1
    · exact D.ones_mem h.2 d hd
theorem good_bown {t e s n : Nat} {ps : Array (Nat × Operand)} {ds : List D} (h : Rel B Xs G w0 ⟨fr, os, bs⟩ E a w) (ht : elemOf' P t = some (e, s)) (he : ekOk P e s = true) (hn : n * s ≤ 2 ^ 24) (hp : ps.toList.map (·.1) = List.range n)
    (hd : avsD ((ps.toList.map fun p => opd p.2).map (St.ev ⟨fr, os, bs⟩)) = some ds) (hs : ∀ d ∈ ds, d.sz = s) (hl : ds.length = n) :
    Good P B Xs G w0 fr a w ⟨d, .buildSlice t n ps, ty, pos, after, guard⟩ Q (.c false [.own os.length 0]) (os ++ [⟨ds, e, s, 0, ((ps.toList.map fun p => opd p.2).map (St.ev ⟨fr, os, bs⟩)).all AV.nw⟩]) bs := by
  have e1 : (ps.toList.map fun p => opd p.2).map (St.ev ⟨fr, os, bs⟩) = (ps.toList.map (·.2)).map fun x => St.ev ⟨fr, os, bs⟩ (opd x) := by simp
  rw [e1] at hd ⊢
  obtain ⟨o1, l1, s1, fp, r1, m1⟩ := avs_ok h _ ds hd
  have hrun := run_bs (P := P) (w := w) (a := a) ht he hn hp (s1 s hs)
  have hb : Below w.heap.size w (w.alloc (.cells ((ps.toList.map (·.2)).flatMap fun x => (a.eval x).cells.toList).toArray e)) := (Below.refl _ _).alloc (Nat.le_refl _) _
  have hs9 : 0 < s := by obtain ⟨_, _, _, _, _, _, _, h9⟩ := ekOk_spec he; exact h9
  have hnm : n ≤ maxLen := by
    have : n * 1 ≤ n * s := Nat.mul_le_mul_left n hs9
    unfold maxLen
    omega
  have hfl := flat_len (a := a) (s1 s hs)
  intro K hK
  refine wp_run (v := .slice (some ⟨w.heap.size, 0, none⟩) n n) ?_ (hK { E with om := E.om ++ [(.slice (some ⟨w.heap.size, 0, none⟩) n n, fp)] } _ _ (h.newOwn hb (o := ⟨ds, e, s, 0, _⟩) (cs := (ps.toList.map (·.2)).flatMap fun x => (a.eval x).cells.toList) ?_ (r1.below hb) (fun z hz => ⟨D.ones_mem o1 z hz, hs z hz⟩) (fun b hbm => ?_) rfl d))
  · simp only [execOp, Sem.run_bind, hrun, Result.andThen_ok]; rfl
  · have := OwnsAt.of (World.ownsRow_lit (base := w.heap.size) (e := e) (size := s) w ((ps.toList.map (·.2)).flatMap fun x => (a.eval x).cells.toList).toArray n (Nat.le_refl _) hnm (by simp only [List.size_toArray]; rw [hfl, ← l1, hl]))
    simpa [hl] using this
  · refine ⟨(m1 b hbm).1, fun e2 => ?_, fun e2 => (m1 b hbm).2 e2⟩
    simp only [Value.ownBlock, Option.some.injEq] at e2
    have := Rs.lt r1 b hbm
    omega

theorem Rs_rep {w : World} (z : Value) : ∀ k, Rs w (List.replicate k (.leaf z)) [] (List.replicate k z)
  | 0 => ⟨rfl, rfl⟩
  | k + 1 => by
    rw [List.replicate_succ, List.replicate_succ]
    exact (Rs_leaf).2 ⟨_, rfl, Rs_rep z k⟩
theorem simpleZ_cells {z : Value} (h : simpleZ z = true) : z.cells = #[z] ∧ (D.leaf z).one ∧ (D.leaf z).sz = 1 := by
  cases z <;> first | (simp [simpleZ] at h; done) | exact ⟨rfl, rfl, rfl⟩
theorem same_eval {a : Act} {l c : Operand} (h : sameT (opd l) (opd c) = true) : a.eval c = a.eval l := by
  cases l <;> cases c <;> simp [opd, sameT] at h <;> (try subst h) <;> first | rfl | (simp_all; done)
theorem good_mk {t e k : Nat} {l c : Operand} {z : Value} (h : Rel B Xs G w0 ⟨fr, os, bs⟩ E a w) (ht : elemOf' P t = some (e, 1)) (he : ekOk P e 1 = true) (hz : (P.info? e).bind (·.zero) = some z) (hs : simpleZ z = true) (hlc : sameT (opd l) (opd c) = true)
    (hl : rawI (St.ev ⟨fr, os, bs⟩ (opd l)) = some ((k : Nat) : Int)) (hk : k ≤ 4194304) :
    Good P B Xs G w0 fr a w ⟨d, .makeSlice t l c, ty, pos, after, guard⟩ Q (.c false [.own os.length 0]) (os ++ [⟨List.replicate k (.leaf z), e, 1, 0, true⟩]) bs := by
  obtain ⟨ik, hx⟩ := rawI_of hl
  have hev : a.eval l = .int ik k := eval_raw h hx
  have hec : a.eval c = .int ik k := (same_eval hlc).trans hev
  obtain ⟨g1, i, g2, g3⟩ := elemOf_spec ht
  obtain ⟨i', z', g4, g5, g6, g7, g8, g9⟩ := ekOk_spec he
  rw [g2] at g4
  injection g4 with g4
  subst g4
  rw [g2] at hz
  have hz' : i.zero = some z := hz
  obtain ⟨q1, q2, q3⟩ := simpleZ_cells hs
  have hby : i.bytes * k ≤ 281474976710656 := Nat.le_trans (Nat.mul_le_mul g7 hk) (by decide)
  have hrun := Go.run_make_row (P := P) t e i z g1 g2 hz' g3 q1 ik ik k hby (by omega) w
  have hb : Below w.heap.size w (w.alloc (.cells (madeCells #[z] k) e)) := (Below.refl _ _).alloc (Nat.le_refl _) _
  have hcs : (madeCells #[z] k).toList = List.replicate k z := by
    apply List.ext_getElem
    · simp [madeCells]
    · intro j h1 h2
      simp [madeCells, Nat.mod_one]
  intro K hK
  refine wp_run (v := .slice (some ⟨w.heap.size, 0, none⟩) k k) ?_ (hK { E with om := E.om ++ [(.slice (some ⟨w.heap.size, 0, none⟩) k k, [])] } _ _ (h.newOwn hb (o := ⟨List.replicate k (.leaf z), e, 1, 0, true⟩) (cs := List.replicate k z) ?_ (Rs_rep z k) (fun y hy => by obtain ⟨_, rfl⟩ := List.mem_replicate.1 hy; exact ⟨q2, q3⟩) (fun b hb => by simp at hb) rfl d))
  · simp only [execOp, Sem.run_bind, hev, hec, hrun, Result.andThen_ok]; rfl
  · have := OwnsAt.of (World.ownsRow_lit (base := w.heap.size) (e := e) (size := 1) w (madeCells #[z] k) k (Nat.le_refl _) (by unfold maxLen; omega) (by simp [madeCells]))
    rw [hcs] at this
    simpa using this
/-! ### Calls -/
theorem argD_ok {st : St} (h : Rel B Xs G w0 st E a w) {x : AC} {dd : D} {v : Value} (hd : argD st.owns x = some dd) (hx : x.ok E st.owns w v) : dd.sz = 1 ∧ ∃ fp, R w dd fp [v] := by
  cases x with
  | own k i =>
    simp only [argD] at hd
    obtain ⟨_, o, p, h1, h2, h3, h4⟩ := hx
    rw [h1] at hd
    simp only at hd
    split at hd
    · next hv =>
      injection hd with hd
      subst hd
      obtain rfl := h4 hv
      obtain ⟨cs, h5, h6, _⟩ := h.own k o p h1 h2
      exact ⟨rfl, _, Sl.of_at h5 h6⟩
    · cases hd
  | osub k i p q =>
    simp only [argD] at hd
    obtain ⟨_, o, pp, h1, h2, h3, h4⟩ := hx
    rw [h1] at hd
    simp only at hd
    split at hd
    · next hv =>
      injection hd with hd
      subst hd
      obtain ⟨A, n, c, q1, q2, q3, rfl⟩ := h4 hv
      obtain ⟨cs, h5, h6, h7, _⟩ := h.own k o pp h1 h2
      have hS := Sl.of_at h5 h6
      rw [q1] at hS
      have hn : n = o.l.length := by
        obtain ⟨A', c', e1, _, _⟩ := hS.form
        injection e1
      obtain ⟨f, h9, _⟩ := Sl.sub hS (s := o.s) (fun d hd => (h7 d hd).2) q2 (by omega)
      exact ⟨rfl, f, h9⟩
    · cases hd
  | cl f caps => simp [argD, AC.toD] at hd
  | any => simp [argD, AC.toD] at hd
  | raw u => obtain ⟨_, h1, fp, h2, _⟩ := toD_ok (x := .raw u) hd hx; exact ⟨h1, fp, h2⟩
  | sl n l => obtain ⟨_, h1, fp, h2, _⟩ := toD_ok (x := .sl n l) hd hx; exact ⟨h1, fp, h2⟩
theorem argsD_ok {st : St} (h : Rel B Xs G w0 st E a w) : ∀ {xs : List AC} {ds : List D} {vs : List Value}, argsD st.owns xs = some ds → Oks E st.owns w xs vs → ∃ fp, Rs w ds fp vs
  | [], ds, [], hd, _ => by
    injection hd with hd
    subst hd
    exact ⟨[], rfl, rfl⟩
  | x :: xs, ds, v :: vs, hd, hx => by
    rw [argsD] at hd
    split at hd
    · next d ds' h1 h2 =>
      injection hd with hd
      subst hd
      obtain ⟨_, f1, r1⟩ := argD_ok h h1 hx.1
      obtain ⟨f2, r2⟩ := argsD_ok h h2 hx.2
      exact ⟨f1 ++ f2, f1, f2, [v], vs, rfl, rfl, r1, r2⟩
    · cases hd
  | [], _, _ :: _, _, h => h.elim
  | _ :: _, _, [], _, h => h.elim
theorem arg_ok {st : St} (h : Rel B Xs G w0 st E a w) {x : AV} {dd : D} {v : Value} (hd : ArgOk st.owns x dd) (hx : x.ok E st.owns w v) : Rd w dd v := by
  cases x with
  | c g xs =>
    obtain ⟨h1, rfl⟩ := hd
    unfold Rd
    cases hg : dd.isAgg with
    | true =>
      rw [if_pos rfl]
      rw [hg] at hx
      obtain ⟨vs, h2, h3⟩ := hx
      obtain ⟨fp, h4⟩ := argsD_ok h h1 h3
      exact ⟨fp, vs, h2, R_flat.2 h4⟩
    | false =>
      rw [if_neg (by simp)]
      rw [hg] at hx
      obtain ⟨fp, h4⟩ := argsD_ok h h1 (show Oks E st.owns w xs [v] from hx)
      exact ⟨fp, R_flat.2 h4⟩
  | any => exact hd.elim
  | ptr _ => exact hd.elim
  | bptr _ _ => exact hd.elim
  | eptr _ _ _ _ => exact hd.elim
  | tup _ => exact hd.elim
theorem args_ok {st : St} (h : Rel B Xs G w0 st E a w) : ∀ {xs : List Operand} {ds : List D}, ArgsOk st.owns (xs.map fun x => st.ev (opd x)) ds → Rds w ds (xs.map a.eval)
  | [], [], _ => trivial
  | x :: xs, d :: ds, hd => ⟨arg_ok h hd.1 (ev_ok h x), args_ok h hd.2⟩
  | [], _ :: _, hd => hd.elim
  | _ :: _, [], hd => hd.elim
theorem argsD_okF {st : St} (h : Rel B Xs G w0 st E a w) : ∀ {xs : List AC} {ds : List D} {vs : List Value}, argsD [] xs = some ds → Oks E st.owns w xs vs → ∃ fp, Rs w ds fp vs ∧ ∀ b ∈ fp, b < w.heap.size ∧ b ∉ E.M
  | [], ds, [], hd, _ => by
    injection hd with hd
    subst hd
    exact ⟨[], ⟨rfl, rfl⟩, fun b hb => by simp at hb⟩
  | x :: xs, ds, v :: vs, hd, hx => by
    rw [argsD] at hd
    split at hd
    · next d ds' h1 h2 =>
      injection hd with hd
      subst hd
      have h1' : x.toD = some d := by cases x <;> simp_all [argD]
      obtain ⟨_, _, f1, r1, m1⟩ := toD_ok h1' hx.1
      obtain ⟨f2, r2, m2⟩ := argsD_okF h h2 hx.2
      refine ⟨f1 ++ f2, ⟨f1, f2, [v], vs, rfl, rfl, r1, r2⟩, fun b hb => ?_⟩
      rcases List.mem_append.1 hb with hb | hb
      · exact ⟨R.lt r1 b hb, (m1 b hb).1⟩
      · exact m2 b hb
    · cases hd
  | [], _, _ :: _, _, h => h.elim
  | _ :: _, _, [], _, h => h.elim
theorem RdF.mono {F G : List Nat} {d : D} {v : Value} (h : RdF w F d v) (hs : ∀ b ∈ F, b ∈ G) : RdF w G d v := by
  unfold RdF at *
  split at h
  · obtain ⟨fp, cs, h1, h2, h3⟩ := h
    rw [if_pos (by assumption)]
    exact ⟨fp, cs, h1, h2, fun b hb => hs b (h3 b hb)⟩
  · obtain ⟨fp, h2, h3⟩ := h
    rw [if_neg (by assumption)]
    exact ⟨fp, h2, fun b hb => hs b (h3 b hb)⟩
theorem RdsF.mono {F G : List Nat} (hs : ∀ b ∈ F, b ∈ G) : ∀ {ds : List D} {vs : List Value}, RdsF w F ds vs → RdsF w G ds vs
  | [], [], _ => trivial
  | d :: ds, v :: vs, h => ⟨h.1.mono hs, RdsF.mono hs h.2⟩
  | [], _ :: _, h => h.elim
  | _ :: _, [], h => h.elim
theorem arg_okF {st : St} (h : Rel B Xs G w0 st E a w) {x : AV} {dd : D} {v : Value} (hd : ArgOk [] x dd) (hx : x.ok E st.owns w v) : ∃ F, RdF w F dd v ∧ ∀ b ∈ F, b < w.heap.size ∧ b ∉ E.M := by
  cases x with
  | c g xs =>
    obtain ⟨h1, rfl⟩ := hd
    unfold RdF
    cases hg : dd.isAgg with
    | true =>
      rw [hg] at hx
      obtain ⟨vs, h2, h3⟩ := hx
      obtain ⟨fp, h4, h5⟩ := argsD_okF h h1 h3
      exact ⟨fp, by rw [if_pos rfl]; exact ⟨fp, vs, h2, R_flat.2 h4, fun b hb => hb⟩, h5⟩
    | false =>
      rw [hg] at hx
      obtain ⟨fp, h4, h5⟩ := argsD_okF h h1 (show Oks E st.owns w xs [v] from hx)
      exact ⟨fp, by rw [if_neg (by simp)]; exact ⟨fp, R_flat.2 h4, fun b hb => hb⟩, h5⟩
  | any => exact hd.elim
  | ptr _ => exact hd.elim
  | bptr _ _ => exact hd.elim
  | eptr _ _ _ _ => exact hd.elim
  | tup _ => exact hd.elim
theorem args_okF {st : St} (h : Rel B Xs G w0 st E a w) : ∀ {xs : List Operand} {ds : List D}, ArgsOk [] (xs.map fun x => st.ev (opd x)) ds → ∃ F, RdsF w F ds (xs.map a.eval) ∧ ∀ b ∈ F, b < w.heap.size ∧ b ∉ E.M
  | [], [], _ => ⟨[], trivial, fun b hb => by simp at hb⟩
  | x :: xs, d :: ds, hd => by
    obtain ⟨F1, h1, h2⟩ := arg_okF h hd.1 (ev_ok h x)
    obtain ⟨F2, h3, h4⟩ := args_okF h hd.2
    refine ⟨F1 ++ F2, ⟨h1.mono (fun b hb => List.mem_append_left _ hb), h3.mono (fun b hb => List.mem_append_right _ hb)⟩, fun b hb => ?_⟩
    rcases List.mem_append.1 hb with hb | hb
    · exact h2 b hb
    · exact h4 b hb
  | [], _ :: _, hd => hd.elim
  | _ :: _, [], hd => hd.elim
theorem wp_call {f : Nat} {args : Array Operand} {ats : Array TypeId} {fn : Func} (hf : P.funcs[f]? = some fn) (hn : (fn.name == "runtime.NumGoroutine" || fn.body.isNone) = false)
    (h : Calls P f (args.toList.map a.eval).toArray w fun e w' => ∃ v, e = .returned v ∧ K (a.put d v) w') : Oper.wp P ⟨d, .call { callee := .value (.func f), args := args, argTypes := ats }, ty, pos, after, guard⟩ a w K Q := by
  simp only [Bool.or_eq_false_iff] at hn
  have hn1 : ¬ fn.name = "runtime.NumGoroutine" := by simpa using hn.1
  have hn2 : ¬ fn.body = none := by intro e0; rw [e0] at hn; simp at hn
  have hrun : (execOp a.eval ⟨d, .call { callee := .value (.func f), args := args, argTypes := ats }, ty, pos, after, guard⟩).run P w = .ok (.enter f (args.toList.map a.eval).toArray) w := by
    have e1 : args.map a.eval = (args.toList.map a.eval).toArray := by apply Array.ext'; simp
    simp [execOp, resolve, Deferred.ofValue, invoke, callFunc, Act.eval, hf, hn1, hn2, e1]
  unfold Oper.wp
  rw [hrun, Oper.upon_enter]
  refine h.mono ?_
  rintro e w' ⟨v, rfl, hK⟩
  exact hK
theorem ok_of_new {H : Nat} {w' : World} (h : Rel B Xs G w0 ⟨fr, os, bs⟩ E a w) (hH : H = w.heap.size) : ∀ {x : AC} {v : Value}, x.ok (newEnv H) [] w' v → x.ok E os w' v := by
  subst hH
  intro x v hx
  cases x with
  | any => trivial
  | raw u => exact hx
  | sl n l =>
    obtain ⟨fp, h1, h2⟩ := hx
    refine ⟨fp, h1, fun b hb => ⟨fun hm => ?_, fun _ => ?_⟩⟩
    · have := newEnv_M.1 (h2 b hb).1
      have := (M_lt h hm).2
      omega
    · have := newEnv_M.1 (h2 b hb).1
      have := h.base
      exact h.nw_of (by omega)
  | own k i =>
    obtain ⟨_, o, p, h1, _⟩ := hx
    simp at h1
  | osub k i a b =>
    obtain ⟨_, o, p, h1, _⟩ := hx
    simp at h1
  | cl f caps =>
    obtain ⟨ps, h1, h2⟩ := hx
    cases caps with
    | nil =>
      cases ps with
      | nil => exact ⟨[], rfl, h2⟩
      | cons p ps => simp at h1
    | cons k caps => cases ps <;> simp [newEnv, oldEnv] at h1
theorem oks_of_new {w' : World} (h : Rel B Xs G w0 ⟨fr, os, bs⟩ E a w) : ∀ {xs : List AC} {vs : List Value}, Oks (newEnv w.heap.size) [] w' xs vs → Oks E os w' xs vs
  | [], [], _ => trivial
  | x :: xs, v :: vs, hx => ⟨ok_of_new h rfl hx.1, oks_of_new h hx.2⟩
  | [], _ :: _, hx => hx.elim
  | _ :: _, [], hx => hx.elim
theorem gok_of_new {w' : World} (h : Rel B Xs G w0 ⟨fr, os, bs⟩ E a w) {g : Bool} {xs : List AC} {v : Value} (hx : Gok (newEnv w.heap.size) [] w' g xs v) : Gok E os w' g xs v := by
  cases g with
  | true => obtain ⟨vs, h1, h2⟩ := hx; exact ⟨vs, h1, oks_of_new h h2⟩
  | false => exact oks_of_new h (show Oks _ _ _ xs [v] from hx)
theorem toks_of_new {w' : World} (h : Rel B Xs G w0 ⟨fr, os, bs⟩ E a w) : ∀ {xs : List (Bool × List AC)} {vs : List Value}, Toks (newEnv w.heap.size) [] w' xs vs → Toks E os w' xs vs
  | [], [], _ => trivial
  | x :: xs, v :: vs, hx => ⟨gok_of_new h hx.1, toks_of_new h hx.2⟩
  | [], _ :: _, hx => hx.elim
  | _ :: _, [], hx => hx.elim
theorem av_of_new {w' : World} (h : Rel B Xs G w0 ⟨fr, os, bs⟩ E a w) {r : AV} {v : Value} (hr : r.res) (hx : r.ok (newEnv w.heap.size) [] w' v) : r.ok E os w' v := by
  cases r with
  | any => trivial
  | c g xs => exact gok_of_new h hx
  | tup ys => obtain ⟨vs, h1, h2⟩ := hx; exact ⟨vs, h1, toks_of_new h h2⟩
  | ptr _ => exact hr.elim
  | bptr _ _ => exact hr.elim
  | eptr _ _ _ _ => exact hr.elim
theorem ok_of_old {H : Nat} {F : List Nat} {w' : World} (h : Rel B Xs G w0 ⟨fr, os, bs⟩ E a w) (hH : H = w.heap.size) (hF : ∀ b ∈ F, b ∉ E.M) : ∀ {x : AC} {v : Value}, x.old = true → x.ok (oldEnv H F) [] w' v → x.ok E os w' v := by
  subst hH
  intro x v ho hx
  cases x with
  | any => trivial
  | raw u => exact hx
  | sl n l =>
    obtain ⟨fp, h1, h2⟩ := hx
    refine ⟨fp, h1, fun b hb => ⟨fun hm => ?_, fun e => ?_⟩⟩
    · rcases oldEnv_M.1 (h2 b hb).1 with h3 | h3
      · have := (M_lt h hm).2
        omega
      · exact hF b h3 hm
    · subst e
      simp [AC.old] at ho
  | own k i =>
    obtain ⟨_, o, p, h1, _⟩ := hx
    simp at h1
  | osub k i a b =>
    obtain ⟨_, o, p, h1, _⟩ := hx
    simp at h1
  | cl f caps =>
    obtain ⟨ps, h1, h2⟩ := hx
    cases caps with
    | nil =>
      cases ps with
      | nil => exact ⟨[], rfl, h2⟩
      | cons p ps => simp at h1
    | cons k caps => cases ps <;> simp [newEnv, oldEnv] at h1
theorem oks_of_old {F : List Nat} {w' : World} (h : Rel B Xs G w0 ⟨fr, os, bs⟩ E a w) (hF : ∀ b ∈ F, b ∉ E.M) : ∀ {xs : List AC} {vs : List Value}, xs.all AC.old = true → Oks (oldEnv w.heap.size F) [] w' xs vs → Oks E os w' xs vs
  | [], [], _, _ => trivial
  | x :: xs, v :: vs, ho, hx => by
    simp only [List.all_cons, Bool.and_eq_true] at ho
    exact ⟨ok_of_old h rfl hF ho.1 hx.1, oks_of_old h hF ho.2 hx.2⟩
  | [], _ :: _, _, hx => hx.elim
  | _ :: _, [], _, hx => hx.elim
theorem gok_of_old {F : List Nat} {w' : World} (h : Rel B Xs G w0 ⟨fr, os, bs⟩ E a w) (hF : ∀ b ∈ F, b ∉ E.M) {g : Bool} {xs : List AC} {v : Value} (ho : xs.all AC.old = true) (hx : Gok (oldEnv w.heap.size F) [] w' g xs v) : Gok E os w' g xs v := by
  cases g with
  | true => obtain ⟨vs, h1, h2⟩ := hx; exact ⟨vs, h1, oks_of_old h hF ho h2⟩
  | false => exact oks_of_old h hF ho (show Oks _ _ _ xs [v] from hx)
theorem toks_of_old {F : List Nat} {w' : World} (h : Rel B Xs G w0 ⟨fr, os, bs⟩ E a w) (hF : ∀ b ∈ F, b ∉ E.M) : ∀ {xs : List (Bool × List AC)} {vs : List Value}, (xs.all fun y => y.2.all AC.old) = true → Toks (oldEnv w.heap.size F) [] w' xs vs → Toks E os w' xs vs
  | [], [], _, _ => trivial
  | x :: xs, v :: vs, ho, hx => by
    simp only [List.all_cons, Bool.and_eq_true] at ho
    exact ⟨gok_of_old h hF ho.1 hx.1, toks_of_old h hF ho.2 hx.2⟩
  | [], _ :: _, _, hx => hx.elim
  | _ :: _, [], _, hx => hx.elim
theorem av_of_old {F : List Nat} {w' : World} (h : Rel B Xs G w0 ⟨fr, os, bs⟩ E a w) (hF : ∀ b ∈ F, b ∉ E.M) {r : AV} {v : Value} (hr : r.old = true) (hx : r.ok (oldEnv w.heap.size F) [] w' v) : r.ok E os w' v := by
  cases r with
  | any => trivial
  | c g xs => exact gok_of_old h hF hr hx
  | tup ys => obtain ⟨vs, h1, h2⟩ := hx; exact ⟨vs, h1, toks_of_old h hF hr h2⟩
  | ptr _ => cases hr
  | bptr _ _ => cases hr
  | eptr _ _ _ _ => cases hr
theorem ok_of_out {w' : World} {os' : List Own} {om : List (Value × List Nat)} {E' : Env} (h : Rel B Xs G w0 ⟨fr, os, bs⟩ E a w) (hM : ∀ b, b ∈ E'.M ↔ b ∈ E.M ∨ b ∈ om.flatMap fun q => q.1.ownBlock.toList) (hn : E'.nw = E.nw) (ho : E'.om = E.om ++ om) :
    ∀ {x : AC} {v : Value}, x.out = true → x.ok ⟨w.heap.size, om, [], []⟩ os' w' v → (x.shift os.length).ok E' (os ++ os') w' v := by
  intro x v hx hv
  cases x with
  | any => trivial
  | raw u => exact hv
  | sl n l =>
    obtain rfl : n = true := hx
    obtain ⟨fp, h1, h2⟩ := hv
    refine ⟨fp, h1, fun b hb => ⟨fun hm => ?_, fun _ => ?_⟩⟩
    · have h3 : w.heap.size ≤ b := by have := (h2 b hb).2 rfl; simpa [Env.nw] using this
      rcases (hM b).1 hm with h' | h'
      · have := (M_lt h h').2
        omega
      · exact (h2 b hb).1 (by simpa [Env.M] using h')
    · have h3 : w.heap.size ≤ b := by have := (h2 b hb).2 rfl; simpa [Env.nw] using this
      rw [hn]
      exact h.nw_of (Nat.le_trans h.base h3)
  | own k i =>
    obtain ⟨hf, o, p, h1, h2, h3, h4⟩ := hv
    refine ⟨hf, o, p, ?_, ?_, h3, h4⟩
    · rw [List.getElem?_append_right (by omega), Nat.add_sub_cancel_left]; exact h1
    · have := h.olen
      simp only at this
      rw [ho, List.getElem?_append_right (by omega), this, Nat.add_sub_cancel_left]; exact h2
  | osub k i a b => cases hx
  | cl f caps =>
    obtain ⟨ps, h1, h2⟩ := hv
    cases caps with
    | nil =>
      cases ps with
      | nil => exact ⟨[], rfl, h2⟩
      | cons p ps => simp at h1
    | cons k caps => cases ps <;> simp [newEnv, oldEnv] at h1
theorem oks_of_out {w' : World} {os' : List Own} {om : List (Value × List Nat)} {E' : Env} (h : Rel B Xs G w0 ⟨fr, os, bs⟩ E a w) (hM : ∀ b, b ∈ E'.M ↔ b ∈ E.M ∨ b ∈ om.flatMap fun q => q.1.ownBlock.toList) (hn : E'.nw = E.nw) (ho : E'.om = E.om ++ om) :
    ∀ {xs : List AC} {vs : List Value}, xs.all AC.out = true → Oks ⟨w.heap.size, om, [], []⟩ os' w' xs vs → Oks E' (os ++ os') w' (xs.map (AC.shift os.length)) vs
  | [], [], _, _ => trivial
  | x :: xs, v :: vs, hx, hv => by
    simp only [List.all_cons, Bool.and_eq_true] at hx
    exact ⟨ok_of_out h hM hn ho hx.1 hv.1, oks_of_out h hM hn ho hx.2 hv.2⟩
  | [], _ :: _, _, hv => hv.elim
  | _ :: _, [], _, hv => hv.elim
theorem gok_of_out {w' : World} {os' : List Own} {om : List (Value × List Nat)} {E' : Env} (h : Rel B Xs G w0 ⟨fr, os, bs⟩ E a w) (hM : ∀ b, b ∈ E'.M ↔ b ∈ E.M ∨ b ∈ om.flatMap fun q => q.1.ownBlock.toList) (hn : E'.nw = E.nw) (ho : E'.om = E.om ++ om)
    {g : Bool} {xs : List AC} {v : Value} (hx : xs.all AC.out = true) (hv : Gok ⟨w.heap.size, om, [], []⟩ os' w' g xs v) : Gok E' (os ++ os') w' g (xs.map (AC.shift os.length)) v := by
  cases g with
  | true => obtain ⟨vs, h1, h2⟩ := hv; exact ⟨vs, h1, oks_of_out h hM hn ho hx h2⟩
  | false => exact oks_of_out h hM hn ho hx (show Oks _ _ _ xs [v] from hv)
theorem toks_of_out {w' : World} {os' : List Own} {om : List (Value × List Nat)} {E' : Env} (h : Rel B Xs G w0 ⟨fr, os, bs⟩ E a w) (hM : ∀ b, b ∈ E'.M ↔ b ∈ E.M ∨ b ∈ om.flatMap fun q => q.1.ownBlock.toList) (hn : E'.nw = E.nw) (ho : E'.om = E.om ++ om) :
    ∀ {ys : List (Bool × List AC)} {vs : List Value}, (ys.all fun y => y.2.all AC.out) = true → Toks ⟨w.heap.size, om, [], []⟩ os' w' ys vs → Toks E' (os ++ os') w' (ys.map fun y => (y.1, y.2.map (AC.shift os.length))) vs
  | [], [], _, _ => trivial
  | y :: ys, v :: vs, hx, hv => by
    simp only [List.all_cons, Bool.and_eq_true] at hx
    exact ⟨gok_of_out h hM hn ho hx.1 hv.1, toks_of_out h hM hn ho hx.2 hv.2⟩
  | [], _ :: _, _, hv => hv.elim
  | _ :: _, [], _, hv => hv.elim
theorem good_callX {f : Nat} {args : Array Operand} {ats : Array TypeId} {fn : Func} {ds : List D} {r : AV} {os' : List Own} (h : Rel B Xs G w0 ⟨fr, os, bs⟩ E a w) (hf : P.funcs[f]? = some fn) (hn : (fn.name == "runtime.NumGoroutine" || fn.body.isNone) = false)
    (ha : ArgsOk os (args.toList.map fun x => St.ev ⟨fr, os, bs⟩ (opd x)) ds) (hc : CallsX P f ds r os') (hr : r.out = true) :
    Good P B Xs G w0 fr a w ⟨d, .call { callee := .value (.func f), args := args, argTypes := ats }, ty, pos, after, guard⟩ Q (r.shift os.length) (os ++ os') bs := by
  intro K hK
  refine wp_call hf hn ((hc w _ (args_ok h ha) h.below.now).mono ?_)
  rintro e w' ⟨v, om, rfl, ho, hx, hb⟩
  refine ⟨_, rfl, hK _ _ w' (h.addOwns hb ho d (fun E' hM hnw hom => ?_))⟩
  cases r with
  | any => trivial
  | c g xs => exact gok_of_out h hM hnw hom hr hx
  | tup ys => obtain ⟨vs, h1, h2⟩ := hx; exact ⟨vs, h1, toks_of_out h hM hnw hom hr h2⟩
  | ptr _ => cases hr
  | bptr _ _ => cases hr
  | eptr _ _ _ _ => cases hr
theorem good_callA {f : Nat} {args : Array Operand} {ats : Array TypeId} {fn : Func} {ds : List D} {r : AV} (h : Rel B Xs G w0 ⟨fr, os, bs⟩ E a w) (hf : P.funcs[f]? = some fn) (hn : (fn.name == "runtime.NumGoroutine" || fn.body.isNone) = false)
    (ha : ArgsOk [] (args.toList.map fun x => St.ev ⟨fr, os, bs⟩ (opd x)) ds) (hc : CallsToA P f ds r) (hr : r.old = true) :
    Good P B Xs G w0 fr a w ⟨d, .call { callee := .value (.func f), args := args, argTypes := ats }, ty, pos, after, guard⟩ Q r os bs := by
  intro K hK
  obtain ⟨F, h1, h2⟩ := args_okF h ha
  refine wp_call hf hn ((hc w F _ (fun b hb => (h2 b hb).1) h1 h.below.now).mono ?_)
  rintro e w' ⟨v, rfl, hx, hb⟩
  exact ⟨v, rfl, hK E v w' (h.below_put hb (av_of_old h (fun b hb => (h2 b hb).2) hr hx))⟩
theorem good_call {f : Nat} {args : Array Operand} {ats : Array TypeId} {fn : Func} {ds : List D} {r : AV} (h : Rel B Xs G w0 ⟨fr, os, bs⟩ E a w) (hf : P.funcs[f]? = some fn) (hn : (fn.name == "runtime.NumGoroutine" || fn.body.isNone) = false)
    (ha : ArgsOk os (args.toList.map fun x => St.ev ⟨fr, os, bs⟩ (opd x)) ds) (hc : CallsTo P f ds r) (hr : r.res) :
    Good P B Xs G w0 fr a w ⟨d, .call { callee := .value (.func f), args := args, argTypes := ats }, ty, pos, after, guard⟩ Q r os bs := by
  intro K hK
  refine wp_call hf hn ((hc w _ (args_ok h ha) h.below.now).mono ?_)
  rintro e w' ⟨v, rfl, hx, hb⟩
  exact ⟨v, rfl, hK E v w' (h.below_put hb (av_of_new h hr hx))⟩
theorem good_callO {f : Nat} {args : Array Operand} {ats : Array TypeId} {fn : Func} {ds l : List D} {g : Bool} {e s : Nat} (h : Rel B Xs G w0 ⟨fr, os, bs⟩ E a w) (hf : P.funcs[f]? = some fn) (hn : (fn.name == "runtime.NumGoroutine" || fn.body.isNone) = false)
    (ha : ArgsOk os (args.toList.map fun x => St.ev ⟨fr, os, bs⟩ (opd x)) ds) (hc : CallsOwnG P f ds g l e s) (hl : El s l) :
    Good P B Xs G w0 fr a w ⟨d, .call { callee := .value (.func f), args := args, argTypes := ats }, ty, pos, after, guard⟩ Q (.c g [.own os.length 0]) (os ++ [⟨l, e, s, 0, true⟩]) bs := by
  intro K hK
  refine wp_call hf hn ((hc w _ (args_ok h ha) h.below.now).mono ?_)
  rintro e w' ⟨v, cs, f', rfl, h1, h2, h3, hb⟩
  refine ⟨_, rfl, hK _ _ w' (h.newOwnG hb (o := ⟨l, _, s, 0, true⟩) h1 h2 hl (fun b hbm => ⟨fun hm => ?_, (h3 b hbm).1, fun _ => ?_⟩) rfl d (fun E' os' hx => ?_))⟩
  · have := (M_lt h hm).2
    have := (h3 b hbm).2
    omega
  · have := h.base
    have := (h3 b hbm).2
    exact h.nw_of (by omega)
  · cases g with
    | false => exact ⟨hx, trivial⟩
    | true => exact ⟨[v], rfl, hx, trivial⟩
end
end Go.Proofs.YtdjcflnemnknaaaDoor

namespace Go.Proofs.YtdjcflnemnknaaaDoor
open Go.RowKit
set_option linter.unusedSimpArgs false
set_option linter.unusedVariables false
section
variable {P : Program} {B : Nat} {Xs : List Nat} {G : Org} {w0 : World} {fr : List AV} {os : List Own} {bs : List (List AC)} {E : Env} {a : Act} {w : World} {d : Option Tmp} {K : Act → World → Prop} {Q : Exit → Act → World → Prop}
  {ty : TypeId} {pos : String} {after : Array Edge} {guard : Option (Nat × Bool)}
theorem subB_spec {lo hi : Option Int} {n x y : Nat} (h : subB lo hi n = some (x, y)) : lo.getD 0 = (x : Int) ∧ hi.getD n = (y : Int) ∧ x ≤ y ∧ y ≤ n := by
  unfold subB at h
  simp only at h
  split at h
  · next hc =>
    injection h with h
    injection h with h1 h2
    have := Int.toNat_of_nonneg hc.1
    have := Int.toNat_of_nonneg (Int.le_trans hc.1 hc.2.1)
    refine ⟨by omega, by omega, by omega, by omega⟩
  · cases h
theorem opt_raw {st : St} (h : Rel B Xs G w0 st E a w) {lo : Option Operand} {lo' : Option Int} (hl : (lo.map opd).map (fun y => rawI (st.ev y)) = lo'.map some) :
    (lo = none ∧ lo' = none) ∨ ∃ x k z, lo = some x ∧ lo' = some z ∧ a.eval x = .int k z := by
  cases lo with
  | none => cases lo' with
    | none => exact Or.inl ⟨rfl, rfl⟩
    | some z => simp at hl
  | some x => cases lo' with
    | none => simp at hl
    | some z =>
      simp only [Option.map_some, Option.some.injEq] at hl
      obtain ⟨k, hk⟩ := rawI_of hl
      exact Or.inr ⟨x, k, z, rfl, rfl, eval_raw h hk⟩
theorem run_lsl {st : St} {t e : Nat} {x : Operand} {lo hi : Option Operand} {i : TypeInfo} {A : Option Addr} {n c p q : Nat} {lo' hi' : Option Int} (h : Rel B Xs G w0 st E a w) (ht : P.underlying t = some (.slice e)) (hi0 : P.info? e = some i) (he : a.eval x = .slice A n c) (hlc : n ≤ c) (hcm : c ≤ maxLen)
    (hlo : (lo.map opd).map (fun y => rawI (st.ev y)) = lo'.map some) (hhi : (hi.map opd).map (fun y => rawI (st.ev y)) = hi'.map some)
    (hb : subB lo' hi' n = some (p, q)) : (execOp a.eval ⟨d, .slice t x lo hi none, ty, pos, after, guard⟩).run P w = .ok (.value (sliced A p q c i.size)) w := by
  obtain ⟨b1, b2, b3, b4⟩ := subB_spec hb
  have ht' : P.underlying t = some (.slice (P.elem t)) := by rw [ht]; simp [Program.elem, ht]
  have hel : P.elem t = e := by simp [Program.elem, ht]
  have hsz : (sizeOf (P.elem t)).run P w = .ok i.size w := by rw [hel]; simp [sizeOf, typeInfo, hi0]
  rcases opt_raw h hlo with ⟨rfl, rfl⟩ | ⟨y, k, z, rfl, rfl, hy⟩ <;> rcases opt_raw h hhi with ⟨rfl, rfl⟩ | ⟨y2, k2, z2, rfl, rfl, hy2⟩
  · simp only [Option.getD_none] at b1 b2
    have : p = 0 := by omega
    have : q = n := by omega
    subst p q
    simp [execOp, he, run_sliceAt_slice w t _ _ _ _ ht', run_slice_all w t A n c ht', hsz]
  · simp only [Option.getD_none, Option.getD_some] at b1 b2
    have : p = 0 := by omega
    subst p b2
    have := run_slice_h w t A n c ht' k2 (q : Int) (by omega) (by omega)
    simp [execOp, he, hy2, run_sliceAt_slice w t _ _ _ _ ht', this, hsz]
  · simp only [Option.getD_none, Option.getD_some] at b1 b2
    have : q = n := by omega
    subst q b1
    have := run_slice_l w t A n c ht' k (p : Int) (by omega) (by omega)
    simp [execOp, he, hy, run_sliceAt_slice w t _ _ _ _ ht', this, hsz]
  · simp only [Option.getD_some] at b1 b2
    subst b1 b2
    have := run_slice_lh w t A n c ht' k k2 (p : Int) (q : Int) (by omega) (by omega) (by omega)
    simp [execOp, he, hy, hy2, run_sliceAt_slice w t _ _ _ _ ht', this, hsz]
theorem good_lsl {t e : Nat} {x : Operand} {lo hi : Option Operand} {i : TypeInfo} {n : Bool} {l : List D} {p q : Nat} {lo' hi' : Option Int} (h : Rel B Xs G w0 ⟨fr, os, bs⟩ E a w) (ht : P.underlying t = some (.slice e)) (hi0 : P.info? e = some i)
    (hx : St.ev ⟨fr, os, bs⟩ (opd x) = .c false [.sl n l]) (hlo : (lo.map opd).map (fun y => rawI (St.ev ⟨fr, os, bs⟩ y)) = lo'.map some) (hhi : (hi.map opd).map (fun y => rawI (St.ev ⟨fr, os, bs⟩ y)) = hi'.map some)
    (hb : subB lo' hi' l.length = some (p, q)) (hl : El i.size l) : Good P B Xs G w0 fr a w ⟨d, .slice t x lo hi none, ty, pos, after, guard⟩ Q (.c false [.sl n ((l.take q).drop p)]) os bs := by
  have hv := ev_ok h x
  rw [hx] at hv
  obtain ⟨⟨fp, h1, h2⟩, _⟩ := hv
  obtain ⟨A, c, he, hlc, hcm⟩ := Sl.form h1
  rw [he] at h1
  obtain ⟨b1, b2, b3, b4⟩ := subB_spec hb
  obtain ⟨f, h3, h4⟩ := Sl.sub h1 (s := i.size) (fun d hd => (hl d hd).2) b3 b4
  exact good_pure h (run_lsl h ht hi0 he hlc hcm hlo hhi hb) ⟨⟨f, h3, fun b hb => h2 b (h4 b hb)⟩, trivial⟩
/-- A part of an own slice: its value. -/
theorem lslO_run {st : St} {t e : Nat} {x : Operand} {lo hi : Option Operand} {i : TypeInfo} {k v p q : Nat} {o : Own} {lo' hi' : Option Int} (h : Rel B Xs G w0 st E a w) (ht : P.underlying t = some (.slice e)) (hi0 : P.info? e = some i)
    (hx : st.ev (opd x) = .c false [.own k v]) (ho : st.owns[k]? = some o) (hv : o.ver = v) (hs : o.s = i.size) (hlo : (lo.map opd).map (fun y => rawI (st.ev y)) = lo'.map some) (hhi : (hi.map opd).map (fun y => rawI (st.ev y)) = hi'.map some)
    (hb : subB lo' hi' o.l.length = some (p, q)) : ∃ u, (execOp a.eval ⟨d, .slice t x lo hi none, ty, pos, after, guard⟩).run P w = .ok (.value u) w ∧ (AC.osub k v p q).ok E st.owns w u := by
  have hev := ev_ok h x
  rw [hx] at hev
  obtain ⟨⟨_, o', pp, h1, h2, h3, h4⟩, _⟩ := hev
  rw [ho] at h1
  injection h1 with h1
  subst h1
  have he := h4 hv
  obtain ⟨cs, h5, h6, h7, h8⟩ := h.own k o pp ho h2
  obtain ⟨b1, b2, b3, b4⟩ := subB_spec hb
  obtain ⟨A, c, hlc, hcm, hv'⟩ : ∃ A c, o.l.length ≤ c ∧ c ≤ maxLen ∧ pp.1 = .slice A o.l.length c := by
    rcases h5.2 with ⟨q1, q2⟩ | ⟨g, z, cap, cur, q1, _, _, q2, q3, _⟩
    · exact ⟨none, 0, by omega, Nat.zero_le _, by rw [q1, q2]⟩
    · exact ⟨_, cap, q2, q3, q1⟩
  exact ⟨_, run_lsl h ht hi0 (he.trans hv') hlc hcm hlo hhi hb, ⟨_, _, _, rfl⟩, o, pp, ho, h2, h3, fun _ => ⟨A, _, c, hv', b3, b4, by rw [hs]⟩⟩
theorem good_ssl {t : Nat} {x : Operand} {lo hi : Option Operand} {s : ByteArray} {p q : Nat} {lo' hi' : Option Int} (h : Rel B Xs G w0 ⟨fr, os, bs⟩ E a w) (ht : P.underlying t = some .string)
    (hx : St.ev ⟨fr, os, bs⟩ (opd x) = .c false [.raw (.string s)]) (hlo : (lo.map opd).map (fun y => rawI (St.ev ⟨fr, os, bs⟩ y)) = lo'.map some) (hhi : (hi.map opd).map (fun y => rawI (St.ev ⟨fr, os, bs⟩ y)) = hi'.map some)
    (hb : subB lo' hi' s.size = some (p, q)) : Good P B Xs G w0 fr a w ⟨d, .slice t x lo hi none, ty, pos, after, guard⟩ Q (.c false [.raw (.string (s.extract p q))]) os bs := by
  have he := eval_raw h hx
  obtain ⟨b1, b2, b3, b4⟩ := subB_spec hb
  refine good_pure h (v := .string (s.extract p q)) ?_ ⟨rfl, trivial⟩
  rcases opt_raw h hlo with ⟨rfl, rfl⟩ | ⟨y, k, z, rfl, rfl, hy⟩ <;> rcases opt_raw h hhi with ⟨rfl, rfl⟩ | ⟨y2, k2, z2, rfl, rfl, hy2⟩
  · simp only [Option.getD_none] at b1 b2
    have : p = 0 := by omega
    have : q = s.size := by omega
    subst p q
    simp [execOp, he, Instr.sliceAt, Instr.slice, run_underlying ht, Instr.sliceBounds]
  · simp only [Option.getD_none, Option.getD_some] at b1 b2
    have : p = 0 := by omega
    subst p b2
    simp [execOp, he, hy2, Instr.sliceAt, Instr.slice, run_underlying ht, Instr.sliceBounds, Instr.sliceBound, asIntOf, b4]
  · simp only [Option.getD_none, Option.getD_some] at b1 b2
    have : q = s.size := by omega
    subst q b1
    simp [execOp, he, hy, Instr.sliceAt, Instr.slice, run_underlying ht, Instr.sliceBounds, Instr.sliceBound, asIntOf, b3]
  · simp only [Option.getD_some] at b1 b2
    subst b1 b2
    simp [execOp, he, hy, hy2, Instr.sliceAt, Instr.slice, run_underlying ht, Instr.sliceBounds, Instr.sliceBound, asIntOf, b3, b4]
theorem wp_len {t : Nat} {x : Operand} {ats : Array TypeId} {n : Int} (h : Rel B Xs G w0 ⟨fr, os, bs⟩ E a w) (hats : ats = #[t]) (hrun : (Builtin.len_ #[t] ty #[a.eval x]).run P w = .ok (.int .i64 n) w) :
    Good P B Xs G w0 fr a w ⟨d, .call { callee := .builtin .len, args := #[x], argTypes := ats }, ty, pos, after, guard⟩ Q (.c false [.raw (.int .i64 n)]) os bs := by
  subst hats
  refine good_pure h (v := .int .i64 n) ?_ ⟨rfl, trivial⟩
  simp [execOp, resolve, invoke, builtin, hrun]
theorem good_lenS {t e : Nat} {x : Operand} {m : Nat} (h : Rel B Xs G w0 ⟨fr, os, bs⟩ E a w) (ht : P.underlying t = some (.slice e)) (hx : ∃ A c, a.eval x = .slice A m c) :
    Good P B Xs G w0 fr a w ⟨d, .call { callee := .builtin .len, args := #[x], argTypes := #[t] }, ty, pos, after, guard⟩ Q (.c false [.raw (.int .i64 m)]) os bs := by
  obtain ⟨A, c, he⟩ := hx
  exact wp_len h rfl (by rw [he]; simp [Builtin.len_, run_underlying ht, goInt])
theorem good_lenT {t : Nat} {x : Operand} {s : ByteArray} (h : Rel B Xs G w0 ⟨fr, os, bs⟩ E a w) (ht : P.underlying t = some .string) (hx : a.eval x = .string s) :
    Good P B Xs G w0 fr a w ⟨d, .call { callee := .builtin .len, args := #[x], argTypes := #[t] }, ty, pos, after, guard⟩ Q (.c false [.raw (.int .i64 s.size)]) os bs :=
  wp_len h rfl (by rw [hx]; simp [Builtin.len_, run_underlying ht, goInt])

/-! ### append -/
theorem src_at {w : World} {base e s : Nat} {v : Value} {l : List D} {f : List Nat} {cs : List Value} (h : OwnsAt w base e s v l.length cs) (hr : Rs w l f cs) : Src w l f v := by
  rcases h.2 with ⟨hv', h9⟩ | ⟨g, z, cap, cur, hv', hg, hh, hn, hm, hsz, htk⟩
  · have : l = [] := List.eq_nil_of_length_eq_zero h9
    subst this
    exact ⟨none, 0, [], hv', by rw [hr.1]; exact ⟨rfl, rfl⟩, Or.inl ⟨rfl, rfl⟩⟩
  · obtain ⟨hat, hlt⟩ := h.at_ (g := g) (z := z) (by rw [hv']; rfl)
    exact ⟨some ⟨g, z, none⟩, cap, cs, hv', hr, Or.inr ⟨g, z, rfl, hlt, hat⟩⟩
theorem Rs.sub {w : World} {s : Nat} {l : List D} {f : List Nat} {cs : List Value} (h : Rs w l f cs) (hs : ∀ d ∈ l, d.sz = s) {a b : Nat} (hab : a ≤ b) (hb : b ≤ l.length) :
    ∃ f', Rs w ((l.take b).drop a) f' ((cs.take (b * s)).drop (a * s)) ∧ ∀ x ∈ f', x ∈ f := by
  rw [← List.take_append_drop b l] at h
  obtain ⟨f1, f2, c1, c2, rfl, rfl, h1, h2⟩ := Rs.split h
  have l1 : c1.length = b * s := by
    rw [h1.len, szs_const (s := s) _ (fun x hx => hs x (List.mem_of_mem_take hx)), List.length_take, Nat.min_eq_left hb]
  rw [List.take_left' l1]
  rw [← List.take_append_drop a (l.take b)] at h1
  obtain ⟨g1, g2, e1, e2, rfl, rfl, h3, h4⟩ := Rs.split h1
  have l2 : e1.length = a * s := by
    rw [h3.len, szs_const (s := s) _ (fun x hx => hs x (List.mem_of_mem_take (List.mem_of_mem_take hx))), List.length_take, List.length_take, Nat.min_eq_left (by omega)]
  rw [List.drop_left' l2]
  exact ⟨g2, h4, fun x hx => by simp [hx]⟩
theorem run_append_src {P : Program} {w : World} {t e s : Nat} (ty : TypeId) (ht : P.underlying t = some (.slice e)) (he : ekOk P e s = true) (base : Nat) (v : Value) (n : Nat) (cs0 : List Value) (hown : OwnsAt w base e s v n cs0) (l : List D) (f : List Nat) (vx : Value) (hsrc : Src w l f vx)
    (hel : El s l) (hn : n + l.length ≤ capN s) (hbase : base ≤ w.heap.size) :
    ∃ v' w' cs, (Builtin.append_ #[t, t] ty #[v, vx]).run P w = .ok v' w' ∧ Rs w l f cs ∧ OwnsAt w' base e s v' (n + l.length) (cs0 ++ cs) ∧ w.grownBy w' v.ownBlock ∧ (v'.ownBlock = v.ownBlock ∨ v'.ownBlock = some w.heap.size) := by
  obtain ⟨A, c, cs, rfl, hr, hcs⟩ := hsrc
  obtain ⟨i, z, hi, hz, hsz, hby, hzs, h0⟩ := ekOk_spec he
  have hlen : cs.length = l.length * s := by rw [hr.len, szs_const _ (fun d hd => (hel d hd).2)]
  have h63 : n + l.length ≤ maxLen := by have := capN_le s; unfold maxLen; omega
  have hbytes : (n + l.length) * i.bytes ≤ 140737488355328 := Nat.le_trans (Nat.mul_le_mul hn hby) (capN_by s)
  rcases hcs with ⟨rfl, rfl⟩ | ⟨b, o, rfl, hb, ha⟩
  · cases A with
    | none => exact ⟨v, w, [], run_append_of_nilA w base t ty e i s ht hi v _ _ hown c, hr, by simpa using hown, World.grownBy.refl w _, .inl rfl⟩
    | some ad =>
      obtain ⟨v', w', hrun, h2, h3, h5⟩ := run_append_at (P := P) w base t ty e i z s i.bytes ht hi hz hsz rfl hzs h0 v _ _ hown ad 0 c [] (by simp) (fun j u hj => by simp at hj) (by simp) (by simpa using h63) (by simpa using hbytes) hbase
      exact ⟨v', w', [], hrun, hr, by simpa using h2, h3, h5⟩
  · obtain ⟨v', w', hrun, h2, h3, h5⟩ := run_append_at (P := P) w base t ty e i z s i.bytes ht hi hz hsz rfl hzs h0 v _ _ hown ⟨b, o, none⟩ l.length c cs hlen (fun j u hj => by rw [addr_add]; exact ha j u hj) (hr.one_ (D.ones_of fun d hd => (hel d hd).1)) h63 hbytes hbase
    exact ⟨v', w', cs, hrun, hr, h2, h3, h5⟩
/-- A part of an own slice: what it is. -/
theorem osub_ok {st : St} (h : Rel B Xs G w0 st E a w) {k i p q : Nat} {o : Own} {v : Value} (hx : (AC.osub k i p q).ok E st.owns w v) (ho : st.owns[k]? = some o) (hv : o.ver = i) :
    p ≤ q ∧ q ≤ o.l.length ∧ ∃ pp cs f, E.om[k]? = some pp ∧ OwnsAt w B o.e o.s v ((o.l.take q).drop p).length cs ∧ Rs w ((o.l.take q).drop p) f cs ∧ (∀ b ∈ f, b ∈ pp.2) ∧ v.ownBlock = pp.1.ownBlock ∧ (∃ A n c, pp.1 = .slice A n c ∧ v = sliced A p q c o.s) := by
  obtain ⟨_, o', pp, h1, h2, h3, h4⟩ := hx
  rw [ho] at h1
  injection h1 with h1
  subst h1
  obtain ⟨A, n, c, q1, q2, q3, rfl⟩ := h4 hv
  obtain ⟨cs, h5, h6, h7, h8⟩ := h.own k o pp ho h2
  rw [q1] at h5
  have hn : n = o.l.length := by
    obtain ⟨A', c', e1⟩ := ownsAt_form h5
    injection e1
  subst hn
  obtain ⟨f, r1, r2⟩ := h6.sub (s := o.s) (fun d hd => (h7 d hd).2) q2 q3
  refine ⟨q2, q3, pp, _, f, h2, ?_, r1, r2, ?_, A, _, c, q1, rfl⟩
  · rw [List.length_drop, List.length_take, Nat.min_eq_left q3]
    exact h5.sub q2 q3
  · rw [sliced_block, q1]
    cases A <;> rfl
/-- The source of an append. -/
theorem src_ok {st : St} (h : Rel B Xs G w0 st E a w) {x : AV} {l : List D} {n : Bool} {v : Value} (hs : srcOf st.owns x = some (l, n)) (hx : x.ok E st.owns w v) :
    ∃ f, Src w l f v ∧ ∀ b ∈ f, b < w.heap.size ∧ b ∉ E.M ∧ (n = true → E.nw b) := by
  unfold srcOf at hs
  split at hs
  · next n' l' =>
    injection hs with hs
    injection hs with e1 e2
    subst e1 e2
    obtain ⟨⟨fp, h1, h2⟩, _⟩ := hx
    obtain ⟨f, h3, h4⟩ := Src.of_sl h1
    exact ⟨f, h3, fun b hb => ⟨R.lt h1 b (h4 b hb), (h2 b (h4 b hb)).1, fun e => (h2 b (h4 b hb)).2 e⟩⟩
  · next k i =>
    obtain ⟨⟨_, o, p, h1, h2, h3, h4⟩, _⟩ := hx
    rw [h1] at hs
    simp only at hs
    split at hs
    · next hv =>
      injection hs with hs
      injection hs with e1 e2
      subst e1 e2
      obtain rfl := h4 hv
      obtain ⟨cs, h5, h6, h7, h8⟩ := h.own k o p h1 h2
      exact ⟨p.2, src_at h5 h6, fun b hb => ⟨Rs.lt h6 b hb, h8 b hb⟩⟩
    · cases hs
  · next k i p q =>
    have hx1 := hx.1
    obtain ⟨⟨_, o, pp, h1, h2, h3, h4⟩, _⟩ := hx
    rw [h1] at hs
    simp only at hs
    split at hs
    · next hv =>
      injection hs with hs
      injection hs with e1 e2
      subst e1 e2
      obtain ⟨_, _, pp', cs, f, g1, g2, g3, g4, _⟩ := osub_ok h hx1 h1 hv
      obtain ⟨cs', h5, h6, h7, h8⟩ := h.own k o pp' h1 g1
      exact ⟨f, src_at g2 g3, fun b hb => ⟨Rs.lt h6 b (g4 b hb), h8 b (g4 b hb)⟩⟩
    · cases hs
  · injection hs with hs
    injection hs with e1 e2
    subst e1 e2
    obtain rfl := hx.1
    exact ⟨[], ⟨none, 0, [], rfl, ⟨rfl, rfl⟩, Or.inl ⟨rfl, rfl⟩⟩, fun b hb => by simp at hb⟩
  · cases hs
theorem Rs.set {s : Nat} {d : D} {fd : List Nat} {cd : List Value} (hd : R w d fd cd) {j : Nat} : ∀ {l : List D} {f : List Nat} {cs : List Value}, Rs w l f cs → (∀ x ∈ l, x.sz = s) → j < l.length →
    ∃ f', Rs w (l.set j d) f' (cs.take (j * s) ++ cd ++ cs.drop (j * s + s)) ∧ ∀ b ∈ f', b ∈ f ∨ b ∈ fd := by
  intro l f cs h hs hj
  have e : l = l.take j ++ ([l[j]] ++ l.drop (j + 1)) := by rw [List.singleton_append, ← List.drop_eq_getElem_cons, List.take_append_drop]
  have e2 : l.set j d = l.take j ++ ([d] ++ l.drop (j + 1)) := by rw [List.set_eq_take_append_cons_drop, if_pos hj]; rfl
  rw [e] at h
  obtain ⟨f1, f2, c1, c2, rfl, rfl, h1, h2⟩ := Rs.split h
  obtain ⟨g1, g2, e3, e4, rfl, rfl, h3, h4⟩ := Rs.split h2
  have l1 : c1.length = j * s := by
    rw [h1.len, szs_const (s := s) _ (fun x hx => hs x (List.mem_of_mem_take hx)), List.length_take, Nat.min_eq_left (by omega)]
  have l2 : e3.length = s := by rw [h3.len, D.szs, D.szs, hs _ (List.getElem_mem hj)]; omega
  refine ⟨f1 ++ (fd ++ g2), ?_, fun b hb => ?_⟩
  · rw [e2, List.take_left' l1, show (c1 ++ (e3 ++ e4)).drop (j * s + s) = e4 from by rw [← List.drop_drop, List.drop_left' l1, List.drop_left' l2], List.append_assoc]
    exact Rs.append (Rs.append h4 (Rs.one hd)) h1
  · simp only [List.mem_append] at hb ⊢
    rcases hb with hb | hb | hb
    · exact Or.inl (Or.inl hb)
    · exact Or.inr hb
    · exact Or.inl (Or.inr (Or.inr hb))
theorem good_storeE {t : TypeId} {x y : Operand} {i : TypeInfo} {k v j : Nat} {o : Own} {dd : D} (h : Rel B Xs G w0 ⟨fr, os, bs⟩ E a w) (hi : P.info? t = some i)
    (hx : St.ev ⟨fr, os, bs⟩ (opd x) = .eptr k v j 0) (ho : os[k]? = some o) (hv : o.ver = v) (hs : o.s = i.size) (hj : j < o.l.length) (hy : (St.ev ⟨fr, os, bs⟩ (opd y)).toD = some dd) (hd : dd.sz = i.size)
    (hK : ∀ E' w', Rel B Xs G w0 (St.put ⟨fr, os.set k ⟨o.l.set j dd, o.e, o.s, o.ver, o.nw && (St.ev ⟨fr, os, bs⟩ (opd y)).nw⟩, bs⟩ d .any) E' (a.put d undef) w' → K (a.put d undef) w') :
    Oper.wp P ⟨d, .store t x y, ty, pos, after, guard⟩ a w K Q := by
  have hex := ev_ok h x
  rw [hx] at hex
  obtain ⟨o', p, h1, h2, h3, h4⟩ := hex
  simp only at h1
  rw [ho] at h1
  injection h1 with h1
  subst h1
  obtain ⟨b, z0, he, hb⟩ := h4 hv
  obtain ⟨one1, sz1, fd, rd, md⟩ := AV.toD_ok hy (ev_ok h y)
  obtain ⟨cs, h5, h6, h7, h8⟩ := h.own k o p ho h2
  have h5' := h5
  obtain ⟨hl, h9⟩ := h5
  rcases h9 with ⟨hv', h9⟩ | ⟨g, zz, cap, cur, hv', hg, hh, hn', hm, hsz, htk⟩
  · omega
  rw [hv'] at hb
  simp only [baseOf, Option.some.injEq, Prod.mk.injEq] at hb
  obtain ⟨rfl, rfl⟩ := hb
  have hcs : cs.length = o.l.length * o.s := hl
  have hys : (a.eval y).cells.size = i.size := by rw [← sz1, hd]
  have hjs : j * o.s + o.s ≤ o.l.length * o.s := by
    have : (j + 1) * o.s ≤ o.l.length * o.s := Nat.mul_le_mul_right _ hj
    rw [Nat.add_mul] at this
    omega
  have hcap0 : o.l.length * o.s ≤ cap * o.s := Nat.mul_le_mul_right _ hn'
  have hcap : zz + o.l.length * o.s ≤ cur.size := by omega
  have hrun := run_storeCells_at (P := P) g (zz + j * o.s) o.e (a.eval y).cells.toList 0 cur w hh (by simp; rw [hys, ← hs]; omega) ((Rs.one rd).one_ (D.ones_of fun z hz => by simp at hz; subst hz; exact one1))
  have hrun2 : (execOp a.eval ⟨d, .store t x y, ty, pos, after, guard⟩).run P w = .ok .skip (w.setRow g (cur.toList.take (zz + j * o.s) ++ (a.eval y).cells.toList ++ cur.toList.drop (zz + j * o.s + i.size)).toArray) := by
    simp only [Nat.add_zero] at hrun he
    simp [execOp, Instr.storeAt, he, Instr.sureAddr, storeVar, sizeOf, typeInfo, hi, hys] at hrun ⊢
    rw [hrun]
    simp
  unfold Oper.wp
  rw [hrun2]
  obtain ⟨f', r2, m2⟩ := h6.set rd (s := o.s) (fun z hz => (h7 z hz).2) hj
  have hw' : (w.setRow g (cur.toList.take (zz + j * o.s) ++ (a.eval y).cells.toList ++ cur.toList.drop (zz + j * o.s + i.size)).toArray).heap.size = w.heap.size := by simp
  refine hK _ _ (h.setOwn (l := o.l.set j dd) (f := f') (cs := cs.take (j * o.s) ++ (a.eval y).cells.toList ++ cs.drop (j * o.s + o.s)) ho h2 (b := g) (by rw [hv']; rfl) hw' ⟨rfl, rfl, rfl⟩ (fun b hb => setRow_other _ _ _ _ hb) ⟨?_, Or.inr ⟨g, zz, cap, _, by rw [List.length_set]; exact hv', hg, setRow_heap _ _ _ _ _ _ hh, by rw [List.length_set]; exact hn', hm, ?_, ?_⟩⟩ ?_ ?_ ?_ d)
  · rw [List.length_append, List.length_append, List.length_take, List.length_drop, List.length_set, hcs, Array.length_toList, hys, ← hs]
    omega
  · rw [List.size_toArray, List.length_append, List.length_append, List.length_take, List.length_drop, Array.length_toList, Array.length_toList, hys, ← hs]
    omega
  · rw [List.length_set]
    subst htk
    simp only [List.toList_toArray]
    have e2 : (a.eval y).cells.toList.length = o.s := by simp [hys, hs]
    have hzl : (cur.toList.take zz).length = zz := by rw [List.length_take, Array.length_toList]; omega
    have e3 : cur.toList.drop (zz + j * o.s + i.size) = (cur.toList.drop zz).drop (j * o.s + i.size) := by rw [List.drop_drop, Nat.add_assoc]
    rw [List.take_add, e3, List.append_assoc, List.append_assoc, List.drop_left' hzl]
    have e1 : (cur.toList.drop zz).length = cur.size - zz := by simp
    generalize cur.toList.drop zz = rest at e1
    rw [← List.append_assoc, ← hs, List.take_append, List.take_append, List.take_of_length_le (l := List.take (j * o.s) rest) (by rw [List.length_take]; omega), List.take_of_length_le (l := (a.eval y).cells.toList) (by rw [List.length_take, e2]; omega), List.take_take, Nat.min_eq_left (by omega)]
    congr 1
    rw [List.length_append, List.length_take, e2, e1, List.drop_take]
    congr 1
    omega
  · refine r2.same (fun b hb => setRow_other _ _ _ _ (fun e => ?_)) (Nat.le_of_eq hw'.symm)
    have hgM : g ∈ E.M := mem_M.2 (Or.inr ⟨k, p, h2, by rw [hv']; rfl⟩)
    rcases m2 b hb with hb | hb
    · exact (h8 b hb).1 (e ▸ hgM)
    · exact (md b hb).1 (e ▸ hgM)
  · intro z hz
    rcases List.mem_or_eq_of_mem_set hz with hz | rfl
    · exact h7 z hz
    · exact ⟨one1, by rw [hd, hs]⟩
  · intro b hb
    rcases m2 b hb with hb | hb
    · exact ⟨(h8 b hb).1, fun e => (h8 b hb).2 (by simp at e; exact e.1)⟩
    · exact ⟨(md b hb).1, fun e => (md b hb).2 (by simp at e; exact e.2)⟩
theorem wp_app {t : Nat} {x y : Operand} {v' : Value} {w' : World} (hrun : (Builtin.append_ #[t, t] ty #[a.eval x, a.eval y]).run P w = .ok v' w') (hK : K (a.put d v') w') :
    Oper.wp P ⟨d, .call { callee := .builtin .append, args := #[x, y], argTypes := #[t, t] }, ty, pos, after, guard⟩ a w K Q := by
  refine wp_run (v := v') (w' := w') ?_ hK
  simp [execOp, resolve, invoke, builtin, hrun]
theorem good_appO {t e s : Nat} {x y : Operand} {k i : Nat} {o : Own} {l : List D} {n : Bool} (h : Rel B Xs G w0 ⟨fr, os, bs⟩ E a w) (ht : P.underlying t = some (.slice e)) (he : ekOk P e s = true) (hx : St.ev ⟨fr, os, bs⟩ (opd x) = .c false [.own k i])
    (ho : os[k]? = some o) (hv : o.ver = i) (hoe : o.e = e) (hos : o.s = s) (hsrc : srcOf os (St.ev ⟨fr, os, bs⟩ (opd y)) = some (l, n)) (hl : El s l) (hn : o.l.length + l.length ≤ capN s) :
    Good P B Xs G w0 fr a w ⟨d, .call { callee := .builtin .append, args := #[x, y], argTypes := #[t, t] }, ty, pos, after, guard⟩ Q (.c false [.own k (i + 1)]) (os.set k ⟨o.l ++ l, e, s, i + 1, o.nw && n⟩) bs := by
  subst hv hoe hos
  intro K hK
  have hev := ev_ok h x
  rw [hx] at hev
  obtain ⟨⟨_, o', p, h1, h2, _, h4⟩, _⟩ := hev
  simp only at h1
  rw [ho] at h1
  injection h1 with h1
  subst h1
  have hxv := h4 rfl
  obtain ⟨cs0, h5, h6, h7, h8⟩ := h.own k o p ho h2
  obtain ⟨f, hS, hf⟩ := src_ok h hsrc (ev_ok h y)
  obtain ⟨v', w', cs, hrun, hr, hown, hg, hat⟩ := run_append_src (P := P) ty ht he B p.1 _ cs0 h5 l f _ hS hl hn h.base
  have hpM : ∀ b, p.1.ownBlock = some b → b ∈ E.M := fun b hb => mem_M.2 (Or.inr ⟨k, p, h2, hb⟩)
  have r0 := h6.grown hg (fun g hgv hm => (h8 g hm).1 (hpM g hgv))
  have r1 := hr.grown hg (fun g hgv hm => (hf g hm).2.1 (hpM g hgv))
  refine wp_app (by rw [hxv]; exact hrun) (hK _ v' w' (h.grow ho h2 (f := p.2 ++ f) hg hat (l := o.l ++ l) (by rw [List.length_append]; exact hown) (Rs.append r1 r0) (h7.append hl) (fun b hb => ?_) d))
  rcases List.mem_append.1 hb with hb | hb
  · exact ⟨Rs.lt h6 b hb, (h8 b hb).1, fun e => (h8 b hb).2 (by simp at e; exact e.1)⟩
  · exact ⟨(hf b hb).1, (hf b hb).2.1, fun e => (hf b hb).2.2 (by simp at e; exact e.2)⟩
theorem good_appU {t e s : Nat} {x y : Operand} {k i pa qa : Nat} {o : Own} {l : List D} {n : Bool} (h : Rel B Xs G w0 ⟨fr, os, bs⟩ E a w) (ht : P.underlying t = some (.slice e)) (he : ekOk P e s = true) (hx : St.ev ⟨fr, os, bs⟩ (opd x) = .c false [.osub k i pa qa])
    (ho : os[k]? = some o) (hv : o.ver = i) (hoe : o.e = e) (hos : o.s = s) (hsrc : srcOf os (St.ev ⟨fr, os, bs⟩ (opd y)) = some (l, n)) (hl : El s l) (hn : o.l.length + l.length ≤ capN s) :
    Good P B Xs G w0 fr a w ⟨d, .call { callee := .builtin .append, args := #[x, y], argTypes := #[t, t] }, ty, pos, after, guard⟩ Q (.c false [.own k (i + 1)]) (os.set k ⟨(o.l.take qa).drop pa ++ l, e, s, i + 1, o.nw && n⟩) bs := by
  subst hv hoe hos
  intro K hK
  have hev := ev_ok h x
  rw [hx] at hev
  obtain ⟨g1, g2, p, cs0, f0, h2, h5, h6, g4, g5, g6⟩ := osub_ok h hev.1 ho rfl
  obtain ⟨cs1, q5, q6, q7, h8⟩ := h.own k o p ho h2
  obtain ⟨f, hS, hf⟩ := src_ok h hsrc (ev_ok h y)
  obtain ⟨v', w', cs, hrun, hr, hown, hg, hat⟩ := run_append_src (P := P) ty ht he B (a.eval x) _ cs0 h5 l f _ hS hl (by rw [List.length_drop, List.length_take]; omega) h.base
  rw [g5] at hg hat
  have hpM : ∀ b, p.1.ownBlock = some b → b ∈ E.M := fun b hb => mem_M.2 (Or.inr ⟨k, p, h2, hb⟩)
  have r0 := h6.grown hg (fun g hgv hm => (h8 g (g4 g hm)).1 (hpM g hgv))
  have r1 := hr.grown hg (fun g hgv hm => (hf g hm).2.1 (hpM g hgv))
  refine wp_app hrun (hK _ v' w' (h.grow ho h2 (f := f0 ++ f) hg hat (l := (o.l.take qa).drop pa ++ l) (by rw [List.length_append]; exact hown) (Rs.append r1 r0) (El.append (fun z hz => q7 z (List.mem_of_mem_take (List.mem_of_mem_drop hz))) hl) (fun b hb => ?_) d))
  rcases List.mem_append.1 hb with hb | hb
  · exact ⟨Rs.lt q6 b (g4 b hb), (h8 b (g4 b hb)).1, fun e => (h8 b (g4 b hb)).2 (by simp at e; exact e.1)⟩
  · exact ⟨(hf b hb).1, (hf b hb).2.1, fun e => (hf b hb).2.2 (by simp at e; exact e.2)⟩
theorem lenU_ok {t e : Nat} {x : Operand} {k i p q : Nat} {o : Own} (h : Rel B Xs G w0 ⟨fr, os, bs⟩ E a w) (ht : P.underlying t = some (.slice e)) (hx : St.ev ⟨fr, os, bs⟩ (opd x) = .c false [.osub k i p q]) (ho : os[k]? = some o) (hv : o.ver = i) :
    Good P B Xs G w0 fr a w ⟨d, .call { callee := .builtin .len, args := #[x], argTypes := #[t] }, ty, pos, after, guard⟩ Q (.c false [.raw (.int .i64 ((q - p : Nat) : Int))]) os bs := by
  have hev := ev_ok h x
  rw [hx] at hev
  obtain ⟨_, _, pp, cs, f, _, _, _, _, _, A, n, c, _, g⟩ := osub_ok h hev.1 ho hv
  refine good_lenS h ht ⟨_, _, g⟩
theorem good_appN {t e s : Nat} {x y : Operand} {l : List D} {n : Bool} (h : Rel B Xs G w0 ⟨fr, os, bs⟩ E a w) (ht : P.underlying t = some (.slice e)) (he : ekOk P e s = true) (hx : St.ev ⟨fr, os, bs⟩ (opd x) = .c false [.raw (.slice none 0 0)])
    (hsrc : srcOf os (St.ev ⟨fr, os, bs⟩ (opd y)) = some (l, n)) (hl : El s l) (hn : l.length ≤ capN s) :
    Good P B Xs G w0 fr a w ⟨d, .call { callee := .builtin .append, args := #[x, y], argTypes := #[t, t] }, ty, pos, after, guard⟩ Q (.c false [.own os.length 0]) (os ++ [⟨l, e, s, 0, n⟩]) bs := by
  intro K hK
  have hxv := eval_raw h hx
  obtain ⟨f, hS, hf⟩ := src_ok h hsrc (ev_ok h y)
  obtain ⟨v', w', cs, hrun, hr, hown, hg, hat⟩ := run_append_src (P := P) ty ht he w.heap.size (.slice none 0 0) 0 [] OwnsAt.nil l f _ hS hl (by simpa using hn) (Nat.le_refl _)
  have hb : Below w.heap.size w w' := (Below.refl _ _).grown hg (Nat.le_refl _) (fun b hb => by simp [Value.ownBlock] at hb)
  refine wp_app (by rw [hxv]; exact hrun) (hK _ v' w' (h.newOwn hb (o := ⟨l, e, s, 0, n⟩) (f := f) (cs := cs) (by simpa using hown) (hr.below hb) hl (fun b hbm => ⟨(hf b hbm).2.1, fun e2 => ?_, (hf b hbm).2.2⟩) rfl d))
  rcases hat with h' | h'
  · rw [h'] at e2; simp [Value.ownBlock] at e2
  · rw [h'] at e2
    injection e2 with e2
    have := (hf b hbm).1
    omega
theorem good_cvi {src dst : Nat} {x : Operand} {k k' k0 : IntKind} {z : Int} (h : Rel B Xs G w0 ⟨fr, os, bs⟩ E a w) (hs : P.underlying src = some (.int k0)) (hd : P.underlying dst = some (.int k)) (hx : St.ev ⟨fr, os, bs⟩ (opd x) = .c false [.raw (.int k' z)]) :
    Good P B Xs G w0 fr a w ⟨d, .convert src dst x, ty, pos, after, guard⟩ Q (.c false [.raw (.int k (k.wrap z))]) os bs := by
  refine good_pure h (v := .int k (k.wrap z)) ?_ ⟨rfl, trivial⟩
  simp [execOp, eval_raw h hx, convert, run_underlying hs, run_underlying hd, Conv.intToInt]
theorem bytes_cells : ∀ {l : List D} {b : List UInt8} {f : List Nat} {cs : List Value}, bytesD l = some b → Rs w l f cs → ∃ xs : List Int, cs = xs.map (Value.int .u8) ∧ xs.length = l.length ∧ xs.map (fun n => UInt8.ofNat n.toNat) = b
  | [], b, f, cs, hb, hr => by
    simp only [bytesD, Option.some.injEq] at hb
    subst hb
    exact ⟨[], by rw [hr.2]; rfl, rfl, rfl⟩
  | d :: l, b, f, cs, hb, hr => by
    rw [Rs] at hr
    obtain ⟨f1, f2, c1, c2, rfl, rfl, h1, h2⟩ := hr
    unfold bytesD at hb
    split at hb
    · next heq => cases heq
    · next n l' heq =>
      injection heq with e1 e2
      subst e1 e2
      split at hb
      · next r hr' =>
        injection hb with hb
        subst hb
        obtain ⟨xs, g1, g2, g3⟩ := bytes_cells hr' h2
        obtain ⟨_, rfl⟩ := h1
        exact ⟨n :: xs, by rw [g1]; rfl, by simp [g2], by simp [g3]⟩
      · cases hb
    · cases hb
theorem run_cvs {src dst e : Nat} {l : List D} {b : List UInt8} {f : List Nat} {v : Value} (hs : P.underlying src = some (.slice e)) (he : P.underlying e = some (.int .u8)) (hd : P.underlying dst = some .string) (hb : bytesD l = some b) (hS : Sl w l f v) :
    (convert src dst v).run P w = .ok (.string ⟨b.toArray⟩) w := by
  have hS' := hS
  unfold Sl at hS'
  rw [R] at hS'
  obtain ⟨A, c, e1, _, _, h4⟩ := hS'
  simp only [List.cons.injEq, and_true] at e1
  subst e1
  rcases h4 with ⟨rfl, _⟩ | ⟨bk, o, fp', cs', rfl, rfl, _, hrs, hat⟩
  · simp only [bytesD, Option.some.injEq] at hb
    subst hb
    cases A with
    | none => exact run_convert_bytes_nil w src e hs he _ _ dst hd
    | some p =>
      rw [run_convert_bytes_string w src dst e _ _ c hs he hd, run_bytesToString w _ _ c [] (by simp [loadCells, loadCellsFrom])]
      rfl
  · obtain ⟨xs, g1, g2, g3⟩ := bytes_cells hb hrs
    rw [run_convert_bytes_arg w src e hs he bk o l.length c xs g2 (fun i hi => ?_) dst hd]
    · unfold strOfNums
      rw [g3]
    · exact hat i (.int .u8 (xs.getD i 0)) (by rw [g1, List.getElem?_map, List.getD_eq_getElem?_getD, List.getElem?_eq_getElem (by omega)]; rfl)
theorem good_cvs {src dst e : Nat} {x : Operand} {l : List D} {b : List UInt8} {f : List Nat} (h : Rel B Xs G w0 ⟨fr, os, bs⟩ E a w) (hs : P.underlying src = some (.slice e)) (he : P.underlying e = some (.int .u8)) (hd : P.underlying dst = some .string) (hb : bytesD l = some b) (hS : Sl w l f (a.eval x)) :
    Good P B Xs G w0 fr a w ⟨d, .convert src dst x, ty, pos, after, guard⟩ Q (.c false [.raw (.string ⟨b.toArray⟩)]) os bs := by
  refine good_pure h (v := .string ⟨b.toArray⟩) ?_ ⟨rfl, trivial⟩
  simp [execOp, run_cvs hs he hd hb hS]
theorem good_cvsS {src dst e : Nat} {x : Operand} {n : Bool} {l : List D} {b : List UInt8} (h : Rel B Xs G w0 ⟨fr, os, bs⟩ E a w) (hs : P.underlying src = some (.slice e)) (he : P.underlying e = some (.int .u8)) (hd : P.underlying dst = some .string) (hx : St.ev ⟨fr, os, bs⟩ (opd x) = .c false [.sl n l]) (hb : bytesD l = some b) :
    Good P B Xs G w0 fr a w ⟨d, .convert src dst x, ty, pos, after, guard⟩ Q (.c false [.raw (.string ⟨b.toArray⟩)]) os bs := by
  have hv := ev_ok h x
  rw [hx] at hv
  obtain ⟨⟨fp, h1, _⟩, _⟩ := hv
  exact good_cvs h hs he hd hb h1
theorem good_cvsO {src dst e : Nat} {x : Operand} {k i : Nat} {o : Own} {b : List UInt8} (h : Rel B Xs G w0 ⟨fr, os, bs⟩ E a w) (hs : P.underlying src = some (.slice e)) (he : P.underlying e = some (.int .u8)) (hd : P.underlying dst = some .string) (hx : St.ev ⟨fr, os, bs⟩ (opd x) = .c false [.own k i]) (ho : os[k]? = some o) (hv : o.ver = i) (hb : bytesD o.l = some b) :
    Good P B Xs G w0 fr a w ⟨d, .convert src dst x, ty, pos, after, guard⟩ Q (.c false [.raw (.string ⟨b.toArray⟩)]) os bs := by
  have hev := ev_ok h x
  rw [hx] at hev
  obtain ⟨⟨_, o', p, h1, h2, _, h4⟩, _⟩ := hev
  simp only at h1
  rw [ho] at h1
  injection h1 with h1
  subst h1
  have hxv := h4 hv
  obtain ⟨cs0, h5, h6, h7, h8⟩ := h.own k o p ho h2
  exact good_cvs h hs he hd hb (hxv ▸ Sl.of_at h5 h6)
theorem strD_cells (s : ByteArray) : Rs w (strD s) [] (Go.Lib.strCells s) := by
  unfold strD Go.Lib.strCells
  generalize s.data.toList = l
  induction l with
  | nil => exact ⟨rfl, rfl⟩
  | cons b l ih =>
    rw [List.map_cons, List.map_cons, Rs]
    exact ⟨[], [], [_], _, rfl, rfl, ⟨rfl, rfl⟩, ih⟩
theorem strD_el (s : ByteArray) : El 1 (strD s) := fun x hx => by
  obtain ⟨b, _, rfl⟩ := List.mem_map.1 hx
  exact ⟨rfl, rfl⟩
theorem good_apps {t u e : Nat} {x y : Operand} {k i : Nat} {o : Own} {s : ByteArray} (h : Rel B Xs G w0 ⟨fr, os, bs⟩ E a w) (ht : P.underlying t = some (.slice e)) (hu : P.underlying u = some .string) (he : byteE P e = true) (hx : St.ev ⟨fr, os, bs⟩ (opd x) = .c false [.own k i])
    (ho : os[k]? = some o) (hv : o.ver = i) (hoe : o.e = e) (hos : o.s = 1) (hy : St.ev ⟨fr, os, bs⟩ (opd y) = .c false [.raw (.string s)]) (hn : o.l.length + s.size ≤ 1073741824) :
    Good P B Xs G w0 fr a w ⟨d, .call { callee := .builtin .append, args := #[x, y], argTypes := #[t, u] }, ty, pos, after, guard⟩ Q (.c false [.own k (i + 1)]) (os.set k ⟨o.l ++ strD s, e, 1, i + 1, o.nw⟩) bs := by
  obtain ⟨ol, oe, osz, over, onw⟩ := o
  simp only at hv hoe hos hn
  subst hv hoe hos
  intro K hK
  have hev := ev_ok h x
  rw [hx] at hev
  obtain ⟨⟨_, o', p, h1, h2, _, h4⟩, _⟩ := hev
  simp only at h1
  rw [ho] at h1
  injection h1 with h1
  subst h1
  have hxv := h4 rfl
  have hyv := eval_raw h hy
  obtain ⟨cs0, h5, h6, h7, h8⟩ := h.own k _ p ho h2
  obtain ⟨ti, e1, e2, e3, e4⟩ := byteE_spec he
  obtain ⟨v', w', hrun, hown, hg, hat⟩ := run_append_at_string (P := P) w B t u ty oe ti _ ht hu e1 e2 rfl e3 e4 p.1 _ cs0 h5 s (by unfold maxLen; show ol.length + s.size ≤ _; omega) (by show ol.length + s.size ≤ _; omega) h.base
  have hpM : ∀ b, p.1.ownBlock = some b → b ∈ E.M := fun b hb => mem_M.2 (Or.inr ⟨k, p, h2, hb⟩)
  have r0 := h6.grown hg (fun g hgv hm => (h8 g hm).1 (hpM g hgv))
  refine wp_run (v := v') (w' := w') (by simp [execOp, resolve, invoke, builtin, hxv, hyv, hrun]) (hK _ v' w' (h.grow ho h2 (f := p.2) hg hat (l := ol ++ strD s) (by rw [List.length_append, strD_len]; exact hown) (by have := Rs.append (strD_cells (w := w') s) r0; rwa [List.append_nil] at this) (h7.append (strD_el s)) (fun b hb => ?_) d))
  exact ⟨Rs.lt h6 b hb, (h8 b hb).1, fun e => (h8 b hb).2 e⟩
end
end Go.Proofs.YtdjcflnemnknaaaDoor

namespace Go.Proofs.YtdjcflnemnknaaaDoor
open Go.RowKit
set_option linter.unusedSimpArgs false
set_option linter.unusedVariables false
section
variable {P : Program} {B : Nat} {Xs : List Nat} {G : Org} {w0 : World} {fr : List AV} {os : List Own} {bs : List (List AC)} {E : Env} {a : Act} {w : World} {d : Option Tmp} {Q : Exit → Act → World → Prop}
  {ty : TypeId} {pos : String} {after : Array Edge} {guard : Option (Nat × Bool)} {own : Bool} {i : I} {r : AV} {os' : List Own} {bs' : List (List AC)}
theorem ptr_load {t : TypeId} {x : Operand} {inf : TypeInfo} {dd : TypeDesc} {n : Nat} {g : Bool} (h : Rel B Xs G w0 ⟨fr, os, bs⟩ E a w) (hi : P.info? t = some inf) (hd : P.underlying t = some dd) (hg : isAggD dd = g) (hn : if g then inf.size = n else n = 1)
    (hr : Res P (St.ev ⟨fr, os, bs⟩) os bs (.load n g (opd x)) r os' bs') : Good P B Xs G w0 fr a w ⟨d, .load t x, ty, pos, after, guard⟩ Q r os' bs' := by
  have hev := ev_ok h x
  cases hr with
  | loadP hx hl =>
    rw [hx] at hev
    obtain ⟨b, o, vs, he, _, _, ha, hvs⟩ := hev
    exact good_load h hi hd hg hn he ha hvs hl
  | @loadB _ _ _ xs k off hx hk hl =>
    rw [hx] at hev
    obtain ⟨p, hp, he⟩ := hev
    obtain ⟨_, vs, hrow, hvs⟩ := h.box k xs p hk hp
    have ha : At w p.1 off (vs.drop off) := fun j u hj => by rw [hrow.cell]; rw [List.getElem?_drop] at hj; exact hj
    exact good_load h hi hd hg hn he ha (hvs.drop off) (by rw [List.length_drop]; omega)
  | @loadE _ _ _ k i j off o dj hx ho hv hj hl =>
    rw [hx] at hev
    obtain ⟨o', p, h1, h2, _, h4⟩ := hev
    simp only at h1
    rw [ho] at h1
    injection h1 with h1
    subst h1
    obtain ⟨b, z0, he, hb⟩ := h4 hv
    obtain ⟨cs, h5, h6, h7, h8⟩ := h.own k o p ho h2
    obtain ⟨jl, jd⟩ := List.getElem?_eq_some_iff.1 hj
    obtain ⟨fi, ci, hR, hfi, hci⟩ := h6.get (fun d hd => (h7 d hd).2) hj
    have hat : At w b (z0 + j * o.s) ci := fun m u hm' => by
      have := (h5.at_ hb).1 _ u (hci m u hm')
      rwa [← Nat.add_assoc] at this
    have hoks : Oks E os w (dj.acs o.nw) ci := oks_acs hR (fun b hb => ⟨(h8 b (hfi b hb)).1, fun e => (h8 b (hfi b hb)).2 e⟩)
    exact good_load h hi hd hg hn (by rw [he, ← Nat.add_assoc]) hat.drop (hoks.drop off) (by rw [List.length_drop]; omega)
theorem ptr_fad {s f off n : Nat} {g : Bool} {x : Operand} (h : Rel B Xs G w0 ⟨fr, os, bs⟩ E a w) (hf : fieldOf P s f = some (off, n, g)) (hn : ¬ n = 0)
    (hr : Res P (St.ev ⟨fr, os, bs⟩) os bs (.fad off (opd x)) r os' bs') : Good P B Xs G w0 fr a w ⟨d, .fieldAddr s x f, ty, pos, after, guard⟩ Q r os' bs' := by
  have hev := ev_ok h x
  cases hr with
  | fadP hx hl =>
    rw [hx] at hev
    obtain ⟨b, o, vs, he, hb, hm, ha, hvs⟩ := hev
    exact good_fad h hf hn he ⟨b, o + off, vs.drop off, rfl, hb, hm, ha.drop, hvs.drop off⟩
  | fadB hx =>
    rw [hx] at hev
    obtain ⟨p, hp, he⟩ := hev
    exact good_fad h hf hn he ⟨p, hp, rfl⟩
  | fadE hx ho hv =>
    rw [hx] at hev
    obtain ⟨o', p, h1, h2, h3, h4⟩ := hev
    simp only at h1
    rw [ho] at h1
    injection h1 with h1
    subst h1
    obtain ⟨b, z0, he, hb⟩ := h4 hv
    exact good_fad h hf hn he ⟨_, p, ho, h2, h3, fun _ => ⟨b, z0, by simp only [Nat.add_assoc], hb⟩⟩
theorem ptr_iad {t e s : Nat} {x j : Operand} (h : Rel B Xs G w0 ⟨fr, os, bs⟩ E a w) (ht : elemOf' P t = some (e, s))
    (hr : Res P (St.ev ⟨fr, os, bs⟩) os bs (.iad s (opd x) (opd j)) r os' bs') : Good P B Xs G w0 fr a w ⟨d, .indexAddr t x j, ty, pos, after, guard⟩ Q r os' bs' := by
  have hev := ev_ok h x
  cases hr with
  | @iadS _ _ _ n l z dd hx hi h0 hl hel =>
    obtain ⟨k, hk⟩ := rawI_of hi
    rw [hx] at hev
    obtain ⟨⟨fp, h1, h2⟩, _⟩ := hev
    obtain ⟨A, c, he, _, _⟩ := Sl.form h1
    rw [he] at h1
    obtain ⟨b, o, fi, ci, rfl, hb, hbf, hR, hfi, hat⟩ := h1.elem (fun d hd => (hel d hd).2) hl
    have hlt := (List.getElem?_eq_some_iff.1 hl).1
    exact good_iad h ht he (eval_raw h hk) h0 hlt ⟨b, o + z.toNat * s, ci, rfl, hb, (h2 b hbf).1, hat, oks_acs hR (fun b' hb' => h2 b' (hfi b' hb'))⟩
  | @iadO _ _ _ k jj o z hx hi h0 ho hv hl hs =>
    obtain ⟨kk, hk⟩ := rawI_of hi
    rw [hx] at hev
    obtain ⟨⟨_, o', p, h1, h2, h3, h4⟩, _⟩ := hev
    simp only at h1
    rw [ho] at h1
    injection h1 with h1
    subst h1
    have he := h4 hv
    obtain ⟨cs, h5, h6, h7, h8⟩ := h.own k o p ho h2
    rcases h5.2 with ⟨hv', h9⟩ | ⟨g, zz, cap, cur, hv', _⟩
    · omega
    · subst hs
      refine good_iad h ht (he.trans hv') (eval_raw h hk) h0 hl ⟨o, p, ho, h2, h3, fun _ => ⟨g, zz, by simp, by rw [hv']; rfl⟩⟩
  | @iadU _ _ _ k jj pa qa o z hx hi h0 ho hv hl hs =>
    obtain ⟨kk, hk⟩ := rawI_of hi
    rw [hx] at hev
    have hev1 := hev.1
    obtain ⟨⟨_, o', p', h1, h2, h3, h4⟩, _⟩ := hev
    simp only at h1
    rw [ho] at h1
    injection h1 with h1
    subst h1
    obtain ⟨g1, g2, p, cs, f, g3, g4, g5, g6, g7, A, n, c, g8, g9⟩ := osub_ok h hev1 ho hv
    have hpp : p' = p := by rw [h2] at g3; injection g3
    subst hpp
    obtain ⟨cs', h5, h6, h7, h8⟩ := h.own k o p' ho h2
    rcases h5.2 with ⟨hv', h9⟩ | ⟨g, zz, cap, cur, hv', _, _, q1, _⟩
    · omega
    · subst hs
      rw [hv'] at g8
      injection g8 with e1 e2 e3
      subst e1 e2 e3
      have hne : ¬ cap = pa := by omega
      have hA : a.eval x = .slice (some ⟨g, zz + pa * o.s, none⟩) (qa - pa) (cap - pa) := by
        rw [g9]
        unfold sliced
        rw [if_neg hne, Option.map_some, addr_add]
      refine good_iad h ht hA (eval_raw h hk) h0 hl ⟨o, p', ho, h2, h3, fun _ => ⟨g, zz, ?_, by rw [hv']; rfl⟩⟩
      rw [Nat.add_mul, Nat.add_zero, Nat.add_assoc]
theorem ptr_nck {x : Operand} (h : Rel B Xs G w0 ⟨fr, os, bs⟩ E a w)
    (hr : Res P (St.ev ⟨fr, os, bs⟩) os bs (.nck (opd x)) r os' bs') : Good P B Xs G w0 fr a w ⟨d, .nilCheck x, ty, pos, after, guard⟩ Q r os' bs' := by
  have hev := ev_ok h x
  cases hr with
  | nckP hx =>
    rw [hx] at hev
    have hev' := hev
    obtain ⟨b, o, vs, he, _⟩ := hev
    rw [he] at hev'
    exact good_nck h he hev'
  | nckB hx =>
    rw [hx] at hev
    have hev' := hev
    obtain ⟨p, hp, he⟩ := hev
    rw [he] at hev'
    exact good_nck h he hev'
theorem ptr_lenS {t e : Nat} {x : Operand} (h : Rel B Xs G w0 ⟨fr, os, bs⟩ E a w) (ht : P.underlying t = some (.slice e))
    (hr : Res P (St.ev ⟨fr, os, bs⟩) os bs (.len false (opd x)) r os' bs') : Good P B Xs G w0 fr a w ⟨d, .call { callee := .builtin .len, args := #[x], argTypes := #[t] }, ty, pos, after, guard⟩ Q r os' bs' := by
  have hev := ev_ok h x
  cases hr with
  | lenS hx =>
    rw [hx] at hev
    obtain ⟨⟨fp, h1, h2⟩, _⟩ := hev
    obtain ⟨A, c, he, _, _⟩ := Sl.form h1
    exact good_lenS h ht ⟨A, c, he⟩
  | lenO hx ho hv =>
    rw [hx] at hev
    obtain ⟨⟨_, o', p, h1, h2, h3, h4⟩, _⟩ := hev
    simp only at h1
    rw [ho] at h1
    injection h1 with h1
    subst h1
    have he := h4 hv
    obtain ⟨cs, h5, h6, h7, h8⟩ := h.own _ _ p ho h2
    obtain ⟨A, c, hv'⟩ := ownsAt_form h5
    exact good_lenS h ht ⟨A, c, he.trans hv'⟩
  | lenU hx ho hv => exact lenU_ok h ht hx ho hv
  | lenN hx =>
    have := good_lenS (d := d) (ty := ty) (pos := pos) (after := after) (guard := guard) (Q := Q) h ht ⟨none, 0, eval_raw h hx⟩
    simpa using this
theorem ptr_app {t e s : Nat} {x y : Operand} (h : Rel B Xs G w0 ⟨fr, os, bs⟩ E a w) (ht : P.underlying t = some (.slice e)) (he : ekOk P e s = true)
    (hr : Res P (St.ev ⟨fr, os, bs⟩) os bs (.app e s (opd x) (opd y)) r os' bs') : Good P B Xs G w0 fr a w ⟨d, .call { callee := .builtin .append, args := #[x, y], argTypes := #[t, t] }, ty, pos, after, guard⟩ Q r os' bs' := by
  cases hr with
  | appO hx ho hv h1 h2 hs hl hn => exact good_appO h ht he hx ho hv h1 h2 hs hl hn
  | appU hx ho hv h1 h2 hs hl hn => exact good_appU h ht he hx ho hv h1 h2 hs hl hn
  | appN hx hs hl hn => exact good_appN h ht he hx hs hl hn
theorem map_op (ps : List (Nat × Operand)) : (ps.map fun p => opd p.2) = (ps.map (·.2)).map opd := by simp

/-- The step of an operation is right. -/
theorem step_sound {op : Op} (hc : comp1 P own op = some i) (h : Rel B Xs G w0 ⟨fr, os, bs⟩ E a w) (hr : Res P (St.ev ⟨fr, os, bs⟩) os bs i r os' bs') :
    Good P B Xs G w0 fr a w ⟨d, op, ty, pos, after, guard⟩ Q r os' bs' := by
  cases op with
  | move x =>
    simp only [comp1] at hc
    injection hc with hc
    subst hc
    cases hr
    exact good_mov (b := true) h
  | assign x =>
    simp only [comp1] at hc
    injection hc with hc
    subst hc
    cases hr
    exact good_mov (b := false) h
  | pick c x y =>
    simp only [comp1] at hc
    injection hc with hc
    subst hc
    cases hr with
    | pick hb => exact good_pick h hb
  | binOp op t x y yt =>
    simp only [comp1] at hc
    split at hc
    · next ht =>
      injection hc with hc
      subst hc
      cases hr with
      | beq hx hy => exact good_beq (ne := false) h hx hy ht
    · next ht =>
      injection hc with hc
      subst hc
      cases hr with
      | beq hx hy => exact good_beq (ne := true) h hx hy ht
    · next ht =>
      split at hc
      · injection hc with hc
        subst hc
        cases hr with
        | fnilC hx => exact good_fnil (ne := false) h ht (Or.inl ⟨_, _, hx, rfl⟩)
        | fnilN hx => exact good_fnil (ne := false) h ht (Or.inr ⟨hx, rfl⟩)
      · cases hc
    · next ht =>
      split at hc
      · injection hc with hc
        subst hc
        cases hr with
        | fnilC hx => exact good_fnil (ne := true) h ht (Or.inl ⟨_, _, hx, rfl⟩)
        | fnilN hx => exact good_fnil (ne := true) h ht (Or.inr ⟨hx, rfl⟩)
      · cases hc
    · next ht =>
      split at hc
      · injection hc with hc
        subst hc
        cases hr with
        | snilZ hx => exact good_snil (ne := false) h ht (Or.inr ⟨hx, rfl⟩)
        | snilO hx ho hv hl => exact good_snil (ne := false) h ht (Or.inl ⟨_, _, _, hx, ho, hv, hl, rfl⟩)
      · cases hc
    · next ht =>
      split at hc
      · injection hc with hc
        subst hc
        cases hr with
        | snilZ hx => exact good_snil (ne := true) h ht (Or.inr ⟨hx, rfl⟩)
        | snilO hx ho hv hl => exact good_snil (ne := true) h ht (Or.inl ⟨_, _, _, hx, ho, hv, hl, rfl⟩)
      · cases hc
    · injection hc with hc
      subst hc
      cases hr with
      | bin hx hy hz => exact good_bin h hx hy hz
  | unOp op t x =>
    cases op <;> simp only [comp1, reduceCtorEq] at hc
    injection hc with hc
    subst hc
    cases hr with
    | not hx => exact good_not h hx
  | makeFunc fn first caps =>
    cases fn <;> simp only [comp1, reduceCtorEq] at hc
    split at hc
    · next hf =>
      injection hc with hc
      subst hc
      cases hr with
      | mkf hcs => exact good_mkf h hf hcs
    · cases hc
  | load t x =>
    simp only [comp1] at hc
    split at hc
    · next inf dd hi hd =>
      split at hc
      · next hg =>
        injection hc with hc
        subst hc
        exact ptr_load h hi hd hg (by simp) hr
      · next hg =>
        injection hc with hc
        subst hc
        exact ptr_load h hi hd (by simpa using hg) (by simp) hr
    · cases hc
  | store t x y =>
    simp only [comp1] at hc
    split at hc
    · next inf hi =>
      injection hc with hc
      subst hc
      cases hr with
      | store hx hy hl h1 hk ho => exact good_store h hi hx hy hl h1 hk ho
    · cases hc
  | fieldAddr s x f =>
    simp only [comp1] at hc
    split at hc
    · next off n g hf =>
      split at hc
      · cases hc
      · next hn =>
        injection hc with hc
        subst hc
        exact ptr_fad h hf hn hr
    · cases hc
  | indexAddr t x j =>
    simp only [comp1] at hc
    split at hc
    · next e s ht =>
      injection hc with hc
      subst hc
      exact ptr_iad h ht hr
    · cases hc
  | nilCheck x =>
    simp only [comp1] at hc
    injection hc with hc
    subst hc
    exact ptr_nck h hr
  | alloc t =>
    simp only [comp1] at hc
    split at hc
    · next inf hi =>
      split at hc
      · next z hz =>
        injection hc with hc
        subst hc
        cases hr
        exact good_alloc h hi hz
      · cases hc
    · cases hc
  | box t x =>
    simp only [comp1] at hc
    injection hc with hc
    subst hc
    cases hr with
    | box hx h1 => exact good_box h hx h1
  | buildSlice t n ps =>
    simp only [comp1] at hc
    split at hc
    · next e s ht =>
      split at hc
      · next hk =>
        injection hc with hc
        subst hc
        simp only [Bool.and_eq_true, decide_eq_true_eq] at hk
        cases hr with
        | brow hd hs hl => exact good_brow h ht hk.1.1 hk.1.2 hk.2 hd hs hl
        | bown hd hs hl => exact good_bown h ht hk.1.1 hk.1.2 hk.2 hd hs hl
      · cases hc
    · cases hc
  | makeSlice t l c =>
    simp only [comp1] at hc
    split at hc
    · next e s ht =>
      split at hc
      · next z hz =>
        split at hc
        · next hk =>
          injection hc with hc
          subst hc
          simp only [Bool.and_eq_true, beq_iff_eq] at hk
          obtain ⟨⟨⟨rfl, h2⟩, h3⟩, h4⟩ := hk
          cases hr with
          | mkO hl hk => exact good_mk h ht h2 hz h3 h4 hl hk
        · cases hc
      · cases hc
    · cases hc
  | build t ps =>
    simp only [comp1] at hc
    split at hc
    · next it fields h1 h2 =>
      split at hc
      · next z places h3 h4 =>
        split at hc
        · next l h5 =>
          injection hc with hc
          subst hc
          cases hr with
          | bld hf => exact good_bld h h1 h2 h3 h4 h5 hf
        · cases hc
      · cases hc
    · cases hc
  | field t x f =>
    simp only [comp1] at hc
    split at hc
    · next off n g hf =>
      cases g with
      | true =>
        simp only [if_true] at hc
        injection hc with hc
        subst hc
        cases hr with
        | fld hx hl => exact good_fld h hf rfl hx hl
      | false =>
        simp only [Bool.false_eq_true, if_false] at hc
        injection hc with hc
        subst hc
        cases hr with
        | fld hx hl => exact good_fld h hf rfl hx hl
    · cases hc
  | index t x j =>
    simp only [comp1] at hc
    split at hc
    · next ht =>
      injection hc with hc
      subst hc
      cases hr with
      | sidx hx hi h0 hb => exact good_sidx h ht hx hi h0 hb
    · cases hc
  | slice t x lo hi mx =>
    cases mx with
    | some m => simp only [comp1, reduceCtorEq] at hc
    | none =>
      simp only [comp1] at hc
      split at hc
      · next ht =>
        injection hc with hc
        subst hc
        cases hr with
        | ssl hx h1 h2 h3 => exact good_ssl h ht hx h1 h2 h3
      · next e ht =>
        split at hc
        · next inf hi =>
          injection hc with hc
          subst hc
          cases hr with
          | lsl hx h1 h2 h3 h4 => exact good_lsl h ht hi hx h1 h2 h3 h4
          | lslO hx ho hv hs h1 h2 h3 =>
            obtain ⟨u, g1, g2⟩ := lslO_run (d := d) (ty := ty) (pos := pos) (after := after) (guard := guard) h ht hi hx ho hv hs h1 h2 h3
            exact good_pure h g1 ⟨g2, trivial⟩
        · cases hc
      · cases hc
  | extract x j =>
    simp only [comp1] at hc
    injection hc with hc
    subst hc
    cases hr with
    | ext hx hj => exact good_ext h hx hj
  | convert src dst x =>
    simp only [comp1] at hc
    split at hc
    · next hs hd =>
      injection hc with hc
      subst hc
      cases hr with
      | cvi hx => exact good_cvi h hs hd hx
    · next e hs hd =>
      split at hc
      · next he =>
        injection hc with hc
        subst hc
        cases hr with
        | cvsS hx hb => exact good_cvsS h hs he hd hx hb
        | cvsO hx ho hv hb => exact good_cvsO h hs he hd hx ho hv hb
      · cases hc
    · cases hc
  | call c =>
    obtain ⟨callee, args, ats⟩ := c
    simp only [comp1] at hc
    split at hc
    · next _ f =>
      split at hc
      · next fn hf =>
        split at hc
        · cases hc
        · next hn =>
          injection hc with hc
          subst hc
          have hn' : (fn.name == "runtime.NumGoroutine" || fn.body.isNone) = false := by
            cases hb : (fn.name == "runtime.NumGoroutine" || fn.body.isNone) with
            | true => exact absurd hb hn
            | false => rfl
          have hm : (args.toList.map opd).map (St.ev ⟨fr, os, bs⟩) = args.toList.map fun x => St.ev ⟨fr, os, bs⟩ (opd x) := by simp
          cases hr with
          | call ha hcc hres => exact good_call h hf hn' (hm ▸ ha) hcc hres
          | callO ha hcc hl => exact good_callO h hf hn' (hm ▸ ha) hcc hl
          | callX ha hcc hres hlen => exact good_callX h hf hn' (hm ▸ ha) hcc hres
          | callA ha hcc hres => exact good_callA h hf hn' (hm ▸ ha) hcc hres
      · cases hc
    · next _ =>
      split at hc
      · next x y t t' hargs hats =>
        have e1 : args = #[x, y] := by apply Array.toList_inj.1; simpa using hargs
        have e2 : ats = #[t, t'] := by apply Array.toList_inj.1; simpa using hats
        subst e1 e2
        split at hc
        · next htt =>
          subst htt
          split at hc
          · next e s ht =>
            split at hc
            · next he =>
              injection hc with hc
              subst hc
              exact ptr_app h (elemOf_spec ht).1 he hr
            · cases hc
          · cases hc
        · split at hc
          · next e ht hu =>
            split at hc
            · next he =>
              injection hc with hc
              subst hc
              cases hr with
              | apps hx ho hv h1 h2 hy h3 => exact good_apps h ht hu he hx ho hv h1 h2 hy h3
            · cases hc
          · cases hc
      · cases hc
    · next _ =>
      split at hc
      · next x t hargs hats =>
        have e1 : args = #[x] := by apply Array.toList_inj.1; simpa using hargs
        have e2 : ats = #[t] := by apply Array.toList_inj.1; simpa using hats
        subst e1 e2
        split at hc
        · next ht =>
          injection hc with hc
          subst hc
          cases hr with
          | lenT hx => exact good_lenT h ht (eval_raw h hx)
        · next e ht =>
          injection hc with hc
          subst hc
          exact ptr_lenS h ht hr
        · cases hc
      · cases hc
    · injection hc with hc
      subst hc
      cases hr
    · cases hc
  | _ => simp [comp1] at hc
/-- A store into an element of a slice of the call's own. -/
theorem storeE_sound {op : Op} {n k v j : Nat} {x y : Opd} {ow : Own} {dd : D} {K : Act → World → Prop} (hc : comp1 P own op = some (.store n x y)) (h : Rel B Xs G w0 ⟨fr, os, bs⟩ E a w)
    (hx : St.ev ⟨fr, os, bs⟩ x = .eptr k v j 0) (ho : os[k]? = some ow) (hv : ow.ver = v) (hs : ow.s = n) (hj : j < ow.l.length) (hy : (St.ev ⟨fr, os, bs⟩ y).toD = some dd) (hd : dd.sz = n)
    (hK : ∀ E' w', Rel B Xs G w0 (St.put ⟨fr, os.set k ⟨ow.l.set j dd, ow.e, ow.s, ow.ver, ow.nw && (St.ev ⟨fr, os, bs⟩ y).nw⟩, bs⟩ d .any) E' (a.put d undef) w' → K (a.put d undef) w') :
    Oper.wp P ⟨d, op, ty, pos, after, guard⟩ a w K Q := by
  have : ∃ t x' y' i, op = .store t x' y' ∧ P.info? t = some i ∧ i.size = n ∧ opd x' = x ∧ opd y' = y := by
    cases op with
    | store t x' y' =>
      simp only [comp1] at hc
      split at hc
      · next i hi =>
        injection hc with hc
        injection hc with h1 h2 h3
        exact ⟨t, x', y', i, rfl, hi, h1, h2, h3⟩
      · cases hc
    | _ =>
      simp only [comp1] at hc
      repeat' split at hc
      all_goals first | contradiction | (cases hc; done)
  obtain ⟨t, x', y', i, rfl, hi, rfl, rfl, rfl⟩ := this
  exact good_storeE h hi hx ho hv hs hj hy hd hK
/-- A part of an own slice takes its place. -/
theorem lslR_sound {op : Op} {s k v p q : Nat} {x : Opd} {lo hi : Option Opd} {ow : Own} {lo' hi' : Option Int} {K : Act → World → Prop} (hc : comp1 P own op = some (.lsl s x lo hi)) (h : Rel B Xs G w0 ⟨fr, os, bs⟩ E a w)
    (hx : St.ev ⟨fr, os, bs⟩ x = .c false [.own k v]) (ho : os[k]? = some ow) (hv : ow.ver = v) (hs : ow.s = s) (hlo : lo.map (fun y => rawI (St.ev ⟨fr, os, bs⟩ y)) = lo'.map some) (hhi : hi.map (fun y => rawI (St.ev ⟨fr, os, bs⟩ y)) = hi'.map some)
    (hb : subB lo' hi' ow.l.length = some (p, q))
    (hK : ∀ E' u, Rel B Xs G w0 (St.put ⟨fr, os.set k ⟨(ow.l.take q).drop p, ow.e, ow.s, ow.ver + 1, ow.nw⟩, bs⟩ d (.c false [.own k (ow.ver + 1)])) E' (a.put d u) w → K (a.put d u) w) :
    Oper.wp P ⟨d, op, ty, pos, after, guard⟩ a w K Q := by
  have : ∃ t x' lo2 hi2 e i, op = .slice t x' lo2 hi2 none ∧ P.underlying t = some (.slice e) ∧ P.info? e = some i ∧ i.size = s ∧ opd x' = x ∧ lo2.map opd = lo ∧ hi2.map opd = hi := by
    cases op with
    | slice t x' lo2 hi2 mx =>
      cases mx with
      | some m => simp only [comp1, reduceCtorEq] at hc
      | none =>
        simp only [comp1] at hc
        split at hc
        · cases hc
        · next e ht =>
          split at hc
          · next inf hi =>
            injection hc with hc
            injection hc with h1 h2 h3 h4
            exact ⟨t, x', lo2, hi2, e, inf, rfl, ht, hi, h1, h2, h3, h4⟩
          · cases hc
        · cases hc
    | _ =>
      simp only [comp1] at hc
      repeat' split at hc
      all_goals first | contradiction | (cases hc; done)
  obtain ⟨t, x', lo2, hi2, e, i, rfl, ht, hi0, rfl, rfl, rfl, rfl⟩ := this
  subst hv
  obtain ⟨u, g1, g2⟩ := lslO_run (d := d) (ty := ty) (pos := pos) (after := after) (guard := guard) h ht hi0 hx ho rfl hs hlo hhi hb
  obtain ⟨q1, q2, pp, cs, f, q3, q4, q5, q6, q7, _⟩ := osub_ok h g2 ho rfl
  obtain ⟨cs', h5, h6, h7, h8⟩ := h.own k ow pp ho q3
  refine wp_run g1 (hK _ u (h.grow ho q3 (World.grownBy.refl w _) (Or.inl q7) q4 q5 (fun z hz => h7 z (List.mem_of_mem_take (List.mem_of_mem_drop hz))) (fun b hb => ⟨Rs.lt h6 b (q6 b hb), h8 b (q6 b hb)⟩) d))
end
end Go.Proofs.YtdjcflnemnknaaaDoor

namespace Go.Proofs.YtdjcflnemnknaaaDoor
open Go.RowKit
set_option linter.unusedSimpArgs false
set_option linter.unusedVariables false

structure IOp where
  d : Option Nat
  gd : Option (Nat × Bool)
  i : I
def ownFlag (ops : Array Oper) (o : Oper) : Bool := match o.dst with
  | some d => !(ops.any fun p => match p.op with
    | .call c => (match c.callee, c.args.toList with | .builtin .append, [_, .tmp t] => t == d | .value (.func _), l => l.any (fun x => match x with | .tmp t => t == d | _ => false) | _, _ => false)
    | _ => false)
  | none => false
def setOwn (b : Bool) : I → I
  | .brow _ e s n g xs => .brow b e s n g xs
  | i => i
def compOp (P : Program) (ops : Array Oper) (o : Oper) : Option IOp := match comp1 P (ownFlag ops o) o.op with
  | some i => (match o.guard with
    | none => some ⟨o.dst, none, i⟩
    | some (j, want) => (match (ops[j]?).bind (·.dst) with | some g => some ⟨o.dst, some (g, want), i⟩ | none => none))
  | none => none
def compOps (P : Program) (ops : Array Oper) : List Oper → Option (List IOp)
  | [] => some []
  | o :: l => match compOp P ops o, compOps P ops l with | some i, some is => some (i :: is) | _, _ => none

def gdA (st : St) : Option (Nat × Bool) → Option Bool
  | none => some true
  | some (g, want) => match st.fr.getD g .any with
    | .c false [.raw (.bool b)] => some (b == want)
    | .c false [.raw (.tuple _)] => some false
    | _ => none
def idx (l : List D) (z : Option Int) : Option D := match z with | some z => if 0 ≤ z then l[z.toNat]? else none | none => none
def opI (ρ : Opd → AV) : Option Opd → Option (Option Int)
  | none => some none
  | some x => match rawI (ρ x) with | some z => some (some z) | none => none
/-- A step that is reckoned. -/
def ex (ρ : Opd → AV) (os : List Own) (bs : List (List AC)) : I → Option (AV × List Own × List (List AC))
  | .mov x => some (ρ x, os, bs)
  | .pick c x y => (match ρ c with | .c false [.raw (.bool b)] => some (if b then ρ x else ρ y, os, bs) | _ => none)
  | .bin op x y => (match ρ x, ρ y with | .c false [.raw u], .c false [.raw v] => (match vbin op u v with | some z => some (.c false [.raw z], os, bs) | none => none) | _, _ => none)
  | .beq ne x y => (match ρ x, ρ y with | .c false [.raw (.bool u)], .c false [.raw (.bool v)] => some (.c false [.raw (.bool (if ne then !(u == v) else u == v))], os, bs) | _, _ => none)
  | .not x => (match ρ x with | .c false [.raw (.bool u)] => some (.c false [.raw (.bool !u)], os, bs) | _ => none)
  | .load n g x => (match ρ x with
    | .ptr xs => if n ≤ xs.length then some (.c g (xs.take n), os, bs) else none
    | .bptr k off => (match bs[k]? with | some xs => if off + n ≤ xs.length then some (.c g ((xs.drop off).take n), os, bs) else none | none => none)
    | .eptr k i j off => (match os[k]? with
      | some o => if o.ver = i then (match o.l[j]? with | some d => if off + n ≤ (d.acs o.nw).length then some (.c g (((d.acs o.nw).drop off).take n), os, bs) else none | none => none) else none
      | none => none)
    | _ => none)
  | .fad off x => (match ρ x with
    | .ptr xs => if off ≤ xs.length then some (.ptr (xs.drop off), os, bs) else none
    | .bptr k z => some (.bptr k (z + off), os, bs)
    | .eptr k i j z => (match os[k]? with | some o => if o.ver = i then some (.eptr k i j (z + off), os, bs) else none | none => none)
    | _ => none)
  | .nck x => (match ρ x with | .ptr xs => some (.ptr xs, os, bs) | .bptr k z => some (.bptr k z, os, bs) | _ => none)
  | .alloc zs => some (.bptr bs.length 0, os, bs ++ [zs.map .raw])
  | .box x => (match ρ x with | .c g xs => if xs.all AC.one then some (.bptr bs.length 0, os, bs ++ [xs]) else none | _ => none)
  | .store n x y => (match ρ x, ρ y with
    | .bptr k off, .c g ys => if ys.length = n && ys.all AC.one then (match bs[k]? with | some xs => if off + n ≤ xs.length then some (.any, os, bs.set k (xs.take off ++ ys ++ xs.drop (off + n))) else none | none => none) else none
    | _, _ => none)
  | .brow own e s n g xs => (match avsD (xs.map ρ) with
    | some ds => if ds.all (fun d => d.sz == s) && ds.length == n then
        (if own then some (.c false [.own os.length 0], os ++ [⟨ds, e, s, 0, (xs.map ρ).all AV.nw⟩], bs) else some (.c false [.sl ((xs.map ρ).all AV.nw) ds], os, bs)) else none
    | none => none)
  | .mk e z x => (match rawI (ρ x) with
    | some n => if 0 ≤ n then (if n.toNat ≤ 4194304 then some (.c false [.own os.length 0], os ++ [⟨List.replicate n.toNat (.leaf z), e, 1, 0, true⟩], bs) else none) else none
    | none => none)
  | .bld zs ps => (match fillA ρ ps (zs.map .raw) with | some cs => some (.c true cs, os, bs) | none => none)
  | .fld off n g x => (match ρ x with | .c true xs => if off + n ≤ xs.length then some (.c g ((xs.drop off).take n), os, bs) else none | _ => none)
  | .sidx x i => (match ρ x, rawI (ρ i) with
    | .c false [.raw (.string s)], some z => if 0 ≤ z then (match s.data[z.toNat]? with | some b => some (.c false [.raw (.int .u8 b.toNat)], os, bs) | none => none) else none
    | _, _ => none)
  | .ssl x lo hi => (match ρ x, opI ρ lo, opI ρ hi with
    | .c false [.raw (.string s)], some l, some h => (match subB l h s.size with | some (p, q) => some (.c false [.raw (.string (s.extract p q))], os, bs) | none => none)
    | _, _, _ => none)
  | .ext j x => (match ρ x with | .tup ys => (match ys[j]? with | some (g, xs) => some (.c g xs, os, bs) | none => none) | _ => none)
  | .len str x => (match str, ρ x with
    | false, .c false [.sl n l] => some (.c false [.raw (.int .i64 l.length)], os, bs)
    | false, .c false [.own k i] => (match os[k]? with | some o => if o.ver = i then some (.c false [.raw (.int .i64 o.l.length)], os, bs) else none | none => none)
    | false, .c false [.osub k i p q] => (match os[k]? with | some o => if o.ver = i then some (.c false [.raw (.int .i64 ((q - p : Nat) : Int))], os, bs) else none | none => none)
    | true, .c false [.raw (.string s)] => some (.c false [.raw (.int .i64 s.size)], os, bs)
    | false, .c false [.raw (.slice none 0 0)] => some (.c false [.raw (.int .i64 0)], os, bs)
    | _, _ => none)
  | .mkf f xs => (match capsOf (xs.map ρ) with | some cs => some (.c false [.cl f cs], os, bs) | none => none)
  | .fnil ne x => (match ρ x with | .c false [.cl _ _] => some (.c false [.raw (.bool ne)], os, bs) | .c false [.raw .nilFunc] => some (.c false [.raw (.bool (!ne))], os, bs) | _ => none)
  | .snil ne x => (match ρ x with
    | .c false [.raw (.slice none 0 0)] => some (.c false [.raw (.bool (!ne))], os, bs)
    | .c false [.own k i] => (match os[k]? with | some o => if o.ver = i then (if 0 < o.l.length then some (.c false [.raw (.bool ne)], os, bs) else none) else none | none => none)
    | _ => none)
  | .cvi k x => (match ρ x with | .c false [.raw (.int _ z)] => some (.c false [.raw (.int k (k.wrap z))], os, bs) | _ => none)
  | .cvs x => (match ρ x with
    | .c false [.sl n l] => (match bytesD l with | some b => some (.c false [.raw (.string ⟨b.toArray⟩)], os, bs) | none => none)
    | .c false [.own k i] => (match os[k]? with | some o => if o.ver = i then (match bytesD o.l with | some b => some (.c false [.raw (.string ⟨b.toArray⟩)], os, bs) | none => none) else none | none => none)
    | _ => none)
  | .apps e x y => (match ρ x, ρ y with
    | .c false [.own k i], .c false [.raw (.string s)] => (match os[k]? with
      | some o => if o.ver = i then (if o.e = e then (if o.s = 1 then (if o.l.length + s.size ≤ 1073741824 then some (.c false [.own k (i + 1)], os.set k ⟨o.l ++ strD s, e, 1, i + 1, o.nw⟩, bs) else none) else none) else none) else none
      | none => none)
    | _, _ => none)
  | .iad .. => none
  | .lsl .. => none
  | .call .. => none
  | .callv .. => none
  | .app .. => none
theorem opI_spec {ρ : Opd → AV} {lo : Option Opd} {l : Option Int} (h : opI ρ lo = some l) : lo.map (fun y => rawI (ρ y)) = l.map some := by
  cases lo with
  | none => simp only [opI] at h; injection h with h; subst h; rfl
  | some x =>
    simp only [opI] at h
    split at h
    · next z hz => injection h with h; subst h; simp [hz]
    · cases h
theorem ex_res {P : Program} {ρ : Opd → AV} {os os' : List Own} {bs bs' : List (List AC)} {i : I} {r : AV} (h : ex ρ os bs i = some (r, os', bs')) : Res P ρ os bs i r os' bs' := by
  have fin : ∀ {x y : AV × List Own × List (List AC)}, some x = some y → x = y := fun h => Option.some.inj h
  cases i with
  | mov x => cases fin h; exact .mov
  | pick c x y =>
    simp only [ex] at h
    split at h
    · next b hc => cases fin h; exact .pick hc
    · cases h
  | bin op x y =>
    simp only [ex] at h
    split at h
    · next u v hx hy =>
      split at h
      · next z hz => cases fin h; exact .bin hx hy hz
      · cases h
    · cases h
  | beq ne x y =>
    simp only [ex] at h
    split at h
    · next u v hx hy => cases fin h; exact .beq hx hy
    · cases h
  | not x =>
    simp only [ex] at h
    split at h
    · next u hx => cases fin h; exact .not hx
    · cases h
  | mkf f xs =>
    simp only [ex] at h
    split at h
    · next cs hc => cases fin h; exact .mkf hc
    · cases h
  | fnil ne x =>
    simp only [ex] at h
    split at h
    · next hx => cases fin h; exact .fnilC hx
    · next hx => cases fin h; exact .fnilN hx
    · cases h
  | snil ne x =>
    simp only [ex] at h
    split at h
    · next hx => cases fin h; exact .snilZ hx
    · next k i hx =>
      split at h
      · next o ho =>
        split at h
        · next hv =>
          split at h
          · next hl => cases fin h; exact .snilO hx ho hv hl
          · cases h
        · cases h
      · cases h
    · cases h
  | load n g x =>
    simp only [ex] at h
    split at h
    · next xs hx =>
      split at h
      · next hl => cases fin h; exact .loadP hx hl
      · cases h
    · next k off hx =>
      split at h
      · next xs hk =>
        split at h
        · next hl => cases fin h; exact .loadB hx hk hl
        · cases h
      · cases h
    · next k i j off hx =>
      split at h
      · next o ho =>
        split at h
        · next hv =>
          split at h
          · next d hd =>
            split at h
            · next hl => cases fin h; exact .loadE hx ho hv hd hl
            · cases h
          · cases h
        · cases h
      · cases h
    · cases h
  | fad off x =>
    simp only [ex] at h
    split at h
    · next xs hx =>
      split at h
      · next hl => cases fin h; exact .fadP hx hl
      · cases h
    · next k z hx => cases fin h; exact .fadB hx
    · next k i j z hx =>
      split at h
      · next o ho =>
        split at h
        · next hv => cases fin h; exact .fadE hx ho hv
        · cases h
      · cases h
    · cases h
  | nck x =>
    simp only [ex] at h
    split at h
    · next xs hx => cases fin h; exact .nckP hx
    · next k z hx => cases fin h; exact .nckB hx
    · cases h
  | alloc zs => cases fin h; exact .alloc
  | box x =>
    simp only [ex] at h
    split at h
    · next g xs hx =>
      split at h
      · next h1 => cases fin h; exact .box hx h1
      · cases h
    · cases h
  | store n x y =>
    simp only [ex] at h
    split at h
    · next k off g ys hx hy =>
      split at h
      · next h1 =>
        simp only [Bool.and_eq_true, decide_eq_true_eq] at h1
        split at h
        · next xs hk =>
          split at h
          · next hl => cases fin h; exact .store hx hy h1.1 h1.2 hk hl
          · cases h
        · cases h
      · cases h
    · cases h
  | brow own e s n g xs =>
    simp only [ex] at h
    split at h
    · next ds hd =>
      split at h
      · next h1 =>
        simp only [Bool.and_eq_true, beq_iff_eq, List.all_eq_true] at h1
        split at h
        · next ho => cases fin h; rw [ho]; exact .bown hd h1.1 h1.2
        · next ho => cases fin h; rw [show own = false by simpa using ho]; exact .brow hd h1.1 h1.2
      · cases h
    · cases h
  | cvi k x =>
    simp only [ex] at h
    split at h
    · next hx => cases fin h; exact .cvi hx
    · cases h
  | cvs x =>
    simp only [ex] at h
    split at h
    · next n l hx =>
      split at h
      · next b hb => cases fin h; exact .cvsS hx hb
      · cases h
    · next k i hx =>
      split at h
      · next o ho =>
        split at h
        · next hv =>
          split at h
          · next b hb => cases fin h; exact .cvsO hx ho hv hb
          · cases h
        · cases h
      · cases h
    · cases h
  | apps e x y =>
    simp only [ex] at h
    split at h
    · next k i s hx hy =>
      split at h
      · next o ho =>
        split at h
        · next hv =>
          split at h
          · next h1 =>
            split at h
            · next h2 =>
              split at h
              · next h3 => cases fin h; exact .apps hx ho hv h1 h2 hy h3
              · cases h
            · cases h
          · cases h
        · cases h
      · cases h
    · cases h
  | mk e z x =>
    simp only [ex] at h
    split at h
    · next n hn =>
      split at h
      · next h0 =>
        split at h
        · next h1 =>
          cases fin h
          exact .mkO (k := n.toNat) (by rw [hn]; congr 1; omega) h1
        · cases h
      · cases h
    · cases h
  | bld zs ps =>
    simp only [ex] at h
    split at h
    · next cs hf => cases fin h; exact .bld hf
    · cases h
  | fld off n g x =>
    simp only [ex] at h
    split at h
    · next xs hx =>
      split at h
      · next hl => cases fin h; exact .fld hx hl
      · cases h
    · cases h
  | sidx x i =>
    simp only [ex] at h
    split at h
    · next s z hx hz =>
      split at h
      · next h0 =>
        split at h
        · next b hb => cases fin h; exact .sidx hx hz h0 hb
        · cases h
      · cases h
    · cases h
  | ssl x lo hi =>
    simp only [ex] at h
    split at h
    · next s l hh hx hlo hhi =>
      split at h
      · next p q hs => cases fin h; exact .ssl hx (opI_spec hlo) (opI_spec hhi) hs
      · cases h
    · cases h
  | ext j x =>
    simp only [ex] at h
    split at h
    · next ys hx =>
      split at h
      · next g xs hj => cases fin h; exact .ext hx hj
      · cases h
    · cases h
  | len str x =>
    simp only [ex] at h
    split at h
    · next n l hx => cases fin h; exact .lenS hx
    · next k i hx =>
      split at h
      · next o ho =>
        split at h
        · next hv => cases fin h; exact .lenO hx ho hv
        · cases h
      · cases h
    · next k i p q hx =>
      split at h
      · next o ho =>
        split at h
        · next hv => cases fin h; exact .lenU hx ho hv
        · cases h
      · cases h
    · next s hx => cases fin h; exact .lenT hx
    · next hx => cases fin h; exact .lenN hx
    · cases h
  | iad => cases h
  | lsl => cases h
  | call => cases h
  | callv => cases h
  | app => cases h
end Go.Proofs.YtdjcflnemnknaaaDoor

namespace Go.Proofs.YtdjcflnemnknaaaDoor
open Go.RowKit
set_option linter.unusedSimpArgs false
set_option linter.unusedVariables false

/-- Values that are as told. -/
def AVsOk (E : Env) (os : List Own) (w : World) : List AV → List Value → Prop
  | [], [] => True
  | x :: xs, v :: vs => x.ok E os w v ∧ AVsOk E os w xs vs
  | _, _ => False
/-- A call that may turn the caller's own slices and boxes. -/
def CallsS (P : Program) (f : Nat) (avs : List AV) (os : List Own) (bs : List (List AC)) (r : AV) (os' : List Own) (bs' : List (List AC)) : Prop :=
  ∀ (B : Nat) (Xs : List Nat) (G : Org) (w0 : World) (fr : List AV) (E : Env) (a : Act) (w : World) (vs : List Value), Rel B Xs G w0 ⟨fr, os, bs⟩ E a w → AVsOk E os w avs vs →
    Calls P f vs.toArray w fun e w' => ∃ v E', e = .returned v ∧ Rel B Xs ⟨E, os, w⟩ w0 ⟨[], os', bs'⟩ E' { tmps := #[], defers := [] } w' ∧ r.ok E' os' w' v
/-- The same, where the call's end is known in part. -/
def CallsE (P : Program) (f : Nat) (avs : List AV) (os : List Own) (bs : List (List AC)) (post : AV → List Own → List (List AC) → Prop) : Prop :=
  ∀ (B : Nat) (Xs : List Nat) (G : Org) (w0 : World) (fr : List AV) (E : Env) (a : Act) (w : World) (vs : List Value), Rel B Xs G w0 ⟨fr, os, bs⟩ E a w → AVsOk E os w avs vs →
    Calls P f vs.toArray w fun e w' => ∃ v E' r os' bs', post r os' bs' ∧ e = .returned v ∧ Rel B Xs ⟨E, os, w⟩ w0 ⟨[], os', bs'⟩ E' { tmps := #[], defers := [] } w' ∧ r.ok E' os' w' v
theorem CallsS.toE {P : Program} {f : Nat} {avs : List AV} {os os' : List Own} {bs bs' : List (List AC)} {r : AV} (h : CallsS P f avs os bs r os' bs') : CallsE P f avs os bs (fun r2 os2 bs2 => r2 = r ∧ os2 = os' ∧ bs2 = bs') :=
  fun B Xs G w0 fr E a w vs hR hv => (h B Xs G w0 fr E a w vs hR hv).mono fun e w' ⟨v, E', h1, h2, h3⟩ => ⟨v, E', r, os', bs', ⟨rfl, rfl, rfl⟩, h1, h2, h3⟩
theorem CallsE.mono {P : Program} {f : Nat} {avs : List AV} {os : List Own} {bs : List (List AC)} {p q : AV → List Own → List (List AC) → Prop} (h : CallsE P f avs os bs p) (hq : ∀ r os' bs', p r os' bs' → q r os' bs') : CallsE P f avs os bs q :=
  fun B Xs G w0 fr E a w vs hR hv => (h B Xs G w0 fr E a w vs hR hv).mono fun e w' ⟨v, E', r, os', bs', h0, h1, h2, h3⟩ => ⟨v, E', r, os', bs', hq _ _ _ h0, h1, h2, h3⟩
/-- A function with code of its own. -/
def fnOk (P : Program) (f : Nat) : Bool := match P.funcs[f]? with | some fn => !(fn.name == "runtime.NumGoroutine" || fn.body.isNone) | none => false
/-- One step from a state to the next. -/
inductive Step (P : Program) (o : IOp) (st : St) : St → Prop
  | run {r os' bs'} : gdA st o.gd = some true → Res P st.ev st.owns st.boxes o.i r os' bs' → Step P o st (St.put ⟨st.fr, os', bs'⟩ o.d r)
  | skip : gdA st o.gd = some false → Step P o st (st.put o.d (.c false [.raw undef]))
  | storeE {n x y k v j ow dd} : gdA st o.gd = some true → o.i = .store n x y → st.ev x = .eptr k v j 0 → st.owns[k]? = some ow → ow.ver = v → ow.s = n → j < ow.l.length → (st.ev y).toD = some dd → dd.sz = n →
      Step P o st (St.put ⟨st.fr, st.owns.set k ⟨ow.l.set j dd, ow.e, ow.s, ow.ver, ow.nw && (st.ev y).nw⟩, st.boxes⟩ o.d .any)
  | callS {f xs r os' bs'} : gdA st o.gd = some true → o.i = .call f xs → CallsS P f (xs.map st.ev) st.owns st.boxes r os' bs' → Step P o st (St.put ⟨st.fr, os', bs'⟩ o.d r)
  | lslR {s x lo hi k v ow lo' hi' p q} : gdA st o.gd = some true → o.i = .lsl s x lo hi → st.ev x = .c false [.own k v] → st.owns[k]? = some ow → ow.ver = v → ow.s = s → lo.map (fun y => rawI (st.ev y)) = lo'.map some → hi.map (fun y => rawI (st.ev y)) = hi'.map some → subB lo' hi' ow.l.length = some (p, q) →
      Step P o st (St.put ⟨st.fr, st.owns.set k ⟨(ow.l.take q).drop p, ow.e, ow.s, v + 1, ow.nw⟩, st.boxes⟩ o.d (.c false [.own k (v + 1)]))
  | callV {x xs f caps r os' bs'} : gdA st o.gd = some true → o.i = .callv x xs → st.ev x = .c false [.cl f caps] → fnOk P f = true → CallsS P f (xs.map st.ev ++ caps.map fun k => .bptr k 0) st.owns st.boxes r os' bs' → Step P o st (St.put ⟨st.fr, os', bs'⟩ o.d r)

/-- At a part of an own slice: looked at, or put in its place. -/
def LslThen (x y : Prop) : Prop := x ∨ y
theorem lslKeep {x y : Prop} (h : x) : LslThen x y := Or.inl h
theorem lslMove {x y : Prop} (h : y) : LslThen x y := Or.inr h
section
variable (P : Program) (K : St → Prop)
/-- The steps, one behind the other. -/
def sw : List IOp → St → Prop
  | [], st => K st
  | o :: rest, st => match gdA st o.gd with
    | none => False
    | some false => sw rest (st.put o.d (.c false [.raw undef]))
    | some true => match o.i with
      | .iad s x j => (match st.ev x with
        | .c false [.sl n l] => El s l ∧ (match idx l (rawI (st.ev j)) with | some dd => sw rest (st.put o.d (.ptr (dd.acs n))) | none => False)
        | .c false [.own k v] => (match st.owns[k]?, rawI (st.ev j) with | some ow, some z => ow.ver = v ∧ ow.s = s ∧ 0 ≤ z ∧ z.toNat < ow.l.length ∧ sw rest (st.put o.d (.eptr k v z.toNat 0)) | _, _ => False)
        | .c false [.osub k v p q] => (match st.owns[k]?, rawI (st.ev j) with | some ow, some z => ow.ver = v ∧ ow.s = s ∧ 0 ≤ z ∧ z.toNat < q - p ∧ sw rest (st.put o.d (.eptr k v (p + z.toNat) 0)) | _, _ => False)
        | _ => False)
      | .lsl s x lo hi => (match st.ev x, opI st.ev lo, opI st.ev hi with
        | .c false [.sl n l], some a, some b => El s l ∧ (match subB a b l.length with | some (p, q) => sw rest (st.put o.d (.c false [.sl n ((l.take q).drop p)])) | none => False)
        | .c false [.own k v], some a, some b => (match st.owns[k]? with
          | some ow => ow.ver = v ∧ ow.s = s ∧ (match subB a b ow.l.length with
            | some (p, q) => LslThen (sw rest (st.put o.d (.c false [.osub k v p q]))) (sw rest (St.put ⟨st.fr, st.owns.set k ⟨(ow.l.take q).drop p, ow.e, ow.s, v + 1, ow.nw⟩, st.boxes⟩ o.d (.c false [.own k (v + 1)])))
            | none => False)
          | none => False)
        | _, _, _ => False)
      | .call f xs => (∃ ds r, ArgsOk st.owns (xs.map st.ev) ds ∧ CallsTo P f ds r ∧ r.res ∧ sw rest (st.put o.d r)) ∨
          (∃ ds g l e s, ArgsOk st.owns (xs.map st.ev) ds ∧ CallsOwnG P f ds g l e s ∧ El s l ∧ sw rest (St.put ⟨st.fr, st.owns ++ [⟨l, e, s, 0, true⟩], st.boxes⟩ o.d (.c g [.own st.owns.length 0]))) ∨
          (∃ ds r, ArgsOk [] (xs.map st.ev) ds ∧ CallsToA P f ds r ∧ r.old = true ∧ sw rest (st.put o.d r)) ∨
          (∃ ds r os', ArgsOk st.owns (xs.map st.ev) ds ∧ CallsX P f ds r os' ∧ r.out = true ∧ 0 < os'.length ∧ sw rest (St.put ⟨st.fr, st.owns ++ os', st.boxes⟩ o.d (r.shift st.owns.length))) ∨
          (∃ r os' bs', CallsS P f (xs.map st.ev) st.owns st.boxes r os' bs' ∧ sw rest (St.put ⟨st.fr, os', bs'⟩ o.d r)) ∨
          (∃ post : AV → List Own → List (List AC) → Prop, CallsE P f (xs.map st.ev) st.owns st.boxes post ∧ ∀ r os' bs', post r os' bs' → sw rest (St.put ⟨st.fr, os', bs'⟩ o.d r))
      | .callv x xs => (∃ f caps r os' bs', st.ev x = .c false [.cl f caps] ∧ fnOk P f = true ∧ CallsS P f (xs.map st.ev ++ caps.map fun k => .bptr k 0) st.owns st.boxes r os' bs' ∧ sw rest (St.put ⟨st.fr, os', bs'⟩ o.d r))
      | .app e s x y => (match st.ev x, srcOf st.owns (st.ev y) with
        | .c false [.own k v], some (l, n) => (match st.owns[k]? with
          | some ow => ow.ver = v ∧ ow.e = e ∧ ow.s = s ∧ El s l ∧ ow.l.length + l.length ≤ capN s ∧ sw rest (St.put ⟨st.fr, st.owns.set k ⟨ow.l ++ l, e, s, v + 1, ow.nw && n⟩, st.boxes⟩ o.d (.c false [.own k (v + 1)]))
          | none => False)
        | .c false [.osub k v p q], some (l, n) => (match st.owns[k]? with
          | some ow => ow.ver = v ∧ ow.e = e ∧ ow.s = s ∧ El s l ∧ ow.l.length + l.length ≤ capN s ∧ sw rest (St.put ⟨st.fr, st.owns.set k ⟨(ow.l.take q).drop p ++ l, e, s, v + 1, ow.nw && n⟩, st.boxes⟩ o.d (.c false [.own k (v + 1)]))
          | none => False)
        | .c false [.raw (.slice none 0 0)], some (l, n) => El s l ∧ l.length ≤ capN s ∧ sw rest (St.put ⟨st.fr, st.owns ++ [⟨l, e, s, 0, n⟩], st.boxes⟩ o.d (.c false [.own st.owns.length 0]))
        | _, _ => False)
      | .store n x y => (match st.ev x with
        | .eptr k v j 0 => (match st.owns[k]?, (st.ev y).toD with
          | some ow, some dd => ow.ver = v ∧ ow.s = n ∧ j < ow.l.length ∧ dd.sz = n ∧ sw rest (St.put ⟨st.fr, st.owns.set k ⟨ow.l.set j dd, ow.e, ow.s, ow.ver, ow.nw && (st.ev y).nw⟩, st.boxes⟩ o.d .any)
          | _, _ => False)
        | _ => (match ex st.ev st.owns st.boxes (.store n x y) with | some (r, os', bs') => sw rest (St.put ⟨st.fr, os', bs'⟩ o.d r) | none => False))
      | i => (match ex st.ev st.owns st.boxes i with | some (r, os', bs') => sw rest (St.put ⟨st.fr, os', bs'⟩ o.d r) | none => False)
/-- At a call. -/
def CallThen (d : Option Nat) (f : Nat) (avs : List AV) (rest : List IOp) (st : St) : Prop :=
  (∃ ds r, ArgsOk st.owns avs ds ∧ CallsTo P f ds r ∧ r.res ∧ sw P K rest (st.put d r)) ∨
  (∃ ds g l e s, ArgsOk st.owns avs ds ∧ CallsOwnG P f ds g l e s ∧ El s l ∧ sw P K rest (St.put ⟨st.fr, st.owns ++ [⟨l, e, s, 0, true⟩], st.boxes⟩ d (.c g [.own st.owns.length 0]))) ∨
  (∃ ds r, ArgsOk [] avs ds ∧ CallsToA P f ds r ∧ r.old = true ∧ sw P K rest (st.put d r)) ∨
  (∃ ds r os', ArgsOk st.owns avs ds ∧ CallsX P f ds r os' ∧ r.out = true ∧ 0 < os'.length ∧ sw P K rest (St.put ⟨st.fr, st.owns ++ os', st.boxes⟩ d (r.shift st.owns.length))) ∨
  (∃ r os' bs', CallsS P f avs st.owns st.boxes r os' bs' ∧ sw P K rest (St.put ⟨st.fr, os', bs'⟩ d r)) ∨
  (∃ post : AV → List Own → List (List AC) → Prop, CallsE P f avs st.owns st.boxes post ∧ ∀ r os' bs', post r os' bs' → sw P K rest (St.put ⟨st.fr, os', bs'⟩ d r))
/-- At a call of a function value. -/
def CallVThen (d : Option Nat) (x : AV) (avs : List AV) (rest : List IOp) (st : St) : Prop :=
  ∃ f caps r os' bs', x = .c false [.cl f caps] ∧ fnOk P f = true ∧ CallsS P f (avs ++ caps.map fun k => .bptr k 0) st.owns st.boxes r os' bs' ∧ sw P K rest (St.put ⟨st.fr, os', bs'⟩ d r)
end
section
variable {P : Program} {K : St → Prop}
theorem idx_spec {l : List D} {z : Option Int} {d : D} (h : idx l z = some d) : ∃ y, z = some y ∧ 0 ≤ y ∧ l[y.toNat]? = some d := by
  unfold idx at h
  split at h
  · next y =>
    split at h
    · next h0 => exact ⟨y, rfl, h0, h⟩
    · cases h
  · cases h
theorem sw_step {o : IOp} {rest : List IOp} {st : St} (h : sw P K (o :: rest) st) : (∃ st', Step P o st st' ∧ sw P K rest st') ∨ (∃ f xs post, gdA st o.gd = some true ∧ o.i = .call f xs ∧ CallsE P f (xs.map st.ev) st.owns st.boxes post ∧ ∀ r os' bs', post r os' bs' → sw P K rest (St.put ⟨st.fr, os', bs'⟩ o.d r)) := by
  obtain ⟨d, gd, i⟩ := o
  unfold sw at h
  split at h
  · exact h.elim
  · next hg => exact Or.inl ⟨_, .skip hg, h⟩
  · next hg =>
    simp only at h hg
    split at h
    · next s x j =>
      split at h
      · next n l hx =>
        obtain ⟨hel, h⟩ := h
        split at h
        · next dd hi =>
          obtain ⟨y, h1, h2, h3⟩ := idx_spec hi
          exact Or.inl ⟨_, .run hg (.iadS hx h1 h2 h3 hel), h⟩
        · exact h.elim
      · next k v hx =>
        split at h
        · next ow z ho hz =>
          obtain ⟨h1, h2, h3, h4, h⟩ := h
          exact Or.inl ⟨_, .run hg (.iadO hx hz h3 ho h1 h4 h2), h⟩
        · exact h.elim
      · next k v p q hx =>
        split at h
        · next ow z ho hz =>
          obtain ⟨h1, h2, h3, h4, h⟩ := h
          exact Or.inl ⟨_, .run hg (.iadU hx hz h3 ho h1 h4 h2), h⟩
        · exact h.elim
      · exact h.elim
    · next s x lo hi =>
      split at h
      · next n l a b hx hlo hhi =>
        obtain ⟨hel, h⟩ := h
        split at h
        · next p q hs => exact Or.inl ⟨_, .run hg (.lsl hx (opI_spec hlo) (opI_spec hhi) hs hel), h⟩
        · exact h.elim
      · next k v a b hx hlo hhi =>
        split at h
        · next ow ho =>
          obtain ⟨h1, h2, h⟩ := h
          split at h
          · next p q hs =>
            rcases h with h | h
            · exact Or.inl ⟨_, .run hg (.lslO hx ho h1 h2 (opI_spec hlo) (opI_spec hhi) hs), h⟩
            · exact Or.inl ⟨_, .lslR hg rfl hx ho h1 h2 (opI_spec hlo) (opI_spec hhi) hs, h⟩
          · exact h.elim
        · exact h.elim
      · exact h.elim
    · next f xs =>
      rcases h with ⟨ds, r, h1, h2, h3, h4⟩ | ⟨ds, g, l, e, s, h1, h2, h3, h4⟩ | ⟨ds, r, h1, h2, h3, h4⟩ | ⟨ds, r, os', h1, h2, h3, h5, h4⟩ | ⟨r, os', bs', h1, h4⟩ | ⟨post, h1, h4⟩
      · exact Or.inl ⟨_, .run hg (.call h1 h2 h3), h4⟩
      · exact Or.inl ⟨_, .run hg (.callO h1 h2 h3), h4⟩
      · exact Or.inl ⟨_, .run hg (.callA h1 h2 h3), h4⟩
      · exact Or.inl ⟨_, .run hg (.callX h1 h2 h3 h5), h4⟩
      · exact Or.inl ⟨_, .callS hg rfl h1, h4⟩
      · exact Or.inr ⟨f, xs, post, hg, rfl, h1, h4⟩
    · next x xs =>
      obtain ⟨f, caps, r, os', bs', h1, h2, h3, h4⟩ := h
      exact Or.inl ⟨_, .callV hg rfl h1 h2 h3, h4⟩
    · next e s x y =>
      split at h
      · next k v l n hx hs =>
        split at h
        · next ow ho =>
          obtain ⟨h1, h2, h3, h4, h5, h⟩ := h
          exact Or.inl ⟨_, .run hg (.appO hx ho h1 h2 h3 hs h4 h5), h⟩
        · exact h.elim
      · next k v p q l n hx hs =>
        split at h
        · next ow ho =>
          obtain ⟨h1, h2, h3, h4, h5, h⟩ := h
          exact Or.inl ⟨_, .run hg (.appU hx ho h1 h2 h3 hs h4 h5), h⟩
        · exact h.elim
      · next l n hx hs =>
        obtain ⟨h1, h2, h⟩ := h
        exact Or.inl ⟨_, .run hg (.appN hx hs h1 h2), h⟩
      · exact h.elim
    · next n x y =>
      split at h
      · next k v j hx =>
        split at h
        · next ow dd ho hd =>
          obtain ⟨h1, h2, h3, h4, h⟩ := h
          exact Or.inl ⟨_, .storeE hg rfl hx ho h1 h2 h3 hd h4, h⟩
        · exact h.elim
      · split at h
        · next r os' bs' he => exact Or.inl ⟨_, .run hg (ex_res he), h⟩
        · exact h.elim
    · split at h
      · next r os' bs' he => exact Or.inl ⟨_, .run hg (ex_res he), h⟩
      · exact h.elim

/-! The rules, for reckoning. -/
theorem sw_nil {st : St} : sw P K [] st = K st := rfl
theorem sw_guard {d : Option Nat} {g : Nat × Bool} {i : I} {rest : List IOp} {st : St} : sw P K (⟨d, some g, i⟩ :: rest) st = (match gdA st (some g) with
    | none => False
    | some false => sw P K rest (st.put d (.c false [.raw undef]))
    | some true => sw P K (⟨d, none, i⟩ :: rest) st) := by
  rw [sw.eq_2]
  simp only
  cases gdA st (some g) with
  | none => rfl
  | some b => cases b with
    | false => rfl
    | true => rfl
theorem sw_iad {d : Option Nat} {s : Nat} {x j : Opd} {rest : List IOp} {st : St} : sw P K (⟨d, none, .iad s x j⟩ :: rest) st = (match st.ev x with
        | .c false [.sl n l] => El s l ∧ (match idx l (rawI (st.ev j)) with | some dd => sw P K rest (st.put d (.ptr (dd.acs n))) | none => False)
        | .c false [.own k v] => (match st.owns[k]?, rawI (st.ev j) with | some ow, some z => ow.ver = v ∧ ow.s = s ∧ 0 ≤ z ∧ z.toNat < ow.l.length ∧ sw P K rest (st.put d (.eptr k v z.toNat 0)) | _, _ => False)
        | .c false [.osub k v p q] => (match st.owns[k]?, rawI (st.ev j) with | some ow, some z => ow.ver = v ∧ ow.s = s ∧ 0 ≤ z ∧ z.toNat < q - p ∧ sw P K rest (st.put d (.eptr k v (p + z.toNat) 0)) | _, _ => False)
        | _ => False) := rfl
theorem sw_lsl {d : Option Nat} {s : Nat} {x : Opd} {lo hi : Option Opd} {rest : List IOp} {st : St} : sw P K (⟨d, none, .lsl s x lo hi⟩ :: rest) st = (match st.ev x, opI st.ev lo, opI st.ev hi with
        | .c false [.sl n l], some a, some b => El s l ∧ (match subB a b l.length with | some (p, q) => sw P K rest (st.put d (.c false [.sl n ((l.take q).drop p)])) | none => False)
        | .c false [.own k v], some a, some b => (match st.owns[k]? with
          | some ow => ow.ver = v ∧ ow.s = s ∧ (match subB a b ow.l.length with
            | some (p, q) => LslThen (sw P K rest (st.put d (.c false [.osub k v p q]))) (sw P K rest (St.put ⟨st.fr, st.owns.set k ⟨(ow.l.take q).drop p, ow.e, ow.s, v + 1, ow.nw⟩, st.boxes⟩ d (.c false [.own k (v + 1)])))
            | none => False)
          | none => False)
        | _, _, _ => False) := rfl
theorem sw_call {d : Option Nat} {f : Nat} {xs : List Opd} {rest : List IOp} {st : St} : sw P K (⟨d, none, .call f xs⟩ :: rest) st = CallThen P K d f (xs.map st.ev) rest st := rfl
theorem sw_callv {d : Option Nat} {x : Opd} {xs : List Opd} {rest : List IOp} {st : St} : sw P K (⟨d, none, .callv x xs⟩ :: rest) st = CallVThen P K d (st.ev x) (xs.map st.ev) rest st := rfl
theorem callV {d : Option Nat} {f : Nat} {caps : List Nat} {avs : List AV} {rest : List IOp} {st : St} {r : AV} {os' : List Own} {bs' : List (List AC)} (hf : fnOk P f = true) (hc : CallsS P f (avs ++ caps.map fun k => .bptr k 0) st.owns st.boxes r os' bs')
    (h : sw P K rest (St.put ⟨st.fr, os', bs'⟩ d r)) : CallVThen P K d (.c false [.cl f caps]) avs rest st := ⟨f, caps, r, os', bs', rfl, hf, hc, h⟩
theorem sw_app {d : Option Nat} {e s : Nat} {x y : Opd} {rest : List IOp} {st : St} : sw P K (⟨d, none, .app e s x y⟩ :: rest) st = (match st.ev x, srcOf st.owns (st.ev y) with
        | .c false [.own k v], some (l, n) => (match st.owns[k]? with
          | some ow => ow.ver = v ∧ ow.e = e ∧ ow.s = s ∧ El s l ∧ ow.l.length + l.length ≤ capN s ∧ sw P K rest (St.put ⟨st.fr, st.owns.set k ⟨ow.l ++ l, e, s, v + 1, ow.nw && n⟩, st.boxes⟩ d (.c false [.own k (v + 1)]))
          | none => False)
        | .c false [.osub k v p q], some (l, n) => (match st.owns[k]? with
          | some ow => ow.ver = v ∧ ow.e = e ∧ ow.s = s ∧ El s l ∧ ow.l.length + l.length ≤ capN s ∧ sw P K rest (St.put ⟨st.fr, st.owns.set k ⟨(ow.l.take q).drop p ++ l, e, s, v + 1, ow.nw && n⟩, st.boxes⟩ d (.c false [.own k (v + 1)]))
          | none => False)
        | .c false [.raw (.slice none 0 0)], some (l, n) => El s l ∧ l.length ≤ capN s ∧ sw P K rest (St.put ⟨st.fr, st.owns ++ [⟨l, e, s, 0, n⟩], st.boxes⟩ d (.c false [.own st.owns.length 0]))
        | _, _ => False) := rfl
theorem sw_store {d : Option Nat} {n : Nat} {x y : Opd} {rest : List IOp} {st : St} : sw P K (⟨d, none, .store n x y⟩ :: rest) st = (match st.ev x with
        | .eptr k v j 0 => (match st.owns[k]?, (st.ev y).toD with
          | some ow, some dd => ow.ver = v ∧ ow.s = n ∧ j < ow.l.length ∧ dd.sz = n ∧ sw P K rest (St.put ⟨st.fr, st.owns.set k ⟨ow.l.set j dd, ow.e, ow.s, ow.ver, ow.nw && (st.ev y).nw⟩, st.boxes⟩ d .any)
          | _, _ => False)
        | _ => (match ex st.ev st.owns st.boxes (.store n x y) with | some (r, os', bs') => sw P K rest (St.put ⟨st.fr, os', bs'⟩ d r) | none => False)) := rfl
def I.plainW : I → Bool
  | .iad .. => false
  | .lsl .. => false
  | .callv .. => false
  | .call .. => false
  | .app .. => false
  | .store .. => false
  | _ => true
/-- The steps that are reckoned. -/
def I.plain : I → Bool
  | .iad .. => false
  | .lsl .. => false
  | .callv .. => false
  | .call .. => false
  | .app .. => false
  | _ => true
theorem sw_ex {d : Option Nat} {i : I} {rest : List IOp} {st : St} (hi : i.plainW = true) : sw P K (⟨d, none, i⟩ :: rest) st = (match ex st.ev st.owns st.boxes i with | some (r, os', bs') => sw P K rest (St.put ⟨st.fr, os', bs'⟩ d r) | none => False) := by
  cases i <;> first | rfl | cases hi
theorem callThen {d : Option Nat} {f : Nat} {avs : List AV} {rest : List IOp} {st : St} {ds : List D} {r : AV} (hc : CallsTo P f ds r) (hr : r.res) (ha : ArgsOk st.owns avs ds) (h : sw P K rest (st.put d r)) : CallThen P K d f avs rest st :=
  Or.inl ⟨ds, r, ha, hc, hr, h⟩
theorem callOwn {d : Option Nat} {f : Nat} {avs : List AV} {rest : List IOp} {st : St} {ds l : List D} {g : Bool} {e s : Nat} (hc : CallsOwnG P f ds g l e s) (hl : El s l) (ha : ArgsOk st.owns avs ds)
    (h : sw P K rest (St.put ⟨st.fr, st.owns ++ [⟨l, e, s, 0, true⟩], st.boxes⟩ d (.c g [.own st.owns.length 0]))) : CallThen P K d f avs rest st :=
  Or.inr (Or.inl ⟨ds, g, l, e, s, ha, hc, hl, h⟩)
theorem callOld {d : Option Nat} {f : Nat} {avs : List AV} {rest : List IOp} {st : St} {ds : List D} {r : AV} (hc : CallsToA P f ds r) (hr : r.old = true) (ha : ArgsOk [] avs ds) (h : sw P K rest (st.put d r)) : CallThen P K d f avs rest st :=
  Or.inr (Or.inr (Or.inl ⟨ds, r, ha, hc, hr, h⟩))
theorem callOuts {d : Option Nat} {f : Nat} {avs : List AV} {rest : List IOp} {st : St} {ds : List D} {r : AV} {os' : List Own} (hc : CallsX P f ds r os') (hr : r.out = true) (hl : 0 < os'.length) (ha : ArgsOk st.owns avs ds)
    (h : sw P K rest (St.put ⟨st.fr, st.owns ++ os', st.boxes⟩ d (r.shift st.owns.length))) : CallThen P K d f avs rest st :=
  Or.inr (Or.inr (Or.inr (Or.inl ⟨ds, r, os', ha, hc, hr, hl, h⟩)))
theorem callS {d : Option Nat} {f : Nat} {avs : List AV} {rest : List IOp} {st : St} {r : AV} {os' : List Own} {bs' : List (List AC)} (hc : CallsS P f avs st.owns st.boxes r os' bs')
    (h : sw P K rest (St.put ⟨st.fr, os', bs'⟩ d r)) : CallThen P K d f avs rest st :=
  Or.inr (Or.inr (Or.inr (Or.inr (Or.inl ⟨r, os', bs', hc, h⟩))))
theorem callE {d : Option Nat} {f : Nat} {avs : List AV} {rest : List IOp} {st : St} {post : AV → List Own → List (List AC) → Prop} (hc : CallsE P f avs st.owns st.boxes post)
    (h : ∀ r os' bs', post r os' bs' → sw P K rest (St.put ⟨st.fr, os', bs'⟩ d r)) : CallThen P K d f avs rest st :=
  Or.inr (Or.inr (Or.inr (Or.inr (Or.inr ⟨post, hc, h⟩))))
end

/-! ### The machine's side -/
section
variable {P : Program} {B : Nat} {Xs : List Nat} {G : Org} {w0 : World} {E : Env} {a : Act} {w : World}
theorem compOp_spec {ops : Array Oper} {o : Oper} {io : IOp} (h : compOp P ops o = some io) : comp1 P (ownFlag ops o) o.op = some io.i ∧ io.d = o.dst ∧
    ((o.guard = none ∧ io.gd = none) ∨ ∃ j want g, o.guard = some (j, want) ∧ (ops[j]?).bind (·.dst) = some g ∧ io.gd = some (g, want)) := by
  unfold compOp at h
  split at h
  · next i hi =>
    split at h
    · next hg =>
      injection h with h
      subst h
      exact ⟨hi, rfl, Or.inl ⟨hg, rfl⟩⟩
    · next j want hg =>
      split at h
      · next g hd =>
        injection h with h
        subst h
        exact ⟨hi, rfl, Or.inr ⟨j, want, g, hg, hd, rfl⟩⟩
      · cases h
  · cases h
theorem wanted_of {st : St} {ops : Array Oper} {o : Oper} {io : IOp} (h : Rel B Xs G w0 st E a w) (hc : compOp P ops o = some io) {b : Bool} (hg : gdA st io.gd = some b) : Region.wanted o (yielded ops a.tmps) = b := by
  obtain ⟨_, _, hgd⟩ := compOp_spec hc
  rcases hgd with ⟨h1, h2⟩ | ⟨j, want, g, h1, h2, h3⟩
  · rw [h2] at hg
    simp only [gdA] at hg
    injection hg with hg
    rw [← hg]
    simp [Region.wanted, h1]
  · rw [h3] at hg
    simp only [gdA] at hg
    have hlen := h.size
    split at hg
    · next b' hb =>
      injection hg with hg
      have hlt : g < st.fr.length := by
        rcases Nat.lt_or_ge g st.fr.length with hlt | hge
        · exact hlt
        · rw [List.getD_eq_getElem?_getD, List.getElem?_eq_none hge] at hb; cases hb
      have hlt' : g < a.tmps.size := by rw [hlen]; exact hlt
      have hv := h.fr g _ (List.getElem?_eq_getElem hlt)
      have e1 : st.fr[g] = .c false [.raw (.bool b')] := by rw [← hb, List.getD_eq_getElem?_getD, List.getElem?_eq_getElem hlt]; rfl
      rw [e1] at hv
      have hv' : a.tmps.getD g undef = .bool b' := hv.1
      have ht : a.tmps[g]? = some (.bool b') := by
        rw [Array.getElem?_eq_getElem hlt']
        rw [Array.getD_eq_getD_getElem?, Array.getElem?_eq_getElem hlt'] at hv'
        simpa using hv'
      simp [Region.wanted, h1, yielded, h2, ht, ← hg]
    · next vs hb =>
      injection hg with hg
      have hlt : g < st.fr.length := by
        rcases Nat.lt_or_ge g st.fr.length with hlt | hge
        · exact hlt
        · rw [List.getD_eq_getElem?_getD, List.getElem?_eq_none hge] at hb; cases hb
      have hlt' : g < a.tmps.size := by rw [hlen]; exact hlt
      have hv := h.fr g _ (List.getElem?_eq_getElem hlt)
      have e1 : st.fr[g] = .c false [.raw (.tuple vs)] := by rw [← hb, List.getD_eq_getElem?_getD, List.getElem?_eq_getElem hlt]; rfl
      rw [e1] at hv
      have hv' : a.tmps.getD g undef = .tuple vs := hv.1
      have ht : a.tmps[g]? = some (.tuple vs) := by
        rw [Array.getElem?_eq_getElem hlt']
        rw [Array.getD_eq_getD_getElem?, Array.getElem?_eq_getElem hlt'] at hv'
        simpa using hv'
      simp [Region.wanted, h1, yielded, h2, ht, ← hg]
    · cases hg
theorem avs_vals {st : St} (h : Rel B Xs G w0 st E a w) : ∀ (xs : List Operand), AVsOk E st.owns w (xs.map fun x => st.ev (opd x)) (xs.map a.eval)
  | [] => trivial
  | x :: xs => ⟨ev_ok h x, avs_vals h xs⟩
/-- Behind a call that turned memory. -/
theorem Rel.after {fr : List AV} {os os' : List Own} {bs bs' : List (List AC)} {E' : Env} {a0 : Act} {w' : World} {d : Option Nat} {r : AV} {v : Value} (h : Rel B Xs G w0 ⟨fr, os, bs⟩ E a w) (h' : Rel B Xs ⟨E, os, w⟩ w0 ⟨[], os', bs'⟩ E' a0 w') (hr : r.ok E' os' w' v) :
    Rel B Xs G w0 (St.put ⟨fr, os', bs'⟩ d r) E' (a.put d v) w' where
  eb := h'.eb
  ex := h'.ex
  sim := by rw [stput_owns]; exact h.sim.trans h'.sim
  defers := by rw [put_defers]; exact h.defers
  size := by rw [put_size, stput_len]; exact h.size
  fr := by
    rw [stput_owns]
    exact fr_put (st := ⟨fr, os', bs'⟩) h.size (fun t y hy => (h.fr t y hy).sim h'.sim) hr
  olen := by rw [stput_owns]; exact h'.olen
  own := by rw [stput_owns]; exact h'.own
  blen := by rw [stput_boxes]; exact h'.blen
  box := by rw [stput_boxes, stput_owns]; exact h'.box
  nodup := h'.nodup
  below := h'.below
  base := h'.base
theorem callS_sound {st : St} {op : Op} {own : Bool} {f : Nat} {xs : List Opd} {r : AV} {os' : List Own} {bs' : List (List AC)} {d : Option Nat} {ty : TypeId} {pos : String} {after : Array Edge} {guard : Option (Nat × Bool)} {K : Act → World → Prop} {Q : Exit → Act → World → Prop}
    (hc : comp1 P own op = some (.call f xs)) (h : Rel B Xs G w0 st E a w) (hs : CallsS P f (xs.map st.ev) st.owns st.boxes r os' bs')
    (hK : ∀ E' v w', Rel B Xs G w0 (St.put ⟨st.fr, os', bs'⟩ d r) E' (a.put d v) w' → K (a.put d v) w') : Oper.wp P ⟨d, op, ty, pos, after, guard⟩ a w K Q := by
  have : ∃ args ats fn, op = .call { callee := .value (.func f), args := args, argTypes := ats } ∧ P.funcs[f]? = some fn ∧ (fn.name == "runtime.NumGoroutine" || fn.body.isNone) = false ∧ args.toList.map opd = xs := by
    cases op with
    | call c =>
      obtain ⟨callee, args, ats⟩ := c
      simp only [comp1] at hc
      split at hc
      · next _ f' =>
        split at hc
        · next fn hf =>
          split at hc
          · cases hc
          · next hn =>
            injection hc with hc
            injection hc with h1 h2
            subst h1
            exact ⟨args, ats, fn, rfl, hf, by cases hb : (fn.name == "runtime.NumGoroutine" || fn.body.isNone) <;> simp_all, h2⟩
        · cases hc
      all_goals (repeat' split at hc)
      all_goals first | contradiction | (cases hc; done)
    | _ =>
      simp only [comp1] at hc
      repeat' split at hc
      all_goals first | contradiction | (cases hc; done)
  obtain ⟨args, ats, fn, rfl, hf, hn, rfl⟩ := this
  refine wp_call hf hn ((hs B Xs G w0 st.fr E a w _ h (by rw [List.map_map]; exact avs_vals h args.toList)).mono ?_)
  rintro e w' ⟨v, E', rfl, h1, h2⟩
  exact ⟨v, rfl, hK E' v w' (h.after h1 h2)⟩
theorem callE_sound {st : St} {op : Op} {own : Bool} {f : Nat} {xs : List Opd} {post : AV → List Own → List (List AC) → Prop} {d : Option Nat} {ty : TypeId} {pos : String} {after : Array Edge} {guard : Option (Nat × Bool)} {K : Act → World → Prop} {Q : Exit → Act → World → Prop}
    (hc : comp1 P own op = some (.call f xs)) (h : Rel B Xs G w0 st E a w) (hs : CallsE P f (xs.map st.ev) st.owns st.boxes post)
    (hK : ∀ r os' bs', post r os' bs' → ∀ E' v w', Rel B Xs G w0 (St.put ⟨st.fr, os', bs'⟩ d r) E' (a.put d v) w' → K (a.put d v) w') : Oper.wp P ⟨d, op, ty, pos, after, guard⟩ a w K Q := by
  have : ∃ args ats fn, op = .call { callee := .value (.func f), args := args, argTypes := ats } ∧ P.funcs[f]? = some fn ∧ (fn.name == "runtime.NumGoroutine" || fn.body.isNone) = false ∧ args.toList.map opd = xs := by
    cases op with
    | call c =>
      obtain ⟨callee, args, ats⟩ := c
      simp only [comp1] at hc
      split at hc
      · next _ f' =>
        split at hc
        · next fn hf =>
          split at hc
          · cases hc
          · next hn =>
            injection hc with hc
            injection hc with h1 h2
            subst h1
            exact ⟨args, ats, fn, rfl, hf, by cases hb : (fn.name == "runtime.NumGoroutine" || fn.body.isNone) <;> simp_all, h2⟩
        · cases hc
      all_goals (repeat' split at hc)
      all_goals first | contradiction | (cases hc; done)
    | _ =>
      simp only [comp1] at hc
      repeat' split at hc
      all_goals first | contradiction | (cases hc; done)
  obtain ⟨args, ats, fn, rfl, hf, hn, rfl⟩ := this
  refine wp_call hf hn ((hs B Xs G w0 st.fr E a w _ h (by rw [List.map_map]; exact avs_vals h args.toList)).mono ?_)
  rintro e w' ⟨v, E', r, os', bs', h0, rfl, h1, h2⟩
  exact ⟨v, rfl, hK r os' bs' h0 E' v w' (h.after h1 h2)⟩
theorem wp_enter {o : Oper} {f : Nat} {vs : Array Value} {K : Act → World → Prop} {Q : Exit → Act → World → Prop} (hrun : (execOp a.eval o).run P w = .ok (.enter f vs) w)
    (h : Calls P f vs w fun e w' => ∃ v, e = .returned v ∧ K (a.put o.dst v) w') : o.wp P a w K Q := by
  unfold Oper.wp
  rw [hrun, Oper.upon_enter]
  refine h.mono ?_
  rintro e w' ⟨v, rfl, hK⟩
  exact hK
theorem caps_vals {os : List Own} : ∀ {caps : List Nat} {ps : List (Nat × TypeId)}, caps.map (fun k => E.bm[k]?) = ps.map some → AVsOk E os w (caps.map fun k => .bptr k 0) (ps.map fun p => .pointer (some ⟨p.1, 0, none⟩))
  | [], [], _ => trivial
  | k :: caps, p :: ps, h => by
    simp only [List.map_cons, List.cons.injEq] at h
    exact ⟨⟨p, h.1, rfl⟩, caps_vals h.2⟩
  | [], _ :: _, h => by simp at h
  | _ :: _, [], h => by simp at h
theorem avs_append {os : List Own} {ys : List AV} {us : List Value} (h2 : AVsOk E os w ys us) : ∀ {xs : List AV} {vs : List Value}, AVsOk E os w xs vs → AVsOk E os w (xs ++ ys) (vs ++ us)
  | [], [], _ => h2
  | x :: xs, v :: vs, h => ⟨h.1, avs_append h2 h.2⟩
  | [], _ :: _, h => h.elim
  | _ :: _, [], h => h.elim
theorem callV_sound {st : St} {op : Op} {own : Bool} {f : Nat} {caps : List Nat} {x : Opd} {xs : List Opd} {r : AV} {os' : List Own} {bs' : List (List AC)} {d : Option Nat} {ty : TypeId} {pos : String} {after : Array Edge} {guard : Option (Nat × Bool)} {K : Act → World → Prop} {Q : Exit → Act → World → Prop}
    (hc : comp1 P own op = some (.callv x xs)) (h : Rel B Xs G w0 st E a w) (hx : st.ev x = .c false [.cl f caps]) (hf : fnOk P f = true) (hs : CallsS P f (xs.map st.ev ++ caps.map fun k => .bptr k 0) st.owns st.boxes r os' bs')
    (hK : ∀ E' v w', Rel B Xs G w0 (St.put ⟨st.fr, os', bs'⟩ d r) E' (a.put d v) w' → K (a.put d v) w') : Oper.wp P ⟨d, op, ty, pos, after, guard⟩ a w K Q := by
  have : ∃ args ats t, op = .call { callee := .value (.tmp t), args := args, argTypes := ats } ∧ x = .t t ∧ args.toList.map opd = xs := by
    cases op with
    | call c =>
      obtain ⟨callee, args, ats⟩ := c
      simp only [comp1] at hc
      split at hc
      case h_4 t =>
        injection hc with hc
        injection hc with h1 h2
        exact ⟨args, ats, _, rfl, h1.symm, h2⟩
      all_goals (repeat' split at hc)
      all_goals first | contradiction | (cases hc; done)
    | _ =>
      simp only [comp1] at hc
      repeat' split at hc
      all_goals first | contradiction | (cases hc; done)
  obtain ⟨args, ats, t, rfl, rfl, rfl⟩ := this
  have hv := ev_ok h (.tmp t)
  simp only [opd] at hv
  rw [hx] at hv
  obtain ⟨ps, h1, h2⟩ := hv.1
  simp only [Act.eval] at h2
  unfold fnOk at hf
  split at hf
  · next fn hfn =>
    simp only [Bool.not_eq_true', Bool.or_eq_false_iff] at hf
    have hn1 : ¬ fn.name = "runtime.NumGoroutine" := by simpa using hf.1
    have hn2 : ¬ fn.body = none := by intro e0; have := hf.2; rw [e0] at this; simp at this
    have hrun : (execOp a.eval ⟨d, .call { callee := .value (.tmp t), args := args, argTypes := ats }, ty, pos, after, guard⟩).run P w = .ok (.enter f (args.toList.map a.eval ++ ps.map fun p => Value.pointer (some ⟨p.1, 0, none⟩)).toArray) w := by
      have e1 : args.map a.eval = (args.toList.map a.eval).toArray := by apply Array.ext'; simp
      simp [execOp, resolve, Deferred.ofValue, invoke, callFunc, Act.eval, h2, hfn, hn1, hn2, e1]
    have hc2 := hs B Xs G w0 st.fr E a w _ h (avs_append (caps_vals h1) (by rw [List.map_map]; exact avs_vals h args.toList))
    exact wp_enter hrun (hc2.mono fun e w' ⟨v, E', he, h3, h4⟩ => ⟨v, he, hK E' v w' (h.after h3 h4)⟩)
  · cases hf
/-- One step, at whatever place of whatever list. -/
theorem step_wp {st st' : St} {ops : Array Oper} {o : Oper} {io : IOp} {K : Act → World → Prop} {Q : Exit → Act → World → Prop} (h : Rel B Xs G w0 st E a w) (hc : compOp P ops o = some io) (hs : Step P io st st')
    (hK : ∀ E' a' w', Rel B Xs G w0 st' E' a' w' → K a' w') : if Region.wanted o (yielded ops a.tmps) then o.wp P a w K Q else K (a.put o.dst undef) w := by
  obtain ⟨h1, h2, _⟩ := compOp_spec hc
  obtain ⟨fr, os, bs⟩ := st
  cases hs with
  | run hg hr =>
    rw [wanted_of h hc hg, if_pos rfl]
    obtain ⟨dst, op, ty, pos, after, guard⟩ := o
    refine step_sound h1 h hr K (fun E' v w' hR => hK E' _ w' ?_)
    rw [h2]
    exact hR
  | storeE hg hi hx ho hv hs hj hy hd =>
    rw [wanted_of h hc hg, if_pos rfl]
    obtain ⟨dst, op, ty, pos, after, guard⟩ := o
    simp only at h2
    rw [hi] at h1
    refine storeE_sound h1 h hx ho hv hs hj hy hd (fun E' w' hR => hK E' _ w' ?_)
    rw [h2]
    exact hR
  | callS hg hi hs =>
    rw [wanted_of h hc hg, if_pos rfl]
    obtain ⟨dst, op, ty, pos, after, guard⟩ := o
    simp only at h2
    rw [hi] at h1
    refine callS_sound h1 h hs (fun E' v w' hR => hK E' _ w' ?_)
    rw [h2]
    exact hR
  | lslR hg hi hx ho hv hs hlo hhi hb =>
    rw [wanted_of h hc hg, if_pos rfl]
    obtain ⟨dst, op, ty, pos, after, guard⟩ := o
    simp only at h2
    rw [hi] at h1
    subst hv
    refine lslR_sound h1 h hx ho rfl hs hlo hhi hb (fun E' u hR => hK E' _ w ?_)
    rw [h2]
    exact hR
  | callV hg hi hx hf hs =>
    rw [wanted_of h hc hg, if_pos rfl]
    obtain ⟨dst, op, ty, pos, after, guard⟩ := o
    simp only at h2
    rw [hi] at h1
    refine callV_sound h1 h hx hf hs (fun E' v w' hR => hK E' _ w' ?_)
    rw [h2]
    exact hR
  | skip hg =>
    rw [wanted_of h hc hg, if_neg (by simp)]
    refine hK E _ w ?_
    rw [h2]
    exact h.below_put (Below.refl _ _) ⟨rfl, trivial⟩
theorem wpList_sw {ops : Array Oper} {K : St → Prop} {Q : Exit → Act → World → Prop} (hQ : ∀ st' E' a' w', Rel B Xs G w0 st' E' a' w' → K st' → Q .normal a' w') :
    ∀ (l : List Oper) (is : List IOp) (st : St) (E : Env) (a : Act) (w : World), compOps P ops l = some is → Rel B Xs G w0 st E a w → sw P K is st → wpList P ops Q l a w
  | [], is, st, E, a, w, hc, h, hs => by
    injection hc with hc
    subst hc
    exact hQ st E a w h hs
  | o :: l, is, st, E, a, w, hc, h, hs => by
    rw [compOps] at hc
    split at hc
    · next i is' h1 h2 =>
      injection hc with hc
      subst hc
      have go : (if Region.wanted o (yielded ops a.tmps) then o.wp P a w (wpList P ops Q l) Q else wpList P ops Q l (a.put o.dst undef) w) → wpList P ops Q (o :: l) a w := by
        intro this
        unfold wpList
        split
        · next hw => rw [if_pos hw] at this; exact Or.inl this
        · next hw => rw [if_neg hw] at this; exact this
      rcases sw_step hs with ⟨st', h3, h4⟩ | ⟨f, xs, post, hg, hi, hc, h4⟩
      · exact go (step_wp (Q := Q) (K := wpList P ops Q l) h h1 h3 (fun E' a' w' hR => wpList_sw hQ l is' st' E' a' w' h2 hR h4))
      · refine go ?_
        obtain ⟨c1, c2, _⟩ := compOp_spec h1
        rw [wanted_of h h1 hg, if_pos rfl]
        obtain ⟨dst, op, ty, pos, after, guard⟩ := o
        simp only at c2
        rw [hi] at c1
        refine callE_sound c1 h hc (fun r os' bs' h0 E' v w' hR => ?_)
        refine wpList_sw hQ l is' (St.put ⟨st.fr, os', bs'⟩ i.d r) E' _ w' h2 ?_ (h4 r os' bs' h0)
        rw [c2]
        exact hR
    · cases hc
end
end Go.Proofs.YtdjcflnemnknaaaDoor
