/-
  Slices of the call's own that may start inside their row; append onto them; parts of slices.
-/
import Derived.Test.YtdjcflnemnknaaaDoorOwn
import Derived.Lib.AppendStr
namespace Go.Proofs.YtdjcflnemnknaaaDoor
open Go.RowKit
set_option linter.unusedSimpArgs false
set_option linter.unusedVariables false

/-- The value is nil, or a slice of n elements somewhere in a row from block `base` on. -/
def OwnsAt (w : World) (base : Nat) (e : TypeId) (s : Nat) (v : Value) (n : Nat) (xs : List Value) : Prop :=
  xs.length = n * s ∧ ((v = .slice none 0 0 ∧ n = 0) ∨ ∃ g z cap cur, v = .slice (some ⟨g, z, none⟩) n cap ∧ base ≤ g ∧ w.heap[g]? = some (.cells cur e (0, 0)) ∧ n ≤ cap ∧ cap ≤ maxLen ∧ z + cap * s ≤ cur.size ∧ (cur.toList.drop z).take (n * s) = xs)
def baseOf : Value → Option (Nat × Nat)
  | .slice (some a) _ _ => some (a.block, a.off)
  | _ => none
theorem addr_add' (b o n : Nat) : (⟨b, o, none⟩ : Addr).add n = ⟨b, o + n, none⟩ := by
  unfold Addr.add
  split
  · next h => subst h; rfl
  · rfl
section
variable {w w' : World} {base : Nat} {e : TypeId} {s : Nat} {v : Value} {n : Nat} {xs : List Value}
theorem OwnsAt.of (h : w.ownsRow base e s v n xs) : OwnsAt w base e s v n xs := by
  refine ⟨h.1, ?_⟩
  rcases h.2 with h2 | ⟨g, cap, cur, hv, hb, hh, hn, hm, hs, ht⟩
  · exact Or.inl h2
  · exact Or.inr ⟨g, 0, cap, cur, hv, hb, hh, hn, hm, by omega, by simpa using ht⟩
theorem OwnsAt.nil : OwnsAt w base e s (.slice none 0 0) 0 [] := ⟨by simp, Or.inl ⟨rfl, rfl⟩⟩
theorem OwnsAt.lt (h : OwnsAt w base e s v n xs) : ∀ k, v.ownBlock = some k → base ≤ k ∧ k < w.heap.size := by
  intro k hk
  rcases h.2 with ⟨rfl, _⟩ | ⟨g, z, cap, cur, rfl, hb, hg, _⟩
  · simp [Value.ownBlock] at hk
  · simp [Value.ownBlock] at hk
    subst hk
    exact ⟨hb, (Array.getElem?_eq_some_iff.1 hg).1⟩
theorem OwnsAt.same (h : OwnsAt w base e s v n xs) (hs : ∀ g, v.ownBlock = some g → w'.heap[g]? = w.heap[g]?) : OwnsAt w' base e s v n xs := by
  refine ⟨h.1, ?_⟩
  rcases h.2 with h2 | ⟨g, z, cap, cur, rfl, hb, hg, r⟩
  · exact Or.inl h2
  · exact Or.inr ⟨g, z, cap, cur, rfl, hb, by rw [hs g rfl]; exact hg, r⟩
theorem ownsAt_below (h : OwnsAt w base e s v n xs) (hb : Below w.heap.size w w') : OwnsAt w' base e s v n xs := h.same fun g hg => hb.block g (h.lt g hg).2
theorem ownsAt_mono {base' : Nat} (h : OwnsAt w base e s v n xs) (hb : base' ≤ base) : OwnsAt w base' e s v n xs := by
  refine ⟨h.1, ?_⟩
  rcases h.2 with h2 | ⟨g, z, cap, cur, rfl, hb', r⟩
  · exact Or.inl h2
  · exact Or.inr ⟨g, z, cap, cur, rfl, Nat.le_trans hb hb', r⟩
theorem ownsAt_form (h : OwnsAt w base e s v n xs) : ∃ A c, v = .slice A n c := by
  rcases h.2 with ⟨rfl, rfl⟩ | ⟨g, z, cap, cur, rfl, _⟩
  · exact ⟨none, 0, rfl⟩
  · exact ⟨_, _, rfl⟩
/-- The cells lie there. -/
theorem OwnsAt.at_ (h : OwnsAt w base e s v n xs) {g z : Nat} (hg : baseOf v = some (g, z)) : At w g z xs ∧ g < w.heap.size := by
  rcases h.2 with ⟨rfl, rfl⟩ | ⟨g', z', cap, cur, rfl, hb, hh, hn, hm, hsz, ht⟩
  · simp [baseOf] at hg
  · simp [baseOf] at hg
    obtain ⟨rfl, rfl⟩ := hg
    refine ⟨fun j u hj => ?_, (Array.getElem?_eq_some_iff.1 hh).1⟩
    subst ht
    simp only [World.cell?, hh]
    rw [List.getElem?_take] at hj
    split at hj
    · rw [List.getElem?_drop] at hj
      simpa using hj
    · cases hj
theorem OwnsAt.base_or (h : OwnsAt w base e s v n xs) : (v = .slice none 0 0 ∧ n = 0) ∨ ∃ g z, baseOf v = some (g, z) ∧ v.ownBlock = some g := by
  rcases h.2 with h2 | ⟨g, z, cap, cur, rfl, _⟩
  · exact Or.inl h2
  · exact Or.inr ⟨g, z, rfl, rfl⟩
theorem Sl.of_at {l : List D} {fp : List Nat} {cs : List Value} (h : OwnsAt w base e s v l.length cs) (hr : Rs w l fp cs) : Sl w l (v.ownBlock.toList ++ fp) v := by
  unfold Sl
  rw [R]
  rcases h.2 with ⟨rfl, h3⟩ | ⟨g, z, cap, cur, rfl, hg, hh, hn, hm, hsz, ht⟩
  · have hl : l = [] := List.eq_nil_of_length_eq_zero h3
    subst hl
    exact ⟨none, 0, by simp, by simp, by simp, Or.inl ⟨rfl, by simpa [Value.ownBlock] using hr.1⟩⟩
  · obtain ⟨h1, h2⟩ := h.at_ (g := g) (z := z) rfl
    exact ⟨some ⟨g, z, none⟩, cap, rfl, hn, hm, Or.inr ⟨g, z, fp, cs, rfl, by simp [Value.ownBlock], h2, hr, h1⟩⟩
theorem Free.of_at {fp : List Nat} {cs : List Value} (h : OwnsAt w base e s v n cs) (hf : Free w base fp) (hn : ∀ g, v.ownBlock = some g → g ∉ fp) : Free w base (v.ownBlock.toList ++ fp) := by
  rcases h.2 with ⟨rfl, h3⟩ | ⟨g, z, cap, cur, rfl, hg, hh, _⟩
  · simpa [Value.ownBlock] using hf
  · refine ⟨by simp only [Value.ownBlock, Option.toList, List.singleton_append, List.nodup_cons]; exact ⟨hn g rfl, hf.1⟩, fun b hb => ?_⟩
    simp only [Value.ownBlock, Option.toList, List.singleton_append, List.mem_cons] at hb
    rcases hb with rfl | hb
    · refine ⟨hg, fun o => ?_⟩
      simp only [World.frozen?, hh]
      simp
    · exact hf.2 b hb
/-- A part of it. -/
theorem OwnsAt.sub {A : Option Addr} {cap a b : Nat} (h : OwnsAt w base e s (.slice A n cap) n xs) (hab : a ≤ b) (hb : b ≤ n) : OwnsAt w base e s (sliced A a b cap s) (b - a) ((xs.take (b * s)).drop (a * s)) := by
  have hlen := h.1
  have h1 : a * s ≤ b * s := Nat.mul_le_mul_right _ hab
  have h2 : b * s ≤ n * s := Nat.mul_le_mul_right _ hb
  refine ⟨by rw [List.length_drop, List.length_take, hlen, Nat.sub_mul]; omega, ?_⟩
  rcases h.2 with ⟨hv, rfl⟩ | ⟨g, z, cap', cur, hv, hbase, hh, hn, hm, hsz, ht⟩
  · injection hv with e1 e2 e3
    subst e1 e3
    have : a = 0 := by omega
    have : b = 0 := by omega
    subst a b
    exact Or.inl ⟨by simp [sliced], rfl⟩
  · injection hv with e1 e2 e3
    subst e1 e3
    by_cases hc : cap = a
    · have : b = a := by omega
      subst this
      refine Or.inr ⟨g, z, 0, cur, ?_, hbase, hh, by omega, Nat.zero_le _, by have := Nat.zero_le (cap * s); omega, ?_⟩
      · unfold sliced
        rw [if_pos hc]
        congr 1
        omega
      · rw [show (xs.take (b * s)).drop (b * s) = [] from List.drop_eq_nil_of_le (by rw [List.length_take]; omega)]
        simp
    · refine Or.inr ⟨g, z + a * s, cap - a, cur, ?_, hbase, hh, by omega, by omega, ?_, ?_⟩
      · unfold sliced
        rw [if_neg hc, Option.map_some, addr_add']
      · have : (cap - a) * s + a * s = cap * s := by rw [← Nat.add_mul]; congr 1; omega
        omega
      · subst ht
        rw [List.take_take, Nat.min_eq_left h2, List.drop_take, List.drop_drop, Nat.sub_mul]
theorem sliced_block {A : Option Addr} {a b cap s : Nat} : (sliced A a b cap s).ownBlock = (Value.slice A 0 0).ownBlock := by
  unfold sliced
  cases A with
  | none => split <;> rfl
  | some x =>
    split
    · rfl
    · simp only [Option.map_some, Value.ownBlock, Addr.add]
      split <;> rfl
end
section
variable {P : Program} (w : World)
theorem run_append_roomZ (t ty e : TypeId) (i : TypeInfo) (ht : P.underlying t = some (.slice e)) (hi : P.info? e = some i)
    (g z sLen sCap : Nat) (cur : Array Value) (hg : w.heap[g]? = some (.cells cur e (0, 0)))
    (a : Addr) (m c : Nat) (news : List Value) (hl : news.length = m * i.size) (hnews : ∀ j u, news[j]? = some u → w.cell? (a.add j) = some u) (h1 : ∀ u ∈ news, u.oneCell' = true)
    (hroom : sLen + m ≤ sCap) (hfit : z + sLen * i.size + news.length ≤ cur.size) :
    (Builtin.append_ #[t, t] ty #[.slice (some ⟨g, z, none⟩) sLen sCap, .slice (some a) m c]).run P w =
      .ok (.slice (some ⟨g, z, none⟩) (sLen + m) sCap) (w.setRow g (cur.toList.take (z + sLen * i.size) ++ news ++ cur.toList.drop (z + sLen * i.size + news.length)).toArray) := by
  have hf := run_firstCells_some (P := P) w i.size m a m c news hl hnews
  have hst := run_storeCells_at P g (z + sLen * i.size) e news 0 cur w hg (by simpa using hfit) h1
  simp only [Nat.add_zero] at hst
  simp [Builtin.append_, run_underlying ht, sizeOf, typeInfo, hi, Builtin.lenOf, hroom, hf, addr_add', hst]
theorem run_append_at (base : Nat) (t ty e : TypeId) (i : TypeInfo) (z : Value) (size bytes : Nat) (ht : P.underlying t = some (.slice e)) (hi : P.info? e = some i) (hz : i.zero = some z)
    (hsize : i.size = size) (hby : i.bytes = bytes) (hzs : z.cells.size = size) (hsz : 0 < size)
    (v : Value) (n : Nat) (xs : List Value) (hown : OwnsAt w base e size v n xs)
    (a : Addr) (m c : Nat) (news : List Value) (hl : news.length = m * size) (hnews : ∀ j u, news[j]? = some u → w.cell? (a.add j) = some u) (h1 : ∀ u ∈ news, u.oneCell' = true)
    (h63 : n + m ≤ maxLen) (hbytes : (n + m) * bytes ≤ 140737488355328) (hbase : base ≤ w.heap.size) :
    ∃ v' w', (Builtin.append_ #[t, t] ty #[v, .slice (some a) m c]).run P w = .ok v' w' ∧ OwnsAt w' base e size v' (n + m) (xs ++ news) ∧ w.grownBy w' v.ownBlock ∧ (v'.ownBlock = v.ownBlock ∨ v'.ownBlock = some w.heap.size) := by
  subst hsize
  subst hby
  have hsmall : n + m ≤ 9223372036854775807 := by simp only [maxLen] at h63; omega
  have hlen : (xs ++ news).length = (n + m) * i.size := by rw [List.length_append, hown.1, hl, Nat.add_mul]
  rcases hown.2 with ⟨rfl, rfl⟩ | ⟨g, zz, cap, cur, rfl, hbg, hg, hnc, hcm, hcs, htake⟩
  · have hx : xs = [] := List.eq_nil_of_length_eq_zero (by simpa using hown.1)
    subst hx
    obtain ⟨v', w', hr, h2, h3, _, h5⟩ := run_append_own_at (P := P) w base t ty e i z i.size i.bytes ht hi hz rfl rfl hzs hsz (.slice none 0 0) 0 [] (World.ownsRow_nil w base e i.size) a m c news hl hnews h1 h63 hbytes hbase
    exact ⟨v', w', hr, OwnsAt.of h2, h3, h5⟩
  · by_cases hroom : n + m ≤ cap
    · have hmul : n * i.size + m * i.size ≤ cap * i.size := by rw [← Nat.add_mul]; exact Nat.mul_le_mul_right _ hroom
      have hr := run_append_roomZ (P := P) w t ty e i ht hi g zz n cap cur hg a m c news hl hnews h1 hroom (by omega)
      refine ⟨_, _, hr, ⟨hlen, .inr ⟨g, zz, cap, _, rfl, hbg, setRow_heap w g cur _ e _ hg, hroom, hcm, ?_, ?_⟩⟩, ⟨rfl, rfl, rfl, by simp, fun k _ hk => setRow_other w g k _ (fun e => hk (by simp [Value.ownBlock, e]))⟩, Or.inl rfl⟩
      · simp only [List.size_toArray, List.length_append, List.length_take, List.length_drop, Array.length_toList]
        omega
      · have e1 : cur.toList.take (zz + n * i.size) = cur.toList.take zz ++ xs := by rw [List.take_add, htake]
        have hzl : (cur.toList.take zz).length = zz := by rw [List.length_take, Array.length_toList]; omega
        rw [e1, List.append_assoc, List.append_assoc, List.drop_left' hzl, ← List.append_assoc, ← hlen]
        exact List.take_left
    · have holds : ∀ j u, xs[j]? = some u → w.cell? ((⟨g, zz, none⟩ : Addr).add j) = some u := fun j u hj => by
        rw [addr_add']
        exact (hown.at_ (g := g) (z := zz) rfl).1 j u hj
      have hr := run_append_grow (P := P) w t ty e i z ht hi hz ⟨g, zz, none⟩ n cap xs hown.1 holds a m c news hl hnews (by omega) (by omega) (growslice_fits (by omega) hbytes)
      have hge := grownCap_ge w (n + m) cap e
      have hcm' : grownCap w (n + m) cap e ≤ maxLen := grownCap_le_maxLen w (n + m) cap e h63
      refine ⟨_, _, hr, ⟨hlen, .inr ⟨w.heap.size, 0, _, _, rfl, hbase, heap_alloc_new w.drew _, hge, hcm', ?_, ?_⟩⟩, ⟨rfl, rfl, rfl, by simp, fun k hk _ => (Below.heap_alloc w.drew _ k hk).trans rfl⟩, Or.inr rfl⟩
      · simp only [Array.size_append, List.size_toArray, size_zeroCells, hzs, hown.1, hl, ← Nat.add_mul]
        rw [Nat.zero_add]
        refine Nat.le_of_eq ?_
        congr 1
        omega
      · simp only [Array.toList_append, List.append_assoc, List.drop_zero]
        rw [← List.append_assoc, ← hlen]
        exact List.take_left
theorem run_append_of_nilA (base : Nat) (t ty e : TypeId) (i : TypeInfo) (size : Nat) (ht : P.underlying t = some (.slice e)) (hi : P.info? e = some i) (v : Value) (n : Nat) (xs : List Value) (hown : OwnsAt w base e size v n xs) (c : Nat) :
    (Builtin.append_ #[t, t] ty #[v, .slice none 0 c]).run P w = .ok v w := by
  rcases hown.2 with ⟨rfl, rfl⟩ | ⟨g, zz, cap, cur, rfl, hbg, hg, hnc, hcm, hcs, htake⟩
  · simp [Builtin.append_, run_underlying ht, sizeOf, typeInfo, hi, Builtin.lenOf, Builtin.firstCells]
  · simp [Builtin.append_, run_underlying ht, sizeOf, typeInfo, hi, Builtin.lenOf, Builtin.firstCells, hnc, storeCells]
end
section
variable {P : Program} (w : World)
open Go.Lib in
theorem run_append_roomZ_string (t u ty e : TypeId) (i : TypeInfo) (ht : P.underlying t = some (.slice e)) (hu : P.underlying u = some .string) (hi : P.info? e = some i) (hs1 : i.size = 1)
    (g z sLen sCap : Nat) (cur : Array Value) (hg : w.heap[g]? = some (.cells cur e (0, 0))) (s : ByteArray) (hroom : sLen + s.size ≤ sCap) (hfit : z + sLen + s.size ≤ cur.size) :
    (Builtin.append_ #[t, u] ty #[.slice (some ⟨g, z, none⟩) sLen sCap, .string s]).run P w =
      .ok (.slice (some ⟨g, z, none⟩) (sLen + s.size) sCap) (w.setRow g (cur.toList.take (z + sLen) ++ strCells s ++ cur.toList.drop (z + sLen + s.size)).toArray) := by
  have hf := run_firstCells_string (P := P) w 1 s
  have hst := run_storeCells_at P g (z + sLen) e (strCells s) 0 cur w hg (by simpa [strCells_length] using hfit) (strCells_oneCell s)
  simp only [Nat.add_zero, strCells_length] at hst
  simp [Builtin.append_, run_underlying ht, run_underlying hu, sizeOf, typeInfo, hi, hs1, Builtin.lenOf, hroom, hf, addr_add', hst]
open Go.Lib in
theorem run_append_at_string (base : Nat) (t u ty e : TypeId) (i : TypeInfo) (z : Value) (ht : P.underlying t = some (.slice e)) (hu : P.underlying u = some .string) (hi : P.info? e = some i) (hz : i.zero = some z)
    (hzi : z = .int .u8 0) (hsize : i.size = 1) (hby : i.bytes = 1) (v : Value) (n : Nat) (xs : List Value) (hown : OwnsAt w base e 1 v n xs) (s : ByteArray)
    (h63 : n + s.size ≤ maxLen) (hbytes : n + s.size ≤ 140737488355328) (hbase : base ≤ w.heap.size) :
    ∃ v' w', (Builtin.append_ #[t, u] ty #[v, .string s]).run P w = .ok v' w' ∧ OwnsAt w' base e 1 v' (n + s.size) (xs ++ strCells s) ∧ w.grownBy w' v.ownBlock ∧ (v'.ownBlock = v.ownBlock ∨ v'.ownBlock = some w.heap.size) := by
  have hsmall : n + s.size ≤ 9223372036854775807 := by simp only [maxLen] at h63; omega
  have hxl : xs.length = n := by have := hown.1; omega
  have hlen : (xs ++ strCells s).length = (n + s.size) * 1 := by rw [List.length_append, hxl, strCells_length]; omega
  subst hzi
  rcases hown.2 with ⟨rfl, rfl⟩ | ⟨g, zz, cap, cur, rfl, hbg, hg, hnc, hcm, hcs, htake⟩
  · have hx : xs = [] := List.eq_nil_of_length_eq_zero (by omega)
    subst hx
    by_cases h0 : s.size = 0
    · obtain ⟨v', w', hr, h2, h3, h4⟩ := run_append_own_string (P := P) w base t u ty e i ht hu hi hz hsize hby (.slice none 0 0) 0 [] (World.ownsRow_nil w base e 1) s h63 hbytes hbase
      obtain rfl := h4.2 ⟨rfl, h0⟩
      exact ⟨_, w', hr, OwnsAt.of h2, h3, Or.inl rfl⟩
    · have hr := run_append_nil_string (P := P) (ty := ty) w t u e i (.int .u8 0) ht hu hi hz s (by omega) (by omega) (by rw [hby]; omega)
      have hge := grownCap_ge w s.size 0 e
      have hcm' : grownCap w s.size 0 e ≤ maxLen := grownCap_le_maxLen w s.size 0 e (by omega)
      refine ⟨_, _, hr, ⟨hlen, .inr ⟨w.heap.size, 0, _, _, by rw [Nat.zero_add], hbase, heap_alloc_new w.drew _, by omega, hcm', ?_, ?_⟩⟩, ⟨rfl, rfl, rfl, by simp, fun k hk _ => (Below.heap_alloc w.drew _ k hk).trans rfl⟩, Or.inr rfl⟩
      · have hsd : s.data.size = s.size := rfl
        simp only [Array.size_append, Array.size_map, size_zeroCells, hsd, Value.cells]
        simp
        omega
      · simp only [Array.toList_append, Array.toList_map, List.nil_append, List.drop_zero, Nat.zero_add, Nat.mul_one]
        rw [← strCells_length]
        exact List.take_left
  · by_cases hroom : n + s.size ≤ cap
    · have hr := run_append_roomZ_string (P := P) w t u ty e i ht hu hi hsize g zz n cap cur hg s hroom (by omega)
      refine ⟨_, _, hr, ⟨hlen, .inr ⟨g, zz, cap, _, rfl, hbg, setRow_heap w g cur _ e _ hg, hroom, hcm, ?_, ?_⟩⟩, ⟨rfl, rfl, rfl, by simp, fun k _ hk => setRow_other w g k _ (fun e => hk (by simp [Value.ownBlock, e]))⟩, Or.inl rfl⟩
      · simp only [List.size_toArray, List.length_append, List.length_take, List.length_drop, Array.length_toList, strCells_length]
        omega
      · have e1 : cur.toList.take (zz + n) = cur.toList.take zz ++ xs := by
          rw [List.take_add]
          rw [Nat.mul_one] at htake
          rw [htake]
        have hzl : (cur.toList.take zz).length = zz := by rw [List.length_take, Array.length_toList]; omega
        rw [e1, List.append_assoc, List.append_assoc, List.drop_left' hzl, ← List.append_assoc, ← hlen]
        exact List.take_left
    · have holds : ∀ j u, xs[j]? = some u → w.cell? ((⟨g, zz, none⟩ : Addr).add j) = some u := fun j u hj => by
        rw [addr_add']
        exact (hown.at_ (g := g) (z := zz) rfl).1 j u hj
      have hr := run_append_grow_string (P := P) w t u ty e i (.int .u8 0) ht hu hi hz ⟨g, zz, none⟩ n cap xs (by rw [hxl, hsize]; omega) holds s (by omega) (by omega) (by rw [hby]; exact growslice_fits (by omega) (by omega))
      have hge := grownCap_ge w (n + s.size) cap e
      have hcm' : grownCap w (n + s.size) cap e ≤ maxLen := grownCap_le_maxLen w (n + s.size) cap e h63
      refine ⟨_, _, hr, ⟨hlen, .inr ⟨w.heap.size, 0, _, _, rfl, hbase, heap_alloc_new w.drew _, hge, hcm', ?_, ?_⟩⟩, ⟨rfl, rfl, rfl, by simp, fun k hk _ => (Below.heap_alloc w.drew _ k hk).trans rfl⟩, Or.inr rfl⟩
      · simp only [Array.size_append, List.size_toArray, size_zeroCells, hxl, strCells_length, Value.cells]
        simp
        omega
      · simp only [Array.toList_append, List.append_assoc, List.drop_zero]
        rw [← List.append_assoc, ← hlen]
        exact List.take_left
end
theorem Sl.sub {w : World} {l : List D} {fp : List Nat} {A : Option Addr} {n cap s x y : Nat} (h : Sl w l fp (.slice A n cap)) (hs : ∀ d ∈ l, d.sz = s) (hxy : x ≤ y) (hy : y ≤ l.length) :
    ∃ f, Sl w ((l.take y).drop x) f (sliced A x y cap s) ∧ ∀ b ∈ f, b ∈ fp := by
  obtain ⟨A', c', e1, h1, h2⟩ := h.form
  injection e1 with e1 e2 e3
  subst e1 e2 e3
  by_cases he : x = y
  · subst he
    refine ⟨[], ?_, fun b hb => by simp at hb⟩
    unfold Sl
    have : (l.take x).drop x = [] := by simp
    rw [this, R]
    exact ⟨if cap = x then A else A.map (·.add (x * s)), cap - x, by simp [sliced], by simp, by omega, Or.inl ⟨rfl, rfl⟩⟩
  · obtain ⟨f1, h3, h4⟩ := Sl.take h hy
    have hpos : 0 < l.length := by omega
    have h' := h
    unfold Sl at h'
    rw [R] at h'
    obtain ⟨A', c', g1, g2, g3, g4⟩ := h'
    simp only [List.cons.injEq, and_true, Value.slice.injEq] at g1
    obtain ⟨rfl, _, rfl⟩ := g1
    rcases g4 with ⟨rfl, _⟩ | ⟨b, o, fp', cs', rfl, rfl, _⟩
    · simp at hpos
    · obtain ⟨f2, h5, h6⟩ := Sl.drop h3 (s := s) (fun d hd => hs d (List.mem_of_mem_take hd)) (k := x) (by rw [List.length_take]; omega)
      refine ⟨f2, ?_, fun z hz => h4 z (h6 z hz)⟩
      have : sliced (some ⟨b, o, none⟩) x y cap s = .slice (some ⟨b, o + x * s, none⟩) (y - x) (cap - x) := by
        unfold sliced
        rw [if_neg (by omega), Option.map_some, addr_add']
      rw [this]
      exact h5
end Go.Proofs.YtdjcflnemnknaaaDoor
