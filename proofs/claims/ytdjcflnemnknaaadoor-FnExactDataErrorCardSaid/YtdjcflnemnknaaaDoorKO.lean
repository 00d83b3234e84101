/-
  Texts joined: Cells Res Res2 Valid ValidNb.
-/
import Derived.Test.YtdjcflnemnknaaaDoorJA
import Derived.Test.YtdjcflnemnknaaaDoorProg
import Derived.KernelRfl
namespace Go.Proofs.YtdjcflnemnknaaaDoor
open Go.RowKit
set_option linter.unusedSimpArgs false
set_option linter.unusedVariables false

def GCell.cs (x : GCell) : List Value := [.int .i64 x.id, .int .i64 x.ver, .int .i64 x.kind, .string x.name, .string x.code, .int .i64 x.n]
def cellsOf (l : List GCell) : List Value := l.flatMap GCell.cs
theorem Rs_cells {w : World} : ∀ {l : List GCell} {fp : List Nat} {cs : List Value}, Rs w (l.map GCell.toD) fp cs ↔ fp = [] ∧ cs = cellsOf l
  | [], fp, cs => by rw [List.map_nil, Rs]; rfl
  | x :: l, fp, cs => by
    rw [List.map_cons, Rs]
    constructor
    · rintro ⟨f1, f2, c1, c2, rfl, rfl, h1, h2⟩
      obtain ⟨rfl, rfl⟩ := GCell.opened.1 h1
      obtain ⟨rfl, rfl⟩ := Rs_cells.1 h2
      exact ⟨rfl, rfl⟩
    · rintro ⟨rfl, rfl⟩
      exact ⟨[], [], x.cs, cellsOf l, rfl, rfl, GCell.opened.2 ⟨rfl, rfl⟩, Rs_cells.2 ⟨rfl, rfl⟩⟩
theorem bytes_inj {a b : ByteArray} : a.toList = b.toList ↔ a = b := by
  rw [ByteArray.toList_eq, ByteArray.toList_eq]
  constructor
  · intro h
    have : a.data = b.data := Array.toList_inj.1 h
    cases a; cases b; simp_all
  · rintro rfl; rfl
/-- A slice of cells that the call owns. -/
def OwnC (w : World) (base : Nat) (l : List GCell) (v : Value) : Prop := w.ownsRow base 26 6 v l.length (cellsOf l)
theorem OwnC.sl {w : World} {base : Nat} {l : List GCell} {v : Value} (h : OwnC w base l v) : Sl w (l.map GCell.toD) v.ownBlock.toList v := by
  have h' : w.ownsRow base 26 6 v (l.map GCell.toD).length (cellsOf l) := by rw [List.length_map]; exact h
  have := Sl.of_own h' (Rs_cells.2 ⟨rfl, rfl⟩)
  rwa [List.append_nil] at this
theorem GCell.one (x : GCell) : x.toD.one := by simp [GCell.toD_eq, D.one, D.ones, li, ls, Value.oneCell']
theorem GCell.ones {l : List GCell} : ∀ d ∈ l.map GCell.toD, d.one := fun d h => by obtain ⟨x, _, rfl⟩ := List.mem_map.1 h; exact x.one

def CopyPost (x : GNb) (w : World) (e : Ending) (w' : World) : Prop := ∃ v, e = .returned (.agg #[v]) ∧ OwnC w' w.heap.size x.cells v ∧ Below w.heap.size w w'
theorem OwnC.lit {w : World} {base g : Nat} (hg : w.heap.size = g) (hb : base ≤ g) : OwnC (w.alloc (.cells #[] 26)) base [] (.slice (some ⟨g, 0, none⟩) 0 0) := by
  subst hg
  exact World.ownsRow_lit w #[] 0 hb (by simp) rfl

def GCell.unver (c : GCell) : GCell := { c with ver := 0 }
/-- The first k cells without their versions. -/
def unverTo (l : List GCell) (k : Nat) : List GCell := (l.take k).map GCell.unver ++ l.drop k
end Go.Proofs.YtdjcflnemnknaaaDoor

namespace Go.Proofs.YtdjcflnemnknaaaDoor
open Go.RowKit
set_option linter.unusedSimpArgs false
set_option linter.unusedVariables false

def argWords : List (List UInt8 × Int) := [([99, 108, 111, 99, 107], 0), ([108, 101, 110], 1), ([115, 117, 109], 1), ([114, 111, 119, 115], 1), ([99, 104, 97, 110, 99, 101], 1), ([102, 105, 108, 101], 1), ([116, 97, 107, 101], 2), ([115, 107, 105, 112], 2), ([114, 97, 110, 103, 101], 2), ([110, 116, 104], 2), ([107, 101, 101, 112], 2), ([99, 111, 108, 117, 109, 110], 2), ([116, 97, 98, 108, 101], 2), ([119, 104, 101, 114, 101], 3), ([103, 114, 111, 117, 112], 3), ([106, 111, 105, 110], 3), ([97, 100, 100], 4)]
def argIn : List (List UInt8 × Int) → List UInt8 → Int
  | [], _ => -1
  | (w, n) :: r, l => if l == w then n else argIn r l
/-- How many arguments a call of this name takes; -1 if it is no such name. -/
def argCount (l : List UInt8) : Int := argIn argWords l
def keyWords : List (List UInt8) := [[108, 101, 116], [105, 110], [105, 102], [116, 104, 101, 110], [101, 108, 115, 101], [102, 111, 114], [100, 111]]
def resWords : List (List UInt8) := [[108, 101, 116], [105, 110], [105, 102], [116, 104, 101, 110], [101, 108, 115, 101], [102, 111, 114], [100, 111], [108, 101, 110], [115, 117, 109], [116, 97, 107, 101], [115, 107, 105, 112], [114, 97, 110, 103, 101], [110, 116, 104], [119, 104, 101, 114, 101], [107, 101, 101, 112], [97, 100, 100], [103, 114, 111, 117, 112], [106, 111, 105, 110], [99, 111, 108, 117, 109, 110], [114, 111, 119, 115], [99, 108, 111, 99, 107], [99, 104, 97, 110, 99, 101], [102, 105, 108, 101], [116, 97, 98, 108, 101]]
def resB (l : List UInt8) : Bool := resWords.contains l
theorem argIn_hit {w l : List UInt8} {n : Int} {r : List (List UInt8 × Int)} (h : (l == w) = true) : argIn ((w, n) :: r) l = n := by rw [argIn, h]; rfl
theorem argIn_miss {w l : List UInt8} {n : Int} {r : List (List UInt8 × Int)} (h : (l == w) = false) : argIn ((w, n) :: r) l = argIn r l := by rw [argIn, h]; rfl
theorem contains_hit {w l : List UInt8} {r : List (List UInt8)} (h : (l == w) = true) : (w :: r).contains l = true := by rw [List.contains_cons, h]; rfl
theorem contains_miss {w l : List UInt8} {r : List (List UInt8)} (h : (l == w) = false) : (w :: r).contains l = r.contains l := by rw [List.contains_cons, h]; rfl
set_option maxHeartbeats 8000000 in
theorem argCount_impl (s : ByteArray) (w : World) : Calls Tryd.prog 121 #[.string s] w (RetQ (.int .i64 (argCount s.toList)) w) := by
  cases e0 : (s.toList == [99, 108, 111, 99, 107]) with
  | true =>
    have hf := Lib.hid (show (0 : Int) = argCount s.toList from (show argIn argWords s.toList = 0 from argIn_hit e0).symm)
    go_enter Tryd.func121, Tryd.ntmps121
    go_wp2
    go_ret
    exact ⟨ret_int hf.out, rfl⟩
  | false =>
    cases e1 : (s.toList == [108, 101, 110]) with
    | true =>
      have hf := Lib.hid (show (1 : Int) = argCount s.toList from (show argIn argWords s.toList = 1 from (argIn_miss e0).trans (argIn_hit e1)).symm)
      go_enter Tryd.func121, Tryd.ntmps121
      go_wp2
      go_ret
      exact ⟨ret_int hf.out, rfl⟩
    | false =>
      cases e2 : (s.toList == [115, 117, 109]) with
      | true =>
        have hf := Lib.hid (show (1 : Int) = argCount s.toList from (show argIn argWords s.toList = 1 from (argIn_miss e0).trans ((argIn_miss e1).trans (argIn_hit e2))).symm)
        go_enter Tryd.func121, Tryd.ntmps121
        go_wp2
        go_ret
        exact ⟨ret_int hf.out, rfl⟩
      | false =>
        cases e3 : (s.toList == [114, 111, 119, 115]) with
        | true =>
          have hf := Lib.hid (show (1 : Int) = argCount s.toList from (show argIn argWords s.toList = 1 from (argIn_miss e0).trans ((argIn_miss e1).trans ((argIn_miss e2).trans (argIn_hit e3)))).symm)
          go_enter Tryd.func121, Tryd.ntmps121
          go_wp2
          go_ret
          exact ⟨ret_int hf.out, rfl⟩
        | false =>
          cases e4 : (s.toList == [99, 104, 97, 110, 99, 101]) with
          | true =>
            have hf := Lib.hid (show (1 : Int) = argCount s.toList from (show argIn argWords s.toList = 1 from (argIn_miss e0).trans ((argIn_miss e1).trans ((argIn_miss e2).trans ((argIn_miss e3).trans (argIn_hit e4))))).symm)
            go_enter Tryd.func121, Tryd.ntmps121
            go_wp2
            go_ret
            exact ⟨ret_int hf.out, rfl⟩
          | false =>
            cases e5 : (s.toList == [102, 105, 108, 101]) with
            | true =>
              have hf := Lib.hid (show (1 : Int) = argCount s.toList from (show argIn argWords s.toList = 1 from (argIn_miss e0).trans ((argIn_miss e1).trans ((argIn_miss e2).trans ((argIn_miss e3).trans ((argIn_miss e4).trans (argIn_hit e5)))))).symm)
              go_enter Tryd.func121, Tryd.ntmps121
              go_wp2
              go_ret
              exact ⟨ret_int hf.out, rfl⟩
            | false =>
              cases e6 : (s.toList == [116, 97, 107, 101]) with
              | true =>
                have hf := Lib.hid (show (2 : Int) = argCount s.toList from (show argIn argWords s.toList = 2 from (argIn_miss e0).trans ((argIn_miss e1).trans ((argIn_miss e2).trans ((argIn_miss e3).trans ((argIn_miss e4).trans ((argIn_miss e5).trans (argIn_hit e6))))))).symm)
                go_enter Tryd.func121, Tryd.ntmps121
                go_wp2
                go_ret
                exact ⟨ret_int hf.out, rfl⟩
              | false =>
                cases e7 : (s.toList == [115, 107, 105, 112]) with
                | true =>
                  have hf := Lib.hid (show (2 : Int) = argCount s.toList from (show argIn argWords s.toList = 2 from (argIn_miss e0).trans ((argIn_miss e1).trans ((argIn_miss e2).trans ((argIn_miss e3).trans ((argIn_miss e4).trans ((argIn_miss e5).trans ((argIn_miss e6).trans (argIn_hit e7)))))))).symm)
                  go_enter Tryd.func121, Tryd.ntmps121
                  go_wp2
                  go_ret
                  exact ⟨ret_int hf.out, rfl⟩
                | false =>
                  cases e8 : (s.toList == [114, 97, 110, 103, 101]) with
                  | true =>
                    have hf := Lib.hid (show (2 : Int) = argCount s.toList from (show argIn argWords s.toList = 2 from (argIn_miss e0).trans ((argIn_miss e1).trans ((argIn_miss e2).trans ((argIn_miss e3).trans ((argIn_miss e4).trans ((argIn_miss e5).trans ((argIn_miss e6).trans ((argIn_miss e7).trans (argIn_hit e8))))))))).symm)
                    go_enter Tryd.func121, Tryd.ntmps121
                    go_wp2
                    go_ret
                    exact ⟨ret_int hf.out, rfl⟩
                  | false =>
                    cases e9 : (s.toList == [110, 116, 104]) with
                    | true =>
                      have hf := Lib.hid (show (2 : Int) = argCount s.toList from (show argIn argWords s.toList = 2 from (argIn_miss e0).trans ((argIn_miss e1).trans ((argIn_miss e2).trans ((argIn_miss e3).trans ((argIn_miss e4).trans ((argIn_miss e5).trans ((argIn_miss e6).trans ((argIn_miss e7).trans ((argIn_miss e8).trans (argIn_hit e9)))))))))).symm)
                      go_enter Tryd.func121, Tryd.ntmps121
                      go_wp2
                      go_ret
                      exact ⟨ret_int hf.out, rfl⟩
                    | false =>
                      cases e10 : (s.toList == [107, 101, 101, 112]) with
                      | true =>
                        have hf := Lib.hid (show (2 : Int) = argCount s.toList from (show argIn argWords s.toList = 2 from (argIn_miss e0).trans ((argIn_miss e1).trans ((argIn_miss e2).trans ((argIn_miss e3).trans ((argIn_miss e4).trans ((argIn_miss e5).trans ((argIn_miss e6).trans ((argIn_miss e7).trans ((argIn_miss e8).trans ((argIn_miss e9).trans (argIn_hit e10))))))))))).symm)
                        go_enter Tryd.func121, Tryd.ntmps121
                        go_wp2
                        go_ret
                        exact ⟨ret_int hf.out, rfl⟩
                      | false =>
                        cases e11 : (s.toList == [99, 111, 108, 117, 109, 110]) with
                        | true =>
                          have hf := Lib.hid (show (2 : Int) = argCount s.toList from (show argIn argWords s.toList = 2 from (argIn_miss e0).trans ((argIn_miss e1).trans ((argIn_miss e2).trans ((argIn_miss e3).trans ((argIn_miss e4).trans ((argIn_miss e5).trans ((argIn_miss e6).trans ((argIn_miss e7).trans ((argIn_miss e8).trans ((argIn_miss e9).trans ((argIn_miss e10).trans (argIn_hit e11)))))))))))).symm)
                          go_enter Tryd.func121, Tryd.ntmps121
                          go_wp2
                          go_ret
                          exact ⟨ret_int hf.out, rfl⟩
                        | false =>
                          cases e12 : (s.toList == [116, 97, 98, 108, 101]) with
                          | true =>
                            have hf := Lib.hid (show (2 : Int) = argCount s.toList from (show argIn argWords s.toList = 2 from (argIn_miss e0).trans ((argIn_miss e1).trans ((argIn_miss e2).trans ((argIn_miss e3).trans ((argIn_miss e4).trans ((argIn_miss e5).trans ((argIn_miss e6).trans ((argIn_miss e7).trans ((argIn_miss e8).trans ((argIn_miss e9).trans ((argIn_miss e10).trans ((argIn_miss e11).trans (argIn_hit e12))))))))))))).symm)
                            go_enter Tryd.func121, Tryd.ntmps121
                            go_wp2
                            go_ret
                            exact ⟨ret_int hf.out, rfl⟩
                          | false =>
                            cases e13 : (s.toList == [119, 104, 101, 114, 101]) with
                            | true =>
                              have hf := Lib.hid (show (3 : Int) = argCount s.toList from (show argIn argWords s.toList = 3 from (argIn_miss e0).trans ((argIn_miss e1).trans ((argIn_miss e2).trans ((argIn_miss e3).trans ((argIn_miss e4).trans ((argIn_miss e5).trans ((argIn_miss e6).trans ((argIn_miss e7).trans ((argIn_miss e8).trans ((argIn_miss e9).trans ((argIn_miss e10).trans ((argIn_miss e11).trans ((argIn_miss e12).trans (argIn_hit e13)))))))))))))).symm)
                              go_enter Tryd.func121, Tryd.ntmps121
                              go_wp2
                              go_ret
                              exact ⟨ret_int hf.out, rfl⟩
                            | false =>
                              cases e14 : (s.toList == [103, 114, 111, 117, 112]) with
                              | true =>
                                have hf := Lib.hid (show (3 : Int) = argCount s.toList from (show argIn argWords s.toList = 3 from (argIn_miss e0).trans ((argIn_miss e1).trans ((argIn_miss e2).trans ((argIn_miss e3).trans ((argIn_miss e4).trans ((argIn_miss e5).trans ((argIn_miss e6).trans ((argIn_miss e7).trans ((argIn_miss e8).trans ((argIn_miss e9).trans ((argIn_miss e10).trans ((argIn_miss e11).trans ((argIn_miss e12).trans ((argIn_miss e13).trans (argIn_hit e14))))))))))))))).symm)
                                go_enter Tryd.func121, Tryd.ntmps121
                                go_wp2
                                go_ret
                                exact ⟨ret_int hf.out, rfl⟩
                              | false =>
                                cases e15 : (s.toList == [106, 111, 105, 110]) with
                                | true =>
                                  have hf := Lib.hid (show (3 : Int) = argCount s.toList from (show argIn argWords s.toList = 3 from (argIn_miss e0).trans ((argIn_miss e1).trans ((argIn_miss e2).trans ((argIn_miss e3).trans ((argIn_miss e4).trans ((argIn_miss e5).trans ((argIn_miss e6).trans ((argIn_miss e7).trans ((argIn_miss e8).trans ((argIn_miss e9).trans ((argIn_miss e10).trans ((argIn_miss e11).trans ((argIn_miss e12).trans ((argIn_miss e13).trans ((argIn_miss e14).trans (argIn_hit e15)))))))))))))))).symm)
                                  go_enter Tryd.func121, Tryd.ntmps121
                                  go_wp2
                                  go_ret
                                  exact ⟨ret_int hf.out, rfl⟩
                                | false =>
                                  cases e16 : (s.toList == [97, 100, 100]) with
                                  | true =>
                                    have hf := Lib.hid (show (4 : Int) = argCount s.toList from (show argIn argWords s.toList = 4 from (argIn_miss e0).trans ((argIn_miss e1).trans ((argIn_miss e2).trans ((argIn_miss e3).trans ((argIn_miss e4).trans ((argIn_miss e5).trans ((argIn_miss e6).trans ((argIn_miss e7).trans ((argIn_miss e8).trans ((argIn_miss e9).trans ((argIn_miss e10).trans ((argIn_miss e11).trans ((argIn_miss e12).trans ((argIn_miss e13).trans ((argIn_miss e14).trans ((argIn_miss e15).trans (argIn_hit e16))))))))))))))))).symm)
                                    go_enter Tryd.func121, Tryd.ntmps121
                                    go_wp2
                                    go_ret
                                    exact ⟨ret_int hf.out, rfl⟩
                                  | false =>
                                    have hf := Lib.hid (show (-1 : Int) = argCount s.toList from (show argIn argWords s.toList = -1 from (argIn_miss e0).trans ((argIn_miss e1).trans ((argIn_miss e2).trans ((argIn_miss e3).trans ((argIn_miss e4).trans ((argIn_miss e5).trans ((argIn_miss e6).trans ((argIn_miss e7).trans ((argIn_miss e8).trans ((argIn_miss e9).trans ((argIn_miss e10).trans ((argIn_miss e11).trans ((argIn_miss e12).trans ((argIn_miss e13).trans ((argIn_miss e14).trans ((argIn_miss e15).trans ((argIn_miss e16).trans (rfl)))))))))))))))))).symm)
                                    go_enter Tryd.func121, Tryd.ntmps121
                                    go_wp2
                                    go_ret
                                    exact ⟨ret_int hf.out, rfl⟩
theorem res_words (l : List UInt8) : resB l = (keyWords.contains l || decide (0 ≤ argCount l)) := by
  by_cases h : l ∈ resWords
  · have h1 : resB l = true := by unfold resB; exact List.contains_iff_mem.2 h
    rw [h1]
    simp only [resWords, List.mem_cons, List.not_mem_nil, or_false] at h
    rcases h with rfl | rfl | rfl | rfl | rfl | rfl | rfl | rfl | rfl | rfl | rfl | rfl | rfl | rfl | rfl | rfl | rfl | rfl | rfl | rfl | rfl | rfl | rfl | rfl <;> decide
  · have h1 : resB l = false := by
      unfold resB
      rw [← Bool.not_eq_true, List.contains_iff_mem]
      exact h
    rw [h1]
    simp only [resWords, List.mem_cons, List.not_mem_nil, or_false, not_or] at h
    obtain ⟨h0, h1, h2, h3, h4, h5, h6, h7, h8, h9, h10, h11, h12, h13, h14, h15, h16, h17, h18, h19, h20, h21, h22, h23⟩ := h
    simp [keyWords, argCount, argWords, argIn, *]
set_option maxHeartbeats 8000000 in
theorem isReserved_impl (s : ByteArray) (w : World) : Calls Tryd.prog 99 #[.string s] w (RetQ (.bool (resB s.toList)) w) := by
  cases e0 : (s.toList == [108, 101, 116]) with
  | true =>
    have hf := Lib.hid (show true = resB s.toList by rw [res_words, show keyWords.contains s.toList = true from contains_hit e0]; rfl)
    go_enter Tryd.func99, Tryd.ntmps99
    go_wp2
    go_ret
    exact ⟨ret_bool hf.out, rfl⟩
  | false =>
    cases e1 : (s.toList == [105, 110]) with
    | true =>
      have hf := Lib.hid (show true = resB s.toList by rw [res_words, show keyWords.contains s.toList = true from (contains_miss e0).trans (contains_hit e1)]; rfl)
      go_enter Tryd.func99, Tryd.ntmps99
      go_wp2
      go_ret
      exact ⟨ret_bool hf.out, rfl⟩
    | false =>
      cases e2 : (s.toList == [105, 102]) with
      | true =>
        have hf := Lib.hid (show true = resB s.toList by rw [res_words, show keyWords.contains s.toList = true from (contains_miss e0).trans ((contains_miss e1).trans (contains_hit e2))]; rfl)
        go_enter Tryd.func99, Tryd.ntmps99
        go_wp2
        go_ret
        exact ⟨ret_bool hf.out, rfl⟩
      | false =>
        cases e3 : (s.toList == [116, 104, 101, 110]) with
        | true =>
          have hf := Lib.hid (show true = resB s.toList by rw [res_words, show keyWords.contains s.toList = true from (contains_miss e0).trans ((contains_miss e1).trans ((contains_miss e2).trans (contains_hit e3)))]; rfl)
          go_enter Tryd.func99, Tryd.ntmps99
          go_wp2
          go_ret
          exact ⟨ret_bool hf.out, rfl⟩
        | false =>
          cases e4 : (s.toList == [101, 108, 115, 101]) with
          | true =>
            have hf := Lib.hid (show true = resB s.toList by rw [res_words, show keyWords.contains s.toList = true from (contains_miss e0).trans ((contains_miss e1).trans ((contains_miss e2).trans ((contains_miss e3).trans (contains_hit e4))))]; rfl)
            go_enter Tryd.func99, Tryd.ntmps99
            go_wp2
            go_ret
            exact ⟨ret_bool hf.out, rfl⟩
          | false =>
            cases e5 : (s.toList == [102, 111, 114]) with
            | true =>
              have hf := Lib.hid (show true = resB s.toList by rw [res_words, show keyWords.contains s.toList = true from (contains_miss e0).trans ((contains_miss e1).trans ((contains_miss e2).trans ((contains_miss e3).trans ((contains_miss e4).trans (contains_hit e5)))))]; rfl)
              go_enter Tryd.func99, Tryd.ntmps99
              go_wp2
              go_ret
              exact ⟨ret_bool hf.out, rfl⟩
            | false =>
              cases e6 : (s.toList == [100, 111]) with
              | true =>
                have hf := Lib.hid (show true = resB s.toList by rw [res_words, show keyWords.contains s.toList = true from (contains_miss e0).trans ((contains_miss e1).trans ((contains_miss e2).trans ((contains_miss e3).trans ((contains_miss e4).trans ((contains_miss e5).trans (contains_hit e6))))))]; rfl)
                go_enter Tryd.func99, Tryd.ntmps99
                go_wp2
                go_ret
                exact ⟨ret_bool hf.out, rfl⟩
              | false =>
                have hf := Lib.hid (show decide (0 ≤ argCount s.toList) = resB s.toList by rw [res_words, show keyWords.contains s.toList = false from (contains_miss e0).trans ((contains_miss e1).trans ((contains_miss e2).trans ((contains_miss e3).trans ((contains_miss e4).trans ((contains_miss e5).trans ((contains_miss e6).trans (rfl)))))))]; rfl)
                have hP := fun wx => argCount_impl s wx
                generalize argCount s.toList = ac at hP hf
                go_enter Tryd.func99, Tryd.ntmps99
                go_wp2_with (go_at_call 121; refine (hP _).mono ?_; rintro e w1 ⟨rfl, rfl⟩)
                go_ret
                exact ⟨ret_bool hf.out, rfl⟩

theorem isValidName_impl (s : ByteArray) (hs : s.size ≤ 9223372036854775807) (w : World) : Calls Tryd.prog 73 #[.string s] w (RetQ (.bool (wordB s && !resB s.toList)) w) := by
  have hP := fun wx => isWord_impl s hs wx
  have hQ := fun wx => isReserved_impl s wx
  cases h1 : wordB s with
  | true =>
    rw [h1] at hP
    cases h2 : resB s.toList with
    | true =>
      rw [h2] at hQ
      clear h1 h2
      go_enter Tryd.func73, Tryd.ntmps73
      go_wp2_with (first | (go_at_call 98; refine (hP _).mono ?_; rintro e w1 ⟨rfl, rfl⟩) | (go_at_call 99; refine (hQ _).mono ?_; rintro e w1 ⟨rfl, rfl⟩))
      go_ret
      exact ⟨rfl, rfl⟩
    | false =>
      rw [h2] at hQ
      clear h1 h2
      go_enter Tryd.func73, Tryd.ntmps73
      go_wp2_with (first | (go_at_call 98; refine (hP _).mono ?_; rintro e w1 ⟨rfl, rfl⟩) | (go_at_call 99; refine (hQ _).mono ?_; rintro e w1 ⟨rfl, rfl⟩))
      go_ret
      exact ⟨rfl, rfl⟩
  | false =>
    rw [h1] at hP
    clear h1 hQ
    go_enter Tryd.func73, Tryd.ntmps73
    go_wp2_with (go_at_call 98; refine (hP _).mono ?_; rintro e w1 ⟨rfl, rfl⟩)
    go_ret
    exact ⟨rfl, rfl⟩

end Go.Proofs.YtdjcflnemnknaaaDoor

namespace Go.Proofs.YtdjcflnemnknaaaDoor
open Go.RowKit
set_option linter.unusedSimpArgs false
set_option linter.unusedVariables false

def hasB (l : List ByteArray) (s : ByteArray) : Bool := l.any fun x => x.toList == s.toList
theorem l1Has_resSpec (l : List ByteArray) (s : ByteArray) (fp : List Nat) (v : Value) (w : World) (hS : Sl w (l.map ls) fp v) : Calls Tryd.prog 118 #[v, .string s] w (RetQ (.bool (hasB l s)) w) := by
  obtain ⟨A, c, rfl, hl, hc⟩ := hS.formT
  have hm : l.length ≤ 9223372036854775807 := by unfold maxLen at hc; omega
  clear hl hc
  go_enter Tryd.func118, Tryd.ntmps118
  go_wp2_with fail
  go_loop [5] (fun iv => ∃ k : Nat, k ≤ l.length ∧ iv = .int .i64 k ∧ hasB (l.take k) s = false) (fun iv => l.length - (intOf iv).toNat)
  case atStart => exact ⟨0, by omega, rfl, rfl⟩
  case round =>
    obtain ⟨k, hk, rfl, hno⟩ := hrel
    have hno' := Lib.hid hno
    clear hno
    by_cases hlt : k < l.length
    · have hd : (l.map ls)[k]? = some (ls l[k]) := by rw [List.getElem?_map, List.getElem?_eq_getElem hlt]; rfl
      obtain ⟨b, o, fi, ci, rfl, hbb, hbf, hri, hfi, hat⟩ := hS.elem ls_szs hd
      obtain ⟨rfl, rfl⟩ := hri
      have q0 : w.cell? ⟨b, o + k, none⟩ = some (.string l[k]) := by simpa using hat.head
      clear hat hd
      cases he : ((l[k]).toList == s.toList) with
      | true =>
        have hf := Lib.hid (show true = hasB l s by
          unfold hasB
          rw [eq_comm, List.any_eq_true]
          exact ⟨l[k], List.getElem_mem hlt, he⟩)
        go_wp2_with fail
        go_ret
        exact ⟨ret_bool hf.out, rfl⟩
      | false =>
        have hf := Lib.hid (show hasB (l.take (k + 1)) s = false by
          have h := hno'.out
          unfold hasB at h ⊢
          rw [List.take_succ_eq_append_getElem hlt, List.any_append, h]
          simp [he])
        go_wp2_with fail
        go_round
        case rel => exact ⟨k + 1, by omega, by go_num, hf.out⟩
        case measure => (simp [intOf] <;> omega)
    · have hf := Lib.hid (show false = hasB l s by
        have h := hno'.out
        rw [List.take_of_length_le (by omega)] at h
        exact h.symm)
      go_wp2_with fail
      go_ret
      exact ⟨ret_bool hf.out, rfl⟩

def resNames : List ByteArray := resWords.map fun l => ⟨l.toArray⟩
theorem hasB_res (s : ByteArray) : hasB resNames s = resB s.toList := by
  unfold hasB resB resNames
  rw [List.any_map]
  induction resWords with
  | nil => rfl
  | cons x l ih =>
    rw [List.any_cons, List.contains_cons, ih]
    congr 1
    simp only [Function.comp, ByteArray.toList_mk]
    rw [Bool.eq_iff_iff, beq_iff_eq, beq_iff_eq]
    exact eq_comm
def SlPost (l : List D) (w : World) (e : Ending) (w' : World) : Prop := ∃ fp v, e = .returned v ∧ Sl w' l fp v ∧ Below w.heap.size w w'
theorem Rs_strs {w : World} : ∀ (l : List ByteArray), Rs w (l.map ls) [] (l.map Value.string)
  | [] => ⟨rfl, rfl⟩
  | x :: l => ⟨[], [], [.string x], l.map Value.string, rfl, rfl, ⟨rfl, rfl⟩, Rs_strs l⟩
set_option maxRecDepth 20000 in
theorem l2Reserved_spec (w : World) : Calls Tryd.prog 120 #[] w (SlPost (resNames.map ls) w) := by
  go_enter Tryd.func120, Tryd.ntmps120
  go_wp2
  go_ret
  refine ⟨_, _, rfl, Sl.of_row (Row.new _ _ _) (Rs_strs resNames) (by rfl) (by simp [maxLen]), (Below.refl _ _).alloc (Nat.le_refl _) _⟩
set_option maxRecDepth 20000 in
theorem isReserved_spec (s : ByteArray) (w : World) : Calls Tryd.prog 97 #[.string s] w (RetB (.bool (resB s.toList)) w) := by
  have hP := fun wx (fp : List Nat) (v : Value) (hS : Sl wx (resNames.map ls) fp v) => l1Has_resSpec resNames s fp v wx hS
  rw [hasB_res] at hP
  generalize resB s.toList = b at hP
  go_enter Tryd.func97, Tryd.ntmps97
  go_wp2_with fail
  refine (l2Reserved_spec _).mono ?_
  rintro e w1 ⟨fp, v, rfl, hS, hb⟩
  obtain ⟨A, c, rfl, _, _⟩ := hS.formT
  go_wp2_with fail
  refine (hP _ _ _ hS).mono ?_
  rintro e w2 ⟨rfl, rfl⟩
  go_wp2_with fail
  go_ret
  exact ⟨rfl, hb⟩

set_option maxRecDepth 20000 in
theorem isValidName_spec (s : ByteArray) (hs : s.size ≤ 9223372036854775807) (w : World) : Calls Tryd.prog 70 #[.string s] w (RetB (.bool (wordB s && !resB s.toList)) w) := by
  have hP := fun wx => l2Shape_spec s hs wx
  have hQ := fun wx => isReserved_spec s wx
  unfold wordB
  cases h1 : shapeB s with
  | true =>
    rw [h1] at hP
    rcases ilt 8 (s.size : Int) with h3 | h3
    · have d1 : decide ((s.size : Int) ≤ 8) = false := by simp; omega
      rw [d1]
      clear h1 hQ h3
      go_enter Tryd.func70, Tryd.ntmps70
      go_wp2_with (first | (go_at_call 96; refine (hP _).mono ?_; rintro e w1 ⟨rfl, rfl⟩) | (go_at_call 97; refine (hQ _).mono ?_; rintro e w1 ⟨rfl, hb⟩))
      go_ret
      exact ⟨rfl, Below.refl _ _⟩
    · have d1 : decide ((s.size : Int) ≤ 8) = true := by simp; omega
      rw [d1]
      clear d1
      cases h2 : resB s.toList with
      | true =>
        rw [h2] at hQ
        clear h1 h2
        go_enter Tryd.func70, Tryd.ntmps70
        go_wp2_with (first | (go_at_call 96; refine (hP _).mono ?_; rintro e w1 ⟨rfl, rfl⟩) | (go_at_call 97; refine (hQ _).mono ?_; rintro e w1 ⟨rfl, hb⟩))
        go_ret
        exact ⟨rfl, hb⟩
      | false =>
        rw [h2] at hQ
        clear h1 h2
        go_enter Tryd.func70, Tryd.ntmps70
        go_wp2_with (first | (go_at_call 96; refine (hP _).mono ?_; rintro e w1 ⟨rfl, rfl⟩) | (go_at_call 97; refine (hQ _).mono ?_; rintro e w1 ⟨rfl, hb⟩))
        go_ret
        exact ⟨rfl, hb⟩
  | false =>
    rw [h1] at hP
    clear h1 hQ
    go_enter Tryd.func70, Tryd.ntmps70
    go_wp2_with (first | (go_at_call 96; refine (hP _).mono ?_; rintro e w1 ⟨rfl, rfl⟩) | (go_at_call 97; refine (hQ _).mono ?_; rintro e w1 ⟨rfl, hb⟩))
    go_ret
    exact ⟨rfl, Below.refl _ _⟩
end Go.Proofs.YtdjcflnemnknaaaDoor

namespace Go.Proofs.YtdjcflnemnknaaaDoor
open Go.RowKit
set_option linter.unusedSimpArgs false
set_option linter.unusedVariables false

/-- The part of a cell's rule that hangs on its kind; d: the name is valid; f: the number is that of a slider. -/
def kindOk (x : GCell) (d f : Bool) : Bool :=
  if x.kind == 1 then x.name.toList.isEmpty && x.n == 0
  else if x.kind == 2 then d && x.n == 0
  else if x.kind == 4 then d && x.n == 0
  else if x.kind == 3 then d && x.code.toList.isEmpty && f
  else false
def validCell (x : GCell) : Bool := inR x.id 1 999 && inR x.ver 1 999 && printable x.code && kindOk x (wordB x.name && !resB x.name.toList) (inR x.n 0 100)
end Go.Proofs.YtdjcflnemnknaaaDoor

namespace Go.Proofs.YtdjcflnemnknaaaDoor
open Go.RowKit
set_option linter.unusedSimpArgs false
set_option linter.unusedVariables false

def idxFrom : List GCell → Int → Nat → Int
  | [], _, _ => -1
  | c :: r, id, k => if c.id == id then (k : Int) else idxFrom r id (k + 1)
/-- The index of the first cell of this id; -1 if there is none. -/
def cellIdx (l : List GCell) (id : Int) : Int := idxFrom l id 0
def validFrom (l : List GCell) : List GCell → Nat → Bool
  | [], _ => true
  | c :: r, k => validCell c && (cellIdx l c.id == (k : Int)) && validFrom l r (k + 1)
def validNb (l : List GCell) : Bool := validFrom l l 0 && decide ((l.length : Int) ≤ 8)

theorem wfs_get {l : List GCell} (h : D.wfs (l.map GCell.toD)) {k : Nat} (hk : k < l.length) : (l[k]).toD.wf := D.wfs_get h (List.mem_map_of_mem (f := GCell.toD) (List.getElem_mem hk))

end Go.Proofs.YtdjcflnemnknaaaDoor

