/-
  Reserved words and valid names: both packages.
-/
import Derived.Test.YtdjcflnemnknaaaDoorNames
import Derived.Test.YtdjcflnemnknaaaDoorApp
namespace Go.Proofs.YtdjcflnemnknaaaDoor
open Go.RowKit
set_option linter.unusedSimpArgs false
set_option linter.unusedVariables false

def argWords : List (List UInt8 × Int) := [([99, 108, 111, 99, 107], 0), ([108, 101, 110], 1), ([115, 117, 109], 1), ([114, 111, 119, 115], 1), ([99, 104, 97, 110, 99, 101], 1), ([102, 105, 108, 101], 1), ([116, 97, 107, 101], 2), ([115, 107, 105, 112], 2), ([114, 97, 110, 103, 101], 2), ([110, 116, 104], 2), ([107, 101, 101, 112], 2), ([99, 111, 108, 117, 109, 110], 2), ([116, 97, 98, 108, 101], 2), ([119, 104, 101, 114, 101], 3), ([103, 114, 111, 117, 112], 3), ([106, 111, 105, 110], 3), ([97, 100, 100], 4)]
def argIn : List (List UInt8 × Int) → List UInt8 → Int
  | [], _ => -1
  | (w, n) :: r, l => if l == w then n else argIn r l
/-- How many arguments a call of this name takes; -1 if it is no such name. -/
def argCount (l : List UInt8) : Int := argIn argWords l
def keyWords : List (List UInt8) := [[108, 101, 116], [105, 110], [105, 102], [116, 104, 101, 110], [101, 108, 115, 101], [102, 111, 114], [100, 111]]
def resWords : List (List UInt8) := [[108, 101, 116], [105, 110], [105, 102], [116, 104, 101, 110], [101, 108, 115, 101], [102, 111, 114], [100, 111], [108, 101, 110], [115, 117, 109], [116, 97, 107, 101], [115, 107, 105, 112], [114, 97, 110, 103, 101], [110, 116, 104], [119, 104, 101, 114, 101], [107, 101, 101, 112], [97, 100, 100], [103, 114, 111, 117, 112], [106, 111, 105, 110], [99, 111, 108, 117, 109, 110], [114, 111, 119, 115], [99, 108, 111, 99, 107], [99, 104, 97, 110, 99, 101], [102, 105, 108, 101], [116, 97, 98, 108, 101]]
def resB (l : List UInt8) : Bool := resWords.contains l
theorem argIn_hit {w l : List UInt8} {n : Int} {r : List (List UInt8 × Int)} (h : (l == w) = true) : argIn ((w, n) :: r) l = n := by rw [argIn, h]; rfl
theorem argIn_miss {w l : List UInt8} {n : Int} {r : List (List UInt8 × Int)} (h : (l == w) = false) : argIn ((w, n) :: r) l = argIn r l := by rw [argIn, h]; rfl
theorem contains_hit {w l : List UInt8} {r : List (List UInt8)} (h : (l == w) = true) : (w :: r).contains l = true := by rw [List.contains_cons, h]; rfl
theorem contains_miss {w l : List UInt8} {r : List (List UInt8)} (h : (l == w) = false) : (w :: r).contains l = r.contains l := by rw [List.contains_cons, h]; rfl
set_option maxHeartbeats 8000000 in
theorem argCount_impl (s : ByteArray) (w : World) : Calls Tryd.prog 121 #[.string s] w (RetQ (.int .i64 (argCount s.toList)) w) := by
  cases e0 : (s.toList == [99, 108, 111, 99, 107]) with
  | true =>
    have hf := Lib.hid (show (0 : Int) = argCount s.toList from (show argIn argWords s.toList = 0 from argIn_hit e0).symm)
    go_enter Tryd.func121, Tryd.ntmps121
    go_wp2
    go_ret
    exact ⟨ret_int hf.out, rfl⟩
  | false =>
    cases e1 : (s.toList == [108, 101, 110]) with
    | true =>
      have hf := Lib.hid (show (1 : Int) = argCount s.toList from (show argIn argWords s.toList = 1 from (argIn_miss e0).trans (argIn_hit e1)).symm)
      go_enter Tryd.func121, Tryd.ntmps121
      go_wp2
      go_ret
      exact ⟨ret_int hf.out, rfl⟩
    | false =>
      cases e2 : (s.toList == [115, 117, 109]) with
      | true =>
        have hf := Lib.hid (show (1 : Int) = argCount s.toList from (show argIn argWords s.toList = 1 from (argIn_miss e0).trans ((argIn_miss e1).trans (argIn_hit e2))).symm)
        go_enter Tryd.func121, Tryd.ntmps121
        go_wp2
        go_ret
        exact ⟨ret_int hf.out, rfl⟩
      | false =>
        cases e3 : (s.toList == [114, 111, 119, 115]) with
        | true =>
          have hf := Lib.hid (show (1 : Int) = argCount s.toList from (show argIn argWords s.toList = 1 from (argIn_miss e0).trans ((argIn_miss e1).trans ((argIn_miss e2).trans (argIn_hit e3)))).symm)
          go_enter Tryd.func121, Tryd.ntmps121
          go_wp2
          go_ret
          exact ⟨ret_int hf.out, rfl⟩
        | false =>
          cases e4 : (s.toList == [99, 104, 97, 110, 99, 101]) with
          | true =>
            have hf := Lib.hid (show (1 : Int) = argCount s.toList from (show argIn argWords s.toList = 1 from (argIn_miss e0).trans ((argIn_miss e1).trans ((argIn_miss e2).trans ((argIn_miss e3).trans (argIn_hit e4))))).symm)
            go_enter Tryd.func121, Tryd.ntmps121
            go_wp2
            go_ret
            exact ⟨ret_int hf.out, rfl⟩
          | false =>
            cases e5 : (s.toList == [102, 105, 108, 101]) with
            | true =>
              have hf := Lib.hid (show (1 : Int) = argCount s.toList from (show argIn argWords s.toList = 1 from (argIn_miss e0).trans ((argIn_miss e1).trans ((argIn_miss e2).trans ((argIn_miss e3).trans ((argIn_miss e4).trans (argIn_hit e5)))))).symm)
              go_enter Tryd.func121, Tryd.ntmps121
              go_wp2
              go_ret
              exact ⟨ret_int hf.out, rfl⟩
            | false =>
              cases e6 : (s.toList == [116, 97, 107, 101]) with
              | true =>
                have hf := Lib.hid (show (2 : Int) = argCount s.toList from (show argIn argWords s.toList = 2 from (argIn_miss e0).trans ((argIn_miss e1).trans ((argIn_miss e2).trans ((argIn_miss e3).trans ((argIn_miss e4).trans ((argIn_miss e5).trans (argIn_hit e6))))))).symm)
                go_enter Tryd.func121, Tryd.ntmps121
                go_wp2
                go_ret
                exact ⟨ret_int hf.out, rfl⟩
              | false =>
                cases e7 : (s.toList == [115, 107, 105, 112]) with
                | true =>
                  have hf := Lib.hid (show (2 : Int) = argCount s.toList from (show argIn argWords s.toList = 2 from (argIn_miss e0).trans ((argIn_miss e1).trans ((argIn_miss e2).trans ((argIn_miss e3).trans ((argIn_miss e4).trans ((argIn_miss e5).trans ((argIn_miss e6).trans (argIn_hit e7)))))))).symm)
                  go_enter Tryd.func121, Tryd.ntmps121
                  go_wp2
                  go_ret
                  exact ⟨ret_int hf.out, rfl⟩
                | false =>
                  cases e8 : (s.toList == [114, 97, 110, 103, 101]) with
                  | true =>
                    have hf := Lib.hid (show (2 : Int) = argCount s.toList from (show argIn argWords s.toList = 2 from (argIn_miss e0).trans ((argIn_miss e1).trans ((argIn_miss e2).trans ((argIn_miss e3).trans ((argIn_miss e4).trans ((argIn_miss e5).trans ((argIn_miss e6).trans ((argIn_miss e7).trans (argIn_hit e8))))))))).symm)
                    go_enter Tryd.func121, Tryd.ntmps121
                    go_wp2
                    go_ret
                    exact ⟨ret_int hf.out, rfl⟩
                  | false =>
                    cases e9 : (s.toList == [110, 116, 104]) with
                    | true =>
                      have hf := Lib.hid (show (2 : Int) = argCount s.toList from (show argIn argWords s.toList = 2 from (argIn_miss e0).trans ((argIn_miss e1).trans ((argIn_miss e2).trans ((argIn_miss e3).trans ((argIn_miss e4).trans ((argIn_miss e5).trans ((argIn_miss e6).trans ((argIn_miss e7).trans ((argIn_miss e8).trans (argIn_hit e9)))))))))).symm)
                      go_enter Tryd.func121, Tryd.ntmps121
                      go_wp2
                      go_ret
                      exact ⟨ret_int hf.out, rfl⟩
                    | false =>
                      cases e10 : (s.toList == [107, 101, 101, 112]) with
                      | true =>
                        have hf := Lib.hid (show (2 : Int) = argCount s.toList from (show argIn argWords s.toList = 2 from (argIn_miss e0).trans ((argIn_miss e1).trans ((argIn_miss e2).trans ((argIn_miss e3).trans ((argIn_miss e4).trans ((argIn_miss e5).trans ((argIn_miss e6).trans ((argIn_miss e7).trans ((argIn_miss e8).trans ((argIn_miss e9).trans (argIn_hit e10))))))))))).symm)
                        go_enter Tryd.func121, Tryd.ntmps121
                        go_wp2
                        go_ret
                        exact ⟨ret_int hf.out, rfl⟩
                      | false =>
                        cases e11 : (s.toList == [99, 111, 108, 117, 109, 110]) with
                        | true =>
                          have hf := Lib.hid (show (2 : Int) = argCount s.toList from (show argIn argWords s.toList = 2 from (argIn_miss e0).trans ((argIn_miss e1).trans ((argIn_miss e2).trans ((argIn_miss e3).trans ((argIn_miss e4).trans ((argIn_miss e5).trans ((argIn_miss e6).trans ((argIn_miss e7).trans ((argIn_miss e8).trans ((argIn_miss e9).trans ((argIn_miss e10).trans (argIn_hit e11)))))))))))).symm)
                          go_enter Tryd.func121, Tryd.ntmps121
                          go_wp2
                          go_ret
                          exact ⟨ret_int hf.out, rfl⟩
                        | false =>
                          cases e12 : (s.toList == [116, 97, 98, 108, 101]) with
                          | true =>
                            have hf := Lib.hid (show (2 : Int) = argCount s.toList from (show argIn argWords s.toList = 2 from (argIn_miss e0).trans ((argIn_miss e1).trans ((argIn_miss e2).trans ((argIn_miss e3).trans ((argIn_miss e4).trans ((argIn_miss e5).trans ((argIn_miss e6).trans ((argIn_miss e7).trans ((argIn_miss e8).trans ((argIn_miss e9).trans ((argIn_miss e10).trans ((argIn_miss e11).trans (argIn_hit e12))))))))))))).symm)
                            go_enter Tryd.func121, Tryd.ntmps121
                            go_wp2
                            go_ret
                            exact ⟨ret_int hf.out, rfl⟩
                          | false =>
                            cases e13 : (s.toList == [119, 104, 101, 114, 101]) with
                            | true =>
                              have hf := Lib.hid (show (3 : Int) = argCount s.toList from (show argIn argWords s.toList = 3 from (argIn_miss e0).trans ((argIn_miss e1).trans ((argIn_miss e2).trans ((argIn_miss e3).trans ((argIn_miss e4).trans ((argIn_miss e5).trans ((argIn_miss e6).trans ((argIn_miss e7).trans ((argIn_miss e8).trans ((argIn_miss e9).trans ((argIn_miss e10).trans ((argIn_miss e11).trans ((argIn_miss e12).trans (argIn_hit e13)))))))))))))).symm)
                              go_enter Tryd.func121, Tryd.ntmps121
                              go_wp2
                              go_ret
                              exact ⟨ret_int hf.out, rfl⟩
                            | false =>
                              cases e14 : (s.toList == [103, 114, 111, 117, 112]) with
                              | true =>
                                have hf := Lib.hid (show (3 : Int) = argCount s.toList from (show argIn argWords s.toList = 3 from (argIn_miss e0).trans ((argIn_miss e1).trans ((argIn_miss e2).trans ((argIn_miss e3).trans ((argIn_miss e4).trans ((argIn_miss e5).trans ((argIn_miss e6).trans ((argIn_miss e7).trans ((argIn_miss e8).trans ((argIn_miss e9).trans ((argIn_miss e10).trans ((argIn_miss e11).trans ((argIn_miss e12).trans ((argIn_miss e13).trans (argIn_hit e14))))))))))))))).symm)
                                go_enter Tryd.func121, Tryd.ntmps121
                                go_wp2
                                go_ret
                                exact ⟨ret_int hf.out, rfl⟩
                              | false =>
                                cases e15 : (s.toList == [106, 111, 105, 110]) with
                                | true =>
                                  have hf := Lib.hid (show (3 : Int) = argCount s.toList from (show argIn argWords s.toList = 3 from (argIn_miss e0).trans ((argIn_miss e1).trans ((argIn_miss e2).trans ((argIn_miss e3).trans ((argIn_miss e4).trans ((argIn_miss e5).trans ((argIn_miss e6).trans ((argIn_miss e7).trans ((argIn_miss e8).trans ((argIn_miss e9).trans ((argIn_miss e10).trans ((argIn_miss e11).trans ((argIn_miss e12).trans ((argIn_miss e13).trans ((argIn_miss e14).trans (argIn_hit e15)))))))))))))))).symm)
                                  go_enter Tryd.func121, Tryd.ntmps121
                                  go_wp2
                                  go_ret
                                  exact ⟨ret_int hf.out, rfl⟩
                                | false =>
                                  cases e16 : (s.toList == [97, 100, 100]) with
                                  | true =>
                                    have hf := Lib.hid (show (4 : Int) = argCount s.toList from (show argIn argWords s.toList = 4 from (argIn_miss e0).trans ((argIn_miss e1).trans ((argIn_miss e2).trans ((argIn_miss e3).trans ((argIn_miss e4).trans ((argIn_miss e5).trans ((argIn_miss e6).trans ((argIn_miss e7).trans ((argIn_miss e8).trans ((argIn_miss e9).trans ((argIn_miss e10).trans ((argIn_miss e11).trans ((argIn_miss e12).trans ((argIn_miss e13).trans ((argIn_miss e14).trans ((argIn_miss e15).trans (argIn_hit e16))))))))))))))))).symm)
                                    go_enter Tryd.func121, Tryd.ntmps121
                                    go_wp2
                                    go_ret
                                    exact ⟨ret_int hf.out, rfl⟩
                                  | false =>
                                    have hf := Lib.hid (show (-1 : Int) = argCount s.toList from (show argIn argWords s.toList = -1 from (argIn_miss e0).trans ((argIn_miss e1).trans ((argIn_miss e2).trans ((argIn_miss e3).trans ((argIn_miss e4).trans ((argIn_miss e5).trans ((argIn_miss e6).trans ((argIn_miss e7).trans ((argIn_miss e8).trans ((argIn_miss e9).trans ((argIn_miss e10).trans ((argIn_miss e11).trans ((argIn_miss e12).trans ((argIn_miss e13).trans ((argIn_miss e14).trans ((argIn_miss e15).trans ((argIn_miss e16).trans (rfl)))))))))))))))))).symm)
                                    go_enter Tryd.func121, Tryd.ntmps121
                                    go_wp2
                                    go_ret
                                    exact ⟨ret_int hf.out, rfl⟩
theorem res_words (l : List UInt8) : resB l = (keyWords.contains l || decide (0 ≤ argCount l)) := by
  by_cases h : l ∈ resWords
  · have h1 : resB l = true := by unfold resB; exact List.contains_iff_mem.2 h
    rw [h1]
    simp only [resWords, List.mem_cons, List.not_mem_nil, or_false] at h
    rcases h with rfl | rfl | rfl | rfl | rfl | rfl | rfl | rfl | rfl | rfl | rfl | rfl | rfl | rfl | rfl | rfl | rfl | rfl | rfl | rfl | rfl | rfl | rfl | rfl <;> decide
  · have h1 : resB l = false := by
      unfold resB
      rw [← Bool.not_eq_true, List.contains_iff_mem]
      exact h
    rw [h1]
    simp only [resWords, List.mem_cons, List.not_mem_nil, or_false, not_or] at h
    obtain ⟨h0, h1, h2, h3, h4, h5, h6, h7, h8, h9, h10, h11, h12, h13, h14, h15, h16, h17, h18, h19, h20, h21, h22, h23⟩ := h
    simp [keyWords, argCount, argWords, argIn, *]
set_option maxHeartbeats 8000000 in
theorem isReserved_impl (s : ByteArray) (w : World) : Calls Tryd.prog 99 #[.string s] w (RetQ (.bool (resB s.toList)) w) := by
  cases e0 : (s.toList == [108, 101, 116]) with
  | true =>
    have hf := Lib.hid (show true = resB s.toList by rw [res_words, show keyWords.contains s.toList = true from contains_hit e0]; rfl)
    go_enter Tryd.func99, Tryd.ntmps99
    go_wp2
    go_ret
    exact ⟨ret_bool hf.out, rfl⟩
  | false =>
    cases e1 : (s.toList == [105, 110]) with
    | true =>
      have hf := Lib.hid (show true = resB s.toList by rw [res_words, show keyWords.contains s.toList = true from (contains_miss e0).trans (contains_hit e1)]; rfl)
      go_enter Tryd.func99, Tryd.ntmps99
      go_wp2
      go_ret
      exact ⟨ret_bool hf.out, rfl⟩
    | false =>
      cases e2 : (s.toList == [105, 102]) with
      | true =>
        have hf := Lib.hid (show true = resB s.toList by rw [res_words, show keyWords.contains s.toList = true from (contains_miss e0).trans ((contains_miss e1).trans (contains_hit e2))]; rfl)
        go_enter Tryd.func99, Tryd.ntmps99
        go_wp2
        go_ret
        exact ⟨ret_bool hf.out, rfl⟩
      | false =>
        cases e3 : (s.toList == [116, 104, 101, 110]) with
        | true =>
          have hf := Lib.hid (show true = resB s.toList by rw [res_words, show keyWords.contains s.toList = true from (contains_miss e0).trans ((contains_miss e1).trans ((contains_miss e2).trans (contains_hit e3)))]; rfl)
          go_enter Tryd.func99, Tryd.ntmps99
          go_wp2
          go_ret
          exact ⟨ret_bool hf.out, rfl⟩
        | false =>
          cases e4 : (s.toList == [101, 108, 115, 101]) with
          | true =>
            have hf := Lib.hid (show true = resB s.toList by rw [res_words, show keyWords.contains s.toList = true from (contains_miss e0).trans ((contains_miss e1).trans ((contains_miss e2).trans ((contains_miss e3).trans (contains_hit e4))))]; rfl)
            go_enter Tryd.func99, Tryd.ntmps99
            go_wp2
            go_ret
            exact ⟨ret_bool hf.out, rfl⟩
          | false =>
            cases e5 : (s.toList == [102, 111, 114]) with
            | true =>
              have hf := Lib.hid (show true = resB s.toList by rw [res_words, show keyWords.contains s.toList = true from (contains_miss e0).trans ((contains_miss e1).trans ((contains_miss e2).trans ((contains_miss e3).trans ((contains_miss e4).trans (contains_hit e5)))))]; rfl)
              go_enter Tryd.func99, Tryd.ntmps99
              go_wp2
              go_ret
              exact ⟨ret_bool hf.out, rfl⟩
            | false =>
              cases e6 : (s.toList == [100, 111]) with
              | true =>
                have hf := Lib.hid (show true = resB s.toList by rw [res_words, show keyWords.contains s.toList = true from (contains_miss e0).trans ((contains_miss e1).trans ((contains_miss e2).trans ((contains_miss e3).trans ((contains_miss e4).trans ((contains_miss e5).trans (contains_hit e6))))))]; rfl)
                go_enter Tryd.func99, Tryd.ntmps99
                go_wp2
                go_ret
                exact ⟨ret_bool hf.out, rfl⟩
              | false =>
                have hf := Lib.hid (show decide (0 ≤ argCount s.toList) = resB s.toList by rw [res_words, show keyWords.contains s.toList = false from (contains_miss e0).trans ((contains_miss e1).trans ((contains_miss e2).trans ((contains_miss e3).trans ((contains_miss e4).trans ((contains_miss e5).trans ((contains_miss e6).trans (rfl)))))))]; rfl)
                have hP := fun wx => argCount_impl s wx
                generalize argCount s.toList = ac at hP hf
                go_enter Tryd.func99, Tryd.ntmps99
                go_wp2_with (go_at_call 121; refine (hP _).mono ?_; rintro e w1 ⟨rfl, rfl⟩)
                go_ret
                exact ⟨ret_bool hf.out, rfl⟩

theorem isValidName_impl (s : ByteArray) (hs : s.size ≤ 9223372036854775807) (w : World) : Calls Tryd.prog 73 #[.string s] w (RetQ (.bool (wordB s && !resB s.toList)) w) := by
  have hP := fun wx => isWord_impl s hs wx
  have hQ := fun wx => isReserved_impl s wx
  cases h1 : wordB s with
  | true =>
    rw [h1] at hP
    cases h2 : resB s.toList with
    | true =>
      rw [h2] at hQ
      clear h1 h2
      go_enter Tryd.func73, Tryd.ntmps73
      go_wp2_with (first | (go_at_call 98; refine (hP _).mono ?_; rintro e w1 ⟨rfl, rfl⟩) | (go_at_call 99; refine (hQ _).mono ?_; rintro e w1 ⟨rfl, rfl⟩))
      go_ret
      exact ⟨rfl, rfl⟩
    | false =>
      rw [h2] at hQ
      clear h1 h2
      go_enter Tryd.func73, Tryd.ntmps73
      go_wp2_with (first | (go_at_call 98; refine (hP _).mono ?_; rintro e w1 ⟨rfl, rfl⟩) | (go_at_call 99; refine (hQ _).mono ?_; rintro e w1 ⟨rfl, rfl⟩))
      go_ret
      exact ⟨rfl, rfl⟩
  | false =>
    rw [h1] at hP
    clear h1 hQ
    go_enter Tryd.func73, Tryd.ntmps73
    go_wp2_with (go_at_call 98; refine (hP _).mono ?_; rintro e w1 ⟨rfl, rfl⟩)
    go_ret
    exact ⟨rfl, rfl⟩

end Go.Proofs.YtdjcflnemnknaaaDoor
