/-
  Texts joined: Res Res2 Valid ValidNb Cells Edit1 Edit2.
-/
import Derived.Test.YtnongnchpplacaaJA
import Derived.Test.YtnongnchpplacaaProg
import Derived.KernelRfl
import Derived.Test.YtnongnchpplacaaJE
namespace Go.Proofs.Ytnongnchpplacaa
open Go.RowKit
set_option linter.unusedSimpArgs false
set_option linter.unusedVariables false

def argWords : List (List UInt8 × Int) := [([99, 108, 111, 99, 107], 0), ([108, 101, 110], 1), ([115, 117, 109], 1), ([114, 111, 119, 115], 1), ([99, 104, 97, 110, 99, 101], 1), ([102, 105, 108, 101], 1), ([116, 97, 107, 101], 2), ([115, 107, 105, 112], 2), ([114, 97, 110, 103, 101], 2), ([110, 116, 104], 2), ([107, 101, 101, 112], 2), ([99, 111, 108, 117, 109, 110], 2), ([116, 97, 98, 108, 101], 2), ([119, 104, 101, 114, 101], 3), ([103, 114, 111, 117, 112], 3), ([106, 111, 105, 110], 3), ([97, 100, 100], 4)]
def argIn : List (List UInt8 × Int) → List UInt8 → Int
  | [], _ => -1
  | (w, n) :: r, l => if l == w then n else argIn r l
def argCount (l : List UInt8) : Int := argIn argWords l
def keyWords : List (List UInt8) := [[108, 101, 116], [105, 110], [105, 102], [116, 104, 101, 110], [101, 108, 115, 101], [102, 111, 114], [100, 111]]
def resWords : List (List UInt8) := [[108, 101, 116], [105, 110], [105, 102], [116, 104, 101, 110], [101, 108, 115, 101], [102, 111, 114], [100, 111], [108, 101, 110], [115, 117, 109], [116, 97, 107, 101], [115, 107, 105, 112], [114, 97, 110, 103, 101], [110, 116, 104], [119, 104, 101, 114, 101], [107, 101, 101, 112], [97, 100, 100], [103, 114, 111, 117, 112], [106, 111, 105, 110], [99, 111, 108, 117, 109, 110], [114, 111, 119, 115], [99, 108, 111, 99, 107], [99, 104, 97, 110, 99, 101], [102, 105, 108, 101], [116, 97, 98, 108, 101]]
def resB (l : List UInt8) : Bool := resWords.contains l
theorem argIn_hit {w l : List UInt8} {n : Int} {r : List (List UInt8 × Int)} (h : (l == w) = true) : argIn ((w, n) :: r) l = n := by rw [argIn, h]; rfl
theorem argIn_miss {w l : List UInt8} {n : Int} {r : List (List UInt8 × Int)} (h : (l == w) = false) : argIn ((w, n) :: r) l = argIn r l := by rw [argIn, h]; rfl
theorem contains_hit {w l : List UInt8} {r : List (List UInt8)} (h : (l == w) = true) : (w :: r).contains l = true := by rw [List.contains_cons, h]; rfl
theorem contains_miss {w l : List UInt8} {r : List (List UInt8)} (h : (l == w) = false) : (w :: r).contains l = r.contains l := by rw [List.contains_cons, h]; rfl
set_option maxHeartbeats 8000000 in
theorem argCount_impl (s : ByteArray) (w : World) : Calls Try.prog 66 #[.string s] w (RetQ (.int .i64 (argCount s.toList)) w) := by
  cases e0 : (s.toList == [99, 108, 111, 99, 107]) with
  | true =>
    have hf := Lib.hid (show (0 : Int) = argCount s.toList from (show argIn argWords s.toList = 0 from argIn_hit e0).symm)
    go_enter Try.func66, Try.ntmps66
    go_wp2
    go_ret
    exact ⟨ret_int hf.out, rfl⟩
  | false =>
    cases e1 : (s.toList == [108, 101, 110]) with
    | true =>
      have hf := Lib.hid (show (1 : Int) = argCount s.toList from (show argIn argWords s.toList = 1 from (argIn_miss e0).trans (argIn_hit e1)).symm)
      go_enter Try.func66, Try.ntmps66
      go_wp2
      go_ret
      exact ⟨ret_int hf.out, rfl⟩
    | false =>
      cases e2 : (s.toList == [115, 117, 109]) with
      | true =>
        have hf := Lib.hid (show (1 : Int) = argCount s.toList from (show argIn argWords s.toList = 1 from (argIn_miss e0).trans ((argIn_miss e1).trans (argIn_hit e2))).symm)
        go_enter Try.func66, Try.ntmps66
        go_wp2
        go_ret
        exact ⟨ret_int hf.out, rfl⟩
      | false =>
        cases e3 : (s.toList == [114, 111, 119, 115]) with
        | true =>
          have hf := Lib.hid (show (1 : Int) = argCount s.toList from (show argIn argWords s.toList = 1 from (argIn_miss e0).trans ((argIn_miss e1).trans ((argIn_miss e2).trans (argIn_hit e3)))).symm)
          go_enter Try.func66, Try.ntmps66
          go_wp2
          go_ret
          exact ⟨ret_int hf.out, rfl⟩
        | false =>
          cases e4 : (s.toList == [99, 104, 97, 110, 99, 101]) with
          | true =>
            have hf := Lib.hid (show (1 : Int) = argCount s.toList from (show argIn argWords s.toList = 1 from (argIn_miss e0).trans ((argIn_miss e1).trans ((argIn_miss e2).trans ((argIn_miss e3).trans (argIn_hit e4))))).symm)
            go_enter Try.func66, Try.ntmps66
            go_wp2
            go_ret
            exact ⟨ret_int hf.out, rfl⟩
          | false =>
            cases e5 : (s.toList == [102, 105, 108, 101]) with
            | true =>
              have hf := Lib.hid (show (1 : Int) = argCount s.toList from (show argIn argWords s.toList = 1 from (argIn_miss e0).trans ((argIn_miss e1).trans ((argIn_miss e2).trans ((argIn_miss e3).trans ((argIn_miss e4).trans (argIn_hit e5)))))).symm)
              go_enter Try.func66, Try.ntmps66
              go_wp2
              go_ret
              exact ⟨ret_int hf.out, rfl⟩
            | false =>
              cases e6 : (s.toList == [116, 97, 107, 101]) with
              | true =>
                have hf := Lib.hid (show (2 : Int) = argCount s.toList from (show argIn argWords s.toList = 2 from (argIn_miss e0).trans ((argIn_miss e1).trans ((argIn_miss e2).trans ((argIn_miss e3).trans ((argIn_miss e4).trans ((argIn_miss e5).trans (argIn_hit e6))))))).symm)
                go_enter Try.func66, Try.ntmps66
                go_wp2
                go_ret
                exact ⟨ret_int hf.out, rfl⟩
              | false =>
                cases e7 : (s.toList == [115, 107, 105, 112]) with
                | true =>
                  have hf := Lib.hid (show (2 : Int) = argCount s.toList from (show argIn argWords s.toList = 2 from (argIn_miss e0).trans ((argIn_miss e1).trans ((argIn_miss e2).trans ((argIn_miss e3).trans ((argIn_miss e4).trans ((argIn_miss e5).trans ((argIn_miss e6).trans (argIn_hit e7)))))))).symm)
                  go_enter Try.func66, Try.ntmps66
                  go_wp2
                  go_ret
                  exact ⟨ret_int hf.out, rfl⟩
                | false =>
                  cases e8 : (s.toList == [114, 97, 110, 103, 101]) with
                  | true =>
                    have hf := Lib.hid (show (2 : Int) = argCount s.toList from (show argIn argWords s.toList = 2 from (argIn_miss e0).trans ((argIn_miss e1).trans ((argIn_miss e2).trans ((argIn_miss e3).trans ((argIn_miss e4).trans ((argIn_miss e5).trans ((argIn_miss e6).trans ((argIn_miss e7).trans (argIn_hit e8))))))))).symm)
                    go_enter Try.func66, Try.ntmps66
                    go_wp2
                    go_ret
                    exact ⟨ret_int hf.out, rfl⟩
                  | false =>
                    cases e9 : (s.toList == [110, 116, 104]) with
                    | true =>
                      have hf := Lib.hid (show (2 : Int) = argCount s.toList from (show argIn argWords s.toList = 2 from (argIn_miss e0).trans ((argIn_miss e1).trans ((argIn_miss e2).trans ((argIn_miss e3).trans ((argIn_miss e4).trans ((argIn_miss e5).trans ((argIn_miss e6).trans ((argIn_miss e7).trans ((argIn_miss e8).trans (argIn_hit e9)))))))))).symm)
                      go_enter Try.func66, Try.ntmps66
                      go_wp2
                      go_ret
                      exact ⟨ret_int hf.out, rfl⟩
                    | false =>
                      cases e10 : (s.toList == [107, 101, 101, 112]) with
                      | true =>
                        have hf := Lib.hid (show (2 : Int) = argCount s.toList from (show argIn argWords s.toList = 2 from (argIn_miss e0).trans ((argIn_miss e1).trans ((argIn_miss e2).trans ((argIn_miss e3).trans ((argIn_miss e4).trans ((argIn_miss e5).trans ((argIn_miss e6).trans ((argIn_miss e7).trans ((argIn_miss e8).trans ((argIn_miss e9).trans (argIn_hit e10))))))))))).symm)
                        go_enter Try.func66, Try.ntmps66
                        go_wp2
                        go_ret
                        exact ⟨ret_int hf.out, rfl⟩
                      | false =>
                        cases e11 : (s.toList == [99, 111, 108, 117, 109, 110]) with
                        | true =>
                          have hf := Lib.hid (show (2 : Int) = argCount s.toList from (show argIn argWords s.toList = 2 from (argIn_miss e0).trans ((argIn_miss e1).trans ((argIn_miss e2).trans ((argIn_miss e3).trans ((argIn_miss e4).trans ((argIn_miss e5).trans ((argIn_miss e6).trans ((argIn_miss e7).trans ((argIn_miss e8).trans ((argIn_miss e9).trans ((argIn_miss e10).trans (argIn_hit e11)))))))))))).symm)
                          go_enter Try.func66, Try.ntmps66
                          go_wp2
                          go_ret
                          exact ⟨ret_int hf.out, rfl⟩
                        | false =>
                          cases e12 : (s.toList == [116, 97, 98, 108, 101]) with
                          | true =>
                            have hf := Lib.hid (show (2 : Int) = argCount s.toList from (show argIn argWords s.toList = 2 from (argIn_miss e0).trans ((argIn_miss e1).trans ((argIn_miss e2).trans ((argIn_miss e3).trans ((argIn_miss e4).trans ((argIn_miss e5).trans ((argIn_miss e6).trans ((argIn_miss e7).trans ((argIn_miss e8).trans ((argIn_miss e9).trans ((argIn_miss e10).trans ((argIn_miss e11).trans (argIn_hit e12))))))))))))).symm)
                            go_enter Try.func66, Try.ntmps66
                            go_wp2
                            go_ret
                            exact ⟨ret_int hf.out, rfl⟩
                          | false =>
                            cases e13 : (s.toList == [119, 104, 101, 114, 101]) with
                            | true =>
                              have hf := Lib.hid (show (3 : Int) = argCount s.toList from (show argIn argWords s.toList = 3 from (argIn_miss e0).trans ((argIn_miss e1).trans ((argIn_miss e2).trans ((argIn_miss e3).trans ((argIn_miss e4).trans ((argIn_miss e5).trans ((argIn_miss e6).trans ((argIn_miss e7).trans ((argIn_miss e8).trans ((argIn_miss e9).trans ((argIn_miss e10).trans ((argIn_miss e11).trans ((argIn_miss e12).trans (argIn_hit e13)))))))))))))).symm)
                              go_enter Try.func66, Try.ntmps66
                              go_wp2
                              go_ret
                              exact ⟨ret_int hf.out, rfl⟩
                            | false =>
                              cases e14 : (s.toList == [103, 114, 111, 117, 112]) with
                              | true =>
                                have hf := Lib.hid (show (3 : Int) = argCount s.toList from (show argIn argWords s.toList = 3 from (argIn_miss e0).trans ((argIn_miss e1).trans ((argIn_miss e2).trans ((argIn_miss e3).trans ((argIn_miss e4).trans ((argIn_miss e5).trans ((argIn_miss e6).trans ((argIn_miss e7).trans ((argIn_miss e8).trans ((argIn_miss e9).trans ((argIn_miss e10).trans ((argIn_miss e11).trans ((argIn_miss e12).trans ((argIn_miss e13).trans (argIn_hit e14))))))))))))))).symm)
                                go_enter Try.func66, Try.ntmps66
                                go_wp2
                                go_ret
                                exact ⟨ret_int hf.out, rfl⟩
                              | false =>
                                cases e15 : (s.toList == [106, 111, 105, 110]) with
                                | true =>
                                  have hf := Lib.hid (show (3 : Int) = argCount s.toList from (show argIn argWords s.toList = 3 from (argIn_miss e0).trans ((argIn_miss e1).trans ((argIn_miss e2).trans ((argIn_miss e3).trans ((argIn_miss e4).trans ((argIn_miss e5).trans ((argIn_miss e6).trans ((argIn_miss e7).trans ((argIn_miss e8).trans ((argIn_miss e9).trans ((argIn_miss e10).trans ((argIn_miss e11).trans ((argIn_miss e12).trans ((argIn_miss e13).trans ((argIn_miss e14).trans (argIn_hit e15)))))))))))))))).symm)
                                  go_enter Try.func66, Try.ntmps66
                                  go_wp2
                                  go_ret
                                  exact ⟨ret_int hf.out, rfl⟩
                                | false =>
                                  cases e16 : (s.toList == [97, 100, 100]) with
                                  | true =>
                                    have hf := Lib.hid (show (4 : Int) = argCount s.toList from (show argIn argWords s.toList = 4 from (argIn_miss e0).trans ((argIn_miss e1).trans ((argIn_miss e2).trans ((argIn_miss e3).trans ((argIn_miss e4).trans ((argIn_miss e5).trans ((argIn_miss e6).trans ((argIn_miss e7).trans ((argIn_miss e8).trans ((argIn_miss e9).trans ((argIn_miss e10).trans ((argIn_miss e11).trans ((argIn_miss e12).trans ((argIn_miss e13).trans ((argIn_miss e14).trans ((argIn_miss e15).trans (argIn_hit e16))))))))))))))))).symm)
                                    go_enter Try.func66, Try.ntmps66
                                    go_wp2
                                    go_ret
                                    exact ⟨ret_int hf.out, rfl⟩
                                  | false =>
                                    have hf := Lib.hid (show (-1 : Int) = argCount s.toList from (show argIn argWords s.toList = -1 from (argIn_miss e0).trans ((argIn_miss e1).trans ((argIn_miss e2).trans ((argIn_miss e3).trans ((argIn_miss e4).trans ((argIn_miss e5).trans ((argIn_miss e6).trans ((argIn_miss e7).trans ((argIn_miss e8).trans ((argIn_miss e9).trans ((argIn_miss e10).trans ((argIn_miss e11).trans ((argIn_miss e12).trans ((argIn_miss e13).trans ((argIn_miss e14).trans ((argIn_miss e15).trans ((argIn_miss e16).trans (rfl)))))))))))))))))).symm)
                                    go_enter Try.func66, Try.ntmps66
                                    go_wp2
                                    go_ret
                                    exact ⟨ret_int hf.out, rfl⟩
set_option maxHeartbeats 8000000 in
theorem argCount_spec (s : ByteArray) (w : World) : Calls Try.prog 95 #[.string s] w (RetQ (.int .i64 (argCount s.toList)) w) := by
  cases e0 : (s.toList == [99, 108, 111, 99, 107]) with
  | true =>
    have hf := Lib.hid (show (0 : Int) = argCount s.toList from (show argIn argWords s.toList = 0 from argIn_hit e0).symm)
    go_enter Try.func95, Try.ntmps95
    go_wp2
    go_ret
    exact ⟨ret_int hf.out, rfl⟩
  | false =>
    cases e1 : (s.toList == [108, 101, 110]) with
    | true =>
      have hf := Lib.hid (show (1 : Int) = argCount s.toList from (show argIn argWords s.toList = 1 from (argIn_miss e0).trans (argIn_hit e1)).symm)
      go_enter Try.func95, Try.ntmps95
      go_wp2
      go_ret
      exact ⟨ret_int hf.out, rfl⟩
    | false =>
      cases e2 : (s.toList == [115, 117, 109]) with
      | true =>
        have hf := Lib.hid (show (1 : Int) = argCount s.toList from (show argIn argWords s.toList = 1 from (argIn_miss e0).trans ((argIn_miss e1).trans (argIn_hit e2))).symm)
        go_enter Try.func95, Try.ntmps95
        go_wp2
        go_ret
        exact ⟨ret_int hf.out, rfl⟩
      | false =>
        cases e3 : (s.toList == [114, 111, 119, 115]) with
        | true =>
          have hf := Lib.hid (show (1 : Int) = argCount s.toList from (show argIn argWords s.toList = 1 from (argIn_miss e0).trans ((argIn_miss e1).trans ((argIn_miss e2).trans (argIn_hit e3)))).symm)
          go_enter Try.func95, Try.ntmps95
          go_wp2
          go_ret
          exact ⟨ret_int hf.out, rfl⟩
        | false =>
          cases e4 : (s.toList == [99, 104, 97, 110, 99, 101]) with
          | true =>
            have hf := Lib.hid (show (1 : Int) = argCount s.toList from (show argIn argWords s.toList = 1 from (argIn_miss e0).trans ((argIn_miss e1).trans ((argIn_miss e2).trans ((argIn_miss e3).trans (argIn_hit e4))))).symm)
            go_enter Try.func95, Try.ntmps95
            go_wp2
            go_ret
            exact ⟨ret_int hf.out, rfl⟩
          | false =>
            cases e5 : (s.toList == [102, 105, 108, 101]) with
            | true =>
              have hf := Lib.hid (show (1 : Int) = argCount s.toList from (show argIn argWords s.toList = 1 from (argIn_miss e0).trans ((argIn_miss e1).trans ((argIn_miss e2).trans ((argIn_miss e3).trans ((argIn_miss e4).trans (argIn_hit e5)))))).symm)
              go_enter Try.func95, Try.ntmps95
              go_wp2
              go_ret
              exact ⟨ret_int hf.out, rfl⟩
            | false =>
              cases e6 : (s.toList == [116, 97, 107, 101]) with
              | true =>
                have hf := Lib.hid (show (2 : Int) = argCount s.toList from (show argIn argWords s.toList = 2 from (argIn_miss e0).trans ((argIn_miss e1).trans ((argIn_miss e2).trans ((argIn_miss e3).trans ((argIn_miss e4).trans ((argIn_miss e5).trans (argIn_hit e6))))))).symm)
                go_enter Try.func95, Try.ntmps95
                go_wp2
                go_ret
                exact ⟨ret_int hf.out, rfl⟩
              | false =>
                cases e7 : (s.toList == [115, 107, 105, 112]) with
                | true =>
                  have hf := Lib.hid (show (2 : Int) = argCount s.toList from (show argIn argWords s.toList = 2 from (argIn_miss e0).trans ((argIn_miss e1).trans ((argIn_miss e2).trans ((argIn_miss e3).trans ((argIn_miss e4).trans ((argIn_miss e5).trans ((argIn_miss e6).trans (argIn_hit e7)))))))).symm)
                  go_enter Try.func95, Try.ntmps95
                  go_wp2
                  go_ret
                  exact ⟨ret_int hf.out, rfl⟩
                | false =>
                  cases e8 : (s.toList == [114, 97, 110, 103, 101]) with
                  | true =>
                    have hf := Lib.hid (show (2 : Int) = argCount s.toList from (show argIn argWords s.toList = 2 from (argIn_miss e0).trans ((argIn_miss e1).trans ((argIn_miss e2).trans ((argIn_miss e3).trans ((argIn_miss e4).trans ((argIn_miss e5).trans ((argIn_miss e6).trans ((argIn_miss e7).trans (argIn_hit e8))))))))).symm)
                    go_enter Try.func95, Try.ntmps95
                    go_wp2
                    go_ret
                    exact ⟨ret_int hf.out, rfl⟩
                  | false =>
                    cases e9 : (s.toList == [110, 116, 104]) with
                    | true =>
                      have hf := Lib.hid (show (2 : Int) = argCount s.toList from (show argIn argWords s.toList = 2 from (argIn_miss e0).trans ((argIn_miss e1).trans ((argIn_miss e2).trans ((argIn_miss e3).trans ((argIn_miss e4).trans ((argIn_miss e5).trans ((argIn_miss e6).trans ((argIn_miss e7).trans ((argIn_miss e8).trans (argIn_hit e9)))))))))).symm)
                      go_enter Try.func95, Try.ntmps95
                      go_wp2
                      go_ret
                      exact ⟨ret_int hf.out, rfl⟩
                    | false =>
                      cases e10 : (s.toList == [107, 101, 101, 112]) with
                      | true =>
                        have hf := Lib.hid (show (2 : Int) = argCount s.toList from (show argIn argWords s.toList = 2 from (argIn_miss e0).trans ((argIn_miss e1).trans ((argIn_miss e2).trans ((argIn_miss e3).trans ((argIn_miss e4).trans ((argIn_miss e5).trans ((argIn_miss e6).trans ((argIn_miss e7).trans ((argIn_miss e8).trans ((argIn_miss e9).trans (argIn_hit e10))))))))))).symm)
                        go_enter Try.func95, Try.ntmps95
                        go_wp2
                        go_ret
                        exact ⟨ret_int hf.out, rfl⟩
                      | false =>
                        cases e11 : (s.toList == [99, 111, 108, 117, 109, 110]) with
                        | true =>
                          have hf := Lib.hid (show (2 : Int) = argCount s.toList from (show argIn argWords s.toList = 2 from (argIn_miss e0).trans ((argIn_miss e1).trans ((argIn_miss e2).trans ((argIn_miss e3).trans ((argIn_miss e4).trans ((argIn_miss e5).trans ((argIn_miss e6).trans ((argIn_miss e7).trans ((argIn_miss e8).trans ((argIn_miss e9).trans ((argIn_miss e10).trans (argIn_hit e11)))))))))))).symm)
                          go_enter Try.func95, Try.ntmps95
                          go_wp2
                          go_ret
                          exact ⟨ret_int hf.out, rfl⟩
                        | false =>
                          cases e12 : (s.toList == [116, 97, 98, 108, 101]) with
                          | true =>
                            have hf := Lib.hid (show (2 : Int) = argCount s.toList from (show argIn argWords s.toList = 2 from (argIn_miss e0).trans ((argIn_miss e1).trans ((argIn_miss e2).trans ((argIn_miss e3).trans ((argIn_miss e4).trans ((argIn_miss e5).trans ((argIn_miss e6).trans ((argIn_miss e7).trans ((argIn_miss e8).trans ((argIn_miss e9).trans ((argIn_miss e10).trans ((argIn_miss e11).trans (argIn_hit e12))))))))))))).symm)
                            go_enter Try.func95, Try.ntmps95
                            go_wp2
                            go_ret
                            exact ⟨ret_int hf.out, rfl⟩
                          | false =>
                            cases e13 : (s.toList == [119, 104, 101, 114, 101]) with
                            | true =>
                              have hf := Lib.hid (show (3 : Int) = argCount s.toList from (show argIn argWords s.toList = 3 from (argIn_miss e0).trans ((argIn_miss e1).trans ((argIn_miss e2).trans ((argIn_miss e3).trans ((argIn_miss e4).trans ((argIn_miss e5).trans ((argIn_miss e6).trans ((argIn_miss e7).trans ((argIn_miss e8).trans ((argIn_miss e9).trans ((argIn_miss e10).trans ((argIn_miss e11).trans ((argIn_miss e12).trans (argIn_hit e13)))))))))))))).symm)
                              go_enter Try.func95, Try.ntmps95
                              go_wp2
                              go_ret
                              exact ⟨ret_int hf.out, rfl⟩
                            | false =>
                              cases e14 : (s.toList == [103, 114, 111, 117, 112]) with
                              | true =>
                                have hf := Lib.hid (show (3 : Int) = argCount s.toList from (show argIn argWords s.toList = 3 from (argIn_miss e0).trans ((argIn_miss e1).trans ((argIn_miss e2).trans ((argIn_miss e3).trans ((argIn_miss e4).trans ((argIn_miss e5).trans ((argIn_miss e6).trans ((argIn_miss e7).trans ((argIn_miss e8).trans ((argIn_miss e9).trans ((argIn_miss e10).trans ((argIn_miss e11).trans ((argIn_miss e12).trans ((argIn_miss e13).trans (argIn_hit e14))))))))))))))).symm)
                                go_enter Try.func95, Try.ntmps95
                                go_wp2
                                go_ret
                                exact ⟨ret_int hf.out, rfl⟩
                              | false =>
                                cases e15 : (s.toList == [106, 111, 105, 110]) with
                                | true =>
                                  have hf := Lib.hid (show (3 : Int) = argCount s.toList from (show argIn argWords s.toList = 3 from (argIn_miss e0).trans ((argIn_miss e1).trans ((argIn_miss e2).trans ((argIn_miss e3).trans ((argIn_miss e4).trans ((argIn_miss e5).trans ((argIn_miss e6).trans ((argIn_miss e7).trans ((argIn_miss e8).trans ((argIn_miss e9).trans ((argIn_miss e10).trans ((argIn_miss e11).trans ((argIn_miss e12).trans ((argIn_miss e13).trans ((argIn_miss e14).trans (argIn_hit e15)))))))))))))))).symm)
                                  go_enter Try.func95, Try.ntmps95
                                  go_wp2
                                  go_ret
                                  exact ⟨ret_int hf.out, rfl⟩
                                | false =>
                                  cases e16 : (s.toList == [97, 100, 100]) with
                                  | true =>
                                    have hf := Lib.hid (show (4 : Int) = argCount s.toList from (show argIn argWords s.toList = 4 from (argIn_miss e0).trans ((argIn_miss e1).trans ((argIn_miss e2).trans ((argIn_miss e3).trans ((argIn_miss e4).trans ((argIn_miss e5).trans ((argIn_miss e6).trans ((argIn_miss e7).trans ((argIn_miss e8).trans ((argIn_miss e9).trans ((argIn_miss e10).trans ((argIn_miss e11).trans ((argIn_miss e12).trans ((argIn_miss e13).trans ((argIn_miss e14).trans ((argIn_miss e15).trans (argIn_hit e16))))))))))))))))).symm)
                                    go_enter Try.func95, Try.ntmps95
                                    go_wp2
                                    go_ret
                                    exact ⟨ret_int hf.out, rfl⟩
                                  | false =>
                                    have hf := Lib.hid (show (-1 : Int) = argCount s.toList from (show argIn argWords s.toList = -1 from (argIn_miss e0).trans ((argIn_miss e1).trans ((argIn_miss e2).trans ((argIn_miss e3).trans ((argIn_miss e4).trans ((argIn_miss e5).trans ((argIn_miss e6).trans ((argIn_miss e7).trans ((argIn_miss e8).trans ((argIn_miss e9).trans ((argIn_miss e10).trans ((argIn_miss e11).trans ((argIn_miss e12).trans ((argIn_miss e13).trans ((argIn_miss e14).trans ((argIn_miss e15).trans ((argIn_miss e16).trans (rfl)))))))))))))))))).symm)
                                    go_enter Try.func95, Try.ntmps95
                                    go_wp2
                                    go_ret
                                    exact ⟨ret_int hf.out, rfl⟩
theorem res_words (l : List UInt8) : resB l = (keyWords.contains l || decide (0 ≤ argCount l)) := by
  by_cases h : l ∈ resWords
  · have h1 : resB l = true := by unfold resB; exact List.contains_iff_mem.2 h
    rw [h1]
    simp only [resWords, List.mem_cons, List.not_mem_nil, or_false] at h
    rcases h with rfl | rfl | rfl | rfl | rfl | rfl | rfl | rfl | rfl | rfl | rfl | rfl | rfl | rfl | rfl | rfl | rfl | rfl | rfl | rfl | rfl | rfl | rfl | rfl <;> decide
  · have h1 : resB l = false := by
      unfold resB
      rw [← Bool.not_eq_true, List.contains_iff_mem]
      exact h
    rw [h1]
    simp only [resWords, List.mem_cons, List.not_mem_nil, or_false, not_or] at h
    obtain ⟨h0, h1, h2, h3, h4, h5, h6, h7, h8, h9, h10, h11, h12, h13, h14, h15, h16, h17, h18, h19, h20, h21, h22, h23⟩ := h
    simp [keyWords, argCount, argWords, argIn, *]
set_option maxHeartbeats 8000000 in
theorem isReserved_impl (s : ByteArray) (w : World) : Calls Try.prog 56 #[.string s] w (RetQ (.bool (resB s.toList)) w) := by
  cases e0 : (s.toList == [108, 101, 116]) with
  | true =>
    have hf := Lib.hid (show true = resB s.toList by rw [res_words, show keyWords.contains s.toList = true from contains_hit e0]; rfl)
    go_enter Try.func56, Try.ntmps56
    go_wp2
    go_ret
    exact ⟨ret_bool hf.out, rfl⟩
  | false =>
    cases e1 : (s.toList == [105, 110]) with
    | true =>
      have hf := Lib.hid (show true = resB s.toList by rw [res_words, show keyWords.contains s.toList = true from (contains_miss e0).trans (contains_hit e1)]; rfl)
      go_enter Try.func56, Try.ntmps56
      go_wp2
      go_ret
      exact ⟨ret_bool hf.out, rfl⟩
    | false =>
      cases e2 : (s.toList == [105, 102]) with
      | true =>
        have hf := Lib.hid (show true = resB s.toList by rw [res_words, show keyWords.contains s.toList = true from (contains_miss e0).trans ((contains_miss e1).trans (contains_hit e2))]; rfl)
        go_enter Try.func56, Try.ntmps56
        go_wp2
        go_ret
        exact ⟨ret_bool hf.out, rfl⟩
      | false =>
        cases e3 : (s.toList == [116, 104, 101, 110]) with
        | true =>
          have hf := Lib.hid (show true = resB s.toList by rw [res_words, show keyWords.contains s.toList = true from (contains_miss e0).trans ((contains_miss e1).trans ((contains_miss e2).trans (contains_hit e3)))]; rfl)
          go_enter Try.func56, Try.ntmps56
          go_wp2
          go_ret
          exact ⟨ret_bool hf.out, rfl⟩
        | false =>
          cases e4 : (s.toList == [101, 108, 115, 101]) with
          | true =>
            have hf := Lib.hid (show true = resB s.toList by rw [res_words, show keyWords.contains s.toList = true from (contains_miss e0).trans ((contains_miss e1).trans ((contains_miss e2).trans ((contains_miss e3).trans (contains_hit e4))))]; rfl)
            go_enter Try.func56, Try.ntmps56
            go_wp2
            go_ret
            exact ⟨ret_bool hf.out, rfl⟩
          | false =>
            cases e5 : (s.toList == [102, 111, 114]) with
            | true =>
              have hf := Lib.hid (show true = resB s.toList by rw [res_words, show keyWords.contains s.toList = true from (contains_miss e0).trans ((contains_miss e1).trans ((contains_miss e2).trans ((contains_miss e3).trans ((contains_miss e4).trans (contains_hit e5)))))]; rfl)
              go_enter Try.func56, Try.ntmps56
              go_wp2
              go_ret
              exact ⟨ret_bool hf.out, rfl⟩
            | false =>
              cases e6 : (s.toList == [100, 111]) with
              | true =>
                have hf := Lib.hid (show true = resB s.toList by rw [res_words, show keyWords.contains s.toList = true from (contains_miss e0).trans ((contains_miss e1).trans ((contains_miss e2).trans ((contains_miss e3).trans ((contains_miss e4).trans ((contains_miss e5).trans (contains_hit e6))))))]; rfl)
                go_enter Try.func56, Try.ntmps56
                go_wp2
                go_ret
                exact ⟨ret_bool hf.out, rfl⟩
              | false =>
                have hf := Lib.hid (show decide (0 ≤ argCount s.toList) = resB s.toList by rw [res_words, show keyWords.contains s.toList = false from (contains_miss e0).trans ((contains_miss e1).trans ((contains_miss e2).trans ((contains_miss e3).trans ((contains_miss e4).trans ((contains_miss e5).trans ((contains_miss e6).trans (rfl)))))))]; rfl)
                have hP := fun wx => argCount_impl s wx
                generalize argCount s.toList = ac at hP hf
                go_enter Try.func56, Try.ntmps56
                go_wp2_with (go_at_call 66; refine (hP _).mono ?_; rintro e w1 ⟨rfl, rfl⟩)
                go_ret
                exact ⟨ret_bool hf.out, rfl⟩

theorem isValidName_impl (s : ByteArray) (hs : s.size ≤ 9223372036854775807) (w : World) : Calls Try.prog 34 #[.string s] w (RetQ (.bool (wordB s && !resB s.toList)) w) := by
  have hP := fun wx => isWord_impl s hs wx
  have hQ := fun wx => isReserved_impl s wx
  cases h1 : wordB s with
  | true =>
    rw [h1] at hP
    cases h2 : resB s.toList with
    | true =>
      rw [h2] at hQ
      clear h1 h2
      go_enter Try.func34, Try.ntmps34
      go_wp2_with (first | (go_at_call 55; refine (hP _).mono ?_; rintro e w1 ⟨rfl, rfl⟩) | (go_at_call 56; refine (hQ _).mono ?_; rintro e w1 ⟨rfl, rfl⟩))
      go_ret
      exact ⟨rfl, rfl⟩
    | false =>
      rw [h2] at hQ
      clear h1 h2
      go_enter Try.func34, Try.ntmps34
      go_wp2_with (first | (go_at_call 55; refine (hP _).mono ?_; rintro e w1 ⟨rfl, rfl⟩) | (go_at_call 56; refine (hQ _).mono ?_; rintro e w1 ⟨rfl, rfl⟩))
      go_ret
      exact ⟨rfl, rfl⟩
  | false =>
    rw [h1] at hP
    clear h1 hQ
    go_enter Try.func34, Try.ntmps34
    go_wp2_with (go_at_call 55; refine (hP _).mono ?_; rintro e w1 ⟨rfl, rfl⟩)
    go_ret
    exact ⟨rfl, rfl⟩

end Go.Proofs.Ytnongnchpplacaa

namespace Go.Proofs.Ytnongnchpplacaa
open Go.RowKit
set_option linter.unusedSimpArgs false
set_option linter.unusedVariables false

def hasB (l : List ByteArray) (s : ByteArray) : Bool := l.any fun x => x.toList == s.toList
theorem l1Has_resSpec (l : List ByteArray) (s : ByteArray) (fp : List Nat) (v : Value) (w : World) (hS : Sl w (l.map ls) fp v) : Calls Try.prog 73 #[v, .string s] w (RetQ (.bool (hasB l s)) w) := by
  obtain ⟨A, c, rfl, hl, hc⟩ := hS.formT
  have hm : l.length ≤ 9223372036854775807 := by unfold maxLen at hc; omega
  clear hl hc
  go_enter Try.func73, Try.ntmps73
  go_wp2_with fail
  go_loop [5] (fun iv => ∃ k : Nat, k ≤ l.length ∧ iv = .int .i64 k ∧ hasB (l.take k) s = false) (fun iv => l.length - (intOf iv).toNat)
  case atStart => exact ⟨0, by omega, rfl, rfl⟩
  case round =>
    obtain ⟨k, hk, rfl, hno⟩ := hrel
    have hno' := Lib.hid hno
    clear hno
    by_cases hlt : k < l.length
    · have hd : (l.map ls)[k]? = some (ls l[k]) := by rw [List.getElem?_map, List.getElem?_eq_getElem hlt]; rfl
      obtain ⟨b, o, fi, ci, rfl, hbb, hbf, hri, hfi, hat⟩ := hS.elem ls_szs hd
      obtain ⟨rfl, rfl⟩ := hri
      have q0 : w.cell? ⟨b, o + k, none⟩ = some (.string l[k]) := by simpa using hat.head
      clear hat hd
      cases he : ((l[k]).toList == s.toList) with
      | true =>
        have hf := Lib.hid (show true = hasB l s by
          unfold hasB
          rw [eq_comm, List.any_eq_true]
          exact ⟨l[k], List.getElem_mem hlt, he⟩)
        go_wp2_with fail
        go_ret
        exact ⟨ret_bool hf.out, rfl⟩
      | false =>
        have hf := Lib.hid (show hasB (l.take (k + 1)) s = false by
          have h := hno'.out
          unfold hasB at h ⊢
          rw [List.take_succ_eq_append_getElem hlt, List.any_append, h]
          simp [he])
        go_wp2_with fail
        go_round
        case rel => exact ⟨k + 1, by omega, by go_num, hf.out⟩
        case measure => (simp [intOf] <;> omega)
    · have hf := Lib.hid (show false = hasB l s by
        have h := hno'.out
        rw [List.take_of_length_le (by omega)] at h
        exact h.symm)
      go_wp2_with fail
      go_ret
      exact ⟨ret_bool hf.out, rfl⟩

def resNames : List ByteArray := resWords.map fun l => ⟨l.toArray⟩
theorem hasB_res (s : ByteArray) : hasB resNames s = resB s.toList := by
  unfold hasB resB resNames
  rw [List.any_map]
  induction resWords with
  | nil => rfl
  | cons x l ih =>
    rw [List.any_cons, List.contains_cons, ih]
    congr 1
    simp only [Function.comp, ByteArray.toList_mk]
    rw [Bool.eq_iff_iff, beq_iff_eq, beq_iff_eq]
    exact eq_comm
def SlPost (l : List D) (w : World) (e : Ending) (w' : World) : Prop := ∃ fp v, e = .returned v ∧ Sl w' l fp v ∧ Below w.heap.size w w'
theorem Rs_strs {w : World} : ∀ (l : List ByteArray), Rs w (l.map ls) [] (l.map Value.string)
  | [] => ⟨rfl, rfl⟩
  | x :: l => ⟨[], [], [.string x], l.map Value.string, rfl, rfl, ⟨rfl, rfl⟩, Rs_strs l⟩
set_option maxRecDepth 20000 in
theorem l2Reserved_spec (w : World) : Calls Try.prog 74 #[] w (SlPost (resNames.map ls) w) := by
  go_enter Try.func74, Try.ntmps74
  go_wp2
  go_ret
  refine ⟨_, _, rfl, Sl.of_row (Row.new _ _ _) (Rs_strs resNames) (by rfl) (by simp [maxLen]), (Below.refl _ _).alloc (Nat.le_refl _) _⟩
set_option maxRecDepth 20000 in
theorem isReserved_spec (s : ByteArray) (w : World) : Calls Try.prog 65 #[.string s] w (RetB (.bool (resB s.toList)) w) := by
  have hP := fun wx (fp : List Nat) (v : Value) (hS : Sl wx (resNames.map ls) fp v) => l1Has_resSpec resNames s fp v wx hS
  rw [hasB_res] at hP
  generalize resB s.toList = b at hP
  go_enter Try.func65, Try.ntmps65
  go_wp2_with fail
  refine (l2Reserved_spec _).mono ?_
  rintro e w1 ⟨fp, v, rfl, hS, hb⟩
  obtain ⟨A, c, rfl, _, _⟩ := hS.formT
  go_wp2_with fail
  refine (hP _ _ _ hS).mono ?_
  rintro e w2 ⟨rfl, rfl⟩
  go_wp2_with fail
  go_ret
  exact ⟨rfl, hb⟩

set_option maxRecDepth 20000 in
theorem isValidName_spec (s : ByteArray) (hs : s.size ≤ 9223372036854775807) (w : World) : Calls Try.prog 54 #[.string s] w (RetB (.bool (wordB s && !resB s.toList)) w) := by
  have hP := fun wx => l2Shape_spec s hs wx
  have hQ := fun wx => isReserved_spec s wx
  unfold wordB
  cases h1 : shapeB s with
  | true =>
    rw [h1] at hP
    rcases ilt 8 (s.size : Int) with h3 | h3
    · have d1 : decide ((s.size : Int) ≤ 8) = false := by simp; omega
      rw [d1]
      clear h1 hQ h3
      go_enter Try.func54, Try.ntmps54
      go_wp2_with (first | (go_at_call 64; refine (hP _).mono ?_; rintro e w1 ⟨rfl, rfl⟩) | (go_at_call 65; refine (hQ _).mono ?_; rintro e w1 ⟨rfl, hb⟩))
      go_ret
      exact ⟨rfl, Below.refl _ _⟩
    · have d1 : decide ((s.size : Int) ≤ 8) = true := by simp; omega
      rw [d1]
      clear d1
      cases h2 : resB s.toList with
      | true =>
        rw [h2] at hQ
        clear h1 h2
        go_enter Try.func54, Try.ntmps54
        go_wp2_with (first | (go_at_call 64; refine (hP _).mono ?_; rintro e w1 ⟨rfl, rfl⟩) | (go_at_call 65; refine (hQ _).mono ?_; rintro e w1 ⟨rfl, hb⟩))
        go_ret
        exact ⟨rfl, hb⟩
      | false =>
        rw [h2] at hQ
        clear h1 h2
        go_enter Try.func54, Try.ntmps54
        go_wp2_with (first | (go_at_call 64; refine (hP _).mono ?_; rintro e w1 ⟨rfl, rfl⟩) | (go_at_call 65; refine (hQ _).mono ?_; rintro e w1 ⟨rfl, hb⟩))
        go_ret
        exact ⟨rfl, hb⟩
  | false =>
    rw [h1] at hP
    clear h1 hQ
    go_enter Try.func54, Try.ntmps54
    go_wp2_with (first | (go_at_call 64; refine (hP _).mono ?_; rintro e w1 ⟨rfl, rfl⟩) | (go_at_call 65; refine (hQ _).mono ?_; rintro e w1 ⟨rfl, hb⟩))
    go_ret
    exact ⟨rfl, Below.refl _ _⟩
end Go.Proofs.Ytnongnchpplacaa

namespace Go.Proofs.Ytnongnchpplacaa
open Go.RowKit
set_option linter.unusedSimpArgs false
set_option linter.unusedVariables false

def kindOk (x : GCell) (d f : Bool) : Bool :=
  if x.kind == 1 then x.name.toList.isEmpty && x.n == 0
  else if x.kind == 2 then d && x.n == 0
  else if x.kind == 4 then d && x.n == 0
  else if x.kind == 3 then d && x.code.toList.isEmpty && f
  else false
def validCell (x : GCell) : Bool := inR x.id 1 999 && inR x.ver 1 999 && printable x.code && kindOk x (wordB x.name && !resB x.name.toList) (inR x.n 0 100)
theorem kind_cases (x : GCell) {d f : Bool} : ((x.kind == 1) = true ∧ x.name.toList.isEmpty = true ∧ kindOk x d f = (x.n == 0)) ∨ ((x.kind == 1) = true ∧ x.name.toList.isEmpty = false ∧ kindOk x d f = false) ∨ ((x.kind == 1) = false ∧ (x.kind == 2) = true ∧ kindOk x d f = (d && x.n == 0)) ∨
    ((x.kind == 1) = false ∧ (x.kind == 2) = false ∧ (x.kind == 4) = true ∧ kindOk x d f = (d && x.n == 0)) ∨ ((x.kind == 1) = false ∧ (x.kind == 2) = false ∧ (x.kind == 4) = false ∧ (x.kind == 3) = true ∧ kindOk x d f = (d && x.code.toList.isEmpty && f)) ∨
    ((x.kind == 1) = false ∧ (x.kind == 2) = false ∧ (x.kind == 4) = false ∧ (x.kind == 3) = false ∧ kindOk x d f = false) := by
  unfold kindOk
  cases x.kind == 1 <;> cases x.kind == 2 <;> cases x.kind == 4 <;> cases x.kind == 3 <;> cases x.name.toList.isEmpty <;> simp

set_option maxRecDepth 20000 in
set_option maxHeartbeats 4000000 in
theorem isValidCell_impl (x : GCell) (hw : x.toD.wf) (w : World) : Calls Try.prog 12 #[.agg #[.int .i64 x.id, .int .i64 x.ver, .int .i64 x.kind, .string x.name, .string x.code, .int .i64 x.n]] w (RetB (.bool (validCell x)) w) := by
  have hw3 : x.name.size ≤ 9223372036854775807 := hw.2.2.2.1
  have hw4 : x.code.size ≤ 9223372036854775807 := hw.2.2.2.2.1
  clear hw
  have hA := fun wx => within_any x.id 1 999 wx
  have hB := fun wx => within_any x.ver 1 999 wx
  have hC := fun wx => isPrintable_impl x.code hw4 wx
  have hD := fun wx => isValidName_impl x.name hw3 wx
  have hE := fun wx => within_any x.n 0 100 wx
  clear hw3 hw4
  have hv := Lib.hid (show validCell x = (inR x.id 1 999 && inR x.ver 1 999 && printable x.code && kindOk x (wordB x.name && !resB x.name.toList) (inR x.n 0 100)) from rfl)
  generalize inR x.id 1 999 = a at hA hv
  generalize inR x.ver 1 999 = b at hB hv
  generalize printable x.code = c at hC hv
  generalize (wordB x.name && !resB x.name.toList) = d at hD hv
  generalize inR x.n 0 100 = f at hE hv
  rw [hv.out]
  clear hv
  cases a with
  | false =>
    go_enter Try.func12, Try.ntmps12
    go_wp2_with fail
    refine (hA _).mono ?_
    rintro e w1 ⟨rfl, rfl⟩
    go_wp2_with fail
    go_ret
    exact ⟨rfl, (Below.refl _ _).alloc (by simp) _⟩
  | true =>
    cases b with
    | false =>
      go_enter Try.func12, Try.ntmps12
      go_wp2_with fail
      refine (hA _).mono ?_
      rintro e w1 ⟨rfl, rfl⟩
      go_wp2_with fail
      refine (hB _).mono ?_
      rintro e w1 ⟨rfl, rfl⟩
      go_wp2_with fail
      go_ret
      exact ⟨rfl, (Below.refl _ _).alloc (by simp) _⟩
    | true =>
      cases c with
      | false =>
        go_enter Try.func12, Try.ntmps12
        go_wp2_with fail
        refine (hA _).mono ?_
        rintro e w1 ⟨rfl, rfl⟩
        go_wp2_with fail
        refine (hB _).mono ?_
        rintro e w1 ⟨rfl, rfl⟩
        go_wp2_with fail
        refine (hC _).mono ?_
        rintro e w1 ⟨rfl, rfl⟩
        go_wp2_with fail
        go_ret
        exact ⟨rfl, (Below.refl _ _).alloc (by simp) _⟩
      | true =>
        rcases kind_cases x with ⟨h1, hn, hk⟩ | ⟨h1, hn, hk⟩ | ⟨h1, h2, hk⟩ | ⟨h1, h2, h4, hk⟩ | ⟨h1, h2, h4, h3, hk⟩ | ⟨h1, h2, h4, h3, hk⟩
        all_goals rw [show (true && true && true && kindOk x d f) = kindOk x d f from rfl, hk]
        all_goals clear hk
        all_goals
          go_enter Try.func12, Try.ntmps12
          go_wp2_with fail
          refine (hA _).mono ?_
          rintro e w1 ⟨rfl, rfl⟩
          go_wp2_with fail
          refine (hB _).mono ?_
          rintro e w1 ⟨rfl, rfl⟩
          go_wp2_with fail
          refine (hC _).mono ?_
          rintro e w1 ⟨rfl, rfl⟩
          go_wp2_with fail
        · go_ret
          exact ⟨rfl, (Below.refl _ _).alloc (by simp) _⟩
        · go_ret
          exact ⟨rfl, (Below.refl _ _).alloc (by simp) _⟩
        · cases d with
          | true =>
            refine (hD _).mono ?_
            rintro e w1 ⟨rfl, rfl⟩
            go_wp2_with fail
            go_ret
            exact ⟨by simp [*], (Below.refl _ _).alloc (by simp) _⟩
          | false =>
            refine (hD _).mono ?_
            rintro e w1 ⟨rfl, rfl⟩
            go_wp2_with fail
            go_ret
            exact ⟨by simp [*], (Below.refl _ _).alloc (by simp) _⟩
        · cases d with
          | true =>
            refine (hD _).mono ?_
            rintro e w1 ⟨rfl, rfl⟩
            go_wp2_with fail
            go_ret
            exact ⟨by simp [*], (Below.refl _ _).alloc (by simp) _⟩
          | false =>
            refine (hD _).mono ?_
            rintro e w1 ⟨rfl, rfl⟩
            go_wp2_with fail
            go_ret
            exact ⟨by simp [*], (Below.refl _ _).alloc (by simp) _⟩
        · cases d with
          | true =>
            cases hc : x.code.toList.isEmpty with
            | true =>
              refine (hD _).mono ?_
              rintro e w1 ⟨rfl, rfl⟩
              skip
              go_wp2_with fail
              refine (hE _).mono ?_
              rintro e w2 ⟨rfl, rfl⟩
              go_wp2_with fail
              go_ret
              exact ⟨by simp [*], (Below.refl _ _).alloc (by simp) _⟩
            | false =>
              refine (hD _).mono ?_
              rintro e w1 ⟨rfl, rfl⟩
              skip
              go_wp2_with fail
              go_ret
              exact ⟨by simp [*], (Below.refl _ _).alloc (by simp) _⟩
          | false =>
            refine (hD _).mono ?_
            rintro e w1 ⟨rfl, rfl⟩
            go_wp2_with fail
            go_ret
            exact ⟨by simp [*], (Below.refl _ _).alloc (by simp) _⟩
        · go_ret
          exact ⟨by simp [*], (Below.refl _ _).alloc (by simp) _⟩

set_option maxRecDepth 20000 in
set_option maxHeartbeats 4000000 in
theorem isValidCell_spec (x : GCell) (hw : x.toD.wf) (w : World) : Calls Try.prog 32 #[.agg #[.int .i64 x.id, .int .i64 x.ver, .int .i64 x.kind, .string x.name, .string x.code, .int .i64 x.n]] w (RetB (.bool (validCell x)) w) := by
  have hw3 : x.name.size ≤ 9223372036854775807 := hw.2.2.2.1
  have hw4 : x.code.size ≤ 9223372036854775807 := hw.2.2.2.2.1
  clear hw
  have hA := fun wx => l1In_any x.id 1 999 wx
  have hB := fun wx => l1In_any x.ver 1 999 wx
  have hC := fun wx => isPrintable_spec x.code hw4 wx
  have hD := fun wx => isValidName_spec x.name hw3 wx
  have hE := fun wx => l1In_any x.n 0 100 wx
  clear hw3 hw4
  have hv := Lib.hid (show validCell x = (inR x.id 1 999 && inR x.ver 1 999 && printable x.code && kindOk x (wordB x.name && !resB x.name.toList) (inR x.n 0 100)) from rfl)
  generalize inR x.id 1 999 = a at hA hv
  generalize inR x.ver 1 999 = b at hB hv
  generalize printable x.code = c at hC hv
  generalize (wordB x.name && !resB x.name.toList) = d at hD hv
  generalize inR x.n 0 100 = f at hE hv
  rw [hv.out]
  clear hv
  cases a with
  | false =>
    go_enter Try.func32, Try.ntmps32
    go_wp2_with fail
    refine (hA _).mono ?_
    rintro e w1 ⟨rfl, rfl⟩
    go_wp2_with fail
    go_ret
    exact ⟨rfl, (Below.refl _ _).alloc (by simp) _⟩
  | true =>
    cases b with
    | false =>
      go_enter Try.func32, Try.ntmps32
      go_wp2_with fail
      refine (hA _).mono ?_
      rintro e w1 ⟨rfl, rfl⟩
      go_wp2_with fail
      refine (hB _).mono ?_
      rintro e w1 ⟨rfl, rfl⟩
      go_wp2_with fail
      go_ret
      exact ⟨rfl, (Below.refl _ _).alloc (by simp) _⟩
    | true =>
      cases c with
      | false =>
        go_enter Try.func32, Try.ntmps32
        go_wp2_with fail
        refine (hA _).mono ?_
        rintro e w1 ⟨rfl, rfl⟩
        go_wp2_with fail
        refine (hB _).mono ?_
        rintro e w1 ⟨rfl, rfl⟩
        go_wp2_with fail
        refine (hC _).mono ?_
        rintro e w1 ⟨rfl, rfl⟩
        go_wp2_with fail
        go_ret
        exact ⟨rfl, (Below.refl _ _).alloc (by simp) _⟩
      | true =>
        rcases kind_cases x with ⟨h1, hn, hk⟩ | ⟨h1, hn, hk⟩ | ⟨h1, h2, hk⟩ | ⟨h1, h2, h4, hk⟩ | ⟨h1, h2, h4, h3, hk⟩ | ⟨h1, h2, h4, h3, hk⟩
        all_goals rw [show (true && true && true && kindOk x d f) = kindOk x d f from rfl, hk]
        all_goals clear hk
        all_goals
          go_enter Try.func32, Try.ntmps32
          go_wp2_with fail
          refine (hA _).mono ?_
          rintro e w1 ⟨rfl, rfl⟩
          go_wp2_with fail
          refine (hB _).mono ?_
          rintro e w1 ⟨rfl, rfl⟩
          go_wp2_with fail
          refine (hC _).mono ?_
          rintro e w1 ⟨rfl, rfl⟩
          go_wp2_with fail
        · go_ret
          exact ⟨rfl, (Below.refl _ _).alloc (by simp) _⟩
        · go_ret
          exact ⟨rfl, (Below.refl _ _).alloc (by simp) _⟩
        · cases d with
          | true =>
            refine (hD _).mono ?_
            rintro e w1 ⟨rfl, hb1⟩; have kk := (rows1 hb1).1.cell
            go_wp2_with fail
            go_ret
            exact ⟨by simp [*], ((Below.refl _ _).alloc (by simp) _).trans (hb1.mono (by simp))⟩
          | false =>
            refine (hD _).mono ?_
            rintro e w1 ⟨rfl, hb1⟩; have kk := (rows1 hb1).1.cell
            go_wp2_with fail
            go_ret
            exact ⟨by simp [*], ((Below.refl _ _).alloc (by simp) _).trans (hb1.mono (by simp))⟩
        · cases d with
          | true =>
            refine (hD _).mono ?_
            rintro e w1 ⟨rfl, hb1⟩; have kk := (rows1 hb1).1.cell
            go_wp2_with fail
            go_ret
            exact ⟨by simp [*], ((Below.refl _ _).alloc (by simp) _).trans (hb1.mono (by simp))⟩
          | false =>
            refine (hD _).mono ?_
            rintro e w1 ⟨rfl, hb1⟩; have kk := (rows1 hb1).1.cell
            go_wp2_with fail
            go_ret
            exact ⟨by simp [*], ((Below.refl _ _).alloc (by simp) _).trans (hb1.mono (by simp))⟩
        · cases d with
          | true =>
            cases hc : x.code.toList.isEmpty with
            | true =>
              refine (hD _).mono ?_
              rintro e w1 ⟨rfl, hb1⟩; have kk := (rows1 hb1).1.cell
              skip
              go_wp2_with fail
              refine (hE _).mono ?_
              rintro e w2 ⟨rfl, rfl⟩
              go_wp2_with fail
              go_ret
              exact ⟨by simp [*], ((Below.refl _ _).alloc (by simp) _).trans (hb1.mono (by simp))⟩
            | false =>
              refine (hD _).mono ?_
              rintro e w1 ⟨rfl, hb1⟩; have kk := (rows1 hb1).1.cell
              skip
              go_wp2_with fail
              go_ret
              exact ⟨by simp [*], ((Below.refl _ _).alloc (by simp) _).trans (hb1.mono (by simp))⟩
          | false =>
            refine (hD _).mono ?_
            rintro e w1 ⟨rfl, hb1⟩; have kk := (rows1 hb1).1.cell
            go_wp2_with fail
            go_ret
            exact ⟨by simp [*], ((Below.refl _ _).alloc (by simp) _).trans (hb1.mono (by simp))⟩
        · go_ret
          exact ⟨by simp [*], (Below.refl _ _).alloc (by simp) _⟩
end Go.Proofs.Ytnongnchpplacaa

namespace Go.Proofs.Ytnongnchpplacaa
open Go.RowKit
set_option linter.unusedSimpArgs false
set_option linter.unusedVariables false

def idxFrom : List GCell → Int → Nat → Int
  | [], _, _ => -1
  | c :: r, id, k => if c.id == id then (k : Int) else idxFrom r id (k + 1)
def cellIdx (l : List GCell) (id : Int) : Int := idxFrom l id 0
def validFrom (l : List GCell) : List GCell → Nat → Bool
  | [], _ => true
  | c :: r, k => validCell c && (cellIdx l c.id == (k : Int)) && validFrom l r (k + 1)
def validNb (l : List GCell) : Bool := validFrom l l 0 && decide ((l.length : Int) ≤ 8)

set_option maxHeartbeats 1000000 in
theorem cellIndex_impl (l : List GCell) (id : Int) (fp : List Nat) (v : Value) (w : World) (hS : Sl w (l.map GCell.toD) fp v) : Calls Try.prog 11 #[.agg #[v], .int .i64 id] w (RetB (.int .i64 (cellIdx l id)) w) := by
  obtain ⟨A, c, rfl, hl, hc⟩ := hS.formT
  have hm : l.length ≤ 9223372036854775807 := by unfold maxLen at hc; omega
  clear hl hc
  go_enter Try.func11, Try.ntmps11
  go_wp2_with fail
  go_loopw [10] (fun iv wr => ∃ k : Nat, k ≤ l.length ∧ iv = .int .i64 k ∧ cellIdx l id = idxFrom (l.drop k) id k ∧ Row wr w.heap.size 26 [.slice A l.length c] ∧ Below w.heap.size w wr) (fun iv _ => l.length - (intOf iv).toNat)
  case atStart => exact ⟨0, by omega, rfl, rfl, Row.new _ _ _, (Below.refl _ _).alloc (Nat.le_refl _) _⟩
  case round =>
    obtain ⟨k, hk, rfl, he, hro, hb⟩ := hrel
    have he' := Lib.hid he
    clear he
    have kk := hro.cell
    have hz := hro.lt
    by_cases hlt : k < l.length
    · have hd : (l.map GCell.toD)[k]? = some (GCell.toD l[k]) := by rw [List.getElem?_map, List.getElem?_eq_getElem hlt]; rfl
      obtain ⟨b, o, fi, ci, rfl, hbb, hbf, hri, hfi, hat⟩ := hS.elem GCell.szs hd
      obtain ⟨rfl, rfl⟩ := GCell.opened.1 hri
      have q0 : wr.cell? ⟨b, o + k * 6, none⟩ = some (.int .i64 l[k].id) := (hb.cell (p := ⟨b, o + k * 6, none⟩) hbb).trans (hat.head)
      have q1 : wr.cell? ⟨b, o + k * 6 + 1, none⟩ = some (.int .i64 l[k].ver) := (hb.cell (p := ⟨b, o + k * 6 + 1, none⟩) hbb).trans (hat.nth 1 rfl)
      have q2 : wr.cell? ⟨b, o + k * 6 + 2, none⟩ = some (.int .i64 l[k].kind) := (hb.cell (p := ⟨b, o + k * 6 + 2, none⟩) hbb).trans (hat.nth 2 rfl)
      have q3 : wr.cell? ⟨b, o + k * 6 + 3, none⟩ = some (.string l[k].name) := (hb.cell (p := ⟨b, o + k * 6 + 3, none⟩) hbb).trans (hat.nth 3 rfl)
      have q4 : wr.cell? ⟨b, o + k * 6 + 4, none⟩ = some (.string l[k].code) := (hb.cell (p := ⟨b, o + k * 6 + 4, none⟩) hbb).trans (hat.nth 4 rfl)
      have q5 : wr.cell? ⟨b, o + k * 6 + 5, none⟩ = some (.int .i64 l[k].n) := (hb.cell (p := ⟨b, o + k * 6 + 5, none⟩) hbb).trans (hat.nth 5 rfl)
      clear hat hd hri
      have hst := Lib.hid (show idxFrom (l.drop k) id k = if l[k].id == id then (k : Int) else idxFrom (l.drop (k + 1)) id (k + 1) by rw [List.drop_eq_getElem_cons hlt, idxFrom])
      cases hid : (l[k].id == id) with
      | true =>
        have hf := Lib.hid (show (k : Int) = cellIdx l id by rw [he'.out, hst.out, hid]; rfl)
        go_wp2_with fail
        go_ret
        exact ⟨ret_int hf.out, by first | exact hb | exact hb.alloc (by omega) _⟩
      | false =>
        have hf := Lib.hid (show cellIdx l id = idxFrom (l.drop (k + 1)) id (k + 1) by rw [he'.out, hst.out, hid]; rfl)
        go_wp2_with fail
        go_roundw
        case rel => exact ⟨k + 1, by omega, by go_num, hf.out, by first | exact hro | exact hro.below ((Below.refl _ _).alloc (Nat.le_refl _) _), by first | exact hb | exact hb.alloc (by omega) _⟩
        case measure => (simp [intOf] <;> omega)
    · have hf := Lib.hid (show (-1 : Int) = cellIdx l id by rw [he'.out, List.drop_eq_nil_of_le (by omega)]; rfl)
      go_wp2_with fail
      go_ret
      exact ⟨ret_int hf.out, hb⟩

set_option maxHeartbeats 1000000 in
theorem cellIndex_spec (l : List GCell) (id : Int) (fp : List Nat) (v : Value) (w : World) (hS : Sl w (l.map GCell.toD) fp v) : Calls Try.prog 24 #[.agg #[v], .int .i64 id] w (RetB (.int .i64 (cellIdx l id)) w) := by
  obtain ⟨A, c, rfl, hl, hc⟩ := hS.formT
  have hm : l.length ≤ 9223372036854775807 := by unfold maxLen at hc; omega
  clear hl hc
  go_enter Try.func24, Try.ntmps24
  go_wp2_with fail
  go_loopw [5] (fun iv wr => ∃ k : Nat, k ≤ l.length ∧ iv = .int .i64 k ∧ cellIdx l id = idxFrom (l.drop k) id k ∧ Row wr w.heap.size 26 [.slice A l.length c] ∧ Below w.heap.size w wr) (fun iv _ => l.length - (intOf iv).toNat)
  case atStart => exact ⟨0, by omega, rfl, rfl, Row.new _ _ _, (Below.refl _ _).alloc (Nat.le_refl _) _⟩
  case round =>
    obtain ⟨k, hk, rfl, he, hro, hb⟩ := hrel
    have he' := Lib.hid he
    clear he
    have kk := hro.cell
    have hz := hro.lt
    by_cases hlt : k < l.length
    · have hd : (l.map GCell.toD)[k]? = some (GCell.toD l[k]) := by rw [List.getElem?_map, List.getElem?_eq_getElem hlt]; rfl
      obtain ⟨b, o, fi, ci, rfl, hbb, hbf, hri, hfi, hat⟩ := hS.elem GCell.szs hd
      obtain ⟨rfl, rfl⟩ := GCell.opened.1 hri
      have q0 : wr.cell? ⟨b, o + k * 6, none⟩ = some (.int .i64 l[k].id) := (hb.cell (p := ⟨b, o + k * 6, none⟩) hbb).trans (hat.head)
      have q1 : wr.cell? ⟨b, o + k * 6 + 1, none⟩ = some (.int .i64 l[k].ver) := (hb.cell (p := ⟨b, o + k * 6 + 1, none⟩) hbb).trans (hat.nth 1 rfl)
      have q2 : wr.cell? ⟨b, o + k * 6 + 2, none⟩ = some (.int .i64 l[k].kind) := (hb.cell (p := ⟨b, o + k * 6 + 2, none⟩) hbb).trans (hat.nth 2 rfl)
      have q3 : wr.cell? ⟨b, o + k * 6 + 3, none⟩ = some (.string l[k].name) := (hb.cell (p := ⟨b, o + k * 6 + 3, none⟩) hbb).trans (hat.nth 3 rfl)
      have q4 : wr.cell? ⟨b, o + k * 6 + 4, none⟩ = some (.string l[k].code) := (hb.cell (p := ⟨b, o + k * 6 + 4, none⟩) hbb).trans (hat.nth 4 rfl)
      have q5 : wr.cell? ⟨b, o + k * 6 + 5, none⟩ = some (.int .i64 l[k].n) := (hb.cell (p := ⟨b, o + k * 6 + 5, none⟩) hbb).trans (hat.nth 5 rfl)
      clear hat hd hri
      have hst := Lib.hid (show idxFrom (l.drop k) id k = if l[k].id == id then (k : Int) else idxFrom (l.drop (k + 1)) id (k + 1) by rw [List.drop_eq_getElem_cons hlt, idxFrom])
      cases hid : (l[k].id == id) with
      | true =>
        have hf := Lib.hid (show (k : Int) = cellIdx l id by rw [he'.out, hst.out, hid]; rfl)
        go_wp2_with fail
        go_ret
        exact ⟨ret_int hf.out, by first | exact hb | exact hb.alloc (by omega) _⟩
      | false =>
        have hf := Lib.hid (show cellIdx l id = idxFrom (l.drop (k + 1)) id (k + 1) by rw [he'.out, hst.out, hid]; rfl)
        go_wp2_with fail
        go_roundw
        case rel => exact ⟨k + 1, by omega, by go_num, hf.out, by first | exact hro | exact hro.below ((Below.refl _ _).alloc (Nat.le_refl _) _), by first | exact hb | exact hb.alloc (by omega) _⟩
        case measure => (simp [intOf] <;> omega)
    · have hf := Lib.hid (show (-1 : Int) = cellIdx l id by rw [he'.out, List.drop_eq_nil_of_le (by omega)]; rfl)
      go_wp2_with fail
      go_ret
      exact ⟨ret_int hf.out, hb⟩

theorem wfs_get {l : List GCell} (h : D.wfs (l.map GCell.toD)) {k : Nat} (hk : k < l.length) : (l[k]).toD.wf := D.wfs_get h (List.mem_map_of_mem (f := GCell.toD) (List.getElem_mem hk))

set_option maxHeartbeats 4000000 in
theorem isValidNotebook_impl (l : List GCell) (fp : List Nat) (v : Value) (w : World) (hS : Sl w (l.map GCell.toD) fp v) (hw : D.wfs (l.map GCell.toD)) : Calls Try.prog 9 #[.agg #[v]] w (RetB (.bool (validNb l)) w) := by
  have hI : ∀ (wx : World) (id : Int), Below w.heap.size w wx → Calls Try.prog 11 #[.agg #[v], .int .i64 id] wx (RetB (.int .i64 (cellIdx l id)) wx) := fun wx id h => cellIndex_impl l id fp v wx (hS.below h)
  obtain ⟨A, c, rfl, hl, hc⟩ := hS.formT
  have hm : l.length ≤ 9223372036854775807 := by unfold maxLen at hc; omega
  clear hl hc
  go_enter Try.func9, Try.ntmps9
  go_wp2_with fail
  go_loopw [8] (fun iv wr => ∃ k : Nat, k ≤ l.length ∧ iv = .int .i64 k ∧ validFrom l l 0 = validFrom l (l.drop k) k ∧ Row wr w.heap.size 26 [.slice A l.length c] ∧ Below w.heap.size w wr) (fun iv _ => l.length - (intOf iv).toNat)
  case atStart => exact ⟨0, by omega, rfl, rfl, Row.new _ _ _, (Below.refl _ _).alloc (Nat.le_refl _) _⟩
  case round =>
    obtain ⟨k, hk, rfl, he, hro, hb⟩ := hrel
    have he' := Lib.hid he
    clear he
    have kk := hro.cell
    have hz := hro.lt
    by_cases hlt : k < l.length
    · have hd : (l.map GCell.toD)[k]? = some (GCell.toD l[k]) := by rw [List.getElem?_map, List.getElem?_eq_getElem hlt]; rfl
      obtain ⟨b, o, fi, ci, rfl, hbb, hbf, hri, hfi, hat⟩ := hS.elem GCell.szs hd
      obtain ⟨rfl, rfl⟩ := GCell.opened.1 hri
      have q0 : wr.cell? ⟨b, o + k * 6, none⟩ = some (.int .i64 l[k].id) := (hb.cell (p := ⟨b, o + k * 6, none⟩) hbb).trans (hat.head)
      have q1 : wr.cell? ⟨b, o + k * 6 + 1, none⟩ = some (.int .i64 l[k].ver) := (hb.cell (p := ⟨b, o + k * 6 + 1, none⟩) hbb).trans (hat.nth 1 rfl)
      have q2 : wr.cell? ⟨b, o + k * 6 + 2, none⟩ = some (.int .i64 l[k].kind) := (hb.cell (p := ⟨b, o + k * 6 + 2, none⟩) hbb).trans (hat.nth 2 rfl)
      have q3 : wr.cell? ⟨b, o + k * 6 + 3, none⟩ = some (.string l[k].name) := (hb.cell (p := ⟨b, o + k * 6 + 3, none⟩) hbb).trans (hat.nth 3 rfl)
      have q4 : wr.cell? ⟨b, o + k * 6 + 4, none⟩ = some (.string l[k].code) := (hb.cell (p := ⟨b, o + k * 6 + 4, none⟩) hbb).trans (hat.nth 4 rfl)
      have q5 : wr.cell? ⟨b, o + k * 6 + 5, none⟩ = some (.int .i64 l[k].n) := (hb.cell (p := ⟨b, o + k * 6 + 5, none⟩) hbb).trans (hat.nth 5 rfl)
      clear hat hd hri
      have hst := Lib.hid (show validFrom l (l.drop k) k = (validCell l[k] && (cellIdx l l[k].id == (k : Int)) && validFrom l (l.drop (k + 1)) (k + 1)) by rw [List.drop_eq_getElem_cons hlt, validFrom])
      have hV := fun wx => isValidCell_impl l[k] (wfs_get hw hlt) wx
      go_wp2_with fail
      refine (hV _).mono ?_
      clear hV
      cases hc1 : validCell l[k] with
      | false =>
        have hf := Lib.hid (show false = validNb l by unfold validNb; rw [he'.out, hst.out, hc1]; rfl)
        rintro e w1 ⟨rfl, hb1⟩
        go_wp2_with fail
        go_ret
        exact ⟨ret_bool hf.out, (hb.alloc (by omega) _).trans (hb1.mono (by simp; omega))⟩
      | true =>
        rintro e w1 ⟨rfl, hb1⟩
        obtain ⟨hr1, hz1, L1⟩ := rows1 hb1
        have r1 := hro.below L1
        have k1 := hr1.cell
        have k2 := r1.cell
        have B1 : Below w.heap.size w w1 := hb.trans (L1.mono (by omega))
        go_wp2_with fail
        refine (hI _ _ B1).mono ?_
        cases hc2 : (cellIdx l l[k].id == (k : Int)) with
        | false =>
          have hf := Lib.hid (show false = validNb l by unfold validNb; rw [he'.out, hst.out, hc1, hc2]; rfl)
          have hne : (cellIdx l l[k].id != (k : Int)) = true := by simp [bne, hc2]
          generalize cellIdx l l[k].id = ix at *
          clear hc2
          rintro e w2 ⟨rfl, hb2⟩
          go_wp2_with fail
          go_ret
          exact ⟨ret_bool hf.out, B1.trans (hb2.mono (by have := B1.size; omega))⟩
        | true =>
          have hf := Lib.hid (show validFrom l l 0 = validFrom l (l.drop (k + 1)) (k + 1) by rw [he'.out, hst.out, hc1, hc2]; rfl)
          have hne : (cellIdx l l[k].id != (k : Int)) = false := by simp [bne, hc2]
          generalize cellIdx l l[k].id = ix at *
          clear hc2
          rintro e w2 ⟨rfl, hb2⟩
          go_wp2_with fail
          go_roundw
          case rel => exact ⟨k + 1, by omega, by go_num, hf.out, r1.below hb2, B1.trans (hb2.mono (by have := B1.size; omega))⟩
          case measure => (simp [intOf] <;> omega)
    · have hf := Lib.hid (show decide ((l.length : Int) ≤ 8) = validNb l by unfold validNb; rw [he'.out, List.drop_eq_nil_of_le (by omega)]; rfl)
      go_wp2_with fail
      go_ret
      exact ⟨ret_bool hf.out, hb⟩
set_option maxHeartbeats 4000000 in
theorem isValidNotebook_spec (l : List GCell) (fp : List Nat) (v : Value) (w : World) (hS : Sl w (l.map GCell.toD) fp v) (hw : D.wfs (l.map GCell.toD)) : Calls Try.prog 10 #[.agg #[v]] w (RetB (.bool (validNb l)) w) := by
  have hI : ∀ (wx : World) (id : Int), Below w.heap.size w wx → Calls Try.prog 24 #[.agg #[v], .int .i64 id] wx (RetB (.int .i64 (cellIdx l id)) wx) := fun wx id h => cellIndex_spec l id fp v wx (hS.below h)
  obtain ⟨A, c, rfl, hl, hc⟩ := hS.formT
  have hm : l.length ≤ 9223372036854775807 := by unfold maxLen at hc; omega
  clear hl hc
  go_enter Try.func10, Try.ntmps10
  go_wp2_with fail
  go_loopw [3] (fun iv wr => ∃ k : Nat, k ≤ l.length ∧ iv = .int .i64 k ∧ validFrom l l 0 = validFrom l (l.drop k) k ∧ Row wr w.heap.size 26 [.slice A l.length c] ∧ Below w.heap.size w wr) (fun iv _ => l.length - (intOf iv).toNat)
  case atStart => exact ⟨0, by omega, rfl, rfl, Row.new _ _ _, (Below.refl _ _).alloc (Nat.le_refl _) _⟩
  case round =>
    obtain ⟨k, hk, rfl, he, hro, hb⟩ := hrel
    have he' := Lib.hid he
    clear he
    have kk := hro.cell
    have hz := hro.lt
    by_cases hlt : k < l.length
    · have hd : (l.map GCell.toD)[k]? = some (GCell.toD l[k]) := by rw [List.getElem?_map, List.getElem?_eq_getElem hlt]; rfl
      obtain ⟨b, o, fi, ci, rfl, hbb, hbf, hri, hfi, hat⟩ := hS.elem GCell.szs hd
      obtain ⟨rfl, rfl⟩ := GCell.opened.1 hri
      have q0 : wr.cell? ⟨b, o + k * 6, none⟩ = some (.int .i64 l[k].id) := (hb.cell (p := ⟨b, o + k * 6, none⟩) hbb).trans (hat.head)
      have q1 : wr.cell? ⟨b, o + k * 6 + 1, none⟩ = some (.int .i64 l[k].ver) := (hb.cell (p := ⟨b, o + k * 6 + 1, none⟩) hbb).trans (hat.nth 1 rfl)
      have q2 : wr.cell? ⟨b, o + k * 6 + 2, none⟩ = some (.int .i64 l[k].kind) := (hb.cell (p := ⟨b, o + k * 6 + 2, none⟩) hbb).trans (hat.nth 2 rfl)
      have q3 : wr.cell? ⟨b, o + k * 6 + 3, none⟩ = some (.string l[k].name) := (hb.cell (p := ⟨b, o + k * 6 + 3, none⟩) hbb).trans (hat.nth 3 rfl)
      have q4 : wr.cell? ⟨b, o + k * 6 + 4, none⟩ = some (.string l[k].code) := (hb.cell (p := ⟨b, o + k * 6 + 4, none⟩) hbb).trans (hat.nth 4 rfl)
      have q5 : wr.cell? ⟨b, o + k * 6 + 5, none⟩ = some (.int .i64 l[k].n) := (hb.cell (p := ⟨b, o + k * 6 + 5, none⟩) hbb).trans (hat.nth 5 rfl)
      clear hat hd hri
      have hst := Lib.hid (show validFrom l (l.drop k) k = (validCell l[k] && (cellIdx l l[k].id == (k : Int)) && validFrom l (l.drop (k + 1)) (k + 1)) by rw [List.drop_eq_getElem_cons hlt, validFrom])
      have hV := fun wx => isValidCell_spec l[k] (wfs_get hw hlt) wx
      have hbr : b < wr.heap.size := Nat.lt_of_lt_of_le hbb hb.size
      have hi1 : 0 ≤ (k : Int) := by omega
      have hi2 : (k : Int) < l.length := by omega
      cases hc1 : validCell l[k] with
      | false =>
        have hf := Lib.hid (show false = validNb l by unfold validNb; rw [he'.out, hst.out, hc1]; rfl)
        rw [hc1] at hV
        clear hc1
        go_wp2_with fail
        refine wp_region_held_drew (S := (fun w' => w'.cell? ⟨w.heap.size, 0, none⟩ = some (.slice (some ⟨b, o, none⟩) l.length c) ∧ w'.cell? ⟨b, o + k * 6, none⟩ = some (.int .i64 l[k].id) ∧ w'.cell? ⟨b, o + k * 6 + 1, none⟩ = some (.int .i64 l[k].ver) ∧ w'.cell? ⟨b, o + k * 6 + 2, none⟩ = some (.int .i64 l[k].kind) ∧ w'.cell? ⟨b, o + k * 6 + 3, none⟩ = some (.string l[k].name) ∧ w'.cell? ⟨b, o + k * 6 + 4, none⟩ = some (.string l[k].code) ∧ w'.cell? ⟨b, o + k * 6 + 5, none⟩ = some (.int .i64 l[k].n))) (by kernel_rfl) ?_ (fun hHeld => ?_)
        · go_keep
        refine wpAnyH_take (i := 0) (v := ?_) rfl (by kernel_rfl) (by kernel_rfl) (by kernel_rfl) (fun _ _ _ h => h) (Or.inl ⟨by rfl, ?_⟩) (by assumption) ?_
        rotate_left
        · intro w hSw
          try dsimp only at hSw
          go_simp
          try with_reducible rfl
        try simp only [Act.put, List.getElem_toArray, List.getElem_cons_succ, List.getElem_cons_zero, List.setIfInBounds_toArray, List.set_cons_zero, List.set_cons_succ]
        refine wpAnyH_take (i := 1) (v := ?_) rfl (by kernel_rfl) (by kernel_rfl) (by kernel_rfl) (fun _ _ _ h => h) (Or.inl ⟨by rfl, ?_⟩) (by assumption) ?_
        rotate_left
        · intro w hSw
          try dsimp only at hSw
          go_simp
          try with_reducible rfl
        try simp only [Act.put, List.getElem_toArray, List.getElem_cons_succ, List.getElem_cons_zero, List.setIfInBounds_toArray, List.set_cons_zero, List.set_cons_succ]
        refine wpAnyH_take (i := 2) (v := ?_) rfl (by kernel_rfl) (by kernel_rfl) (by kernel_rfl) (fun _ _ _ h => h) (Or.inl ⟨by rfl, ?_⟩) (by assumption) ?_
        rotate_left
        · intro w hSw
          try dsimp only at hSw
          go_simp
          try with_reducible rfl
        try simp only [Act.put, List.getElem_toArray, List.getElem_cons_succ, List.getElem_cons_zero, List.setIfInBounds_toArray, List.set_cons_zero, List.set_cons_succ]
        refine wpAnyH_take (i := 3) (v := ?_) rfl (by kernel_rfl) (by kernel_rfl) (by kernel_rfl) (fun _ _ _ h => h) (Or.inl ⟨by rfl, ?_⟩) (by assumption) ?_
        rotate_left
        · intro w hSw
          try dsimp only at hSw
          go_simp
          try with_reducible rfl
        try simp only [Act.put, List.getElem_toArray, List.getElem_cons_succ, List.getElem_cons_zero, List.setIfInBounds_toArray, List.set_cons_zero, List.set_cons_succ]
        refine wpAnyH_take (i := 4) (v := ?_) rfl (by kernel_rfl) (by kernel_rfl) (by kernel_rfl) (fun _ _ _ h => h) (Or.inl ⟨by rfl, ?_⟩) (by assumption) ?_
        rotate_left
        · intro w hSw
          try dsimp only at hSw
          go_simp
          try with_reducible rfl
        try simp only [Act.put, List.getElem_toArray, List.getElem_cons_succ, List.getElem_cons_zero, List.setIfInBounds_toArray, List.set_cons_zero, List.set_cons_succ]
        refine wpAnyH_ready (rs := [5]) (by kernel_rfl) (by simp) ?_
        refine AllReadyH.cons rfl (fun K hK => ?_) AllReadyH.nil
        go_simp
        refine (hV _).mono ?_
        rintro e w1 ⟨rfl, hb1⟩
        have L1 : Below wr.heap.size wr w1 := (Below.refl _ _).drew.trans hb1
        have r1 := hro.below L1
        have k1 := r1.cell
        have c1 : ∀ o, w1.cell? ⟨b, o, none⟩ = wr.cell? ⟨b, o, none⟩ := fun o => L1.cell (p := ⟨b, o, none⟩) hbr
        have B1 : Below w.heap.size w w1 := hb.trans (L1.mono (by omega))
        refine hK.out _ _ ?_ (fun hHeld1 => ?_)
        · go_keep
        clear hK K
        try simp only [Act.put, List.getElem_toArray, List.getElem_cons_succ, List.getElem_cons_zero, List.setIfInBounds_toArray, List.set_cons_zero, List.set_cons_succ]
        refine wpAnyH_take (i := 6) (v := ?_) rfl (by kernel_rfl) (by kernel_rfl) (by kernel_rfl) (fun _ _ _ h => h) (Or.inl ⟨by rfl, ?_⟩) (by assumption) ?_
        rotate_left
        · intro w hSw
          try dsimp only at hSw
          go_simp
          try with_reducible rfl
        try simp only [Act.put, List.getElem_toArray, List.getElem_cons_succ, List.getElem_cons_zero, List.setIfInBounds_toArray, List.set_cons_zero, List.set_cons_succ]
        refine wpAnyH_take (i := 7) (v := ?_) rfl (by kernel_rfl) (by kernel_rfl) (by kernel_rfl) (fun _ _ _ h => h) (Or.inl ⟨by rfl, ?_⟩) (by assumption) ?_
        rotate_left
        · intro w hSw
          try dsimp only at hSw
          go_simp
          try with_reducible rfl
        try simp only [Act.put, List.getElem_toArray, List.getElem_cons_succ, List.getElem_cons_zero, List.setIfInBounds_toArray, List.set_cons_zero, List.set_cons_succ]
        refine wpAnyH_take (i := 8) (v := undef) rfl (by kernel_rfl) (by kernel_rfl) (by kernel_rfl) (fun _ _ _ h => h) (Or.inr ⟨by rfl, rfl⟩) (by assumption) ?_
        try simp only [Act.put, List.getElem_toArray, List.getElem_cons_succ, List.getElem_cons_zero, List.setIfInBounds_toArray, List.set_cons_zero, List.set_cons_succ]
        refine wpAnyH_take (i := 9) (v := undef) rfl (by kernel_rfl) (by kernel_rfl) (by kernel_rfl) (fun _ _ _ h => h) (Or.inr ⟨by rfl, rfl⟩) (by assumption) ?_
        try simp only [Act.put, List.getElem_toArray, List.getElem_cons_succ, List.getElem_cons_zero, List.setIfInBounds_toArray, List.set_cons_zero, List.set_cons_succ]
        refine wpAnyH_take (i := 10) (v := undef) rfl (by kernel_rfl) (by kernel_rfl) (by kernel_rfl) (fun _ _ _ h => h) (Or.inr ⟨by rfl, rfl⟩) (by assumption) ?_
        try simp only [Act.put, List.getElem_toArray, List.getElem_cons_succ, List.getElem_cons_zero, List.setIfInBounds_toArray, List.set_cons_zero, List.set_cons_succ]
        refine wpAnyH_take (i := 11) (v := undef) rfl (by kernel_rfl) (by kernel_rfl) (by kernel_rfl) (fun _ _ _ h => h) (Or.inr ⟨by rfl, rfl⟩) (by assumption) ?_
        try simp only [Act.put, List.getElem_toArray, List.getElem_cons_succ, List.getElem_cons_zero, List.setIfInBounds_toArray, List.set_cons_zero, List.set_cons_succ]
        refine wpAnyH_take (i := 12) (v := undef) rfl (by kernel_rfl) (by kernel_rfl) (by kernel_rfl) (fun _ _ _ h => h) (Or.inr ⟨by rfl, rfl⟩) (by assumption) ?_
        try simp only [Act.put, List.getElem_toArray, List.getElem_cons_succ, List.getElem_cons_zero, List.setIfInBounds_toArray, List.set_cons_zero, List.set_cons_succ]
        refine wpAnyH_take (i := 13) (v := undef) rfl (by kernel_rfl) (by kernel_rfl) (by kernel_rfl) (fun _ _ _ h => h) (Or.inr ⟨by rfl, rfl⟩) (by assumption) ?_
        try simp only [Act.put, List.getElem_toArray, List.getElem_cons_succ, List.getElem_cons_zero, List.setIfInBounds_toArray, List.set_cons_zero, List.set_cons_succ]
        refine wpAnyH_take (i := 14) (v := undef) rfl (by kernel_rfl) (by kernel_rfl) (by kernel_rfl) (fun _ _ _ h => h) (Or.inr ⟨by rfl, rfl⟩) (by assumption) ?_
        try simp only [Act.put, List.getElem_toArray, List.getElem_cons_succ, List.getElem_cons_zero, List.setIfInBounds_toArray, List.set_cons_zero, List.set_cons_succ]
        refine wpAnyH_take (i := 15) (v := undef) rfl (by kernel_rfl) (by kernel_rfl) (by kernel_rfl) (fun _ _ _ h => h) (Or.inr ⟨by rfl, rfl⟩) (by assumption) ?_
        try simp only [Act.put, List.getElem_toArray, List.getElem_cons_succ, List.getElem_cons_zero, List.setIfInBounds_toArray, List.set_cons_zero, List.set_cons_succ]
        refine wpAnyH_take (i := 16) (v := undef) rfl (by kernel_rfl) (by kernel_rfl) (by kernel_rfl) (fun _ _ _ h => h) (Or.inr ⟨by rfl, rfl⟩) (by assumption) ?_
        try simp only [Act.put, List.getElem_toArray, List.getElem_cons_succ, List.getElem_cons_zero, List.setIfInBounds_toArray, List.set_cons_zero, List.set_cons_succ]
        refine wpAnyH_take (i := 17) (v := undef) rfl (by kernel_rfl) (by kernel_rfl) (by kernel_rfl) (fun _ _ _ h => h) (Or.inr ⟨by rfl, rfl⟩) (by assumption) ?_
        try simp only [Act.put, List.getElem_toArray, List.getElem_cons_succ, List.getElem_cons_zero, List.setIfInBounds_toArray, List.set_cons_zero, List.set_cons_succ]
        refine wpAnyH_take (i := 18) (v := ?_) rfl (by kernel_rfl) (by kernel_rfl) (by kernel_rfl) (fun _ _ _ h => h) (Or.inl ⟨by rfl, ?_⟩) (by assumption) ?_
        rotate_left
        · intro w hSw
          try dsimp only at hSw
          go_simp
          try with_reducible rfl
        try simp only [Act.put, List.getElem_toArray, List.getElem_cons_succ, List.getElem_cons_zero, List.setIfInBounds_toArray, List.set_cons_zero, List.set_cons_succ]
        refine wpAnyH_done (by kernel_rfl) ?_ _
        go_wp2_with fail
        go_ret
        exact ⟨ret_bool hf.out, B1⟩
      | true =>
        rw [hc1] at hV
        cases hc2 : (cellIdx l l[k].id == (k : Int)) with
        | false =>
          have hf := Lib.hid (show false = validNb l by unfold validNb; rw [he'.out, hst.out, hc1, hc2]; rfl)
          have hne : (cellIdx l l[k].id != (k : Int)) = true := by simp [bne, hc2]
          clear hc1 hc2
          go_wp2_with fail
          go_region_held3 (fun w' => w'.cell? ⟨w.heap.size, 0, none⟩ = some (.slice (some ⟨b, o, none⟩) l.length c) ∧ w'.cell? ⟨b, o + k * 6, none⟩ = some (.int .i64 l[k].id) ∧ w'.cell? ⟨b, o + k * 6 + 1, none⟩ = some (.int .i64 l[k].ver) ∧ w'.cell? ⟨b, o + k * 6 + 2, none⟩ = some (.int .i64 l[k].kind) ∧ w'.cell? ⟨b, o + k * 6 + 3, none⟩ = some (.string l[k].name) ∧ w'.cell? ⟨b, o + k * 6 + 4, none⟩ = some (.string l[k].code) ∧ w'.cell? ⟨b, o + k * 6 + 5, none⟩ = some (.int .i64 l[k].n)) (go_keep)
            (first | (go_at_call 32; refine (hV _).mono ?_; rintro e w1 ⟨rfl, hb1⟩; have L1 : Below wr.heap.size wr w1 := (Below.refl _ _).drew.trans hb1; have r1 := hro.below L1; have k1 := r1.cell; have c1 : ∀ o, w1.cell? ⟨b, o, none⟩ = wr.cell? ⟨b, o, none⟩ := fun o => L1.cell (p := ⟨b, o, none⟩) hbr; have B1 : Below w.heap.size w w1 := hb.trans (L1.mono (by omega))) | (go_at_call 24; refine (hI _ _ B1).mono ?_; rintro e w2 ⟨rfl, hb2⟩; have r2 := r1.below hb2; have k2 := r2.cell; have c2 : ∀ o, w2.cell? ⟨b, o, none⟩ = w1.cell? ⟨b, o, none⟩ := fun o => hb2.cell (p := ⟨b, o, none⟩) (Nat.lt_of_lt_of_le hbr L1.size); have B2 : Below w.heap.size w w2 := B1.trans (hb2.mono (by have := B1.size; omega))))
          go_wp2_with fail
          go_ret
          exact ⟨ret_bool hf.out, B2⟩
        | true =>
          have hf := Lib.hid (show validFrom l l 0 = validFrom l (l.drop (k + 1)) (k + 1) by rw [he'.out, hst.out, hc1, hc2]; rfl)
          have hne : (cellIdx l l[k].id != (k : Int)) = false := by simp [bne, hc2]
          clear hc1 hc2
          go_wp2_with fail
          go_region_held3 (fun w' => w'.cell? ⟨w.heap.size, 0, none⟩ = some (.slice (some ⟨b, o, none⟩) l.length c) ∧ w'.cell? ⟨b, o + k * 6, none⟩ = some (.int .i64 l[k].id) ∧ w'.cell? ⟨b, o + k * 6 + 1, none⟩ = some (.int .i64 l[k].ver) ∧ w'.cell? ⟨b, o + k * 6 + 2, none⟩ = some (.int .i64 l[k].kind) ∧ w'.cell? ⟨b, o + k * 6 + 3, none⟩ = some (.string l[k].name) ∧ w'.cell? ⟨b, o + k * 6 + 4, none⟩ = some (.string l[k].code) ∧ w'.cell? ⟨b, o + k * 6 + 5, none⟩ = some (.int .i64 l[k].n)) (go_keep)
            (first | (go_at_call 32; refine (hV _).mono ?_; rintro e w1 ⟨rfl, hb1⟩; have L1 : Below wr.heap.size wr w1 := (Below.refl _ _).drew.trans hb1; have r1 := hro.below L1; have k1 := r1.cell; have c1 : ∀ o, w1.cell? ⟨b, o, none⟩ = wr.cell? ⟨b, o, none⟩ := fun o => L1.cell (p := ⟨b, o, none⟩) hbr; have B1 : Below w.heap.size w w1 := hb.trans (L1.mono (by omega))) | (go_at_call 24; refine (hI _ _ B1).mono ?_; rintro e w2 ⟨rfl, hb2⟩; have r2 := r1.below hb2; have k2 := r2.cell; have c2 : ∀ o, w2.cell? ⟨b, o, none⟩ = w1.cell? ⟨b, o, none⟩ := fun o => hb2.cell (p := ⟨b, o, none⟩) (Nat.lt_of_lt_of_le hbr L1.size); have B2 : Below w.heap.size w w2 := B1.trans (hb2.mono (by have := B1.size; omega))))
          go_wp2_with fail
          go_roundw
          case rel => exact ⟨k + 1, by omega, by go_num, hf.out, r2, B2⟩
          case measure => (simp [intOf] <;> omega)
    · have hf := Lib.hid (show decide ((l.length : Int) ≤ 8) = validNb l by unfold validNb; rw [he'.out, List.drop_eq_nil_of_le (by omega)]; rfl)
      go_wp2_with fail
      go_ret
      exact ⟨ret_bool hf.out, hb⟩
end Go.Proofs.Ytnongnchpplacaa

namespace Go.Proofs.Ytnongnchpplacaa
open Go.RowKit
set_option linter.unusedSimpArgs false
set_option linter.unusedVariables false

def GCell.cs (x : GCell) : List Value := [.int .i64 x.id, .int .i64 x.ver, .int .i64 x.kind, .string x.name, .string x.code, .int .i64 x.n]
theorem GCell.cs_len (x : GCell) : x.cs.length = 6 := rfl
def cellsOf (l : List GCell) : List Value := l.flatMap GCell.cs
theorem cellsOf_len (l : List GCell) : (cellsOf l).length = l.length * 6 := by
  induction l with
  | nil => rfl
  | cons x l ih =>
    have e : cellsOf (x :: l) = x.cs ++ cellsOf l := rfl
    rw [e, List.length_append, ih, GCell.cs_len, List.length_cons]
    omega
theorem Rs_cells {w : World} : ∀ {l : List GCell} {fp : List Nat} {cs : List Value}, Rs w (l.map GCell.toD) fp cs ↔ fp = [] ∧ cs = cellsOf l
  | [], fp, cs => by rw [List.map_nil, Rs]; rfl
  | x :: l, fp, cs => by
    rw [List.map_cons, Rs]
    constructor
    · rintro ⟨f1, f2, c1, c2, rfl, rfl, h1, h2⟩
      obtain ⟨rfl, rfl⟩ := GCell.opened.1 h1
      obtain ⟨rfl, rfl⟩ := Rs_cells.1 h2
      exact ⟨rfl, rfl⟩
    · rintro ⟨rfl, rfl⟩
      exact ⟨[], [], x.cs, cellsOf l, rfl, rfl, GCell.opened.2 ⟨rfl, rfl⟩, Rs_cells.2 ⟨rfl, rfl⟩⟩
theorem cellsOf_set : ∀ (l : List GCell) (k j : Nat) (u : Value) (x : GCell), (h : k < l.length) → j < 6 → (l[k]).cs.set j u = x.cs → (cellsOf l).set (k * 6 + j) u = cellsOf (l.set k x)
  | [], k, _, _, _, h, _, _ => by simp at h
  | y :: l, 0, j, u, x, h, hj, e => by
    have e1 : cellsOf (y :: l) = y.cs ++ cellsOf l := rfl
    have e2 : cellsOf ((y :: l).set 0 x) = x.cs ++ cellsOf l := rfl
    rw [e1, e2, Nat.zero_mul, Nat.zero_add, List.set_append_left _ _ (by rw [GCell.cs_len]; exact hj)]
    rw [show y.cs.set j u = x.cs from e]
  | y :: l, k + 1, j, u, x, h, hj, e => by
    have e1 : cellsOf (y :: l) = y.cs ++ cellsOf l := rfl
    have e2 : cellsOf ((y :: l).set (k + 1) x) = y.cs ++ cellsOf (l.set k x) := rfl
    rw [e1, e2, List.set_append_right _ _ (by rw [GCell.cs_len]; omega), GCell.cs_len, show (k + 1) * 6 + j - 6 = k * 6 + j by omega, cellsOf_set l k j u x (by simpa using h) hj e]

deriving instance DecidableEq for GCell
theorem bytes_inj {a b : ByteArray} : a.toList = b.toList ↔ a = b := by
  rw [ByteArray.toList_eq, ByteArray.toList_eq]
  constructor
  · intro h
    have : a.data = b.data := Array.toList_inj.1 h
    cases a; cases b; simp_all
  · rintro rfl; rfl
set_option maxHeartbeats 1000000 in
theorem neqCell (x y : GCell) (w : World) : (binOp .neq 31 (.agg #[.int .i64 x.id, .int .i64 x.ver, .int .i64 x.kind, .string x.name, .string x.code, .int .i64 x.n]) (.agg #[.int .i64 y.id, .int .i64 y.ver, .int .i64 y.kind, .string y.name, .string y.code, .int .i64 y.n])).run Try.prog w = .ok (.bool (!decide (x = y))) w := by
  go_simp
  simp only [bytes_inj]
  cases x; cases y
  simp
  repeat' split
  all_goals simp_all
theorem info_cell : (Try.prog.info? 31).map (fun i => (i.zero, i.size, i.bytes)) = some (some (.agg #[.int .i64 0, .int .i64 0, .int .i64 0, .string ⟨#[]⟩, .string ⟨#[]⟩, .int .i64 0]), 6, 64) := by kernel_rfl

def OwnC (w : World) (base : Nat) (l : List GCell) (v : Value) : Prop := w.ownsRow base 31 6 v l.length (cellsOf l)
theorem OwnC.sl {w : World} {base : Nat} {l : List GCell} {v : Value} (h : OwnC w base l v) : Sl w (l.map GCell.toD) v.ownBlock.toList v := by
  have h' : w.ownsRow base 31 6 v (l.map GCell.toD).length (cellsOf l) := by rw [List.length_map]; exact h
  have := Sl.of_own h' (Rs_cells.2 ⟨rfl, rfl⟩)
  rwa [List.append_nil] at this
theorem GCell.one (x : GCell) : x.toD.one := by simp [GCell.toD_eq, D.one, D.ones, li, ls, Value.oneCell']
theorem GCell.ones {l : List GCell} : ∀ d ∈ l.map GCell.toD, d.one := fun d h => by obtain ⟨x, _, rfl⟩ := List.mem_map.1 h; exact x.one

def CopyPost (x : GNb) (w : World) (e : Ending) (w' : World) : Prop := ∃ v, e = .returned (.agg #[v]) ∧ OwnC w' w.heap.size x.cells v ∧ Below w.heap.size w w'
theorem wpList_append_cells {w : World} {ops : Array Oper} {rest : List Oper} {o : Oper} {a : Act} {Q : Exit → Act → World → Prop} (hgd : o.guard = none) (s x : Operand)
    (ho : o.op = .call { callee := .builtin .append, args := #[s, x], argTypes := #[24, 24] })
    (base : Nat) (v : Value) (l0 : List GCell) (hs : a.eval s = v) (hown : OwnC w base l0 v) (l : List GCell) (fp : List Nat) (vx : Value) (hx : a.eval x = vx) (hsl : Sl w (l.map GCell.toD) fp vx)
    (hn : l0.length + l.length ≤ 2097152) (hbase : base ≤ w.heap.size)
    (h : ∀ v' w', OwnC w' base (l0 ++ l) v' → w.grownBy w' v.ownBlock → (v'.ownBlock = v.ownBlock ∨ v'.ownBlock = some w.heap.size) → wpList Try.prog ops Q rest (a.put o.dst v') w') : wpList Try.prog ops Q (o :: rest) a w := by
  obtain ⟨i0, hi0, hz0, hz1, hz2⟩ := info_parts info_cell
  refine wpList_append_sl hgd s x _ ho base 31 i0 _ 6 64 Try.underlying24 hi0 hz0 hz1 hz2 rfl (by omega) v l0.length (cellsOf l0) hs hown (l.map GCell.toD) fp vx hx hsl GCell.ones GCell.szs (by rw [List.length_map]; unfold maxLen; omega) (by rw [List.length_map]; omega) hbase ?_
  intro v' w' fp' cs hr _ hown' hg hat
  refine h v' w' ?_ hg hat
  obtain ⟨rfl, rfl⟩ := Rs_cells.1 hr
  unfold OwnC
  rw [List.length_append, List.length_map] at *
  have e : cellsOf (l0 ++ l) = cellsOf l0 ++ cellsOf l := by unfold cellsOf; rw [List.flatMap_append]
  rw [e]
  exact hown'
theorem OwnC.lit {w : World} {base g : Nat} (hg : w.heap.size = g) (hb : base ≤ g) : OwnC (w.alloc (.cells #[] 31)) base [] (.slice (some ⟨g, 0, none⟩) 0 0) := by
  subst hg
  exact World.ownsRow_lit w #[] 0 hb (by simp) rfl

set_option maxHeartbeats 1000000 in
theorem l17Copy_spec (x : GNb) (fp : List Nat) (cs : List Value) (w : World) (hR : R w x.toD fp cs) (hn : x.cells.length ≤ 1048576) : Calls Try.prog 38 #[.agg cs.toArray] w (CopyPost x w) := by
  obtain ⟨v0, f0, rfl, rfl, hS⟩ := GNb.opened.1 hR
  obtain ⟨A, c, rfl, hq1, hq2⟩ := hS.formT
  clear hR hq1 hq2
  go_enter Try.func38, Try.ntmps38
  go_wp2_with (at_builtin; refine wpList_append_cells rfl (.tmp 3) (.tmp 5) rfl (w.heap.size + 2) (.slice (some ⟨w.heap.size + 1 + 1, 0, none⟩) 0 0) [] rfl ?h1 x.cells fp _ rfl ?h2 ?h3 ?h4 ?_; rotate_left 4; intro v1 w1 hown1 hg1 hat1; obtain ⟨A1, c1, hv1⟩ := ownsRow_form hown1; obtain ⟨hr10, hr11, hz1, G1⟩ := grown3 hg1 (by simp [Value.ownBlock]); have k10 := hr10.cell; have k11 := hr11.cell; have n11 := hr11.frozen; rw [hv1]; clear hg1 hat1)
  case h1 => exact OwnC.lit (by simp) (by omega)
  case h2 => exact hS.below ((((Below.refl _ _).alloc (by simp) _).alloc (by simp; try omega) _).alloc (by simp; try omega) _)
  case h3 => simp; omega
  case h4 => simp
  have hfin : OwnC w1 w.heap.size x.cells (.slice A1 x.cells.length c1) := by
    rw [← List.nil_append x.cells, ← hv1]
    exact ownsRow_mono hown1 (by omega)
  refine bodyPost_ret (v := .agg #[.slice A1 x.cells.length c1]) (by simp [results, Try.results38, go_sem, k11]) rfl ⟨_, rfl, ?_, G1.setCell (by simp) _⟩
  refine ownsRow_far hfin (fun e => ?_) _
  rcases hown1.2 with ⟨h, _⟩ | ⟨g, cap, cur, h, hg, _⟩
  · rw [hv1] at h
    injection h with h1
    subst h1
    simp [Value.ownBlock] at e
  · rw [hv1] at h
    injection h with h1
    subst h1
    simp [Value.ownBlock] at e
    omega

set_option maxHeartbeats 1000000 in
theorem copyNotebook_impl (x : GNb) (fp : List Nat) (cs : List Value) (w : World) (hR : R w x.toD fp cs) (hn : x.cells.length ≤ 1048576) : Calls Try.prog 39 #[.agg cs.toArray] w (CopyPost x w) := by
  obtain ⟨v0, f0, rfl, rfl, hS⟩ := GNb.opened.1 hR
  obtain ⟨A, c, rfl, hq1, hq2⟩ := hS.formT
  clear hR hq1 hq2
  go_enter Try.func39, Try.ntmps39
  go_wp2_with (at_builtin; refine wpList_append_cells rfl (.tmp 3) (.tmp 5) rfl (w.heap.size + 2) (.slice (some ⟨w.heap.size + 1 + 1, 0, none⟩) 0 0) [] rfl ?h1 x.cells fp _ rfl ?h2 ?h3 ?h4 ?_; rotate_left 4; intro v1 w1 hown1 hg1 hat1; obtain ⟨A1, c1, hv1⟩ := ownsRow_form hown1; obtain ⟨hr10, hr11, hz1, G1⟩ := grown3 hg1 (by simp [Value.ownBlock]); have k10 := hr10.cell; have k11 := hr11.cell; have n11 := hr11.frozen; rw [hv1]; clear hg1 hat1)
  case h1 => exact OwnC.lit (by simp) (by omega)
  case h2 => exact hS.below ((((Below.refl _ _).alloc (by simp) _).alloc (by simp; try omega) _).alloc (by simp; try omega) _)
  case h3 => simp; omega
  case h4 => simp
  have hfin : OwnC w1 w.heap.size x.cells (.slice A1 x.cells.length c1) := by
    rw [← List.nil_append x.cells, ← hv1]
    exact ownsRow_mono hown1 (by omega)
  refine bodyPost_ret (v := .agg #[.slice A1 x.cells.length c1]) (by simp [results, Try.results39, go_sem, k11]) rfl ⟨_, rfl, ?_, G1.setCell (by simp) _⟩
  refine ownsRow_far hfin (fun e => ?_) _
  rcases hown1.2 with ⟨h, _⟩ | ⟨g, cap, cur, h, hg, _⟩
  · rw [hv1] at h
    injection h with h1
    subst h1
    simp [Value.ownBlock] at e
  · rw [hv1] at h
    injection h with h1
    subst h1
    simp [Value.ownBlock] at e
    omega

def GCell.unver (c : GCell) : GCell := { c with ver := 0 }
def unverTo (l : List GCell) (k : Nat) : List GCell := (l.take k).map GCell.unver ++ l.drop k
theorem unverTo_zero (l : List GCell) : unverTo l 0 = l := by simp [unverTo]
theorem unverTo_all (l : List GCell) : unverTo l l.length = l.map GCell.unver := by simp [unverTo]
theorem unverTo_len (l : List GCell) (k : Nat) : (unverTo l k).length = l.length := by simp [unverTo]; omega
theorem unverTo_get (l : List GCell) (k : Nat) (h : k < l.length) : (unverTo l k)[k]'(by rw [unverTo_len]; exact h) = l[k] := by
  have h1 : ((l.take k).map GCell.unver).length = k := by simp; omega
  simp only [unverTo]
  rw [List.getElem_append_right (by omega), List.getElem_drop]
  congr 1
  omega
theorem unverTo_set (l : List GCell) (k : Nat) (h : k < l.length) : (unverTo l k).set k (l[k]).unver = unverTo l (k + 1) := by
  have h1 : ((l.take k).map GCell.unver).length = k := by simp; omega
  unfold unverTo
  rw [List.set_append_right _ _ (by omega), h1, Nat.sub_self, List.drop_eq_getElem_cons h, List.set_cons_zero, List.take_succ_eq_append_getElem h, List.map_append]
  simp
theorem unver_cells (l : List GCell) (k : Nat) (h : k < l.length) : (cellsOf (unverTo l k)).set (k * 6 + 1) (.int .i64 0) = cellsOf (unverTo l (k + 1)) := by
  rw [cellsOf_set (unverTo l k) k 1 (.int .i64 0) (l[k]).unver (by rw [unverTo_len]; exact h) (by omega) (by rw [unverTo_get l k h]; rfl), unverTo_set l k h]

set_option maxHeartbeats 1000000 in
theorem unversioned_impl (x : GNb) (fp : List Nat) (cs : List Value) (w : World) (hR : R w x.toD fp cs) (hn : x.cells.length ≤ 1048576) : Calls Try.prog 37 #[.agg cs.toArray] w (CopyPost ⟨x.cells.map GCell.unver⟩ w) := by
  have hP : ∀ wx : World, Below w.heap.size w wx → Calls Try.prog 39 #[.agg cs.toArray] wx (CopyPost x wx) := fun wx h => copyNotebook_impl x fp cs wx (hR.below h) hn
  obtain ⟨v0, f0, rfl, rfl, hS⟩ := GNb.opened.1 hR
  obtain ⟨A, c, rfl, hq1, hq2⟩ := hS.formT
  clear hR hq1 hq2
  go_enter Try.func37, Try.ntmps37
  go_wp2_with fail
  refine (hP _ ?_).mono ?_
  · exact ((Below.refl _ _).alloc (by simp) _).alloc (by simp; try omega) _
  rintro e w1 ⟨v, rfl, hown, hb1⟩
  obtain ⟨A1, c1, rfl⟩ := ownsRow_form hown
  obtain ⟨hr0, hr1, hz1, G1⟩ := rows2 hb1
  have k0 := hr0.cell
  have k1 := hr1.cell
  have n1 := hr1.frozen
  clear hb1 hP
  have hA := hown.lt
  have hA1 : ∀ g, A1 = some ⟨g, 0, none⟩ → w.heap.size + 2 ≤ g ∧ g < w1.heap.size := fun g e => by
    have := hA g (by rw [e]; rfl)
    simpa using this
  have hown1 : OwnC w1 (w.heap.size + 2) x.cells (.slice A1 x.cells.length c1) := by simpa using hown
  clear hA hown
  go_wp2_with fail
  go_loopw [10] (fun iv wr => ∃ k : Nat, k ≤ x.cells.length ∧ iv = .int .i64 k ∧ OwnC wr (w.heap.size + 2) (unverTo x.cells k) (.slice A1 x.cells.length c1) ∧ Row wr (w.heap.size + 1) 26 [.slice none 0 0] ∧ Row wr w1.heap.size 26 [.slice A1 x.cells.length c1] ∧ w1.heap.size + 1 ≤ wr.heap.size ∧ Below w.heap.size w wr) (fun iv _ => x.cells.length - (intOf iv).toNat)
  case atStart =>
    refine ⟨0, by omega, rfl, ?_, ?_, Row.new _ _ _, by simp, G1.alloc (by omega) _⟩
    · rw [unverTo_zero]
      exact ownsRow_below hown1 ((Below.refl _ _).alloc (Nat.le_refl _) _)
    · exact hr1.below ((Below.refl _ _).alloc (Nat.le_refl _) _)
  case round =>
    obtain ⟨k, hk, rfl, hown, hq1, hq3, hsz, hb⟩ := hrel
    have j1 := hq1.cell
    have j3 := hq3.cell
    have jn1 := hq1.frozen
    by_cases hlt : k < x.cells.length
    · have hfm : ∃ g, A1 = some ⟨g, 0, none⟩ := by
        rcases hown.2 with ⟨_, h⟩ | ⟨g, cap, cur, h, _⟩
        · rw [unverTo_len] at h; omega
        · injection h with h1 _ _
          exact ⟨g, h1⟩
      obtain ⟨g, rfl⟩ := hfm
      obtain ⟨hg1, hg2⟩ := hA1 g rfl
      have hown' := hown
      unfold OwnC at hown'
      rw [unverTo_len] at hown'
      have hcl : (cellsOf (unverTo x.cells k))[k * 6 + 1]? = some ((cellsOf (unverTo x.cells k))[k * 6 + 1]'(by rw [cellsOf_len, unverTo_len]; omega)) := List.getElem?_eq_getElem _
      have q0 := (hown'.cellAt (k * 6 + 1) (by omega)).trans hcl
      have qf := hown'.frozenAt (k * 6 + 1)
      have hset := hown'.stored (k * 6 + 1) (.int .i64 0)
      rw [unver_cells _ _ hlt] at hset
      clear hcl hown hA1
      go_wp2_with fail
      go_roundw
      case rel =>
        refine ⟨k + 1, by omega, by go_num, ?_, hq1.far (by simp; omega) _, hq3.far (by simp; omega) _, by simpa [World.setCell] using hsz, hb.setCell (by simp; omega) _⟩
        unfold OwnC
        rw [unverTo_len]
        exact hset.1
      case measure => (simp [intOf] <;> omega)
    · have hkk := Lib.hid (show k = x.cells.length by omega)
      have hh := Lib.hid hA1
      clear hA1
      go_wp2_with fail
      have hk2 := hkk.out
      subst hk2
      rw [unverTo_all] at hown
      refine bodyPost_ret (v := .agg #[.slice A1 x.cells.length c1]) (by simp [results, Try.results37, go_sem, j1]) rfl ⟨_, rfl, ?_, hb.setCell (by simp) _⟩
      refine ownsRow_far (ownsRow_mono hown (by omega)) (fun e => ?_) _
      cases A1 with
      | none => simp [Value.ownBlock] at e
      | some a =>
        have := hown.lt a.block (by rfl)
        simp [Value.ownBlock] at e
        omega

theorem neq_take {l l' : List GCell} {k : Nat} (h1 : k < l.length) (h2 : k < l'.length) (h : l[k] ≠ l'[k]) : l ≠ l' := fun e => by
  subst e
  exact h rfl
theorem take_step {l l' : List GCell} {k : Nat} (h1 : k < l.length) (h2 : k < l'.length) (ht : l.take k = l'.take k) (h : l[k] = l'[k]) : l.take (k + 1) = l'.take (k + 1) := by
  rw [List.take_succ_eq_append_getElem h1, List.take_succ_eq_append_getElem h2, ht, h]

set_option maxHeartbeats 2000000 in
theorem same_cells (l l' : List GCell) (fp fp' : List Nat) (v v' : Value) (w : World) (hS1 : Sl w (l.map GCell.toD) fp v) (hS2 : Sl w (l'.map GCell.toD) fp' v') (hn : l.length ≤ 1048576) :
    Calls Try.prog 36 #[v, v'] w (RetB (.bool (decide (l = l'))) w) := by
  obtain ⟨A, c, rfl, hq1, hq2⟩ := hS1.formT
  obtain ⟨A', c', rfl, hq3, hq4⟩ := hS2.formT
  clear hq1 hq2 hq3 hq4
  by_cases hlen : l.length = l'.length
  · have hb0 : ((l.length : Int) != (l'.length : Int)) = false := by simp [hlen]
    have hlen' := Lib.hid hlen
    clear hlen
    go_enter Try.func36, Try.ntmps36
    go_wp2_with fail
    go_loopw [13] (fun iv wr => ∃ k : Nat, k ≤ l.length ∧ iv = .int .i64 k ∧ l.take k = l'.take k ∧ Below w.heap.size w wr) (fun iv _ => l.length - (intOf iv).toNat)
    case atStart => exact ⟨0, by omega, rfl, by simp, Below.refl _ _⟩
    case round =>
      obtain ⟨k, hk, rfl, hte, hb⟩ := hrel
      have hte' := Lib.hid hte
      clear hte
      by_cases hlt : k < l.length
      · have hlt2 : k < l'.length := by have := hlen'.out; omega
        have hi1 : 0 ≤ (k : Int) := by omega
        have hi2 : (k : Int) < l.length := by omega
        have hi3 : (k : Int) < l'.length := by omega
        have hd1 : (l.map GCell.toD)[k]? = some (GCell.toD l[k]) := by rw [List.getElem?_map, List.getElem?_eq_getElem hlt]; rfl
        have hd2 : (l'.map GCell.toD)[k]? = some (GCell.toD l'[k]) := by rw [List.getElem?_map, List.getElem?_eq_getElem hlt2]; rfl
        obtain ⟨b1, o1, fi1, ci1, rfl, hbb1, hbf1, hri1, hfi1, hat1⟩ := hS1.elem GCell.szs hd1
        obtain ⟨b2, o2, fi2, ci2, rfl, hbb2, hbf2, hri2, hfi2, hat2⟩ := hS2.elem GCell.szs hd2
        obtain ⟨rfl, rfl⟩ := GCell.opened.1 hri1
        obtain ⟨rfl, rfl⟩ := GCell.opened.1 hri2
        have q10 : wr.cell? ⟨b1, o1 + k * 6, none⟩ = some (.int .i64 l[k].id) := (hb.cell (p := ⟨b1, o1 + k * 6, none⟩) hbb1).trans (hat1.head)
        have q11 : wr.cell? ⟨b1, o1 + k * 6 + 1, none⟩ = some (.int .i64 l[k].ver) := (hb.cell (p := ⟨b1, o1 + k * 6 + 1, none⟩) hbb1).trans (hat1.nth 1 rfl)
        have q12 : wr.cell? ⟨b1, o1 + k * 6 + 2, none⟩ = some (.int .i64 l[k].kind) := (hb.cell (p := ⟨b1, o1 + k * 6 + 2, none⟩) hbb1).trans (hat1.nth 2 rfl)
        have q13 : wr.cell? ⟨b1, o1 + k * 6 + 3, none⟩ = some (.string l[k].name) := (hb.cell (p := ⟨b1, o1 + k * 6 + 3, none⟩) hbb1).trans (hat1.nth 3 rfl)
        have q14 : wr.cell? ⟨b1, o1 + k * 6 + 4, none⟩ = some (.string l[k].code) := (hb.cell (p := ⟨b1, o1 + k * 6 + 4, none⟩) hbb1).trans (hat1.nth 4 rfl)
        have q15 : wr.cell? ⟨b1, o1 + k * 6 + 5, none⟩ = some (.int .i64 l[k].n) := (hb.cell (p := ⟨b1, o1 + k * 6 + 5, none⟩) hbb1).trans (hat1.nth 5 rfl)
        have q20 : wr.cell? ⟨b2, o2 + k * 6, none⟩ = some (.int .i64 l'[k].id) := (hb.cell (p := ⟨b2, o2 + k * 6, none⟩) hbb2).trans (hat2.head)
        have q21 : wr.cell? ⟨b2, o2 + k * 6 + 1, none⟩ = some (.int .i64 l'[k].ver) := (hb.cell (p := ⟨b2, o2 + k * 6 + 1, none⟩) hbb2).trans (hat2.nth 1 rfl)
        have q22 : wr.cell? ⟨b2, o2 + k * 6 + 2, none⟩ = some (.int .i64 l'[k].kind) := (hb.cell (p := ⟨b2, o2 + k * 6 + 2, none⟩) hbb2).trans (hat2.nth 2 rfl)
        have q23 : wr.cell? ⟨b2, o2 + k * 6 + 3, none⟩ = some (.string l'[k].name) := (hb.cell (p := ⟨b2, o2 + k * 6 + 3, none⟩) hbb2).trans (hat2.nth 3 rfl)
        have q24 : wr.cell? ⟨b2, o2 + k * 6 + 4, none⟩ = some (.string l'[k].code) := (hb.cell (p := ⟨b2, o2 + k * 6 + 4, none⟩) hbb2).trans (hat2.nth 4 rfl)
        have q25 : wr.cell? ⟨b2, o2 + k * 6 + 5, none⟩ = some (.int .i64 l'[k].n) := (hb.cell (p := ⟨b2, o2 + k * 6 + 5, none⟩) hbb2).trans (hat2.nth 5 rfl)

        clear hat1 hat2 hd1 hd2 hri1 hri2
        have hneq := neqCell l[k] l'[k]
        by_cases hxy : l[k] = l'[k]
        · have hde : (!decide (l[k] = l'[k])) = false := by simp [hxy]
          rw [hde] at hneq
          clear hde
          have hxy' := Lib.hid hxy
          clear hxy
          go_wp2_with fail
          go_quiet (fail)
          go_wp2_with fail
          go_roundw
          case rel => exact ⟨k + 1, by omega, by go_num, take_step hlt hlt2 hte'.out hxy'.out, below_drewN hb _⟩
          case measure => (simp [intOf] <;> omega)
        · have hde : (!decide (l[k] = l'[k])) = true := by simp [hxy]
          rw [hde] at hneq
          clear hde
          have hf := Lib.hid (show false = decide (l = l') by rw [decide_eq_false (neq_take hlt hlt2 hxy)])
          clear hxy
          go_wp2_with fail
          go_quiet (fail)
          go_wp2_with fail
          go_ret
          exact ⟨ret_bool hf.out, below_drewN hb _⟩
      · have hf := Lib.hid (show true = decide (l = l') by
          have h1 := hte'.out
          have h2 := hlen'.out
          rw [List.take_of_length_le (by omega), List.take_of_length_le (by omega)] at h1
          rw [decide_eq_true h1])
        go_wp2_with fail
        go_ret
        exact ⟨ret_bool hf.out, hb⟩
  · have hb0 : ((l.length : Int) != (l'.length : Int)) = true := by simp; omega
    have hf := Lib.hid (show false = decide (l = l') by rw [decide_eq_false (fun e => hlen (by rw [e]))])
    clear hlen
    go_enter Try.func36, Try.ntmps36
    go_wp2_with fail
    go_ret
    exact ⟨ret_bool hf.out, Below.refl _ _⟩
set_option maxHeartbeats 2000000 in
theorem equalNotebook_spec (l l' : List GCell) (fp fp' : List Nat) (v v' : Value) (w : World) (hS1 : Sl w (l.map GCell.toD) fp v) (hS2 : Sl w (l'.map GCell.toD) fp' v') (hn : l.length ≤ 1048576) :
    Calls Try.prog 16 #[.agg #[v], .agg #[v']] w (RetB (.bool (decide (l = l'))) w) := by
  obtain ⟨A, c, rfl, hq1, hq2⟩ := hS1.formT
  obtain ⟨A', c', rfl, hq3, hq4⟩ := hS2.formT
  clear hq1 hq2 hq3 hq4
  by_cases hlen : l.length = l'.length
  · have hb0 : ((l.length : Int) != (l'.length : Int)) = false := by simp [hlen]
    have hlen' := Lib.hid hlen
    clear hlen
    go_enter Try.func16, Try.ntmps16
    go_wp2_with fail
    go_loopw [5] (fun iv wr => ∃ k : Nat, k ≤ l.length ∧ iv = .int .i64 k ∧ l.take k = l'.take k ∧ Row wr w.heap.size 26 [.slice A l.length c] ∧ Row wr (w.heap.size + 1) 26 [.slice A' l'.length c'] ∧ Below w.heap.size w wr) (fun iv _ => l.length - (intOf iv).toNat)
    case atStart =>
      obtain ⟨r0, r1, _, hB⟩ := rows2 (Below.refl _ ((w.alloc (.cells #[.slice A l.length c] 26)).alloc (.cells #[.slice A' l'.length c'] 26)))
      exact ⟨0, by omega, rfl, by simp, r0, r1, hB⟩
    case round =>
      obtain ⟨k, hk, rfl, hte, hro0, hro1, hb⟩ := hrel
      have kk0 := hro0.cell
      have kk1 := hro1.cell
      have hte' := Lib.hid hte
      clear hte
      by_cases hlt : k < l.length
      · have hlt2 : k < l'.length := by have := hlen'.out; omega
        have hi1 : 0 ≤ (k : Int) := by omega
        have hi2 : (k : Int) < l.length := by omega
        have hi3 : (k : Int) < l'.length := by omega
        have hd1 : (l.map GCell.toD)[k]? = some (GCell.toD l[k]) := by rw [List.getElem?_map, List.getElem?_eq_getElem hlt]; rfl
        have hd2 : (l'.map GCell.toD)[k]? = some (GCell.toD l'[k]) := by rw [List.getElem?_map, List.getElem?_eq_getElem hlt2]; rfl
        obtain ⟨b1, o1, fi1, ci1, rfl, hbb1, hbf1, hri1, hfi1, hat1⟩ := hS1.elem GCell.szs hd1
        obtain ⟨b2, o2, fi2, ci2, rfl, hbb2, hbf2, hri2, hfi2, hat2⟩ := hS2.elem GCell.szs hd2
        obtain ⟨rfl, rfl⟩ := GCell.opened.1 hri1
        obtain ⟨rfl, rfl⟩ := GCell.opened.1 hri2
        have q10 : wr.cell? ⟨b1, o1 + k * 6, none⟩ = some (.int .i64 l[k].id) := (hb.cell (p := ⟨b1, o1 + k * 6, none⟩) hbb1).trans (hat1.head)
        have q11 : wr.cell? ⟨b1, o1 + k * 6 + 1, none⟩ = some (.int .i64 l[k].ver) := (hb.cell (p := ⟨b1, o1 + k * 6 + 1, none⟩) hbb1).trans (hat1.nth 1 rfl)
        have q12 : wr.cell? ⟨b1, o1 + k * 6 + 2, none⟩ = some (.int .i64 l[k].kind) := (hb.cell (p := ⟨b1, o1 + k * 6 + 2, none⟩) hbb1).trans (hat1.nth 2 rfl)
        have q13 : wr.cell? ⟨b1, o1 + k * 6 + 3, none⟩ = some (.string l[k].name) := (hb.cell (p := ⟨b1, o1 + k * 6 + 3, none⟩) hbb1).trans (hat1.nth 3 rfl)
        have q14 : wr.cell? ⟨b1, o1 + k * 6 + 4, none⟩ = some (.string l[k].code) := (hb.cell (p := ⟨b1, o1 + k * 6 + 4, none⟩) hbb1).trans (hat1.nth 4 rfl)
        have q15 : wr.cell? ⟨b1, o1 + k * 6 + 5, none⟩ = some (.int .i64 l[k].n) := (hb.cell (p := ⟨b1, o1 + k * 6 + 5, none⟩) hbb1).trans (hat1.nth 5 rfl)
        have q20 : wr.cell? ⟨b2, o2 + k * 6, none⟩ = some (.int .i64 l'[k].id) := (hb.cell (p := ⟨b2, o2 + k * 6, none⟩) hbb2).trans (hat2.head)
        have q21 : wr.cell? ⟨b2, o2 + k * 6 + 1, none⟩ = some (.int .i64 l'[k].ver) := (hb.cell (p := ⟨b2, o2 + k * 6 + 1, none⟩) hbb2).trans (hat2.nth 1 rfl)
        have q22 : wr.cell? ⟨b2, o2 + k * 6 + 2, none⟩ = some (.int .i64 l'[k].kind) := (hb.cell (p := ⟨b2, o2 + k * 6 + 2, none⟩) hbb2).trans (hat2.nth 2 rfl)
        have q23 : wr.cell? ⟨b2, o2 + k * 6 + 3, none⟩ = some (.string l'[k].name) := (hb.cell (p := ⟨b2, o2 + k * 6 + 3, none⟩) hbb2).trans (hat2.nth 3 rfl)
        have q24 : wr.cell? ⟨b2, o2 + k * 6 + 4, none⟩ = some (.string l'[k].code) := (hb.cell (p := ⟨b2, o2 + k * 6 + 4, none⟩) hbb2).trans (hat2.nth 4 rfl)
        have q25 : wr.cell? ⟨b2, o2 + k * 6 + 5, none⟩ = some (.int .i64 l'[k].n) := (hb.cell (p := ⟨b2, o2 + k * 6 + 5, none⟩) hbb2).trans (hat2.nth 5 rfl)

        clear hat1 hat2 hd1 hd2 hri1 hri2
        have hneq := neqCell l[k] l'[k]
        by_cases hxy : l[k] = l'[k]
        · have hde : (!decide (l[k] = l'[k])) = false := by simp [hxy]
          rw [hde] at hneq
          clear hde
          have hxy' := Lib.hid hxy
          clear hxy
          go_wp2_with fail
          go_quiet (fail)
          go_wp2_with fail
          go_roundw
          case rel => exact ⟨k + 1, by omega, by go_num, take_step hlt hlt2 hte'.out hxy'.out, hro0, hro1, below_drewN hb _⟩
          case measure => (simp [intOf] <;> omega)
        · have hde : (!decide (l[k] = l'[k])) = true := by simp [hxy]
          rw [hde] at hneq
          clear hde
          have hf := Lib.hid (show false = decide (l = l') by rw [decide_eq_false (neq_take hlt hlt2 hxy)])
          clear hxy
          go_wp2_with fail
          go_quiet (fail)
          go_wp2_with fail
          go_ret
          exact ⟨ret_bool hf.out, below_drewN hb _⟩
      · have hf := Lib.hid (show true = decide (l = l') by
          have h1 := hte'.out
          have h2 := hlen'.out
          rw [List.take_of_length_le (by omega), List.take_of_length_le (by omega)] at h1
          rw [decide_eq_true h1])
        go_wp2_with fail
        go_ret
        exact ⟨ret_bool hf.out, hb⟩
  · have hb0 : ((l.length : Int) != (l'.length : Int)) = true := by simp; omega
    have hf := Lib.hid (show false = decide (l = l') by rw [decide_eq_false (fun e => hlen (by rw [e]))])
    clear hlen
    go_enter Try.func16, Try.ntmps16
    go_wp2_with fail
    go_ret
    exact ⟨ret_bool hf.out, ((Below.refl _ _).alloc (by simp) _).alloc (by simp; try omega) _⟩

theorem equalNotebook_impl (l l' : List GCell) (fp fp' : List Nat) (v v' : Value) (w : World) (hS1 : Sl w (l.map GCell.toD) fp v) (hS2 : Sl w (l'.map GCell.toD) fp' v') (hn : l.length ≤ 1048576) :
    Calls Try.prog 15 #[.agg #[v], .agg #[v']] w (RetB (.bool (decide (l = l'))) w) := by
  have hP : ∀ wx : World, Below w.heap.size w wx → Calls Try.prog 36 #[v, v'] wx (RetB (.bool (decide (l = l'))) wx) := fun wx h => same_cells l l' fp fp' v v' wx (hS1.below h) (hS2.below h) hn
  obtain ⟨A, c, rfl, hq1, hq2⟩ := hS1.formT
  obtain ⟨A', c', rfl, hq3, hq4⟩ := hS2.formT
  clear hq1 hq2 hq3 hq4
  generalize decide (l = l') = b at *
  go_enter Try.func15, Try.ntmps15
  go_wp2_with fail
  refine (hP _ ?_).mono ?_
  · exact ((Below.refl _ _).alloc (by simp) _).alloc (by simp; try omega) _
  rintro e w1 ⟨rfl, hb1⟩
  obtain ⟨hr0, hr1, hz1, G1⟩ := rows2 hb1
  clear hb1
  go_wp2_with fail
  go_ret
  exact ⟨rfl, G1⟩

theorem unver_length (l : List GCell) : (l.map GCell.unver).length = l.length := List.length_map ..
set_option maxHeartbeats 1000000 in
theorem sameContent_impl (x y : GNb) (f1 f2 : List Nat) (c1 c2 : List Value) (w : World) (h1 : R w x.toD f1 c1) (h2 : R w y.toD f2 c2) (hn : x.cells.length ≤ 1048576) (hm : y.cells.length ≤ 1048576) :
    Calls Try.prog 17 #[.agg c1.toArray, .agg c2.toArray] w (RetB (.bool (decide (x.cells.map GCell.unver = y.cells.map GCell.unver))) w) := by
  have hP : ∀ wx : World, Below w.heap.size w wx → Calls Try.prog 37 #[.agg c1.toArray] wx (CopyPost ⟨x.cells.map GCell.unver⟩ wx) := fun wx h => unversioned_impl x f1 c1 wx (h1.below h) hn
  have hQ : ∀ wx : World, Below w.heap.size w wx → Calls Try.prog 37 #[.agg c2.toArray] wx (CopyPost ⟨y.cells.map GCell.unver⟩ wx) := fun wx h => unversioned_impl y f2 c2 wx (h2.below h) hm
  obtain ⟨v1, g1, rfl, rfl, hS1⟩ := GNb.opened.1 h1
  obtain ⟨v2, g2, rfl, rfl, hS2⟩ := GNb.opened.1 h2
  obtain ⟨A1, d1, rfl, _, _⟩ := hS1.formT
  obtain ⟨A2, d2, rfl, _, _⟩ := hS2.formT
  clear h1 h2 hS1 hS2
  go_enter Try.func17, Try.ntmps17
  have tok1 : True := trivial
  have tok2 : True := trivial
  go_wp2_with fail
  go_region_held3 (fun w' => w'.cell? ⟨w.heap.size, 0, none⟩ = some (.slice A1 x.cells.length d1) ∧ w'.cell? ⟨w.heap.size + 1, 0, none⟩ = some (.slice A2 y.cells.length d2)) (go_keep)
    (first
    | (go_at_call 37; have _t := tok1; refine (hP _ ?_).mono ?_; (exact (((Below.refl _ _).alloc (by simp) _).alloc (by simp; try omega) _).drew); rintro e w1 ⟨u1, rfl, ho1, hb1⟩; obtain ⟨hr0, hr1, hz1, G1⟩ := rows2 ((Below.refl _ _).drew.trans hb1); have k0 := hr0.cell; have k1 := hr1.cell; clear hb1 tok1)
    | (go_at_call 37; have _t := tok2; refine (hQ _ ?_).mono ?_; (exact G1); rintro e w2 ⟨u2, rfl, ho2, hb2⟩; have k2 := (hr0.below hb2).cell; have k3 := (hr1.below hb2).cell; clear tok2)
    | (go_at_call 15; refine (equalNotebook_impl _ _ _ _ _ _ _ ((ho1.sl).below hb2) ho2.sl (by rw [unver_length]; exact hn)).mono ?_; rintro e w3 ⟨rfl, hb3⟩; have k4 := ((hr0.below hb2).below hb3).cell; have k5 := ((hr1.below hb2).below hb3).cell))
  go_wp2_with fail
  go_ret
  exact ⟨rfl, (G1.trans (hb2.mono (by omega))).trans (hb3.mono (by have := hb2.size; omega))⟩

theorem OwnC.addr {w : World} {base : Nat} {l : List GCell} {A : Option Addr} {n c : Nat} (h : OwnC w base l (.slice A n c)) (hn : 0 < l.length) : ∃ g, A = some ⟨g, 0, none⟩ ∧ base ≤ g ∧ g < w.heap.size := by
  rcases h.2 with ⟨_, h'⟩ | ⟨g, cap, cur, h', hb, hh, _⟩
  · omega
  · injection h' with h1 _ _
    refine ⟨g, h1, hb, ?_⟩
    rcases Nat.lt_or_ge g w.heap.size with hlt | hge
    · exact hlt
    · rw [Array.getElem?_eq_none hge] at hh; cases hh
theorem OwnC.lt_ {w : World} {base : Nat} {l : List GCell} {A : Option Addr} {n c : Nat} (h : OwnC w base l (.slice A n c)) : ∀ g, A = some ⟨g, 0, none⟩ → base ≤ g ∧ g < w.heap.size := fun g e => World.ownsRow.lt h g (by rw [e]; rfl)
theorem OwnC.strike {w : World} {base g c k : Nat} {l : List GCell} (h : OwnC w base (unverTo l k) (.slice (some ⟨g, 0, none⟩) l.length c)) (hk : k < l.length) :
    (∃ u, w.cell? ⟨g, k * 6 + 1, none⟩ = some u) ∧ w.frozen? ⟨g, k * 6 + 1, none⟩ = false ∧ OwnC (w.setCell ⟨g, k * 6 + 1, none⟩ (.int .i64 0)) base (unverTo l (k + 1)) (.slice (some ⟨g, 0, none⟩) l.length c) := by
  unfold OwnC at *
  rw [unverTo_len] at *
  have hset := h.stored (k * 6 + 1) (.int .i64 0)
  rw [unver_cells _ _ hk] at hset
  refine ⟨⟨_, (h.cellAt (k * 6 + 1) (by omega)).trans (List.getElem?_eq_getElem (by rw [cellsOf_len, unverTo_len]; omega))⟩, h.frozenAt _, hset.1⟩

set_option maxHeartbeats 2000000 in
theorem sameContent_spec (x y : GNb) (f1 f2 : List Nat) (c1 c2 : List Value) (w : World) (h1 : R w x.toD f1 c1) (h2 : R w y.toD f2 c2) (hn : x.cells.length ≤ 1048576) (hm : y.cells.length ≤ 1048576) :
    Calls Try.prog 18 #[.agg c1.toArray, .agg c2.toArray] w (RetB (.bool (decide (x.cells.map GCell.unver = y.cells.map GCell.unver))) w) := by
  have hP : ∀ wx : World, Below w.heap.size w wx → Calls Try.prog 38 #[.agg c1.toArray] wx (CopyPost x wx) := fun wx h => l17Copy_spec x f1 c1 wx (h1.below h) hn
  have hQ : ∀ wx : World, Below w.heap.size w wx → Calls Try.prog 38 #[.agg c2.toArray] wx (CopyPost y wx) := fun wx h => l17Copy_spec y f2 c2 wx (h2.below h) hm
  obtain ⟨v1, g1, rfl, rfl, hS1⟩ := GNb.opened.1 h1
  obtain ⟨v2, g2, rfl, rfl, hS2⟩ := GNb.opened.1 h2
  obtain ⟨A1, d1, rfl, _, _⟩ := hS1.formT
  obtain ⟨A2, d2, rfl, _, _⟩ := hS2.formT
  clear h1 h2 hS1 hS2
  go_enter Try.func18, Try.ntmps18
  go_wp2_with fail
  refine (hP _ ?_).mono ?_
  · exact ((Below.refl _ _).alloc (by simp) _).alloc (by simp; try omega) _
  rintro e w1 ⟨u1, rfl, ho1, hb1⟩
  obtain ⟨hr0, hr1, hz1, G1⟩ := rows2 hb1
  obtain ⟨B1, e1, hv1⟩ := ownsRow_form ho1
  have k1 := fun o => (hr1.below ((Below.refl w1.heap.size w1).alloc (Nat.le_refl _) o)).cell
  clear hb1
  subst hv1
  go_wp2_with fail
  refine (hQ _ ?_).mono ?_
  · exact G1.alloc (by omega) _
  rintro e w2 ⟨u2, rfl, ho2, hb2⟩
  obtain ⟨B2, e2, hv2⟩ := ownsRow_form ho2
  subst hv2
  obtain ⟨hr2, hz2, G2⟩ := rows1 hb2
  have ho1' : OwnC w2 (w.heap.size + 2) x.cells (.slice B1 x.cells.length e1) := ownsRow_below (ownsRow_below (ownsRow_mono ho1 (by simp)) ((Below.refl _ _).alloc (Nat.le_refl _) _)) hb2
  have ho2' : OwnC w2 (w1.heap.size + 1) y.cells (.slice B2 y.cells.length e2) := ownsRow_mono ho2 (by simp)
  have hA1 : ∀ g, B1 = some ⟨g, 0, none⟩ → w.heap.size + 2 ≤ g ∧ g < w1.heap.size := fun g e => by have := ho1.lt_ g e; simpa using this
  have hA2 := ho2'.lt_
  have hA1' := hA1
  have H2 : Below w.heap.size w w2 := G1.trans (G2.mono (by omega))
  clear ho1 ho2 hb2 hr0 hr1 k1 G1 G2
  go_wp2_with fail
  go_loopw [7] (fun iv wr => ∃ k : Nat, k ≤ x.cells.length ∧ iv = .int .i64 k ∧ OwnC wr (w.heap.size + 2) (unverTo x.cells k) (.slice B1 x.cells.length e1) ∧ OwnC wr (w1.heap.size + 1) y.cells (.slice B2 y.cells.length e2) ∧ Row wr w1.heap.size 26 [.slice B1 x.cells.length e1] ∧ Row wr w2.heap.size 26 [.slice B2 y.cells.length e2] ∧ w2.heap.size + 1 ≤ wr.heap.size ∧ Below w.heap.size w wr) (fun iv _ => x.cells.length - (intOf iv).toNat)
  case atStart =>
    have ha := (Below.refl w2.heap.size w2).alloc (Nat.le_refl _) (.cells #[.slice B2 y.cells.length e2] 26)
    refine ⟨0, by omega, rfl, ?_, ownsRow_below ho2' ha, hr2.below ha, Row.new _ _ _, by simp, H2.trans (ha.mono H2.size)⟩
    rw [unverTo_zero]
    exact ownsRow_below ho1' ha
  case round =>
    obtain ⟨k, hk, rfl, hox, hoy, hq1, hq2, hsz, hb⟩ := hrel
    have j1 := hq1.cell
    have j2 := hq2.cell
    have n1 := hq1.frozen
    by_cases hlt : k < x.cells.length
    · obtain ⟨g, rfl, hga, hgb⟩ := hox.addr (by rw [unverTo_len]; omega)
      obtain ⟨hgc, hgd⟩ := hA1 g rfl
      obtain ⟨⟨ou, q0⟩, qf, hset⟩ := hox.strike hlt
      have hfar : OwnC (wr.setCell ⟨g, k * 6 + 1, none⟩ (.int .i64 0)) (w1.heap.size + 1) y.cells (.slice B2 y.cells.length e2) := ownsRow_far hoy (fun e => by
        cases B2 with
        | none => simp [Value.ownBlock] at e
        | some a =>
          have := World.ownsRow.lt hoy a.block rfl
          simp [Value.ownBlock] at e
          omega) _
      clear hox hA1 hA1' hA2 ho1' ho2' hoy
      go_wp2_with fail
      go_roundw
      case rel => exact ⟨k + 1, by omega, by go_num, hset, hfar, hq1.far (by simp; omega) _, hq2.far (by simp; omega) _, by simpa [World.setCell] using hsz, hb.setCell (by simp; omega) _⟩
      case measure => (simp [intOf] <;> omega)
    · have hkk := Lib.hid (show k = x.cells.length by omega)
      clear ho1' ho2' hA1
      go_wp2_with fail
      have hk2 := hkk.out
      subst hk2
      rw [unverTo_all] at hox
      clear hkk
      obtain ⟨wo, rfl⟩ : ∃ wo : World, wo = wr := ⟨_, rfl⟩
      go_loopw [8] (fun iv wr => ∃ k : Nat, k ≤ y.cells.length ∧ iv = .int .i64 k ∧ OwnC wr (w.heap.size + 2) (x.cells.map GCell.unver) (.slice B1 x.cells.length e1) ∧ OwnC wr (w1.heap.size + 1) (unverTo y.cells k) (.slice B2 y.cells.length e2) ∧ Row wr w1.heap.size 26 [.slice B1 x.cells.length e1] ∧ Row wr w2.heap.size 26 [.slice B2 y.cells.length e2] ∧ w2.heap.size + 1 ≤ wr.heap.size ∧ Below w.heap.size w wr) (fun iv _ => y.cells.length - (intOf iv).toNat)
      case atStart =>
        refine ⟨0, by omega, rfl, hox, ?_, hq1, hq2, hsz, hb⟩
        rw [unverTo_zero]
        exact hoy
      case round =>
        obtain ⟨k, hk, rfl, hox, hoy, hq1, hq2, hsz, hb⟩ := hrel
        have j1 := hq1.cell
        have j2 := hq2.cell
        by_cases hlt : k < y.cells.length
        · obtain ⟨g, rfl, hga, hgb⟩ := hoy.addr (by rw [unverTo_len]; omega)
          obtain ⟨hgc, hgd⟩ := hA2 g rfl
          obtain ⟨⟨ou, q0⟩, qf, hset⟩ := hoy.strike hlt
          have hfar : OwnC (wr.setCell ⟨g, k * 6 + 1, none⟩ (.int .i64 0)) (w.heap.size + 2) (x.cells.map GCell.unver) (.slice B1 x.cells.length e1) := ownsRow_far hox (fun e => by
            cases B1 with
            | none => simp [Value.ownBlock] at e
            | some a =>
              have h1 := World.ownsRow.lt hox a.block rfl
              have h2 : a.spot = none ∧ a.off = 0 := by
                rcases hox.2 with ⟨h, _⟩ | ⟨g', cap, cur, h, _⟩
                · cases h
                · injection h with h' _ _
                  injection h' with h''
                  rw [h'']
                  exact ⟨rfl, rfl⟩
              obtain ⟨ab, ao, asp⟩ := a
              obtain ⟨rfl, rfl⟩ := h2
              have h3 := hA1' ab rfl
              simp [Value.ownBlock] at e
              omega) _
          clear hoy hA1' hA2 hox
          go_wp2_with fail
          go_roundw
          case rel => exact ⟨k + 1, by omega, by go_num, hfar, hset, hq1.far (by simp; omega) _, hq2.far (by simp; omega) _, by simpa [World.setCell] using hsz, hb.setCell (by simp; omega) _⟩
          case measure => (simp [intOf] <;> omega)
        · have hkk := Lib.hid (show k = y.cells.length by omega)
          clear hA1' hA2
          go_wp2_with fail
          have hk2 := hkk.out
          subst hk2
          rw [unverTo_all] at hoy
          have so1 : Sl wr ((x.cells.map GCell.unver).map GCell.toD) _ (.slice B1 x.cells.length e1) := OwnC.sl hox
          have so2 : Sl wr ((y.cells.map GCell.unver).map GCell.toD) _ (.slice B2 y.cells.length e2) := OwnC.sl hoy
          have hE : ∀ wx : World, Below wr.heap.size wr wx → Calls Try.prog 16 #[.agg #[.slice B1 x.cells.length e1], .agg #[.slice B2 y.cells.length e2]] wx (RetB (.bool (decide (x.cells.map GCell.unver = y.cells.map GCell.unver))) wx) := fun wx h => equalNotebook_spec _ _ _ _ _ _ wx (so1.below h) (so2.below h) (by rw [unver_length]; exact hn)
          generalize decide (x.cells.map GCell.unver = y.cells.map GCell.unver) = bb at *
          clear hkk so1 so2 hox hoy
          go_wp2_with fail
          refine (hE _ (Below.refl _ _)).mono ?_
          rintro e w3 ⟨rfl, hb3⟩
          go_wp2_with fail
          go_ret
          exact ⟨rfl, hb.trans (hb3.mono (by have := hb.size; omega))⟩
end Go.Proofs.Ytnongnchpplacaa

namespace Go.Proofs.Ytnongnchpplacaa
open Go.RowKit
set_option linter.unusedSimpArgs false
set_option linter.unusedVariables false

end Go.Proofs.Ytnongnchpplacaa

namespace Go.Proofs.Ytnongnchpplacaa
open Go.RowKit
set_option linter.unusedSimpArgs false
set_option linter.unusedVariables false
def rb (b : Bool) : AV := .c false [.raw (.bool b)]
theorem nb_leaf {w : World} {x : GNb} {v : Value} (h : Rd w x.toD v) : ∃ fp u, v = .agg #[u] ∧ Sl w (x.cells.map GCell.toD) fp u ∧ R w x.toD fp [u] := by
  obtain ⟨fp, cs, rfl, h2⟩ := rd_agg x.agg_eq h
  have h3 := h2
  obtain ⟨u, g, rfl, rfl, h1⟩ := GNb.opened.1 h3
  exact ⟨_, u, rfl, h1, h2⟩
theorem cell_leaf {w : World} {x : GCell} {v : Value} (h : Rd w x.toD v) : v = .agg #[.int .i64 x.id, .int .i64 x.ver, .int .i64 x.kind, .string x.name, .string x.code, .int .i64 x.n] := by
  obtain ⟨fp, cs, rfl, h2⟩ := rd_agg x.agg_eq h
  obtain ⟨rfl, rfl⟩ := GCell.opened.1 h2
  rfl

theorem cellIndex_impl_to (x : GNb) (id : Int) : CallsTo Try.prog 11 [x.toD, li id] (.c false [.raw (.int .i64 (cellIdx x.cells id))]) := to_retB fun w vs hr => by
  obtain ⟨v, u, rfl, h1, h2⟩ := rds2 hr
  obtain ⟨fp, a, rfl, hS, _⟩ := nb_leaf h1
  obtain rfl := rd_leaf h2
  exact cellIndex_impl x.cells id fp a w hS
theorem isValidNb_impl_to (x : GNb) (hw : D.wfs (x.cells.map GCell.toD)) : CallsTo Try.prog 9 [x.toD] (.c false [.raw (.bool (validNb x.cells))]) := to_retB fun w vs hr => by
  obtain ⟨v, rfl, h1⟩ := rds1 hr
  obtain ⟨fp, a, rfl, hS, _⟩ := nb_leaf h1
  exact isValidNotebook_impl x.cells fp a w hS hw
theorem isValidCell_impl_to (x : GCell) (hw : x.toD.wf) : CallsTo Try.prog 12 [x.toD] (.c false [.raw (.bool (validCell x))]) := to_retB fun w vs hr => by
  obtain ⟨v, rfl, h1⟩ := rds1 hr
  obtain rfl := cell_leaf h1
  exact isValidCell_impl x hw w
theorem isValidNb_spec_to (x : GNb) (hw : D.wfs (x.cells.map GCell.toD)) : CallsTo Try.prog 10 [x.toD] (.c false [.raw (.bool (validNb x.cells))]) := to_retB fun w vs hr => by
  obtain ⟨v, rfl, h1⟩ := rds1 hr
  obtain ⟨fp, a, rfl, hS, _⟩ := nb_leaf h1
  exact isValidNotebook_spec x.cells fp a w hS hw
def ic_copyNb_spec : IC := (.seq (.reg false [⟨(some 1), none, .box (.t 0)⟩, ⟨(some 2), none, .alloc [(.slice none 0 0)]⟩]) (.seq (.reg false [⟨(some 3), none, .brow true 31 6 0 false []⟩, ⟨(some 4), none, .fad 0 (.t 1)⟩, ⟨(some 5), none, .load 1 false (.t 4)⟩, ⟨(some 6), none, .app 31 6 (.t 3) (.t 5)⟩, ⟨(some 7), none, .bld [(.slice none 0 0)] [(0, 1, (.t 6))]⟩, ⟨none, none, .store 1 (.t 2) (.t 7)⟩]) .ret))
theorem ic_copyNb_spec_ok : compC Try.prog (Try.f38.body.getD .skip) = some ic_copyNb_spec := by kernel_rfl
theorem copyNb_spec (x : GNb) (hn : x.cells.length ≤ 4194304) : CallsOwnG Try.prog 38 [x.toD] true (x.cells.map GCell.toD) 31 6 := by
  refine calls_wrap (fn := Try.f38) (t := 2) (ty := 26) (by kernel_rfl) (by kernel_rfl) (by kernel_rfl) (by kernel_rfl) ic_copyNb_spec_ok ?_
  have hn' : (x.cells.map GCell.toD).length ≤ 4194304 := by simpa using hn
  change AWP _ _ _ (st0 8 _)
  unfold ic_copyNb_spec
  simp only [undef, st0, stN, D.av, D.avN, sl_agg, leaf_agg, li_agg, ls_agg, sl_acs, leaf_acs, li_acs, ls_acs, GNb.acs_eq, GNb.flat_eq, GNb.agg_eq, GCell.acs_eq, GCell.flat_eq, GCell.agg_eq, GCell.el, GEdit.acs_eq, GEdit.flat_eq, GEdit.agg_eq, List.map_cons, List.map_nil, List.replicate, List.cons_append, List.nil_append, List.length_cons, List.length_nil, Nat.reduceAdd, Nat.reduceSub]
  repeat (first | (with_reducible refine awp_seq ?_) | (with_reducible refine awp_block ?_) | (with_reducible refine awp_skip ?_) | (with_reducible refine awp_exit ?_) | (with_reducible refine awp_ret ?_) | (with_reducible refine athen ?_) | (with_reducible refine thenExit ?_) | (with_reducible refine thenRet ?_) | (with_reducible refine blockNormal ?_) | (with_reducible refine blockExit ?_) | (with_reducible refine blockRet ?_) | (with_reducible refine roundExit ?_) | (with_reducible refine roundRet ?_) | ((with_reducible refine blockPass ?_ ?_); rfl) | ((with_reducible refine awp_condT ?_ ?_); rfl) | ((with_reducible refine awp_condF ?_ ?_); rfl) | ((with_reducible refine awp_reg ?_); intro K hK; simp only [↓pkS, ↓sw_guard, pkW, pkA, idx_nat, subB, undef, List.flatMap_cons, List.flatMap_nil, List.append_nil, linSrc, lvsD, lvD, lcsD, lcD, lvK, lcK, sealOs, sealO, capsOf, ex, St.put, St.ev, kav, gdA, opI, rawI, vbin, srcOf, avsD, acsD, AV.toD, AC.toD, AV.nw, AC.nw, AC.one, Value.oneCell', nilS_int, nilS_string, nilS_bool, nilS_nil, nilS_func, nilS_tuple, if_true, if_false, Bool.false_eq_true, fillA, D.one, D.ones, D.sz, D.szs, Nat.reduceAdd, Nat.reduceSub, Nat.reduceLeDiff, Nat.reduceEqDiff, reduceIte, GNb.acs_eq, GNb.flat_eq, GNb.agg_eq, GCell.acs_eq, GCell.flat_eq, GCell.agg_eq, GCell.el, GEdit.acs_eq, GEdit.flat_eq, GEdit.agg_eq]; first | (refine hK _ ?_; clear hK K) | (refine ⟨by (first | omega | (simp; omega)), hK _ ?_⟩; clear hK K) | (refine ⟨by (first | omega | (simp; omega)), by (first | omega | (simp; omega)), hK _ ?_⟩; clear hK K)))
  exact endRet ⟨1, 0, 1, rfl, rfl, _, rfl, rfl, rfl, rfl, rfl, Or.inr (GCell.flatL _)⟩
end Go.Proofs.Ytnongnchpplacaa

