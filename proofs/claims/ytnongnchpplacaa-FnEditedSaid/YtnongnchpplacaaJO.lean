/-
  Texts joined: Res Res2 Valid ValidNb Cells Edit1 Edit2.
-/
import Derived.Test.YtnongnchpplacaaJA
import Derived.Test.YtnongnchpplacaaProg
import Derived.KernelRfl
import Derived.Test.YtnongnchpplacaaJE
namespace Go.Proofs.Ytnongnchpplacaa
open Go.RowKit
set_option linter.unusedSimpArgs false
set_option linter.unusedVariables false
def dn : List (List UInt8 × Int) := [([99, 108, 111, 99, 107], 0), ([108, 101, 110], 1), ([115, 117, 109], 1), ([114, 111, 119, 115], 1), ([99, 104, 97, 110, 99, 101], 1), ([102, 105, 108, 101], 1), ([116, 97, 107, 101], 2), ([115, 107, 105, 112], 2), ([114, 97, 110, 103, 101], 2), ([110, 116, 104], 2), ([107, 101, 101, 112], 2), ([99, 111, 108, 117, 109, 110], 2), ([116, 97, 98, 108, 101], 2), ([119, 104, 101, 114, 101], 3), ([103, 114, 111, 117, 112], 3), ([106, 111, 105, 110], 3), ([97, 100, 100], 4)]
def eX : List (List UInt8 × Int) → List UInt8 → Int
  | [], _ => -1
  | (w, n) :: r, l => if l == w then n else eX r l
def bF (l : List UInt8) : Int := eX dn l
def lq : List (List UInt8) := [[108, 101, 116], [105, 110], [105, 102], [116, 104, 101, 110], [101, 108, 115, 101], [102, 111, 114], [100, 111]]
def qX : List (List UInt8) := [[108, 101, 116], [105, 110], [105, 102], [116, 104, 101, 110], [101, 108, 115, 101], [102, 111, 114], [100, 111], [108, 101, 110], [115, 117, 109], [116, 97, 107, 101], [115, 107, 105, 112], [114, 97, 110, 103, 101], [110, 116, 104], [119, 104, 101, 114, 101], [107, 101, 101, 112], [97, 100, 100], [103, 114, 111, 117, 112], [106, 111, 105, 110], [99, 111, 108, 117, 109, 110], [114, 111, 119, 115], [99, 108, 111, 99, 107], [99, 104, 97, 110, 99, 101], [102, 105, 108, 101], [116, 97, 98, 108, 101]]
def ni (l : List UInt8) : Bool := qX.contains l
theorem bZ {w l : List UInt8} {n : Int} {r : List (List UInt8 × Int)} (h : (l == w) = true) : eX ((w, n) :: r) l = n := by rw [eX, h]; rfl
theorem aj {w l : List UInt8} {n : Int} {r : List (List UInt8 × Int)} (h : (l == w) = false) : eX ((w, n) :: r) l = eX r l := by rw [eX, h]; rfl
theorem jO {w l : List UInt8} {r : List (List UInt8)} (h : (l == w) = true) : (w :: r).contains l = true := by rw [List.contains_cons, h]; rfl
theorem bn {w l : List UInt8} {r : List (List UInt8)} (h : (l == w) = false) : (w :: r).contains l = r.contains l := by rw [List.contains_cons, h]; rfl
set_option maxHeartbeats 8000000 in
theorem DX (s : ByteArray) (w : World) : Calls Try.prog 66 #[.string s] w (xY (.int .i64 (bF s.toList)) w) := by
  cases e0 : (s.toList == [99, 108, 111, 99, 107]) with
  | true =>
    have hf := Lib.hid (show (0 : Int) = bF s.toList from (show eX dn s.toList = 0 from bZ e0).symm)
    go_enter Try.func66, Try.ntmps66
    go_wp2
    go_ret
    exact ⟨dw hf.out, rfl⟩
  | false =>
    cases e1 : (s.toList == [108, 101, 110]) with
    | true =>
      have hf := Lib.hid (show (1 : Int) = bF s.toList from (show eX dn s.toList = 1 from (aj e0).trans (bZ e1)).symm)
      go_enter Try.func66, Try.ntmps66
      go_wp2
      go_ret
      exact ⟨dw hf.out, rfl⟩
    | false =>
      cases e2 : (s.toList == [115, 117, 109]) with
      | true =>
        have hf := Lib.hid (show (1 : Int) = bF s.toList from (show eX dn s.toList = 1 from (aj e0).trans ((aj e1).trans (bZ e2))).symm)
        go_enter Try.func66, Try.ntmps66
        go_wp2
        go_ret
        exact ⟨dw hf.out, rfl⟩
      | false =>
        cases e3 : (s.toList == [114, 111, 119, 115]) with
        | true =>
          have hf := Lib.hid (show (1 : Int) = bF s.toList from (show eX dn s.toList = 1 from (aj e0).trans ((aj e1).trans ((aj e2).trans (bZ e3)))).symm)
          go_enter Try.func66, Try.ntmps66
          go_wp2
          go_ret
          exact ⟨dw hf.out, rfl⟩
        | false =>
          cases e4 : (s.toList == [99, 104, 97, 110, 99, 101]) with
          | true =>
            have hf := Lib.hid (show (1 : Int) = bF s.toList from (show eX dn s.toList = 1 from (aj e0).trans ((aj e1).trans ((aj e2).trans ((aj e3).trans (bZ e4))))).symm)
            go_enter Try.func66, Try.ntmps66
            go_wp2
            go_ret
            exact ⟨dw hf.out, rfl⟩
          | false =>
            cases e5 : (s.toList == [102, 105, 108, 101]) with
            | true =>
              have hf := Lib.hid (show (1 : Int) = bF s.toList from (show eX dn s.toList = 1 from (aj e0).trans ((aj e1).trans ((aj e2).trans ((aj e3).trans ((aj e4).trans (bZ e5)))))).symm)
              go_enter Try.func66, Try.ntmps66
              go_wp2
              go_ret
              exact ⟨dw hf.out, rfl⟩
            | false =>
              cases e6 : (s.toList == [116, 97, 107, 101]) with
              | true =>
                have hf := Lib.hid (show (2 : Int) = bF s.toList from (show eX dn s.toList = 2 from (aj e0).trans ((aj e1).trans ((aj e2).trans ((aj e3).trans ((aj e4).trans ((aj e5).trans (bZ e6))))))).symm)
                go_enter Try.func66, Try.ntmps66
                go_wp2
                go_ret
                exact ⟨dw hf.out, rfl⟩
              | false =>
                cases e7 : (s.toList == [115, 107, 105, 112]) with
                | true =>
                  have hf := Lib.hid (show (2 : Int) = bF s.toList from (show eX dn s.toList = 2 from (aj e0).trans ((aj e1).trans ((aj e2).trans ((aj e3).trans ((aj e4).trans ((aj e5).trans ((aj e6).trans (bZ e7)))))))).symm)
                  go_enter Try.func66, Try.ntmps66
                  go_wp2
                  go_ret
                  exact ⟨dw hf.out, rfl⟩
                | false =>
                  cases e8 : (s.toList == [114, 97, 110, 103, 101]) with
                  | true =>
                    have hf := Lib.hid (show (2 : Int) = bF s.toList from (show eX dn s.toList = 2 from (aj e0).trans ((aj e1).trans ((aj e2).trans ((aj e3).trans ((aj e4).trans ((aj e5).trans ((aj e6).trans ((aj e7).trans (bZ e8))))))))).symm)
                    go_enter Try.func66, Try.ntmps66
                    go_wp2
                    go_ret
                    exact ⟨dw hf.out, rfl⟩
                  | false =>
                    cases e9 : (s.toList == [110, 116, 104]) with
                    | true =>
                      have hf := Lib.hid (show (2 : Int) = bF s.toList from (show eX dn s.toList = 2 from (aj e0).trans ((aj e1).trans ((aj e2).trans ((aj e3).trans ((aj e4).trans ((aj e5).trans ((aj e6).trans ((aj e7).trans ((aj e8).trans (bZ e9)))))))))).symm)
                      go_enter Try.func66, Try.ntmps66
                      go_wp2
                      go_ret
                      exact ⟨dw hf.out, rfl⟩
                    | false =>
                      cases e10 : (s.toList == [107, 101, 101, 112]) with
                      | true =>
                        have hf := Lib.hid (show (2 : Int) = bF s.toList from (show eX dn s.toList = 2 from (aj e0).trans ((aj e1).trans ((aj e2).trans ((aj e3).trans ((aj e4).trans ((aj e5).trans ((aj e6).trans ((aj e7).trans ((aj e8).trans ((aj e9).trans (bZ e10))))))))))).symm)
                        go_enter Try.func66, Try.ntmps66
                        go_wp2
                        go_ret
                        exact ⟨dw hf.out, rfl⟩
                      | false =>
                        cases e11 : (s.toList == [99, 111, 108, 117, 109, 110]) with
                        | true =>
                          have hf := Lib.hid (show (2 : Int) = bF s.toList from (show eX dn s.toList = 2 from (aj e0).trans ((aj e1).trans ((aj e2).trans ((aj e3).trans ((aj e4).trans ((aj e5).trans ((aj e6).trans ((aj e7).trans ((aj e8).trans ((aj e9).trans ((aj e10).trans (bZ e11)))))))))))).symm)
                          go_enter Try.func66, Try.ntmps66
                          go_wp2
                          go_ret
                          exact ⟨dw hf.out, rfl⟩
                        | false =>
                          cases e12 : (s.toList == [116, 97, 98, 108, 101]) with
                          | true =>
                            have hf := Lib.hid (show (2 : Int) = bF s.toList from (show eX dn s.toList = 2 from (aj e0).trans ((aj e1).trans ((aj e2).trans ((aj e3).trans ((aj e4).trans ((aj e5).trans ((aj e6).trans ((aj e7).trans ((aj e8).trans ((aj e9).trans ((aj e10).trans ((aj e11).trans (bZ e12))))))))))))).symm)
                            go_enter Try.func66, Try.ntmps66
                            go_wp2
                            go_ret
                            exact ⟨dw hf.out, rfl⟩
                          | false =>
                            cases e13 : (s.toList == [119, 104, 101, 114, 101]) with
                            | true =>
                              have hf := Lib.hid (show (3 : Int) = bF s.toList from (show eX dn s.toList = 3 from (aj e0).trans ((aj e1).trans ((aj e2).trans ((aj e3).trans ((aj e4).trans ((aj e5).trans ((aj e6).trans ((aj e7).trans ((aj e8).trans ((aj e9).trans ((aj e10).trans ((aj e11).trans ((aj e12).trans (bZ e13)))))))))))))).symm)
                              go_enter Try.func66, Try.ntmps66
                              go_wp2
                              go_ret
                              exact ⟨dw hf.out, rfl⟩
                            | false =>
                              cases e14 : (s.toList == [103, 114, 111, 117, 112]) with
                              | true =>
                                have hf := Lib.hid (show (3 : Int) = bF s.toList from (show eX dn s.toList = 3 from (aj e0).trans ((aj e1).trans ((aj e2).trans ((aj e3).trans ((aj e4).trans ((aj e5).trans ((aj e6).trans ((aj e7).trans ((aj e8).trans ((aj e9).trans ((aj e10).trans ((aj e11).trans ((aj e12).trans ((aj e13).trans (bZ e14))))))))))))))).symm)
                                go_enter Try.func66, Try.ntmps66
                                go_wp2
                                go_ret
                                exact ⟨dw hf.out, rfl⟩
                              | false =>
                                cases e15 : (s.toList == [106, 111, 105, 110]) with
                                | true =>
                                  have hf := Lib.hid (show (3 : Int) = bF s.toList from (show eX dn s.toList = 3 from (aj e0).trans ((aj e1).trans ((aj e2).trans ((aj e3).trans ((aj e4).trans ((aj e5).trans ((aj e6).trans ((aj e7).trans ((aj e8).trans ((aj e9).trans ((aj e10).trans ((aj e11).trans ((aj e12).trans ((aj e13).trans ((aj e14).trans (bZ e15)))))))))))))))).symm)
                                  go_enter Try.func66, Try.ntmps66
                                  go_wp2
                                  go_ret
                                  exact ⟨dw hf.out, rfl⟩
                                | false =>
                                  cases e16 : (s.toList == [97, 100, 100]) with
                                  | true =>
                                    have hf := Lib.hid (show (4 : Int) = bF s.toList from (show eX dn s.toList = 4 from (aj e0).trans ((aj e1).trans ((aj e2).trans ((aj e3).trans ((aj e4).trans ((aj e5).trans ((aj e6).trans ((aj e7).trans ((aj e8).trans ((aj e9).trans ((aj e10).trans ((aj e11).trans ((aj e12).trans ((aj e13).trans ((aj e14).trans ((aj e15).trans (bZ e16))))))))))))))))).symm)
                                    go_enter Try.func66, Try.ntmps66
                                    go_wp2
                                    go_ret
                                    exact ⟨dw hf.out, rfl⟩
                                  | false =>
                                    have hf := Lib.hid (show (-1 : Int) = bF s.toList from (show eX dn s.toList = -1 from (aj e0).trans ((aj e1).trans ((aj e2).trans ((aj e3).trans ((aj e4).trans ((aj e5).trans ((aj e6).trans ((aj e7).trans ((aj e8).trans ((aj e9).trans ((aj e10).trans ((aj e11).trans ((aj e12).trans ((aj e13).trans ((aj e14).trans ((aj e15).trans ((aj e16).trans (rfl)))))))))))))))))).symm)
                                    go_enter Try.func66, Try.ntmps66
                                    go_wp2
                                    go_ret
                                    exact ⟨dw hf.out, rfl⟩
set_option maxHeartbeats 8000000 in
theorem DW (s : ByteArray) (w : World) : Calls Try.prog 95 #[.string s] w (xY (.int .i64 (bF s.toList)) w) := by
  cases e0 : (s.toList == [99, 108, 111, 99, 107]) with
  | true =>
    have hf := Lib.hid (show (0 : Int) = bF s.toList from (show eX dn s.toList = 0 from bZ e0).symm)
    go_enter Try.func95, Try.ntmps95
    go_wp2
    go_ret
    exact ⟨dw hf.out, rfl⟩
  | false =>
    cases e1 : (s.toList == [108, 101, 110]) with
    | true =>
      have hf := Lib.hid (show (1 : Int) = bF s.toList from (show eX dn s.toList = 1 from (aj e0).trans (bZ e1)).symm)
      go_enter Try.func95, Try.ntmps95
      go_wp2
      go_ret
      exact ⟨dw hf.out, rfl⟩
    | false =>
      cases e2 : (s.toList == [115, 117, 109]) with
      | true =>
        have hf := Lib.hid (show (1 : Int) = bF s.toList from (show eX dn s.toList = 1 from (aj e0).trans ((aj e1).trans (bZ e2))).symm)
        go_enter Try.func95, Try.ntmps95
        go_wp2
        go_ret
        exact ⟨dw hf.out, rfl⟩
      | false =>
        cases e3 : (s.toList == [114, 111, 119, 115]) with
        | true =>
          have hf := Lib.hid (show (1 : Int) = bF s.toList from (show eX dn s.toList = 1 from (aj e0).trans ((aj e1).trans ((aj e2).trans (bZ e3)))).symm)
          go_enter Try.func95, Try.ntmps95
          go_wp2
          go_ret
          exact ⟨dw hf.out, rfl⟩
        | false =>
          cases e4 : (s.toList == [99, 104, 97, 110, 99, 101]) with
          | true =>
            have hf := Lib.hid (show (1 : Int) = bF s.toList from (show eX dn s.toList = 1 from (aj e0).trans ((aj e1).trans ((aj e2).trans ((aj e3).trans (bZ e4))))).symm)
            go_enter Try.func95, Try.ntmps95
            go_wp2
            go_ret
            exact ⟨dw hf.out, rfl⟩
          | false =>
            cases e5 : (s.toList == [102, 105, 108, 101]) with
            | true =>
              have hf := Lib.hid (show (1 : Int) = bF s.toList from (show eX dn s.toList = 1 from (aj e0).trans ((aj e1).trans ((aj e2).trans ((aj e3).trans ((aj e4).trans (bZ e5)))))).symm)
              go_enter Try.func95, Try.ntmps95
              go_wp2
              go_ret
              exact ⟨dw hf.out, rfl⟩
            | false =>
              cases e6 : (s.toList == [116, 97, 107, 101]) with
              | true =>
                have hf := Lib.hid (show (2 : Int) = bF s.toList from (show eX dn s.toList = 2 from (aj e0).trans ((aj e1).trans ((aj e2).trans ((aj e3).trans ((aj e4).trans ((aj e5).trans (bZ e6))))))).symm)
                go_enter Try.func95, Try.ntmps95
                go_wp2
                go_ret
                exact ⟨dw hf.out, rfl⟩
              | false =>
                cases e7 : (s.toList == [115, 107, 105, 112]) with
                | true =>
                  have hf := Lib.hid (show (2 : Int) = bF s.toList from (show eX dn s.toList = 2 from (aj e0).trans ((aj e1).trans ((aj e2).trans ((aj e3).trans ((aj e4).trans ((aj e5).trans ((aj e6).trans (bZ e7)))))))).symm)
                  go_enter Try.func95, Try.ntmps95
                  go_wp2
                  go_ret
                  exact ⟨dw hf.out, rfl⟩
                | false =>
                  cases e8 : (s.toList == [114, 97, 110, 103, 101]) with
                  | true =>
                    have hf := Lib.hid (show (2 : Int) = bF s.toList from (show eX dn s.toList = 2 from (aj e0).trans ((aj e1).trans ((aj e2).trans ((aj e3).trans ((aj e4).trans ((aj e5).trans ((aj e6).trans ((aj e7).trans (bZ e8))))))))).symm)
                    go_enter Try.func95, Try.ntmps95
                    go_wp2
                    go_ret
                    exact ⟨dw hf.out, rfl⟩
                  | false =>
                    cases e9 : (s.toList == [110, 116, 104]) with
                    | true =>
                      have hf := Lib.hid (show (2 : Int) = bF s.toList from (show eX dn s.toList = 2 from (aj e0).trans ((aj e1).trans ((aj e2).trans ((aj e3).trans ((aj e4).trans ((aj e5).trans ((aj e6).trans ((aj e7).trans ((aj e8).trans (bZ e9)))))))))).symm)
                      go_enter Try.func95, Try.ntmps95
                      go_wp2
                      go_ret
                      exact ⟨dw hf.out, rfl⟩
                    | false =>
                      cases e10 : (s.toList == [107, 101, 101, 112]) with
                      | true =>
                        have hf := Lib.hid (show (2 : Int) = bF s.toList from (show eX dn s.toList = 2 from (aj e0).trans ((aj e1).trans ((aj e2).trans ((aj e3).trans ((aj e4).trans ((aj e5).trans ((aj e6).trans ((aj e7).trans ((aj e8).trans ((aj e9).trans (bZ e10))))))))))).symm)
                        go_enter Try.func95, Try.ntmps95
                        go_wp2
                        go_ret
                        exact ⟨dw hf.out, rfl⟩
                      | false =>
                        cases e11 : (s.toList == [99, 111, 108, 117, 109, 110]) with
                        | true =>
                          have hf := Lib.hid (show (2 : Int) = bF s.toList from (show eX dn s.toList = 2 from (aj e0).trans ((aj e1).trans ((aj e2).trans ((aj e3).trans ((aj e4).trans ((aj e5).trans ((aj e6).trans ((aj e7).trans ((aj e8).trans ((aj e9).trans ((aj e10).trans (bZ e11)))))))))))).symm)
                          go_enter Try.func95, Try.ntmps95
                          go_wp2
                          go_ret
                          exact ⟨dw hf.out, rfl⟩
                        | false =>
                          cases e12 : (s.toList == [116, 97, 98, 108, 101]) with
                          | true =>
                            have hf := Lib.hid (show (2 : Int) = bF s.toList from (show eX dn s.toList = 2 from (aj e0).trans ((aj e1).trans ((aj e2).trans ((aj e3).trans ((aj e4).trans ((aj e5).trans ((aj e6).trans ((aj e7).trans ((aj e8).trans ((aj e9).trans ((aj e10).trans ((aj e11).trans (bZ e12))))))))))))).symm)
                            go_enter Try.func95, Try.ntmps95
                            go_wp2
                            go_ret
                            exact ⟨dw hf.out, rfl⟩
                          | false =>
                            cases e13 : (s.toList == [119, 104, 101, 114, 101]) with
                            | true =>
                              have hf := Lib.hid (show (3 : Int) = bF s.toList from (show eX dn s.toList = 3 from (aj e0).trans ((aj e1).trans ((aj e2).trans ((aj e3).trans ((aj e4).trans ((aj e5).trans ((aj e6).trans ((aj e7).trans ((aj e8).trans ((aj e9).trans ((aj e10).trans ((aj e11).trans ((aj e12).trans (bZ e13)))))))))))))).symm)
                              go_enter Try.func95, Try.ntmps95
                              go_wp2
                              go_ret
                              exact ⟨dw hf.out, rfl⟩
                            | false =>
                              cases e14 : (s.toList == [103, 114, 111, 117, 112]) with
                              | true =>
                                have hf := Lib.hid (show (3 : Int) = bF s.toList from (show eX dn s.toList = 3 from (aj e0).trans ((aj e1).trans ((aj e2).trans ((aj e3).trans ((aj e4).trans ((aj e5).trans ((aj e6).trans ((aj e7).trans ((aj e8).trans ((aj e9).trans ((aj e10).trans ((aj e11).trans ((aj e12).trans ((aj e13).trans (bZ e14))))))))))))))).symm)
                                go_enter Try.func95, Try.ntmps95
                                go_wp2
                                go_ret
                                exact ⟨dw hf.out, rfl⟩
                              | false =>
                                cases e15 : (s.toList == [106, 111, 105, 110]) with
                                | true =>
                                  have hf := Lib.hid (show (3 : Int) = bF s.toList from (show eX dn s.toList = 3 from (aj e0).trans ((aj e1).trans ((aj e2).trans ((aj e3).trans ((aj e4).trans ((aj e5).trans ((aj e6).trans ((aj e7).trans ((aj e8).trans ((aj e9).trans ((aj e10).trans ((aj e11).trans ((aj e12).trans ((aj e13).trans ((aj e14).trans (bZ e15)))))))))))))))).symm)
                                  go_enter Try.func95, Try.ntmps95
                                  go_wp2
                                  go_ret
                                  exact ⟨dw hf.out, rfl⟩
                                | false =>
                                  cases e16 : (s.toList == [97, 100, 100]) with
                                  | true =>
                                    have hf := Lib.hid (show (4 : Int) = bF s.toList from (show eX dn s.toList = 4 from (aj e0).trans ((aj e1).trans ((aj e2).trans ((aj e3).trans ((aj e4).trans ((aj e5).trans ((aj e6).trans ((aj e7).trans ((aj e8).trans ((aj e9).trans ((aj e10).trans ((aj e11).trans ((aj e12).trans ((aj e13).trans ((aj e14).trans ((aj e15).trans (bZ e16))))))))))))))))).symm)
                                    go_enter Try.func95, Try.ntmps95
                                    go_wp2
                                    go_ret
                                    exact ⟨dw hf.out, rfl⟩
                                  | false =>
                                    have hf := Lib.hid (show (-1 : Int) = bF s.toList from (show eX dn s.toList = -1 from (aj e0).trans ((aj e1).trans ((aj e2).trans ((aj e3).trans ((aj e4).trans ((aj e5).trans ((aj e6).trans ((aj e7).trans ((aj e8).trans ((aj e9).trans ((aj e10).trans ((aj e11).trans ((aj e12).trans ((aj e13).trans ((aj e14).trans ((aj e15).trans ((aj e16).trans (rfl)))))))))))))))))).symm)
                                    go_enter Try.func95, Try.ntmps95
                                    go_wp2
                                    go_ret
                                    exact ⟨dw hf.out, rfl⟩
theorem lZ (l : List UInt8) : ni l = (lq.contains l || decide (0 ≤ bF l)) := by
  by_cases h : l ∈ qX
  · have h1 : ni l = true := by unfold ni; exact List.contains_iff_mem.2 h
    rw [h1]
    simp only [qX, List.mem_cons, List.not_mem_nil, or_false] at h
    rcases h with rfl | rfl | rfl | rfl | rfl | rfl | rfl | rfl | rfl | rfl | rfl | rfl | rfl | rfl | rfl | rfl | rfl | rfl | rfl | rfl | rfl | rfl | rfl | rfl <;> decide
  · have h1 : ni l = false := by
      unfold ni
      rw [← Bool.not_eq_true, List.contains_iff_mem]
      exact h
    rw [h1]
    simp only [qX, List.mem_cons, List.not_mem_nil, or_false, not_or] at h
    obtain ⟨h0, h1, h2, h3, h4, h5, h6, h7, h8, h9, h10, h11, h12, h13, h14, h15, h16, h17, h18, h19, h20, h21, h22, h23⟩ := h
    simp [lq, bF, dn, eX, *]
set_option maxHeartbeats 8000000 in
theorem zZ (s : ByteArray) (w : World) : Calls Try.prog 56 #[.string s] w (xY (.bool (ni s.toList)) w) := by
  cases e0 : (s.toList == [108, 101, 116]) with
  | true =>
    have hf := Lib.hid (show true = ni s.toList by rw [lZ, show lq.contains s.toList = true from jO e0]; rfl)
    go_enter Try.func56, Try.ntmps56
    go_wp2
    go_ret
    exact ⟨cO hf.out, rfl⟩
  | false =>
    cases e1 : (s.toList == [105, 110]) with
    | true =>
      have hf := Lib.hid (show true = ni s.toList by rw [lZ, show lq.contains s.toList = true from (bn e0).trans (jO e1)]; rfl)
      go_enter Try.func56, Try.ntmps56
      go_wp2
      go_ret
      exact ⟨cO hf.out, rfl⟩
    | false =>
      cases e2 : (s.toList == [105, 102]) with
      | true =>
        have hf := Lib.hid (show true = ni s.toList by rw [lZ, show lq.contains s.toList = true from (bn e0).trans ((bn e1).trans (jO e2))]; rfl)
        go_enter Try.func56, Try.ntmps56
        go_wp2
        go_ret
        exact ⟨cO hf.out, rfl⟩
      | false =>
        cases e3 : (s.toList == [116, 104, 101, 110]) with
        | true =>
          have hf := Lib.hid (show true = ni s.toList by rw [lZ, show lq.contains s.toList = true from (bn e0).trans ((bn e1).trans ((bn e2).trans (jO e3)))]; rfl)
          go_enter Try.func56, Try.ntmps56
          go_wp2
          go_ret
          exact ⟨cO hf.out, rfl⟩
        | false =>
          cases e4 : (s.toList == [101, 108, 115, 101]) with
          | true =>
            have hf := Lib.hid (show true = ni s.toList by rw [lZ, show lq.contains s.toList = true from (bn e0).trans ((bn e1).trans ((bn e2).trans ((bn e3).trans (jO e4))))]; rfl)
            go_enter Try.func56, Try.ntmps56
            go_wp2
            go_ret
            exact ⟨cO hf.out, rfl⟩
          | false =>
            cases e5 : (s.toList == [102, 111, 114]) with
            | true =>
              have hf := Lib.hid (show true = ni s.toList by rw [lZ, show lq.contains s.toList = true from (bn e0).trans ((bn e1).trans ((bn e2).trans ((bn e3).trans ((bn e4).trans (jO e5)))))]; rfl)
              go_enter Try.func56, Try.ntmps56
              go_wp2
              go_ret
              exact ⟨cO hf.out, rfl⟩
            | false =>
              cases e6 : (s.toList == [100, 111]) with
              | true =>
                have hf := Lib.hid (show true = ni s.toList by rw [lZ, show lq.contains s.toList = true from (bn e0).trans ((bn e1).trans ((bn e2).trans ((bn e3).trans ((bn e4).trans ((bn e5).trans (jO e6))))))]; rfl)
                go_enter Try.func56, Try.ntmps56
                go_wp2
                go_ret
                exact ⟨cO hf.out, rfl⟩
              | false =>
                have hf := Lib.hid (show decide (0 ≤ bF s.toList) = ni s.toList by rw [lZ, show lq.contains s.toList = false from (bn e0).trans ((bn e1).trans ((bn e2).trans ((bn e3).trans ((bn e4).trans ((bn e5).trans ((bn e6).trans (rfl)))))))]; rfl)
                have hP := fun wx => DX s wx
                generalize bF s.toList = ac at hP hf
                go_enter Try.func56, Try.ntmps56
                go_wp2_with (go_at_call 66; refine (hP _).mono ?_; rintro e w1 ⟨rfl, rfl⟩)
                go_ret
                exact ⟨cO hf.out, rfl⟩

theorem yM (s : ByteArray) (hs : s.size ≤ 9223372036854775807) (w : World) : Calls Try.prog 34 #[.string s] w (xY (.bool (kS s && !ni s.toList)) w) := by
  have hP := fun wx => IV s hs wx
  have hQ := fun wx => zZ s wx
  cases h1 : kS s with
  | true =>
    rw [h1] at hP
    cases h2 : ni s.toList with
    | true =>
      rw [h2] at hQ
      clear h1 h2
      go_enter Try.func34, Try.ntmps34
      go_wp2_with (first | (go_at_call 55; refine (hP _).mono ?_; rintro e w1 ⟨rfl, rfl⟩) | (go_at_call 56; refine (hQ _).mono ?_; rintro e w1 ⟨rfl, rfl⟩))
      go_ret
      exact ⟨rfl, rfl⟩
    | false =>
      rw [h2] at hQ
      clear h1 h2
      go_enter Try.func34, Try.ntmps34
      go_wp2_with (first | (go_at_call 55; refine (hP _).mono ?_; rintro e w1 ⟨rfl, rfl⟩) | (go_at_call 56; refine (hQ _).mono ?_; rintro e w1 ⟨rfl, rfl⟩))
      go_ret
      exact ⟨rfl, rfl⟩
  | false =>
    rw [h1] at hP
    clear h1 hQ
    go_enter Try.func34, Try.ntmps34
    go_wp2_with (go_at_call 55; refine (hP _).mono ?_; rintro e w1 ⟨rfl, rfl⟩)
    go_ret
    exact ⟨rfl, rfl⟩
def Gu (l : List ByteArray) (s : ByteArray) : Bool := l.any fun x => x.toList == s.toList
theorem DI (l : List ByteArray) (s : ByteArray) (fp : List Nat) (v : Value) (w : World) (hS : Sl w (l.map ls) fp v) : Calls Try.prog 73 #[v, .string s] w (xY (.bool (Gu l s)) w) := by
  obtain ⟨A, c, rfl, hl, hc⟩ := hS.pY
  have hm : l.length ≤ 9223372036854775807 := by unfold maxLen at hc; omega
  clear hl hc
  go_enter Try.func73, Try.ntmps73
  go_wp2_with fail
  go_loop [5] (fun iv => ∃ k : Nat, k ≤ l.length ∧ iv = .int .i64 k ∧ Gu (l.take k) s = false) (fun iv => l.length - (intOf iv).toNat)
  case atStart => exact ⟨0, by omega, rfl, rfl⟩
  case round =>
    obtain ⟨k, hk, rfl, hno⟩ := hrel
    have hno' := Lib.hid hno
    clear hno
    by_cases hlt : k < l.length
    · have hd : (l.map ls)[k]? = some (ls l[k]) := by rw [List.getElem?_map, List.getElem?_eq_getElem hlt]; rfl
      obtain ⟨b, o, fi, ci, rfl, hbb, hbf, hri, hfi, hat⟩ := hS.elem WU hd
      obtain ⟨rfl, rfl⟩ := hri
      have q0 : w.cell? ⟨b, o + k, none⟩ = some (.string l[k]) := by simpa using hat.head
      clear hat hd
      cases he : ((l[k]).toList == s.toList) with
      | true =>
        have hf := Lib.hid (show true = Gu l s by
          unfold Gu
          rw [eq_comm, List.any_eq_true]
          exact ⟨l[k], List.getElem_mem hlt, he⟩)
        go_wp2_with fail
        go_ret
        exact ⟨cO hf.out, rfl⟩
      | false =>
        have hf := Lib.hid (show Gu (l.take (k + 1)) s = false by
          have h := hno'.out
          unfold Gu at h ⊢
          rw [List.take_succ_eq_append_getElem hlt, List.any_append, h]
          simp [he])
        go_wp2_with fail
        go_round
        case rel => exact ⟨k + 1, by omega, by go_num, hf.out⟩
        case measure => (simp [intOf] <;> omega)
    · have hf := Lib.hid (show false = Gu l s by
        have h := hno'.out
        rw [List.take_of_length_le (by omega)] at h
        exact h.symm)
      go_wp2_with fail
      go_ret
      exact ⟨cO hf.out, rfl⟩

def qY : List ByteArray := qX.map fun l => ⟨l.toArray⟩
theorem SK (s : ByteArray) : Gu qY s = ni s.toList := by
  unfold Gu ni qY
  rw [List.any_map]
  induction qX with
  | nil => rfl
  | cons x l ih =>
    rw [List.any_cons, List.contains_cons, ih]
    congr 1
    simp only [Function.comp, ByteArray.toList_mk]
    rw [Bool.eq_iff_iff, beq_iff_eq, beq_iff_eq]
    exact eq_comm
def Xi (l : List D) (w : World) (e : Ending) (w' : World) : Prop := ∃ fp v, e = .returned v ∧ Sl w' l fp v ∧ Below w.heap.size w w'
theorem OI {w : World} : ∀ (l : List ByteArray), Rs w (l.map ls) [] (l.map Value.string)
  | [] => ⟨rfl, rfl⟩
  | x :: l => ⟨[], [], [.string x], l.map Value.string, rfl, rfl, ⟨rfl, rfl⟩, OI l⟩
set_option maxRecDepth 20000 in
theorem zX (w : World) : Calls Try.prog 74 #[] w (Xi (qY.map ls) w) := by
  go_enter Try.func74, Try.ntmps74
  go_wp2
  go_ret
  refine ⟨_, _, rfl, Sl.RZ (Row.new _ _ _) (OI qY) (by rfl) (by simp [maxLen]), (Below.refl _ _).alloc (Nat.le_refl _) _⟩
set_option maxRecDepth 20000 in
theorem zY (s : ByteArray) (w : World) : Calls Try.prog 65 #[.string s] w (wL (.bool (ni s.toList)) w) := by
  have hP := fun wx (fp : List Nat) (v : Value) (hS : Sl wx (qY.map ls) fp v) => DI qY s fp v wx hS
  rw [SK] at hP
  generalize ni s.toList = b at hP
  go_enter Try.func65, Try.ntmps65
  go_wp2_with fail
  refine (zX _).mono ?_
  rintro e w1 ⟨fp, v, rfl, hS, hb⟩
  obtain ⟨A, c, rfl, _, _⟩ := hS.pY
  go_wp2_with fail
  refine (hP _ _ _ hS).mono ?_
  rintro e w2 ⟨rfl, rfl⟩
  go_wp2_with fail
  go_ret
  exact ⟨rfl, hb⟩

set_option maxRecDepth 20000 in
theorem rG (s : ByteArray) (hs : s.size ≤ 9223372036854775807) (w : World) : Calls Try.prog 54 #[.string s] w (wL (.bool (kS s && !ni s.toList)) w) := by
  have hP := fun wx => Gh s hs wx
  have hQ := fun wx => zY s wx
  unfold kS
  cases h1 : mO s with
  | true =>
    rw [h1] at hP
    rcases ilt 8 (s.size : Int) with h3 | h3
    · have d1 : decide ((s.size : Int) ≤ 8) = false := by simp; omega
      rw [d1]
      clear h1 hQ h3
      go_enter Try.func54, Try.ntmps54
      go_wp2_with (first | (go_at_call 64; refine (hP _).mono ?_; rintro e w1 ⟨rfl, rfl⟩) | (go_at_call 65; refine (hQ _).mono ?_; rintro e w1 ⟨rfl, hb⟩))
      go_ret
      exact ⟨rfl, Below.refl _ _⟩
    · have d1 : decide ((s.size : Int) ≤ 8) = true := by simp; omega
      rw [d1]
      clear d1
      cases h2 : ni s.toList with
      | true =>
        rw [h2] at hQ
        clear h1 h2
        go_enter Try.func54, Try.ntmps54
        go_wp2_with (first | (go_at_call 64; refine (hP _).mono ?_; rintro e w1 ⟨rfl, rfl⟩) | (go_at_call 65; refine (hQ _).mono ?_; rintro e w1 ⟨rfl, hb⟩))
        go_ret
        exact ⟨rfl, hb⟩
      | false =>
        rw [h2] at hQ
        clear h1 h2
        go_enter Try.func54, Try.ntmps54
        go_wp2_with (first | (go_at_call 64; refine (hP _).mono ?_; rintro e w1 ⟨rfl, rfl⟩) | (go_at_call 65; refine (hQ _).mono ?_; rintro e w1 ⟨rfl, hb⟩))
        go_ret
        exact ⟨rfl, hb⟩
  | false =>
    rw [h1] at hP
    clear h1 hQ
    go_enter Try.func54, Try.ntmps54
    go_wp2_with (first | (go_at_call 64; refine (hP _).mono ?_; rintro e w1 ⟨rfl, rfl⟩) | (go_at_call 65; refine (hQ _).mono ?_; rintro e w1 ⟨rfl, hb⟩))
    go_ret
    exact ⟨rfl, Below.refl _ _⟩
def lN (x : GCell) (d f : Bool) : Bool :=
  if x.kind == 1 then x.name.toList.isEmpty && x.n == 0
  else if x.kind == 2 then d && x.n == 0
  else if x.kind == 4 then d && x.n == 0
  else if x.kind == 3 then d && x.code.toList.isEmpty && f
  else false
def bI (x : GCell) : Bool := inR x.id 1 999 && inR x.ver 1 999 && eG x.code && lN x (kS x.name && !ni x.name.toList) (inR x.n 0 100)
theorem BD (x : GCell) {d f : Bool} : ((x.kind == 1) = true ∧ x.name.toList.isEmpty = true ∧ lN x d f = (x.n == 0)) ∨ ((x.kind == 1) = true ∧ x.name.toList.isEmpty = false ∧ lN x d f = false) ∨ ((x.kind == 1) = false ∧ (x.kind == 2) = true ∧ lN x d f = (d && x.n == 0)) ∨
    ((x.kind == 1) = false ∧ (x.kind == 2) = false ∧ (x.kind == 4) = true ∧ lN x d f = (d && x.n == 0)) ∨ ((x.kind == 1) = false ∧ (x.kind == 2) = false ∧ (x.kind == 4) = false ∧ (x.kind == 3) = true ∧ lN x d f = (d && x.code.toList.isEmpty && f)) ∨
    ((x.kind == 1) = false ∧ (x.kind == 2) = false ∧ (x.kind == 4) = false ∧ (x.kind == 3) = false ∧ lN x d f = false) := by
  unfold lN
  cases x.kind == 1 <;> cases x.kind == 2 <;> cases x.kind == 4 <;> cases x.kind == 3 <;> cases x.name.toList.isEmpty <;> simp

set_option maxRecDepth 20000 in
set_option maxHeartbeats 4000000 in
theorem rJ (x : GCell) (hw : x.toD.wf) (w : World) : Calls Try.prog 12 #[.agg #[.int .i64 x.id, .int .i64 x.ver, .int .i64 x.kind, .string x.name, .string x.code, .int .i64 x.n]] w (wL (.bool (bI x)) w) := by
  have hw3 : x.name.size ≤ 9223372036854775807 := hw.2.2.2.1
  have hw4 : x.code.size ≤ 9223372036854775807 := hw.2.2.2.2.1
  clear hw
  have hA := fun wx => pK x.id 1 999 wx
  have hB := fun wx => pK x.ver 1 999 wx
  have hC := fun wx => yO x.code hw4 wx
  have hD := fun wx => yM x.name hw3 wx
  have hE := fun wx => pK x.n 0 100 wx
  clear hw3 hw4
  have hv := Lib.hid (show bI x = (inR x.id 1 999 && inR x.ver 1 999 && eG x.code && lN x (kS x.name && !ni x.name.toList) (inR x.n 0 100)) from rfl)
  generalize inR x.id 1 999 = a at hA hv
  generalize inR x.ver 1 999 = b at hB hv
  generalize eG x.code = c at hC hv
  generalize (kS x.name && !ni x.name.toList) = d at hD hv
  generalize inR x.n 0 100 = f at hE hv
  rw [hv.out]
  clear hv
  cases a with
  | false =>
    go_enter Try.func12, Try.ntmps12
    go_wp2_with fail
    refine (hA _).mono ?_
    rintro e w1 ⟨rfl, rfl⟩
    go_wp2_with fail
    go_ret
    exact ⟨rfl, (Below.refl _ _).alloc (by simp) _⟩
  | true =>
    cases b with
    | false =>
      go_enter Try.func12, Try.ntmps12
      go_wp2_with fail
      refine (hA _).mono ?_
      rintro e w1 ⟨rfl, rfl⟩
      go_wp2_with fail
      refine (hB _).mono ?_
      rintro e w1 ⟨rfl, rfl⟩
      go_wp2_with fail
      go_ret
      exact ⟨rfl, (Below.refl _ _).alloc (by simp) _⟩
    | true =>
      cases c with
      | false =>
        go_enter Try.func12, Try.ntmps12
        go_wp2_with fail
        refine (hA _).mono ?_
        rintro e w1 ⟨rfl, rfl⟩
        go_wp2_with fail
        refine (hB _).mono ?_
        rintro e w1 ⟨rfl, rfl⟩
        go_wp2_with fail
        refine (hC _).mono ?_
        rintro e w1 ⟨rfl, rfl⟩
        go_wp2_with fail
        go_ret
        exact ⟨rfl, (Below.refl _ _).alloc (by simp) _⟩
      | true =>
        rcases BD x with ⟨h1, hn, hk⟩ | ⟨h1, hn, hk⟩ | ⟨h1, h2, hk⟩ | ⟨h1, h2, h4, hk⟩ | ⟨h1, h2, h4, h3, hk⟩ | ⟨h1, h2, h4, h3, hk⟩
        all_goals rw [show (true && true && true && lN x d f) = lN x d f from rfl, hk]
        all_goals clear hk
        all_goals
          go_enter Try.func12, Try.ntmps12
          go_wp2_with fail
          refine (hA _).mono ?_
          rintro e w1 ⟨rfl, rfl⟩
          go_wp2_with fail
          refine (hB _).mono ?_
          rintro e w1 ⟨rfl, rfl⟩
          go_wp2_with fail
          refine (hC _).mono ?_
          rintro e w1 ⟨rfl, rfl⟩
          go_wp2_with fail
        · go_ret
          exact ⟨rfl, (Below.refl _ _).alloc (by simp) _⟩
        · go_ret
          exact ⟨rfl, (Below.refl _ _).alloc (by simp) _⟩
        · cases d with
          | true =>
            refine (hD _).mono ?_
            rintro e w1 ⟨rfl, rfl⟩
            go_wp2_with fail
            go_ret
            exact ⟨by simp [*], (Below.refl _ _).alloc (by simp) _⟩
          | false =>
            refine (hD _).mono ?_
            rintro e w1 ⟨rfl, rfl⟩
            go_wp2_with fail
            go_ret
            exact ⟨by simp [*], (Below.refl _ _).alloc (by simp) _⟩
        · cases d with
          | true =>
            refine (hD _).mono ?_
            rintro e w1 ⟨rfl, rfl⟩
            go_wp2_with fail
            go_ret
            exact ⟨by simp [*], (Below.refl _ _).alloc (by simp) _⟩
          | false =>
            refine (hD _).mono ?_
            rintro e w1 ⟨rfl, rfl⟩
            go_wp2_with fail
            go_ret
            exact ⟨by simp [*], (Below.refl _ _).alloc (by simp) _⟩
        · cases d with
          | true =>
            cases hc : x.code.toList.isEmpty with
            | true =>
              refine (hD _).mono ?_
              rintro e w1 ⟨rfl, rfl⟩
              skip
              go_wp2_with fail
              refine (hE _).mono ?_
              rintro e w2 ⟨rfl, rfl⟩
              go_wp2_with fail
              go_ret
              exact ⟨by simp [*], (Below.refl _ _).alloc (by simp) _⟩
            | false =>
              refine (hD _).mono ?_
              rintro e w1 ⟨rfl, rfl⟩
              skip
              go_wp2_with fail
              go_ret
              exact ⟨by simp [*], (Below.refl _ _).alloc (by simp) _⟩
          | false =>
            refine (hD _).mono ?_
            rintro e w1 ⟨rfl, rfl⟩
            go_wp2_with fail
            go_ret
            exact ⟨by simp [*], (Below.refl _ _).alloc (by simp) _⟩
        · go_ret
          exact ⟨by simp [*], (Below.refl _ _).alloc (by simp) _⟩

set_option maxRecDepth 20000 in
set_option maxHeartbeats 4000000 in
theorem rH (x : GCell) (hw : x.toD.wf) (w : World) : Calls Try.prog 32 #[.agg #[.int .i64 x.id, .int .i64 x.ver, .int .i64 x.kind, .string x.name, .string x.code, .int .i64 x.n]] w (wL (.bool (bI x)) w) := by
  have hw3 : x.name.size ≤ 9223372036854775807 := hw.2.2.2.1
  have hw4 : x.code.size ≤ 9223372036854775807 := hw.2.2.2.2.1
  clear hw
  have hA := fun wx => wY x.id 1 999 wx
  have hB := fun wx => wY x.ver 1 999 wx
  have hC := fun wx => yN x.code hw4 wx
  have hD := fun wx => rG x.name hw3 wx
  have hE := fun wx => wY x.n 0 100 wx
  clear hw3 hw4
  have hv := Lib.hid (show bI x = (inR x.id 1 999 && inR x.ver 1 999 && eG x.code && lN x (kS x.name && !ni x.name.toList) (inR x.n 0 100)) from rfl)
  generalize inR x.id 1 999 = a at hA hv
  generalize inR x.ver 1 999 = b at hB hv
  generalize eG x.code = c at hC hv
  generalize (kS x.name && !ni x.name.toList) = d at hD hv
  generalize inR x.n 0 100 = f at hE hv
  rw [hv.out]
  clear hv
  cases a with
  | false =>
    go_enter Try.func32, Try.ntmps32
    go_wp2_with fail
    refine (hA _).mono ?_
    rintro e w1 ⟨rfl, rfl⟩
    go_wp2_with fail
    go_ret
    exact ⟨rfl, (Below.refl _ _).alloc (by simp) _⟩
  | true =>
    cases b with
    | false =>
      go_enter Try.func32, Try.ntmps32
      go_wp2_with fail
      refine (hA _).mono ?_
      rintro e w1 ⟨rfl, rfl⟩
      go_wp2_with fail
      refine (hB _).mono ?_
      rintro e w1 ⟨rfl, rfl⟩
      go_wp2_with fail
      go_ret
      exact ⟨rfl, (Below.refl _ _).alloc (by simp) _⟩
    | true =>
      cases c with
      | false =>
        go_enter Try.func32, Try.ntmps32
        go_wp2_with fail
        refine (hA _).mono ?_
        rintro e w1 ⟨rfl, rfl⟩
        go_wp2_with fail
        refine (hB _).mono ?_
        rintro e w1 ⟨rfl, rfl⟩
        go_wp2_with fail
        refine (hC _).mono ?_
        rintro e w1 ⟨rfl, rfl⟩
        go_wp2_with fail
        go_ret
        exact ⟨rfl, (Below.refl _ _).alloc (by simp) _⟩
      | true =>
        rcases BD x with ⟨h1, hn, hk⟩ | ⟨h1, hn, hk⟩ | ⟨h1, h2, hk⟩ | ⟨h1, h2, h4, hk⟩ | ⟨h1, h2, h4, h3, hk⟩ | ⟨h1, h2, h4, h3, hk⟩
        all_goals rw [show (true && true && true && lN x d f) = lN x d f from rfl, hk]
        all_goals clear hk
        all_goals
          go_enter Try.func32, Try.ntmps32
          go_wp2_with fail
          refine (hA _).mono ?_
          rintro e w1 ⟨rfl, rfl⟩
          go_wp2_with fail
          refine (hB _).mono ?_
          rintro e w1 ⟨rfl, rfl⟩
          go_wp2_with fail
          refine (hC _).mono ?_
          rintro e w1 ⟨rfl, rfl⟩
          go_wp2_with fail
        · go_ret
          exact ⟨rfl, (Below.refl _ _).alloc (by simp) _⟩
        · go_ret
          exact ⟨rfl, (Below.refl _ _).alloc (by simp) _⟩
        · cases d with
          | true =>
            refine (hD _).mono ?_
            rintro e w1 ⟨rfl, hb1⟩; have kk := (wV hb1).1.cell
            go_wp2_with fail
            go_ret
            exact ⟨by simp [*], ((Below.refl _ _).alloc (by simp) _).trans (hb1.mono (by simp))⟩
          | false =>
            refine (hD _).mono ?_
            rintro e w1 ⟨rfl, hb1⟩; have kk := (wV hb1).1.cell
            go_wp2_with fail
            go_ret
            exact ⟨by simp [*], ((Below.refl _ _).alloc (by simp) _).trans (hb1.mono (by simp))⟩
        · cases d with
          | true =>
            refine (hD _).mono ?_
            rintro e w1 ⟨rfl, hb1⟩; have kk := (wV hb1).1.cell
            go_wp2_with fail
            go_ret
            exact ⟨by simp [*], ((Below.refl _ _).alloc (by simp) _).trans (hb1.mono (by simp))⟩
          | false =>
            refine (hD _).mono ?_
            rintro e w1 ⟨rfl, hb1⟩; have kk := (wV hb1).1.cell
            go_wp2_with fail
            go_ret
            exact ⟨by simp [*], ((Below.refl _ _).alloc (by simp) _).trans (hb1.mono (by simp))⟩
        · cases d with
          | true =>
            cases hc : x.code.toList.isEmpty with
            | true =>
              refine (hD _).mono ?_
              rintro e w1 ⟨rfl, hb1⟩; have kk := (wV hb1).1.cell
              skip
              go_wp2_with fail
              refine (hE _).mono ?_
              rintro e w2 ⟨rfl, rfl⟩
              go_wp2_with fail
              go_ret
              exact ⟨by simp [*], ((Below.refl _ _).alloc (by simp) _).trans (hb1.mono (by simp))⟩
            | false =>
              refine (hD _).mono ?_
              rintro e w1 ⟨rfl, hb1⟩; have kk := (wV hb1).1.cell
              skip
              go_wp2_with fail
              go_ret
              exact ⟨by simp [*], ((Below.refl _ _).alloc (by simp) _).trans (hb1.mono (by simp))⟩
          | false =>
            refine (hD _).mono ?_
            rintro e w1 ⟨rfl, hb1⟩; have kk := (wV hb1).1.cell
            go_wp2_with fail
            go_ret
            exact ⟨by simp [*], ((Below.refl _ _).alloc (by simp) _).trans (hb1.mono (by simp))⟩
        · go_ret
          exact ⟨by simp [*], (Below.refl _ _).alloc (by simp) _⟩
def fC : List GCell → Int → Nat → Int
  | [], _, _ => -1
  | c :: r, id, k => if c.id == id then (k : Int) else fC r id (k + 1)
def bD (l : List GCell) (id : Int) : Int := fC l id 0
def dW (l : List GCell) : List GCell → Nat → Bool
  | [], _ => true
  | c :: r, k => bI c && (bD l c.id == (k : Int)) && dW l r (k + 1)
def dB (l : List GCell) : Bool := dW l l 0 && decide ((l.length : Int) ≤ 8)

set_option maxHeartbeats 1000000 in
theorem uH (l : List GCell) (id : Int) (fp : List Nat) (v : Value) (w : World) (hS : Sl w (l.map GCell.toD) fp v) : Calls Try.prog 11 #[.agg #[v], .int .i64 id] w (wL (.int .i64 (bD l id)) w) := by
  obtain ⟨A, c, rfl, hl, hc⟩ := hS.pY
  have hm : l.length ≤ 9223372036854775807 := by unfold maxLen at hc; omega
  clear hl hc
  go_enter Try.func11, Try.ntmps11
  go_wp2_with fail
  go_loopw [10] (fun iv wr => ∃ k : Nat, k ≤ l.length ∧ iv = .int .i64 k ∧ bD l id = fC (l.drop k) id k ∧ Row wr w.heap.size 26 [.slice A l.length c] ∧ Below w.heap.size w wr) (fun iv _ => l.length - (intOf iv).toNat)
  case atStart => exact ⟨0, by omega, rfl, rfl, Row.new _ _ _, (Below.refl _ _).alloc (Nat.le_refl _) _⟩
  case round =>
    obtain ⟨k, hk, rfl, he, hro, hb⟩ := hrel
    have he' := Lib.hid he
    clear he
    have kk := hro.cell
    have hz := hro.lt
    by_cases hlt : k < l.length
    · have hd : (l.map GCell.toD)[k]? = some (GCell.toD l[k]) := by rw [List.getElem?_map, List.getElem?_eq_getElem hlt]; rfl
      obtain ⟨b, o, fi, ci, rfl, hbb, hbf, hri, hfi, hat⟩ := hS.elem GCell.szs hd
      obtain ⟨rfl, rfl⟩ := GCell.opened.1 hri
      have q0 : wr.cell? ⟨b, o + k * 6, none⟩ = some (.int .i64 l[k].id) := (hb.cell (p := ⟨b, o + k * 6, none⟩) hbb).trans (hat.head)
      have q1 : wr.cell? ⟨b, o + k * 6 + 1, none⟩ = some (.int .i64 l[k].ver) := (hb.cell (p := ⟨b, o + k * 6 + 1, none⟩) hbb).trans (hat.nth 1 rfl)
      have q2 : wr.cell? ⟨b, o + k * 6 + 2, none⟩ = some (.int .i64 l[k].kind) := (hb.cell (p := ⟨b, o + k * 6 + 2, none⟩) hbb).trans (hat.nth 2 rfl)
      have q3 : wr.cell? ⟨b, o + k * 6 + 3, none⟩ = some (.string l[k].name) := (hb.cell (p := ⟨b, o + k * 6 + 3, none⟩) hbb).trans (hat.nth 3 rfl)
      have q4 : wr.cell? ⟨b, o + k * 6 + 4, none⟩ = some (.string l[k].code) := (hb.cell (p := ⟨b, o + k * 6 + 4, none⟩) hbb).trans (hat.nth 4 rfl)
      have q5 : wr.cell? ⟨b, o + k * 6 + 5, none⟩ = some (.int .i64 l[k].n) := (hb.cell (p := ⟨b, o + k * 6 + 5, none⟩) hbb).trans (hat.nth 5 rfl)
      clear hat hd hri
      have hst := Lib.hid (show fC (l.drop k) id k = if l[k].id == id then (k : Int) else fC (l.drop (k + 1)) id (k + 1) by rw [List.drop_eq_getElem_cons hlt, fC])
      cases hid : (l[k].id == id) with
      | true =>
        have hf := Lib.hid (show (k : Int) = bD l id by rw [he'.out, hst.out, hid]; rfl)
        go_wp2_with fail
        go_ret
        exact ⟨dw hf.out, by first | exact hb | exact hb.alloc (by omega) _⟩
      | false =>
        have hf := Lib.hid (show bD l id = fC (l.drop (k + 1)) id (k + 1) by rw [he'.out, hst.out, hid]; rfl)
        go_wp2_with fail
        go_roundw
        case rel => exact ⟨k + 1, by omega, by go_num, hf.out, by first | exact hro | exact hro.below ((Below.refl _ _).alloc (Nat.le_refl _) _), by first | exact hb | exact hb.alloc (by omega) _⟩
        case measure => (simp [intOf] <;> omega)
    · have hf := Lib.hid (show (-1 : Int) = bD l id by rw [he'.out, List.drop_eq_nil_of_le (by omega)]; rfl)
      go_wp2_with fail
      go_ret
      exact ⟨dw hf.out, hb⟩

set_option maxHeartbeats 1000000 in
theorem uG (l : List GCell) (id : Int) (fp : List Nat) (v : Value) (w : World) (hS : Sl w (l.map GCell.toD) fp v) : Calls Try.prog 24 #[.agg #[v], .int .i64 id] w (wL (.int .i64 (bD l id)) w) := by
  obtain ⟨A, c, rfl, hl, hc⟩ := hS.pY
  have hm : l.length ≤ 9223372036854775807 := by unfold maxLen at hc; omega
  clear hl hc
  go_enter Try.func24, Try.ntmps24
  go_wp2_with fail
  go_loopw [5] (fun iv wr => ∃ k : Nat, k ≤ l.length ∧ iv = .int .i64 k ∧ bD l id = fC (l.drop k) id k ∧ Row wr w.heap.size 26 [.slice A l.length c] ∧ Below w.heap.size w wr) (fun iv _ => l.length - (intOf iv).toNat)
  case atStart => exact ⟨0, by omega, rfl, rfl, Row.new _ _ _, (Below.refl _ _).alloc (Nat.le_refl _) _⟩
  case round =>
    obtain ⟨k, hk, rfl, he, hro, hb⟩ := hrel
    have he' := Lib.hid he
    clear he
    have kk := hro.cell
    have hz := hro.lt
    by_cases hlt : k < l.length
    · have hd : (l.map GCell.toD)[k]? = some (GCell.toD l[k]) := by rw [List.getElem?_map, List.getElem?_eq_getElem hlt]; rfl
      obtain ⟨b, o, fi, ci, rfl, hbb, hbf, hri, hfi, hat⟩ := hS.elem GCell.szs hd
      obtain ⟨rfl, rfl⟩ := GCell.opened.1 hri
      have q0 : wr.cell? ⟨b, o + k * 6, none⟩ = some (.int .i64 l[k].id) := (hb.cell (p := ⟨b, o + k * 6, none⟩) hbb).trans (hat.head)
      have q1 : wr.cell? ⟨b, o + k * 6 + 1, none⟩ = some (.int .i64 l[k].ver) := (hb.cell (p := ⟨b, o + k * 6 + 1, none⟩) hbb).trans (hat.nth 1 rfl)
      have q2 : wr.cell? ⟨b, o + k * 6 + 2, none⟩ = some (.int .i64 l[k].kind) := (hb.cell (p := ⟨b, o + k * 6 + 2, none⟩) hbb).trans (hat.nth 2 rfl)
      have q3 : wr.cell? ⟨b, o + k * 6 + 3, none⟩ = some (.string l[k].name) := (hb.cell (p := ⟨b, o + k * 6 + 3, none⟩) hbb).trans (hat.nth 3 rfl)
      have q4 : wr.cell? ⟨b, o + k * 6 + 4, none⟩ = some (.string l[k].code) := (hb.cell (p := ⟨b, o + k * 6 + 4, none⟩) hbb).trans (hat.nth 4 rfl)
      have q5 : wr.cell? ⟨b, o + k * 6 + 5, none⟩ = some (.int .i64 l[k].n) := (hb.cell (p := ⟨b, o + k * 6 + 5, none⟩) hbb).trans (hat.nth 5 rfl)
      clear hat hd hri
      have hst := Lib.hid (show fC (l.drop k) id k = if l[k].id == id then (k : Int) else fC (l.drop (k + 1)) id (k + 1) by rw [List.drop_eq_getElem_cons hlt, fC])
      cases hid : (l[k].id == id) with
      | true =>
        have hf := Lib.hid (show (k : Int) = bD l id by rw [he'.out, hst.out, hid]; rfl)
        go_wp2_with fail
        go_ret
        exact ⟨dw hf.out, by first | exact hb | exact hb.alloc (by omega) _⟩
      | false =>
        have hf := Lib.hid (show bD l id = fC (l.drop (k + 1)) id (k + 1) by rw [he'.out, hst.out, hid]; rfl)
        go_wp2_with fail
        go_roundw
        case rel => exact ⟨k + 1, by omega, by go_num, hf.out, by first | exact hro | exact hro.below ((Below.refl _ _).alloc (Nat.le_refl _) _), by first | exact hb | exact hb.alloc (by omega) _⟩
        case measure => (simp [intOf] <;> omega)
    · have hf := Lib.hid (show (-1 : Int) = bD l id by rw [he'.out, List.drop_eq_nil_of_le (by omega)]; rfl)
      go_wp2_with fail
      go_ret
      exact ⟨dw hf.out, hb⟩

theorem wfs_get {l : List GCell} (h : D.wfs (l.map GCell.toD)) {k : Nat} (hk : k < l.length) : (l[k]).toD.wf := D.wfs_get h (List.mem_map_of_mem (f := GCell.toD) (List.getElem_mem hk))

set_option maxHeartbeats 4000000 in
theorem tZ (l : List GCell) (fp : List Nat) (v : Value) (w : World) (hS : Sl w (l.map GCell.toD) fp v) (hw : D.wfs (l.map GCell.toD)) : Calls Try.prog 9 #[.agg #[v]] w (wL (.bool (dB l)) w) := by
  have hI : ∀ (wx : World) (id : Int), Below w.heap.size w wx → Calls Try.prog 11 #[.agg #[v], .int .i64 id] wx (wL (.int .i64 (bD l id)) wx) := fun wx id h => uH l id fp v wx (hS.below h)
  obtain ⟨A, c, rfl, hl, hc⟩ := hS.pY
  have hm : l.length ≤ 9223372036854775807 := by unfold maxLen at hc; omega
  clear hl hc
  go_enter Try.func9, Try.ntmps9
  go_wp2_with fail
  go_loopw [8] (fun iv wr => ∃ k : Nat, k ≤ l.length ∧ iv = .int .i64 k ∧ dW l l 0 = dW l (l.drop k) k ∧ Row wr w.heap.size 26 [.slice A l.length c] ∧ Below w.heap.size w wr) (fun iv _ => l.length - (intOf iv).toNat)
  case atStart => exact ⟨0, by omega, rfl, rfl, Row.new _ _ _, (Below.refl _ _).alloc (Nat.le_refl _) _⟩
  case round =>
    obtain ⟨k, hk, rfl, he, hro, hb⟩ := hrel
    have he' := Lib.hid he
    clear he
    have kk := hro.cell
    have hz := hro.lt
    by_cases hlt : k < l.length
    · have hd : (l.map GCell.toD)[k]? = some (GCell.toD l[k]) := by rw [List.getElem?_map, List.getElem?_eq_getElem hlt]; rfl
      obtain ⟨b, o, fi, ci, rfl, hbb, hbf, hri, hfi, hat⟩ := hS.elem GCell.szs hd
      obtain ⟨rfl, rfl⟩ := GCell.opened.1 hri
      have q0 : wr.cell? ⟨b, o + k * 6, none⟩ = some (.int .i64 l[k].id) := (hb.cell (p := ⟨b, o + k * 6, none⟩) hbb).trans (hat.head)
      have q1 : wr.cell? ⟨b, o + k * 6 + 1, none⟩ = some (.int .i64 l[k].ver) := (hb.cell (p := ⟨b, o + k * 6 + 1, none⟩) hbb).trans (hat.nth 1 rfl)
      have q2 : wr.cell? ⟨b, o + k * 6 + 2, none⟩ = some (.int .i64 l[k].kind) := (hb.cell (p := ⟨b, o + k * 6 + 2, none⟩) hbb).trans (hat.nth 2 rfl)
      have q3 : wr.cell? ⟨b, o + k * 6 + 3, none⟩ = some (.string l[k].name) := (hb.cell (p := ⟨b, o + k * 6 + 3, none⟩) hbb).trans (hat.nth 3 rfl)
      have q4 : wr.cell? ⟨b, o + k * 6 + 4, none⟩ = some (.string l[k].code) := (hb.cell (p := ⟨b, o + k * 6 + 4, none⟩) hbb).trans (hat.nth 4 rfl)
      have q5 : wr.cell? ⟨b, o + k * 6 + 5, none⟩ = some (.int .i64 l[k].n) := (hb.cell (p := ⟨b, o + k * 6 + 5, none⟩) hbb).trans (hat.nth 5 rfl)
      clear hat hd hri
      have hst := Lib.hid (show dW l (l.drop k) k = (bI l[k] && (bD l l[k].id == (k : Int)) && dW l (l.drop (k + 1)) (k + 1)) by rw [List.drop_eq_getElem_cons hlt, dW])
      have hV := fun wx => rJ l[k] (wfs_get hw hlt) wx
      go_wp2_with fail
      refine (hV _).mono ?_
      clear hV
      cases hc1 : bI l[k] with
      | false =>
        have hf := Lib.hid (show false = dB l by unfold dB; rw [he'.out, hst.out, hc1]; rfl)
        rintro e w1 ⟨rfl, hb1⟩
        go_wp2_with fail
        go_ret
        exact ⟨cO hf.out, (hb.alloc (by omega) _).trans (hb1.mono (by simp; omega))⟩
      | true =>
        rintro e w1 ⟨rfl, hb1⟩
        obtain ⟨hr1, hz1, L1⟩ := wV hb1
        have r1 := hro.below L1
        have k1 := hr1.cell
        have k2 := r1.cell
        have B1 : Below w.heap.size w w1 := hb.trans (L1.mono (by omega))
        go_wp2_with fail
        refine (hI _ _ B1).mono ?_
        cases hc2 : (bD l l[k].id == (k : Int)) with
        | false =>
          have hf := Lib.hid (show false = dB l by unfold dB; rw [he'.out, hst.out, hc1, hc2]; rfl)
          have hne : (bD l l[k].id != (k : Int)) = true := by simp [bne, hc2]
          generalize bD l l[k].id = ix at *
          clear hc2
          rintro e w2 ⟨rfl, hb2⟩
          go_wp2_with fail
          go_ret
          exact ⟨cO hf.out, B1.trans (hb2.mono (by have := B1.size; omega))⟩
        | true =>
          have hf := Lib.hid (show dW l l 0 = dW l (l.drop (k + 1)) (k + 1) by rw [he'.out, hst.out, hc1, hc2]; rfl)
          have hne : (bD l l[k].id != (k : Int)) = false := by simp [bne, hc2]
          generalize bD l l[k].id = ix at *
          clear hc2
          rintro e w2 ⟨rfl, hb2⟩
          go_wp2_with fail
          go_roundw
          case rel => exact ⟨k + 1, by omega, by go_num, hf.out, r1.below hb2, B1.trans (hb2.mono (by have := B1.size; omega))⟩
          case measure => (simp [intOf] <;> omega)
    · have hf := Lib.hid (show decide ((l.length : Int) ≤ 8) = dB l by unfold dB; rw [he'.out, List.drop_eq_nil_of_le (by omega)]; rfl)
      go_wp2_with fail
      go_ret
      exact ⟨cO hf.out, hb⟩
set_option maxHeartbeats 4000000 in
theorem tY (l : List GCell) (fp : List Nat) (v : Value) (w : World) (hS : Sl w (l.map GCell.toD) fp v) (hw : D.wfs (l.map GCell.toD)) : Calls Try.prog 10 #[.agg #[v]] w (wL (.bool (dB l)) w) := by
  have hI : ∀ (wx : World) (id : Int), Below w.heap.size w wx → Calls Try.prog 24 #[.agg #[v], .int .i64 id] wx (wL (.int .i64 (bD l id)) wx) := fun wx id h => uG l id fp v wx (hS.below h)
  obtain ⟨A, c, rfl, hl, hc⟩ := hS.pY
  have hm : l.length ≤ 9223372036854775807 := by unfold maxLen at hc; omega
  clear hl hc
  go_enter Try.func10, Try.ntmps10
  go_wp2_with fail
  go_loopw [3] (fun iv wr => ∃ k : Nat, k ≤ l.length ∧ iv = .int .i64 k ∧ dW l l 0 = dW l (l.drop k) k ∧ Row wr w.heap.size 26 [.slice A l.length c] ∧ Below w.heap.size w wr) (fun iv _ => l.length - (intOf iv).toNat)
  case atStart => exact ⟨0, by omega, rfl, rfl, Row.new _ _ _, (Below.refl _ _).alloc (Nat.le_refl _) _⟩
  case round =>
    obtain ⟨k, hk, rfl, he, hro, hb⟩ := hrel
    have he' := Lib.hid he
    clear he
    have kk := hro.cell
    have hz := hro.lt
    by_cases hlt : k < l.length
    · have hd : (l.map GCell.toD)[k]? = some (GCell.toD l[k]) := by rw [List.getElem?_map, List.getElem?_eq_getElem hlt]; rfl
      obtain ⟨b, o, fi, ci, rfl, hbb, hbf, hri, hfi, hat⟩ := hS.elem GCell.szs hd
      obtain ⟨rfl, rfl⟩ := GCell.opened.1 hri
      have q0 : wr.cell? ⟨b, o + k * 6, none⟩ = some (.int .i64 l[k].id) := (hb.cell (p := ⟨b, o + k * 6, none⟩) hbb).trans (hat.head)
      have q1 : wr.cell? ⟨b, o + k * 6 + 1, none⟩ = some (.int .i64 l[k].ver) := (hb.cell (p := ⟨b, o + k * 6 + 1, none⟩) hbb).trans (hat.nth 1 rfl)
      have q2 : wr.cell? ⟨b, o + k * 6 + 2, none⟩ = some (.int .i64 l[k].kind) := (hb.cell (p := ⟨b, o + k * 6 + 2, none⟩) hbb).trans (hat.nth 2 rfl)
      have q3 : wr.cell? ⟨b, o + k * 6 + 3, none⟩ = some (.string l[k].name) := (hb.cell (p := ⟨b, o + k * 6 + 3, none⟩) hbb).trans (hat.nth 3 rfl)
      have q4 : wr.cell? ⟨b, o + k * 6 + 4, none⟩ = some (.string l[k].code) := (hb.cell (p := ⟨b, o + k * 6 + 4, none⟩) hbb).trans (hat.nth 4 rfl)
      have q5 : wr.cell? ⟨b, o + k * 6 + 5, none⟩ = some (.int .i64 l[k].n) := (hb.cell (p := ⟨b, o + k * 6 + 5, none⟩) hbb).trans (hat.nth 5 rfl)
      clear hat hd hri
      have hst := Lib.hid (show dW l (l.drop k) k = (bI l[k] && (bD l l[k].id == (k : Int)) && dW l (l.drop (k + 1)) (k + 1)) by rw [List.drop_eq_getElem_cons hlt, dW])
      have hV := fun wx => rH l[k] (wfs_get hw hlt) wx
      have hbr : b < wr.heap.size := Nat.lt_of_lt_of_le hbb hb.size
      have hi1 : 0 ≤ (k : Int) := by omega
      have hi2 : (k : Int) < l.length := by omega
      cases hc1 : bI l[k] with
      | false =>
        have hf := Lib.hid (show false = dB l by unfold dB; rw [he'.out, hst.out, hc1]; rfl)
        rw [hc1] at hV
        clear hc1
        go_wp2_with fail
        refine wp_region_held_drew (S := (fun w' => w'.cell? ⟨w.heap.size, 0, none⟩ = some (.slice (some ⟨b, o, none⟩) l.length c) ∧ w'.cell? ⟨b, o + k * 6, none⟩ = some (.int .i64 l[k].id) ∧ w'.cell? ⟨b, o + k * 6 + 1, none⟩ = some (.int .i64 l[k].ver) ∧ w'.cell? ⟨b, o + k * 6 + 2, none⟩ = some (.int .i64 l[k].kind) ∧ w'.cell? ⟨b, o + k * 6 + 3, none⟩ = some (.string l[k].name) ∧ w'.cell? ⟨b, o + k * 6 + 4, none⟩ = some (.string l[k].code) ∧ w'.cell? ⟨b, o + k * 6 + 5, none⟩ = some (.int .i64 l[k].n))) (by kernel_rfl) ?_ (fun hHeld => ?_)
        · go_keep
        refine wpAnyH_take (i := 0) (v := ?_) rfl (by kernel_rfl) (by kernel_rfl) (by kernel_rfl) (fun _ _ _ h => h) (Or.inl ⟨by rfl, ?_⟩) (by assumption) ?_
        rotate_left
        · intro w hSw
          try dsimp only at hSw
          go_simp
          try with_reducible rfl
        try simp only [Act.put, List.getElem_toArray, List.getElem_cons_succ, List.getElem_cons_zero, List.setIfInBounds_toArray, List.set_cons_zero, List.set_cons_succ]
        refine wpAnyH_take (i := 1) (v := ?_) rfl (by kernel_rfl) (by kernel_rfl) (by kernel_rfl) (fun _ _ _ h => h) (Or.inl ⟨by rfl, ?_⟩) (by assumption) ?_
        rotate_left
        · intro w hSw
          try dsimp only at hSw
          go_simp
          try with_reducible rfl
        try simp only [Act.put, List.getElem_toArray, List.getElem_cons_succ, List.getElem_cons_zero, List.setIfInBounds_toArray, List.set_cons_zero, List.set_cons_succ]
        refine wpAnyH_take (i := 2) (v := ?_) rfl (by kernel_rfl) (by kernel_rfl) (by kernel_rfl) (fun _ _ _ h => h) (Or.inl ⟨by rfl, ?_⟩) (by assumption) ?_
        rotate_left
        · intro w hSw
          try dsimp only at hSw
          go_simp
          try with_reducible rfl
        try simp only [Act.put, List.getElem_toArray, List.getElem_cons_succ, List.getElem_cons_zero, List.setIfInBounds_toArray, List.set_cons_zero, List.set_cons_succ]
        refine wpAnyH_take (i := 3) (v := ?_) rfl (by kernel_rfl) (by kernel_rfl) (by kernel_rfl) (fun _ _ _ h => h) (Or.inl ⟨by rfl, ?_⟩) (by assumption) ?_
        rotate_left
        · intro w hSw
          try dsimp only at hSw
          go_simp
          try with_reducible rfl
        try simp only [Act.put, List.getElem_toArray, List.getElem_cons_succ, List.getElem_cons_zero, List.setIfInBounds_toArray, List.set_cons_zero, List.set_cons_succ]
        refine wpAnyH_take (i := 4) (v := ?_) rfl (by kernel_rfl) (by kernel_rfl) (by kernel_rfl) (fun _ _ _ h => h) (Or.inl ⟨by rfl, ?_⟩) (by assumption) ?_
        rotate_left
        · intro w hSw
          try dsimp only at hSw
          go_simp
          try with_reducible rfl
        try simp only [Act.put, List.getElem_toArray, List.getElem_cons_succ, List.getElem_cons_zero, List.setIfInBounds_toArray, List.set_cons_zero, List.set_cons_succ]
        refine wpAnyH_ready (rs := [5]) (by kernel_rfl) (by simp) ?_
        refine AllReadyH.cons rfl (fun K hK => ?_) AllReadyH.nil
        go_simp
        refine (hV _).mono ?_
        rintro e w1 ⟨rfl, hb1⟩
        have L1 : Below wr.heap.size wr w1 := (Below.refl _ _).drew.trans hb1
        have r1 := hro.below L1
        have k1 := r1.cell
        have c1 : ∀ o, w1.cell? ⟨b, o, none⟩ = wr.cell? ⟨b, o, none⟩ := fun o => L1.cell (p := ⟨b, o, none⟩) hbr
        have B1 : Below w.heap.size w w1 := hb.trans (L1.mono (by omega))
        refine hK.out _ _ ?_ (fun hHeld1 => ?_)
        · go_keep
        clear hK K
        try simp only [Act.put, List.getElem_toArray, List.getElem_cons_succ, List.getElem_cons_zero, List.setIfInBounds_toArray, List.set_cons_zero, List.set_cons_succ]
        refine wpAnyH_take (i := 6) (v := ?_) rfl (by kernel_rfl) (by kernel_rfl) (by kernel_rfl) (fun _ _ _ h => h) (Or.inl ⟨by rfl, ?_⟩) (by assumption) ?_
        rotate_left
        · intro w hSw
          try dsimp only at hSw
          go_simp
          try with_reducible rfl
        try simp only [Act.put, List.getElem_toArray, List.getElem_cons_succ, List.getElem_cons_zero, List.setIfInBounds_toArray, List.set_cons_zero, List.set_cons_succ]
        refine wpAnyH_take (i := 7) (v := ?_) rfl (by kernel_rfl) (by kernel_rfl) (by kernel_rfl) (fun _ _ _ h => h) (Or.inl ⟨by rfl, ?_⟩) (by assumption) ?_
        rotate_left
        · intro w hSw
          try dsimp only at hSw
          go_simp
          try with_reducible rfl
        try simp only [Act.put, List.getElem_toArray, List.getElem_cons_succ, List.getElem_cons_zero, List.setIfInBounds_toArray, List.set_cons_zero, List.set_cons_succ]
        refine wpAnyH_take (i := 8) (v := undef) rfl (by kernel_rfl) (by kernel_rfl) (by kernel_rfl) (fun _ _ _ h => h) (Or.inr ⟨by rfl, rfl⟩) (by assumption) ?_
        try simp only [Act.put, List.getElem_toArray, List.getElem_cons_succ, List.getElem_cons_zero, List.setIfInBounds_toArray, List.set_cons_zero, List.set_cons_succ]
        refine wpAnyH_take (i := 9) (v := undef) rfl (by kernel_rfl) (by kernel_rfl) (by kernel_rfl) (fun _ _ _ h => h) (Or.inr ⟨by rfl, rfl⟩) (by assumption) ?_
        try simp only [Act.put, List.getElem_toArray, List.getElem_cons_succ, List.getElem_cons_zero, List.setIfInBounds_toArray, List.set_cons_zero, List.set_cons_succ]
        refine wpAnyH_take (i := 10) (v := undef) rfl (by kernel_rfl) (by kernel_rfl) (by kernel_rfl) (fun _ _ _ h => h) (Or.inr ⟨by rfl, rfl⟩) (by assumption) ?_
        try simp only [Act.put, List.getElem_toArray, List.getElem_cons_succ, List.getElem_cons_zero, List.setIfInBounds_toArray, List.set_cons_zero, List.set_cons_succ]
        refine wpAnyH_take (i := 11) (v := undef) rfl (by kernel_rfl) (by kernel_rfl) (by kernel_rfl) (fun _ _ _ h => h) (Or.inr ⟨by rfl, rfl⟩) (by assumption) ?_
        try simp only [Act.put, List.getElem_toArray, List.getElem_cons_succ, List.getElem_cons_zero, List.setIfInBounds_toArray, List.set_cons_zero, List.set_cons_succ]
        refine wpAnyH_take (i := 12) (v := undef) rfl (by kernel_rfl) (by kernel_rfl) (by kernel_rfl) (fun _ _ _ h => h) (Or.inr ⟨by rfl, rfl⟩) (by assumption) ?_
        try simp only [Act.put, List.getElem_toArray, List.getElem_cons_succ, List.getElem_cons_zero, List.setIfInBounds_toArray, List.set_cons_zero, List.set_cons_succ]
        refine wpAnyH_take (i := 13) (v := undef) rfl (by kernel_rfl) (by kernel_rfl) (by kernel_rfl) (fun _ _ _ h => h) (Or.inr ⟨by rfl, rfl⟩) (by assumption) ?_
        try simp only [Act.put, List.getElem_toArray, List.getElem_cons_succ, List.getElem_cons_zero, List.setIfInBounds_toArray, List.set_cons_zero, List.set_cons_succ]
        refine wpAnyH_take (i := 14) (v := undef) rfl (by kernel_rfl) (by kernel_rfl) (by kernel_rfl) (fun _ _ _ h => h) (Or.inr ⟨by rfl, rfl⟩) (by assumption) ?_
        try simp only [Act.put, List.getElem_toArray, List.getElem_cons_succ, List.getElem_cons_zero, List.setIfInBounds_toArray, List.set_cons_zero, List.set_cons_succ]
        refine wpAnyH_take (i := 15) (v := undef) rfl (by kernel_rfl) (by kernel_rfl) (by kernel_rfl) (fun _ _ _ h => h) (Or.inr ⟨by rfl, rfl⟩) (by assumption) ?_
        try simp only [Act.put, List.getElem_toArray, List.getElem_cons_succ, List.getElem_cons_zero, List.setIfInBounds_toArray, List.set_cons_zero, List.set_cons_succ]
        refine wpAnyH_take (i := 16) (v := undef) rfl (by kernel_rfl) (by kernel_rfl) (by kernel_rfl) (fun _ _ _ h => h) (Or.inr ⟨by rfl, rfl⟩) (by assumption) ?_
        try simp only [Act.put, List.getElem_toArray, List.getElem_cons_succ, List.getElem_cons_zero, List.setIfInBounds_toArray, List.set_cons_zero, List.set_cons_succ]
        refine wpAnyH_take (i := 17) (v := undef) rfl (by kernel_rfl) (by kernel_rfl) (by kernel_rfl) (fun _ _ _ h => h) (Or.inr ⟨by rfl, rfl⟩) (by assumption) ?_
        try simp only [Act.put, List.getElem_toArray, List.getElem_cons_succ, List.getElem_cons_zero, List.setIfInBounds_toArray, List.set_cons_zero, List.set_cons_succ]
        refine wpAnyH_take (i := 18) (v := ?_) rfl (by kernel_rfl) (by kernel_rfl) (by kernel_rfl) (fun _ _ _ h => h) (Or.inl ⟨by rfl, ?_⟩) (by assumption) ?_
        rotate_left
        · intro w hSw
          try dsimp only at hSw
          go_simp
          try with_reducible rfl
        try simp only [Act.put, List.getElem_toArray, List.getElem_cons_succ, List.getElem_cons_zero, List.setIfInBounds_toArray, List.set_cons_zero, List.set_cons_succ]
        refine wpAnyH_done (by kernel_rfl) ?_ _
        go_wp2_with fail
        go_ret
        exact ⟨cO hf.out, B1⟩
      | true =>
        rw [hc1] at hV
        cases hc2 : (bD l l[k].id == (k : Int)) with
        | false =>
          have hf := Lib.hid (show false = dB l by unfold dB; rw [he'.out, hst.out, hc1, hc2]; rfl)
          have hne : (bD l l[k].id != (k : Int)) = true := by simp [bne, hc2]
          clear hc1 hc2
          go_wp2_with fail
          go_region_held3 (fun w' => w'.cell? ⟨w.heap.size, 0, none⟩ = some (.slice (some ⟨b, o, none⟩) l.length c) ∧ w'.cell? ⟨b, o + k * 6, none⟩ = some (.int .i64 l[k].id) ∧ w'.cell? ⟨b, o + k * 6 + 1, none⟩ = some (.int .i64 l[k].ver) ∧ w'.cell? ⟨b, o + k * 6 + 2, none⟩ = some (.int .i64 l[k].kind) ∧ w'.cell? ⟨b, o + k * 6 + 3, none⟩ = some (.string l[k].name) ∧ w'.cell? ⟨b, o + k * 6 + 4, none⟩ = some (.string l[k].code) ∧ w'.cell? ⟨b, o + k * 6 + 5, none⟩ = some (.int .i64 l[k].n)) (go_keep)
            (first | (go_at_call 32; refine (hV _).mono ?_; rintro e w1 ⟨rfl, hb1⟩; have L1 : Below wr.heap.size wr w1 := (Below.refl _ _).drew.trans hb1; have r1 := hro.below L1; have k1 := r1.cell; have c1 : ∀ o, w1.cell? ⟨b, o, none⟩ = wr.cell? ⟨b, o, none⟩ := fun o => L1.cell (p := ⟨b, o, none⟩) hbr; have B1 : Below w.heap.size w w1 := hb.trans (L1.mono (by omega))) | (go_at_call 24; refine (hI _ _ B1).mono ?_; rintro e w2 ⟨rfl, hb2⟩; have r2 := r1.below hb2; have k2 := r2.cell; have c2 : ∀ o, w2.cell? ⟨b, o, none⟩ = w1.cell? ⟨b, o, none⟩ := fun o => hb2.cell (p := ⟨b, o, none⟩) (Nat.lt_of_lt_of_le hbr L1.size); have B2 : Below w.heap.size w w2 := B1.trans (hb2.mono (by have := B1.size; omega))))
          go_wp2_with fail
          go_ret
          exact ⟨cO hf.out, B2⟩
        | true =>
          have hf := Lib.hid (show dW l l 0 = dW l (l.drop (k + 1)) (k + 1) by rw [he'.out, hst.out, hc1, hc2]; rfl)
          have hne : (bD l l[k].id != (k : Int)) = false := by simp [bne, hc2]
          clear hc1 hc2
          go_wp2_with fail
          go_region_held3 (fun w' => w'.cell? ⟨w.heap.size, 0, none⟩ = some (.slice (some ⟨b, o, none⟩) l.length c) ∧ w'.cell? ⟨b, o + k * 6, none⟩ = some (.int .i64 l[k].id) ∧ w'.cell? ⟨b, o + k * 6 + 1, none⟩ = some (.int .i64 l[k].ver) ∧ w'.cell? ⟨b, o + k * 6 + 2, none⟩ = some (.int .i64 l[k].kind) ∧ w'.cell? ⟨b, o + k * 6 + 3, none⟩ = some (.string l[k].name) ∧ w'.cell? ⟨b, o + k * 6 + 4, none⟩ = some (.string l[k].code) ∧ w'.cell? ⟨b, o + k * 6 + 5, none⟩ = some (.int .i64 l[k].n)) (go_keep)
            (first | (go_at_call 32; refine (hV _).mono ?_; rintro e w1 ⟨rfl, hb1⟩; have L1 : Below wr.heap.size wr w1 := (Below.refl _ _).drew.trans hb1; have r1 := hro.below L1; have k1 := r1.cell; have c1 : ∀ o, w1.cell? ⟨b, o, none⟩ = wr.cell? ⟨b, o, none⟩ := fun o => L1.cell (p := ⟨b, o, none⟩) hbr; have B1 : Below w.heap.size w w1 := hb.trans (L1.mono (by omega))) | (go_at_call 24; refine (hI _ _ B1).mono ?_; rintro e w2 ⟨rfl, hb2⟩; have r2 := r1.below hb2; have k2 := r2.cell; have c2 : ∀ o, w2.cell? ⟨b, o, none⟩ = w1.cell? ⟨b, o, none⟩ := fun o => hb2.cell (p := ⟨b, o, none⟩) (Nat.lt_of_lt_of_le hbr L1.size); have B2 : Below w.heap.size w w2 := B1.trans (hb2.mono (by have := B1.size; omega))))
          go_wp2_with fail
          go_roundw
          case rel => exact ⟨k + 1, by omega, by go_num, hf.out, r2, B2⟩
          case measure => (simp [intOf] <;> omega)
    · have hf := Lib.hid (show decide ((l.length : Int) ≤ 8) = dB l by unfold dB; rw [he'.out, List.drop_eq_nil_of_le (by omega)]; rfl)
      go_wp2_with fail
      go_ret
      exact ⟨cO hf.out, hb⟩
def GCell.cs (x : GCell) : List Value := [.int .i64 x.id, .int .i64 x.ver, .int .i64 x.kind, .string x.name, .string x.code, .int .i64 x.n]
theorem GCell.GK (x : GCell) : x.cs.length = 6 := rfl
def cellsOf (l : List GCell) : List Value := l.flatMap GCell.cs
theorem Kr (l : List GCell) : (cellsOf l).length = l.length * 6 := by
  induction l with
  | nil => rfl
  | cons x l ih =>
    have e : cellsOf (x :: l) = x.cs ++ cellsOf l := rfl
    rw [e, List.length_append, ih, GCell.GK, List.length_cons]
    omega
theorem xX {w : World} : ∀ {l : List GCell} {fp : List Nat} {cs : List Value}, Rs w (l.map GCell.toD) fp cs ↔ fp = [] ∧ cs = cellsOf l
  | [], fp, cs => by rw [List.map_nil, Rs]; rfl
  | x :: l, fp, cs => by
    rw [List.map_cons, Rs]
    constructor
    · rintro ⟨f1, f2, c1, c2, rfl, rfl, h1, h2⟩
      obtain ⟨rfl, rfl⟩ := GCell.opened.1 h1
      obtain ⟨rfl, rfl⟩ := xX.1 h2
      exact ⟨rfl, rfl⟩
    · rintro ⟨rfl, rfl⟩
      exact ⟨[], [], x.cs, cellsOf l, rfl, rfl, GCell.opened.2 ⟨rfl, rfl⟩, xX.2 ⟨rfl, rfl⟩⟩
theorem zL : ∀ (l : List GCell) (k j : Nat) (u : Value) (x : GCell), (h : k < l.length) → j < 6 → (l[k]).cs.set j u = x.cs → (cellsOf l).set (k * 6 + j) u = cellsOf (l.set k x)
  | [], k, _, _, _, h, _, _ => by simp at h
  | y :: l, 0, j, u, x, h, hj, e => by
    have e1 : cellsOf (y :: l) = y.cs ++ cellsOf l := rfl
    have e2 : cellsOf ((y :: l).set 0 x) = x.cs ++ cellsOf l := rfl
    rw [e1, e2, Nat.zero_mul, Nat.zero_add, List.set_append_left _ _ (by rw [GCell.GK]; exact hj)]
    rw [show y.cs.set j u = x.cs from e]
  | y :: l, k + 1, j, u, x, h, hj, e => by
    have e1 : cellsOf (y :: l) = y.cs ++ cellsOf l := rfl
    have e2 : cellsOf ((y :: l).set (k + 1) x) = y.cs ++ cellsOf (l.set k x) := rfl
    rw [e1, e2, List.set_append_right _ _ (by rw [GCell.GK]; omega), GCell.GK, show (k + 1) * 6 + j - 6 = k * 6 + j by omega, zL l k j u x (by simpa using h) hj e]

deriving instance DecidableEq for GCell
theorem Qc {a b : ByteArray} : a.toList = b.toList ↔ a = b := by
  rw [ByteArray.toList_eq, ByteArray.toList_eq]
  constructor
  · intro h
    have : a.data = b.data := Array.toList_inj.1 h
    cases a; cases b; simp_all
  · rintro rfl; rfl
set_option maxHeartbeats 1000000 in
theorem Vb (x y : GCell) (w : World) : (binOp .neq 31 (.agg #[.int .i64 x.id, .int .i64 x.ver, .int .i64 x.kind, .string x.name, .string x.code, .int .i64 x.n]) (.agg #[.int .i64 y.id, .int .i64 y.ver, .int .i64 y.kind, .string y.name, .string y.code, .int .i64 y.n])).run Try.prog w = .ok (.bool (!decide (x = y))) w := by
  go_simp
  simp only [Qc]
  cases x; cases y
  simp
  repeat' split
  all_goals simp_all
theorem Px : (Try.prog.info? 31).map (fun i => (i.zero, i.size, i.bytes)) = some (some (.agg #[.int .i64 0, .int .i64 0, .int .i64 0, .string ⟨#[]⟩, .string ⟨#[]⟩, .int .i64 0]), 6, 64) := by kernel_rfl

def nC (w : World) (base : Nat) (l : List GCell) (v : Value) : Prop := w.ownsRow base 31 6 v l.length (cellsOf l)
theorem nC.sl {w : World} {base : Nat} {l : List GCell} {v : Value} (h : nC w base l v) : Sl w (l.map GCell.toD) v.ownBlock.toList v := by
  have h' : w.ownsRow base 31 6 v (l.map GCell.toD).length (cellsOf l) := by rw [List.length_map]; exact h
  have := Sl.of_own h' (xX.2 ⟨rfl, rfl⟩)
  rwa [List.append_nil] at this
theorem GCell.one (x : GCell) : x.toD.one := by simp [GCell.aQ, D.one, D.ones, li, ls, Value.oneCell']
theorem GCell.ones {l : List GCell} : ∀ d ∈ l.map GCell.toD, d.one := fun d h => by obtain ⟨x, _, rfl⟩ := List.mem_map.1 h; exact x.one

def Dt (x : GNb) (w : World) (e : Ending) (w' : World) : Prop := ∃ v, e = .returned (.agg #[v]) ∧ nC w' w.heap.size x.cells v ∧ Below w.heap.size w w'
theorem vF {w : World} {ops : Array Oper} {rest : List Oper} {o : Oper} {a : Act} {Q : Exit → Act → World → Prop} (hgd : o.guard = none) (s x : Operand)
    (ho : o.op = .call { callee := .builtin .append, args := #[s, x], argTypes := #[24, 24] })
    (base : Nat) (v : Value) (l0 : List GCell) (hs : a.eval s = v) (hown : nC w base l0 v) (l : List GCell) (fp : List Nat) (vx : Value) (hx : a.eval x = vx) (hsl : Sl w (l.map GCell.toD) fp vx)
    (hn : l0.length + l.length ≤ 2097152) (hbase : base ≤ w.heap.size)
    (h : ∀ v' w', nC w' base (l0 ++ l) v' → w.grownBy w' v.ownBlock → (v'.ownBlock = v.ownBlock ∨ v'.ownBlock = some w.heap.size) → wpList Try.prog ops Q rest (a.put o.dst v') w') : wpList Try.prog ops Q (o :: rest) a w := by
  obtain ⟨i0, hi0, hz0, hz1, hz2⟩ := info_parts Px
  refine yw hgd s x _ ho base 31 i0 _ 6 64 Try.underlying24 hi0 hz0 hz1 hz2 rfl (by omega) v l0.length (cellsOf l0) hs hown (l.map GCell.toD) fp vx hx hsl GCell.ones GCell.szs (by rw [List.length_map]; unfold maxLen; omega) (by rw [List.length_map]; omega) hbase ?_
  intro v' w' fp' cs hr _ hown' hg hat
  refine h v' w' ?_ hg hat
  obtain ⟨rfl, rfl⟩ := xX.1 hr
  unfold nC
  rw [List.length_append, List.length_map] at *
  have e : cellsOf (l0 ++ l) = cellsOf l0 ++ cellsOf l := by unfold cellsOf; rw [List.flatMap_append]
  rw [e]
  exact hown'
theorem nC.lit {w : World} {base g : Nat} (hg : w.heap.size = g) (hb : base ≤ g) : nC (w.alloc (.cells #[] 31)) base [] (.slice (some ⟨g, 0, none⟩) 0 0) := by
  subst hg
  exact World.ownsRow_lit w #[] 0 hb (by simp) rfl

set_option maxHeartbeats 1000000 in
theorem wZ (x : GNb) (fp : List Nat) (cs : List Value) (w : World) (hR : R w x.toD fp cs) (hn : x.cells.length ≤ 1048576) : Calls Try.prog 38 #[.agg cs.toArray] w (Dt x w) := by
  obtain ⟨v0, f0, rfl, rfl, hS⟩ := GNb.opened.1 hR
  obtain ⟨A, c, rfl, hq1, hq2⟩ := hS.pY
  clear hR hq1 hq2
  go_enter Try.func38, Try.ntmps38
  go_wp2_with (at_builtin; refine vF rfl (.tmp 3) (.tmp 5) rfl (w.heap.size + 2) (.slice (some ⟨w.heap.size + 1 + 1, 0, none⟩) 0 0) [] rfl ?h1 x.cells fp _ rfl ?h2 ?h3 ?h4 ?_; rotate_left 4; intro v1 w1 hown1 hg1 hat1; obtain ⟨A1, c1, hv1⟩ := oU hown1; obtain ⟨hr10, hr11, hz1, G1⟩ := WX hg1 (by simp [Value.ownBlock]); have k10 := hr10.cell; have k11 := hr11.cell; have n11 := hr11.frozen; rw [hv1]; clear hg1 hat1)
  case h1 => exact nC.lit (by simp) (by omega)
  case h2 => exact hS.below ((((Below.refl _ _).alloc (by simp) _).alloc (by simp; try omega) _).alloc (by simp; try omega) _)
  case h3 => simp; omega
  case h4 => simp
  have hfin : nC w1 w.heap.size x.cells (.slice A1 x.cells.length c1) := by
    rw [← List.nil_append x.cells, ← hv1]
    exact oQ hown1 (by omega)
  refine bodyPost_ret (v := .agg #[.slice A1 x.cells.length c1]) (by simp [results, Try.results38, go_sem, k11]) rfl ⟨_, rfl, ?_, G1.setCell (by simp) _⟩
  refine qE hfin (fun e => ?_) _
  rcases hown1.2 with ⟨h, _⟩ | ⟨g, cap, cur, h, hg, _⟩
  · rw [hv1] at h
    injection h with h1
    subst h1
    simp [Value.ownBlock] at e
  · rw [hv1] at h
    injection h with h1
    subst h1
    simp [Value.ownBlock] at e
    omega

def GCell.unver (c : GCell) : GCell := { c with ver := 0 }
def iW (l : List GCell) (k : Nat) : List GCell := (l.take k).map GCell.unver ++ l.drop k
theorem wP (l : List GCell) : iW l 0 = l := by simp [iW]
theorem zn (l : List GCell) : iW l l.length = l.map GCell.unver := by simp [iW]
theorem lW (l : List GCell) (k : Nat) : (iW l k).length = l.length := by simp [iW]; omega
theorem Hl (l : List GCell) (k : Nat) (h : k < l.length) : (iW l k)[k]'(by rw [lW]; exact h) = l[k] := by
  have h1 : ((l.take k).map GCell.unver).length = k := by simp; omega
  simp only [iW]
  rw [List.getElem_append_right (by omega), List.getElem_drop]
  congr 1
  omega
theorem Hg (l : List GCell) (k : Nat) (h : k < l.length) : (iW l k).set k (l[k]).unver = iW l (k + 1) := by
  have h1 : ((l.take k).map GCell.unver).length = k := by simp; omega
  unfold iW
  rw [List.set_append_right _ _ (by omega), h1, Nat.sub_self, List.drop_eq_getElem_cons h, List.set_cons_zero, List.take_succ_eq_append_getElem h, List.map_append]
  simp
theorem Hf (l : List GCell) (k : Nat) (h : k < l.length) : (cellsOf (iW l k)).set (k * 6 + 1) (.int .i64 0) = cellsOf (iW l (k + 1)) := by
  rw [zL (iW l k) k 1 (.int .i64 0) (l[k]).unver (by rw [lW]; exact h) (by omega) (by rw [Hl l k h]; rfl), Hg l k h]

theorem Sr {l l' : List GCell} {k : Nat} (h1 : k < l.length) (h2 : k < l'.length) (h : l[k] ≠ l'[k]) : l ≠ l' := fun e => by
  subst e
  exact h rfl
theorem OU {l l' : List GCell} {k : Nat} (h1 : k < l.length) (h2 : k < l'.length) (ht : l.take k = l'.take k) (h : l[k] = l'[k]) : l.take (k + 1) = l'.take (k + 1) := by
  rw [List.take_succ_eq_append_getElem h1, List.take_succ_eq_append_getElem h2, ht, h]

set_option maxHeartbeats 2000000 in
theorem qc (l l' : List GCell) (fp fp' : List Nat) (v v' : Value) (w : World) (hS1 : Sl w (l.map GCell.toD) fp v) (hS2 : Sl w (l'.map GCell.toD) fp' v') (hn : l.length ≤ 1048576) :
    Calls Try.prog 16 #[.agg #[v], .agg #[v']] w (wL (.bool (decide (l = l'))) w) := by
  obtain ⟨A, c, rfl, hq1, hq2⟩ := hS1.pY
  obtain ⟨A', c', rfl, hq3, hq4⟩ := hS2.pY
  clear hq1 hq2 hq3 hq4
  by_cases hlen : l.length = l'.length
  · have hb0 : ((l.length : Int) != (l'.length : Int)) = false := by simp [hlen]
    have hlen' := Lib.hid hlen
    clear hlen
    go_enter Try.func16, Try.ntmps16
    go_wp2_with fail
    go_loopw [5] (fun iv wr => ∃ k : Nat, k ≤ l.length ∧ iv = .int .i64 k ∧ l.take k = l'.take k ∧ Row wr w.heap.size 26 [.slice A l.length c] ∧ Row wr (w.heap.size + 1) 26 [.slice A' l'.length c'] ∧ Below w.heap.size w wr) (fun iv _ => l.length - (intOf iv).toNat)
    case atStart =>
      obtain ⟨r0, r1, _, hB⟩ := V8 (Below.refl _ ((w.alloc (.cells #[.slice A l.length c] 26)).alloc (.cells #[.slice A' l'.length c'] 26)))
      exact ⟨0, by omega, rfl, by simp, r0, r1, hB⟩
    case round =>
      obtain ⟨k, hk, rfl, hte, hro0, hro1, hb⟩ := hrel
      have kk0 := hro0.cell
      have kk1 := hro1.cell
      have hte' := Lib.hid hte
      clear hte
      by_cases hlt : k < l.length
      · have hlt2 : k < l'.length := by have := hlen'.out; omega
        have hi1 : 0 ≤ (k : Int) := by omega
        have hi2 : (k : Int) < l.length := by omega
        have hi3 : (k : Int) < l'.length := by omega
        have hd1 : (l.map GCell.toD)[k]? = some (GCell.toD l[k]) := by rw [List.getElem?_map, List.getElem?_eq_getElem hlt]; rfl
        have hd2 : (l'.map GCell.toD)[k]? = some (GCell.toD l'[k]) := by rw [List.getElem?_map, List.getElem?_eq_getElem hlt2]; rfl
        obtain ⟨b1, o1, fi1, ci1, rfl, hbb1, hbf1, hri1, hfi1, hat1⟩ := hS1.elem GCell.szs hd1
        obtain ⟨b2, o2, fi2, ci2, rfl, hbb2, hbf2, hri2, hfi2, hat2⟩ := hS2.elem GCell.szs hd2
        obtain ⟨rfl, rfl⟩ := GCell.opened.1 hri1
        obtain ⟨rfl, rfl⟩ := GCell.opened.1 hri2
        have q10 : wr.cell? ⟨b1, o1 + k * 6, none⟩ = some (.int .i64 l[k].id) := (hb.cell (p := ⟨b1, o1 + k * 6, none⟩) hbb1).trans (hat1.head)
        have q11 : wr.cell? ⟨b1, o1 + k * 6 + 1, none⟩ = some (.int .i64 l[k].ver) := (hb.cell (p := ⟨b1, o1 + k * 6 + 1, none⟩) hbb1).trans (hat1.nth 1 rfl)
        have q12 : wr.cell? ⟨b1, o1 + k * 6 + 2, none⟩ = some (.int .i64 l[k].kind) := (hb.cell (p := ⟨b1, o1 + k * 6 + 2, none⟩) hbb1).trans (hat1.nth 2 rfl)
        have q13 : wr.cell? ⟨b1, o1 + k * 6 + 3, none⟩ = some (.string l[k].name) := (hb.cell (p := ⟨b1, o1 + k * 6 + 3, none⟩) hbb1).trans (hat1.nth 3 rfl)
        have q14 : wr.cell? ⟨b1, o1 + k * 6 + 4, none⟩ = some (.string l[k].code) := (hb.cell (p := ⟨b1, o1 + k * 6 + 4, none⟩) hbb1).trans (hat1.nth 4 rfl)
        have q15 : wr.cell? ⟨b1, o1 + k * 6 + 5, none⟩ = some (.int .i64 l[k].n) := (hb.cell (p := ⟨b1, o1 + k * 6 + 5, none⟩) hbb1).trans (hat1.nth 5 rfl)
        have q20 : wr.cell? ⟨b2, o2 + k * 6, none⟩ = some (.int .i64 l'[k].id) := (hb.cell (p := ⟨b2, o2 + k * 6, none⟩) hbb2).trans (hat2.head)
        have q21 : wr.cell? ⟨b2, o2 + k * 6 + 1, none⟩ = some (.int .i64 l'[k].ver) := (hb.cell (p := ⟨b2, o2 + k * 6 + 1, none⟩) hbb2).trans (hat2.nth 1 rfl)
        have q22 : wr.cell? ⟨b2, o2 + k * 6 + 2, none⟩ = some (.int .i64 l'[k].kind) := (hb.cell (p := ⟨b2, o2 + k * 6 + 2, none⟩) hbb2).trans (hat2.nth 2 rfl)
        have q23 : wr.cell? ⟨b2, o2 + k * 6 + 3, none⟩ = some (.string l'[k].name) := (hb.cell (p := ⟨b2, o2 + k * 6 + 3, none⟩) hbb2).trans (hat2.nth 3 rfl)
        have q24 : wr.cell? ⟨b2, o2 + k * 6 + 4, none⟩ = some (.string l'[k].code) := (hb.cell (p := ⟨b2, o2 + k * 6 + 4, none⟩) hbb2).trans (hat2.nth 4 rfl)
        have q25 : wr.cell? ⟨b2, o2 + k * 6 + 5, none⟩ = some (.int .i64 l'[k].n) := (hb.cell (p := ⟨b2, o2 + k * 6 + 5, none⟩) hbb2).trans (hat2.nth 5 rfl)

        clear hat1 hat2 hd1 hd2 hri1 hri2
        have hneq := Vb l[k] l'[k]
        by_cases hxy : l[k] = l'[k]
        · have hde : (!decide (l[k] = l'[k])) = false := by simp [hxy]
          rw [hde] at hneq
          clear hde
          have hxy' := Lib.hid hxy
          clear hxy
          go_wp2_with fail
          go_quiet (fail)
          go_wp2_with fail
          go_roundw
          case rel => exact ⟨k + 1, by omega, by go_num, OU hlt hlt2 hte'.out hxy'.out, hro0, hro1, uI hb _⟩
          case measure => (simp [intOf] <;> omega)
        · have hde : (!decide (l[k] = l'[k])) = true := by simp [hxy]
          rw [hde] at hneq
          clear hde
          have hf := Lib.hid (show false = decide (l = l') by rw [decide_eq_false (Sr hlt hlt2 hxy)])
          clear hxy
          go_wp2_with fail
          go_quiet (fail)
          go_wp2_with fail
          go_ret
          exact ⟨cO hf.out, uI hb _⟩
      · have hf := Lib.hid (show true = decide (l = l') by
          have h1 := hte'.out
          have h2 := hlen'.out
          rw [List.take_of_length_le (by omega), List.take_of_length_le (by omega)] at h1
          rw [decide_eq_true h1])
        go_wp2_with fail
        go_ret
        exact ⟨cO hf.out, hb⟩
  · have hb0 : ((l.length : Int) != (l'.length : Int)) = true := by simp; omega
    have hf := Lib.hid (show false = decide (l = l') by rw [decide_eq_false (fun e => hlen (by rw [e]))])
    clear hlen
    go_enter Try.func16, Try.ntmps16
    go_wp2_with fail
    go_ret
    exact ⟨cO hf.out, ((Below.refl _ _).alloc (by simp) _).alloc (by simp; try omega) _⟩

theorem Fz (l : List GCell) : (l.map GCell.unver).length = l.length := List.length_map ..
theorem nC.addr {w : World} {base : Nat} {l : List GCell} {A : Option Addr} {n c : Nat} (h : nC w base l (.slice A n c)) (hn : 0 < l.length) : ∃ g, A = some ⟨g, 0, none⟩ ∧ base ≤ g ∧ g < w.heap.size := by
  rcases h.2 with ⟨_, h'⟩ | ⟨g, cap, cur, h', hb, hh, _⟩
  · omega
  · injection h' with h1 _ _
    refine ⟨g, h1, hb, ?_⟩
    rcases Nat.lt_or_ge g w.heap.size with hlt | hge
    · exact hlt
    · rw [Array.getElem?_eq_none hge] at hh; cases hh
theorem nC.lt_ {w : World} {base : Nat} {l : List GCell} {A : Option Addr} {n c : Nat} (h : nC w base l (.slice A n c)) : ∀ g, A = some ⟨g, 0, none⟩ → base ≤ g ∧ g < w.heap.size := fun g e => World.ownsRow.lt h g (by rw [e]; rfl)
theorem nC.strike {w : World} {base g c k : Nat} {l : List GCell} (h : nC w base (iW l k) (.slice (some ⟨g, 0, none⟩) l.length c)) (hk : k < l.length) :
    (∃ u, w.cell? ⟨g, k * 6 + 1, none⟩ = some u) ∧ w.frozen? ⟨g, k * 6 + 1, none⟩ = false ∧ nC (w.setCell ⟨g, k * 6 + 1, none⟩ (.int .i64 0)) base (iW l (k + 1)) (.slice (some ⟨g, 0, none⟩) l.length c) := by
  unfold nC at *
  rw [lW] at *
  have hset := h.stored (k * 6 + 1) (.int .i64 0)
  rw [Hf _ _ hk] at hset
  refine ⟨⟨_, (h.cellAt (k * 6 + 1) (by omega)).trans (List.getElem?_eq_getElem (by rw [Kr, lW]; omega))⟩, h.frozenAt _, hset.1⟩

set_option maxHeartbeats 2000000 in
theorem yB (x y : GNb) (f1 f2 : List Nat) (c1 c2 : List Value) (w : World) (h1 : R w x.toD f1 c1) (h2 : R w y.toD f2 c2) (hn : x.cells.length ≤ 1048576) (hm : y.cells.length ≤ 1048576) :
    Calls Try.prog 18 #[.agg c1.toArray, .agg c2.toArray] w (wL (.bool (decide (x.cells.map GCell.unver = y.cells.map GCell.unver))) w) := by
  have hP : ∀ wx : World, Below w.heap.size w wx → Calls Try.prog 38 #[.agg c1.toArray] wx (Dt x wx) := fun wx h => wZ x f1 c1 wx (h1.below h) hn
  have hQ : ∀ wx : World, Below w.heap.size w wx → Calls Try.prog 38 #[.agg c2.toArray] wx (Dt y wx) := fun wx h => wZ y f2 c2 wx (h2.below h) hm
  obtain ⟨v1, g1, rfl, rfl, hS1⟩ := GNb.opened.1 h1
  obtain ⟨v2, g2, rfl, rfl, hS2⟩ := GNb.opened.1 h2
  obtain ⟨A1, d1, rfl, _, _⟩ := hS1.pY
  obtain ⟨A2, d2, rfl, _, _⟩ := hS2.pY
  clear h1 h2 hS1 hS2
  go_enter Try.func18, Try.ntmps18
  go_wp2_with fail
  refine (hP _ ?_).mono ?_
  · exact ((Below.refl _ _).alloc (by simp) _).alloc (by simp; try omega) _
  rintro e w1 ⟨u1, rfl, ho1, hb1⟩
  obtain ⟨hr0, hr1, hz1, G1⟩ := V8 hb1
  obtain ⟨B1, e1, hv1⟩ := oU ho1
  have k1 := fun o => (hr1.below ((Below.refl w1.heap.size w1).alloc (Nat.le_refl _) o)).cell
  clear hb1
  subst hv1
  go_wp2_with fail
  refine (hQ _ ?_).mono ?_
  · exact G1.alloc (by omega) _
  rintro e w2 ⟨u2, rfl, ho2, hb2⟩
  obtain ⟨B2, e2, hv2⟩ := oU ho2
  subst hv2
  obtain ⟨hr2, hz2, G2⟩ := wV hb2
  have ho1' : nC w2 (w.heap.size + 2) x.cells (.slice B1 x.cells.length e1) := kZ (kZ (oQ ho1 (by simp)) ((Below.refl _ _).alloc (Nat.le_refl _) _)) hb2
  have ho2' : nC w2 (w1.heap.size + 1) y.cells (.slice B2 y.cells.length e2) := oQ ho2 (by simp)
  have hA1 : ∀ g, B1 = some ⟨g, 0, none⟩ → w.heap.size + 2 ≤ g ∧ g < w1.heap.size := fun g e => by have := ho1.lt_ g e; simpa using this
  have hA2 := ho2'.lt_
  have hA1' := hA1
  have H2 : Below w.heap.size w w2 := G1.trans (G2.mono (by omega))
  clear ho1 ho2 hb2 hr0 hr1 k1 G1 G2
  go_wp2_with fail
  go_loopw [7] (fun iv wr => ∃ k : Nat, k ≤ x.cells.length ∧ iv = .int .i64 k ∧ nC wr (w.heap.size + 2) (iW x.cells k) (.slice B1 x.cells.length e1) ∧ nC wr (w1.heap.size + 1) y.cells (.slice B2 y.cells.length e2) ∧ Row wr w1.heap.size 26 [.slice B1 x.cells.length e1] ∧ Row wr w2.heap.size 26 [.slice B2 y.cells.length e2] ∧ w2.heap.size + 1 ≤ wr.heap.size ∧ Below w.heap.size w wr) (fun iv _ => x.cells.length - (intOf iv).toNat)
  case atStart =>
    have ha := (Below.refl w2.heap.size w2).alloc (Nat.le_refl _) (.cells #[.slice B2 y.cells.length e2] 26)
    refine ⟨0, by omega, rfl, ?_, kZ ho2' ha, hr2.below ha, Row.new _ _ _, by simp, H2.trans (ha.mono H2.size)⟩
    rw [wP]
    exact kZ ho1' ha
  case round =>
    obtain ⟨k, hk, rfl, hox, hoy, hq1, hq2, hsz, hb⟩ := hrel
    have j1 := hq1.cell
    have j2 := hq2.cell
    have n1 := hq1.frozen
    by_cases hlt : k < x.cells.length
    · obtain ⟨g, rfl, hga, hgb⟩ := hox.addr (by rw [lW]; omega)
      obtain ⟨hgc, hgd⟩ := hA1 g rfl
      obtain ⟨⟨ou, q0⟩, qf, hset⟩ := hox.strike hlt
      have hfar : nC (wr.setCell ⟨g, k * 6 + 1, none⟩ (.int .i64 0)) (w1.heap.size + 1) y.cells (.slice B2 y.cells.length e2) := qE hoy (fun e => by
        cases B2 with
        | none => simp [Value.ownBlock] at e
        | some a =>
          have := World.ownsRow.lt hoy a.block rfl
          simp [Value.ownBlock] at e
          omega) _
      clear hox hA1 hA1' hA2 ho1' ho2' hoy
      go_wp2_with fail
      go_roundw
      case rel => exact ⟨k + 1, by omega, by go_num, hset, hfar, hq1.far (by simp; omega) _, hq2.far (by simp; omega) _, by simpa [World.setCell] using hsz, hb.setCell (by simp; omega) _⟩
      case measure => (simp [intOf] <;> omega)
    · have hkk := Lib.hid (show k = x.cells.length by omega)
      clear ho1' ho2' hA1
      go_wp2_with fail
      have hk2 := hkk.out
      subst hk2
      rw [zn] at hox
      clear hkk
      obtain ⟨wo, rfl⟩ : ∃ wo : World, wo = wr := ⟨_, rfl⟩
      go_loopw [8] (fun iv wr => ∃ k : Nat, k ≤ y.cells.length ∧ iv = .int .i64 k ∧ nC wr (w.heap.size + 2) (x.cells.map GCell.unver) (.slice B1 x.cells.length e1) ∧ nC wr (w1.heap.size + 1) (iW y.cells k) (.slice B2 y.cells.length e2) ∧ Row wr w1.heap.size 26 [.slice B1 x.cells.length e1] ∧ Row wr w2.heap.size 26 [.slice B2 y.cells.length e2] ∧ w2.heap.size + 1 ≤ wr.heap.size ∧ Below w.heap.size w wr) (fun iv _ => y.cells.length - (intOf iv).toNat)
      case atStart =>
        refine ⟨0, by omega, rfl, hox, ?_, hq1, hq2, hsz, hb⟩
        rw [wP]
        exact hoy
      case round =>
        obtain ⟨k, hk, rfl, hox, hoy, hq1, hq2, hsz, hb⟩ := hrel
        have j1 := hq1.cell
        have j2 := hq2.cell
        by_cases hlt : k < y.cells.length
        · obtain ⟨g, rfl, hga, hgb⟩ := hoy.addr (by rw [lW]; omega)
          obtain ⟨hgc, hgd⟩ := hA2 g rfl
          obtain ⟨⟨ou, q0⟩, qf, hset⟩ := hoy.strike hlt
          have hfar : nC (wr.setCell ⟨g, k * 6 + 1, none⟩ (.int .i64 0)) (w.heap.size + 2) (x.cells.map GCell.unver) (.slice B1 x.cells.length e1) := qE hox (fun e => by
            cases B1 with
            | none => simp [Value.ownBlock] at e
            | some a =>
              have h1 := World.ownsRow.lt hox a.block rfl
              have h2 : a.spot = none ∧ a.off = 0 := by
                rcases hox.2 with ⟨h, _⟩ | ⟨g', cap, cur, h, _⟩
                · cases h
                · injection h with h' _ _
                  injection h' with h''
                  rw [h'']
                  exact ⟨rfl, rfl⟩
              obtain ⟨ab, ao, asp⟩ := a
              obtain ⟨rfl, rfl⟩ := h2
              have h3 := hA1' ab rfl
              simp [Value.ownBlock] at e
              omega) _
          clear hoy hA1' hA2 hox
          go_wp2_with fail
          go_roundw
          case rel => exact ⟨k + 1, by omega, by go_num, hfar, hset, hq1.far (by simp; omega) _, hq2.far (by simp; omega) _, by simpa [World.setCell] using hsz, hb.setCell (by simp; omega) _⟩
          case measure => (simp [intOf] <;> omega)
        · have hkk := Lib.hid (show k = y.cells.length by omega)
          clear hA1' hA2
          go_wp2_with fail
          have hk2 := hkk.out
          subst hk2
          rw [zn] at hoy
          have so1 : Sl wr ((x.cells.map GCell.unver).map GCell.toD) _ (.slice B1 x.cells.length e1) := nC.sl hox
          have so2 : Sl wr ((y.cells.map GCell.unver).map GCell.toD) _ (.slice B2 y.cells.length e2) := nC.sl hoy
          have hE : ∀ wx : World, Below wr.heap.size wr wx → Calls Try.prog 16 #[.agg #[.slice B1 x.cells.length e1], .agg #[.slice B2 y.cells.length e2]] wx (wL (.bool (decide (x.cells.map GCell.unver = y.cells.map GCell.unver))) wx) := fun wx h => qc _ _ _ _ _ _ wx (so1.below h) (so2.below h) (by rw [Fz]; exact hn)
          generalize decide (x.cells.map GCell.unver = y.cells.map GCell.unver) = bb at *
          clear hkk so1 so2 hox hoy
          go_wp2_with fail
          refine (hE _ (Below.refl _ _)).mono ?_
          rintro e w3 ⟨rfl, hb3⟩
          go_wp2_with fail
          go_ret
          exact ⟨rfl, hb.trans (hb3.mono (by have := hb.size; omega))⟩
theorem fO {w : World} {l : List GCell} : ∀ (f : List Nat) (cs : List Value), Rs w (l.map GCell.toD) f cs → f = [] := by
  induction l with
  | nil => intro f cs h; exact h.1
  | cons x l ih =>
    intro f cs h
    rw [List.map_cons, Rs] at h
    obtain ⟨f1, f2, c1, c2, rfl, rfl, h1, h2⟩ := h
    rw [(GCell.opened.1 h1).1, ih f2 c2 h2]
    rfl
def l7 (l : List GCell) (k : Nat) (c : GCell) : List GCell := l.take k ++ [c] ++ l.drop k
def gV (l : List GCell) (k : Nat) : List GCell := l.take k ++ l.drop (k + 1)

set_option maxRecDepth 20000 in
set_option maxHeartbeats 2000000 in
theorem FW (l : List GCell) (k : Nat) (fp : List Nat) (v : Value) (w : World) (hS : Sl w (l.map GCell.toD) fp v) (hk : k < l.length) (hn : l.length ≤ 1048576) : Calls Try.prog 58 #[v, .int .i64 k] w (qQ ((gV l k).map GCell.toD) w) := by
  obtain ⟨A, c, rfl, hl, hc⟩ := hS.pY
  have h1 : ∀ w : World, (Instr.slice 24 (.slice A l.length c) none (some (.int .i64 (k : Int))) none).run Try.prog w = .ok (.slice A k c) w := dL.vW (A := A) k (Nat.le_of_lt hk) hl
  obtain ⟨A2, h2', h2s⟩ := dL.vV (A := A) (k + 1) hk hl
  have h2 : ∀ w : World, (Instr.slice 24 (.slice A l.length c) (some (.int .i64 ((k : Int) + 1))) none none).run Try.prog w = .ok (.slice A2 (l.length - (k + 1)) (c - (k + 1))) w := h2'
  clear h2'
  obtain ⟨f1, hS1, _⟩ := Sl.take hS (by rw [List.length_map]; omega : k ≤ (l.map GCell.toD).length)
  obtain ⟨f2, hS2, _⟩ := h2s w _ _ GCell.szs hS
  rw [← List.map_take] at hS1
  rw [← List.map_drop] at hS2
  have hk0 : (0 : Int) ≤ (k : Int) := by omega
  have hk1 : (k : Int) + 1 ≤ l.length := by omega
  clear h2s
  have hwr : IntKind.i64.wrap ((k : Int) + 1) = (k : Int) + 1 := IntWalk.i64_in _ (by omega)
  go_enter Try.func58, Try.ntmps58
  go_wp2_with fail
  have tok1 : True := trivial
  go_region_held3 (fun _ => True) (trivial)
    (first
    | (have _t := tok1; refine dF rfl dL (.tmp 5) (.tmp 8) rfl w.heap.size _ (by rfl) [] [] (iV.lit (by rfl) (by simp)) ((l.take k).map GCell.toD) [] _ (by rfl) (Src.of_flat (hS1.below ((Below.refl _ _).drew.alloc (by simp) _)) fO) GCell.lg GCell.szs fM iq (by simp; omega) (by simp) ?_; intro v1 w1 ho1 hg1 hat1; have L1 : Below w.heap.size w w1 := eH ((Below.refl _ _).alloc (Nat.le_refl _) _).drew hg1 (by simp) (fun g hg => by simp [Value.ownBlock] at hg; omega); clear tok1)
    | (refine dF rfl dL (.tmp 9) (.tmp 13) rfl w.heap.size _ (by rfl) _ [] ho1 ((l.drop (k + 1)).map GCell.toD) [] _ (by rfl) (Src.of_flat (hS2.below L1) fO) GCell.lg GCell.szs fM iq (by simp; omega) L1.size ?_; intro v2 w2 ho2 hg2 hat2))
  go_wp2_with fail
  go_ret
  rw [List.nil_append, ← List.map_append] at ho2
  exact ho2.tos (eH L1 hg2 L1.size (fun g hg => (ho1.ge g hg).1))
set_option maxRecDepth 20000 in
set_option maxHeartbeats 2000000 in
theorem Gi (l : List GCell) (k : Nat) (fp : List Nat) (v : Value) (w : World) (hS : Sl w (l.map GCell.toD) fp v) (hk : k < l.length) (hn : l.length ≤ 1048576) : Calls Try.prog 46 #[v, .int .i64 k] w (qQ ((gV l k).map GCell.toD) w) := by
  obtain ⟨A, c, rfl, hl, hc⟩ := hS.pY
  have h1 : ∀ w : World, (Instr.slice 24 (.slice A l.length c) none (some (.int .i64 (k : Int))) none).run Try.prog w = .ok (.slice A k c) w := dL.vW (A := A) k (Nat.le_of_lt hk) hl
  obtain ⟨A2, h2', h2s⟩ := dL.vV (A := A) (k + 1) hk hl
  have h2 : ∀ w : World, (Instr.slice 24 (.slice A l.length c) (some (.int .i64 ((k : Int) + 1))) none none).run Try.prog w = .ok (.slice A2 (l.length - (k + 1)) (c - (k + 1))) w := h2'
  clear h2'
  obtain ⟨f1, hS1, _⟩ := Sl.take hS (by rw [List.length_map]; omega : k ≤ (l.map GCell.toD).length)
  obtain ⟨f2, hS2, _⟩ := h2s w _ _ GCell.szs hS
  rw [← List.map_take] at hS1
  rw [← List.map_drop] at hS2
  have hk0 : (0 : Int) ≤ (k : Int) := by omega
  have hk1 : (k : Int) + 1 ≤ l.length := by omega
  clear h2s
  have hwr : IntKind.i64.wrap ((k : Int) + 1) = (k : Int) + 1 := IntWalk.i64_in _ (by omega)
  go_enter Try.func46, Try.ntmps46
  go_wp2_with fail
  have tok1 : True := trivial
  go_region_held3 (fun _ => True) (trivial)
    (first
    | (have _t := tok1; refine dF rfl dL (.tmp 5) (.tmp 8) rfl w.heap.size _ (by rfl) [] [] (iV.lit (by rfl) (by simp)) ((l.take k).map GCell.toD) [] _ (by rfl) (Src.of_flat (hS1.below ((Below.refl _ _).drew.alloc (by simp) _)) fO) GCell.lg GCell.szs fM iq (by simp; omega) (by simp) ?_; intro v1 w1 ho1 hg1 hat1; have L1 : Below w.heap.size w w1 := eH ((Below.refl _ _).alloc (Nat.le_refl _) _).drew hg1 (by simp) (fun g hg => by simp [Value.ownBlock] at hg; omega); clear tok1)
    | (refine dF rfl dL (.tmp 9) (.tmp 13) rfl w.heap.size _ (by rfl) _ [] ho1 ((l.drop (k + 1)).map GCell.toD) [] _ (by rfl) (Src.of_flat (hS2.below L1) fO) GCell.lg GCell.szs fM iq (by simp; omega) L1.size ?_; intro v2 w2 ho2 hg2 hat2))
  go_wp2_with fail
  go_ret
  rw [List.nil_append, ← List.map_append] at ho2
  exact ho2.tos (eH L1 hg2 L1.size (fun g hg => (ho1.ge g hg).1))

def fP (a : Int) (n : Nat) : Nat := (max 0 (min a (n : Int))).toNat
theorem Qa (a : Int) (n : Nat) : fP a n ≤ n := by unfold fP; omega
theorem Qb (a : Int) (n : Nat) : max 0 (min a (n : Int)) = (fP a n : Int) := by unfold fP; omega

set_option maxRecDepth 20000 in
set_option maxHeartbeats 4000000 in
theorem DK (l : List GCell) (a : Int) (x : GCell) (fp : List Nat) (v : Value) (w : World) (hS : Sl w (l.map GCell.toD) fp v) (hn : l.length ≤ 1048576) : Calls Try.prog 57 #[v, .int .i64 a, .agg #[.int .i64 x.id, .int .i64 x.ver, .int .i64 x.kind, .string x.name, .string x.code, .int .i64 x.n]] w (qQ ((l7 l (fP a l.length) x).map GCell.toD) w) := by
  obtain ⟨A, c, rfl, hl, hc⟩ := hS.pY
  by_cases ha : a ≤ 0
  · have e : fP a l.length = 0 := by unfold fP; omega
    rw [e]
    clear e
    have h1 : ∀ w : World, (Instr.slice 24 (.slice A l.length c) none (some (.int .i64 (0))) none).run Try.prog w = .ok (.slice A (0) c) w := dL.vW (A := A) (0) (Nat.zero_le _) hl
    obtain ⟨A2, h2', h2s⟩ := dL.vV (A := A) (0) (Nat.zero_le _) hl
    have h2 : ∀ w : World, (Instr.slice 24 (.slice A l.length c) (some (.int .i64 (0))) none none).run Try.prog w = .ok (.slice A2 (l.length - (0)) (c - (0))) w := h2'
    clear h2'
    obtain ⟨f1, hS1, _⟩ := Sl.take hS (by rw [List.length_map]; exact Nat.zero_le _ : (0) ≤ (l.map GCell.toD).length)
    obtain ⟨f2, hS2, _⟩ := h2s w _ _ GCell.szs hS
    rw [← List.map_take] at hS1
    rw [← List.map_drop] at hS2
    clear h2s
    have tok1 : True := trivial
    have tok2 : True := trivial
    go_enter Try.func57, Try.ntmps57
    go_wp2_with fail
    go_region_held3 (fun w' => w'.cell? ⟨w.heap.size, 0, none⟩ = some (.int .i64 x.id) ∧ w'.cell? ⟨w.heap.size, 1, none⟩ = some (.int .i64 x.ver) ∧ w'.cell? ⟨w.heap.size, 2, none⟩ = some (.int .i64 x.kind) ∧ w'.cell? ⟨w.heap.size, 3, none⟩ = some (.string x.name) ∧ w'.cell? ⟨w.heap.size, 4, none⟩ = some (.string x.code) ∧ w'.cell? ⟨w.heap.size, 5, none⟩ = some (.int .i64 x.n)) (go_keep)
      (first
      | (have _t := tok1; refine dF rfl dL (.tmp 13) (.tmp 16) rfl (w.heap.size + 1) _ (by rfl) [] [] (by first | exact iV.lit (by simp) (by simp) | exact (iV.lit (by simp) (by simp)).below (((Below.refl _ _).alloc (Nat.le_refl _) _).drew)) ((l.take (0)).map GCell.toD) [] _ (by rfl) (Src.of_flat (hS1.below (by repeat' (first | exact Below.refl _ _ | exact Nat.le_refl _ | apply Below.drew | apply Below.alloc | (simp; done) | (simp; omega)))) fO) GCell.lg GCell.szs fM iq (by simp; try omega) (by simp; try omega) ?_; intro v1 w1 ho1 hg1 hat1; have L1 : Below w.heap.size w w1 := eH (by repeat' (first | exact Below.refl _ _ | exact Nat.le_refl _ | apply Below.drew | apply Below.alloc | (simp; done) | (simp; omega))) hg1 (by simp; try omega) (fun g hg => by have h := Option.some.inj hg; try simp at h; omega); have hrB : Row w1 w.heap.size 31 (#[.int .i64 x.id, .int .i64 x.ver, .int .i64 x.kind, .string x.name, .string x.code, .int .i64 x.n] : Array Value).toList := Row.grown (Row.below (Row.new w _ _) (by repeat' (first | exact Below.refl _ _ | exact Nat.le_refl _ | apply Below.drew | apply Below.alloc | (simp; done) | (simp; omega)))) hg1 (fun e => by have h := Option.some.inj e; try dsimp only at h; omega); have kB := hrB.cell; (first | have hrA : Row w1 (w.heap.size + 2) 31 (#[.int .i64 x.id, .int .i64 x.ver, .int .i64 x.kind, .string x.name, .string x.code, .int .i64 x.n] : Array Value).toList := Row.grown (Row.drew (Row.tX (by simp))) hg1 (fun e => by have h := Option.some.inj e; try dsimp only at h; omega) | have hrA : Row w1 (w.heap.size + 1) 31 (#[.int .i64 x.id, .int .i64 x.ver, .int .i64 x.kind, .string x.name, .string x.code, .int .i64 x.n] : Array Value).toList := Row.grown (Row.drew (Row.below (Row.tX (w := w.alloc _) (by simp)) ((Below.refl _ _).alloc (Nat.le_refl _) _))) hg1 (fun e => by have h := Option.some.inj e; try dsimp only at h; omega) | have hrA : True := trivial); clear tok1)
      | (refine dF rfl dL (.tmp 20) (.tmp 23) rfl (w.heap.size + 1) _ (by rfl) _ [] ho2 ((l.drop (0)).map GCell.toD) [] _ (by rfl) (Src.of_flat (hS2.below L2) fO) GCell.lg GCell.szs fM iq (by simp; try omega) Z2 ?_; intro v3 w3 ho3 hg3 hat3; have hrE : Row w3 w.heap.size 31 (#[.int .i64 x.id, .int .i64 x.ver, .int .i64 x.kind, .string x.name, .string x.code, .int .i64 x.n] : Array Value).toList := Row.grown hrC hg3 (fun e => by have := (ho2.ge _ e.symm).1; omega); have kE := hrE.cell)
      | (have _t := tok2; refine dF rfl dL (.tmp 17) (.tmp 19) rfl (w.heap.size + 1) _ (by rfl) _ [] (by first | exact ho1 | exact ho1.below ((Below.refl _ _).alloc (Nat.le_refl _) _)) ([x].map GCell.toD) [] _ (by rfl) (by first | exact Src.one hrA (GCell.opened.2 ⟨rfl, rfl⟩) | exact Src.one (Row.new _ _ _) (GCell.opened.2 ⟨rfl, rfl⟩)) GCell.lg GCell.szs fM iq (by simp; try omega) (by first | exact hrB.lt | (have := hrB.lt; simp; omega)) ?_; intro v2 w2 ho2 hg2 hat2; have L2 : Below w.heap.size w w2 := eH (by first | exact L1 | exact L1.alloc L1.size _) hg2 (by first | exact L1.size | (have := L1.size; simp; omega)) (fun g hg => by have := (ho1.ge g hg).1; omega); have hrC : Row w2 w.heap.size 31 (#[.int .i64 x.id, .int .i64 x.ver, .int .i64 x.kind, .string x.name, .string x.code, .int .i64 x.n] : Array Value).toList := Row.grown (by first | exact hrB | exact hrB.below ((Below.refl _ _).alloc (Nat.le_refl _) _)) hg2 (fun e => by have := (ho1.ge _ e.symm).1; omega); have kC := hrC.cell; have Z2 : w.heap.size + 1 ≤ w2.heap.size := hrC.lt; clear tok2))
    all_goals
      go_wp2_with fail
      go_ret
      have hfin := (ho3.mono (base' := w.heap.size) (by omega)).tos (eH L2 hg3 L2.size (fun g hg => by have := (ho2.ge g hg).1; omega))
      rw [List.nil_append, ← List.map_append, ← List.map_append] at hfin
      exact hfin

  · by_cases hb : a ≤ l.length
    · obtain ⟨k, rfl⟩ := Int.eq_ofNat_of_zero_le (show 0 ≤ a by omega)
      have hk : k ≤ l.length := by omega
      have e : fP (k : Int) l.length = k := by unfold fP; omega
      rw [e]
      clear e
      have hk0 : (0 : Int) < (k : Int) := by omega
      have h1 : ∀ w : World, (Instr.slice 24 (.slice A l.length c) none (some (.int .i64 (k : Int))) none).run Try.prog w = .ok (.slice A (k) c) w := dL.vW (A := A) (k) (hk) hl
      obtain ⟨A2, h2', h2s⟩ := dL.vV (A := A) (k) (hk) hl
      have h2 : ∀ w : World, (Instr.slice 24 (.slice A l.length c) (some (.int .i64 (k : Int))) none none).run Try.prog w = .ok (.slice A2 (l.length - (k)) (c - (k))) w := h2'
      clear h2'
      obtain ⟨f1, hS1, _⟩ := Sl.take hS (by rw [List.length_map]; exact hk : (k) ≤ (l.map GCell.toD).length)
      obtain ⟨f2, hS2, _⟩ := h2s w _ _ GCell.szs hS
      rw [← List.map_take] at hS1
      rw [← List.map_drop] at hS2
      clear h2s
      have tok1 : True := trivial
      have tok2 : True := trivial
      go_enter Try.func57, Try.ntmps57
      go_wp2_with fail
      go_region_held3 (fun w' => w'.cell? ⟨w.heap.size, 0, none⟩ = some (.int .i64 x.id) ∧ w'.cell? ⟨w.heap.size, 1, none⟩ = some (.int .i64 x.ver) ∧ w'.cell? ⟨w.heap.size, 2, none⟩ = some (.int .i64 x.kind) ∧ w'.cell? ⟨w.heap.size, 3, none⟩ = some (.string x.name) ∧ w'.cell? ⟨w.heap.size, 4, none⟩ = some (.string x.code) ∧ w'.cell? ⟨w.heap.size, 5, none⟩ = some (.int .i64 x.n)) (go_keep)
        (first
        | (have _t := tok1; refine dF rfl dL (.tmp 13) (.tmp 16) rfl (w.heap.size + 1) _ (by rfl) [] [] (by first | exact iV.lit (by simp) (by simp) | exact (iV.lit (by simp) (by simp)).below (((Below.refl _ _).alloc (Nat.le_refl _) _).drew)) ((l.take (k)).map GCell.toD) [] _ (by rfl) (Src.of_flat (hS1.below (by repeat' (first | exact Below.refl _ _ | exact Nat.le_refl _ | apply Below.drew | apply Below.alloc | (simp; done) | (simp; omega)))) fO) GCell.lg GCell.szs fM iq (by simp; try omega) (by simp; try omega) ?_; intro v1 w1 ho1 hg1 hat1; have L1 : Below w.heap.size w w1 := eH (by repeat' (first | exact Below.refl _ _ | exact Nat.le_refl _ | apply Below.drew | apply Below.alloc | (simp; done) | (simp; omega))) hg1 (by simp; try omega) (fun g hg => by have h := Option.some.inj hg; try simp at h; omega); have hrB : Row w1 w.heap.size 31 (#[.int .i64 x.id, .int .i64 x.ver, .int .i64 x.kind, .string x.name, .string x.code, .int .i64 x.n] : Array Value).toList := Row.grown (Row.below (Row.new w _ _) (by repeat' (first | exact Below.refl _ _ | exact Nat.le_refl _ | apply Below.drew | apply Below.alloc | (simp; done) | (simp; omega)))) hg1 (fun e => by have h := Option.some.inj e; try dsimp only at h; omega); have kB := hrB.cell; (first | have hrA : Row w1 (w.heap.size + 2) 31 (#[.int .i64 x.id, .int .i64 x.ver, .int .i64 x.kind, .string x.name, .string x.code, .int .i64 x.n] : Array Value).toList := Row.grown (Row.drew (Row.tX (by simp))) hg1 (fun e => by have h := Option.some.inj e; try dsimp only at h; omega) | have hrA : Row w1 (w.heap.size + 1) 31 (#[.int .i64 x.id, .int .i64 x.ver, .int .i64 x.kind, .string x.name, .string x.code, .int .i64 x.n] : Array Value).toList := Row.grown (Row.drew (Row.below (Row.tX (w := w.alloc _) (by simp)) ((Below.refl _ _).alloc (Nat.le_refl _) _))) hg1 (fun e => by have h := Option.some.inj e; try dsimp only at h; omega) | have hrA : True := trivial); clear tok1)
        | (refine dF rfl dL (.tmp 20) (.tmp 23) rfl (w.heap.size + 1) _ (by rfl) _ [] ho2 ((l.drop (k)).map GCell.toD) [] _ (by rfl) (Src.of_flat (hS2.below L2) fO) GCell.lg GCell.szs fM iq (by simp; try omega) Z2 ?_; intro v3 w3 ho3 hg3 hat3; have hrE : Row w3 w.heap.size 31 (#[.int .i64 x.id, .int .i64 x.ver, .int .i64 x.kind, .string x.name, .string x.code, .int .i64 x.n] : Array Value).toList := Row.grown hrC hg3 (fun e => by have := (ho2.ge _ e.symm).1; omega); have kE := hrE.cell)
        | (have _t := tok2; refine dF rfl dL (.tmp 17) (.tmp 19) rfl (w.heap.size + 1) _ (by rfl) _ [] (by first | exact ho1 | exact ho1.below ((Below.refl _ _).alloc (Nat.le_refl _) _)) ([x].map GCell.toD) [] _ (by rfl) (by first | exact Src.one hrA (GCell.opened.2 ⟨rfl, rfl⟩) | exact Src.one (Row.new _ _ _) (GCell.opened.2 ⟨rfl, rfl⟩)) GCell.lg GCell.szs fM iq (by simp; try omega) (by first | exact hrB.lt | (have := hrB.lt; simp; omega)) ?_; intro v2 w2 ho2 hg2 hat2; have L2 : Below w.heap.size w w2 := eH (by first | exact L1 | exact L1.alloc L1.size _) hg2 (by first | exact L1.size | (have := L1.size; simp; omega)) (fun g hg => by have := (ho1.ge g hg).1; omega); have hrC : Row w2 w.heap.size 31 (#[.int .i64 x.id, .int .i64 x.ver, .int .i64 x.kind, .string x.name, .string x.code, .int .i64 x.n] : Array Value).toList := Row.grown (by first | exact hrB | exact hrB.below ((Below.refl _ _).alloc (Nat.le_refl _) _)) hg2 (fun e => by have := (ho1.ge _ e.symm).1; omega); have kC := hrC.cell; have Z2 : w.heap.size + 1 ≤ w2.heap.size := hrC.lt; clear tok2))
      all_goals
        go_wp2_with fail
        go_ret
        have hfin := (ho3.mono (base' := w.heap.size) (by omega)).tos (eH L2 hg3 L2.size (fun g hg => by have := (ho2.ge g hg).1; omega))
        rw [List.nil_append, ← List.map_append, ← List.map_append] at hfin
        exact hfin
    · have e : fP a l.length = l.length := by unfold fP; omega
      rw [e]
      clear e
      have hb1 : (l.length : Int) < a := by omega
      cases l with
      | nil =>
        have h1 : ∀ w : World, (Instr.slice 24 (.slice A 0 c) none (some (.int .i64 (0))) none).run Try.prog w = .ok (.slice A (0) c) w := dL.vW (A := A) (0) (Nat.zero_le _) hl
        obtain ⟨A2, h2', h2s⟩ := dL.vV (A := A) (0) (Nat.zero_le _) hl
        have h2 : ∀ w : World, (Instr.slice 24 (.slice A 0 c) (some (.int .i64 (0))) none none).run Try.prog w = .ok (.slice A2 (0 - (0)) (c - (0))) w := h2'
        clear h2'
        obtain ⟨f1, hS1, _⟩ := Sl.take hS (by rw [List.length_map]; exact Nat.zero_le _ : (0) ≤ (([] : List GCell).map GCell.toD).length)
        obtain ⟨f2, hS2, _⟩ := h2s w _ _ GCell.szs hS
        rw [← List.map_take] at hS1
        rw [← List.map_drop] at hS2
        clear h2s
        have tok1 : True := trivial
        have tok2 : True := trivial
        go_enter Try.func57, Try.ntmps57
        go_wp2_with fail
        go_region_held3 (fun w' => w'.cell? ⟨w.heap.size, 0, none⟩ = some (.int .i64 x.id) ∧ w'.cell? ⟨w.heap.size, 1, none⟩ = some (.int .i64 x.ver) ∧ w'.cell? ⟨w.heap.size, 2, none⟩ = some (.int .i64 x.kind) ∧ w'.cell? ⟨w.heap.size, 3, none⟩ = some (.string x.name) ∧ w'.cell? ⟨w.heap.size, 4, none⟩ = some (.string x.code) ∧ w'.cell? ⟨w.heap.size, 5, none⟩ = some (.int .i64 x.n)) (go_keep)
          (first
          | (have _t := tok1; refine dF rfl dL (.tmp 13) (.tmp 16) rfl (w.heap.size + 1) _ (by rfl) [] [] (by first | exact iV.lit (by simp) (by simp) | exact (iV.lit (by simp) (by simp)).below (((Below.refl _ _).alloc (Nat.le_refl _) _).drew)) ((([] : List GCell).take (0)).map GCell.toD) [] _ (by rfl) (Src.of_flat (hS1.below (by repeat' (first | exact Below.refl _ _ | exact Nat.le_refl _ | apply Below.drew | apply Below.alloc | (simp; done) | (simp; omega)))) fO) GCell.lg GCell.szs fM iq (by simp; try omega) (by simp; try omega) ?_; intro v1 w1 ho1 hg1 hat1; have L1 : Below w.heap.size w w1 := eH (by repeat' (first | exact Below.refl _ _ | exact Nat.le_refl _ | apply Below.drew | apply Below.alloc | (simp; done) | (simp; omega))) hg1 (by simp; try omega) (fun g hg => by have h := Option.some.inj hg; try simp at h; omega); have hrB : Row w1 w.heap.size 31 (#[.int .i64 x.id, .int .i64 x.ver, .int .i64 x.kind, .string x.name, .string x.code, .int .i64 x.n] : Array Value).toList := Row.grown (Row.below (Row.new w _ _) (by repeat' (first | exact Below.refl _ _ | exact Nat.le_refl _ | apply Below.drew | apply Below.alloc | (simp; done) | (simp; omega)))) hg1 (fun e => by have h := Option.some.inj e; try dsimp only at h; omega); have kB := hrB.cell; (first | have hrA : Row w1 (w.heap.size + 2) 31 (#[.int .i64 x.id, .int .i64 x.ver, .int .i64 x.kind, .string x.name, .string x.code, .int .i64 x.n] : Array Value).toList := Row.grown (Row.drew (Row.tX (by simp))) hg1 (fun e => by have h := Option.some.inj e; try dsimp only at h; omega) | have hrA : Row w1 (w.heap.size + 1) 31 (#[.int .i64 x.id, .int .i64 x.ver, .int .i64 x.kind, .string x.name, .string x.code, .int .i64 x.n] : Array Value).toList := Row.grown (Row.drew (Row.below (Row.tX (w := w.alloc _) (by simp)) ((Below.refl _ _).alloc (Nat.le_refl _) _))) hg1 (fun e => by have h := Option.some.inj e; try dsimp only at h; omega) | have hrA : True := trivial); clear tok1)
          | (refine dF rfl dL (.tmp 20) (.tmp 23) rfl (w.heap.size + 1) _ (by rfl) _ [] ho2 ((([] : List GCell).drop (0)).map GCell.toD) [] _ (by rfl) (Src.of_flat (hS2.below L2) fO) GCell.lg GCell.szs fM iq (by simp; try omega) Z2 ?_; intro v3 w3 ho3 hg3 hat3; have hrE : Row w3 w.heap.size 31 (#[.int .i64 x.id, .int .i64 x.ver, .int .i64 x.kind, .string x.name, .string x.code, .int .i64 x.n] : Array Value).toList := Row.grown hrC hg3 (fun e => by have := (ho2.ge _ e.symm).1; omega); have kE := hrE.cell)
          | (have _t := tok2; refine dF rfl dL (.tmp 17) (.tmp 19) rfl (w.heap.size + 1) _ (by rfl) _ [] (by first | exact ho1 | exact ho1.below ((Below.refl _ _).alloc (Nat.le_refl _) _)) ([x].map GCell.toD) [] _ (by rfl) (by first | exact Src.one hrA (GCell.opened.2 ⟨rfl, rfl⟩) | exact Src.one (Row.new _ _ _) (GCell.opened.2 ⟨rfl, rfl⟩)) GCell.lg GCell.szs fM iq (by simp; try omega) (by first | exact hrB.lt | (have := hrB.lt; simp; omega)) ?_; intro v2 w2 ho2 hg2 hat2; have L2 : Below w.heap.size w w2 := eH (by first | exact L1 | exact L1.alloc L1.size _) hg2 (by first | exact L1.size | (have := L1.size; simp; omega)) (fun g hg => by have := (ho1.ge g hg).1; omega); have hrC : Row w2 w.heap.size 31 (#[.int .i64 x.id, .int .i64 x.ver, .int .i64 x.kind, .string x.name, .string x.code, .int .i64 x.n] : Array Value).toList := Row.grown (by first | exact hrB | exact hrB.below ((Below.refl _ _).alloc (Nat.le_refl _) _)) hg2 (fun e => by have := (ho1.ge _ e.symm).1; omega); have kC := hrC.cell; have Z2 : w.heap.size + 1 ≤ w2.heap.size := hrC.lt; clear tok2))
        all_goals
          go_wp2_with fail
          go_ret
          have hfin := (ho3.mono (base' := w.heap.size) (by omega)).tos (eH L2 hg3 L2.size (fun g hg => by have := (ho2.ge g hg).1; omega))
          rw [List.nil_append, ← List.map_append, ← List.map_append] at hfin
          exact hfin
      | cons y l' =>
        generalize hll : y :: l' = l at *
        have hz' : (0 : Int) < (l.length : Int) := by rw [← hll]; simp
        clear hll
        have h1 : ∀ w : World, (Instr.slice 24 (.slice A l.length c) none (some (.int .i64 (l.length : Int))) none).run Try.prog w = .ok (.slice A (l.length) c) w := dL.vW (A := A) (l.length) (Nat.le_refl _) hl
        obtain ⟨A2, h2', h2s⟩ := dL.vV (A := A) (l.length) (Nat.le_refl _) hl
        have h2 : ∀ w : World, (Instr.slice 24 (.slice A l.length c) (some (.int .i64 (l.length : Int))) none none).run Try.prog w = .ok (.slice A2 (l.length - (l.length)) (c - (l.length))) w := h2'
        clear h2'
        obtain ⟨f1, hS1, _⟩ := Sl.take hS (by rw [List.length_map]; exact Nat.le_refl _ : (l.length) ≤ (l.map GCell.toD).length)
        obtain ⟨f2, hS2, _⟩ := h2s w _ _ GCell.szs hS
        rw [← List.map_take] at hS1
        rw [← List.map_drop] at hS2
        rw [Nat.sub_self] at hS2
        simp only [Nat.sub_self] at h2
        clear h2s
        have tok1 : True := trivial
        have tok2 : True := trivial
        go_enter Try.func57, Try.ntmps57
        go_wp2_with fail
        go_region_held3 (fun w' => w'.cell? ⟨w.heap.size, 0, none⟩ = some (.int .i64 x.id) ∧ w'.cell? ⟨w.heap.size, 1, none⟩ = some (.int .i64 x.ver) ∧ w'.cell? ⟨w.heap.size, 2, none⟩ = some (.int .i64 x.kind) ∧ w'.cell? ⟨w.heap.size, 3, none⟩ = some (.string x.name) ∧ w'.cell? ⟨w.heap.size, 4, none⟩ = some (.string x.code) ∧ w'.cell? ⟨w.heap.size, 5, none⟩ = some (.int .i64 x.n)) (go_keep)
          (first
          | (have _t := tok1; refine dF rfl dL (.tmp 13) (.tmp 16) rfl (w.heap.size + 1) _ (by rfl) [] [] (by first | exact iV.lit (by simp) (by simp) | exact (iV.lit (by simp) (by simp)).below (((Below.refl _ _).alloc (Nat.le_refl _) _).drew)) ((l.take (l.length)).map GCell.toD) [] _ (by rfl) (Src.of_flat (hS1.below (by repeat' (first | exact Below.refl _ _ | exact Nat.le_refl _ | apply Below.drew | apply Below.alloc | (simp; done) | (simp; omega)))) fO) GCell.lg GCell.szs fM iq (by simp; try omega) (by simp; try omega) ?_; intro v1 w1 ho1 hg1 hat1; have L1 : Below w.heap.size w w1 := eH (by repeat' (first | exact Below.refl _ _ | exact Nat.le_refl _ | apply Below.drew | apply Below.alloc | (simp; done) | (simp; omega))) hg1 (by simp; try omega) (fun g hg => by have h := Option.some.inj hg; try simp at h; omega); have hrB : Row w1 w.heap.size 31 (#[.int .i64 x.id, .int .i64 x.ver, .int .i64 x.kind, .string x.name, .string x.code, .int .i64 x.n] : Array Value).toList := Row.grown (Row.below (Row.new w _ _) (by repeat' (first | exact Below.refl _ _ | exact Nat.le_refl _ | apply Below.drew | apply Below.alloc | (simp; done) | (simp; omega)))) hg1 (fun e => by have h := Option.some.inj e; try dsimp only at h; omega); have kB := hrB.cell; (first | have hrA : Row w1 (w.heap.size + 2) 31 (#[.int .i64 x.id, .int .i64 x.ver, .int .i64 x.kind, .string x.name, .string x.code, .int .i64 x.n] : Array Value).toList := Row.grown (Row.drew (Row.tX (by simp))) hg1 (fun e => by have h := Option.some.inj e; try dsimp only at h; omega) | have hrA : Row w1 (w.heap.size + 1) 31 (#[.int .i64 x.id, .int .i64 x.ver, .int .i64 x.kind, .string x.name, .string x.code, .int .i64 x.n] : Array Value).toList := Row.grown (Row.drew (Row.below (Row.tX (w := w.alloc _) (by simp)) ((Below.refl _ _).alloc (Nat.le_refl _) _))) hg1 (fun e => by have h := Option.some.inj e; try dsimp only at h; omega) | have hrA : True := trivial); clear tok1)
          | (refine dF rfl dL (.tmp 20) (.tmp 23) rfl (w.heap.size + 1) _ (by rfl) _ [] ho2 ((l.drop (l.length)).map GCell.toD) [] _ (by rfl) (Src.of_flat (hS2.below L2) fO) GCell.lg GCell.szs fM iq (by simp; try omega) Z2 ?_; intro v3 w3 ho3 hg3 hat3; have hrE : Row w3 w.heap.size 31 (#[.int .i64 x.id, .int .i64 x.ver, .int .i64 x.kind, .string x.name, .string x.code, .int .i64 x.n] : Array Value).toList := Row.grown hrC hg3 (fun e => by have := (ho2.ge _ e.symm).1; omega); have kE := hrE.cell)
          | (have _t := tok2; refine dF rfl dL (.tmp 17) (.tmp 19) rfl (w.heap.size + 1) _ (by rfl) _ [] (by first | exact ho1 | exact ho1.below ((Below.refl _ _).alloc (Nat.le_refl _) _)) ([x].map GCell.toD) [] _ (by rfl) (by first | exact Src.one hrA (GCell.opened.2 ⟨rfl, rfl⟩) | exact Src.one (Row.new _ _ _) (GCell.opened.2 ⟨rfl, rfl⟩)) GCell.lg GCell.szs fM iq (by simp; try omega) (by first | exact hrB.lt | (have := hrB.lt; simp; omega)) ?_; intro v2 w2 ho2 hg2 hat2; have L2 : Below w.heap.size w w2 := eH (by first | exact L1 | exact L1.alloc L1.size _) hg2 (by first | exact L1.size | (have := L1.size; simp; omega)) (fun g hg => by have := (ho1.ge g hg).1; omega); have hrC : Row w2 w.heap.size 31 (#[.int .i64 x.id, .int .i64 x.ver, .int .i64 x.kind, .string x.name, .string x.code, .int .i64 x.n] : Array Value).toList := Row.grown (by first | exact hrB | exact hrB.below ((Below.refl _ _).alloc (Nat.le_refl _) _)) hg2 (fun e => by have := (ho1.ge _ e.symm).1; omega); have kC := hrC.cell; have Z2 : w.heap.size + 1 ≤ w2.heap.size := hrC.lt; clear tok2))
        all_goals
          go_wp2_with fail
          go_ret
          have hfin := (ho3.mono (base' := w.heap.size) (by omega)).tos (eH L2 hg3 L2.size (fun g hg => by have := (ho2.ge g hg).1; omega))
          rw [List.nil_append, ← List.map_append, ← List.map_append] at hfin
          exact hfin

theorem Po (a b : Int) (w : World) : Calls Try.prog 61 #[.int .i64 a, .int .i64 b] w (xY (.int .i64 (min a b)) w) := by
  by_cases h : a < b
  · go_enter Try.func61, Try.ntmps61
    go_wp2
    go_ret
    exact ⟨dw (by omega), rfl⟩
  · go_enter Try.func61, Try.ntmps61
    go_wp2
    go_ret
    exact ⟨dw (by omega), rfl⟩
theorem Pq (a b : Int) (w : World) : Calls Try.prog 60 #[.int .i64 a, .int .i64 b] w (xY (.int .i64 (max a b)) w) := by
  by_cases h : b < a
  · go_enter Try.func60, Try.ntmps60
    go_wp2
    go_ret
    exact ⟨dw (by omega), rfl⟩
  · go_enter Try.func60, Try.ntmps60
    go_wp2
    go_ret
    exact ⟨dw (by omega), rfl⟩

set_option maxRecDepth 20000 in
set_option maxHeartbeats 4000000 in
theorem IL (l : List GCell) (a : Int) (x : GCell) (fp : List Nat) (v : Value) (w : World) (hS : Sl w (l.map GCell.toD) fp v) (hn : l.length ≤ 1048576) : Calls Try.prog 45 #[v, .int .i64 a, .agg #[.int .i64 x.id, .int .i64 x.ver, .int .i64 x.kind, .string x.name, .string x.code, .int .i64 x.n]] w (qQ ((l7 l (fP a l.length) x).map GCell.toD) w) := by
  obtain ⟨A, c, rfl, hl, hc⟩ := hS.pY
  have hk := Qa a l.length
  have hMin := fun W => Po a l.length W
  have hMax := fun W => Pq 0 (min a l.length) W
  rw [Qb] at hMax
  generalize fP a l.length = k at *
  generalize min a (l.length : Int) = mm at *
  have h1 : ∀ w : World, (Instr.slice 24 (.slice A l.length c) none (some (.int .i64 (k : Int))) none).run Try.prog w = .ok (.slice A (k) c) w := dL.vW (A := A) (k) (hk) hl
  obtain ⟨A2, h2', h2s⟩ := dL.vV (A := A) (k) (hk) hl
  have h2 : ∀ w : World, (Instr.slice 24 (.slice A l.length c) (some (.int .i64 (k : Int))) none none).run Try.prog w = .ok (.slice A2 (l.length - (k)) (c - (k))) w := h2'
  clear h2'
  obtain ⟨f1, hS1, _⟩ := Sl.take hS (by rw [List.length_map]; exact hk : (k) ≤ (l.map GCell.toD).length)
  obtain ⟨f2, hS2, _⟩ := h2s w _ _ GCell.szs hS
  rw [← List.map_take] at hS1
  rw [← List.map_drop] at hS2
  clear h2s
  go_enter Try.func45, Try.ntmps45
  go_wp2_with (first
    | (go_at_call 61; refine (hMin _).mono ?_; rintro e w' ⟨rfl, rfl⟩)
    | (go_at_call 60; refine (hMax _).mono ?_; rintro e w' ⟨rfl, rfl⟩)
    | (at_builtin; refine oH rfl dL (.tmp 13) (.tmp 16) rfl (w.heap.size + 1) _ (by rfl) [] [] (iV.lit (by simp) (by simp)) ((l.take k).map GCell.toD) [] _ (by rfl) (Src.of_flat (hS1.below (by repeat' (first | exact Below.refl _ _ | exact Nat.le_refl _ | apply Below.drew | apply Below.alloc | (simp; done) | (simp; omega)))) fO) GCell.lg GCell.szs fM iq (by simp; try omega) (by simp) ?_; intro v1 w1 ho1 hg1 hat1; have L1 : Below w.heap.size w w1 := eH (by repeat' (first | exact Below.refl _ _ | exact Nat.le_refl _ | apply Below.drew | apply Below.alloc | (simp; done) | (simp; omega))) hg1 (by simp; try omega) (fun g hg => by have h := Option.some.inj hg; try simp at h; omega); have hrB : Row w1 w.heap.size 31 (#[.int .i64 x.id, .int .i64 x.ver, .int .i64 x.kind, .string x.name, .string x.code, .int .i64 x.n] : Array Value).toList := Row.grown (Row.below (Row.new w _ _) (by repeat' (first | exact Below.refl _ _ | exact Nat.le_refl _ | apply Below.drew | apply Below.alloc | (simp; done) | (simp; omega)))) hg1 (fun e => by have h := Option.some.inj e; try dsimp only at h; omega); have kB := hrB.cell; clear hg1 hat1)
    | (at_builtin; refine oH rfl dL (.tmp 18) (.tmp 20) rfl (w.heap.size + 1) _ (by rfl) _ [] (ho1.below ((Below.refl _ _).alloc (Nat.le_refl _) _)) ([x].map GCell.toD) [] _ (by rfl) (Src.one (Row.new _ _ _) (GCell.opened.2 ⟨rfl, rfl⟩)) GCell.lg GCell.szs fM iq (by simp; try omega) (by have := hrB.lt; simp; try omega) ?_; intro v2 w2 ho2 hg2 hat2; have L2 : Below w.heap.size w w2 := eH (L1.alloc L1.size _) hg2 (by have := L1.size; simp; try omega) (fun g hg => by have := (ho1.ge g hg).1; omega); have Z2 : w.heap.size + 1 ≤ w2.heap.size := Nat.le_trans hrB.lt (Nat.le_trans (by simp) hg2.size); clear hg2 hat2)
    | (at_builtin; refine oH rfl dL (.tmp 22) (.tmp 25) rfl (w.heap.size + 1) _ (by rfl) _ [] ho2 ((l.drop k).map GCell.toD) [] _ (by rfl) (Src.of_flat (hS2.below L2) fO) GCell.lg GCell.szs fM iq (by simp; try omega) Z2 ?_; intro v3 w3 ho3 hg3 hat3))
  go_ret
  have hfin := (ho3.mono (base' := w.heap.size) (by omega)).tos (eH L2 hg3 L2.size (fun g hg => by have := (ho2.ge g hg).1; omega))
  rw [List.nil_append, ← List.map_append, ← List.map_append] at hfin
  exact hfin
def rb (b : Bool) : AV := .c false [.raw (.bool b)]
theorem qI {w : World} {x : GNb} {v : Value} (h : Rd w x.toD v) : ∃ fp u, v = .agg #[u] ∧ Sl w (x.cells.map GCell.toD) fp u ∧ R w x.toD fp [u] := by
  obtain ⟨fp, cs, rfl, h2⟩ := QO x.bV h
  have h3 := h2
  obtain ⟨u, g, rfl, rfl, h1⟩ := GNb.opened.1 h3
  exact ⟨_, u, rfl, h1, h2⟩
theorem vC {w : World} {x : GCell} {v : Value} (h : Rd w x.toD v) : v = .agg #[.int .i64 x.id, .int .i64 x.ver, .int .i64 x.kind, .string x.name, .string x.code, .int .i64 x.n] := by
  obtain ⟨fp, cs, rfl, h2⟩ := QO x.bV h
  obtain ⟨rfl, rfl⟩ := GCell.opened.1 h2
  rfl

theorem bC (x : GNb) (id : Int) : aK Try.prog 11 [x.toD, li id] (.c false [.raw (.int .i64 (bD x.cells id))]) := oP fun w vs hr => by
  obtain ⟨v, u, rfl, h1, h2⟩ := O7 hr
  obtain ⟨fp, a, rfl, hS, _⟩ := qI h1
  obtain rfl := jU h2
  exact uH x.cells id fp a w hS
theorem gK (x : GNb) (hw : D.wfs (x.cells.map GCell.toD)) : aK Try.prog 9 [x.toD] (.c false [.raw (.bool (dB x.cells))]) := oP fun w vs hr => by
  obtain ⟨v, rfl, h1⟩ := O8 hr
  obtain ⟨fp, a, rfl, hS, _⟩ := qI h1
  exact tZ x.cells fp a w hS hw
theorem aX (x : GCell) (hw : x.toD.wf) : aK Try.prog 12 [x.toD] (.c false [.raw (.bool (bI x))]) := oP fun w vs hr => by
  obtain ⟨v, rfl, h1⟩ := O8 hr
  obtain rfl := vC h1
  exact rJ x hw w
theorem cZ (x : GNb) (id : Int) : aK Try.prog 24 [x.toD, li id] (.c false [.raw (.int .i64 (bD x.cells id))]) := oP fun w vs hr => by
  obtain ⟨v, u, rfl, h1, h2⟩ := O7 hr
  obtain ⟨fp, a, rfl, hS, _⟩ := qI h1
  obtain rfl := jU h2
  exact uG x.cells id fp a w hS
theorem aA (x : GNb) (hw : D.wfs (x.cells.map GCell.toD)) : aK Try.prog 10 [x.toD] (.c false [.raw (.bool (dB x.cells))]) := oP fun w vs hr => by
  obtain ⟨v, rfl, h1⟩ := O8 hr
  obtain ⟨fp, a, rfl, hS, _⟩ := qI h1
  exact tY x.cells fp a w hS hw
theorem aW (x : GCell) (hw : x.toD.wf) : aK Try.prog 32 [x.toD] (.c false [.raw (.bool (bI x))]) := oP fun w vs hr => by
  obtain ⟨v, rfl, h1⟩ := O8 hr
  obtain rfl := vC h1
  exact rH x hw w
theorem o8 (n lo hi : Int) : aK Try.prog 33 [li n, li lo, li hi] (.c false [.raw (.bool (inR n lo hi))]) := FH fun w vs hr => by
  obtain ⟨v, u, z, rfl, h1, h2, h3⟩ := U1 hr
  obtain rfl := jU h1
  obtain rfl := jU h2
  obtain rfl := jU h3
  exact pK n lo hi w
theorem bM (n lo hi : Int) : aK Try.prog 44 [li n, li lo, li hi] (.c false [.raw (.bool (inR n lo hi))]) := FH fun w vs hr => by
  obtain ⟨v, u, z, rfl, h1, h2, h3⟩ := U1 hr
  obtain rfl := jU h1
  obtain rfl := jU h2
  obtain rfl := jU h3
  exact wY n lo hi w
theorem lC (l : List GCell) (k : Nat) (hk : k < l.length) (hn : l.length ≤ 1048576) : aK Try.prog 58 [.sl (l.map GCell.toD), li k] (.c false [.sl true ((gV l k).map GCell.toD)]) := FD fun w vs hr => by
  obtain ⟨v, u, rfl, h1, h2⟩ := O7 hr
  obtain ⟨fp, hS⟩ := MZ h1
  obtain rfl := jU h2
  exact FW l k fp v w hS hk hn
theorem lF (l : List GCell) (k : Nat) (hk : k < l.length) (hn : l.length ≤ 1048576) : aK Try.prog 46 [.sl (l.map GCell.toD), li k] (.c false [.sl true ((gV l k).map GCell.toD)]) := FD fun w vs hr => by
  obtain ⟨v, u, rfl, h1, h2⟩ := O7 hr
  obtain ⟨fp, hS⟩ := MZ h1
  obtain rfl := jU h2
  exact Gi l k fp v w hS hk hn
theorem kL (l : List GCell) (a : Int) (x : GCell) (hn : l.length ≤ 1048576) : aK Try.prog 57 [.sl (l.map GCell.toD), li a, x.toD] (.c false [.sl true ((l7 l (fP a l.length) x).map GCell.toD)]) := FD fun w vs hr => by
  obtain ⟨v, u, z, rfl, h1, h2, h3⟩ := U1 hr
  obtain ⟨fp, hS⟩ := MZ h1
  obtain rfl := jU h2
  obtain rfl := vC h3
  exact DK l a x fp v w hS hn
theorem mW (l : List GCell) (a : Int) (x : GCell) (hn : l.length ≤ 1048576) : aK Try.prog 45 [.sl (l.map GCell.toD), li a, x.toD] (.c false [.sl true ((l7 l (fP a l.length) x).map GCell.toD)]) := FD fun w vs hr => by
  obtain ⟨v, u, z, rfl, h1, h2, h3⟩ := U1 hr
  obtain ⟨fp, hS⟩ := MZ h1
  obtain rfl := jU h2
  obtain rfl := vC h3
  exact IL l a x fp v w hS hn
def uo : IC := (.seq (.reg false [⟨(some 1), none, .box (.t 0)⟩, ⟨(some 2), none, .alloc [(.slice none 0 0)]⟩]) (.seq (.reg false [⟨(some 3), none, .brow true 31 6 0 false []⟩, ⟨(some 4), none, .fad 0 (.t 1)⟩, ⟨(some 5), none, .load 1 false (.t 4)⟩, ⟨(some 6), none, .app 31 6 (.t 3) (.t 5)⟩, ⟨(some 7), none, .bld [(.slice none 0 0)] [(0, 1, (.t 6))]⟩, ⟨none, none, .store 1 (.t 2) (.t 7)⟩]) .ret))
theorem xH : aF Try.prog (Try.f39.body.getD .skip) = some uo := by kernel_rfl
theorem mg (x : GNb) (hn : x.cells.length ≤ 4194304) : kR Try.prog 39 [x.toD] true (x.cells.map GCell.toD) 31 6 := by
  refine CY (fn := Try.f39) (t := 2) (ty := 26) (by kernel_rfl) (by kernel_rfl) (by kernel_rfl) (by kernel_rfl) xH ?_
  have hn' : (x.cells.map GCell.toD).length ≤ 4194304 := by simpa using hn
  change AWP _ _ _ (st0 8 _)
  unfold uo
  simp only [undef, st0, stN, D.av, D.avN, kT, gW, kW, kV, lJ, pW, fV, fU, GNb.bH, GNb.bf, GNb.bV, GCell.bH, GCell.bf, GCell.bV, GCell.el, GEdit.bH, GEdit.bf, GEdit.bV, List.map_cons, List.map_nil, List.replicate, List.cons_append, List.nil_append, List.length_cons, List.length_nil, Nat.reduceAdd, Nat.reduceSub]
  repeat (first | (with_reducible refine kN ?_) | (with_reducible refine iK ?_) | (with_reducible refine jG ?_) | (with_reducible refine jH ?_) | (with_reducible refine kP ?_) | (with_reducible refine rP ?_) | (with_reducible refine jv ?_) | (with_reducible refine kK ?_) | (with_reducible refine fG ?_) | (with_reducible refine iH ?_) | (with_reducible refine jF ?_) | (with_reducible refine iD ?_) | (with_reducible refine jC ?_) | ((with_reducible refine iG ?_ ?_); rfl) | ((with_reducible refine iI ?_ ?_); rfl) | ((with_reducible refine iJ ?_ ?_); rfl) | ((with_reducible refine aG ?_); intro K hK; simp only [↓pkS, ↓wQ, pkW, pkA, xq, lI, undef, List.flatMap_cons, List.flatMap_nil, List.append_nil, jT, oW, lvD, rF, lcD, lvK, lcK, eF, dS, jh, ex, St.put, St.ev, kav, gdA, opI, fH, rW, jL, oD, rQ, AV.toD, AC.toD, AV.nw, AC.nw, AC.one, Value.oneCell', dV, dh, dH, dU, gJ, fJ, if_true, if_false, Bool.false_eq_true, jR, D.one, D.ones, D.sz, D.szs, Nat.reduceAdd, Nat.reduceSub, Nat.reduceLeDiff, Nat.reduceEqDiff, reduceIte, GNb.bH, GNb.bf, GNb.bV, GCell.bH, GCell.bf, GCell.bV, GCell.el, GEdit.bH, GEdit.bf, GEdit.bV]; first | (refine hK _ ?_; clear hK K) | (refine ⟨by (first | omega | (simp; omega)), hK _ ?_⟩; clear hK K) | (refine ⟨by (first | omega | (simp; omega)), by (first | omega | (simp; omega)), hK _ ?_⟩; clear hK K)))
  exact aS ⟨1, 0, 1, rfl, rfl, _, rfl, rfl, rfl, rfl, rfl, Or.inr (GCell.dK _)⟩
def uj : IC := (.seq (.reg false [⟨(some 1), none, .box (.t 0)⟩, ⟨(some 2), none, .alloc [(.slice none 0 0)]⟩]) (.seq (.reg false [⟨(some 3), none, .brow true 31 6 0 false []⟩, ⟨(some 4), none, .fad 0 (.t 1)⟩, ⟨(some 5), none, .load 1 false (.t 4)⟩, ⟨(some 6), none, .app 31 6 (.t 3) (.t 5)⟩, ⟨(some 7), none, .bld [(.slice none 0 0)] [(0, 1, (.t 6))]⟩, ⟨none, none, .store 1 (.t 2) (.t 7)⟩]) .ret))
theorem xG : aF Try.prog (Try.f38.body.getD .skip) = some uj := by kernel_rfl
theorem cu (x : GNb) (hn : x.cells.length ≤ 4194304) : kR Try.prog 38 [x.toD] true (x.cells.map GCell.toD) 31 6 := by
  refine CY (fn := Try.f38) (t := 2) (ty := 26) (by kernel_rfl) (by kernel_rfl) (by kernel_rfl) (by kernel_rfl) xG ?_
  have hn' : (x.cells.map GCell.toD).length ≤ 4194304 := by simpa using hn
  change AWP _ _ _ (st0 8 _)
  unfold uj
  simp only [undef, st0, stN, D.av, D.avN, kT, gW, kW, kV, lJ, pW, fV, fU, GNb.bH, GNb.bf, GNb.bV, GCell.bH, GCell.bf, GCell.bV, GCell.el, GEdit.bH, GEdit.bf, GEdit.bV, List.map_cons, List.map_nil, List.replicate, List.cons_append, List.nil_append, List.length_cons, List.length_nil, Nat.reduceAdd, Nat.reduceSub]
  repeat (first | (with_reducible refine kN ?_) | (with_reducible refine iK ?_) | (with_reducible refine jG ?_) | (with_reducible refine jH ?_) | (with_reducible refine kP ?_) | (with_reducible refine rP ?_) | (with_reducible refine jv ?_) | (with_reducible refine kK ?_) | (with_reducible refine fG ?_) | (with_reducible refine iH ?_) | (with_reducible refine jF ?_) | (with_reducible refine iD ?_) | (with_reducible refine jC ?_) | ((with_reducible refine iG ?_ ?_); rfl) | ((with_reducible refine iI ?_ ?_); rfl) | ((with_reducible refine iJ ?_ ?_); rfl) | ((with_reducible refine aG ?_); intro K hK; simp only [↓pkS, ↓wQ, pkW, pkA, xq, lI, undef, List.flatMap_cons, List.flatMap_nil, List.append_nil, jT, oW, lvD, rF, lcD, lvK, lcK, eF, dS, jh, ex, St.put, St.ev, kav, gdA, opI, fH, rW, jL, oD, rQ, AV.toD, AC.toD, AV.nw, AC.nw, AC.one, Value.oneCell', dV, dh, dH, dU, gJ, fJ, if_true, if_false, Bool.false_eq_true, jR, D.one, D.ones, D.sz, D.szs, Nat.reduceAdd, Nat.reduceSub, Nat.reduceLeDiff, Nat.reduceEqDiff, reduceIte, GNb.bH, GNb.bf, GNb.bV, GCell.bH, GCell.bf, GCell.bV, GCell.el, GEdit.bH, GEdit.bf, GEdit.bV]; first | (refine hK _ ?_; clear hK K) | (refine ⟨by (first | omega | (simp; omega)), hK _ ?_⟩; clear hK K) | (refine ⟨by (first | omega | (simp; omega)), by (first | omega | (simp; omega)), hK _ ?_⟩; clear hK K)))
  exact aS ⟨1, 0, 1, rfl, rfl, _, rfl, rfl, rfl, rfl, rfl, Or.inr (GCell.dK _)⟩
end Go.Proofs.Ytnongnchpplacaa

