/-
  Texts joined: Res Res2 Valid ValidNb Cells Edit1 Edit2.
-/
import Derived.Test.YtnongnchpplacaaJA
import Derived.Test.YtnongnchpplacaaProg
import Derived.KernelRfl
import Derived.Test.YtnongnchpplacaaJE
namespace Go.Proofs.Ytnongnchpplacaa
open Go.RowKit
set_option linter.unusedSimpArgs false
set_option linter.unusedVariables false

def bZ : List (List UInt8 × Int) := [([99, 108, 111, 99, 107], 0), ([108, 101, 110], 1), ([115, 117, 109], 1), ([114, 111, 119, 115], 1), ([99, 104, 97, 110, 99, 101], 1), ([102, 105, 108, 101], 1), ([116, 97, 107, 101], 2), ([115, 107, 105, 112], 2), ([114, 97, 110, 103, 101], 2), ([110, 116, 104], 2), ([107, 101, 101, 112], 2), ([99, 111, 108, 117, 109, 110], 2), ([116, 97, 98, 108, 101], 2), ([119, 104, 101, 114, 101], 3), ([103, 114, 111, 117, 112], 3), ([106, 111, 105, 110], 3), ([97, 100, 100], 4)]
def fA : List (List UInt8 × Int) → List UInt8 → Int
  | [], _ => -1
  | (w, n) :: r, l => if l == w then n else fA r l
def bn (l : List UInt8) : Int := fA bZ l
def lC : List (List UInt8) := [[108, 101, 116], [105, 110], [105, 102], [116, 104, 101, 110], [101, 108, 115, 101], [102, 111, 114], [100, 111]]
def qJ : List (List UInt8) := [[108, 101, 116], [105, 110], [105, 102], [116, 104, 101, 110], [101, 108, 115, 101], [102, 111, 114], [100, 111], [108, 101, 110], [115, 117, 109], [116, 97, 107, 101], [115, 107, 105, 112], [114, 97, 110, 103, 101], [110, 116, 104], [119, 104, 101, 114, 101], [107, 101, 101, 112], [97, 100, 100], [103, 114, 111, 117, 112], [106, 111, 105, 110], [99, 111, 108, 117, 109, 110], [114, 111, 119, 115], [99, 108, 111, 99, 107], [99, 104, 97, 110, 99, 101], [102, 105, 108, 101], [116, 97, 98, 108, 101]]
def ng (l : List UInt8) : Bool := qJ.contains l
theorem bT {w l : List UInt8} {n : Int} {r : List (List UInt8 × Int)} (h : (l == w) = true) : fA ((w, n) :: r) l = n := by rw [fA, h]; rfl
theorem aj {w l : List UInt8} {n : Int} {r : List (List UInt8 × Int)} (h : (l == w) = false) : fA ((w, n) :: r) l = fA r l := by rw [fA, h]; rfl
theorem jG {w l : List UInt8} {r : List (List UInt8)} (h : (l == w) = true) : (w :: r).contains l = true := by rw [List.contains_cons, h]; rfl
theorem bg {w l : List UInt8} {r : List (List UInt8)} (h : (l == w) = false) : (w :: r).contains l = r.contains l := by rw [List.contains_cons, h]; rfl
set_option maxHeartbeats 8000000 in
theorem Df (s : ByteArray) (w : World) : Calls Try.prog 66 #[.string s] w (wZ (.int .i64 (bn s.toList)) w) := by
  cases e0 : (s.toList == [99, 108, 111, 99, 107]) with
  | true =>
    have hf := Lib.hid (show (0 : Int) = bn s.toList from (show fA bZ s.toList = 0 from bT e0).symm)
    go_enter Try.func66, Try.ntmps66
    go_wp2
    go_ret
    exact ⟨cu hf.out, rfl⟩
  | false =>
    cases e1 : (s.toList == [108, 101, 110]) with
    | true =>
      have hf := Lib.hid (show (1 : Int) = bn s.toList from (show fA bZ s.toList = 1 from (aj e0).trans (bT e1)).symm)
      go_enter Try.func66, Try.ntmps66
      go_wp2
      go_ret
      exact ⟨cu hf.out, rfl⟩
    | false =>
      cases e2 : (s.toList == [115, 117, 109]) with
      | true =>
        have hf := Lib.hid (show (1 : Int) = bn s.toList from (show fA bZ s.toList = 1 from (aj e0).trans ((aj e1).trans (bT e2))).symm)
        go_enter Try.func66, Try.ntmps66
        go_wp2
        go_ret
        exact ⟨cu hf.out, rfl⟩
      | false =>
        cases e3 : (s.toList == [114, 111, 119, 115]) with
        | true =>
          have hf := Lib.hid (show (1 : Int) = bn s.toList from (show fA bZ s.toList = 1 from (aj e0).trans ((aj e1).trans ((aj e2).trans (bT e3)))).symm)
          go_enter Try.func66, Try.ntmps66
          go_wp2
          go_ret
          exact ⟨cu hf.out, rfl⟩
        | false =>
          cases e4 : (s.toList == [99, 104, 97, 110, 99, 101]) with
          | true =>
            have hf := Lib.hid (show (1 : Int) = bn s.toList from (show fA bZ s.toList = 1 from (aj e0).trans ((aj e1).trans ((aj e2).trans ((aj e3).trans (bT e4))))).symm)
            go_enter Try.func66, Try.ntmps66
            go_wp2
            go_ret
            exact ⟨cu hf.out, rfl⟩
          | false =>
            cases e5 : (s.toList == [102, 105, 108, 101]) with
            | true =>
              have hf := Lib.hid (show (1 : Int) = bn s.toList from (show fA bZ s.toList = 1 from (aj e0).trans ((aj e1).trans ((aj e2).trans ((aj e3).trans ((aj e4).trans (bT e5)))))).symm)
              go_enter Try.func66, Try.ntmps66
              go_wp2
              go_ret
              exact ⟨cu hf.out, rfl⟩
            | false =>
              cases e6 : (s.toList == [116, 97, 107, 101]) with
              | true =>
                have hf := Lib.hid (show (2 : Int) = bn s.toList from (show fA bZ s.toList = 2 from (aj e0).trans ((aj e1).trans ((aj e2).trans ((aj e3).trans ((aj e4).trans ((aj e5).trans (bT e6))))))).symm)
                go_enter Try.func66, Try.ntmps66
                go_wp2
                go_ret
                exact ⟨cu hf.out, rfl⟩
              | false =>
                cases e7 : (s.toList == [115, 107, 105, 112]) with
                | true =>
                  have hf := Lib.hid (show (2 : Int) = bn s.toList from (show fA bZ s.toList = 2 from (aj e0).trans ((aj e1).trans ((aj e2).trans ((aj e3).trans ((aj e4).trans ((aj e5).trans ((aj e6).trans (bT e7)))))))).symm)
                  go_enter Try.func66, Try.ntmps66
                  go_wp2
                  go_ret
                  exact ⟨cu hf.out, rfl⟩
                | false =>
                  cases e8 : (s.toList == [114, 97, 110, 103, 101]) with
                  | true =>
                    have hf := Lib.hid (show (2 : Int) = bn s.toList from (show fA bZ s.toList = 2 from (aj e0).trans ((aj e1).trans ((aj e2).trans ((aj e3).trans ((aj e4).trans ((aj e5).trans ((aj e6).trans ((aj e7).trans (bT e8))))))))).symm)
                    go_enter Try.func66, Try.ntmps66
                    go_wp2
                    go_ret
                    exact ⟨cu hf.out, rfl⟩
                  | false =>
                    cases e9 : (s.toList == [110, 116, 104]) with
                    | true =>
                      have hf := Lib.hid (show (2 : Int) = bn s.toList from (show fA bZ s.toList = 2 from (aj e0).trans ((aj e1).trans ((aj e2).trans ((aj e3).trans ((aj e4).trans ((aj e5).trans ((aj e6).trans ((aj e7).trans ((aj e8).trans (bT e9)))))))))).symm)
                      go_enter Try.func66, Try.ntmps66
                      go_wp2
                      go_ret
                      exact ⟨cu hf.out, rfl⟩
                    | false =>
                      cases e10 : (s.toList == [107, 101, 101, 112]) with
                      | true =>
                        have hf := Lib.hid (show (2 : Int) = bn s.toList from (show fA bZ s.toList = 2 from (aj e0).trans ((aj e1).trans ((aj e2).trans ((aj e3).trans ((aj e4).trans ((aj e5).trans ((aj e6).trans ((aj e7).trans ((aj e8).trans ((aj e9).trans (bT e10))))))))))).symm)
                        go_enter Try.func66, Try.ntmps66
                        go_wp2
                        go_ret
                        exact ⟨cu hf.out, rfl⟩
                      | false =>
                        cases e11 : (s.toList == [99, 111, 108, 117, 109, 110]) with
                        | true =>
                          have hf := Lib.hid (show (2 : Int) = bn s.toList from (show fA bZ s.toList = 2 from (aj e0).trans ((aj e1).trans ((aj e2).trans ((aj e3).trans ((aj e4).trans ((aj e5).trans ((aj e6).trans ((aj e7).trans ((aj e8).trans ((aj e9).trans ((aj e10).trans (bT e11)))))))))))).symm)
                          go_enter Try.func66, Try.ntmps66
                          go_wp2
                          go_ret
                          exact ⟨cu hf.out, rfl⟩
                        | false =>
                          cases e12 : (s.toList == [116, 97, 98, 108, 101]) with
                          | true =>
                            have hf := Lib.hid (show (2 : Int) = bn s.toList from (show fA bZ s.toList = 2 from (aj e0).trans ((aj e1).trans ((aj e2).trans ((aj e3).trans ((aj e4).trans ((aj e5).trans ((aj e6).trans ((aj e7).trans ((aj e8).trans ((aj e9).trans ((aj e10).trans ((aj e11).trans (bT e12))))))))))))).symm)
                            go_enter Try.func66, Try.ntmps66
                            go_wp2
                            go_ret
                            exact ⟨cu hf.out, rfl⟩
                          | false =>
                            cases e13 : (s.toList == [119, 104, 101, 114, 101]) with
                            | true =>
                              have hf := Lib.hid (show (3 : Int) = bn s.toList from (show fA bZ s.toList = 3 from (aj e0).trans ((aj e1).trans ((aj e2).trans ((aj e3).trans ((aj e4).trans ((aj e5).trans ((aj e6).trans ((aj e7).trans ((aj e8).trans ((aj e9).trans ((aj e10).trans ((aj e11).trans ((aj e12).trans (bT e13)))))))))))))).symm)
                              go_enter Try.func66, Try.ntmps66
                              go_wp2
                              go_ret
                              exact ⟨cu hf.out, rfl⟩
                            | false =>
                              cases e14 : (s.toList == [103, 114, 111, 117, 112]) with
                              | true =>
                                have hf := Lib.hid (show (3 : Int) = bn s.toList from (show fA bZ s.toList = 3 from (aj e0).trans ((aj e1).trans ((aj e2).trans ((aj e3).trans ((aj e4).trans ((aj e5).trans ((aj e6).trans ((aj e7).trans ((aj e8).trans ((aj e9).trans ((aj e10).trans ((aj e11).trans ((aj e12).trans ((aj e13).trans (bT e14))))))))))))))).symm)
                                go_enter Try.func66, Try.ntmps66
                                go_wp2
                                go_ret
                                exact ⟨cu hf.out, rfl⟩
                              | false =>
                                cases e15 : (s.toList == [106, 111, 105, 110]) with
                                | true =>
                                  have hf := Lib.hid (show (3 : Int) = bn s.toList from (show fA bZ s.toList = 3 from (aj e0).trans ((aj e1).trans ((aj e2).trans ((aj e3).trans ((aj e4).trans ((aj e5).trans ((aj e6).trans ((aj e7).trans ((aj e8).trans ((aj e9).trans ((aj e10).trans ((aj e11).trans ((aj e12).trans ((aj e13).trans ((aj e14).trans (bT e15)))))))))))))))).symm)
                                  go_enter Try.func66, Try.ntmps66
                                  go_wp2
                                  go_ret
                                  exact ⟨cu hf.out, rfl⟩
                                | false =>
                                  cases e16 : (s.toList == [97, 100, 100]) with
                                  | true =>
                                    have hf := Lib.hid (show (4 : Int) = bn s.toList from (show fA bZ s.toList = 4 from (aj e0).trans ((aj e1).trans ((aj e2).trans ((aj e3).trans ((aj e4).trans ((aj e5).trans ((aj e6).trans ((aj e7).trans ((aj e8).trans ((aj e9).trans ((aj e10).trans ((aj e11).trans ((aj e12).trans ((aj e13).trans ((aj e14).trans ((aj e15).trans (bT e16))))))))))))))))).symm)
                                    go_enter Try.func66, Try.ntmps66
                                    go_wp2
                                    go_ret
                                    exact ⟨cu hf.out, rfl⟩
                                  | false =>
                                    have hf := Lib.hid (show (-1 : Int) = bn s.toList from (show fA bZ s.toList = -1 from (aj e0).trans ((aj e1).trans ((aj e2).trans ((aj e3).trans ((aj e4).trans ((aj e5).trans ((aj e6).trans ((aj e7).trans ((aj e8).trans ((aj e9).trans ((aj e10).trans ((aj e11).trans ((aj e12).trans ((aj e13).trans ((aj e14).trans ((aj e15).trans ((aj e16).trans (rfl)))))))))))))))))).symm)
                                    go_enter Try.func66, Try.ntmps66
                                    go_wp2
                                    go_ret
                                    exact ⟨cu hf.out, rfl⟩
set_option maxHeartbeats 8000000 in
theorem Dc (s : ByteArray) (w : World) : Calls Try.prog 95 #[.string s] w (wZ (.int .i64 (bn s.toList)) w) := by
  cases e0 : (s.toList == [99, 108, 111, 99, 107]) with
  | true =>
    have hf := Lib.hid (show (0 : Int) = bn s.toList from (show fA bZ s.toList = 0 from bT e0).symm)
    go_enter Try.func95, Try.ntmps95
    go_wp2
    go_ret
    exact ⟨cu hf.out, rfl⟩
  | false =>
    cases e1 : (s.toList == [108, 101, 110]) with
    | true =>
      have hf := Lib.hid (show (1 : Int) = bn s.toList from (show fA bZ s.toList = 1 from (aj e0).trans (bT e1)).symm)
      go_enter Try.func95, Try.ntmps95
      go_wp2
      go_ret
      exact ⟨cu hf.out, rfl⟩
    | false =>
      cases e2 : (s.toList == [115, 117, 109]) with
      | true =>
        have hf := Lib.hid (show (1 : Int) = bn s.toList from (show fA bZ s.toList = 1 from (aj e0).trans ((aj e1).trans (bT e2))).symm)
        go_enter Try.func95, Try.ntmps95
        go_wp2
        go_ret
        exact ⟨cu hf.out, rfl⟩
      | false =>
        cases e3 : (s.toList == [114, 111, 119, 115]) with
        | true =>
          have hf := Lib.hid (show (1 : Int) = bn s.toList from (show fA bZ s.toList = 1 from (aj e0).trans ((aj e1).trans ((aj e2).trans (bT e3)))).symm)
          go_enter Try.func95, Try.ntmps95
          go_wp2
          go_ret
          exact ⟨cu hf.out, rfl⟩
        | false =>
          cases e4 : (s.toList == [99, 104, 97, 110, 99, 101]) with
          | true =>
            have hf := Lib.hid (show (1 : Int) = bn s.toList from (show fA bZ s.toList = 1 from (aj e0).trans ((aj e1).trans ((aj e2).trans ((aj e3).trans (bT e4))))).symm)
            go_enter Try.func95, Try.ntmps95
            go_wp2
            go_ret
            exact ⟨cu hf.out, rfl⟩
          | false =>
            cases e5 : (s.toList == [102, 105, 108, 101]) with
            | true =>
              have hf := Lib.hid (show (1 : Int) = bn s.toList from (show fA bZ s.toList = 1 from (aj e0).trans ((aj e1).trans ((aj e2).trans ((aj e3).trans ((aj e4).trans (bT e5)))))).symm)
              go_enter Try.func95, Try.ntmps95
              go_wp2
              go_ret
              exact ⟨cu hf.out, rfl⟩
            | false =>
              cases e6 : (s.toList == [116, 97, 107, 101]) with
              | true =>
                have hf := Lib.hid (show (2 : Int) = bn s.toList from (show fA bZ s.toList = 2 from (aj e0).trans ((aj e1).trans ((aj e2).trans ((aj e3).trans ((aj e4).trans ((aj e5).trans (bT e6))))))).symm)
                go_enter Try.func95, Try.ntmps95
                go_wp2
                go_ret
                exact ⟨cu hf.out, rfl⟩
              | false =>
                cases e7 : (s.toList == [115, 107, 105, 112]) with
                | true =>
                  have hf := Lib.hid (show (2 : Int) = bn s.toList from (show fA bZ s.toList = 2 from (aj e0).trans ((aj e1).trans ((aj e2).trans ((aj e3).trans ((aj e4).trans ((aj e5).trans ((aj e6).trans (bT e7)))))))).symm)
                  go_enter Try.func95, Try.ntmps95
                  go_wp2
                  go_ret
                  exact ⟨cu hf.out, rfl⟩
                | false =>
                  cases e8 : (s.toList == [114, 97, 110, 103, 101]) with
                  | true =>
                    have hf := Lib.hid (show (2 : Int) = bn s.toList from (show fA bZ s.toList = 2 from (aj e0).trans ((aj e1).trans ((aj e2).trans ((aj e3).trans ((aj e4).trans ((aj e5).trans ((aj e6).trans ((aj e7).trans (bT e8))))))))).symm)
                    go_enter Try.func95, Try.ntmps95
                    go_wp2
                    go_ret
                    exact ⟨cu hf.out, rfl⟩
                  | false =>
                    cases e9 : (s.toList == [110, 116, 104]) with
                    | true =>
                      have hf := Lib.hid (show (2 : Int) = bn s.toList from (show fA bZ s.toList = 2 from (aj e0).trans ((aj e1).trans ((aj e2).trans ((aj e3).trans ((aj e4).trans ((aj e5).trans ((aj e6).trans ((aj e7).trans ((aj e8).trans (bT e9)))))))))).symm)
                      go_enter Try.func95, Try.ntmps95
                      go_wp2
                      go_ret
                      exact ⟨cu hf.out, rfl⟩
                    | false =>
                      cases e10 : (s.toList == [107, 101, 101, 112]) with
                      | true =>
                        have hf := Lib.hid (show (2 : Int) = bn s.toList from (show fA bZ s.toList = 2 from (aj e0).trans ((aj e1).trans ((aj e2).trans ((aj e3).trans ((aj e4).trans ((aj e5).trans ((aj e6).trans ((aj e7).trans ((aj e8).trans ((aj e9).trans (bT e10))))))))))).symm)
                        go_enter Try.func95, Try.ntmps95
                        go_wp2
                        go_ret
                        exact ⟨cu hf.out, rfl⟩
                      | false =>
                        cases e11 : (s.toList == [99, 111, 108, 117, 109, 110]) with
                        | true =>
                          have hf := Lib.hid (show (2 : Int) = bn s.toList from (show fA bZ s.toList = 2 from (aj e0).trans ((aj e1).trans ((aj e2).trans ((aj e3).trans ((aj e4).trans ((aj e5).trans ((aj e6).trans ((aj e7).trans ((aj e8).trans ((aj e9).trans ((aj e10).trans (bT e11)))))))))))).symm)
                          go_enter Try.func95, Try.ntmps95
                          go_wp2
                          go_ret
                          exact ⟨cu hf.out, rfl⟩
                        | false =>
                          cases e12 : (s.toList == [116, 97, 98, 108, 101]) with
                          | true =>
                            have hf := Lib.hid (show (2 : Int) = bn s.toList from (show fA bZ s.toList = 2 from (aj e0).trans ((aj e1).trans ((aj e2).trans ((aj e3).trans ((aj e4).trans ((aj e5).trans ((aj e6).trans ((aj e7).trans ((aj e8).trans ((aj e9).trans ((aj e10).trans ((aj e11).trans (bT e12))))))))))))).symm)
                            go_enter Try.func95, Try.ntmps95
                            go_wp2
                            go_ret
                            exact ⟨cu hf.out, rfl⟩
                          | false =>
                            cases e13 : (s.toList == [119, 104, 101, 114, 101]) with
                            | true =>
                              have hf := Lib.hid (show (3 : Int) = bn s.toList from (show fA bZ s.toList = 3 from (aj e0).trans ((aj e1).trans ((aj e2).trans ((aj e3).trans ((aj e4).trans ((aj e5).trans ((aj e6).trans ((aj e7).trans ((aj e8).trans ((aj e9).trans ((aj e10).trans ((aj e11).trans ((aj e12).trans (bT e13)))))))))))))).symm)
                              go_enter Try.func95, Try.ntmps95
                              go_wp2
                              go_ret
                              exact ⟨cu hf.out, rfl⟩
                            | false =>
                              cases e14 : (s.toList == [103, 114, 111, 117, 112]) with
                              | true =>
                                have hf := Lib.hid (show (3 : Int) = bn s.toList from (show fA bZ s.toList = 3 from (aj e0).trans ((aj e1).trans ((aj e2).trans ((aj e3).trans ((aj e4).trans ((aj e5).trans ((aj e6).trans ((aj e7).trans ((aj e8).trans ((aj e9).trans ((aj e10).trans ((aj e11).trans ((aj e12).trans ((aj e13).trans (bT e14))))))))))))))).symm)
                                go_enter Try.func95, Try.ntmps95
                                go_wp2
                                go_ret
                                exact ⟨cu hf.out, rfl⟩
                              | false =>
                                cases e15 : (s.toList == [106, 111, 105, 110]) with
                                | true =>
                                  have hf := Lib.hid (show (3 : Int) = bn s.toList from (show fA bZ s.toList = 3 from (aj e0).trans ((aj e1).trans ((aj e2).trans ((aj e3).trans ((aj e4).trans ((aj e5).trans ((aj e6).trans ((aj e7).trans ((aj e8).trans ((aj e9).trans ((aj e10).trans ((aj e11).trans ((aj e12).trans ((aj e13).trans ((aj e14).trans (bT e15)))))))))))))))).symm)
                                  go_enter Try.func95, Try.ntmps95
                                  go_wp2
                                  go_ret
                                  exact ⟨cu hf.out, rfl⟩
                                | false =>
                                  cases e16 : (s.toList == [97, 100, 100]) with
                                  | true =>
                                    have hf := Lib.hid (show (4 : Int) = bn s.toList from (show fA bZ s.toList = 4 from (aj e0).trans ((aj e1).trans ((aj e2).trans ((aj e3).trans ((aj e4).trans ((aj e5).trans ((aj e6).trans ((aj e7).trans ((aj e8).trans ((aj e9).trans ((aj e10).trans ((aj e11).trans ((aj e12).trans ((aj e13).trans ((aj e14).trans ((aj e15).trans (bT e16))))))))))))))))).symm)
                                    go_enter Try.func95, Try.ntmps95
                                    go_wp2
                                    go_ret
                                    exact ⟨cu hf.out, rfl⟩
                                  | false =>
                                    have hf := Lib.hid (show (-1 : Int) = bn s.toList from (show fA bZ s.toList = -1 from (aj e0).trans ((aj e1).trans ((aj e2).trans ((aj e3).trans ((aj e4).trans ((aj e5).trans ((aj e6).trans ((aj e7).trans ((aj e8).trans ((aj e9).trans ((aj e10).trans ((aj e11).trans ((aj e12).trans ((aj e13).trans ((aj e14).trans ((aj e15).trans ((aj e16).trans (rfl)))))))))))))))))).symm)
                                    go_enter Try.func95, Try.ntmps95
                                    go_wp2
                                    go_ret
                                    exact ⟨cu hf.out, rfl⟩
theorem lV (l : List UInt8) : ng l = (lC.contains l || decide (0 ≤ bn l)) := by
  by_cases h : l ∈ qJ
  · have h1 : ng l = true := by unfold ng; exact List.contains_iff_mem.2 h
    rw [h1]
    simp only [qJ, List.mem_cons, List.not_mem_nil, or_false] at h
    rcases h with rfl | rfl | rfl | rfl | rfl | rfl | rfl | rfl | rfl | rfl | rfl | rfl | rfl | rfl | rfl | rfl | rfl | rfl | rfl | rfl | rfl | rfl | rfl | rfl <;> decide
  · have h1 : ng l = false := by
      unfold ng
      rw [← Bool.not_eq_true, List.contains_iff_mem]
      exact h
    rw [h1]
    simp only [qJ, List.mem_cons, List.not_mem_nil, or_false, not_or] at h
    obtain ⟨h0, h1, h2, h3, h4, h5, h6, h7, h8, h9, h10, h11, h12, h13, h14, h15, h16, h17, h18, h19, h20, h21, h22, h23⟩ := h
    simp [lC, bn, bZ, fA, *]
set_option maxHeartbeats 8000000 in
theorem zx (s : ByteArray) (w : World) : Calls Try.prog 56 #[.string s] w (wZ (.bool (ng s.toList)) w) := by
  cases e0 : (s.toList == [108, 101, 116]) with
  | true =>
    have hf := Lib.hid (show true = ng s.toList by rw [lV, show lC.contains s.toList = true from jG e0]; rfl)
    go_enter Try.func56, Try.ntmps56
    go_wp2
    go_ret
    exact ⟨bU hf.out, rfl⟩
  | false =>
    cases e1 : (s.toList == [105, 110]) with
    | true =>
      have hf := Lib.hid (show true = ng s.toList by rw [lV, show lC.contains s.toList = true from (bg e0).trans (jG e1)]; rfl)
      go_enter Try.func56, Try.ntmps56
      go_wp2
      go_ret
      exact ⟨bU hf.out, rfl⟩
    | false =>
      cases e2 : (s.toList == [105, 102]) with
      | true =>
        have hf := Lib.hid (show true = ng s.toList by rw [lV, show lC.contains s.toList = true from (bg e0).trans ((bg e1).trans (jG e2))]; rfl)
        go_enter Try.func56, Try.ntmps56
        go_wp2
        go_ret
        exact ⟨bU hf.out, rfl⟩
      | false =>
        cases e3 : (s.toList == [116, 104, 101, 110]) with
        | true =>
          have hf := Lib.hid (show true = ng s.toList by rw [lV, show lC.contains s.toList = true from (bg e0).trans ((bg e1).trans ((bg e2).trans (jG e3)))]; rfl)
          go_enter Try.func56, Try.ntmps56
          go_wp2
          go_ret
          exact ⟨bU hf.out, rfl⟩
        | false =>
          cases e4 : (s.toList == [101, 108, 115, 101]) with
          | true =>
            have hf := Lib.hid (show true = ng s.toList by rw [lV, show lC.contains s.toList = true from (bg e0).trans ((bg e1).trans ((bg e2).trans ((bg e3).trans (jG e4))))]; rfl)
            go_enter Try.func56, Try.ntmps56
            go_wp2
            go_ret
            exact ⟨bU hf.out, rfl⟩
          | false =>
            cases e5 : (s.toList == [102, 111, 114]) with
            | true =>
              have hf := Lib.hid (show true = ng s.toList by rw [lV, show lC.contains s.toList = true from (bg e0).trans ((bg e1).trans ((bg e2).trans ((bg e3).trans ((bg e4).trans (jG e5)))))]; rfl)
              go_enter Try.func56, Try.ntmps56
              go_wp2
              go_ret
              exact ⟨bU hf.out, rfl⟩
            | false =>
              cases e6 : (s.toList == [100, 111]) with
              | true =>
                have hf := Lib.hid (show true = ng s.toList by rw [lV, show lC.contains s.toList = true from (bg e0).trans ((bg e1).trans ((bg e2).trans ((bg e3).trans ((bg e4).trans ((bg e5).trans (jG e6))))))]; rfl)
                go_enter Try.func56, Try.ntmps56
                go_wp2
                go_ret
                exact ⟨bU hf.out, rfl⟩
              | false =>
                have hf := Lib.hid (show decide (0 ≤ bn s.toList) = ng s.toList by rw [lV, show lC.contains s.toList = false from (bg e0).trans ((bg e1).trans ((bg e2).trans ((bg e3).trans ((bg e4).trans ((bg e5).trans ((bg e6).trans (rfl)))))))]; rfl)
                have hP := fun wx => Df s wx
                generalize bn s.toList = ac at hP hf
                go_enter Try.func56, Try.ntmps56
                go_wp2_with (go_at_call 66; refine (hP _).mono ?_; rintro e w1 ⟨rfl, rfl⟩)
                go_ret
                exact ⟨bU hf.out, rfl⟩

theorem xQ (s : ByteArray) (hs : s.size ≤ 9223372036854775807) (w : World) : Calls Try.prog 34 #[.string s] w (wZ (.bool (kU s && !ng s.toList)) w) := by
  have hP := fun wx => G5 s hs wx
  have hQ := fun wx => zx s wx
  cases h1 : kU s with
  | true =>
    rw [h1] at hP
    cases h2 : ng s.toList with
    | true =>
      rw [h2] at hQ
      clear h1 h2
      go_enter Try.func34, Try.ntmps34
      go_wp2_with (first | (go_at_call 55; refine (hP _).mono ?_; rintro e w1 ⟨rfl, rfl⟩) | (go_at_call 56; refine (hQ _).mono ?_; rintro e w1 ⟨rfl, rfl⟩))
      go_ret
      exact ⟨rfl, rfl⟩
    | false =>
      rw [h2] at hQ
      clear h1 h2
      go_enter Try.func34, Try.ntmps34
      go_wp2_with (first | (go_at_call 55; refine (hP _).mono ?_; rintro e w1 ⟨rfl, rfl⟩) | (go_at_call 56; refine (hQ _).mono ?_; rintro e w1 ⟨rfl, rfl⟩))
      go_ret
      exact ⟨rfl, rfl⟩
  | false =>
    rw [h1] at hP
    clear h1 hQ
    go_enter Try.func34, Try.ntmps34
    go_wp2_with (go_at_call 55; refine (hP _).mono ?_; rintro e w1 ⟨rfl, rfl⟩)
    go_ret
    exact ⟨rfl, rfl⟩

end Go.Proofs.Ytnongnchpplacaa

namespace Go.Proofs.Ytnongnchpplacaa
open Go.RowKit
set_option linter.unusedSimpArgs false
set_option linter.unusedVariables false

def Fq (l : List ByteArray) (s : ByteArray) : Bool := l.any fun x => x.toList == s.toList
theorem CU (l : List ByteArray) (s : ByteArray) (fp : List Nat) (v : Value) (w : World) (hS : Sl w (l.map ls) fp v) : Calls Try.prog 73 #[v, .string s] w (wZ (.bool (Fq l s)) w) := by
  obtain ⟨A, c, rfl, hl, hc⟩ := hS.rV
  have hm : l.length ≤ 9223372036854775807 := by unfold maxLen at hc; omega
  clear hl hc
  go_enter Try.func73, Try.ntmps73
  go_wp2_with fail
  go_loop [5] (fun iv => ∃ k : Nat, k ≤ l.length ∧ iv = .int .i64 k ∧ Fq (l.take k) s = false) (fun iv => l.length - (intOf iv).toNat)
  case atStart => exact ⟨0, by omega, rfl, rfl⟩
  case round =>
    obtain ⟨k, hk, rfl, hno⟩ := hrel
    have hno' := Lib.hid hno
    clear hno
    by_cases hlt : k < l.length
    · have hd : (l.map ls)[k]? = some (ls l[k]) := by rw [List.getElem?_map, List.getElem?_eq_getElem hlt]; rfl
      obtain ⟨b, o, fi, ci, rfl, hbb, hbf, hri, hfi, hat⟩ := hS.elem VB hd
      obtain ⟨rfl, rfl⟩ := hri
      have q0 : w.cell? ⟨b, o + k, none⟩ = some (.string l[k]) := by simpa using hat.head
      clear hat hd
      cases he : ((l[k]).toList == s.toList) with
      | true =>
        have hf := Lib.hid (show true = Fq l s by
          unfold Fq
          rw [eq_comm, List.any_eq_true]
          exact ⟨l[k], List.getElem_mem hlt, he⟩)
        go_wp2_with fail
        go_ret
        exact ⟨bU hf.out, rfl⟩
      | false =>
        have hf := Lib.hid (show Fq (l.take (k + 1)) s = false by
          have h := hno'.out
          unfold Fq at h ⊢
          rw [List.take_succ_eq_append_getElem hlt, List.any_append, h]
          simp [he])
        go_wp2_with fail
        go_round
        case rel => exact ⟨k + 1, by omega, by go_num, hf.out⟩
        case measure => (simp [intOf] <;> omega)
    · have hf := Lib.hid (show false = Fq l s by
        have h := hno'.out
        rw [List.take_of_length_le (by omega)] at h
        exact h.symm)
      go_wp2_with fail
      go_ret
      exact ⟨bU hf.out, rfl⟩

def qK : List ByteArray := qJ.map fun l => ⟨l.toArray⟩
theorem QN (s : ByteArray) : Fq qK s = ng s.toList := by
  unfold Fq ng qK
  rw [List.any_map]
  induction qJ with
  | nil => rfl
  | cons x l ih =>
    rw [List.any_cons, List.contains_cons, ih]
    congr 1
    simp only [Function.comp, ByteArray.toList_mk]
    rw [Bool.eq_iff_iff, beq_iff_eq, beq_iff_eq]
    exact eq_comm
def VN (l : List D) (w : World) (e : Ending) (w' : World) : Prop := ∃ fp v, e = .returned v ∧ Sl w' l fp v ∧ Below w.heap.size w w'
theorem MW {w : World} : ∀ (l : List ByteArray), Rs w (l.map ls) [] (l.map Value.string)
  | [] => ⟨rfl, rfl⟩
  | x :: l => ⟨[], [], [.string x], l.map Value.string, rfl, rfl, ⟨rfl, rfl⟩, MW l⟩
set_option maxRecDepth 20000 in
theorem zq (w : World) : Calls Try.prog 74 #[] w (VN (qK.map ls) w) := by
  go_enter Try.func74, Try.ntmps74
  go_wp2
  go_ret
  refine ⟨_, _, rfl, Sl.Qx (Row.new _ _ _) (MW qK) (by rfl) (by simp [maxLen]), (Below.refl _ _).alloc (Nat.le_refl _) _⟩
set_option maxRecDepth 20000 in
theorem zu (s : ByteArray) (w : World) : Calls Try.prog 65 #[.string s] w (yC (.bool (ng s.toList)) w) := by
  have hP := fun wx (fp : List Nat) (v : Value) (hS : Sl wx (qK.map ls) fp v) => CU qK s fp v wx hS
  rw [QN] at hP
  generalize ng s.toList = b at hP
  go_enter Try.func65, Try.ntmps65
  go_wp2_with fail
  refine (zq _).mono ?_
  rintro e w1 ⟨fp, v, rfl, hS, hb⟩
  obtain ⟨A, c, rfl, _, _⟩ := hS.rV
  go_wp2_with fail
  refine (hP _ _ _ hS).mono ?_
  rintro e w2 ⟨rfl, rfl⟩
  go_wp2_with fail
  go_ret
  exact ⟨rfl, hb⟩

set_option maxRecDepth 20000 in
theorem qO (s : ByteArray) (hs : s.size ≤ 9223372036854775807) (w : World) : Calls Try.prog 54 #[.string s] w (yC (.bool (kU s && !ng s.toList)) w) := by
  have hP := fun wx => EZ s hs wx
  have hQ := fun wx => zu s wx
  unfold kU
  cases h1 : mg s with
  | true =>
    rw [h1] at hP
    rcases ilt 8 (s.size : Int) with h3 | h3
    · have d1 : decide ((s.size : Int) ≤ 8) = false := by simp; omega
      rw [d1]
      clear h1 hQ h3
      go_enter Try.func54, Try.ntmps54
      go_wp2_with (first | (go_at_call 64; refine (hP _).mono ?_; rintro e w1 ⟨rfl, rfl⟩) | (go_at_call 65; refine (hQ _).mono ?_; rintro e w1 ⟨rfl, hb⟩))
      go_ret
      exact ⟨rfl, Below.refl _ _⟩
    · have d1 : decide ((s.size : Int) ≤ 8) = true := by simp; omega
      rw [d1]
      clear d1
      cases h2 : ng s.toList with
      | true =>
        rw [h2] at hQ
        clear h1 h2
        go_enter Try.func54, Try.ntmps54
        go_wp2_with (first | (go_at_call 64; refine (hP _).mono ?_; rintro e w1 ⟨rfl, rfl⟩) | (go_at_call 65; refine (hQ _).mono ?_; rintro e w1 ⟨rfl, hb⟩))
        go_ret
        exact ⟨rfl, hb⟩
      | false =>
        rw [h2] at hQ
        clear h1 h2
        go_enter Try.func54, Try.ntmps54
        go_wp2_with (first | (go_at_call 64; refine (hP _).mono ?_; rintro e w1 ⟨rfl, rfl⟩) | (go_at_call 65; refine (hQ _).mono ?_; rintro e w1 ⟨rfl, hb⟩))
        go_ret
        exact ⟨rfl, hb⟩
  | false =>
    rw [h1] at hP
    clear h1 hQ
    go_enter Try.func54, Try.ntmps54
    go_wp2_with (first | (go_at_call 64; refine (hP _).mono ?_; rintro e w1 ⟨rfl, rfl⟩) | (go_at_call 65; refine (hQ _).mono ?_; rintro e w1 ⟨rfl, hb⟩))
    go_ret
    exact ⟨rfl, Below.refl _ _⟩
end Go.Proofs.Ytnongnchpplacaa

namespace Go.Proofs.Ytnongnchpplacaa
open Go.RowKit
set_option linter.unusedSimpArgs false
set_option linter.unusedVariables false

def mO (x : GCell) (d f : Bool) : Bool :=
  if x.kind == 1 then x.name.toList.isEmpty && x.n == 0
  else if x.kind == 2 then d && x.n == 0
  else if x.kind == 4 then d && x.n == 0
  else if x.kind == 3 then d && x.code.toList.isEmpty && f
  else false
def dw (x : GCell) : Bool := inR x.id 1 999 && inR x.ver 1 999 && eF x.code && mO x (kU x.name && !ng x.name.toList) (inR x.n 0 100)
theorem Aw (x : GCell) {d f : Bool} : ((x.kind == 1) = true ∧ x.name.toList.isEmpty = true ∧ mO x d f = (x.n == 0)) ∨ ((x.kind == 1) = true ∧ x.name.toList.isEmpty = false ∧ mO x d f = false) ∨ ((x.kind == 1) = false ∧ (x.kind == 2) = true ∧ mO x d f = (d && x.n == 0)) ∨
    ((x.kind == 1) = false ∧ (x.kind == 2) = false ∧ (x.kind == 4) = true ∧ mO x d f = (d && x.n == 0)) ∨ ((x.kind == 1) = false ∧ (x.kind == 2) = false ∧ (x.kind == 4) = false ∧ (x.kind == 3) = true ∧ mO x d f = (d && x.code.toList.isEmpty && f)) ∨
    ((x.kind == 1) = false ∧ (x.kind == 2) = false ∧ (x.kind == 4) = false ∧ (x.kind == 3) = false ∧ mO x d f = false) := by
  unfold mO
  cases x.kind == 1 <;> cases x.kind == 2 <;> cases x.kind == 4 <;> cases x.kind == 3 <;> cases x.name.toList.isEmpty <;> simp

set_option maxRecDepth 20000 in
set_option maxHeartbeats 4000000 in
theorem qQ (x : GCell) (hw : x.toD.wf) (w : World) : Calls Try.prog 12 #[.agg #[.int .i64 x.id, .int .i64 x.ver, .int .i64 x.kind, .string x.name, .string x.code, .int .i64 x.n]] w (yC (.bool (dw x)) w) := by
  have hw3 : x.name.size ≤ 9223372036854775807 := hw.2.2.2.1
  have hw4 : x.code.size ≤ 9223372036854775807 := hw.2.2.2.2.1
  clear hw
  have hA := fun wx => o8 x.id 1 999 wx
  have hB := fun wx => o8 x.ver 1 999 wx
  have hC := fun wx => xU x.code hw4 wx
  have hD := fun wx => xQ x.name hw3 wx
  have hE := fun wx => o8 x.n 0 100 wx
  clear hw3 hw4
  have hv := Lib.hid (show dw x = (inR x.id 1 999 && inR x.ver 1 999 && eF x.code && mO x (kU x.name && !ng x.name.toList) (inR x.n 0 100)) from rfl)
  generalize inR x.id 1 999 = a at hA hv
  generalize inR x.ver 1 999 = b at hB hv
  generalize eF x.code = c at hC hv
  generalize (kU x.name && !ng x.name.toList) = d at hD hv
  generalize inR x.n 0 100 = f at hE hv
  rw [hv.out]
  clear hv
  cases a with
  | false =>
    go_enter Try.func12, Try.ntmps12
    go_wp2_with fail
    refine (hA _).mono ?_
    rintro e w1 ⟨rfl, rfl⟩
    go_wp2_with fail
    go_ret
    exact ⟨rfl, (Below.refl _ _).alloc (by simp) _⟩
  | true =>
    cases b with
    | false =>
      go_enter Try.func12, Try.ntmps12
      go_wp2_with fail
      refine (hA _).mono ?_
      rintro e w1 ⟨rfl, rfl⟩
      go_wp2_with fail
      refine (hB _).mono ?_
      rintro e w1 ⟨rfl, rfl⟩
      go_wp2_with fail
      go_ret
      exact ⟨rfl, (Below.refl _ _).alloc (by simp) _⟩
    | true =>
      cases c with
      | false =>
        go_enter Try.func12, Try.ntmps12
        go_wp2_with fail
        refine (hA _).mono ?_
        rintro e w1 ⟨rfl, rfl⟩
        go_wp2_with fail
        refine (hB _).mono ?_
        rintro e w1 ⟨rfl, rfl⟩
        go_wp2_with fail
        refine (hC _).mono ?_
        rintro e w1 ⟨rfl, rfl⟩
        go_wp2_with fail
        go_ret
        exact ⟨rfl, (Below.refl _ _).alloc (by simp) _⟩
      | true =>
        rcases Aw x with ⟨h1, hn, hk⟩ | ⟨h1, hn, hk⟩ | ⟨h1, h2, hk⟩ | ⟨h1, h2, h4, hk⟩ | ⟨h1, h2, h4, h3, hk⟩ | ⟨h1, h2, h4, h3, hk⟩
        all_goals rw [show (true && true && true && mO x d f) = mO x d f from rfl, hk]
        all_goals clear hk
        all_goals
          go_enter Try.func12, Try.ntmps12
          go_wp2_with fail
          refine (hA _).mono ?_
          rintro e w1 ⟨rfl, rfl⟩
          go_wp2_with fail
          refine (hB _).mono ?_
          rintro e w1 ⟨rfl, rfl⟩
          go_wp2_with fail
          refine (hC _).mono ?_
          rintro e w1 ⟨rfl, rfl⟩
          go_wp2_with fail
        · go_ret
          exact ⟨rfl, (Below.refl _ _).alloc (by simp) _⟩
        · go_ret
          exact ⟨rfl, (Below.refl _ _).alloc (by simp) _⟩
        · cases d with
          | true =>
            refine (hD _).mono ?_
            rintro e w1 ⟨rfl, rfl⟩
            go_wp2_with fail
            go_ret
            exact ⟨by simp [*], (Below.refl _ _).alloc (by simp) _⟩
          | false =>
            refine (hD _).mono ?_
            rintro e w1 ⟨rfl, rfl⟩
            go_wp2_with fail
            go_ret
            exact ⟨by simp [*], (Below.refl _ _).alloc (by simp) _⟩
        · cases d with
          | true =>
            refine (hD _).mono ?_
            rintro e w1 ⟨rfl, rfl⟩
            go_wp2_with fail
            go_ret
            exact ⟨by simp [*], (Below.refl _ _).alloc (by simp) _⟩
          | false =>
            refine (hD _).mono ?_
            rintro e w1 ⟨rfl, rfl⟩
            go_wp2_with fail
            go_ret
            exact ⟨by simp [*], (Below.refl _ _).alloc (by simp) _⟩
        · cases d with
          | true =>
            cases hc : x.code.toList.isEmpty with
            | true =>
              refine (hD _).mono ?_
              rintro e w1 ⟨rfl, rfl⟩
              skip
              go_wp2_with fail
              refine (hE _).mono ?_
              rintro e w2 ⟨rfl, rfl⟩
              go_wp2_with fail
              go_ret
              exact ⟨by simp [*], (Below.refl _ _).alloc (by simp) _⟩
            | false =>
              refine (hD _).mono ?_
              rintro e w1 ⟨rfl, rfl⟩
              skip
              go_wp2_with fail
              go_ret
              exact ⟨by simp [*], (Below.refl _ _).alloc (by simp) _⟩
          | false =>
            refine (hD _).mono ?_
            rintro e w1 ⟨rfl, rfl⟩
            go_wp2_with fail
            go_ret
            exact ⟨by simp [*], (Below.refl _ _).alloc (by simp) _⟩
        · go_ret
          exact ⟨by simp [*], (Below.refl _ _).alloc (by simp) _⟩

set_option maxRecDepth 20000 in
set_option maxHeartbeats 4000000 in
theorem qP (x : GCell) (hw : x.toD.wf) (w : World) : Calls Try.prog 32 #[.agg #[.int .i64 x.id, .int .i64 x.ver, .int .i64 x.kind, .string x.name, .string x.code, .int .i64 x.n]] w (yC (.bool (dw x)) w) := by
  have hw3 : x.name.size ≤ 9223372036854775807 := hw.2.2.2.1
  have hw4 : x.code.size ≤ 9223372036854775807 := hw.2.2.2.2.1
  clear hw
  have hA := fun wx => wE x.id 1 999 wx
  have hB := fun wx => wE x.ver 1 999 wx
  have hC := fun wx => xR x.code hw4 wx
  have hD := fun wx => qO x.name hw3 wx
  have hE := fun wx => wE x.n 0 100 wx
  clear hw3 hw4
  have hv := Lib.hid (show dw x = (inR x.id 1 999 && inR x.ver 1 999 && eF x.code && mO x (kU x.name && !ng x.name.toList) (inR x.n 0 100)) from rfl)
  generalize inR x.id 1 999 = a at hA hv
  generalize inR x.ver 1 999 = b at hB hv
  generalize eF x.code = c at hC hv
  generalize (kU x.name && !ng x.name.toList) = d at hD hv
  generalize inR x.n 0 100 = f at hE hv
  rw [hv.out]
  clear hv
  cases a with
  | false =>
    go_enter Try.func32, Try.ntmps32
    go_wp2_with fail
    refine (hA _).mono ?_
    rintro e w1 ⟨rfl, rfl⟩
    go_wp2_with fail
    go_ret
    exact ⟨rfl, (Below.refl _ _).alloc (by simp) _⟩
  | true =>
    cases b with
    | false =>
      go_enter Try.func32, Try.ntmps32
      go_wp2_with fail
      refine (hA _).mono ?_
      rintro e w1 ⟨rfl, rfl⟩
      go_wp2_with fail
      refine (hB _).mono ?_
      rintro e w1 ⟨rfl, rfl⟩
      go_wp2_with fail
      go_ret
      exact ⟨rfl, (Below.refl _ _).alloc (by simp) _⟩
    | true =>
      cases c with
      | false =>
        go_enter Try.func32, Try.ntmps32
        go_wp2_with fail
        refine (hA _).mono ?_
        rintro e w1 ⟨rfl, rfl⟩
        go_wp2_with fail
        refine (hB _).mono ?_
        rintro e w1 ⟨rfl, rfl⟩
        go_wp2_with fail
        refine (hC _).mono ?_
        rintro e w1 ⟨rfl, rfl⟩
        go_wp2_with fail
        go_ret
        exact ⟨rfl, (Below.refl _ _).alloc (by simp) _⟩
      | true =>
        rcases Aw x with ⟨h1, hn, hk⟩ | ⟨h1, hn, hk⟩ | ⟨h1, h2, hk⟩ | ⟨h1, h2, h4, hk⟩ | ⟨h1, h2, h4, h3, hk⟩ | ⟨h1, h2, h4, h3, hk⟩
        all_goals rw [show (true && true && true && mO x d f) = mO x d f from rfl, hk]
        all_goals clear hk
        all_goals
          go_enter Try.func32, Try.ntmps32
          go_wp2_with fail
          refine (hA _).mono ?_
          rintro e w1 ⟨rfl, rfl⟩
          go_wp2_with fail
          refine (hB _).mono ?_
          rintro e w1 ⟨rfl, rfl⟩
          go_wp2_with fail
          refine (hC _).mono ?_
          rintro e w1 ⟨rfl, rfl⟩
          go_wp2_with fail
        · go_ret
          exact ⟨rfl, (Below.refl _ _).alloc (by simp) _⟩
        · go_ret
          exact ⟨rfl, (Below.refl _ _).alloc (by simp) _⟩
        · cases d with
          | true =>
            refine (hD _).mono ?_
            rintro e w1 ⟨rfl, hb1⟩; have kk := (yN hb1).1.cell
            go_wp2_with fail
            go_ret
            exact ⟨by simp [*], ((Below.refl _ _).alloc (by simp) _).trans (hb1.mono (by simp))⟩
          | false =>
            refine (hD _).mono ?_
            rintro e w1 ⟨rfl, hb1⟩; have kk := (yN hb1).1.cell
            go_wp2_with fail
            go_ret
            exact ⟨by simp [*], ((Below.refl _ _).alloc (by simp) _).trans (hb1.mono (by simp))⟩
        · cases d with
          | true =>
            refine (hD _).mono ?_
            rintro e w1 ⟨rfl, hb1⟩; have kk := (yN hb1).1.cell
            go_wp2_with fail
            go_ret
            exact ⟨by simp [*], ((Below.refl _ _).alloc (by simp) _).trans (hb1.mono (by simp))⟩
          | false =>
            refine (hD _).mono ?_
            rintro e w1 ⟨rfl, hb1⟩; have kk := (yN hb1).1.cell
            go_wp2_with fail
            go_ret
            exact ⟨by simp [*], ((Below.refl _ _).alloc (by simp) _).trans (hb1.mono (by simp))⟩
        · cases d with
          | true =>
            cases hc : x.code.toList.isEmpty with
            | true =>
              refine (hD _).mono ?_
              rintro e w1 ⟨rfl, hb1⟩; have kk := (yN hb1).1.cell
              skip
              go_wp2_with fail
              refine (hE _).mono ?_
              rintro e w2 ⟨rfl, rfl⟩
              go_wp2_with fail
              go_ret
              exact ⟨by simp [*], ((Below.refl _ _).alloc (by simp) _).trans (hb1.mono (by simp))⟩
            | false =>
              refine (hD _).mono ?_
              rintro e w1 ⟨rfl, hb1⟩; have kk := (yN hb1).1.cell
              skip
              go_wp2_with fail
              go_ret
              exact ⟨by simp [*], ((Below.refl _ _).alloc (by simp) _).trans (hb1.mono (by simp))⟩
          | false =>
            refine (hD _).mono ?_
            rintro e w1 ⟨rfl, hb1⟩; have kk := (yN hb1).1.cell
            go_wp2_with fail
            go_ret
            exact ⟨by simp [*], ((Below.refl _ _).alloc (by simp) _).trans (hb1.mono (by simp))⟩
        · go_ret
          exact ⟨by simp [*], (Below.refl _ _).alloc (by simp) _⟩
end Go.Proofs.Ytnongnchpplacaa

namespace Go.Proofs.Ytnongnchpplacaa
open Go.RowKit
set_option linter.unusedSimpArgs false
set_option linter.unusedVariables false

def jF : List GCell → Int → Nat → Int
  | [], _, _ => -1
  | c :: r, id, k => if c.id == id then (k : Int) else jF r id (k + 1)
def dn (l : List GCell) (id : Int) : Int := jF l id 0
def fC (l : List GCell) : List GCell → Nat → Bool
  | [], _ => true
  | c :: r, k => dw c && (dn l c.id == (k : Int)) && fC l r (k + 1)
def dH (l : List GCell) : Bool := fC l l 0 && decide ((l.length : Int) ≤ 8)

set_option maxHeartbeats 1000000 in
theorem tN (l : List GCell) (id : Int) (fp : List Nat) (v : Value) (w : World) (hS : Sl w (l.map GCell.toD) fp v) : Calls Try.prog 11 #[.agg #[v], .int .i64 id] w (yC (.int .i64 (dn l id)) w) := by
  obtain ⟨A, c, rfl, hl, hc⟩ := hS.rV
  have hm : l.length ≤ 9223372036854775807 := by unfold maxLen at hc; omega
  clear hl hc
  go_enter Try.func11, Try.ntmps11
  go_wp2_with fail
  go_loopw [10] (fun iv wr => ∃ k : Nat, k ≤ l.length ∧ iv = .int .i64 k ∧ dn l id = jF (l.drop k) id k ∧ Row wr w.heap.size 26 [.slice A l.length c] ∧ Below w.heap.size w wr) (fun iv _ => l.length - (intOf iv).toNat)
  case atStart => exact ⟨0, by omega, rfl, rfl, Row.new _ _ _, (Below.refl _ _).alloc (Nat.le_refl _) _⟩
  case round =>
    obtain ⟨k, hk, rfl, he, hro, hb⟩ := hrel
    have he' := Lib.hid he
    clear he
    have kk := hro.cell
    have hz := hro.lt
    by_cases hlt : k < l.length
    · have hd : (l.map GCell.toD)[k]? = some (GCell.toD l[k]) := by rw [List.getElem?_map, List.getElem?_eq_getElem hlt]; rfl
      obtain ⟨b, o, fi, ci, rfl, hbb, hbf, hri, hfi, hat⟩ := hS.elem GCell.szs hd
      obtain ⟨rfl, rfl⟩ := GCell.opened.1 hri
      have q0 : wr.cell? ⟨b, o + k * 6, none⟩ = some (.int .i64 l[k].id) := (hb.cell (p := ⟨b, o + k * 6, none⟩) hbb).trans (hat.head)
      have q1 : wr.cell? ⟨b, o + k * 6 + 1, none⟩ = some (.int .i64 l[k].ver) := (hb.cell (p := ⟨b, o + k * 6 + 1, none⟩) hbb).trans (hat.nth 1 rfl)
      have q2 : wr.cell? ⟨b, o + k * 6 + 2, none⟩ = some (.int .i64 l[k].kind) := (hb.cell (p := ⟨b, o + k * 6 + 2, none⟩) hbb).trans (hat.nth 2 rfl)
      have q3 : wr.cell? ⟨b, o + k * 6 + 3, none⟩ = some (.string l[k].name) := (hb.cell (p := ⟨b, o + k * 6 + 3, none⟩) hbb).trans (hat.nth 3 rfl)
      have q4 : wr.cell? ⟨b, o + k * 6 + 4, none⟩ = some (.string l[k].code) := (hb.cell (p := ⟨b, o + k * 6 + 4, none⟩) hbb).trans (hat.nth 4 rfl)
      have q5 : wr.cell? ⟨b, o + k * 6 + 5, none⟩ = some (.int .i64 l[k].n) := (hb.cell (p := ⟨b, o + k * 6 + 5, none⟩) hbb).trans (hat.nth 5 rfl)
      clear hat hd hri
      have hst := Lib.hid (show jF (l.drop k) id k = if l[k].id == id then (k : Int) else jF (l.drop (k + 1)) id (k + 1) by rw [List.drop_eq_getElem_cons hlt, jF])
      cases hid : (l[k].id == id) with
      | true =>
        have hf := Lib.hid (show (k : Int) = dn l id by rw [he'.out, hst.out, hid]; rfl)
        go_wp2_with fail
        go_ret
        exact ⟨cu hf.out, by first | exact hb | exact hb.alloc (by omega) _⟩
      | false =>
        have hf := Lib.hid (show dn l id = jF (l.drop (k + 1)) id (k + 1) by rw [he'.out, hst.out, hid]; rfl)
        go_wp2_with fail
        go_roundw
        case rel => exact ⟨k + 1, by omega, by go_num, hf.out, by first | exact hro | exact hro.below ((Below.refl _ _).alloc (Nat.le_refl _) _), by first | exact hb | exact hb.alloc (by omega) _⟩
        case measure => (simp [intOf] <;> omega)
    · have hf := Lib.hid (show (-1 : Int) = dn l id by rw [he'.out, List.drop_eq_nil_of_le (by omega)]; rfl)
      go_wp2_with fail
      go_ret
      exact ⟨cu hf.out, hb⟩

set_option maxHeartbeats 1000000 in
theorem tK (l : List GCell) (id : Int) (fp : List Nat) (v : Value) (w : World) (hS : Sl w (l.map GCell.toD) fp v) : Calls Try.prog 24 #[.agg #[v], .int .i64 id] w (yC (.int .i64 (dn l id)) w) := by
  obtain ⟨A, c, rfl, hl, hc⟩ := hS.rV
  have hm : l.length ≤ 9223372036854775807 := by unfold maxLen at hc; omega
  clear hl hc
  go_enter Try.func24, Try.ntmps24
  go_wp2_with fail
  go_loopw [5] (fun iv wr => ∃ k : Nat, k ≤ l.length ∧ iv = .int .i64 k ∧ dn l id = jF (l.drop k) id k ∧ Row wr w.heap.size 26 [.slice A l.length c] ∧ Below w.heap.size w wr) (fun iv _ => l.length - (intOf iv).toNat)
  case atStart => exact ⟨0, by omega, rfl, rfl, Row.new _ _ _, (Below.refl _ _).alloc (Nat.le_refl _) _⟩
  case round =>
    obtain ⟨k, hk, rfl, he, hro, hb⟩ := hrel
    have he' := Lib.hid he
    clear he
    have kk := hro.cell
    have hz := hro.lt
    by_cases hlt : k < l.length
    · have hd : (l.map GCell.toD)[k]? = some (GCell.toD l[k]) := by rw [List.getElem?_map, List.getElem?_eq_getElem hlt]; rfl
      obtain ⟨b, o, fi, ci, rfl, hbb, hbf, hri, hfi, hat⟩ := hS.elem GCell.szs hd
      obtain ⟨rfl, rfl⟩ := GCell.opened.1 hri
      have q0 : wr.cell? ⟨b, o + k * 6, none⟩ = some (.int .i64 l[k].id) := (hb.cell (p := ⟨b, o + k * 6, none⟩) hbb).trans (hat.head)
      have q1 : wr.cell? ⟨b, o + k * 6 + 1, none⟩ = some (.int .i64 l[k].ver) := (hb.cell (p := ⟨b, o + k * 6 + 1, none⟩) hbb).trans (hat.nth 1 rfl)
      have q2 : wr.cell? ⟨b, o + k * 6 + 2, none⟩ = some (.int .i64 l[k].kind) := (hb.cell (p := ⟨b, o + k * 6 + 2, none⟩) hbb).trans (hat.nth 2 rfl)
      have q3 : wr.cell? ⟨b, o + k * 6 + 3, none⟩ = some (.string l[k].name) := (hb.cell (p := ⟨b, o + k * 6 + 3, none⟩) hbb).trans (hat.nth 3 rfl)
      have q4 : wr.cell? ⟨b, o + k * 6 + 4, none⟩ = some (.string l[k].code) := (hb.cell (p := ⟨b, o + k * 6 + 4, none⟩) hbb).trans (hat.nth 4 rfl)
      have q5 : wr.cell? ⟨b, o + k * 6 + 5, none⟩ = some (.int .i64 l[k].n) := (hb.cell (p := ⟨b, o + k * 6 + 5, none⟩) hbb).trans (hat.nth 5 rfl)
      clear hat hd hri
      have hst := Lib.hid (show jF (l.drop k) id k = if l[k].id == id then (k : Int) else jF (l.drop (k + 1)) id (k + 1) by rw [List.drop_eq_getElem_cons hlt, jF])
      cases hid : (l[k].id == id) with
      | true =>
        have hf := Lib.hid (show (k : Int) = dn l id by rw [he'.out, hst.out, hid]; rfl)
        go_wp2_with fail
        go_ret
        exact ⟨cu hf.out, by first | exact hb | exact hb.alloc (by omega) _⟩
      | false =>
        have hf := Lib.hid (show dn l id = jF (l.drop (k + 1)) id (k + 1) by rw [he'.out, hst.out, hid]; rfl)
        go_wp2_with fail
        go_roundw
        case rel => exact ⟨k + 1, by omega, by go_num, hf.out, by first | exact hro | exact hro.below ((Below.refl _ _).alloc (Nat.le_refl _) _), by first | exact hb | exact hb.alloc (by omega) _⟩
        case measure => (simp [intOf] <;> omega)
    · have hf := Lib.hid (show (-1 : Int) = dn l id by rw [he'.out, List.drop_eq_nil_of_le (by omega)]; rfl)
      go_wp2_with fail
      go_ret
      exact ⟨cu hf.out, hb⟩

theorem wfs_get {l : List GCell} (h : D.wfs (l.map GCell.toD)) {k : Nat} (hk : k < l.length) : (l[k]).toD.wf := D.wfs_get h (List.mem_map_of_mem (f := GCell.toD) (List.getElem_mem hk))

set_option maxHeartbeats 4000000 in
theorem sO (l : List GCell) (fp : List Nat) (v : Value) (w : World) (hS : Sl w (l.map GCell.toD) fp v) (hw : D.wfs (l.map GCell.toD)) : Calls Try.prog 9 #[.agg #[v]] w (yC (.bool (dH l)) w) := by
  have hI : ∀ (wx : World) (id : Int), Below w.heap.size w wx → Calls Try.prog 11 #[.agg #[v], .int .i64 id] wx (yC (.int .i64 (dn l id)) wx) := fun wx id h => tN l id fp v wx (hS.below h)
  obtain ⟨A, c, rfl, hl, hc⟩ := hS.rV
  have hm : l.length ≤ 9223372036854775807 := by unfold maxLen at hc; omega
  clear hl hc
  go_enter Try.func9, Try.ntmps9
  go_wp2_with fail
  go_loopw [8] (fun iv wr => ∃ k : Nat, k ≤ l.length ∧ iv = .int .i64 k ∧ fC l l 0 = fC l (l.drop k) k ∧ Row wr w.heap.size 26 [.slice A l.length c] ∧ Below w.heap.size w wr) (fun iv _ => l.length - (intOf iv).toNat)
  case atStart => exact ⟨0, by omega, rfl, rfl, Row.new _ _ _, (Below.refl _ _).alloc (Nat.le_refl _) _⟩
  case round =>
    obtain ⟨k, hk, rfl, he, hro, hb⟩ := hrel
    have he' := Lib.hid he
    clear he
    have kk := hro.cell
    have hz := hro.lt
    by_cases hlt : k < l.length
    · have hd : (l.map GCell.toD)[k]? = some (GCell.toD l[k]) := by rw [List.getElem?_map, List.getElem?_eq_getElem hlt]; rfl
      obtain ⟨b, o, fi, ci, rfl, hbb, hbf, hri, hfi, hat⟩ := hS.elem GCell.szs hd
      obtain ⟨rfl, rfl⟩ := GCell.opened.1 hri
      have q0 : wr.cell? ⟨b, o + k * 6, none⟩ = some (.int .i64 l[k].id) := (hb.cell (p := ⟨b, o + k * 6, none⟩) hbb).trans (hat.head)
      have q1 : wr.cell? ⟨b, o + k * 6 + 1, none⟩ = some (.int .i64 l[k].ver) := (hb.cell (p := ⟨b, o + k * 6 + 1, none⟩) hbb).trans (hat.nth 1 rfl)
      have q2 : wr.cell? ⟨b, o + k * 6 + 2, none⟩ = some (.int .i64 l[k].kind) := (hb.cell (p := ⟨b, o + k * 6 + 2, none⟩) hbb).trans (hat.nth 2 rfl)
      have q3 : wr.cell? ⟨b, o + k * 6 + 3, none⟩ = some (.string l[k].name) := (hb.cell (p := ⟨b, o + k * 6 + 3, none⟩) hbb).trans (hat.nth 3 rfl)
      have q4 : wr.cell? ⟨b, o + k * 6 + 4, none⟩ = some (.string l[k].code) := (hb.cell (p := ⟨b, o + k * 6 + 4, none⟩) hbb).trans (hat.nth 4 rfl)
      have q5 : wr.cell? ⟨b, o + k * 6 + 5, none⟩ = some (.int .i64 l[k].n) := (hb.cell (p := ⟨b, o + k * 6 + 5, none⟩) hbb).trans (hat.nth 5 rfl)
      clear hat hd hri
      have hst := Lib.hid (show fC l (l.drop k) k = (dw l[k] && (dn l l[k].id == (k : Int)) && fC l (l.drop (k + 1)) (k + 1)) by rw [List.drop_eq_getElem_cons hlt, fC])
      have hV := fun wx => qQ l[k] (wfs_get hw hlt) wx
      go_wp2_with fail
      refine (hV _).mono ?_
      clear hV
      cases hc1 : dw l[k] with
      | false =>
        have hf := Lib.hid (show false = dH l by unfold dH; rw [he'.out, hst.out, hc1]; rfl)
        rintro e w1 ⟨rfl, hb1⟩
        go_wp2_with fail
        go_ret
        exact ⟨bU hf.out, (hb.alloc (by omega) _).trans (hb1.mono (by simp; omega))⟩
      | true =>
        rintro e w1 ⟨rfl, hb1⟩
        obtain ⟨hr1, hz1, L1⟩ := yN hb1
        have r1 := hro.below L1
        have k1 := hr1.cell
        have k2 := r1.cell
        have B1 : Below w.heap.size w w1 := hb.trans (L1.mono (by omega))
        go_wp2_with fail
        refine (hI _ _ B1).mono ?_
        cases hc2 : (dn l l[k].id == (k : Int)) with
        | false =>
          have hf := Lib.hid (show false = dH l by unfold dH; rw [he'.out, hst.out, hc1, hc2]; rfl)
          have hne : (dn l l[k].id != (k : Int)) = true := by simp [bne, hc2]
          generalize dn l l[k].id = ix at *
          clear hc2
          rintro e w2 ⟨rfl, hb2⟩
          go_wp2_with fail
          go_ret
          exact ⟨bU hf.out, B1.trans (hb2.mono (by have := B1.size; omega))⟩
        | true =>
          have hf := Lib.hid (show fC l l 0 = fC l (l.drop (k + 1)) (k + 1) by rw [he'.out, hst.out, hc1, hc2]; rfl)
          have hne : (dn l l[k].id != (k : Int)) = false := by simp [bne, hc2]
          generalize dn l l[k].id = ix at *
          clear hc2
          rintro e w2 ⟨rfl, hb2⟩
          go_wp2_with fail
          go_roundw
          case rel => exact ⟨k + 1, by omega, by go_num, hf.out, r1.below hb2, B1.trans (hb2.mono (by have := B1.size; omega))⟩
          case measure => (simp [intOf] <;> omega)
    · have hf := Lib.hid (show decide ((l.length : Int) ≤ 8) = dH l by unfold dH; rw [he'.out, List.drop_eq_nil_of_le (by omega)]; rfl)
      go_wp2_with fail
      go_ret
      exact ⟨bU hf.out, hb⟩
set_option maxHeartbeats 4000000 in
theorem sN (l : List GCell) (fp : List Nat) (v : Value) (w : World) (hS : Sl w (l.map GCell.toD) fp v) (hw : D.wfs (l.map GCell.toD)) : Calls Try.prog 10 #[.agg #[v]] w (yC (.bool (dH l)) w) := by
  have hI : ∀ (wx : World) (id : Int), Below w.heap.size w wx → Calls Try.prog 24 #[.agg #[v], .int .i64 id] wx (yC (.int .i64 (dn l id)) wx) := fun wx id h => tK l id fp v wx (hS.below h)
  obtain ⟨A, c, rfl, hl, hc⟩ := hS.rV
  have hm : l.length ≤ 9223372036854775807 := by unfold maxLen at hc; omega
  clear hl hc
  go_enter Try.func10, Try.ntmps10
  go_wp2_with fail
  go_loopw [3] (fun iv wr => ∃ k : Nat, k ≤ l.length ∧ iv = .int .i64 k ∧ fC l l 0 = fC l (l.drop k) k ∧ Row wr w.heap.size 26 [.slice A l.length c] ∧ Below w.heap.size w wr) (fun iv _ => l.length - (intOf iv).toNat)
  case atStart => exact ⟨0, by omega, rfl, rfl, Row.new _ _ _, (Below.refl _ _).alloc (Nat.le_refl _) _⟩
  case round =>
    obtain ⟨k, hk, rfl, he, hro, hb⟩ := hrel
    have he' := Lib.hid he
    clear he
    have kk := hro.cell
    have hz := hro.lt
    by_cases hlt : k < l.length
    · have hd : (l.map GCell.toD)[k]? = some (GCell.toD l[k]) := by rw [List.getElem?_map, List.getElem?_eq_getElem hlt]; rfl
      obtain ⟨b, o, fi, ci, rfl, hbb, hbf, hri, hfi, hat⟩ := hS.elem GCell.szs hd
      obtain ⟨rfl, rfl⟩ := GCell.opened.1 hri
      have q0 : wr.cell? ⟨b, o + k * 6, none⟩ = some (.int .i64 l[k].id) := (hb.cell (p := ⟨b, o + k * 6, none⟩) hbb).trans (hat.head)
      have q1 : wr.cell? ⟨b, o + k * 6 + 1, none⟩ = some (.int .i64 l[k].ver) := (hb.cell (p := ⟨b, o + k * 6 + 1, none⟩) hbb).trans (hat.nth 1 rfl)
      have q2 : wr.cell? ⟨b, o + k * 6 + 2, none⟩ = some (.int .i64 l[k].kind) := (hb.cell (p := ⟨b, o + k * 6 + 2, none⟩) hbb).trans (hat.nth 2 rfl)
      have q3 : wr.cell? ⟨b, o + k * 6 + 3, none⟩ = some (.string l[k].name) := (hb.cell (p := ⟨b, o + k * 6 + 3, none⟩) hbb).trans (hat.nth 3 rfl)
      have q4 : wr.cell? ⟨b, o + k * 6 + 4, none⟩ = some (.string l[k].code) := (hb.cell (p := ⟨b, o + k * 6 + 4, none⟩) hbb).trans (hat.nth 4 rfl)
      have q5 : wr.cell? ⟨b, o + k * 6 + 5, none⟩ = some (.int .i64 l[k].n) := (hb.cell (p := ⟨b, o + k * 6 + 5, none⟩) hbb).trans (hat.nth 5 rfl)
      clear hat hd hri
      have hst := Lib.hid (show fC l (l.drop k) k = (dw l[k] && (dn l l[k].id == (k : Int)) && fC l (l.drop (k + 1)) (k + 1)) by rw [List.drop_eq_getElem_cons hlt, fC])
      have hV := fun wx => qP l[k] (wfs_get hw hlt) wx
      have hbr : b < wr.heap.size := Nat.lt_of_lt_of_le hbb hb.size
      have hi1 : 0 ≤ (k : Int) := by omega
      have hi2 : (k : Int) < l.length := by omega
      cases hc1 : dw l[k] with
      | false =>
        have hf := Lib.hid (show false = dH l by unfold dH; rw [he'.out, hst.out, hc1]; rfl)
        rw [hc1] at hV
        clear hc1
        go_wp2_with fail
        refine wp_region_held_drew (S := (fun w' => w'.cell? ⟨w.heap.size, 0, none⟩ = some (.slice (some ⟨b, o, none⟩) l.length c) ∧ w'.cell? ⟨b, o + k * 6, none⟩ = some (.int .i64 l[k].id) ∧ w'.cell? ⟨b, o + k * 6 + 1, none⟩ = some (.int .i64 l[k].ver) ∧ w'.cell? ⟨b, o + k * 6 + 2, none⟩ = some (.int .i64 l[k].kind) ∧ w'.cell? ⟨b, o + k * 6 + 3, none⟩ = some (.string l[k].name) ∧ w'.cell? ⟨b, o + k * 6 + 4, none⟩ = some (.string l[k].code) ∧ w'.cell? ⟨b, o + k * 6 + 5, none⟩ = some (.int .i64 l[k].n))) (by kernel_rfl) ?_ (fun hHeld => ?_)
        · go_keep
        refine wpAnyH_take (i := 0) (v := ?_) rfl (by kernel_rfl) (by kernel_rfl) (by kernel_rfl) (fun _ _ _ h => h) (Or.inl ⟨by rfl, ?_⟩) (by assumption) ?_
        rotate_left
        · intro w hSw
          try dsimp only at hSw
          go_simp
          try with_reducible rfl
        try simp only [Act.put, List.getElem_toArray, List.getElem_cons_succ, List.getElem_cons_zero, List.setIfInBounds_toArray, List.set_cons_zero, List.set_cons_succ]
        refine wpAnyH_take (i := 1) (v := ?_) rfl (by kernel_rfl) (by kernel_rfl) (by kernel_rfl) (fun _ _ _ h => h) (Or.inl ⟨by rfl, ?_⟩) (by assumption) ?_
        rotate_left
        · intro w hSw
          try dsimp only at hSw
          go_simp
          try with_reducible rfl
        try simp only [Act.put, List.getElem_toArray, List.getElem_cons_succ, List.getElem_cons_zero, List.setIfInBounds_toArray, List.set_cons_zero, List.set_cons_succ]
        refine wpAnyH_take (i := 2) (v := ?_) rfl (by kernel_rfl) (by kernel_rfl) (by kernel_rfl) (fun _ _ _ h => h) (Or.inl ⟨by rfl, ?_⟩) (by assumption) ?_
        rotate_left
        · intro w hSw
          try dsimp only at hSw
          go_simp
          try with_reducible rfl
        try simp only [Act.put, List.getElem_toArray, List.getElem_cons_succ, List.getElem_cons_zero, List.setIfInBounds_toArray, List.set_cons_zero, List.set_cons_succ]
        refine wpAnyH_take (i := 3) (v := ?_) rfl (by kernel_rfl) (by kernel_rfl) (by kernel_rfl) (fun _ _ _ h => h) (Or.inl ⟨by rfl, ?_⟩) (by assumption) ?_
        rotate_left
        · intro w hSw
          try dsimp only at hSw
          go_simp
          try with_reducible rfl
        try simp only [Act.put, List.getElem_toArray, List.getElem_cons_succ, List.getElem_cons_zero, List.setIfInBounds_toArray, List.set_cons_zero, List.set_cons_succ]
        refine wpAnyH_take (i := 4) (v := ?_) rfl (by kernel_rfl) (by kernel_rfl) (by kernel_rfl) (fun _ _ _ h => h) (Or.inl ⟨by rfl, ?_⟩) (by assumption) ?_
        rotate_left
        · intro w hSw
          try dsimp only at hSw
          go_simp
          try with_reducible rfl
        try simp only [Act.put, List.getElem_toArray, List.getElem_cons_succ, List.getElem_cons_zero, List.setIfInBounds_toArray, List.set_cons_zero, List.set_cons_succ]
        refine wpAnyH_ready (rs := [5]) (by kernel_rfl) (by simp) ?_
        refine AllReadyH.cons rfl (fun K hK => ?_) AllReadyH.nil
        go_simp
        refine (hV _).mono ?_
        rintro e w1 ⟨rfl, hb1⟩
        have L1 : Below wr.heap.size wr w1 := (Below.refl _ _).drew.trans hb1
        have r1 := hro.below L1
        have k1 := r1.cell
        have c1 : ∀ o, w1.cell? ⟨b, o, none⟩ = wr.cell? ⟨b, o, none⟩ := fun o => L1.cell (p := ⟨b, o, none⟩) hbr
        have B1 : Below w.heap.size w w1 := hb.trans (L1.mono (by omega))
        refine hK.out _ _ ?_ (fun hHeld1 => ?_)
        · go_keep
        clear hK K
        try simp only [Act.put, List.getElem_toArray, List.getElem_cons_succ, List.getElem_cons_zero, List.setIfInBounds_toArray, List.set_cons_zero, List.set_cons_succ]
        refine wpAnyH_take (i := 6) (v := ?_) rfl (by kernel_rfl) (by kernel_rfl) (by kernel_rfl) (fun _ _ _ h => h) (Or.inl ⟨by rfl, ?_⟩) (by assumption) ?_
        rotate_left
        · intro w hSw
          try dsimp only at hSw
          go_simp
          try with_reducible rfl
        try simp only [Act.put, List.getElem_toArray, List.getElem_cons_succ, List.getElem_cons_zero, List.setIfInBounds_toArray, List.set_cons_zero, List.set_cons_succ]
        refine wpAnyH_take (i := 7) (v := ?_) rfl (by kernel_rfl) (by kernel_rfl) (by kernel_rfl) (fun _ _ _ h => h) (Or.inl ⟨by rfl, ?_⟩) (by assumption) ?_
        rotate_left
        · intro w hSw
          try dsimp only at hSw
          go_simp
          try with_reducible rfl
        try simp only [Act.put, List.getElem_toArray, List.getElem_cons_succ, List.getElem_cons_zero, List.setIfInBounds_toArray, List.set_cons_zero, List.set_cons_succ]
        refine wpAnyH_take (i := 8) (v := undef) rfl (by kernel_rfl) (by kernel_rfl) (by kernel_rfl) (fun _ _ _ h => h) (Or.inr ⟨by rfl, rfl⟩) (by assumption) ?_
        try simp only [Act.put, List.getElem_toArray, List.getElem_cons_succ, List.getElem_cons_zero, List.setIfInBounds_toArray, List.set_cons_zero, List.set_cons_succ]
        refine wpAnyH_take (i := 9) (v := undef) rfl (by kernel_rfl) (by kernel_rfl) (by kernel_rfl) (fun _ _ _ h => h) (Or.inr ⟨by rfl, rfl⟩) (by assumption) ?_
        try simp only [Act.put, List.getElem_toArray, List.getElem_cons_succ, List.getElem_cons_zero, List.setIfInBounds_toArray, List.set_cons_zero, List.set_cons_succ]
        refine wpAnyH_take (i := 10) (v := undef) rfl (by kernel_rfl) (by kernel_rfl) (by kernel_rfl) (fun _ _ _ h => h) (Or.inr ⟨by rfl, rfl⟩) (by assumption) ?_
        try simp only [Act.put, List.getElem_toArray, List.getElem_cons_succ, List.getElem_cons_zero, List.setIfInBounds_toArray, List.set_cons_zero, List.set_cons_succ]
        refine wpAnyH_take (i := 11) (v := undef) rfl (by kernel_rfl) (by kernel_rfl) (by kernel_rfl) (fun _ _ _ h => h) (Or.inr ⟨by rfl, rfl⟩) (by assumption) ?_
        try simp only [Act.put, List.getElem_toArray, List.getElem_cons_succ, List.getElem_cons_zero, List.setIfInBounds_toArray, List.set_cons_zero, List.set_cons_succ]
        refine wpAnyH_take (i := 12) (v := undef) rfl (by kernel_rfl) (by kernel_rfl) (by kernel_rfl) (fun _ _ _ h => h) (Or.inr ⟨by rfl, rfl⟩) (by assumption) ?_
        try simp only [Act.put, List.getElem_toArray, List.getElem_cons_succ, List.getElem_cons_zero, List.setIfInBounds_toArray, List.set_cons_zero, List.set_cons_succ]
        refine wpAnyH_take (i := 13) (v := undef) rfl (by kernel_rfl) (by kernel_rfl) (by kernel_rfl) (fun _ _ _ h => h) (Or.inr ⟨by rfl, rfl⟩) (by assumption) ?_
        try simp only [Act.put, List.getElem_toArray, List.getElem_cons_succ, List.getElem_cons_zero, List.setIfInBounds_toArray, List.set_cons_zero, List.set_cons_succ]
        refine wpAnyH_take (i := 14) (v := undef) rfl (by kernel_rfl) (by kernel_rfl) (by kernel_rfl) (fun _ _ _ h => h) (Or.inr ⟨by rfl, rfl⟩) (by assumption) ?_
        try simp only [Act.put, List.getElem_toArray, List.getElem_cons_succ, List.getElem_cons_zero, List.setIfInBounds_toArray, List.set_cons_zero, List.set_cons_succ]
        refine wpAnyH_take (i := 15) (v := undef) rfl (by kernel_rfl) (by kernel_rfl) (by kernel_rfl) (fun _ _ _ h => h) (Or.inr ⟨by rfl, rfl⟩) (by assumption) ?_
        try simp only [Act.put, List.getElem_toArray, List.getElem_cons_succ, List.getElem_cons_zero, List.setIfInBounds_toArray, List.set_cons_zero, List.set_cons_succ]
        refine wpAnyH_take (i := 16) (v := undef) rfl (by kernel_rfl) (by kernel_rfl) (by kernel_rfl) (fun _ _ _ h => h) (Or.inr ⟨by rfl, rfl⟩) (by assumption) ?_
        try simp only [Act.put, List.getElem_toArray, List.getElem_cons_succ, List.getElem_cons_zero, List.setIfInBounds_toArray, List.set_cons_zero, List.set_cons_succ]
        refine wpAnyH_take (i := 17) (v := undef) rfl (by kernel_rfl) (by kernel_rfl) (by kernel_rfl) (fun _ _ _ h => h) (Or.inr ⟨by rfl, rfl⟩) (by assumption) ?_
        try simp only [Act.put, List.getElem_toArray, List.getElem_cons_succ, List.getElem_cons_zero, List.setIfInBounds_toArray, List.set_cons_zero, List.set_cons_succ]
        refine wpAnyH_take (i := 18) (v := ?_) rfl (by kernel_rfl) (by kernel_rfl) (by kernel_rfl) (fun _ _ _ h => h) (Or.inl ⟨by rfl, ?_⟩) (by assumption) ?_
        rotate_left
        · intro w hSw
          try dsimp only at hSw
          go_simp
          try with_reducible rfl
        try simp only [Act.put, List.getElem_toArray, List.getElem_cons_succ, List.getElem_cons_zero, List.setIfInBounds_toArray, List.set_cons_zero, List.set_cons_succ]
        refine wpAnyH_done (by kernel_rfl) ?_ _
        go_wp2_with fail
        go_ret
        exact ⟨bU hf.out, B1⟩
      | true =>
        rw [hc1] at hV
        cases hc2 : (dn l l[k].id == (k : Int)) with
        | false =>
          have hf := Lib.hid (show false = dH l by unfold dH; rw [he'.out, hst.out, hc1, hc2]; rfl)
          have hne : (dn l l[k].id != (k : Int)) = true := by simp [bne, hc2]
          clear hc1 hc2
          go_wp2_with fail
          go_region_held3 (fun w' => w'.cell? ⟨w.heap.size, 0, none⟩ = some (.slice (some ⟨b, o, none⟩) l.length c) ∧ w'.cell? ⟨b, o + k * 6, none⟩ = some (.int .i64 l[k].id) ∧ w'.cell? ⟨b, o + k * 6 + 1, none⟩ = some (.int .i64 l[k].ver) ∧ w'.cell? ⟨b, o + k * 6 + 2, none⟩ = some (.int .i64 l[k].kind) ∧ w'.cell? ⟨b, o + k * 6 + 3, none⟩ = some (.string l[k].name) ∧ w'.cell? ⟨b, o + k * 6 + 4, none⟩ = some (.string l[k].code) ∧ w'.cell? ⟨b, o + k * 6 + 5, none⟩ = some (.int .i64 l[k].n)) (go_keep)
            (first | (go_at_call 32; refine (hV _).mono ?_; rintro e w1 ⟨rfl, hb1⟩; have L1 : Below wr.heap.size wr w1 := (Below.refl _ _).drew.trans hb1; have r1 := hro.below L1; have k1 := r1.cell; have c1 : ∀ o, w1.cell? ⟨b, o, none⟩ = wr.cell? ⟨b, o, none⟩ := fun o => L1.cell (p := ⟨b, o, none⟩) hbr; have B1 : Below w.heap.size w w1 := hb.trans (L1.mono (by omega))) | (go_at_call 24; refine (hI _ _ B1).mono ?_; rintro e w2 ⟨rfl, hb2⟩; have r2 := r1.below hb2; have k2 := r2.cell; have c2 : ∀ o, w2.cell? ⟨b, o, none⟩ = w1.cell? ⟨b, o, none⟩ := fun o => hb2.cell (p := ⟨b, o, none⟩) (Nat.lt_of_lt_of_le hbr L1.size); have B2 : Below w.heap.size w w2 := B1.trans (hb2.mono (by have := B1.size; omega))))
          go_wp2_with fail
          go_ret
          exact ⟨bU hf.out, B2⟩
        | true =>
          have hf := Lib.hid (show fC l l 0 = fC l (l.drop (k + 1)) (k + 1) by rw [he'.out, hst.out, hc1, hc2]; rfl)
          have hne : (dn l l[k].id != (k : Int)) = false := by simp [bne, hc2]
          clear hc1 hc2
          go_wp2_with fail
          go_region_held3 (fun w' => w'.cell? ⟨w.heap.size, 0, none⟩ = some (.slice (some ⟨b, o, none⟩) l.length c) ∧ w'.cell? ⟨b, o + k * 6, none⟩ = some (.int .i64 l[k].id) ∧ w'.cell? ⟨b, o + k * 6 + 1, none⟩ = some (.int .i64 l[k].ver) ∧ w'.cell? ⟨b, o + k * 6 + 2, none⟩ = some (.int .i64 l[k].kind) ∧ w'.cell? ⟨b, o + k * 6 + 3, none⟩ = some (.string l[k].name) ∧ w'.cell? ⟨b, o + k * 6 + 4, none⟩ = some (.string l[k].code) ∧ w'.cell? ⟨b, o + k * 6 + 5, none⟩ = some (.int .i64 l[k].n)) (go_keep)
            (first | (go_at_call 32; refine (hV _).mono ?_; rintro e w1 ⟨rfl, hb1⟩; have L1 : Below wr.heap.size wr w1 := (Below.refl _ _).drew.trans hb1; have r1 := hro.below L1; have k1 := r1.cell; have c1 : ∀ o, w1.cell? ⟨b, o, none⟩ = wr.cell? ⟨b, o, none⟩ := fun o => L1.cell (p := ⟨b, o, none⟩) hbr; have B1 : Below w.heap.size w w1 := hb.trans (L1.mono (by omega))) | (go_at_call 24; refine (hI _ _ B1).mono ?_; rintro e w2 ⟨rfl, hb2⟩; have r2 := r1.below hb2; have k2 := r2.cell; have c2 : ∀ o, w2.cell? ⟨b, o, none⟩ = w1.cell? ⟨b, o, none⟩ := fun o => hb2.cell (p := ⟨b, o, none⟩) (Nat.lt_of_lt_of_le hbr L1.size); have B2 : Below w.heap.size w w2 := B1.trans (hb2.mono (by have := B1.size; omega))))
          go_wp2_with fail
          go_roundw
          case rel => exact ⟨k + 1, by omega, by go_num, hf.out, r2, B2⟩
          case measure => (simp [intOf] <;> omega)
    · have hf := Lib.hid (show decide ((l.length : Int) ≤ 8) = dH l by unfold dH; rw [he'.out, List.drop_eq_nil_of_le (by omega)]; rfl)
      go_wp2_with fail
      go_ret
      exact ⟨bU hf.out, hb⟩
end Go.Proofs.Ytnongnchpplacaa

namespace Go.Proofs.Ytnongnchpplacaa
open Go.RowKit
set_option linter.unusedSimpArgs false
set_option linter.unusedVariables false

def GCell.cs (x : GCell) : List Value := [.int .i64 x.id, .int .i64 x.ver, .int .i64 x.kind, .string x.name, .string x.code, .int .i64 x.n]
def cellsOf (l : List GCell) : List Value := l.flatMap GCell.cs
theorem Ce {w : World} : ∀ {l : List GCell} {fp : List Nat} {cs : List Value}, Rs w (l.map GCell.toD) fp cs ↔ fp = [] ∧ cs = cellsOf l
  | [], fp, cs => by rw [List.map_nil, Rs]; rfl
  | x :: l, fp, cs => by
    rw [List.map_cons, Rs]
    constructor
    · rintro ⟨f1, f2, c1, c2, rfl, rfl, h1, h2⟩
      obtain ⟨rfl, rfl⟩ := GCell.opened.1 h1
      obtain ⟨rfl, rfl⟩ := Ce.1 h2
      exact ⟨rfl, rfl⟩
    · rintro ⟨rfl, rfl⟩
      exact ⟨[], [], x.cs, cellsOf l, rfl, rfl, GCell.opened.2 ⟨rfl, rfl⟩, Ce.2 ⟨rfl, rfl⟩⟩
deriving instance DecidableEq for GCell
theorem OB {a b : ByteArray} : a.toList = b.toList ↔ a = b := by
  rw [ByteArray.toList_eq, ByteArray.toList_eq]
  constructor
  · intro h
    have : a.data = b.data := Array.toList_inj.1 h
    cases a; cases b; simp_all
  · rintro rfl; rfl
set_option maxHeartbeats 1000000 in
theorem TW (x y : GCell) (w : World) : (binOp .neq 31 (.agg #[.int .i64 x.id, .int .i64 x.ver, .int .i64 x.kind, .string x.name, .string x.code, .int .i64 x.n]) (.agg #[.int .i64 y.id, .int .i64 y.ver, .int .i64 y.kind, .string y.name, .string y.code, .int .i64 y.n])).run Try.prog w = .ok (.bool (!decide (x = y))) w := by
  go_simp
  simp only [OB]
  cases x; cases y
  simp
  repeat' split
  all_goals simp_all
def UZ (w : World) (base : Nat) (l : List GCell) (v : Value) : Prop := w.ownsRow base 31 6 v l.length (cellsOf l)
theorem UZ.sl {w : World} {base : Nat} {l : List GCell} {v : Value} (h : UZ w base l v) : Sl w (l.map GCell.toD) v.ownBlock.toList v := by
  have h' : w.ownsRow base 31 6 v (l.map GCell.toD).length (cellsOf l) := by rw [List.length_map]; exact h
  have := Sl.of_own h' (Ce.2 ⟨rfl, rfl⟩)
  rwa [List.append_nil] at this
theorem GCell.one (x : GCell) : x.toD.one := by simp [GCell.aN, D.one, D.ones, li, ls, Value.oneCell']
theorem GCell.ones {l : List GCell} : ∀ d ∈ l.map GCell.toD, d.one := fun d h => by obtain ⟨x, _, rfl⟩ := List.mem_map.1 h; exact x.one

theorem UZ.lit {w : World} {base g : Nat} (hg : w.heap.size = g) (hb : base ≤ g) : UZ (w.alloc (.cells #[] 31)) base [] (.slice (some ⟨g, 0, none⟩) 0 0) := by
  subst hg
  exact World.ownsRow_lit w #[] 0 hb (by simp) rfl

theorem QB {l l' : List GCell} {k : Nat} (h1 : k < l.length) (h2 : k < l'.length) (h : l[k] ≠ l'[k]) : l ≠ l' := fun e => by
  subst e
  exact h rfl
theorem Nj {l l' : List GCell} {k : Nat} (h1 : k < l.length) (h2 : k < l'.length) (ht : l.take k = l'.take k) (h : l[k] = l'[k]) : l.take (k + 1) = l'.take (k + 1) := by
  rw [List.take_succ_eq_append_getElem h1, List.take_succ_eq_append_getElem h2, ht, h]

set_option maxHeartbeats 2000000 in
theorem vM (l l' : List GCell) (fp fp' : List Nat) (v v' : Value) (w : World) (hS1 : Sl w (l.map GCell.toD) fp v) (hS2 : Sl w (l'.map GCell.toD) fp' v') (hn : l.length ≤ 1048576) :
    Calls Try.prog 16 #[.agg #[v], .agg #[v']] w (yC (.bool (decide (l = l'))) w) := by
  obtain ⟨A, c, rfl, hq1, hq2⟩ := hS1.rV
  obtain ⟨A', c', rfl, hq3, hq4⟩ := hS2.rV
  clear hq1 hq2 hq3 hq4
  by_cases hlen : l.length = l'.length
  · have hb0 : ((l.length : Int) != (l'.length : Int)) = false := by simp [hlen]
    have hlen' := Lib.hid hlen
    clear hlen
    go_enter Try.func16, Try.ntmps16
    go_wp2_with fail
    go_loopw [5] (fun iv wr => ∃ k : Nat, k ≤ l.length ∧ iv = .int .i64 k ∧ l.take k = l'.take k ∧ Row wr w.heap.size 26 [.slice A l.length c] ∧ Row wr (w.heap.size + 1) 26 [.slice A' l'.length c'] ∧ Below w.heap.size w wr) (fun iv _ => l.length - (intOf iv).toNat)
    case atStart =>
      obtain ⟨r0, r1, _, hB⟩ := VX (Below.refl _ ((w.alloc (.cells #[.slice A l.length c] 26)).alloc (.cells #[.slice A' l'.length c'] 26)))
      exact ⟨0, by omega, rfl, by simp, r0, r1, hB⟩
    case round =>
      obtain ⟨k, hk, rfl, hte, hro0, hro1, hb⟩ := hrel
      have kk0 := hro0.cell
      have kk1 := hro1.cell
      have hte' := Lib.hid hte
      clear hte
      by_cases hlt : k < l.length
      · have hlt2 : k < l'.length := by have := hlen'.out; omega
        have hi1 : 0 ≤ (k : Int) := by omega
        have hi2 : (k : Int) < l.length := by omega
        have hi3 : (k : Int) < l'.length := by omega
        have hd1 : (l.map GCell.toD)[k]? = some (GCell.toD l[k]) := by rw [List.getElem?_map, List.getElem?_eq_getElem hlt]; rfl
        have hd2 : (l'.map GCell.toD)[k]? = some (GCell.toD l'[k]) := by rw [List.getElem?_map, List.getElem?_eq_getElem hlt2]; rfl
        obtain ⟨b1, o1, fi1, ci1, rfl, hbb1, hbf1, hri1, hfi1, hat1⟩ := hS1.elem GCell.szs hd1
        obtain ⟨b2, o2, fi2, ci2, rfl, hbb2, hbf2, hri2, hfi2, hat2⟩ := hS2.elem GCell.szs hd2
        obtain ⟨rfl, rfl⟩ := GCell.opened.1 hri1
        obtain ⟨rfl, rfl⟩ := GCell.opened.1 hri2
        have q10 : wr.cell? ⟨b1, o1 + k * 6, none⟩ = some (.int .i64 l[k].id) := (hb.cell (p := ⟨b1, o1 + k * 6, none⟩) hbb1).trans (hat1.head)
        have q11 : wr.cell? ⟨b1, o1 + k * 6 + 1, none⟩ = some (.int .i64 l[k].ver) := (hb.cell (p := ⟨b1, o1 + k * 6 + 1, none⟩) hbb1).trans (hat1.nth 1 rfl)
        have q12 : wr.cell? ⟨b1, o1 + k * 6 + 2, none⟩ = some (.int .i64 l[k].kind) := (hb.cell (p := ⟨b1, o1 + k * 6 + 2, none⟩) hbb1).trans (hat1.nth 2 rfl)
        have q13 : wr.cell? ⟨b1, o1 + k * 6 + 3, none⟩ = some (.string l[k].name) := (hb.cell (p := ⟨b1, o1 + k * 6 + 3, none⟩) hbb1).trans (hat1.nth 3 rfl)
        have q14 : wr.cell? ⟨b1, o1 + k * 6 + 4, none⟩ = some (.string l[k].code) := (hb.cell (p := ⟨b1, o1 + k * 6 + 4, none⟩) hbb1).trans (hat1.nth 4 rfl)
        have q15 : wr.cell? ⟨b1, o1 + k * 6 + 5, none⟩ = some (.int .i64 l[k].n) := (hb.cell (p := ⟨b1, o1 + k * 6 + 5, none⟩) hbb1).trans (hat1.nth 5 rfl)
        have q20 : wr.cell? ⟨b2, o2 + k * 6, none⟩ = some (.int .i64 l'[k].id) := (hb.cell (p := ⟨b2, o2 + k * 6, none⟩) hbb2).trans (hat2.head)
        have q21 : wr.cell? ⟨b2, o2 + k * 6 + 1, none⟩ = some (.int .i64 l'[k].ver) := (hb.cell (p := ⟨b2, o2 + k * 6 + 1, none⟩) hbb2).trans (hat2.nth 1 rfl)
        have q22 : wr.cell? ⟨b2, o2 + k * 6 + 2, none⟩ = some (.int .i64 l'[k].kind) := (hb.cell (p := ⟨b2, o2 + k * 6 + 2, none⟩) hbb2).trans (hat2.nth 2 rfl)
        have q23 : wr.cell? ⟨b2, o2 + k * 6 + 3, none⟩ = some (.string l'[k].name) := (hb.cell (p := ⟨b2, o2 + k * 6 + 3, none⟩) hbb2).trans (hat2.nth 3 rfl)
        have q24 : wr.cell? ⟨b2, o2 + k * 6 + 4, none⟩ = some (.string l'[k].code) := (hb.cell (p := ⟨b2, o2 + k * 6 + 4, none⟩) hbb2).trans (hat2.nth 4 rfl)
        have q25 : wr.cell? ⟨b2, o2 + k * 6 + 5, none⟩ = some (.int .i64 l'[k].n) := (hb.cell (p := ⟨b2, o2 + k * 6 + 5, none⟩) hbb2).trans (hat2.nth 5 rfl)

        clear hat1 hat2 hd1 hd2 hri1 hri2
        have hneq := TW l[k] l'[k]
        by_cases hxy : l[k] = l'[k]
        · have hde : (!decide (l[k] = l'[k])) = false := by simp [hxy]
          rw [hde] at hneq
          clear hde
          have hxy' := Lib.hid hxy
          clear hxy
          go_wp2_with fail
          go_quiet (fail)
          go_wp2_with fail
          go_roundw
          case rel => exact ⟨k + 1, by omega, by go_num, Nj hlt hlt2 hte'.out hxy'.out, hro0, hro1, tV hb _⟩
          case measure => (simp [intOf] <;> omega)
        · have hde : (!decide (l[k] = l'[k])) = true := by simp [hxy]
          rw [hde] at hneq
          clear hde
          have hf := Lib.hid (show false = decide (l = l') by rw [decide_eq_false (QB hlt hlt2 hxy)])
          clear hxy
          go_wp2_with fail
          go_quiet (fail)
          go_wp2_with fail
          go_ret
          exact ⟨bU hf.out, tV hb _⟩
      · have hf := Lib.hid (show true = decide (l = l') by
          have h1 := hte'.out
          have h2 := hlen'.out
          rw [List.take_of_length_le (by omega), List.take_of_length_le (by omega)] at h1
          rw [decide_eq_true h1])
        go_wp2_with fail
        go_ret
        exact ⟨bU hf.out, hb⟩
  · have hb0 : ((l.length : Int) != (l'.length : Int)) = true := by simp; omega
    have hf := Lib.hid (show false = decide (l = l') by rw [decide_eq_false (fun e => hlen (by rw [e]))])
    clear hlen
    go_enter Try.func16, Try.ntmps16
    go_wp2_with fail
    go_ret
    exact ⟨bU hf.out, ((Below.refl _ _).alloc (by simp) _).alloc (by simp; try omega) _⟩

end Go.Proofs.Ytnongnchpplacaa

namespace Go.Proofs.Ytnongnchpplacaa
open Go.RowKit
set_option linter.unusedSimpArgs false
set_option linter.unusedVariables false

theorem fM {w : World} {l : List GCell} : ∀ (f : List Nat) (cs : List Value), Rs w (l.map GCell.toD) f cs → f = [] := by
  induction l with
  | nil => intro f cs h; exact h.1
  | cons x l ih =>
    intro f cs h
    rw [List.map_cons, Rs] at h
    obtain ⟨f1, f2, c1, c2, rfl, rfl, h1, h2⟩ := h
    rw [(GCell.opened.1 h1).1, ih f2 c2 h2]
    rfl
def oI (l : List GCell) (k : Nat) (c : GCell) : List GCell := l.take k ++ [c] ++ l.drop k
def gQ (l : List GCell) (k : Nat) : List GCell := l.take k ++ l.drop (k + 1)

set_option maxRecDepth 20000 in
set_option maxHeartbeats 2000000 in
theorem EM (l : List GCell) (k : Nat) (fp : List Nat) (v : Value) (w : World) (hS : Sl w (l.map GCell.toD) fp v) (hk : k < l.length) (hn : l.length ≤ 1048576) : Calls Try.prog 58 #[v, .int .i64 k] w (qC ((gQ l k).map GCell.toD) w) := by
  obtain ⟨A, c, rfl, hl, hc⟩ := hS.rV
  have h1 : ∀ w : World, (Instr.slice 24 (.slice A l.length c) none (some (.int .i64 (k : Int))) none).run Try.prog w = .ok (.slice A k c) w := dJ.vk (A := A) k (Nat.le_of_lt hk) hl
  obtain ⟨A2, h2', h2s⟩ := dJ.vg (A := A) (k + 1) hk hl
  have h2 : ∀ w : World, (Instr.slice 24 (.slice A l.length c) (some (.int .i64 ((k : Int) + 1))) none none).run Try.prog w = .ok (.slice A2 (l.length - (k + 1)) (c - (k + 1))) w := h2'
  clear h2'
  obtain ⟨f1, hS1, _⟩ := Sl.take hS (by rw [List.length_map]; omega : k ≤ (l.map GCell.toD).length)
  obtain ⟨f2, hS2, _⟩ := h2s w _ _ GCell.szs hS
  rw [← List.map_take] at hS1
  rw [← List.map_drop] at hS2
  have hk0 : (0 : Int) ≤ (k : Int) := by omega
  have hk1 : (k : Int) + 1 ≤ l.length := by omega
  clear h2s
  have hwr : IntKind.i64.wrap ((k : Int) + 1) = (k : Int) + 1 := IntWalk.i64_in _ (by omega)
  go_enter Try.func58, Try.ntmps58
  go_wp2_with fail
  have tok1 : True := trivial
  go_region_held3 (fun _ => True) (trivial)
    (first
    | (have _t := tok1; refine dB rfl dJ (.tmp 5) (.tmp 8) rfl w.heap.size _ (by rfl) [] [] (iZ.lit (by rfl) (by simp)) ((l.take k).map GCell.toD) [] _ (by rfl) (Src.of_flat (hS1.below ((Below.refl _ _).drew.alloc (by simp) _)) fM) GCell.lu GCell.szs fK gX (by simp; omega) (by simp) ?_; intro v1 w1 ho1 hg1 hat1; have L1 : Below w.heap.size w w1 := eG ((Below.refl _ _).alloc (Nat.le_refl _) _).drew hg1 (by simp) (fun g hg => by simp [Value.ownBlock] at hg; omega); clear tok1)
    | (refine dB rfl dJ (.tmp 9) (.tmp 13) rfl w.heap.size _ (by rfl) _ [] ho1 ((l.drop (k + 1)).map GCell.toD) [] _ (by rfl) (Src.of_flat (hS2.below L1) fM) GCell.lu GCell.szs fK gX (by simp; omega) L1.size ?_; intro v2 w2 ho2 hg2 hat2))
  go_wp2_with fail
  go_ret
  rw [List.nil_append, ← List.map_append] at ho2
  exact ho2.tos (eG L1 hg2 L1.size (fun g hg => (ho1.ge g hg).1))
set_option maxRecDepth 20000 in
set_option maxHeartbeats 2000000 in
theorem E5 (l : List GCell) (k : Nat) (fp : List Nat) (v : Value) (w : World) (hS : Sl w (l.map GCell.toD) fp v) (hk : k < l.length) (hn : l.length ≤ 1048576) : Calls Try.prog 46 #[v, .int .i64 k] w (qC ((gQ l k).map GCell.toD) w) := by
  obtain ⟨A, c, rfl, hl, hc⟩ := hS.rV
  have h1 : ∀ w : World, (Instr.slice 24 (.slice A l.length c) none (some (.int .i64 (k : Int))) none).run Try.prog w = .ok (.slice A k c) w := dJ.vk (A := A) k (Nat.le_of_lt hk) hl
  obtain ⟨A2, h2', h2s⟩ := dJ.vg (A := A) (k + 1) hk hl
  have h2 : ∀ w : World, (Instr.slice 24 (.slice A l.length c) (some (.int .i64 ((k : Int) + 1))) none none).run Try.prog w = .ok (.slice A2 (l.length - (k + 1)) (c - (k + 1))) w := h2'
  clear h2'
  obtain ⟨f1, hS1, _⟩ := Sl.take hS (by rw [List.length_map]; omega : k ≤ (l.map GCell.toD).length)
  obtain ⟨f2, hS2, _⟩ := h2s w _ _ GCell.szs hS
  rw [← List.map_take] at hS1
  rw [← List.map_drop] at hS2
  have hk0 : (0 : Int) ≤ (k : Int) := by omega
  have hk1 : (k : Int) + 1 ≤ l.length := by omega
  clear h2s
  have hwr : IntKind.i64.wrap ((k : Int) + 1) = (k : Int) + 1 := IntWalk.i64_in _ (by omega)
  go_enter Try.func46, Try.ntmps46
  go_wp2_with fail
  have tok1 : True := trivial
  go_region_held3 (fun _ => True) (trivial)
    (first
    | (have _t := tok1; refine dB rfl dJ (.tmp 5) (.tmp 8) rfl w.heap.size _ (by rfl) [] [] (iZ.lit (by rfl) (by simp)) ((l.take k).map GCell.toD) [] _ (by rfl) (Src.of_flat (hS1.below ((Below.refl _ _).drew.alloc (by simp) _)) fM) GCell.lu GCell.szs fK gX (by simp; omega) (by simp) ?_; intro v1 w1 ho1 hg1 hat1; have L1 : Below w.heap.size w w1 := eG ((Below.refl _ _).alloc (Nat.le_refl _) _).drew hg1 (by simp) (fun g hg => by simp [Value.ownBlock] at hg; omega); clear tok1)
    | (refine dB rfl dJ (.tmp 9) (.tmp 13) rfl w.heap.size _ (by rfl) _ [] ho1 ((l.drop (k + 1)).map GCell.toD) [] _ (by rfl) (Src.of_flat (hS2.below L1) fM) GCell.lu GCell.szs fK gX (by simp; omega) L1.size ?_; intro v2 w2 ho2 hg2 hat2))
  go_wp2_with fail
  go_ret
  rw [List.nil_append, ← List.map_append] at ho2
  exact ho2.tos (eG L1 hg2 L1.size (fun g hg => (ho1.ge g hg).1))

def iW (a : Int) (n : Nat) : Nat := (max 0 (min a (n : Int))).toNat
theorem Oy (a : Int) (n : Nat) : iW a n ≤ n := by unfold iW; omega
theorem Oz (a : Int) (n : Nat) : max 0 (min a (n : Int)) = (iW a n : Int) := by unfold iW; omega

set_option maxRecDepth 20000 in
set_option maxHeartbeats 4000000 in
theorem CV (l : List GCell) (a : Int) (x : GCell) (fp : List Nat) (v : Value) (w : World) (hS : Sl w (l.map GCell.toD) fp v) (hn : l.length ≤ 1048576) : Calls Try.prog 57 #[v, .int .i64 a, .agg #[.int .i64 x.id, .int .i64 x.ver, .int .i64 x.kind, .string x.name, .string x.code, .int .i64 x.n]] w (qC ((oI l (iW a l.length) x).map GCell.toD) w) := by
  obtain ⟨A, c, rfl, hl, hc⟩ := hS.rV
  by_cases ha : a ≤ 0
  · have e : iW a l.length = 0 := by unfold iW; omega
    rw [e]
    clear e
    have h1 : ∀ w : World, (Instr.slice 24 (.slice A l.length c) none (some (.int .i64 (0))) none).run Try.prog w = .ok (.slice A (0) c) w := dJ.vk (A := A) (0) (Nat.zero_le _) hl
    obtain ⟨A2, h2', h2s⟩ := dJ.vg (A := A) (0) (Nat.zero_le _) hl
    have h2 : ∀ w : World, (Instr.slice 24 (.slice A l.length c) (some (.int .i64 (0))) none none).run Try.prog w = .ok (.slice A2 (l.length - (0)) (c - (0))) w := h2'
    clear h2'
    obtain ⟨f1, hS1, _⟩ := Sl.take hS (by rw [List.length_map]; exact Nat.zero_le _ : (0) ≤ (l.map GCell.toD).length)
    obtain ⟨f2, hS2, _⟩ := h2s w _ _ GCell.szs hS
    rw [← List.map_take] at hS1
    rw [← List.map_drop] at hS2
    clear h2s
    have tok1 : True := trivial
    have tok2 : True := trivial
    go_enter Try.func57, Try.ntmps57
    go_wp2_with fail
    go_region_held3 (fun w' => w'.cell? ⟨w.heap.size, 0, none⟩ = some (.int .i64 x.id) ∧ w'.cell? ⟨w.heap.size, 1, none⟩ = some (.int .i64 x.ver) ∧ w'.cell? ⟨w.heap.size, 2, none⟩ = some (.int .i64 x.kind) ∧ w'.cell? ⟨w.heap.size, 3, none⟩ = some (.string x.name) ∧ w'.cell? ⟨w.heap.size, 4, none⟩ = some (.string x.code) ∧ w'.cell? ⟨w.heap.size, 5, none⟩ = some (.int .i64 x.n)) (go_keep)
      (first
      | (have _t := tok1; refine dB rfl dJ (.tmp 13) (.tmp 16) rfl (w.heap.size + 1) _ (by rfl) [] [] (by first | exact iZ.lit (by simp) (by simp) | exact (iZ.lit (by simp) (by simp)).below (((Below.refl _ _).alloc (Nat.le_refl _) _).drew)) ((l.take (0)).map GCell.toD) [] _ (by rfl) (Src.of_flat (hS1.below (by repeat' (first | exact Below.refl _ _ | exact Nat.le_refl _ | apply Below.drew | apply Below.alloc | (simp; done) | (simp; omega)))) fM) GCell.lu GCell.szs fK gX (by simp; try omega) (by simp; try omega) ?_; intro v1 w1 ho1 hg1 hat1; have L1 : Below w.heap.size w w1 := eG (by repeat' (first | exact Below.refl _ _ | exact Nat.le_refl _ | apply Below.drew | apply Below.alloc | (simp; done) | (simp; omega))) hg1 (by simp; try omega) (fun g hg => by have h := Option.some.inj hg; try simp at h; omega); have hrB : Row w1 w.heap.size 31 (#[.int .i64 x.id, .int .i64 x.ver, .int .i64 x.kind, .string x.name, .string x.code, .int .i64 x.n] : Array Value).toList := Row.grown (Row.below (Row.new w _ _) (by repeat' (first | exact Below.refl _ _ | exact Nat.le_refl _ | apply Below.drew | apply Below.alloc | (simp; done) | (simp; omega)))) hg1 (fun e => by have h := Option.some.inj e; try dsimp only at h; omega); have kB := hrB.cell; (first | have hrA : Row w1 (w.heap.size + 2) 31 (#[.int .i64 x.id, .int .i64 x.ver, .int .i64 x.kind, .string x.name, .string x.code, .int .i64 x.n] : Array Value).toList := Row.grown (Row.drew (Row.sK (by simp))) hg1 (fun e => by have h := Option.some.inj e; try dsimp only at h; omega) | have hrA : Row w1 (w.heap.size + 1) 31 (#[.int .i64 x.id, .int .i64 x.ver, .int .i64 x.kind, .string x.name, .string x.code, .int .i64 x.n] : Array Value).toList := Row.grown (Row.drew (Row.below (Row.sK (w := w.alloc _) (by simp)) ((Below.refl _ _).alloc (Nat.le_refl _) _))) hg1 (fun e => by have h := Option.some.inj e; try dsimp only at h; omega) | have hrA : True := trivial); clear tok1)
      | (refine dB rfl dJ (.tmp 20) (.tmp 23) rfl (w.heap.size + 1) _ (by rfl) _ [] ho2 ((l.drop (0)).map GCell.toD) [] _ (by rfl) (Src.of_flat (hS2.below L2) fM) GCell.lu GCell.szs fK gX (by simp; try omega) Z2 ?_; intro v3 w3 ho3 hg3 hat3; have hrE : Row w3 w.heap.size 31 (#[.int .i64 x.id, .int .i64 x.ver, .int .i64 x.kind, .string x.name, .string x.code, .int .i64 x.n] : Array Value).toList := Row.grown hrC hg3 (fun e => by have := (ho2.ge _ e.symm).1; omega); have kE := hrE.cell)
      | (have _t := tok2; refine dB rfl dJ (.tmp 17) (.tmp 19) rfl (w.heap.size + 1) _ (by rfl) _ [] (by first | exact ho1 | exact ho1.below ((Below.refl _ _).alloc (Nat.le_refl _) _)) ([x].map GCell.toD) [] _ (by rfl) (by first | exact Src.one hrA (GCell.opened.2 ⟨rfl, rfl⟩) | exact Src.one (Row.new _ _ _) (GCell.opened.2 ⟨rfl, rfl⟩)) GCell.lu GCell.szs fK gX (by simp; try omega) (by first | exact hrB.lt | (have := hrB.lt; simp; omega)) ?_; intro v2 w2 ho2 hg2 hat2; have L2 : Below w.heap.size w w2 := eG (by first | exact L1 | exact L1.alloc L1.size _) hg2 (by first | exact L1.size | (have := L1.size; simp; omega)) (fun g hg => by have := (ho1.ge g hg).1; omega); have hrC : Row w2 w.heap.size 31 (#[.int .i64 x.id, .int .i64 x.ver, .int .i64 x.kind, .string x.name, .string x.code, .int .i64 x.n] : Array Value).toList := Row.grown (by first | exact hrB | exact hrB.below ((Below.refl _ _).alloc (Nat.le_refl _) _)) hg2 (fun e => by have := (ho1.ge _ e.symm).1; omega); have kC := hrC.cell; have Z2 : w.heap.size + 1 ≤ w2.heap.size := hrC.lt; clear tok2))
    all_goals
      go_wp2_with fail
      go_ret
      have hfin := (ho3.mono (base' := w.heap.size) (by omega)).tos (eG L2 hg3 L2.size (fun g hg => by have := (ho2.ge g hg).1; omega))
      rw [List.nil_append, ← List.map_append, ← List.map_append] at hfin
      exact hfin

  · by_cases hb : a ≤ l.length
    · obtain ⟨k, rfl⟩ := Int.eq_ofNat_of_zero_le (show 0 ≤ a by omega)
      have hk : k ≤ l.length := by omega
      have e : iW (k : Int) l.length = k := by unfold iW; omega
      rw [e]
      clear e
      have hk0 : (0 : Int) < (k : Int) := by omega
      have h1 : ∀ w : World, (Instr.slice 24 (.slice A l.length c) none (some (.int .i64 (k : Int))) none).run Try.prog w = .ok (.slice A (k) c) w := dJ.vk (A := A) (k) (hk) hl
      obtain ⟨A2, h2', h2s⟩ := dJ.vg (A := A) (k) (hk) hl
      have h2 : ∀ w : World, (Instr.slice 24 (.slice A l.length c) (some (.int .i64 (k : Int))) none none).run Try.prog w = .ok (.slice A2 (l.length - (k)) (c - (k))) w := h2'
      clear h2'
      obtain ⟨f1, hS1, _⟩ := Sl.take hS (by rw [List.length_map]; exact hk : (k) ≤ (l.map GCell.toD).length)
      obtain ⟨f2, hS2, _⟩ := h2s w _ _ GCell.szs hS
      rw [← List.map_take] at hS1
      rw [← List.map_drop] at hS2
      clear h2s
      have tok1 : True := trivial
      have tok2 : True := trivial
      go_enter Try.func57, Try.ntmps57
      go_wp2_with fail
      go_region_held3 (fun w' => w'.cell? ⟨w.heap.size, 0, none⟩ = some (.int .i64 x.id) ∧ w'.cell? ⟨w.heap.size, 1, none⟩ = some (.int .i64 x.ver) ∧ w'.cell? ⟨w.heap.size, 2, none⟩ = some (.int .i64 x.kind) ∧ w'.cell? ⟨w.heap.size, 3, none⟩ = some (.string x.name) ∧ w'.cell? ⟨w.heap.size, 4, none⟩ = some (.string x.code) ∧ w'.cell? ⟨w.heap.size, 5, none⟩ = some (.int .i64 x.n)) (go_keep)
        (first
        | (have _t := tok1; refine dB rfl dJ (.tmp 13) (.tmp 16) rfl (w.heap.size + 1) _ (by rfl) [] [] (by first | exact iZ.lit (by simp) (by simp) | exact (iZ.lit (by simp) (by simp)).below (((Below.refl _ _).alloc (Nat.le_refl _) _).drew)) ((l.take (k)).map GCell.toD) [] _ (by rfl) (Src.of_flat (hS1.below (by repeat' (first | exact Below.refl _ _ | exact Nat.le_refl _ | apply Below.drew | apply Below.alloc | (simp; done) | (simp; omega)))) fM) GCell.lu GCell.szs fK gX (by simp; try omega) (by simp; try omega) ?_; intro v1 w1 ho1 hg1 hat1; have L1 : Below w.heap.size w w1 := eG (by repeat' (first | exact Below.refl _ _ | exact Nat.le_refl _ | apply Below.drew | apply Below.alloc | (simp; done) | (simp; omega))) hg1 (by simp; try omega) (fun g hg => by have h := Option.some.inj hg; try simp at h; omega); have hrB : Row w1 w.heap.size 31 (#[.int .i64 x.id, .int .i64 x.ver, .int .i64 x.kind, .string x.name, .string x.code, .int .i64 x.n] : Array Value).toList := Row.grown (Row.below (Row.new w _ _) (by repeat' (first | exact Below.refl _ _ | exact Nat.le_refl _ | apply Below.drew | apply Below.alloc | (simp; done) | (simp; omega)))) hg1 (fun e => by have h := Option.some.inj e; try dsimp only at h; omega); have kB := hrB.cell; (first | have hrA : Row w1 (w.heap.size + 2) 31 (#[.int .i64 x.id, .int .i64 x.ver, .int .i64 x.kind, .string x.name, .string x.code, .int .i64 x.n] : Array Value).toList := Row.grown (Row.drew (Row.sK (by simp))) hg1 (fun e => by have h := Option.some.inj e; try dsimp only at h; omega) | have hrA : Row w1 (w.heap.size + 1) 31 (#[.int .i64 x.id, .int .i64 x.ver, .int .i64 x.kind, .string x.name, .string x.code, .int .i64 x.n] : Array Value).toList := Row.grown (Row.drew (Row.below (Row.sK (w := w.alloc _) (by simp)) ((Below.refl _ _).alloc (Nat.le_refl _) _))) hg1 (fun e => by have h := Option.some.inj e; try dsimp only at h; omega) | have hrA : True := trivial); clear tok1)
        | (refine dB rfl dJ (.tmp 20) (.tmp 23) rfl (w.heap.size + 1) _ (by rfl) _ [] ho2 ((l.drop (k)).map GCell.toD) [] _ (by rfl) (Src.of_flat (hS2.below L2) fM) GCell.lu GCell.szs fK gX (by simp; try omega) Z2 ?_; intro v3 w3 ho3 hg3 hat3; have hrE : Row w3 w.heap.size 31 (#[.int .i64 x.id, .int .i64 x.ver, .int .i64 x.kind, .string x.name, .string x.code, .int .i64 x.n] : Array Value).toList := Row.grown hrC hg3 (fun e => by have := (ho2.ge _ e.symm).1; omega); have kE := hrE.cell)
        | (have _t := tok2; refine dB rfl dJ (.tmp 17) (.tmp 19) rfl (w.heap.size + 1) _ (by rfl) _ [] (by first | exact ho1 | exact ho1.below ((Below.refl _ _).alloc (Nat.le_refl _) _)) ([x].map GCell.toD) [] _ (by rfl) (by first | exact Src.one hrA (GCell.opened.2 ⟨rfl, rfl⟩) | exact Src.one (Row.new _ _ _) (GCell.opened.2 ⟨rfl, rfl⟩)) GCell.lu GCell.szs fK gX (by simp; try omega) (by first | exact hrB.lt | (have := hrB.lt; simp; omega)) ?_; intro v2 w2 ho2 hg2 hat2; have L2 : Below w.heap.size w w2 := eG (by first | exact L1 | exact L1.alloc L1.size _) hg2 (by first | exact L1.size | (have := L1.size; simp; omega)) (fun g hg => by have := (ho1.ge g hg).1; omega); have hrC : Row w2 w.heap.size 31 (#[.int .i64 x.id, .int .i64 x.ver, .int .i64 x.kind, .string x.name, .string x.code, .int .i64 x.n] : Array Value).toList := Row.grown (by first | exact hrB | exact hrB.below ((Below.refl _ _).alloc (Nat.le_refl _) _)) hg2 (fun e => by have := (ho1.ge _ e.symm).1; omega); have kC := hrC.cell; have Z2 : w.heap.size + 1 ≤ w2.heap.size := hrC.lt; clear tok2))
      all_goals
        go_wp2_with fail
        go_ret
        have hfin := (ho3.mono (base' := w.heap.size) (by omega)).tos (eG L2 hg3 L2.size (fun g hg => by have := (ho2.ge g hg).1; omega))
        rw [List.nil_append, ← List.map_append, ← List.map_append] at hfin
        exact hfin
    · have e : iW a l.length = l.length := by unfold iW; omega
      rw [e]
      clear e
      have hb1 : (l.length : Int) < a := by omega
      cases l with
      | nil =>
        have h1 : ∀ w : World, (Instr.slice 24 (.slice A 0 c) none (some (.int .i64 (0))) none).run Try.prog w = .ok (.slice A (0) c) w := dJ.vk (A := A) (0) (Nat.zero_le _) hl
        obtain ⟨A2, h2', h2s⟩ := dJ.vg (A := A) (0) (Nat.zero_le _) hl
        have h2 : ∀ w : World, (Instr.slice 24 (.slice A 0 c) (some (.int .i64 (0))) none none).run Try.prog w = .ok (.slice A2 (0 - (0)) (c - (0))) w := h2'
        clear h2'
        obtain ⟨f1, hS1, _⟩ := Sl.take hS (by rw [List.length_map]; exact Nat.zero_le _ : (0) ≤ (([] : List GCell).map GCell.toD).length)
        obtain ⟨f2, hS2, _⟩ := h2s w _ _ GCell.szs hS
        rw [← List.map_take] at hS1
        rw [← List.map_drop] at hS2
        clear h2s
        have tok1 : True := trivial
        have tok2 : True := trivial
        go_enter Try.func57, Try.ntmps57
        go_wp2_with fail
        go_region_held3 (fun w' => w'.cell? ⟨w.heap.size, 0, none⟩ = some (.int .i64 x.id) ∧ w'.cell? ⟨w.heap.size, 1, none⟩ = some (.int .i64 x.ver) ∧ w'.cell? ⟨w.heap.size, 2, none⟩ = some (.int .i64 x.kind) ∧ w'.cell? ⟨w.heap.size, 3, none⟩ = some (.string x.name) ∧ w'.cell? ⟨w.heap.size, 4, none⟩ = some (.string x.code) ∧ w'.cell? ⟨w.heap.size, 5, none⟩ = some (.int .i64 x.n)) (go_keep)
          (first
          | (have _t := tok1; refine dB rfl dJ (.tmp 13) (.tmp 16) rfl (w.heap.size + 1) _ (by rfl) [] [] (by first | exact iZ.lit (by simp) (by simp) | exact (iZ.lit (by simp) (by simp)).below (((Below.refl _ _).alloc (Nat.le_refl _) _).drew)) ((([] : List GCell).take (0)).map GCell.toD) [] _ (by rfl) (Src.of_flat (hS1.below (by repeat' (first | exact Below.refl _ _ | exact Nat.le_refl _ | apply Below.drew | apply Below.alloc | (simp; done) | (simp; omega)))) fM) GCell.lu GCell.szs fK gX (by simp; try omega) (by simp; try omega) ?_; intro v1 w1 ho1 hg1 hat1; have L1 : Below w.heap.size w w1 := eG (by repeat' (first | exact Below.refl _ _ | exact Nat.le_refl _ | apply Below.drew | apply Below.alloc | (simp; done) | (simp; omega))) hg1 (by simp; try omega) (fun g hg => by have h := Option.some.inj hg; try simp at h; omega); have hrB : Row w1 w.heap.size 31 (#[.int .i64 x.id, .int .i64 x.ver, .int .i64 x.kind, .string x.name, .string x.code, .int .i64 x.n] : Array Value).toList := Row.grown (Row.below (Row.new w _ _) (by repeat' (first | exact Below.refl _ _ | exact Nat.le_refl _ | apply Below.drew | apply Below.alloc | (simp; done) | (simp; omega)))) hg1 (fun e => by have h := Option.some.inj e; try dsimp only at h; omega); have kB := hrB.cell; (first | have hrA : Row w1 (w.heap.size + 2) 31 (#[.int .i64 x.id, .int .i64 x.ver, .int .i64 x.kind, .string x.name, .string x.code, .int .i64 x.n] : Array Value).toList := Row.grown (Row.drew (Row.sK (by simp))) hg1 (fun e => by have h := Option.some.inj e; try dsimp only at h; omega) | have hrA : Row w1 (w.heap.size + 1) 31 (#[.int .i64 x.id, .int .i64 x.ver, .int .i64 x.kind, .string x.name, .string x.code, .int .i64 x.n] : Array Value).toList := Row.grown (Row.drew (Row.below (Row.sK (w := w.alloc _) (by simp)) ((Below.refl _ _).alloc (Nat.le_refl _) _))) hg1 (fun e => by have h := Option.some.inj e; try dsimp only at h; omega) | have hrA : True := trivial); clear tok1)
          | (refine dB rfl dJ (.tmp 20) (.tmp 23) rfl (w.heap.size + 1) _ (by rfl) _ [] ho2 ((([] : List GCell).drop (0)).map GCell.toD) [] _ (by rfl) (Src.of_flat (hS2.below L2) fM) GCell.lu GCell.szs fK gX (by simp; try omega) Z2 ?_; intro v3 w3 ho3 hg3 hat3; have hrE : Row w3 w.heap.size 31 (#[.int .i64 x.id, .int .i64 x.ver, .int .i64 x.kind, .string x.name, .string x.code, .int .i64 x.n] : Array Value).toList := Row.grown hrC hg3 (fun e => by have := (ho2.ge _ e.symm).1; omega); have kE := hrE.cell)
          | (have _t := tok2; refine dB rfl dJ (.tmp 17) (.tmp 19) rfl (w.heap.size + 1) _ (by rfl) _ [] (by first | exact ho1 | exact ho1.below ((Below.refl _ _).alloc (Nat.le_refl _) _)) ([x].map GCell.toD) [] _ (by rfl) (by first | exact Src.one hrA (GCell.opened.2 ⟨rfl, rfl⟩) | exact Src.one (Row.new _ _ _) (GCell.opened.2 ⟨rfl, rfl⟩)) GCell.lu GCell.szs fK gX (by simp; try omega) (by first | exact hrB.lt | (have := hrB.lt; simp; omega)) ?_; intro v2 w2 ho2 hg2 hat2; have L2 : Below w.heap.size w w2 := eG (by first | exact L1 | exact L1.alloc L1.size _) hg2 (by first | exact L1.size | (have := L1.size; simp; omega)) (fun g hg => by have := (ho1.ge g hg).1; omega); have hrC : Row w2 w.heap.size 31 (#[.int .i64 x.id, .int .i64 x.ver, .int .i64 x.kind, .string x.name, .string x.code, .int .i64 x.n] : Array Value).toList := Row.grown (by first | exact hrB | exact hrB.below ((Below.refl _ _).alloc (Nat.le_refl _) _)) hg2 (fun e => by have := (ho1.ge _ e.symm).1; omega); have kC := hrC.cell; have Z2 : w.heap.size + 1 ≤ w2.heap.size := hrC.lt; clear tok2))
        all_goals
          go_wp2_with fail
          go_ret
          have hfin := (ho3.mono (base' := w.heap.size) (by omega)).tos (eG L2 hg3 L2.size (fun g hg => by have := (ho2.ge g hg).1; omega))
          rw [List.nil_append, ← List.map_append, ← List.map_append] at hfin
          exact hfin
      | cons y l' =>
        generalize hll : y :: l' = l at *
        have hz' : (0 : Int) < (l.length : Int) := by rw [← hll]; simp
        clear hll
        have h1 : ∀ w : World, (Instr.slice 24 (.slice A l.length c) none (some (.int .i64 (l.length : Int))) none).run Try.prog w = .ok (.slice A (l.length) c) w := dJ.vk (A := A) (l.length) (Nat.le_refl _) hl
        obtain ⟨A2, h2', h2s⟩ := dJ.vg (A := A) (l.length) (Nat.le_refl _) hl
        have h2 : ∀ w : World, (Instr.slice 24 (.slice A l.length c) (some (.int .i64 (l.length : Int))) none none).run Try.prog w = .ok (.slice A2 (l.length - (l.length)) (c - (l.length))) w := h2'
        clear h2'
        obtain ⟨f1, hS1, _⟩ := Sl.take hS (by rw [List.length_map]; exact Nat.le_refl _ : (l.length) ≤ (l.map GCell.toD).length)
        obtain ⟨f2, hS2, _⟩ := h2s w _ _ GCell.szs hS
        rw [← List.map_take] at hS1
        rw [← List.map_drop] at hS2
        rw [Nat.sub_self] at hS2
        simp only [Nat.sub_self] at h2
        clear h2s
        have tok1 : True := trivial
        have tok2 : True := trivial
        go_enter Try.func57, Try.ntmps57
        go_wp2_with fail
        go_region_held3 (fun w' => w'.cell? ⟨w.heap.size, 0, none⟩ = some (.int .i64 x.id) ∧ w'.cell? ⟨w.heap.size, 1, none⟩ = some (.int .i64 x.ver) ∧ w'.cell? ⟨w.heap.size, 2, none⟩ = some (.int .i64 x.kind) ∧ w'.cell? ⟨w.heap.size, 3, none⟩ = some (.string x.name) ∧ w'.cell? ⟨w.heap.size, 4, none⟩ = some (.string x.code) ∧ w'.cell? ⟨w.heap.size, 5, none⟩ = some (.int .i64 x.n)) (go_keep)
          (first
          | (have _t := tok1; refine dB rfl dJ (.tmp 13) (.tmp 16) rfl (w.heap.size + 1) _ (by rfl) [] [] (by first | exact iZ.lit (by simp) (by simp) | exact (iZ.lit (by simp) (by simp)).below (((Below.refl _ _).alloc (Nat.le_refl _) _).drew)) ((l.take (l.length)).map GCell.toD) [] _ (by rfl) (Src.of_flat (hS1.below (by repeat' (first | exact Below.refl _ _ | exact Nat.le_refl _ | apply Below.drew | apply Below.alloc | (simp; done) | (simp; omega)))) fM) GCell.lu GCell.szs fK gX (by simp; try omega) (by simp; try omega) ?_; intro v1 w1 ho1 hg1 hat1; have L1 : Below w.heap.size w w1 := eG (by repeat' (first | exact Below.refl _ _ | exact Nat.le_refl _ | apply Below.drew | apply Below.alloc | (simp; done) | (simp; omega))) hg1 (by simp; try omega) (fun g hg => by have h := Option.some.inj hg; try simp at h; omega); have hrB : Row w1 w.heap.size 31 (#[.int .i64 x.id, .int .i64 x.ver, .int .i64 x.kind, .string x.name, .string x.code, .int .i64 x.n] : Array Value).toList := Row.grown (Row.below (Row.new w _ _) (by repeat' (first | exact Below.refl _ _ | exact Nat.le_refl _ | apply Below.drew | apply Below.alloc | (simp; done) | (simp; omega)))) hg1 (fun e => by have h := Option.some.inj e; try dsimp only at h; omega); have kB := hrB.cell; (first | have hrA : Row w1 (w.heap.size + 2) 31 (#[.int .i64 x.id, .int .i64 x.ver, .int .i64 x.kind, .string x.name, .string x.code, .int .i64 x.n] : Array Value).toList := Row.grown (Row.drew (Row.sK (by simp))) hg1 (fun e => by have h := Option.some.inj e; try dsimp only at h; omega) | have hrA : Row w1 (w.heap.size + 1) 31 (#[.int .i64 x.id, .int .i64 x.ver, .int .i64 x.kind, .string x.name, .string x.code, .int .i64 x.n] : Array Value).toList := Row.grown (Row.drew (Row.below (Row.sK (w := w.alloc _) (by simp)) ((Below.refl _ _).alloc (Nat.le_refl _) _))) hg1 (fun e => by have h := Option.some.inj e; try dsimp only at h; omega) | have hrA : True := trivial); clear tok1)
          | (refine dB rfl dJ (.tmp 20) (.tmp 23) rfl (w.heap.size + 1) _ (by rfl) _ [] ho2 ((l.drop (l.length)).map GCell.toD) [] _ (by rfl) (Src.of_flat (hS2.below L2) fM) GCell.lu GCell.szs fK gX (by simp; try omega) Z2 ?_; intro v3 w3 ho3 hg3 hat3; have hrE : Row w3 w.heap.size 31 (#[.int .i64 x.id, .int .i64 x.ver, .int .i64 x.kind, .string x.name, .string x.code, .int .i64 x.n] : Array Value).toList := Row.grown hrC hg3 (fun e => by have := (ho2.ge _ e.symm).1; omega); have kE := hrE.cell)
          | (have _t := tok2; refine dB rfl dJ (.tmp 17) (.tmp 19) rfl (w.heap.size + 1) _ (by rfl) _ [] (by first | exact ho1 | exact ho1.below ((Below.refl _ _).alloc (Nat.le_refl _) _)) ([x].map GCell.toD) [] _ (by rfl) (by first | exact Src.one hrA (GCell.opened.2 ⟨rfl, rfl⟩) | exact Src.one (Row.new _ _ _) (GCell.opened.2 ⟨rfl, rfl⟩)) GCell.lu GCell.szs fK gX (by simp; try omega) (by first | exact hrB.lt | (have := hrB.lt; simp; omega)) ?_; intro v2 w2 ho2 hg2 hat2; have L2 : Below w.heap.size w w2 := eG (by first | exact L1 | exact L1.alloc L1.size _) hg2 (by first | exact L1.size | (have := L1.size; simp; omega)) (fun g hg => by have := (ho1.ge g hg).1; omega); have hrC : Row w2 w.heap.size 31 (#[.int .i64 x.id, .int .i64 x.ver, .int .i64 x.kind, .string x.name, .string x.code, .int .i64 x.n] : Array Value).toList := Row.grown (by first | exact hrB | exact hrB.below ((Below.refl _ _).alloc (Nat.le_refl _) _)) hg2 (fun e => by have := (ho1.ge _ e.symm).1; omega); have kC := hrC.cell; have Z2 : w.heap.size + 1 ≤ w2.heap.size := hrC.lt; clear tok2))
        all_goals
          go_wp2_with fail
          go_ret
          have hfin := (ho3.mono (base' := w.heap.size) (by omega)).tos (eG L2 hg3 L2.size (fun g hg => by have := (ho2.ge g hg).1; omega))
          rw [List.nil_append, ← List.map_append, ← List.map_append] at hfin
          exact hfin

theorem NQ (a b : Int) (w : World) : Calls Try.prog 61 #[.int .i64 a, .int .i64 b] w (wZ (.int .i64 (min a b)) w) := by
  by_cases h : a < b
  · go_enter Try.func61, Try.ntmps61
    go_wp2
    go_ret
    exact ⟨cu (by omega), rfl⟩
  · go_enter Try.func61, Try.ntmps61
    go_wp2
    go_ret
    exact ⟨cu (by omega), rfl⟩
theorem NR (a b : Int) (w : World) : Calls Try.prog 60 #[.int .i64 a, .int .i64 b] w (wZ (.int .i64 (max a b)) w) := by
  by_cases h : b < a
  · go_enter Try.func60, Try.ntmps60
    go_wp2
    go_ret
    exact ⟨cu (by omega), rfl⟩
  · go_enter Try.func60, Try.ntmps60
    go_wp2
    go_ret
    exact ⟨cu (by omega), rfl⟩

set_option maxRecDepth 20000 in
set_option maxHeartbeats 4000000 in
theorem GX (l : List GCell) (a : Int) (x : GCell) (fp : List Nat) (v : Value) (w : World) (hS : Sl w (l.map GCell.toD) fp v) (hn : l.length ≤ 1048576) : Calls Try.prog 45 #[v, .int .i64 a, .agg #[.int .i64 x.id, .int .i64 x.ver, .int .i64 x.kind, .string x.name, .string x.code, .int .i64 x.n]] w (qC ((oI l (iW a l.length) x).map GCell.toD) w) := by
  obtain ⟨A, c, rfl, hl, hc⟩ := hS.rV
  have hk := Oy a l.length
  have hMin := fun W => NQ a l.length W
  have hMax := fun W => NR 0 (min a l.length) W
  rw [Oz] at hMax
  generalize iW a l.length = k at *
  generalize min a (l.length : Int) = mm at *
  have h1 : ∀ w : World, (Instr.slice 24 (.slice A l.length c) none (some (.int .i64 (k : Int))) none).run Try.prog w = .ok (.slice A (k) c) w := dJ.vk (A := A) (k) (hk) hl
  obtain ⟨A2, h2', h2s⟩ := dJ.vg (A := A) (k) (hk) hl
  have h2 : ∀ w : World, (Instr.slice 24 (.slice A l.length c) (some (.int .i64 (k : Int))) none none).run Try.prog w = .ok (.slice A2 (l.length - (k)) (c - (k))) w := h2'
  clear h2'
  obtain ⟨f1, hS1, _⟩ := Sl.take hS (by rw [List.length_map]; exact hk : (k) ≤ (l.map GCell.toD).length)
  obtain ⟨f2, hS2, _⟩ := h2s w _ _ GCell.szs hS
  rw [← List.map_take] at hS1
  rw [← List.map_drop] at hS2
  clear h2s
  go_enter Try.func45, Try.ntmps45
  go_wp2_with (first
    | (go_at_call 61; refine (hMin _).mono ?_; rintro e w' ⟨rfl, rfl⟩)
    | (go_at_call 60; refine (hMax _).mono ?_; rintro e w' ⟨rfl, rfl⟩)
    | (at_builtin; refine ou rfl dJ (.tmp 13) (.tmp 16) rfl (w.heap.size + 1) _ (by rfl) [] [] (iZ.lit (by simp) (by simp)) ((l.take k).map GCell.toD) [] _ (by rfl) (Src.of_flat (hS1.below (by repeat' (first | exact Below.refl _ _ | exact Nat.le_refl _ | apply Below.drew | apply Below.alloc | (simp; done) | (simp; omega)))) fM) GCell.lu GCell.szs fK gX (by simp; try omega) (by simp) ?_; intro v1 w1 ho1 hg1 hat1; have L1 : Below w.heap.size w w1 := eG (by repeat' (first | exact Below.refl _ _ | exact Nat.le_refl _ | apply Below.drew | apply Below.alloc | (simp; done) | (simp; omega))) hg1 (by simp; try omega) (fun g hg => by have h := Option.some.inj hg; try simp at h; omega); have hrB : Row w1 w.heap.size 31 (#[.int .i64 x.id, .int .i64 x.ver, .int .i64 x.kind, .string x.name, .string x.code, .int .i64 x.n] : Array Value).toList := Row.grown (Row.below (Row.new w _ _) (by repeat' (first | exact Below.refl _ _ | exact Nat.le_refl _ | apply Below.drew | apply Below.alloc | (simp; done) | (simp; omega)))) hg1 (fun e => by have h := Option.some.inj e; try dsimp only at h; omega); have kB := hrB.cell; clear hg1 hat1)
    | (at_builtin; refine ou rfl dJ (.tmp 18) (.tmp 20) rfl (w.heap.size + 1) _ (by rfl) _ [] (ho1.below ((Below.refl _ _).alloc (Nat.le_refl _) _)) ([x].map GCell.toD) [] _ (by rfl) (Src.one (Row.new _ _ _) (GCell.opened.2 ⟨rfl, rfl⟩)) GCell.lu GCell.szs fK gX (by simp; try omega) (by have := hrB.lt; simp; try omega) ?_; intro v2 w2 ho2 hg2 hat2; have L2 : Below w.heap.size w w2 := eG (L1.alloc L1.size _) hg2 (by have := L1.size; simp; try omega) (fun g hg => by have := (ho1.ge g hg).1; omega); have Z2 : w.heap.size + 1 ≤ w2.heap.size := Nat.le_trans hrB.lt (Nat.le_trans (by simp) hg2.size); clear hg2 hat2)
    | (at_builtin; refine ou rfl dJ (.tmp 22) (.tmp 25) rfl (w.heap.size + 1) _ (by rfl) _ [] ho2 ((l.drop k).map GCell.toD) [] _ (by rfl) (Src.of_flat (hS2.below L2) fM) GCell.lu GCell.szs fK gX (by simp; try omega) Z2 ?_; intro v3 w3 ho3 hg3 hat3))
  go_ret
  have hfin := (ho3.mono (base' := w.heap.size) (by omega)).tos (eG L2 hg3 L2.size (fun g hg => by have := (ho2.ge g hg).1; omega))
  rw [List.nil_append, ← List.map_append, ← List.map_append] at hfin
  exact hfin
end Go.Proofs.Ytnongnchpplacaa

namespace Go.Proofs.Ytnongnchpplacaa
open Go.RowKit
set_option linter.unusedSimpArgs false
set_option linter.unusedVariables false
def rb (b : Bool) : AV := .c false [.raw (.bool b)]
theorem uF {w : World} {x : GNb} {v : Value} (h : Rd w x.toD v) : ∃ fp u, v = .agg #[u] ∧ Sl w (x.cells.map GCell.toD) fp u ∧ R w x.toD fp [u] := by
  obtain ⟨fp, cs, rfl, h2⟩ := PD x.bG h
  have h3 := h2
  obtain ⟨u, g, rfl, rfl, h1⟩ := GNb.opened.1 h3
  exact ⟨_, u, rfl, h1, h2⟩
theorem uO {w : World} {x : GCell} {v : Value} (h : Rd w x.toD v) : v = .agg #[.int .i64 x.id, .int .i64 x.ver, .int .i64 x.kind, .string x.name, .string x.code, .int .i64 x.n] := by
  obtain ⟨fp, cs, rfl, h2⟩ := PD x.bG h
  obtain ⟨rfl, rfl⟩ := GCell.opened.1 h2
  rfl

theorem dh (x : GNb) (id : Int) : aK Try.prog 11 [x.toD, li id] (.c false [.raw (.int .i64 (dn x.cells id))]) := pW fun w vs hr => by
  obtain ⟨v, u, rfl, h1, h2⟩ := Px hr
  obtain ⟨fp, a, rfl, hS, _⟩ := uF h1
  obtain rfl := jT h2
  exact tN x.cells id fp a w hS
theorem gB (x : GNb) (hw : D.wfs (x.cells.map GCell.toD)) : aK Try.prog 9 [x.toD] (.c false [.raw (.bool (dH x.cells))]) := pW fun w vs hr => by
  obtain ⟨v, rfl, h1⟩ := Nz hr
  obtain ⟨fp, a, rfl, hS, _⟩ := uF h1
  exact sO x.cells fp a w hS hw
theorem aW (x : GCell) (hw : x.toD.wf) : aK Try.prog 12 [x.toD] (.c false [.raw (.bool (dw x))]) := pW fun w vs hr => by
  obtain ⟨v, rfl, h1⟩ := Nz hr
  obtain rfl := uO h1
  exact qQ x hw w
theorem cZ (x : GNb) (id : Int) : aK Try.prog 24 [x.toD, li id] (.c false [.raw (.int .i64 (dn x.cells id))]) := pW fun w vs hr => by
  obtain ⟨v, u, rfl, h1, h2⟩ := Px hr
  obtain ⟨fp, a, rfl, hS, _⟩ := uF h1
  obtain rfl := jT h2
  exact tK x.cells id fp a w hS
theorem ay (x : GNb) (hw : D.wfs (x.cells.map GCell.toD)) : aK Try.prog 10 [x.toD] (.c false [.raw (.bool (dH x.cells))]) := pW fun w vs hr => by
  obtain ⟨v, rfl, h1⟩ := Nz hr
  obtain ⟨fp, a, rfl, hS, _⟩ := uF h1
  exact sN x.cells fp a w hS hw
theorem aV (x : GCell) (hw : x.toD.wf) : aK Try.prog 32 [x.toD] (.c false [.raw (.bool (dw x))]) := pW fun w vs hr => by
  obtain ⟨v, rfl, h1⟩ := Nz hr
  obtain rfl := uO h1
  exact qP x hw w
theorem oP (n lo hi : Int) : aK Try.prog 33 [li n, li lo, li hi] (.c false [.raw (.bool (inR n lo hi))]) := Ey fun w vs hr => by
  obtain ⟨v, u, z, rfl, h1, h2, h3⟩ := TL hr
  obtain rfl := jT h1
  obtain rfl := jT h2
  obtain rfl := jT h3
  exact o8 n lo hi w
theorem bF (n lo hi : Int) : aK Try.prog 44 [li n, li lo, li hi] (.c false [.raw (.bool (inR n lo hi))]) := Ey fun w vs hr => by
  obtain ⟨v, u, z, rfl, h1, h2, h3⟩ := TL hr
  obtain rfl := jT h1
  obtain rfl := jT h2
  obtain rfl := jT h3
  exact wE n lo hi w
theorem lD (l : List GCell) (k : Nat) (hk : k < l.length) (hn : l.length ≤ 1048576) : aK Try.prog 58 [.sl (l.map GCell.toD), li k] (.c false [.sl true ((gQ l k).map GCell.toD)]) := Ew fun w vs hr => by
  obtain ⟨v, u, rfl, h1, h2⟩ := Px hr
  obtain ⟨fp, hS⟩ := KU h1
  obtain rfl := jT h2
  exact EM l k fp v w hS hk hn
theorem lG (l : List GCell) (k : Nat) (hk : k < l.length) (hn : l.length ≤ 1048576) : aK Try.prog 46 [.sl (l.map GCell.toD), li k] (.c false [.sl true ((gQ l k).map GCell.toD)]) := Ew fun w vs hr => by
  obtain ⟨v, u, rfl, h1, h2⟩ := Px hr
  obtain ⟨fp, hS⟩ := KU h1
  obtain rfl := jT h2
  exact E5 l k fp v w hS hk hn
theorem kN (l : List GCell) (a : Int) (x : GCell) (hn : l.length ≤ 1048576) : aK Try.prog 57 [.sl (l.map GCell.toD), li a, x.toD] (.c false [.sl true ((oI l (iW a l.length) x).map GCell.toD)]) := Ew fun w vs hr => by
  obtain ⟨v, u, z, rfl, h1, h2, h3⟩ := TL hr
  obtain ⟨fp, hS⟩ := KU h1
  obtain rfl := jT h2
  obtain rfl := uO h3
  exact CV l a x fp v w hS hn
theorem mM (l : List GCell) (a : Int) (x : GCell) (hn : l.length ≤ 1048576) : aK Try.prog 45 [.sl (l.map GCell.toD), li a, x.toD] (.c false [.sl true ((oI l (iW a l.length) x).map GCell.toD)]) := Ew fun w vs hr => by
  obtain ⟨v, u, z, rfl, h1, h2, h3⟩ := TL hr
  obtain ⟨fp, hS⟩ := KU h1
  obtain rfl := jT h2
  obtain rfl := uO h3
  exact GX l a x fp v w hS hn
def sZ : IC := (.seq (.reg false [⟨(some 1), none, .box (.t 0)⟩, ⟨(some 2), none, .alloc [(.slice none 0 0)]⟩]) (.seq (.reg false [⟨(some 3), none, .brow true 31 6 0 false []⟩, ⟨(some 4), none, .fad 0 (.t 1)⟩, ⟨(some 5), none, .load 1 false (.t 4)⟩, ⟨(some 6), none, .app 31 6 (.t 3) (.t 5)⟩, ⟨(some 7), none, .bld [(.slice none 0 0)] [(0, 1, (.t 6))]⟩, ⟨none, none, .store 1 (.t 2) (.t 7)⟩]) .ret))
theorem wM : aF Try.prog (Try.f39.body.getD .skip) = some sZ := by kernel_rfl
theorem kG (x : GNb) (hn : x.cells.length ≤ 4194304) : jQ Try.prog 39 [x.toD] true (x.cells.map GCell.toD) 31 6 := by
  refine BK (fn := Try.f39) (t := 2) (ty := 26) (by kernel_rfl) (by kernel_rfl) (by kernel_rfl) (by kernel_rfl) wM ?_
  have hn' : (x.cells.map GCell.toD).length ≤ 4194304 := by simpa using hn
  change AWP _ _ _ (st0 8 _)
  unfold sZ
  simp only [undef, st0, stN, D.av, D.avN, kW, gV, kZ, kY, lI, pG, fU, fQ, GNb.bK, GNb.aZ, GNb.bG, GCell.bK, GCell.aZ, GCell.bG, GCell.el, GEdit.bK, GEdit.aZ, GEdit.bG, List.map_cons, List.map_nil, List.replicate, List.cons_append, List.nil_append, List.length_cons, List.length_nil, Nat.reduceAdd, Nat.reduceSub]
  repeat (first | (with_reducible refine kQ ?_) | (with_reducible refine iG ?_) | (with_reducible refine jy ?_) | (with_reducible refine jA ?_) | (with_reducible refine kR ?_) | (with_reducible refine qR ?_) | (with_reducible refine jm ?_) | (with_reducible refine kM ?_) | (with_reducible refine fE ?_) | (with_reducible refine iC ?_) | (with_reducible refine jw ?_) | (with_reducible refine iq ?_) | (with_reducible refine jr ?_) | ((with_reducible refine iy ?_ ?_); rfl) | ((with_reducible refine iD ?_ ?_); rfl) | ((with_reducible refine iE ?_ ?_); rfl) | ((with_reducible refine aG ?_); intro K hK; simp only [↓pkS, ↓vY, pkW, pkA, zQ, jY, undef, List.flatMap_cons, List.flatMap_nil, List.append_nil, jS, oM, lvD, qN, lcD, lvK, lcK, eu, dS, je, ex, St.put, St.ev, kav, gdA, opI, fG, qW, jD, oh, qU, AV.toD, AC.toD, AV.nw, AC.nw, AC.one, Value.oneCell', dV, bV, dD, dU, gy, fH, if_true, if_false, Bool.false_eq_true, jK, D.one, D.ones, D.sz, D.szs, Nat.reduceAdd, Nat.reduceSub, Nat.reduceLeDiff, Nat.reduceEqDiff, reduceIte, GNb.bK, GNb.aZ, GNb.bG, GCell.bK, GCell.aZ, GCell.bG, GCell.el, GEdit.bK, GEdit.aZ, GEdit.bG]; first | (refine hK _ ?_; clear hK K) | (refine ⟨by (first | omega | (simp; omega)), hK _ ?_⟩; clear hK K) | (refine ⟨by (first | omega | (simp; omega)), by (first | omega | (simp; omega)), hK _ ?_⟩; clear hK K)))
  exact aS ⟨1, 0, 1, rfl, rfl, _, rfl, rfl, rfl, rfl, rfl, Or.inr (GCell.dF _)⟩
def sW : IC := (.seq (.reg false [⟨(some 1), none, .box (.t 0)⟩, ⟨(some 2), none, .alloc [(.slice none 0 0)]⟩]) (.seq (.reg false [⟨(some 3), none, .brow true 31 6 0 false []⟩, ⟨(some 4), none, .fad 0 (.t 1)⟩, ⟨(some 5), none, .load 1 false (.t 4)⟩, ⟨(some 6), none, .app 31 6 (.t 3) (.t 5)⟩, ⟨(some 7), none, .bld [(.slice none 0 0)] [(0, 1, (.t 6))]⟩, ⟨none, none, .store 1 (.t 2) (.t 7)⟩]) .ret))
theorem wL : aF Try.prog (Try.f38.body.getD .skip) = some sW := by kernel_rfl
theorem bJ (x : GNb) (hn : x.cells.length ≤ 4194304) : jQ Try.prog 38 [x.toD] true (x.cells.map GCell.toD) 31 6 := by
  refine BK (fn := Try.f38) (t := 2) (ty := 26) (by kernel_rfl) (by kernel_rfl) (by kernel_rfl) (by kernel_rfl) wL ?_
  have hn' : (x.cells.map GCell.toD).length ≤ 4194304 := by simpa using hn
  change AWP _ _ _ (st0 8 _)
  unfold sW
  simp only [undef, st0, stN, D.av, D.avN, kW, gV, kZ, kY, lI, pG, fU, fQ, GNb.bK, GNb.aZ, GNb.bG, GCell.bK, GCell.aZ, GCell.bG, GCell.el, GEdit.bK, GEdit.aZ, GEdit.bG, List.map_cons, List.map_nil, List.replicate, List.cons_append, List.nil_append, List.length_cons, List.length_nil, Nat.reduceAdd, Nat.reduceSub]
  repeat (first | (with_reducible refine kQ ?_) | (with_reducible refine iG ?_) | (with_reducible refine jy ?_) | (with_reducible refine jA ?_) | (with_reducible refine kR ?_) | (with_reducible refine qR ?_) | (with_reducible refine jm ?_) | (with_reducible refine kM ?_) | (with_reducible refine fE ?_) | (with_reducible refine iC ?_) | (with_reducible refine jw ?_) | (with_reducible refine iq ?_) | (with_reducible refine jr ?_) | ((with_reducible refine iy ?_ ?_); rfl) | ((with_reducible refine iD ?_ ?_); rfl) | ((with_reducible refine iE ?_ ?_); rfl) | ((with_reducible refine aG ?_); intro K hK; simp only [↓pkS, ↓vY, pkW, pkA, zQ, jY, undef, List.flatMap_cons, List.flatMap_nil, List.append_nil, jS, oM, lvD, qN, lcD, lvK, lcK, eu, dS, je, ex, St.put, St.ev, kav, gdA, opI, fG, qW, jD, oh, qU, AV.toD, AC.toD, AV.nw, AC.nw, AC.one, Value.oneCell', dV, bV, dD, dU, gy, fH, if_true, if_false, Bool.false_eq_true, jK, D.one, D.ones, D.sz, D.szs, Nat.reduceAdd, Nat.reduceSub, Nat.reduceLeDiff, Nat.reduceEqDiff, reduceIte, GNb.bK, GNb.aZ, GNb.bG, GCell.bK, GCell.aZ, GCell.bG, GCell.el, GEdit.bK, GEdit.aZ, GEdit.bG]; first | (refine hK _ ?_; clear hK K) | (refine ⟨by (first | omega | (simp; omega)), hK _ ?_⟩; clear hK K) | (refine ⟨by (first | omega | (simp; omega)), by (first | omega | (simp; omega)), hK _ ?_⟩; clear hK K)))
  exact aS ⟨1, 0, 1, rfl, rfl, _, rfl, rfl, rfl, rfl, rfl, Or.inr (GCell.dF _)⟩
end Go.Proofs.Ytnongnchpplacaa

