/-
  Texts joined: Tbl2 PData.
-/
import Derived.Test.YtdjcflnemnknaaaDoorKT
import Derived.Test.YtdjcflnemnknaaaDoorKY
namespace Go.Proofs.YtdjcflnemnknaaaDoor
open Go.RowKit
set_option linter.unusedSimpArgs false
set_option linter.unusedVariables false
theorem validT_list {x : GVal} (h : 0 < x.list.length) : validT x = false := by simp [validT, show ¬ x.list.length = 0 by omega]
theorem validT_text {x : GVal} (h : (x.text.toList == (⟨#[]⟩ : ByteArray).toList) = false) : validT x = false := by unfold validT; rw [h]; simp
theorem validT_step {x : GVal} (h : (x.step == 0) = false) : validT x = false := by simp [validT, h]
theorem validT_n {x : GVal} (h : (x.n == 0) = false) : validT x = false := by simp [validT, h]
theorem validT_eq {x : GVal} (h1 : (x.n == 0) = true) (h2 : (x.step == 0) = true) (h3 : (x.text.toList == (⟨#[]⟩ : ByteArray).toList) = true) (h4 : ¬ 0 < x.list.length) : validT x = tblB x := by
  have h5 : decide (x.list.length = 0) = true := decide_eq_true (by omega)
  rw [validT, h1, h2, h3, h5]
  rfl
theorem bne_of {a b : Int} {v : Bool} (h : (a == b) = v) : (a != b) = !v := by rw [bne, h]
def ic_val_spec : IC := (.seq (.reg false [⟨(some 1), none, .box (.t 0)⟩, ⟨(some 2), none, .mov (.k (.bool false))⟩]) (.seq (.seq (.reg false [⟨(some 3), none, .fad 0 (.t 1)⟩, ⟨(some 4), none, .load 1 false (.t 3)⟩, ⟨(some 5), none, .bin .neq (.t 4) (.k (.int .i64 3))⟩, ⟨(some 6), none, .mov (.t 5)⟩, ⟨(some 7), (some (6, true)), .fad 4 (.t 1)⟩, ⟨(some 8), (some (6, true)), .load 1 false (.t 7)⟩, ⟨(some 9), (some (6, true)), .len false (.t 8)⟩, ⟨(some 10), (some (6, true)), .bin .gtr (.t 9) (.k (.int .i64 0))⟩, ⟨(some 11), none, .pick (.t 6) (.t 10) (.k (.bool false))⟩, ⟨(some 12), none, .mov (.t 11)⟩, ⟨(some 13), (some (12, false)), .fad 0 (.t 1)⟩, ⟨(some 14), (some (12, false)), .load 1 false (.t 13)⟩, ⟨(some 15), (some (12, false)), .bin .neq (.t 14) (.k (.int .i64 5))⟩, ⟨(some 16), (some (12, false)), .mov (.t 15)⟩, ⟨(some 17), (some (16, true)), .fad 5 (.t 1)⟩, ⟨(some 18), (some (16, true)), .load 1 false (.t 17)⟩, ⟨(some 19), (some (16, true)), .len false (.t 18)⟩, ⟨(some 20), (some (16, true)), .fad 6 (.t 1)⟩, ⟨(some 21), (some (16, true)), .load 1 false (.t 20)⟩, ⟨(some 22), (some (16, true)), .len false (.t 21)⟩, ⟨(some 23), (some (16, true)), .bin .add (.t 19) (.t 22)⟩, ⟨(some 24), (some (16, true)), .bin .gtr (.t 23) (.k (.int .i64 0))⟩, ⟨(some 25), (some (12, false)), .pick (.t 16) (.t 24) (.k (.bool false))⟩, ⟨(some 26), none, .pick (.t 12) (.k (.bool true)) (.t 25)⟩]) (.cond (.t 26) (.seq (.reg false [⟨(some 2), none, .mov (.k (.bool false))⟩]) .ret) .skip)) (.seq (.seq (.reg false [⟨(some 27), none, .fad 0 (.t 1)⟩, ⟨(some 28), none, .load 1 false (.t 27)⟩, ⟨(some 29), none, .bin .neq (.t 28) (.k (.int .i64 2))⟩, ⟨(some 30), none, .mov (.t 29)⟩, ⟨(some 31), (some (30, true)), .fad 3 (.t 1)⟩, ⟨(some 32), (some (30, true)), .load 1 false (.t 31)⟩, ⟨(some 33), (some (30, true)), .bin .neq (.t 32) (.k (.string ⟨#[]⟩))⟩, ⟨(some 34), none, .pick (.t 30) (.t 33) (.k (.bool false))⟩, ⟨(some 35), none, .mov (.t 34)⟩, ⟨(some 36), (some (35, false)), .fad 0 (.t 1)⟩, ⟨(some 37), (some (35, false)), .load 1 false (.t 36)⟩, ⟨(some 38), (some (35, false)), .bin .neq (.t 37) (.k (.int .i64 4))⟩, ⟨(some 39), (some (35, false)), .mov (.t 38)⟩, ⟨(some 40), (some (39, true)), .fad 2 (.t 1)⟩, ⟨(some 41), (some (39, true)), .load 1 false (.t 40)⟩, ⟨(some 42), (some (39, true)), .bin .neq (.t 41) (.k (.int .i64 0))⟩, ⟨(some 43), (some (35, false)), .pick (.t 39) (.t 42) (.k (.bool false))⟩, ⟨(some 44), none, .pick (.t 35) (.k (.bool true)) (.t 43)⟩]) (.cond (.t 44) (.seq (.reg false [⟨(some 2), none, .mov (.k (.bool false))⟩]) .ret) .skip)) (.seq (.seq (.reg false [⟨(some 45), none, .fad 0 (.t 1)⟩, ⟨(some 46), none, .load 1 false (.t 45)⟩]) (.block 0 (.seq (.reg false [⟨(some 48), none, .bin .eql (.t 46) (.k (.int .i64 1))⟩, ⟨(some 47), none, .mov (.t 48)⟩]) (.cond (.t 47) (.seq (.reg false [⟨(some 49), none, .fad 1 (.t 1)⟩, ⟨(some 50), none, .load 1 false (.t 49)⟩, ⟨(some 51), none, .call 78 [(.t 50)]⟩, ⟨(some 2), none, .mov (.t 51)⟩]) .ret) (.seq (.reg false [⟨(some 53), none, .bin .eql (.t 46) (.k (.int .i64 2))⟩, ⟨(some 52), none, .mov (.t 53)⟩]) (.cond (.t 52) (.seq (.reg false [⟨(some 54), none, .fad 1 (.t 1)⟩, ⟨(some 55), none, .load 1 false (.t 54)⟩, ⟨(some 56), none, .bin .eql (.t 55) (.k (.int .i64 0))⟩, ⟨(some 57), none, .mov (.t 56)⟩, ⟨(some 58), (some (57, true)), .fad 3 (.t 1)⟩, ⟨(some 59), (some (57, true)), .load 1 false (.t 58)⟩, ⟨(some 60), (some (57, true)), .call 79 [(.t 59)]⟩, ⟨(some 61), none, .pick (.t 57) (.t 60) (.k (.bool false))⟩, ⟨(some 2), none, .mov (.t 61)⟩]) .ret) (.seq (.reg false [⟨(some 63), none, .bin .eql (.t 46) (.k (.int .i64 3))⟩, ⟨(some 62), none, .mov (.t 63)⟩]) (.cond (.t 62) (.seq (.reg false [⟨(some 64), none, .fad 1 (.t 1)⟩, ⟨(some 65), none, .load 1 false (.t 64)⟩, ⟨(some 66), none, .bin .eql (.t 65) (.k (.int .i64 0))⟩, ⟨(some 67), none, .mov (.t 66)⟩, ⟨(some 68), (some (67, true)), .load 7 true (.t 1)⟩, ⟨(some 69), (some (67, true)), .call 80 [(.t 68)]⟩, ⟨(some 70), none, .pick (.t 67) (.t 69) (.k (.bool false))⟩, ⟨(some 2), none, .mov (.t 70)⟩]) .ret) (.seq (.reg false [⟨(some 72), none, .bin .eql (.t 46) (.k (.int .i64 4))⟩, ⟨(some 71), none, .mov (.t 72)⟩]) (.cond (.t 71) (.seq (.reg false [⟨(some 73), none, .fad 1 (.t 1)⟩, ⟨(some 74), none, .load 1 false (.t 73)⟩, ⟨(some 75), none, .call 78 [(.t 74)]⟩, ⟨(some 76), none, .mov (.t 75)⟩, ⟨(some 77), (some (76, true)), .fad 2 (.t 1)⟩, ⟨(some 78), (some (76, true)), .load 1 false (.t 77)⟩, ⟨(some 79), (some (76, true)), .call 78 [(.t 78)]⟩, ⟨(some 80), none, .pick (.t 76) (.t 79) (.k (.bool false))⟩, ⟨(some 2), none, .mov (.t 80)⟩]) .ret) (.seq (.reg false [⟨(some 82), none, .bin .eql (.t 46) (.k (.int .i64 5))⟩, ⟨(some 81), none, .mov (.t 82)⟩]) (.cond (.t 81) (.seq (.reg false [⟨(some 83), none, .fad 1 (.t 1)⟩, ⟨(some 84), none, .load 1 false (.t 83)⟩, ⟨(some 85), none, .bin .eql (.t 84) (.k (.int .i64 0))⟩, ⟨(some 86), none, .mov (.t 85)⟩, ⟨(some 87), (some (86, true)), .load 7 true (.t 1)⟩, ⟨(some 88), (some (86, true)), .call 81 [(.t 87)]⟩, ⟨(some 89), none, .pick (.t 86) (.t 88) (.k (.bool false))⟩, ⟨(some 2), none, .mov (.t 89)⟩]) .ret) (.seq (.reg false [⟨(some 91), none, .bin .eql (.t 46) (.k (.int .i64 6))⟩, ⟨(some 90), none, .mov (.t 91)⟩]) (.cond (.t 90) (.seq (.reg false [⟨(some 92), none, .fad 1 (.t 1)⟩, ⟨(some 93), none, .load 1 false (.t 92)⟩, ⟨(some 94), none, .call 68 [(.t 93), (.k (.int .i64 1)), (.k (.int .i64 8))]⟩, ⟨(some 2), none, .mov (.t 94)⟩]) .ret) .skip)))))))))))))) (.seq (.reg false [⟨(some 2), none, .mov (.k (.bool false))⟩]) .ret)))))
def ic_val_impl : IC := (.seq (.reg false [⟨(some 1), none, .box (.t 0)⟩, ⟨(some 2), none, .mov (.k (.bool false))⟩]) (.seq (.reg false [⟨(some 6), none, .fad 4 (.t 1)⟩, ⟨(some 7), none, .load 1 false (.t 6)⟩, ⟨(some 8), none, .len false (.t 7)⟩, ⟨(some 9), none, .bin .eql (.t 8) (.k (.int .i64 0))⟩, ⟨(some 10), none, .mov (.t 9)⟩, ⟨(some 11), (some (10, true)), .fad 5 (.t 1)⟩, ⟨(some 12), (some (10, true)), .load 1 false (.t 11)⟩, ⟨(some 13), (some (10, true)), .len false (.t 12)⟩, ⟨(some 14), (some (10, true)), .bin .eql (.t 13) (.k (.int .i64 0))⟩, ⟨(some 15), none, .pick (.t 10) (.t 14) (.k (.bool false))⟩, ⟨(some 16), none, .mov (.t 15)⟩, ⟨(some 17), (some (16, true)), .fad 6 (.t 1)⟩, ⟨(some 18), (some (16, true)), .load 1 false (.t 17)⟩, ⟨(some 19), (some (16, true)), .len false (.t 18)⟩, ⟨(some 20), (some (16, true)), .bin .eql (.t 19) (.k (.int .i64 0))⟩, ⟨(some 21), none, .pick (.t 16) (.t 20) (.k (.bool false))⟩, ⟨(some 3), none, .mov (.t 21)⟩]) (.seq (.seq (.reg false [⟨(some 22), none, .fad 0 (.t 1)⟩, ⟨(some 23), none, .load 1 false (.t 22)⟩]) (.block 0 (.seq (.reg false [⟨(some 25), none, .bin .eql (.t 23) (.k (.int .i64 1))⟩, ⟨(some 24), none, .mov (.t 25)⟩]) (.cond (.t 24) (.seq (.reg false [⟨(some 26), none, .mov (.t 3)⟩, ⟨(some 27), none, .mov (.t 26)⟩, ⟨(some 28), (some (27, true)), .fad 2 (.t 1)⟩, ⟨(some 29), (some (27, true)), .load 1 false (.t 28)⟩, ⟨(some 30), (some (27, true)), .bin .eql (.t 29) (.k (.int .i64 0))⟩, ⟨(some 31), none, .pick (.t 27) (.t 30) (.k (.bool false))⟩, ⟨(some 32), none, .mov (.t 31)⟩, ⟨(some 33), (some (32, true)), .fad 3 (.t 1)⟩, ⟨(some 34), (some (32, true)), .load 1 false (.t 33)⟩, ⟨(some 35), (some (32, true)), .bin .eql (.t 34) (.k (.string ⟨#[]⟩))⟩, ⟨(some 36), none, .pick (.t 32) (.t 35) (.k (.bool false))⟩, ⟨(some 37), none, .mov (.t 36)⟩, ⟨(some 38), (some (37, true)), .fad 1 (.t 1)⟩, ⟨(some 39), (some (37, true)), .load 1 false (.t 38)⟩, ⟨(some 40), (some (37, true)), .call 83 [(.t 39)]⟩, ⟨(some 41), none, .pick (.t 37) (.t 40) (.k (.bool false))⟩, ⟨(some 2), none, .mov (.t 41)⟩]) .ret) (.seq (.reg false [⟨(some 43), none, .bin .eql (.t 23) (.k (.int .i64 2))⟩, ⟨(some 42), none, .mov (.t 43)⟩]) (.cond (.t 42) (.seq (.reg false [⟨(some 44), none, .mov (.t 3)⟩, ⟨(some 45), none, .mov (.t 44)⟩, ⟨(some 46), (some (45, true)), .fad 1 (.t 1)⟩, ⟨(some 47), (some (45, true)), .load 1 false (.t 46)⟩, ⟨(some 48), (some (45, true)), .bin .eql (.t 47) (.k (.int .i64 0))⟩, ⟨(some 49), none, .pick (.t 45) (.t 48) (.k (.bool false))⟩, ⟨(some 50), none, .mov (.t 49)⟩, ⟨(some 51), (some (50, true)), .fad 2 (.t 1)⟩, ⟨(some 52), (some (50, true)), .load 1 false (.t 51)⟩, ⟨(some 53), (some (50, true)), .bin .eql (.t 52) (.k (.int .i64 0))⟩, ⟨(some 54), none, .pick (.t 50) (.t 53) (.k (.bool false))⟩, ⟨(some 55), none, .mov (.t 54)⟩, ⟨(some 56), (some (55, true)), .fad 3 (.t 1)⟩, ⟨(some 57), (some (55, true)), .load 1 false (.t 56)⟩, ⟨(some 58), (some (55, true)), .call 84 [(.t 57)]⟩, ⟨(some 59), none, .pick (.t 55) (.t 58) (.k (.bool false))⟩, ⟨(some 2), none, .mov (.t 59)⟩]) .ret) (.seq (.reg false [⟨(some 61), none, .bin .eql (.t 23) (.k (.int .i64 4))⟩, ⟨(some 60), none, .mov (.t 61)⟩]) (.cond (.t 60) (.seq (.reg false [⟨(some 62), none, .mov (.t 3)⟩, ⟨(some 63), none, .mov (.t 62)⟩, ⟨(some 64), (some (63, true)), .fad 3 (.t 1)⟩, ⟨(some 65), (some (63, true)), .load 1 false (.t 64)⟩, ⟨(some 66), (some (63, true)), .bin .eql (.t 65) (.k (.string ⟨#[]⟩))⟩, ⟨(some 67), none, .pick (.t 63) (.t 66) (.k (.bool false))⟩, ⟨(some 68), none, .mov (.t 67)⟩, ⟨(some 69), (some (68, true)), .fad 1 (.t 1)⟩, ⟨(some 70), (some (68, true)), .load 1 false (.t 69)⟩, ⟨(some 71), (some (68, true)), .call 83 [(.t 70)]⟩, ⟨(some 72), none, .pick (.t 68) (.t 71) (.k (.bool false))⟩, ⟨(some 73), none, .mov (.t 72)⟩, ⟨(some 74), (some (73, true)), .fad 2 (.t 1)⟩, ⟨(some 75), (some (73, true)), .load 1 false (.t 74)⟩, ⟨(some 76), (some (73, true)), .call 83 [(.t 75)]⟩, ⟨(some 77), none, .pick (.t 73) (.t 76) (.k (.bool false))⟩, ⟨(some 2), none, .mov (.t 77)⟩]) .ret) (.seq (.reg false [⟨(some 79), none, .bin .eql (.t 23) (.k (.int .i64 6))⟩, ⟨(some 78), none, .mov (.t 79)⟩]) (.cond (.t 78) (.seq (.reg false [⟨(some 80), none, .mov (.t 3)⟩, ⟨(some 81), none, .mov (.t 80)⟩, ⟨(some 82), (some (81, true)), .fad 2 (.t 1)⟩, ⟨(some 83), (some (81, true)), .load 1 false (.t 82)⟩, ⟨(some 84), (some (81, true)), .bin .eql (.t 83) (.k (.int .i64 0))⟩, ⟨(some 85), none, .pick (.t 81) (.t 84) (.k (.bool false))⟩, ⟨(some 86), none, .mov (.t 85)⟩, ⟨(some 87), (some (86, true)), .fad 3 (.t 1)⟩, ⟨(some 88), (some (86, true)), .load 1 false (.t 87)⟩, ⟨(some 89), (some (86, true)), .bin .eql (.t 88) (.k (.string ⟨#[]⟩))⟩, ⟨(some 90), none, .pick (.t 86) (.t 89) (.k (.bool false))⟩, ⟨(some 91), none, .mov (.t 90)⟩, ⟨(some 92), (some (91, true)), .fad 1 (.t 1)⟩, ⟨(some 93), (some (91, true)), .load 1 false (.t 92)⟩, ⟨(some 94), (some (91, true)), .call 71 [(.t 93), (.k (.int .i64 1)), (.k (.int .i64 8))]⟩, ⟨(some 95), none, .pick (.t 91) (.t 94) (.k (.bool false))⟩, ⟨(some 2), none, .mov (.t 95)⟩]) .ret) (.seq (.reg false [⟨(some 97), none, .bin .eql (.t 23) (.k (.int .i64 5))⟩, ⟨(some 96), none, .mov (.t 97)⟩]) (.cond (.t 96) (.seq (.reg false [⟨(some 98), none, .fad 1 (.t 1)⟩, ⟨(some 99), none, .load 1 false (.t 98)⟩, ⟨(some 100), none, .bin .eql (.t 99) (.k (.int .i64 0))⟩, ⟨(some 101), none, .mov (.t 100)⟩, ⟨(some 102), (some (101, true)), .fad 2 (.t 1)⟩, ⟨(some 103), (some (101, true)), .load 1 false (.t 102)⟩, ⟨(some 104), (some (101, true)), .bin .eql (.t 103) (.k (.int .i64 0))⟩, ⟨(some 105), none, .pick (.t 101) (.t 104) (.k (.bool false))⟩, ⟨(some 106), none, .mov (.t 105)⟩, ⟨(some 107), (some (106, true)), .fad 3 (.t 1)⟩, ⟨(some 108), (some (106, true)), .load 1 false (.t 107)⟩, ⟨(some 109), (some (106, true)), .bin .eql (.t 108) (.k (.string ⟨#[]⟩))⟩, ⟨(some 110), none, .pick (.t 106) (.t 109) (.k (.bool false))⟩, ⟨(some 111), none, .mov (.t 110)⟩, ⟨(some 112), (some (111, true)), .fad 4 (.t 1)⟩, ⟨(some 113), (some (111, true)), .load 1 false (.t 112)⟩, ⟨(some 114), (some (111, true)), .len false (.t 113)⟩, ⟨(some 115), (some (111, true)), .bin .eql (.t 114) (.k (.int .i64 0))⟩, ⟨(some 116), none, .pick (.t 111) (.t 115) (.k (.bool false))⟩, ⟨(some 117), none, .mov (.t 116)⟩, ⟨(some 118), (some (117, true)), .load 7 true (.t 1)⟩, ⟨(some 119), (some (117, true)), .call 85 [(.t 118)]⟩, ⟨(some 120), none, .pick (.t 117) (.t 119) (.k (.bool false))⟩, ⟨(some 2), none, .mov (.t 120)⟩]) .ret) (.seq (.reg false [⟨(some 122), none, .bin .eql (.t 23) (.k (.int .i64 3))⟩, ⟨(some 121), none, .mov (.t 122)⟩]) (.cond (.t 121) (.seq (.seq (.reg false [⟨(some 123), none, .fad 4 (.t 1)⟩, ⟨(some 124), none, .load 1 false (.t 123)⟩, ⟨(some 125), none, .len false (.t 124)⟩, ⟨(some 126), none, .mov (.k (.int .i64 0))⟩]) (.block 1 (.loop (.seq (.reg false [⟨(some 127), none, .bin .lss (.t 126) (.t 125)⟩]) (.seq (.cond (.t 127) .skip (.exit 1)) (.seq (.block 2 (.seq (.reg false [⟨(some 128), none, .iad 7 (.t 124) (.t 126)⟩, ⟨(some 129), none, .load 7 true (.t 128)⟩, ⟨(some 5), none, .alloc [(.int .i64 0), (.int .i64 0), (.int .i64 0), (.string ⟨#[]⟩), (.slice none 0 0), (.slice none 0 0), (.slice none 0 0)]⟩, ⟨none, none, .store 7 (.t 5) (.t 129)⟩]) (.seq (.reg false [⟨(some 130), none, .fad 0 (.t 5)⟩, ⟨(some 131), none, .load 1 false (.t 130)⟩, ⟨(some 132), none, .bin .neq (.t 131) (.k (.int .i64 1))⟩, ⟨(some 133), none, .mov (.t 132)⟩, ⟨(some 134), (some (133, true)), .fad 0 (.t 5)⟩, ⟨(some 135), (some (133, true)), .load 1 false (.t 134)⟩, ⟨(some 136), (some (133, true)), .bin .neq (.t 135) (.k (.int .i64 2))⟩, ⟨(some 137), none, .pick (.t 133) (.t 136) (.k (.bool false))⟩, ⟨(some 138), none, .mov (.t 137)⟩, ⟨(some 139), (some (138, true)), .fad 0 (.t 5)⟩, ⟨(some 140), (some (138, true)), .load 1 false (.t 139)⟩, ⟨(some 141), (some (138, true)), .bin .neq (.t 140) (.k (.int .i64 3))⟩, ⟨(some 142), none, .pick (.t 138) (.t 141) (.k (.bool false))⟩, ⟨(some 143), none, .mov (.t 142)⟩, ⟨(some 144), (some (143, false)), .load 7 true (.t 5)⟩, ⟨(some 145), (some (143, false)), .call 49 [(.t 144)]⟩, ⟨(some 146), (some (143, false)), .not (.t 145)⟩, ⟨(some 147), none, .pick (.t 143) (.k (.bool true)) (.t 146)⟩]) (.cond (.t 147) (.seq (.reg false [⟨(some 2), none, .mov (.k (.bool false))⟩]) .ret) .skip)))) (.reg false [⟨(some 148), none, .bin .add (.t 126) (.k (.int .i64 1))⟩, ⟨(some 126), none, .mov (.t 148)⟩]))))))) (.seq (.reg false [⟨(some 149), none, .fad 1 (.t 1)⟩, ⟨(some 150), none, .load 1 false (.t 149)⟩, ⟨(some 151), none, .bin .eql (.t 150) (.k (.int .i64 0))⟩, ⟨(some 152), none, .mov (.t 151)⟩, ⟨(some 153), (some (152, true)), .fad 2 (.t 1)⟩, ⟨(some 154), (some (152, true)), .load 1 false (.t 153)⟩, ⟨(some 155), (some (152, true)), .bin .eql (.t 154) (.k (.int .i64 0))⟩, ⟨(some 156), none, .pick (.t 152) (.t 155) (.k (.bool false))⟩, ⟨(some 157), none, .mov (.t 156)⟩, ⟨(some 158), (some (157, true)), .fad 3 (.t 1)⟩, ⟨(some 159), (some (157, true)), .load 1 false (.t 158)⟩, ⟨(some 160), (some (157, true)), .bin .eql (.t 159) (.k (.string ⟨#[]⟩))⟩, ⟨(some 161), none, .pick (.t 157) (.t 160) (.k (.bool false))⟩, ⟨(some 162), none, .mov (.t 161)⟩, ⟨(some 163), (some (162, true)), .fad 5 (.t 1)⟩, ⟨(some 164), (some (162, true)), .load 1 false (.t 163)⟩, ⟨(some 165), (some (162, true)), .len false (.t 164)⟩, ⟨(some 166), (some (162, true)), .bin .eql (.t 165) (.k (.int .i64 0))⟩, ⟨(some 167), none, .pick (.t 162) (.t 166) (.k (.bool false))⟩, ⟨(some 168), none, .mov (.t 167)⟩, ⟨(some 169), (some (168, true)), .fad 6 (.t 1)⟩, ⟨(some 170), (some (168, true)), .load 1 false (.t 169)⟩, ⟨(some 171), (some (168, true)), .len false (.t 170)⟩, ⟨(some 172), (some (168, true)), .bin .eql (.t 171) (.k (.int .i64 0))⟩, ⟨(some 173), none, .pick (.t 168) (.t 172) (.k (.bool false))⟩, ⟨(some 174), none, .mov (.t 173)⟩, ⟨(some 175), (some (174, true)), .fad 4 (.t 1)⟩, ⟨(some 176), (some (174, true)), .load 1 false (.t 175)⟩, ⟨(some 177), (some (174, true)), .len false (.t 176)⟩, ⟨(some 178), (some (174, true)), .bin .leq (.t 177) (.k (.int .i64 8))⟩, ⟨(some 179), none, .pick (.t 174) (.t 178) (.k (.bool false))⟩, ⟨(some 180), none, .mov (.t 179)⟩, ⟨(some 181), (some (180, true)), .load 7 true (.t 1)⟩, ⟨(some 182), (some (180, true)), .call 86 [(.t 181)]⟩, ⟨(some 183), (some (180, true)), .bin .leq (.t 182) (.k (.int .i64 3))⟩, ⟨(some 184), none, .pick (.t 180) (.t 183) (.k (.bool false))⟩, ⟨(some 2), none, .mov (.t 184)⟩]) .ret)) .skip)))))))))))))) (.seq (.reg false [⟨(some 2), none, .mov (.k (.bool false))⟩]) .ret))))
theorem ic_val_impl_ok : compC Tryd.prog (Tryd.f49.body.getD .skip) = some ic_val_impl := by kernel_rfl
set_option maxRecDepth 20000 in
set_option maxHeartbeats 8000000 in
theorem val_impl_to (x : GVal) (hs : x.small) (hk : x.kind = 5) (hl : x.list.length ≤ 2097152) : CallsTo Tryd.prog 49 [x.toD] (.c false [.raw (.bool (validT x))]) := by
  refine calls_one (fn := Tryd.f49) (t := 2) (by kernel_rfl) (by kernel_rfl) (by kernel_rfl) ic_val_impl_ok ?_
  unfold ic_val_impl
  change AWP _ _ _ (st0 185 _)
  simp only [undef, stS, st0, stN, D.av, D.avN, sl_agg, leaf_agg, li_agg, ls_agg, sl_acs, leaf_acs, li_acs, ls_acs, GOrigin.acs_eq, GOrigin.flat_eq, GOrigin.agg_eq, GRow.acs_eq, GRow.flat_eq, GRow.agg_eq, GVal.acs_eq, GVal.flat_eq, GVal.agg_eq, List.map_cons, List.map_nil, List.replicate, List.cons_append, List.nil_append, List.length_cons, List.length_nil, Nat.reduceAdd, Nat.reduceSub]
  have ht := tbl_impl_to x hs
  have hrl := hs.rows
  have hcl := hs.cols
  obtain ⟨b1, h1⟩ : ∃ b, (x.n == 0) = b := ⟨_, rfl⟩
  obtain ⟨b2, h2⟩ : ∃ b, (x.step == 0) = b := ⟨_, rfl⟩
  obtain ⟨b3, h3⟩ : ∃ b, (x.text.toList == (⟨#[]⟩ : ByteArray).toList) = b := ⟨_, rfl⟩
  have m1 := bne_of h1
  have m2 := bne_of h2
  by_cases h4 : 0 < x.list.length
  · have hf := validT_list h4
    have e4 : decide ((x.list.length : Int) > 0) = true := decide_eq_true (by omega)
    have e5 : ((x.list.length : Int) == 0) = false := beq_f (by omega)
    cases b1 <;> cases b2 <;> cases b3
    all_goals (simp only [Bool.not_true, Bool.not_false] at m1 m2)
    all_goals (repeat' (first | (with_reducible first | refine awp_seq ?_ | refine awp_block ?_ | refine awp_skip ?_ | refine awp_exit ?_ | refine awp_ret ?_ | refine athen ?_ | refine thenExit ?_ | refine thenRet ?_ | refine blockNormal ?_ | refine blockExit ?_ | refine blockRet ?_ | refine roundExit ?_ | refine roundRet ?_ | refine roundExitR ?_ | refine roundRetR ?_) | ((with_reducible refine blockPass ?_ ?_); rfl) | ((with_reducible refine awp_condT ?_ ?_); rfl) | ((with_reducible refine awp_condF ?_ ?_); rfl) | (with_reducible (refine awp_condS rfl ?_ ?_); all_goals (intro hb; have hb' := hb; (try simp only [pkC] at hb'); first | (exfalso; omega) | skip)) | ((with_reducible refine awp_reg ?_); intro K hK) | ((with_reducible refine sw_guardT ?_ ?_); rfl) | ((with_reducible refine sw_guardF ?_ ?_); (rfl; try simp only [St.put, undef, pkA, Nat.reduceAdd, Nat.reduceSub, Nat.reduceLeDiff, Nat.reduceEqDiff])) | (with_reducible (refine sw_guardS rfl ?_ ?_); all_goals (intro hb; have hb' := hb; (try simp only [pkC] at hb'); first | (exfalso; omega) | skip)) | ((with_reducible refine hK _ ?_); clear hK K) | (with_reducible refine and_split ?_ ?_) | ((with_reducible refine ct_id ?_); first | (refine callThen ht trivial ?_ ?_)) | ((with_reducible refine ctd_id ?_); first | (refine callThenD ht trivial ?_ ?_)) | ((with_reducible refine sw_id ?_); simp (disch := first | decide | omega) only [↓pkS, pkW, pkA, undef, capsOf, ex, St.put, St.ev, kav, gdA, opI, rawI, vbin, srcOf, avsD, acsD, AV.toD, AC.toD, AV.nw, AC.nw, AC.one, Value.oneCell', fillA, D.one, D.ones, D.sz, D.szs, Nat.reduceAdd, Nat.reduceSub, Nat.reduceLeDiff, Nat.reduceEqDiff, reduceIte, pkN, li_acs, ls_acs, sl_acs, GOrigin.acs_eq, GOrigin.flat_eq, GOrigin.agg_eq, GOrigin.el, GRow.acs_eq, GRow.flat_eq, GRow.agg_eq, GRow.el, GVal.acs_eq, GVal.flat_eq, GVal.agg_eq, el_ints, el_strs, hk, h1, h2, h3, m1, m2, e4, e5]) | (first | (with_reducible rfl) | (with_reducible refine fnok_id ?_; kernel_rfl) | exact el_strs _ | exact el_ints _ | exact el_ln _ | exact el_tk _ _ | exact el_td _ _ _ | omega | (simp; done) | (simp; omega)) | ((with_reducible refine args_id ?_); simp [ArgsOk, ArgOk, argsD, argD, AC.toD, Value.oneCell', sl_flat, leaf_flat, li_flat, ls_flat, sl_agg, leaf_agg, li_agg, ls_agg, mo_t, mo_f, li_acs, ls_acs, sl_acs, GOrigin.acs_eq, GOrigin.flat_eq, GOrigin.agg_eq, GOrigin.el, GRow.acs_eq, GRow.flat_eq, GRow.agg_eq, GRow.el, GVal.acs_eq, GVal.flat_eq, GVal.agg_eq, el_ints, el_strs, hk, h1, h2, h3, m1, m2, e4, e5]; first | done | rfl)))
    all_goals exact endRet ⟨_, rfl, by rw [hf]; rfl, trivial⟩
  have e4 : decide ((x.list.length : Int) > 0) = false := decide_eq_false (by omega)
  have e5 : ((x.list.length : Int) == 0) = true := beq_t (by omega)
  have hf : validT x = if b1 && (b2 && b3) then tblB x else false := by
    cases b1
    · rw [validT_n h1]; rfl
    cases b2
    · rw [validT_step h2]; rfl
    cases b3
    · rw [validT_text h3]; rfl
    rw [validT_eq h1 h2 h3 h4]; rfl
  cases b1 <;> cases b2 <;> cases b3
  all_goals (simp only [Bool.not_true, Bool.not_false] at m1 m2)
  all_goals (repeat' (first | (with_reducible first | refine awp_seq ?_ | refine awp_block ?_ | refine awp_skip ?_ | refine awp_exit ?_ | refine awp_ret ?_ | refine athen ?_ | refine thenExit ?_ | refine thenRet ?_ | refine blockNormal ?_ | refine blockExit ?_ | refine blockRet ?_ | refine roundExit ?_ | refine roundRet ?_ | refine roundExitR ?_ | refine roundRetR ?_) | ((with_reducible refine blockPass ?_ ?_); rfl) | ((with_reducible refine awp_condT ?_ ?_); rfl) | ((with_reducible refine awp_condF ?_ ?_); rfl) | (with_reducible (refine awp_condS rfl ?_ ?_); all_goals (intro hb; have hb' := hb; (try simp only [pkC] at hb'); first | (exfalso; omega) | skip)) | ((with_reducible refine awp_reg ?_); intro K hK) | ((with_reducible refine sw_guardT ?_ ?_); rfl) | ((with_reducible refine sw_guardF ?_ ?_); (rfl; try simp only [St.put, undef, pkA, Nat.reduceAdd, Nat.reduceSub, Nat.reduceLeDiff, Nat.reduceEqDiff])) | (with_reducible (refine sw_guardS rfl ?_ ?_); all_goals (intro hb; have hb' := hb; (try simp only [pkC] at hb'); first | (exfalso; omega) | skip)) | ((with_reducible refine hK _ ?_); clear hK K) | (with_reducible refine and_split ?_ ?_) | ((with_reducible refine ct_id ?_); first | (refine callThen ht trivial ?_ ?_)) | ((with_reducible refine ctd_id ?_); first | (refine callThenD ht trivial ?_ ?_)) | ((with_reducible refine sw_id ?_); simp (disch := first | decide | omega) only [↓pkS, pkW, pkA, undef, capsOf, ex, St.put, St.ev, kav, gdA, opI, rawI, vbin, srcOf, avsD, acsD, AV.toD, AC.toD, AV.nw, AC.nw, AC.one, Value.oneCell', fillA, D.one, D.ones, D.sz, D.szs, Nat.reduceAdd, Nat.reduceSub, Nat.reduceLeDiff, Nat.reduceEqDiff, reduceIte, pkN, li_acs, ls_acs, sl_acs, GOrigin.acs_eq, GOrigin.flat_eq, GOrigin.agg_eq, GOrigin.el, GRow.acs_eq, GRow.flat_eq, GRow.agg_eq, GRow.el, GVal.acs_eq, GVal.flat_eq, GVal.agg_eq, el_ints, el_strs, hk, h1, h2, h3, m1, m2, e4, e5]) | (first | (with_reducible rfl) | (with_reducible refine fnok_id ?_; kernel_rfl) | exact el_strs _ | exact el_ints _ | exact el_ln _ | exact el_tk _ _ | exact el_td _ _ _ | omega | (simp; done) | (simp; omega)) | ((with_reducible refine args_id ?_); simp [ArgsOk, ArgOk, argsD, argD, AC.toD, Value.oneCell', sl_flat, leaf_flat, li_flat, ls_flat, sl_agg, leaf_agg, li_agg, ls_agg, mo_t, mo_f, li_acs, ls_acs, sl_acs, GOrigin.acs_eq, GOrigin.flat_eq, GOrigin.agg_eq, GOrigin.el, GRow.acs_eq, GRow.flat_eq, GRow.agg_eq, GRow.el, GVal.acs_eq, GVal.flat_eq, GVal.agg_eq, el_ints, el_strs, hk, h1, h2, h3, m1, m2, e4, e5]; first | done | rfl)))
  all_goals exact endRet ⟨_, rfl, by rw [hf]; rfl, trivial⟩
end Go.Proofs.YtdjcflnemnknaaaDoor

namespace Go.Proofs.YtdjcflnemnknaaaDoor
open Go.RowKit
set_option linter.unusedSimpArgs false
set_option linter.unusedVariables false
/-! ### A nil slice reads as an empty list -/
def fixV : Value → D | .slice none 0 0 => .sl [] | v => .leaf v
mutual
def D.fix : D → D
  | .leaf v => fixV v
  | .sl l => .sl (D.fixs l)
  | .agg l => .agg (D.fixs l)
def D.fixs : List D → List D
  | [] => []
  | d :: l => d.fix :: D.fixs l
end
theorem agg_flatD (l : List D) : (D.agg l).flat = D.flats l := by rw [D.flat]
theorem flats_consD (d : D) (l : List D) : D.flats (d :: l) = d.flat ++ D.flats l := by rw [D.flats]
theorem flats_nilD : D.flats [] = [] := by rw [D.flats]
theorem agg_aggD (l : List D) : (D.agg l).isAgg = true := rfl
theorem fixs_len : ∀ (l : List D), (D.fixs l).length = l.length
  | [] => rfl
  | d :: l => by rw [D.fixs, List.length_cons, List.length_cons, fixs_len l]
theorem nil_read (w : World) : R w (.sl []) [] [.slice none 0 0] := by
  rw [R]
  exact ⟨none, 0, rfl, Nat.le_refl _, Nat.zero_le _, Or.inl ⟨rfl, rfl⟩⟩
theorem fixV_ok {w : World} {v : Value} {fp : List Nat} {cs : List Value} (h : R w (.leaf v) fp cs) : R w (fixV v) fp cs := by
  unfold fixV
  split
  · obtain ⟨rfl, rfl⟩ := h
    exact nil_read w
  · exact h
mutual
theorem fix_ok {w : World} : ∀ {d : D} {fp : List Nat} {cs : List Value}, R w d fp cs → R w d.fix fp cs
  | .leaf v, _, _, h => by rw [D.fix]; exact fixV_ok h
  | .sl l, fp, cs, h => by
    rw [D.fix]
    rw [R] at h ⊢
    obtain ⟨A, cap, rfl, h1, h2, h3⟩ := h
    refine ⟨A, cap, by rw [fixs_len], by rw [fixs_len]; exact h1, h2, ?_⟩
    rcases h3 with ⟨rfl, rfl⟩ | ⟨b, o, fp', cs', g1, g2, g3, g4, g5⟩
    · exact Or.inl ⟨rfl, rfl⟩
    · exact Or.inr ⟨b, o, fp', cs', g1, g2, g3, fixs_ok g4, g5⟩
  | .agg l, fp, cs, h => by
    rw [D.fix, R]
    rw [R] at h
    exact fixs_ok h
theorem fixs_ok {w : World} : ∀ {l : List D} {fp : List Nat} {cs : List Value}, Rs w l fp cs → Rs w (D.fixs l) fp cs
  | [], _, _, h => h
  | d :: l, _, _, h => by
    obtain ⟨f1, f2, c1, c2, rfl, rfl, h1, h2⟩ := h
    exact ⟨f1, f2, c1, c2, rfl, rfl, fix_ok h1, fixs_ok h2⟩
end
theorem agg_fix {w : World} {l : List D} {vs : List Value} (h : Rds w [.agg l] vs) : Rds w [.agg (D.fixs l)] vs := by
  obtain ⟨v, rfl, h1⟩ := rds1 h
  obtain ⟨fp, cs, rfl, h2⟩ := rd_agg rfl h1
  refine ⟨rd_of_agg rfl (fp := fp) (cs := cs) ?_, trivial⟩
  rw [R] at h2 ⊢
  exact fixs_ok h2
theorem CallsTo.fix1 {P : Program} {f : Nat} {l : List D} {r : AV} (h : CallsTo P f [.agg (D.fixs l)] r) : CallsTo P f [.agg l] r := fun w vs h1 h2 => h w vs (agg_fix h1) h2
theorem fixs_li : ∀ (l : List Int), D.fixs (l.map li) = l.map li
  | [] => rfl
  | n :: l => by rw [List.map_cons, D.fixs, fixs_li l]; rfl
theorem fixs_ls : ∀ (l : List ByteArray), D.fixs (l.map ls) = l.map ls
  | [] => rfl
  | n :: l => by rw [List.map_cons, D.fixs, fixs_ls l]; rfl
/-! ### What is asked -/
def rowD (p : ByteArray) : D := .agg [.sl ((rowV p).map li), .leaf (.slice none 0 0)]
def rowG (p : ByteArray) : GRow := ⟨rowV p, []⟩
theorem rowD_fix (p : ByteArray) : (rowD p).fix = (rowG p).toD := by
  unfold rowD
  rw [D.fix, D.fixs, D.fix, fixs_li]
  rfl
theorem rowDs_fix : ∀ (l : List ByteArray), D.fixs (l.map rowD) = (l.map rowG).map GRow.toD
  | [] => rfl
  | p :: l => by rw [List.map_cons, D.fixs, rowD_fix, rowDs_fix l]; rfl
def rowGood (c : Nat) (p : ByteArray) : Bool := rowOk p && decide ((rowV p).length = c)
def headD (s : ByteArray) : ByteArray := (partsD s).getD 0 ⟨#[]⟩
def tailD (s : ByteArray) : List ByteArray := (partsD s).drop 1
def colsD (s : ByteArray) : List ByteArray := cut spB (headD s)
def valD (s : ByteArray) : GVal := .mk 5 0 0 ⟨#[]⟩ [] (colsD s) ((tailD s).map rowG)
/-- Is the text that of a table? -/
def isD (s : ByteArray) : Bool := allL (rowGood (colsD s).length) (tailD s) && (colsB (colsD s) && decide ((tailD s).length ≤ 12))
theorem allL_true {α : Type} {p : α → Bool} {l : List α} (h : ∀ x ∈ l, p x = true) : allL p l = true := by
  unfold allL
  suffices ∀ n, n ≤ l.length → allN (pAt p l) n = true from this _ (Nat.le_refl _)
  intro n
  induction n with
  | zero => intro _; rfl
  | succ n ih => intro hn; exact allN_succ (ih (by omega)) ((pAt_eq p (by omega)).trans (h _ (List.getElem_mem _)))
theorem rowV_num {p : ByteArray} (h : rowOk p = true) : allL numB (rowV p) = true := by
  refine allL_true fun n hn => ?_
  unfold rowV at hn
  obtain ⟨w, hw, rfl⟩ := List.mem_map.1 hn
  have hk := allL_mem h w hw
  have := rdN_hi (-1000000000) 1000000000 w hk
  unfold valW numB inR
  simp only [Bool.and_eq_true, decide_eq_true_eq]
  exact this
theorem valD_valid {s : ByteArray} (h : allL (rowGood (colsD s).length) (tailD s) = true) : validT (valD s) = (colsB (colsD s) && decide ((tailD s).length ≤ 12)) := by
  have hr : allL (rowB (colsD s).length) ((tailD s).map rowG) = true := by
    refine allL_true fun r hr => ?_
    obtain ⟨p, hp, rfl⟩ := List.mem_map.1 hr
    have hg := allL_mem h p hp
    unfold rowGood at hg
    simp only [Bool.and_eq_true, decide_eq_true_eq] at hg
    exact rowB_true hg.2 rfl (rowV_num hg.1)
  show ((0 : Int) == 0 && ((0 : Int) == 0 && (((⟨#[]⟩ : ByteArray).toList == (⟨#[]⟩ : ByteArray).toList) && (decide (([] : List GVal).length = 0) && tblB (valD s))))) = _
  have ht : tblB (valD s) = (colsB (colsD s) && (decide (((tailD s).map rowG).length ≤ 12) && allL (rowB (colsD s).length) ((tailD s).map rowG))) := rfl
  rw [ht, hr, List.length_map]
  simp
/-- The first row that fails, counted from 1; -1 if none does. -/
def badL (c : Nat) : List ByteArray → Nat → Int
  | [], _ => -1
  | p :: r, i => if rowGood c p = true then (if 12 ≤ i then ((i + 1 : Nat) : Int) else badL c r (i + 1)) else ((i + 1 : Nat) : Int)
theorem badL_at {c : Nat} {l : List ByteArray} {k : Nat} (h : k < l.length) : badL c (l.drop k) k = if rowGood c l[k] = true then (if 12 ≤ k then ((k + 1 : Nat) : Int) else badL c (l.drop (k + 1)) (k + 1)) else ((k + 1 : Nat) : Int) := by
  rw [List.drop_eq_getElem_cons h, badL]
def errD (s : ByteArray) : Int := if colsB (colsD s) = true then badL (colsD s).length (tailD s) 0 else 0
theorem badL_none {c : Nat} {l : List ByteArray} (hl : l.length ≤ 12) (h : allL (rowGood c) l = true) : ∀ n k, l.length - k = n → badL c (l.drop k) k = -1 := by
  intro n
  induction n with
  | zero => intro k hk; rw [List.drop_eq_nil_of_le (by omega)]; rfl
  | succ n ih =>
    intro k hk
    have hlt : k < l.length := by omega
    rw [badL_at hlt, if_pos (allL_mem h _ (List.getElem_mem hlt)), if_neg (by omega)]
    exact ih (k + 1) (by omega)
theorem errD_ok {s : ByteArray} (h : isD s = true) : errD s = -1 := by
  unfold isD at h
  simp only [Bool.and_eq_true, decide_eq_true_eq] at h
  unfold errD
  rw [if_pos h.2.1]
  have := badL_none h.2.2 h.1 _ 0 rfl
  rwa [List.drop_zero] at this
structure SzD (s : ByteArray) : Prop where
  parts : (partsD s).length ≤ 1048577
  pos : 0 < (partsD s).length
  piece : ∀ p ∈ partsD s, p.size ≤ 1048576
  cols : (colsD s).length ≤ 1048577
  tl : (tailD s).length = (partsD s).length - 1
theorem szD {s : ByteArray} (hs : s.size ≤ 1048576) : SzD s := by
  have h1 : 0 < (partsD s).length := List.length_pos_iff.2 (cut_ne _ _)
  have h2 : ∀ p ∈ partsD s, p.size ≤ 1048576 := fun p hp => Nat.le_trans (cut_piece (sep := ⟨#[59, 32]⟩) (show 1 ≤ 2 by decide) hp) hs
  have h3 : headD s ∈ partsD s := by
    unfold headD
    rw [List.getD_eq_getElem?_getD, List.getElem?_eq_getElem h1]
    exact List.getElem_mem h1
  exact ⟨by have := cut_le ⟨#[59, 32]⟩ s (show 1 ≤ 2 by decide); unfold partsD; omega, h1, h2, by have := cut_le spB (headD s) (by decide); have := h2 _ h3; unfold colsD; omega, by unfold tailD; rw [List.length_drop]⟩
def ic_pd_impl : IC := (.seq (.reg false [⟨(some 2), none, .alloc [(.int .i64 0), (.int .i64 0), (.int .i64 0), (.string ⟨#[]⟩), (.slice none 0 0), (.slice none 0 0), (.slice none 0 0)]⟩, ⟨(some 3), none, .mov (.k (.bool false))⟩]) (.seq (.reg false [⟨(some 10), none, .mov (.t 0)⟩, ⟨(some 11), none, .call 62 [(.t 10), (.k (.string ⟨#[59, 32]⟩))]⟩, ⟨(some 4), none, .mov (.t 11)⟩]) (.seq (.reg false [⟨(some 12), none, .mov (.t 4)⟩, ⟨(some 13), none, .iad 1 (.t 12) (.k (.int .i64 0))⟩, ⟨(some 14), none, .load 1 false (.t 13)⟩, ⟨(some 15), none, .call 63 [(.t 14), (.k (.int .u8 32))]⟩, ⟨(some 16), none, .bld [(.int .i64 0), (.int .i64 0), (.int .i64 0), (.string ⟨#[]⟩), (.slice none 0 0), (.slice none 0 0), (.slice none 0 0)] [(0, 1, (.k (.int .i64 5))), (5, 1, (.t 15))]⟩, ⟨(some 5), none, .alloc [(.int .i64 0), (.int .i64 0), (.int .i64 0), (.string ⟨#[]⟩), (.slice none 0 0), (.slice none 0 0), (.slice none 0 0)]⟩, ⟨none, none, .store 7 (.t 5) (.t 16)⟩]) (.seq (.seq (.reg false [⟨(some 17), none, .mov (.t 4)⟩, ⟨(some 18), none, .lsl 1 (.t 17) (some (.k (.int .i64 1))) none⟩, ⟨(some 19), none, .len false (.t 18)⟩, ⟨(some 20), none, .mov (.k (.int .i64 0))⟩]) (.block 0 (.loop (.seq (.reg false [⟨(some 21), none, .bin .lss (.t 20) (.t 19)⟩]) (.seq (.cond (.t 21) .skip (.exit 0)) (.seq (.block 1 (.seq (.reg false [⟨(some 22), none, .iad 1 (.t 18) (.t 20)⟩, ⟨(some 23), none, .load 1 false (.t 22)⟩, ⟨(some 7), none, .mov (.t 23)⟩]) (.seq (.reg false [⟨(some 25), none, .mov (.t 7)⟩, ⟨(some 26), none, .fad 5 (.t 5)⟩, ⟨(some 27), none, .load 1 false (.t 26)⟩, ⟨(some 28), none, .len false (.t 27)⟩, ⟨(some 29), none, .call 65 [(.t 25), (.t 28)]⟩, ⟨(some 24), none, .mov (.t 29)⟩, ⟨(some 30), none, .ext 0 (.t 24)⟩, ⟨(some 31), none, .ext 1 (.t 24)⟩, ⟨(some 8), none, .mov (.t 30)⟩, ⟨(some 9), none, .mov (.t 31)⟩]) (.seq (.seq (.reg false [⟨(some 32), none, .mov (.t 9)⟩, ⟨(some 33), none, .not (.t 32)⟩]) (.cond (.t 33) (.seq (.reg false [⟨(some 34), none, .bld [(.int .i64 0), (.int .i64 0), (.int .i64 0), (.string ⟨#[]⟩), (.slice none 0 0), (.slice none 0 0), (.slice none 0 0)] []⟩, ⟨none, none, .store 7 (.t 2) (.t 34)⟩, ⟨(some 3), none, .mov (.k (.bool false))⟩]) .ret) .skip)) (.reg false [⟨(some 35), none, .fad 6 (.t 5)⟩, ⟨(some 36), none, .load 1 false (.t 35)⟩, ⟨(some 37), none, .mov (.t 8)⟩, ⟨(some 38), none, .bld [(.slice none 0 0), (.slice none 0 0)] [(0, 1, (.t 37))]⟩, ⟨(some 39), none, .brow false 76 2 1 false [(.t 38)]⟩, ⟨(some 40), none, .app 76 2 (.t 36) (.t 39)⟩, ⟨(some 41), none, .fad 6 (.t 5)⟩, ⟨none, none, .store 1 (.t 41) (.t 40)⟩]))))) (.reg false [⟨(some 42), none, .bin .add (.t 20) (.k (.int .i64 1))⟩, ⟨(some 20), none, .mov (.t 42)⟩]))))))) (.seq (.seq (.reg false [⟨(some 43), none, .load 7 true (.t 5)⟩, ⟨(some 44), none, .call 49 [(.t 43)]⟩, ⟨(some 45), none, .not (.t 44)⟩]) (.cond (.t 45) (.seq (.reg false [⟨(some 46), none, .bld [(.int .i64 0), (.int .i64 0), (.int .i64 0), (.string ⟨#[]⟩), (.slice none 0 0), (.slice none 0 0), (.slice none 0 0)] []⟩, ⟨none, none, .store 7 (.t 2) (.t 46)⟩, ⟨(some 3), none, .mov (.k (.bool false))⟩]) .ret) .skip)) (.seq (.reg false [⟨(some 47), none, .load 7 true (.t 5)⟩, ⟨none, none, .store 7 (.t 2) (.t 47)⟩, ⟨(some 3), none, .mov (.k (.bool true))⟩]) .ret))))))
theorem ic_pd_impl_ok : compC Tryd.prog (Tryd.f61.body.getD .skip) = some ic_pd_impl := by kernel_rfl
set_option maxHeartbeats 16000000 in
theorem parseData_impl_bad (s : ByteArray) (hs : s.size ≤ 1048576) (hD : isD s = false) : CallsTo Tryd.prog 61 [ls s] (.tup [(true, [.raw (.int .i64 0), .raw (.int .i64 0), .raw (.int .i64 0), .raw (.string ⟨#[]⟩), .raw (.slice none 0 0), .raw (.slice none 0 0), .raw (.slice none 0 0)]), (false, [.raw (.bool false)])]) := by
  refine calls_two (fn := Tryd.f61) (r := .cell 2 50) (q := .tmp 3) (by kernel_rfl) (by kernel_rfl) (by kernel_rfl) (by kernel_rfl) ic_pd_impl_ok ?_
  unfold ic_pd_impl
  change AWP _ _ _ (st0 48 _)
  simp only [undef, stS, st0, stN, D.av, D.avN, sl_agg, leaf_agg, li_agg, ls_agg, sl_acs, leaf_acs, li_acs, ls_acs, List.map_cons, List.map_nil, List.replicate, List.cons_append, List.nil_append, List.length_cons, List.length_nil, Nat.reduceAdd, Nat.reduceSub]
  have hz := szD hs
  obtain ⟨ps, hps⟩ : ∃ l, partsD s = l := ⟨_, rfl⟩
  obtain ⟨cols, hcols⟩ : ∃ l, colsD s = l := ⟨_, rfl⟩
  obtain ⟨tl, htl⟩ : ∃ l, tailD s = l := ⟨_, rfl⟩
  obtain ⟨z1, z2, z3, z4, z5⟩ := hz
  rw [hps] at z1 z2 z3 z5
  rw [hcols] at z4
  rw [htl] at z5
  have htd : tl = ps.drop 1 := by rw [← htl, ← hps]; rfl
  have htz : ∀ p ∈ tl, p.size ≤ 1048576 := fun p hp => z3 p (by rw [htd] at hp; exact List.mem_of_mem_drop hp)
  obtain ⟨hd, hhd⟩ : ∃ h, headD s = h := ⟨_, rfl⟩
  have hhm : hd ∈ ps := by
    rw [← hhd]
    unfold headD
    rw [hps, List.getD_eq_getElem?_getD, List.getElem?_eq_getElem z2]
    exact List.getElem_mem z2
  have hi0 : idx (ps.map ls) (some 0) = some (ls hd) := by
    have := idx_map ls ps (k := 0) z2
    rw [show ((0 : Nat) : Int) = 0 from rfl] at this
    rw [this, ← hhd]
    unfold headD
    rw [hps, List.getD_eq_getElem?_getD, List.getElem?_eq_getElem z2]
    rfl
  have hcc : cut spB hd = cols := by rw [← hcols, ← hhd]; rfl
  have hT : ((ps.map ls).take ps.length).drop 1 = tl.map ls := by rw [List.take_of_length_le (by rw [List.length_map]; exact Nat.le_refl _), ← List.map_drop, htd]
  have hsb : subB (some 1) none ps.length = some (1, ps.length) := subB_one (by omega)
  have hsp : CallsTo Tryd.prog 62 [ls s, ls ⟨#[59, 32]⟩] (.c false [.sl true (ps.map ls)]) := by
    rw [← hps]
    exact split_to s ⟨#[59, 32]⟩ hs (show 1 ≤ 2 by decide)
  have hspc : CallsTo Tryd.prog 63 [ls hd, .leaf (.int .u8 32)] (.c false [.sl true (cols.map ls)]) := by
    rw [← hcc]
    exact splitByte_impl_to hd 32 (z3 hd hhm)
  repeat' (first | (with_reducible first | refine awp_seq ?_ | refine awp_block ?_ | refine awp_skip ?_ | refine awp_exit ?_ | refine awp_ret ?_ | refine athen ?_ | refine thenExit ?_ | refine thenRet ?_ | refine blockNormal ?_ | refine blockExit ?_ | refine blockRet ?_ | refine roundExit ?_ | refine roundRet ?_ | refine roundExitR ?_ | refine roundRetR ?_) | ((with_reducible refine blockPass ?_ ?_); rfl) | ((with_reducible refine awp_condT ?_ ?_); rfl) | ((with_reducible refine awp_condF ?_ ?_); rfl) | (with_reducible (refine awp_condS rfl ?_ ?_); all_goals (intro hb; have hb' := hb; (try simp only [pkC] at hb'); first | (exfalso; omega) | skip)) | ((with_reducible refine awp_reg ?_); intro K hK) | ((with_reducible refine hK _ ?_); clear hK K) | (with_reducible refine and_split ?_ ?_) | ((with_reducible refine ct_id ?_); first | (refine callThen hsp trivial ?_ ?_) | (refine callThen hspc trivial ?_ ?_)) | ((with_reducible refine ctd_id ?_); first | (refine callThenD hsp trivial ?_ ?_) | (refine callThenD hspc trivial ?_ ?_)) | ((with_reducible refine sw_id ?_); simp (disch := first | decide | omega) only [↓pkS, pkW, pkA, undef, capsOf, ex, St.put, St.ev, kav, gdA, opI, rawI, vbin, srcOf, avsD, acsD, AV.toD, AC.toD, AV.nw, AC.nw, AC.one, Value.oneCell', fillA, D.one, D.ones, D.sz, D.szs, Nat.reduceAdd, Nat.reduceSub, Nat.reduceLeDiff, Nat.reduceEqDiff, reduceIte, pkN, li_acs, ls_acs, sl_acs, GRow.acs_eq, GRow.flat_eq, GRow.agg_eq, GRow.el, el_ints, el_strs, hi0, hT, hsb]) | (first | (with_reducible rfl) | (with_reducible refine fnok_id ?_; kernel_rfl) | exact el_strs _ | exact el_ints _ | exact el_ln _ | exact el_tk _ _ | exact el_td _ _ _ | omega | (simp; done) | (simp; omega)) | ((with_reducible refine args_id ?_); simp [ArgsOk, ArgOk, argsD, argD, AC.toD, Value.oneCell', sl_flat, leaf_flat, li_flat, ls_flat, sl_agg, leaf_agg, li_agg, ls_agg, mo_t, mo_f, li_acs, ls_acs, sl_acs, GRow.acs_eq, GRow.flat_eq, GRow.agg_eq, GRow.el, el_ints, el_strs, hi0, hT, hsb]; first | done | rfl))
  clear hsp hspc
  refine awp_loopB (X := Nat × Option Nat) (fun q => [.d, .d, .k, .d, .d, .k, .d, .d, .d, .d, .d, .d, .d, .d, .d, .d, .d, .d, .k, .k, .v (.c false [.raw (.int .i64 (q.1 : Nat))]), .d, .d, .d, .d, .d, .d, .d, .d, .d, .d, .d, .d, .d, .d, .d, .d, .d, .d, .d, .d, .d, .d, .d, .d, .d, .d, .d]) (fun q => match q.2 with | none => [] | some w => [⟨(tl.map rowD).take q.1, 76, 2, w, true⟩]) (fun q bs => [[.raw (.int .i64 0), .raw (.int .i64 0), .raw (.int .i64 0), .raw (.string ⟨#[]⟩), .raw (.slice none 0 0), .raw (.slice none 0 0), .raw (.slice none 0 0)], [.raw (.int .i64 5), .raw (.int .i64 0), .raw (.int .i64 0), .raw (.string ⟨#[]⟩), .raw (.slice none 0 0), .sl true (cols.map ls), (match q.2 with | none => .raw (.slice none 0 0) | some w => .own 0 w)]]) (fun q => q.1 ≤ tl.length ∧ allN (pAt (rowGood cols.length) tl) q.1 = true ∧ (match q.2 with | none => q.1 = 0 | some _ => 0 < q.1)) (fun q => tl.length - q.1) (0, none) ⟨Nat.zero_le _, rfl, rfl⟩ ?_ ?_
  · simp [StLe', FrLe, OwnLe, BoxLe, AV.fits, AC.fits, FB, mask]
  have hsm : (valD s).small := by
    refine ⟨by show (colsD s).length ≤ _; rw [hcols]; omega, fun w hw => ?_, by show ((tailD s).map rowG).length ≤ _; rw [List.length_map, htl]; omega, fun r hr => ?_, fun r hr => ?_⟩
    · have hw2 : w ∈ cut spB (headD s) := hw
      have := cut_piece (sep := spB) (by decide) hw2
      have := z3 hd hhm
      rw [← hhd] at this
      omega
    · obtain ⟨p, hp, rfl⟩ := List.mem_map.1 (show r ∈ (tailD s).map rowG from hr)
      rw [htl] at hp
      show (rowV p).length ≤ _
      unfold rowV
      rw [List.length_map]
      have h1 := htz p hp
      have := cut_le spB p (by decide)
      omega
    · obtain ⟨p, hp, rfl⟩ := List.mem_map.1 (show r ∈ (tailD s).map rowG from hr)
      exact Nat.zero_le _
  have hval : ∀ X : D, X.fix = .sl (((tailD s).map rowG).map GRow.toD) → allL (rowGood cols.length) tl = true → CallsTo Tryd.prog 49 [.agg [li 5, li 0, li 0, ls ⟨#[]⟩, .leaf (.slice none 0 0), .sl (cols.map ls), X]] (.c false [.raw (.bool (isD s))]) := fun X hX hA => by
    have h := val_impl_to (valD s) hsm rfl (Nat.zero_le _)
    have hA2 : allL (rowGood (colsD s).length) (tailD s) = true := by rw [hcols, htl]; exact hA
    rw [valD_valid hA2, GVal.toD_eq] at h
    have he : isD s = (colsB (colsD s) && decide ((tailD s).length ≤ 12)) := by unfold isD; rw [hA2]; rfl
    rw [he]
    refine CallsTo.fix1 ?_
    show CallsTo _ _ [.agg [li 5, li 0, li 0, ls ⟨#[]⟩, .sl [], .sl (D.fixs (cols.map ls)), X.fix]] _
    rw [hX, fixs_ls, ← hcols]
    exact h
  rintro ⟨k, _ | v⟩ ⟨hk, hall, hk0⟩
  · simp only at hk hall hk0
    subst hk0
    simp only [FB, mask]
    by_cases hlk : 0 < tl.length
    · have hg : idx (tl.map ls) (some ((0 : Nat) : Int)) = some (ls tl[0]) := idx_map ls tl hlk
      have hpz := htz _ (List.getElem_mem hlk)
      cases hro : rowOk tl[0] with
      | false =>
        have hrow := row_impl_bad tl[0] cols.length hpz z4 hro
        have hr : isD s = false := by unfold isD; rw [hcols, htl, allL_false hlk (show rowGood cols.length tl[0] = false by unfold rowGood; rw [hro]; rfl)]; rfl
        repeat' (first | (with_reducible first | refine awp_seq ?_ | refine awp_block ?_ | refine awp_skip ?_ | refine awp_exit ?_ | refine awp_ret ?_ | refine athen ?_ | refine thenExit ?_ | refine thenRet ?_ | refine blockNormal ?_ | refine blockExit ?_ | refine blockRet ?_ | refine roundExit ?_ | refine roundRet ?_ | refine roundExitR ?_ | refine roundRetR ?_) | ((with_reducible refine blockPass ?_ ?_); rfl) | ((with_reducible refine awp_condT ?_ ?_); rfl) | ((with_reducible refine awp_condF ?_ ?_); rfl) | (with_reducible (refine awp_condS rfl ?_ ?_); all_goals (intro hb; have hb' := hb; (try simp only [pkC] at hb'); first | (exfalso; omega) | skip)) | ((with_reducible refine awp_reg ?_); intro K hK) | ((with_reducible refine hK _ ?_); clear hK K) | (with_reducible refine and_split ?_ ?_) | ((with_reducible refine ct_id ?_); first | (refine callThen hrow trivial ?_ ?_)) | ((with_reducible refine ctd_id ?_); first | (refine callThenD hrow trivial ?_ ?_)) | ((with_reducible refine sw_id ?_); simp (disch := first | decide | omega) only [↓pkS, pkW, pkA, undef, capsOf, ex, St.put, St.ev, kav, gdA, opI, rawI, vbin, srcOf, avsD, acsD, AV.toD, AC.toD, AV.nw, AC.nw, AC.one, Value.oneCell', fillA, D.one, D.ones, D.sz, D.szs, Nat.reduceAdd, Nat.reduceSub, Nat.reduceLeDiff, Nat.reduceEqDiff, reduceIte, pkN, li_acs, ls_acs, sl_acs, GRow.acs_eq, GRow.flat_eq, GRow.agg_eq, GRow.el, el_ints, el_strs, hg]) | (first | (with_reducible rfl) | (with_reducible refine fnok_id ?_; kernel_rfl) | exact el_strs _ | exact el_ints _ | exact el_ln _ | exact el_tk _ _ | exact el_td _ _ _ | omega | (simp; done) | (simp; omega)) | ((with_reducible refine args_id ?_); simp [ArgsOk, ArgOk, argsD, argD, AC.toD, Value.oneCell', sl_flat, leaf_flat, li_flat, ls_flat, sl_agg, leaf_agg, li_agg, ls_agg, mo_t, mo_f, li_acs, ls_acs, sl_acs, GRow.acs_eq, GRow.flat_eq, GRow.agg_eq, GRow.el, el_ints, el_strs, hg]; first | done | rfl))
        exact endRet ⟨⟨0, _, rfl, rfl, by simp [AcsFits, AcFits]⟩, ⟨_, rfl, rfl, trivial⟩⟩
      | true =>
        have hrow := row_impl_ok tl[0] cols.length hpz z4 hro
        by_cases hlen : (rowV tl[0]).length = cols.length
        case neg =>
          rw [decide_eq_false hlen] at hrow
          have hr : isD s = false := by unfold isD; rw [hcols, htl, allL_false hlk (show rowGood cols.length tl[0] = false by unfold rowGood; rw [hro, decide_eq_false hlen]; rfl)]; rfl
          repeat' (first | (with_reducible first | refine awp_seq ?_ | refine awp_block ?_ | refine awp_skip ?_ | refine awp_exit ?_ | refine awp_ret ?_ | refine athen ?_ | refine thenExit ?_ | refine thenRet ?_ | refine blockNormal ?_ | refine blockExit ?_ | refine blockRet ?_ | refine roundExit ?_ | refine roundRet ?_ | refine roundExitR ?_ | refine roundRetR ?_) | ((with_reducible refine blockPass ?_ ?_); rfl) | ((with_reducible refine awp_condT ?_ ?_); rfl) | ((with_reducible refine awp_condF ?_ ?_); rfl) | (with_reducible (refine awp_condS rfl ?_ ?_); all_goals (intro hb; have hb' := hb; (try simp only [pkC] at hb'); first | (exfalso; omega) | skip)) | ((with_reducible refine awp_reg ?_); intro K hK) | ((with_reducible refine hK _ ?_); clear hK K) | (with_reducible refine and_split ?_ ?_) | ((with_reducible refine ct_id ?_); first | (refine callThen hrow trivial ?_ ?_)) | ((with_reducible refine ctd_id ?_); first | (refine callThenD hrow trivial ?_ ?_)) | ((with_reducible refine sw_id ?_); simp (disch := first | decide | omega) only [↓pkS, pkW, pkA, undef, capsOf, ex, St.put, St.ev, kav, gdA, opI, rawI, vbin, srcOf, avsD, acsD, AV.toD, AC.toD, AV.nw, AC.nw, AC.one, Value.oneCell', fillA, D.one, D.ones, D.sz, D.szs, Nat.reduceAdd, Nat.reduceSub, Nat.reduceLeDiff, Nat.reduceEqDiff, reduceIte, pkN, li_acs, ls_acs, sl_acs, GRow.acs_eq, GRow.flat_eq, GRow.agg_eq, GRow.el, el_ints, el_strs, hg]) | (first | (with_reducible rfl) | (with_reducible refine fnok_id ?_; kernel_rfl) | exact el_strs _ | exact el_ints _ | exact el_ln _ | exact el_tk _ _ | exact el_td _ _ _ | omega | (simp; done) | (simp; omega)) | ((with_reducible refine args_id ?_); simp [ArgsOk, ArgOk, argsD, argD, AC.toD, Value.oneCell', sl_flat, leaf_flat, li_flat, ls_flat, sl_agg, leaf_agg, li_agg, ls_agg, mo_t, mo_f, li_acs, ls_acs, sl_acs, GRow.acs_eq, GRow.flat_eq, GRow.agg_eq, GRow.el, el_ints, el_strs, hg]; first | done | rfl))
          exact endRet ⟨⟨0, _, rfl, rfl, by simp [AcsFits, AcFits]⟩, ⟨_, rfl, rfl, trivial⟩⟩
        rw [decide_eq_true hlen] at hrow
        have hs1 := allN_succ hall ((pAt_eq (rowGood cols.length) hlk).trans (by unfold rowGood; rw [hro, decide_eq_true hlen]; rfl))
        have htk : (tl.map rowD).take (0 + 1) = (tl.map rowD).take 0 ++ [rowD tl[0]] := by
          rw [List.take_succ_eq_append_getElem (by rw [List.length_map]; exact hlk), List.getElem_map]
        repeat' (first | (with_reducible first | refine awp_seq ?_ | refine awp_block ?_ | refine awp_skip ?_ | refine awp_exit ?_ | refine awp_ret ?_ | refine athen ?_ | refine thenExit ?_ | refine thenRet ?_ | refine blockNormal ?_ | refine blockExit ?_ | refine blockRet ?_ | refine roundExit ?_ | refine roundRet ?_ | refine roundExitR ?_ | refine roundRetR ?_) | ((with_reducible refine blockPass ?_ ?_); rfl) | ((with_reducible refine awp_condT ?_ ?_); rfl) | ((with_reducible refine awp_condF ?_ ?_); rfl) | (with_reducible (refine awp_condS rfl ?_ ?_); all_goals (intro hb; have hb' := hb; (try simp only [pkC] at hb'); first | (exfalso; omega) | skip)) | ((with_reducible refine awp_reg ?_); intro K hK) | ((with_reducible refine hK _ ?_); clear hK K) | (with_reducible refine and_split ?_ ?_) | ((with_reducible refine ct_id ?_); first | (refine callThen hrow trivial ?_ ?_)) | ((with_reducible refine ctd_id ?_); first | (refine callThenD hrow trivial ?_ ?_)) | ((with_reducible refine sw_id ?_); simp (disch := first | decide | omega) only [↓pkS, pkW, pkA, undef, capsOf, ex, St.put, St.ev, kav, gdA, opI, rawI, vbin, srcOf, avsD, acsD, AV.toD, AC.toD, AV.nw, AC.nw, AC.one, Value.oneCell', fillA, D.one, D.ones, D.sz, D.szs, Nat.reduceAdd, Nat.reduceSub, Nat.reduceLeDiff, Nat.reduceEqDiff, reduceIte, pkN, li_acs, ls_acs, sl_acs, GRow.acs_eq, GRow.flat_eq, GRow.agg_eq, GRow.el, el_ints, el_strs, hg]) | (first | (with_reducible rfl) | (with_reducible refine fnok_id ?_; kernel_rfl) | exact el_strs _ | exact el_ints _ | exact el_ln _ | exact el_tk _ _ | exact el_td _ _ _ | omega | (simp; done) | (simp; omega)) | ((with_reducible refine args_id ?_); simp [ArgsOk, ArgOk, argsD, argD, AC.toD, Value.oneCell', sl_flat, leaf_flat, li_flat, ls_flat, sl_agg, leaf_agg, li_agg, ls_agg, mo_t, mo_f, li_acs, ls_acs, sl_acs, GRow.acs_eq, GRow.flat_eq, GRow.agg_eq, GRow.el, el_ints, el_strs, hg]; first | done | rfl))
        all_goals first
          | (simp only [List.length_map, List.length_append, List.length_cons, List.length_nil, List.length_take]; omega)
          | (refine roundB (1, some (0)) ?_ ⟨show 1 ≤ tl.length by omega, hs1, Nat.succ_pos _⟩ (show tl.length - (1) < tl.length - 0 by omega)
             simp only [StLe', FrLe, OwnLe, BoxLe, AV.fits, AC.fits, FB, mask, htk]
             simp [AV.fits, AC.fits, rowD, -List.take_append_getElem])
    have htl0 : tl = [] := List.eq_nil_of_length_eq_zero (by omega)
    have hz0 : tl.length = 0 := by omega
    have hd := hval (.leaf (.slice none 0 0)) (by rw [htl, htl0]; rfl) (by rw [htl0]; rfl)
    rw [hD] at hd
    repeat' (first | (with_reducible first | refine awp_seq ?_ | refine awp_block ?_ | refine awp_skip ?_ | refine awp_exit ?_ | refine awp_ret ?_ | refine athen ?_ | refine thenExit ?_ | refine thenRet ?_ | refine blockNormal ?_ | refine blockExit ?_ | refine blockRet ?_ | refine roundExit ?_ | refine roundRet ?_ | refine roundExitR ?_ | refine roundRetR ?_) | ((with_reducible refine blockPass ?_ ?_); rfl) | ((with_reducible refine awp_condT ?_ ?_); rfl) | ((with_reducible refine awp_condF ?_ ?_); rfl) | (with_reducible (refine awp_condS rfl ?_ ?_); all_goals (intro hb; have hb' := hb; (try simp only [pkC] at hb'); first | (exfalso; omega) | skip)) | ((with_reducible refine awp_reg ?_); intro K hK) | ((with_reducible refine hK _ ?_); clear hK K) | (with_reducible refine and_split ?_ ?_) | ((with_reducible refine ct_id ?_); first | (refine callThen hd trivial ?_ ?_)) | ((with_reducible refine ctd_id ?_); first | (refine callThenD hd trivial ?_ ?_)) | ((with_reducible refine sw_id ?_); simp (disch := first | decide | omega) only [↓pkS, pkW, pkA, undef, capsOf, ex, St.put, St.ev, kav, gdA, opI, rawI, vbin, srcOf, avsD, acsD, AV.toD, AC.toD, AV.nw, AC.nw, AC.one, Value.oneCell', fillA, D.one, D.ones, D.sz, D.szs, Nat.reduceAdd, Nat.reduceSub, Nat.reduceLeDiff, Nat.reduceEqDiff, reduceIte, pkN, li_acs, ls_acs, sl_acs, GRow.acs_eq, GRow.flat_eq, GRow.agg_eq, GRow.el, el_ints, el_strs, hz0, agg_flatD, flats_consD, flats_nilD, agg_aggD]) | (first | (with_reducible rfl) | (with_reducible refine fnok_id ?_; kernel_rfl) | exact el_strs _ | exact el_ints _ | exact el_ln _ | exact el_tk _ _ | exact el_td _ _ _ | omega | (simp; done) | (simp; omega)) | ((with_reducible refine args_id ?_); simp [ArgsOk, ArgOk, argsD, argD, AC.toD, Value.oneCell', sl_flat, leaf_flat, li_flat, ls_flat, sl_agg, leaf_agg, li_agg, ls_agg, mo_t, mo_f, li_acs, ls_acs, sl_acs, GRow.acs_eq, GRow.flat_eq, GRow.agg_eq, GRow.el, el_ints, el_strs, hz0, agg_flatD, flats_consD, flats_nilD, agg_aggD]; first | done | rfl))
    exact endRet ⟨⟨0, _, rfl, rfl, by simp [AcsFits, AcFits]⟩, ⟨_, rfl, rfl, trivial⟩⟩
  · simp only at hk hall hk0
    simp only [FB, mask]
    by_cases hlk : k < tl.length
    · have hg : idx (tl.map ls) (some ((k : Nat) : Int)) = some (ls tl[k]) := idx_map ls tl hlk
      have hpz := htz _ (List.getElem_mem hlk)
      cases hro : rowOk tl[k] with
      | false =>
        have hrow := row_impl_bad tl[k] cols.length hpz z4 hro
        have hr : isD s = false := by unfold isD; rw [hcols, htl, allL_false hlk (show rowGood cols.length tl[k] = false by unfold rowGood; rw [hro]; rfl)]; rfl
        repeat' (first | (with_reducible first | refine awp_seq ?_ | refine awp_block ?_ | refine awp_skip ?_ | refine awp_exit ?_ | refine awp_ret ?_ | refine athen ?_ | refine thenExit ?_ | refine thenRet ?_ | refine blockNormal ?_ | refine blockExit ?_ | refine blockRet ?_ | refine roundExit ?_ | refine roundRet ?_ | refine roundExitR ?_ | refine roundRetR ?_) | ((with_reducible refine blockPass ?_ ?_); rfl) | ((with_reducible refine awp_condT ?_ ?_); rfl) | ((with_reducible refine awp_condF ?_ ?_); rfl) | (with_reducible (refine awp_condS rfl ?_ ?_); all_goals (intro hb; have hb' := hb; (try simp only [pkC] at hb'); first | (exfalso; omega) | skip)) | ((with_reducible refine awp_reg ?_); intro K hK) | ((with_reducible refine hK _ ?_); clear hK K) | (with_reducible refine and_split ?_ ?_) | ((with_reducible refine ct_id ?_); first | (refine callThen hrow trivial ?_ ?_)) | ((with_reducible refine ctd_id ?_); first | (refine callThenD hrow trivial ?_ ?_)) | ((with_reducible refine sw_id ?_); simp (disch := first | decide | omega) only [↓pkS, pkW, pkA, undef, capsOf, ex, St.put, St.ev, kav, gdA, opI, rawI, vbin, srcOf, avsD, acsD, AV.toD, AC.toD, AV.nw, AC.nw, AC.one, Value.oneCell', fillA, D.one, D.ones, D.sz, D.szs, Nat.reduceAdd, Nat.reduceSub, Nat.reduceLeDiff, Nat.reduceEqDiff, reduceIte, pkN, li_acs, ls_acs, sl_acs, GRow.acs_eq, GRow.flat_eq, GRow.agg_eq, GRow.el, el_ints, el_strs, hg]) | (first | (with_reducible rfl) | (with_reducible refine fnok_id ?_; kernel_rfl) | exact el_strs _ | exact el_ints _ | exact el_ln _ | exact el_tk _ _ | exact el_td _ _ _ | omega | (simp; done) | (simp; omega)) | ((with_reducible refine args_id ?_); simp [ArgsOk, ArgOk, argsD, argD, AC.toD, Value.oneCell', sl_flat, leaf_flat, li_flat, ls_flat, sl_agg, leaf_agg, li_agg, ls_agg, mo_t, mo_f, li_acs, ls_acs, sl_acs, GRow.acs_eq, GRow.flat_eq, GRow.agg_eq, GRow.el, el_ints, el_strs, hg]; first | done | rfl))
        exact endRet ⟨⟨0, _, rfl, rfl, by simp [AcsFits, AcFits]⟩, ⟨_, rfl, rfl, trivial⟩⟩
      | true =>
        have hrow := row_impl_ok tl[k] cols.length hpz z4 hro
        by_cases hlen : (rowV tl[k]).length = cols.length
        case neg =>
          rw [decide_eq_false hlen] at hrow
          have hr : isD s = false := by unfold isD; rw [hcols, htl, allL_false hlk (show rowGood cols.length tl[k] = false by unfold rowGood; rw [hro, decide_eq_false hlen]; rfl)]; rfl
          repeat' (first | (with_reducible first | refine awp_seq ?_ | refine awp_block ?_ | refine awp_skip ?_ | refine awp_exit ?_ | refine awp_ret ?_ | refine athen ?_ | refine thenExit ?_ | refine thenRet ?_ | refine blockNormal ?_ | refine blockExit ?_ | refine blockRet ?_ | refine roundExit ?_ | refine roundRet ?_ | refine roundExitR ?_ | refine roundRetR ?_) | ((with_reducible refine blockPass ?_ ?_); rfl) | ((with_reducible refine awp_condT ?_ ?_); rfl) | ((with_reducible refine awp_condF ?_ ?_); rfl) | (with_reducible (refine awp_condS rfl ?_ ?_); all_goals (intro hb; have hb' := hb; (try simp only [pkC] at hb'); first | (exfalso; omega) | skip)) | ((with_reducible refine awp_reg ?_); intro K hK) | ((with_reducible refine hK _ ?_); clear hK K) | (with_reducible refine and_split ?_ ?_) | ((with_reducible refine ct_id ?_); first | (refine callThen hrow trivial ?_ ?_)) | ((with_reducible refine ctd_id ?_); first | (refine callThenD hrow trivial ?_ ?_)) | ((with_reducible refine sw_id ?_); simp (disch := first | decide | omega) only [↓pkS, pkW, pkA, undef, capsOf, ex, St.put, St.ev, kav, gdA, opI, rawI, vbin, srcOf, avsD, acsD, AV.toD, AC.toD, AV.nw, AC.nw, AC.one, Value.oneCell', fillA, D.one, D.ones, D.sz, D.szs, Nat.reduceAdd, Nat.reduceSub, Nat.reduceLeDiff, Nat.reduceEqDiff, reduceIte, pkN, li_acs, ls_acs, sl_acs, GRow.acs_eq, GRow.flat_eq, GRow.agg_eq, GRow.el, el_ints, el_strs, hg]) | (first | (with_reducible rfl) | (with_reducible refine fnok_id ?_; kernel_rfl) | exact el_strs _ | exact el_ints _ | exact el_ln _ | exact el_tk _ _ | exact el_td _ _ _ | omega | (simp; done) | (simp; omega)) | ((with_reducible refine args_id ?_); simp [ArgsOk, ArgOk, argsD, argD, AC.toD, Value.oneCell', sl_flat, leaf_flat, li_flat, ls_flat, sl_agg, leaf_agg, li_agg, ls_agg, mo_t, mo_f, li_acs, ls_acs, sl_acs, GRow.acs_eq, GRow.flat_eq, GRow.agg_eq, GRow.el, el_ints, el_strs, hg]; first | done | rfl))
          exact endRet ⟨⟨0, _, rfl, rfl, by simp [AcsFits, AcFits]⟩, ⟨_, rfl, rfl, trivial⟩⟩
        rw [decide_eq_true hlen] at hrow
        have hs1 := allN_succ hall ((pAt_eq (rowGood cols.length) hlk).trans (by unfold rowGood; rw [hro, decide_eq_true hlen]; rfl))
        have htk : (tl.map rowD).take (k + 1) = (tl.map rowD).take k ++ [rowD tl[k]] := by
          rw [List.take_succ_eq_append_getElem (by rw [List.length_map]; exact hlk), List.getElem_map]
        repeat' (first | (with_reducible first | refine awp_seq ?_ | refine awp_block ?_ | refine awp_skip ?_ | refine awp_exit ?_ | refine awp_ret ?_ | refine athen ?_ | refine thenExit ?_ | refine thenRet ?_ | refine blockNormal ?_ | refine blockExit ?_ | refine blockRet ?_ | refine roundExit ?_ | refine roundRet ?_ | refine roundExitR ?_ | refine roundRetR ?_) | ((with_reducible refine blockPass ?_ ?_); rfl) | ((with_reducible refine awp_condT ?_ ?_); rfl) | ((with_reducible refine awp_condF ?_ ?_); rfl) | (with_reducible (refine awp_condS rfl ?_ ?_); all_goals (intro hb; have hb' := hb; (try simp only [pkC] at hb'); first | (exfalso; omega) | skip)) | ((with_reducible refine awp_reg ?_); intro K hK) | ((with_reducible refine hK _ ?_); clear hK K) | (with_reducible refine and_split ?_ ?_) | ((with_reducible refine ct_id ?_); first | (refine callThen hrow trivial ?_ ?_)) | ((with_reducible refine ctd_id ?_); first | (refine callThenD hrow trivial ?_ ?_)) | ((with_reducible refine sw_id ?_); simp (disch := first | decide | omega) only [↓pkS, pkW, pkA, undef, capsOf, ex, St.put, St.ev, kav, gdA, opI, rawI, vbin, srcOf, avsD, acsD, AV.toD, AC.toD, AV.nw, AC.nw, AC.one, Value.oneCell', fillA, D.one, D.ones, D.sz, D.szs, Nat.reduceAdd, Nat.reduceSub, Nat.reduceLeDiff, Nat.reduceEqDiff, reduceIte, pkN, li_acs, ls_acs, sl_acs, GRow.acs_eq, GRow.flat_eq, GRow.agg_eq, GRow.el, el_ints, el_strs, hg]) | (first | (with_reducible rfl) | (with_reducible refine fnok_id ?_; kernel_rfl) | exact el_strs _ | exact el_ints _ | exact el_ln _ | exact el_tk _ _ | exact el_td _ _ _ | omega | (simp; done) | (simp; omega)) | ((with_reducible refine args_id ?_); simp [ArgsOk, ArgOk, argsD, argD, AC.toD, Value.oneCell', sl_flat, leaf_flat, li_flat, ls_flat, sl_agg, leaf_agg, li_agg, ls_agg, mo_t, mo_f, li_acs, ls_acs, sl_acs, GRow.acs_eq, GRow.flat_eq, GRow.agg_eq, GRow.el, el_ints, el_strs, hg]; first | done | rfl))
        all_goals first
          | (simp only [List.length_map, List.length_append, List.length_cons, List.length_nil, List.length_take]; omega)
          | (refine roundB (k + 1, some (v + 1)) ?_ ⟨show k + 1 ≤ tl.length by omega, hs1, Nat.succ_pos _⟩ (show tl.length - (k + 1) < tl.length - k by omega)
             simp only [StLe', FrLe, OwnLe, BoxLe, AV.fits, AC.fits, FB, mask, htk]
             simp [AV.fits, AC.fits, rowD, -List.take_append_getElem])
    obtain rfl : k = tl.length := by omega
    have hfin : (tl.map rowD).take tl.length = tl.map rowD := List.take_of_length_le (by rw [List.length_map]; exact Nat.le_refl _)
    have hd := hval (.sl ((tl.map rowD).take tl.length)) (by rw [hfin, D.fix, rowDs_fix, htl]) hall
    rw [hD] at hd
    repeat' (first | (with_reducible first | refine awp_seq ?_ | refine awp_block ?_ | refine awp_skip ?_ | refine awp_exit ?_ | refine awp_ret ?_ | refine athen ?_ | refine thenExit ?_ | refine thenRet ?_ | refine blockNormal ?_ | refine blockExit ?_ | refine blockRet ?_ | refine roundExit ?_ | refine roundRet ?_ | refine roundExitR ?_ | refine roundRetR ?_) | ((with_reducible refine blockPass ?_ ?_); rfl) | ((with_reducible refine awp_condT ?_ ?_); rfl) | ((with_reducible refine awp_condF ?_ ?_); rfl) | (with_reducible (refine awp_condS rfl ?_ ?_); all_goals (intro hb; have hb' := hb; (try simp only [pkC] at hb'); first | (exfalso; omega) | skip)) | ((with_reducible refine awp_reg ?_); intro K hK) | ((with_reducible refine hK _ ?_); clear hK K) | (with_reducible refine and_split ?_ ?_) | ((with_reducible refine ct_id ?_); first | (refine callThen hd trivial ?_ ?_)) | ((with_reducible refine ctd_id ?_); first | (refine callThenD hd trivial ?_ ?_)) | ((with_reducible refine sw_id ?_); simp (disch := first | decide | omega) only [↓pkS, pkW, pkA, undef, capsOf, ex, St.put, St.ev, kav, gdA, opI, rawI, vbin, srcOf, avsD, acsD, AV.toD, AC.toD, AV.nw, AC.nw, AC.one, Value.oneCell', fillA, D.one, D.ones, D.sz, D.szs, Nat.reduceAdd, Nat.reduceSub, Nat.reduceLeDiff, Nat.reduceEqDiff, reduceIte, pkN, li_acs, ls_acs, sl_acs, GRow.acs_eq, GRow.flat_eq, GRow.agg_eq, GRow.el, el_ints, el_strs, agg_flatD, flats_consD, flats_nilD, agg_aggD]) | (first | (with_reducible rfl) | (with_reducible refine fnok_id ?_; kernel_rfl) | exact el_strs _ | exact el_ints _ | exact el_ln _ | exact el_tk _ _ | exact el_td _ _ _ | omega | (simp; done) | (simp; omega)) | ((with_reducible refine args_id ?_); simp [ArgsOk, ArgOk, argsD, argD, AC.toD, Value.oneCell', sl_flat, leaf_flat, li_flat, ls_flat, sl_agg, leaf_agg, li_agg, ls_agg, mo_t, mo_f, li_acs, ls_acs, sl_acs, GRow.acs_eq, GRow.flat_eq, GRow.agg_eq, GRow.el, el_ints, el_strs, agg_flatD, flats_consD, flats_nilD, agg_aggD]; first | done | rfl))
    exact endRet ⟨⟨0, _, rfl, rfl, by simp [AcsFits, AcFits]⟩, ⟨_, rfl, rfl, trivial⟩⟩
set_option maxHeartbeats 16000000 in
theorem parseData_impl_ok (s : ByteArray) (hs : s.size ≤ 1048576) (hD : isD s = true) : CallsTo Tryd.prog 61 [ls s] (.tup [(true, [.raw (.int .i64 5), .raw (.int .i64 0), .raw (.int .i64 0), .raw (.string ⟨#[]⟩), .raw (.slice none 0 0), .sl true ((colsD s).map ls), .sl true ((tailD s).map rowD)]), (false, [.raw (.bool true)])]) := by
  refine calls_two (fn := Tryd.f61) (r := .cell 2 50) (q := .tmp 3) (by kernel_rfl) (by kernel_rfl) (by kernel_rfl) (by kernel_rfl) ic_pd_impl_ok ?_
  unfold ic_pd_impl
  change AWP _ _ _ (st0 48 _)
  simp only [undef, stS, st0, stN, D.av, D.avN, sl_agg, leaf_agg, li_agg, ls_agg, sl_acs, leaf_acs, li_acs, ls_acs, List.map_cons, List.map_nil, List.replicate, List.cons_append, List.nil_append, List.length_cons, List.length_nil, Nat.reduceAdd, Nat.reduceSub]
  have hz := szD hs
  obtain ⟨ps, hps⟩ : ∃ l, partsD s = l := ⟨_, rfl⟩
  obtain ⟨cols, hcols⟩ : ∃ l, colsD s = l := ⟨_, rfl⟩
  obtain ⟨tl, htl⟩ : ∃ l, tailD s = l := ⟨_, rfl⟩
  obtain ⟨z1, z2, z3, z4, z5⟩ := hz
  rw [hps] at z1 z2 z3 z5
  rw [hcols] at z4
  rw [htl] at z5
  have htd : tl = ps.drop 1 := by rw [← htl, ← hps]; rfl
  have htz : ∀ p ∈ tl, p.size ≤ 1048576 := fun p hp => z3 p (by rw [htd] at hp; exact List.mem_of_mem_drop hp)
  obtain ⟨hd, hhd⟩ : ∃ h, headD s = h := ⟨_, rfl⟩
  have hhm : hd ∈ ps := by
    rw [← hhd]
    unfold headD
    rw [hps, List.getD_eq_getElem?_getD, List.getElem?_eq_getElem z2]
    exact List.getElem_mem z2
  have hi0 : idx (ps.map ls) (some 0) = some (ls hd) := by
    have := idx_map ls ps (k := 0) z2
    rw [show ((0 : Nat) : Int) = 0 from rfl] at this
    rw [this, ← hhd]
    unfold headD
    rw [hps, List.getD_eq_getElem?_getD, List.getElem?_eq_getElem z2]
    rfl
  have hcc : cut spB hd = cols := by rw [← hcols, ← hhd]; rfl
  have hT : ((ps.map ls).take ps.length).drop 1 = tl.map ls := by rw [List.take_of_length_le (by rw [List.length_map]; exact Nat.le_refl _), ← List.map_drop, htd]
  have hsb : subB (some 1) none ps.length = some (1, ps.length) := subB_one (by omega)
  have hsp : CallsTo Tryd.prog 62 [ls s, ls ⟨#[59, 32]⟩] (.c false [.sl true (ps.map ls)]) := by
    rw [← hps]
    exact split_to s ⟨#[59, 32]⟩ hs (show 1 ≤ 2 by decide)
  have hspc : CallsTo Tryd.prog 63 [ls hd, .leaf (.int .u8 32)] (.c false [.sl true (cols.map ls)]) := by
    rw [← hcc]
    exact splitByte_impl_to hd 32 (z3 hd hhm)
  repeat' (first | (with_reducible first | refine awp_seq ?_ | refine awp_block ?_ | refine awp_skip ?_ | refine awp_exit ?_ | refine awp_ret ?_ | refine athen ?_ | refine thenExit ?_ | refine thenRet ?_ | refine blockNormal ?_ | refine blockExit ?_ | refine blockRet ?_ | refine roundExit ?_ | refine roundRet ?_ | refine roundExitR ?_ | refine roundRetR ?_) | ((with_reducible refine blockPass ?_ ?_); rfl) | ((with_reducible refine awp_condT ?_ ?_); rfl) | ((with_reducible refine awp_condF ?_ ?_); rfl) | (with_reducible (refine awp_condS rfl ?_ ?_); all_goals (intro hb; have hb' := hb; (try simp only [pkC] at hb'); first | (exfalso; omega) | skip)) | ((with_reducible refine awp_reg ?_); intro K hK) | ((with_reducible refine hK _ ?_); clear hK K) | (with_reducible refine and_split ?_ ?_) | ((with_reducible refine ct_id ?_); first | (refine callThen hsp trivial ?_ ?_) | (refine callThen hspc trivial ?_ ?_)) | ((with_reducible refine ctd_id ?_); first | (refine callThenD hsp trivial ?_ ?_) | (refine callThenD hspc trivial ?_ ?_)) | ((with_reducible refine sw_id ?_); simp (disch := first | decide | omega) only [↓pkS, pkW, pkA, undef, capsOf, ex, St.put, St.ev, kav, gdA, opI, rawI, vbin, srcOf, avsD, acsD, AV.toD, AC.toD, AV.nw, AC.nw, AC.one, Value.oneCell', fillA, D.one, D.ones, D.sz, D.szs, Nat.reduceAdd, Nat.reduceSub, Nat.reduceLeDiff, Nat.reduceEqDiff, reduceIte, pkN, li_acs, ls_acs, sl_acs, GRow.acs_eq, GRow.flat_eq, GRow.agg_eq, GRow.el, el_ints, el_strs, hi0, hT, hsb]) | (first | (with_reducible rfl) | (with_reducible refine fnok_id ?_; kernel_rfl) | exact el_strs _ | exact el_ints _ | exact el_ln _ | exact el_tk _ _ | exact el_td _ _ _ | omega | (simp; done) | (simp; omega)) | ((with_reducible refine args_id ?_); simp [ArgsOk, ArgOk, argsD, argD, AC.toD, Value.oneCell', sl_flat, leaf_flat, li_flat, ls_flat, sl_agg, leaf_agg, li_agg, ls_agg, mo_t, mo_f, li_acs, ls_acs, sl_acs, GRow.acs_eq, GRow.flat_eq, GRow.agg_eq, GRow.el, el_ints, el_strs, hi0, hT, hsb]; first | done | rfl))
  clear hsp hspc
  refine awp_loopB (X := Nat × Option Nat) (fun q => [.d, .d, .k, .d, .d, .k, .d, .d, .d, .d, .d, .d, .d, .d, .d, .d, .d, .d, .k, .k, .v (.c false [.raw (.int .i64 (q.1 : Nat))]), .d, .d, .d, .d, .d, .d, .d, .d, .d, .d, .d, .d, .d, .d, .d, .d, .d, .d, .d, .d, .d, .d, .d, .d, .d, .d, .d]) (fun q => match q.2 with | none => [] | some w => [⟨(tl.map rowD).take q.1, 76, 2, w, true⟩]) (fun q bs => [[.raw (.int .i64 0), .raw (.int .i64 0), .raw (.int .i64 0), .raw (.string ⟨#[]⟩), .raw (.slice none 0 0), .raw (.slice none 0 0), .raw (.slice none 0 0)], [.raw (.int .i64 5), .raw (.int .i64 0), .raw (.int .i64 0), .raw (.string ⟨#[]⟩), .raw (.slice none 0 0), .sl true (cols.map ls), (match q.2 with | none => .raw (.slice none 0 0) | some w => .own 0 w)]]) (fun q => q.1 ≤ tl.length ∧ allN (pAt (rowGood cols.length) tl) q.1 = true ∧ (match q.2 with | none => q.1 = 0 | some _ => 0 < q.1)) (fun q => tl.length - q.1) (0, none) ⟨Nat.zero_le _, rfl, rfl⟩ ?_ ?_
  · simp [StLe', FrLe, OwnLe, BoxLe, AV.fits, AC.fits, FB, mask]
  have hsm : (valD s).small := by
    refine ⟨by show (colsD s).length ≤ _; rw [hcols]; omega, fun w hw => ?_, by show ((tailD s).map rowG).length ≤ _; rw [List.length_map, htl]; omega, fun r hr => ?_, fun r hr => ?_⟩
    · have hw2 : w ∈ cut spB (headD s) := hw
      have := cut_piece (sep := spB) (by decide) hw2
      have := z3 hd hhm
      rw [← hhd] at this
      omega
    · obtain ⟨p, hp, rfl⟩ := List.mem_map.1 (show r ∈ (tailD s).map rowG from hr)
      rw [htl] at hp
      show (rowV p).length ≤ _
      unfold rowV
      rw [List.length_map]
      have h1 := htz p hp
      have := cut_le spB p (by decide)
      omega
    · obtain ⟨p, hp, rfl⟩ := List.mem_map.1 (show r ∈ (tailD s).map rowG from hr)
      exact Nat.zero_le _
  have hval : ∀ X : D, X.fix = .sl (((tailD s).map rowG).map GRow.toD) → allL (rowGood cols.length) tl = true → CallsTo Tryd.prog 49 [.agg [li 5, li 0, li 0, ls ⟨#[]⟩, .leaf (.slice none 0 0), .sl (cols.map ls), X]] (.c false [.raw (.bool (isD s))]) := fun X hX hA => by
    have h := val_impl_to (valD s) hsm rfl (Nat.zero_le _)
    have hA2 : allL (rowGood (colsD s).length) (tailD s) = true := by rw [hcols, htl]; exact hA
    rw [valD_valid hA2, GVal.toD_eq] at h
    have he : isD s = (colsB (colsD s) && decide ((tailD s).length ≤ 12)) := by unfold isD; rw [hA2]; rfl
    rw [he]
    refine CallsTo.fix1 ?_
    show CallsTo _ _ [.agg [li 5, li 0, li 0, ls ⟨#[]⟩, .sl [], .sl (D.fixs (cols.map ls)), X.fix]] _
    rw [hX, fixs_ls, ← hcols]
    exact h
  rintro ⟨k, _ | v⟩ ⟨hk, hall, hk0⟩
  · simp only at hk hall hk0
    subst hk0
    simp only [FB, mask]
    by_cases hlk : 0 < tl.length
    · have hg : idx (tl.map ls) (some ((0 : Nat) : Int)) = some (ls tl[0]) := idx_map ls tl hlk
      have hpz := htz _ (List.getElem_mem hlk)
      cases hro : rowOk tl[0] with
      | false =>
        have hrow := row_impl_bad tl[0] cols.length hpz z4 hro
        have hr : isD s = false := by unfold isD; rw [hcols, htl, allL_false hlk (show rowGood cols.length tl[0] = false by unfold rowGood; rw [hro]; rfl)]; rfl
        exact absurd (hr.symm.trans hD) (by decide)
      | true =>
        have hrow := row_impl_ok tl[0] cols.length hpz z4 hro
        by_cases hlen : (rowV tl[0]).length = cols.length
        case neg =>
          rw [decide_eq_false hlen] at hrow
          have hr : isD s = false := by unfold isD; rw [hcols, htl, allL_false hlk (show rowGood cols.length tl[0] = false by unfold rowGood; rw [hro, decide_eq_false hlen]; rfl)]; rfl
          exact absurd (hr.symm.trans hD) (by decide)
        rw [decide_eq_true hlen] at hrow
        have hs1 := allN_succ hall ((pAt_eq (rowGood cols.length) hlk).trans (by unfold rowGood; rw [hro, decide_eq_true hlen]; rfl))
        have htk : (tl.map rowD).take (0 + 1) = (tl.map rowD).take 0 ++ [rowD tl[0]] := by
          rw [List.take_succ_eq_append_getElem (by rw [List.length_map]; exact hlk), List.getElem_map]
        repeat' (first | (with_reducible first | refine awp_seq ?_ | refine awp_block ?_ | refine awp_skip ?_ | refine awp_exit ?_ | refine awp_ret ?_ | refine athen ?_ | refine thenExit ?_ | refine thenRet ?_ | refine blockNormal ?_ | refine blockExit ?_ | refine blockRet ?_ | refine roundExit ?_ | refine roundRet ?_ | refine roundExitR ?_ | refine roundRetR ?_) | ((with_reducible refine blockPass ?_ ?_); rfl) | ((with_reducible refine awp_condT ?_ ?_); rfl) | ((with_reducible refine awp_condF ?_ ?_); rfl) | (with_reducible (refine awp_condS rfl ?_ ?_); all_goals (intro hb; have hb' := hb; (try simp only [pkC] at hb'); first | (exfalso; omega) | skip)) | ((with_reducible refine awp_reg ?_); intro K hK) | ((with_reducible refine hK _ ?_); clear hK K) | (with_reducible refine and_split ?_ ?_) | ((with_reducible refine ct_id ?_); first | (refine callThen hrow trivial ?_ ?_)) | ((with_reducible refine ctd_id ?_); first | (refine callThenD hrow trivial ?_ ?_)) | ((with_reducible refine sw_id ?_); simp (disch := first | decide | omega) only [↓pkS, pkW, pkA, undef, capsOf, ex, St.put, St.ev, kav, gdA, opI, rawI, vbin, srcOf, avsD, acsD, AV.toD, AC.toD, AV.nw, AC.nw, AC.one, Value.oneCell', fillA, D.one, D.ones, D.sz, D.szs, Nat.reduceAdd, Nat.reduceSub, Nat.reduceLeDiff, Nat.reduceEqDiff, reduceIte, pkN, li_acs, ls_acs, sl_acs, GRow.acs_eq, GRow.flat_eq, GRow.agg_eq, GRow.el, el_ints, el_strs, hg]) | (first | (with_reducible rfl) | (with_reducible refine fnok_id ?_; kernel_rfl) | exact el_strs _ | exact el_ints _ | exact el_ln _ | exact el_tk _ _ | exact el_td _ _ _ | omega | (simp; done) | (simp; omega)) | ((with_reducible refine args_id ?_); simp [ArgsOk, ArgOk, argsD, argD, AC.toD, Value.oneCell', sl_flat, leaf_flat, li_flat, ls_flat, sl_agg, leaf_agg, li_agg, ls_agg, mo_t, mo_f, li_acs, ls_acs, sl_acs, GRow.acs_eq, GRow.flat_eq, GRow.agg_eq, GRow.el, el_ints, el_strs, hg]; first | done | rfl))
        all_goals first
          | (simp only [List.length_map, List.length_append, List.length_cons, List.length_nil, List.length_take]; omega)
          | (refine roundB (1, some (0)) ?_ ⟨show 1 ≤ tl.length by omega, hs1, Nat.succ_pos _⟩ (show tl.length - (1) < tl.length - 0 by omega)
             simp only [StLe', FrLe, OwnLe, BoxLe, AV.fits, AC.fits, FB, mask, htk]
             simp [AV.fits, AC.fits, rowD, -List.take_append_getElem])
    have htl0 : tl = [] := List.eq_nil_of_length_eq_zero (by omega)
    have hz0 : tl.length = 0 := by omega
    have hd := hval (.leaf (.slice none 0 0)) (by rw [htl, htl0]; rfl) (by rw [htl0]; rfl)
    rw [hD] at hd
    repeat' (first | (with_reducible first | refine awp_seq ?_ | refine awp_block ?_ | refine awp_skip ?_ | refine awp_exit ?_ | refine awp_ret ?_ | refine athen ?_ | refine thenExit ?_ | refine thenRet ?_ | refine blockNormal ?_ | refine blockExit ?_ | refine blockRet ?_ | refine roundExit ?_ | refine roundRet ?_ | refine roundExitR ?_ | refine roundRetR ?_) | ((with_reducible refine blockPass ?_ ?_); rfl) | ((with_reducible refine awp_condT ?_ ?_); rfl) | ((with_reducible refine awp_condF ?_ ?_); rfl) | (with_reducible (refine awp_condS rfl ?_ ?_); all_goals (intro hb; have hb' := hb; (try simp only [pkC] at hb'); first | (exfalso; omega) | skip)) | ((with_reducible refine awp_reg ?_); intro K hK) | ((with_reducible refine hK _ ?_); clear hK K) | (with_reducible refine and_split ?_ ?_) | ((with_reducible refine ct_id ?_); first | (refine callThen hd trivial ?_ ?_)) | ((with_reducible refine ctd_id ?_); first | (refine callThenD hd trivial ?_ ?_)) | ((with_reducible refine sw_id ?_); simp (disch := first | decide | omega) only [↓pkS, pkW, pkA, undef, capsOf, ex, St.put, St.ev, kav, gdA, opI, rawI, vbin, srcOf, avsD, acsD, AV.toD, AC.toD, AV.nw, AC.nw, AC.one, Value.oneCell', fillA, D.one, D.ones, D.sz, D.szs, Nat.reduceAdd, Nat.reduceSub, Nat.reduceLeDiff, Nat.reduceEqDiff, reduceIte, pkN, li_acs, ls_acs, sl_acs, GRow.acs_eq, GRow.flat_eq, GRow.agg_eq, GRow.el, el_ints, el_strs, hz0, agg_flatD, flats_consD, flats_nilD, agg_aggD]) | (first | (with_reducible rfl) | (with_reducible refine fnok_id ?_; kernel_rfl) | exact el_strs _ | exact el_ints _ | exact el_ln _ | exact el_tk _ _ | exact el_td _ _ _ | omega | (simp; done) | (simp; omega)) | ((with_reducible refine args_id ?_); simp [ArgsOk, ArgOk, argsD, argD, AC.toD, Value.oneCell', sl_flat, leaf_flat, li_flat, ls_flat, sl_agg, leaf_agg, li_agg, ls_agg, mo_t, mo_f, li_acs, ls_acs, sl_acs, GRow.acs_eq, GRow.flat_eq, GRow.agg_eq, GRow.el, el_ints, el_strs, hz0, agg_flatD, flats_consD, flats_nilD, agg_aggD]; first | done | rfl))
    exact endRet ⟨⟨0, _, rfl, rfl, by simp [AcsFits, AcFits, hcols, htl, htl0]⟩, ⟨_, rfl, rfl, trivial⟩⟩
  · simp only at hk hall hk0
    simp only [FB, mask]
    by_cases hlk : k < tl.length
    · have hg : idx (tl.map ls) (some ((k : Nat) : Int)) = some (ls tl[k]) := idx_map ls tl hlk
      have hpz := htz _ (List.getElem_mem hlk)
      cases hro : rowOk tl[k] with
      | false =>
        have hrow := row_impl_bad tl[k] cols.length hpz z4 hro
        have hr : isD s = false := by unfold isD; rw [hcols, htl, allL_false hlk (show rowGood cols.length tl[k] = false by unfold rowGood; rw [hro]; rfl)]; rfl
        exact absurd (hr.symm.trans hD) (by decide)
      | true =>
        have hrow := row_impl_ok tl[k] cols.length hpz z4 hro
        by_cases hlen : (rowV tl[k]).length = cols.length
        case neg =>
          rw [decide_eq_false hlen] at hrow
          have hr : isD s = false := by unfold isD; rw [hcols, htl, allL_false hlk (show rowGood cols.length tl[k] = false by unfold rowGood; rw [hro, decide_eq_false hlen]; rfl)]; rfl
          exact absurd (hr.symm.trans hD) (by decide)
        rw [decide_eq_true hlen] at hrow
        have hs1 := allN_succ hall ((pAt_eq (rowGood cols.length) hlk).trans (by unfold rowGood; rw [hro, decide_eq_true hlen]; rfl))
        have htk : (tl.map rowD).take (k + 1) = (tl.map rowD).take k ++ [rowD tl[k]] := by
          rw [List.take_succ_eq_append_getElem (by rw [List.length_map]; exact hlk), List.getElem_map]
        repeat' (first | (with_reducible first | refine awp_seq ?_ | refine awp_block ?_ | refine awp_skip ?_ | refine awp_exit ?_ | refine awp_ret ?_ | refine athen ?_ | refine thenExit ?_ | refine thenRet ?_ | refine blockNormal ?_ | refine blockExit ?_ | refine blockRet ?_ | refine roundExit ?_ | refine roundRet ?_ | refine roundExitR ?_ | refine roundRetR ?_) | ((with_reducible refine blockPass ?_ ?_); rfl) | ((with_reducible refine awp_condT ?_ ?_); rfl) | ((with_reducible refine awp_condF ?_ ?_); rfl) | (with_reducible (refine awp_condS rfl ?_ ?_); all_goals (intro hb; have hb' := hb; (try simp only [pkC] at hb'); first | (exfalso; omega) | skip)) | ((with_reducible refine awp_reg ?_); intro K hK) | ((with_reducible refine hK _ ?_); clear hK K) | (with_reducible refine and_split ?_ ?_) | ((with_reducible refine ct_id ?_); first | (refine callThen hrow trivial ?_ ?_)) | ((with_reducible refine ctd_id ?_); first | (refine callThenD hrow trivial ?_ ?_)) | ((with_reducible refine sw_id ?_); simp (disch := first | decide | omega) only [↓pkS, pkW, pkA, undef, capsOf, ex, St.put, St.ev, kav, gdA, opI, rawI, vbin, srcOf, avsD, acsD, AV.toD, AC.toD, AV.nw, AC.nw, AC.one, Value.oneCell', fillA, D.one, D.ones, D.sz, D.szs, Nat.reduceAdd, Nat.reduceSub, Nat.reduceLeDiff, Nat.reduceEqDiff, reduceIte, pkN, li_acs, ls_acs, sl_acs, GRow.acs_eq, GRow.flat_eq, GRow.agg_eq, GRow.el, el_ints, el_strs, hg]) | (first | (with_reducible rfl) | (with_reducible refine fnok_id ?_; kernel_rfl) | exact el_strs _ | exact el_ints _ | exact el_ln _ | exact el_tk _ _ | exact el_td _ _ _ | omega | (simp; done) | (simp; omega)) | ((with_reducible refine args_id ?_); simp [ArgsOk, ArgOk, argsD, argD, AC.toD, Value.oneCell', sl_flat, leaf_flat, li_flat, ls_flat, sl_agg, leaf_agg, li_agg, ls_agg, mo_t, mo_f, li_acs, ls_acs, sl_acs, GRow.acs_eq, GRow.flat_eq, GRow.agg_eq, GRow.el, el_ints, el_strs, hg]; first | done | rfl))
        all_goals first
          | (simp only [List.length_map, List.length_append, List.length_cons, List.length_nil, List.length_take]; omega)
          | (refine roundB (k + 1, some (v + 1)) ?_ ⟨show k + 1 ≤ tl.length by omega, hs1, Nat.succ_pos _⟩ (show tl.length - (k + 1) < tl.length - k by omega)
             simp only [StLe', FrLe, OwnLe, BoxLe, AV.fits, AC.fits, FB, mask, htk]
             simp [AV.fits, AC.fits, rowD, -List.take_append_getElem])
    obtain rfl : k = tl.length := by omega
    have hfin : (tl.map rowD).take tl.length = tl.map rowD := List.take_of_length_le (by rw [List.length_map]; exact Nat.le_refl _)
    have hd := hval (.sl ((tl.map rowD).take tl.length)) (by rw [hfin, D.fix, rowDs_fix, htl]) hall
    rw [hD] at hd
    repeat' (first | (with_reducible first | refine awp_seq ?_ | refine awp_block ?_ | refine awp_skip ?_ | refine awp_exit ?_ | refine awp_ret ?_ | refine athen ?_ | refine thenExit ?_ | refine thenRet ?_ | refine blockNormal ?_ | refine blockExit ?_ | refine blockRet ?_ | refine roundExit ?_ | refine roundRet ?_ | refine roundExitR ?_ | refine roundRetR ?_) | ((with_reducible refine blockPass ?_ ?_); rfl) | ((with_reducible refine awp_condT ?_ ?_); rfl) | ((with_reducible refine awp_condF ?_ ?_); rfl) | (with_reducible (refine awp_condS rfl ?_ ?_); all_goals (intro hb; have hb' := hb; (try simp only [pkC] at hb'); first | (exfalso; omega) | skip)) | ((with_reducible refine awp_reg ?_); intro K hK) | ((with_reducible refine hK _ ?_); clear hK K) | (with_reducible refine and_split ?_ ?_) | ((with_reducible refine ct_id ?_); first | (refine callThen hd trivial ?_ ?_)) | ((with_reducible refine ctd_id ?_); first | (refine callThenD hd trivial ?_ ?_)) | ((with_reducible refine sw_id ?_); simp (disch := first | decide | omega) only [↓pkS, pkW, pkA, undef, capsOf, ex, St.put, St.ev, kav, gdA, opI, rawI, vbin, srcOf, avsD, acsD, AV.toD, AC.toD, AV.nw, AC.nw, AC.one, Value.oneCell', fillA, D.one, D.ones, D.sz, D.szs, Nat.reduceAdd, Nat.reduceSub, Nat.reduceLeDiff, Nat.reduceEqDiff, reduceIte, pkN, li_acs, ls_acs, sl_acs, GRow.acs_eq, GRow.flat_eq, GRow.agg_eq, GRow.el, el_ints, el_strs, agg_flatD, flats_consD, flats_nilD, agg_aggD]) | (first | (with_reducible rfl) | (with_reducible refine fnok_id ?_; kernel_rfl) | exact el_strs _ | exact el_ints _ | exact el_ln _ | exact el_tk _ _ | exact el_td _ _ _ | omega | (simp; done) | (simp; omega)) | ((with_reducible refine args_id ?_); simp [ArgsOk, ArgOk, argsD, argD, AC.toD, Value.oneCell', sl_flat, leaf_flat, li_flat, ls_flat, sl_agg, leaf_agg, li_agg, ls_agg, mo_t, mo_f, li_acs, ls_acs, sl_acs, GRow.acs_eq, GRow.flat_eq, GRow.agg_eq, GRow.el, el_ints, el_strs, agg_flatD, flats_consD, flats_nilD, agg_aggD]; first | done | rfl))
    exact endRet ⟨⟨0, _, rfl, rfl, by simp [AcsFits, AcFits, hcols, htl, hfin]⟩, ⟨_, rfl, rfl, trivial⟩⟩
theorem CallsTo.any1 {P : Program} {f : Nat} {ds : List D} {l : List D} {b : Value} (h : CallsTo P f ds (.tup [(false, [.sl true l]), (false, [.raw b])])) : CallsTo P f ds (.tup [(false, [.any]), (false, [.raw b])]) := fun w vs h1 h2 => (h w vs h1 h2).mono (by
  rintro e w' ⟨v, rfl, ⟨us, rfl, h3⟩, h4⟩
  match us, h3 with
  | [a, b], ⟨_, h6, _⟩ => exact ⟨_, rfl, ⟨_, rfl, ⟨trivial, trivial⟩, h6, trivial⟩, h4⟩)
theorem row_spec_any (s : ByteArray) (c : Nat) (hs : s.size ≤ 1048576) (hc : c ≤ 1048577) : CallsTo Tryd.prog 60 [ls s, li c] (.tup [(false, [.any]), (false, [.raw (.bool (rowGood c s))])]) := by
  cases ho : rowOk s with
  | false =>
    rw [show rowGood c s = false by unfold rowGood; rw [ho]; rfl]
    exact row_spec_bad s c hs hc ho
  | true =>
    rw [show rowGood c s = decide ((rowV s).length = c) by unfold rowGood; rw [ho]; rfl]
    exact (row_spec_ok s c hs hc ho).any1
theorem row_impl_any (s : ByteArray) (c : Nat) (hs : s.size ≤ 1048576) (hc : c ≤ 1048577) : CallsTo Tryd.prog 65 [ls s, li c] (.tup [(false, [.any]), (false, [.raw (.bool (rowGood c s))])]) := by
  cases ho : rowOk s with
  | false =>
    rw [show rowGood c s = false by unfold rowGood; rw [ho]; rfl]
    exact row_impl_bad s c hs hc ho
  | true =>
    rw [show rowGood c s = decide ((rowV s).length = c) by unfold rowGood; rw [ho]; rfl]
    exact (row_impl_ok s c hs hc ho).any1
def ic_derr_spec : IC := (.seq (.reg false [⟨(some 2), none, .mov (.k (.int .i64 0))⟩]) (.seq (.reg false [⟨(some 8), none, .mov (.t 0)⟩, ⟨(some 9), none, .call 58 [(.t 8)]⟩, ⟨(some 3), none, .mov (.t 9)⟩]) (.seq (.reg false [⟨(some 10), none, .mov (.t 3)⟩, ⟨(some 11), none, .iad 1 (.t 10) (.k (.int .i64 0))⟩, ⟨(some 12), none, .load 1 false (.t 11)⟩, ⟨(some 13), none, .call 54 [(.t 12), (.k (.int .u8 32))]⟩, ⟨(some 4), none, .mov (.t 13)⟩]) (.seq (.seq (.reg false [⟨(some 14), none, .mov (.t 4)⟩, ⟨(some 15), none, .call 59 [(.t 14)]⟩, ⟨(some 16), none, .not (.t 15)⟩]) (.cond (.t 16) (.seq (.reg false [⟨(some 2), none, .mov (.k (.int .i64 0))⟩]) .ret) .skip)) (.seq (.seq (.reg false [⟨(some 5), none, .mov (.k (.int .i64 1))⟩]) (.block 0 (.loop (.seq (.seq (.reg false [⟨(some 17), none, .mov (.t 5)⟩, ⟨(some 18), none, .mov (.t 3)⟩, ⟨(some 19), none, .len false (.t 18)⟩, ⟨(some 20), none, .bin .lss (.t 17) (.t 19)⟩]) (.cond (.t 20) .skip (.exit 0))) (.seq (.block 1 (.seq (.reg false [⟨(some 24), none, .mov (.t 3)⟩, ⟨(some 25), none, .mov (.t 5)⟩, ⟨(some 26), none, .iad 1 (.t 24) (.t 25)⟩, ⟨(some 27), none, .load 1 false (.t 26)⟩, ⟨(some 28), none, .mov (.t 4)⟩, ⟨(some 29), none, .len false (.t 28)⟩, ⟨(some 30), none, .call 60 [(.t 27), (.t 29)]⟩, ⟨(some 23), none, .mov (.t 30)⟩, ⟨(some 31), none, .ext 0 (.t 23)⟩, ⟨(some 32), none, .ext 1 (.t 23)⟩, ⟨(some 6), none, .mov (.t 31)⟩, ⟨(some 7), none, .mov (.t 32)⟩]) (.seq (.reg false [⟨(some 33), none, .mov (.t 7)⟩, ⟨(some 34), none, .not (.t 33)⟩, ⟨(some 35), none, .mov (.t 34)⟩, ⟨(some 36), (some (35, false)), .mov (.t 5)⟩, ⟨(some 37), (some (35, false)), .bin .gtr (.t 36) (.k (.int .i64 12))⟩, ⟨(some 38), none, .pick (.t 35) (.k (.bool true)) (.t 37)⟩]) (.cond (.t 38) (.seq (.reg false [⟨(some 39), none, .mov (.t 5)⟩, ⟨(some 2), none, .mov (.t 39)⟩]) .ret) .skip)))) (.reg false [⟨(some 21), none, .mov (.t 5)⟩, ⟨(some 22), none, .bin .add (.t 21) (.k (.int .i64 1))⟩, ⟨(some 5), none, .mov (.t 22)⟩])))))) (.seq (.reg false [⟨(some 2), none, .mov (.k (.int .i64 (-1)))⟩]) .ret))))))
theorem ic_derr_spec_ok : compC Tryd.prog (Tryd.f26.body.getD .skip) = some ic_derr_spec := by kernel_rfl
set_option maxHeartbeats 16000000 in
theorem dataError_spec_to (s : ByteArray) (hs : s.size ≤ 1048576) : CallsTo Tryd.prog 26 [ls s] (.c false [.raw (.int .i64 (errD s))]) := by
  refine calls_one (fn := Tryd.f26) (t := 2) (by kernel_rfl) (by kernel_rfl) (by kernel_rfl) ic_derr_spec_ok ?_
  unfold ic_derr_spec
  change AWP _ _ _ (st0 40 _)
  simp only [undef, stS, st0, stN, D.av, D.avN, sl_agg, leaf_agg, li_agg, ls_agg, sl_acs, leaf_acs, li_acs, ls_acs, List.map_cons, List.map_nil, List.replicate, List.cons_append, List.nil_append, List.length_cons, List.length_nil, Nat.reduceAdd, Nat.reduceSub]
  have hz := szD hs
  obtain ⟨ps, hps⟩ : ∃ l, partsD s = l := ⟨_, rfl⟩
  obtain ⟨cols, hcols⟩ : ∃ l, colsD s = l := ⟨_, rfl⟩
  obtain ⟨tl, htl⟩ : ∃ l, tailD s = l := ⟨_, rfl⟩
  obtain ⟨z1, z2, z3, z4, z5⟩ := hz
  rw [hps] at z1 z2 z3 z5
  rw [hcols] at z4
  rw [htl] at z5
  have htd : tl = ps.drop 1 := by rw [← htl, ← hps]; rfl
  have htz : ∀ p ∈ tl, p.size ≤ 1048576 := fun p hp => z3 p (by rw [htd] at hp; exact List.mem_of_mem_drop hp)
  obtain ⟨hd, hhd⟩ : ∃ h, headD s = h := ⟨_, rfl⟩
  have hhm : hd ∈ ps := by
    rw [← hhd]
    unfold headD
    rw [hps, List.getD_eq_getElem?_getD, List.getElem?_eq_getElem z2]
    exact List.getElem_mem z2
  have hi0 : idx (ps.map ls) (some 0) = some (ls hd) := by
    have := idx_map ls ps (k := 0) z2
    rw [show ((0 : Nat) : Int) = 0 from rfl] at this
    rw [this, ← hhd]
    unfold headD
    rw [hps, List.getD_eq_getElem?_getD, List.getElem?_eq_getElem z2]
    rfl
  have hcc : cut spB hd = cols := by rw [← hcols, ← hhd]; rfl
  have hT : ((ps.map ls).take ps.length).drop 1 = tl.map ls := by rw [List.take_of_length_le (by rw [List.length_map]; exact Nat.le_refl _), ← List.map_drop, htd]
  have hsb : subB (some 1) none ps.length = some (1, ps.length) := subB_one (by omega)
  have hsp : CallsTo Tryd.prog 58 [ls s] (.c false [.sl true (ps.map ls)]) := by
    rw [← hps]
    exact parts_spec_to s hs
  have hspc : CallsTo Tryd.prog 54 [ls hd, .leaf (.int .u8 32)] (.c false [.sl true (cols.map ls)]) := by
    rw [← hcc]
    exact splitByte_spec_to hd 32 (z3 hd hhm)
  have hcz : ∀ w ∈ cols, w.size ≤ 9223372036854775807 := fun w hw => by
    rw [← hcc] at hw
    have := cut_piece (sep := spB) (by decide) hw
    have := z3 hd hhm
    omega
  have hco := cols_spec_to cols (by omega) hcz
  obtain ⟨bc, hbc⟩ : ∃ b, colsB cols = b := ⟨_, rfl⟩
  rw [hbc] at hco
  cases bc with
  | false =>
    have hr : errD s = 0 := by unfold errD; rw [hcols, hbc]; rfl
    rw [hr]
    repeat' (first | (with_reducible first | refine awp_seq ?_ | refine awp_block ?_ | refine awp_skip ?_ | refine awp_exit ?_ | refine awp_ret ?_ | refine athen ?_ | refine thenExit ?_ | refine thenRet ?_ | refine blockNormal ?_ | refine blockExit ?_ | refine blockRet ?_ | refine roundExit ?_ | refine roundRet ?_ | refine roundExitR ?_ | refine roundRetR ?_) | ((with_reducible refine blockPass ?_ ?_); rfl) | ((with_reducible refine awp_condT ?_ ?_); rfl) | ((with_reducible refine awp_condF ?_ ?_); rfl) | (with_reducible (refine awp_condS rfl ?_ ?_); all_goals (intro hb; have hb' := hb; (try simp only [pkC] at hb'); first | (exfalso; omega) | skip)) | ((with_reducible refine awp_reg ?_); intro K hK) | ((with_reducible refine sw_guardT ?_ ?_); rfl) | ((with_reducible refine sw_guardF ?_ ?_); (rfl; try simp only [St.put, undef, pkA, Nat.reduceAdd, Nat.reduceSub, Nat.reduceLeDiff, Nat.reduceEqDiff])) | (with_reducible (refine sw_guardS rfl ?_ ?_); all_goals (intro hb; have hb' := hb; (try simp only [pkC] at hb'); first | (exfalso; omega) | skip)) | ((with_reducible refine hK _ ?_); clear hK K) | (with_reducible refine and_split ?_ ?_) | ((with_reducible refine ct_id ?_); first | (refine callThen hsp trivial ?_ ?_) | (refine callThen hspc trivial ?_ ?_) | (refine callThen hco trivial ?_ ?_) | (refine callThen hpd trivial ?_ ?_)) | ((with_reducible refine ctd_id ?_); first | (refine callThenD hsp trivial ?_ ?_) | (refine callThenD hspc trivial ?_ ?_) | (refine callThenD hco trivial ?_ ?_) | (refine callThenD hpd trivial ?_ ?_)) | ((with_reducible refine sw_id ?_); simp (disch := first | decide | omega) only [↓pkS, pkW, pkA, undef, capsOf, ex, St.put, St.ev, kav, gdA, opI, rawI, vbin, srcOf, avsD, acsD, AV.toD, AC.toD, AV.nw, AC.nw, AC.one, Value.oneCell', fillA, D.one, D.ones, D.sz, D.szs, Nat.reduceAdd, Nat.reduceSub, Nat.reduceLeDiff, Nat.reduceEqDiff, reduceIte, pkN, li_acs, ls_acs, sl_acs, GRow.acs_eq, GRow.flat_eq, GRow.agg_eq, GRow.el, el_ints, el_strs, hi0, hT, hsb]) | (first | (with_reducible rfl) | (with_reducible refine fnok_id ?_; kernel_rfl) | exact el_strs _ | exact el_ints _ | exact el_ln _ | exact el_tk _ _ | exact el_td _ _ _ | omega | (simp; done) | (simp; omega)) | ((with_reducible refine args_id ?_); simp [ArgsOk, ArgOk, argsD, argD, AC.toD, Value.oneCell', sl_flat, leaf_flat, li_flat, ls_flat, sl_agg, leaf_agg, li_agg, ls_agg, mo_t, mo_f, li_acs, ls_acs, sl_acs, GRow.acs_eq, GRow.flat_eq, GRow.agg_eq, GRow.el, el_ints, el_strs, hi0, hT, hsb]; first | done | rfl))
    exact endRet ⟨_, rfl, rfl, trivial⟩
  | true =>
  have he0 : errD s = badL cols.length (tl.drop 0) 0 := by unfold errD; rw [hcols, hbc, htl]; rfl
  repeat' (first | (with_reducible first | refine awp_seq ?_ | refine awp_block ?_ | refine awp_skip ?_ | refine awp_exit ?_ | refine awp_ret ?_ | refine athen ?_ | refine thenExit ?_ | refine thenRet ?_ | refine blockNormal ?_ | refine blockExit ?_ | refine blockRet ?_ | refine roundExit ?_ | refine roundRet ?_ | refine roundExitR ?_ | refine roundRetR ?_) | ((with_reducible refine blockPass ?_ ?_); rfl) | ((with_reducible refine awp_condT ?_ ?_); rfl) | ((with_reducible refine awp_condF ?_ ?_); rfl) | (with_reducible (refine awp_condS rfl ?_ ?_); all_goals (intro hb; have hb' := hb; (try simp only [pkC] at hb'); first | (exfalso; omega) | skip)) | ((with_reducible refine awp_reg ?_); intro K hK) | ((with_reducible refine sw_guardT ?_ ?_); rfl) | ((with_reducible refine sw_guardF ?_ ?_); (rfl; try simp only [St.put, undef, pkA, Nat.reduceAdd, Nat.reduceSub, Nat.reduceLeDiff, Nat.reduceEqDiff])) | (with_reducible (refine sw_guardS rfl ?_ ?_); all_goals (intro hb; have hb' := hb; (try simp only [pkC] at hb'); first | (exfalso; omega) | skip)) | ((with_reducible refine hK _ ?_); clear hK K) | (with_reducible refine and_split ?_ ?_) | ((with_reducible refine ct_id ?_); first | (refine callThen hsp trivial ?_ ?_) | (refine callThen hspc trivial ?_ ?_) | (refine callThen hco trivial ?_ ?_) | (refine callThen hpd trivial ?_ ?_)) | ((with_reducible refine ctd_id ?_); first | (refine callThenD hsp trivial ?_ ?_) | (refine callThenD hspc trivial ?_ ?_) | (refine callThenD hco trivial ?_ ?_) | (refine callThenD hpd trivial ?_ ?_)) | ((with_reducible refine sw_id ?_); simp (disch := first | decide | omega) only [↓pkS, pkW, pkA, undef, capsOf, ex, St.put, St.ev, kav, gdA, opI, rawI, vbin, srcOf, avsD, acsD, AV.toD, AC.toD, AV.nw, AC.nw, AC.one, Value.oneCell', fillA, D.one, D.ones, D.sz, D.szs, Nat.reduceAdd, Nat.reduceSub, Nat.reduceLeDiff, Nat.reduceEqDiff, reduceIte, pkN, li_acs, ls_acs, sl_acs, GRow.acs_eq, GRow.flat_eq, GRow.agg_eq, GRow.el, el_ints, el_strs, hi0, hT, hsb]) | (first | (with_reducible rfl) | (with_reducible refine fnok_id ?_; kernel_rfl) | exact el_strs _ | exact el_ints _ | exact el_ln _ | exact el_tk _ _ | exact el_td _ _ _ | omega | (simp; done) | (simp; omega)) | ((with_reducible refine args_id ?_); simp [ArgsOk, ArgOk, argsD, argD, AC.toD, Value.oneCell', sl_flat, leaf_flat, li_flat, ls_flat, sl_agg, leaf_agg, li_agg, ls_agg, mo_t, mo_f, li_acs, ls_acs, sl_acs, GRow.acs_eq, GRow.flat_eq, GRow.agg_eq, GRow.el, el_ints, el_strs, hi0, hT, hsb]; first | done | rfl))
  clear hsp hspc
  refine awp_loopB (X := Nat) (fun q => [.d, .d, .d, .k, .k, .v (.c false [.raw (.int .i64 (q : Nat))]), .d, .d, .d, .d, .d, .d, .d, .d, .d, .d, .d, .d, .d, .d, .d, .d, .d, .d, .d, .d, .d, .d, .d, .d, .d, .d, .d, .d, .d, .d, .d, .d, .d, .d]) (fun q => []) (fun q bs => []) (fun q => ∃ j, q = j + 1 ∧ j ≤ tl.length ∧ errD s = badL cols.length (tl.drop j) j) (fun q => ps.length - q) 1 ⟨0, rfl, Nat.zero_le _, he0⟩ ?_ ?_
  · simp [StLe', FrLe, OwnLe, BoxLe, AV.fits, AC.fits, FB, mask]
  rintro k ⟨j, hj, hk, he⟩
  simp only [FB, mask]
  by_cases hlt : j < tl.length
  · have hl : decide ((k : Int) < ((ps.length : Nat) : Int)) = true := decide_eq_true (by omega)
    have hg : idx (ps.map ls) (some ((k : Nat) : Int)) = some (ls tl[j]) := by
      rw [hj, idx_map ls ps (k := j + 1) (by omega)]
      congr 2
      subst htd
      rw [List.getElem_drop]
      congr 1
      omega
    have hrow := row_spec_any tl[j] cols.length (htz _ (List.getElem_mem hlt)) z4
    rw [badL_at hlt] at he
    cases hro : rowGood cols.length tl[j] with
    | false =>
      rw [hro] at hrow
      rw [hro, if_neg (by decide)] at he
      rw [he]
      repeat' (first | (with_reducible first | refine awp_seq ?_ | refine awp_block ?_ | refine awp_skip ?_ | refine awp_exit ?_ | refine awp_ret ?_ | refine athen ?_ | refine thenExit ?_ | refine thenRet ?_ | refine blockNormal ?_ | refine blockExit ?_ | refine blockRet ?_ | refine roundExit ?_ | refine roundRet ?_ | refine roundExitR ?_ | refine roundRetR ?_) | ((with_reducible refine blockPass ?_ ?_); rfl) | ((with_reducible refine awp_condT ?_ ?_); rfl) | ((with_reducible refine awp_condF ?_ ?_); rfl) | (with_reducible (refine awp_condS rfl ?_ ?_); all_goals (intro hb; have hb' := hb; (try simp only [pkC] at hb'); first | (exfalso; omega) | skip)) | ((with_reducible refine awp_reg ?_); intro K hK) | ((with_reducible refine sw_guardT ?_ ?_); rfl) | ((with_reducible refine sw_guardF ?_ ?_); (rfl; try simp only [St.put, undef, pkA, Nat.reduceAdd, Nat.reduceSub, Nat.reduceLeDiff, Nat.reduceEqDiff])) | (with_reducible (refine sw_guardS rfl ?_ ?_); all_goals (intro hb; have hb' := hb; (try simp only [pkC] at hb'); first | (exfalso; omega) | skip)) | ((with_reducible refine hK _ ?_); clear hK K) | (with_reducible refine and_split ?_ ?_) | ((with_reducible refine ct_id ?_); first | (refine callThen hrow trivial ?_ ?_)) | ((with_reducible refine ctd_id ?_); first | (refine callThenD hrow trivial ?_ ?_)) | ((with_reducible refine sw_id ?_); simp (disch := first | decide | omega) only [↓pkS, pkW, pkA, undef, capsOf, ex, St.put, St.ev, kav, gdA, opI, rawI, vbin, srcOf, avsD, acsD, AV.toD, AC.toD, AV.nw, AC.nw, AC.one, Value.oneCell', fillA, D.one, D.ones, D.sz, D.szs, Nat.reduceAdd, Nat.reduceSub, Nat.reduceLeDiff, Nat.reduceEqDiff, reduceIte, pkN, li_acs, ls_acs, sl_acs, GRow.acs_eq, GRow.flat_eq, GRow.agg_eq, GRow.el, el_ints, el_strs, hg, hl]) | (first | (with_reducible rfl) | (with_reducible refine fnok_id ?_; kernel_rfl) | exact el_strs _ | exact el_ints _ | exact el_ln _ | exact el_tk _ _ | exact el_td _ _ _ | omega | (simp; done) | (simp; omega)) | ((with_reducible refine args_id ?_); simp [ArgsOk, ArgOk, argsD, argD, AC.toD, Value.oneCell', sl_flat, leaf_flat, li_flat, ls_flat, sl_agg, leaf_agg, li_agg, ls_agg, mo_t, mo_f, li_acs, ls_acs, sl_acs, GRow.acs_eq, GRow.flat_eq, GRow.agg_eq, GRow.el, el_ints, el_strs, hg, hl]; first | done | rfl))
      exact endRet ⟨_, rfl, by rw [hj]; rfl, trivial⟩
    | true =>
      rw [hro] at hrow
      rw [hro, if_pos rfl] at he
      by_cases h12 : 12 ≤ j
      · rw [if_pos h12] at he
        rw [he]
        have h12d : decide ((k : Int) > 12) = true := decide_eq_true (by omega)
        repeat' (first | (with_reducible first | refine awp_seq ?_ | refine awp_block ?_ | refine awp_skip ?_ | refine awp_exit ?_ | refine awp_ret ?_ | refine athen ?_ | refine thenExit ?_ | refine thenRet ?_ | refine blockNormal ?_ | refine blockExit ?_ | refine blockRet ?_ | refine roundExit ?_ | refine roundRet ?_ | refine roundExitR ?_ | refine roundRetR ?_) | ((with_reducible refine blockPass ?_ ?_); rfl) | ((with_reducible refine awp_condT ?_ ?_); rfl) | ((with_reducible refine awp_condF ?_ ?_); rfl) | (with_reducible (refine awp_condS rfl ?_ ?_); all_goals (intro hb; have hb' := hb; (try simp only [pkC] at hb'); first | (exfalso; omega) | skip)) | ((with_reducible refine awp_reg ?_); intro K hK) | ((with_reducible refine sw_guardT ?_ ?_); rfl) | ((with_reducible refine sw_guardF ?_ ?_); (rfl; try simp only [St.put, undef, pkA, Nat.reduceAdd, Nat.reduceSub, Nat.reduceLeDiff, Nat.reduceEqDiff])) | (with_reducible (refine sw_guardS rfl ?_ ?_); all_goals (intro hb; have hb' := hb; (try simp only [pkC] at hb'); first | (exfalso; omega) | skip)) | ((with_reducible refine hK _ ?_); clear hK K) | (with_reducible refine and_split ?_ ?_) | ((with_reducible refine ct_id ?_); first | (refine callThen hrow trivial ?_ ?_)) | ((with_reducible refine ctd_id ?_); first | (refine callThenD hrow trivial ?_ ?_)) | ((with_reducible refine sw_id ?_); simp (disch := first | decide | omega) only [↓pkS, pkW, pkA, undef, capsOf, ex, St.put, St.ev, kav, gdA, opI, rawI, vbin, srcOf, avsD, acsD, AV.toD, AC.toD, AV.nw, AC.nw, AC.one, Value.oneCell', fillA, D.one, D.ones, D.sz, D.szs, Nat.reduceAdd, Nat.reduceSub, Nat.reduceLeDiff, Nat.reduceEqDiff, reduceIte, pkN, li_acs, ls_acs, sl_acs, GRow.acs_eq, GRow.flat_eq, GRow.agg_eq, GRow.el, el_ints, el_strs, hg, hl, h12d]) | (first | (with_reducible rfl) | (with_reducible refine fnok_id ?_; kernel_rfl) | exact el_strs _ | exact el_ints _ | exact el_ln _ | exact el_tk _ _ | exact el_td _ _ _ | omega | (simp; done) | (simp; omega)) | ((with_reducible refine args_id ?_); simp [ArgsOk, ArgOk, argsD, argD, AC.toD, Value.oneCell', sl_flat, leaf_flat, li_flat, ls_flat, sl_agg, leaf_agg, li_agg, ls_agg, mo_t, mo_f, li_acs, ls_acs, sl_acs, GRow.acs_eq, GRow.flat_eq, GRow.agg_eq, GRow.el, el_ints, el_strs, hg, hl, h12d]; first | done | rfl))
        exact endRet ⟨_, rfl, by rw [hj]; rfl, trivial⟩
      · rw [if_neg h12] at he
        have h12d : decide ((k : Int) > 12) = false := decide_eq_false (by omega)
        repeat' (first | (with_reducible first | refine awp_seq ?_ | refine awp_block ?_ | refine awp_skip ?_ | refine awp_exit ?_ | refine awp_ret ?_ | refine athen ?_ | refine thenExit ?_ | refine thenRet ?_ | refine blockNormal ?_ | refine blockExit ?_ | refine blockRet ?_ | refine roundExit ?_ | refine roundRet ?_ | refine roundExitR ?_ | refine roundRetR ?_) | ((with_reducible refine blockPass ?_ ?_); rfl) | ((with_reducible refine awp_condT ?_ ?_); rfl) | ((with_reducible refine awp_condF ?_ ?_); rfl) | (with_reducible (refine awp_condS rfl ?_ ?_); all_goals (intro hb; have hb' := hb; (try simp only [pkC] at hb'); first | (exfalso; omega) | skip)) | ((with_reducible refine awp_reg ?_); intro K hK) | ((with_reducible refine sw_guardT ?_ ?_); rfl) | ((with_reducible refine sw_guardF ?_ ?_); (rfl; try simp only [St.put, undef, pkA, Nat.reduceAdd, Nat.reduceSub, Nat.reduceLeDiff, Nat.reduceEqDiff])) | (with_reducible (refine sw_guardS rfl ?_ ?_); all_goals (intro hb; have hb' := hb; (try simp only [pkC] at hb'); first | (exfalso; omega) | skip)) | ((with_reducible refine hK _ ?_); clear hK K) | (with_reducible refine and_split ?_ ?_) | ((with_reducible refine ct_id ?_); first | (refine callThen hrow trivial ?_ ?_)) | ((with_reducible refine ctd_id ?_); first | (refine callThenD hrow trivial ?_ ?_)) | ((with_reducible refine sw_id ?_); simp (disch := first | decide | omega) only [↓pkS, pkW, pkA, undef, capsOf, ex, St.put, St.ev, kav, gdA, opI, rawI, vbin, srcOf, avsD, acsD, AV.toD, AC.toD, AV.nw, AC.nw, AC.one, Value.oneCell', fillA, D.one, D.ones, D.sz, D.szs, Nat.reduceAdd, Nat.reduceSub, Nat.reduceLeDiff, Nat.reduceEqDiff, reduceIte, pkN, li_acs, ls_acs, sl_acs, GRow.acs_eq, GRow.flat_eq, GRow.agg_eq, GRow.el, el_ints, el_strs, hg, hl, h12d]) | (first | (with_reducible rfl) | (with_reducible refine fnok_id ?_; kernel_rfl) | exact el_strs _ | exact el_ints _ | exact el_ln _ | exact el_tk _ _ | exact el_td _ _ _ | omega | (simp; done) | (simp; omega)) | ((with_reducible refine args_id ?_); simp [ArgsOk, ArgOk, argsD, argD, AC.toD, Value.oneCell', sl_flat, leaf_flat, li_flat, ls_flat, sl_agg, leaf_agg, li_agg, ls_agg, mo_t, mo_f, li_acs, ls_acs, sl_acs, GRow.acs_eq, GRow.flat_eq, GRow.agg_eq, GRow.el, el_ints, el_strs, hg, hl, h12d]; first | done | rfl))
        refine roundB (k + 1) ?_ ⟨j + 1, by omega, show j + 1 ≤ tl.length by omega, he⟩ (show ps.length - (k + 1) < ps.length - k by omega)
        simp [StLe', FrLe, OwnLe, BoxLe, AV.fits, AC.fits, FB, mask]
  have hl : decide ((k : Int) < ((ps.length : Nat) : Int)) = false := decide_eq_false (by omega)
  obtain rfl : j = tl.length := by omega
  rw [List.drop_length] at he
  have he : errD s = -1 := he
  rw [he]
  repeat' (first | (with_reducible first | refine awp_seq ?_ | refine awp_block ?_ | refine awp_skip ?_ | refine awp_exit ?_ | refine awp_ret ?_ | refine athen ?_ | refine thenExit ?_ | refine thenRet ?_ | refine blockNormal ?_ | refine blockExit ?_ | refine blockRet ?_ | refine roundExit ?_ | refine roundRet ?_ | refine roundExitR ?_ | refine roundRetR ?_) | ((with_reducible refine blockPass ?_ ?_); rfl) | ((with_reducible refine awp_condT ?_ ?_); rfl) | ((with_reducible refine awp_condF ?_ ?_); rfl) | (with_reducible (refine awp_condS rfl ?_ ?_); all_goals (intro hb; have hb' := hb; (try simp only [pkC] at hb'); first | (exfalso; omega) | skip)) | ((with_reducible refine awp_reg ?_); intro K hK) | ((with_reducible refine sw_guardT ?_ ?_); rfl) | ((with_reducible refine sw_guardF ?_ ?_); (rfl; try simp only [St.put, undef, pkA, Nat.reduceAdd, Nat.reduceSub, Nat.reduceLeDiff, Nat.reduceEqDiff])) | (with_reducible (refine sw_guardS rfl ?_ ?_); all_goals (intro hb; have hb' := hb; (try simp only [pkC] at hb'); first | (exfalso; omega) | skip)) | ((with_reducible refine hK _ ?_); clear hK K) | (with_reducible refine and_split ?_ ?_) | ((with_reducible refine sw_id ?_); simp (disch := first | decide | omega) only [↓pkS, pkW, pkA, undef, capsOf, ex, St.put, St.ev, kav, gdA, opI, rawI, vbin, srcOf, avsD, acsD, AV.toD, AC.toD, AV.nw, AC.nw, AC.one, Value.oneCell', fillA, D.one, D.ones, D.sz, D.szs, Nat.reduceAdd, Nat.reduceSub, Nat.reduceLeDiff, Nat.reduceEqDiff, reduceIte, pkN, li_acs, ls_acs, sl_acs, GRow.acs_eq, GRow.flat_eq, GRow.agg_eq, GRow.el, el_ints, el_strs, hl]) | (first | (with_reducible rfl) | (with_reducible refine fnok_id ?_; kernel_rfl) | exact el_strs _ | exact el_ints _ | exact el_ln _ | exact el_tk _ _ | exact el_td _ _ _ | omega | (simp; done) | (simp; omega)) | ((with_reducible refine args_id ?_); simp [ArgsOk, ArgOk, argsD, argD, AC.toD, Value.oneCell', sl_flat, leaf_flat, li_flat, ls_flat, sl_agg, leaf_agg, li_agg, ls_agg, mo_t, mo_f, li_acs, ls_acs, sl_acs, GRow.acs_eq, GRow.flat_eq, GRow.agg_eq, GRow.el, el_ints, el_strs, hl]; first | done | rfl))
  exact endRet ⟨_, rfl, rfl, trivial⟩
def ic_derr_impl : IC := (.seq (.reg false [⟨(some 2), none, .mov (.k (.int .i64 0))⟩]) (.seq (.seq (.reg false [⟨(some 12), none, .mov (.t 0)⟩, ⟨(some 13), none, .call 61 [(.t 12)]⟩, ⟨(some 11), none, .mov (.t 13)⟩, ⟨(some 14), none, .ext 0 (.t 11)⟩, ⟨(some 15), none, .ext 1 (.t 11)⟩, ⟨(some 3), none, .alloc [(.int .i64 0), (.int .i64 0), (.int .i64 0), (.string ⟨#[]⟩), (.slice none 0 0), (.slice none 0 0), (.slice none 0 0)]⟩, ⟨none, none, .store 7 (.t 3) (.t 14)⟩, ⟨(some 4), none, .mov (.t 15)⟩]) (.seq (.reg false [⟨(some 16), none, .mov (.t 4)⟩]) (.cond (.t 16) (.seq (.reg false [⟨(some 2), none, .mov (.k (.int .i64 (-1)))⟩]) .ret) .skip))) (.seq (.reg false [⟨(some 17), none, .mov (.t 0)⟩, ⟨(some 18), none, .call 62 [(.t 17), (.k (.string ⟨#[59, 32]⟩))]⟩, ⟨(some 5), none, .mov (.t 18)⟩]) (.seq (.reg false [⟨(some 19), none, .mov (.t 5)⟩, ⟨(some 20), none, .iad 1 (.t 19) (.k (.int .i64 0))⟩, ⟨(some 21), none, .load 1 false (.t 20)⟩, ⟨(some 22), none, .call 63 [(.t 21), (.k (.int .u8 32))]⟩, ⟨(some 6), none, .mov (.t 22)⟩]) (.seq (.seq (.reg false [⟨(some 23), none, .mov (.t 6)⟩, ⟨(some 24), none, .call 64 [(.t 23)]⟩, ⟨(some 25), none, .not (.t 24)⟩]) (.cond (.t 25) (.seq (.reg false [⟨(some 2), none, .mov (.k (.int .i64 0))⟩]) .ret) .skip)) (.seq (.seq (.reg false [⟨(some 26), none, .mov (.t 5)⟩, ⟨(some 27), none, .lsl 1 (.t 26) (some (.k (.int .i64 1))) none⟩, ⟨(some 28), none, .len false (.t 27)⟩, ⟨(some 29), none, .mov (.k (.int .i64 0))⟩]) (.block 0 (.loop (.seq (.reg false [⟨(some 30), none, .bin .lss (.t 29) (.t 28)⟩]) (.seq (.cond (.t 30) .skip (.exit 0)) (.seq (.block 1 (.seq (.reg false [⟨(some 31), none, .mov (.t 29)⟩, ⟨(some 32), none, .iad 1 (.t 27) (.t 29)⟩, ⟨(some 33), none, .load 1 false (.t 32)⟩, ⟨(some 7), none, .mov (.t 31)⟩, ⟨(some 8), none, .mov (.t 33)⟩]) (.seq (.reg false [⟨(some 35), none, .mov (.t 8)⟩, ⟨(some 36), none, .mov (.t 6)⟩, ⟨(some 37), none, .len false (.t 36)⟩, ⟨(some 38), none, .call 65 [(.t 35), (.t 37)]⟩, ⟨(some 34), none, .mov (.t 38)⟩, ⟨(some 39), none, .ext 0 (.t 34)⟩, ⟨(some 40), none, .ext 1 (.t 34)⟩, ⟨(some 9), none, .mov (.t 39)⟩, ⟨(some 10), none, .mov (.t 40)⟩]) (.seq (.reg false [⟨(some 41), none, .mov (.t 10)⟩, ⟨(some 42), none, .not (.t 41)⟩, ⟨(some 43), none, .mov (.t 42)⟩, ⟨(some 44), (some (43, false)), .mov (.t 7)⟩, ⟨(some 45), (some (43, false)), .bin .geq (.t 44) (.k (.int .i64 12))⟩, ⟨(some 46), none, .pick (.t 43) (.k (.bool true)) (.t 45)⟩]) (.cond (.t 46) (.seq (.reg false [⟨(some 47), none, .mov (.t 7)⟩, ⟨(some 48), none, .bin .add (.t 47) (.k (.int .i64 1))⟩, ⟨(some 2), none, .mov (.t 48)⟩]) .ret) .skip))))) (.reg false [⟨(some 49), none, .bin .add (.t 29) (.k (.int .i64 1))⟩, ⟨(some 29), none, .mov (.t 49)⟩]))))))) (.seq (.reg false [⟨(some 2), none, .mov (.k (.int .i64 (-1)))⟩]) .ret)))))))
theorem ic_derr_impl_ok : compC Tryd.prog (Tryd.f27.body.getD .skip) = some ic_derr_impl := by kernel_rfl
set_option maxHeartbeats 16000000 in
theorem dataError_impl_to (s : ByteArray) (hs : s.size ≤ 1048576) : CallsTo Tryd.prog 27 [ls s] (.c false [.raw (.int .i64 (errD s))]) := by
  refine calls_one (fn := Tryd.f27) (t := 2) (by kernel_rfl) (by kernel_rfl) (by kernel_rfl) ic_derr_impl_ok ?_
  unfold ic_derr_impl
  change AWP _ _ _ (st0 50 _)
  simp only [undef, stS, st0, stN, D.av, D.avN, sl_agg, leaf_agg, li_agg, ls_agg, sl_acs, leaf_acs, li_acs, ls_acs, List.map_cons, List.map_nil, List.replicate, List.cons_append, List.nil_append, List.length_cons, List.length_nil, Nat.reduceAdd, Nat.reduceSub]
  have hz := szD hs
  obtain ⟨ps, hps⟩ : ∃ l, partsD s = l := ⟨_, rfl⟩
  obtain ⟨cols, hcols⟩ : ∃ l, colsD s = l := ⟨_, rfl⟩
  obtain ⟨tl, htl⟩ : ∃ l, tailD s = l := ⟨_, rfl⟩
  obtain ⟨z1, z2, z3, z4, z5⟩ := hz
  rw [hps] at z1 z2 z3 z5
  rw [hcols] at z4
  rw [htl] at z5
  have htd : tl = ps.drop 1 := by rw [← htl, ← hps]; rfl
  have htz : ∀ p ∈ tl, p.size ≤ 1048576 := fun p hp => z3 p (by rw [htd] at hp; exact List.mem_of_mem_drop hp)
  obtain ⟨hd, hhd⟩ : ∃ h, headD s = h := ⟨_, rfl⟩
  have hhm : hd ∈ ps := by
    rw [← hhd]
    unfold headD
    rw [hps, List.getD_eq_getElem?_getD, List.getElem?_eq_getElem z2]
    exact List.getElem_mem z2
  have hi0 : idx (ps.map ls) (some 0) = some (ls hd) := by
    have := idx_map ls ps (k := 0) z2
    rw [show ((0 : Nat) : Int) = 0 from rfl] at this
    rw [this, ← hhd]
    unfold headD
    rw [hps, List.getD_eq_getElem?_getD, List.getElem?_eq_getElem z2]
    rfl
  have hcc : cut spB hd = cols := by rw [← hcols, ← hhd]; rfl
  have hT : ((ps.map ls).take ps.length).drop 1 = tl.map ls := by rw [List.take_of_length_le (by rw [List.length_map]; exact Nat.le_refl _), ← List.map_drop, htd]
  have hsb : subB (some 1) none ps.length = some (1, ps.length) := subB_one (by omega)
  have hsp : CallsTo Tryd.prog 62 [ls s, ls ⟨#[59, 32]⟩] (.c false [.sl true (ps.map ls)]) := by
    rw [← hps]
    exact split_to s ⟨#[59, 32]⟩ hs (show 1 ≤ 2 by decide)
  have hspc : CallsTo Tryd.prog 63 [ls hd, .leaf (.int .u8 32)] (.c false [.sl true (cols.map ls)]) := by
    rw [← hcc]
    exact splitByte_impl_to hd 32 (z3 hd hhm)
  have hcz : ∀ w ∈ cols, w.size ≤ 9223372036854775807 := fun w hw => by
    rw [← hcc] at hw
    have := cut_piece (sep := spB) (by decide) hw
    have := z3 hd hhm
    omega
  have hco := cols_impl_to cols (by omega) hcz
  obtain ⟨bp, hbp⟩ : ∃ b, isD s = b := ⟨_, rfl⟩
  cases bp with
  | true =>
    have hpd := parseData_impl_ok s hs hbp
    rw [errD_ok hbp]
    repeat' (first | (with_reducible first | refine awp_seq ?_ | refine awp_block ?_ | refine awp_skip ?_ | refine awp_exit ?_ | refine awp_ret ?_ | refine athen ?_ | refine thenExit ?_ | refine thenRet ?_ | refine blockNormal ?_ | refine blockExit ?_ | refine blockRet ?_ | refine roundExit ?_ | refine roundRet ?_ | refine roundExitR ?_ | refine roundRetR ?_) | ((with_reducible refine blockPass ?_ ?_); rfl) | ((with_reducible refine awp_condT ?_ ?_); rfl) | ((with_reducible refine awp_condF ?_ ?_); rfl) | (with_reducible (refine awp_condS rfl ?_ ?_); all_goals (intro hb; have hb' := hb; (try simp only [pkC] at hb'); first | (exfalso; omega) | skip)) | ((with_reducible refine awp_reg ?_); intro K hK) | ((with_reducible refine sw_guardT ?_ ?_); rfl) | ((with_reducible refine sw_guardF ?_ ?_); (rfl; try simp only [St.put, undef, pkA, Nat.reduceAdd, Nat.reduceSub, Nat.reduceLeDiff, Nat.reduceEqDiff])) | (with_reducible (refine sw_guardS rfl ?_ ?_); all_goals (intro hb; have hb' := hb; (try simp only [pkC] at hb'); first | (exfalso; omega) | skip)) | ((with_reducible refine hK _ ?_); clear hK K) | (with_reducible refine and_split ?_ ?_) | ((with_reducible refine ct_id ?_); first | (refine callThen hpd trivial ?_ ?_)) | ((with_reducible refine ctd_id ?_); first | (refine callThenD hpd trivial ?_ ?_)) | ((with_reducible refine sw_id ?_); simp (disch := first | decide | omega) only [↓pkS, pkW, pkA, undef, capsOf, ex, St.put, St.ev, kav, gdA, opI, rawI, vbin, srcOf, avsD, acsD, AV.toD, AC.toD, AV.nw, AC.nw, AC.one, Value.oneCell', fillA, D.one, D.ones, D.sz, D.szs, Nat.reduceAdd, Nat.reduceSub, Nat.reduceLeDiff, Nat.reduceEqDiff, reduceIte, pkN, li_acs, ls_acs, sl_acs, GRow.acs_eq, GRow.flat_eq, GRow.agg_eq, GRow.el, el_ints, el_strs]) | (first | (with_reducible rfl) | (with_reducible refine fnok_id ?_; kernel_rfl) | exact el_strs _ | exact el_ints _ | exact el_ln _ | exact el_tk _ _ | exact el_td _ _ _ | omega | (simp; done) | (simp; omega)) | ((with_reducible refine args_id ?_); simp [ArgsOk, ArgOk, argsD, argD, AC.toD, Value.oneCell', sl_flat, leaf_flat, li_flat, ls_flat, sl_agg, leaf_agg, li_agg, ls_agg, mo_t, mo_f, li_acs, ls_acs, sl_acs, GRow.acs_eq, GRow.flat_eq, GRow.agg_eq, GRow.el, el_ints, el_strs]; first | done | rfl))
    exact endRet ⟨_, rfl, rfl, trivial⟩
  | false =>
  have hpd := parseData_impl_bad s hs hbp
  obtain ⟨bc, hbc⟩ : ∃ b, colsB cols = b := ⟨_, rfl⟩
  rw [hbc] at hco
  cases bc with
  | false =>
    have hr : errD s = 0 := by unfold errD; rw [hcols, hbc]; rfl
    rw [hr]
    repeat' (first | (with_reducible first | refine awp_seq ?_ | refine awp_block ?_ | refine awp_skip ?_ | refine awp_exit ?_ | refine awp_ret ?_ | refine athen ?_ | refine thenExit ?_ | refine thenRet ?_ | refine blockNormal ?_ | refine blockExit ?_ | refine blockRet ?_ | refine roundExit ?_ | refine roundRet ?_ | refine roundExitR ?_ | refine roundRetR ?_) | ((with_reducible refine blockPass ?_ ?_); rfl) | ((with_reducible refine awp_condT ?_ ?_); rfl) | ((with_reducible refine awp_condF ?_ ?_); rfl) | (with_reducible (refine awp_condS rfl ?_ ?_); all_goals (intro hb; have hb' := hb; (try simp only [pkC] at hb'); first | (exfalso; omega) | skip)) | ((with_reducible refine awp_reg ?_); intro K hK) | ((with_reducible refine sw_guardT ?_ ?_); rfl) | ((with_reducible refine sw_guardF ?_ ?_); (rfl; try simp only [St.put, undef, pkA, Nat.reduceAdd, Nat.reduceSub, Nat.reduceLeDiff, Nat.reduceEqDiff])) | (with_reducible (refine sw_guardS rfl ?_ ?_); all_goals (intro hb; have hb' := hb; (try simp only [pkC] at hb'); first | (exfalso; omega) | skip)) | ((with_reducible refine hK _ ?_); clear hK K) | (with_reducible refine and_split ?_ ?_) | ((with_reducible refine ct_id ?_); first | (refine callThen hsp trivial ?_ ?_) | (refine callThen hspc trivial ?_ ?_) | (refine callThen hco trivial ?_ ?_) | (refine callThen hpd trivial ?_ ?_)) | ((with_reducible refine ctd_id ?_); first | (refine callThenD hsp trivial ?_ ?_) | (refine callThenD hspc trivial ?_ ?_) | (refine callThenD hco trivial ?_ ?_) | (refine callThenD hpd trivial ?_ ?_)) | ((with_reducible refine sw_id ?_); simp (disch := first | decide | omega) only [↓pkS, pkW, pkA, undef, capsOf, ex, St.put, St.ev, kav, gdA, opI, rawI, vbin, srcOf, avsD, acsD, AV.toD, AC.toD, AV.nw, AC.nw, AC.one, Value.oneCell', fillA, D.one, D.ones, D.sz, D.szs, Nat.reduceAdd, Nat.reduceSub, Nat.reduceLeDiff, Nat.reduceEqDiff, reduceIte, pkN, li_acs, ls_acs, sl_acs, GRow.acs_eq, GRow.flat_eq, GRow.agg_eq, GRow.el, el_ints, el_strs, hi0, hT, hsb]) | (first | (with_reducible rfl) | (with_reducible refine fnok_id ?_; kernel_rfl) | exact el_strs _ | exact el_ints _ | exact el_ln _ | exact el_tk _ _ | exact el_td _ _ _ | omega | (simp; done) | (simp; omega)) | ((with_reducible refine args_id ?_); simp [ArgsOk, ArgOk, argsD, argD, AC.toD, Value.oneCell', sl_flat, leaf_flat, li_flat, ls_flat, sl_agg, leaf_agg, li_agg, ls_agg, mo_t, mo_f, li_acs, ls_acs, sl_acs, GRow.acs_eq, GRow.flat_eq, GRow.agg_eq, GRow.el, el_ints, el_strs, hi0, hT, hsb]; first | done | rfl))
    exact endRet ⟨_, rfl, rfl, trivial⟩
  | true =>
  have he0 : errD s = badL cols.length (tl.drop 0) 0 := by unfold errD; rw [hcols, hbc, htl]; rfl
  repeat' (first | (with_reducible first | refine awp_seq ?_ | refine awp_block ?_ | refine awp_skip ?_ | refine awp_exit ?_ | refine awp_ret ?_ | refine athen ?_ | refine thenExit ?_ | refine thenRet ?_ | refine blockNormal ?_ | refine blockExit ?_ | refine blockRet ?_ | refine roundExit ?_ | refine roundRet ?_ | refine roundExitR ?_ | refine roundRetR ?_) | ((with_reducible refine blockPass ?_ ?_); rfl) | ((with_reducible refine awp_condT ?_ ?_); rfl) | ((with_reducible refine awp_condF ?_ ?_); rfl) | (with_reducible (refine awp_condS rfl ?_ ?_); all_goals (intro hb; have hb' := hb; (try simp only [pkC] at hb'); first | (exfalso; omega) | skip)) | ((with_reducible refine awp_reg ?_); intro K hK) | ((with_reducible refine sw_guardT ?_ ?_); rfl) | ((with_reducible refine sw_guardF ?_ ?_); (rfl; try simp only [St.put, undef, pkA, Nat.reduceAdd, Nat.reduceSub, Nat.reduceLeDiff, Nat.reduceEqDiff])) | (with_reducible (refine sw_guardS rfl ?_ ?_); all_goals (intro hb; have hb' := hb; (try simp only [pkC] at hb'); first | (exfalso; omega) | skip)) | ((with_reducible refine hK _ ?_); clear hK K) | (with_reducible refine and_split ?_ ?_) | ((with_reducible refine ct_id ?_); first | (refine callThen hsp trivial ?_ ?_) | (refine callThen hspc trivial ?_ ?_) | (refine callThen hco trivial ?_ ?_) | (refine callThen hpd trivial ?_ ?_)) | ((with_reducible refine ctd_id ?_); first | (refine callThenD hsp trivial ?_ ?_) | (refine callThenD hspc trivial ?_ ?_) | (refine callThenD hco trivial ?_ ?_) | (refine callThenD hpd trivial ?_ ?_)) | ((with_reducible refine sw_id ?_); simp (disch := first | decide | omega) only [↓pkS, pkW, pkA, undef, capsOf, ex, St.put, St.ev, kav, gdA, opI, rawI, vbin, srcOf, avsD, acsD, AV.toD, AC.toD, AV.nw, AC.nw, AC.one, Value.oneCell', fillA, D.one, D.ones, D.sz, D.szs, Nat.reduceAdd, Nat.reduceSub, Nat.reduceLeDiff, Nat.reduceEqDiff, reduceIte, pkN, li_acs, ls_acs, sl_acs, GRow.acs_eq, GRow.flat_eq, GRow.agg_eq, GRow.el, el_ints, el_strs, hi0, hT, hsb]) | (first | (with_reducible rfl) | (with_reducible refine fnok_id ?_; kernel_rfl) | exact el_strs _ | exact el_ints _ | exact el_ln _ | exact el_tk _ _ | exact el_td _ _ _ | omega | (simp; done) | (simp; omega)) | ((with_reducible refine args_id ?_); simp [ArgsOk, ArgOk, argsD, argD, AC.toD, Value.oneCell', sl_flat, leaf_flat, li_flat, ls_flat, sl_agg, leaf_agg, li_agg, ls_agg, mo_t, mo_f, li_acs, ls_acs, sl_acs, GRow.acs_eq, GRow.flat_eq, GRow.agg_eq, GRow.el, el_ints, el_strs, hi0, hT, hsb]; first | done | rfl))
  clear hsp hspc
  refine awp_loopB (X := Nat) (fun q => [.d, .d, .d, .d, .d, .d, .k, .d, .d, .d, .d, .d, .d, .d, .d, .d, .d, .d, .d, .d, .d, .d, .d, .d, .d, .d, .d, .k, .k, .v (.c false [.raw (.int .i64 (q : Nat))]), .d, .d, .d, .d, .d, .d, .d, .d, .d, .d, .d, .d, .d, .d, .d, .d, .d, .d, .d, .d]) (fun q => []) (fun q bs => [[.raw (.int .i64 0), .raw (.int .i64 0), .raw (.int .i64 0), .raw (.string ⟨#[]⟩), .raw (.slice none 0 0), .raw (.slice none 0 0), .raw (.slice none 0 0)]]) (fun q => ∃ j, q = j ∧ j ≤ tl.length ∧ errD s = badL cols.length (tl.drop j) j) (fun q => ps.length - q) 0 ⟨0, rfl, Nat.zero_le _, he0⟩ ?_ ?_
  · simp [StLe', FrLe, OwnLe, BoxLe, AV.fits, AC.fits, FB, mask]
  rintro k ⟨j, hj, hk, he⟩
  simp only [FB, mask]
  by_cases hlt : j < tl.length
  · have hl : decide ((k : Int) < ((tl.length : Nat) : Int)) = true := decide_eq_true (by omega)
    have hg : idx (tl.map ls) (some ((k : Nat) : Int)) = some (ls tl[j]) := by subst hj; exact idx_map ls tl hlt
    have hrow := row_impl_any tl[j] cols.length (htz _ (List.getElem_mem hlt)) z4
    rw [badL_at hlt] at he
    cases hro : rowGood cols.length tl[j] with
    | false =>
      rw [hro] at hrow
      rw [hro, if_neg (by decide)] at he
      rw [he]
      repeat' (first | (with_reducible first | refine awp_seq ?_ | refine awp_block ?_ | refine awp_skip ?_ | refine awp_exit ?_ | refine awp_ret ?_ | refine athen ?_ | refine thenExit ?_ | refine thenRet ?_ | refine blockNormal ?_ | refine blockExit ?_ | refine blockRet ?_ | refine roundExit ?_ | refine roundRet ?_ | refine roundExitR ?_ | refine roundRetR ?_) | ((with_reducible refine blockPass ?_ ?_); rfl) | ((with_reducible refine awp_condT ?_ ?_); rfl) | ((with_reducible refine awp_condF ?_ ?_); rfl) | (with_reducible (refine awp_condS rfl ?_ ?_); all_goals (intro hb; have hb' := hb; (try simp only [pkC] at hb'); first | (exfalso; omega) | skip)) | ((with_reducible refine awp_reg ?_); intro K hK) | ((with_reducible refine sw_guardT ?_ ?_); rfl) | ((with_reducible refine sw_guardF ?_ ?_); (rfl; try simp only [St.put, undef, pkA, Nat.reduceAdd, Nat.reduceSub, Nat.reduceLeDiff, Nat.reduceEqDiff])) | (with_reducible (refine sw_guardS rfl ?_ ?_); all_goals (intro hb; have hb' := hb; (try simp only [pkC] at hb'); first | (exfalso; omega) | skip)) | ((with_reducible refine hK _ ?_); clear hK K) | (with_reducible refine and_split ?_ ?_) | ((with_reducible refine ct_id ?_); first | (refine callThen hrow trivial ?_ ?_)) | ((with_reducible refine ctd_id ?_); first | (refine callThenD hrow trivial ?_ ?_)) | ((with_reducible refine sw_id ?_); simp (disch := first | decide | omega) only [↓pkS, pkW, pkA, undef, capsOf, ex, St.put, St.ev, kav, gdA, opI, rawI, vbin, srcOf, avsD, acsD, AV.toD, AC.toD, AV.nw, AC.nw, AC.one, Value.oneCell', fillA, D.one, D.ones, D.sz, D.szs, Nat.reduceAdd, Nat.reduceSub, Nat.reduceLeDiff, Nat.reduceEqDiff, reduceIte, pkN, li_acs, ls_acs, sl_acs, GRow.acs_eq, GRow.flat_eq, GRow.agg_eq, GRow.el, el_ints, el_strs, hg, hl]) | (first | (with_reducible rfl) | (with_reducible refine fnok_id ?_; kernel_rfl) | exact el_strs _ | exact el_ints _ | exact el_ln _ | exact el_tk _ _ | exact el_td _ _ _ | omega | (simp; done) | (simp; omega)) | ((with_reducible refine args_id ?_); simp [ArgsOk, ArgOk, argsD, argD, AC.toD, Value.oneCell', sl_flat, leaf_flat, li_flat, ls_flat, sl_agg, leaf_agg, li_agg, ls_agg, mo_t, mo_f, li_acs, ls_acs, sl_acs, GRow.acs_eq, GRow.flat_eq, GRow.agg_eq, GRow.el, el_ints, el_strs, hg, hl]; first | done | rfl))
      exact endRet ⟨_, rfl, by rw [hj]; rfl, trivial⟩
    | true =>
      rw [hro] at hrow
      rw [hro, if_pos rfl] at he
      by_cases h12 : 12 ≤ j
      · rw [if_pos h12] at he
        rw [he]
        have h12d : decide ((k : Int) ≥ 12) = true := decide_eq_true (by omega)
        repeat' (first | (with_reducible first | refine awp_seq ?_ | refine awp_block ?_ | refine awp_skip ?_ | refine awp_exit ?_ | refine awp_ret ?_ | refine athen ?_ | refine thenExit ?_ | refine thenRet ?_ | refine blockNormal ?_ | refine blockExit ?_ | refine blockRet ?_ | refine roundExit ?_ | refine roundRet ?_ | refine roundExitR ?_ | refine roundRetR ?_) | ((with_reducible refine blockPass ?_ ?_); rfl) | ((with_reducible refine awp_condT ?_ ?_); rfl) | ((with_reducible refine awp_condF ?_ ?_); rfl) | (with_reducible (refine awp_condS rfl ?_ ?_); all_goals (intro hb; have hb' := hb; (try simp only [pkC] at hb'); first | (exfalso; omega) | skip)) | ((with_reducible refine awp_reg ?_); intro K hK) | ((with_reducible refine sw_guardT ?_ ?_); rfl) | ((with_reducible refine sw_guardF ?_ ?_); (rfl; try simp only [St.put, undef, pkA, Nat.reduceAdd, Nat.reduceSub, Nat.reduceLeDiff, Nat.reduceEqDiff])) | (with_reducible (refine sw_guardS rfl ?_ ?_); all_goals (intro hb; have hb' := hb; (try simp only [pkC] at hb'); first | (exfalso; omega) | skip)) | ((with_reducible refine hK _ ?_); clear hK K) | (with_reducible refine and_split ?_ ?_) | ((with_reducible refine ct_id ?_); first | (refine callThen hrow trivial ?_ ?_)) | ((with_reducible refine ctd_id ?_); first | (refine callThenD hrow trivial ?_ ?_)) | ((with_reducible refine sw_id ?_); simp (disch := first | decide | omega) only [↓pkS, pkW, pkA, undef, capsOf, ex, St.put, St.ev, kav, gdA, opI, rawI, vbin, srcOf, avsD, acsD, AV.toD, AC.toD, AV.nw, AC.nw, AC.one, Value.oneCell', fillA, D.one, D.ones, D.sz, D.szs, Nat.reduceAdd, Nat.reduceSub, Nat.reduceLeDiff, Nat.reduceEqDiff, reduceIte, pkN, li_acs, ls_acs, sl_acs, GRow.acs_eq, GRow.flat_eq, GRow.agg_eq, GRow.el, el_ints, el_strs, hg, hl, h12d]) | (first | (with_reducible rfl) | (with_reducible refine fnok_id ?_; kernel_rfl) | exact el_strs _ | exact el_ints _ | exact el_ln _ | exact el_tk _ _ | exact el_td _ _ _ | omega | (simp; done) | (simp; omega)) | ((with_reducible refine args_id ?_); simp [ArgsOk, ArgOk, argsD, argD, AC.toD, Value.oneCell', sl_flat, leaf_flat, li_flat, ls_flat, sl_agg, leaf_agg, li_agg, ls_agg, mo_t, mo_f, li_acs, ls_acs, sl_acs, GRow.acs_eq, GRow.flat_eq, GRow.agg_eq, GRow.el, el_ints, el_strs, hg, hl, h12d]; first | done | rfl))
        exact endRet ⟨_, rfl, by rw [hj]; rfl, trivial⟩
      · rw [if_neg h12] at he
        have h12d : decide ((k : Int) ≥ 12) = false := decide_eq_false (by omega)
        repeat' (first | (with_reducible first | refine awp_seq ?_ | refine awp_block ?_ | refine awp_skip ?_ | refine awp_exit ?_ | refine awp_ret ?_ | refine athen ?_ | refine thenExit ?_ | refine thenRet ?_ | refine blockNormal ?_ | refine blockExit ?_ | refine blockRet ?_ | refine roundExit ?_ | refine roundRet ?_ | refine roundExitR ?_ | refine roundRetR ?_) | ((with_reducible refine blockPass ?_ ?_); rfl) | ((with_reducible refine awp_condT ?_ ?_); rfl) | ((with_reducible refine awp_condF ?_ ?_); rfl) | (with_reducible (refine awp_condS rfl ?_ ?_); all_goals (intro hb; have hb' := hb; (try simp only [pkC] at hb'); first | (exfalso; omega) | skip)) | ((with_reducible refine awp_reg ?_); intro K hK) | ((with_reducible refine sw_guardT ?_ ?_); rfl) | ((with_reducible refine sw_guardF ?_ ?_); (rfl; try simp only [St.put, undef, pkA, Nat.reduceAdd, Nat.reduceSub, Nat.reduceLeDiff, Nat.reduceEqDiff])) | (with_reducible (refine sw_guardS rfl ?_ ?_); all_goals (intro hb; have hb' := hb; (try simp only [pkC] at hb'); first | (exfalso; omega) | skip)) | ((with_reducible refine hK _ ?_); clear hK K) | (with_reducible refine and_split ?_ ?_) | ((with_reducible refine ct_id ?_); first | (refine callThen hrow trivial ?_ ?_)) | ((with_reducible refine ctd_id ?_); first | (refine callThenD hrow trivial ?_ ?_)) | ((with_reducible refine sw_id ?_); simp (disch := first | decide | omega) only [↓pkS, pkW, pkA, undef, capsOf, ex, St.put, St.ev, kav, gdA, opI, rawI, vbin, srcOf, avsD, acsD, AV.toD, AC.toD, AV.nw, AC.nw, AC.one, Value.oneCell', fillA, D.one, D.ones, D.sz, D.szs, Nat.reduceAdd, Nat.reduceSub, Nat.reduceLeDiff, Nat.reduceEqDiff, reduceIte, pkN, li_acs, ls_acs, sl_acs, GRow.acs_eq, GRow.flat_eq, GRow.agg_eq, GRow.el, el_ints, el_strs, hg, hl, h12d]) | (first | (with_reducible rfl) | (with_reducible refine fnok_id ?_; kernel_rfl) | exact el_strs _ | exact el_ints _ | exact el_ln _ | exact el_tk _ _ | exact el_td _ _ _ | omega | (simp; done) | (simp; omega)) | ((with_reducible refine args_id ?_); simp [ArgsOk, ArgOk, argsD, argD, AC.toD, Value.oneCell', sl_flat, leaf_flat, li_flat, ls_flat, sl_agg, leaf_agg, li_agg, ls_agg, mo_t, mo_f, li_acs, ls_acs, sl_acs, GRow.acs_eq, GRow.flat_eq, GRow.agg_eq, GRow.el, el_ints, el_strs, hg, hl, h12d]; first | done | rfl))
        refine roundB (k + 1) ?_ ⟨j + 1, by omega, show j + 1 ≤ tl.length by omega, he⟩ (show ps.length - (k + 1) < ps.length - k by omega)
        simp [StLe', FrLe, OwnLe, BoxLe, AV.fits, AC.fits, FB, mask]
  have hl : decide ((k : Int) < ((tl.length : Nat) : Int)) = false := decide_eq_false (by omega)
  obtain rfl : j = tl.length := by omega
  rw [List.drop_length] at he
  have he : errD s = -1 := he
  rw [he]
  repeat' (first | (with_reducible first | refine awp_seq ?_ | refine awp_block ?_ | refine awp_skip ?_ | refine awp_exit ?_ | refine awp_ret ?_ | refine athen ?_ | refine thenExit ?_ | refine thenRet ?_ | refine blockNormal ?_ | refine blockExit ?_ | refine blockRet ?_ | refine roundExit ?_ | refine roundRet ?_ | refine roundExitR ?_ | refine roundRetR ?_) | ((with_reducible refine blockPass ?_ ?_); rfl) | ((with_reducible refine awp_condT ?_ ?_); rfl) | ((with_reducible refine awp_condF ?_ ?_); rfl) | (with_reducible (refine awp_condS rfl ?_ ?_); all_goals (intro hb; have hb' := hb; (try simp only [pkC] at hb'); first | (exfalso; omega) | skip)) | ((with_reducible refine awp_reg ?_); intro K hK) | ((with_reducible refine sw_guardT ?_ ?_); rfl) | ((with_reducible refine sw_guardF ?_ ?_); (rfl; try simp only [St.put, undef, pkA, Nat.reduceAdd, Nat.reduceSub, Nat.reduceLeDiff, Nat.reduceEqDiff])) | (with_reducible (refine sw_guardS rfl ?_ ?_); all_goals (intro hb; have hb' := hb; (try simp only [pkC] at hb'); first | (exfalso; omega) | skip)) | ((with_reducible refine hK _ ?_); clear hK K) | (with_reducible refine and_split ?_ ?_) | ((with_reducible refine sw_id ?_); simp (disch := first | decide | omega) only [↓pkS, pkW, pkA, undef, capsOf, ex, St.put, St.ev, kav, gdA, opI, rawI, vbin, srcOf, avsD, acsD, AV.toD, AC.toD, AV.nw, AC.nw, AC.one, Value.oneCell', fillA, D.one, D.ones, D.sz, D.szs, Nat.reduceAdd, Nat.reduceSub, Nat.reduceLeDiff, Nat.reduceEqDiff, reduceIte, pkN, li_acs, ls_acs, sl_acs, GRow.acs_eq, GRow.flat_eq, GRow.agg_eq, GRow.el, el_ints, el_strs, hl]) | (first | (with_reducible rfl) | (with_reducible refine fnok_id ?_; kernel_rfl) | exact el_strs _ | exact el_ints _ | exact el_ln _ | exact el_tk _ _ | exact el_td _ _ _ | omega | (simp; done) | (simp; omega)) | ((with_reducible refine args_id ?_); simp [ArgsOk, ArgOk, argsD, argD, AC.toD, Value.oneCell', sl_flat, leaf_flat, li_flat, ls_flat, sl_agg, leaf_agg, li_agg, ls_agg, mo_t, mo_f, li_acs, ls_acs, sl_acs, GRow.acs_eq, GRow.flat_eq, GRow.agg_eq, GRow.el, el_ints, el_strs, hl]; first | done | rfl))
  exact endRet ⟨_, rfl, rfl, trivial⟩
theorem dataError_spec_law (s : ByteArray) (hs : s.size ≤ 1048576) (w : World) (ht : TabP w) : Calls Tryd.prog 26 #[.string s] w (RetB (.int .i64 (errD s)) w) :=
  of_raw (dataError_spec_to s hs) (vs := [.string s]) ⟨rd_of_leaf _, trivial⟩ ht
theorem dataError_impl_law (s : ByteArray) (hs : s.size ≤ 1048576) (w : World) (ht : TabP w) : Calls Tryd.prog 27 #[.string s] w (RetB (.int .i64 (errD s)) w) :=
  of_raw (dataError_impl_to s hs) (vs := [.string s]) ⟨rd_of_leaf _, trivial⟩ ht
end Go.Proofs.YtdjcflnemnknaaaDoor

