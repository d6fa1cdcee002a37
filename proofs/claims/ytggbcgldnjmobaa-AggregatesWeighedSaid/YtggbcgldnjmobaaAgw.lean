
/-
  AggregatesWeighed returns true for every slice of integers, and leaves the slice as it was: Integral, Average, Extremes, Median and GoodTime are as the reference says, for all samples and windows that its generators make of the slice. No condition.
-/
import Derived.Test.YtggbcgldnjmobaaMdn
import Derived.Test.YtggbcgldnjmobaaAiRow
import Derived.Test.YtggbcgldnjmobaaRows
namespace Go.Proofs.Ytggbcgldnjmobaa
open Go Go.Ai
set_option linter.unusedSimpArgs false
set_option linter.unusedVariables false
set_option maxHeartbeats 4000000
def A_agw : List Ann := [⟨(some ⟨[0], [], []⟩), [], [], [], []⟩, ⟨(some ⟨[3,35], [35], []⟩), [], [], [], []⟩, ⟨(some ⟨[4,5,6], [5], []⟩), [], [], [], []⟩, ⟨(some ⟨[4,5,6,7], [5], []⟩), [], [], [], []⟩, ⟨(some ⟨[4,5,6,7,8,9,10], [5], []⟩), [], [], [], []⟩, ⟨(some ⟨[4,5,6,7,8,9,10,11,12,13], [5,11], []⟩), [], [], [], []⟩, ⟨(some ⟨[4,5,6,7,8,9,10,11,12,13,14,15,16,17], [5,11], []⟩), [], [], [], []⟩, ⟨(some ⟨[4,5,6,7,8,9,10,11,12,13,14,15,16,17,18,19,20], [5,11], []⟩), [], [], [], []⟩, ⟨(some ⟨[4,5,6,7,8,9,10,11,12,13,14,15,16,17,18,19,20,21,22], [5,11], []⟩), [], [], [], []⟩, ⟨(some ⟨[4,5,6,7,8,9,10,11,12,13,14,15,16,17,18,19,20,21,22,23], [5,11], []⟩), [], [], [], []⟩, ⟨(some ⟨[4,5,7,8,9,10,11,12,13,14,15,16,17,18,19,20,117], [5,11], []⟩), [], [], [], []⟩, ⟨(some ⟨[2], [], []⟩), [], [], [], []⟩, ⟨(some ⟨[4,5,7,8,9,10,11,12,13,14,15,16,17,18,19,20,119], [5,11], []⟩), [], [], [], []⟩, ⟨(some ⟨[2], [], []⟩), [], [], [], []⟩, ⟨(some ⟨[4,5,8,9,10,11,12,13,14,15,16,17,18,19,20,24,25], [5,11], []⟩), [], [], [], []⟩, ⟨(some ⟨[4,5,8,9,10,11,12,13,14,15,16,17,18,19,20,24,25,26,27], [5,11,26], []⟩), [], [], [], []⟩, ⟨(some ⟨[4,5,8,9,10,11,12,13,14,15,16,17,18,19,20,24,25,26,27,28,29,30], [5,11,26], []⟩), [], [], [], []⟩, ⟨(some ⟨[8,9,10,11,12,13,14,15,16,17,18,19,20,24,25,26,27,28,29,30,31,32], [11,26], []⟩), [], [], [], []⟩, ⟨(some ⟨[14,15,16,17,18,19,20,28,29,30,31,32,228], [], []⟩), [], [], [], []⟩, ⟨(some ⟨[2], [], []⟩), [], [], [], []⟩, ⟨(some ⟨[2], [], []⟩), [], [], [], []⟩]
def C_agw : AC := (.seq (.reg false [⟨(some 2), none, .mv (.v (.bool false))⟩] (some ⟨[0], [], []⟩))
  (.seq (.reg false [⟨(some 33), none, .mv (.t 0)⟩, ⟨(some 34), none, .build [(.slice none 0 0), (.int .i64 (0))] [(0, 1, (.t 33))]⟩, ⟨(some 35), none, .box (.t 34)⟩, ⟨(some 3), none, .mv (.t 35)⟩] (some ⟨[3,35], [35], []⟩))
  (.seq (.reg false [⟨(some 36), none, .mv (.t 3)⟩, ⟨(some 37), none, .callx (.f 15) [(.t 36), (.v (.int .i64 (10)))]⟩, ⟨(some 38), none, .mv (.t 3)⟩, ⟨(some 39), none, .callx (.f 65) [(.t 38)]⟩, ⟨(some 40), none, .mv (.t 3)⟩, ⟨(some 41), none, .bslice 1 4 [(.v (.int .i64 (0))), (.v (.int .i64 (1))), (.v (.int .i64 (2))), (.v (.int .i64 (-1)))]⟩, ⟨(some 42), none, .callx (.f 57) [(.t 40), (.t 41)]⟩, ⟨(some 5), none, .alloc [(.int .i64 (0)), (.int .i64 (0))]⟩, ⟨(some 4), none, .mv (.t 37)⟩, ⟨none, none, .store 2 (.t 5) (.t 39)⟩, ⟨(some 6), none, .mv (.t 42)⟩] (some ⟨[4,5,6], [5], []⟩))
  (.seq (.reg true [⟨(some 43), none, .mv (.t 4)⟩, ⟨(some 44), none, .call (.f 28) [(.t 43)]⟩, ⟨(some 45), none, .load true 2 (.t 5)⟩, ⟨(some 46), none, .call (.f 66) [(.t 45)]⟩, ⟨(some 47), none, .bslice 1 2 [(.t 44), (.t 46)]⟩, ⟨(some 48), none, .call (.f 27) [(.t 47)]⟩, ⟨(some 7), none, .mv (.t 48)⟩] (some ⟨[4,5,6,7], [5], []⟩))
  (.seq (.reg false [⟨(some 50), none, .mv (.t 4)⟩, ⟨(some 51), none, .load true 2 (.t 5)⟩, ⟨(some 52), none, .call (.f 60) [(.t 50), (.t 51)]⟩, ⟨(some 49), none, .mv (.t 52)⟩, ⟨(some 53), none, .extr (.t 49) 0⟩, ⟨(some 54), none, .extr (.t 49) 1⟩, ⟨(some 55), none, .extr (.t 49) 2⟩, ⟨(some 8), none, .mv (.t 53)⟩, ⟨(some 9), none, .mv (.t 54)⟩, ⟨(some 10), none, .mv (.t 55)⟩] (some ⟨[4,5,6,7,8,9,10], [5], []⟩))
  (.seq (.reg false [⟨(some 57), none, .mv (.t 4)⟩, ⟨(some 58), none, .load true 2 (.t 5)⟩, ⟨(some 59), none, .call (.f 61) [(.t 57), (.t 58)]⟩, ⟨(some 56), none, .mv (.t 59)⟩, ⟨(some 60), none, .extr (.t 56) 0⟩, ⟨(some 61), none, .extr (.t 56) 1⟩, ⟨(some 62), none, .extr (.t 56) 2⟩, ⟨(some 11), none, .alloc [(.int .i64 (0)), (.int .i64 (0))]⟩, ⟨none, none, .store 2 (.t 11) (.t 60)⟩, ⟨(some 12), none, .mv (.t 61)⟩, ⟨(some 13), none, .mv (.t 62)⟩] (some ⟨[4,5,6,7,8,9,10,11,12,13], [5,11], []⟩))
  (.seq (.reg false [⟨(some 64), none, .mv (.t 4)⟩, ⟨(some 65), none, .load true 2 (.t 5)⟩, ⟨(some 66), none, .call (.f 62) [(.t 64), (.t 65)]⟩, ⟨(some 63), none, .mv (.t 66)⟩, ⟨(some 67), none, .extr (.t 63) 0⟩, ⟨(some 68), none, .extr (.t 63) 1⟩, ⟨(some 69), none, .extr (.t 63) 2⟩, ⟨(some 70), none, .extr (.t 63) 3⟩, ⟨(some 14), none, .mv (.t 67)⟩, ⟨(some 15), none, .mv (.t 68)⟩, ⟨(some 16), none, .mv (.t 69)⟩, ⟨(some 17), none, .mv (.t 70)⟩] (some ⟨[4,5,6,7,8,9,10,11,12,13,14,15,16,17], [5,11], []⟩))
  (.seq (.reg false [⟨(some 72), none, .mv (.t 4)⟩, ⟨(some 73), none, .load true 2 (.t 5)⟩, ⟨(some 74), none, .call (.f 63) [(.t 72), (.t 73)]⟩, ⟨(some 71), none, .mv (.t 74)⟩, ⟨(some 75), none, .extr (.t 71) 0⟩, ⟨(some 76), none, .extr (.t 71) 1⟩, ⟨(some 77), none, .extr (.t 71) 2⟩, ⟨(some 18), none, .mv (.t 75)⟩, ⟨(some 19), none, .mv (.t 76)⟩, ⟨(some 20), none, .mv (.t 77)⟩] (some ⟨[4,5,6,7,8,9,10,11,12,13,14,15,16,17,18,19,20], [5,11], []⟩))
  (.seq (.reg false [⟨(some 79), none, .mv (.t 4)⟩, ⟨(some 80), none, .load true 2 (.t 5)⟩, ⟨(some 81), none, .mv (.t 6)⟩, ⟨(some 82), none, .call (.f 64) [(.t 79), (.t 80), (.t 81)]⟩, ⟨(some 78), none, .mv (.t 82)⟩, ⟨(some 83), none, .extr (.t 78) 0⟩, ⟨(some 84), none, .extr (.t 78) 1⟩, ⟨(some 21), none, .mv (.t 83)⟩, ⟨(some 22), none, .mv (.t 84)⟩] (some ⟨[4,5,6,7,8,9,10,11,12,13,14,15,16,17,18,19,20,21,22], [5,11], []⟩))
  (.seq (.reg false [⟨(some 85), none, .mv (.t 7)⟩, ⟨(some 86), none, .mv (.t 6)⟩, ⟨(some 87), none, .bin .neq (.t 86) (.v (.int .i64 (0)))⟩, ⟨(some 88), none, .mv (.t 87)⟩, ⟨(some 89), (some (88, true)), .mv (.t 6)⟩, ⟨(some 90), (some (88, true)), .bin .neq (.t 89) (.v (.int .i64 (1)))⟩, ⟨(some 91), none, .pick (.t 88) (.t 90) (.v (.bool false))⟩, ⟨(some 92), none, .call (.f 67) [(.t 91), (.v (.int .i64 (4)))]⟩, ⟨(some 93), none, .bslice 1 2 [(.t 85), (.t 92)]⟩, ⟨(some 94), none, .call (.f 27) [(.t 93)]⟩, ⟨(some 23), none, .mv (.t 94)⟩] (some ⟨[4,5,6,7,8,9,10,11,12,13,14,15,16,17,18,19,20,21,22,23], [5,11], []⟩))
  (.seq (.seq (.reg false [⟨(some 95), none, .mv (.t 22)⟩, ⟨(some 96), none, .mv (.t 23)⟩, ⟨(some 97), none, .bin .neq (.t 95) (.t 96)⟩, ⟨(some 98), none, .mv (.t 97)⟩, ⟨(some 99), (some (98, false)), .mv (.t 23)⟩, ⟨(some 100), (some (98, false)), .bin .eql (.t 99) (.v (.int .i64 (0)))⟩, ⟨(some 101), (some (98, false)), .mv (.t 100)⟩, ⟨(some 102), (some (101, true)), .mv (.t 21)⟩, ⟨(some 103), (some (101, true)), .mv (.t 4)⟩, ⟨(some 104), (some (101, true)), .load true 2 (.t 5)⟩, ⟨(some 105), (some (101, true)), .mv (.t 6)⟩, ⟨(some 106), (some (101, true)), .call (.f 68) [(.t 103), (.t 104), (.t 105)]⟩, ⟨(some 107), (some (101, true)), .bin .neq (.t 102) (.t 106)⟩, ⟨(some 108), (some (98, false)), .pick (.t 101) (.t 107) (.v (.bool false))⟩, ⟨(some 109), none, .pick (.t 98) (.v (.bool true)) (.t 108)⟩, ⟨(some 110), none, .mv (.t 109)⟩, ⟨(some 111), (some (110, false)), .mv (.t 23)⟩, ⟨(some 112), (some (110, false)), .bin .neq (.t 111) (.v (.int .i64 (0)))⟩, ⟨(some 113), (some (110, false)), .mv (.t 112)⟩, ⟨(some 114), (some (113, true)), .mv (.t 21)⟩, ⟨(some 115), (some (113, true)), .bin .neq (.t 114) (.v (.int .i64 (0)))⟩, ⟨(some 116), (some (110, false)), .pick (.t 113) (.t 115) (.v (.bool false))⟩, ⟨(some 117), none, .pick (.t 110) (.v (.bool true)) (.t 116)⟩] (some ⟨[4,5,7,8,9,10,11,12,13,14,15,16,17,18,19,20,117], [5,11], []⟩))
  (.cond (.t 117)
  (.seq (.reg false [⟨(some 2), none, .mv (.v (.bool false))⟩] (some ⟨[2], [], []⟩))
  .ret)
  .skip))
  (.seq (.seq (.reg false [⟨(some 118), none, .mv (.t 7)⟩, ⟨(some 119), none, .bin .neq (.t 118) (.v (.int .i64 (0)))⟩] (some ⟨[4,5,7,8,9,10,11,12,13,14,15,16,17,18,19,20,119], [5,11], []⟩))
  (.cond (.t 119)
  (.seq (.reg false [⟨(some 120), none, .mv (.t 10)⟩, ⟨(some 121), none, .mv (.t 7)⟩, ⟨(some 122), none, .bin .eql (.t 120) (.t 121)⟩, ⟨(some 123), none, .mv (.t 122)⟩, ⟨(some 124), (some (123, true)), .mv (.t 13)⟩, ⟨(some 125), (some (123, true)), .mv (.t 7)⟩, ⟨(some 126), (some (123, true)), .bin .eql (.t 124) (.t 125)⟩, ⟨(some 127), none, .pick (.t 123) (.t 126) (.v (.bool false))⟩, ⟨(some 128), none, .mv (.t 127)⟩, ⟨(some 129), (some (128, true)), .mv (.t 17)⟩, ⟨(some 130), (some (128, true)), .mv (.t 7)⟩, ⟨(some 131), (some (128, true)), .bin .eql (.t 129) (.t 130)⟩, ⟨(some 132), none, .pick (.t 128) (.t 131) (.v (.bool false))⟩, ⟨(some 133), none, .mv (.t 132)⟩, ⟨(some 134), (some (133, true)), .mv (.t 20)⟩, ⟨(some 135), (some (133, true)), .mv (.t 7)⟩, ⟨(some 136), (some (133, true)), .bin .eql (.t 134) (.t 135)⟩, ⟨(some 137), none, .pick (.t 133) (.t 136) (.v (.bool false))⟩, ⟨(some 138), none, .mv (.t 137)⟩, ⟨(some 139), (some (138, true)), .mv (.t 8)⟩, ⟨(some 140), (some (138, true)), .bin .eql (.t 139) (.v (.int .i64 (0)))⟩, ⟨(some 141), none, .pick (.t 138) (.t 140) (.v (.bool false))⟩, ⟨(some 142), none, .mv (.t 141)⟩, ⟨(some 143), (some (142, true)), .mv (.t 9)⟩, ⟨(some 144), (some (142, true)), .bin .eql (.t 143) (.v (.int .i64 (0)))⟩, ⟨(some 145), none, .pick (.t 142) (.t 144) (.v (.bool false))⟩, ⟨(some 146), none, .mv (.t 145)⟩, ⟨(some 147), (some (146, true)), .mv (.t 12)⟩, ⟨(some 148), (some (146, true)), .un .not (.t 147)⟩, ⟨(some 149), none, .pick (.t 146) (.t 148) (.v (.bool false))⟩, ⟨(some 150), none, .mv (.t 149)⟩, ⟨(some 151), (some (150, true)), .mv (.t 16)⟩, ⟨(some 152), (some (150, true)), .un .not (.t 151)⟩, ⟨(some 153), none, .pick (.t 150) (.t 152) (.v (.bool false))⟩, ⟨(some 154), none, .mv (.t 153)⟩, ⟨(some 155), (some (154, true)), .mv (.t 19)⟩, ⟨(some 156), (some (154, true)), .un .not (.t 155)⟩, ⟨(some 157), none, .pick (.t 154) (.t 156) (.v (.bool false))⟩, ⟨(some 158), none, .mv (.t 157)⟩, ⟨(some 159), (some (158, true)), .load true 2 (.t 11)⟩, ⟨(some 160), (some (158, true)), .build [(.int .i64 (0)), (.int .i64 (0))] []⟩, ⟨(some 161), (some (158, true)), .eqs false true [.i .i64, .i .i64] (.t 159) (.t 160)⟩, ⟨(some 162), none, .pick (.t 158) (.t 161) (.v (.bool false))⟩, ⟨(some 163), none, .mv (.t 162)⟩, ⟨(some 164), (some (163, true)), .mv (.t 14)⟩, ⟨(some 165), (some (163, true)), .bin .eql (.t 164) (.v (.int .i64 (0)))⟩, ⟨(some 166), none, .pick (.t 163) (.t 165) (.v (.bool false))⟩, ⟨(some 167), none, .mv (.t 166)⟩, ⟨(some 168), (some (167, true)), .mv (.t 15)⟩, ⟨(some 169), (some (167, true)), .bin .eql (.t 168) (.v (.int .i64 (0)))⟩, ⟨(some 170), none, .pick (.t 167) (.t 169) (.v (.bool false))⟩, ⟨(some 171), none, .mv (.t 170)⟩, ⟨(some 172), (some (171, true)), .mv (.t 18)⟩, ⟨(some 173), (some (171, true)), .bin .eql (.t 172) (.v (.int .i64 (0)))⟩, ⟨(some 174), none, .pick (.t 171) (.t 173) (.v (.bool false))⟩, ⟨(some 175), none, .mv (.t 174)⟩, ⟨(some 176), (some (175, true)), .call (.f 69) []⟩, ⟨(some 177), none, .pick (.t 175) (.t 176) (.v (.bool false))⟩, ⟨(some 2), none, .mv (.t 177)⟩] (some ⟨[2], [], []⟩))
  .ret)
  .skip))
  (.seq (.reg false [⟨(some 179), none, .mv (.t 4)⟩, ⟨(some 180), none, .load true 2 (.t 5)⟩, ⟨(some 181), none, .call (.f 70) [(.t 179), (.t 180)]⟩, ⟨(some 178), none, .mv (.t 181)⟩, ⟨(some 182), none, .extr (.t 178) 0⟩, ⟨(some 183), none, .extr (.t 178) 1⟩, ⟨(some 24), none, .mv (.t 182)⟩, ⟨(some 25), none, .mv (.t 183)⟩] (some ⟨[4,5,8,9,10,11,12,13,14,15,16,17,18,19,20,24,25], [5,11], []⟩))
  (.seq (.reg false [⟨(some 185), none, .mv (.t 4)⟩, ⟨(some 186), none, .load true 2 (.t 5)⟩, ⟨(some 187), none, .call (.f 71) [(.t 185), (.t 186)]⟩, ⟨(some 184), none, .mv (.t 187)⟩, ⟨(some 188), none, .extr (.t 184) 0⟩, ⟨(some 189), none, .extr (.t 184) 1⟩, ⟨(some 26), none, .alloc [(.int .i64 (0)), (.int .i64 (0))]⟩, ⟨none, none, .store 2 (.t 26) (.t 188)⟩, ⟨(some 27), none, .mv (.t 189)⟩] (some ⟨[4,5,8,9,10,11,12,13,14,15,16,17,18,19,20,24,25,26,27], [5,11,26], []⟩))
  (.seq (.reg false [⟨(some 191), none, .mv (.t 4)⟩, ⟨(some 192), none, .load true 2 (.t 5)⟩, ⟨(some 193), none, .call (.f 72) [(.t 191), (.t 192)]⟩, ⟨(some 190), none, .mv (.t 193)⟩, ⟨(some 194), none, .extr (.t 190) 0⟩, ⟨(some 195), none, .extr (.t 190) 1⟩, ⟨(some 196), none, .extr (.t 190) 2⟩, ⟨(some 28), none, .mv (.t 194)⟩, ⟨(some 29), none, .mv (.t 195)⟩, ⟨(some 30), none, .mv (.t 196)⟩] (some ⟨[4,5,8,9,10,11,12,13,14,15,16,17,18,19,20,24,25,26,27,28,29,30], [5,11,26], []⟩))
  (.seq (.reg false [⟨(some 198), none, .mv (.t 4)⟩, ⟨(some 199), none, .load true 2 (.t 5)⟩, ⟨(some 200), none, .call (.f 73) [(.t 198), (.t 199)]⟩, ⟨(some 197), none, .mv (.t 200)⟩, ⟨(some 201), none, .extr (.t 197) 0⟩, ⟨(some 202), none, .extr (.t 197) 1⟩, ⟨(some 31), none, .mv (.t 201)⟩, ⟨(some 32), none, .mv (.t 202)⟩] (some ⟨[8,9,10,11,12,13,14,15,16,17,18,19,20,24,25,26,27,28,29,30,31,32], [11,26], []⟩))
  (.seq (.seq (.reg false [⟨(some 203), none, .mv (.t 10)⟩, ⟨(some 204), none, .bin .neq (.t 203) (.v (.int .i64 (0)))⟩, ⟨(some 205), none, .mv (.t 204)⟩, ⟨(some 206), (some (205, false)), .mv (.t 8)⟩, ⟨(some 207), (some (205, false)), .mv (.t 24)⟩, ⟨(some 208), (some (205, false)), .bin .neq (.t 206) (.t 207)⟩, ⟨(some 209), none, .pick (.t 205) (.v (.bool true)) (.t 208)⟩, ⟨(some 210), none, .mv (.t 209)⟩, ⟨(some 211), (some (210, false)), .mv (.t 9)⟩, ⟨(some 212), (some (210, false)), .mv (.t 25)⟩, ⟨(some 213), (some (210, false)), .bin .neq (.t 211) (.t 212)⟩, ⟨(some 214), none, .pick (.t 210) (.v (.bool true)) (.t 213)⟩, ⟨(some 215), none, .mv (.t 214)⟩, ⟨(some 216), (some (215, false)), .mv (.t 13)⟩, ⟨(some 217), (some (215, false)), .bin .neq (.t 216) (.v (.int .i64 (0)))⟩, ⟨(some 218), none, .pick (.t 215) (.v (.bool true)) (.t 217)⟩, ⟨(some 219), none, .mv (.t 218)⟩, ⟨(some 220), (some (219, false)), .load true 2 (.t 11)⟩, ⟨(some 221), (some (219, false)), .load true 2 (.t 26)⟩, ⟨(some 222), (some (219, false)), .eqs true true [.i .i64, .i .i64] (.t 220) (.t 221)⟩, ⟨(some 223), none, .pick (.t 219) (.v (.bool true)) (.t 222)⟩, ⟨(some 224), none, .mv (.t 223)⟩, ⟨(some 225), (some (224, false)), .mv (.t 12)⟩, ⟨(some 226), (some (224, false)), .mv (.t 27)⟩, ⟨(some 227), (some (224, false)), .eqs true false [.b] (.t 225) (.t 226)⟩, ⟨(some 228), none, .pick (.t 224) (.v (.bool true)) (.t 227)⟩] (some ⟨[14,15,16,17,18,19,20,28,29,30,31,32,228], [], []⟩))
  (.cond (.t 228)
  (.seq (.reg false [⟨(some 2), none, .mv (.v (.bool false))⟩] (some ⟨[2], [], []⟩))
  .ret)
  .skip))
  (.seq (.reg false [⟨(some 229), none, .mv (.t 17)⟩, ⟨(some 230), none, .bin .eql (.t 229) (.v (.int .i64 (0)))⟩, ⟨(some 231), none, .mv (.t 230)⟩, ⟨(some 232), (some (231, true)), .mv (.t 14)⟩, ⟨(some 233), (some (231, true)), .mv (.t 28)⟩, ⟨(some 234), (some (231, true)), .bin .eql (.t 232) (.t 233)⟩, ⟨(some 235), none, .pick (.t 231) (.t 234) (.v (.bool false))⟩, ⟨(some 236), none, .mv (.t 235)⟩, ⟨(some 237), (some (236, true)), .mv (.t 15)⟩, ⟨(some 238), (some (236, true)), .mv (.t 29)⟩, ⟨(some 239), (some (236, true)), .bin .eql (.t 237) (.t 238)⟩, ⟨(some 240), none, .pick (.t 236) (.t 239) (.v (.bool false))⟩, ⟨(some 241), none, .mv (.t 240)⟩, ⟨(some 242), (some (241, true)), .mv (.t 16)⟩, ⟨(some 243), (some (241, true)), .mv (.t 30)⟩, ⟨(some 244), (some (241, true)), .eqs false false [.b] (.t 242) (.t 243)⟩, ⟨(some 245), none, .pick (.t 241) (.t 244) (.v (.bool false))⟩, ⟨(some 246), none, .mv (.t 245)⟩, ⟨(some 247), (some (246, true)), .mv (.t 20)⟩, ⟨(some 248), (some (246, true)), .bin .eql (.t 247) (.v (.int .i64 (0)))⟩, ⟨(some 249), none, .pick (.t 246) (.t 248) (.v (.bool false))⟩, ⟨(some 250), none, .mv (.t 249)⟩, ⟨(some 251), (some (250, true)), .mv (.t 18)⟩, ⟨(some 252), (some (250, true)), .mv (.t 31)⟩, ⟨(some 253), (some (250, true)), .bin .eql (.t 251) (.t 252)⟩, ⟨(some 254), none, .pick (.t 250) (.t 253) (.v (.bool false))⟩, ⟨(some 255), none, .mv (.t 254)⟩, ⟨(some 256), (some (255, true)), .mv (.t 19)⟩, ⟨(some 257), (some (255, true)), .mv (.t 32)⟩, ⟨(some 258), (some (255, true)), .eqs false false [.b] (.t 256) (.t 257)⟩, ⟨(some 259), none, .pick (.t 255) (.t 258) (.v (.bool false))⟩, ⟨(some 260), none, .mv (.t 259)⟩, ⟨(some 261), (some (260, true)), .call (.f 69) []⟩, ⟨(some 262), none, .pick (.t 260) (.t 261) (.v (.bool false))⟩, ⟨(some 2), none, .mv (.t 262)⟩] (some ⟨[2], [], []⟩))
  .ret))))))))))))))))))
theorem c_agw : compileCode Try.prog Try.f13.ntmps (Try.f13.body.getD .skip) A_agw = some (C_agw, []) := by kernel_rfl
theorem r_agw : compileRes Try.prog Try.f13.results.toList = some [.t 2] := by kernel_rfl
theorem b_agw : Try.f13.body = some (Try.f13.body.getD .skip) := by kernel_rfl
theorem n_agw : (Try.f13.name == "runtime.NumGoroutine") = false := by kernel_rfl
theorem fc_agw {xt : Option (List Cel)} {args : List Val} {R : List Cel → Val → Prop} (hn : (if xt.isSome then 1 else 0) + args.length ≤ Try.f13.ntmps) (h : ex Try.prog C_agw [] (fpost xt [.t 2] R) (initSt xt args)) : FC Try.prog 13 xt args R :=
  fc_of_awp Try.func13 b_agw n_agw c_agw r_agw (of_decide_eq_true (by kernel_rfl)) hn h


theorem or_ne {a : Int} (h : ¬a = 0) (l : List Int) : orSp (a :: l) = a := by rw [orSp, if_pos h]
theorem or_z (l : List Int) : orSp (0 :: l) = orSp l := by rw [orSp, if_neg (by simp)]
theorem or_1 (a : Int) : orSp [a] = a := by rw [orSp]; split <;> simp_all [orSp]
theorem itg_ok {l : List Smp} {f t : Int} (h : bothFault l f t = 0) : itgSp l f t = (intS (vals f t l), intT (vals f t l), 0) := by unfold itgSp; rw [if_neg (by omega)]
theorem itg_no {l : List Smp} {f t : Int} (h : ¬bothFault l f t = 0) : itgSp l f t = (0, 0, bothFault l f t) := by unfold itgSp; rw [if_pos h]
theorem avg_ok {l : List Smp} {f t : Int} (h : bothFault l f t = 0) : avgSp l f t = ((if intT (vals f t l) = 0 then (0, 0) else (lowN (intS (vals f t l)) (intT (vals f t l)), lowD (intS (vals f t l)) (intT (vals f t l)))), decide (intT (vals f t l) ≠ 0), 0) := by
  unfold avgSp; rw [if_neg (by omega)]
  by_cases c : intT (vals f t l) = 0
  · rw [if_pos c, if_pos c, decide_eq_false (by omega)]
  · rw [if_neg c, if_neg c, decide_eq_true c]
theorem avg_no {l : List Smp} {f t : Int} (h : ¬bothFault l f t = 0) : avgSp l f t = ((0, 0), false, bothFault l f t) := by unfold avgSp; rw [if_pos h]
theorem ext_ok {l : List Smp} {f t : Int} (h : bothFault l f t = 0) : extSp l f t = (exSp (vals f t l), 0) := by unfold extSp; rw [if_neg (by omega)]
theorem ext_no {l : List Smp} {f t : Int} (h : ¬bothFault l f t = 0) : extSp l f t = ((0, 0, false), bothFault l f t) := by unfold extSp; rw [if_pos h]
theorem med_ok {l : List Smp} {f t : Int} (h : bothFault l f t = 0) : mednSp l f t = ((medOf (vals f t l)).1, (medOf (vals f t l)).2, 0) := by unfold mednSp; rw [if_neg (by omega)]
theorem med_no {l : List Smp} {f t : Int} (h : ¬bothFault l f t = 0) : mednSp l f t = (0, false, bothFault l f t) := by unfold mednSp; rw [if_pos h]
theorem gt_ok {l : List Smp} {f t w : Int} (h : bothFault l f t = 0) (h2 : ¬(w < 0 ∨ w > 1)) : gtSp l f t w = (gdT w (pcsGo f t l), 0) := by unfold gtSp; rw [if_neg (by omega), if_neg h2]
theorem gt_w {l : List Smp} {f t w : Int} (h : bothFault l f t = 0) (h2 : w < 0 ∨ w > 1) : gtSp l f t w = (0, 4) := by unfold gtSp; rw [if_neg (by omega), if_pos h2]
theorem gt_no {l : List Smp} {f t : Int} (w : Int) (h : ¬bothFault l f t = 0) : gtSp l f t w = (0, bothFault l f t) := by unfold gtSp; rw [if_pos h]
set_option maxHeartbeats 12000000 in
set_option maxRecDepth 8000 in
theorem agw_fc (L : List Int) (hL : ∀ x ∈ L, I64 x) (hl : L.length ≤ 9223372036854775807) : FC Try.prog 13 none [ints false L] (fun _ r => r = bv true) := by
  refine fc_agw (by simp +arith) ?_
  unfold C_agw
  simp (maxSteps := 1000000) (disch := omega) only [go_sem, eq_self, decide_true, decide_false, not_true_eq_false, not_false_eq_true, reduceIte, reduceCtorEq, Nat.reduceEqDiff, Nat.reduceAdd, Nat.reduceSub, Nat.reduceLeDiff]
  refine callx_gen (p := 0) (curve_fc 10 (by omega) (by omega)) hL hl (by omega) (by omega) ⟨_, [], by simp, by simp, rfl⟩ ?_
  rintro pa r ha1 ha2 ⟨c, hcl, hc64, rfl⟩
  refine ⟨rfl, ?_⟩
  unfold strm
  simp (maxSteps := 1000000) (disch := omega) only [go_sem, eq_self, decide_true, decide_false, not_true_eq_false, not_false_eq_true, reduceIte, reduceCtorEq, Nat.reduceEqDiff, Nat.reduceAdd, Nat.reduceSub, Nat.reduceLeDiff]
  refine callx_gen aspan_fc hL hl (by omega) (by omega) ⟨_, 0, 0, by simp [I64], by simp [I64], rfl⟩ ?_
  rintro pd r had hbd ⟨f, t, hf, ht, rfl⟩
  refine ⟨rfl, ?_⟩
  unfold strm
  simp (maxSteps := 1000000) (disch := omega) only [go_sem, eq_self, decide_true, decide_false, not_true_eq_false, not_false_eq_true, reduceIte, reduceCtorEq, Nat.reduceEqDiff, Nat.reduceAdd, Nat.reduceSub, Nat.reduceLeDiff]
  refine callx_gen (pick_fc false [0, 1, 2, -1] (by simp) (by simp)) hL hl (by omega) (by omega) ⟨_, 0, by simp, rfl⟩ ?_
  rintro pw r haw hbw ⟨zw, hzw, rfl⟩
  refine ⟨rfl, ?_⟩
  unfold strm
  simp only [List.mem_cons, List.not_mem_nil, or_false] at hzw
  simp (maxSteps := 1000000) (disch := omega) only [go_sem, eq_self, decide_true, decide_false, not_true_eq_false, not_false_eq_true, reduceIte, reduceCtorEq, Nat.reduceEqDiff, Nat.reduceAdd, Nat.reduceSub, Nat.reduceLeDiff]
  refine CALL_det (seriesFault_fc c (by omega)) (.inl rfl) ?_
  simp (maxSteps := 1000000) (disch := omega) only [go_sem, eq_self, decide_true, decide_false, not_true_eq_false, not_false_eq_true, reduceIte, reduceCtorEq, Nat.reduceEqDiff, Nat.reduceAdd, Nat.reduceSub, Nat.reduceLeDiff]
  refine CALL_det (windowFault_fc f t) (.inl rfl) ?_
  simp (maxSteps := 1000000) (disch := omega) only [go_sem, eq_self, decide_true, decide_false, not_true_eq_false, not_false_eq_true, reduceIte, reduceCtorEq, Nat.reduceEqDiff, Nat.reduceAdd, Nat.reduceSub, Nat.reduceLeDiff]
  refine CALL_det (orE_fc false [serFault c, winFault f t] (by simp)) (.inl rfl) ?_
  rw [bothFault_or]
  simp (maxSteps := 1000000) (disch := omega) only [go_sem, eq_self, decide_true, decide_false, not_true_eq_false, not_false_eq_true, reduceIte, reduceCtorEq, Nat.reduceEqDiff, Nat.reduceAdd, Nat.reduceSub, Nat.reduceLeDiff]
  refine CALL_det (integralP_fc c (by omega) f t) (.inl rfl) ?_
  simp (maxSteps := 1000000) (disch := omega) only [go_sem, eq_self, decide_true, decide_false, not_true_eq_false, not_false_eq_true, reduceIte, reduceCtorEq, Nat.reduceEqDiff, Nat.reduceAdd, Nat.reduceSub, Nat.reduceLeDiff]
  refine CALL_det (average_fc c (by omega) f t) (.inl rfl) ?_
  simp (maxSteps := 1000000) (disch := omega) only [go_sem, eq_self, decide_true, decide_false, not_true_eq_false, not_false_eq_true, reduceIte, reduceCtorEq, Nat.reduceEqDiff, Nat.reduceAdd, Nat.reduceSub, Nat.reduceLeDiff]
  refine CALL_det (extremesP_fc c (by omega) f t) (.inl rfl) ?_
  simp (maxSteps := 1000000) (disch := omega) only [go_sem, eq_self, decide_true, decide_false, not_true_eq_false, not_false_eq_true, reduceIte, reduceCtorEq, Nat.reduceEqDiff, Nat.reduceAdd, Nat.reduceSub, Nat.reduceLeDiff]
  refine CALL_det (median_fc c (by omega) f t) (.inl rfl) ?_
  simp (maxSteps := 1000000) (disch := omega) only [go_sem, eq_self, decide_true, decide_false, not_true_eq_false, not_false_eq_true, reduceIte, reduceCtorEq, Nat.reduceEqDiff, Nat.reduceAdd, Nat.reduceSub, Nat.reduceLeDiff]
  refine CALL_det (goodTime_fc c (by omega) f t zw) (.inl rfl) ?_
  by_cases h1 : bothFault c f t = 0
  · have hs := (bothFault_ok h1).1
    have hw := winFault_ok (bothFault_ok h1).2
    obtain ⟨hrt, hT0, hT⟩ := vals_rt hs hw
    have havg := averageOf_fc c hs f t hw
    rw [itg_ok h1, avg_ok h1, ext_ok h1, med_ok h1, h1]
    have hint := integralOf_fc c hs f t hw
    have hext := extremesOf_fc c hs f t
    have hmed := medianOf_fc c (by omega) hs f t hw
    have hgood := goodOf_fc c hs f t zw hw
    by_cases h2 : zw < 0 ∨ zw > 1
    · have e2 : ¬zw = 0 := by omega
      have e3 : ¬zw = 1 := by omega
      rw [gt_w h1 h2]
      generalize exSp (vals f t c) = x at *
      generalize medOf (vals f t c) = y at *
      generalize intS (vals f t c) = S at *
      generalize intT (vals f t c) = T at *
      by_cases h3 : T = 0
      · rw [if_pos h3] at havg ⊢
        subst h3
        simp (maxSteps := 1000000) (disch := omega) only [go_sem, eq_self, decide_true, decide_false, not_true_eq_false, not_false_eq_true, reduceIte, reduceCtorEq, Nat.reduceEqDiff, Nat.reduceAdd, Nat.reduceSub, Nat.reduceLeDiff]
        refine CALL_det (whenE_fc (decide (zw ≠ 1)) 4) (.inl rfl) ?_
        rw [decide_eq_true e3]
        simp (maxSteps := 1000000) (disch := omega) only [go_sem, eq_self, decide_true, decide_false, not_true_eq_false, not_false_eq_true, reduceIte, reduceCtorEq, Nat.reduceEqDiff, Nat.reduceAdd, Nat.reduceSub, Nat.reduceLeDiff]
        refine CALL_det (orE_fc false [0, 4] (by simp)) (.inl rfl) ?_
        rw [or_z, or_1]
        simp (maxSteps := 1000000) (disch := omega) only [go_sem, eq_self, decide_true, decide_false, not_true_eq_false, not_false_eq_true, reduceIte, reduceCtorEq, Nat.reduceEqDiff, Nat.reduceAdd, Nat.reduceSub, Nat.reduceLeDiff]
        refine CALL_det hint (.inl rfl) ?_
        simp (maxSteps := 1000000) (disch := omega) only [go_sem, eq_self, decide_true, decide_false, not_true_eq_false, not_false_eq_true, reduceIte, reduceCtorEq, Nat.reduceEqDiff, Nat.reduceAdd, Nat.reduceSub, Nat.reduceLeDiff]
        refine CALL_det havg (.inl rfl) ?_
        simp (maxSteps := 1000000) (disch := omega) only [go_sem, eq_self, decide_true, decide_false, not_true_eq_false, not_false_eq_true, reduceIte, reduceCtorEq, Nat.reduceEqDiff, Nat.reduceAdd, Nat.reduceSub, Nat.reduceLeDiff]
        refine CALL_det hext (.inl rfl) ?_
        simp (maxSteps := 1000000) (disch := omega) only [go_sem, eq_self, decide_true, decide_false, not_true_eq_false, not_false_eq_true, reduceIte, reduceCtorEq, Nat.reduceEqDiff, Nat.reduceAdd, Nat.reduceSub, Nat.reduceLeDiff]
        refine CALL_det hmed (.inl rfl) ?_
        simp (maxSteps := 1000000) (disch := omega) only [go_sem, eq_self, decide_true, decide_false, not_true_eq_false, not_false_eq_true, reduceIte, reduceCtorEq, Nat.reduceEqDiff, Nat.reduceAdd, Nat.reduceSub, Nat.reduceLeDiff]
        refine CALL_det queried_fc (.inl rfl) ?_
        simp (maxSteps := 1000000) (disch := omega) only [go_sem, eq_self, decide_true, decide_false, not_true_eq_false, not_false_eq_true, reduceIte, reduceCtorEq, Nat.reduceEqDiff, Nat.reduceAdd, Nat.reduceSub, Nat.reduceLeDiff]
      · rw [if_neg h3] at havg ⊢
        rw [decide_eq_true h3]
        simp (maxSteps := 1000000) (disch := omega) only [go_sem, eq_self, decide_true, decide_false, not_true_eq_false, not_false_eq_true, reduceIte, reduceCtorEq, Nat.reduceEqDiff, Nat.reduceAdd, Nat.reduceSub, Nat.reduceLeDiff]
        refine CALL_det (whenE_fc (decide (zw ≠ 1)) 4) (.inl rfl) ?_
        rw [decide_eq_true e3]
        simp (maxSteps := 1000000) (disch := omega) only [go_sem, eq_self, decide_true, decide_false, not_true_eq_false, not_false_eq_true, reduceIte, reduceCtorEq, Nat.reduceEqDiff, Nat.reduceAdd, Nat.reduceSub, Nat.reduceLeDiff]
        refine CALL_det (orE_fc false [0, 4] (by simp)) (.inl rfl) ?_
        rw [or_z, or_1]
        simp (maxSteps := 1000000) (disch := omega) only [go_sem, eq_self, decide_true, decide_false, not_true_eq_false, not_false_eq_true, reduceIte, reduceCtorEq, Nat.reduceEqDiff, Nat.reduceAdd, Nat.reduceSub, Nat.reduceLeDiff]
        refine CALL_det hint (.inl rfl) ?_
        simp (maxSteps := 1000000) (disch := omega) only [go_sem, eq_self, decide_true, decide_false, not_true_eq_false, not_false_eq_true, reduceIte, reduceCtorEq, Nat.reduceEqDiff, Nat.reduceAdd, Nat.reduceSub, Nat.reduceLeDiff]
        refine CALL_det havg (.inl rfl) ?_
        simp (maxSteps := 1000000) (disch := omega) only [go_sem, eq_self, decide_true, decide_false, not_true_eq_false, not_false_eq_true, reduceIte, reduceCtorEq, Nat.reduceEqDiff, Nat.reduceAdd, Nat.reduceSub, Nat.reduceLeDiff]
        refine CALL_det hext (.inl rfl) ?_
        simp (maxSteps := 1000000) (disch := omega) only [go_sem, eq_self, decide_true, decide_false, not_true_eq_false, not_false_eq_true, reduceIte, reduceCtorEq, Nat.reduceEqDiff, Nat.reduceAdd, Nat.reduceSub, Nat.reduceLeDiff]
        refine CALL_det hmed (.inl rfl) ?_
        simp (maxSteps := 1000000) (disch := omega) only [go_sem, eq_self, decide_true, decide_false, not_true_eq_false, not_false_eq_true, reduceIte, reduceCtorEq, Nat.reduceEqDiff, Nat.reduceAdd, Nat.reduceSub, Nat.reduceLeDiff]
        refine CALL_det queried_fc (.inl rfl) ?_
        simp (maxSteps := 1000000) (disch := omega) only [go_sem, eq_self, decide_true, decide_false, not_true_eq_false, not_false_eq_true, reduceIte, reduceCtorEq, Nat.reduceEqDiff, Nat.reduceAdd, Nat.reduceSub, Nat.reduceLeDiff]
    · rw [gt_ok h1 h2]
      obtain rfl | rfl : zw = 0 ∨ zw = 1 := by omega
      all_goals
        generalize gdT _ (pcsGo f t c) = G at *
        generalize exSp (vals f t c) = x at *
        generalize medOf (vals f t c) = y at *
        generalize intS (vals f t c) = S at *
        generalize intT (vals f t c) = T at *
        by_cases h3 : T = 0
        · rw [if_pos h3] at havg ⊢
          subst h3
          simp (maxSteps := 1000000) (disch := omega) only [go_sem, eq_self, decide_true, decide_false, not_true_eq_false, not_false_eq_true, reduceIte, reduceCtorEq, Nat.reduceEqDiff, Nat.reduceAdd, Nat.reduceSub, Nat.reduceLeDiff]
          refine CALL_det (whenE_fc false 4) (.inl rfl) ?_
          simp (maxSteps := 1000000) (disch := omega) only [go_sem, eq_self, decide_true, decide_false, not_true_eq_false, not_false_eq_true, reduceIte, reduceCtorEq, Nat.reduceEqDiff, Nat.reduceAdd, Nat.reduceSub, Nat.reduceLeDiff]
          refine CALL_det (orE_fc false [0, 0] (by simp)) (.inl rfl) ?_
          rw [or_z, or_1]
          simp (maxSteps := 1000000) (disch := omega) only [go_sem, eq_self, decide_true, decide_false, not_true_eq_false, not_false_eq_true, reduceIte, reduceCtorEq, Nat.reduceEqDiff, Nat.reduceAdd, Nat.reduceSub, Nat.reduceLeDiff]
          refine CALL_det hgood (.inl rfl) ?_
          simp (maxSteps := 1000000) (disch := omega) only [go_sem, eq_self, decide_true, decide_false, not_true_eq_false, not_false_eq_true, reduceIte, reduceCtorEq, Nat.reduceEqDiff, Nat.reduceAdd, Nat.reduceSub, Nat.reduceLeDiff]
          refine CALL_det hint (.inl rfl) ?_
          simp (maxSteps := 1000000) (disch := omega) only [go_sem, eq_self, decide_true, decide_false, not_true_eq_false, not_false_eq_true, reduceIte, reduceCtorEq, Nat.reduceEqDiff, Nat.reduceAdd, Nat.reduceSub, Nat.reduceLeDiff]
          refine CALL_det havg (.inl rfl) ?_
          simp (maxSteps := 1000000) (disch := omega) only [go_sem, eq_self, decide_true, decide_false, not_true_eq_false, not_false_eq_true, reduceIte, reduceCtorEq, Nat.reduceEqDiff, Nat.reduceAdd, Nat.reduceSub, Nat.reduceLeDiff]
          refine CALL_det hext (.inl rfl) ?_
          simp (maxSteps := 1000000) (disch := omega) only [go_sem, eq_self, decide_true, decide_false, not_true_eq_false, not_false_eq_true, reduceIte, reduceCtorEq, Nat.reduceEqDiff, Nat.reduceAdd, Nat.reduceSub, Nat.reduceLeDiff]
          refine CALL_det hmed (.inl rfl) ?_
          simp (maxSteps := 1000000) (disch := omega) only [go_sem, eq_self, decide_true, decide_false, not_true_eq_false, not_false_eq_true, reduceIte, reduceCtorEq, Nat.reduceEqDiff, Nat.reduceAdd, Nat.reduceSub, Nat.reduceLeDiff]
          refine CALL_det queried_fc (.inl rfl) ?_
          simp (maxSteps := 1000000) (disch := omega) only [go_sem, eq_self, decide_true, decide_false, not_true_eq_false, not_false_eq_true, reduceIte, reduceCtorEq, Nat.reduceEqDiff, Nat.reduceAdd, Nat.reduceSub, Nat.reduceLeDiff]
        · rw [if_neg h3] at havg ⊢
          rw [decide_eq_true h3]
          simp (maxSteps := 1000000) (disch := omega) only [go_sem, eq_self, decide_true, decide_false, not_true_eq_false, not_false_eq_true, reduceIte, reduceCtorEq, Nat.reduceEqDiff, Nat.reduceAdd, Nat.reduceSub, Nat.reduceLeDiff]
          refine CALL_det (whenE_fc false 4) (.inl rfl) ?_
          simp (maxSteps := 1000000) (disch := omega) only [go_sem, eq_self, decide_true, decide_false, not_true_eq_false, not_false_eq_true, reduceIte, reduceCtorEq, Nat.reduceEqDiff, Nat.reduceAdd, Nat.reduceSub, Nat.reduceLeDiff]
          refine CALL_det (orE_fc false [0, 0] (by simp)) (.inl rfl) ?_
          rw [or_z, or_1]
          simp (maxSteps := 1000000) (disch := omega) only [go_sem, eq_self, decide_true, decide_false, not_true_eq_false, not_false_eq_true, reduceIte, reduceCtorEq, Nat.reduceEqDiff, Nat.reduceAdd, Nat.reduceSub, Nat.reduceLeDiff]
          refine CALL_det hgood (.inl rfl) ?_
          simp (maxSteps := 1000000) (disch := omega) only [go_sem, eq_self, decide_true, decide_false, not_true_eq_false, not_false_eq_true, reduceIte, reduceCtorEq, Nat.reduceEqDiff, Nat.reduceAdd, Nat.reduceSub, Nat.reduceLeDiff]
          refine CALL_det hint (.inl rfl) ?_
          simp (maxSteps := 1000000) (disch := omega) only [go_sem, eq_self, decide_true, decide_false, not_true_eq_false, not_false_eq_true, reduceIte, reduceCtorEq, Nat.reduceEqDiff, Nat.reduceAdd, Nat.reduceSub, Nat.reduceLeDiff]
          refine CALL_det havg (.inl rfl) ?_
          simp (maxSteps := 1000000) (disch := omega) only [go_sem, eq_self, decide_true, decide_false, not_true_eq_false, not_false_eq_true, reduceIte, reduceCtorEq, Nat.reduceEqDiff, Nat.reduceAdd, Nat.reduceSub, Nat.reduceLeDiff]
          refine CALL_det hext (.inl rfl) ?_
          simp (maxSteps := 1000000) (disch := omega) only [go_sem, eq_self, decide_true, decide_false, not_true_eq_false, not_false_eq_true, reduceIte, reduceCtorEq, Nat.reduceEqDiff, Nat.reduceAdd, Nat.reduceSub, Nat.reduceLeDiff]
          refine CALL_det hmed (.inl rfl) ?_
          simp (maxSteps := 1000000) (disch := omega) only [go_sem, eq_self, decide_true, decide_false, not_true_eq_false, not_false_eq_true, reduceIte, reduceCtorEq, Nat.reduceEqDiff, Nat.reduceAdd, Nat.reduceSub, Nat.reduceLeDiff]
          refine CALL_det queried_fc (.inl rfl) ?_
          simp (maxSteps := 1000000) (disch := omega) only [go_sem, eq_self, decide_true, decide_false, not_true_eq_false, not_false_eq_true, reduceIte, reduceCtorEq, Nat.reduceEqDiff, Nat.reduceAdd, Nat.reduceSub, Nat.reduceLeDiff]
  · rw [itg_no h1, avg_no h1, ext_no h1, med_no h1, gt_no zw h1]
    generalize bothFault c f t = F at *
    by_cases h2 : zw < 0 ∨ zw > 1
    · have e2 : ¬zw = 0 := by omega
      have e3 : ¬zw = 1 := by omega
      simp (maxSteps := 10000000) (disch := omega) only [go_sem, eq_self, decide_true, decide_false, not_true_eq_false, not_false_eq_true, reduceIte, reduceCtorEq, Nat.reduceEqDiff, Nat.reduceAdd, Nat.reduceSub, Nat.reduceLeDiff]
      refine CALL_det (whenE_fc (decide (zw ≠ 1)) 4) (.inl rfl) ?_
      rw [decide_eq_true e3]
      simp (maxSteps := 10000000) (disch := omega) only [go_sem, eq_self, decide_true, decide_false, not_true_eq_false, not_false_eq_true, reduceIte, reduceCtorEq, Nat.reduceEqDiff, Nat.reduceAdd, Nat.reduceSub, Nat.reduceLeDiff]
      refine CALL_det (orE_fc false [F, 4] (by simp)) (.inl rfl) ?_
      rw [or_ne h1]
      simp (maxSteps := 10000000) (disch := omega) only [go_sem, eq_self, decide_true, decide_false, not_true_eq_false, not_false_eq_true, reduceIte, reduceCtorEq, Nat.reduceEqDiff, Nat.reduceAdd, Nat.reduceSub, Nat.reduceLeDiff]
      refine CALL_det queried_fc (.inl rfl) ?_
      simp (maxSteps := 10000000) (disch := omega) only [go_sem, eq_self, decide_true, decide_false, not_true_eq_false, not_false_eq_true, reduceIte, reduceCtorEq, Nat.reduceEqDiff, Nat.reduceAdd, Nat.reduceSub, Nat.reduceLeDiff]
    · obtain rfl | rfl : zw = 0 ∨ zw = 1 := by omega
      all_goals
        simp (maxSteps := 10000000) (disch := omega) only [go_sem, eq_self, decide_true, decide_false, not_true_eq_false, not_false_eq_true, reduceIte, reduceCtorEq, Nat.reduceEqDiff, Nat.reduceAdd, Nat.reduceSub, Nat.reduceLeDiff]
        refine CALL_det (whenE_fc false 4) (.inl rfl) ?_
        simp (maxSteps := 10000000) (disch := omega) only [go_sem, eq_self, decide_true, decide_false, not_true_eq_false, not_false_eq_true, reduceIte, reduceCtorEq, Nat.reduceEqDiff, Nat.reduceAdd, Nat.reduceSub, Nat.reduceLeDiff]
        refine CALL_det (orE_fc false [F, 0] (by simp)) (.inl rfl) ?_
        rw [or_ne h1]
        simp (maxSteps := 10000000) (disch := omega) only [go_sem, eq_self, decide_true, decide_false, not_true_eq_false, not_false_eq_true, reduceIte, reduceCtorEq, Nat.reduceEqDiff, Nat.reduceAdd, Nat.reduceSub, Nat.reduceLeDiff]
        refine CALL_det queried_fc (.inl rfl) ?_
        simp (maxSteps := 10000000) (disch := omega) only [go_sem, eq_self, decide_true, decide_false, not_true_eq_false, not_false_eq_true, reduceIte, reduceCtorEq, Nat.reduceEqDiff, Nat.reduceAdd, Nat.reduceSub, Nat.reduceLeDiff]
theorem agw_own : ownKnob Try.prog.godebug = none := by kernel_rfl
theorem agw_laid : laidOutB Try.prog = true := by kernel_rfl
set_option maxRecDepth 100000 in
theorem agw_lifted (os : Os) (started : os.Started) (H : Type) (enc : TypeId × Value → H) :
    ReturnsInHanded {} Try.checked os 13 .any (Rows.aggregatesWeighedSpec.pre6 enc Try.prog Try.f13 Rows.aggregatesWeighedRow.domain false) (Rows.aggregatesWeighedSpec.post enc Try.prog Try.f13 false true false false) := by
  refine returnsInHanded_of_change (C := Try.checked) agw_own started (by kernel_rfl) Try.func13
    (ChangeSpec.witness6 (enc := enc) (C := Try.checked) false ⟨#[], #[.slice none 0 0], []⟩ 8 (by kernel_rfl) (by kernel_rfl) (by kernel_rfl) (by kernel_rfl)) ?_
  intro W base args ds gs before hval hW _ _
  exact law_contract (P := Try.prog) (fun L h1 h2 => agw_fc L h1 h2) (fun _ _ => rfl) rfl rfl rfl agw_laid (by kernel_rfl) (of_decide_eq_true (by kernel_rfl)) Try.underlying22 Try.underlying3 (by kernel_rfl) Try.underlying4 W base args ds gs before hval hW
theorem agw_over : Rows.aggregatesWeighedRow.holds Try.pinned (OpenSpec.ofChange Rows.aggregatesWeighedSpec) :=
  OpenClaim.holds_of_wide 13 Try.f13 rfl rfl rfl rfl rfl rfl rfl ⟨rfl, rfl, rfl, rfl, rfl⟩ rfl rfl rfl rfl rfl (by kernel_rfl) Try.func13 (by kernel_rfl)
    (of_decide_eq_true (by kernel_rfl)) (by unfold Func.isWrapper; first | (rw [if_pos (by decide +kernel)]; kernel_rfl) | (rw [if_neg (by decide +kernel)]; exact ⟨rfl, rfl⟩))
    (fun os started H enc _ => agw_lifted os started H enc)
theorem aggregates_weighed : Rows.AggregatesWeighedSaid := agw_over
end Go.Proofs.Ytggbcgldnjmobaa
