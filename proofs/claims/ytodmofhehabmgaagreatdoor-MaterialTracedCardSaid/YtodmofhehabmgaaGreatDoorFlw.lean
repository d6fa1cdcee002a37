/-
 Fractions compared by products that do not fit; lowest terms told; the least share's faults.
-/
import Derived.Test.YtodmofhehabmgaaGreatDoorKey
import Derived.Laws.Bits64b
import Derived.Lib.Mul64
namespace Go.Proofs.YtodmofhehabmgaaGreatDoor
open Go Go.Ai
set_option linter.unusedSimpArgs false
set_option linter.unusedVariables false
set_option maxHeartbeats 4000000
def C_mul64 : AC := (.seq (.reg false [gI 4 (.mv (.v (.int .u64 (0)))),gI 5 (.mv (.v (.int .u64 (0))))] (kP [0,1] [] []))
 (.seq (.reg false [gM 14 0,gI 15 (.bin .and (.t 14) (.v (.int .u64 (4294967295)))),gM 6 15] (kP [0,1,6] [] []))
 (.seq (.reg false [gM 16 0,gI 17 (.bin .shr (.t 16) (.v (.int .u64 (32)))),gM 7 17] (kP [0,1,6,7] [] []))
 (.seq (.reg false [gM 18 1,gI 19 (.bin .and (.t 18) (.v (.int .u64 (4294967295)))),gM 8 19] (kP [0,1,6,7,8] [] []))
 (.seq (.reg false [gM 20 1,gI 21 (.bin .shr (.t 20) (.v (.int .u64 (32)))),gM 9 21] (kP [0,1,6,7,8,9] [] []))
 (.seq (.reg false [gM 22 6,gM 23 8,gI 24 (.bin .mul (.t 22) (.t 23)),gM 10 24] (kP [0,1,6,7,8,9,10] [] []))
 (.seq (.reg false [gM 25 7,gM 26 8,gI 27 (.bin .mul (.t 25) (.t 26)),gM 28 10,gI 29 (.bin .shr (.t 28) (.v (.int .u64 (32)))),gI 30 (.bin .add (.t 27) (.t 29)),gM 11 30] (kP [0,1,6,7,9,11] [] []))
 (.seq (.reg false [gM 31 11,gI 32 (.bin .and (.t 31) (.v (.int .u64 (4294967295)))),gM 12 32] (kP [0,1,6,7,9,11,12] [] []))
 (.seq (.reg false [gM 33 11,gI 34 (.bin .shr (.t 33) (.v (.int .u64 (32)))),gM 13 34] (kP [0,1,6,7,9,12,13] [] []))
 (.seq (.reg false [gM 35 12,gM 36 6,gM 37 9,gI 38 (.bin .mul (.t 36) (.t 37)),gI 39 (.bin .add (.t 35) (.t 38)),gM 12 39] (kP [0,1,7,9,12,13] [] []))
 (.seq (.reg false [gM 40 7,gM 41 9,gI 42 (.bin .mul (.t 40) (.t 41)),gM 43 13,gI 44 (.bin .add (.t 42) (.t 43)),gM 45 12,gI 46 (.bin .shr (.t 45) (.v (.int .u64 (32)))),gI 47 (.bin .add (.t 44) (.t 46)),gM 4 47] (kP [0,1,4] [] []))
 (.seq (.reg false [gM 48 0,gM 49 1,gI 50 (.bin .mul (.t 48) (.t 49)),gM 5 50] (kP [4,5] [] []))
 .ret))))))))))))
theorem fc_mul64 : FcT Tryz.prog 100 Tryz.f100 C_mul64 [.t 4, .t 5] := fc_mk [aN [0,1] [] [],aN [0,1,6] [] [],aN [0,1,6,7] [] [],aN [0,1,6,7,8] [] [],aN [0,1,6,7,8,9] [] [],aN [0,1,6,7,8,9,10] [] [],aN [0,1,6,7,9,11] [] [],aN [0,1,6,7,9,11,12] [] [],aN [0,1,6,7,9,12,13] [] [],aN [0,1,7,9,12,13] [] [],aN [0,1,4] [] [],aN [4,5] [] []] Tryz.func100 (by kernel_rfl)
def C_compareProducts : AC := (.seq (.reg false [gI 8 (.mv (oI 0))] (kP [0,1,2,3] [] []))
 (.seq (.reg false [gM 14 0,gI 15 (.conv .u64 (.t 14)),gM 16 1,gI 17 (.conv .u64 (.t 16)),gI 18 (.call (.f 100) [(.t 15),(.t 17)]),gM 13 18,gI 19 (.extr (.t 13) 0),gI 20 (.extr (.t 13) 1),gM 9 19,gM 10 20] (kP [2,3,9,10] [] []))
 (.seq (.reg false [gM 22 2,gI 23 (.conv .u64 (.t 22)),gM 24 3,gI 25 (.conv .u64 (.t 24)),gI 26 (.call (.f 100) [(.t 23),(.t 25)]),gM 21 26,gI 27 (.extr (.t 21) 0),gI 28 (.extr (.t 21) 1),gM 11 27,gM 12 28] (kP [9,10,11,12] [] []))
 (.seq (.block 0 (.seq (.seq (.reg false [gM 30 9,gM 31 11,gI 32 (.bin .neq (.t 30) (.t 31)),gM 33 32,gG 34 33 true (.mv (.t 9)),gG 35 33 true (.mv (.t 11)),gG 36 33 true (.bin .lss (.t 34) (.t 35)),gI 37 (.pick (.t 33) (.t 36) (.v (.bool false))),gM 29 37] (kP [9,10,11,12,29] [] []))
 (.cond (.t 29)
 .skip
 (.reg false [gM 38 9,gM 39 11,gI 40 (.bin .eql (.t 38) (.t 39)),gM 41 40,gG 42 41 true (.mv (.t 10)),gG 43 41 true (.mv (.t 12)),gG 44 41 true (.bin .lss (.t 42) (.t 43)),gI 45 (.pick (.t 41) (.t 44) (.v (.bool false))),gM 29 45] (kP [9,10,11,12,29] [] []))))
 (.cond (.t 29)
 (.seq (.reg false [gI 8 (.mv (oI (-1)))] (kP [8] [] []))
 .ret)
 (.seq (.reg false [gM 47 9,gM 48 11,gI 49 (.bin .eql (.t 47) (.t 48)),gM 50 49,gG 51 50 true (.mv (.t 10)),gG 52 50 true (.mv (.t 12)),gG 53 50 true (.bin .eql (.t 51) (.t 52)),gI 54 (.pick (.t 50) (.t 53) (.v (.bool false))),gM 46 54] (kP [46] [] []))
 (.cond (.t 46)
 (.seq (.reg false [gI 8 (.mv (oI 0))] (kP [8] [] []))
 .ret)
 .skip)))))
 (.seq (.reg false [gI 8 (.mv (oI 1))] (kP [8] [] []))
 .ret)))))
theorem fc_compareProducts : FcT Tryz.prog 95 Tryz.f95 C_compareProducts [.t 8] := fc_mk [aN [0,1,2,3] [] [],aN [2,3,9,10] [] [],aN [9,10,11,12] [] [],aN [9,10,11,12,29] [] [],aN [9,10,11,12,29] [] [],aN [8] [] [],aN [46] [] [],aN [8] [] [],aN [8] [] []] Tryz.func95 (by kernel_rfl)
def C_compare : AC := (.seq (.reg false [gI 2 (.box (.t 0)),gI 3 (.box (.t 1)),gI 4 (.mv (oI 0))] (kP [2,3] [2,3] []))
 (.seq (.seq (.reg false [gI 5 (.fadr 0 (.t 2)),gI 6 (.load false 1 (.t 5)),gI 7 (.bin .lss (.t 6) (oI 0)),gM 8 7,gG 9 8 true (.fadr 0 (.t 3)),gG 10 8 true (.load false 1 (.t 9)),gG 11 8 true (.bin .lss (.t 10) (oI 0)),gI 12 (.pick (.t 8) (.t 11) (.v (.bool false)))] (kP [2,3,12] [2,3] []))
 (.cond (.t 12)
 (.seq (.reg false [gI 13 (.fadr 0 (.t 3)),gI 14 (.load false 1 (.t 13)),gI 15 (.un .neg (.t 14)),gI 16 (.fadr 1 (.t 3)),gI 17 (.load false 1 (.t 16)),gI 18 (.build [(.int .i64 (0)),(.int .i64 (0))] [(0,1,(.t 15)),(1,1,(.t 17))]),gI 19 (.fadr 0 (.t 2)),gI 20 (.load false 1 (.t 19)),gI 21 (.un .neg (.t 20)),gI 22 (.fadr 1 (.t 2)),gI 23 (.load false 1 (.t 22)),gI 24 (.build [(.int .i64 (0)),(.int .i64 (0))] [(0,1,(.t 21)),(1,1,(.t 23))]),gI 25 (.call (.f 51) [(.t 18),(.t 24)]),gM 4 25] (kP [4] [] []))
 .ret)
 .skip))
 (.seq (.seq (.reg false [gI 26 (.fadr 0 (.t 2)),gI 27 (.load false 1 (.t 26)),gI 28 (.bin .lss (.t 27) (oI 0)),gM 29 28,gG 30 29 false (.fadr 0 (.t 3)),gG 31 29 false (.load false 1 (.t 30)),gG 32 29 false (.bin .lss (.t 31) (oI 0)),gI 33 (.pick (.t 29) (.v (.bool true)) (.t 32))] (kP [2,3,33] [2,3] []))
 (.cond (.t 33)
 (.seq (.reg false [gI 34 (.fadr 0 (.t 2)),gI 35 (.load false 1 (.t 34)),gI 36 (.fadr 0 (.t 3)),gI 37 (.load false 1 (.t 36)),gI 38 (.call (.f 94) [(.t 35),(.t 37)]),gM 4 38] (kP [4] [] []))
 .ret)
 .skip))
 (.seq (.reg false [gI 39 (.fadr 0 (.t 2)),gI 40 (.load false 1 (.t 39)),gI 41 (.fadr 1 (.t 3)),gI 42 (.load false 1 (.t 41)),gI 43 (.fadr 0 (.t 3)),gI 44 (.load false 1 (.t 43)),gI 45 (.fadr 1 (.t 2)),gI 46 (.load false 1 (.t 45)),gI 47 (.call (.f 95) [(.t 40),(.t 42),(.t 44),(.t 46)]),gM 4 47] (kP [4] [] []))
 .ret))))
theorem fc_compare : FcT Tryz.prog 51 Tryz.f51 C_compare [.t 4] := fc_mk [aN [2,3] [2,3] [],aN [2,3,12] [2,3] [],aN [4] [] [],aN [2,3,33] [2,3] [],aN [4] [] [],aN [4] [] []] Tryz.func51 (by kernel_rfl)
def C_mulLess : AC := (.seq (.reg false [gI 8 (.mv (.v (.bool false)))] (kP [0,1,2,3] [] []))
 (.seq (.reg false [gM 14 0,gI 15 (.conv .u64 (.t 14)),gM 16 1,gI 17 (.conv .u64 (.t 16)),gI 18 (.call (.f 100) [(.t 15),(.t 17)]),gM 13 18,gI 19 (.extr (.t 13) 0),gI 20 (.extr (.t 13) 1),gM 9 19,gM 10 20] (kP [2,3,9,10] [] []))
 (.seq (.reg false [gM 22 2,gI 23 (.conv .u64 (.t 22)),gM 24 3,gI 25 (.conv .u64 (.t 24)),gI 26 (.call (.f 100) [(.t 23),(.t 25)]),gM 21 26,gI 27 (.extr (.t 21) 0),gI 28 (.extr (.t 21) 1),gM 11 27,gM 12 28] (kP [9,10,11,12] [] []))
 (.seq (.reg false [gM 29 9,gM 30 11,gI 31 (.bin .lss (.t 29) (.t 30)),gM 32 31,gG 33 32 false (.mv (.t 9)),gG 34 32 false (.mv (.t 11)),gG 35 32 false (.bin .eql (.t 33) (.t 34)),gG 36 32 false (.mv (.t 35)),gG 37 36 true (.mv (.t 10)),gG 38 36 true (.mv (.t 12)),gG 39 36 true (.bin .lss (.t 37) (.t 38)),gG 40 32 false (.pick (.t 36) (.t 39) (.v (.bool false))),gI 41 (.pick (.t 32) (.v (.bool true)) (.t 40)),gM 8 41] (kP [8] [] []))
 .ret))))
theorem fc_mulLess : FcT Tryz.prog 63 Tryz.f63 C_mulLess [.t 8] := fc_mk [aN [0,1,2,3] [] [],aN [2,3,9,10] [] [],aN [9,10,11,12] [] [],aN [8] [] []] Tryz.func63 (by kernel_rfl)
def C_lowestB : AC := (.seq (.reg false [gI 1 (.box (.t 0)),gI 2 (.mv (.v (.bool false)))] (kP [1] [1] []))
 (.seq (.reg true [gI 5 (.fadr 0 (.t 1)),gI 6 (.load false 1 (.t 5)),gI 7 (.conv .u64 (.t 6)),gI 8 (.fadr 1 (.t 1)),gI 9 (.load false 1 (.t 8)),gI 10 (.conv .u64 (.t 9)),gM 3 7,gM 4 10] (kP [1,3,4] [1] []))
 (.seq (.seq (.reg false [gI 11 (.fadr 0 (.t 1)),gI 12 (.load false 1 (.t 11)),gI 13 (.bin .lss (.t 12) (oI 0))] (kP [3,4,13] [] []))
 (.cond (.t 13)
 (.reg false [gM 14 3,gI 15 (.un .neg (.t 14)),gM 3 15] (kP [3,4] [] []))
 .skip))
 (.seq (.block 0 (.loop (.seq (.seq (.reg false [gM 16 4,gI 17 (.bin .neq (.t 16) (.v (.int .u64 (0))))] (kP [3,4,17] [] []))
 (.cond (.t 17)
 .skip
 (.exit 0)))
 (.block 1 (.reg true [gM 18 4,gM 19 3,gM 20 4,gI 21 (.bin .rem (.t 19) (.t 20)),gM 3 18,gM 4 21] (kP [3,4] [] []))))))
 (.seq (.reg false [gM 22 3,gI 23 (.bin .eql (.t 22) (.v (.int .u64 (1)))),gM 2 23] (kP [2] [] []))
 .ret)))))
theorem fc_lowestB : FcT Tryz.prog 50 Tryz.f50 C_lowestB [.t 2] := fc_mk [aN [1] [1] [],aN [1,3,4] [1] [],aN [3,4,13] [] [],aN [3,4] [] [],aN [3,4,17] [] [],aN [3,4] [] [],aN [2] [] []] Tryz.func50 (by kernel_rfl)
def C_lowestR : AC := (.seq (.reg false [gI 1 (.box (.t 0)),gI 2 (.mv (.v (.bool false)))] (kP [1] [1] []))
 (.seq (.reg true [gI 5 (.fadr 0 (.t 1)),gI 6 (.load false 1 (.t 5)),gI 7 (.conv .u64 (.t 6)),gI 8 (.fadr 1 (.t 1)),gI 9 (.load false 1 (.t 8)),gI 10 (.conv .u64 (.t 9)),gM 3 7,gM 4 10] (kP [1,3,4] [1] []))
 (.seq (.seq (.reg false [gI 11 (.fadr 0 (.t 1)),gI 12 (.load false 1 (.t 11)),gI 13 (.bin .lss (.t 12) (oI 0))] (kP [3,4,13] [] []))
 (.cond (.t 13)
 (.reg false [gM 14 3,gI 15 (.un .neg (.t 14)),gM 3 15] (kP [3,4] [] []))
 .skip))
 (.seq (.block 0 (.loop (.seq (.seq (.reg false [gM 16 4,gI 17 (.bin .neq (.t 16) (.v (.int .u64 (0))))] (kP [3,4,17] [] []))
 (.cond (.t 17)
 .skip
 (.exit 0)))
 (.block 1 (.reg true [gM 18 4,gM 19 3,gM 20 4,gI 21 (.bin .rem (.t 19) (.t 20)),gM 3 18,gM 4 21] (kP [3,4] [] []))))))
 (.seq (.reg false [gM 22 3,gI 23 (.bin .eql (.t 22) (.v (.int .u64 (1)))),gM 2 23] (kP [2] [] []))
 .ret)))))
theorem fc_lowestR : FcT Tryz.prog 54 Tryz.f54 C_lowestR [.t 2] := fc_mk [aN [1] [1] [],aN [1,3,4] [1] [],aN [3,4,13] [] [],aN [3,4] [] [],aN [3,4,17] [] [],aN [3,4] [] [],aN [2] [] []] Tryz.func54 (by kernel_rfl)
def C_leastF : AC := (.seq (.reg false [gI 1 (.box (.t 0)),gI 2 (.mv (oI 0))] (kP [1] [1] []))
 (.seq (.block 0 (.seq (.reg false [gI 4 (.fadr 1 (.t 1)),gI 5 (.load false 1 (.t 4)),gI 6 (.bin .lss (.t 5) (oI 1)),gM 7 6,gG 8 7 false (.load true 2 (.t 1)),gG 9 7 false (.call (.f 54) [(.t 8)]),gG 10 7 false (.un .not (.t 9)),gI 11 (.pick (.t 7) (.v (.bool true)) (.t 10)),gM 3 11] (kP [1,3] [1] []))
 (.cond (.t 3)
 (.seq (.reg false [gI 2 (.mv (oI 3))] (kP [2] [] []))
 .ret)
 (.seq (.reg false [gI 13 (.fadr 0 (.t 1)),gI 14 (.load false 1 (.t 13)),gI 15 (.fadr 1 (.t 1)),gI 16 (.load false 1 (.t 15)),gI 17 (.call (.f 37) [(.t 14),(oI 0),(.t 16)]),gI 18 (.un .not (.t 17)),gM 19 18,gG 20 19 false (.fadr 1 (.t 1)),gG 21 19 false (.load false 1 (.t 20)),gG 22 19 false (.bin .gtr (.t 21) (oI 1000000)),gI 23 (.pick (.t 19) (.v (.bool true)) (.t 22)),gM 12 23] (kP [12] [] []))
 (.cond (.t 12)
 (.seq (.reg false [gI 2 (.mv (oI 1))] (kP [2] [] []))
 .ret)
 .skip)))))
 (.seq (.reg false [gI 2 (.mv (oI 0))] (kP [2] [] []))
 .ret)))
theorem fc_leastF : FcT Tryz.prog 17 Tryz.f17 C_leastF [.t 2] := fc_mk [aN [1] [1] [],aN [1,3] [1] [],aN [2] [] [],aN [12] [] [],aN [2] [] [],aN [2] [] []] Tryz.func17 (by kernel_rfl)
def C_keyF : AC := (.seq (.reg false [gI 2 (.mv (oI 0))] (kP [0] [] []))
 (.seq (.seq (.reg false [gM 3 0,gI 4 (.call (.f 36) [(.t 3)]),gI 5 (.un .not (.t 4))] (kP [5] [] []))
 (.cond (.t 5)
 (.seq (.reg false [gI 2 (.mv (oI 5))] (kP [2] [] []))
 .ret)
 .skip))
 (.seq (.reg false [gI 2 (.mv (oI 0))] (kP [2] [] []))
 .ret)))
theorem fc_keyF : FcT Tryz.prog 16 Tryz.f16 C_keyF [.t 2] := fc_mk [aN [0] [] [],aN [5] [] [],aN [2] [] [],aN [2] [] []] Tryz.func16 (by kernel_rfl)
abbrev uv (n : Int) : Val := .one (.g (.int .u64 n))
theorem maskN (a : Nat) (ha : a < 18446744073709551616) : bits .and .u64 (a : Int) 4294967295 = ((a % 4294967296 : Nat) : Int) := by
 have h := bits_and_u64_nat a 4294967295 ha (by omega)
 have e : a &&& 4294967295 = a % 4294967296 := Nat.and_two_pow_sub_one_eq_mod a 32
 rw [e] at h
 exact h
theorem shr32 (a : Nat) : (a : Int).fdiv (2 ^ (min (Int.toNat 32) 64)) = ((a / 4294967296 : Nat) : Int) := by
 have e : (2 : Int) ^ (min (Int.toNat 32) 64) = 4294967296 := by decide
 rw [e, Int.fdiv_eq_ediv_of_nonneg _ (by omega)]; omega
theorem mulN (a b : Nat) : (a : Int) * (b : Int) = ((a * b : Nat) : Int) := (Int.natCast_mul a b).symm
theorem addN (a b : Nat) : (a : Int) + (b : Int) = ((a + b : Nat) : Int) := (Int.natCast_add a b).symm
theorem wrapN (a : Nat) (ha : a < 18446744073709551616) : IntKind.u64.wrap (a : Int) = (a : Int) := by rw [IntKind.wrap_u64]; omega
theorem wrapM (a : Nat) : IntKind.u64.wrap (a : Int) = ((a % 18446744073709551616 : Nat) : Int) := by rw [IntKind.wrap_u64]; omega
theorem mul64_fc (x y : Nat) (hx : x < 18446744073709551616) (hy : y < 18446744073709551616) : FC Tryz.prog 100 none [uv x, uv y] (fun _ r => r = .tu [uv ((x * y / 18446744073709551616 : Nat) : Int), uv ((x * y % 18446744073709551616 : Nat) : Int)]) := by
 obtain ⟨bd, bt, bw, hhi⟩ := Lib.mul64_hi x y hx hy
 have ba := Lib.half_mul_le (a := x / 4294967296) (b := y / 4294967296) (by omega) (by omega)
 have bb := Lib.half_mul_le (a := x / 4294967296) (b := y % 4294967296) (by omega) (by omega)
 have bc := Lib.half_mul_le (a := x % 4294967296) (b := y / 4294967296) (by omega) (by omega)
 have ba' : x / 4294967296 * (y / 4294967296) < 18446744073709551616 := by omega
 have bb' : x / 4294967296 * (y % 4294967296) < 18446744073709551616 := by omega
 have bc' : x % 4294967296 * (y / 4294967296) < 18446744073709551616 := by omega
 have bh1 : x / 4294967296 * (y / 4294967296) + (x / 4294967296 * (y % 4294967296) + x % 4294967296 * (y % 4294967296) / 4294967296) / 4294967296 < 18446744073709551616 := by omega
 have bh : x / 4294967296 * (y / 4294967296) + (x / 4294967296 * (y % 4294967296) + x % 4294967296 * (y % 4294967296) / 4294967296) / 4294967296 + ((x / 4294967296 * (y % 4294967296) + x % 4294967296 * (y % 4294967296) / 4294967296) % 4294967296 + x % 4294967296 * (y / 4294967296)) / 4294967296 < 18446744073709551616 := by omega
 refine fc_mul64 (by simp +arith) ?_
 unfold C_mul64
 simp (maxSteps := 1000000) (disch := omega) only [go_sem]
 simp only [maskN x hx, maskN y hy, shr32, mulN, addN, wrapN _ bd, wrapN _ bb', wrapN _ bt, maskN _ bt, wrapN _ bc', wrapN _ bw, wrapN _ ba', wrapN _ bh1, wrapN _ bh, wrapM (x * y)]
 rw [hhi]
/-- How two numbers compare. -/
def cmQ (x y : Int) : Int := if x < y then -1 else if x = y then 0 else 1
theorem compareProducts_fc (a b c d : Int) (ha : 0 ≤ a ∧ a ≤ 9223372036854775807) (hb : 0 ≤ b ∧ b ≤ 9223372036854775807) (hc : 0 ≤ c ∧ c ≤ 9223372036854775807) (hd : 0 ≤ d ∧ d ≤ 9223372036854775807) : FC Tryz.prog 95 none [iv a, iv b, iv c, iv d] (fun _ r => r = iv (cmQ (a * b) (c * d))) := by
 obtain ⟨a, rfl⟩ := Int.eq_ofNat_of_zero_le ha.1
 obtain ⟨b, rfl⟩ := Int.eq_ofNat_of_zero_le hb.1
 obtain ⟨c, rfl⟩ := Int.eq_ofNat_of_zero_le hc.1
 obtain ⟨d, rfl⟩ := Int.eq_ofNat_of_zero_le hd.1
 have e1 := mul64_fc a b (by omega) (by omega)
 have e2 := mul64_fc c d (by omega) (by omega)
 rw [← Int.natCast_mul, ← Int.natCast_mul]
 refine fc_compareProducts (by simp +arith) ?_
 generalize a * b = x at *
 generalize c * d = y at *
 unfold C_compareProducts cmQ
 simp (maxSteps := 1000000) (disch := omega) only [go_sem]
 refine CALL_det e1 (.inl rfl) ?_
 simp (maxSteps := 1000000) (disch := omega) only [go_sem]
 refine CALL_det e2 (.inl rfl) ?_
 by_cases c1 : x / 18446744073709551616 < y / 18446744073709551616
 ·rw [if_pos (by omega)]
  simp (maxSteps := 1000000) (disch := omega) only [go_sem]
 by_cases c2 : x / 18446744073709551616 = y / 18446744073709551616
 ·by_cases c3 : x % 18446744073709551616 < y % 18446744073709551616
  ·rw [if_pos (by omega)]
   simp (maxSteps := 1000000) (disch := omega) only [go_sem]
  by_cases c4 : x % 18446744073709551616 = y % 18446744073709551616
  ·rw [if_neg (by omega), if_pos (by omega)]
   simp (maxSteps := 1000000) (disch := omega) only [go_sem]
  ·rw [if_neg (by omega), if_neg (by omega)]
   simp (maxSteps := 1000000) (disch := omega) only [go_sem]
 ·rw [if_neg (by omega), if_neg (by omega)]
  simp (maxSteps := 1000000) (disch := omega) only [go_sem]
theorem compare_fc (n d m e : Int) (hn : 0 ≤ n ∧ n ≤ 9223372036854775807) (hd : 0 ≤ d ∧ d ≤ 9223372036854775807) (hm : 0 ≤ m ∧ m ≤ 9223372036854775807) (he : 0 ≤ e ∧ e ≤ 9223372036854775807) : FC Tryz.prog 51 none [.ag [.g (.int .i64 n), .g (.int .i64 d)], .ag [.g (.int .i64 m), .g (.int .i64 e)]] (fun _ r => r = iv (cmQ (n * e) (m * d))) := by
 refine fc_compare (by simp +arith) ?_
 unfold C_compare
 simp (maxSteps := 1000000) (disch := omega) only [go_sem]
 refine CALL_det (compareProducts_fc n e m d hn he hm hd) (.inl rfl) ?_
 simp (maxSteps := 1000000) (disch := omega) only [go_sem]
theorem mulLess_fc (a b c d : Int) (ha : 0 ≤ a ∧ a ≤ 9223372036854775807) (hb : 0 ≤ b ∧ b ≤ 9223372036854775807) (hc : 0 ≤ c ∧ c ≤ 9223372036854775807) (hd : 0 ≤ d ∧ d ≤ 9223372036854775807) : FC Tryz.prog 63 none [iv a, iv b, iv c, iv d] (fun _ r => r = bv (decide (a * b < c * d))) := by
 obtain ⟨a, rfl⟩ := Int.eq_ofNat_of_zero_le ha.1
 obtain ⟨b, rfl⟩ := Int.eq_ofNat_of_zero_le hb.1
 obtain ⟨c, rfl⟩ := Int.eq_ofNat_of_zero_le hc.1
 obtain ⟨d, rfl⟩ := Int.eq_ofNat_of_zero_le hd.1
 have e1 := mul64_fc a b (by omega) (by omega)
 have e2 := mul64_fc c d (by omega) (by omega)
 rw [← Int.natCast_mul, ← Int.natCast_mul]
 refine fc_mulLess (by simp +arith) ?_
 generalize a * b = x at *
 generalize c * d = y at *
 unfold C_mulLess
 simp (maxSteps := 1000000) (disch := omega) only [go_sem]
 refine CALL_det e1 (.inl rfl) ?_
 simp (maxSteps := 1000000) (disch := omega) only [go_sem]
 refine CALL_det e2 (.inl rfl) ?_
 by_cases c1 : x / 18446744073709551616 < y / 18446744073709551616
 ·rw [decide_eq_true (show (x : Int) < y by omega)]
  simp (maxSteps := 1000000) (disch := omega) only [go_sem]
 by_cases c2 : x / 18446744073709551616 = y / 18446744073709551616
 ·by_cases c3 : x % 18446744073709551616 < y % 18446744073709551616
  ·rw [decide_eq_true (show (x : Int) < y by omega)]
   simp (maxSteps := 1000000) (disch := omega) only [go_sem]
   rw [decide_eq_true (show ((x % 18446744073709551616 : Nat) : Int) < ((y % 18446744073709551616 : Nat) : Int) by omega)]
  ·rw [decide_eq_false (show ¬(x : Int) < y by omega)]
   simp (maxSteps := 1000000) (disch := omega) only [go_sem]
   rw [decide_eq_false (show ¬((x % 18446744073709551616 : Nat) : Int) < ((y % 18446744073709551616 : Nat) : Int) by omega)]
 ·rw [decide_eq_false (show ¬(x : Int) < y by omega)]
  simp (maxSteps := 1000000) (disch := omega) only [go_sem]
/-! ### lowest terms -/
def lwSp (n d : Int) : Bool := Nat.gcd n.natAbs d.toNat == 1
def lwSt (x : Int × Int) : AS := ⟨tabV [(3, uv x.1), (4, uv x.2)], tabO [], tabO []⟩
def lwS2 (n : Int) : (Int × Int) × Bool → AS
 | (x, true) => ⟨tabV [(3, uv x.1), (4, uv x.2), (13, bv (decide (n < 0)))], tabO [], tabO []⟩
 | (x, false) => ⟨tabV [(3, uv x.1), (4, uv x.2)], tabO [], tabO []⟩
def lwI (n d : Int) (x : Int × Int) : Prop := (0 ≤ x.1 ∧ x.1 ≤ 9223372036854775808) ∧ (0 ≤ x.2 ∧ x.2 ≤ 9223372036854775808) ∧ Nat.gcd x.1.toNat x.2.toNat = Nat.gcd n.natAbs d.toNat
theorem lwI_step {n d x y : Int} (h : lwI n d (x, y)) (hy : ¬y = 0) : lwI n d (y, x.tmod y) ∧ (x.tmod y).toNat < y.toNat ∧ 0 ≤ x.tmod y ∧ x.tmod y ≤ 9223372036854775808 := by
 obtain ⟨⟨h1, h2⟩, ⟨h3, h4⟩, h5⟩ := h
 simp only at h1 h2 h3 h4 h5
 have e : x.tmod y = x % y := Int.tmod_eq_emod_of_nonneg h1
 have a1 := Int.emod_lt_of_pos x (show 0 < y by omega)
 have a2 := Int.emod_nonneg x (show y ≠ 0 by omega)
 rw [e]
 refine ⟨⟨⟨h3, h4⟩, ⟨a2, by simp only; omega⟩, ?_⟩, by omega, a2, by omega⟩
 rw [← h5, Nat.gcd_comm x.toNat y.toNat, Nat.gcd_rec y.toNat x.toNat, Nat.gcd_comm, Int.toNat_emod h1 h3]
theorem lwI_end {n d x : Int} (h : lwI n d (x, 0)) : decide (x = 1) = lwSp n d := by
 obtain ⟨⟨h1, h2⟩, _, h5⟩ := h
 simp only at h1 h2 h5
 unfold lwSp
 rw [← h5, Int.toNat_zero, Nat.gcd_zero_right, Bool.eq_iff_iff, decide_eq_true_eq, beq_iff_eq]
 omega
theorem lwI_beg {n d : Int} (hn : I64 n) (hd : 1 ≤ d ∧ d ≤ 9223372036854775807) : lwI n d (n.natAbs, d) := by
 unfold I64 at hn
 refine ⟨⟨by simp only; omega, by simp only; omega⟩, ⟨by simp only; omega, by simp only; omega⟩, ?_⟩
 simp only [Int.toNat_natCast]
theorem lowestB_fc (n d : Int) (hn : I64 n) (hd : 1 ≤ d ∧ d ≤ 9223372036854775807) : FC Tryz.prog 50 none [.ag [.g (.int .i64 n), .g (.int .i64 d)]] (fun _ r => r = bv (lwSp n d)) := by
 refine fc_lowestB (by simp +arith) ?_
 have hb := lwI_beg hn hd
 have hn2 : -9223372036854775808 ≤ n ∧ n ≤ 9223372036854775807 := hn
 unfold C_lowestB
 have w0 : IntKind.u64.wrap d = d := by rw [IntKind.wrap_u64]; omega
 by_cases c : n < 0
 ·have w1 : IntKind.u64.wrap n = n + 18446744073709551616 := by rw [IntKind.wrap_u64]; omega
  have w2 : IntKind.u64.wrap (0 - (n + 18446744073709551616)) = n.natAbs := by rw [IntKind.wrap_u64]; omega
  simp (maxSteps := 1000000) (disch := (first | omega | assumption)) only [go_sem]
  simp only [w0, w1, w2]
  refine ex_loopI lwSt (lwI n d) (fun x => x.2.toNat) (n.natAbs, d) hb rfl ?_
  rintro ⟨x, y⟩ hI
  unfold lwSt
  by_cases hy : y = 0
  ·subst hy
   rw [← lwI_end hI]
   simp (maxSteps := 1000000) (disch := (first | omega | assumption)) only [go_sem]
  ·have hs := lwI_step hI hy
   have w3 : IntKind.u64.wrap (x.tmod y) = x.tmod y := by rw [IntKind.wrap_u64]; omega
   simp (maxSteps := 1000000) (disch := (first | omega | assumption)) only [go_sem]
   exact ⟨(y, x.tmod y), hs.1, rfl, hs.2.1⟩
 ·have hb2 : lwI n d (n, d) := by
   have h := hb
   rwa [show (n.natAbs : Int) = n by omega] at h
  simp (maxSteps := 1000000) (disch := (first | omega | assumption)) only [go_sem]
  refine ex_loopI (lwS2 n) (fun x => lwI n d x.1) (fun x => x.1.2.toNat) ((n, d), true) hb2 rfl ?_
  rintro ⟨⟨x, y⟩, b⟩ hI
  simp only at hI
  by_cases hy : y = 0
  ·subst hy
   rw [← lwI_end hI]
   cases b <;> (simp only [lwS2]; simp (maxSteps := 1000000) (disch := (first | omega | assumption)) only [go_sem])
  ·have hs := lwI_step hI hy
   have w3 : IntKind.u64.wrap (x.tmod y) = x.tmod y := by rw [IntKind.wrap_u64]; omega
   cases b <;> (simp only [lwS2]; simp (maxSteps := 1000000) (disch := (first | omega | assumption)) only [go_sem]; exact ⟨((y, x.tmod y), false), hs.1, rfl, hs.2.1⟩)
theorem lowestR_fc (n d : Int) (hn : I64 n) (hd : 1 ≤ d ∧ d ≤ 9223372036854775807) : FC Tryz.prog 54 none [.ag [.g (.int .i64 n), .g (.int .i64 d)]] (fun _ r => r = bv (lwSp n d)) := by
 refine fc_lowestR (by simp +arith) ?_
 have hb := lwI_beg hn hd
 have hn2 : -9223372036854775808 ≤ n ∧ n ≤ 9223372036854775807 := hn
 unfold C_lowestR
 have w0 : IntKind.u64.wrap d = d := by rw [IntKind.wrap_u64]; omega
 by_cases c : n < 0
 ·have w1 : IntKind.u64.wrap n = n + 18446744073709551616 := by rw [IntKind.wrap_u64]; omega
  have w2 : IntKind.u64.wrap (0 - (n + 18446744073709551616)) = n.natAbs := by rw [IntKind.wrap_u64]; omega
  simp (maxSteps := 1000000) (disch := (first | omega | assumption)) only [go_sem]
  simp only [w0, w1, w2]
  refine ex_loopI lwSt (lwI n d) (fun x => x.2.toNat) (n.natAbs, d) hb rfl ?_
  rintro ⟨x, y⟩ hI
  unfold lwSt
  by_cases hy : y = 0
  ·subst hy
   rw [← lwI_end hI]
   simp (maxSteps := 1000000) (disch := (first | omega | assumption)) only [go_sem]
  ·have hs := lwI_step hI hy
   have w3 : IntKind.u64.wrap (x.tmod y) = x.tmod y := by rw [IntKind.wrap_u64]; omega
   simp (maxSteps := 1000000) (disch := (first | omega | assumption)) only [go_sem]
   exact ⟨(y, x.tmod y), hs.1, rfl, hs.2.1⟩
 ·have hb2 : lwI n d (n, d) := by
   have h := hb
   rwa [show (n.natAbs : Int) = n by omega] at h
  simp (maxSteps := 1000000) (disch := (first | omega | assumption)) only [go_sem]
  refine ex_loopI (lwS2 n) (fun x => lwI n d x.1) (fun x => x.1.2.toNat) ((n, d), true) hb2 rfl ?_
  rintro ⟨⟨x, y⟩, b⟩ hI
  simp only at hI
  by_cases hy : y = 0
  ·subst hy
   rw [← lwI_end hI]
   cases b <;> (simp only [lwS2]; simp (maxSteps := 1000000) (disch := (first | omega | assumption)) only [go_sem])
  ·have hs := lwI_step hI hy
   have w3 : IntKind.u64.wrap (x.tmod y) = x.tmod y := by rw [IntKind.wrap_u64]; omega
   cases b <;> (simp only [lwS2]; simp (maxSteps := 1000000) (disch := (first | omega | assumption)) only [go_sem]; exact ⟨((y, x.tmod y), false), hs.1, rfl, hs.2.1⟩)
/-- What is wrong with a least share. -/
def lsF (n d : Int) : Int := if d < 1 then 3 else if lwSp n d = false then 3 else if n < 0 ∨ d < n ∨ 1000000 < d then 1 else 0
theorem leastF_fc (n d : Int) (hn : I64 n) (hd : I64 d) : FC Tryz.prog 17 none [.ag [.g (.int .i64 n), .g (.int .i64 d)]] (fun _ r => r = iv (lsF n d)) := by
 refine fc_leastF (by simp +arith) ?_
 have hd2 : -9223372036854775808 ≤ d ∧ d ≤ 9223372036854775807 := hd
 unfold C_leastF lsF
 by_cases c1 : d < 1
 ·rw [if_pos c1]
  simp (maxSteps := 1000000) (disch := (first | omega | assumption)) only [go_sem]
 ·rw [if_neg c1]
  have hl := lowestR_fc n d hn (by omega)
  have hr := rin1_fc n 0 d
  cases hw : lwSp n d with
  | false =>
   rw [hw] at hl
   rw [if_pos rfl]
   simp (maxSteps := 1000000) (disch := (first | omega | assumption)) only [go_sem]
   refine CALL_det hl (.inl rfl) ?_
   simp (maxSteps := 1000000) (disch := (first | omega | assumption)) only [go_sem]
  | true =>
   rw [hw] at hl
   rw [if_neg (by simp)]
   by_cases c2 : 0 ≤ n ∧ n ≤ d
   ·rw [decide_eq_true c2] at hr
    by_cases c3 : 1000000 < d
    ·rw [if_pos (by omega)]
     simp (maxSteps := 1000000) (disch := (first | omega | assumption)) only [go_sem]
     refine CALL_det hl (.inl rfl) ?_
     simp (maxSteps := 1000000) (disch := (first | omega | assumption)) only [go_sem]
     refine CALL_det hr (.inl rfl) ?_
     simp (maxSteps := 1000000) (disch := (first | omega | assumption)) only [go_sem]
    ·rw [if_neg (by omega)]
     simp (maxSteps := 1000000) (disch := (first | omega | assumption)) only [go_sem]
     refine CALL_det hl (.inl rfl) ?_
     simp (maxSteps := 1000000) (disch := (first | omega | assumption)) only [go_sem]
     refine CALL_det hr (.inl rfl) ?_
     simp (maxSteps := 1000000) (disch := (first | omega | assumption)) only [go_sem]
   ·rw [decide_eq_false c2] at hr
    rw [if_pos (by omega)]
    simp (maxSteps := 1000000) (disch := (first | omega | assumption)) only [go_sem]
    refine CALL_det hl (.inl rfl) ?_
    simp (maxSteps := 1000000) (disch := (first | omega | assumption)) only [go_sem]
    refine CALL_det hr (.inl rfl) ?_
    simp (maxSteps := 1000000) (disch := (first | omega | assumption)) only [go_sem]
theorem lsF_ok {n d : Int} (h : lsF n d = 0) : (0 ≤ n ∧ n ≤ d) ∧ 1 ≤ d ∧ d ≤ 1000000 ∧ lwSp n d = true := by
 unfold lsF at h
 split at h
 ·omega
 ·split at h
  ·omega
  ·rename_i h1
   split at h
   ·omega
   ·exact ⟨by omega, by omega, by omega, by simpa using h1⟩
theorem keyF_fc (k : ByteArray) (hk : k.size ≤ 1000000) : FC Tryz.prog 16 none [sv k] (fun _ r => r = iv (if keyOk k = true then 0 else 5)) := by
 refine fc_keyF (by simp +arith) ?_
 have hc := rkey_fc k (by omega)
 unfold C_keyF
 cases h : keyOk k with
 | true =>
  rw [h] at hc
  simp (maxSteps := 1000000) (disch := (first | omega | assumption)) only [go_sem]
  refine CALL_det hc (.inl rfl) ?_
  simp (maxSteps := 1000000) (disch := (first | omega | assumption)) only [go_sem]
 | false =>
  rw [h] at hc
  simp (maxSteps := 1000000) (disch := (first | omega | assumption)) only [go_sem]
  refine CALL_det hc (.inl rfl) ?_
  simp (maxSteps := 1000000) (disch := (first | omega | assumption)) only [go_sem]
end Go.Proofs.YtodmofhehabmgaaGreatDoor
