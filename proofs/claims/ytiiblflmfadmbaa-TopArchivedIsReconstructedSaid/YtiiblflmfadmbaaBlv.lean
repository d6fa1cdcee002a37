
/-
 Numbers in few bytes, written and read; checksums.
-/
import Derived.Test.YtiiblflmfadmbaaBas
import Derived.Test.YtiiblflmfadmbaaBlp
import Derived.Laws.BitsLemmas
namespace Go.Proofs.Ytiiblflmfadmbaa
open Go Go.Ai
set_option linter.unusedSimpArgs false
set_option linter.unusedVariables false
set_option maxHeartbeats 4000000
def C_varint : AC := (.seq (.reg false [gI 2 (.mv (.v (.slice none 0 0)))] (kP [0] [] []))
 (.seq (.reg false [gM 5 0,gI 6 (.bin .mul (oI 2) (.t 5)),gM 3 6] (kP [0,3] [] []))
 (.seq (.seq (.reg false [gM 7 0,gI 8 (.bin .lss (.t 7) (oI 0))] (kP [3,8] [] []))
 (.cond (.t 8)
 (.reg false [gM 9 3,gI 10 (.un .neg (.t 9)),gI 11 (.bin .sub (.t 10) (oI 1)),gM 3 11] (kP [3] [] []))
 .skip))
 (.seq (.seq (.reg false [gI 4 (.mv (.v (.slice none 0 0)))] (kP [3,4] [] []))
 (.own 4 5 1))
 (.seq (.block 0 (.loop (.seq (.seq (.reg false [gM 12 3,gI 13 (.bin .gtr (.t 12) (oI 127))] (kP [3,4,13] [] [4]))
 (.cond (.t 13)
 .skip
 (.exit 0)))
 (.block 1 (.seq (.reg false [gM 14 4,gM 15 3,gI 16 (.bin .and (.t 15) (oI 127)),gI 17 (.bin .or (.t 16) (oI 128)),gI 18 (.conv .u8 (.t 17)),gI 19 (.bslice 1 1 [(.t 18)]),gI 20 (.append 5 1 1 (.t 14) (.t 19)),gM 4 20] (kP [3,4] [] [4]))
 (.reg false [gM 21 3,gI 22 (.bin .shr (.t 21) (.v (.int .u64 (7)))),gM 3 22] (kP [3,4] [] [4])))))))
 (.seq (.reg false [gM 23 4,gM 24 3,gI 25 (.conv .u8 (.t 24)),gI 26 (.bslice 1 1 [(.t 25)]),gI 27 (.append 5 1 1 (.t 23) (.t 26)),gM 2 27] (kP [2] [] []))
 .ret))))))
theorem fc_varint : FcT Try.prog 64 Try.f64 C_varint [.t 2] := fc_mk [aN [0] [] [],aN [0,3] [] [],aN [3,8] [] [],aN [3] [] [],⟨(kP [3,4] [] []),[(4,5,1)],[],[],[]⟩,aN [3,4,13] [] [4],aN [3,4] [] [4],aN [3,4] [] [4],aN [2] [] []] Try.func64 (by kernel_rfl)
def C_unvarint : AC := (.seq (.reg false [gI 4 (.mv (oI 0)),gI 5 (.mv (oI 0)),gI 6 (.mv (.v (.bool false)))] (kP [0,1] [] []))
 (.seq (.reg false [gI 7 (.mv (oI 0))] (kP [0,1,7] [] []))
 (.seq (.seq (.reg false [gM 11 1,gM 8 11] (kP [0,1,7,8] [] []))
 (.block 0 (.loop (.seq (.seq (.reg false [gM 12 8,gM 13 0,gI 14 (.len (.t 13)),gI 15 (.bin .lss (.t 12) (.t 14))] (kP [0,1,7,8,15] [] []))
 (.cond (.t 15)
 .skip
 (.exit 0)))
 (.seq (.block 1 (.seq (.reg false [gM 18 0,gM 19 8,gI 20 (.iadr 1 (.t 18) (.t 19)),gI 21 (.load false 1 (.t 20)),gI 22 (.conv .i64 (.t 21)),gM 9 22] (kP [0,1,7,8,9] [] []))
 (.seq (.reg false [gM 23 8,gM 24 1,gI 25 (.bin .sub (.t 23) (.t 24)),gI 26 (.bin .mul (oI 7) (.t 25)),gM 10 26] (kP [0,1,7,8,9,10] [] []))
 (.seq (.seq (.reg false [gM 27 10,gI 28 (.bin .gtr (.t 27) (oI 42))] (kP [0,1,7,8,9,10,28] [] []))
 (.cond (.t 28)
 (.seq (.reg false [gI 4 (.mv (oI 0)),gI 5 (.mv (oI 0)),gI 6 (.mv (.v (.bool false)))] (kP [4,5,6] [] []))
 .ret)
 .skip))
 (.seq (.reg false [gM 29 7,gM 30 9,gI 31 (.bin .and (.t 30) (oI 127)),gM 32 10,gI 33 (.bin .shl (.t 31) (.t 32)),gI 34 (.bin .or (.t 29) (.t 33)),gM 7 34] (kP [0,1,7,8,9] [] []))
 (.seq (.seq (.reg false [gM 35 9,gI 36 (.bin .and (.t 35) (oI 128)),gI 37 (.bin .neq (.t 36) (oI 0))] (kP [0,1,7,8,9,37] [] []))
 (.cond (.t 37)
 (.exit 1)
 .skip))
 (.seq (.seq (.reg false [gM 38 9,gI 39 (.bin .eql (.t 38) (oI 0)),gM 40 39,gG 41 40 true (.mv (.t 8)),gG 42 40 true (.mv (.t 1)),gG 43 40 true (.bin .gtr (.t 41) (.t 42)),gI 44 (.pick (.t 40) (.t 43) (.v (.bool false)))] (kP [7,8,44] [] []))
 (.cond (.t 44)
 (.seq (.reg false [gI 4 (.mv (oI 0)),gI 5 (.mv (oI 0)),gI 6 (.mv (.v (.bool false)))] (kP [4,5,6] [] []))
 .ret)
 .skip))
 (.seq (.reg false [gM 45 7,gI 46 (.bin .quo (.t 45) (oI 2)),gM 4 46] (kP [4,7,8] [] []))
 (.seq (.seq (.reg false [gM 47 7,gI 48 (.bin .rem (.t 47) (oI 2)),gI 49 (.bin .eql (.t 48) (oI 1))] (kP [4,8,49] [] []))
 (.cond (.t 49)
 (.reg false [gM 50 4,gI 51 (.un .neg (.t 50)),gI 52 (.bin .sub (.t 51) (oI 1)),gM 4 52] (kP [4,8] [] []))
 .skip))
 (.seq (.reg false [gM 53 4,gM 54 8,gI 55 (.bin .add (.t 54) (oI 1)),gM 56 4,gI 57 (.call (.f 37) [(.t 56),(oI (-1000000000000)),(oI 1000000000000)]),gI 58 (.un .not (.t 57)),gM 4 53,gM 5 55,gM 6 58] (kP [4,5,6] [] []))
 .ret))))))))))
 (.reg false [gM 16 8,gI 17 (.bin .add (.t 16) (oI 1)),gM 8 17] (kP [0,1,7,8] [] [])))))))
 (.seq (.reg false [gI 4 (.mv (oI 0)),gI 5 (.mv (oI 0)),gI 6 (.mv (.v (.bool false)))] (kP [4,5,6] [] []))
 .ret))))
theorem fc_unvarint : FcT Try.prog 89 Try.f89 C_unvarint [.t 4, .t 5, .t 6] := fc_mk [aN [0,1] [] [],aN [0,1,7] [] [],aN [0,1,7,8] [] [],aN [0,1,7,8,15] [] [],aN [0,1,7,8,9] [] [],aN [0,1,7,8,9,10] [] [],aN [0,1,7,8,9,10,28] [] [],aN [4,5,6] [] [],aN [0,1,7,8,9] [] [],aN [0,1,7,8,9,37] [] [],aN [7,8,44] [] [],aN [4,5,6] [] [],aN [4,7,8] [] [],aN [4,8,49] [] [],aN [4,8] [] [],aN [4,5,6] [] [],aN [0,1,7,8] [] [],aN [4,5,6] [] []] Try.func89 (by kernel_rfl)
def C_cksum : AC := (.seq (.reg false [gI 2 (.mv (oI 0))] (kP [0] [] []))
 (.seq (.reg false [gI 3 (.mv (oI 1))] (kP [0,3] [] []))
 (.seq (.seq (.reg false [gM 6 0,gI 7 (.len (.t 6)),gI 8 (.mv (oI 0))] (kP [3,6,7,8] [] []))
 (.block 0 (.loop (.seq (.reg false [gI 9 (.bin .lss (.t 8) (.t 7))] (kP [3,6,7,8,9] [] []))
 (.seq (.cond (.t 9)
 .skip
 (.exit 0))
 (.seq (.block 1 (.seq (.reg false [gI 10 (.iadr 1 (.t 6) (.t 8)),gI 11 (.load false 1 (.t 10)),gM 5 11] (kP [3,5,6,7,8] [] []))
 (.reg false [gM 12 3,gI 13 (.bin .mul (.t 12) (oI 31)),gM 14 5,gI 15 (.conv .i64 (.t 14)),gI 16 (.bin .add (.t 13) (.t 15)),gI 17 (.bin .add (.t 16) (oI 1)),gI 18 (.bin .rem (.t 17) (oI 65521)),gM 3 18] (kP [3,6,7,8] [] []))))
 (.reg false [gI 19 (.bin .add (.t 8) (oI 1)),gM 8 19] (kP [3,6,7,8] [] []))))))))
 (.seq (.reg false [gM 20 3,gM 2 20] (kP [2] [] []))
 .ret))))
theorem fc_cksum : FcT Try.prog 65 Try.f65 C_cksum [.t 2] := fc_mk [aN [0] [] [],aN [0,3] [] [],aN [3,6,7,8] [] [],aN [3,6,7,8,9] [] [],aN [3,5,6,7,8] [] [],aN [3,6,7,8] [] [],aN [3,6,7,8] [] [],aN [2] [] []] Try.func65 (by kernel_rfl)
def u8C (n : Int) : List Cel := [.g (.int .u8 n)]
theorem u8C_eq (n : Int) : u8C n = [.g (.int .u8 n)] := (rfl)
abbrev bysV (fr : Bool) (l : List Int) : Val := .one (.sl fr 1 (l.map u8C))
theorem frE_u8 (l : List Int) : frE (l.map u8C) = true := frE_map (fun _ => rfl) l
theorem datE_u8 (l : List Int) : datE (l.map u8C) = l.map u8C := datE_map (fun _ => rfl) l
theorem tofE_u8 (l : List Int) : tofE (l.map u8C) = l.map u8C := tofE_map (fun _ => rfl) l
attribute [go_sem] u8C_eq frE_u8 datE_u8 tofE_u8
theorem wr63 (n : Int) (h₀ : 0 ≤ n) (h₁ : n < 2 ^ 63) : IntKind.i64.wrap n = n := by rw [IntKind.wrap_i64]; omega
theorem and127 {z : Int} (h0 : 0 ≤ z) (h1 : z ≤ 9223372036854775807) : bits .and .i64 z 127 = z % 128 := bits_mask .i64 63 (by decide) wr63 7 (by decide) z h0 (by omega)
theorem or_swap {x y : Int} (hx : 0 ≤ x ∧ x < 2 ^ 63) (hy : 0 ≤ y ∧ y < 2 ^ 63) : bits .or .i64 x y = bits .or .i64 y x := by
 obtain ⟨a, rfl⟩ := Int.eq_ofNat_of_zero_le hx.1
 obtain ⟨b, rfl⟩ := Int.eq_ofNat_of_zero_le hy.1
 rw [(bits_nat .i64 63 (by decide) wr63 a b (by omega) (by omega)).2, (bits_nat .i64 63 (by decide) wr63 b a (by omega) (by omega)).2, Nat.or_comm]
theorem or128 {y : Int} (h0 : 0 ≤ y) (h1 : y < 128) : bits .or .i64 y 128 = y + 128 := by
 rw [or_swap (by omega) (by omega), bits_join .i64 63 (by decide) wr63 7 128 y (by decide) (by decide) (by decide) h0 (by omega) (by omega)]; omega
theorem and128_lo {c : Int} (h0 : 0 ≤ c) (h1 : c < 128) : bits .and .i64 c 128 = 0 := by
 obtain ⟨a, rfl⟩ := Int.eq_ofNat_of_zero_le h0
 have h := (bits_nat .i64 63 (by decide) wr63 a 128 (by omega) (by decide)).1
 rw [show ((128 : Nat) : Int) = 128 from rfl] at h
 rw [h]
 have : a &&& 128 = 0 := by
  have h2 : (List.range 128).all (fun a => a &&& 128 == 0) = true := by kernel_rfl
  exact beq_iff_eq.1 (List.all_eq_true.1 h2 a (List.mem_range.2 (by omega)))
 rw [this]; rfl
theorem and128_hi {c : Int} (h0 : 128 ≤ c) (h1 : c < 256) : bits .and .i64 c 128 = 128 := by
 obtain ⟨a, rfl⟩ := Int.eq_ofNat_of_zero_le (show 0 ≤ c by omega)
 have h := (bits_nat .i64 63 (by decide) wr63 a 128 (by omega) (by decide)).1
 rw [show ((128 : Nat) : Int) = 128 from rfl] at h
 rw [h]
 have : a &&& 128 = 128 := by
  have h2 : (List.range 256).all (fun a => decide (a < 128) || (a &&& 128 == 128)) = true := by kernel_rfl
  have h3 := List.all_eq_true.1 h2 a (List.mem_range.2 (by omega))
  rw [decide_eq_false (by omega), Bool.false_or] at h3
  exact beq_iff_eq.1 h3
 rw [this]; rfl
theorem wrap8 {n : Int} (h0 : 0 ≤ n) (h1 : n < 256) : IntKind.u8.wrap n = n := by rw [IntKind.wrap_u8]; omega
theorem shr7 {z : Int} : z.fdiv (2 ^ (min (Int.toNat 7) 64)) = z / 128 := by
 have e : (2 : Int) ^ (min (Int.toNat 7) 64) = 128 := by decide
 rw [e, Int.fdiv_eq_ediv_of_nonneg _ (by omega)]
attribute [local go_sem] and127 or128 wrap8 shr7
abbrev byRow (l : List Int) : Row := ⟨0, 5, 1, l.map u8C⟩
def viSt (z : Int) (out : List Int) : AS := ⟨tabV [(3, iv z), (4, .one (.ow 4 0))], tabO [], tabO [(4, byRow out)]⟩
theorem pow128 (f : Nat) : (128 : Int) ^ (f + 1) = 128 ^ f * 128 := Int.pow_succ ..
theorem varint_fc (n : Int) (hn : -1000000000000 ≤ n ∧ n ≤ 1000000000000) : FC Try.prog 64 none [iv n] (fun _ r => r = bysV true (vI n)) := by
 refine fc_varint (by simp +arith) ?_
 have hz := zig_bd hn
 have hl := vI_len n
 have hz0 : vI n = vB 10 (zig n) := rfl
 have he : n < 0 → zig n = 0 - 2 * n - 1 := fun h => if_pos h
 have hp : ¬n < 0 → zig n = 2 * n := fun h => if_neg h
 generalize vI n = R at *
 unfold C_varint
 by_cases c : n < 0
 ·have hz1 := he c
  clear he hp
  simp (maxSteps := 1000000) (disch := (first | omega | assumption)) only [go_sem]
  refine ⟨by decide, ?_⟩
  refine ex_loop3 (fun (f : Nat) z out => viSt z out) (fun f z out => 0 ≤ z ∧ z ≤ 2000000000000 ∧ z < 128 ^ (f + 1) ∧ out.length + f = 9 ∧ out ++ vB (f + 1) z = R) (fun f _ _ => f) 9 (zig n) [] ⟨hz.1, hz.2, by omega, rfl, hz0.symm⟩ ?_ ?_
  ·rw [hz1]
   unfold viSt
   simp only [AS.mk.injEq, List.map_nil]
   refine ⟨?_, trivial, ?_⟩
   ·funext n
    simp only [upd_apply, tabV_cons, tabV_nil]
    by_cases h5 : n = 4
    ·subst h5; rfl
    ·simp only [h5, if_false]
   ·funext n; rfl
  rintro f z out ⟨g1, g2, g3, g4, g5⟩
  unfold viSt
  rw [vB] at g5
  by_cases hc : z > 127
  ·rw [if_pos hc] at g5
   cases f with
   | zero => rw [show (128 : Int) ^ (0 + 1) = 128 from rfl] at g3; omega
   | succ f =>
    rw [pow128 (f + 1)] at g3
    have g6 : z / 128 < 128 ^ (f + 1) := Int.ediv_lt_of_lt_mul (by omega) g3
    clear g3
    simp (maxSteps := 1000000) (disch := (first | omega | assumption)) only [go_sem]
    refine ⟨f, z / 128, out ++ [z % 128 + 128], ?_, ⟨by omega, by omega, g6, by simp only [List.length_append, List.length_singleton]; omega, ?_⟩, by omega⟩
    ·simp only [AS.mk.injEq, List.map_append, List.map_cons, List.map_nil]
     exact ⟨trivial, trivial, by simp only [byRow, List.map_append, List.map_cons, List.map_nil, u8C_eq]⟩
    ·rw [← g5, List.append_assoc]; rfl
  ·rw [if_neg hc] at g5
   simp (maxSteps := 1000000) (disch := (first | omega | assumption)) only [go_sem]
   rw [← g5]
   simp [u8C_eq]
 ·have hz1 := hp c
  clear he hp
  simp (maxSteps := 1000000) (disch := (first | omega | assumption)) only [go_sem]
  refine ⟨by decide, ?_⟩
  refine ex_loop3 (fun (f : Nat) z out => viSt z out) (fun f z out => 0 ≤ z ∧ z ≤ 2000000000000 ∧ z < 128 ^ (f + 1) ∧ out.length + f = 9 ∧ out ++ vB (f + 1) z = R) (fun f _ _ => f) 9 (zig n) [] ⟨hz.1, hz.2, by omega, rfl, hz0.symm⟩ ?_ ?_
  ·rw [hz1]
   unfold viSt
   simp only [AS.mk.injEq, List.map_nil]
   refine ⟨?_, trivial, ?_⟩
   ·funext n
    simp only [upd_apply, tabV_cons, tabV_nil]
    by_cases h5 : n = 4
    ·subst h5; rfl
    ·simp only [h5, if_false]
   ·funext n; rfl
  rintro f z out ⟨g1, g2, g3, g4, g5⟩
  unfold viSt
  rw [vB] at g5
  by_cases hc : z > 127
  ·rw [if_pos hc] at g5
   cases f with
   | zero => rw [show (128 : Int) ^ (0 + 1) = 128 from rfl] at g3; omega
   | succ f =>
    rw [pow128 (f + 1)] at g3
    have g6 : z / 128 < 128 ^ (f + 1) := Int.ediv_lt_of_lt_mul (by omega) g3
    clear g3
    simp (maxSteps := 1000000) (disch := (first | omega | assumption)) only [go_sem]
    refine ⟨f, z / 128, out ++ [z % 128 + 128], ?_, ⟨by omega, by omega, g6, by simp only [List.length_append, List.length_singleton]; omega, ?_⟩, by omega⟩
    ·simp only [AS.mk.injEq, List.map_append, List.map_cons, List.map_nil]
     exact ⟨trivial, trivial, by simp only [byRow, List.map_append, List.map_cons, List.map_nil, u8C_eq]⟩
    ·rw [← g5, List.append_assoc]; rfl
  ·rw [if_neg hc] at g5
   simp (maxSteps := 1000000) (disch := (first | omega | assumption)) only [go_sem]
   rw [← g5]
   simp [u8C_eq]
def ckSt (l : List Int) (c i : Int) : AS := ⟨tabV [(3, iv c), (6, bysV false l), (7, iv l.length), (8, iv i)], tabO [], tabO []⟩
theorem ckS_snoc (l : List Int) (i : Nat) (h : i < l.length) (c : Int) : ckS c (l.take (i + 1)) = (ckS c (l.take i) * 31 + l.getD i default + 1) % 65521 := by
 rw [← List.take_append_getElem h]
 unfold ckS
 rw [List.foldl_append, List.getD_eq_getElem?_getD, List.getElem?_eq_getElem h]
 rfl
theorem cksum_fc (l : List Int) (hl : l.length ≤ 1000000) (hb : ∀ x ∈ l, 0 ≤ x ∧ x ≤ 255) : FC Try.prog 65 none [bysV false l] (fun _ r => r = iv (ckS 1 l)) := by
 refine fc_cksum (by simp +arith) ?_
 unfold C_cksum
 simp (maxSteps := 1000000) (disch := (first | omega | assumption)) only [go_sem]
 refine ex_loop2 (fun c i => ckSt l c i) (fun c i => 0 ≤ i ∧ i ≤ l.length ∧ c = ckS 1 (l.take i.toNat)) (fun _ i => (l.length - i).toNat) 1 0 ⟨by omega, by omega, rfl⟩ rfl ?_
 rintro c i ⟨g1, g2, g3⟩
 unfold ckSt
 have gb := ckS_bd (l.take i.toNat) 1 (by omega)
 rw [← g3] at gb
 by_cases hi : i < l.length
 ·have hx := hb _ (getD_mem l i.toNat (by omega))
  have hs := ckS_snoc l i.toNat (by omega) 1
  rw [← g3] at hs
  generalize hX : l.getD i.toNat default = X at hx hs
  simp (maxSteps := 1000000) (disch := (first | omega | assumption)) only [go_sem]
  refine ⟨_, _, rfl, ⟨by omega, by omega, ?_⟩, by omega⟩
  rw [show (i + 1).toNat = i.toNat + 1 by omega, hs, Int.tmod_eq_emod_of_nonneg (by omega), hX]
 ·simp (maxSteps := 1000000) (disch := (first | omega | assumption)) only [go_sem]
  rw [g3, List.take_of_length_le (by omega)]
theorem p128 : (128 : Int) ^ 0 = 1 ∧ (128 : Int) ^ 1 = 128 ∧ (128 : Int) ^ 2 = 16384 ∧ (128 : Int) ^ 3 = 2097152 ∧ (128 : Int) ^ 4 = 268435456 ∧ (128 : Int) ^ 5 = 34359738368 := by decide
theorem le5 {k : Nat} (h : k ≤ 5) : k = 0 ∨ k = 1 ∨ k = 2 ∨ k = 3 ∨ k = 4 ∨ k = 5 := by omega
theorem shl7 (k : Nat) (hk : k ≤ 5) (a x : Int) (hx : 0 ≤ x ∧ x < 128) : IntKind.i64.wrap (x * 2 ^ min (7 * (a + k - a)).toNat 64) = x * 128 ^ k := by
 obtain ⟨q0, q1, q2, q3, q4, q5⟩ := p128
 rw [IntKind.wrap_i64, show (7 * (a + (k : Int) - a)).toNat = 7 * k by omega]
 rcases le5 hk with rfl | rfl | rfl | rfl | rfl | rfl
 ·rw [q0, show (2 : Int) ^ min (7 * 0) 64 = 1 from by decide]; omega
 ·rw [q1, show (2 : Int) ^ min (7 * 1) 64 = 128 from by decide]; omega
 ·rw [q2, show (2 : Int) ^ min (7 * 2) 64 = 16384 from by decide]; omega
 ·rw [q3, show (2 : Int) ^ min (7 * 3) 64 = 2097152 from by decide]; omega
 ·rw [q4, show (2 : Int) ^ min (7 * 4) 64 = 268435456 from by decide]; omega
 ·rw [q5, show (2 : Int) ^ min (7 * 5) 64 = 34359738368 from by decide]; omega
theorem or7 (k : Nat) (hk : k ≤ 5) (z x : Int) (hz : 0 ≤ z ∧ z < 128 ^ k) (hx : 0 ≤ x ∧ x < 128) : bits .or .i64 z (x * 128 ^ k) = z + x * 128 ^ k := by
 obtain ⟨q0, q1, q2, q3, q4, q5⟩ := p128
 rcases le5 hk with rfl | rfl | rfl | rfl | rfl | rfl
 ·rw [q0] at *
  rw [or_swap (by omega) (by omega), bits_join .i64 63 (by decide) wr63 0 _ z (by omega) (by omega) (by omega) (by omega) (by omega) (by omega)]; omega
 ·rw [q1] at *
  rw [or_swap (by omega) (by omega), bits_join .i64 63 (by decide) wr63 7 _ z (by omega) (by omega) (by omega) (by omega) (by omega) (by omega)]; omega
 ·rw [q2] at *
  rw [or_swap (by omega) (by omega), bits_join .i64 63 (by decide) wr63 14 _ z (by omega) (by omega) (by omega) (by omega) (by omega) (by omega)]; omega
 ·rw [q3] at *
  rw [or_swap (by omega) (by omega), bits_join .i64 63 (by decide) wr63 21 _ z (by omega) (by omega) (by omega) (by omega) (by omega) (by omega)]; omega
 ·rw [q4] at *
  rw [or_swap (by omega) (by omega), bits_join .i64 63 (by decide) wr63 28 _ z (by omega) (by omega) (by omega) (by omega) (by omega) (by omega)]; omega
 ·rw [q5] at *
  rw [or_swap (by omega) (by omega), bits_join .i64 63 (by decide) wr63 35 _ z (by omega) (by omega) (by omega) (by omega) (by omega) (by omega)]; omega
theorem mul7 (k : Nat) (hk : k ≤ 5) (x : Int) : (128 : Int) ^ (k + 1) = 128 * 128 ^ k ∧ 0 < (128 : Int) ^ k ∧ (128 : Int) ^ k ≤ 34359738368 := by
 obtain ⟨q0, q1, q2, q3, q4, q5⟩ := p128
 rcases le5 hk with rfl | rfl | rfl | rfl | rfl | rfl <;> decide
theorem and128_any {c : Int} (h0 : 0 ≤ c) (h1 : c < 256) : (bits .and .i64 c 128 = 0) = (c < 128) := by
 by_cases h : c < 128
 ·rw [and128_lo h0 h]; simp [h]
 ·rw [and128_hi (by omega) h1]; simp [h]
/-- What is left of a number after some bytes, and what was read. -/
structure Uv (n : Int) (B : List Int) (at_ : Int) (k : Nat) (z0 zr : Int) (rest : List Int) : Prop where
 a : 0 ≤ z0 ∧ z0 < 128 ^ k
 b : 0 ≤ zr
 c : zig n = z0 + zr * 128 ^ k
 d : B.drop (at_.toNat + k) = vB (10 - k) zr ++ rest
 e : k ≤ 5
 f : 0 < k → 0 < zr
 g : (vI n).length = k + (vB (10 - k) zr).length
def uvSt (B : List Int) (at_ : Int) (z i : Int) : AS := ⟨tabV [(0, bysV false B), (1, iv at_), (7, iv z), (8, iv i)], tabO [], tabO []⟩
theorem unvarint_fc (n : Int) (hn : -1000000000000 ≤ n ∧ n ≤ 1000000000000) (B : List Int) (hB : B.length ≤ 1000000) (at_ : Int) (h0 : 0 ≤ at_) (rest : List Int) (hd : B.drop at_.toNat = vI n ++ rest) :
  FC Try.prog 89 none [bysV false B, iv at_] (fun _ r => r = .tu [iv n, iv (at_ + (vI n).length), bv true]) := by
 refine fc_unvarint (by simp +arith) ?_
 have hz := zig_bd hn
 unfold C_unvarint
 simp (maxSteps := 1000000) (disch := (first | omega | assumption)) only [go_sem]
 refine ex_loop3 (fun (k : Nat) z0 (zr : Int) => uvSt B at_ z0 (at_ + k)) (fun k z0 zr => Uv n B at_ k z0 zr rest) (fun k _ _ => 10 - k) 0 0 (zig n) ⟨by simp, hz.1, by simp, by simpa [vI] using hd, by omega, by omega, by simp [vI]⟩ ?_ ?_
 ·simp [uvSt]
 rintro k z0 zr ⟨g1, g2, g3, g4, g5, g6, g7⟩
 unfold uvSt
 obtain ⟨m, hm⟩ : ∃ m, 10 - k = m + 1 := ⟨9 - k, by omega⟩
 rw [hm, vB] at g4 g7
 by_cases hc : zr > 127
 ·rw [if_pos hc] at g4 g7
  obtain ⟨p1, p2, p3⟩ := mul7 k g5 0
  have hk4 : k ≤ 4 := by
   by_cases h : k = 5
   ·subst h
    rw [show (128 : Int) ^ 5 = 34359738368 from rfl] at g3
    omega
   ·omega
  have hX : B.getD (at_ + k).toNat default = zr % 128 + 128 := by
   rw [show (at_ + k).toNat = at_.toNat + k by omega, List.getD_eq_getElem?_getD, ← List.head?_drop, g4]; rfl
  have hlt : at_.toNat + k < B.length := by
   have := congrArg List.length g4
   simp only [List.length_drop, List.length_append, List.length_cons] at this
   omega
  have hsh := shl7 k g5 at_ (B.getD (at_ + k).toNat default % 128) (by omega)
  have hor := or7 k g5 z0 (B.getD (at_ + k).toNat default % 128) g1 (by omega)
  have hne : bits .and .i64 (B.getD (at_ + k).toNat default) 128 ≠ 0 := by rw [and128_hi (by omega) (by omega)]; decide
  have hmm : B.getD (at_ + k).toNat default % 128 = zr % 128 := by omega
  have hnx : Uv n B at_ (k + 1) (z0 + B.getD (at_ + k).toNat default % 128 * 128 ^ k) (zr / 128) rest := by
   rw [hmm]
   have hb1 : 0 ≤ zr % 128 * 128 ^ k := Int.mul_nonneg (by omega) (by omega)
   have hb2 : zr % 128 * 128 ^ k ≤ 127 * 128 ^ k := Int.mul_le_mul_of_nonneg_right (by omega) (by omega)
   refine ⟨by omega, by omega, ?_, ?_, by omega, by omega, ?_⟩
   ·rw [g3, p1, Int.add_assoc, ← Int.mul_assoc, ← Int.add_mul, show zr % 128 + zr / 128 * 128 = zr by omega]
   ·rw [show at_.toNat + (k + 1) = at_.toNat + k + 1 by omega, ← List.tail_drop, g4, show 10 - (k + 1) = m by omega]; rfl
   ·rw [g7, List.length_cons, show 10 - (k + 1) = m by omega]; omega
  simp (maxSteps := 1000000) (disch := (first | omega | assumption)) only [go_sem, hsh, hor, and128_any]
  exact ⟨k + 1, _, _, by rw [show at_ + ((k + 1 : Nat) : Int) = at_ + k + 1 by omega], hnx, by omega⟩
 ·rw [if_neg hc] at g4 g7
  have hX : B.getD (at_ + k).toNat default = zr := by
   rw [show (at_ + k).toNat = at_.toNat + k by omega, List.getD_eq_getElem?_getD, ← List.head?_drop, g4]; rfl
  have hlt : at_.toNat + k < B.length := by
   have := congrArg List.length g4
   simp only [List.length_drop, List.length_append, List.length_singleton] at this
   omega
  have hsh := shl7 k g5 at_ (B.getD (at_ + k).toNat default % 128) (by omega)
  have hor := or7 k g5 z0 (B.getD (at_ + k).toNat default % 128) g1 (by omega)
  rw [show z0 + B.getD (at_ + k).toNat default % 128 * 128 ^ k = zig n by rw [hX, g3, Int.emod_eq_of_lt g2 (by omega)]] at hor
  have hne : ¬bits .and .i64 (B.getD (at_ + k).toNat default) 128 ≠ 0 := by rw [and128_lo (by omega) (by omega)]; decide
  have hi := zig_inv n
  have hk0 : ¬(zr = 0 ∧ 0 < k) := fun h => by have := g6 h.2; omega
  have hno : ¬(n < -1000000000000 ∨ n > 1000000000000) := by omega
  clear g3 g4 g6 hd
  generalize zig n = Z at *
  by_cases hp : Z.tmod 2 = 1
  ·rw [if_pos hp] at hi
   by_cases hz0 : B.getD (at_ + k).toNat default = 0
   ·have hk1 : k = 0 := by omega
    simp (maxSteps := 1000000) (disch := (first | omega | assumption)) only [go_sem, hsh, hor, and128_any, hi]
    refine CALL_det (out_fc n _ _) (.inl rfl) ?_
    simp (maxSteps := 1000000) (disch := (first | omega | assumption)) only [go_sem, hsh, hor, and128_any, hi]
    simp only [g7, List.length_singleton, Int.natCast_add, Int.add_assoc]
    simp [hno]
   ·skip
    simp (maxSteps := 1000000) (disch := (first | omega | assumption)) only [go_sem, hsh, hor, and128_any, hi]
    refine CALL_det (out_fc n _ _) (.inl rfl) ?_
    simp (maxSteps := 1000000) (disch := (first | omega | assumption)) only [go_sem, hsh, hor, and128_any, hi]
    simp only [g7, List.length_singleton, Int.natCast_add, Int.add_assoc]
    simp [hno]
  ·rw [if_neg hp] at hi
   by_cases hz0 : B.getD (at_ + k).toNat default = 0
   ·have hk1 : k = 0 := by omega
    simp (maxSteps := 1000000) (disch := (first | omega | assumption)) only [go_sem, hsh, hor, and128_any, hi]
    refine CALL_det (out_fc n _ _) (.inl rfl) ?_
    simp (maxSteps := 1000000) (disch := (first | omega | assumption)) only [go_sem, hsh, hor, and128_any, hi]
    simp only [g7, List.length_singleton, Int.natCast_add, Int.add_assoc]
    simp [hno]
   ·skip
    simp (maxSteps := 1000000) (disch := (first | omega | assumption)) only [go_sem, hsh, hor, and128_any, hi]
    refine CALL_det (out_fc n _ _) (.inl rfl) ?_
    simp (maxSteps := 1000000) (disch := (first | omega | assumption)) only [go_sem, hsh, hor, and128_any, hi]
    simp only [g7, List.length_singleton, Int.natCast_add, Int.add_assoc]
    simp [hno]
end Go.Proofs.Ytiiblflmfadmbaa
