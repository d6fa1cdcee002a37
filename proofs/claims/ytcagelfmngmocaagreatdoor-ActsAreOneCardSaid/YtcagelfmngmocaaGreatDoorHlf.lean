
/-
 Two lists with parts of one, and all of it together.
-/
import Derived.Test.YtcagelfmngmocaaGreatDoorAon
import Derived.Test.YtcagelfmngmocaaGreatDoorCct
namespace Go.Proofs.YtcagelfmngmocaaGreatDoor
open Go Go.Ai
set_option linter.unusedSimpArgs false
set_option linter.unusedVariables false
set_option maxHeartbeats 4000000
def C_hlf : AC := (.seq (.seq (.seq (.reg false [gI 4 (.mv (.v (.slice none 0 0))),gI 5 (.mv (.v (.slice none 0 0)))] (kP [0,1,4,5] [0] []))
 (.own 4 56 6))
 (.own 5 56 6))
 (.seq (.seq (.reg false [gM 9 1,gI 10 (.len (.t 9)),gI 11 (.mv (oI 0))] (kP [0,4,5,9,10,11] [0] [4,5]))
 (.block 0 (.loop (.seq (.reg false [gI 12 (.bin .lss (.t 11) (.t 10))] (kP [0,4,5,9,10,11,12] [0] [4,5]))
 (.seq (.cond (.t 12)
 .skip
 (.exit 0))
 (.seq (.block 1 (.seq (.reg false [gI 13 (.iadr 6 (.t 9) (.t 11)),gI 14 (.load true 6 (.t 13)),gI 7 (.alloc [(.string (ByteArray.mk #[])),(.int .i64 (0)),(.int .i64 (0)),(.int .i64 (0)),(.string (ByteArray.mk #[])),(.int .i64 (0))]),gN (.store 6 (.t 7) (.t 14))] (kP [0,4,5,7,9,10,11] [0,7] [4,5]))
 (.seq (.reg false [gM 15 0,gI 16 (.callx (.f 35) [(.t 15),(oI 3)]),gM 8 16] (kP [0,4,5,7,8,9,10,11] [0,7] [4,5]))
 (.seq (.seq (.reg false [gM 17 8,gI 18 (.bin .neq (.t 17) (oI 1))] (kP [0,4,5,7,8,9,10,11,18] [0,7] [4,5]))
 (.cond (.t 18)
 (.reg false [gM 19 4,gI 20 (.load true 6 (.t 7)),gI 21 (.bslice 6 1 [(.t 20)]),gI 22 (.append 56 6 64 (.t 19) (.t 21)),gM 4 22] (kP [0,4,5,7,8,9,10,11] [0,7] [4,5]))
 .skip))
 (.seq (.reg false [gM 23 8,gI 24 (.bin .neq (.t 23) (oI 0))] (kP [0,4,5,7,9,10,11,24] [0,7] [4,5]))
 (.cond (.t 24)
 (.reg false [gM 25 5,gI 26 (.load true 6 (.t 7)),gI 27 (.bslice 6 1 [(.t 26)]),gI 28 (.append 56 6 64 (.t 25) (.t 27)),gM 5 28] (kP [0,4,5,9,10,11] [0] [4,5]))
 .skip))))))
 (.reg false [gI 29 (.bin .add (.t 11) (oI 1)),gM 11 29] (kP [0,4,5,9,10,11] [0] [4,5]))))))))
 (.seq (.reg false [gM 30 4,gM 31 5,gM 4 30,gM 5 31] (kP [4,5] [0] []))
 .ret)))
theorem fc_hlf : FcT Tryz.prog 68 Tryz.f68 C_hlf [.t 4, .t 5] := fc_mk [⟨(kP [0,1,4,5] [0] []),[(4,56,6),(5,56,6)],[],[],[]⟩,aN [0,4,5,9,10,11] [0] [4,5],aN [0,4,5,9,10,11,12] [0] [4,5],aN [0,4,5,7,9,10,11] [0,7] [4,5],aN [0,4,5,7,8,9,10,11] [0,7] [4,5],aN [0,4,5,7,8,9,10,11,18] [0,7] [4,5],aN [0,4,5,7,8,9,10,11] [0,7] [4,5],aN [0,4,5,7,9,10,11,24] [0,7] [4,5],aN [0,4,5,9,10,11] [0] [4,5],aN [0,4,5,9,10,11] [0] [4,5],aN [4,5] [0] []] Tryz.func68 (by kernel_rfl)
def C_hAct : AC := (.seq (.reg false [gI 4 (.mv (.v (.slice none 0 0))),gI 5 (.mv (.v (.slice none 0 0)))] (kP [0,1] [0] []))
 (.seq (.reg false [gM 6 0,gM 7 1,gI 8 (.callx (.f 68) [(.t 6),(.t 7)]),gI 9 (.extr (.t 8) 0),gI 10 (.extr (.t 8) 1),gM 4 9,gM 5 10] (kP [4,5] [0] []))
 .ret))
theorem fc_hAct : FcT Tryz.prog 23 Tryz.f23 C_hAct [.t 4, .t 5] := fc_mk [aN [0,1] [0] [],aN [4,5] [0] []] Tryz.func23 (by kernel_rfl)
theorem hv_ex : ∀ (n : Nat) (a : List Opr), a.length = n → Hv a a []
 | 0, a, h => by rw [List.length_eq_zero_iff.1 h]; exact .nil
 | n + 1, a, h => by
  have hne : a ≠ [] := fun he => by subst he; simp at h
  have := hv_ex n a.dropLast (by simp [h])
  have h2 := Hv.l (a.getLast hne) this
  rwa [List.dropLast_concat_getLast hne] at h2
def hvSt (L : List Int) (l : List Opr) (i q : Int) (a b : List Opr) : AS := ⟨tabV [(0, .one (.bx 0 0)), (4, .one (.ow 4 0)), (5, .one (.ow 5 0)), (9, oprs false l), (10, iv l.length), (11, iv i)], tabO [(0, strm L q)], tabO [(4, opRow a), (5, opRow b)]⟩
theorem half_fc (l : List Opr) (hl : l.length ≤ 2000) : Gen Tryz.prog 68 [oprs false l] 2000 (fun r => ∃ a b, Hv l a b ∧ r = .tu [oprs true a, oprs true b]) := by
 intro L p hL hl0 h0 hp
 refine fc_hlf (by simp +arith) ?_
 unfold C_hlf strm
 simp (maxSteps := 1000000) (disch := omega) only [go_sem]
 refine ex_loop4 (hvSt L l) (fun i q a b => 0 ≤ i ∧ i ≤ l.length ∧ p ≤ q ∧ q ≤ p + i ∧ Hv (l.take i.toNat) a b) (fun i _ _ _ => (l.length - i).toNat) 0 p [] [] ⟨by omega, by omega, by omega, by omega, .nil⟩ rfl ?_
 rintro i q a b ⟨g1, g2, g3, g4, g5⟩
 have ha := g5.sub.length_le
 have hb := g5.symm.sub.length_le
 rw [List.length_take] at ha hb
 unfold hvSt strm
 by_cases hi : i < l.length
 ·have em := getD_map_at oprS l i [] g1 hi
  have hs := take_snocA l i g1 hi
  simp (maxSteps := 1000000) (disch := omega) only [go_sem]
  refine callx_gen (next_fc 3 (by omega) (by omega)) hL hl0 (by omega) (by omega) ⟨_, 0, by omega, by omega, rfl⟩ ?_
  rintro p' r h4 h5 ⟨z, h6, h7, rfl⟩
  refine ⟨rfl, ?_⟩
  unfold strm
  by_cases hz0 : z = 0
  ·subst hz0
   simp (maxSteps := 1000000) (disch := omega) only [go_sem]
   exact ⟨i + 1, p', a ++ [l.getD i.toNat default], b, by simp only [hvSt, strm, opRow, List.map_append, List.map_cons, List.map_nil, oprS_eq], ⟨by omega, by omega, by omega, by omega, by rw [hs]; exact g5.l _⟩, by omega⟩
  ·by_cases hz1 : z = 1
   ·subst hz1
    simp (maxSteps := 1000000) (disch := omega) only [go_sem]
    exact ⟨i + 1, p', a, b ++ [l.getD i.toNat default], by simp only [hvSt, strm, opRow, List.map_append, List.map_cons, List.map_nil, oprS_eq], ⟨by omega, by omega, by omega, by omega, by rw [hs]; exact g5.r _⟩, by omega⟩
   ·simp (maxSteps := 1000000) (disch := omega) only [go_sem]
    exact ⟨i + 1, p', a ++ [l.getD i.toNat default], b ++ [l.getD i.toNat default], by simp only [hvSt, strm, opRow, List.map_append, List.map_cons, List.map_nil, oprS_eq], ⟨by omega, by omega, by omega, by omega, by rw [hs]; exact g5.b _⟩, by omega⟩
 ·rw [List.take_of_length_le (by omega)] at g5
  simp (maxSteps := 1000000) (disch := omega) only [go_sem]
  exact ⟨⟨q, by omega, by omega, rfl⟩, a, b, g5, rfl⟩
theorem halfA_fc (l : List Opr) (hl : l.length ≤ 2000) : Gen Tryz.prog 23 [oprs false l] 2000 (fun r => ∃ a b, Hv l a b ∧ r = .tu [oprs true a, oprs true b]) := by
 intro L p hL hl0 h0 hp
 refine fc_hAct (by simp +arith) ?_
 unfold C_hAct strm
 simp (maxSteps := 1000000) (disch := omega) only [go_sem]
 refine callx_gen (half_fc l hl) hL hl0 (by omega) (by omega) ⟨_, _, _, hv_ex _ l rfl, rfl⟩ ?_
 rintro p' r h4 h5 ⟨a, b, hv, rfl⟩
 refine ⟨rfl, ?_⟩
 unfold strm
 simp (maxSteps := 1000000) (disch := omega) only [go_sem]
 exact ⟨⟨p', by omega, by omega, rfl⟩, a, b, hv, rfl⟩
end Go.Proofs.YtcagelfmngmocaaGreatDoor
