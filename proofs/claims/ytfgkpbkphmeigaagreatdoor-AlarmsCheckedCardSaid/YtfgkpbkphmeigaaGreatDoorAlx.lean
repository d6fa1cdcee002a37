/-
 Which alarm has a key, and which samples a tag; the parents of an alarm; right alarms are let by.
 The parents of an alarm; right alarms, and right series, are let by.
-/
import Derived.Test.YtfgkpbkphmeigaaGreatDoorAlw
namespace Go.Proofs.YtfgkpbkphmeigaaGreatDoor
open Go Go.Ai
set_option linter.unusedSimpArgs false
set_option linter.unusedVariables false
set_option maxHeartbeats 4000000
def C_bsA : AC := (.seq (.reg false [gI 6 (.mv (oI 0)),gI 7 (.mv (.v (.bool false)))] (kP [0,1,2] [] []))
 (.seq (.reg false [gM 12 0,gI 13 (.len (.t 12)),gM 8 13] (kP [0,1,2,8] [] []))
 (.seq (.reg false [gM 14 8,gI 9 (.mv (oI 0)),gM 10 14] (kP [0,1,2,8,9,10] [] []))
 (.seq (.block 0 (.loop (.seq (.seq (.reg false [gM 15 9,gM 16 10,gI 17 (.bin .lss (.t 15) (.t 16))] (kP [0,1,2,8,9,10,17] [] []))
 (.cond (.t 17)
 .skip
 (.exit 0)))
 (.block 1 (.seq (.reg false [gM 18 9,gM 19 10,gI 20 (.bin .add (.t 18) (.t 19)),gI 21 (.conv .u64 (.t 20)),gI 22 (.bin .shr (.t 21) (.v (.int .u64 (1)))),gI 23 (.conv .i64 (.t 22)),gM 11 23] (kP [0,1,2,8,9,10,11] [] []))
 (.seq (.reg false [gM 24 2,gM 25 0,gM 26 11,gI 27 (.iadr 10 (.t 25) (.t 26)),gI 28 (.load true 10 (.t 27)),gM 29 1,gI 30 (.call (.t 24) [(.t 28),(.t 29)]),gI 31 (.bin .lss (.t 30) (oI 0))] (kP [0,1,2,8,9,10,11,31] [] []))
 (.cond (.t 31)
 (.reg false [gM 32 11,gI 33 (.bin .add (.t 32) (oI 1)),gM 9 33] (kP [0,1,2,8,9,10] [] []))
 (.reg false [gM 34 11,gM 10 34] (kP [0,1,2,8,9,10] [] [])))))))))
 (.seq (.reg false [gM 35 9,gM 36 9,gM 37 8,gI 38 (.bin .lss (.t 36) (.t 37)),gM 39 38,gG 40 39 true (.mv (.t 2)),gG 41 39 true (.mv (.t 0)),gG 42 39 true (.mv (.t 9)),gG 43 39 true (.iadr 10 (.t 41) (.t 42)),gG 44 39 true (.load true 10 (.t 43)),gG 45 39 true (.mv (.t 1)),gG 46 39 true (.call (.t 40) [(.t 44),(.t 45)]),gG 47 39 true (.bin .eql (.t 46) (oI 0)),gI 48 (.pick (.t 39) (.t 47) (.v (.bool false))),gM 6 35,gM 7 48] (kP [6,7] [] []))
 .ret)))))
theorem fc_bsA : FcT Tryz.prog 178 Tryz.f178 C_bsA [.t 6, .t 7] := fc_mk [aN [0,1,2] [] [],aN [0,1,2,8] [] [],aN [0,1,2,8,9,10] [] [],aN [0,1,2,8,9,10,17] [] [],aN [0,1,2,8,9,10,11] [] [],aN [0,1,2,8,9,10,11,31] [] [],aN [0,1,2,8,9,10] [] [],aN [0,1,2,8,9,10] [] [],aN [6,7] [] []] Tryz.func178 (by kernel_rfl)
def C_findC : AC := (.seq (.reg false [gI 2 (.box (.t 0)),gI 4 (.mv (oI 0))] (kP [1,2] [2] []))
 (.seq (.reg false [gI 5 (.fadr 0 (.t 2)),gI 6 (.load false 1 (.t 5)),gM 7 1,gI 8 (.call (.f 177) [(.t 6),(.t 7)]),gM 4 8] (kP [4] [] []))
 .ret))
theorem fc_findC : FcT Tryz.prog 179 Tryz.f179 C_findC [.t 4] := fc_mk [aN [1,2] [2] [],aN [4] [] []] Tryz.func179 (by kernel_rfl)
def C_find : AC := (.seq (.reg false [gI 4 (.mv (oI 0))] (kP [0,1] [] []))
 (.seq (.reg false [gM 8 0,gM 9 1,gI 10 (.call (.f 178) [(.t 8),(.t 9),(.f 179)]),gM 7 10,gI 11 (.extr (.t 7) 0),gI 12 (.extr (.t 7) 1),gM 5 11,gM 6 12] (kP [5,6] [] []))
 (.seq (.seq (.reg false [gM 13 6,gI 14 (.un .not (.t 13))] (kP [5,14] [] []))
 (.cond (.t 14)
 (.seq (.reg false [gI 4 (.mv (oI (-1)))] (kP [4] [] []))
 .ret)
 .skip))
 (.seq (.reg false [gM 15 5,gM 4 15] (kP [4] [] []))
 .ret))))
theorem fc_find : FcT Tryz.prog 80 Tryz.f80 C_find [.t 4] := fc_mk [aN [0,1] [] [],aN [5,6] [] [],aN [5,14] [] [],aN [4] [] [],aN [4] [] []] Tryz.func80 (by kernel_rfl)
theorem posE {α : Type} [Inhabited α] {f : α → ByteArray} {l : List α} {key : ByteArray} (ha : AscG f l) : ∃ p : Nat, p ≤ l.length ∧ (∀ j, j < p → ltS (f (l.getD j default)) key) ∧ (∀ j, p ≤ j → j < l.length → ¬ltS (f (l.getD j default)) key) := by
 have h : ∀ n, n ≤ l.length → ∃ p : Nat, p ≤ n ∧ (∀ j, j < p → ltS (f (l.getD j default)) key) ∧ (∀ j, p ≤ j → j < n → ¬ltS (f (l.getD j default)) key) := by
  intro n
  induction n with
  | zero => intro _; exact ⟨0, Nat.le_refl _, fun j hj => by omega, fun j _ hj => by omega⟩
  | succ n ih =>
   intro hn
   obtain ⟨p, h1, h2, h3⟩ := ih (by omega)
   by_cases c : ltS (f (l.getD n default)) key
   ·refine ⟨n + 1, Nat.le_refl _, fun j hj => asc_le ha (show j ≤ n by omega) (by omega) c, fun j h4 h5 => by omega⟩
   ·refine ⟨p, by omega, h2, fun j h4 h5 => ?_⟩
    by_cases e : j = n
    ·subst e; exact c
    ·exact h3 j h4 (by omega)
 exact h l.length (Nat.le_refl _)
theorem findC_fc (key : ByteArray) (x : Alm) : FC Tryz.prog 179 none [.ag (almS x), sv key] (fun _ r => r = iv (cmpS x.k key)) := by
 refine fc_findC (by simp +arith) ?_
 unfold C_findC
 simp (maxSteps := 1000000) (disch := omega) only [go_sem]
 refine CALL_det (cmpS_fc _ _) (.inl rfl) ?_
 simp (maxSteps := 1000000) (disch := omega) only [go_sem]
def bsASt (key : ByteArray) (l : List Alm) (i j : Int) : AS := ⟨tabV [(0, alms false l), (1, sv key), (2, .one (.fn 179 [])), (8, iv l.length), (9, iv i), (10, iv j)], tabO [], tabO []⟩
theorem bsA_fc (key : ByteArray) (l : List Alm) (hl : l.length ≤ 1000000) (ha : AscG Alm.k l) : ∃ i : Nat, i ≤ l.length ∧ (∀ j, j < i → ltS (l.getD j default).k key) ∧ (∀ j, i ≤ j → j < l.length → ¬ltS (l.getD j default).k key) ∧
  FC Tryz.prog 178 none [alms false l, sv key, .one (.fn 179 [])] (fun _ r => r = .tu [iv i, bv (decide (i < l.length ∧ (l.getD i default).k = key))]) := by
 obtain ⟨p, hp1, hp2, hp3⟩ : ∃ p : Nat, p ≤ l.length ∧ (∀ j, j < p → ltS (l.getD j default).k key) ∧ (∀ j, p ≤ j → j < l.length → ¬ltS (l.getD j default).k key) := posE ha
 refine ⟨p, hp1, hp2, hp3, ?_⟩
 refine fc_bsA (by simp +arith) ?_
 unfold C_bsA
 simp (maxSteps := 1000000) (disch := omega) only [go_sem]
 refine ex_loop2 (bsASt key l) (fun i j => 0 ≤ i ∧ i ≤ p ∧ (p : Int) ≤ j ∧ j ≤ l.length) (fun i j => (j - i).toNat) 0 l.length ⟨by omega, by omega, by omega, by omega⟩ rfl ?_
 rintro i j ⟨g1, g2, g3, g4⟩
 unfold bsASt
 have eh : IntKind.i64.wrap ((i + j).fdiv (2 ^ min (Int.toNat 1) 64)) = (i + j) / 2 := by
  have : (i + j).fdiv (2 ^ min (Int.toNat 1) 64) = (i + j) / 2 := Int.fdiv_eq_ediv_of_nonneg _ (by decide)
  rw [this, wrap_i64 _ (by omega) (by omega)]
 by_cases hij : i < j
 ·have em := getD_map_at almS l ((i + j) / 2) [] (by omega) (by omega)
  have hc := findC_fc key (l.getD ((i + j) / 2).toNat default)
  rw [almS_eq] at hc
  simp (maxSteps := 1000000) (disch := omega) only [go_sem]
  simp only [eh]
  refine CALL_det hc (.inl rfl) ?_
  by_cases c : ((i + j) / 2).toNat < p
  ·have h1 := hp2 _ c
   have h2 : cmpS (l.getD ((i + j) / 2).toNat default).k key < 0 := by
    rcases cmpS_is (l.getD ((i + j) / 2).toNat default).k key with ⟨h, e⟩ | ⟨h, _⟩ | ⟨_, h⟩
    ·rw [e] at h1; exact absurd h1 (ltS_irr _)
    ·omega
    ·exact absurd h1 (ltS_asymm h)
   simp (maxSteps := 1000000) (disch := omega) only [go_sem]
   exact ⟨(i + j) / 2 + 1, j, rfl, ⟨by omega, by omega, by omega, by omega⟩, by omega⟩
  ·have h1 := hp3 _ (by omega) (show ((i + j) / 2).toNat < l.length by omega)
   have h2 : ¬cmpS (l.getD ((i + j) / 2).toNat default).k key < 0 := by
    rcases cmpS_is (l.getD ((i + j) / 2).toNat default).k key with ⟨h, e⟩ | ⟨_, h⟩ | ⟨h, _⟩
    ·omega
    ·exact absurd h h1
    ·omega
   simp (maxSteps := 1000000) (disch := omega) only [go_sem]
   exact ⟨i, (i + j) / 2, rfl, ⟨by omega, by omega, by omega, by omega⟩, by omega⟩
 ·have ei : i = p := by omega
  subst ei
  by_cases c : p < l.length
  ·have em := getD_map_at almS l p [] (by omega) (by omega)
   rw [show ((p : Int)).toNat = p by omega] at em
   have hc := findC_fc key (l.getD p default)
   rw [almS_eq] at hc
   simp (maxSteps := 1000000) (disch := omega) only [go_sem]
   refine CALL_det hc (.inl rfl) ?_
   have h2 : cmpS (l.getD p default).k key = 0 ↔ (l.getD p default).k = key := by
    rcases cmpS_is (l.getD p default).k key with ⟨h, e⟩ | ⟨h, e⟩ | ⟨h, e⟩
    ·exact ⟨fun _ => e, fun _ => h⟩
    ·exact ⟨fun h3 => by omega, fun h3 => by rw [h3] at e; exact absurd e (ltS_irr _)⟩
    ·exact ⟨fun h3 => by omega, fun h3 => by rw [h3] at e; exact absurd e (ltS_irr _)⟩
   by_cases c2 : (l.getD p default).k = key
   ·rw [decide_eq_true (p := p < l.length ∧ (l.getD p default).k = key) ⟨c, c2⟩]
    have h3 := h2.2 c2
    simp (maxSteps := 1000000) (disch := omega) only [go_sem]
    rw [decide_eq_true h3]
   ·rw [decide_eq_false (p := p < l.length ∧ (l.getD p default).k = key) (fun h => c2 h.2)]
    have h3 : ¬cmpS (l.getD p default).k key = 0 := fun h => c2 (h2.1 h)
    simp (maxSteps := 1000000) (disch := omega) only [go_sem]
    rw [decide_eq_false h3]
  ·rw [decide_eq_false (p := p < l.length ∧ (l.getD p default).k = key) (fun h => c h.1)]
   simp (maxSteps := 1000000) (disch := omega) only [go_sem]
theorem find_fc (key : ByteArray) (l : List Alm) (hl : l.length ≤ 1000000) (ha : AscG Alm.k l) : FC Tryz.prog 80 none [alms false l, sv key] (fun _ r => r = iv (idxA l key)) := by
 refine fc_find (by simp +arith) ?_
 obtain ⟨i, h1, h2, h3, hc⟩ := bsA_fc key l hl ha
 have hi := idx_pos ha h1 h2 h3
 rw [show idxG (fun x : Alm => decide (x.k = key)) 0 l = idxA l key from rfl] at hi
 rw [hi]
 unfold C_find
 by_cases c : i < l.length ∧ (l.getD i default).k = key
 ·rw [if_pos c]
  rw [decide_eq_true c] at hc
  simp (maxSteps := 1000000) (disch := omega) only [go_sem]
  refine CALL_det hc (.inl rfl) ?_
  simp (maxSteps := 1000000) (disch := omega) only [go_sem]
 ·rw [if_neg c]
  rw [decide_eq_false c] at hc
  simp (maxSteps := 1000000) (disch := omega) only [go_sem]
  refine CALL_det hc (.inl rfl) ?_
  simp (maxSteps := 1000000) (disch := omega) only [go_sem]
end Go.Proofs.YtfgkpbkphmeigaaGreatDoor
namespace Go.Proofs.YtfgkpbkphmeigaaGreatDoor
open Go Go.Ai
set_option linter.unusedSimpArgs false
set_option linter.unusedVariables false
set_option maxHeartbeats 4000000
def C_parents : AC := (.seq (.reg false [gI 3 (.box (.t 1)),gI 4 (.mv (.v (.slice none 0 0)))] (kP [0,3] [3] []))
 (.seq (.seq (.reg false [gI 5 (.mv (.v (.slice none 0 0)))] (kP [0,3,5] [3] []))
 (.own 5 3 1))
 (.seq (.block 0 (.loop (.seq (.seq (.reg false [gI 7 (.fadr 9 (.t 3)),gI 8 (.load false 1 (.t 7)),gI 9 (.bin .neq (.t 8) (.v (.string (ByteArray.mk #[])))),gM 10 9,gG 11 10 true (.mv (.t 5)),gG 12 10 true (.len (.t 11)),gG 13 10 true (.mv (.t 0)),gG 14 10 true (.len (.t 13)),gG 15 10 true (.bin .leq (.t 12) (.t 14)),gI 16 (.pick (.t 10) (.t 15) (.v (.bool false)))] (kP [0,3,5,16] [3] [5]))
 (.cond (.t 16)
 .skip
 (.exit 0)))
 (.block 1 (.seq (.reg false [gM 17 0,gI 18 (.fadr 9 (.t 3)),gI 19 (.load false 1 (.t 18)),gI 20 (.call (.f 80) [(.t 17),(.t 19)]),gM 6 20] (kP [0,3,5,6] [3] [5]))
 (.seq (.reg false [gM 21 5,gM 22 6,gI 23 (.bslice 1 1 [(.t 22)]),gI 24 (.append 3 1 8 (.t 21) (.t 23)),gM 5 24] (kP [0,3,5,6] [3] [5]))
 (.reg false [gM 25 0,gM 26 6,gI 27 (.iadr 10 (.t 25) (.t 26)),gI 28 (.load true 10 (.t 27)),gN (.store 10 (.t 3) (.t 28))] (kP [0,3,5] [3] [5]))))))))
 (.seq (.reg false [gM 29 5,gM 4 29] (kP [4] [] []))
 .ret))))
theorem fc_parents : FcT Tryz.prog 81 Tryz.f81 C_parents [.t 4] := fc_mk [aN [0,3] [3] [],⟨(kP [0,3,5] [3] []),[(5,3,1)],[],[],[]⟩,aN [0,3,5,16] [3] [5],aN [0,3,5,6] [3] [5],aN [0,3,5,6] [3] [5],aN [0,3,5] [3] [5],aN [4] [] []] Tryz.func81 (by kernel_rfl)
def C_checkAlarms : AC := (.seq (.reg false [gI 2 (.mv (oI 0))] (kP [0] [] []))
 (.seq (.seq (.reg false [gM 10 0,gI 11 (.len (.t 10)),gI 12 (.bin .gtr (.t 11) (oI 200))] (kP [0,12] [] []))
 (.cond (.t 12)
 (.seq (.reg false [gI 2 (.mv (oI 2))] (kP [2] [] []))
 .ret)
 .skip))
 (.seq (.seq (.reg false [gM 13 0,gI 14 (.len (.t 13)),gI 15 (.mv (oI 0))] (kP [0,13,14,15] [] []))
 (.block 0 (.loop (.seq (.reg false [gI 16 (.bin .lss (.t 15) (.t 14))] (kP [0,13,14,15,16] [] []))
 (.seq (.cond (.t 16)
 .skip
 (.exit 0))
 (.seq (.block 1 (.seq (.reg false [gM 17 15,gI 18 (.iadr 10 (.t 13) (.t 15)),gI 19 (.load true 10 (.t 18)),gI 4 (.alloc [(.string (ByteArray.mk #[])),(.string (ByteArray.mk #[])),(.int .i64 (0)),(.int .i64 (0)),(.int .i64 (0)),(.int .i64 (0)),(.int .i64 (0)),(.int .i64 (0)),(.bool false),(.string (ByteArray.mk #[]))]),gM 3 17,gN (.store 10 (.t 4) (.t 19))] (kP [0,3,4,13,14,15] [4] []))
 (.seq (.seq (.reg false [gI 20 (.load true 10 (.t 4)),gI 21 (.call (.f 79) [(.t 20)]),gM 5 21] (kP [0,3,4,5,13,14,15] [4] []))
 (.seq (.reg false [gM 22 5,gI 23 (.bin .neq (.t 22) (oI 0))] (kP [0,3,4,5,13,14,15,23] [4] []))
 (.cond (.t 23)
 (.seq (.reg false [gM 24 5,gM 2 24] (kP [2] [] []))
 .ret)
 .skip)))
 (.seq (.reg true [gM 25 3,gI 26 (.bin .gtr (.t 25) (oI 0)),gM 27 26,gG 28 27 true (.fadr 0 (.t 4)),gG 29 27 true (.load false 1 (.t 28)),gG 30 27 true (.mv (.t 0)),gG 31 27 true (.mv (.t 3)),gG 32 27 true (.bin .sub (.t 31) (oI 1)),gG 33 27 true (.iadr 10 (.t 30) (.t 32)),gG 34 27 true (.fadr 0 (.t 33)),gG 35 27 true (.load false 1 (.t 34)),gG 36 27 true (.bin .leq (.t 29) (.t 35)),gI 37 (.pick (.t 27) (.t 36) (.v (.bool false)))] (kP [0,13,14,15,37] [] []))
 (.cond (.t 37)
 (.seq (.reg false [gI 2 (.mv (oI 7))] (kP [2] [] []))
 .ret)
 .skip)))))
 (.reg false [gI 38 (.bin .add (.t 15) (oI 1)),gM 15 38] (kP [0,13,14,15] [] []))))))))
 (.seq (.seq (.reg false [gM 39 0,gI 40 (.len (.t 39)),gI 41 (.mv (oI 0))] (kP [0,39,40,41] [] []))
 (.block 2 (.loop (.seq (.reg false [gI 42 (.bin .lss (.t 41) (.t 40))] (kP [0,39,40,41,42] [] []))
 (.seq (.cond (.t 42)
 .skip
 (.exit 2))
 (.seq (.block 3 (.seq (.reg false [gI 43 (.iadr 10 (.t 39) (.t 41)),gI 44 (.load true 10 (.t 43)),gI 7 (.alloc [(.string (ByteArray.mk #[])),(.string (ByteArray.mk #[])),(.int .i64 (0)),(.int .i64 (0)),(.int .i64 (0)),(.int .i64 (0)),(.int .i64 (0)),(.int .i64 (0)),(.bool false),(.string (ByteArray.mk #[]))]),gN (.store 10 (.t 7) (.t 44))] (kP [0,7,39,40,41] [7] []))
 (.seq (.reg false [gI 45 (.fadr 9 (.t 7)),gI 46 (.load false 1 (.t 45)),gI 47 (.bin .neq (.t 46) (.v (.string (ByteArray.mk #[])))),gM 48 47,gG 49 48 true (.mv (.t 0)),gG 50 48 true (.fadr 9 (.t 7)),gG 51 48 true (.load false 1 (.t 50)),gG 52 48 true (.call (.f 80) [(.t 49),(.t 51)]),gG 53 48 true (.bin .lss (.t 52) (oI 0)),gI 54 (.pick (.t 48) (.t 53) (.v (.bool false)))] (kP [0,39,40,41,54] [] []))
 (.cond (.t 54)
 (.seq (.reg false [gI 2 (.mv (oI 8))] (kP [2] [] []))
 .ret)
 .skip))))
 (.reg false [gI 55 (.bin .add (.t 41) (oI 1)),gM 41 55] (kP [0,39,40,41] [] []))))))))
 (.seq (.seq (.reg false [gM 56 0,gI 57 (.len (.t 56)),gI 58 (.mv (oI 0))] (kP [0,56,57,58] [] []))
 (.block 4 (.loop (.seq (.reg false [gI 59 (.bin .lss (.t 58) (.t 57))] (kP [0,56,57,58,59] [] []))
 (.seq (.cond (.t 59)
 .skip
 (.exit 4))
 (.seq (.block 5 (.seq (.reg false [gI 60 (.iadr 10 (.t 56) (.t 58)),gI 61 (.load true 10 (.t 60)),gI 9 (.alloc [(.string (ByteArray.mk #[])),(.string (ByteArray.mk #[])),(.int .i64 (0)),(.int .i64 (0)),(.int .i64 (0)),(.int .i64 (0)),(.int .i64 (0)),(.int .i64 (0)),(.bool false),(.string (ByteArray.mk #[]))]),gN (.store 10 (.t 9) (.t 61))] (kP [0,9,56,57,58] [9] []))
 (.seq (.reg false [gM 62 0,gI 63 (.load true 10 (.t 9)),gI 64 (.call (.f 81) [(.t 62),(.t 63)]),gI 65 (.len (.t 64)),gM 66 0,gI 67 (.len (.t 66)),gI 68 (.bin .gtr (.t 65) (.t 67))] (kP [0,56,57,58,68] [] []))
 (.cond (.t 68)
 (.seq (.reg false [gI 2 (.mv (oI 14))] (kP [2] [] []))
 .ret)
 .skip))))
 (.reg false [gI 69 (.bin .add (.t 58) (oI 1)),gM 58 69] (kP [0,56,57,58] [] []))))))))
 (.seq (.reg false [gI 2 (.mv (oI 0))] (kP [2] [] []))
 .ret))))))
theorem fc_checkAlarms : FcT Tryz.prog 14 Tryz.f14 C_checkAlarms [.t 2] := fc_mk [aN [0] [] [],aN [0,12] [] [],aN [2] [] [],aN [0,13,14,15] [] [],aN [0,13,14,15,16] [] [],aN [0,3,4,13,14,15] [4] [],aN [0,3,4,5,13,14,15] [4] [],aN [0,3,4,5,13,14,15,23] [4] [],aN [2] [] [],aN [0,13,14,15,37] [] [],aN [2] [] [],aN [0,13,14,15] [] [],aN [0,39,40,41] [] [],aN [0,39,40,41,42] [] [],aN [0,7,39,40,41] [7] [],aN [0,39,40,41,54] [] [],aN [2] [] [],aN [0,39,40,41] [] [],aN [0,56,57,58] [] [],aN [0,56,57,58,59] [] [],aN [0,9,56,57,58] [9] [],aN [0,56,57,58,68] [] [],aN [2] [] [],aN [0,56,57,58] [] [],aN [2] [] []] Tryz.func14 (by kernel_rfl)
def C_allFault : AC := (.seq (.reg false [gI 2 (.mv (oI 0))] (kP [0] [] []))
 (.seq (.seq (.reg false [gM 6 0,gI 7 (.len (.t 6)),gI 8 (.bin .gtr (.t 7) (oI 200))] (kP [0,8] [] []))
 (.cond (.t 8)
 (.seq (.reg false [gI 2 (.mv (oI 2))] (kP [2] [] []))
 .ret)
 .skip))
 (.seq (.seq (.reg false [gM 9 0,gI 10 (.len (.t 9)),gI 11 (.mv (oI 0))] (kP [0,9,10,11] [] []))
 (.block 0 (.loop (.seq (.reg false [gI 12 (.bin .lss (.t 11) (.t 10))] (kP [0,9,10,11,12] [] []))
 (.seq (.cond (.t 12)
 .skip
 (.exit 0))
 (.seq (.block 1 (.seq (.reg false [gM 13 11,gI 14 (.iadr 2 (.t 9) (.t 11)),gI 15 (.load true 2 (.t 14)),gI 4 (.alloc [(.string (ByteArray.mk #[])),(.slice none 0 0)]),gM 3 13,gN (.store 2 (.t 4) (.t 15))] (kP [0,3,4,9,10,11] [4] []))
 (.seq (.block 2 (.seq (.reg false [gI 17 (.fadr 0 (.t 4)),gI 18 (.load false 1 (.t 17)),gI 19 (.call (.f 84) [(.t 18)]),gI 20 (.un .not (.t 19)),gM 16 20] (kP [0,3,4,9,10,11,16] [4] []))
 (.cond (.t 16)
 (.seq (.reg false [gI 2 (.mv (oI 5))] (kP [2] [] []))
 .ret)
 (.seq (.reg true [gM 22 3,gI 23 (.bin .gtr (.t 22) (oI 0)),gM 24 23,gG 25 24 true (.fadr 0 (.t 4)),gG 26 24 true (.load false 1 (.t 25)),gG 27 24 true (.mv (.t 0)),gG 28 24 true (.mv (.t 3)),gG 29 24 true (.bin .sub (.t 28) (oI 1)),gG 30 24 true (.iadr 2 (.t 27) (.t 29)),gG 31 24 true (.fadr 0 (.t 30)),gG 32 24 true (.load false 1 (.t 31)),gG 33 24 true (.bin .leq (.t 26) (.t 32)),gI 34 (.pick (.t 24) (.t 33) (.v (.bool false))),gM 21 34] (kP [0,4,9,10,11,21] [4] []))
 (.cond (.t 21)
 (.seq (.reg false [gI 2 (.mv (oI 7))] (kP [2] [] []))
 .ret)
 .skip)))))
 (.seq (.reg false [gI 35 (.fadr 1 (.t 4)),gI 36 (.load false 1 (.t 35)),gI 37 (.call (.f 85) [(.t 36)]),gM 5 37] (kP [0,5,9,10,11] [] []))
 (.seq (.reg false [gM 38 5,gI 39 (.bin .neq (.t 38) (oI 0))] (kP [0,5,9,10,11,39] [] []))
 (.cond (.t 39)
 (.seq (.reg false [gM 40 5,gM 2 40] (kP [2] [] []))
 .ret)
 .skip))))))
 (.reg false [gI 41 (.bin .add (.t 11) (oI 1)),gM 11 41] (kP [0,9,10,11] [] []))))))))
 (.seq (.reg false [gI 2 (.mv (oI 0))] (kP [2] [] []))
 .ret))))
theorem fc_allFault : FcT Tryz.prog 16 Tryz.f16 C_allFault [.t 2] := fc_mk [aN [0] [] [],aN [0,8] [] [],aN [2] [] [],aN [0,9,10,11] [] [],aN [0,9,10,11,12] [] [],aN [0,3,4,9,10,11] [4] [],aN [0,3,4,9,10,11,16] [4] [],aN [2] [] [],aN [0,4,9,10,11,21] [4] [],aN [2] [] [],aN [0,5,9,10,11] [] [],aN [0,5,9,10,11,39] [] [],aN [2] [] [],aN [0,9,10,11] [] [],aN [2] [] []] Tryz.func16 (by kernel_rfl)
def C_checkAll : AC := (.seq (.reg false [gI 2 (.mv (oI 0))] (kP [0] [] []))
 (.seq (.seq (.reg false [gM 6 0,gI 7 (.len (.t 6)),gI 8 (.bin .gtr (.t 7) (oI 200))] (kP [0,8] [] []))
 (.cond (.t 8)
 (.seq (.reg false [gI 2 (.mv (oI 2))] (kP [2] [] []))
 .ret)
 .skip))
 (.seq (.seq (.reg false [gM 9 0,gI 10 (.len (.t 9)),gI 11 (.mv (oI 0))] (kP [0,9,10,11] [] []))
 (.block 0 (.loop (.seq (.reg false [gI 12 (.bin .lss (.t 11) (.t 10))] (kP [0,9,10,11,12] [] []))
 (.seq (.cond (.t 12)
 .skip
 (.exit 0))
 (.seq (.block 1 (.seq (.reg false [gM 13 11,gI 14 (.iadr 2 (.t 9) (.t 11)),gI 15 (.load true 2 (.t 14)),gI 4 (.alloc [(.string (ByteArray.mk #[])),(.slice none 0 0)]),gM 3 13,gN (.store 2 (.t 4) (.t 15))] (kP [0,3,4,9,10,11] [4] []))
 (.seq (.block 2 (.seq (.reg false [gI 17 (.fadr 0 (.t 4)),gI 18 (.load false 1 (.t 17)),gI 19 (.call (.f 82) [(.t 18)]),gI 20 (.un .not (.t 19)),gM 16 20] (kP [0,3,4,9,10,11,16] [4] []))
 (.cond (.t 16)
 (.seq (.reg false [gI 2 (.mv (oI 5))] (kP [2] [] []))
 .ret)
 (.seq (.reg true [gM 22 3,gI 23 (.bin .gtr (.t 22) (oI 0)),gM 24 23,gG 25 24 true (.fadr 0 (.t 4)),gG 26 24 true (.load false 1 (.t 25)),gG 27 24 true (.mv (.t 0)),gG 28 24 true (.mv (.t 3)),gG 29 24 true (.bin .sub (.t 28) (oI 1)),gG 30 24 true (.iadr 2 (.t 27) (.t 29)),gG 31 24 true (.fadr 0 (.t 30)),gG 32 24 true (.load false 1 (.t 31)),gG 33 24 true (.bin .leq (.t 26) (.t 32)),gI 34 (.pick (.t 24) (.t 33) (.v (.bool false))),gM 21 34] (kP [0,4,9,10,11,21] [4] []))
 (.cond (.t 21)
 (.seq (.reg false [gI 2 (.mv (oI 7))] (kP [2] [] []))
 .ret)
 .skip)))))
 (.seq (.reg false [gI 35 (.fadr 1 (.t 4)),gI 36 (.load false 1 (.t 35)),gI 37 (.call (.f 83) [(.t 36)]),gM 5 37] (kP [0,5,9,10,11] [] []))
 (.seq (.reg false [gM 38 5,gI 39 (.bin .neq (.t 38) (oI 0))] (kP [0,5,9,10,11,39] [] []))
 (.cond (.t 39)
 (.seq (.reg false [gM 40 5,gM 2 40] (kP [2] [] []))
 .ret)
 .skip))))))
 (.reg false [gI 41 (.bin .add (.t 11) (oI 1)),gM 11 41] (kP [0,9,10,11] [] []))))))))
 (.seq (.reg false [gI 2 (.mv (oI 0))] (kP [2] [] []))
 .ret))))
theorem fc_checkAll : FcT Tryz.prog 15 Tryz.f15 C_checkAll [.t 2] := fc_mk [aN [0] [] [],aN [0,8] [] [],aN [2] [] [],aN [0,9,10,11] [] [],aN [0,9,10,11,12] [] [],aN [0,3,4,9,10,11] [4] [],aN [0,3,4,9,10,11,16] [4] [],aN [2] [] [],aN [0,4,9,10,11,21] [4] [],aN [2] [] [],aN [0,5,9,10,11] [] [],aN [0,5,9,10,11,39] [] [],aN [2] [] [],aN [0,9,10,11] [] [],aN [2] [] []] Tryz.func15 (by kernel_rfl)
theorem zlty : ((0 : Nat) < 1) = True := by simp
attribute [go_sem] zlty
def parSt (l : List Alm) (y : Alm) (out : List Int) : AS := ⟨tabV [(0, alms false l), (3, .one (.bx 3 0)), (5, .one (.ow 5 0))], tabO [(3, almS y)], tabO [(5, ⟨0, 3, 1, out.map intC⟩)]⟩
def ca1St (l : List Alm) (i : Int) : AS := ⟨tabV [(0, alms false l), (13, alms false l), (14, iv l.length), (15, iv i)], tabO [], tabO []⟩
def ca2St (l : List Alm) (i : Int) : AS := ⟨tabV [(0, alms false l), (39, alms false l), (40, iv l.length), (41, iv i)], tabO [], tabO []⟩
def ca3St (l : List Alm) (i : Int) : AS := ⟨tabV [(0, alms false l), (56, alms false l), (57, iv l.length), (58, iv i)], tabO [], tabO []⟩
def prvS (l : List Ser) (i : Nat) : Option ByteArray := if i = 0 then none else some (l.getD (i - 1) default).t
theorem prvS_succ (l : List Ser) (i : Nat) : prvS l (i + 1) = some (l.getD i default).t := rfl
def als1St (l : List Ser) (i : Int) : AS := ⟨tabV [(0, sers false l), (9, sers false l), (10, iv l.length), (11, iv i)], tabO [], tabO []⟩
set_option maxHeartbeats 12000000 in
theorem allFault_fc (l : List Ser) (hl : l.length ≤ 1000000) (hsm : ∀ x ∈ l, x.t.size ≤ 1000 ∧ x.l.length ≤ 1000000) : FC Tryz.prog 16 none [sers false l] (fun _ r => r = iv (asF l)) := by
 refine fc_allFault (by simp +arith) ?_
 unfold C_allFault asF
 by_cases c0 : l.length > 200
 ·rw [if_pos c0]
  simp (maxSteps := 1000000) (disch := omega) only [go_sem]
 rw [if_neg c0]
 simp (maxSteps := 1000000) (disch := omega) only [go_sem]
 refine ex_loop1 (als1St l) (fun i => 0 ≤ i ∧ i ≤ l.length ∧ asGo (prvS l i.toNat) (l.drop i.toNat) = asGo none l) (fun i => (l.length - i).toNat) 0 ⟨by omega, by omega, rfl⟩ rfl ?_
 rintro i ⟨g1, g2, g3⟩
 unfold als1St
 by_cases hi : i < l.length
 ·have e2 : (i + 1).toNat = i.toNat + 1 := by omega
  have em := getD_map_at (serS true) l i [] g1 hi
  have hm := hsm _ (getD_mem l i.toNat (by omega))
  rw [drop_cons l i.toNat (by omega), asGo, ← e2] at g3
  have hk := rkey_fc (l.getD i.toNat default).t (by omega)
  have hs := seriesFault_fc (l.getD i.toNat default).l (by omega)
  cases c1 : keyOk (l.getD i.toNat default).t with
  | false =>
   rw [c1] at hk
   rw [if_pos c1] at g3
   rw [← g3]
   simp (maxSteps := 1000000) (disch := (first | omega | assumption)) only [go_sem]
   refine CALL_det hk (.inl rfl) ?_
   simp (maxSteps := 1000000) (disch := (first | omega | assumption)) only [go_sem]
  | true =>
   rw [c1] at hk
   rw [if_neg (by rw [c1]; simp)] at g3
   have step : ∀ (S : Int), serFault (l.getD i.toNat default).l = S → True := fun _ _ => trivial
   by_cases hi0 : 0 < i
   ·have ep := getD_map_at (serS true) l (i - 1) [] (by omega) (by omega)
    have e4 : prvS l i.toNat = some (l.getD (i - 1).toNat default).t := by
     unfold prvS; rw [if_neg (by omega)]
     rw [show i.toNat - 1 = (i - 1).toNat by omega]
    rw [e4] at g3
    have ho := ord_or (a := (l.getD i.toNat default).t) (b := (l.getD (i - 1).toNat default).t)
    by_cases c2 : ltS (l.getD (i - 1).toNat default).t (l.getD i.toNat default).t
    ·rw [if_neg (show ¬(ordBad (some (l.getD (i - 1).toNat default).t) (l.getD i.toNat default).t = true) from fun h => (of_decide_eq_true h) c2)] at g3
     have h5 : ¬(ltS (l.getD i.toNat default).t (l.getD (i - 1).toNat default).t ∨ (l.getD i.toNat default).t = (l.getD (i - 1).toNat default).t) := fun h => (ho.1 h) c2
     by_cases c3 : serFault (l.getD i.toNat default).l ≠ 0
     ·rw [if_pos c3] at g3
      rw [← g3]
      simp (maxSteps := 1000000) (disch := (first | omega | assumption)) only [go_sem]
      refine CALL_det hk (.inl rfl) ?_
      simp (maxSteps := 1000000) (disch := (first | omega | assumption)) only [go_sem]
      refine CALL_det hs (.inl rfl) ?_
      simp (maxSteps := 1000000) (disch := (first | omega | assumption)) only [go_sem]
     ·rw [if_neg c3] at g3
      simp (maxSteps := 1000000) (disch := (first | omega | assumption)) only [go_sem]
      refine CALL_det hk (.inl rfl) ?_
      simp (maxSteps := 1000000) (disch := (first | omega | assumption)) only [go_sem]
      refine CALL_det hs (.inl rfl) ?_
      simp (maxSteps := 1000000) (disch := (first | omega | assumption)) only [go_sem]
      exact ⟨i + 1, rfl, ⟨by omega, by omega, by rw [e2, prvS_succ, ← e2]; exact g3⟩, by omega⟩
    ·rw [if_pos (show ordBad (some (l.getD (i - 1).toNat default).t) (l.getD i.toNat default).t = true from decide_eq_true c2)] at g3
     have h5 := ho.2 c2
     rw [← g3]
     simp (maxSteps := 1000000) (disch := (first | omega | assumption)) only [go_sem]
     refine CALL_det hk (.inl rfl) ?_
     simp (maxSteps := 1000000) (disch := (first | omega | assumption)) only [go_sem]
   ·have e0 : i = 0 := by omega
    subst e0
    rw [show prvS l (Int.toNat 0) = none from rfl, if_neg (by simp [ordBad])] at g3
    by_cases c3 : serFault (l.getD (Int.toNat 0) default).l ≠ 0
    ·rw [if_pos c3] at g3
     rw [← g3]
     simp (maxSteps := 1000000) (disch := (first | omega | assumption)) only [go_sem]
     refine CALL_det hk (.inl rfl) ?_
     simp (maxSteps := 1000000) (disch := (first | omega | assumption)) only [go_sem]
     refine CALL_det hs (.inl rfl) ?_
     simp (maxSteps := 1000000) (disch := (first | omega | assumption)) only [go_sem]
    ·rw [if_neg c3] at g3
     simp (maxSteps := 1000000) (disch := (first | omega | assumption)) only [go_sem]
     refine CALL_det hk (.inl rfl) ?_
     simp (maxSteps := 1000000) (disch := (first | omega | assumption)) only [go_sem]
     refine CALL_det hs (.inl rfl) ?_
     simp (maxSteps := 1000000) (disch := (first | omega | assumption)) only [go_sem]
     exact ⟨1, rfl, ⟨by omega, by omega, g3⟩, by omega⟩
 ·rw [List.drop_eq_nil_of_le (by omega), asGo] at g3
  rw [← g3]
  simp (maxSteps := 1000000) (disch := omega) only [go_sem]
end Go.Proofs.YtfgkpbkphmeigaaGreatDoor
