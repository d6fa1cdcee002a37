
/-
 The tag "tag" is a key.
-/
import Derived.Test.YtiiblflmfadmbaaBle
import Derived.Lib.Strings
namespace Go.Proofs.Ytiiblflmfadmbaa
open Go Go.Ai
set_option linter.unusedSimpArgs false
set_option linter.unusedVariables false
set_option maxHeartbeats 4000000
def C_key : AC := (.seq (.reg false [gI 2 (.mv (.v (.bool false)))] (kP [0] [] []))
 (.seq (.seq (.reg false [gM 5 0,gI 6 (.bin .eql (.t 5) (.v (.string (ByteArray.mk #[])))),gM 7 6,gG 8 7 false (.mv (.t 0)),gG 9 7 false (.slen (.t 8)),gG 10 7 false (.bin .gtr (.t 9) (oI 40)),gI 11 (.pick (.t 7) (.v (.bool true)) (.t 10)),gM 12 11,gG 13 12 false (.mv (.t 0)),gG 14 12 false (.idx (.t 13) (oI 0)),gG 15 12 false (.bin .lss (.t 14) (.v (.int .u8 (97)))),gI 16 (.pick (.t 12) (.v (.bool true)) (.t 15)),gM 17 16,gG 18 17 false (.mv (.t 0)),gG 19 17 false (.idx (.t 18) (oI 0)),gG 20 17 false (.bin .gtr (.t 19) (.v (.int .u8 (122)))),gI 21 (.pick (.t 17) (.v (.bool true)) (.t 20))] (kP [0,21] [] []))
 (.cond (.t 21)
 (.seq (.reg false [gI 2 (.mv (.v (.bool false)))] (kP [2] [] []))
 .ret)
 .skip))
 (.seq (.seq (.reg false [gM 22 0,gI 23 (.slen (.t 22)),gI 24 (.mv (oI 0))] (kP [0,23,24] [] []))
 (.block 0 (.loop (.seq (.reg false [gI 25 (.bin .lss (.t 24) (.t 23))] (kP [0,23,24,25] [] []))
 (.seq (.cond (.t 25)
 .skip
 (.exit 0))
 (.seq (.block 1 (.seq (.reg false [gM 26 24,gM 3 26] (kP [0,3,23,24] [] []))
 (.seq (.reg false [gM 27 0,gM 28 3,gI 29 (.idx (.t 27) (.t 28)),gM 4 29] (kP [0,4,23,24] [] []))
 (.seq (.reg false [gM 30 4,gI 31 (.bin .geq (.t 30) (.v (.int .u8 (97)))),gM 32 31,gG 33 32 true (.mv (.t 4)),gG 34 32 true (.bin .leq (.t 33) (.v (.int .u8 (122)))),gI 35 (.pick (.t 32) (.t 34) (.v (.bool false))),gM 36 35,gG 37 36 false (.mv (.t 4)),gG 38 36 false (.bin .geq (.t 37) (.v (.int .u8 (48)))),gG 39 36 false (.mv (.t 38)),gG 40 39 true (.mv (.t 4)),gG 41 39 true (.bin .leq (.t 40) (.v (.int .u8 (57)))),gG 42 36 false (.pick (.t 39) (.t 41) (.v (.bool false))),gI 43 (.pick (.t 36) (.v (.bool true)) (.t 42)),gM 44 43,gG 45 44 false (.mv (.t 4)),gG 46 44 false (.bin .eql (.t 45) (.v (.int .u8 (45)))),gI 47 (.pick (.t 44) (.v (.bool true)) (.t 46)),gM 48 47,gG 49 48 false (.mv (.t 4)),gG 50 48 false (.bin .eql (.t 49) (.v (.int .u8 (95)))),gI 51 (.pick (.t 48) (.v (.bool true)) (.t 50)),gI 52 (.un .not (.t 51))] (kP [0,23,24,52] [] []))
 (.cond (.t 52)
 (.seq (.reg false [gI 2 (.mv (.v (.bool false)))] (kP [2] [] []))
 .ret)
 .skip)))))
 (.reg false [gI 53 (.bin .add (.t 24) (oI 1)),gM 24 53] (kP [0,23,24] [] []))))))))
 (.seq (.reg false [gI 2 (.mv (.v (.bool true)))] (kP [2] [] []))
 .ret))))
theorem fc_key : FcT Try.prog 46 Try.f46 C_key [.t 2] := fc_mk [aN [0] [] [],aN [0,21] [] [],aN [2] [] [],aN [0,23,24] [] [],aN [0,23,24,25] [] [],aN [0,3,23,24] [] [],aN [0,4,23,24] [] [],aN [0,23,24,52] [] [],aN [2] [] [],aN [0,23,24] [] [],aN [2] [] []] Try.func46 (by kernel_rfl)
/-- A byte of a string. -/
def byteN (b : ByteArray) (i : Nat) : Nat := (b.data.toList.getD i 0).toNat
def byteA (b : ByteArray) (i : Int) : Int := ((b.data.toList.getD i.toNat 0).toNat : Int)
/-- All bytes up to a place are so. -/
def allTo (p : Nat → Bool) (b : ByteArray) : Nat → Bool
 | 0 => true
 | n + 1 => allTo p b n && p (byteN b n)
def keyB (n : Nat) : Bool := decide (97 ≤ n ∧ n ≤ 122) || decide (48 ≤ n ∧ n ≤ 57) || decide (n = 45) || decide (n = 95)
def keyOk (b : ByteArray) : Bool := decide (1 ≤ b.size ∧ b.size ≤ 40) && decide (97 ≤ byteN b 0 ∧ byteN b 0 ≤ 122) && allTo keyB b b.size
theorem allTo_lt {p : Nat → Bool} {b : ByteArray} : ∀ {n : Nat}, allTo p b n = true ↔ ∀ i, i < n → p (byteN b i) = true
 | 0 => by simp [allTo]
 | n + 1 => by
  rw [allTo, Bool.and_eq_true, allTo_lt]
  constructor
  ·rintro ⟨h1, h2⟩ i hi
   by_cases e : i = n
   ·subst e; exact h2
   ·exact h1 i (by omega)
  ·exact fun h => ⟨fun i hi => h i (by omega), h n (by omega)⟩
theorem str_nil (b : ByteArray) : (b.toList == (ByteArray.mk #[]).toList) = decide (b.size = 0) := by
 rw [ByteArray.toList_eq, ByteArray.toList_eq]
 by_cases e : b.size = 0
 ·have : b = ByteArray.mk #[] := by
   cases b with | mk d => simp [ByteArray.size] at e; simp [e]
  subst this; rfl
 ·rw [decide_eq_false e]
  apply Bool.eq_false_iff.2
  intro h2
  have := beq_iff_eq.1 h2
  rw [Lib.size_eq, this] at e
  exact e rfl
theorem key_fc (b : ByteArray) (hsz : b.size ≤ 9223372036854775807) : FC Try.prog 46 none [sv b] (fun _ r => r = bv (keyOk b)) := by
 refine fc_key (by simp +arith) ?_
 unfold C_key
 have e1 := str_nil b
 by_cases c1 : b.size = 0
 ·have ek : keyOk b = false := by unfold keyOk; rw [decide_eq_false (by omega)]; simp
  rw [decide_eq_true c1] at e1
  rw [ek]
  simp (maxSteps := 1000000) (disch := omega) only [go_sem]
  simp only [e1]
  simp (maxSteps := 1000000) (disch := omega) only [go_sem]
 rw [decide_eq_false c1] at e1
 by_cases c2 : b.size > 40
 ·have ek : keyOk b = false := by unfold keyOk; rw [decide_eq_false (by omega)]; simp
  rw [ek]
  simp (maxSteps := 1000000) (disch := omega) only [go_sem]
 by_cases c3 : byteN b 0 < 97 ∨ byteN b 0 > 122
 ·have ek : keyOk b = false := by unfold keyOk; rw [decide_eq_false (show ¬(97 ≤ byteN b 0 ∧ byteN b 0 ≤ 122) by omega)]; simp
  rw [ek]
  have c5 : (b.data.toList.getD (Int.toNat 0) 0).toNat < 97 ∨ (b.data.toList.getD (Int.toNat 0) 0).toNat > 122 := c3
  by_cases c4 : (b.data.toList.getD (Int.toNat 0) 0).toNat < 97
  ·simp (maxSteps := 1000000) (disch := omega) only [go_sem]
  ·simp (maxSteps := 1000000) (disch := omega) only [go_sem]
 have ek : keyOk b = allTo keyB b b.size := by unfold keyOk; rw [decide_eq_true (by omega), decide_eq_true (by omega)]; simp
 rw [ek]
 have c5 : ¬((b.data.toList.getD (Int.toNat 0) 0).toNat < 97 ∨ (b.data.toList.getD (Int.toNat 0) 0).toNat > 122) := c3
 simp (maxSteps := 1000000) (disch := omega) only [go_sem]
 simp only [e1]
 simp (maxSteps := 1000000) (disch := omega) only [go_sem]
 refine ex_loop1 (fun i => ⟨tabV [(0, sv b), (23, iv b.size), (24, iv i)], tabO [], tabO []⟩) (fun i => 0 ≤ i ∧ i ≤ b.size ∧ allTo keyB b i.toNat = true) (fun i => (b.size - i).toNat) 0 ⟨by omega, by omega, rfl⟩ rfl ?_
 rintro i ⟨h1, h2, h3⟩
 by_cases hi : i < b.size
 ·have hk : keyB (byteN b i.toNat) = (decide (97 ≤ byteN b i.toNat ∧ byteN b i.toNat ≤ 122) || decide (48 ≤ byteN b i.toNat ∧ byteN b i.toNat ≤ 57) || decide (byteN b i.toNat = 45) || decide (byteN b i.toNat = 95)) := rfl
  have e2 : (i + 1).toNat = i.toNat + 1 := by omega
  by_cases hb : keyB (byteN b i.toNat) = true
  ·have h4 : allTo keyB b (i + 1).toNat = true := by rw [e2, allTo, h3, hb]; rfl
   have hb2 := hb
   unfold keyB at hb
   simp only [Bool.or_eq_true, decide_eq_true_eq] at hb
   unfold byteN at hb
   simp (maxSteps := 1000000) (disch := omega) only [go_sem]
   (repeat' (first | apply And.intro | intro _)) <;> first | exact ⟨i + 1, rfl, ⟨by omega, by omega, h4⟩, by omega⟩ | (exfalso; omega)
  ·have h4 : allTo keyB b b.size = false := by
    apply Bool.eq_false_iff.2
    intro h
    exact hb (allTo_lt.1 h i.toNat (by omega))
   unfold keyB at hb
   simp only [Bool.or_eq_true, decide_eq_true_eq] at hb
   unfold byteN at hb
   rw [h4]
   simp (maxSteps := 1000000) (disch := omega) only [go_sem]
   (repeat' (first | apply And.intro | intro _)) <;> (exfalso; omega)
 ·rw [show i.toNat = b.size by omega] at h3
  rw [h3]
  simp (maxSteps := 1000000) (disch := omega) only [go_sem]
theorem tag_key : FC Try.prog 46 none [.one (.g (.string tgB))] (fun _ r => r = bv true) := by
 have h := key_fc tgB (by rw [tg_size]; decide)
 rw [show keyOk tgB = true from by kernel_rfl] at h
 exact h
end Go.Proofs.Ytiiblflmfadmbaa
