
/-
 The mixer's scale: contracts.
-/
import Derived.Test.YtjamjffppcjeiaaGreatDoorMxp
import Derived.Test.YtjamjffppcjeiaaGreatDoorBas
namespace Go.Proofs.YtjamjffppcjeiaaGreatDoor
open Go Go.Ai
set_option linter.unusedSimpArgs false
set_option linter.unusedVariables false
set_option maxHeartbeats 4000000
def C_times_ : AC := (.seq (.reg false [gI 4 (.mv (oI 0))] (kP [0,1] [] []))
 (.seq (.seq (.reg false [gM 5 0,gI 6 (.bin .eql (.t 5) (oI 0)),gM 7 6,gG 8 7 false (.mv (.t 1)),gG 9 7 false (.bin .eql (.t 8) (oI 0)),gI 10 (.pick (.t 7) (.v (.bool true)) (.t 9)),gM 11 10,gG 12 11 false (.mv (.t 0)),gG 13 11 false (.mv (.t 1)),gG 14 11 false (.bin .quo (oI 1000000000000) (.t 13)),gG 15 11 false (.bin .gtr (.t 12) (.t 14)),gI 16 (.pick (.t 11) (.v (.bool true)) (.t 15))] (kP [0,1,16] [] []))
 (.cond (.t 16)
 (.seq (.reg false [gI 4 (.mv (oI 0))] (kP [4] [] []))
 .ret)
 .skip))
 (.seq (.reg false [gM 17 0,gM 18 1,gI 19 (.bin .mul (.t 17) (.t 18)),gM 4 19] (kP [4] [] []))
 .ret)))
theorem fc_times_ : FcT Tryz.prog 82 Tryz.f82 C_times_ [.t 4] := fc_mk [aN [0,1] [] [],aN [0,1,16] [] [],aN [4] [] [],aN [4] [] []] Tryz.func82 (by kernel_rfl)
/-! ### maps from strings to numbers -/
def sget (k : ByteArray) : List (ByteArray × Int) → Option Int
 | [] => none
 | p :: l => if (k == p.1) = true then some p.2 else sget k l
def sput (k : ByteArray) (v : Int) : List (ByteArray × Int) → List (ByteArray × Int)
 | [] => [(k, v)]
 | p :: l => if (k == p.1) = true then (k, v) :: l else p :: sput k v l
def mSI (l : List (ByteArray × Int)) : List (List Cel) := l.map fun p => [.g (.string p.1), .g (.int .i64 p.2)]
theorem mget_si {k : ByteArray} : ∀ {l : List (ByteArray × Int)}, mget (.string k) (mSI l) = (sget k l).map fun v => .g (.int .i64 v)
 | [] => rfl
 | p :: l => by
  have ih := mget_si (k := k) (l := l)
  have e : mkey (.string k) [.g (.string p.1), .g (.int .i64 p.2)] = (k == p.1) := rfl
  have e1 : mSI (p :: l) = [.g (.string p.1), .g (.int .i64 p.2)] :: mSI l := rfl
  rw [e1, mget, sget]
  by_cases h : (k == p.1) = true
  ·rw [if_pos (e.trans h), if_pos h]; rfl
  ·rw [if_neg (fun h' => h (e.symm.trans h')), if_neg h, ih]
theorem mput_si {k : ByteArray} {v : Int} : ∀ {l : List (ByteArray × Int)}, mput (.string k) (.g (.int .i64 v)) (mSI l) = mSI (sput k v l)
 | [] => rfl
 | p :: l => by
  have ih := mput_si (k := k) (v := v) (l := l)
  have e : mkey (.string k) [.g (.string p.1), .g (.int .i64 p.2)] = (k == p.1) := rfl
  have e1 : mSI (p :: l) = [.g (.string p.1), .g (.int .i64 p.2)] :: mSI l := rfl
  rw [e1, mput, sput]
  by_cases h : (k == p.1) = true
  ·rw [if_pos (e.trans h), if_pos h]; rfl
  ·rw [if_neg (fun h' => h (e.symm.trans h')), if_neg h, ih]; rfl
attribute [go_sem] mget_si mput_si
theorem sget_put (k j : ByteArray) (v : Int) : ∀ l, sget j (sput k v l) = if j = k then some v else sget j l
 | [] => by
  by_cases h : j = k
  ·subst h; simp [sput, sget]
  ·have : (j == k) = false := by simpa using h
   simp [sput, sget, this, h]
 | p :: l => by
  have ih := sget_put k j v l
  rw [sput]
  by_cases h : (k == p.1) = true
  ·have e : k = p.1 := by simpa using h
   rw [if_pos h, sget, sget]
   by_cases hj : j = k
   ·subst hj; simp
   ·have h1 : ¬((j == k) = true) := by simpa using hj
    have h2 : ¬((j == p.1) = true) := by rw [← e]; exact h1
    rw [if_neg h1, if_neg h2, if_neg hj]
  ·rw [if_neg h, sget, sget, ih]
   by_cases hj : j = k
   ·subst hj; rw [if_neg h, if_pos rfl, if_pos rfl]
   ·rw [if_neg hj, if_neg hj]
theorem mgetF_fmG (k : ByteArray) : ∀ D : List (ByteArray × List Trf), (mgetF (.string k) (fmG D)).getD (.sl false 3 []) = .sl false 3 ((gat k D).map trC)
 | [] => rfl
 | p :: D => by
  have ih := mgetF_fmG k D
  have e : mkey (.string k) [.g (.string p.1), .sl false 3 (p.2.map trC)] = (k == p.1) := rfl
  have e1 : fmG (p :: D) = [.g (.string p.1), .sl false 3 (p.2.map trC)] :: fmG D := rfl
  rw [e1, mgetF]
  by_cases h : (k == p.1) = true
  ·have h2 : p.1 = k := (by simpa using h : k = p.1).symm
   rw [if_pos (e.trans h)]
   unfold gat
   rw [if_pos h2]; rfl
  ·have h2 : ¬ p.1 = k := fun h' => h (by simp [h'])
   rw [if_neg (fun h' => h (e.symm.trans h')), ih]
   conv => rhs; unfold gat
   rw [if_neg h2]
theorem fm_inT (l : List Trf) (k : ByteArray) : (mgetF (.string k) (fmG (grpAll l))).getD (.sl false 3 []) = .sl false 3 ((inT l k).map trC) := by
 rw [mgetF_fmG, gat_all]; rfl
attribute [go_sem] fm_inT
theorem times_fc (a b : Int) (ha : 0 ≤ a ∧ a ≤ 1000000000000) (hb : 0 ≤ b ∧ b ≤ 1000000000000) : FC Tryz.prog 82 none [iv a, iv b] (fun _ r => r = iv (tms a b)) := by
 refine fc_times_ (by simp +arith) ?_
 unfold C_times_
 have h9 := tms_bd ha.1 hb.1
 unfold tms at h9 ⊢
 by_cases h1 : a = 0
 ·rw [if_pos (.inl h1)]
  simp (maxSteps := 1000000) (disch := omega) only [go_sem]
 by_cases h2 : b = 0
 ·rw [if_pos (.inr (.inl h2))]
  simp (maxSteps := 1000000) (disch := omega) only [go_sem]
 have h4 := tdiv_bd (n := 1000000000000) (g := b) (B := 1000000000000) (by omega) (by omega) (by omega)
 by_cases h3 : a > (1000000000000 : Int).tdiv b
 ·rw [if_pos (.inr (.inr h3))]
  simp (maxSteps := 1000000) (disch := omega) only [go_sem]
 have hn : ¬(a = 0 ∨ b = 0 ∨ a > (1000000000000 : Int).tdiv b) := by omega
 rw [if_neg hn] at h9 ⊢
 simp (maxSteps := 1000000) (disch := omega) only [go_sem]
end Go.Proofs.YtjamjffppcjeiaaGreatDoor
