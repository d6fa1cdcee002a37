
/-
 Steps, and what is kept of a series.
-/
import Derived.Test.YtiiblflmfadmbaaCrs
namespace Go.Proofs.Ytiiblflmfadmbaa
open Go Go.Ai
set_option linter.unusedSimpArgs false
set_option linter.unusedVariables false
set_option maxHeartbeats 4000000
def C_keptFault : AC := (.seq (.reg false [gI 4 (.mv (oI 0))] (kP [0,1] [] []))
 (.seq (.seq (.reg false [gM 8 0,gI 9 (.call (.f 18) [(.t 8)]),gM 5 9] (kP [0,1,5] [] []))
 (.seq (.reg false [gM 10 5,gI 11 (.bin .neq (.t 10) (oI 0))] (kP [0,1,5,11] [] []))
 (.cond (.t 11)
 (.seq (.reg false [gM 12 5,gM 4 12] (kP [4] [] []))
 .ret)
 .skip)))
 (.seq (.seq (.reg false [gM 13 1,gI 14 (.len (.t 13)),gM 15 0,gI 16 (.len (.t 15)),gI 17 (.bin .gtr (.t 14) (.t 16))] (kP [0,1,17] [] []))
 (.cond (.t 17)
 (.seq (.reg false [gI 4 (.mv (oI 2))] (kP [4] [] []))
 .ret)
 .skip))
 (.seq (.seq (.reg false [gM 18 1,gI 19 (.len (.t 18)),gI 20 (.mv (oI 0))] (kP [0,1,18,19,20] [] []))
 (.block 0 (.loop (.seq (.reg false [gI 21 (.bin .lss (.t 20) (.t 19))] (kP [0,1,18,19,20,21] [] []))
 (.seq (.cond (.t 21)
 .skip
 (.exit 0))
 (.seq (.block 1 (.seq (.reg false [gM 22 20,gI 23 (.iadr 1 (.t 18) (.t 20)),gI 24 (.load false 1 (.t 23)),gM 6 22,gM 7 24] (kP [0,1,6,7,18,19,20] [] []))
 (.seq (.seq (.reg false [gM 25 7,gM 26 0,gI 27 (.len (.t 26)),gI 28 (.bin .sub (.t 27) (oI 1)),gI 29 (.call (.f 37) [(.t 25),(oI 0),(.t 28)])] (kP [0,1,6,7,18,19,20,29] [] []))
 (.cond (.t 29)
 (.seq (.reg false [gI 4 (.mv (oI 1))] (kP [4] [] []))
 .ret)
 .skip))
 (.seq (.reg false [gM 30 6,gI 31 (.bin .gtr (.t 30) (oI 0)),gM 32 31,gG 33 32 true (.mv (.t 7)),gG 34 32 true (.mv (.t 1)),gG 35 32 true (.mv (.t 6)),gG 36 32 true (.bin .sub (.t 35) (oI 1)),gG 37 32 true (.iadr 1 (.t 34) (.t 36)),gG 38 32 true (.load false 1 (.t 37)),gG 39 32 true (.bin .leq (.t 33) (.t 38)),gI 40 (.pick (.t 32) (.t 39) (.v (.bool false)))] (kP [0,1,18,19,20,40] [] []))
 (.cond (.t 40)
 (.seq (.reg false [gI 4 (.mv (oI 7))] (kP [4] [] []))
 .ret)
 .skip)))))
 (.reg false [gI 41 (.bin .add (.t 20) (oI 1)),gM 20 41] (kP [0,1,18,19,20] [] []))))))))
 (.seq (.reg false [gI 4 (.mv (oI 0))] (kP [4] [] []))
 .ret)))))
theorem fc_keptFault : FcT Try.prog 21 Try.f21 C_keptFault [.t 4] := fc_mk [aN [0,1] [] [],aN [0,1,5] [] [],aN [0,1,5,11] [] [],aN [4] [] [],aN [0,1,17] [] [],aN [4] [] [],aN [0,1,18,19,20] [] [],aN [0,1,18,19,20,21] [] [],aN [0,1,6,7,18,19,20] [] [],aN [0,1,6,7,18,19,20,29] [] [],aN [4] [] [],aN [0,1,18,19,20,40] [] [],aN [4] [] [],aN [0,1,18,19,20] [] [],aN [4] [] []] Try.func21 (by kernel_rfl)
def C_keep : AC := (.seq (.reg false [gI 4 (.mv (.v (.slice none 0 0)))] (kP [0,1] [] []))
 (.seq (.seq (.reg false [gI 5 (.mv (.v (.slice none 0 0)))] (kP [0,1,5] [] []))
 (.own 5 45 3))
 (.seq (.seq (.reg false [gM 8 1,gI 9 (.len (.t 8)),gI 10 (.mv (oI 0))] (kP [0,5,8,9,10] [] [5]))
 (.block 0 (.loop (.seq (.reg false [gI 11 (.bin .lss (.t 10) (.t 9))] (kP [0,5,8,9,10,11] [] [5]))
 (.seq (.cond (.t 11)
 .skip
 (.exit 0))
 (.seq (.block 1 (.seq (.reg false [gI 12 (.iadr 1 (.t 8) (.t 10)),gI 13 (.load false 1 (.t 12)),gM 7 13] (kP [0,5,7,8,9,10] [] [5]))
 (.reg false [gM 14 5,gM 15 0,gM 16 7,gI 17 (.iadr 3 (.t 15) (.t 16)),gI 18 (.load true 3 (.t 17)),gI 19 (.bslice 3 1 [(.t 18)]),gI 20 (.append 45 3 24 (.t 14) (.t 19)),gM 5 20] (kP [0,5,8,9,10] [] [5]))))
 (.reg false [gI 21 (.bin .add (.t 10) (oI 1)),gM 10 21] (kP [0,5,8,9,10] [] [5]))))))))
 (.seq (.reg false [gM 22 5,gM 4 22] (kP [4] [] []))
 .ret))))
theorem fc_keep : FcT Try.prog 22 Try.f22 C_keep [.t 4] := fc_mk [aN [0,1] [] [],⟨(kP [0,1,5] [] []),[(5,45,3)],[],[],[]⟩,aN [0,5,8,9,10] [] [5],aN [0,5,8,9,10,11] [] [5],aN [0,5,7,8,9,10] [] [5],aN [0,5,8,9,10] [] [5],aN [0,5,8,9,10] [] [5],aN [4] [] []] Try.func22 (by kernel_rfl)
def C_keepP : AC := (.seq (.reg false [gI 4 (.mv (.v (.slice none 0 0))),gI 5 (.mv (oI 0))] (kP [0,1] [] []))
 (.seq (.seq (.reg false [gM 7 0,gM 8 1,gI 9 (.call (.f 21) [(.t 7),(.t 8)]),gM 6 9] (kP [0,1,6] [] []))
 (.seq (.reg false [gM 10 6,gI 11 (.bin .neq (.t 10) (oI 0))] (kP [0,1,6,11] [] []))
 (.cond (.t 11)
 (.seq (.seq (.reg false [gM 12 6,gI 4 (.mv (.v (.slice none 0 0))),gM 5 12] (kP [4,5] [] []))
 (.ty 4 3))
 .ret)
 .skip)))
 (.seq (.reg false [gM 13 0,gM 14 1,gI 15 (.call (.f 22) [(.t 13),(.t 14)]),gM 4 15,gI 5 (.mv (oI 0))] (kP [4,5] [] []))
 .ret)))
theorem fc_keepP : FcT Try.prog 7 Try.f7 C_keepP [.t 4, .t 5] := fc_mk [aN [0,1] [] [],aN [0,1,6] [] [],aN [0,1,6,11] [] [],⟨(kP [4,5] [] []),[],[],[(4,3)],[]⟩,aN [4,5] [] []] Try.func7 (by kernel_rfl)
/-- A stepped tag needs sample number i. -/
def stepB (l : List Smp) (i : Int) : Bool := decide (i = 0 ∨ i = l.length - 1 ∨ (l.getD i.toNat default).v ≠ (l.getD (i - 1).toNat default).v ∨ (l.getD i.toNat default).q ≠ (l.getD (i - 1).toNat default).q)
def stpW (l : List Smp) : Nat → List Int
 | 0 => []
 | n + 1 => stpW l n ++ (if stepB l n = true then [(n : Int)] else [])
theorem stpW_len (l : List Smp) : ∀ n, (stpW l n).length ≤ n
 | 0 => by simp [stpW]
 | n + 1 => by have := stpW_len l n; rw [stpW, List.length_append]; split <;> simp <;> omega
def stpSt (l : List Smp) (i : Int) (out : List Int) : AS := ⟨tabV [(0, smps false l), (5, .one (.ow 5 0)), (13, smps false l), (14, iv l.length), (15, iv i)], tabO [], tabO [(5, ⟨0, 3, 1, out.map intC⟩)]⟩
def stpSp (l : List Smp) : List Int × Int := if serFault l ≠ 0 then ([], serFault l) else (stpW l l.length, 0)
/-- What is wrong with indices of n samples, behind another one. -/
def leO (k : Int) : Option Int → Bool
 | none => false
 | some j => decide (k ≤ j)
def kfGo (n : Int) : Option Int → List Int → Int
 | _, [] => 0
 | p, k :: r => if k < 0 ∨ k > n - 1 then 1 else if leO k p = true then 7 else kfGo n (some k) r
def prvI (l : List Int) (i : Int) : Option Int := if i = 0 then none else some (l.getD (i - 1).toNat default)
theorem kfGo_step (n : Int) (l : List Int) (i : Int) (h0 : 0 ≤ i) (h : i < l.length) : kfGo n (prvI l i) (l.drop i.toNat) = if l.getD i.toNat default < 0 ∨ l.getD i.toNat default > n - 1 then 1 else if 0 < i ∧ l.getD i.toNat default ≤ l.getD (i - 1).toNat default then 7 else kfGo n (prvI l (i + 1)) (l.drop (i + 1).toNat) := by
 have e2 : (i + 1).toNat = i.toNat + 1 := by omega
 rw [drop_cons l i.toNat (by omega), kfGo, e2]
 by_cases hi : i = 0
 ·subst hi; simp [prvI, leO]
 ·have h1 : 0 < i := by omega
  have h2 : ¬ i + 1 = 0 := by omega
  have h3 : i + 1 - 1 = i := by omega
  simp [prvI, leO, hi, h1, h2, h3]
def kptF (l : List Smp) (kept : List Int) : Int := if serFault l ≠ 0 then serFault l else if kept.length > l.length then 2 else kfGo l.length none kept
def kpfSt (l : List Smp) (kept : List Int) (i : Int) : AS := ⟨tabV [(0, smps false l), (1, ints false kept), (18, ints false kept), (19, iv kept.length), (20, iv i)], tabO [], tabO []⟩
theorem keptFault_fc (l : List Smp) (hl : l.length ≤ 4611686018427387904) (kept : List Int) (hk : kept.length ≤ 4611686018427387904) : FC Try.prog 21 none [smps false l, ints false kept] (fun _ r => r = iv (kptF l kept)) := by
 refine fc_keptFault (by simp +arith) ?_
 unfold C_keptFault kptF
 simp (maxSteps := 1000000) (disch := omega) only [go_sem]
 refine CALL_det (checkSeries_fc l hl) (.inl rfl) ?_
 by_cases h1 : serFault l = 0
 ·rw [if_neg (show ¬(serFault l ≠ 0) by omega), h1]
  have hlen := (good_of h1).len
  by_cases h2 : kept.length > l.length
  ·rw [if_pos h2]
   simp (maxSteps := 1000000) (disch := omega) only [go_sem]
  ·rw [if_neg h2]
   simp (maxSteps := 1000000) (disch := omega) only [go_sem]
   refine ex_loop1 (kpfSt l kept) (fun i => 0 ≤ i ∧ i ≤ kept.length ∧ kfGo l.length (prvI kept i) (kept.drop i.toNat) = kfGo l.length none kept) (fun i => (kept.length - i).toNat) 0 ⟨by omega, by omega, rfl⟩ rfl ?_
   rintro i ⟨g1, g2, g3⟩
   unfold kpfSt
   by_cases hi : i < kept.length
   ·rw [kfGo_step _ kept i g1 hi] at g3
    have em := getD_map_at intC kept i [] g1 hi
    simp (maxSteps := 1000000) (disch := omega) only [go_sem]
    refine CALL_det (out_fc _ _ _) (.inl rfl) ?_
    by_cases c1 : kept.getD i.toNat default < 0 ∨ kept.getD i.toNat default > l.length - 1
    ·rw [if_pos c1] at g3
     rw [decide_eq_true c1, ← g3]
     simp (maxSteps := 1000000) (disch := omega) only [go_sem]
    ·rw [if_neg c1] at g3
     rw [decide_eq_false c1]
     by_cases c2 : 0 < i
     ·have ep := getD_map_at intC kept (i - 1) [] (by omega) (by omega)
      by_cases c3 : kept.getD i.toNat default ≤ kept.getD (i - 1).toNat default
      ·rw [if_pos ⟨c2, c3⟩] at g3
       rw [← g3]
       simp (maxSteps := 1000000) (disch := omega) only [go_sem]
      ·rw [if_neg (fun h => c3 h.2)] at g3
       simp (maxSteps := 1000000) (disch := omega) only [go_sem]
       exact ⟨_, rfl, ⟨by omega, by omega, g3⟩, by omega⟩
     ·rw [if_neg (fun h => c2 h.1)] at g3
      simp (maxSteps := 1000000) (disch := omega) only [go_sem]
      exact ⟨_, rfl, ⟨by omega, by omega, g3⟩, by omega⟩
   ·rw [List.drop_eq_nil_of_le (by omega), kfGo] at g3
    rw [← g3]
    simp (maxSteps := 1000000) (disch := omega) only [go_sem]
 ·rw [if_pos (show serFault l ≠ 0 by omega)]
  simp (maxSteps := 1000000) (disch := omega) only [go_sem]
theorem kfGo_ok (n : Int) : ∀ (l : List Int) (p : Option Int), kfGo n p l = 0 → ∀ k ∈ l, 0 ≤ k ∧ k < n
 | [], p, _, k, hk => by cases hk
 | x :: r, p, h, k, hk => by
  rw [kfGo] at h
  split at h
  ·omega
  ·split at h
   ·omega
   ·simp only [List.mem_cons] at hk
    rcases hk with rfl | hk
    ·omega
    ·exact kfGo_ok n r _ h k hk
def kep (l : List Smp) (kept : List Int) : List Smp := kept.map fun k => l.getD k.toNat default
def kepSt (l : List Smp) (kept : List Int) (i : Int) (out : List Smp) : AS := ⟨tabV [(0, smps false l), (5, .one (.ow 5 0)), (8, ints false kept), (9, iv kept.length), (10, iv i)], tabO [], tabO [(5, ⟨0, 45, 3, out.map smpC⟩)]⟩
theorem keep_fc (l : List Smp) (hl : l.length ≤ 5000) (kept : List Int) (hk : kept.length ≤ l.length) (hin : ∀ k ∈ kept, 0 ≤ k ∧ k < l.length) : FC Try.prog 22 none [smps false l, ints false kept] (fun _ r => r = smps true (kep l kept)) := by
 refine fc_keep (by simp +arith) ?_
 unfold C_keep
 simp (maxSteps := 1000000) (disch := omega) only [go_sem]
 refine ex_loop2 (kepSt l kept) (fun i out => 0 ≤ i ∧ i ≤ kept.length ∧ out.length = i ∧ out ++ kep l (kept.drop i.toNat) = kep l kept) (fun i _ => (kept.length - i).toNat) 0 [] ⟨by omega, by omega, by simp, by simp⟩ rfl ?_
 rintro i out ⟨g1, g2, g3, g4⟩
 unfold kepSt
 by_cases hi : i < kept.length
 ·have e2 : (i + 1).toNat = i.toNat + 1 := by omega
  have em := getD_map_at intC kept i [] g1 hi
  obtain ⟨k1, k2⟩ := hin _ (getD_mem kept i.toNat (by omega))
  have ek := getD_map_at smpC l (kept.getD i.toNat default) [] k1 k2
  rw [drop_cons kept i.toNat (by omega), ← e2] at g4
  unfold kep at g4 ⊢
  rw [List.map_cons] at g4
  simp (maxSteps := 1000000) (disch := omega) only [go_sem]
  exact ⟨i + 1, out ++ [l.getD (kept.getD i.toNat default).toNat default], by simp only [kepSt, List.map_append, List.map_cons, List.map_nil, smpC_eq], ⟨by omega, by omega, by simp; omega, by simpa using g4⟩, by omega⟩
 ·rw [List.drop_eq_nil_of_le (by omega)] at g4
  simp only [kep, List.map_nil, List.append_nil] at g4
  simp (maxSteps := 1000000) (disch := omega) only [go_sem]
  rw [g4]; rfl
def kepSp (l : List Smp) (kept : List Int) : List Smp × Int := if kptF l kept ≠ 0 then ([], kptF l kept) else (kep l kept, 0)
theorem kptF_ok {l : List Smp} {kept : List Int} (h : kptF l kept = 0) : serFault l = 0 ∧ kept.length ≤ l.length ∧ kfGo l.length none kept = 0 := by
 unfold kptF at h
 split at h
 ·omega
 ·split at h
  ·omega
  ·exact ⟨by omega, by omega, h⟩
theorem keepP_fc (l : List Smp) (hl : l.length ≤ 4611686018427387904) (kept : List Int) (hk : kept.length ≤ 4611686018427387904) : FC Try.prog 7 none [smps false l, ints false kept] (fun _ r => r = .tu [smps true (kepSp l kept).1, iv (kepSp l kept).2]) := by
 refine fc_keepP (by simp +arith) ?_
 unfold C_keepP kepSp
 simp (maxSteps := 1000000) (disch := omega) only [go_sem]
 refine CALL_det (keptFault_fc l hl kept hk) (.inl rfl) ?_
 by_cases h1 : kptF l kept = 0
 ·rw [if_neg (show ¬(kptF l kept ≠ 0) by omega), h1]
  obtain ⟨h2, h3, h4⟩ := kptF_ok h1
  simp (maxSteps := 1000000) (disch := omega) only [go_sem]
  refine CALL_det (keep_fc l (good_of h2).len kept h3 (kfGo_ok _ kept none h4)) (.inl rfl) ?_
  simp (maxSteps := 1000000) (disch := omega) only [go_sem]
 ·rw [if_pos (show kptF l kept ≠ 0 by omega)]
  simp (maxSteps := 1000000) (disch := omega) only [go_sem]
  rfl
end Go.Proofs.Ytiiblflmfadmbaa
