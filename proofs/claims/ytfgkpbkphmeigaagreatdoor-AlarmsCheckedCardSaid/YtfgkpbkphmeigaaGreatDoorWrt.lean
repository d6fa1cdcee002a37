/-
 Alarms, written: the program's text and the reference's.
-/
import Derived.Test.YtfgkpbkphmeigaaGreatDoorBld
import Derived.Test.YtfgkpbkphmeigaaGreatDoorRdl
import Derived.Test.YtfgkpbkphmeigaaGreatDoorCka
namespace Go.Proofs.YtfgkpbkphmeigaaGreatDoor
open Go Go.Ai
set_option linter.unusedSimpArgs false
set_option linter.unusedVariables false
set_option maxHeartbeats 4000000
def C_line : AC := (.seq (.reg false [gI 1 (.box (.t 0)),gI 2 (.mv (.v (.string (ByteArray.mk #[]))))] (kP [1] [1] []))
 (.seq (.reg true [gI 7 (.fadr 0 (.t 1)),gI 8 (.load false 1 (.t 7)),gI 9 (.bin .add (.t 8) (.v (.string (ByteArray.mk #[32])))),gI 10 (.fadr 1 (.t 1)),gI 11 (.load false 1 (.t 10)),gI 12 (.bin .add (.t 9) (.t 11)),gI 13 (.bin .add (.t 12) (.v (.string (ByteArray.mk #[32])))),gI 14 (.fadr 2 (.t 1)),gI 15 (.load false 1 (.t 14)),gI 16 (.call (.f 189) [(.t 15)]),gI 17 (.bin .add (.t 13) (.t 16)),gM 3 17] (kP [1,3] [1] []))
 (.seq (.reg false [gI 4 (.mv (oI 0))] (kP [1,3,4] [1] []))
 (.seq (.seq (.reg false [gI 18 (.fadr 8 (.t 1)),gI 19 (.load false 1 (.t 18))] (kP [1,3,4,19] [1] []))
 (.cond (.t 19)
 (.reg false [gI 4 (.mv (oI 1))] (kP [1,3,4] [1] []))
 .skip))
 (.seq (.seq (.reg false [gI 20 (.fadr 3 (.t 1)),gI 21 (.load false 1 (.t 20)),gI 22 (.fadr 4 (.t 1)),gI 23 (.load false 1 (.t 22)),gI 24 (.fadr 5 (.t 1)),gI 25 (.load false 1 (.t 24)),gI 26 (.fadr 6 (.t 1)),gI 27 (.load false 1 (.t 26)),gI 28 (.fadr 7 (.t 1)),gI 29 (.load false 1 (.t 28)),gM 30 4,gI 31 (.bslice 1 6 [(.t 21),(.t 23),(.t 25),(.t 27),(.t 29),(.t 30)]),gI 32 (.len (.t 31)),gI 33 (.mv (oI 0))] (kP [1,3,31,32,33] [1] []))
 (.block 0 (.loop (.seq (.reg false [gI 34 (.bin .lss (.t 33) (.t 32))] (kP [1,3,31,32,33,34] [1] []))
 (.seq (.cond (.t 34)
 .skip
 (.exit 0))
 (.seq (.block 1 (.seq (.reg false [gI 35 (.iadr 1 (.t 31) (.t 33)),gI 36 (.load false 1 (.t 35)),gM 6 36] (kP [1,3,6,31,32,33] [1] []))
 (.reg false [gM 37 3,gM 38 6,gI 39 (.call (.f 99) [(.t 38)]),gI 40 (.bin .add (.v (.string (ByteArray.mk #[32]))) (.t 39)),gI 41 (.bin .add (.t 37) (.t 40)),gM 3 41] (kP [1,3,31,32,33] [1] []))))
 (.reg false [gI 42 (.bin .add (.t 33) (oI 1)),gM 33 42] (kP [1,3,31,32,33] [1] []))))))))
 (.seq (.seq (.reg false [gI 43 (.fadr 9 (.t 1)),gI 44 (.load false 1 (.t 43)),gI 45 (.bin .eql (.t 44) (.v (.string (ByteArray.mk #[]))))] (kP [1,3,45] [1] []))
 (.cond (.t 45)
 (.seq (.reg false [gM 46 3,gI 47 (.bin .add (.t 46) (.v (.string (ByteArray.mk #[32,45])))),gM 2 47] (kP [2] [] []))
 .ret)
 .skip))
 (.seq (.reg false [gM 48 3,gI 49 (.bin .add (.t 48) (.v (.string (ByteArray.mk #[32])))),gI 50 (.fadr 9 (.t 1)),gI 51 (.load false 1 (.t 50)),gI 52 (.bin .add (.t 49) (.t 51)),gM 2 52] (kP [2] [] []))
 .ret)))))))
theorem fc_line : FcT Tryz.prog 96 Tryz.f96 C_line [.t 2] := fc_mk [aN [1] [1] [],aN [1,3] [1] [],aN [1,3,4] [1] [],aN [1,3,4,19] [1] [],aN [1,3,4] [1] [],aN [1,3,31,32,33] [1] [],aN [1,3,31,32,33,34] [1] [],aN [1,3,6,31,32,33] [1] [],aN [1,3,31,32,33] [1] [],aN [1,3,31,32,33] [1] [],aN [1,3,45] [1] [],aN [2] [] [],aN [2] [] []] Tryz.func96 (by kernel_rfl)
def nsL (x : Alm) : List Int := [x.lim, x.db, x.on, x.off, x.pr, if x.lt = true then 1 else 0]
def catN (sp : ByteArray) : List Int → ByteArray → ByteArray
 | [], o => o
 | n :: r, o => catN sp r (o ++ (sp ++ itB n))
theorem app_list (a b : ByteArray) : (a ++ b).data.toList = a.data.toList ++ b.data.toList := by rw [ByteArray.data_append, Array.toList_append]
theorem itB_0 : itB 0 = c0W := by
 unfold itB Lib.itoa
 rw [if_neg (by decide), show Int.toNat 0 = 0 from rfl, dd_small (by omega)]; rfl
theorem itB_1 : itB 1 = c1W := by
 unfold itB Lib.itoa
 rw [if_neg (by decide), show Int.toNat 1 = 1 from rfl, dd_small (by omega)]; rfl
theorem line_is (x : Alm) : bS (lineA x) = catN (ByteArray.mk #[32]) (nsL x) (x.k ++ ByteArray.mk #[32] ++ x.t ++ ByteArray.mk #[32] ++ kwB x.kd) ++ (ByteArray.mk #[32] ++ upB x.p) := by
 have hl : itB (if x.lt = true then 1 else 0) = ltB x.lt := by
  unfold ltB
  cases x.lt
  ·exact itB_0
  ·exact itB_1
 apply ba_ext
 rw [bS_list]
 simp only [lineA, flds, fldB, List.map_cons, List.map_nil, jn, nsL, catN, app_list, hl]
 simp
theorem app_size (a b : ByteArray) : (a ++ b).size = a.size + b.size := ByteArray.size_append
set_option maxHeartbeats 8000000 in
theorem line_fc (x : Alm) (h : AlmW x) : FC Tryz.prog 96 none [.ag (almS x)] (fun _ r => r = sv (bS (lineA x))) := by
 refine fc_line (by simp +arith) ?_
 have hw := word_fc x.kd
 have s1 := h.k.2
 have s2 := h.t.2
 have s3 := (kwB_wd h.kd).2.2
 have s4 := (upB_wd h.p).2.2
 unfold C_line
 generalize hsp : ByteArray.mk #[32] = sp
 generalize hsm : ByteArray.mk #[32, 45] = sm
 have z1 : sp.size = 1 := by rw [← hsp]; rfl
 have z2 : sm.size = 2 := by rw [← hsm]; rfl
 simp (maxSteps := 1000000) (disch := (first | omega | assumption)) only [go_sem]
 refine CALL_det hw (.inl rfl) ?_
 have hb : big15 = 1000000000000000 := rfl
 have hN : ∀ n ∈ nsL x, -big15 < n ∧ n < big15 := by
  intro n hn
  simp only [nsL, List.mem_cons, List.not_mem_nil, or_false] at hn
  rcases hn with rfl | rfl | rfl | rfl | rfl | rfl
  ·exact h.n1
  ·exact h.n2
  ·exact h.n3
  ·exact h.n4
  ·exact h.n5
  ·split <;> omega
 have hl := line_is x
 rw [hsp] at hl
 have hsm2 : sm = sp ++ miW := by rw [← hsm, ← hsp]; rfl
 have hns : nsL x = [x.lim, x.db, x.on, x.off, x.pr, if x.lt = true then 1 else 0] := rfl
 generalize nsL x = ns at hN hl hns
 have hn6 : ns.length = 6 := by rw [hns]; rfl
 generalize hF : catN sp ns (x.k ++ sp ++ x.t ++ sp ++ kwB x.kd) = F at hl
 rw [hl]
 cases hlt : x.lt
 all_goals
  rw [hlt] at hns
  simp (maxSteps := 1000000) (disch := (first | omega | assumption)) only [go_sem]
  refine ex_loop2 (fun i o => ⟨tabV [(1, .one (.bx 1 0)), (3, sv o), (31, ints true ns), (32, iv 6), (33, iv i)], tabO [(1, almS x)], tabO []⟩) (fun i o => 0 ≤ i ∧ i ≤ 6 ∧ (o.size : Int) ≤ 100 + 17 * i ∧ catN sp (ns.drop i.toNat) o = F) (fun i _ => (6 - i).toNat) 0 _ ⟨by omega, by omega, by simp only [app_size]; omega, hF⟩ ?_ ?_
  ·rw [hns, almS_eq, hlt]; rfl
  rintro i o ⟨g1, g2, g3, g4⟩
  by_cases hi : i < 6
  ·have e2 : (i + 1).toNat = i.toNat + 1 := by omega
   rw [drop_cons ns i.toNat (by omega), catN, ← e2] at g4
   have hn := hN _ (getD_mem ns i.toNat (by omega))
   have hw2 := itB_wd hn
   have hit := itoa_fc (ns.getD i.toNat default) ⟨by omega, by omega⟩
   rw [show itoaB (ns.getD i.toNat default) = itB (ns.getD i.toNat default) from rfl] at hit
   have hws := hw2.2.2.2
   have em := getD_map_at intC ns i [] g1 (by omega)
   simp (maxSteps := 1000000) (disch := (first | omega | assumption)) only [go_sem]
   refine CALL_det hit (.inl rfl) ?_
   simp (maxSteps := 1000000) (disch := (first | omega | assumption)) only [go_sem]
   exact ⟨i + 1, _, rfl, ⟨by omega, by omega, by simp only [app_size]; omega, g4⟩, by omega⟩
  ·rw [List.drop_eq_nil_of_le (by omega), catN] at g4
   subst g4
   unfold upB
   by_cases c1 : x.p = emp
   ·rw [if_pos c1, ← hsm2]
    simp (maxSteps := 1000000) (disch := (first | omega | assumption)) only [go_sem]
   ·have hps := (h.p c1).2.2
    rw [if_neg c1]
    simp (maxSteps := 1000000) (disch := (first | omega | assumption)) only [go_sem]
    rw [ByteArray.append_assoc]
end Go.Proofs.YtfgkpbkphmeigaaGreatDoor
