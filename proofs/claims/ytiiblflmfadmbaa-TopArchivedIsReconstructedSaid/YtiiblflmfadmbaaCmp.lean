
/-
 Compress: the numbers of the samples that a compressor archives.
-/
import Derived.Test.YtiiblflmfadmbaaStl
namespace Go.Proofs.Ytiiblflmfadmbaa
open Go Go.Ai
set_option linter.unusedSimpArgs false
set_option linter.unusedVariables false
set_option maxHeartbeats 4000000
def C_compress : AC := (.seq (.reg false [gI 2 (.box (.t 0)),gI 4 (.mv (.v (.slice none 0 0))),gI 5 (.mv (oI 0))] (kP [1,2] [2] []))
 (.seq (.seq (.reg false [gI 15 (.load true 2 (.t 2)),gI 16 (.call (.f 17) [(.t 15)]),gM 17 1,gI 18 (.call (.f 18) [(.t 17)]),gI 19 (.bslice 1 2 [(.t 16),(.t 18)]),gI 20 (.call (.f 16) [(.t 19)]),gM 6 20] (kP [1,2,6] [2] []))
 (.seq (.reg false [gM 21 6,gI 22 (.bin .neq (.t 21) (oI 0))] (kP [1,2,6,22] [2] []))
 (.cond (.t 22)
 (.seq (.seq (.reg false [gM 23 6,gI 4 (.mv (.v (.slice none 0 0))),gM 5 23] (kP [4,5] [] []))
 (.ty 4 1))
 .ret)
 .skip)))
 (.seq (.reg false [gI 24 (.mkm 4),gM 7 24] (kP [1,2,7] [2] [24]))
 (.seq (.reg false [gI 25 (.load true 2 (.t 2)),gI 26 (.build [(.int .i64 (0)),(.int .i64 (0)),(.bool false),(.int .i64 (0)),(.int .i64 (0)),(.int .i64 (0)),(.int .i64 (0)),(.int .i64 (0)),(.int .i64 (0)),(.bool false),(.int .i64 (0)),(.int .i64 (0)),(.int .i64 (0)),(.int .i64 (0))] [(0,2,(.t 25))]),gI 27 (.box (.t 26)),gM 8 27] (kP [1,7,8,27] [27] [24]))
 (.seq (.seq (.reg false [gI 9 (.mv (.v (.slice none 0 0)))] (kP [1,7,8,9,27] [27] [24]))
 (.own 9 45 3))
 (.seq (.seq (.reg false [gM 28 1,gI 29 (.len (.t 28)),gI 30 (.mv (oI 0))] (kP [7,8,9,27,28,29,30] [27] [9,24]))
 (.block 0 (.loop (.seq (.reg false [gI 31 (.bin .lss (.t 30) (.t 29))] (kP [7,8,9,27,28,29,30,31] [27] [9,24]))
 (.seq (.cond (.t 31)
 .skip
 (.exit 0))
 (.seq (.block 1 (.seq (.reg false [gM 32 30,gI 33 (.iadr 3 (.t 28) (.t 30)),gI 34 (.load true 3 (.t 33)),gI 11 (.alloc [(.int .i64 (0)),(.int .i64 (0)),(.int .i64 (0))]),gM 10 32,gN (.store 3 (.t 11) (.t 34))] (kP [7,8,9,10,11,27,28,29,30] [11,27] [9,24]))
 (.seq (.reg false [gM 35 7,gI 36 (.fadr 0 (.t 11)),gI 37 (.load false 1 (.t 36)),gM 38 10,gN (.mup 4 (.t 35) (.t 37) (.t 38))] (kP [7,8,9,11,27,28,29,30] [11,27] [9,24]))
 (.reg false [gM 39 9,gM 40 8,gI 41 (.load true 3 (.t 11)),gI 42 (.callx (.f 19) [(.t 40),(.t 41)]),gI 43 (.append 45 3 24 (.t 39) (.t 42)),gM 9 43] (kP [7,8,9,27,28,29,30] [27] [9,24])))))
 (.reg false [gI 44 (.bin .add (.t 30) (oI 1)),gM 30 44] (kP [7,8,9,27,28,29,30] [27] [9,24]))))))))
 (.seq (.reg false [gM 45 9,gM 46 8,gI 47 (.callx (.f 20) [(.t 46)]),gI 48 (.append 45 3 24 (.t 45) (.t 47)),gM 9 48] (kP [7,9] [] [24]))
 (.seq (.seq (.reg false [gI 12 (.mv (.v (.slice none 0 0)))] (kP [7,9,12] [] [24]))
 (.own 12 3 1))
 (.seq (.seq (.reg false [gM 49 9,gI 50 (.len (.t 49)),gI 51 (.mv (oI 0))] (kP [7,12,49,50,51] [] [12,24]))
 (.block 2 (.loop (.seq (.reg false [gI 52 (.bin .lss (.t 51) (.t 50))] (kP [7,12,49,50,51,52] [] [12,24]))
 (.seq (.cond (.t 52)
 .skip
 (.exit 2))
 (.seq (.block 3 (.seq (.reg false [gI 53 (.iadr 3 (.t 49) (.t 51)),gI 54 (.load true 3 (.t 53)),gI 14 (.alloc [(.int .i64 (0)),(.int .i64 (0)),(.int .i64 (0))]),gN (.store 3 (.t 14) (.t 54))] (kP [7,12,14,49,50,51] [14] [12,24]))
 (.reg false [gM 55 12,gM 56 7,gI 57 (.fadr 0 (.t 14)),gI 58 (.load false 1 (.t 57)),gI 59 (.mlk 4 (.int .i64 (0)) false 0 (.t 56) (.t 58)),gI 60 (.bslice 1 1 [(.t 59)]),gI 61 (.append 3 1 8 (.t 55) (.t 60)),gM 12 61] (kP [7,12,49,50,51] [] [12,24]))))
 (.reg false [gI 62 (.bin .add (.t 51) (oI 1)),gM 51 62] (kP [7,12,49,50,51] [] [12,24]))))))))
 (.seq (.reg false [gM 63 12,gM 4 63,gI 5 (.mv (oI 0))] (kP [4,5] [] []))
 .ret))))))))))
theorem fc_compress : FcT Try.prog 6 Try.f6 C_compress [.t 4, .t 5] := fc_mk [aN [1,2] [2] [],aN [1,2,6] [2] [],aN [1,2,6,22] [2] [],⟨(kP [4,5] [] []),[],[],[(4,1)],[]⟩,aN [1,2,7] [2] [24],aN [1,7,8,27] [27] [24],⟨(kP [1,7,8,9,27] [27] [24]),[(9,45,3)],[],[],[]⟩,aN [7,8,9,27,28,29,30] [27] [9,24],aN [7,8,9,27,28,29,30,31] [27] [9,24],aN [7,8,9,10,11,27,28,29,30] [11,27] [9,24],aN [7,8,9,11,27,28,29,30] [11,27] [9,24],aN [7,8,9,27,28,29,30] [27] [9,24],aN [7,8,9,27,28,29,30] [27] [9,24],aN [7,9] [] [24],⟨(kP [7,9,12] [] [24]),[(12,3,1)],[],[],[]⟩,aN [7,12,49,50,51] [] [12,24],aN [7,12,49,50,51,52] [] [12,24],aN [7,12,14,49,50,51] [14] [12,24],aN [7,12,49,50,51] [] [12,24],aN [7,12,49,50,51] [] [12,24],aN [4,5] [] []] Try.func6 (by kernel_rfl)
section
variable {s : AS} {x : Sc} {o : Option Int}
theorem sc_ren {K : Kp} : (scC x o).map (s.renC K) = scC x o := by cases o <;> rfl
theorem sc_back {m : CAnn} : (scC x o).map (s.backC m) = scC x o := by cases o <;> rfl
theorem sc_view : (scC x o).map s.viewC = scC x o := by cases o <;> rfl
theorem sc_plain : (scC x o).all plainC = true := by cases o <;> rfl
end
attribute [go_sem] sc_ren sc_back sc_view sc_plain
theorem lget_put (k j v : Int) : ∀ l : List (Int × Int), lget j (lput k v l) = if j = k then some v else lget j l
 | [] => by simp [lput, lget]
 | p :: l => by
  have ih := lget_put k j v l
  unfold lput
  by_cases h : k = p.1
  ·subst h
   simp only [beq_self_eq_true, if_true, lget]
   by_cases h2 : j = p.1 <;> simp [h2]
  ·have h' : (k == p.1) = false := by simpa using h
   simp only [h', lget, ih, Bool.false_eq_true, if_false]
   by_cases h2 : j = p.1
   ·subst h2; simp [Ne.symm h]
   ·have h3 : (j == p.1) = false := by simpa using h2
    simp [h3]
/-- The numbers of the first n samples, by their moments. -/
def numd (l : List Smp) (n : Nat) (m : List (Int × Int)) : Prop := ∀ k : Nat, k < n → lget (l.getD k default).a m = some (k : Int)
def cmpSt (dv mg : Int) (l : List Smp) (i : Int) (m : List (Int × Int)) : AS := ⟨tabV [(7, .one (.mp 24)), (8, .one (.bx 27 0)), (9, .one (.ow 9 0)), (27, .one (.bx 27 0)), (28, smps false l), (29, iv l.length), (30, iv i)], tabO [(27, scC (runN dv mg l i.toNat).1 none)], tabO [(9, smpRow (runN dv mg l i.toNat).2), (24, ⟨0, 4, 0, mII m⟩)]⟩
def cmqSt (all : List Smp) (m : List (Int × Int)) (j : Int) (out : List Int) : AS := ⟨tabV [(7, .one (.mp 24)), (12, .one (.ow 12 0)), (49, smps true all), (50, iv all.length), (51, iv j)], tabO [], tabO [(12, intRow out), (24, ⟨0, 4, 0, mII m⟩)]⟩
theorem run_out {dv mg : Int} {l : List Smp} (hg : Good l) (hd : 0 ≤ dv ∧ dv ≤ 2000000) (i : Nat) (hi : i ≤ l.length) : (runN dv mg l i).2.length ≤ i := by
 cases i with
 | zero => exact Nat.le_refl _
 | succ n =>
  obtain ⟨p, H⟩ := sim_run (mg := mg) hg hd n (by omega)
  have := H.o4
  have := H.ph
  have e := congrArg List.length H.o
  simp only [kep, List.length_map] at e
  omega
set_option maxHeartbeats 12000000 in
set_option maxRecDepth 8000 in
theorem compress_ok (dv mg : Int) (hd : excF dv mg = 0) (l : List Smp) (hs : serFault l = 0) : FC Try.prog 6 none [twoV dv mg, smps false l] (fun _ r => r = .tu [ints true (cofSp dv mg l), iv 0]) := by
 refine fc_compress (by simp +arith) ?_
 have hg := good_of hs
 have hlen := hg.len
 have hdd : 0 ≤ dv ∧ dv ≤ 2000000 := by unfold excF at hd; split at hd <;> omega
 have hdm : 1 ≤ mg ∧ mg ≤ 345686400000 := by unfold excF at hd; split at hd <;> omega
 obtain ⟨s1, s2, s3, s4⟩ := stream_is (mg := mg) hg hdd
 have hcd := checkDoor_fc dv mg
 have hcs := checkSeries_fc l (by omega)
 have hf := first_fc false [0, 0] (by simp)
 rw [hd] at hcd
 rw [hs] at hcs
 rw [show orSp [0, 0] = 0 from rfl] at hf
 unfold C_compress
 simp (maxSteps := 1000000) (disch := omega) only [go_sem]
 refine CALL_det hcd (.inl rfl) ?_
 simp (maxSteps := 1000000) (disch := omega) only [go_sem]
 refine CALL_det hcs (.inl rfl) ?_
 simp (maxSteps := 1000000) (disch := omega) only [go_sem]
 refine CALL_det hf (.inl rfl) ?_
 simp (maxSteps := 1000000) (disch := omega) only [go_sem]
 refine ex_loop2 (cmpSt dv mg l) (fun i m => 0 ≤ i ∧ i ≤ l.length ∧ numd l i.toNat m) (fun i _ => (l.length - i).toNat) 0 [] ⟨by omega, by omega, fun k hk => by omega⟩ rfl ?_
 rintro i m ⟨g1, g2, g3⟩
 unfold cmpSt
 by_cases hi : i < l.length
 ·have e2 : (i + 1).toNat = i.toNat + 1 := by omega
  have em := getD_map_at smpC l i [] g1 hi
  have ho := run_out (mg := mg) hg hdd i.toNat (by omega)
  have hst : runN dv mg l (i + 1).toNat = ((addS (runN dv mg l i.toNat).1 (l.getD i.toNat default)).1, (runN dv mg l i.toNat).2 ++ (addS (runN dv mg l i.toNat).1 (l.getD i.toNat default)).2) := by rw [e2]; rfl
  have ho2 := run_out (mg := mg) hg hdd (i + 1).toNat (by omega)
  rw [hst] at ho2
  simp only [List.length_append] at ho2
  have hok : (runN dv mg l i.toNat).1.b = true → OkX (runN dv mg l i.toNat).1 (l.getD i.toNat default) := fun hb => by
   cases hn : i.toNat with
   | zero => rw [hn] at hb; cases hb
   | succ n =>
    obtain ⟨p, H⟩ := sim_run (mg := mg) hg hdd n (by omega)
    exact H.okx hg hdd hdm (by omega)
  have ha := add_fc (runN dv mg l i.toNat).1 none (l.getD i.toNat default) hok
  have hn : numd l (i + 1).toNat (lput (l.getD i.toNat default).a i m) := fun k hk => by
   rw [lget_put]
   by_cases e : k = i.toNat
   ·subst e; rw [if_pos rfl]; congr 1; omega
   ·have := hg.up k i.toNat (by omega) (by omega)
    rw [if_neg (by omega)]
    exact g3 k (by omega)
  have hdt := sc_data (addS (runN dv mg l i.toNat).1 (l.getD i.toNat default)).1 none
  unfold smpRow
  generalize (addS (runN dv mg l i.toNat).1 (l.getD i.toNat default)) = y at *
  simp (maxSteps := 1000000) (disch := omega) only [go_sem]
  refine CALLX_det ha rfl hdt ?_
  simp (maxSteps := 1000000) (disch := omega) only [go_sem]
  refine ⟨i + 1, lput (l.getD i.toNat default).a i m, ?_, ⟨by omega, by omega, hn⟩, by omega⟩
  rw [hst]
  simp only [smpRow, List.map_append]
 ·have hil : i.toNat = l.length := by omega
  rw [hil] at g3 ⊢
  have hfl := flush_fc (runN dv mg l l.length).1 none
  have hdt := sc_data (fluS (runN dv mg l l.length).1).1 none
  have ho := run_out (mg := mg) hg hdd l.length (by omega)
  have hkl : (kep l (cofSp dv mg l)).length ≤ 5000 := by unfold kep; rw [List.length_map]; omega
  have hal : (runN dv mg l l.length).2.length + (fluS (runN dv mg l l.length).1).2.length ≤ 5000 := by
   rw [← s1] at hkl
   simp only [List.length_append] at hkl
   omega
  have s1' : List.map smpC (runN dv mg l l.length).2 ++ List.map smpC (fluS (runN dv mg l l.length).1).2 = List.map smpC (kep l (cofSp dv mg l)) := by rw [← s1]; simp only [List.map_append]
  unfold smpRow
  generalize (fluS (runN dv mg l l.length).1) = y at *
  simp (maxSteps := 1000000) (disch := omega) only [go_sem]
  refine CALLX_det hfl rfl hdt ?_
  simp (maxSteps := 1000000) (disch := omega) only [go_sem]
  rw [s1']
  simp (maxSteps := 1000000) (disch := omega) only [go_sem]
  have hkk : (kep l (cofSp dv mg l)).length = (cofSp dv mg l).length := by unfold kep; rw [List.length_map]
  refine ⟨by omega, ?_⟩
  refine ex_loop2 (fun j out => cmqSt (kep l (cofSp dv mg l)) m j out) (fun j out => 0 ≤ j ∧ j ≤ (cofSp dv mg l).length ∧ out = (cofSp dv mg l).take j.toNat) (fun j _ => ((cofSp dv mg l).length - j).toNat) 0 [] ⟨by omega, by omega, by simp⟩ rfl ?_
  rintro j out ⟨k1, k2, rfl⟩
  unfold cmqSt
  by_cases hj : j < (cofSp dv mg l).length
  ·have ej := getD_map_at smpC (kep l (cofSp dv mg l)) j [] k1 (by omega)
   have hin := s2 _ (getD_mem (cofSp dv mg l) j.toNat (by omega))
   have ek : (kep l (cofSp dv mg l)).getD j.toNat default = l.getD ((cofSp dv mg l).getD j.toNat default).toNat default := by
    unfold kep
    simp [List.getD_eq_getElem?_getD, show j.toNat < (cofSp dv mg l).length by omega]
   have hlk := g3 _ (show ((cofSp dv mg l).getD j.toNat default).toNat < l.length by omega)
   rw [← ek] at hlk
   have htl : ((cofSp dv mg l).take j.toNat).length = j.toNat := by rw [List.length_take]; omega
   have et : (cofSp dv mg l).take (j + 1).toNat = (cofSp dv mg l).take j.toNat ++ [(cofSp dv mg l).getD j.toNat default] := by
    rw [show (j + 1).toNat = j.toNat + 1 by omega, List.take_add_one]
    simp [List.getD_eq_getElem?_getD, show j.toNat < (cofSp dv mg l).length by omega]
   have e4 : ((((cofSp dv mg l).getD j.toNat default).toNat : Nat) : Int) = (cofSp dv mg l).getD j.toNat default := by omega
   rw [e4] at hlk
   unfold intRow
   simp (maxSteps := 1000000) (disch := omega) only [go_sem]
   refine ⟨j + 1, _, ?_, ⟨by omega, by omega, rfl⟩, by omega⟩
   rw [et, hlk]
   simp only [cmqSt, intRow, List.map_append, List.map_cons, List.map_nil, intC_eq, Option.getD_some]
  ·rw [List.take_of_length_le (by omega)]
   simp (maxSteps := 1000000) (disch := omega) only [go_sem]
end Go.Proofs.Ytiiblflmfadmbaa
