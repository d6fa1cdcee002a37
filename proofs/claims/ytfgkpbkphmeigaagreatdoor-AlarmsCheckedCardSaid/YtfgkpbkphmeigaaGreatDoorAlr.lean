/-
 The reference reads a line of alarms.
-/
import Derived.Test.YtfgkpbkphmeigaaGreatDoorCtl
import Derived.MapKept
namespace Go.Proofs.YtfgkpbkphmeigaaGreatDoor
open Go Go.Ai
set_option linter.unusedSimpArgs false
set_option linter.unusedVariables false
set_option maxHeartbeats 4000000
def C_rrdC : AC := (.seq (.reg false [gI 3 (.mv (.v (.bool false)))] (kP [0,1,1000001] [1000001] [1000002]))
 (.seq (.reg false [gM 8 0,gI 9 (.callm (.f 109) [(.t 8),(.v (.string (ByteArray.mk #[32])))] ⟨[],[],[],[5000],[]⟩),gM 4 9] (kP [1,4,1000001] [1000001] [5000,1000002]))
 (.seq (.seq (.reg false [gM 10 4,gI 11 (.call (.f 110) [(.t 10),(.v (.string (ByteArray.mk #[])))]),gM 12 11,gG 13 12 false (.mv (.t 4)),gG 14 12 false (.len (.t 13)),gG 15 12 false (.bin .neq (.t 14) (oI 10)),gI 16 (.pick (.t 12) (.v (.bool true)) (.t 15))] (kP [1,4,16,1000001] [1000001] [5000,1000002]))
 (.cond (.t 16)
 (.seq (.reg false [gI 3 (.mv (.v (.bool false)))] (kP [3] [1000001] [1000002]))
 .ret)
 .skip))
 (.seq (.reg true [gI 17 (.call (.f 101) []),gI 18 (.slc 1 (.t 17) (some (oI 1)) none),gM 19 4,gI 20 (.iadr 1 (.t 19) (oI 2)),gI 21 (.load false 1 (.t 20)),gI 22 (.call (.f 111) [(.t 18),(.t 21)]),gI 23 (.bin .add (.t 22) (oI 1)),gM 5 23] (kP [1,4,5,1000001] [1000001] [5000,1000002]))
 (.seq (.reg false [gM 25 4,gI 26 (.slc 1 (.t 25) (some (oI 3)) (some (oI 8))),gI 27 (.call (.f 112) [(.t 26),(oI 15)]),gM 24 27,gI 28 (.extr (.t 24) 0),gI 29 (.extr (.t 24) 1),gM 6 28,gM 7 29] (kP [1,4,5,6,7,1000001] [1000001] [5000,1000002]))
 (.seq (.seq (.reg false [gM 30 7,gI 31 (.un .not (.t 30)),gM 32 31,gG 33 32 false (.mv (.t 5)),gG 34 32 false (.bin .eql (.t 33) (oI 0)),gI 35 (.pick (.t 32) (.v (.bool true)) (.t 34)),gM 36 35,gG 37 36 false (.mv (.t 4)),gG 38 36 false (.iadr 1 (.t 37) (oI 8)),gG 39 36 false (.load false 1 (.t 38)),gG 40 36 false (.bin .neq (.t 39) (.v (.string (ByteArray.mk #[48])))),gG 41 36 false (.mv (.t 40)),gG 42 41 true (.mv (.t 4)),gG 43 41 true (.iadr 1 (.t 42) (oI 8)),gG 44 41 true (.load false 1 (.t 43)),gG 45 41 true (.bin .neq (.t 44) (.v (.string (ByteArray.mk #[49])))),gG 46 36 false (.pick (.t 41) (.t 45) (.v (.bool false))),gI 47 (.pick (.t 36) (.v (.bool true)) (.t 46))] (kP [1,4,5,6,47,1000001] [1000001] [5000,1000002]))
 (.cond (.t 47)
 (.seq (.reg false [gI 3 (.mv (.v (.bool false)))] (kP [3] [1000001] [1000002]))
 .ret)
 .skip))
 (.seq (.seq (.reg false [gM 48 4,gI 49 (.iadr 1 (.t 48) (oI 9)),gI 50 (.load false 1 (.t 49)),gI 51 (.bin .eql (.t 50) (.v (.string (ByteArray.mk #[45]))))] (kP [1,4,5,6,51,1000001] [1000001] [5000,1000002]))
 (.cond (.t 51)
 (.reg false [gM 52 4,gI 53 (.iadr 1 (.t 52) (oI 9)),gN (.store 1 (.t 53) (.v (.string (ByteArray.mk #[]))))] (kP [1,4,5,6,1000001] [1000001] [1000002]))
 .skip))
 (.seq (.reg true [gI 54 (.load false 1 (.t 1)),gM 55 4,gI 56 (.iadr 1 (.t 55) (oI 0)),gI 57 (.load false 1 (.t 56)),gM 58 4,gI 59 (.iadr 1 (.t 58) (oI 1)),gI 60 (.load false 1 (.t 59)),gM 61 5,gM 62 6,gI 63 (.iadr 1 (.t 62) (oI 0)),gI 64 (.load false 1 (.t 63)),gM 65 6,gI 66 (.iadr 1 (.t 65) (oI 1)),gI 67 (.load false 1 (.t 66)),gM 68 6,gI 69 (.iadr 1 (.t 68) (oI 2)),gI 70 (.load false 1 (.t 69)),gM 71 6,gI 72 (.iadr 1 (.t 71) (oI 3)),gI 73 (.load false 1 (.t 72)),gM 74 6,gI 75 (.iadr 1 (.t 74) (oI 4)),gI 76 (.load false 1 (.t 75)),gM 77 4,gI 78 (.iadr 1 (.t 77) (oI 8)),gI 79 (.load false 1 (.t 78)),gI 80 (.bin .eql (.t 79) (.v (.string (ByteArray.mk #[49])))),gM 81 4,gI 82 (.iadr 1 (.t 81) (oI 9)),gI 83 (.load false 1 (.t 82)),gI 84 (.build [(.string (ByteArray.mk #[])),(.string (ByteArray.mk #[])),(.int .i64 (0)),(.int .i64 (0)),(.int .i64 (0)),(.int .i64 (0)),(.int .i64 (0)),(.int .i64 (0)),(.bool false),(.string (ByteArray.mk #[]))] [(0,1,(.t 57)),(1,1,(.t 60)),(2,1,(.t 61)),(3,1,(.t 64)),(4,1,(.t 67)),(5,1,(.t 70)),(6,1,(.t 73)),(7,1,(.t 76)),(8,1,(.t 80)),(9,1,(.t 83))]),gI 85 (.bslice 10 1 [(.t 84)]),gI 86 (.append 54 10 104 (.t 54) (.t 85)),gN (.store 1 (.t 1) (.t 86))] (kP [] [1000001] [1000002]))
 (.seq (.reg false [gI 3 (.mv (.v (.bool true)))] (kP [3] [1000001] [1000002]))
 .ret)))))))))
theorem fcm_rrdC : FmT Tryz.prog 108 Tryz.f108 C_rrdC [.t 3] := fcm_mk [aN [0,1,1000001] [1000001] [1000002],⟨(kP [1,4,1000001] [1000001] [5000,1000002]),[],[],[],[(9,⟨[],[],[],[5000],[]⟩)]⟩,aN [1,4,16,1000001] [1000001] [5000,1000002],aN [3] [1000001] [1000002],aN [1,4,5,1000001] [1000001] [5000,1000002],aN [1,4,5,6,7,1000001] [1000001] [5000,1000002],aN [1,4,5,6,47,1000001] [1000001] [5000,1000002],aN [3] [1000001] [1000002],aN [1,4,5,6,51,1000001] [1000001] [5000,1000002],aN [1,4,5,6,1000001] [1000001] [1000002],aN [] [1000001] [1000002],aN [3] [1000001] [1000002]] Tryz.func108 (by kernel_rfl)
theorem bytes_beqC (x y : ByteArray) : (x == y) = true ↔ x = y := by first | exact Go.RowKit.MapKept.bytes_beq x y | exact Go.MapKept.bytes_beq x y | exact Go.Proofs.MapKept.bytes_beq x y
instance : LawfulBEq ByteArray where
 eq_of_beq h := (bytes_beqC _ _).1 h
 rfl := (bytes_beqC _ _).2 rfl
theorem split_fcm (s : ByteArray) (c : UInt8) (hs : s.size < 4294967281) : FCM Tryz.prog 109 ⟨[], []⟩ [sv s, sv ⟨#[c]⟩] (fun H r => H = ⟨[], [(600, snRow (splL c s))]⟩ ∧ r = .one (.ow 600 0)) := by
 refine fcm_splR (K := ⟨[], [], [600]⟩) (by simp +arith) (by simp) (by simp) ?_
 unfold C_splR
 simp (maxSteps := 1000000) (disch := omega) only [go_sem]
 refine ⟨rfl, CALLM_det (gsp_fcm s c hs) ⟨rfl, rfl⟩ ?_⟩
 simp (maxSteps := 1000000) (disch := omega) only [go_sem]
theorem indexK_fc (w : List ByteArray) (k : ByteArray) (hl : w.length ≤ 2000000) : FC Tryz.prog 111 none [strs false w, sv k] (fun _ r => r = iv (idxG (fun s => decide (s = k)) 0 w)) := by
 refine fc_indexS (by simp +arith) ?_
 unfold C_indexS
 simp (maxSteps := 1000000) (disch := (first | omega | assumption)) only [go_sem]
 refine ex_loop1 (fun i => ⟨tabV [(0, strs false w), (1, sv k), (7, iv w.length), (8, iv i)], tabO [], tabO []⟩) (fun i => 0 ≤ i ∧ i ≤ w.length ∧ idxG (fun s => decide (s = k)) i (w.drop i.toNat) = idxG (fun s => decide (s = k)) 0 w) (fun i => (w.length - i).toNat) 0 ⟨by omega, by omega, rfl⟩ rfl ?_
 rintro i ⟨g1, g2, g3⟩
 by_cases hi : i < w.length
 ·have e2 : (i + 1).toNat = i.toNat + 1 := by omega
  have em := getD_str w i g1 hi
  rw [drop_cons w i.toNat (by omega), idxG, ← e2] at g3
  by_cases c1 : w.getD i.toNat default = k
  ·rw [if_pos (decide_eq_true c1)] at g3
   rw [← g3]
   have c2 : k = w.getD i.toNat default := c1.symm
   simp (maxSteps := 1000000) (disch := (first | omega | assumption)) only [go_sem]
  ·rw [if_neg (by simpa using c1)] at g3
   have c2 : ¬k = w.getD i.toNat default := fun h => c1 h.symm
   simp (maxSteps := 1000000) (disch := (first | omega | assumption)) only [go_sem]
   exact ⟨i + 1, rfl, ⟨by omega, by omega, g3⟩, by omega⟩
 ·rw [List.drop_eq_nil_of_le (by omega), idxG] at g3
  rw [← g3]
  simp (maxSteps := 1000000) (disch := (first | omega | assumption)) only [go_sem]
theorem containsK_fc (w : List ByteArray) (k : ByteArray) (hl : w.length ≤ 2000000) : FC Tryz.prog 110 none [strs false w, sv k] (fun _ r => r = bv (decide (k ∈ w))) := by
 refine fc_containsS (by simp +arith) ?_
 have hc := indexK_fc w k hl
 have e : decide (k ∈ w) = decide (0 ≤ idxG (fun s => decide (s = k)) 0 w) := by
  rw [decide_eq_decide]
  constructor
  ·intro h
   rcases idxG_rng (fun s => decide (s = k)) w 0 with h2 | h2
   ·exfalso
    obtain ⟨i, hi, rfl⟩ := List.getElem_of_mem h
    have : ∀ (l : List ByteArray) (j : Int), 0 ≤ j → idxG (fun s => decide (s = w[i])) j l = -1 → w[i] ∉ l := by
     intro l
     induction l with
     | nil => intro _ _ _ h; simp at h
     | cons x l ih =>
      intro j hj h3 h4
      rw [idxG] at h3
      split at h3
      ·omega
      ·rename_i hx
       rcases List.mem_cons.1 h4 with r | r
       ·exact hx (decide_eq_true r.symm)
       ·exact ih (j + 1) (by omega) h3 r
    exact this w 0 (by omega) h2 (List.getElem_mem hi)
   ·exact h2.1
  ·intro h
   have := idxG_at (fun s => decide (s = k)) w 0 (by omega) h
   have h2 := of_decide_eq_true this
   rcases idxG_rng (fun s => decide (s = k)) w 0 with h3 | h3
   ·omega
   ·rw [← h2]
    exact getD_memB w _ (by omega)
 rw [e]
 generalize idxG (fun s => decide (s = k)) 0 w = z at *
 unfold C_containsS
 simp (maxSteps := 1000000) (disch := (first | omega | assumption)) only [go_sem]
 refine CALL_det hc (.inl rfl) ?_
 simp (maxSteps := 1000000) (disch := (first | omega | assumption)) only [go_sem]
/-! ### a line -/
theorem kwN_idx (k : ByteArray) : idxG (fun s => decide (s = k)) 0 (awL.drop 1) = kwN k - 1 := by
 unfold awL kwN
 simp only [List.drop_succ_cons, List.drop_zero, idxG, decide_eq_true_eq]
 by_cases h3 : k = baW
 ·subst h3
  rw [if_neg (by decide), if_neg (by decide), if_pos rfl, if_pos rfl]; rfl
 ·by_cases h2 : k = loW
  ·subst h2
   rw [if_neg (by decide), if_pos rfl, if_neg (by decide), if_pos rfl]; rfl
  ·by_cases h1 : k = hiW
   ·subst h1
    rw [if_pos rfl, if_neg h3, if_neg h2, if_pos rfl]; rfl
   ·rw [if_neg (fun e => h1 e.symm), if_neg (fun e => h2 e.symm), if_neg (fun e => h3 e.symm), if_neg h3, if_neg h2, if_neg h1]; rfl
/-- What the reference's line is: right where the program's is. -/
theorem rdL_ok (s : ByteArray) : (rdL s).2 = ((!(decide (emp ∈ wds s) || decide ((wds s).length ≠ 10))) && (((((wds s).drop 3).take 5).all noB && decide (kwN ((wds s).getD 2 default) ≠ 0)) && (decide ((wds s).getD 8 default = c0W) || decide ((wds s).getD 8 default = c1W)))) := by
 unfold rdL rd1
 generalize wds s = w
 have e1 : (w.all fun s => decide (s ≠ emp)) = !decide (emp ∈ w) := by
  rw [Bool.eq_iff_iff, List.all_eq_true]
  constructor
  ·intro h
   have : emp ∉ w := fun hm => of_decide_eq_true (h emp hm) rfl
   simp [this]
  ·intro h x hx
   have : emp ∉ w := by simpa using h
   exact decide_eq_true fun e => this (e ▸ hx)
 rw [e1]
 show (if (decide (w.length = 10) && !decide (emp ∈ w) && (decide (w.getD 8 default = c0W) || decide (w.getD 8 default = c1W)) && ((w.drop 3).take 5).all noB) = true then (rdA w, decide (kwN (w.getD 2 default) ≠ 0)) else (default, false)).2 = _
 generalize ((w.drop 3).take 5).all noB = b1
 generalize (decide (w.getD 8 default = c0W) || decide (w.getD 8 default = c1W)) = b2
 generalize decide (kwN (w.getD 2 default) ≠ 0) = b3
 generalize decide (emp ∈ w) = b4
 by_cases h : w.length = 10
 ·rw [decide_eq_true h, decide_eq_false (fun hn => hn h)]
  cases b1 <;> cases b2 <;> cases b3 <;> cases b4 <;> rfl
 ·rw [decide_eq_false h, decide_eq_true h]
  cases b1 <;> cases b2 <;> cases b3 <;> cases b4 <;> rfl
set_option maxHeartbeats 12000000 in
theorem rrdC_fcm (s : ByteArray) (hs : s.size ≤ 1000000) (o : List Alm) (ho : o.length ≤ 1000000) : FCM Tryz.prog 108 (reH o) [sv s, .one (.bx 1000001 0)] (fun H r => H = reH (if (rdL s).2 = true then o ++ [(rdL s).1] else o) ∧ r = bv (rdL s).2) := by
 refine fcm_rrdC (K := ⟨[], [1000001], [1000002]⟩) (by simp +arith) (by simp [XK]) (by simp [XK]) ?_
 have hok := rdL_ok s
 have hsz : ∀ x ∈ wds s, x.size ≤ 1000000 := by
  intro x hx
  obtain ⟨y, hy, rfl⟩ := List.mem_map.1 hx
  have := spl_mem 32 _ y hy
  rw [← szL] at this
  rw [bS_size]; omega
 have hlw : (wds s).length ≤ 1000001 := by
  have := spl_len 32 s.data.toList
  rw [← szL] at this
  unfold wds; rw [List.length_map]; omega
 have hsp := split_fcm s 32 (by omega)
 rw [splL_eq, show (spl 32 s.data.toList).map bS = wds s from rfl] at hsp
 have hr1 : (rdL s).2 = true → (rdL s).1 = rdA (wds s) := fun h => by
  unfold rdL at h ⊢
  split
  ·rfl
  ·rename_i hn; rw [if_neg hn] at h; cases h
 generalize wds s = w at *
 generalize rdL s = R at *
 obtain ⟨x, b⟩ := R
 simp only at hok hr1 ⊢
 have hct := containsK_fc w emp (by omega)
 have hsl : (snRow w).es = w.map strC := rfl
 generalize hbe : decide (emp ∈ w) = bE at hok hct
 unfold C_rrdC
 simp (maxSteps := 1000000) (disch := (first | omega | assumption)) only [go_sem]
 refine ⟨rfl, CALLM_rnE ⟨[], [(5000, snRow w)]⟩ (.one (.ow 5000 0)) (fun k => k) (Go.Ai.swp 600 5000) (fun _ => rfl) (Go.Ai.swp_swp 600 5000) hsp (by simp) rfl rfl rfl rfl ⟨rfl, rfl⟩ ?_⟩
 simp (maxSteps := 1000000) (disch := (first | omega | assumption)) only [go_sem]
 refine CALL_det hct (.inl rfl) ?_
 cases bE with
 | true =>
  have hb : b = false := by rw [hok]; rfl
  subst hb
  simp (maxSteps := 1000000) (disch := (first | omega | assumption)) only [go_sem]
  done
 | false =>
 by_cases hl10 : w.length = 10
 ·rw [decide_eq_false (fun h => h hl10)] at hok
  simp only [Bool.or_false, Bool.not_false, Bool.true_and] at hok
  have hix := indexK_fc (awL.drop 1) (w.getD 2 default) (by decide)
  rw [kwN_idx] at hix
  have hri := rints_fc ((w.drop 3).take 5) (fun x hx => hsz x (List.mem_of_mem_drop (List.mem_of_mem_take hx))) (by simp; omega)
  have em2 := getD_str w 2 (by omega) (by omega)
  have em8 := getD_str w 8 (by omega) (by omega)
  simp (maxSteps := 1000000) (disch := (first | omega | assumption)) only [go_sem]
  refine CALL_det awords_fc (.inl rfl) ?_
  have hal : awL.length = 4 := rfl
  have ew : List.drop (Int.toNat 1) (List.map strC awL) = List.map strC (awL.drop 1) := (List.map_drop ..).symm
  have em : List.drop (Int.toNat 3) (List.take (Int.toNat 8) (List.map strC w)) = List.map strC ((w.drop 3).take 5) := by
   rw [List.map_take, List.map_drop, show Int.toNat 3 = 3 from rfl, show Int.toNat 8 = 5 + 3 from rfl, List.take_drop]
  simp (maxSteps := 1000000) (disch := (first | omega | assumption)) only [go_sem]
  simp only [ew]
  refine CALL_det hix (.inl rfl) ?_
  simp (maxSteps := 1000000) (disch := (first | omega | assumption)) only [go_sem]
  simp only [em]
  refine CALL_det hri (.inl rfl) ?_
  cases hnb : ((w.drop 3).take 5).all noB with
  | false =>
   rw [hnb] at hok
   have hb : b = false := by rw [hok]; rfl
   subst hb
   simp (maxSteps := 1000000) (disch := (first | omega | assumption)) only [go_sem]
   done
  | true =>
  rw [hnb, Bool.true_and] at hok
  rw [show numsF ((w.drop 3).take 5) = [atN (w.getD 3 default), atN (w.getD 4 default), atN (w.getD 5 default), atN (w.getD 6 default), atN (w.getD 7 default)] from by unfold numsF; rw [hnb, if_pos rfl, five_is hl10]]
  by_cases hk0 : kwN (w.getD 2 default) = 0
  ·rw [decide_eq_false (fun h => h hk0)] at hok
   have hb : b = false := by rw [hok]; rfl
   subst hb
   simp (maxSteps := 1000000) (disch := (first | omega | assumption)) only [go_sem]
   done
  ·rw [decide_eq_true hk0, Bool.true_and] at hok
   have hkr : 1 ≤ kwN (w.getD 2 default) ∧ kwN (w.getD 2 default) ≤ 3 := by
    have : ∀ k, kwN k = 3 ∨ kwN k = 2 ∨ kwN k = 1 ∨ kwN k = 0 := fun k => by unfold kwN; (repeat' split) <;> simp
    rcases this (w.getD 2 default) with h | h | h | h <;> omega
   have em0 := getD_str w 0 (by omega) (by omega)
   have em1 := getD_str w 1 (by omega) (by omega)
   have em9 := getD_str w 9 (by omega) (by omega)
   have hset : (List.map strC w).set (Int.toNat 9) [.g (.string (ByteArray.mk #[]))] = List.map strC (w.set 9 emp) := by rw [List.map_set]; rfl
   obtain ⟨w2, hw2⟩ : ∃ w2, w2 = w.set 9 emp := ⟨_, rfl⟩
   have hn : ∀ k : Nat, k ≠ 9 → w2.getD k default = w.getD k default := fun k hk => by
    rw [hw2, List.getD_eq_getElem?_getD, List.getElem?_set_ne (show 9 ≠ k from fun e => hk e.symm), ← List.getD_eq_getElem?_getD]
   have w20 : w2.getD (Int.toNat 0) default = w.getD (Int.toNat 0) default := hn _ (by decide)
   have w21 : w2.getD (Int.toNat 1) default = w.getD (Int.toNat 1) default := hn _ (by decide)
   have w28 : w2.getD (Int.toNat 8) default = w.getD (Int.toNat 8) default := hn _ (by decide)
   have w29 : w2.getD (Int.toNat 9) default = emp := by
    rw [hw2, List.getD_eq_getElem?_getD, show Int.toNat 9 = 9 from rfl, List.getElem?_set_self (show 9 < w.length by omega)]; rfl
   have w2l : w2.length = 10 := by rw [hw2, List.length_set]; exact hl10
   rw [← hw2] at hset
   have fm0 := getD_str w2 0 (by omega) (by omega)
   have fm1 := getD_str w2 1 (by omega) (by omega)
   have fm8 := getD_str w2 8 (by omega) (by omega)
   have fm9 := getD_str w2 9 (by omega) (by omega)
   clear hw2
   have hx : ∀ (lt : Bool) (p : ByteArray), b = true → decide (w.getD 8 emp = c1W) = lt → (if w.getD 9 emp = miW then emp else w.getD 9 emp) = p → x = ⟨w.getD (Int.toNat 0) default, w.getD (Int.toNat 1) default, kwN (w.getD 2 default), atN (w.getD 3 default), atN (w.getD 4 default), atN (w.getD 5 default), atN (w.getD 6 default), atN (w.getD 7 default), lt, p⟩ := by
    rintro lt p hb rfl rfl
    rw [hr1 hb]; rfl
   clear hn hr1 hsp hct hix hri hsz
   by_cases c80 : w.getD (Int.toNat 8) default = ByteArray.mk #[48]
   ·have hb : b = true := by rw [hok, decide_eq_true (show w.getD 8 default = c0W from c80)]; rfl
    have hlt : decide (w.getD 8 emp = c1W) = false := decide_eq_false (fun e => by
     have : c0W = c1W := (show w.getD 8 emp = c0W from c80).symm.trans e
     exact absurd this (by decide))
    have c81 : ¬w.getD (Int.toNat 8) default = ByteArray.mk #[49] := fun e => absurd (c80.symm.trans e) (by decide)
    subst hb
    have c80n : ¬¬w.getD (Int.toNat 8) default = ByteArray.mk #[48] := fun h => h c80
    have hd8 : decide (w.getD (Int.toNat 8) default = ByteArray.mk #[49]) = false := decide_eq_false c81
    by_cases c9 : w.getD (Int.toNat 9) default = ByteArray.mk #[45]
    ·have hx := hx false emp rfl hlt (if_pos c9)
     subst hx
     simp (maxSteps := 1000000) (disch := (first | omega | assumption)) only [go_sem]
     simp only [hset]
     simp (maxSteps := 1000000) (disch := (first | omega | assumption)) only [go_sem]
     rw [w20, w21, w28, w29, hd8]
     simp [reH, almS_eq]
    ·have hx := hx false (w.getD (Int.toNat 9) default) rfl hlt (if_neg c9)
     subst hx
     simp (maxSteps := 1000000) (disch := (first | omega | assumption)) only [go_sem]
     rw [hd8]
     simp [reH, almS_eq]
   ·by_cases c81 : w.getD (Int.toNat 8) default = ByteArray.mk #[49]
    ·have hb : b = true := by rw [hok, decide_eq_true (show w.getD 8 default = c1W from c81), Bool.or_true]
     have hlt : decide (w.getD 8 emp = c1W) = true := decide_eq_true c81
     subst hb
     have c81n : ¬¬w.getD (Int.toNat 8) default = ByteArray.mk #[49] := fun h => h c81
     have hd8 : decide (w.getD (Int.toNat 8) default = ByteArray.mk #[49]) = true := decide_eq_true c81
     by_cases c9 : w.getD (Int.toNat 9) default = ByteArray.mk #[45]
     ·have hx := hx true emp rfl hlt (if_pos c9)
      subst hx
      simp (maxSteps := 1000000) (disch := (first | omega | assumption)) only [go_sem]
      simp only [hset]
      simp (maxSteps := 1000000) (disch := (first | omega | assumption)) only [go_sem]
      rw [w20, w21, w28, w29, hd8]
      simp [reH, almS_eq]
     ·have hx := hx true (w.getD (Int.toNat 9) default) rfl hlt (if_neg c9)
      subst hx
      simp (maxSteps := 1000000) (disch := (first | omega | assumption)) only [go_sem]
      rw [hd8]
      simp [reH, almS_eq]
    ·have hb : b = false := by rw [hok, decide_eq_false (show ¬w.getD 8 default = c0W from c80), decide_eq_false (show ¬w.getD 8 default = c1W from c81)]; rfl
     subst hb
     simp (maxSteps := 1000000) (disch := (first | omega | assumption)) only [go_sem]
     done
 ·rw [decide_eq_true hl10] at hok
  have hb : b = false := by rw [hok]; rfl
  subst hb
  simp (maxSteps := 1000000) (disch := (first | omega | assumption)) only [go_sem]
  done
end Go.Proofs.YtfgkpbkphmeigaaGreatDoor
/-
 The reference reads alarms, line after line.
-/
namespace Go.Proofs.YtfgkpbkphmeigaaGreatDoor
open Go Go.Ai
set_option linter.unusedSimpArgs false
set_option linter.unusedVariables false
set_option maxHeartbeats 4000000
def C_rlines : AC := (.seq (.reg false [gI 4 (.mv (oI 0)),gI 5 (.mv (.v (.bool false)))] (kP [0,1,1000001] [1000001] [1000002]))
 (.seq (.seq (.reg false [gI 6 (.mv (oI 0))] (kP [0,1,6,1000001] [1000001] [1000002]))
 (.block 0 (.loop (.seq (.seq (.reg false [gM 10 0,gI 11 (.bin .neq (.t 10) (.v (.string (ByteArray.mk #[]))))] (kP [0,1,6,11,1000001] [1000001] [1000002]))
 (.cond (.t 11)
 .skip
 (.exit 0)))
 (.seq (.block 1 (.seq (.reg false [gM 15 0,gI 16 (.call (.f 194) [(.t 15),(.v (.string (ByteArray.mk #[10])))]),gM 14 16,gI 17 (.extr (.t 14) 0),gI 18 (.extr (.t 14) 1),gI 19 (.extr (.t 14) 2),gM 7 17,gM 8 18,gM 9 19] (kP [1,6,7,8,9,1000001] [1000001] [1000002]))
 (.seq (.seq (.reg false [gM 20 9,gI 21 (.un .not (.t 20)),gM 22 21,gG 23 22 false (.mv (.t 1)),gG 24 22 false (.mv (.t 7)),gG 25 22 false (.callm (.t 23) [(.t 24)] ⟨[1000001],[1000002],[1000001],[1000002],[]⟩),gG 26 22 false (.un .not (.t 25)),gI 27 (.pick (.t 22) (.v (.bool true)) (.t 26))] (kP [1,6,8,27,1000001] [1000001] [1000002]))
 (.cond (.t 27)
 (.seq (.reg false [gM 28 6,gM 4 28,gI 5 (.mv (.v (.bool false)))] (kP [4,5] [1000001] [1000002]))
 .ret)
 .skip))
 (.reg false [gM 29 8,gM 0 29] (kP [0,1,6,1000001] [1000001] [1000002])))))
 (.reg false [gM 12 6,gI 13 (.bin .add (.t 12) (oI 1)),gM 6 13] (kP [0,1,6,1000001] [1000001] [1000002])))))))
 (.seq (.reg false [gI 4 (.mv (oI 0)),gI 5 (.mv (.v (.bool true)))] (kP [4,5] [1000001] [1000002]))
 .ret)))
theorem fcm_rlines : FmT Tryz.prog 107 Tryz.f107 C_rlines [.t 4, .t 5] := fcm_mk [aN [0,1,1000001] [1000001] [1000002],aN [0,1,6,1000001] [1000001] [1000002],aN [0,1,6,11,1000001] [1000001] [1000002],aN [1,6,7,8,9,1000001] [1000001] [1000002],⟨(kP [1,6,8,27,1000001] [1000001] [1000002]),[],[],[],[(25,⟨[1000001],[1000002],[1000001],[1000002],[]⟩)]⟩,aN [4,5] [1000001] [1000002],aN [0,1,6,1000001] [1000001] [1000002],aN [0,1,6,1000001] [1000001] [1000002],aN [4,5] [1000001] [1000002]] Tryz.func107 (by kernel_rfl)
def C_alRead : AC := (.seq (.reg false [gI 2 (.mv (.v (.slice none 0 0))),gI 3 (.mv (oI 0)),gI 4 (.mv (oI 0))] (kP [0,5] [5] []))
 (.seq (.seq (.reg false [gM 9 0,gI 10 (.slen (.t 9)),gI 11 (.bin .gtr (.t 10) (oI 200000))] (kP [0,5,11] [5] []))
 (.cond (.t 11)
 (.seq (.seq (.reg false [gI 2 (.mv (.v (.slice none 0 0))),gI 3 (.mv (oI 0)),gI 4 (.mv (oI 2))] (kP [2,3,4,5] [5] []))
 (.ty 2 10))
 .ret)
 .skip))
 (.seq (.seq (.reg false [gI 5 (.alloc [(.slice none 0 0)])] (kP [0,5] [5] []))
 (.ownb 5 0 5 54 10))
 (.seq (.reg false [gM 13 0,gI 14 (.mkfn 108 [(.t 5)]),gI 15 (.callm (.f 107) [(.t 13),(.t 14)] ⟨[5],[5],[5],[5],[]⟩),gM 12 15,gI 16 (.extr (.t 12) 0),gI 17 (.extr (.t 12) 1),gM 6 16,gM 7 17] (kP [5,6,7] [5] []))
 (.seq (.seq (.reg false [gM 18 7,gI 19 (.un .not (.t 18))] (kP [5,6,19] [5] []))
 (.cond (.t 19)
 (.seq (.seq (.reg false [gM 20 6,gI 2 (.mv (.v (.slice none 0 0))),gM 3 20,gI 4 (.mv (oI 9))] (kP [2,3,4,5] [5] []))
 (.ty 2 10))
 .ret)
 .skip))
 (.seq (.seq (.reg false [gI 21 (.load false 1 (.t 5)),gI 22 (.call (.f 12) [(.t 21)]),gM 8 22] (kP [5,8] [5] []))
 (.seq (.reg false [gM 23 8,gI 24 (.bin .neq (.t 23) (oI 0))] (kP [5,8,24] [5] []))
 (.cond (.t 24)
 (.seq (.seq (.reg false [gM 25 8,gI 2 (.mv (.v (.slice none 0 0))),gI 3 (.mv (oI 0)),gM 4 25] (kP [2,3,4,5] [5] []))
 (.ty 2 10))
 .ret)
 .skip)))
 (.seq (.reg false [gI 26 (.load false 1 (.t 5)),gM 2 26,gI 3 (.mv (oI 0)),gI 4 (.mv (oI 0))] (kP [2,3,4,5] [5] []))
 .ret)))))))
theorem fc_alRead : FcT Tryz.prog 26 Tryz.f26 C_alRead [.t 2, .t 3, .t 4] := fc_mk [aN [0,5] [5] [],aN [0,5,11] [5] [],⟨(kP [2,3,4,5] [5] []),[],[],[(2,10)],[]⟩,⟨(kP [0,5] [5] []),[(1000005,54,10)],[],[],[]⟩,⟨(kP [5,6,7] [5] []),[],[],[],[(15,⟨[5],[5],[5],[5],[]⟩)]⟩,aN [5,6,19] [5] [],⟨(kP [2,3,4,5] [5] []),[],[],[(2,10)],[]⟩,aN [5,8] [5] [],aN [5,8,24] [5] [],⟨(kP [2,3,4,5] [5] []),[],[],[(2,10)],[]⟩,aN [2,3,4,5] [5] []] Tryz.func26 (by kernel_rfl)
def lnSt (s : ByteArray) (i : Int) (o : List Alm) (v : Nat) : AS := ⟨tabV [(0, sv s), (1, .one (.fn 108 [.bx 1000001 0])), (6, iv i), (1000001, .any)], tabO [(1000001, [.ow 1000002 v])], tabO [(1000002, ⟨v, 54, 10, o.map almS⟩)]⟩
theorem cutZ_size {t : List UInt8} (h : (10 : UInt8) ∈ t) : (bS (cutA t)).size + (bS (cutZ t)).size + 1 = t.length := by
 have := cut_len h
 rw [bS_size, bS_size]; omega
set_option maxHeartbeats 12000000 in
theorem rlines_fcm (t : ByteArray) (ht : t.size ≤ 200000) : FCM Tryz.prog 107 (reH []) [sv t, .one (.fn 108 [.bx 1000001 0])] (fun H r => H = reH (rfA (t.data.toList.length + 1) t.data.toList 0 []).1 ∧ r = .tu [iv (rfA (t.data.toList.length + 1) t.data.toList 0 []).2.1, bv (rfA (t.data.toList.length + 1) t.data.toList 0 []).2.2]) := by
 refine fcm_rlines (K := ⟨[], [1000001], [1000002]⟩) (by simp +arith) (by simp [XK]) (by simp [XK]) ?_
 generalize hR : rfA (t.data.toList.length + 1) t.data.toList 0 [] = R
 unfold C_rlines
 simp (maxSteps := 1000000) (disch := (first | omega | assumption)) only [go_sem]
 refine ex_loop4 (fun s i o v => lnSt s i o v) (fun s i o v => 0 ≤ i ∧ v ≤ 1 ∧ (o.length : Int) ≤ i ∧ i + s.size ≤ 200000 ∧ ∃ n, s.size < n ∧ rfA n s.data.toList i o = R) (fun s _ _ _ => s.size) t 0 [] 0 ⟨by omega, by omega, by simp, by omega, t.data.toList.length + 1, by have := szL t; omega, hR⟩ rfl ?_
 rintro s i o v ⟨g1, g2, g3, g4, n, g5, g6⟩
 unfold lnSt
 obtain ⟨n, rfl⟩ : ∃ m, n = m + 1 := ⟨n - 1, by omega⟩
 rw [rfA] at g6
 by_cases c0 : s = emp
 ·subst c0
  rw [if_pos (show emp.data.toList = [] from rfl)] at g6
  subst g6
  have c0' : ¬¬emp = emp := fun h => h rfl
  simp (maxSteps := 1000000) (disch := (first | omega | assumption)) only [go_sem]
 ·have hn : ¬s.data.toList = [] := fun h => c0 (ba_ext (by rw [h]))
  rw [if_neg hn] at g6
  have hc := cut_fc s (by omega)
  unfold ctS at hc
  by_cases c1 : (10 : UInt8) ∈ s.data.toList
  ·rw [if_neg (fun h => h c1)] at g6
   rw [if_pos c1] at hc
   have hz := cutZ_size c1
   rw [← szL] at hz
   have hx := rrdC_fcm (bS (cutA s.data.toList)) (by omega) o (by omega)
   cases hb : (rdL (bS (cutA s.data.toList))).2 with
   | true =>
    rw [hb, if_pos rfl] at hx g6
    generalize hy : (rdL (bS (cutA s.data.toList))).1 = y at *
    generalize cutA s.data.toList = A at *
    generalize cutZ s.data.toList = Z at *
    simp (maxSteps := 1000000) (disch := (first | omega | assumption)) only [go_sem]
    refine CALL_det hc (.inl rfl) ?_
    simp (maxSteps := 1000000) (disch := (first | omega | assumption)) only [go_sem]
    refine ⟨rfl, CALLM_det hx ⟨rfl, rfl⟩ ?_⟩
    simp (maxSteps := 1000000) (disch := (first | omega | assumption)) only [go_sem]
    refine ⟨bS Z, i + 1, o ++ [y], 1, rfl, ⟨by omega, by omega, by simp; omega, by omega, n, by omega, by rw [bS_list]; exact g6⟩, by omega⟩
   | false =>
    rw [hb, if_neg (by simp)] at hx g6
    subst g6
    generalize cutA s.data.toList = A at *
    generalize cutZ s.data.toList = Z at *
    simp (maxSteps := 1000000) (disch := (first | omega | assumption)) only [go_sem]
    refine CALL_det hc (.inl rfl) ?_
    simp (maxSteps := 1000000) (disch := (first | omega | assumption)) only [go_sem]
    refine ⟨rfl, CALLM_det hx ⟨rfl, rfl⟩ ?_⟩
    simp (maxSteps := 1000000) (disch := (first | omega | assumption)) only [go_sem]
  ·rw [if_pos c1] at g6
   rw [if_neg c1] at hc
   subst g6
   simp (maxSteps := 1000000) (disch := (first | omega | assumption)) only [go_sem]
   refine CALL_det hc (.inl rfl) ?_
   simp (maxSteps := 1000000) (disch := (first | omega | assumption)) only [go_sem]
set_option maxHeartbeats 12000000 in
theorem alRead_fc (t : ByteArray) (ht : t.size ≤ 1000000) : FC Tryz.prog 26 none [sv t] (fun _ r => r = .tu [alms true (rrF t.data.toList).1, iv (rrF t.data.toList).2.1, iv (rrF t.data.toList).2.2]) := by
 refine fc_alRead (by simp +arith) ?_
 unfold C_alRead rrF
 have hsz : t.data.toList.length = t.size := (szL t).symm
 by_cases c1 : t.data.toList.length > 200000
 ·rw [if_pos c1]
  rw [hsz] at c1
  simp (maxSteps := 1000000) (disch := (first | omega | assumption)) only [go_sem]
  rfl
 rw [if_neg c1]
 rw [hsz] at c1
 have he := rlines_fcm t (by omega)
 have hq : (rfA (t.data.toList.length + 1) t.data.toList 0 []).2.2 = true → (∀ x ∈ (rfA (t.data.toList.length + 1) t.data.toList 0 []).1, x.k.size ≤ 1000000 ∧ x.t.size ≤ 1000000) ∧ (rfA (t.data.toList.length + 1) t.data.toList 0 []).1.length ≤ 1000000 := by
  intro hb
  have h1 := linesA_len t
  have h2 := eachA_size (linesA t.data.toList).2 1000000 (linesA t.data.toList).1 0 [] (fun x hx => by have := linesA_size t x hx; omega) (fun x hx => by cases hx)
  rw [(rfA_is (t.data.toList.length + 1) t.data.toList 0 [] (by omega)).2 hb]
  exact ⟨h2.1, Nat.le_trans h2.2 (by simp; omega)⟩
 generalize rfA (t.data.toList.length + 1) t.data.toList 0 [] = R at he hq ⊢
 obtain ⟨o, j, b⟩ := R
 simp only at he hq ⊢
 simp (maxSteps := 1000000) (disch := (first | omega | assumption)) only [go_sem]
 refine ⟨rfl, CALLM_rnE ⟨[(5, [.ow 5 0])], [(5, reRow o)]⟩ (.tu [iv j, bv b]) pRe qRe pRe_p qRe_q he (by simp) rfl rfl rfl rfl ⟨rfl, rfl⟩ ?_⟩
 cases b with
 | false =>
  rw [if_pos rfl]
  simp (maxSteps := 1000000) (disch := (first | omega | assumption)) only [go_sem]
  rfl
 | true =>
  rw [if_neg (by simp)]
  have hca := alarmsFaultB_fc o (hq rfl).2 (hq rfl).1
  simp (maxSteps := 1000000) (disch := (first | omega | assumption)) only [go_sem]
  refine CALL_det hca (.inl rfl) ?_
  by_cases c2 : afF o ≠ 0
  ·rw [if_pos c2]
   simp (maxSteps := 1000000) (disch := (first | omega | assumption)) only [go_sem]
   rfl
  ·rw [if_neg c2]
   simp (maxSteps := 1000000) (disch := (first | omega | assumption)) only [go_sem]
   rw [frE_alm2]
end Go.Proofs.YtfgkpbkphmeigaaGreatDoor
