/-
 slices.SortStableFunc over acts: at most 19 of them (insertion sort).
-/
import Derived.Test.YtfgkpbkphmeigaaGreatDoorStb
import Derived.Test.YtfgkpbkphmeigaaGreatDoorAlp
namespace Go.Proofs.YtfgkpbkphmeigaaGreatDoor
open Go Go.Ai
set_option linter.unusedSimpArgs false
set_option linter.unusedVariables false
set_option maxHeartbeats 4000000
def C_insO : AC := (.seq (.reg false [gM 10 1,gI 11 (.bin .add (.t 10) (oI 1)),gM 8 11] (kP [0,1,2,3,8] [] [1000000]))
 (.block 0 (.loop (.seq (.seq (.reg false [gM 12 8,gM 13 2,gI 14 (.bin .lss (.t 12) (.t 13))] (kP [0,1,2,3,8,14] [] [1000000]))
 (.cond (.t 14)
 .skip
 (.exit 0)))
 (.seq (.block 1 (.seq (.reg false [gM 17 8,gM 9 17] (kP [0,1,2,3,8,9] [] [1000000]))
 (.block 2 (.loop (.seq (.seq (.reg true [gM 18 9,gM 19 1,gI 20 (.bin .gtr (.t 18) (.t 19)),gM 21 20,gG 22 21 true (.mv (.t 3)),gG 23 21 true (.mv (.t 0)),gG 24 21 true (.mv (.t 9)),gG 25 21 true (.iadr 6 (.t 23) (.t 24)),gG 26 21 true (.load true 6 (.t 25)),gG 27 21 true (.mv (.t 0)),gG 28 21 true (.mv (.t 9)),gG 29 21 true (.bin .sub (.t 28) (oI 1)),gG 30 21 true (.iadr 6 (.t 27) (.t 29)),gG 31 21 true (.load true 6 (.t 30)),gG 32 21 true (.call (.t 22) [(.t 26),(.t 31)]),gG 33 21 true (.bin .lss (.t 32) (oI 0)),gI 34 (.pick (.t 21) (.t 33) (.v (.bool false)))] (kP [0,1,2,3,8,9,34] [] [1000000]))
 (.cond (.t 34)
 .skip
 (.exit 2)))
 (.seq (.block 3 (.reg true [gM 37 0,gM 38 9,gM 39 0,gM 40 9,gI 41 (.bin .sub (.t 40) (oI 1)),gM 42 0,gM 43 9,gI 44 (.bin .sub (.t 43) (oI 1)),gI 45 (.iadr 6 (.t 42) (.t 44)),gI 46 (.load true 6 (.t 45)),gM 47 0,gM 48 9,gI 49 (.iadr 6 (.t 47) (.t 48)),gI 50 (.load true 6 (.t 49)),gI 51 (.iadr 6 (.t 37) (.t 38)),gN (.store 6 (.t 51) (.t 46)),gI 52 (.iadr 6 (.t 39) (.t 41)),gN (.store 6 (.t 52) (.t 50))] (kP [0,1,2,3,8,9] [] [1000000])))
 (.reg false [gM 35 9,gI 36 (.bin .sub (.t 35) (oI 1)),gM 9 36] (kP [0,1,2,3,8,9] [] [1000000]))))))))
 (.reg false [gM 15 8,gI 16 (.bin .add (.t 15) (oI 1)),gM 8 16] (kP [0,1,2,3,8] [] [1000000])))))))
theorem fcms_insO : FsT Tryz.prog 245 Tryz.f245 C_insO [] := fcms_mk [aN [0,1,2,3,8] [] [1000000],aN [0,1,2,3,8,14] [] [1000000],aN [0,1,2,3,8,9] [] [1000000],aN [0,1,2,3,8,9,34] [] [1000000],aN [0,1,2,3,8,9] [] [1000000],aN [0,1,2,3,8,9] [] [1000000],aN [0,1,2,3,8] [] [1000000]] Tryz.func245 (by kernel_rfl)
def C_stbO : AC := (.seq (.reg false [gI 6 (.mv (oI 20))] (kP [0,1,2,6] [] [1000000]))
 (.seq (.reg false [gM 10 6,gI 7 (.mv (oI 0)),gM 8 10] (kP [0,1,2,6,7,8] [] [1000000]))
 (.seq (.block 0 (.loop (.seq (.seq (.reg false [gM 11 8,gM 12 1,gI 13 (.bin .leq (.t 11) (.t 12))] (kP [0,1,2,6,7,8,13] [] [1000000]))
 (.cond (.t 13)
 .skip
 (.exit 0)))
 (.block 1 (.seq (.reg false [gM 14 0,gM 15 7,gM 16 8,gM 17 2,gI 18 (.callm (.f 245) [(.t 14),(.t 15),(.t 16),(.t 17)] ⟨[],[1000000],[],[1000000],[1000000]⟩)] (kP [0,1,2,6,8] [] [1000000]))
 (.seq (.reg false [gM 19 8,gM 7 19] (kP [0,1,2,6,7,8] [] [1000000]))
 (.reg false [gM 20 8,gM 21 6,gI 22 (.bin .add (.t 20) (.t 21)),gM 8 22] (kP [0,1,2,6,7,8] [] [1000000]))))))))
 (.seq (.reg false [gM 23 0,gM 24 7,gM 25 1,gM 26 2,gI 27 (.callm (.f 245) [(.t 23),(.t 24),(.t 25),(.t 26)] ⟨[],[1000000],[],[1000000],[1000000]⟩)] (kP [0,1,2,6] [] [1000000]))
 (.block 2 (.loop (.seq (.seq (.reg false [gM 28 6,gM 29 1,gI 30 (.bin .lss (.t 28) (.t 29))] (kP [0,1,2,6,30] [] [1000000]))
 (.cond (.t 30)
 .skip
 (.exit 2)))
 (.block 3 (.seq (.reg false [gM 31 6,gI 32 (.bin .mul (oI 2) (.t 31)),gI 7 (.mv (oI 0)),gM 8 32] (kP [0,1,2,6,7,8] [] [1000000]))
 (.seq (.block 4 (.loop (.seq (.seq (.reg false [gM 33 8,gM 34 1,gI 35 (.bin .leq (.t 33) (.t 34))] (kP [0,1,2,6,7,8,35] [] [1000000]))
 (.cond (.t 35)
 .skip
 (.exit 4)))
 (.block 5 (.seq (.reg false [gM 36 0,gM 37 7,gM 38 7,gM 39 6,gI 40 (.bin .add (.t 38) (.t 39)),gM 41 8,gM 42 2,gI 43 (.callm (.f 246) [(.t 36),(.t 37),(.t 40),(.t 41),(.t 42)] ⟨[],[1000000],[],[1000000],[1000000]⟩)] (kP [0,1,2,6,8] [] [1000000]))
 (.seq (.reg false [gM 44 8,gM 7 44] (kP [0,1,2,6,7,8] [] [1000000]))
 (.reg false [gM 45 8,gM 46 6,gI 47 (.bin .mul (oI 2) (.t 46)),gI 48 (.bin .add (.t 45) (.t 47)),gM 8 48] (kP [0,1,2,6,7,8] [] [1000000]))))))))
 (.seq (.seq (.reg false [gM 49 7,gM 50 6,gI 51 (.bin .add (.t 49) (.t 50)),gM 9 51] (kP [0,1,2,6,7,9] [] [1000000]))
 (.seq (.reg false [gM 52 9,gM 53 1,gI 54 (.bin .lss (.t 52) (.t 53))] (kP [0,1,2,6,7,9,54] [] [1000000]))
 (.cond (.t 54)
 (.reg false [gM 55 0,gM 56 7,gM 57 9,gM 58 1,gM 59 2,gI 60 (.callm (.f 246) [(.t 55),(.t 56),(.t 57),(.t 58),(.t 59)] ⟨[],[1000000],[],[1000000],[1000000]⟩)] (kP [0,1,2,6] [] [1000000]))
 .skip)))
 (.reg false [gM 61 6,gI 62 (.bin .mul (.t 61) (oI 2)),gM 6 62] (kP [0,1,2,6] [] [1000000])))))))))))))
theorem fcms_stbO : FsT Tryz.prog 185 Tryz.f185 C_stbO [] := fcms_mk [aN [0,1,2,6] [] [1000000],aN [0,1,2,6,7,8] [] [1000000],aN [0,1,2,6,7,8,13] [] [1000000],⟨(kP [0,1,2,6,8] [] [1000000]),[],[],[],[(18,⟨[],[1000000],[],[1000000],[1000000]⟩)]⟩,aN [0,1,2,6,7,8] [] [1000000],aN [0,1,2,6,7,8] [] [1000000],⟨(kP [0,1,2,6] [] [1000000]),[],[],[],[(27,⟨[],[1000000],[],[1000000],[1000000]⟩)]⟩,aN [0,1,2,6,30] [] [1000000],aN [0,1,2,6,7,8] [] [1000000],aN [0,1,2,6,7,8,35] [] [1000000],⟨(kP [0,1,2,6,8] [] [1000000]),[],[],[],[(43,⟨[],[1000000],[],[1000000],[1000000]⟩)]⟩,aN [0,1,2,6,7,8] [] [1000000],aN [0,1,2,6,7,8] [] [1000000],aN [0,1,2,6,7,9] [] [1000000],aN [0,1,2,6,7,9,54] [] [1000000],⟨(kP [0,1,2,6] [] [1000000]),[],[],[],[(60,⟨[],[1000000],[],[1000000],[1000000]⟩)]⟩,aN [0,1,2,6] [] [1000000]] Tryz.func185 (by kernel_rfl)
def C_ssfO : AC := (.reg false [gM 4 0,gM 5 0,gI 6 (.len (.t 5)),gM 7 1,gI 8 (.callm (.f 185) [(.t 4),(.t 6),(.t 7)] ⟨[],[1000000],[],[1000000],[1000000]⟩)] (kP [] [] [1000000]))
theorem fcms_ssfO : FsT Tryz.prog 90 Tryz.f90 C_ssfO [] := fcms_mk [⟨(kP [] [] [1000000]),[],[],[],[(8,⟨[],[1000000],[],[1000000],[1000000]⟩)]⟩] Tryz.func90 (by kernel_rfl)
theorem setE_other (l : List (List Cel)) (x : List Cel) {i j : Nat} (h : i ≠ j) : (l.set j x)[i]? = l[i]? := by rw [List.getElem?_set]; simp [h.symm]
abbrev opRow (l : List Opr) : Row := ⟨0, 34, 6, l.map oprS⟩
theorem swx_commo (l : List Opr) (i j : Nat) (hij : i ≠ j) : swx l i j = swx l j i := by
 rw [swx_symm l i j hij]; rfl
theorem ssort_oneo (c : Opr → Opr → Int) (U : List Opr) : ssort c (U.take 1) ++ U.drop 1 = U := by
 cases U with
 | nil => rfl
 | cons x U =>
  show mrg c [] [x] ++ U = _
  rw [mrg_nil]; rfl
def insESto (cl : FuncId) (a b : Int) (i : Int) (cur : List Opr) : AS := ⟨tabV [(0, .one (.ow 1000000 0)), (1, iv a), (2, iv b), (3, .one (.fn cl [])), (8, iv i)], tabO [], tabO [(1000000, opRow cur)]⟩
def injESto (cl : FuncId) (a b i : Int) (j : Int) (cur : List Opr) : AS := ⟨tabV [(0, .one (.ow 1000000 0)), (1, iv a), (2, iv b), (3, .one (.fn cl [])), (8, iv i), (9, iv j)], tabO [], tabO [(1000000, opRow cur)]⟩
structure InsIo (c : Opr → Opr → Int) (P U Y : List Opr) (k : Nat) (j : Int) (cur : List Opr) (s1 s2 : List Opr) : Prop where
 srt : ssort c (U.take k) = s1 ++ s2
 cur : cur = P ++ (s1 ++ (U.getD k default :: (s2 ++ (U.drop (k + 1) ++ Y))))
 j : j = P.length + s1.length
 lt : ∀ w ∈ s2, c (U.getD k default) w < 0
def InsXo (c : Opr → Opr → Int) (P U Y : List Opr) (k : Nat) (j : Int) (cur : List Opr) : Prop := ∃ s1 s2, InsIo c P U Y k j cur s1 s2
def insCo (c : Opr → Opr → Int) (P U Y : List Opr) (k : Nat) : List Opr := P ++ (ssort c (U.take k) ++ (U.drop k ++ Y))
theorem insC_leno (c : Opr → Opr → Int) (P U Y : List Opr) (k : Nat) : (insCo c P U Y k).length = P.length + U.length + Y.length := by
 simp [insCo, ssort_length]; omega
theorem ins_starto {c : Opr → Opr → Int} {P U Y : List Opr} {k : Nat} (hk : k < U.length) : InsXo c P U Y k (P.length + k) (insCo c P U Y k) := by
 refine ⟨ssort c (U.take k), [], by simp, ?_, ?_, by simp⟩
 ·unfold insCo; rw [drop_here hk]; simp
 ·rw [ssort_length, List.length_take]; omega
theorem ins_endo {p : Opr → Prop} {c : Opr → Opr → Int} (h : Swo p c) {P U Y : List Opr} {k : Nat} {j : Int} {cur s1 s2 : List Opr} (hp : ∀ x ∈ U, p x) (hk : k < U.length) (hI : InsIo c P U Y k j cur s1 s2) (hs : ∀ x ∈ s1, ¬c (U.getD k default) x < 0) : cur = insCo c P U Y (k + 1) := by
 unfold insCo
 rw [take_snoc hk, ssort_snoc, hI.srt, mrg_last hs hI.lt, hI.cur]; simp
theorem ins_geo {p : Opr → Prop} {c : Opr → Opr → Int} (h : Swo p c) {P U Y : List Opr} {k : Nat} {j : Int} {cur s2 s : List Opr} {w : Opr} (hp : ∀ x ∈ U, p x) (hk : k < U.length) (hI : InsIo c P U Y k j cur (s ++ [w]) s2) (hw : ¬c (U.getD k default) w < 0) : ∀ x ∈ s ++ [w], ¬c (U.getD k default) x < 0 := by
 intro x hx
 have po : ∀ x ∈ U.take k, p x := fun x hx => hp x (List.mem_of_mem_take hx)
 have ho := ssort_ord h po
 rw [hI.srt] at ho
 have hm : ∀ y, y ∈ s ++ [w] → p y := fun y hy => po y (ssort_mem.1 (hI.srt ▸ List.mem_append_left _ hy))
 rcases List.mem_append.1 hx with hx | hx
 ·have h1 := (List.pairwise_append.1 (List.pairwise_append.1 ho).1).2.2 x hx w (by simp)
  exact h.ntr _ _ _ (hp _ (mem_at hk)) (hm w (by simp)) (hm x (by simp [hx])) hw h1
 ·simp at hx; subst hx; exact hw
theorem ins_ato {c : Opr → Opr → Int} {P U Y : List Opr} {k : Nat} {j : Int} {cur s2 s : List Opr} {w : Opr} (hI : InsIo c P U Y k j cur (s ++ [w]) s2) :
  cur.getD j.toNat default = U.getD k default ∧ cur.getD (j - 1).toNat default = w ∧ P.length + 1 ≤ j ∧ (cur.set j.toNat (cur.getD (j - 1).toNat default)).set (j - 1).toNat (cur.getD j.toNat default) = P ++ (s ++ (U.getD k default :: ((w :: s2) ++ (U.drop (k + 1) ++ Y)))) := by
 have hj := hI.j
 rw [List.length_append, List.length_singleton] at hj
 have e1 : cur = (P ++ s) ++ w :: ([] ++ U.getD k default :: (s2 ++ (U.drop (k + 1) ++ Y))) := by rw [hI.cur]; simp
 have e2 : cur = (P ++ s ++ [w]) ++ U.getD k default :: (s2 ++ (U.drop (k + 1) ++ Y)) := by rw [hI.cur]; simp
 have e3 : j.toNat = (P ++ s ++ [w]).length := by simp; omega
 have e4 : (j - 1).toNat = (P ++ s).length := by simp; omega
 refine ⟨by rw [e2, e3, getD_app], by rw [e1, e4, getD_app], by omega, ?_⟩
 show swx cur j.toNat (j - 1).toNat = _
 rw [swx_commo _ _ _ (by omega), e1, swx_split e4 (by simp; omega)]
 simp
set_option maxHeartbeats 2000000 in
theorem insO_fcm (cl : FuncId) {c : Opr → Opr → Int} {p : Opr → Prop} (hS : Swo p c) (hcl : ∀ x y, p x → p y → FC Tryz.prog cl none [.ag (oprS x), .ag (oprS y)] (fun _ r => r = iv (c x y)))
  (P U Y cur0 : List Opr) (hc : cur0 = P ++ (U ++ Y)) (hp : ∀ x ∈ U, p x) (hlen : cur0.length ≤ 1000000) (a b : Int) (ha : a = P.length) (hb : b = P.length + U.length) :
  FCMS Tryz.prog 245 [1000000] ⟨[], [(1000000, opRow cur0)]⟩ [.one (.ow 1000000 0), iv a, iv b, .one (.fn cl [])] (fun H r => H = ⟨[], [(1000000, opRow (P ++ (ssort c U ++ Y)))]⟩ ∧ r = .tu []) := by
 refine fcms_insO (K := ⟨[], [], [1000000]⟩) (by simp +arith) (by simp [XK]) (by simp [XK]) ?_
 have h0 : cur0 = insCo c P U Y 1 := by
  rw [hc]; unfold insCo
  rw [← List.append_assoc (ssort c _), ssort_oneo]
 have hl0 : P.length + U.length + Y.length ≤ 1000000 := by rw [h0, insC_leno] at hlen; exact hlen
 unfold C_insO
 simp (maxSteps := 1000000) (disch := omega) only [go_sem]
 refine ex_loop1 (fun i => insESto cl a b i (insCo c P U Y (i - a).toNat)) (fun i => a + 1 ≤ i ∧ (1 ≤ U.length → i ≤ b)) (fun i => (b - i).toNat) (a + 1) ⟨by omega, by omega⟩ (by rw [show (a + 1 - a).toNat = 1 by omega, ← h0]; rfl) ?_
 rintro i ⟨g1, g2⟩
 unfold insESto
 by_cases hi : i < b
 ·have hk : (i - a).toNat < U.length := by omega
  simp (maxSteps := 1000000) (disch := omega) only [go_sem]
  refine ex_loop2 (injESto cl a b i) (fun j cur => InsXo c P U Y (i - a).toNat j cur) (fun j _ => j.toNat) i (insCo c P U Y (i - a).toNat) (by have := ins_starto (c := c) (P := P) (Y := Y) hk; rw [show (P.length : Int) + ((i - a).toNat : Int) = i by omega] at this; exact this) rfl ?_
  rintro j cur ⟨s1, s2, hI⟩
  have hjj := hI.j
  have hcl2 : cur.length = P.length + U.length + Y.length := by
   have h5 : (ssort c (U.take (i - a).toNat)).length = s1.length + s2.length := by rw [hI.srt]; simp
   rw [ssort_length, List.length_take] at h5
   rw [hI.cur]; simp; omega
  have hss : s1.length ≤ (i - a).toNat := by
   have h5 : (ssort c (U.take (i - a).toNat)).length = s1.length + s2.length := by rw [hI.srt]; simp
   rw [ssort_length, List.length_take] at h5; omega
  unfold injESto
  by_cases hj : a < j
  ·have hne : s1 ≠ [] := fun he => by subst he; simp at hjj; omega
   obtain ⟨s, w, rfl⟩ : ∃ s w, s1 = s ++ [w] := ⟨s1.dropLast, s1.getLast hne, (List.dropLast_concat_getLast hne).symm⟩
   obtain ⟨i1, i2, i3, i4⟩ := ins_ato hI
   have ej := getD_map_at oprS cur j [] (by omega) (by omega)
   have ek := getD_map_at oprS cur (j - 1) [] (by omega) (by omega)
   have hmw : w ∈ U.take (i - a).toNat := (ssort_mem (c := c)).1 (by rw [hI.srt]; simp)
   have hcc := hcl _ _ (hp _ (mem_at hk)) (hp w (List.mem_of_mem_take hmw))
   rw [← i1, ← i2, oprS_eq, oprS_eq] at hcc
   simp (maxSteps := 1000000) (disch := omega) only [go_sem]
   refine CALL_det hcc (.inl rfl) ?_
   by_cases hlt : c (cur.getD j.toNat default) (cur.getD (j - 1).toNat default) < 0
   ·have el : ((cur.map oprS).set j.toNat (oprS (cur.getD (j - 1).toNat default))).length = cur.length := by simp
    have eo := setE_other (cur.map oprS) (oprS (cur.getD (j - 1).toNat default)) (show (j - 1).toNat ≠ j.toNat by omega)
    rw [getE_map_in oprS cur (j - 1).toNat (by omega)] at eo
    simp only [oprS_eq] at el eo
    simp (maxSteps := 1000000) (disch := omega) only [go_sem]
    rw [eo]
    simp (maxSteps := 1000000) (disch := omega) only [go_sem]
    refine ⟨j - 1, (cur.set j.toNat (cur.getD (j - 1).toNat default)).set (j - 1).toNat (cur.getD j.toNat default), by simp only [injESto, opRow, List.map_set, oprS_eq], ⟨s, w :: s2, ?_, ?_, ?_, ?_⟩, by omega⟩
    ·rw [hI.srt]; simp
    ·rw [i4]
    ·rw [List.length_append, List.length_singleton] at hjj; omega
    ·intro x hx
     rcases List.mem_cons.1 hx with rfl | hx
     ·rw [i1, i2] at hlt; exact hlt
     ·exact hI.lt x hx
   ·simp (maxSteps := 1000000) (disch := omega) only [go_sem]
    rw [i1, i2] at hlt
    have he := ins_endo hS hp hk hI (ins_geo hS hp hk hI hlt)
    exact ⟨i + 1, by rw [show (i + 1 - a).toNat = (i - a).toNat + 1 by omega, ← he], ⟨by omega, by omega⟩, by omega⟩
  ·have hs0 : s1 = [] := List.length_eq_zero_iff.1 (by omega)
   subst hs0
   simp (maxSteps := 1000000) (disch := omega) only [go_sem]
   have he := ins_endo hS hp hk hI (by simp)
   exact ⟨i + 1, by rw [show (i + 1 - a).toNat = (i - a).toNat + 1 by omega, ← he], ⟨by omega, by omega⟩, by omega⟩
 ·have he : insCo c P U Y (i - a).toNat = P ++ (ssort c U ++ Y) := by
   unfold insCo
   rw [List.take_of_length_le (by omega), List.drop_eq_nil_of_le (by omega)]; simp
  rw [he]
  simp (maxSteps := 1000000) (disch := omega) only [go_sem]
theorem datE_evo (l : List Opr) : datE (l.map oprS) = l.map oprS := by
 unfold datE
 rw [List.map_map]
 refine List.map_congr_left fun x _ => ?_
 rfl
theorem frE_evo (l : List Opr) : frE (l.map oprS) = true := by
 unfold frE
 rw [List.all_eq_true]
 intro e he
 obtain ⟨x, _, rfl⟩ := List.mem_map.1 he
 rfl
attribute [go_sem] datE_evo frE_evo
theorem stbO_fcm (cl : FuncId) {c : Opr → Opr → Int} {p : Opr → Prop} (hS : Swo p c) (hcl : ∀ x y, p x → p y → FC Tryz.prog cl none [.ag (oprS x), .ag (oprS y)] (fun _ r => r = iv (c x y)))
  (d : List Opr) (hp : ∀ x ∈ d, p x) (hlen : d.length ≤ 19) :
  FCMS Tryz.prog 185 [1000000] ⟨[], [(1000000, opRow d)]⟩ [.one (.ow 1000000 0), iv d.length, .one (.fn cl [])] (fun H r => H = ⟨[], [(1000000, opRow (ssort c d))]⟩ ∧ r = .tu []) := by
 refine fcms_stbO (K := ⟨[], [], [1000000]⟩) (by simp +arith) (by simp [XK]) (by simp [XK]) ?_
 have hins := insO_fcm cl hS hcl [] d [] d (by simp) hp (by omega) 0 d.length (by simp) (by simp)
 rw [List.append_nil, List.nil_append] at hins
 unfold C_stbO
 simp (maxSteps := 1000000) (disch := omega) only [go_sem]
 refine ex_rnd 2 ?_
 simp (maxSteps := 1000000) (disch := omega) only [go_sem]
 refine ⟨rfl, CALLM_det hins ⟨rfl, rfl⟩ ?_⟩
 simp (maxSteps := 1000000) (disch := omega) only [go_sem]
 refine ex_rnd 2 ?_
 simp (maxSteps := 1000000) (disch := omega) only [go_sem]
theorem ssfO_fcm (cl : FuncId) {c : Opr → Opr → Int} {p : Opr → Prop} (hS : Swo p c) (hcl : ∀ x y, p x → p y → FC Tryz.prog cl none [.ag (oprS x), .ag (oprS y)] (fun _ r => r = iv (c x y)))
  (d : List Opr) (hp : ∀ x ∈ d, p x) (hlen : d.length ≤ 19) :
  FCMS Tryz.prog 90 [1000000] ⟨[], [(1000000, opRow d)]⟩ [.one (.ow 1000000 0), .one (.fn cl [])] (fun H r => H = ⟨[], [(1000000, opRow (ssort c d))]⟩ ∧ r = .tu []) := by
 refine fcms_ssfO (K := ⟨[], [], [1000000]⟩) (by simp +arith) (by simp [XK]) (by simp [XK]) ?_
 unfold C_ssfO
 simp (maxSteps := 1000000) (disch := omega) only [go_sem]
 refine ⟨rfl, CALLM_det (stbO_fcm cl hS hcl d hp hlen) ⟨rfl, rfl⟩ ?_⟩
 simp (maxSteps := 1000000) (disch := omega) only [go_sem]
end Go.Proofs.YtfgkpbkphmeigaaGreatDoor
/-
 Acts as values: their cells, one after the other.
-/
namespace Go.Proofs.YtfgkpbkphmeigaaGreatDoor
open Go Go.Ai
set_option linter.unusedSimpArgs false
set_option linter.unusedVariables false
set_option maxHeartbeats 4000000
def oprV (x : Opr) : List Value := [.string x.b, .int .i64 x.no, .int .i64 x.at_, .int .i64 x.kd, .string x.al, .int .i64 x.un]
theorem oprV_len : ∀ m : List Opr, ((m.map oprV).flatten).length = m.length * 6
 | [] => rfl
 | x :: m => by rw [List.map_cons, List.flatten_cons, List.length_append, oprV_len m, List.length_cons]; simp [oprV]; omega
theorem flat6 : ∀ (ys : List Opr) (i : Nat) (t : Opr) (j : Nat) (u : Value), ys[i]? = some t → (oprV t)[j]? = some u → ((ys.map oprV).flatten)[i * 6 + j]? = some u
 | [], i, t, j, u, h, _ => by simp at h
 | y :: ys, 0, t, j, u, h, hu => by
  simp at h; subst h
  have hj : j < 6 := (List.getElem?_eq_some_iff.1 hu).1
  rw [List.map_cons, List.flatten_cons, List.getElem?_append_left (by show _ < 6; omega), Nat.zero_mul, Nat.zero_add]
  exact hu
 | y :: ys, i + 1, t, j, u, h, hu => by
  rw [List.map_cons, List.flatten_cons, List.getElem?_append_right (by show 6 ≤ _; omega)]
  rw [show (i + 1) * 6 + j - (oprV y).length = i * 6 + j by show _ - 6 = _; omega]
  exact flat6 ys i t j u (by simpa using h) hu
theorem oprV_at {x : Opr} {j : Nat} {c : Cel} {u : Value} (h1 : (oprS x)[j]? = some c) (h2 : (oprV x)[j]? = some u) : c = .g u ∧ u.oneCell' = true := by
 match j with
 | 0 => simp [oprS, oprV] at h1 h2; subst h1; subst h2; exact ⟨rfl, rfl⟩
 | 1 => simp [oprS, oprV] at h1 h2; subst h1; subst h2; exact ⟨rfl, rfl⟩
 | 2 => simp [oprS, oprV] at h1 h2; subst h1; subst h2; exact ⟨rfl, rfl⟩
 | 3 => simp [oprS, oprV] at h1 h2; subst h1; subst h2; exact ⟨rfl, rfl⟩
 | 4 => simp [oprS, oprV] at h1 h2; subst h1; subst h2; exact ⟨rfl, rfl⟩
 | 5 => simp [oprS, oprV] at h1 h2; subst h1; subst h2; exact ⟨rfl, rfl⟩
 | j + 6 => simp [oprS] at h1
theorem rrel_oprs {w : World} {ok : Nat → Prop} {base : Nat} : ∀ l : List Opr, RRel w ok base (l.map oprS).flatten (l.map oprV).flatten
 | [] => .nil
 | x :: l => by
  have h : RRel w ok base (oprS x) (oprV x) := ⟨rfl, fun i c u h1 h2 => by
   obtain ⟨rfl, h3⟩ := oprV_at h1 h2
   exact ⟨rfl, rfl, h3⟩⟩
  exact h.append (rrel_oprs l)
theorem rrel_oprs_eq {w : World} {ok : Nat → Prop} {base : Nat} : ∀ {l : List Opr} {us : List Value}, RRel w ok base (l.map oprS).flatten us → us = (l.map oprV).flatten
 | [], us, h => List.eq_nil_of_length_eq_zero (by have := h.1; simpa using this.symm)
 | x :: l, us, h => by
  have hl := h.1
  match us, hl with
  | a0 :: a1 :: a2 :: a3 :: a4 :: a5 :: us, _ =>
   have h1 : RRel w ok base (l.map oprS).flatten us := by
    have := h.drop 6
    simpa [oprS] using this
   have e0 := (h.2 0 _ a0 rfl rfl).2.1
   have e1 := (h.2 1 _ a1 rfl rfl).2.1
   have e2 := (h.2 2 _ a2 rfl rfl).2.1
   have e3 := (h.2 3 _ a3 rfl rfl).2.1
   have e4 := (h.2 4 _ a4 rfl rfl).2.1
   have e5 := (h.2 5 _ a5 rfl rfl).2.1
   rw [rrel_oprs_eq h1, e0, e1, e2, e3, e4, e5]; rfl
  | [], hl => simp [oprS] at hl
  | [_], hl => simp [oprS] at hl
  | [_, _], hl => simp [oprS] at hl
  | [_, _, _], hl => simp [oprS] at hl
  | [_, _, _, _], hl => simp [oprS] at hl
  | [_, _, _, _, _], hl => simp [oprS] at hl
end Go.Proofs.YtfgkpbkphmeigaaGreatDoor
