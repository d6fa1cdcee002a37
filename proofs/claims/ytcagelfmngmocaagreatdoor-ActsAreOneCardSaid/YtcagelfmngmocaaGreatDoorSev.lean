
/-
 slices.SortStableFunc over events: the stable order.
-/
import Derived.Test.YtcagelfmngmocaaGreatDoorAst
namespace Go.Proofs.YtcagelfmngmocaaGreatDoor
open Go Go.Ai
set_option linter.unusedSimpArgs false
set_option linter.unusedVariables false
set_option maxHeartbeats 4000000
def C_insE : AC := (.seq (.reg false [gM 10 1,gI 11 (.bin .add (.t 10) (oI 1)),gM 8 11] (kP [0,1,2,3,8,1000001] [1000001] [1000000]))
 (.block 0 (.loop (.seq (.seq (.reg false [gM 12 8,gM 13 2,gI 14 (.bin .lss (.t 12) (.t 13))] (kP [0,1,2,3,8,14,1000001] [1000001] [1000000]))
 (.cond (.t 14)
 .skip
 (.exit 0)))
 (.seq (.block 1 (.seq (.reg false [gM 17 8,gM 9 17] (kP [0,1,2,3,8,9,1000001] [1000001] [1000000]))
 (.block 2 (.loop (.seq (.seq (.reg true [gM 18 9,gM 19 1,gI 20 (.bin .gtr (.t 18) (.t 19)),gM 21 20,gG 22 21 true (.mv (.t 3)),gG 23 21 true (.mv (.t 0)),gG 24 21 true (.mv (.t 9)),gG 25 21 true (.iadr 5 (.t 23) (.t 24)),gG 26 21 true (.load true 5 (.t 25)),gG 27 21 true (.mv (.t 0)),gG 28 21 true (.mv (.t 9)),gG 29 21 true (.bin .sub (.t 28) (oI 1)),gG 30 21 true (.iadr 5 (.t 27) (.t 29)),gG 31 21 true (.load true 5 (.t 30)),gG 32 21 true (.call (.t 22) [(.t 26),(.t 31)]),gG 33 21 true (.bin .lss (.t 32) (oI 0)),gI 34 (.pick (.t 21) (.t 33) (.v (.bool false)))] (kP [0,1,2,3,8,9,34,1000001] [1000001] [1000000]))
 (.cond (.t 34)
 .skip
 (.exit 2)))
 (.seq (.block 3 (.reg true [gM 37 0,gM 38 9,gM 39 0,gM 40 9,gI 41 (.bin .sub (.t 40) (oI 1)),gM 42 0,gM 43 9,gI 44 (.bin .sub (.t 43) (oI 1)),gI 45 (.iadr 5 (.t 42) (.t 44)),gI 46 (.load true 5 (.t 45)),gM 47 0,gM 48 9,gI 49 (.iadr 5 (.t 47) (.t 48)),gI 50 (.load true 5 (.t 49)),gI 51 (.iadr 5 (.t 37) (.t 38)),gN (.store 5 (.t 51) (.t 46)),gI 52 (.iadr 5 (.t 39) (.t 41)),gN (.store 5 (.t 52) (.t 50))] (kP [0,1,2,3,8,9,1000001] [1000001] [1000000])))
 (.reg false [gM 35 9,gI 36 (.bin .sub (.t 35) (oI 1)),gM 9 36] (kP [0,1,2,3,8,9,1000001] [1000001] [1000000]))))))))
 (.reg false [gM 15 8,gI 16 (.bin .add (.t 15) (oI 1)),gM 8 16] (kP [0,1,2,3,8,1000001] [1000001] [1000000])))))))
theorem fcms_insE : FsT Tryz.prog 188 Tryz.f188 C_insE [] := fcms_mk [aN [0,1,2,3,8,1000001] [1000001] [1000000],aN [0,1,2,3,8,14,1000001] [1000001] [1000000],aN [0,1,2,3,8,9,1000001] [1000001] [1000000],aN [0,1,2,3,8,9,34,1000001] [1000001] [1000000],aN [0,1,2,3,8,9,1000001] [1000001] [1000000],aN [0,1,2,3,8,9,1000001] [1000001] [1000000],aN [0,1,2,3,8,1000001] [1000001] [1000000]] Tryz.func188 (by kernel_rfl)
def C_swrE : AC := (.seq (.reg false [gI 10 (.mv (oI 0))] (kP [0,1,2,3,10] [] [1000000]))
 (.block 0 (.loop (.seq (.seq (.reg false [gM 11 10,gM 12 3,gI 13 (.bin .lss (.t 11) (.t 12))] (kP [0,1,2,3,10,13] [] [1000000]))
 (.cond (.t 13)
 .skip
 (.exit 0)))
 (.seq (.block 1 (.reg true [gM 16 0,gM 17 1,gM 18 10,gI 19 (.bin .add (.t 17) (.t 18)),gM 20 0,gM 21 2,gM 22 10,gI 23 (.bin .add (.t 21) (.t 22)),gM 24 0,gM 25 2,gM 26 10,gI 27 (.bin .add (.t 25) (.t 26)),gI 28 (.iadr 5 (.t 24) (.t 27)),gI 29 (.load true 5 (.t 28)),gM 30 0,gM 31 1,gM 32 10,gI 33 (.bin .add (.t 31) (.t 32)),gI 34 (.iadr 5 (.t 30) (.t 33)),gI 35 (.load true 5 (.t 34)),gI 36 (.iadr 5 (.t 16) (.t 19)),gN (.store 5 (.t 36) (.t 29)),gI 37 (.iadr 5 (.t 20) (.t 23)),gN (.store 5 (.t 37) (.t 35))] (kP [0,1,2,3,10] [] [1000000])))
 (.reg false [gM 14 10,gI 15 (.bin .add (.t 14) (oI 1)),gM 10 15] (kP [0,1,2,3,10] [] [1000000])))))))
theorem fcms_swrE : FsT Tryz.prog 229 Tryz.f229 C_swrE [] := fcms_mk [aN [0,1,2,3,10] [] [1000000],aN [0,1,2,3,10,13] [] [1000000],aN [0,1,2,3,10] [] [1000000],aN [0,1,2,3,10] [] [1000000]] Tryz.func229 (by kernel_rfl)
def C_rotE : AC := (.seq (.reg false [gM 12 2,gM 13 1,gI 14 (.bin .sub (.t 12) (.t 13)),gM 10 14] (kP [0,2,3,4,10] [] [1000000]))
 (.seq (.reg false [gM 15 3,gM 16 2,gI 17 (.bin .sub (.t 15) (.t 16)),gM 11 17] (kP [0,2,4,10,11] [] [1000000]))
 (.seq (.block 0 (.loop (.seq (.seq (.reg false [gM 18 10,gM 19 11,gI 20 (.bin .neq (.t 18) (.t 19))] (kP [0,2,4,10,11,20] [] [1000000]))
 (.cond (.t 20)
 .skip
 (.exit 0)))
 (.block 1 (.seq (.reg false [gM 21 10,gM 22 11,gI 23 (.bin .gtr (.t 21) (.t 22))] (kP [0,2,4,10,11,23] [] [1000000]))
 (.cond (.t 23)
 (.seq (.reg false [gM 24 0,gM 25 2,gM 26 10,gI 27 (.bin .sub (.t 25) (.t 26)),gM 28 2,gM 29 11,gM 30 4,gI 31 (.callm (.f 229) [(.t 24),(.t 27),(.t 28),(.t 29),(.t 30)] ⟨[],[1000000],[],[1000000],[1000000]⟩)] (kP [0,2,4,10,11] [] [1000000]))
 (.reg false [gM 32 10,gM 33 11,gI 34 (.bin .sub (.t 32) (.t 33)),gM 10 34] (kP [0,2,4,10,11] [] [1000000])))
 (.seq (.reg false [gM 35 0,gM 36 2,gM 37 10,gI 38 (.bin .sub (.t 36) (.t 37)),gM 39 2,gM 40 11,gI 41 (.bin .add (.t 39) (.t 40)),gM 42 10,gI 43 (.bin .sub (.t 41) (.t 42)),gM 44 10,gM 45 4,gI 46 (.callm (.f 229) [(.t 35),(.t 38),(.t 43),(.t 44),(.t 45)] ⟨[],[1000000],[],[1000000],[1000000]⟩)] (kP [0,2,4,10,11] [] [1000000]))
 (.reg false [gM 47 11,gM 48 10,gI 49 (.bin .sub (.t 47) (.t 48)),gM 11 49] (kP [0,2,4,10,11] [] [1000000])))))))))
 (.reg false [gM 50 0,gM 51 2,gM 52 10,gI 53 (.bin .sub (.t 51) (.t 52)),gM 54 2,gM 55 10,gM 56 4,gI 57 (.callm (.f 229) [(.t 50),(.t 53),(.t 54),(.t 55),(.t 56)] ⟨[],[1000000],[],[1000000],[1000000]⟩)] (kP [] [] [1000000])))))
theorem fcms_rotE : FsT Tryz.prog 210 Tryz.f210 C_rotE [] := fcms_mk [aN [0,2,3,4,10] [] [1000000],aN [0,2,4,10,11] [] [1000000],aN [0,2,4,10,11,20] [] [1000000],aN [0,2,4,10,11,23] [] [1000000],⟨(kP [0,2,4,10,11] [] [1000000]),[],[],[],[(31,⟨[],[1000000],[],[1000000],[1000000]⟩)]⟩,aN [0,2,4,10,11] [] [1000000],⟨(kP [0,2,4,10,11] [] [1000000]),[],[],[],[(46,⟨[],[1000000],[],[1000000],[1000000]⟩)]⟩,aN [0,2,4,10,11] [] [1000000],⟨(kP [] [] [1000000]),[],[],[],[(57,⟨[],[1000000],[],[1000000],[1000000]⟩)]⟩] Tryz.func210 (by kernel_rfl)
abbrev evRow (l : List Ev) : Row := ⟨0, 152, 5, l.map evS⟩
theorem setE_other (l : List (List Cel)) (x : List Cel) {i j : Nat} (h : i ≠ j) : (l.set j x)[i]? = l[i]? := by rw [List.getElem?_set]; simp [h.symm]
theorem swx_comm (l : List Ev) (i j : Nat) (hij : i ≠ j) : swx l i j = swx l j i := by
 rw [swx_symm l i j hij]; rfl
theorem ssort_one (c : Ev → Ev → Int) (U : List Ev) : ssort c (U.take 1) ++ U.drop 1 = U := by
 cases U with
 | nil => rfl
 | cons x U =>
  show mrg c [] [x] ++ U = _
  rw [mrg_nil]; rfl
def insESt (cl : FuncId) (z : Nat) (es : List (List Cel)) (a b : Int) (i : Int) (cur : List Ev) : AS := ⟨tabV [(0, .one (.ow 1000000 0)), (1, iv a), (2, iv b), (3, .one (.fn cl [.bx 1000001 0])), (8, iv i), (1000001, .any)], tabO [(1000001, [.sl false z es])], tabO [(1000000, evRow cur)]⟩
def injESt (cl : FuncId) (z : Nat) (es : List (List Cel)) (a b i : Int) (j : Int) (cur : List Ev) : AS := ⟨tabV [(0, .one (.ow 1000000 0)), (1, iv a), (2, iv b), (3, .one (.fn cl [.bx 1000001 0])), (8, iv i), (9, iv j), (1000001, .any)], tabO [(1000001, [.sl false z es])], tabO [(1000000, evRow cur)]⟩
structure InsI (c : Ev → Ev → Int) (P U Y : List Ev) (k : Nat) (j : Int) (cur : List Ev) (s1 s2 : List Ev) : Prop where
 srt : ssort c (U.take k) = s1 ++ s2
 cur : cur = P ++ (s1 ++ (U.getD k default :: (s2 ++ (U.drop (k + 1) ++ Y))))
 j : j = P.length + s1.length
 lt : ∀ w ∈ s2, c (U.getD k default) w < 0
def InsX (c : Ev → Ev → Int) (P U Y : List Ev) (k : Nat) (j : Int) (cur : List Ev) : Prop := ∃ s1 s2, InsI c P U Y k j cur s1 s2
def insC (c : Ev → Ev → Int) (P U Y : List Ev) (k : Nat) : List Ev := P ++ (ssort c (U.take k) ++ (U.drop k ++ Y))
theorem insC_len (c : Ev → Ev → Int) (P U Y : List Ev) (k : Nat) : (insC c P U Y k).length = P.length + U.length + Y.length := by
 simp [insC, ssort_length]; omega
theorem ins_start {c : Ev → Ev → Int} {P U Y : List Ev} {k : Nat} (hk : k < U.length) : InsX c P U Y k (P.length + k) (insC c P U Y k) := by
 refine ⟨ssort c (U.take k), [], by simp, ?_, ?_, by simp⟩
 ·unfold insC; rw [drop_here hk]; simp
 ·rw [ssort_length, List.length_take]; omega
theorem ins_end {p : Ev → Prop} {c : Ev → Ev → Int} (h : Swo p c) {P U Y : List Ev} {k : Nat} {j : Int} {cur s1 s2 : List Ev} (hp : ∀ x ∈ U, p x) (hk : k < U.length) (hI : InsI c P U Y k j cur s1 s2) (hs : ∀ x ∈ s1, ¬c (U.getD k default) x < 0) : cur = insC c P U Y (k + 1) := by
 unfold insC
 rw [take_snoc hk, ssort_snoc, hI.srt, mrg_last hs hI.lt, hI.cur]; simp
theorem ins_ge {p : Ev → Prop} {c : Ev → Ev → Int} (h : Swo p c) {P U Y : List Ev} {k : Nat} {j : Int} {cur s2 s : List Ev} {w : Ev} (hp : ∀ x ∈ U, p x) (hk : k < U.length) (hI : InsI c P U Y k j cur (s ++ [w]) s2) (hw : ¬c (U.getD k default) w < 0) : ∀ x ∈ s ++ [w], ¬c (U.getD k default) x < 0 := by
 intro x hx
 have po : ∀ x ∈ U.take k, p x := fun x hx => hp x (List.mem_of_mem_take hx)
 have ho := ssort_ord h po
 rw [hI.srt] at ho
 have hm : ∀ y, y ∈ s ++ [w] → p y := fun y hy => po y (ssort_mem.1 (hI.srt ▸ List.mem_append_left _ hy))
 rcases List.mem_append.1 hx with hx | hx
 ·have h1 := (List.pairwise_append.1 (List.pairwise_append.1 ho).1).2.2 x hx w (by simp)
  exact h.ntr _ _ _ (hp _ (mem_at hk)) (hm w (by simp)) (hm x (by simp [hx])) hw h1
 ·simp at hx; subst hx; exact hw
theorem ins_at {c : Ev → Ev → Int} {P U Y : List Ev} {k : Nat} {j : Int} {cur s2 s : List Ev} {w : Ev} (hI : InsI c P U Y k j cur (s ++ [w]) s2) :
  cur.getD j.toNat default = U.getD k default ∧ cur.getD (j - 1).toNat default = w ∧ P.length + 1 ≤ j ∧ (cur.set j.toNat (cur.getD (j - 1).toNat default)).set (j - 1).toNat (cur.getD j.toNat default) = P ++ (s ++ (U.getD k default :: ((w :: s2) ++ (U.drop (k + 1) ++ Y)))) := by
 have hj := hI.j
 rw [List.length_append, List.length_singleton] at hj
 have e1 : cur = (P ++ s) ++ w :: ([] ++ U.getD k default :: (s2 ++ (U.drop (k + 1) ++ Y))) := by rw [hI.cur]; simp
 have e2 : cur = (P ++ s ++ [w]) ++ U.getD k default :: (s2 ++ (U.drop (k + 1) ++ Y)) := by rw [hI.cur]; simp
 have e3 : j.toNat = (P ++ s ++ [w]).length := by simp; omega
 have e4 : (j - 1).toNat = (P ++ s).length := by simp; omega
 refine ⟨by rw [e2, e3, getD_app], by rw [e1, e4, getD_app], by omega, ?_⟩
 show swx cur j.toNat (j - 1).toNat = _
 rw [swx_comm _ _ _ (by omega), e1, swx_split e4 (by simp; omega)]
 simp
set_option maxHeartbeats 2000000 in
theorem insE_fcm (cl : FuncId) {c : Ev → Ev → Int} {p : Ev → Prop} (hS : Swo p c) (z : Nat) (es : List (List Cel)) (hcl : ∀ x y, p x → p y → FC Tryz.prog cl none [.ag (evS x), .ag (evS y), .one (.ep [.sl false z es])] (fun _ r => r = iv (c x y)))
  (P U Y cur0 : List Ev) (hc : cur0 = P ++ (U ++ Y)) (hp : ∀ x ∈ U, p x) (hlen : cur0.length ≤ 1000000) (a b : Int) (ha : a = P.length) (hb : b = P.length + U.length) :
  FCMS Tryz.prog 188 [1000000] ⟨[(1000001, [.sl false z es])], [(1000000, evRow cur0)]⟩ [.one (.ow 1000000 0), iv a, iv b, .one (.fn cl [.bx 1000001 0])] (fun H r => H = ⟨[(1000001, [.sl false z es])], [(1000000, evRow (P ++ (ssort c U ++ Y)))]⟩ ∧ r = .tu []) := by
 refine fcms_insE (K := ⟨[], [1000001], [1000000]⟩) (by simp +arith) (by simp [XK]) (by simp [XK]) ?_
 have h0 : cur0 = insC c P U Y 1 := by
  rw [hc]; unfold insC
  rw [← List.append_assoc (ssort c _), ssort_one]
 have hl0 : P.length + U.length + Y.length ≤ 1000000 := by rw [h0, insC_len] at hlen; exact hlen
 unfold C_insE
 simp (maxSteps := 1000000) (disch := omega) only [go_sem]
 refine ex_loop1 (fun i => insESt cl z es a b i (insC c P U Y (i - a).toNat)) (fun i => a + 1 ≤ i ∧ (1 ≤ U.length → i ≤ b)) (fun i => (b - i).toNat) (a + 1) ⟨by omega, by omega⟩ (by rw [show (a + 1 - a).toNat = 1 by omega, ← h0]; rfl) ?_
 rintro i ⟨g1, g2⟩
 unfold insESt
 by_cases hi : i < b
 ·have hk : (i - a).toNat < U.length := by omega
  simp (maxSteps := 1000000) (disch := omega) only [go_sem]
  refine ex_loop2 (injESt cl z es a b i) (fun j cur => InsX c P U Y (i - a).toNat j cur) (fun j _ => j.toNat) i (insC c P U Y (i - a).toNat) (by have := ins_start (c := c) (P := P) (Y := Y) hk; rw [show (P.length : Int) + ((i - a).toNat : Int) = i by omega] at this; exact this) rfl ?_
  rintro j cur ⟨s1, s2, hI⟩
  have hjj := hI.j
  have hcl2 : cur.length = P.length + U.length + Y.length := by
   have h5 : (ssort c (U.take (i - a).toNat)).length = s1.length + s2.length := by rw [hI.srt]; simp
   rw [ssort_length, List.length_take] at h5
   rw [hI.cur]; simp; omega
  have hss : s1.length ≤ (i - a).toNat := by
   have h5 : (ssort c (U.take (i - a).toNat)).length = s1.length + s2.length := by rw [hI.srt]; simp
   rw [ssort_length, List.length_take] at h5; omega
  unfold injESt
  by_cases hj : a < j
  ·have hne : s1 ≠ [] := fun he => by subst he; simp at hjj; omega
   obtain ⟨s, w, rfl⟩ : ∃ s w, s1 = s ++ [w] := ⟨s1.dropLast, s1.getLast hne, (List.dropLast_concat_getLast hne).symm⟩
   obtain ⟨i1, i2, i3, i4⟩ := ins_at hI
   have ej := getD_map_at evS cur j [] (by omega) (by omega)
   have ek := getD_map_at evS cur (j - 1) [] (by omega) (by omega)
   have hmw : w ∈ U.take (i - a).toNat := (ssort_mem (c := c)).1 (by rw [hI.srt]; simp)
   have hcc := hcl _ _ (hp _ (mem_at hk)) (hp w (List.mem_of_mem_take hmw))
   rw [← i1, ← i2, evS_eq, evS_eq] at hcc
   simp (maxSteps := 1000000) (disch := omega) only [go_sem]
   refine CALL_det hcc (.inl rfl) ?_
   by_cases hlt : c (cur.getD j.toNat default) (cur.getD (j - 1).toNat default) < 0
   ·have el : ((cur.map evS).set j.toNat (evS (cur.getD (j - 1).toNat default))).length = cur.length := by simp
    have eo := setE_other (cur.map evS) (evS (cur.getD (j - 1).toNat default)) (show (j - 1).toNat ≠ j.toNat by omega)
    rw [getE_map_in evS cur (j - 1).toNat (by omega)] at eo
    simp only [evS_eq] at el eo
    simp (maxSteps := 1000000) (disch := omega) only [go_sem]
    rw [eo]
    simp (maxSteps := 1000000) (disch := omega) only [go_sem]
    refine ⟨j - 1, (cur.set j.toNat (cur.getD (j - 1).toNat default)).set (j - 1).toNat (cur.getD j.toNat default), by simp only [injESt, evRow, List.map_set, evS_eq], ⟨s, w :: s2, ?_, ?_, ?_, ?_⟩, by omega⟩
    ·rw [hI.srt]; simp
    ·rw [i4]
    ·rw [List.length_append, List.length_singleton] at hjj; omega
    ·intro x hx
     rcases List.mem_cons.1 hx with rfl | hx
     ·rw [i1, i2] at hlt; exact hlt
     ·exact hI.lt x hx
   ·simp (maxSteps := 1000000) (disch := omega) only [go_sem]
    rw [i1, i2] at hlt
    have he := ins_end hS hp hk hI (ins_ge hS hp hk hI hlt)
    exact ⟨i + 1, by rw [show (i + 1 - a).toNat = (i - a).toNat + 1 by omega, ← he], ⟨by omega, by omega⟩, by omega⟩
  ·have hs0 : s1 = [] := List.length_eq_zero_iff.1 (by omega)
   subst hs0
   simp (maxSteps := 1000000) (disch := omega) only [go_sem]
   have he := ins_end hS hp hk hI (by simp)
   exact ⟨i + 1, by rw [show (i + 1 - a).toNat = (i - a).toNat + 1 by omega, ← he], ⟨by omega, by omega⟩, by omega⟩
 ·have he : insC c P U Y (i - a).toNat = P ++ (ssort c U ++ Y) := by
   unfold insC
   rw [List.take_of_length_le (by omega), List.drop_eq_nil_of_le (by omega)]; simp
  rw [he]
  simp (maxSteps := 1000000) (disch := omega) only [go_sem]
def swrESt (w : Val) (a b n : Int) (i : Int) (cur : List Ev) : AS := ⟨tabV [(0, .one (.ow 1000000 0)), (1, iv a), (2, iv b), (3, iv n), (10, iv i)], tabO [], tabO [(1000000, evRow cur)]⟩
theorem swrE_fcm (w : Val) (P U Q V Y cur0 : List Ev) (hc : cur0 = P ++ (U ++ (Q ++ (V ++ Y)))) (hlen : cur0.length ≤ 1000000) (hUV : U.length = V.length) (a b n : Int) (ha : a = P.length) (hb : b = P.length + U.length + Q.length) (hn : n = U.length) :
  FCMS Tryz.prog 229 [1000000] ⟨[], [(1000000, evRow cur0)]⟩ [.one (.ow 1000000 0), iv a, iv b, iv n, w] (fun H r => H = ⟨[], [(1000000, evRow (P ++ (V ++ (Q ++ (U ++ Y)))))]⟩ ∧ r = .tu []) := by
 refine fcms_swrE (K := ⟨[], [], [1000000]⟩) (by simp +arith) (by simp [XK]) (by simp [XK]) ?_
 have hl0 : P.length + U.length + Q.length + V.length + Y.length ≤ 1000000 := by rw [hc] at hlen; simp at hlen; omega
 rw [← swr_zero] at hc
 unfold C_swrE
 simp (maxSteps := 1000000) (disch := omega) only [go_sem]
 refine ex_loop1 (fun i => swrESt w a b n i (swr P U Q V Y i.toNat)) (fun i => 0 ≤ i ∧ i ≤ n) (fun i => (n - i).toNat) 0 ⟨by omega, by omega⟩ (by rw [show (0 : Int).toNat = 0 from rfl, ← hc]; rfl) ?_
 rintro i ⟨g1, g2⟩
 have hcl := swr_len P U Q V Y i.toNat hUV
 have hst := swr_step (p := P) (q := Q) (s := Y) (i := i.toNat) (a := (a + i).toNat) (b := (b + i).toNat) hUV
 rw [show i.toNat + 1 = (i + 1).toNat by omega] at hst
 generalize hcu : swr P U Q V Y i.toNat = cur at *
 unfold swrESt
 by_cases hi : i < n
 ·have hst := hst (by omega) (by omega) (by omega)
  have el : ((cur.map evS).set (a + i).toNat (evS (cur.getD (b + i).toNat default))).length = cur.length := by simp
  have hq : 0 < U.length := by omega
  have eo := setE_other (cur.map evS) (evS (cur.getD (b + i).toNat default)) (show (b + i).toNat ≠ (a + i).toNat by omega)
  rw [getE_map_in evS cur (b + i).toNat (by omega)] at eo
  simp only [evS_eq] at el eo
  simp (maxSteps := 1000000) (disch := omega) only [go_sem]
  rw [eo]
  simp (maxSteps := 1000000) (disch := omega) only [go_sem]
  refine ⟨i + 1, ?_, ⟨by omega, by omega⟩, by omega⟩
  rw [← hst]
  simp only [swx, evRow, List.map_set, evS_eq]
 ·have he : cur = P ++ (V ++ (Q ++ (U ++ Y))) := by
   rw [← hcu, show i.toNat = U.length by omega]
   exact swr_all P U Q V Y rfl hUV.symm
  rw [he]
  simp (maxSteps := 1000000) (disch := omega) only [go_sem]
theorem datE_ev (l : List Ev) : datE (l.map evS) = l.map evS := by
 unfold datE
 rw [List.map_map]
 refine List.map_congr_left fun x _ => ?_
 rfl
theorem frE_ev (l : List Ev) : frE (l.map evS) = true := by
 unfold frE
 rw [List.all_eq_true]
 intro e he
 obtain ⟨x, _, rfl⟩ := List.mem_map.1 he
 rfl
attribute [go_sem] datE_ev frE_ev
theorem td (U Z : List Ev) (n : Nat) : U.take n ++ (U.drop n ++ Z) = U ++ Z := by rw [← List.append_assoc, List.take_append_drop]
def rotESt (m : Int) (i j : Int) (cur : List Ev) : AS := ⟨tabV [(0, .one (.ow 1000000 0)), (2, iv m), (4, .one .any), (10, iv i), (11, iv j)], tabO [], tabO [(1000000, evRow cur)]⟩
structure RotI (T : List Ev) (n : Nat) (m i j : Int) (cur P U V Y : List Ev) : Prop where
 cu : cur = P ++ (U ++ (V ++ Y))
 tgt : T = P ++ (V ++ (U ++ Y))
 ui : i = U.length
 vj : j = V.length
 pm : m = P.length + U.length
 i0 : 0 < i
 j0 : 0 < j
 len : cur.length = n
theorem RotI.gt {T : List Ev} {n : Nat} {m i j : Int} {cur P U V Y : List Ev} (h : RotI T n m i j cur P U V Y) (hij : j < i) :
  RotI T n m (i - j) j (P ++ (V ++ (U.drop V.length ++ (U.take V.length ++ Y)))) (P ++ V) (U.drop V.length) (U.take V.length) Y := by
 obtain ⟨h1, h2, h3, h4, h5, h6, h7, h8⟩ := h
 refine ⟨by simp, ?_, by rw [List.length_drop]; omega, by rw [List.length_take]; omega, by rw [List.length_append, List.length_drop]; omega, by omega, by omega, ?_⟩
 ·rw [h2]; simp [td]
 ·rw [h1] at h8
  simp only [List.length_append, List.length_drop, List.length_take] at h8 ⊢
  omega
theorem RotI.lt {T : List Ev} {n : Nat} {m i j : Int} {cur P U V Y : List Ev} (h : RotI T n m i j cur P U V Y) (hij : i < j) :
  RotI T n m i (j - i) (P ++ (V.drop (V.length - U.length) ++ (V.take (V.length - U.length) ++ (U ++ Y)))) P (V.drop (V.length - U.length)) (V.take (V.length - U.length)) (U ++ Y) := by
 obtain ⟨h1, h2, h3, h4, h5, h6, h7, h8⟩ := h
 refine ⟨rfl, ?_, by rw [List.length_drop]; omega, by rw [List.length_take]; omega, by rw [List.length_drop]; omega, by omega, by omega, ?_⟩
 ·rw [h2]; simp [td]
 ·rw [h1] at h8
  simp only [List.length_append, List.length_drop, List.length_take] at h8 ⊢
  omega
def RotX (T : List Ev) (n : Nat) (m i j : Int) (cur : List Ev) : Prop := ∃ P U V Y, RotI T n m i j cur P U V Y
theorem rotE_fcm (cl : FuncId) (P U V Y cur0 : List Ev) (hc : cur0 = P ++ (U ++ (V ++ Y))) (hlen : cur0.length ≤ 1000000) (hU : 0 < U.length) (hV : 0 < V.length) (a m b : Int) (ha : a = P.length) (hm : m = P.length + U.length) (hb : b = P.length + U.length + V.length) :
  FCMS Tryz.prog 210 [1000000] ⟨[], [(1000000, evRow cur0)]⟩ [.one (.ow 1000000 0), iv a, iv m, iv b, .one (.fn cl [.any])] (fun H r => H = ⟨[], [(1000000, evRow (P ++ (V ++ (U ++ Y))))]⟩ ∧ r = .tu []) := by
 refine fcms_rotE (K := ⟨[], [], [1000000]⟩) (by simp +arith) (by simp [XK]) (by simp [XK]) ?_
 generalize hT : P ++ (V ++ (U ++ Y)) = T
 have hst : RotI T cur0.length m U.length V.length cur0 P U V Y := ⟨hc, hT.symm, rfl, rfl, hm, by omega, by omega, rfl⟩
 have e1 : m - a = U.length := by omega
 have e2 : b - m = V.length := by omega
 have hl0 : P.length + U.length + V.length + Y.length ≤ 1000000 := by rw [hc] at hlen; simp at hlen; omega
 unfold C_rotE
 simp (maxSteps := 1000000) (disch := omega) only [go_sem]
 refine ex_loop3 (fun i j cur => rotESt m i j cur) (fun i j cur => RotX T cur0.length m i j cur) (fun i j _ => (i + j).toNat) (m - a) (b - m) cur0 (by rw [e1, e2]; exact ⟨_, _, _, _, hst⟩) rfl ?_
 rintro i j cur ⟨P, U, V, Y, hI⟩
 obtain ⟨h1, h2, h3, h4, h5, h6, h7, h8⟩ := id hI
 have hl1 : P.length + U.length + V.length + Y.length = cur0.length := by rw [h1] at h8; simp at h8; omega
 unfold rotESt
 by_cases hij : i = j
 ·have hs := swrE_fcm (.one .any) P U [] V Y cur (by rw [h1]; rfl) (by omega) (by omega) (m - i) m i (by omega) (by simp; omega) (by omega)
  rw [List.nil_append, ← h2] at hs
  simp (maxSteps := 1000000) (disch := omega) only [go_sem]
  refine ⟨rfl, CALLM_det hs ⟨rfl, rfl⟩ ?_⟩
  simp (maxSteps := 1000000) (disch := omega) only [go_sem]
 ·by_cases hgt : j < i
  ·have hs := swrE_fcm (.one .any) P (U.take V.length) (U.drop V.length) V Y cur (by rw [h1, td]) (by omega) (by rw [List.length_take]; omega) (m - i) m j (by omega) (by rw [List.length_take, List.length_drop]; omega) (by rw [List.length_take]; omega)
   simp (maxSteps := 1000000) (disch := omega) only [go_sem]
   refine ⟨rfl, CALLM_det hs ⟨rfl, rfl⟩ ?_⟩
   simp (maxSteps := 1000000) (disch := omega) only [go_sem]
   exact ⟨i - j, j, _, rfl, ⟨_, _, _, _, hI.gt hgt⟩, by omega⟩
  ·have hs := swrE_fcm (.one .any) P U (V.take (V.length - U.length)) (V.drop (V.length - U.length)) Y cur (by rw [h1, td]) (by omega) (by rw [List.length_drop]; omega) (m - i) (m + j - i) i (by omega) (by rw [List.length_take]; omega) (by omega)
   simp (maxSteps := 1000000) (disch := omega) only [go_sem]
   refine ⟨rfl, CALLM_det hs ⟨rfl, rfl⟩ ?_⟩
   simp (maxSteps := 1000000) (disch := omega) only [go_sem]
   exact ⟨i, j - i, _, rfl, ⟨_, _, _, _, hI.lt (by omega)⟩, by omega⟩
end Go.Proofs.YtcagelfmngmocaaGreatDoor
