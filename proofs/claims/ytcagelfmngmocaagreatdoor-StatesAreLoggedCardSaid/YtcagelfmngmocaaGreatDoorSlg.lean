
/-
  The state of an alarm is its last change in the log. Plain Lean.
  The state of an alarm is that of its last change in the log: the walk.
-/
import Derived.Test.YtcagelfmngmocaaGreatDoorSns
import Derived.Test.YtcagelfmngmocaaGreatDoorLog
import Derived.Test.YtcagelfmngmocaaGreatDoorStn
import Derived.Test.YtcagelfmngmocaaGreatDoorAcl
import Derived.Test.YtcagelfmngmocaaGreatDoorAgl
import Derived.Test.YtcagelfmngmocaaGreatDoorAcb
namespace Go.Proofs.YtcagelfmngmocaaGreatDoor
open Go Go.Ai
set_option linter.unusedSimpArgs false
set_option linter.unusedVariables false
set_option maxHeartbeats 4000000
/-! ### windows and events are not before 0 -/
def nnW (l : List (Int × Int)) : Prop := ∀ w ∈ l, 0 ≤ w.1 ∧ 0 ≤ w.2
theorem setTo_nn {l : List (Int × Int)} {t : Int} (h : nnW l) (ht : 0 ≤ t) : nnW (setTo l t) := fun w hw => by
  unfold setTo at hw
  by_cases h0 : l.length = 0
  · have : l = [] := List.length_eq_zero_iff.1 h0
    subst this; simp at hw
  · rcases List.mem_or_eq_of_mem_set hw with hw | rfl
    · exact h w hw
    · exact ⟨(h _ (getD_mem l _ (by omega))).1, ht⟩
theorem actOn_nn {on off un nx a : Int} {x y : Bool} {s : ActX} (h : nnW s.out) (ha : 0 ≤ a) (hu : 0 ≤ un) : nnW (actOn on off un nx a x y s).out := by
  unfold actOn
  simp only []
  have h1 : ∀ t, 0 ≤ max a t := fun t => by omega
  have h2 : ∀ t, nnW (s.out ++ [(max a t, un)]) := fun t w hw => by
    rcases List.mem_append.1 hw with hw | hw
    · exact h w hw
    · simp at hw; subst hw; exact ⟨h1 t, hu⟩
  (repeat' split) <;> first | exact setTo_nn (h2 _) (h1 _) | exact setTo_nn h (h1 _) | exact h2 _ | exact h
theorem actGo_nn (kd lim db on off : Int) {un : Int} (hu : 0 ≤ un) : ∀ (l : List Smp) (s : ActX), (∀ x ∈ l, 0 ≤ x.a) → nnW s.out → nnW (actGo kd lim db on off un l s).out
  | [], s, _, h => h
  | [x], s, hl, h => actOn_nn h (hl x (by simp)) hu
  | x :: y :: r, s, hl, h => actGo_nn kd lim db on off hu (y :: r) _ (fun z hz => hl z (by simp [hz])) (actOn_nn h (hl x (by simp)) hu)
theorem winsA_nn {s : List Ser} (hs : SerOk s) (x : Alm) : nnW (winsA s x) := by
  unfold winsA actW
  exact actGo_nn _ _ _ _ _ (by omega) _ _ (fun z hz => ((samO_good hs x.t).all z hz).1) (fun w hw => by simp at hw)
theorem opF_ok {x : Opr} (h : opF x = 0) : keyOk x.b = true ∧ (1 ≤ x.no ∧ x.no ≤ 2000) ∧ (0 ≤ x.at_ ∧ x.at_ < 345686400000) ∧ (1 ≤ x.kd ∧ x.kd ≤ 3) ∧ keyOk x.al = true ∧ (x.kd = 2 → x.at_ < x.un ∧ x.un ≤ 345686400000) ∧ (x.kd ≠ 2 → x.un = 0) := by
  unfold opF at h
  split at h
  · omega
  split at h
  · omega
  split at h
  · omega
  split at h
  · omega
  split at h
  · omega
  split at h
  · omega
  · rename_i h1 h2 h3 h4 h5 h6
    exact ⟨by simpa using h1, by omega, by omega, by omega, by simpa using h4, by omega, by omega⟩
theorem evs0_nn {l : List Alm} {s : List Ser} {a : List Opr} (hs : SerOk s) (ha : ActOk a) (e : Ev) (he : e ∈ evs0 l s a) : 0 ≤ e.a := by
  unfold evs0 at he
  rcases List.mem_append.1 he with he | he
  · obtain ⟨i, hi, hm⟩ := mem_evAs he
    unfold evA at hm
    obtain ⟨v, hv, hm⟩ := List.mem_flatMap.1 hm
    have := winsA_nn hs _ v hv
    simp only [List.mem_cons, List.not_mem_nil, or_false] at hm
    rcases hm with rfl | rfl
    · exact this.1
    · exact this.2
  · obtain ⟨i, hi, hm⟩ := mem_evBs he
    have ho := opF_ok (ha.flt i hi)
    unfold evB at hm
    rcases List.mem_cons.1 hm with rfl | hm
    · exact ho.2.2.1.1
    · split at hm
      · rename_i hc
        simp only [List.mem_cons, List.not_mem_nil, or_false] at hm
        subst hm
        have := ho.2.2.2.2.2.1 hc.1
        simp only; omega
      · simp at hm
/-! ### what has been told last -/
def lastS (key : ByteArray) : List Std → Std → Std
  | [], d => d
  | z :: r, d => lastS key r (if z.al = key then z else d)
theorem lastS_app (key : ByteArray) : ∀ (o p : List Std) (d : Std), lastS key (o ++ p) d = lastS key p (lastS key o d)
  | [], p, d => rfl
  | z :: r, p, d => by rw [List.cons_append, lastS, lastS, lastS_app key r]
theorem keys_inj {l : List Alm} (h : AscG Alm.k l) {i j : Nat} (hi : i < l.length) (hj : j < l.length) (he : (l.getD i default).k = (l.getD j default).k) : i = j := by
  rcases Nat.lt_trichotomy i j with h1 | h1 | h1
  · have := h i j h1 hj; rw [he] at this; exact absurd this (ltS_irr _)
  · exact h1
  · have := h j i h1 hi; rw [he] at this; exact absurd this (ltS_irr _)
theorem idxA_self {l : List Alm} (h : AscG Alm.k l) {i : Nat} (hi : i < l.length) : idxA l (l.getD i default).k = i := by
  unfold idxA
  have := idxG_eq (fun x : Alm => decide (x.k = (l.getD i default).k)) l 0 i hi (fun j hj => decide_eq_false fun he => by have := keys_inj h (by omega) hi he; omega) (decide_eq_true rfl)
  omega
structure LgI (l : List Alm) (to : Int) (s : Sit) : Prop where
  n : s.td.length = l.length
  k : ∀ i, i < l.length → (s.td.getD i default).al = (l.getD i default).k
  t : ∀ i, i < l.length → lastS (l.getD i default).k s.out ⟨(l.getD i default).k, 1, 0⟩ = s.td.getD i default
  b : ∀ z ∈ s.out, 0 ≤ z.si ∧ z.si ≤ to
theorem LgI.app {l : List Alm} {to : Int} {s : Sit} (h : LgI l to s) (a : List Opr) (e : Ev) : LgI l to (appE l a e s) := by
  obtain ⟨h1, h2, h3, h4⟩ := h
  have e1 := (appE_len l a e s).2.1
  have e2 : (appE l a e s).out = s.out := by
    unfold appE
    split
    · split <;> rfl
    · rfl
  exact ⟨by rw [e1]; exact h1, by rw [e1]; exact h2, by rw [e1, e2]; exact h3, by rw [e2]; exact h4⟩
theorem LgI.rpt {l : List Alm} {to : Int} {s : Sit} (hk : AscG Alm.k l) (h : LgI l to s) (up : List (List Int)) {at_ : Int} (ha : 0 ≤ at_ ∧ at_ ≤ to) {j : Nat} (hj : j < l.length) : LgI l to (rptX up at_ j s) := by
  unfold rptX
  split
  · obtain ⟨h1, h2, h3, h4⟩ := h
    refine ⟨by simpa using h1, fun i hi => ?_, fun i hi => ?_, fun z hz => ?_⟩
    · simp only
      by_cases e : j = i
      · subst e
        rw [List.getD_eq_getElem?_getD, List.getElem?_set_self (by omega)]
        exact h2 j hi
      · rw [List.getD_eq_getElem?_getD, List.getElem?_set_ne e, ← List.getD_eq_getElem?_getD]
        exact h2 i hi
    · simp only
      rw [lastS_app, h3 i hi]
      by_cases e : j = i
      · subst e
        rw [List.getD_eq_getElem?_getD (l := s.td.set _ _), List.getElem?_set_self (by omega), lastS, lastS, if_pos (h2 j hi)]; rfl
      · rw [List.getD_eq_getElem?_getD (l := s.td.set _ _), List.getElem?_set_ne e, ← List.getD_eq_getElem?_getD, lastS, lastS, if_neg]
        rw [h2 j hj]
        exact fun he => e (keys_inj hk hj hi he)
    · simp only at hz
      rcases List.mem_append.1 hz with hz | hz
      · exact h4 z hz
      · simp at hz; subst hz; exact ha
  · exact h
theorem LgI.rpts {l : List Alm} {to : Int} (hk : AscG Alm.k l) (up : List (List Int)) {at_ : Int} (ha : 0 ≤ at_ ∧ at_ ≤ to) : ∀ (n j : Nat) (s : Sit), n + j ≤ l.length → LgI l to s → LgI l to (rptE up at_ n j s)
  | 0, j, s, _, h => h
  | n + 1, j, s, hn, h => by
    rw [rptE_succ]
    exact LgI.rpts hk up ha n (j + 1) _ (by omega) (h.rpt hk up ha (by omega))
theorem LgI.run {l : List Alm} {to : Int} (hk : AscG Alm.k l) (a : List Opr) : ∀ (ev : List Ev) (s : Sit), (∀ e ∈ ev, 0 ≤ e.a) → LgI l to s → LgI l to (runE l a to ev s)
  | [], s, _, h => h
  | e :: r, s, he, h => by
    rw [runE]
    split
    · exact h
    · have h0 := he e (by simp)
      refine LgI.run hk a r _ (fun x hx => he x (by simp [hx])) ?_
      split
      · exact h.app a e
      · exact LgI.rpts hk _ ⟨h0, by omega⟩ _ 0 _ (by omega) (h.app a e)
theorem getD_map_def {α β : Type} [Inhabited α] [Inhabited β] (f : α → β) (l : List α) (i : Nat) (h : i < l.length) : (l.map f).getD i default = f (l.getD i default) := getD_map_in f l i default h
theorem AllOk.lg {l : List Alm} {s : List Ser} {a : List Opr} (h : AllOk l s a) (to : Int) : LgI l to (runA l s a to) := by
  refine LgI.run h.al.up a _ _ (fun e he => evs0_nn h.se h.ac e (ssort_mem.1 he)) ⟨by simp [sit0], fun i hi => ?_, fun i hi => ?_, fun z hz => by simp [sit0] at hz⟩
  · simp only [sit0]; rw [getD_map_def _ _ _ hi]
  · simp only [sit0]; rw [getD_map_def _ _ _ hi]; rfl
end Go.Proofs.YtcagelfmngmocaaGreatDoor
namespace Go.Proofs.YtcagelfmngmocaaGreatDoor
open Go Go.Ai
set_option linter.unusedSimpArgs false
set_option linter.unusedVariables false
set_option maxHeartbeats 4000000
def A_sl : List Ann := [aN [0] [] [],aN [3,24] [24] [],aN [4,5,6,7] [] [],⟨(kP [4,5,6,7,8,9] [] []),[],[],[],[(40,⟨[],[],[],[5000],[]⟩)]⟩,aN [4,5,6,7,8,44] [] [],aN [2] [] [],aN [4,5,6,7,8,45,46,47] [] [],aN [4,5,6,7,8,45,46,47,48] [] [],aN [4,5,6,7,8,11,45,46,47] [11] [],aN [4,5,6,7,8,11,12,13,45,46,47] [11,12] [],aN [4,5,6,7,8,11,12,45,46,47,69] [11,12] [],aN [2] [] [],aN [4,5,6,7,8,11,12,14,45,46,47] [11,12,14] [],aN [4,5,6,7,8,11,12,14,45,46,47,73,74,75] [11,12,14] [],aN [4,5,6,7,8,11,12,14,45,46,47,73,74,75,76] [11,12,14] [],aN [4,5,6,7,8,11,12,14,16,45,46,47,73,74,75] [11,12,14,16] [],aN [4,5,6,7,8,11,12,14,16,45,46,47,73,74,75,83] [11,12,14,16] [],aN [4,5,6,7,8,11,12,14,45,46,47,73,74,75] [11,12,14] [],aN [4,5,6,7,8,11,12,14,45,46,47,73,74,75] [11,12,14] [],aN [4,5,6,7,8,45,46,47,88] [] [],aN [2] [] [],aN [4,5,6,7,8,45,46,47] [] [],aN [4,5,6,7,9,17] [] [],aN [4,5,6,7,17,99] [] [],aN [2] [] [],aN [4,5,6,7,100,101,102] [] [],aN [4,5,6,7,100,101,102,103] [] [],aN [4,5,6,7,19,100,101,102] [19] [],aN [4,5,6,7,19,20,21,100,101,102] [19,20] [],aN [4,5,6,7,100,101,102,132] [] [],aN [2] [] [],aN [4,5,6,7,100,101,102] [] [],aN [2] [] []]
def C_sl : AC := (.seq (.reg false [gI 2 (.mv (.v (.bool false)))] (kP [0] [] []))
  (.seq (.reg false [gM 22 0,gI 23 (.build [(.slice none 0 0),(.int .i64 (0))] [(0,1,(.t 22))]),gI 24 (.box (.t 23)),gM 3 24] (kP [3,24] [24] []))
  (.seq (.reg false [gM 25 3,gI 26 (.callx (.f 7) [(.t 25)]),gM 27 3,gI 28 (.callx (.f 8) [(.t 27),(oI 8)]),gM 29 3,gI 30 (.callx (.f 9) [(.t 29)]),gM 31 3,gI 32 (.callx (.f 10) [(.t 31),(oI 0),(oI 150)]),gM 4 26,gM 5 28,gM 6 30,gM 7 32] (kP [4,5,6,7] [] []))
  (.seq (.reg false [gM 34 4,gM 35 5,gM 36 6,gM 37 7,gI 38 (.bin .add (.t 37) (oI 1)),gI 39 (.build [(.int .i64 (0)),(.int .i64 (0))] [(1,1,(.t 38))]),gI 40 (.callm (.f 11) [(.t 34),(.t 35),(.t 36),(.t 39)] ⟨[],[],[],[5000],[]⟩),gM 33 40,gI 41 (.extr (.t 33) 0),gI 42 (.extr (.t 33) 1),gM 8 41,gM 9 42] (kP [4,5,6,7,8,9] [] []))
  (.seq (.seq (.reg false [gM 43 9,gI 44 (.bin .neq (.t 43) (oI 0))] (kP [4,5,6,7,8,44] [] []))
  (.cond (.t 44)
  (.seq (.reg false [gI 2 (.mv (.v (.bool false)))] (kP [2] [] []))
  .ret)
  .skip))
  (.seq (.seq (.reg false [gM 45 4,gI 46 (.len (.t 45)),gI 47 (.mv (oI 0))] (kP [4,5,6,7,8,45,46,47] [] []))
  (.block 0 (.loop (.seq (.reg false [gI 48 (.bin .lss (.t 47) (.t 46))] (kP [4,5,6,7,8,45,46,47,48] [] []))
  (.seq (.cond (.t 48)
  .skip
  (.exit 0))
  (.seq (.block 1 (.seq (.reg false [gI 49 (.iadr 10 (.t 45) (.t 47)),gI 50 (.load true 10 (.t 49)),gI 11 (.alloc [(.string (ByteArray.mk #[])),(.string (ByteArray.mk #[])),(.int .i64 (0)),(.int .i64 (0)),(.int .i64 (0)),(.int .i64 (0)),(.int .i64 (0)),(.int .i64 (0)),(.bool false),(.string (ByteArray.mk #[]))]),gN (.store 10 (.t 11) (.t 50))] (kP [4,5,6,7,8,11,45,46,47] [11] []))
  (.seq (.reg false [gM 52 4,gM 53 5,gM 54 6,gI 55 (.fadr 0 (.t 11)),gI 56 (.load false 1 (.t 55)),gM 57 7,gI 58 (.call (.f 12) [(.t 52),(.t 53),(.t 54),(.t 56),(.t 57)]),gM 51 58,gI 59 (.extr (.t 51) 0),gI 60 (.extr (.t 51) 1),gI 12 (.alloc [(.string (ByteArray.mk #[])),(.int .i64 (0)),(.int .i64 (0))]),gN (.store 3 (.t 12) (.t 59)),gM 13 60] (kP [4,5,6,7,8,11,12,13,45,46,47] [11,12] []))
  (.seq (.seq (.reg false [gM 61 13,gI 62 (.bin .neq (.t 61) (oI 0)),gM 63 62,gG 64 63 false (.fadr 0 (.t 12)),gG 65 63 false (.load false 1 (.t 64)),gG 66 63 false (.fadr 0 (.t 11)),gG 67 63 false (.load false 1 (.t 66)),gG 68 63 false (.bin .neq (.t 65) (.t 67)),gI 69 (.pick (.t 63) (.v (.bool true)) (.t 68))] (kP [4,5,6,7,8,11,12,45,46,47,69] [11,12] []))
  (.cond (.t 69)
  (.seq (.reg false [gI 2 (.mv (.v (.bool false)))] (kP [2] [] []))
  .ret)
  .skip))
  (.seq (.reg false [gI 70 (.fadr 0 (.t 11)),gI 71 (.load false 1 (.t 70)),gI 72 (.build [(.string (ByteArray.mk #[])),(.int .i64 (0)),(.int .i64 (0))] [(0,1,(.t 71)),(1,1,(oI 1))]),gI 14 (.alloc [(.string (ByteArray.mk #[])),(.int .i64 (0)),(.int .i64 (0))]),gN (.store 3 (.t 14) (.t 72))] (kP [4,5,6,7,8,11,12,14,45,46,47] [11,12,14] []))
  (.seq (.seq (.reg false [gM 73 8,gI 74 (.len (.t 73)),gI 75 (.mv (oI 0))] (kP [4,5,6,7,8,11,12,14,45,46,47,73,74,75] [11,12,14] []))
  (.block 2 (.loop (.seq (.reg false [gI 76 (.bin .lss (.t 75) (.t 74))] (kP [4,5,6,7,8,11,12,14,45,46,47,73,74,75,76] [11,12,14] []))
  (.seq (.cond (.t 76)
  .skip
  (.exit 2))
  (.seq (.block 3 (.seq (.reg false [gI 77 (.iadr 3 (.t 73) (.t 75)),gI 78 (.load true 3 (.t 77)),gI 16 (.alloc [(.string (ByteArray.mk #[])),(.int .i64 (0)),(.int .i64 (0))]),gN (.store 3 (.t 16) (.t 78))] (kP [4,5,6,7,8,11,12,14,16,45,46,47,73,74,75] [11,12,14,16] []))
  (.seq (.reg false [gI 79 (.fadr 0 (.t 16)),gI 80 (.load false 1 (.t 79)),gI 81 (.fadr 0 (.t 11)),gI 82 (.load false 1 (.t 81)),gI 83 (.bin .eql (.t 80) (.t 82))] (kP [4,5,6,7,8,11,12,14,16,45,46,47,73,74,75,83] [11,12,14,16] []))
  (.cond (.t 83)
  (.reg false [gI 84 (.load true 3 (.t 16)),gN (.store 3 (.t 14) (.t 84))] (kP [4,5,6,7,8,11,12,14,45,46,47,73,74,75] [11,12,14] []))
  .skip))))
  (.reg false [gI 85 (.bin .add (.t 75) (oI 1)),gM 75 85] (kP [4,5,6,7,8,11,12,14,45,46,47,73,74,75] [11,12,14] []))))))))
  (.seq (.reg false [gI 86 (.load true 3 (.t 12)),gI 87 (.load true 3 (.t 14)),gI 88 (.eqs true true [.s,.i .i64,.i .i64] (.t 86) (.t 87))] (kP [4,5,6,7,8,45,46,47,88] [] []))
  (.cond (.t 88)
  (.seq (.reg false [gI 2 (.mv (.v (.bool false)))] (kP [2] [] []))
  .ret)
  .skip))))))))
  (.reg false [gI 89 (.bin .add (.t 47) (oI 1)),gM 47 89] (kP [4,5,6,7,8,45,46,47] [] []))))))))
  (.seq (.reg false [gM 91 4,gM 92 5,gM 93 6,gM 94 7,gI 95 (.call (.f 13) [(.t 91),(.t 92),(.t 93),(.t 94)]),gM 90 95,gI 96 (.extr (.t 90) 0),gI 97 (.extr (.t 90) 1),gM 17 96,gM 9 97] (kP [4,5,6,7,9,17] [] []))
  (.seq (.seq (.reg false [gM 98 9,gI 99 (.bin .neq (.t 98) (oI 0))] (kP [4,5,6,7,17,99] [] []))
  (.cond (.t 99)
  (.seq (.reg false [gI 2 (.mv (.v (.bool false)))] (kP [2] [] []))
  .ret)
  .skip))
  (.seq (.seq (.reg false [gM 100 17,gI 101 (.len (.t 100)),gI 102 (.mv (oI 0))] (kP [4,5,6,7,100,101,102] [] []))
  (.block 4 (.loop (.seq (.reg false [gI 103 (.bin .lss (.t 102) (.t 101))] (kP [4,5,6,7,100,101,102,103] [] []))
  (.seq (.cond (.t 103)
  .skip
  (.exit 4))
  (.seq (.block 5 (.seq (.reg false [gI 104 (.iadr 3 (.t 100) (.t 102)),gI 105 (.load true 3 (.t 104)),gI 19 (.alloc [(.string (ByteArray.mk #[])),(.int .i64 (0)),(.int .i64 (0))]),gN (.store 3 (.t 19) (.t 105))] (kP [4,5,6,7,19,100,101,102] [19] []))
  (.seq (.reg false [gM 107 4,gM 108 5,gM 109 6,gI 110 (.fadr 0 (.t 19)),gI 111 (.load false 1 (.t 110)),gM 112 7,gI 113 (.call (.f 12) [(.t 107),(.t 108),(.t 109),(.t 111),(.t 112)]),gM 106 113,gI 114 (.extr (.t 106) 0),gI 115 (.extr (.t 106) 1),gI 20 (.alloc [(.string (ByteArray.mk #[])),(.int .i64 (0)),(.int .i64 (0))]),gN (.store 3 (.t 20) (.t 114)),gM 21 115] (kP [4,5,6,7,19,20,21,100,101,102] [19,20] []))
  (.seq (.reg false [gM 116 21,gI 117 (.bin .neq (.t 116) (oI 0)),gM 118 117,gG 119 118 false (.load true 3 (.t 20)),gG 120 118 false (.load true 3 (.t 19)),gG 121 118 false (.eqs true true [.s,.i .i64,.i .i64] (.t 119) (.t 120)),gI 122 (.pick (.t 118) (.v (.bool true)) (.t 121)),gM 123 122,gG 124 123 false (.fadr 1 (.t 19)),gG 125 123 false (.load false 1 (.t 124)),gG 126 123 false (.bin .lss (.t 125) (oI 2)),gI 127 (.pick (.t 123) (.v (.bool true)) (.t 126)),gM 128 127,gG 129 128 false (.fadr 1 (.t 19)),gG 130 128 false (.load false 1 (.t 129)),gG 131 128 false (.bin .gtr (.t 130) (oI 4)),gI 132 (.pick (.t 128) (.v (.bool true)) (.t 131))] (kP [4,5,6,7,100,101,102,132] [] []))
  (.cond (.t 132)
  (.seq (.reg false [gI 2 (.mv (.v (.bool false)))] (kP [2] [] []))
  .ret)
  .skip)))))
  (.reg false [gI 133 (.bin .add (.t 102) (oI 1)),gM 102 133] (kP [4,5,6,7,100,101,102] [] []))))))))
  (.seq (.reg false [gI 134 (.call (.f 14) []),gM 2 134] (kP [2] [] []))
  .ret))))))))))
theorem c_sl : compileCode Tryz.prog Tryz.f3.ntmps (Tryz.f3.body.getD .skip) A_sl = some (C_sl,[]) := by kernel_rfl
theorem fc_sl {xt : Option (List Cel)} {args : List Val} {R : List Cel → Val → Prop} (hn : (if xt.isSome then 1 else 0) + args.length ≤ Tryz.f3.ntmps) (h : ex Tryz.prog C_sl [] (fpost xt [.t 2] R) (initSt xt args)) : FC Tryz.prog 3 xt args R :=
  fc_of_awp Tryz.func3 (by kernel_rfl) (by kernel_rfl) c_sl (by kernel_rfl) (of_decide_eq_true (by kernel_rfl)) hn h

section
variable {P : Program} {s : AS} {k : List KI} {kp : Option Keep} {l : List GI} {Q : AX → AS → Prop}
theorem callx_det {f : FuncId} {key : Nat} {cs0 cs : List Cel} {vargs : List Val} {d : Option Nat} {r : Val} (hf : FC P f (some cs0) vargs (fun cs' x => cs' = cs ∧ x = r)) (hr : dataRV r = true) (hc : cs.all dataRC = true)
    (h : rg P l kp k Q ({ s with bx := upd s.bx key (some cs) }.put d r)) : CALLX P f key cs0 vargs d l kp k Q s :=
  ⟨_, hf, ⟨cs, r, rfl, rfl⟩, fun _ _ hx => by obtain ⟨rfl, rfl⟩ := hx; exact ⟨hr, hc, h⟩⟩
end
theorem actGo_len (kd lim db on off un : Int) : ∀ (l : List Smp) (s : ActX), (actGo kd lim db on off un l s).out.length ≤ s.out.length + l.length := by
  have h1 : ∀ (nx a : Int) (x y : Bool) (s : ActX), (actOn on off un nx a x y s).out.length ≤ s.out.length + 1 := fun nx a x y s => by
    unfold actOn
    simp only []
    (repeat' split) <;> (first | omega | (simp only [setTo_len, List.length_append, List.length_singleton]; omega))
  intro l
  induction l with
  | nil => intro s; exact Nat.le_refl _
  | cons x r ih =>
    intro s
    cases r with
    | nil => rw [actGo]; exact h1 _ _ _ _ _
    | cons y r =>
      rw [actGo]
      have h2 := h1 y.a x.a (hldSp kd lim db x).1 (hldSp kd lim db x).2 s
      have h3 := ih (actOn on off un y.a x.a (hldSp kd lim db x).1 (hldSp kd lim db x).2 s)
      simp only [List.length_cons] at h3 ⊢
      omega
theorem winsA_len {s : List Ser} {m : Nat} (h : ∀ x ∈ s, x.l.length ≤ m) (x : Alm) : (winsA s x).length ≤ m := by
  unfold winsA actW
  refine Nat.le_trans (actGo_len _ _ _ _ _ _ _ _) ?_
  unfold samO
  split
  · rename_i h0
    have hr := idxG_rng (fun y : Ser => decide (y.t = x.t)) s 0
    have := h _ (getD_mem s (idxG (fun y : Ser => decide (y.t = x.t)) 0 s).toNat (by omega))
    simp only [List.length_nil]; omega
  · simp
theorem evAs_len {s : List Ser} {m : Nat} (h : ∀ x ∈ s, x.l.length ≤ m) : ∀ (l : List Alm) (j : Int), (evAs s j l).length ≤ 2 * m * l.length
  | [], j => by simp [evAs]
  | x :: l, j => by
    have h1 := evAs_len h l (j + 1)
    have h2 := winsA_len h x
    rw [evAs, List.length_append, show evA s j x = (winsA s x).flatMap (evV j) from rfl, evV_len, List.length_cons]
    have h3 : 2 * m * (l.length + 1) = 2 * m * l.length + 2 * m := by rw [Nat.mul_add, Nat.mul_one]
    omega
theorem evBs_len (q : List Alm) : ∀ (l : List Opr) (j : Int), (evBs q j l).length ≤ 2 * l.length
  | [], j => by simp [evBs]
  | x :: l, j => by
    have h1 := evBs_len q l (j + 1)
    rw [evBs, List.length_append, List.length_cons]
    have : (evB q j x).length ≤ 2 := by unfold evB; split <;> simp
    omega
theorem allOk_of {l : List Alm} {s : List Ser} {a : List Opr} (h1 : afF l = 0) (h2 : asF s = 0) (h3 : ofF a = 0) (s1 : ∀ x ∈ l, x.sm) (s2 : ∀ x ∈ s, x.sm 10) (s3 : ∀ x ∈ a, x.sm) : AllOk l s a := by
  have a1 := almOk_of h1
  have a3 := actOk_of h3
  refine ⟨a1, serOk_of h2, a3, s1, fun x hx => ⟨(s2 x hx).1, by have := (s2 x hx).2; omega⟩, s3, ?_⟩
  have h5 := evAs_len (m := 10) (fun x hx => by have := (s2 x hx).2; omega) l 0
  have h6 := evBs_len l a 0
  have := a1.len
  have := a3.len
  unfold evs0
  rw [List.length_append]; omega
theorem AllOk.td {l : List Alm} {s : List Ser} {a : List Opr} (h : AllOk l s a) (to : Int) {z : Std} (hz : z ∈ (runA l s a to).td) : ∃ i : Nat, i < l.length ∧ z = (runA l s a to).td.getD i default ∧ z.al = (l.getD i default).k ∧ idxA l z.al = i := by
  have hg := h.lg to
  obtain ⟨i, hi, rfl⟩ := at_mem hz
  rw [hg.n] at hi
  exact ⟨i, hi, rfl, hg.k i hi, by rw [hg.k i hi]; exact idxA_self h.al.up hi⟩
theorem lgF_all {l : List Alm} {to : Int} {s : Sit} (h : LgI l to s) : lgF 0 (to + 1) s.out = s.out := by
  unfold lgF
  refine List.filter_eq_self.2 fun z hz => decide_eq_true ?_
  have := h.b z hz
  omega
theorem rptE_out (up : List (List Int)) (at_ : Int) : ∀ (n i : Nat) (s : Sit), (rptE up at_ n i s).out.length ≤ s.out.length + n
  | 0, i, s => Nat.le_refl _
  | n + 1, i, s => by
    have h1 := rptE_out up at_ n (i + 1) (rptX up at_ i s)
    have h2 : (rptX up at_ i s).out.length ≤ s.out.length + 1 := by
      unfold rptX
      split
      · simp
      · omega
    rw [rptE_succ]; omega
theorem runE_out (l : List Alm) (a : List Opr) (to : Int) : ∀ (ev : List Ev) (s : Sit), (runE l a to ev s).out.length ≤ s.out.length + l.length * ev.length
  | [], s => by simp [runE]
  | e :: r, s => by
    rw [runE, List.length_cons, Nat.mul_add, Nat.mul_one]
    split
    · omega
    · refine Nat.le_trans (runE_out l a to r _) ?_
      split
      · rw [appE_out]; omega
      · have := rptE_out (upA l) e.a l.length 0 (appE l a e s)
        rw [appE_out] at this; omega
theorem AllOk.out {l : List Alm} {s : List Ser} {a : List Opr} (h : AllOk l s a) (to : Int) : (runA l s a to).out.length ≤ 100000000 := by
  have h1 := runE_out l a to (evs l s a) (sit0 l)
  have h2 := h.al.len
  have h3 := h.ev
  rw [evs_len] at h1
  have h4 : l.length * (evs0 l s a).length ≤ 200 * 500000 := Nat.mul_le_mul h2 h3
  unfold runA
  simp only [sit0, List.length_nil] at h1 ⊢
  omega
abbrev stds (fr : Bool) (l : List Std) : Val := .one (.sl fr 3 (l.map stdS))
def sl1St (l : List Alm) (s : List Ser) (a : List Opr) (at_ : Int) (o : List Std) (i : Int) : AS := ⟨tabV [(4, alms true l), (5, sers true s), (6, oprs true a), (7, iv at_), (8, stds true o), (45, alms true l), (46, iv l.length), (47, iv i)], tabO [], tabO []⟩
def sl2St (l : List Alm) (s : List Ser) (a : List Opr) (at_ : Int) (o : List Std) (i : Int) (x : Alm) (st : Std) (j : Int) (z : Std) : AS := ⟨tabV [(4, alms true l), (5, sers true s), (6, oprs true a), (7, iv at_), (8, stds true o), (11, .one (.bx 11 0)), (12, .one (.bx 12 0)), (14, .one (.bx 14 0)), (45, alms true l), (46, iv l.length), (47, iv i), (73, stds true o), (74, iv o.length), (75, iv j)], tabO [(11, almS x), (12, stdS st), (14, stdS z)], tabO []⟩
def sl3St (l : List Alm) (s : List Ser) (a : List Opr) (at_ : Int) (o : List Std) (i : Int) : AS := ⟨tabV [(4, alms true l), (5, sers true s), (6, oprs true a), (7, iv at_), (100, stds true o), (101, iv o.length), (102, iv i)], tabO [], tabO []⟩
set_option maxHeartbeats 8000000 in
set_option maxRecDepth 8000 in
theorem sl_fc (L : List Int) (hL : ∀ x ∈ L, I64 x) (hl : L.length ≤ 9223372036854775807) : FC Tryz.prog 3 none [ints false L] (fun _ r => r = bv true) := by
  refine fc_sl (by simp +arith) ?_
  unfold C_sl
  simp (maxSteps := 1000000) (disch := omega) only [go_sem, reduceIte, reduceCtorEq, Nat.reduceEqDiff, Nat.reduceAdd, Nat.reduceSub, Nat.reduceLeDiff]
  obtain ⟨⟨p1, r1⟩, ⟨_, b1, l, hl0, hl3, hsl, rfl⟩, hf1⟩ := rightAlarms_det L 0 hL hl (by omega) (by omega)
  simp only at b1 hf1
  refine callx_det hf1 rfl rfl ?_
  unfold strm
  simp (maxSteps := 1000000) (disch := omega) only [go_sem, reduceIte, reduceCtorEq, Nat.reduceEqDiff, Nat.reduceAdd, Nat.reduceSub, Nat.reduceLeDiff]
  obtain ⟨⟨p2, r2⟩, ⟨c2, b2, s, hs0, hs2, hss, rfl⟩, hf2⟩ := rightTags_det 8 (by omega) (by omega) L p1 hL hl (by omega) (by omega)
  simp only at b2 c2 hf2
  refine callx_det hf2 rfl rfl ?_
  unfold strm
  simp (maxSteps := 1000000) (disch := omega) only [go_sem, reduceIte, reduceCtorEq, Nat.reduceEqDiff, Nat.reduceAdd, Nat.reduceSub, Nat.reduceLeDiff]
  obtain ⟨⟨p3, r3⟩, ⟨c3, b3, a, ha0, ha8, hsa, rfl⟩, hf3⟩ := rightActs_det L p2 hL hl (by omega) (by omega)
  simp only at b3 c3 hf3
  refine callx_det hf3 rfl rfl ?_
  unfold strm
  simp (maxSteps := 1000000) (disch := omega) only [go_sem, reduceIte, reduceCtorEq, Nat.reduceEqDiff, Nat.reduceAdd, Nat.reduceSub, Nat.reduceLeDiff]
  obtain ⟨⟨p4, r4⟩, ⟨c4, b4, at_, hat1, hat2, rfl⟩, hf4⟩ := range_det 0 150 (by omega) (by omega) (by omega) L p3 hL hl (by omega) (by omega)
  simp only at b4 c4 hf4
  refine callx_det hf4 rfl rfl ?_
  unfold strm
  simp (maxSteps := 1000000) (disch := omega) only [go_sem, reduceIte, reduceCtorEq, Nat.reduceEqDiff, Nat.reduceAdd, Nat.reduceSub, Nat.reduceLeDiff]
  have hA := allOk_of hl0 hs0 ha0 hsl (fun x hx => ⟨(hss x hx).1, by have := (hss x hx).2; omega⟩) hsa
  have hlog := log_fcm l s a hA 0 (at_ + 1) (by omega)
  have hlg := hA.lg at_
  rw [show at_ + 1 - 1 = at_ by omega, lgF_all hlg] at hlog
  refine ⟨rfl, CALLM_rnE ⟨[], [(5000, stdRow (runA l s a at_).out)]⟩ (.tu [.one (.ow 5000 0), iv 0]) (fun k => k) (Go.Ai.swp 11 5000) (fun _ => rfl) (Go.Ai.swp_swp 11 5000) hlog (by simp) rfl rfl rfl rfl ⟨rfl, rfl⟩ ?_⟩
  simp (maxSteps := 1000000) (disch := omega) only [go_sem, reduceIte, reduceCtorEq, Nat.reduceEqDiff, Nat.reduceAdd, Nat.reduceSub, Nat.reduceLeDiff]
  have hst : ∀ key, 0 ≤ idxA l key → FC Tryz.prog 12 none [alms false l, sers false s, oprs false a, sv key, iv at_] (fun _ r => r = .tu [.ag (stdS ((runA l s a at_).td.getD (idxA l key).toNat default)), iv 0]) := fun key hk => stateAt_fc l s a hA key at_ hk (by omega)
  have hsn := standing_fc l s a hA at_ (by omega) (by omega) (fun z hz => by obtain ⟨i, _, _, _, h⟩ := hA.td at_ hz; omega)
  have htd : ∀ z ∈ (runA l s a at_).td, ∃ i : Nat, i < l.length ∧ z = (runA l s a at_).td.getD i default ∧ z.al = (l.getD i default).k ∧ idxA l z.al = i := fun z hz => hA.td at_ hz
  have hself : ∀ i, i < l.length → idxA l (l.getD i default).k = i := fun i hi => idxA_self hA.al.up hi
  have hob := hA.out at_
  clear hlog hf1 hf2 hf3 hf4
  generalize runA l s a at_ = T at *
  refine ex_loop1 (sl1St l s a at_ T.out) (fun i => 0 ≤ i ∧ i ≤ l.length) (fun i => (l.length - i).toNat) 0 ⟨by omega, by omega⟩ rfl ?_
  rintro i ⟨g1, g2⟩
  unfold sl1St
  by_cases hi : i < l.length
  · have em := getD_map_at almS l i [] g1 hi
    have hx := hself i.toNat (by omega)
    have hc := hst (l.getD i.toNat default).k (by omega)
    rw [hx, show ((i.toNat : Int)).toNat = i.toNat by omega] at hc
    have hk := hlg.k i.toNat (by omega)
    have ht := hlg.t i.toNat (by omega)
    generalize hst0 : T.td.getD i.toNat default = st at *
    simp (maxSteps := 1000000) (disch := (first | omega | assumption)) only [go_sem, reduceIte, reduceCtorEq, Nat.reduceEqDiff, Nat.reduceAdd, Nat.reduceSub, Nat.reduceLeDiff]
    refine CALL_det hc (.inl rfl) ?_
    simp (maxSteps := 1000000) (disch := (first | omega | assumption)) only [go_sem, reduceIte, reduceCtorEq, Nat.reduceEqDiff, Nat.reduceAdd, Nat.reduceSub, Nat.reduceLeDiff]
    refine ⟨fun hn => absurd hk hn, fun _ => ?_⟩
    generalize hx0 : l.getD i.toNat default = x at *
    refine ex_loop2 (sl2St l s a at_ T.out i x st) (fun j z => 0 ≤ j ∧ j ≤ T.out.length ∧ z = lastS x.k (T.out.take j.toNat) ⟨x.k, 1, 0⟩) (fun j _ => (T.out.length - j).toNat) 0 ⟨x.k, 1, 0⟩ ⟨by omega, by omega, rfl⟩ rfl ?_
    rintro j z ⟨j1, j2, j3⟩
    unfold sl2St
    by_cases hj : j < T.out.length
    · have eo := getD_map_at stdS T.out j [] j1 hj
      have hsn := take_snocA T.out j j1 hj
      have hls : lastS x.k (T.out.take (j + 1).toNat) ⟨x.k, 1, 0⟩ = if (T.out.getD j.toNat default).al = x.k then T.out.getD j.toNat default else z := by
        rw [hsn, lastS_app, ← j3]; rfl
      by_cases he : (T.out.getD j.toNat default).al = x.k
      · rw [if_pos he] at hls
        simp (maxSteps := 1000000) (disch := (first | omega | assumption)) only [go_sem, reduceIte, reduceCtorEq, Nat.reduceEqDiff, Nat.reduceAdd, Nat.reduceSub, Nat.reduceLeDiff]
        exact ⟨j + 1, T.out.getD j.toNat default, rfl, ⟨by omega, by omega, hls.symm⟩, by omega⟩
      · rw [if_neg he] at hls
        simp (maxSteps := 1000000) (disch := (first | omega | assumption)) only [go_sem, reduceIte, reduceCtorEq, Nat.reduceEqDiff, Nat.reduceAdd, Nat.reduceSub, Nat.reduceLeDiff]
        exact ⟨j + 1, z, rfl, ⟨by omega, by omega, hls.symm⟩, by omega⟩
    · rw [List.take_of_length_le (by omega), ht] at j3
      subst j3
      simp (maxSteps := 1000000) (disch := (first | omega | assumption)) only [go_sem, reduceIte, reduceCtorEq, Nat.reduceEqDiff, Nat.reduceAdd, Nat.reduceSub, Nat.reduceLeDiff]
      exact ⟨i + 1, rfl, ⟨by omega, by omega⟩, by omega⟩
  · simp (maxSteps := 1000000) (disch := (first | omega | assumption)) only [go_sem, reduceIte, reduceCtorEq, Nat.reduceEqDiff, Nat.reduceAdd, Nat.reduceSub, Nat.reduceLeDiff]
    refine CALL_det hsn (.inl rfl) ?_
    simp (maxSteps := 1000000) (disch := (first | omega | assumption)) only [go_sem, reduceIte, reduceCtorEq, Nat.reduceEqDiff, Nat.reduceAdd, Nat.reduceSub, Nat.reduceLeDiff]
    have hmem : ∀ z ∈ stnL l T.td, lookP z = true ∧ 0 ≤ idxA l z.al ∧ T.td.getD (idxA l z.al).toNat default = z := fun z hz => by
      obtain ⟨h1, h2⟩ := List.mem_filter.1 (ssort_mem.1 hz)
      obtain ⟨k, k1, k2, k3, k4⟩ := htd z h1
      refine ⟨h2, by omega, ?_⟩
      rw [k4, show ((k : Int)).toNat = k by omega]; exact k2.symm
    have hzb : (stnL l T.td).length ≤ 200 := by
      unfold stnL
      rw [ssort_length]
      exact Nat.le_trans (List.length_filter_le _ _) (by rw [hlg.n]; omega)
    generalize stnL l T.td = Z at *
    refine ex_loop1 (sl3St l s a at_ Z) (fun i => 0 ≤ i ∧ i ≤ Z.length) (fun i => (Z.length - i).toNat) 0 ⟨by omega, by omega⟩ rfl ?_
    rintro j ⟨j1, j2⟩
    unfold sl3St
    by_cases hj : j < Z.length
    · have eo := getD_map_at stdS Z j [] j1 hj
      obtain ⟨m1, m2, m3⟩ := hmem _ (getD_mem Z j.toNat (by omega))
      have hc := hst (Z.getD j.toNat default).al m2
      rw [m3] at hc
      have m4 := of_decide_eq_true m1
      simp (maxSteps := 1000000) (disch := (first | omega | assumption)) only [go_sem, reduceIte, reduceCtorEq, Nat.reduceEqDiff, Nat.reduceAdd, Nat.reduceSub, Nat.reduceLeDiff]
      refine CALL_det hc (.inl rfl) ?_
      simp (maxSteps := 1000000) (disch := (first | omega | assumption)) only [go_sem, reduceIte, reduceCtorEq, Nat.reduceEqDiff, Nat.reduceAdd, Nat.reduceSub, Nat.reduceLeDiff]
      exact ⟨j + 1, rfl, ⟨by omega, by omega⟩, by omega⟩
    · simp (maxSteps := 1000000) (disch := (first | omega | assumption)) only [go_sem, reduceIte, reduceCtorEq, Nat.reduceEqDiff, Nat.reduceAdd, Nat.reduceSub, Nat.reduceLeDiff]
      refine CALL_det ready_fc (.inl rfl) ?_
      simp (maxSteps := 1000000) (disch := (first | omega | assumption)) only [go_sem, reduceIte, reduceCtorEq, Nat.reduceEqDiff, Nat.reduceAdd, Nat.reduceSub, Nat.reduceLeDiff]
end Go.Proofs.YtcagelfmngmocaaGreatDoor
