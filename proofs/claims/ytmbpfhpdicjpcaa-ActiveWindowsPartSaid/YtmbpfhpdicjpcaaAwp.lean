
/-
  Active windows, in plain terms: they are apart; a larger deadband, and a longer delay, bring no more of them.
-/
import Derived.Test.YtmbpfhpdicjpcaaFrl
import Derived.Test.YtmbpfhpdicjpcaaActb
namespace Go.Proofs.Ytmbpfhpdicjpcaa
open Go Go.Ai
set_option linter.unusedSimpArgs false
set_option linter.unusedVariables false
set_option maxHeartbeats 4000000
theorem act_ind {kd1 lim1 db1 on1 off1 kd2 lim2 db2 on2 off2 un : Int} (R : Int → ActX → ActX → Prop)
    (step : ∀ (s : Smp) (lo nx : Int) (x1 x2 : ActX), lo ≤ s.a → okSmp s → s.a < nx → R lo x1 x2 → R nx (actOn on1 off1 un nx s.a (hldSp kd1 lim1 db1 s).1 (hldSp kd1 lim1 db1 s).2 x1) (actOn on2 off2 un nx s.a (hldSp kd2 lim2 db2 s).1 (hldSp kd2 lim2 db2 s).2 x2)) :
    ∀ (l : List Smp) (lo : Int) (x1 x2 : ActX), Asc lo l → R lo x1 x2 → ∃ T, R T (actGo kd1 lim1 db1 on1 off1 un l x1) (actGo kd2 lim2 db2 on2 off2 un l x2)
  | [], lo, x1, x2, _, h => ⟨lo, h⟩
  | [s], lo, x1, x2, ha, h => by
    have h2 := ha.2.1
    unfold okSmp at h2
    exact ⟨_, step s lo 345686400000 x1 x2 ha.1 ha.2.1 (by omega) h⟩
  | s :: s' :: r, lo, x1, x2, ha, h => by
    obtain ⟨h1, h2, h3, h4, h5⟩ := ha
    rw [actGo, actGo]
    exact act_ind R step (s' :: r) s'.a _ _ ⟨by omega, h4, h5⟩ (step s lo s'.a x1 x2 h1 h2 (by omega) h)
theorem fch_snoc : ∀ {l : List (Int × Int)} {lo : Int} {w : Int × Int}, Fch lo l → (∀ x ∈ l, x.2 ≤ w.1) → lo ≤ w.1 → w.1 < w.2 → w.2 ≤ 345686400000 → Fch lo (l ++ [w])
  | [], lo, w, _, _, h1, h2, h3 => ⟨h1, h2, h3, trivial⟩
  | y :: r, lo, w, h, hx, h1, h2, h3 => ⟨h.1, h.2.1, h.2.2.1, fch_snoc h.2.2.2 (fun x hx2 => hx x (by simp [hx2])) (hx y (by simp)) h2 h3⟩
/-- Where the search is that has come to a moment. -/
structure ActP (un T : Int) (x : ActX) : Prop where
  c : x.act = false → Fch 0 x.out ∧ ∀ w ∈ x.out, w.2 ≤ T
  o : x.act = true → ∃ init f, x.out = init ++ [(f, un)] ∧ Fch 0 init ∧ (∀ w ∈ init, w.2 ≤ f) ∧ 0 ≤ f ∧ f < T ∧ f < un
theorem ActP.mono {un T T' : Int} {x : ActX} (h : ActP un T x) (hT : T ≤ T') : ActP un T' x :=
  ⟨fun h1 => ⟨(h.c h1).1, fun w hw => by have := (h.c h1).2 w hw; omega⟩, fun h1 => by
    obtain ⟨init, f, k1, k2, k3, k4, k5, k6⟩ := h.o h1
    exact ⟨init, f, k1, k2, k3, k4, by omega, k6⟩⟩
theorem ActP.same {un T : Int} {x : ActX} (h : ActP un T x) (t1 t2 : Int) (h1 h2 : Bool) : ActP un T ⟨x.out, x.act, t1, t2, h1, h2⟩ := ⟨h.c, h.o⟩
theorem ActP.open {un T t : Int} {x : ActX} (hun : un ≤ 345686400000) (h : ActP un T x) (ha : x.act = false) {T' : Int} (h0 : 0 ≤ t) (h1 : T ≤ t) (h2 : t < T') (h3 : t < un) (t1 t2 : Int) (b1 b2 : Bool) : ActP un T' ⟨x.out ++ [(t, un)], true, t1, t2, b1, b2⟩ :=
  ⟨fun h => (by cases h), fun _ => ⟨x.out, t, rfl, (h.c ha).1, fun w hw => by have := (h.c ha).2 w hw; omega, h0, h2, h3⟩⟩
theorem ActP.close {un T t : Int} {x : ActX} (hun : un ≤ 345686400000) (h : ActP un T x) (ha : x.act = true) {T' : Int} (h1 : T ≤ t) (h2 : t < T') (h3 : t < un) (t1 t2 : Int) (b1 b2 : Bool) : ActP un T' ⟨setTo x.out t, false, t1, t2, b1, b2⟩ := by
  obtain ⟨init, f, k1, k2, k3, k4, k5, k6⟩ := h.o ha
  refine ⟨fun _ => ?_, fun h => (by cases h)⟩
  simp only
  rw [k1, snoc_set]
  refine ⟨fch_snoc k2 k3 k4 (by simp only; omega) (by simp only; omega), fun w hw => ?_⟩
  simp only [List.mem_append, List.mem_cons, List.not_mem_nil, or_false] at hw
  rcases hw with hw | rfl
  · have := k3 w hw; omega
  · simp only; omega
theorem ActP.fch {un T : Int} {x : ActX} (hun : un ≤ 345686400000) (h : ActP un T x) : Fch 0 x.out := by
  cases ha : x.act with
  | false => exact (h.c ha).1
  | true =>
    obtain ⟨init, f, k1, k2, k3, k4, k5, k6⟩ := h.o ha
    rw [k1]
    exact fch_snoc k2 k3 k4 k6 hun
theorem hld_cases (kd lim db : Int) (s : Smp) (h : 0 ≤ db) : (hldSp kd lim db s).1 = true ∧ (hldSp kd lim db s).2 = false ∨ (hldSp kd lim db s).1 = false ∧ (hldSp kd lim db s).2 = true ∨ (hldSp kd lim db s).1 = false ∧ (hldSp kd lim db s).2 = false := by
  have := hld_one (kd := kd) (lim := lim) (db := db) s h
  cases h1 : (hldSp kd lim db s).1 <;> cases h2 : (hldSp kd lim db s).2 <;> simp_all
theorem ActP.step {un lo nx a on off : Int} {X Y : Bool} {x : ActX} (hun : un ≤ 345686400000) (h0 : 0 ≤ a) (hlo : lo ≤ a) (hnx : a < nx) (hXY : X = true ∧ Y = false ∨ X = false ∧ Y = true ∨ X = false ∧ Y = false) (h : ActP un lo x) : ActP un nx (actOn on off un nx a X Y x) := by
  obtain ⟨out, act, t1, t2, h1, h2⟩ := x
  rcases hXY with ⟨rfl, rfl⟩ | ⟨rfl, rfl⟩ | ⟨rfl, rfl⟩
  · rw [actOn_x]
    generalize (if h1 = false then a else t1) = T1
    by_cases c : act = false ∧ max a (T1 + on) < nx ∧ max a (T1 + on) < un
    · rw [if_pos c]
      exact h.open hun c.1 (by omega) (by omega) c.2.1 c.2.2 _ _ _ _
    · rw [if_neg c]
      exact (h.mono (by omega)).same _ _ _ _
  · rw [actOn_y]
    generalize (if h2 = false then a else t2) = T2
    by_cases c : act = true ∧ max a (T2 + off) < nx ∧ max a (T2 + off) < un
    · rw [if_pos c]
      exact h.close hun c.1 (by omega) c.2.1 c.2.2 _ _ _ _
    · rw [if_neg c]
      exact (h.mono (by omega)).same _ _ _ _
  · rw [actOn_n]
    exact (h.mono (by omega)).same _ _ _ _
theorem actP_0 (un : Int) : ActP un 0 ⟨[], false, 0, 0, false, false⟩ := ⟨fun _ => ⟨trivial, by simp⟩, fun h => (by cases h)⟩
/-- The windows are apart. -/
theorem act_apart {kd lim db on off un : Int} {l : List Smp} (hun : un ≤ 345686400000) (hdb : 0 ≤ db) (h : Asc 0 l) : Fch 0 (actW kd lim db on off un l) := by
  obtain ⟨T, h1⟩ := act_ind (kd1 := kd) (lim1 := lim) (db1 := db) (on1 := on) (off1 := off) (kd2 := kd) (lim2 := lim) (db2 := db) (on2 := on) (off2 := off) (un := un) (fun T x _ => ActP un T x)
    (fun s lo nx x1 x2 h1 h2 h3 h4 => ActP.step hun h2.1 h1 h3 (hld_cases kd lim db s hdb) h4) l 0 _ ⟨[], false, 0, 0, false, false⟩ h (actP_0 un)
  exact h1.fch hun
/-- A larger deadband: where both searches are. -/
structure ActD (T : Int) (x y : ActX) : Prop where
  a : x.act = true → y.act = true
  n : y.out.length ≤ x.out.length
  h : x.h1 = y.h1
  t : x.h1 = true → x.t1 = y.t1
  u : y.h2 = true → x.h2 = true ∧ x.t2 ≤ y.t2
  v : x.h2 = true → x.t2 ≤ T
theorem ActD.step {un lo nx a off : Int} {X Y1 Y2 : Bool} {x y : ActX} (hlo : lo ≤ a) (hnx : a < nx) (h1 : X = true ∧ Y1 = false ∧ Y2 = false ∨ X = false ∧ (Y2 = true → Y1 = true)) (h : ActD lo x y) : ActD nx (actOn 0 off un nx a X Y1 x) (actOn 0 off un nx a X Y2 y) := by
  obtain ⟨out, act, t1, t2, b1, b2⟩ := x
  obtain ⟨out', act', t1', t2', b1', b2'⟩ := y
  obtain ⟨ha, hn, hh, ht, hu, hv⟩ := h
  simp only at ha hn hh ht hu hv
  subst hh
  rcases h1 with ⟨rfl, rfl, rfl⟩ | ⟨rfl, hY⟩
  · rw [actOn_x, actOn_x]
    have e : (if b1 = false then a else t1) = (if b1 = false then a else t1') := by
      cases b1 with
      | false => rfl
      | true => simpa using ht rfl
    rw [← e]
    generalize (if b1 = false then a else t1) = T1
    by_cases c : max a (T1 + 0) < nx ∧ max a (T1 + 0) < un
    · cases act with
      | false =>
        rw [if_pos ⟨rfl, c⟩]
        cases act' with
        | false =>
          rw [if_pos ⟨rfl, c⟩]
          exact ⟨fun _ => rfl, (by simp; omega), rfl, fun _ => rfl, fun h => (by cases h), fun h => (by cases h)⟩
        | true =>
          rw [if_neg (fun h => by simp at h)]
          exact ⟨fun _ => rfl, (by simp; omega), rfl, fun _ => rfl, fun h => (by cases h), fun h => (by cases h)⟩
      | true =>
        rw [if_neg (fun h => by simp at h), if_neg (fun h => by rw [ha rfl] at h; simp at h)]
        exact ⟨ha, hn, rfl, fun _ => rfl, fun h => (by cases h), fun h => (by cases h)⟩
    · rw [if_neg (fun h => c h.2), if_neg (fun h => c h.2)]
      exact ⟨ha, hn, rfl, fun _ => rfl, fun h => (by cases h), fun h => (by cases h)⟩
  · have e2 : Y2 = true → (if b2 = false then a else t2) ≤ (if b2' = false then a else t2') := by
      intro _
      cases b2' with
      | false =>
        rw [if_pos rfl]
        cases b2 with
        | false => simp
        | true => have := hv rfl; simp; omega
      | true =>
        obtain ⟨h3, h4⟩ := hu rfl
        subst h3
        simpa using h4
    have e3 : (if b2 = false then a else t2) ≤ nx := by
      cases b2 with
      | false => simp; omega
      | true => have := hv rfl; simp; omega
    cases Y1 with
    | false =>
      have : Y2 = false := by cases Y2 with | false => rfl | true => exact absurd (hY rfl) (by simp)
      subst this
      rw [actOn_n, actOn_n]
      exact ⟨ha, hn, rfl, fun h => (by cases h), fun h => (by cases h), fun h => (by cases h)⟩
    | true =>
      rw [actOn_y]
      cases Y2 with
      | false =>
        rw [actOn_n]
        generalize (if b2 = false then a else t2) = T2 at *
        by_cases c : act = true ∧ max a (T2 + off) < nx ∧ max a (T2 + off) < un
        · rw [if_pos c]
          exact ⟨fun h => (by cases h), by simp only [setTo_len]; exact hn, rfl, fun h => (by cases h), fun h => (by cases h), fun _ => e3⟩
        · rw [if_neg c]
          exact ⟨ha, hn, rfl, fun h => (by cases h), fun h => (by cases h), fun _ => e3⟩
      | true =>
        have e4 := e2 rfl
        rw [actOn_y]
        generalize (if b2 = false then a else t2) = T2 at *
        generalize (if b2' = false then a else t2') = T2' at *
        by_cases c : act = true ∧ max a (T2 + off) < nx ∧ max a (T2 + off) < un
        · rw [if_pos c]
          by_cases c' : act' = true ∧ max a (T2' + off) < nx ∧ max a (T2' + off) < un
          · rw [if_pos c']
            exact ⟨fun h => (by cases h), by simp only [setTo_len]; exact hn, rfl, fun h => (by cases h), fun _ => ⟨rfl, e4⟩, fun _ => e3⟩
          · rw [if_neg c']
            exact ⟨fun h => (by cases h), by simp only [setTo_len]; exact hn, rfl, fun h => (by cases h), fun _ => ⟨rfl, e4⟩, fun _ => e3⟩
        · rw [if_neg c]
          by_cases c' : act' = true ∧ max a (T2' + off) < nx ∧ max a (T2' + off) < un
          · rw [if_pos c']
            refine ⟨fun h => absurd ⟨h, by omega, by omega⟩ c, by simp only [setTo_len]; exact hn, rfl, fun h => (by cases h), fun _ => ⟨rfl, e4⟩, fun _ => e3⟩
          · rw [if_neg c']
            exact ⟨ha, hn, rfl, fun h => (by cases h), fun _ => ⟨rfl, e4⟩, fun _ => e3⟩
theorem hld_db {kd lim db db' : Int} (s : Smp) (h0 : 0 ≤ db) (h1 : db ≤ db') (hk : kd = 1 ∨ kd = 2) : (hldSp kd lim db s).1 = (hldSp kd lim db' s).1 ∧ ((hldSp kd lim db s).1 = true ∧ (hldSp kd lim db s).2 = false ∧ (hldSp kd lim db' s).2 = false ∨ (hldSp kd lim db s).1 = false ∧ ((hldSp kd lim db' s).2 = true → (hldSp kd lim db s).2 = true)) := by
  unfold hldSp
  rcases hk with rfl | rfl
  · rw [if_pos rfl, if_pos rfl]
    refine ⟨rfl, ?_⟩
    simp only [decide_eq_true_eq, decide_eq_false_iff_not]
    omega
  · rw [if_neg (by omega), if_pos rfl, if_neg (by omega), if_pos rfl]
    refine ⟨rfl, ?_⟩
    simp only [decide_eq_true_eq, decide_eq_false_iff_not]
    omega
/-- A larger deadband brings no more windows. -/
theorem act_db {kd lim db db' off un : Int} {l : List Smp} (h0 : 0 ≤ db) (h1 : db ≤ db') (hk : kd = 1 ∨ kd = 2) (h : Asc 0 l) : (actW kd lim db' 0 off un l).length ≤ (actW kd lim db 0 off un l).length := by
  obtain ⟨T, h2⟩ := act_ind (kd1 := kd) (lim1 := lim) (db1 := db) (on1 := 0) (off1 := off) (kd2 := kd) (lim2 := lim) (db2 := db') (on2 := 0) (off2 := off) (un := un) ActD
    (fun s lo nx x1 x2 k1 k2 k3 k4 => by
      obtain ⟨e, k5⟩ := hld_db (kd := kd) (lim := lim) s h0 h1 hk
      rw [← e]
      exact ActD.step k1 k3 k5 k4) l 0 ⟨[], false, 0, 0, false, false⟩ ⟨[], false, 0, 0, false, false⟩ h ⟨fun h => h, by simp, rfl, fun _ => rfl, fun h => (by cases h), fun h => (by cases h)⟩
  exact h2.n
/-- A delay: where both searches are. -/
structure ActL (un T : Int) (x y : ActX) : Prop where
  p : ActP un T x
  h : x.h1 = y.h1
  t : x.h1 = true → x.t1 = y.t1
  w : ∀ w ∈ y.out, w.1 ≤ T ∧ ∃ v ∈ x.out, v.1 ≤ w.1 ∧ w.1 ≤ v.2
theorem set_fst {out : List (Int × Int)} {t : Int} {w : Int × Int} (h : w ∈ setTo out t) : ∃ w' ∈ out, w'.1 = w.1 := by
  rcases List.eq_nil_or_concat out with rfl | ⟨i, b, rfl⟩
  · simp [setTo] at h
  · rw [List.concat_eq_append] at *
    rw [snoc_set] at h
    simp only [List.mem_append, List.mem_cons, List.not_mem_nil, or_false] at h
    rcases h with h | rfl
    · exact ⟨w, by simp [h], rfl⟩
    · exact ⟨b, by simp, rfl⟩
theorem ActL.step {un lo nx a on off : Int} {X Y : Bool} {x y : ActX} (hun : un ≤ 345686400000) (hon : 0 ≤ on) (h0 : 0 ≤ a) (hlo : lo ≤ a) (hnx : a < nx) (hXY : X = true ∧ Y = false ∨ X = false ∧ Y = true ∨ X = false ∧ Y = false) (h : ActL un lo x y) : ActL un nx (actOn 0 off un nx a X Y x) (actOn on off un nx a X Y y) := by
  have hp := ActP.step (on := 0) (off := off) hun h0 hlo hnx hXY h.p
  obtain ⟨out, act, t1, t2, b1, b2⟩ := x
  obtain ⟨out', act', t1', t2', b1', b2'⟩ := y
  obtain ⟨hP, hh, ht, hw⟩ := h
  simp only at hh ht hw
  subst hh
  have hw2 : ∀ w ∈ out', w.1 ≤ nx ∧ ∃ v ∈ out, v.1 ≤ w.1 ∧ w.1 ≤ v.2 := fun w hm => ⟨by have := (hw w hm).1; omega, (hw w hm).2⟩
  rcases hXY with ⟨rfl, rfl⟩ | ⟨rfl, rfl⟩ | ⟨rfl, rfl⟩
  · rw [actOn_x] at hp ⊢
    rw [actOn_x]
    have e : (if b1 = false then a else t1) = (if b1 = false then a else t1') := by
      cases b1 with
      | false => rfl
      | true => simpa using ht rfl
    rw [← e]
    generalize (if b1 = false then a else t1) = T1 at *
    have hw3 : ∀ w ∈ out', w.1 ≤ nx ∧ ∃ v ∈ out ++ [(max a (T1 + 0), un)], v.1 ≤ w.1 ∧ w.1 ≤ v.2 := fun w hm => by
      obtain ⟨k1, v, k2, k3⟩ := hw2 w hm
      exact ⟨k1, v, by simp [k2], k3⟩
    by_cases c : act' = false ∧ max a (T1 + on) < nx ∧ max a (T1 + on) < un
    · rw [if_pos c]
      by_cases c2 : act = false ∧ max a (T1 + 0) < nx ∧ max a (T1 + 0) < un
      · rw [if_pos c2] at hp ⊢
        refine ⟨hp, rfl, fun _ => rfl, fun w hm => ?_⟩
        simp only [List.mem_append, List.mem_cons, List.not_mem_nil, or_false] at hm
        rcases hm with hm | rfl
        · exact hw3 w hm
        · exact ⟨by simp only; omega, (max a (T1 + 0), un), by simp, by simp only; omega, by simp only; omega⟩
      · rw [if_neg c2] at hp ⊢
        have ha : act = true := by
          cases act with
          | true => rfl
          | false => exact absurd ⟨rfl, by omega, by omega⟩ c2
        obtain ⟨init, f, k1, k2, k3, k4, k5, k6⟩ := hP.o ha
        simp only at k1
        refine ⟨hp, rfl, fun _ => rfl, fun w hm => ?_⟩
        simp only [List.mem_append, List.mem_cons, List.not_mem_nil, or_false] at hm
        rcases hm with hm | rfl
        · exact hw2 w hm
        · exact ⟨by simp only; omega, (f, un), by simp [k1], by simp only; omega, by simp only; omega⟩
    · rw [if_neg c]
      by_cases c2 : act = false ∧ max a (T1 + 0) < nx ∧ max a (T1 + 0) < un
      · rw [if_pos c2] at hp ⊢
        exact ⟨hp, rfl, fun _ => rfl, hw3⟩
      · rw [if_neg c2] at hp ⊢
        exact ⟨hp, rfl, fun _ => rfl, hw2⟩
  · rw [actOn_y] at hp ⊢
    rw [actOn_y]
    generalize (if b2 = false then a else t2) = T2 at *
    generalize (if b2' = false then a else t2') = T2' at *
    have key : ∀ o : List (Int × Int), (∀ w ∈ out', w.1 ≤ nx ∧ ∃ v ∈ o, v.1 ≤ w.1 ∧ w.1 ≤ v.2) → ∀ (w : Int × Int), w ∈ (if act' = true ∧ max a (T2' + off) < nx ∧ max a (T2' + off) < un then (⟨setTo out' (max a (T2' + off)), false, t1', T2', false, true⟩ : ActX) else ⟨out', act', t1', T2', false, true⟩).out → w.1 ≤ nx ∧ ∃ v ∈ o, v.1 ≤ w.1 ∧ w.1 ≤ v.2 := by
      intro o ho w hm
      split at hm
      · obtain ⟨w', k1, k2⟩ := set_fst hm
        rw [← k2]; exact ho w' k1
      · exact ho w hm
    have kh : ∀ z : ActX, z = (if act' = true ∧ max a (T2' + off) < nx ∧ max a (T2' + off) < un then (⟨setTo out' (max a (T2' + off)), false, t1', T2', false, true⟩ : ActX) else ⟨out', act', t1', T2', false, true⟩) → z.h1 = false := by
      intro z hz; rw [hz]; split <;> rfl
    by_cases c2 : act = true ∧ max a (T2 + off) < nx ∧ max a (T2 + off) < un
    · rw [if_pos c2] at hp ⊢
      refine ⟨hp, (kh _ rfl).symm, fun h => (by cases h), key _ (fun w hm => ?_)⟩
      obtain ⟨init, f, k1, k2, k3, k4, k5, k6⟩ := hP.o c2.1
      simp only at k1
      obtain ⟨m1, v, m2, m3⟩ := hw w hm
      refine ⟨by omega, ?_⟩
      rw [k1, snoc_set]
      rw [k1] at m2
      simp only [List.mem_append, List.mem_cons, List.not_mem_nil, or_false] at m2
      rcases m2 with m2 | rfl
      · exact ⟨v, by simp [m2], m3⟩
      · exact ⟨(f, max a (T2 + off)), by simp, m3.1, by simp only; omega⟩
    · rw [if_neg c2] at hp ⊢
      exact ⟨hp, (kh _ rfl).symm, fun h => (by cases h), key _ hw2⟩
  · rw [actOn_n] at hp ⊢
    rw [actOn_n]
    exact ⟨hp, rfl, fun h => (by cases h), hw2⟩
/-- With a delay, windows begin within those without. -/
theorem act_on {kd lim db on off un : Int} {l : List Smp} (hun : un ≤ 345686400000) (hdb : 0 ≤ db) (hon : 0 ≤ on) (h : Asc 0 l) : ∀ w ∈ actW kd lim db on off un l, ∃ v ∈ actW kd lim db 0 off un l, v.1 ≤ w.1 ∧ w.1 ≤ v.2 := by
  obtain ⟨T, h2⟩ := act_ind (kd1 := kd) (lim1 := lim) (db1 := db) (on1 := 0) (off1 := off) (kd2 := kd) (lim2 := lim) (db2 := db) (on2 := on) (off2 := off) (un := un) (ActL un)
    (fun s lo nx x1 x2 k1 k2 k3 k4 => ActL.step hun hon k2.1 k1 k3 (hld_cases kd lim db s hdb) k4) l 0 ⟨[], false, 0, 0, false, false⟩ ⟨[], false, 0, 0, false, false⟩ h ⟨actP_0 un, rfl, fun _ => rfl, by simp⟩
  exact fun w hw => (h2.w w hw).2
theorem act_len {kd lim db on off un : Int} (l : List Smp) : (actW kd lim db on off un l).length ≤ l.length := by
  have h : ∀ (l : List Smp) (x : ActX), (actGo kd lim db on off un l x).out.length ≤ x.out.length + l.length := by
    have h1 : ∀ (nx a : Int) (X Y : Bool) (x : ActX), (actOn on off un nx a X Y x).out.length ≤ x.out.length + 1 := by
      intro nx a X Y x
      unfold actOn; simp only []
      (repeat' split) <;> (try simp only [setTo_len, List.length_append, List.length_singleton]) <;> omega
    intro l
    induction l with
    | nil => intro x; simp [actGo]
    | cons s r ih =>
      intro x
      cases r with
      | nil => rw [actGo]; exact h1 _ _ _ _ _
      | cons s' r =>
        rw [actGo]
        have := ih (actOn on off un s'.a s.a (hldSp kd lim db s).1 (hldSp kd lim db s).2 x)
        have h2 := h1 s'.a s.a (hldSp kd lim db s).1 (hldSp kd lim db s).2 x
        rw [List.length_cons]; omega
  have := h l ⟨[], false, 0, 0, false, false⟩
  simpa [actW] using this
end Go.Proofs.Ytmbpfhpdicjpcaa
