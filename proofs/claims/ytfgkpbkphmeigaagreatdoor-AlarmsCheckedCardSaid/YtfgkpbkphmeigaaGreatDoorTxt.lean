/-
 Alarms as they are written, and as they are read. Plain Lean.
-/
import Derived.Test.YtfgkpbkphmeigaaGreatDoorNum
import Derived.Test.YtfgkpbkphmeigaaGreatDoorAlp
namespace Go.Proofs.YtfgkpbkphmeigaaGreatDoor
open Go Go.Ai
set_option linter.unusedSimpArgs false
set_option linter.unusedVariables false
set_option maxHeartbeats 4000000
abbrev hiW : ByteArray := ByteArray.mk #[104, 105, 103, 104]
abbrev loW : ByteArray := ByteArray.mk #[108, 111, 119]
abbrev baW : ByteArray := ByteArray.mk #[98, 97, 100]
abbrev c0W : ByteArray := ByteArray.mk #[48]
abbrev c1W : ByteArray := ByteArray.mk #[49]
abbrev miW : ByteArray := ByteArray.mk #[45]
/-- The word of a kind. -/
def kwB (kd : Int) : ByteArray := if kd = 1 then hiW else if kd = 2 then loW else baW
def ltB (b : Bool) : ByteArray := if b = true then c1W else c0W
def upB (p : ByteArray) : ByteArray := if p = emp then miW else p
def itB (n : Int) : ByteArray := bS (Lib.itoa n)
def fldB (x : Alm) : List ByteArray := [x.k, x.t, kwB x.kd, itB x.lim, itB x.db, itB x.on, itB x.off, itB x.pr, ltB x.lt, upB x.p]
def flds (x : Alm) : List (List UInt8) := (fldB x).map (·.data.toList)
def lineA (x : Alm) : List UInt8 := jn 32 (flds x)
def textA (l : List Alm) : List UInt8 := (l.map fun x => lineA x ++ [10]).flatten
/-! ### reading -/
def wds (s : ByteArray) : List ByteArray := (spl 32 s.data.toList).map bS
def kwN (w : ByteArray) : Int := if w = baW then 3 else if w = loW then 2 else if w = hiW then 1 else 0
def atN (w : ByteArray) : Int := (Lib.atoi w.data.toList).getD 0
def noB (w : ByteArray) : Bool := numOk w.data.toList
def rd1 (w : List ByteArray) : Bool := decide (w.length = 10) && w.all (fun s => decide (s ≠ emp)) && (decide (w.getD 8 emp = c0W) || decide (w.getD 8 emp = c1W)) && ((w.drop 3).take 5).all noB
def rdA (w : List ByteArray) : Alm := ⟨w.getD 0 emp, w.getD 1 emp, kwN (w.getD 2 emp), atN (w.getD 3 emp), atN (w.getD 4 emp), atN (w.getD 5 emp), atN (w.getD 6 emp), atN (w.getD 7 emp), decide (w.getD 8 emp = c1W), if w.getD 9 emp = miW then emp else w.getD 9 emp⟩
def rdL (s : ByteArray) : Alm × Bool := if rd1 (wds s) = true then (rdA (wds s), decide (kwN ((wds s).getD 2 emp) ≠ 0)) else (default, false)
def eachA (ends : Bool) : List ByteArray → Int → List Alm → List Alm × Int × Bool
 | [], _, out => (out, 0, true)
 | s :: r, i, out => if (!ends && decide (r.length = 0)) = true then (out, i, false) else if (rdL s).2 = true then eachA ends r (i + 1) (out ++ [(rdL s).1]) else (out ++ [(rdL s).1], i, false)
def linesA (t : List UInt8) : List ByteArray × Bool := if t = [] then ([], true) else if t.getLast? = some 10 then ((spl 10 t.dropLast).map bS, true) else ((spl 10 t).map bS, false)
def rdT (t : List UInt8) : List Alm × Int × Bool := eachA (linesA t).2 (linesA t).1 0 []
def rdF (t : List UInt8) : List Alm × Int × Int := if t.length > 200000 then ([], 0, 2) else if (rdT t).2.2 = false then ([], (rdT t).2.1, 9) else if caF (rdT t).1 ≠ 0 then ([], 0, caF (rdT t).1) else ((rdT t).1, 0, 0)
/-! ### what is read is written so -/
theorem textA_cons (x : Alm) (l : List Alm) : textA (x :: l) = lineA x ++ [10] ++ textA l := by simp [textA]
/-! ### what is written is read as it was -/
/-- A word: no blank, no line feed in it. -/
def wdOk (w : ByteArray) : Prop := w ≠ emp ∧ (32 : UInt8) ∉ w.data.toList ∧ (10 : UInt8) ∉ w.data.toList
structure AlmW (x : Alm) : Prop where
 k : wdOk x.k ∧ x.k.size ≤ 40
 t : wdOk x.t ∧ x.t.size ≤ 40
 p : x.p ≠ emp → wdOk x.p ∧ x.p ≠ miW ∧ x.p.size ≤ 40
 kd : 1 ≤ x.kd ∧ x.kd ≤ 3
 n1 : -big15 < x.lim ∧ x.lim < big15
 n2 : -big15 < x.db ∧ x.db < big15
 n3 : -big15 < x.on ∧ x.on < big15
 n4 : -big15 < x.off ∧ x.off < big15
 n5 : -big15 < x.pr ∧ x.pr < big15
theorem szL (s : ByteArray) : s.size = s.data.toList.length := by cases s; rfl
theorem keyOk_wd {b : ByteArray} (h : keyOk b = true) : wdOk b ∧ b ≠ miW ∧ b.size ≤ 40 := by
 unfold keyOk at h
 simp only [Bool.and_eq_true, decide_eq_true_eq] at h
 obtain ⟨⟨h1, h2⟩, h3⟩ := h
 have hc : ∀ c ∈ b.data.toList, keyB c.toNat = true := fun c hc => by
  obtain ⟨i, hi, rfl⟩ := List.getElem_of_mem hc
  have := allTo_lt.1 h3 i (by rw [szL]; exact hi)
  rwa [byteN, List.getD_eq_getElem?_getD, List.getElem?_eq_getElem hi] at this
 refine ⟨⟨fun e => ?_, fun hh => ?_, fun hh => ?_⟩, fun e => ?_, h1.2⟩
 ·subst e; exact absurd h1.1 (by decide)
 ·have := hc _ hh; revert this; decide
 ·have := hc _ hh; revert this; decide
 ·subst e; revert h2; decide
theorem dig_no {c : UInt8} (h : isDig c = true) : c ≠ 32 ∧ c ≠ 10 := by
 refine ⟨fun e => ?_, fun e => ?_⟩ <;> subst e <;> revert h <;> decide
theorem itB_wd {n : Int} (h : -big15 < n ∧ n < big15) : wdOk (itB n) ∧ noB (itB n) = true ∧ atN (itB n) = n ∧ (itB n).size ≤ 16 := by
 obtain ⟨h1, h2⟩ := itoa_num h.1 h.2
 have hd : ∀ c ∈ Lib.itoa n, c ≠ 32 ∧ c ≠ 10 := by
  unfold Lib.itoa
  split
  ·intro c hc
   rcases List.mem_cons.1 hc with rfl | hc
   ·decide
   ·exact dig_no (List.all_eq_true.1 (decDigits_dig _) c hc)
  ·intro c hc
   exact dig_no (List.all_eq_true.1 (decDigits_dig _) c hc)
 have hl : (Lib.itoa n).length ≤ 16 := by
  have hb : big15 = 1000000000000000 := rfl
  unfold Lib.itoa
  split
  ·have := dd_len (n := n.natAbs) (by omega)
   simp; omega
  ·have := dd_len (n := n.toNat) (by omega)
   omega
 have hne : itB n ≠ emp := fun e => by
  have e2 : Lib.itoa n = [] := congrArg (fun b : ByteArray => b.data.toList) e
  rw [e2] at h1; revert h1; decide
 exact ⟨⟨hne, fun hc => (hd _ hc).1 rfl, fun hc => (hd _ hc).2 rfl⟩, h1, by unfold atN itB; rw [bS_list, h2]; rfl, by unfold itB; rw [bS_size]; exact hl⟩
theorem kwB_wd {k : Int} (h : 1 ≤ k ∧ k ≤ 3) : wdOk (kwB k) ∧ kwN (kwB k) = k ∧ (kwB k).size ≤ 4 := by
 have : k = 1 ∨ k = 2 ∨ k = 3 := by omega
 rcases this with rfl | rfl | rfl <;> exact ⟨⟨by decide, by decide, by decide⟩, by decide, by decide⟩
theorem ltB_wd (b : Bool) : wdOk (ltB b) ∧ (ltB b = c0W ∨ ltB b = c1W) ∧ decide (ltB b = c1W) = b ∧ (ltB b).size ≤ 1 := by
 cases b
 ·exact ⟨⟨by decide, by decide, by decide⟩, .inl rfl, by decide, by decide⟩
 ·exact ⟨⟨by decide, by decide, by decide⟩, .inr rfl, by decide, by decide⟩
theorem upB_wd {p : ByteArray} (h : p ≠ emp → wdOk p ∧ p ≠ miW ∧ p.size ≤ 40) : wdOk (upB p) ∧ (if upB p = miW then emp else upB p) = p ∧ (upB p).size ≤ 40 := by
 unfold upB
 by_cases e : p = emp
 ·rw [if_pos e]; exact ⟨⟨by decide, by decide, by decide⟩, by rw [if_pos rfl, e], by decide⟩
 ·rw [if_neg e, if_neg (h e).2.1]; exact ⟨(h e).1, rfl, (h e).2.2⟩
theorem fldB_wd {x : Alm} (h : AlmW x) : ∀ w ∈ fldB x, wdOk w ∧ w.size ≤ 40 := by
 intro w hw
 simp only [fldB, List.mem_cons, List.not_mem_nil, or_false] at hw
 rcases hw with rfl | rfl | rfl | rfl | rfl | rfl | rfl | rfl | rfl | rfl
 ·exact h.k
 ·exact h.t
 ·exact ⟨(kwB_wd h.kd).1, Nat.le_trans (kwB_wd h.kd).2.2 (by omega)⟩
 ·exact ⟨(itB_wd h.n1).1, Nat.le_trans (itB_wd h.n1).2.2.2 (by omega)⟩
 ·exact ⟨(itB_wd h.n2).1, Nat.le_trans (itB_wd h.n2).2.2.2 (by omega)⟩
 ·exact ⟨(itB_wd h.n3).1, Nat.le_trans (itB_wd h.n3).2.2.2 (by omega)⟩
 ·exact ⟨(itB_wd h.n4).1, Nat.le_trans (itB_wd h.n4).2.2.2 (by omega)⟩
 ·exact ⟨(itB_wd h.n5).1, Nat.le_trans (itB_wd h.n5).2.2.2 (by omega)⟩
 ·exact ⟨(ltB_wd x.lt).1, Nat.le_trans (ltB_wd x.lt).2.2.2 (by omega)⟩
 ·exact ⟨(upB_wd h.p).1, (upB_wd h.p).2.2⟩
theorem jnT_len (c : UInt8) (m : Nat) : ∀ (xs : List (List UInt8)), (∀ w ∈ xs, w.length ≤ m) → (jn c xs).length ≤ xs.length * (m + 1)
 | [], _ => by simp [jn]
 | [x], h => by have := h x (by simp); simp [jn]; omega
 | x :: y :: r, h => by
  have h1 := h x (by simp)
  have h2 := jnT_len c m (y :: r) (fun w hw => h w (by simp [hw]))
  rw [jn, List.length_append, List.length_cons]
  rw [List.length_cons, Nat.succ_mul]
  omega
theorem line_len {x : Alm} (h : AlmW x) : (lineA x).length ≤ 410 := by
 have h1 := jnT_len 32 40 (flds x) fun w hw => by
  obtain ⟨b, hb, rfl⟩ := List.mem_map.1 hw
  rw [← szL]; exact ((fldB_wd h) b hb).2
 rw [show (flds x).length = 10 from rfl] at h1
 unfold lineA; omega
theorem text_len : ∀ (l : List Alm), (∀ x ∈ l, AlmW x) → (textA l).length ≤ 411 * l.length
 | [], _ => by simp [textA]
 | x :: l, h => by
  have h1 := line_len (h x (by simp))
  have h2 := text_len l (fun y hy => h y (by simp [hy]))
  rw [textA_cons]
  simp only [List.length_append, List.length_cons, List.length_nil]
  omega
theorem almW_of {l : List Alm} (h : AlmOk l) : ∀ x ∈ l, AlmW x := by
 have hx : ∀ x ∈ l, keyOk x.k = true ∧ keyOk x.t = true ∧ almF x.kd x.lim x.db x.on x.off x.pr = 0 := fun x hx => by
  obtain ⟨i, hi, rfl⟩ := List.getElem_of_mem hx
  have := h.flt i hi
  rw [List.getD_eq_getElem?_getD, List.getElem?_eq_getElem hi] at this
  simp only [Option.getD_some] at this
  unfold Alm.flt almG at this
  by_cases hk : (keyOk l[i].k && keyOk l[i].t) = false
  ·rw [if_pos hk] at this; omega
  ·rw [if_neg hk] at this
   simp only [Bool.not_eq_false, Bool.and_eq_true] at hk
   exact ⟨hk.1, hk.2, this⟩
 intro x hm
 obtain ⟨h1, h2, h3⟩ := hx x hm
 have k1 := keyOk_wd h1
 have k2 := keyOk_wd h2
 have hb : big15 = 1000000000000000 := rfl
 unfold almF at h3
 split at h3
 ·omega
 ·rename_i c1
  split at h3
  ·omega
  ·rename_i c2
   simp only [Classical.not_not] at c2
   refine ⟨⟨k1.1, k1.2.2⟩, ⟨k2.1, k2.2.2⟩, fun hp => ?_, by omega, by omega, by omega, by omega, by omega, by omega⟩
   obtain ⟨p1, p2⟩ := h.par x hm hp
   have := idxG_at (fun y : Alm => decide (y.k = x.p)) l 0 (by omega) p1
   have hk := of_decide_eq_true this
   have hm2 : l.getD (idxG (fun y : Alm => decide (y.k = x.p)) 0 l - 0).toNat default ∈ l := getD_mem l _ (by unfold idxA at p1 p2; omega)
   have := keyOk_wd (hx _ hm2).1
   rw [hk] at this
   exact this
theorem almOk_ca {l : List Alm} (hc : caF l = 0) : AlmOk l := by
 unfold caF at hc
 by_cases c1 : l.length > 200
 ·rw [if_pos c1] at hc; omega
 rw [if_neg c1] at hc
 by_cases c2 : afGo none l ≠ 0
 ·rw [if_pos c2] at hc; exact absurd hc c2
 rw [if_neg c2] at hc
 by_cases c3 : l.any (noPar l) = true
 ·rw [if_pos c3] at hc; omega
 rw [if_neg c3] at hc
 obtain ⟨h1, h2, _⟩ := afGo_ok l none (by omega)
 refine ⟨by omega, h1, asc_of_adj h2, fun x hx hp => ?_, fun x hx => ?_⟩
 ·rcases idxA_rng l x.p with h3 | h3
  ·exact absurd (List.any_eq_true.2 ⟨x, hx, decide_eq_true ⟨hp, by omega⟩⟩) c3
  ·exact h3
 ·by_cases c4 : (l.any fun x => decide ((parA l (l.length + 1) x).length > l.length)) = true
  ·rw [if_pos c4] at hc; omega
  ·apply Classical.byContradiction
   intro hn
   exact c4 (List.any_eq_true.2 ⟨x, hx, decide_eq_true (by omega)⟩)
/-! ### the law -/
end Go.Proofs.YtfgkpbkphmeigaaGreatDoor
