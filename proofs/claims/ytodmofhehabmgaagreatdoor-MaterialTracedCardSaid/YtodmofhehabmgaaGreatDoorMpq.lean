/-
 Scales of batches, in plain terms: how many parts a batch has, by those of the batches that went into it.
-/
import Derived.Test.YtodmofhehabmgaaGreatDoorTrp
namespace Go.Proofs.YtodmofhehabmgaaGreatDoor
open Go Go.Ai
set_option linter.unusedSimpArgs false
set_option linter.unusedVariables false
set_option maxHeartbeats 4000000
/-- The transfers into a batch. -/
def inT (l : List Trf) (b : ByteArray) : List Trf := l.filter fun y => decide (y.to = b)
/-- A product, or 0, which says that it is too great. -/
def tms (a b : Int) : Int := if a = 0 ∨ b = 0 ∨ a > (1000000000000 : Int).tdiv b then 0 else a * b
theorem tms_bd {a b : Int} (ha : 0 ≤ a) (hb : 0 ≤ b) : 0 ≤ tms a b ∧ tms a b ≤ 1000000000000 := by
 unfold tms
 split
 ·omega
 ·rename_i h
  have h1 : 1 ≤ b := by omega
  have h2 : a ≤ (1000000000000 : Int).tdiv b := by omega
  have h3 : (1000000000000 : Int).tdiv b * b ≤ 1000000000000 := by
   rw [Int.tdiv_eq_ediv_of_nonneg (by omega)]
   exact Int.ediv_mul_le _ (by omega)
  exact ⟨Int.mul_nonneg ha hb, Int.le_trans (Int.mul_le_mul_of_nonneg_right h2 hb) h3⟩
def scStep (k : ByteArray → Int) (p : Int × Int) (x : Trf) : Int × Int :=
 (p.1 + x.amt, tms p.2 (if 0 < k x.frm ∧ 0 < p.2 then (k x.frm).tdiv (Nat.gcd (k x.frm).toNat p.2.toNat) else k x.frm))
def scOf (k : ByteArray → Int) (ins : List Trf) : Int := if 0 < (ins.foldl (scStep k) (0, 1)).1 then tms (ins.foldl (scStep k) (0, 1)).1 (ins.foldl (scStep k) (0, 1)).2 else 1
def scN (l : List Trf) : Nat → ByteArray → Int
 | 0, _ => 0
 | n + 1, b => scOf (scN l n) (inT l b)
/-- How many batches went into one, at once or later: it falls along transfers. -/
def rk (l : List Trf) (b : ByteArray) : Nat := (srcL l b).length
def SC (l : List Trf) (b : ByteArray) : Int := scN l (rk l b + 1) b
structure Flo (l : List Trf) : Prop where
 len : l.length ≤ 500
 amt : ∀ x ∈ l, 1 ≤ x.amt ∧ x.amt ≤ 1000000
 acy : ∀ x ∈ l, x.to ∉ srcL l x.to
theorem flo_of {l : List Trf} (h : ctF l = 0) : Flo l := by
 unfold ctF at h
 split at h
 ·omega
 ·rename_i h1
  split at h
  ·rename_i h2; exact absurd h h2
  ·rename_i h2
   split at h
   ·omega
   ·rename_i h3
    refine ⟨by omega, fun x hx => ?_, fun x hx => ?_⟩
    ·have := tgGo_ok l none (by omega) x hx
     unfold tfl at this
     split at this
     ·omega
     ·split at this
      ·omega
      ·split at this <;> omega
    ·rw [Bool.not_eq_true, List.any_eq_false] at h3
     have := h3 x hx
     simpa using this
theorem inT_mem {l : List Trf} {b : ByteArray} {x : Trf} : x ∈ inT l b ↔ x ∈ l ∧ x.to = b := by
 unfold inT; rw [List.mem_filter, decide_eq_true_eq]
theorem stI_of {l : List Trf} {b : ByteArray} {x : Trf} (h : x ∈ inT l b) : x.frm ∈ stI l b := List.mem_map.2 ⟨x, h, rfl⟩
theorem reach_up {st : ByteArray → List ByteArray} {a b c : ByteArray} (h : Reach st b c) (hab : b ∈ st a) : Reach st a c := by
 induction h with
 | one hy => exact .more (.one hab) hy
 | more _ hy ih => exact .more ih hy
theorem reach_to {l : List Trf} {b s : ByteArray} (h : Reach (stI l) b s) : ∃ x ∈ l, x.to = b := by
 induction h with
 | one hy => obtain ⟨x, hx, _⟩ := List.mem_map.1 hy; exact ⟨x, inT_mem.1 hx⟩
 | more _ _ ih => exact ih
theorem rk_lt {l : List Trf} (hf : Flo l) {b : ByteArray} {x : Trf} (hx : x ∈ inT l b) : rk l x.frm < rk l b := by
 have hst := stI_of hx
 have hns : x.frm ∉ srcL l x.frm := fun h => by
  obtain ⟨y, hy, hyt⟩ := reach_to ((srcL_mem _ _ _).1 h)
  exact hf.acy y hy (by rw [hyt]; exact h)
 have hnd := (srcL_clo l x.frm).nd
 have h1 : (x.frm :: srcL l x.frm).Nodup := List.nodup_cons.2 ⟨hns, hnd⟩
 have h2 : ∀ s ∈ x.frm :: srcL l x.frm, s ∈ srcL l b := fun s hs => by
  rcases List.mem_cons.1 hs with rfl | hs
  ·exact (srcL_mem _ _ _).2 (.one hst)
  ·exact (srcL_mem _ _ _).2 (reach_up ((srcL_mem _ _ _).1 hs) hst)
 have := nodup_le _ _ h1 h2
 rw [List.length_cons] at this
 unfold rk; omega
theorem scFold_congr {k k' : ByteArray → Int} : ∀ (ins : List Trf) (p : Int × Int), (∀ x ∈ ins, k x.frm = k' x.frm) → ins.foldl (scStep k) p = ins.foldl (scStep k') p
 | [], _, _ => rfl
 | x :: r, p, h => by
  rw [List.foldl_cons, List.foldl_cons]
  have e : scStep k p x = scStep k' p x := by unfold scStep; rw [h x (by simp)]
  rw [e]; exact scFold_congr r _ fun y hy => h y (by simp [hy])
theorem scOf_congr {k k' : ByteArray → Int} {ins : List Trf} (h : ∀ x ∈ ins, k x.frm = k' x.frm) : scOf k ins = scOf k' ins := by
 unfold scOf; rw [scFold_congr ins (0, 1) h]
theorem scN_eq {l : List Trf} (hf : Flo l) : ∀ (n m : Nat) (b : ByteArray), rk l b < n → rk l b < m → scN l n b = scN l m b
 | 0, _, _, h, _ => by omega
 | _, 0, _, _, h => by omega
 | n + 1, m + 1, b, h1, h2 => by
  rw [scN, scN]
  exact scOf_congr fun x hx => by
   have := rk_lt hf hx
   exact scN_eq hf n m x.frm (by omega) (by omega)
theorem SC_eq {l : List Trf} (hf : Flo l) (b : ByteArray) : SC l b = scOf (SC l) (inT l b) := by
 unfold SC
 rw [scN]
 exact scOf_congr fun x hx => scN_eq hf _ _ _ (rk_lt hf hx) (by omega)
/-- What has been summed up and multiplied on the way stays within bounds. -/
theorem scFold_bd {k : ByteArray → Int} : ∀ (ins : List Trf) (p : Int × Int), (∀ x ∈ ins, 1 ≤ x.amt ∧ x.amt ≤ 1000000) → (∀ x ∈ ins, 0 ≤ k x.frm ∧ k x.frm ≤ 1000000000000) → 0 ≤ p.1 → 0 ≤ p.2 ∧ p.2 ≤ 1000000000000 →
  (p.1 ≤ (ins.foldl (scStep k) p).1 ∧ (ins.foldl (scStep k) p).1 ≤ p.1 + 1000000 * ins.length) ∧ 0 ≤ (ins.foldl (scStep k) p).2 ∧ (ins.foldl (scStep k) p).2 ≤ 1000000000000
 | [], p, _, _, h1, h2 => by simp; exact h2
 | x :: r, p, ha, hk, h1, h2 => by
  rw [List.foldl_cons]
  have h3 := ha x (by simp)
  have h4 := hk x (by simp)
  have h5 : 0 ≤ (if 0 < k x.frm ∧ 0 < p.2 then (k x.frm).tdiv (Nat.gcd (k x.frm).toNat p.2.toNat) else k x.frm) := by
   split
   ·exact Int.tdiv_nonneg h4.1 (Int.natCast_nonneg _)
   ·exact h4.1
  have h6 := tms_bd h2.1 h5
  have := scFold_bd r (scStep k p x) (fun y hy => ha y (by simp [hy])) (fun y hy => hk y (by simp [hy])) (by unfold scStep; simp only; omega) h6
  have e : (scStep k p x).1 = p.1 + x.amt := rfl
  rw [e] at this
  rw [List.length_cons]
  refine ⟨⟨by omega, ?_⟩, this.2⟩
  have := this.1.2
  omega
theorem scOf_bd {k : ByteArray → Int} {ins : List Trf} (ha : ∀ x ∈ ins, 1 ≤ x.amt ∧ x.amt ≤ 1000000) (hk : ∀ x ∈ ins, 0 ≤ k x.frm ∧ k x.frm ≤ 1000000000000) : 0 ≤ scOf k ins ∧ scOf k ins ≤ 1000000000000 := by
 have h := scFold_bd ins (0, 1) ha hk (by simp) (by simp)
 unfold scOf
 split
 ·exact tms_bd (by omega) h.2.1
 ·omega
theorem SC_bd {l : List Trf} (hf : Flo l) : ∀ (n : Nat) (b : ByteArray), rk l b < n → 0 ≤ SC l b ∧ SC l b ≤ 1000000000000
 | 0, _, h => by omega
 | n + 1, b, h => by
  rw [SC_eq hf]
  refine scOf_bd (fun x hx => hf.amt x (inT_mem.1 hx).1) fun x hx => ?_
  exact SC_bd hf n x.frm (by have := rk_lt hf hx; omega)
end Go.Proofs.YtodmofhehabmgaaGreatDoor
/-
 Parts of batches that come of a source, in plain terms.
-/
namespace Go.Proofs.YtodmofhehabmgaaGreatDoor
open Go Go.Ai
set_option linter.unusedSimpArgs false
set_option linter.unusedVariables false
set_option maxHeartbeats 4000000
def amtS (ins : List Trf) : Int := ins.foldl (fun a x => a + x.amt) 0
def ptStep (c : Int) (k p : ByteArray → Int) (o : Int) (x : Trf) : Int := o + x.amt * c.tdiv (k x.frm) * p x.frm
def ptOf (s : Int) (k p : ByteArray → Int) (ins : List Trf) : Int := ins.foldl (ptStep (s.tdiv (amtS ins)) k p) 0
def ptN (l : List Trf) (src : ByteArray) : Nat → ByteArray → Int
 | 0, _ => 0
 | n + 1, b => if b = src then SC l b else ptOf (SC l b) (SC l) (ptN l src n) (inT l b)
/-- How many parts of a batch, of its scale, come of the source. -/
def PT (l : List Trf) (src b : ByteArray) : Int := ptN l src (rk l b + 1) b
theorem ptFold_congr {c : Int} {k p p' : ByteArray → Int} : ∀ (ins : List Trf) (o : Int), (∀ x ∈ ins, p x.frm = p' x.frm) → ins.foldl (ptStep c k p) o = ins.foldl (ptStep c k p') o
 | [], _, _ => rfl
 | x :: r, o, h => by
  rw [List.foldl_cons, List.foldl_cons]
  have e : ptStep c k p o x = ptStep c k p' o x := by unfold ptStep; rw [h x (by simp)]
  rw [e]; exact ptFold_congr r _ fun y hy => h y (by simp [hy])
theorem ptN_eq {l : List Trf} (hf : Flo l) (src : ByteArray) : ∀ (n m : Nat) (b : ByteArray), rk l b < n → rk l b < m → ptN l src n b = ptN l src m b
 | 0, _, _, h, _ => by omega
 | _, 0, _, _, h => by omega
 | n + 1, m + 1, b, h1, h2 => by
  rw [ptN, ptN]
  split
  ·rfl
  ·exact ptFold_congr _ _ fun x hx => by
    have := rk_lt hf hx
    exact ptN_eq hf src n m x.frm (by omega) (by omega)
theorem PT_eq {l : List Trf} (hf : Flo l) (src b : ByteArray) : PT l src b = if b = src then SC l b else ptOf (SC l b) (SC l) (PT l src) (inT l b) := by
 unfold PT
 rw [ptN]
 split
 ·rfl
 ·exact ptFold_congr _ _ fun x hx => ptN_eq hf src _ _ _ (rk_lt hf hx) (by omega)
theorem amtS_go : ∀ (ins : List Trf) (a : Int), ins.foldl (fun a x => a + x.amt) a = a + amtS ins
 | [], a => by simp [amtS]
 | x :: r, a => by
  unfold amtS
  rw [List.foldl_cons, List.foldl_cons, amtS_go r, amtS_go r (0 + x.amt)]; omega
theorem amtS_cons (x : Trf) (r : List Trf) : amtS (x :: r) = x.amt + amtS r := by
 conv => lhs; unfold amtS
 rw [List.foldl_cons, amtS_go]; omega
theorem scFold_fst {k : ByteArray → Int} : ∀ (ins : List Trf) (p : Int × Int), (ins.foldl (scStep k) p).1 = p.1 + amtS ins
 | [], p => by simp [amtS]
 | x :: r, p => by
  rw [List.foldl_cons, scFold_fst r, amtS_cons]
  show p.1 + x.amt + amtS r = _
  omega
theorem tms_zero {a b : Int} (h : a = 0 ∨ b = 0) : tms a b = 0 := by unfold tms; rw [if_pos (by omega)]
theorem tms_pos {a b : Int} (h : 0 < tms a b) : a ≠ 0 ∧ b ≠ 0 ∧ tms a b = a * b := by
 unfold tms at h ⊢
 split at h
 ·omega
 ·rename_i c
  rw [if_neg c]
  exact ⟨by omega, by omega, rfl⟩
theorem scFold_zero {k : ByteArray → Int} : ∀ (ins : List Trf) (a : Int), (ins.foldl (scStep k) (a, 0)).2 = 0
 | [], a => rfl
 | x :: r, a => by
  rw [List.foldl_cons]
  have e : scStep k (a, 0) x = (a + x.amt, 0) := by unfold scStep; simp only; rw [tms_zero (.inl rfl)]
  rw [e]; exact scFold_zero r _
/-- A scale that is not too great: neither were those of what went in. -/
theorem scFold_pos {k : ByteArray → Int} : ∀ (ins : List Trf) (p : Int × Int), (∀ x ∈ ins, 0 ≤ k x.frm) → 0 < (ins.foldl (scStep k) p).2 → ∀ x ∈ ins, 0 < k x.frm
 | [], _, _, _, x, hx => by simp at hx
 | y :: r, p, hk, h, x, hx => by
  rw [List.foldl_cons] at h
  have hy : 0 < k y.frm := by
   have h0 := hk y (by simp)
   by_cases c : k y.frm = 0
   ·exfalso
    have e : scStep k p y = (p.1 + y.amt, 0) := by
     unfold scStep
     rw [if_neg (by omega), c, tms_zero (.inr rfl)]
    rw [e, scFold_zero] at h
    omega
   ·omega
  rcases List.mem_cons.1 hx with rfl | hx
  ·exact hy
  ·exact scFold_pos r _ (fun z hz => hk z (by simp [hz])) h x hx
theorem amtS_nn : ∀ {ins : List Trf}, (∀ x ∈ ins, 1 ≤ x.amt ∧ x.amt ≤ 1000000) → 0 ≤ amtS ins ∧ (ins ≠ [] → 1 ≤ amtS ins) ∧ amtS ins ≤ 1000000 * ins.length
 | [], _ => by simp [amtS]
 | x :: r, h => by
  have h1 := h x (by simp)
  have h2 := amtS_nn (ins := r) fun y hy => h y (by simp [hy])
  rw [amtS_cons, List.length_cons]
  refine ⟨by omega, fun _ => by omega, by omega⟩
/-- What is known of a batch into which something went, and whose scale is not too great. -/
theorem SC_in {l : List Trf} (hf : Flo l) {b : ByteArray} (hp : 0 < SC l b) (hne : inT l b ≠ []) : 1 ≤ amtS (inT l b) ∧ 0 ≤ (SC l b).tdiv (amtS (inT l b)) ∧ amtS (inT l b) * (SC l b).tdiv (amtS (inT l b)) = SC l b ∧ ∀ x ∈ inT l b, 0 < SC l x.frm := by
 have ha := fun x hx => hf.amt x (inT_mem (l := l) (b := b).1 hx).1
 have hs := amtS_nn ha
 have h1 := hs.2.1 hne
 have h0 := SC_eq hf b
 unfold scOf at h0
 rw [scFold_fst] at h0
 simp only [Int.zero_add] at h0
 rw [if_pos (by omega)] at h0
 have h2 := tms_pos (by rw [← h0]; exact hp)
 have h3 : SC l b = amtS (inT l b) * ((inT l b).foldl (scStep (SC l)) (0, 1)).2 := h0.trans h2.2.2
 have hk : ∀ x ∈ inT l b, 0 ≤ SC l x.frm ∧ SC l x.frm ≤ 1000000000000 := fun x hx => SC_bd hf _ x.frm (Nat.lt_succ_self _)
 have hbd := scFold_bd (k := SC l) (inT l b) (0, 1) ha hk (by simp) (by simp)
 have hc := h2.2.1
 generalize hcc : ((inT l b).foldl (scStep (SC l)) (0, 1)).2 = c at *
 have h4 : (SC l b).tdiv (amtS (inT l b)) = c := by rw [h3]; exact Int.mul_tdiv_cancel_left _ (by omega)
 rw [h4]
 exact ⟨h1, hbd.2.1, h3.symm, scFold_pos _ (0, 1) (fun x hx => (hk x hx).1) (by rw [hcc]; omega)⟩
end Go.Proofs.YtodmofhehabmgaaGreatDoor
