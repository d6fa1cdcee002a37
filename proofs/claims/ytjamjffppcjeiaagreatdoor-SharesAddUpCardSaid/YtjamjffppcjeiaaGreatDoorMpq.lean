
/-
 Parts of batches that come of a source, in plain terms.
-/
import Derived.Test.YtjamjffppcjeiaaGreatDoorMxp
namespace Go.Proofs.YtjamjffppcjeiaaGreatDoor
open Go Go.Ai
set_option linter.unusedSimpArgs false
set_option linter.unusedVariables false
set_option maxHeartbeats 4000000
def amtS (ins : List Trf) : Int := ins.foldl (fun a x => a + x.amt) 0
def ptStep (c : Int) (k p : ByteArray → Int) (o : Int) (x : Trf) : Int := o + x.amt * c.tdiv (k x.frm) * p x.frm
def ptOf (s : Int) (k p : ByteArray → Int) (ins : List Trf) : Int := ins.foldl (ptStep (s.tdiv (amtS ins)) k p) 0
def ptN (l : List Trf) (src : ByteArray) : Nat → ByteArray → Int
 | 0, _ => 0
 | n + 1, b => if b = src then SC l b else ptOf (SC l b) (SC l) (ptN l src n) (inT l b)
/-- How many parts of a batch, of its scale, come of the source. -/
def PT (l : List Trf) (src b : ByteArray) : Int := ptN l src (rk l b + 1) b
theorem ptFold_congr {c : Int} {k p p' : ByteArray → Int} : ∀ (ins : List Trf) (o : Int), (∀ x ∈ ins, p x.frm = p' x.frm) → ins.foldl (ptStep c k p) o = ins.foldl (ptStep c k p') o
 | [], _, _ => rfl
 | x :: r, o, h => by
  rw [List.foldl_cons, List.foldl_cons]
  have e : ptStep c k p o x = ptStep c k p' o x := by unfold ptStep; rw [h x (by simp)]
  rw [e]; exact ptFold_congr r _ fun y hy => h y (by simp [hy])
theorem ptN_eq {l : List Trf} (hf : Flo l) (src : ByteArray) : ∀ (n m : Nat) (b : ByteArray), rk l b < n → rk l b < m → ptN l src n b = ptN l src m b
 | 0, _, _, h, _ => by omega
 | _, 0, _, _, h => by omega
 | n + 1, m + 1, b, h1, h2 => by
  rw [ptN, ptN]
  split
  ·rfl
  ·exact ptFold_congr _ _ fun x hx => by
    have := rk_lt hf hx
    exact ptN_eq hf src n m x.frm (by omega) (by omega)
theorem PT_eq {l : List Trf} (hf : Flo l) (src b : ByteArray) : PT l src b = if b = src then SC l b else ptOf (SC l b) (SC l) (PT l src) (inT l b) := by
 unfold PT
 rw [ptN]
 split
 ·rfl
 ·exact ptFold_congr _ _ fun x hx => ptN_eq hf src _ _ _ (rk_lt hf hx) (by omega)
theorem amtS_go : ∀ (ins : List Trf) (a : Int), ins.foldl (fun a x => a + x.amt) a = a + amtS ins
 | [], a => by simp [amtS]
 | x :: r, a => by
  unfold amtS
  rw [List.foldl_cons, List.foldl_cons, amtS_go r, amtS_go r (0 + x.amt)]; omega
theorem amtS_cons (x : Trf) (r : List Trf) : amtS (x :: r) = x.amt + amtS r := by
 conv => lhs; unfold amtS
 rw [List.foldl_cons, amtS_go]; omega
theorem scFold_fst {k : ByteArray → Int} : ∀ (ins : List Trf) (p : Int × Int), (ins.foldl (scStep k) p).1 = p.1 + amtS ins
 | [], p => by simp [amtS]
 | x :: r, p => by
  rw [List.foldl_cons, scFold_fst r, amtS_cons]
  show p.1 + x.amt + amtS r = _
  omega
theorem tms_zero {a b : Int} (h : a = 0 ∨ b = 0) : tms a b = 0 := by unfold tms; rw [if_pos (by omega)]
theorem tms_pos {a b : Int} (h : 0 < tms a b) : a ≠ 0 ∧ b ≠ 0 ∧ tms a b = a * b := by
 unfold tms at h ⊢
 split at h
 ·omega
 ·rename_i c
  rw [if_neg c]
  exact ⟨by omega, by omega, rfl⟩
theorem scFold_zero {k : ByteArray → Int} : ∀ (ins : List Trf) (a : Int), (ins.foldl (scStep k) (a, 0)).2 = 0
 | [], a => rfl
 | x :: r, a => by
  rw [List.foldl_cons]
  have e : scStep k (a, 0) x = (a + x.amt, 0) := by unfold scStep; simp only; rw [tms_zero (.inl rfl)]
  rw [e]; exact scFold_zero r _
/-- A scale that is not too great: neither were those of what went in. -/
theorem scFold_pos {k : ByteArray → Int} : ∀ (ins : List Trf) (p : Int × Int), (∀ x ∈ ins, 0 ≤ k x.frm) → 0 < (ins.foldl (scStep k) p).2 → ∀ x ∈ ins, 0 < k x.frm
 | [], _, _, _, x, hx => by simp at hx
 | y :: r, p, hk, h, x, hx => by
  rw [List.foldl_cons] at h
  have hy : 0 < k y.frm := by
   have h0 := hk y (by simp)
   by_cases c : k y.frm = 0
   ·exfalso
    have e : scStep k p y = (p.1 + y.amt, 0) := by
     unfold scStep
     rw [if_neg (by omega), c, tms_zero (.inr rfl)]
    rw [e, scFold_zero] at h
    omega
   ·omega
  rcases List.mem_cons.1 hx with rfl | hx
  ·exact hy
  ·exact scFold_pos r _ (fun z hz => hk z (by simp [hz])) h x hx
theorem amtS_nn : ∀ {ins : List Trf}, (∀ x ∈ ins, 1 ≤ x.amt ∧ x.amt ≤ 1000000) → 0 ≤ amtS ins ∧ (ins ≠ [] → 1 ≤ amtS ins) ∧ amtS ins ≤ 1000000 * ins.length
 | [], _ => by simp [amtS]
 | x :: r, h => by
  have h1 := h x (by simp)
  have h2 := amtS_nn (ins := r) fun y hy => h y (by simp [hy])
  rw [amtS_cons, List.length_cons]
  refine ⟨by omega, fun _ => by omega, by omega⟩
/-- What is known of a batch into which something went, and whose scale is not too great. -/
theorem SC_in {l : List Trf} (hf : Flo l) {b : ByteArray} (hp : 0 < SC l b) (hne : inT l b ≠ []) : 1 ≤ amtS (inT l b) ∧ 0 ≤ (SC l b).tdiv (amtS (inT l b)) ∧ amtS (inT l b) * (SC l b).tdiv (amtS (inT l b)) = SC l b ∧ ∀ x ∈ inT l b, 0 < SC l x.frm := by
 have ha := fun x hx => hf.amt x (inT_mem (l := l) (b := b).1 hx).1
 have hs := amtS_nn ha
 have h1 := hs.2.1 hne
 have h0 := SC_eq hf b
 unfold scOf at h0
 rw [scFold_fst] at h0
 simp only [Int.zero_add] at h0
 rw [if_pos (by omega)] at h0
 have h2 := tms_pos (by rw [← h0]; exact hp)
 have h3 : SC l b = amtS (inT l b) * ((inT l b).foldl (scStep (SC l)) (0, 1)).2 := h0.trans h2.2.2
 have hk : ∀ x ∈ inT l b, 0 ≤ SC l x.frm ∧ SC l x.frm ≤ 1000000000000 := fun x hx => SC_bd hf _ x.frm (Nat.lt_succ_self _)
 have hbd := scFold_bd (k := SC l) (inT l b) (0, 1) ha hk (by simp) (by simp)
 have hc := h2.2.1
 generalize hcc : ((inT l b).foldl (scStep (SC l)) (0, 1)).2 = c at *
 have h4 : (SC l b).tdiv (amtS (inT l b)) = c := by rw [h3]; exact Int.mul_tdiv_cancel_left _ (by omega)
 rw [h4]
 exact ⟨h1, hbd.2.1, h3.symm, scFold_pos _ (0, 1) (fun x hx => (hk x hx).1) (by rw [hcc]; omega)⟩
end Go.Proofs.YtjamjffppcjeiaaGreatDoor
