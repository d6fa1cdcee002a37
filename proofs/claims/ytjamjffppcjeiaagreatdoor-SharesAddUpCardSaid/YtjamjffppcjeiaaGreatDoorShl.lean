
/-
 The parts of a batch add up to its scale; how great a scale can be, by how many batches there are.
-/
import Derived.Test.YtjamjffppcjeiaaGreatDoorShp
namespace Go.Proofs.YtjamjffppcjeiaaGreatDoor
open Go Go.Ai
set_option linter.unusedSimpArgs false
set_option linter.unusedVariables false
set_option maxHeartbeats 4000000
/-! ### parts add up -/
def sumI (l : List Int) : Int := l.foldr (fun a b => a + b) 0
theorem sumI_nil : sumI [] = 0 := rfl
theorem sumI_cons (a : Int) (l : List Int) : sumI (a :: l) = a + sumI l := rfl
theorem sumI_app (a b : List Int) : sumI (a ++ b) = sumI a + sumI b := by
 induction a with
 | nil => simp [sumI]
 | cons x r ih => rw [List.cons_append, sumI_cons, sumI_cons, ih]; omega
theorem sumI_add {α : Type} (f g : α → Int) : ∀ l : List α, sumI (l.map fun x => f x + g x) = sumI (l.map f) + sumI (l.map g)
 | [] => rfl
 | x :: r => by rw [List.map_cons, List.map_cons, List.map_cons, sumI_cons, sumI_cons, sumI_cons, sumI_add f g r]; omega
theorem sumI_mul {α : Type} (f : α → Int) (c : Int) : ∀ l : List α, sumI (l.map fun x => c * f x) = c * sumI (l.map f)
 | [] => by simp [sumI]
 | x :: r => by rw [List.map_cons, List.map_cons, sumI_cons, sumI_cons, sumI_mul f c r, Int.mul_add]
theorem sumI_congr {α : Type} {f g : α → Int} {l : List α} (h : ∀ x ∈ l, f x = g x) : sumI (l.map f) = sumI (l.map g) := by
 rw [List.map_congr_left h]
theorem sumI_zero {α : Type} {f : α → Int} : ∀ {l : List α}, (∀ x ∈ l, f x = 0) → sumI (l.map f) = 0
 | [], _ => rfl
 | x :: r, h => by rw [List.map_cons, sumI_cons, h x (by simp), sumI_zero fun y hy => h y (by simp [hy])]; rfl
theorem sumI_nn {α : Type} {f : α → Int} : ∀ {l : List α}, (∀ x ∈ l, 0 ≤ f x) → 0 ≤ sumI (l.map f)
 | [], _ => Int.le_refl _
 | x :: r, h => by
  have := h x (by simp)
  have := sumI_nn (f := f) fun y hy => h y (List.mem_cons_of_mem x hy)
  rw [List.map_cons, sumI_cons]; omega
theorem sumI_one {f : ByteArray → Int} {y : ByteArray} : ∀ {l : List ByteArray}, l.Nodup → y ∈ l → (∀ x ∈ l, x ≠ y → f x = 0) → sumI (l.map f) = f y
 | [], _, h, _ => by simp at h
 | x :: r, hn, hy, h => by
  rw [List.map_cons, sumI_cons]
  have hn := List.nodup_cons.1 hn
  by_cases e : x = y
  ·subst e
   rw [sumI_zero fun z hz => h z (by simp [hz]) fun ez => hn.1 (ez ▸ hz)]; omega
  ·rw [h x (by simp) e, sumI_one hn.2 (by rcases List.mem_cons.1 hy with r | r; exact absurd r.symm e; exact r) fun z hz => h z (by simp [hz])]; omega
theorem ptFold_lin {c : Int} {k p : ByteArray → Int} : ∀ (ins : List Trf) (o : Int), ins.foldl (ptStep c k p) o = o + sumI (ins.map fun t => t.amt * c.tdiv (k t.frm) * p t.frm)
 | [], o => by simp [sumI]
 | x :: r, o => by
  rw [List.foldl_cons, ptFold_lin r, List.map_cons, sumI_cons]
  show o + x.amt * c.tdiv (k x.frm) * p x.frm + _ = _
  omega
theorem sum_swap {c : Int} {k : ByteArray → Int} {p : ByteArray → ByteArray → Int} (ins : List Trf) : ∀ Pu : List ByteArray, sumI (Pu.map fun x => ins.foldl (ptStep c k (p x)) 0) = sumI (ins.map fun t => t.amt * c.tdiv (k t.frm) * sumI (Pu.map fun x => p x t.frm))
 | [] => by rw [List.map_nil, sumI_nil]; exact (sumI_zero fun t _ => by simp [sumI]).symm
 | x :: r => by
  rw [List.map_cons, sumI_cons, sum_swap ins r, ptFold_lin, Int.zero_add, ← sumI_add]
  refine sumI_congr fun t _ => ?_
  rw [List.map_cons, sumI_cons, Int.mul_add]
theorem amtS_sum : ∀ (ins : List Trf) (c : Int), sumI (ins.map fun t => t.amt * c) = amtS ins * c
 | [], c => by simp [sumI, amtS]
 | x :: r, c => by rw [List.map_cons, sumI_cons, amtS_sum r, amtS_cons, Int.add_mul]
/-- The scale's second part is a common multiple. -/
theorem lcm_step {a n : Int} (ha : 0 < a) (hn : 0 < n) : a ∣ a * n.tdiv (Nat.gcd n.toNat a.toNat) ∧ n ∣ a * n.tdiv (Nat.gcd n.toNat a.toNat) ∧ ∀ m : Int, a ∣ m → n ∣ m → a * n.tdiv (Nat.gcd n.toNat a.toNat) ∣ m := by
 have e : a * n.tdiv (Nat.gcd n.toNat a.toNat) = (Nat.lcm n.toNat a.toNat : Nat) := by
  have h1 : n.tdiv (Nat.gcd n.toNat a.toNat) = ((n.toNat / Nat.gcd n.toNat a.toNat : Nat) : Int) := by
   conv => lhs; rw [show n = (n.toNat : Int) by omega]
   rfl
  have h2 : a = (a.toNat : Int) := by omega
  have h3 : a.toNat * (n.toNat / Nat.gcd n.toNat a.toNat) = Nat.lcm n.toNat a.toNat := by
   unfold Nat.lcm
   rw [Nat.mul_comm n.toNat, Nat.mul_div_assoc _ (Nat.gcd_dvd_left _ _)]
  rw [h1]
  conv => lhs; arg 1; rw [h2]
  rw [← Int.natCast_mul, h3]
 have cast : ∀ {x : Int} {k : Nat}, 0 < x → (x ∣ (k : Int) ↔ x.toNat ∣ k) := fun {x k} hx => by
  conv => lhs; rw [show x = (x.toNat : Int) by omega]
  exact Int.natCast_dvd_natCast
 rw [e]
 refine ⟨(cast ha).2 (Nat.dvd_lcm_right _ _), (cast hn).2 (Nat.dvd_lcm_left _ _), fun m h1 h2 => ?_⟩
 rw [← Int.dvd_natAbs] at h1 h2 ⊢
 exact Int.natCast_dvd_natCast.2 (Nat.lcm_dvd ((cast hn).1 h2) ((cast ha).1 h1))
theorem scFold_dvd {k : ByteArray → Int} : ∀ (ins : List Trf) (p : Int × Int), (∀ x ∈ ins, 0 ≤ k x.frm) → 0 ≤ p.2 → 0 < (ins.foldl (scStep k) p).2 → 0 < p.2 ∧ p.2 ∣ (ins.foldl (scStep k) p).2 ∧ (∀ x ∈ ins, k x.frm ∣ (ins.foldl (scStep k) p).2) ∧ ∀ m : Int, p.2 ∣ m → (∀ x ∈ ins, k x.frm ∣ m) → (ins.foldl (scStep k) p).2 ∣ m
 | [], p, _, _, h => ⟨h, Int.dvd_refl _, fun x hx => (by simp at hx), fun m h1 _ => h1⟩
 | x :: r, p, hk, h0, h => by
  have hx : 0 < k x.frm := scFold_pos (x :: r) p hk h x (by simp)
  rw [List.foldl_cons] at h ⊢
  have hp : 0 < p.2 := by
   by_cases c : p.2 = 0
   ·exfalso
    have e : scStep k p x = (p.1 + x.amt, 0) := by unfold scStep; rw [c, tms_zero (.inl rfl)]
    rw [e, scFold_zero] at h; omega
   ·omega
  have h5 : 0 ≤ (scStep k p x).2 := by
   unfold scStep
   refine (tms_bd h0 ?_).1
   split
   ·exact Int.tdiv_nonneg (by omega) (Int.natCast_nonneg _)
   ·omega
  obtain ⟨q1, q2, q3, q4⟩ := scFold_dvd r (scStep k p x) (fun y hy => hk y (by simp [hy])) h5 h
  have e : (scStep k p x).2 = p.2 * (k x.frm).tdiv (Nat.gcd (k x.frm).toNat p.2.toNat) := by
   unfold scStep at q1 ⊢
   simp only at q1 ⊢
   rw [if_pos ⟨hx, hp⟩] at q1 ⊢
   exact (tms_pos q1).2.2
  obtain ⟨l1, l2, l3⟩ := lcm_step hp hx
  rw [← e] at l1 l2 l3
  refine ⟨hp, Int.dvd_trans l1 q2, fun y hy => ?_, fun m h1 h2 => q4 m (l3 m h1 (h2 x (by simp))) fun y hy => h2 y (by simp [hy])⟩
  rcases List.mem_cons.1 hy with rfl | hy
  ·exact Int.dvd_trans l2 q2
  ·exact q3 y hy
/-- More of a batch into which something went: its scale is the sum times a common multiple. -/
theorem SC_mul {l : List Trf} (hf : Flo l) {b : ByteArray} (hp : 0 < SC l b) (hne : inT l b ≠ []) : ∃ c, 0 < c ∧ SC l b = amtS (inT l b) * c ∧ (SC l b).tdiv (amtS (inT l b)) = c ∧ (∀ x ∈ inT l b, SC l x.frm ∣ c) ∧ ∀ m : Int, (∀ x ∈ inT l b, SC l x.frm ∣ m) → c ∣ m := by
 obtain ⟨i1, i2, i3, i4⟩ := SC_in hf hp hne
 have hk : ∀ x ∈ inT l b, 0 ≤ SC l x.frm ∧ SC l x.frm ≤ 1000000000000 := fun x hx => SC_bd hf _ x.frm (Nat.lt_succ_self _)
 have h0 := SC_eq hf b
 unfold scOf at h0
 rw [scFold_fst] at h0
 simp only [Int.zero_add] at h0
 rw [if_pos (by omega)] at h0
 have h2 := tms_pos (by rw [← h0]; exact hp)
 have hbd := scFold_bd (k := SC l) (inT l b) (0, 1) (fun x hx => hf.amt x (inT_mem.1 hx).1) hk (by simp) (by simp)
 have hpos : 0 < ((inT l b).foldl (scStep (SC l)) (0, 1)).2 := by omega
 have h3 : SC l b = amtS (inT l b) * ((inT l b).foldl (scStep (SC l)) (0, 1)).2 := h0.trans h2.2.2
 obtain ⟨d1, d2, d3, d4⟩ := scFold_dvd (k := SC l) (inT l b) (0, 1) (fun x hx => (hk x hx).1) (by simp) hpos
 refine ⟨_, hpos, h3, ?_, d3, fun m hm => d4 m (Int.one_dvd _) hm⟩
 conv => lhs; arg 1; rw [h3]
 exact Int.mul_tdiv_cancel_left _ (by omega)
theorem srcL_pre {l : List Trf} {b s : ByteArray} (h : s ∈ srcL l b) : ∃ x ∈ inT l b, s = x.frm ∨ s ∈ srcL l x.frm := by
 have key : ∀ {y}, Reach (stI l) b y → ∃ a ∈ stI l b, y = a ∨ Reach (stI l) a y := fun {y} h => by
  induction h with
  | one hy => exact ⟨_, hy, .inl rfl⟩
  | more _ hy ih =>
   obtain ⟨a, ha, h⟩ := ih
   rcases h with rfl | h
   ·exact ⟨_, ha, .inr (.one hy)⟩
   ·exact ⟨a, ha, .inr (.more h hy)⟩
 obtain ⟨a, ha, h2⟩ := key ((srcL_mem _ _ _).1 h)
 obtain ⟨x, hx, rfl⟩ := List.mem_map.1 ha
 exact ⟨x, hx, h2.imp id fun h => (srcL_mem _ _ _).2 h⟩
theorem srcL_up {l : List Trf} {b : ByteArray} {x : Trf} (hx : x ∈ inT l b) {s : ByteArray} (h : s = x.frm ∨ s ∈ srcL l x.frm) : s ∈ srcL l b := by
 rcases h with rfl | h
 ·exact (srcL_mem _ _ _).2 (.one (stI_of hx))
 ·exact (srcL_mem _ _ _).2 (reach_up ((srcL_mem _ _ _).1 h) (stI_of hx))
theorem srcL_nil {l : List Trf} {b : ByteArray} : srcL l b = [] ↔ inT l b = [] := by
 constructor
 ·intro h
  cases e : inT l b with
  | nil => rfl
  | cons x r =>
   have := srcL_up (l := l) (b := b) (x := x) (by rw [e]; simp) (.inl rfl)
   rw [h] at this; simp at this
 ·intro h
  refine List.eq_nil_iff_forall_not_mem.2 fun s hs => ?_
  obtain ⟨x, hx, _⟩ := srcL_pre hs
  rw [h] at hx; simp at hx
theorem src_ne {l : List Trf} (hf : Flo l) {b : ByteArray} : b ∉ srcL l b := fun h => by
 obtain ⟨y, hy, hyt⟩ := reach_to ((srcL_mem _ _ _).1 h)
 exact hf.acy y hy (by rw [hyt]; exact h)
/-- The parts that come of all batches into which nothing went. -/
theorem PT_sum {l : List Trf} (hf : Flo l) {Pu : List ByteArray} (hnd : Pu.Nodup) (hpu : ∀ x ∈ Pu, inT l x = []) : ∀ (n : Nat) (b : ByteArray), rk l b < n → 0 < SC l b → (∀ x, x = b ∨ x ∈ srcL l b → inT l x = [] → x ∈ Pu) → sumI (Pu.map fun x => PT l x b) = SC l b
 | 0, _, h, _, _ => by omega
 | n + 1, b, h, hp, hall => by
  by_cases hne : inT l b = []
  ·have hb : b ∈ Pu := hall b (.inl rfl) hne
   have e : PT l b b = SC l b := by rw [PT_eq hf, if_pos rfl]
   rw [← e]
   refine sumI_one (f := fun x => PT l x b) hnd hb fun x _ hx => ?_
   rw [PT_eq hf, if_neg (fun e => hx e.symm), hne]; rfl
  ·obtain ⟨c, hc, e1, e2, hd, _⟩ := SC_mul hf hp hne
   obtain ⟨i1, i2, i3, i4⟩ := SC_in hf hp hne
   have e : sumI (Pu.map fun x => PT l x b) = sumI (Pu.map fun x => (inT l b).foldl (ptStep c (SC l) (PT l x)) 0) := sumI_congr fun x hx => by
    rw [PT_eq hf, if_neg (fun e => hne (by rw [e]; exact hpu x hx))]
    unfold ptOf
    rw [e2]
   rw [e, sum_swap (c := c) (k := SC l) (p := PT l) (inT l b) Pu]
   have e3 : sumI ((inT l b).map fun t => t.amt * c.tdiv (SC l t.frm) * sumI (Pu.map fun x => PT l x t.frm)) = sumI ((inT l b).map fun t => t.amt * c) := sumI_congr fun t ht => by
    rw [PT_sum hf hnd hpu n t.frm (by have := rk_lt hf ht; omega) (i4 t ht) fun x hx hx2 => hall x (.inr (srcL_up ht hx)) hx2, Int.mul_assoc]
    congr 1
    obtain ⟨q, hq⟩ := hd t ht
    rw [hq, Int.mul_tdiv_cancel_left _ (by have := i4 t ht; omega), Int.mul_comm]
   rw [e3, amtS_sum, e1]
/-- Who is a source has a part. -/
theorem PT_pos {l : List Trf} (hf : Flo l) {x : ByteArray} : ∀ (n : Nat) (b : ByteArray), rk l b < n → 0 < SC l b → (x = b ∨ x ∈ srcL l b) → 1 ≤ PT l x b
 | 0, _, h, _, _ => by omega
 | n + 1, b, h, hp, hx => by
  rw [PT_eq hf]
  by_cases e : b = x
  ·rw [if_pos e]; omega
  ·rw [if_neg e]
   rcases hx with rfl | hx
   ·exact absurd rfl e
   obtain ⟨t, ht, htx⟩ := srcL_pre hx
   have hne : inT l b ≠ [] := fun h => by rw [h] at ht; simp at ht
   obtain ⟨c, hc, e1, e2, hd, _⟩ := SC_mul hf hp hne
   obtain ⟨i1, i2, i3, i4⟩ := SC_in hf hp hne
   unfold ptOf
   rw [e2, ptFold_lin, Int.zero_add]
   have hone := PT_pos hf n t.frm (by have := rk_lt hf ht; omega) (i4 t ht) htx
   have hnn : ∀ y ∈ inT l b, 0 ≤ y.amt * c.tdiv (SC l y.frm) * PT l x y.frm := fun y hy => by
    have := hf.amt y (inT_mem.1 hy).1
    have h4 := i4 y hy
    have := PT_bd hf x _ y.frm (Nat.lt_succ_self _) h4
    exact Int.mul_nonneg (Int.mul_nonneg (by omega) (Int.tdiv_nonneg (by omega) (by omega))) this.1
   have key : ∀ ins : List Trf, (∀ y ∈ ins, 0 ≤ y.amt * c.tdiv (SC l y.frm) * PT l x y.frm) → t ∈ ins → t.amt * c.tdiv (SC l t.frm) * PT l x t.frm ≤ sumI (ins.map fun y => y.amt * c.tdiv (SC l y.frm) * PT l x y.frm) := by
    intro ins
    induction ins with
    | nil => intro _ h; simp at h
    | cons y r ih =>
     intro hn hm
     have h0 := hn y (by simp)
     have h1 := sumI_nn (f := fun y : Trf => y.amt * c.tdiv (SC l y.frm) * PT l x y.frm) (l := r) fun z hz => hn z (by simp [hz])
     rw [List.map_cons, sumI_cons]
     rcases List.mem_cons.1 hm with rfl | hm
     ·omega
     ·have := ih (fun z hz => hn z (by simp [hz])) hm
      omega
   refine Int.le_trans ?_ (key _ hnn ht)
   have h3 := (hf.amt t (inT_mem.1 ht).1).1
   have h4 := i4 t ht
   have h5 : 1 ≤ c.tdiv (SC l t.frm) := by
    obtain ⟨q, hq⟩ := hd t ht
    rw [hq, Int.mul_tdiv_cancel_left _ (by omega)]
    have : 0 < SC l t.frm * q := by omega
    rcases Int.lt_or_le 0 q with h | h
    ·omega
    ·have := Int.mul_nonpos_of_nonneg_of_nonpos (Int.le_of_lt h4) h
     omega
   have h6 : 1 ≤ t.amt * c.tdiv (SC l t.frm) := by
    have := Int.mul_pos (show (0 : Int) < t.amt by omega) (show 0 < c.tdiv (SC l t.frm) by omega); omega
   have := Int.mul_pos (show (0 : Int) < t.amt * c.tdiv (SC l t.frm) by omega) (show 0 < PT l x t.frm by omega)
   omega
end Go.Proofs.YtjamjffppcjeiaaGreatDoor
