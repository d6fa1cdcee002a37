
/-
 How great the scale of a batch can be in transfers of few batches.
-/
import Derived.Test.YtjamjffppcjeiaaGreatDoorShl
namespace Go.Proofs.YtjamjffppcjeiaaGreatDoor
open Go Go.Ai
set_option linter.unusedSimpArgs false
set_option linter.unusedVariables false
set_option maxHeartbeats 4000000
def wgt (l : List Trf) (y : ByteArray) : Nat := if inT l y = [] then 1 else (amtS (inT l y)).toNat
def prdW (l : List Trf) (S : List ByteArray) : Nat := S.foldr (fun y p => wgt l y * p) 1
theorem prdW_cons (l : List Trf) (y : ByteArray) (S : List ByteArray) : prdW l (y :: S) = wgt l y * prdW l S := rfl
theorem prdW_erase (l : List Trf) {x : ByteArray} : ∀ {S : List ByteArray}, x ∈ S → prdW l S = wgt l x * prdW l (S.erase x)
 | [], h => by simp at h
 | y :: S, h => by
  by_cases e : y = x
  ·subst e; rw [List.erase_cons_head, prdW_cons]
  ·have h2 : x ∈ S := by rcases List.mem_cons.1 h with r | r; exact absurd r.symm e; exact r
   rw [List.erase_cons_tail (by simpa using e), prdW_cons, prdW_cons, prdW_erase l h2]
   ac_rfl
theorem SC_prd {l : List Trf} (hf : Flo l) : ∀ (n : Nat) (b : ByteArray), rk l b < n → 0 < SC l b → ∀ S : List ByteArray, S.Nodup → (∀ s ∈ srcL l b, s ∈ S) → SC l b ∣ ((wgt l b * prdW l S : Nat) : Int)
 | 0, _, h, _, _, _, _ => by omega
 | n + 1, b, h, hp, S, hn, hs => by
  by_cases hne : inT l b = []
  ·have : SC l b = 1 := by rw [SC_eq hf, hne]; rfl
   rw [this]; exact Int.one_dvd _
  ·obtain ⟨c, hc, e1, e2, hd, hl⟩ := SC_mul hf hp hne
   obtain ⟨i1, i2, i3, i4⟩ := SC_in hf hp hne
   have hw : wgt l b = (amtS (inT l b)).toNat := if_neg hne
   rw [Int.natCast_mul, hw, Int.toNat_of_nonneg (by omega), e1]
   refine Int.mul_dvd_mul_left _ (hl _ fun x hx => ?_)
   have hx1 : x.frm ∈ S := hs _ (srcL_up hx (.inl rfl))
   rw [prdW_erase l hx1]
   refine SC_prd hf n x.frm (by have := rk_lt hf hx; omega) (i4 x hx) _ (hn.erase _) fun s hsx => ?_
   exact (List.mem_erase_of_ne fun e => src_ne hf (e ▸ hsx)).2 (hs _ (srcL_up hx (.inr hsx)))
def exS (e t : Nat) (z : ByteArray) (l : List Trf) (S : List ByteArray) : Nat := S.foldr (fun y n => (if inT l y = [] then 0 else e + if y = z then t else 0) + n) 0
def npS (l : List Trf) (S : List ByteArray) : Nat := S.foldr (fun y n => (if inT l y = [] then 0 else 1) + n) 0
def WB (e t : Nat) (z : ByteArray) (l : List Trf) : Prop := ∀ y, inT l y ≠ [] → 1 ≤ amtS (inT l y) ∧ (amtS (inT l y)).toNat < 2 ^ (e + (if y = z then t else 0) + 1)
theorem prdW_v2 {e t : Nat} {z : ByteArray} {l : List Trf} (hw : WB e t z l) : ∀ (S : List ByteArray) (k : Nat), 2 ^ k ∣ prdW l S → k ≤ exS e t z l S
 | [], k, h => by
  have h1 : 2 ^ k ∣ 1 := h
  have := Nat.le_of_dvd (by omega) h1
  have : k < 2 ^ k := Nat.lt_two_pow_self
  have : 2 ^ k = 1 := by omega
  omega
 | y :: S, k, h => by
  rw [prdW_cons] at h
  obtain ⟨i, j, rfl, hi, hj⟩ := pow_split _ _ k h
  have h2 := prdW_v2 hw S j hj
  have h1 : i ≤ (if inT l y = [] then 0 else e + if y = z then t else 0) := by
   unfold wgt at hi
   by_cases c : inT l y = []
   ·rw [if_pos c] at hi ⊢
    have := Nat.le_of_dvd (by omega) hi
    have : i < 2 ^ i := Nat.lt_two_pow_self
    omega
   ·rw [if_neg c] at hi ⊢
    obtain ⟨h3, h4⟩ := hw y c
    exact pow_le_of (by omega) h4 hi
  show i + j ≤ _ + exS e t z l S
  omega
theorem prdW_le {e t : Nat} {z : ByteArray} {l : List Trf} (hw : WB e t z l) : ∀ (S : List ByteArray), prdW l S ≤ 2 ^ (exS e t z l S + npS l S)
 | [] => by simp [prdW, exS, npS]
 | y :: S => by
  have h2 := prdW_le hw S
  have h1 : wgt l y ≤ 2 ^ ((if inT l y = [] then 0 else e + if y = z then t else 0) + (if inT l y = [] then 0 else 1)) := by
   unfold wgt
   by_cases c : inT l y = []
   ·rw [if_pos c, if_pos c, if_pos c]; simp
   ·rw [if_neg c, if_neg c, if_neg c]; exact Nat.le_of_lt (hw y c).2
  have := Nat.mul_le_mul h1 h2
  rw [← Nat.pow_add] at this
  rw [prdW_cons]
  have e1 : exS e t z l (y :: S) = (if inT l y = [] then 0 else e + if y = z then t else 0) + exS e t z l S := rfl
  have e2 : npS l (y :: S) = (if inT l y = [] then 0 else 1) + npS l S := rfl
  rw [e1, e2]
  refine Nat.le_trans this (Nat.le_of_eq ?_)
  congr 1
  omega
theorem exS_le (e t : Nat) (z : ByteArray) (l : List Trf) : ∀ {S : List ByteArray}, S.Nodup → exS e t z l S ≤ e * npS l S + (if z ∈ S then t else 0)
 | [], _ => by simp [exS]
 | y :: S, h => by
  have h := List.nodup_cons.1 h
  have ih := exS_le e t z l h.2
  have e1 : exS e t z l (y :: S) = (if inT l y = [] then 0 else e + if y = z then t else 0) + exS e t z l S := rfl
  have e2 : npS l (y :: S) = (if inT l y = [] then 0 else 1) + npS l S := rfl
  rw [e1, e2, Nat.mul_add]
  by_cases cz : y = z
  ·subst cz
   rw [if_neg h.1] at ih
   rw [if_pos (List.mem_cons_self ..)]
   split <;> simp <;> omega
  ·have e3 : (if z ∈ y :: S then t else 0) = if z ∈ S then t else 0 := by
    by_cases c : z ∈ S
    ·rw [if_pos c, if_pos (List.mem_cons_of_mem _ c)]
    ·rw [if_neg c, if_neg fun h => by rcases List.mem_cons.1 h with r | r; exact cz r.symm; exact c r]
   rw [e3, if_neg cz]
   split <;> simp <;> omega
def pureB (l : List Trf) (x : ByteArray) : Bool := decide (inT l x = [])
theorem np_pu (l : List Trf) : ∀ S : List ByteArray, npS l S + (S.filter (pureB l)).length = S.length
 | [] => rfl
 | y :: S => by
  have ih := np_pu l S
  have e2 : npS l (y :: S) = (if inT l y = [] then 0 else 1) + npS l S := rfl
  rw [e2]
  by_cases c : inT l y = []
  ·rw [if_pos c, List.filter_cons_of_pos (by unfold pureB; exact decide_eq_true c), List.length_cons, List.length_cons]; omega
  ·rw [if_neg c, List.filter_cons_of_neg (by unfold pureB; simpa using c), List.length_cons]; omega
/-! ### transfers as they are drawn -/
def b9B : ByteArray := ByteArray.mk #[98, 57]
def b5L : List ByteArray := [ByteArray.mk #[98, 49], ByteArray.mk #[98, 50], ByteArray.mk #[98, 51], ByteArray.mk #[98, 52], ByteArray.mk #[98, 53]]
def TShape (l : List Trf) : Prop :=
 ((∀ x ∈ l, x.frm ∈ b5L ∧ x.to ∈ b5L) ∧ ∃ l1 e l2, l = l1 ++ e :: l2 ∧ (∀ x ∈ l1, x.amt ≤ 30) ∧ ∀ x ∈ l2, x.amt ≤ 30)
 ∨ ((∀ x ∈ l, x.frm ∈ (ByteArray.mk #[]) :: b9B :: b5L ∧ x.to ∈ b9B :: b5L) ∧ ∀ x ∈ l, x.amt ≤ 30)
theorem ltT_trans {a b c : Trf} (h1 : ltT a b) (h2 : ltT b c) : ltT a c := by
 unfold ltT at *
 rcases h1 with h1 | ⟨e1, h1⟩ <;> rcases h2 with h2 | ⟨e2, h2⟩
 ·exact .inl (ltS_trans h1 h2)
 ·exact .inl (e2 ▸ h1)
 ·exact .inl (e1 ▸ h2)
 ·exact .inr ⟨e1.trans e2, ltS_trans h1 h2⟩
theorem tgGo_asc : ∀ (l : List Trf) (pv : Option Trf), tgGo pv l = 0 → l.Pairwise ltT ∧ ∀ p, pv = some p → ∀ x ∈ l, ltT p x
 | [], _, _ => ⟨.nil, fun _ _ x hx => by simp at hx⟩
 | y :: r, pv, h => by
  rw [tgGo] at h
  by_cases c1 : tfl y ≠ 0
  ·rw [if_pos c1] at h; exact absurd h c1
  ·rw [if_neg c1] at h
   by_cases c2 : ordT pv y = true
   ·rw [if_pos c2] at h; omega
   ·rw [if_neg c2] at h
    obtain ⟨h1, h2⟩ := tgGo_asc r _ h
    refine ⟨List.pairwise_cons.2 ⟨fun x hx => h2 y rfl x hx, h1⟩, fun p e x hx => ?_⟩
    subst e
    have hp : ltT p y := by
     unfold ordT at c2
     simpa using c2
    rcases List.mem_cons.1 hx with rfl | hx
    ·exact hp
    ·exact ltT_trans hp (h2 y rfl x hx)
theorem ct_tg {l : List Trf} (h : ctF l = 0) : tgGo none l = 0 := by
 unfold ctF at h
 by_cases c1 : l.length > 500
 ·rw [if_pos c1] at h; omega
 rw [if_neg c1] at h
 by_cases c2 : tgGo none l ≠ 0
 ·rw [if_pos c2] at h; exact absurd h c2
 omega
theorem frm_nodup {l : List Trf} (h : ctF l = 0) (y : ByteArray) : (y :: (inT l y).map (·.frm)).Nodup := by
 have hp := (tgGo_asc l none (ct_tg h)).1
 refine List.nodup_cons.2 ⟨fun hy => ?_, ?_⟩
 ·obtain ⟨x, hx, hxe⟩ := List.mem_map.1 hy
  obtain ⟨h1, h2⟩ := inT_mem.1 hx
  have := tgGo_ok l none (ct_tg h) x h1
  unfold tfl at this
  split at this
  ·omega
  ·rename_i c
   rw [if_pos (by rw [h2]; exact hxe)] at this; omega
 ·have hq : (inT l y).Pairwise ltT := hp.sublist List.filter_sublist
  unfold List.Nodup
  rw [List.pairwise_map]
  refine hq.imp_of_mem fun {a b} ha hb hab => ?_
  have ea := (inT_mem.1 ha).2
  have eb := (inT_mem.1 hb).2
  intro e
  rcases hab with h | ⟨_, h⟩
  ·rw [e] at h; exact ltS_irr _ h
  ·rw [ea, eb] at h; exact ltS_irr _ h
theorem amtS_app (a b : List Trf) : amtS (a ++ b) = amtS a + amtS b := by
 induction a with
 | nil => simp [amtS]
 | cons x r ih => rw [List.cons_append, amtS_cons, amtS_cons, ih]; omega
theorem amtS_30 : ∀ {ins : List Trf}, (∀ x ∈ ins, x.amt ≤ 30) → amtS ins ≤ 30 * ins.length
 | [], _ => by simp [amtS]
 | x :: r, h => by
  have h1 := h x (by simp)
  have h2 := amtS_30 fun y hy => h y (List.mem_cons_of_mem x hy)
  rw [amtS_cons, List.length_cons]; omega
theorem inT_names {l : List Trf} (h : ctF l = 0) {N : List ByteArray} (hN : ∀ x ∈ l, x.frm ∈ N ∧ x.to ∈ N) {y : ByteArray} (hne : inT l y ≠ []) : (inT l y).length + 1 ≤ N.length := by
 have h1 := nodup_le _ N (frm_nodup h y) fun s hs => by
  rcases List.mem_cons.1 hs with rfl | hs
  ·cases e : inT l s with
   | nil => exact absurd e hne
   | cons x r =>
    have := inT_mem.1 (show x ∈ inT l s by rw [e]; simp)
    rw [← this.2]; exact (hN x this.1).2
  ·obtain ⟨x, hx, rfl⟩ := List.mem_map.1 hs
   exact (hN x (inT_mem.1 hx).1).1
 simpa using h1
theorem wb_of {l : List Trf} (h : ctF l = 0) (hs : TShape l) : ∃ e t z, ∃ N : List ByteArray, WB e t z l ∧ (∀ x ∈ l, x.frm ∈ N ∧ x.to ∈ N) ∧ (∀ x ∈ b5L, x ∈ N) ∧ ((N.length = 5 ∧ e = 6 ∧ t = 13) ∨ (N.length = 6 ∧ e = 7 ∧ t = 0)) := by
 have hf := flo_of h
 rcases hs with ⟨hN, l1, e, l2, hl, a1, a2⟩ | ⟨hN, ha⟩
 ·refine ⟨6, 13, e.to, b5L, fun y hy => ?_, hN, fun x hx => hx, .inl ⟨rfl, rfl, rfl⟩⟩
  have hlen : (inT l y).length ≤ 4 := by have := inT_names h hN hy; have : b5L.length = 5 := rfl; omega
  have hpos := (amtS_nn (ins := inT l y) fun x hx => hf.amt x (inT_mem.1 hx).1).2.1 hy
  refine ⟨hpos, ?_⟩
  by_cases c : y = e.to
  ·rw [if_pos c]
   have he := (hf.amt e (by rw [hl]; simp)).2
   have h1 : amtS (inT l y) ≤ 30 * (inT l y).length + 1000000 := by
    have e1 : inT l y = inT l1 y ++ (e :: inT l2 y) := by
     unfold inT
     rw [hl, List.filter_append, List.filter_cons_of_pos (by simp [c])]
    have b1 := amtS_30 (ins := inT l1 y) fun x hx => a1 x (inT_mem.1 hx).1
    have b2 := amtS_30 (ins := inT l2 y) fun x hx => a2 x (inT_mem.1 hx).1
    rw [e1, amtS_app, amtS_cons, List.length_append, List.length_cons]
    omega
   have : (2 : Nat) ^ (6 + 13 + 1) = 1048576 := rfl
   omega
  ·rw [if_neg c]
   have h1 := amtS_30 (ins := inT l y) fun x hx => by
    obtain ⟨h1, h2⟩ := inT_mem.1 hx
    rw [hl] at h1
    rcases List.mem_append.1 h1 with h1 | h1
    ·exact a1 x h1
    ·rcases List.mem_cons.1 h1 with rfl | h1
     ·exact absurd h2.symm c
     ·exact a2 x h1
   have : (2 : Nat) ^ (6 + 0 + 1) = 128 := rfl
   omega
 ·have hN2 : ∀ x ∈ l, x.frm ∈ b9B :: b5L ∧ x.to ∈ b9B :: b5L := fun x hx => by
   refine ⟨?_, (hN x hx).2⟩
   rcases List.mem_cons.1 (hN x hx).1 with e | h2
   ·have := ((trfOk_of h).key x hx).1
    rw [e] at this
    exact absurd this (by rw [show keyOk (ByteArray.mk #[]) = false by kernel_rfl]; exact Bool.false_ne_true)
   ·exact h2
  refine ⟨7, 0, ByteArray.mk #[], b9B :: b5L, fun y hy => ?_, hN2, fun x hx => List.mem_cons_of_mem _ hx, .inr ⟨rfl, rfl, rfl⟩⟩
  have hlen : (inT l y).length ≤ 5 := by have := inT_names h hN2 hy; have : (b9B :: b5L).length = 6 := rfl; omega
  have hpos := (amtS_nn (ins := inT l y) fun x hx => hf.amt x (inT_mem.1 hx).1).2.1 hy
  have h1 := amtS_30 (ins := inT l y) fun x hx => ha x (inT_mem.1 hx).1
  refine ⟨hpos, ?_⟩
  have e1 : (2 : Nat) ^ (7 + (if y = ByteArray.mk #[] then 0 else 0) + 1) = 256 := by rw [ite_self]
  omega
/-- The scale of a batch, by how many batches there are into which nothing went. -/
theorem SC_fin {l : List Trf} (h : ctF l = 0) (hs : TShape l) {b : ByteArray} (hb : b ∈ b5L) (hp : 0 < SC l b) :
  (3 ≤ ((b :: srcL l b).filter (pureB l)).length → SC l b ≤ 1073741824) ∧ (((b :: srcL l b).filter (pureB l)).length = 2 → ¬2 ^ 32 ∣ (SC l b).toNat) := by
 have hf := flo_of h
 obtain ⟨e, t, z, N, hw, hN, hN5, hc⟩ := wb_of h hs
 have hnd : (b :: srcL l b).Nodup := List.nodup_cons.2 ⟨src_ne hf, (srcL_clo l b).nd⟩
 have hlen := nodup_le _ N hnd fun s hs => by
  rcases List.mem_cons.1 hs with rfl | hs
  ·exact hN5 _ hb
  ·obtain ⟨x, hx, hy⟩ := ((srcL_mem _ _ _).1 hs).last
   obtain ⟨t, ht, rfl⟩ := List.mem_map.1 hy
   exact (hN t (List.mem_filter.1 ht).1).1
 have hd := SC_prd hf _ b (Nat.lt_succ_self _) hp (srcL l b) (srcL_clo l b).nd fun s hs => hs
 rw [← prdW_cons, show SC l b = ((SC l b).toNat : Int) by omega] at hd
 have hd := Int.natCast_dvd_natCast.1 hd
 have hex := exS_le e t z l hnd
 have hnp := np_pu l (b :: srcL l b)
 have hex2 : exS e t z l (b :: srcL l b) ≤ e * npS l (b :: srcL l b) + t := by
  refine Nat.le_trans hex ?_
  split <;> omega
 have hpos : 0 < prdW l (b :: srcL l b) := by
  have key : ∀ S, 0 < prdW l S := fun S => by
   induction S with
   | nil => exact Nat.one_pos
   | cons y S ih =>
    rw [prdW_cons]
    refine Nat.mul_pos ?_ ih
    unfold wgt
    split
    ·omega
    ·rename_i c
     have := (hw y c).1
     omega
  exact key _
 have hle := Nat.le_of_dvd hpos hd
 have hle2 := prdW_le hw (b :: srcL l b)
 have hv := prdW_v2 hw (b :: srcL l b)
 generalize ((b :: srcL l b).filter (pureB l)).length = pu at *
 generalize npS l (b :: srcL l b) = np at *
 generalize exS e t z l (b :: srcL l b) = ex at *
 generalize prdW l (b :: srcL l b) = pr at *
 refine ⟨fun h3 => ?_, fun h2 hd2 => ?_⟩
 ·have h4 : ex + np ≤ 30 := by
   rcases hc with ⟨h5, rfl, rfl⟩ | ⟨h5, rfl, rfl⟩ <;> omega
  have h6 : 2 ^ (ex + np) ≤ 2 ^ 30 := Nat.pow_le_pow_right (by omega) h4
  have : (2 : Nat) ^ 30 = 1073741824 := rfl
  omega
 ·have h4 := hv 32 (Nat.dvd_trans hd2 hd)
  rcases hc with ⟨h5, rfl, rfl⟩ | ⟨h5, rfl, rfl⟩ <;> omega
end Go.Proofs.YtjamjffppcjeiaaGreatDoor
