
/-
 Adding up the shares one after the other, in plain terms: where the sum goes round, and that it ends with one.
-/
import Derived.Test.YtjamjffppcjeiaaGreatDoorShb
import Derived.Test.YtjamjffppcjeiaaGreatDoorPrw
namespace Go.Proofs.YtjamjffppcjeiaaGreatDoor
open Go Go.Ai
set_option linter.unusedSimpArgs false
set_option linter.unusedVariables false
set_option maxHeartbeats 4000000
theorem srtS_self (l : List ByteArray) : (srtS l).Perm l := by
 unfold srtS
 have h := (List.mergeSort_perm (bys l) fun x y => decide (x ≤ y)).map bS
 refine h.trans ?_
 unfold bys
 rw [List.map_map]
 have e : ((fun b : List UInt8 => bS b) ∘ fun b : ByteArray => b.data.toList) = id := funext fun x => by
  cases x; rfl
 exact .of_eq (by rw [show (bS ∘ fun b : ByteArray => b.data.toList) = id from e, List.map_id])
theorem srcL_frm {l : List Trf} {b s : ByteArray} (h : s ∈ srcL l b) : ∃ t ∈ l, t.frm = s := by
 obtain ⟨_, _, hy⟩ := ((srcL_mem _ _ _).1 h).last
 obtain ⟨t, ht, rfl⟩ := List.mem_map.1 hy
 exact ⟨t, (List.mem_filter.1 ht).1, rfl⟩
theorem srcL_len (l : List Trf) (b : ByteArray) : (srcL l b).length ≤ l.length := by
 have := nodup_le _ (l.map (·.frm)) (srcL_clo l b).nd fun s hs => by
  obtain ⟨t, ht, rfl⟩ := srcL_frm hs
  exact List.mem_map.2 ⟨t, ht, rfl⟩
 simpa using this
def zL (l : List Trf) (b : ByteArray) : List ByteArray := srtS (srcL l b) ++ [b]
theorem zL_perm (l : List Trf) (b : ByteArray) : (zL l b).Perm (b :: srcL l b) := by
 unfold zL
 exact (List.perm_append_comm.trans (.of_eq rfl)).trans ((srtS_self _).cons b)
theorem zL_mem {l : List Trf} {b x : ByteArray} (h : x ∈ zL l b) : x = b ∨ x ∈ srcL l b := by
 rcases List.mem_cons.1 ((zL_perm l b).mem_iff.1 h) with h | h
 ·exact .inl h
 ·exact .inr h
def pfS (l : List Trf) (b : ByteArray) (i : Nat) : Int := sumI ((((zL l b).take i).filter (pureB l)).map fun x => PT l x b)
theorem pfS_zero (l : List Trf) (b : ByteArray) : pfS l b 0 = 0 := by unfold pfS; rw [List.take_zero]; rfl
theorem pfS_succ (l : List Trf) (b : ByteArray) {i : Nat} (hi : i < (zL l b).length) : pfS l b (i + 1) = pfS l b i + if srcL l ((zL l b).getD i default) = [] then PT l ((zL l b).getD i default) b else 0 := by
 unfold pfS
 rw [List.take_add_one, List.getElem?_eq_getElem hi, Option.toList_some, List.filter_append, List.map_append, sumI_app]
 have e : (zL l b).getD i default = (zL l b)[i] := by simp [List.getD, hi]
 rw [e]
 congr 1
 by_cases c : srcL l (zL l b)[i] = []
 ·rw [if_pos c, List.filter_cons_of_pos (by unfold pureB; exact decide_eq_true (srcL_nil.1 c))]
  show PT l _ b + 0 = _
  omega
 ·rw [if_neg c, List.filter_cons_of_neg (by unfold pureB; simpa using fun h => c (srcL_nil.2 h))]
  rfl
theorem zL_nodup {l : List Trf} (hf : Flo l) (b : ByteArray) : (zL l b).Nodup := (zL_perm l b).nodup_iff.2 (List.nodup_cons.2 ⟨src_ne hf, (srcL_clo l b).nd⟩)
theorem pfS_all {l : List Trf} (hf : Flo l) {b : ByteArray} (hp : 0 < SC l b) : sumI (((zL l b).filter (pureB l)).map fun x => PT l x b) = SC l b := by
 refine PT_sum hf ((zL_nodup hf b).filter _) (fun x hx => of_decide_eq_true (List.mem_filter.1 hx).2) _ b (Nat.lt_succ_self _) hp fun x hx h => ?_
 exact List.mem_filter.2 ⟨(zL_perm l b).mem_iff.2 (List.mem_cons.2 hx), decide_eq_true h⟩
theorem pfS_end {l : List Trf} (hf : Flo l) {b : ByteArray} (hp : 0 < SC l b) : pfS l b (zL l b).length = SC l b := by
 unfold pfS; rw [List.take_length]; exact pfS_all hf hp
theorem PT_nn {l : List Trf} (hf : Flo l) {b : ByteArray} (hp : 0 < SC l b) (x : ByteArray) : 0 ≤ PT l x b := (PT_bd hf x _ b (Nat.lt_succ_self _) hp).1
/-- Where a batch is met into which nothing went. -/
theorem pfS_step {l : List Trf} (h : ctF l = 0) (hs : TShape l) {b : ByteArray} (hb : b ∈ b5L) (hp : 0 < SC l b) {i : Nat} (hi : i < (zL l b).length) (hx : srcL l ((zL l b).getD i default) = []) :
  0 ≤ pfS l b i ∧ 1 ≤ PT l ((zL l b).getD i default) b ∧ pfS l b i + PT l ((zL l b).getD i default) b ≤ SC l b ∧
  (pfS l b i = 0 ∨ (pfS l b i + PT l ((zL l b).getD i default) b = SC l b ∧ ¬2 ^ 32 ∣ (SC l b).toNat) ∨ SC l b ≤ 1073741824) := by
 have hf := flo_of h
 have e : (zL l b).getD i default = (zL l b)[i] := by simp [List.getD, hi]
 rw [e] at hx ⊢
 have hall := pfS_all hf hp
 have hfin := SC_fin h hs hb hp
 rw [← ((zL_perm l b).filter (pureB l)).length_eq] at hfin
 have hone := PT_pos hf (x := (zL l b)[i]) _ b (Nat.lt_succ_self _) hp (zL_mem (List.getElem_mem hi))
 have hsplit : (zL l b).filter (pureB l) = ((zL l b).take i).filter (pureB l) ++ (zL l b)[i] :: ((zL l b).drop (i + 1)).filter (pureB l) := by
  conv => lhs; rw [← List.take_append_drop i (zL l b), List.drop_eq_getElem_cons hi, List.filter_append, List.filter_cons_of_pos (show pureB l (zL l b)[i] = true from decide_eq_true (srcL_nil.1 hx))]
 rw [hsplit, List.map_append, List.map_cons, sumI_app, sumI_cons] at hall
 rw [hsplit, List.length_append, List.length_cons] at hfin
 have n1 := sumI_nn (f := fun x => PT l x b) (l := ((zL l b).take i).filter (pureB l)) fun x _ => PT_nn hf hp x
 have n2 := sumI_nn (f := fun x => PT l x b) (l := ((zL l b).drop (i + 1)).filter (pureB l)) fun x _ => PT_nn hf hp x
 have z1 : (((zL l b).take i).filter (pureB l)).length = 0 → pfS l b i = 0 := fun h => by
  unfold pfS; rw [List.eq_nil_of_length_eq_zero h]; rfl
 have z2 : (((zL l b).drop (i + 1)).filter (pureB l)).length = 0 → sumI ((((zL l b).drop (i + 1)).filter (pureB l)).map fun x => PT l x b) = 0 := fun h => by
  rw [List.eq_nil_of_length_eq_zero h]; rfl
 unfold pfS at z1 ⊢
 generalize ((zL l b).take i).filter (pureB l) = A at *
 generalize ((zL l b).drop (i + 1)).filter (pureB l) = B at *
 refine ⟨n1, hone, by omega, ?_⟩
 by_cases c3 : 3 ≤ A.length + (B.length + 1)
 ·exact .inr (.inr (hfin.1 c3))
 ·by_cases ca : A.length = 0
  ·exact .inl (z1 ca)
  ·exact .inr (.inl ⟨by have := z2 (by omega); omega, hfin.2 (by omega)⟩)
/-- Products are the other way round. -/
theorem prdL_mem {l : List Trf} {b x : ByteArray} (h : x ∈ srcL l b) : b ∈ prdL l x := by
 have step : ∀ {a c}, c ∈ stI l a → a ∈ stI (l.map Trf.inv) c := fun {a c} h => by
  obtain ⟨t, ht, rfl⟩ := List.mem_map.1 h
  obtain ⟨ht, hta⟩ := List.mem_filter.1 ht
  refine List.mem_map.2 ⟨t.inv, List.mem_filter.2 ⟨List.mem_map.2 ⟨t, ht, rfl⟩, by simp [Trf.inv]⟩, ?_⟩
  simpa [Trf.inv] using hta
 have key : ∀ {y}, Reach (stI l) b y → Reach (stI (l.map Trf.inv)) y b := fun {y} h => by
  induction h with
  | one hy => exact .one (step hy)
  | more _ hy ih => exact reach_up ih (step hy)
 unfold prdL
 exact (srcL_mem _ _ _).2 (key ((srcL_mem _ _ _).1 h))
theorem wrap_add2 (x y : Int) : IntKind.i64.wrap (IntKind.i64.wrap x + IntKind.i64.wrap y) = IntKind.i64.wrap (x + y) := by
 rw [IntKind.wrap_i64, IntKind.wrap_i64, IntKind.wrap_i64, IntKind.wrap_i64]; omega
theorem wrap_zero {x : Int} (hx : 0 ≤ x) (h : IntKind.i64.wrap x = 0) : 2 ^ 64 ∣ x.toNat := by
 rw [IntKind.wrap_i64] at h
 have : (2 : Nat) ^ 64 = 18446744073709551616 := rfl
 rw [this]
 omega
theorem low_step {a p d : Int} (ha : 0 ≤ a) (hp : 1 ≤ p) (hd : 0 < d) (hs : a + p ≤ d) (hb : d ≤ 1000000000000) (h : a = 0 ∨ (a + p = d ∧ ¬2 ^ 32 ∣ d.toNat) ∨ d ≤ 1073741824) :
  ((0 ≤ lowN a d * lowD p d ∧ lowN a d * lowD p d ≤ 1152921504606846976) ∧ (0 ≤ lowN p d * lowD a d ∧ lowN p d * lowD a d ≤ 1152921504606846976) ∧ 1 ≤ lowD a d * lowD p d ∧ lowD a d * lowD p d ≤ 1152921504606846976) ∨
  (a + p = d ∧ lowN a d * lowD p d + lowN p d * lowD a d = lowD a d * lowD p d ∧ IntKind.i64.wrap (lowD a d * lowD p d) ≠ 0) := by
 obtain ⟨g, g1, ea, ed, na, da, la, lda⟩ := low_mul ha hd
 obtain ⟨k, k1, eb, ed', nb, db, lb, ldb⟩ := low_mul (n := p) (by omega) hd
 have pos : ∀ {x y : Int}, 0 ≤ x → 0 ≤ y → 0 ≤ x * y := fun hx hy => Int.mul_nonneg hx hy
 have le : ∀ {x y M : Int}, 0 ≤ x → 0 ≤ y → x ≤ M → y ≤ M → x * y ≤ M * M := fun {x y M} hx hy h1 h2 => Int.le_trans (Int.mul_le_mul_of_nonneg_right h1 hy) (Int.mul_le_mul_of_nonneg_left h2 (by omega))
 rcases h with rfl | ⟨h, hn⟩ | h
 ·have hz := low_zero hd
  rw [hz.1, hz.2] at *
  refine .inl ⟨?_, ?_, ?_⟩
  ·rw [Int.zero_mul]; omega
  ·rw [Int.mul_one]; omega
  ·rw [Int.one_mul]; omega
 ·refine .inr ⟨h, ?_⟩
  obtain ⟨e1, e2⟩ := low_one ha (show 0 ≤ p by omega) hd h
  rw [e2, e1]
  refine ⟨rfl, fun hw => hn ?_⟩
  have h64 := wrap_zero (pos (by omega) (by omega)) hw
  rw [Int.toNat_mul (by omega) (by omega)] at h64
  have h32 := pow_sq _ 32 h64
  refine Nat.dvd_trans h32 ⟨k.toNat, ?_⟩
  rw [← Int.toNat_mul (by omega) (by omega), ← ed']
 ·have m : (1073741824 : Int) * 1073741824 = 1152921504606846976 := rfl
  have q1 := le na (show 0 ≤ lowD p d by omega) (show lowN a d ≤ 1073741824 by omega) (show lowD p d ≤ 1073741824 by omega)
  have q2 := le nb (show 0 ≤ lowD a d by omega) (show lowN p d ≤ 1073741824 by omega) (show lowD a d ≤ 1073741824 by omega)
  have q3 := le (show 0 ≤ lowD a d by omega) (show 0 ≤ lowD p d by omega) (show lowD a d ≤ 1073741824 by omega) (show lowD p d ≤ 1073741824 by omega)
  have p3 := Int.mul_pos (show 0 < lowD a d by omega) (show 0 < lowD p d by omega)
  rw [m] at q1 q2 q3
  exact .inl ⟨⟨pos na (by omega), q1⟩, ⟨pos nb (by omega), q2⟩, by omega, q3⟩
end Go.Proofs.YtjamjffppcjeiaaGreatDoor
