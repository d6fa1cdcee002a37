
/-
 SitesExpanded: the walk.
-/
import Derived.Test.YtdhkejcldipbmaaGreatDoorStk
namespace Go.Proofs.YtdhkejcldipbmaaGreatDoor
open Go Go.Ai Go.Proofs
set_option linter.unusedSimpArgs false
set_option linter.unusedVariables false
set_option maxHeartbeats 4000000
set_option maxRecDepth 100000
/-! ### a site, told with slices without elements for those that are nil -/
def LeC (c c' : Cel) : Prop := ∀ w ok v, DRel w ok c v → DRel w ok c' v
theorem lec_refl (c : Cel) : LeC c c := fun _ _ _ h => h
theorem lec_nil (z : Nat) : LeC gN (.sl true z []) := fun w ok v h => by
 cases h with
 | g => exact .nil
theorem lec_wk {z : Nat} {c : Cel} {l : List (List Cel)} (h : Wk z c l) : LeC c (.sl true z l) := by
 rcases h with rfl | ⟨rfl, rfl⟩
 ·exact lec_refl _
 ·exact lec_nil z
theorem lec_sl {fr : Bool} {z : Nat} {es es' : List (List Cel)} (hl : es'.length = es.length) (hz : ∀ e ∈ es', e.length = z) (hz0 : ∀ e ∈ es, e.length = z)
  (h : ∀ (i : Nat) (e e' : List Cel) (j : Nat) (x x' : Cel), es[i]? = some e → es'[i]? = some e' → e[j]? = some x → e'[j]? = some x' → LeC x x') : LeC (.sl fr z es) (.sl fr z es') := by
 have key : ∀ (i : Nat) (e' : List Cel) (j : Nat) (x' : Cel), es'[i]? = some e' → e'[j]? = some x' → ∃ e x, es[i]? = some e ∧ e[j]? = some x := fun i e' j x' h1 h2 => by
  have hi : i < es.length := by rw [← hl]; exact (List.getElem?_eq_some_iff.1 h1).1
  have hj : j < e'.length := (List.getElem?_eq_some_iff.1 h2).1
  have e1 : es[i]? = some es[i] := List.getElem?_eq_getElem hi
  have hj2 : j < es[i].length := by
   rw [hz0 _ (List.getElem_mem hi), ← hz e' (List.mem_of_getElem? h1)]; exact hj
  exact ⟨_, _, e1, List.getElem?_eq_getElem hj2⟩
 intro w ok v hd
 cases hd with
 | nil =>
  have : es' = [] := List.length_eq_zero_iff.1 (by rw [hl]; rfl)
  subst this; exact .nil
 | sl us h1 h2 h3 h4 h5 h6 h7 =>
  refine .sl us (by rw [hl]; exact h1) h2 h3 h4 hz (fun i e' j x' g1 g2 => ?_) (fun i e' j x' g1 g2 => ?_)
  ·obtain ⟨e, x, g3, g4⟩ := key i e' j x' g1 g2
   exact h6 i e j x g3 g4
  ·obtain ⟨e, x, g3, g4⟩ := key i e' j x' g1 g2
   exact h i e e' j x x' g3 g1 g4 g2 w ok _ (h7 i e j x g3 g4)
theorem lec_tpl {tags : List ByteArray} {cc al : Cel} {cx ax : List (List Cel)} (h1 : Wk 2 cc cx) (h2 : Wk 10 al ax) : LeC (tplC tags cc al) (.sl true 4 (tplN (tgE tags) cx ax)) := by
 refine lec_sl (by rfl) ?_ ?_ ?_
 ·intro e he
  simp only [tplN, List.mem_cons, List.not_mem_nil, or_false] at he
  rcases he with rfl | rfl <;> rfl
 ·intro e he
  simp only [List.mem_cons, List.not_mem_nil, or_false] at he
  rcases he with rfl | rfl <;> rfl
 ·intro i e e' j x x' g1 g2 g3 g4
  match i, g1, g2 with
  | 0, g1, g2 =>
   cases g1; cases g2
   match j, g3, g4 with
   | 0, g3, g4 => cases g3; cases g4; exact lec_refl _
   | 1, g3, g4 => cases g3; cases g4; exact lec_refl _
   | 2, g3, g4 => cases g3; cases g4; exact lec_wk h1
   | 3, g3, g4 => cases g3; cases g4; exact lec_wk h2
   | j + 4, g3, g4 => cases g3
  | 1, g1, g2 =>
   cases g1; cases g2
   match j, g3, g4 with
   | 0, g3, g4 => cases g3; cases g4; exact lec_refl _
   | 1, g3, g4 => cases g3; cases g4; exact lec_refl _
   | 2, g3, g4 => cases g3; cases g4; exact lec_refl _
   | 3, g3, g4 => cases g3; cases g4; exact lec_refl _
   | j + 4, g3, g4 => cases g3
  | i + 2, g1, g2 => cases g1
theorem vrel_site {w : World} {ok : Nat → Prop} {base : Nat} {E : Env} {tags : List ByteArray} {cc al : Cel} {ats cl cx ax : List (List Cel)} {v : Value} (h1 : Wk 2 cc cx) (h2 : Wk 10 al ax)
  (h : VRel w ok base E (siteV tags cc al ats cl) v) : VRel w ok base E (.ag [.sl true 4 (tplN (tgE tags) cx ax), .sl true 3 ats, .sl true 2 cl]) v := by
 cases h with
 | ag hc =>
  refine .ag ⟨hc.1, fun i c u g1 g2 => ?_⟩
  match i, g1 with
  | 0, g1 =>
   cases g1
   have := hc.2 0 _ u rfl g2
   exact lec_tpl h1 h2 _ _ _ this
  | 1, g1 => cases g1; exact hc.2 1 _ u rfl g2
  | 2, g1 => cases g1; exact hc.2 2 _ u rfl g2
  | i + 3, g1 => cases g1
abbrev siteW (T A C : List (List Cel)) : Val := .ag [.sl true 4 T, .sl true 3 A, .sl true 2 C]
theorem siteW_gen : Gen Tryz.prog 4 [] (24 * 800) (fun r => ∃ T A C, SiteR T A C ∧ r = siteW T A C) := by
 intro L p h1 h2 h3 h4
 have h5 := site_gen L p h1 h2 h3 h4
 refine ⟨h5.1, fun w okA g vs htab he hl hv => Calls.mono (h5.2 w okA g vs htab he hl hv) ?_⟩
 rintro e w' ⟨v, cs, r, h6, ⟨h7, tags, cc, al, ats, cl, hcl, hd, rfl⟩, h8, h9, h10⟩
 obtain ⟨cx, ax, hw1, hw2, hs⟩ := dom_site hd
 exact ⟨v, cs, _, h6, ⟨h7, _, _, _, hs cl hcl, rfl⟩, h8, vrel_site hw1 hw2 h9, h10⟩
theorem siteW_ex : ∃ r, ∃ T A C, SiteR T A C ∧ r = siteW T A C := by
 obtain ⟨cx, ax, hw1, hw2, hs⟩ := dom_site (.base (cc := gN) (al := gN) (ats := [asE (ByteArray.mk #[112, 49]) (ByteArray.mk #[]) (ByteArray.mk #[112, 117, 109, 112])]) (List.mem_cons_self) (.inl rfl) ⟨(ByteArray.mk #[112, 117, 109, 112]), by simp, (ByteArray.mk #[]), by simp, (ByteArray.mk #[]), by simp, .inl rfl⟩)
 exact ⟨_, _, _, _, hs [] ⟨[], .inl rfl, by simp, rfl⟩, rfl⟩
theorem plt_run : R 8 [.ag [.sl false 4 [[gS (ByteArray.mk #[112, 117, 109, 112]), .sl true 1 [[gS (ByteArray.mk #[37, 95, 116, 101, 109, 112])]], gN, gN]], .sl false 3 [asE (ByteArray.mk #[112, 49]) (ByteArray.mk #[]) (ByteArray.mk #[112, 117, 109, 112])], gN]] = some ([], .tu [.one (.sl true 1 [[gS (ByteArray.mk #[112, 49, 95, 116, 101, 109, 112])]]), iv 0]) := by kernel_rfl
theorem plt_fc : FC Tryz.prog 13 none [] (fun _ r => r = bv true) := by
 refine fc_plt (by simp +arith) ?_
 unfold C_plt
 simp (maxSteps := 1000000) (disch := omega) only [go_sem]
 refine CALL_det (R_fc plt_run) (.inl rfl) ?_
 simp (maxSteps := 1000000) (disch := omega) only [go_sem]
 refine CALL_det (eqS_fc (l := [[gS (ByteArray.mk #[112, 49, 95, 116, 101, 109, 112])]]) rfl (by simp)) (.inl rfl) ?_
 simp (maxSteps := 1000000) (disch := omega) only [go_sem]
theorem ra_path {T A C : List (List Cel)} (h : RA A) {key : ByteArray} (hk : key ∈ asN) : PthR T A C key ∧ (asR key A = 0 → PthQ T A C key) := by
 obtain ⟨i, hi, t1, t2, t3, rfl⟩ := h
 refine ⟨?_, fun h => ?_⟩
 ·by_cases h4 : i ∈ [4, 5, 6, 7, 8]
  ·exact pr_b T C t1 t2 t3 i h4 key hk
  ·exact pr_a T C t1 t2 t3 i (by simp only [List.mem_cons, List.not_mem_nil, or_false] at hi h4 ⊢; omega) key hk
 ·simp only [asN, List.mem_cons, List.not_mem_nil, or_false] at hk
  rcases hk with rfl | rfl | rfl | rfl
  ·refine pq_1 T C t1 t2 t3 i ?_
   simp only [List.mem_cons, List.not_mem_nil, or_false] at hi ⊢
   rcases hi with rfl | rfl | rfl | rfl | rfl | rfl | rfl | rfl | rfl | rfl <;> first | omega | cases h
  ·refine pq_2 T C t1 t2 t3 i ?_
   simp only [List.mem_cons, List.not_mem_nil, or_false] at hi ⊢
   rcases hi with rfl | rfl | rfl | rfl | rfl | rfl | rfl | rfl | rfl | rfl <;> first | omega | cases h
  ·refine pq_3 T C t1 t2 t3 i ?_
   simp only [List.mem_cons, List.not_mem_nil, or_false] at hi ⊢
   rcases hi with rfl | rfl | rfl | rfl | rfl | rfl | rfl | rfl | rfl | rfl <;> first | omega | cases h
  ·simp only [List.mem_cons, List.not_mem_nil, or_false] at hi
   rcases hi with rfl | rfl | rfl | rfl | rfl | rfl | rfl | rfl | rfl | rfl <;> cases h
theorem frm_nms (l : List ByteArray) : (nms l).all isS = true := by
 induction l with
 | nil => rfl
 | cons a l ih => exact ih
theorem tuR_0 (l : List ByteArray) : tuR 0 l = .tu [.one (.sl true 1 (nms l)), iv 0] := if_pos rfl
theorem tuR_n {e : Int} {l : List ByteArray} (h : e ≠ 0) : tuR e l = .tu [.one (.sl true 1 []), iv e] := if_neg h
theorem nms_len (l : List ByteArray) : (nms l).length = l.length := List.length_map ..
theorem pthN_len : ∀ (n : Nat) (ats : List (List Cel)) (key : ByteArray), (pthN n ats key).length ≤ n
 | 0, ats, key => Nat.le_refl _
 | n + 1, ats, key => by
  rw [pthN]
  split
  ·simp
  ·split
   ·simp
   ·have := pthN_len n ats (by assumption)
    rw [List.length_append]; simp only [List.length_cons, List.length_nil]; omega
theorem undN_len (ats : List (List Cel)) (key : ByteArray) : ∀ l : List (List Cel), (undN ats key l).length ≤ l.length
 | [] => by simp [undN]
 | x :: l => by
  have ih := undN_len ats key l
  unfold undN
  split
  ·rename_i h; cases h
   split
   ·simpa using ih
   ·simp only [List.length_cons]; omega
  ·simp
theorem asI_len (t1 t2 t3 : ByteArray) (i : Nat) : (asI t1 t2 t3 i).length ≤ 3 := by
 unfold asI; split <;> simp
theorem asN_gen : Gen Tryz.prog 5 [.one (.sl false 1 [[gS (ByteArray.mk #[112, 49])], [gS (ByteArray.mk #[112, 50])], [gS (ByteArray.mk #[112, 51])], [gS (ByteArray.mk #[122, 122])]])] 1 (fun r => ∃ e ∈ asN, r = sv e) := some_fc false asN (by simp [asN]) (by simp [asN])
set_option maxHeartbeats 8000000 in
theorem slw_fc (L : List Int) (hL : ∀ x ∈ L, I64 x) (hl : L.length ≤ 9223372036854775807) : FC Tryz.prog 3 none [ints false L] (fun _ r => r = bv true) := by
 refine fc_slw (by simp +arith) ?_
 unfold C_slw
 simp (maxSteps := 1000000) (disch := omega) only [go_sem]
 refine callx_gen siteW_gen hL hl (by omega) (by omega) siteW_ex ?_
 rintro p1 _ b1 c1 ⟨T, A, C, ⟨e, he, hS, hR⟩, rfl⟩
 refine ⟨rfl, ?_⟩
 unfold strm
 simp (maxSteps := 1000000) (disch := omega) only [go_sem]
 refine callx_gen asN_gen hL hl (by omega) (by omega) ⟨_, (ByteArray.mk #[112, 49]), by simp [asN], rfl⟩ ?_
 rintro p2 _ b2 c2 ⟨key, hk, rfl⟩
 refine ⟨rfl, ?_⟩
 have kS : FV fSF [sA T A C] (iv e) := hS.2
 have kC : FV fCS [sA T A C] (iv e) := hS.1
 rcases he with rfl | ⟨m, rfl⟩
 ·obtain ⟨hA, lt, lc, la, ⟨f1, f2, f3⟩, ht, hc, ha⟩ := hR rfl
  obtain ⟨⟨q1, q2, q3⟩, q4⟩ := ra_path hA hk (T := T) (C := C)
  have k1 : FV 8 [sA T A C] (.tu [tgV lt, iv 0]) := W_fc (good_t T A C lt) ⟨kC, ht.1, trivial⟩
  have k2 : FV 9 [sA T A C] (.tu [cgV lc, iv 0]) := W_fc (good_c T A C lc) ⟨kC, hc.1, trivial⟩
  have k3 : FV 10 [sA T A C] (.tu [agV la, iv 0]) := W_fc (good_l T A C la) ⟨kC, ha.1, trivial⟩
  have k4 : FV fPa [sA T A C, sv key] (tuR (asR key A) (pthN 3 A key)) := W_fc q2 ⟨kC, trivial⟩
  have k5 : FV fUn [sA T A C, sv key] (tuR (asR key A) (undN A key A)) := W_fc q3 ⟨kC, trivial⟩
  have k6 : FV fNf [sA T A C, sv key] (iv (asR key A)) := R_fc q1
  simp (maxSteps := 1000000) (disch := omega) only [go_sem]
  refine CALL_det kS (.inl rfl) ?_
  simp (maxSteps := 1000000) (disch := omega) only [go_sem]
  refine CALL_det kC (.inl rfl) ?_
  simp (maxSteps := 1000000) (disch := omega) only [go_sem]
  refine CALL_det k1 (.inl rfl) ?_
  simp (maxSteps := 1000000) (disch := omega) only [go_sem]
  refine CALL_det k2 (.inl rfl) ?_
  simp (maxSteps := 1000000) (disch := omega) only [go_sem]
  refine CALL_det k3 (.inl rfl) ?_
  simp (maxSteps := 1000000) (disch := omega) only [go_sem]
  have eS := eqS_fc f1.1 f1.2
  have eC := eqC_fc f2.1 f2.2
  have eA := eqA_fc f3.1 f3.2
  have g1 := ht.2
  have g2 := hc.2
  have g3 := ha.2
  by_cases h0 : asR key A = 0
  ·obtain ⟨q5, q6⟩ := q4 h0
   have k7 : FV fPo [sA T A C, sv key] (.one (.sl true 1 (nms (pthN 3 A key)))) := R_fc q5
   have k8 : FV fUo [sA T A C, sv key] (.one (.sl true 1 (nms (undN A key A)))) := R_fc q6
   rw [h0, tuR_0] at k4 k5
   rw [h0] at k6
   have eP := eqS_fc (frm_nms (pthN 3 A key)) (by rw [nms_len]; have := pthN_len 3 A key; omega)
   have eU := eqS_fc (frm_nms (undN A key A)) (by rw [nms_len]; obtain ⟨i, _, t1, t2, t3, rfl⟩ := hA; have h1 := undN_len (asI t1 t2 t3 i) key (asI t1 t2 t3 i); have h2 := asI_len t1 t2 t3 i; omega)
   refine CALL_det k4 (.inl rfl) ?_
   simp (maxSteps := 1000000) (disch := omega) only [go_sem]
   refine CALL_det k5 (.inl rfl) ?_
   simp (maxSteps := 1000000) (disch := omega) only [go_sem]
   refine CALL_det g1 (.inl rfl) ?_
   simp (maxSteps := 1000000) (disch := omega) only [go_sem]
   refine CALL_det eS (.inl rfl) ?_
   simp (maxSteps := 1000000) (disch := omega) only [go_sem]
   refine CALL_det g2 (.inl rfl) ?_
   simp (maxSteps := 1000000) (disch := omega) only [go_sem]
   refine CALL_det eC (.inl rfl) ?_
   simp (maxSteps := 1000000) (disch := omega) only [go_sem]
   refine CALL_det g3 (.inl rfl) ?_
   simp (maxSteps := 1000000) (disch := omega) only [go_sem]
   refine CALL_det eA (.inl rfl) ?_
   simp (maxSteps := 1000000) (disch := omega) only [go_sem]
   refine CALL_det k6 (.inl rfl) ?_
   simp (maxSteps := 1000000) (disch := omega) only [go_sem]
   refine CALL_det k7 (.inl rfl) ?_
   simp (maxSteps := 1000000) (disch := omega) only [go_sem]
   refine CALL_det eP (.inl rfl) ?_
   simp (maxSteps := 1000000) (disch := omega) only [go_sem]
   refine CALL_det k8 (.inl rfl) ?_
   simp (maxSteps := 1000000) (disch := omega) only [go_sem]
   refine CALL_det eU (.inl rfl) ?_
   simp (maxSteps := 1000000) (disch := omega) only [go_sem]
   refine CALL_det plt_fc (.inl rfl) ?_
   simp (maxSteps := 1000000) (disch := omega) only [go_sem]
  ·rw [tuR_n h0] at k4 k5
   refine CALL_det k4 (.inl rfl) ?_
   simp (maxSteps := 1000000) (disch := omega) only [go_sem]
   refine CALL_det k5 (.inl rfl) ?_
   simp (maxSteps := 1000000) (disch := omega) only [go_sem]
   refine CALL_det g1 (.inl rfl) ?_
   simp (maxSteps := 1000000) (disch := omega) only [go_sem]
   refine CALL_det eS (.inl rfl) ?_
   simp (maxSteps := 1000000) (disch := omega) only [go_sem]
   refine CALL_det g2 (.inl rfl) ?_
   simp (maxSteps := 1000000) (disch := omega) only [go_sem]
   refine CALL_det eC (.inl rfl) ?_
   simp (maxSteps := 1000000) (disch := omega) only [go_sem]
   refine CALL_det g3 (.inl rfl) ?_
   simp (maxSteps := 1000000) (disch := omega) only [go_sem]
   refine CALL_det eA (.inl rfl) ?_
   simp (maxSteps := 1000000) (disch := omega) only [go_sem]
   refine CALL_det k6 (.inl rfl) ?_
   simp (maxSteps := 1000000) (disch := omega) only [go_sem]
   refine CALL_det plt_fc (.inl rfl) ?_
   simp (maxSteps := 1000000) (disch := omega) only [go_sem]
 ·have k1 : FV 8 [sA T A C] (.tu [.one (.sl true 1 []), iv ((m + 1 : Nat) : Int)]) := W_fc (bad_t T A C m) ⟨kC, trivial⟩
  have k2 : FV 9 [sA T A C] (.tu [.one (.sl true 2 []), iv ((m + 1 : Nat) : Int)]) := W_fc (bad_c T A C m) ⟨kC, trivial⟩
  have k3 : FV 10 [sA T A C] (.tu [.one (.sl true 10 []), iv ((m + 1 : Nat) : Int)]) := W_fc (bad_l T A C m) ⟨kC, trivial⟩
  have k4 : FV fPa [sA T A C, sv key] (.tu [.one (.sl true 1 []), iv ((m + 1 : Nat) : Int)]) := W_fc (bad_p T A C m key) ⟨kC, trivial⟩
  have k5 : FV fUn [sA T A C, sv key] (.tu [.one (.sl true 1 []), iv ((m + 1 : Nat) : Int)]) := W_fc (bad_u T A C m key) ⟨kC, trivial⟩
  clear hR hS
  have he0 : ((m + 1 : Nat) : Int) ≠ 0 := by omega
  generalize ((m + 1 : Nat) : Int) = e at *
  simp (maxSteps := 1000000) (disch := omega) only [go_sem]
  refine CALL_det kS (.inl rfl) ?_
  simp (maxSteps := 1000000) (disch := omega) only [go_sem]
  refine CALL_det kC (.inl rfl) ?_
  simp (maxSteps := 1000000) (disch := omega) only [go_sem]
  refine CALL_det k1 (.inl rfl) ?_
  simp (maxSteps := 1000000) (disch := omega) only [go_sem]
  refine CALL_det k2 (.inl rfl) ?_
  simp (maxSteps := 1000000) (disch := omega) only [go_sem]
  refine CALL_det k3 (.inl rfl) ?_
  simp (maxSteps := 1000000) (disch := omega) only [go_sem]
  refine CALL_det k4 (.inl rfl) ?_
  simp (maxSteps := 1000000) (disch := omega) only [go_sem]
  refine CALL_det k5 (.inl rfl) ?_
  simp (maxSteps := 1000000) (disch := omega) only [go_sem]
  refine CALL_det plt_fc (.inl rfl) ?_
  simp (maxSteps := 1000000) (disch := omega) only [go_sem]
end Go.Proofs.YtdhkejcldipbmaaGreatDoor
