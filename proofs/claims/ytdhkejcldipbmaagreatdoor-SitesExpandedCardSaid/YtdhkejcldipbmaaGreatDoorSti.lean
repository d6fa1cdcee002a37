
/-
 Sites as a whole: both sides find the same wrong with them, and expand them alike.
-/
import Derived.Test.YtdhkejcldipbmaaGreatDoorStd
import Derived.Test.YtdhkejcldipbmaaGreatDoorStf
import Derived.Test.YtdhkejcldipbmaaGreatDoorSte
import Derived.Test.YtdhkejcldipbmaaGreatDoorStu
import Derived.Test.YtdhkejcldipbmaaGreatDoorSth
import Derived.Test.YtdhkejcldipbmaaGreatDoorSty
import Derived.Test.YtdhkejcldipbmaaGreatDoorCks
import Derived.Test.YtdhkejcldipbmaaGreatDoorSeq
namespace Go.Proofs.YtdhkejcldipbmaaGreatDoor
open Go Go.Ai Go.Proofs
set_option linter.unusedSimpArgs false
set_option linter.unusedVariables false
set_option maxHeartbeats 4000000
set_option maxRecDepth 100000
abbrev FV (f : FuncId) (args : List Val) (v : Val) : Prop := FC Tryz.prog f none args (fun _ r => r = v)
abbrev FB (f g : FuncId) (args : List Val) (v : Val) : Prop := FV f args v ∧ FV g args v
theorem fb_same {f g : FuncId} {x : Val} {e : Int} (h : same1 f g x e) : FB f g [x] (iv e) := ⟨R_fc h.1, R_fc h.2⟩
/-- Errors, the first of them. -/
def frst (e f : Int) : Int := if e = 0 then f else e
theorem errN_frst {e f : Int} (h : errN e) (h' : errN f) : errN (frst e f) := by
 unfold frst; split
 ·exact h'
 ·exact h
theorem frst_S (m : Nat) (f : Int) : frst ((m + 1 : Nat) : Int) f = ((m + 1 : Nat) : Int) := by
 unfold frst; rw [if_neg (by omega)]
theorem or_fc {e f : Int} (h : errN e) (h' : errN f) : FV fEo [.one (.sl false 1 [[gI e], [gI f]])] (iv (frst e f)) := by
 rcases h with rfl | ⟨m, rfl⟩
 ·rcases h' with rfl | ⟨m, rfl⟩
  ·exact R_fc or_0
  ·exact R_fc (or_1 m)
 ·rw [frst_S]; exact R_fc (or_2 m f)
def Frm (p : List Cel → Bool) (l : List (List Cel)) : Prop := l.all p = true ∧ l.length ≤ 1000000
section
variable (T A C : List (List Cel))
/-- What is expanded, and alike. -/
def Exp : Prop := ∃ lt lc la, (Frm isS lt ∧ Frm isC lc ∧ Frm isA la) ∧ FB fTg fTr [sA T A C] (tgV lt) ∧ FB fCg fCr [sA T A C] (cgV lc) ∧ FB fAg fAr [sA T A C] (agV la)
/-- What is wrong with all that is expanded. -/
def ExB : Prop := ∃ e3, errN e3 ∧ FV fCE [sA T A C] (iv e3) ∧ (e3 = 0 → Exp T A C) ∧ ∀ ec, errN ec → FV fKf [cg_ C] (iv ec) → FV fTF [.one (.sl false 4 T)] (iv 0) → FV fAF [sA T A C] (iv 0) → FV fSF [sA T A C] (iv (frst e3 ec))
end
section
variable {T A C : List (List Cel)}
theorem frmS {s : Nat} (hs : s ∈ [0, 1, 2, 3, 4, 5]) : Frm isS (tgOf tg0 s) := by
 simp only [List.mem_cons, List.not_mem_nil, or_false] at hs
 rcases hs with rfl | rfl | rfl | rfl | rfl | rfl <;> exact ⟨by kernel_rfl, Nat.le_of_ble_eq_true (by kernel_rfl)⟩
theorem frmC {j s : Nat} (hj : j ∈ [0, 1, 2, 3, 4]) (hs : s ∈ [0, 1, 2, 3, 4, 5]) : Frm isC (cgOf j s) := by
 simp only [List.mem_cons, List.not_mem_nil, or_false] at hj hs
 rcases hj with rfl | rfl | rfl | rfl | rfl <;> rcases hs with rfl | rfl | rfl | rfl | rfl | rfl <;> exact ⟨by kernel_rfl, Nat.le_of_ble_eq_true (by kernel_rfl)⟩
theorem frmA (kd lim pr : Int) (lat : Bool) {k s : Nat} (hk : k ∈ [0, 1, 2, 3, 4, 5]) (hs : s ∈ [0, 1, 2, 3, 4, 5]) : Frm isA (alOf kd lim pr lat k s) := by
 simp only [List.mem_cons, List.not_mem_nil, or_false] at hk hs
 rcases hk with rfl | rfl | rfl | rfl | rfl | rfl <;> rcases hs with rfl | rfl | rfl | rfl | rfl | rfl <;> exact ⟨by kernel_rfl, Nat.le_of_ble_eq_true (by kernel_rfl)⟩
theorem exb_stop {m : Nat} {lg1 lg2 : Lg} {T1 T2 : TrT} (h1 : W e_pce T1 [sA T A C] = some (evM m, lg1)) (h2 : W e_qsf T2 [sA T A C] = some (evM m, lg2)) (hl1 : LgOk Tryz.prog lg1) (hl2 : FV fTF [.one (.sl false 4 T)] (iv 0) → FV fAF [sA T A C] (iv 0) → LgOk Tryz.prog lg2) : ExB T A C := by
 refine ⟨_, .inr ⟨m, rfl⟩, W_fc h1 hl1, fun h => by omega, fun ec he hk ht ha => ?_⟩
 rw [frst_S]
 exact W_fc h2 (hl2 ht ha)
theorem exb_a {s : Nat} (hs : s ∈ [0, 1, 2, 3, 4]) {c : List (List Cel)} (ht : FB fTg fTr [sA T A C] (tgV (tgOf (tgI 2) s))) (hc : FB fCg fCr [sA T A C] (cgV c)) : ExB T A C :=
 exb_stop (m := 4) (ex_a T A C s hs c).1 (ex_a T A C s hs c).2 ⟨ht.1, hc.1, trivial⟩ fun h1 h2 => ⟨h1, h2, ht.2, hc.2, trivial⟩
theorem exb_b {j s : Nat} (hj : j ∈ [0, 1, 2, 3, 4]) (hs : s ∈ [0, 1, 2, 3, 4]) (ht : FB fTg fTr [sA T A C] (tgV (tgOf (tgI 3) s))) (hc : FB fCg fCr [sA T A C] (cgV (cgOf j s))) : ExB T A C :=
 exb_stop (m := 5) (ex_b T A C j hj s hs).1 (ex_b T A C j hj s hs).2 ⟨ht.1, hc.1, trivial⟩ fun h1 h2 => ⟨h1, h2, ht.2, hc.2, trivial⟩
theorem exb_b2 {j s : Nat} (hj : j ∈ [8, 9, 10]) (hs : s ∈ [0, 1, 2, 3, 4]) (ht : FB fTg fTr [sA T A C] (tgV (tgOf tg0 s))) (hc : FB fCg fCr [sA T A C] (cgV (cgOf j s))) : ExB T A C :=
 exb_stop (m := 5) (ex_b2 T A C j hj s hs).1 (ex_b2 T A C j hj s hs).2 ⟨ht.1, hc.1, trivial⟩ fun h1 h2 => ⟨h1, h2, ht.2, hc.2, trivial⟩
theorem exb_c {s : Nat} (hs : s ∈ [0, 1, 2, 3, 4]) (ht : FB fTg fTr [sA T A C] (tgV (tgOf tg0 s))) (hc : FB fCg fCr [sA T A C] (cgV (cgOf 6 s))) (h : FB fCC fCf [cg_ (cgOf 6 s)] (iv 9)) : ExB T A C :=
 exb_stop (m := 8) (ex_c T A C s hs 8).1 (ex_c T A C s hs 8).2 ⟨ht.1, hc.1, h.1, trivial⟩ fun h1 h2 => ⟨h1, h2, ht.2, hc.2, h.2, trivial⟩
theorem exb_d {j s : Nat} (hj : j ∈ [5, 7]) (hs : s ∈ [0, 1, 2, 3, 4]) (ht : FB fTg fTr [sA T A C] (tgV (tgOf tg0 s))) (hc : FB fCg fCr [sA T A C] (cgV (cgOf j s))) (h : FB fCC fCf [cg_ (cgOf j s)] (iv 0)) (ho : FB fOr fOf [cg_ (cgOf j s)] (orN (iv 14))) : ExB T A C :=
 exb_stop (m := 13) (ex_d T A C j hj s hs 13).1 (ex_d T A C j hj s hs 13).2 ⟨ht.1, hc.1, h.1, ho.1, trivial⟩ fun h1 h2 => ⟨h1, h2, ht.2, hc.2, h.2, ho.2, trivial⟩
theorem exb_e {j s : Nat} (hj : j ∈ [0, 1, 2, 3, 4]) (hs : s ∈ [0, 1, 2, 3, 4, 5]) {L al : List (List Cel)} {e : Int} (he : errN e) (ht : FB fTg fTr [sA T A C] (tgV (tgOf tg0 s))) (hc : FB fCg fCr [sA T A C] (cgV (cgOf j s))) (h : FB fCC fCf [cg_ (cgOf j s)] (iv 0)) (ho : FB fOr fOf [cg_ (cgOf j s)] (orV L (iv 0)))
  (ha : FB fAg fAr [sA T A C] (agV al)) (hl : FB fCl fAl [.one (.sl false 10 al)] (iv e)) (hfa : Frm isA al) : ExB T A C := by
 refine ⟨e, he, W_fc (ex_e T A C j hj s hs L al e) ⟨ht.1, hc.1, h.1, ho.1, ha.1, hl.1, trivial⟩, fun _ => ⟨_, _, _, ⟨frmS hs, frmC hj hs, hfa⟩, ht, hc, ha⟩, fun ec hec hk h1 h2 => ?_⟩
 exact W_fc (ex_f T A C j hj s hs L al e ec (frst e ec)) ⟨h1, h2, ht.2, hc.2, h.2, ho.2, ha.2, hl.2, hk, or_fc he hec, trivial⟩
/-- A site: both sides find the same wrong with it. -/
theorem site_join {e1 e2 : Int} (h1 : FB fCT fTF [.one (.sl false 4 T)] (iv e1)) (he1 : errN e1) (h2 : FB fCA fAF [sA T A C] (iv e2)) (he2 : errN e2) (h3 : e1 = 0 → e2 = 0 → ExB T A C)
  (hc : ∃ e, errN e ∧ FV fCk [cg_ C] (iv e) ∧ FV fKf [cg_ C] (iv e)) : ∃ e, errN e ∧ FB fCS fSF [sA T A C] (iv e) ∧ (e = 0 → e2 = 0 ∧ Exp T A C) := by
 rcases he1 with rfl | ⟨m, rfl⟩
 ·rcases he2 with rfl | ⟨m, rfl⟩
  ·obtain ⟨e3, he3, h4, h5, h6⟩ := h3 rfl rfl
   obtain ⟨ec, hec, hc1, hc2⟩ := hc
   refine ⟨frst e3 ec, errN_frst he3 hec, ⟨?_, h6 ec hec hc2 h1.2 h2.2⟩, fun h => ⟨rfl, h5 ?_⟩⟩
   ·rcases he3 with rfl | ⟨m, rfl⟩
    ·exact W_fc (cs_c T A C ec) ⟨h1.1, h2.1, h4, hc1, trivial⟩
    ·rw [frst_S]; exact W_fc (cs_x T A C m) ⟨h1.1, h2.1, h4, trivial⟩
   ·unfold frst at h; split at h <;> assumption
  ·exact ⟨_, .inr ⟨m, rfl⟩, ⟨W_fc (cs_a T A C m) ⟨h1.1, h2.1, trivial⟩, W_fc (sf_a T A C m) ⟨h1.2, h2.2, trivial⟩⟩, fun h => by omega⟩
 ·exact ⟨_, .inr ⟨m, rfl⟩, ⟨W_fc (cs_t T A C m) ⟨h1.1, trivial⟩, W_fc (sf_t T A C m) ⟨h1.2, trivial⟩⟩, fun h => by omega⟩
end
/-- Assets in a row, by number. -/
theorem as_sq {ats : List (List Cel)} (h : AS0 ats) : ∃ s ∈ [0, 1, 2, 3, 4], ∃ a1 a2 a3, ats = sqI a1 a2 a3 s := by
 obtain ⟨t2, h2, a2, h3, a3, h4, h⟩ := h
 simp only [List.mem_cons, List.not_mem_nil, or_false] at h2
 rcases h with rfl | rfl | rfl
 ·exact ⟨0, by simp, (ByteArray.mk #[]), a2, a3, rfl⟩
 ·rcases h2 with rfl | rfl
  ·exact ⟨1, by simp, (ByteArray.mk #[]), a2, a3, rfl⟩
  ·exact ⟨2, by simp, (ByteArray.mk #[]), a2, a3, rfl⟩
 ·rcases h2 with rfl | rfl
  ·exact ⟨3, by simp, (ByteArray.mk #[]), a2, a3, rfl⟩
  ·exact ⟨4, by simp, (ByteArray.mk #[]), a2, a3, rfl⟩
theorem mem5 {s : Nat} (h : s ∈ [0, 1, 2, 3, 4]) : s ∈ [0, 1, 2, 3, 4, 5] := by
 simp only [List.mem_cons, List.not_mem_nil, or_false] at h ⊢; omega
theorem ord_sq (j : Nat) (hj : j ∈ [0, 1, 2, 3, 4, 5, 6, 7, 8, 9, 10]) (s : Nat) (hs : s ∈ [0, 1, 2, 3, 4, 5]) : cgOf j s = cgOf j (sq3 s) := by
 simp only [List.mem_cons, List.not_mem_nil, or_false] at hj hs
 rcases hj with rfl | rfl | rfl | rfl | rfl | rfl | rfl | rfl | rfl | rfl | rfl <;> rcases hs with rfl | rfl | rfl | rfl | rfl | rfl <;> kernel_rfl
theorem sq3_mem (s : Nat) : sq3 s ∈ [0, 1, 5] := by
 rcases @sq3_in s with h | h | h <;> rw [h] <;> simp
section
variable {j s k : Nat} {kd lim pr : Int} {lat : Bool} {a1 a2 a3 : ByteArray} {C : List (List Cel)}
theorem cgFB (hj : j ∈ [0, 1, 2, 3, 4]) (hs : s ∈ [0, 1, 2, 3, 4, 5]) {tg ax : List (List Cel)} : FB fCg fCr [sA (tplN tg (cxJ j) ax) (sqI a1 a2 a3 s) C] (cgV (cgOf j s)) :=
 ⟨R_fc (cg_run j hj s hs a1 a2 a3 tg ax C).1, R_fc (cg_run j hj s hs a1 a2 a3 tg ax C).2⟩
theorem cgFB2 (hj : j ∈ [5, 6, 7, 8, 9, 10]) (hs : s ∈ [0, 1, 2, 3, 4]) {tg ax : List (List Cel)} : FB fCg fCr [sA (tplN tg (cxJ j) ax) (sqI a1 a2 a3 s) C] (cgV (cgOf j s)) := by
 simp only [List.mem_cons, List.not_mem_nil, or_false] at hj
 rcases hj with rfl | rfl | rfl | rfl | rfl | rfl
 ·exact ⟨R_fc (cg_r5 s hs a1 a2 a3 tg ax C).1, R_fc (cg_r5 s hs a1 a2 a3 tg ax C).2⟩
 ·exact ⟨R_fc (cg_r6 s hs a1 a2 a3 tg ax C).1, R_fc (cg_r6 s hs a1 a2 a3 tg ax C).2⟩
 ·exact ⟨R_fc (cg_r7 s hs a1 a2 a3 tg ax C).1, R_fc (cg_r7 s hs a1 a2 a3 tg ax C).2⟩
 ·exact ⟨R_fc (cg_r8 s hs a1 a2 a3 tg ax C).1, R_fc (cg_r8 s hs a1 a2 a3 tg ax C).2⟩
 ·exact ⟨R_fc (cg_r9 s hs a1 a2 a3 tg ax C).1, R_fc (cg_r9 s hs a1 a2 a3 tg ax C).2⟩
 ·exact ⟨R_fc (cg_r10 s hs a1 a2 a3 tg ax C).1, R_fc (cg_r10 s hs a1 a2 a3 tg ax C).2⟩
theorem tgFB {i : Nat} (hi : i ∈ [0, 2, 3]) (hs : s ∈ [0, 1, 2, 3, 4]) {cx ax : List (List Cel)} : FB fTg fTr [sA (tplN (tgE (tgI i)) cx ax) (sqI a1 a2 a3 s) C] (tgV (tgOf (tgI i) s)) :=
 ⟨R_fc (tg_run i hi s hs a1 a2 a3 cx ax C).1, R_fc (tg_run i hi s hs a1 a2 a3 cx ax C).2⟩
theorem tgFB0 (hs : s ∈ [0, 1, 2, 3, 4, 5]) {cx ax : List (List Cel)} : FB fTg fTr [sA (tplN (tgE tg0) cx ax) (sqI a1 a2 a3 s) C] (tgV (tgOf tg0 s)) := by
 by_cases h5 : s = 5
 ·subst h5
  exact ⟨R_fc (tg_run9 a1 a2 a3 cx ax C).1, R_fc (tg_run9 a1 a2 a3 cx ax C).2⟩
 ·exact tgFB (i := 0) (by simp) (by simp only [List.mem_cons, List.not_mem_nil, or_false] at hs ⊢; omega)
theorem alFB (hk : k ∈ [0, 1, 2, 3, 4, 5]) (hs : s ∈ [0, 1, 2, 3, 4, 5]) {tg cx : List (List Cel)} : FB fAg fAr [sA (tplN tg cx (axJ kd lim pr lat k)) (sqI a1 a2 a3 s) C] (agV (alOf kd lim pr lat k s)) := by
 simp only [List.mem_cons, List.not_mem_nil, or_false] at hk
 rcases hk with rfl | rfl | rfl | rfl | rfl | rfl
 ·exact ⟨R_fc (al_r0 s hs kd lim pr lat a1 a2 a3 tg cx C).1, R_fc (al_r0 s hs kd lim pr lat a1 a2 a3 tg cx C).2⟩
 ·exact ⟨R_fc (al_r1 s hs kd lim pr lat a1 a2 a3 tg cx C).1, R_fc (al_r1 s hs kd lim pr lat a1 a2 a3 tg cx C).2⟩
 ·exact ⟨R_fc (al_r2 s hs kd lim pr lat a1 a2 a3 tg cx C).1, R_fc (al_r2 s hs kd lim pr lat a1 a2 a3 tg cx C).2⟩
 ·exact ⟨R_fc (al_r3 s hs kd lim pr lat a1 a2 a3 tg cx C).1, R_fc (al_r3 s hs kd lim pr lat a1 a2 a3 tg cx C).2⟩
 ·exact ⟨R_fc (al_r4 s hs kd lim pr lat a1 a2 a3 tg cx C).1, R_fc (al_r4 s hs kd lim pr lat a1 a2 a3 tg cx C).2⟩
 ·exact ⟨R_fc (al_r5 s hs kd lim pr lat a1 a2 a3 tg cx C).1, R_fc (al_r5 s hs kd lim pr lat a1 a2 a3 tg cx C).2⟩
theorem cc_run (j : Nat) (hj : j ∈ [0, 1, 2, 3, 4]) (s : Nat) (hs : s ∈ [0, 1, 5]) : same2 fCC fCf (.one (.sl false 2 (cgOf j s))) (iv (ccF j)) := by
 simp only [List.mem_cons, List.not_mem_nil, or_false] at hj
 rcases hj with rfl | rfl | rfl | rfl | rfl
 ·exact cc_0 s hs
 ·exact cc_1 s hs
 ·exact cc_2 s hs
 ·exact cc_3 s hs
 ·exact cc_4 s hs
theorem or_run (j : Nat) (hj : j ∈ [0, 1, 2, 3, 4]) (s : Nat) (hs : s ∈ [0, 1, 5]) : same3 fOr fOf (.one (.sl false 2 (cgOf j s))) (orR j s) := by
 simp only [List.mem_cons, List.not_mem_nil, or_false] at hj hs
 rcases hj with rfl | rfl | rfl | rfl | rfl <;> rcases hs with rfl | rfl | rfl
 ·exact or_0_0
 ·exact or_0_1
 ·exact or_0_5
 ·exact or_1_0
 ·exact or_1_1
 ·exact or_1_5
 ·exact or_2_0
 ·exact or_2_1
 ·exact or_2_5
 ·exact or_3_0
 ·exact or_3_1
 ·exact or_3_5
 ·exact or_4_0
 ·exact or_4_1
 ·exact or_4_5
theorem ccFB (hj : j ∈ [0, 1, 2, 3, 4]) (hs : s ∈ [0, 1, 2, 3, 4, 5]) : FB fCC fCf [cg_ (cgOf j s)] (iv (ccF j)) := by
 rw [ord_sq j (by simp only [List.mem_cons, List.not_mem_nil, or_false] at hj ⊢; omega) s hs]
 have h := cc_run j hj (sq3 s) (sq3_mem s)
 exact ⟨R2_fc h.1, R2_fc h.2⟩
theorem sq3_2 (hs : s ∈ [0, 1, 2, 3, 4]) : sq3 s ∈ [0, 1] := by
 simp only [List.mem_cons, List.not_mem_nil, or_false] at hs
 rcases hs with rfl | rfl | rfl | rfl | rfl <;> simp [sq3]
theorem alD_mem (h : AlD kd lim pr lat k) : k ∈ [0, 1, 2, 3, 4, 5] := by
 cases h with
 | none => simp
 | right _ hk => simp only [List.mem_cons, List.not_mem_nil, or_false] at hk ⊢; omega
 | wrong _ _ hk => simp only [List.mem_cons, List.not_mem_nil, or_false] at hk ⊢; omega
theorem exb_right (hj : j ∈ [0, 1, 2, 3, 4]) (hs : s ∈ [0, 1, 2, 3, 4, 5]) (hk : AlD kd lim pr lat k) : ExB (tplN (tgE tg0) (cxJ j) (axJ kd lim pr lat k)) (sqI a1 a2 a3 s) C := by
 obtain ⟨e, he, h1, h2⟩ := al_both hk hs
 have hc := ccFB hj hs
 have e0 : ccF j = 0 := by simp only [List.mem_cons, List.not_mem_nil, or_false] at hj; unfold ccF; rw [if_neg (by omega)]
 rw [e0] at hc
 have ho := or_run j hj (sq3 s) (sq3_mem s)
 have e1 : orR j (sq3 s) = orV (orL j (sq3 s)) (iv 0) := by simp only [List.mem_cons, List.not_mem_nil, or_false] at hj; unfold orR; rw [if_neg (by omega)]
 rw [e1, ← ord_sq j (by simp only [List.mem_cons, List.not_mem_nil, or_false] at hj ⊢; omega) s hs] at ho
 exact exb_e hj hs he (tgFB0 hs) (cgFB hj hs) hc ⟨R2_fc ho.1, R2_fc ho.2⟩ (alFB (alD_mem hk) hs) ⟨R_fc h1, R_fc h2⟩ (frmA _ _ _ _ (alD_mem hk) hs)
theorem exb_calc {ax : List (List Cel)} (hj : j ∈ [5, 6, 7, 8, 9, 10]) (hs : s ∈ [0, 1, 2, 3, 4]) : ExB (tplN (tgE tg0) (cxJ j) ax) (sqI a1 a2 a3 s) C := by
 have h1 : FB fTg fTr [sA (tplN (tgE tg0) (cxJ j) ax) (sqI a1 a2 a3 s) C] (tgV (tgOf tg0 s)) := tgFB0 (mem5 hs)
 have h2 : FB fCg fCr [sA (tplN (tgE tg0) (cxJ j) ax) (sqI a1 a2 a3 s) C] (cgV (cgOf j s)) := cgFB2 hj hs
 have e : ∀ j ∈ [5, 6, 7], cgOf j s = cgOf j (sq3 s) := fun j hj => ord_sq j (by simp only [List.mem_cons, List.not_mem_nil, or_false] at hj ⊢; omega) s (mem5 hs)
 have h2s := sq3_2 hs
 have c5 := cc_5 (sq3 s) h2s
 have c6 := cc_6 (sq3 s) h2s
 have c7 := cc_7 (sq3 s) h2s
 rw [← e 5 (by simp)] at c5
 rw [← e 6 (by simp)] at c6
 rw [← e 7 (by simp)] at c7
 have o5 : same3 fOr fOf (.one (.sl false 2 (cgOf 5 s))) (orN (iv 14)) := by
  rw [e 5 (by simp)]
  simp only [List.mem_cons, List.not_mem_nil, or_false] at h2s
  rcases h2s with h | h <;> rw [h]
  ·exact or_5_0
  ·exact or_5_1
 have o7 : same3 fOr fOf (.one (.sl false 2 (cgOf 7 s))) (orN (iv 14)) := by
  rw [e 7 (by simp)]
  simp only [List.mem_cons, List.not_mem_nil, or_false] at h2s
  rcases h2s with h | h <;> rw [h]
  ·exact or_7_0
  ·exact or_7_1
 simp only [List.mem_cons, List.not_mem_nil, or_false] at hj
 rcases hj with rfl | rfl | rfl | rfl | rfl | rfl
 ·exact exb_d (by simp) hs h1 h2 ⟨R2_fc c5.1, R2_fc c5.2⟩ ⟨R2_fc o5.1, R2_fc o5.2⟩
 ·exact exb_c hs h1 h2 ⟨R2_fc c6.1, R2_fc c6.2⟩
 ·exact exb_d (by simp) hs h1 h2 ⟨R2_fc c7.1, R2_fc c7.2⟩ ⟨R2_fc o7.1, R2_fc o7.2⟩
 ·exact exb_b2 (by simp) hs h1 h2
 ·exact exb_b2 (by simp) hs h1 h2
 ·exact exb_b2 (by simp) hs h1 h2
end
end Go.Proofs.YtdhkejcldipbmaaGreatDoor
