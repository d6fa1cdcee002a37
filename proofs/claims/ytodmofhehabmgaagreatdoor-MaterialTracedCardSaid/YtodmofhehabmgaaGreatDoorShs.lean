/-
 Sources hands back a row: the names of all batches of which material went into one, in order.
-/
import Derived.Test.YtodmofhehabmgaaGreatDoorTck
import Derived.Test.YtodmofhehabmgaaGreatDoorSrt
import Derived.Test.YtodmofhehabmgaaGreatDoorMpt
namespace Go.Proofs.YtodmofhehabmgaaGreatDoor
open Go Go.Ai Go.Proofs
set_option linter.unusedSimpArgs false
set_option linter.unusedVariables false
set_option maxHeartbeats 4000000
def C_tfault : AC := (.seq (.reg false [gI 4 (.mv (oI 0))] (kP [0,1] [] []))
 (.seq (.reg false [gM 6 0,gI 7 (.call (.f 10) [(.t 6)]),gM 5 7] (kP [1,5] [] []))
 (.seq (.seq (.reg false [gM 8 5,gI 9 (.bin .eql (.t 8) (oI 0)),gM 10 9,gG 11 10 true (.mv (.t 1)),gG 12 10 true (.call (.f 40) [(.t 11)]),gG 13 10 true (.un .not (.t 12)),gI 14 (.pick (.t 10) (.t 13) (.v (.bool false)))] (kP [5,14] [] []))
 (.cond (.t 14)
 (.reg false [gI 5 (.mv (oI 5))] (kP [5] [] []))
 .skip))
 (.seq (.reg false [gM 15 5,gM 4 15] (kP [4] [] []))
 .ret))))
theorem fc_tfault : FcT Tryz.prog 45 Tryz.f45 C_tfault [.t 4] := fc_mk [aN [0,1] [] [],aN [1,5] [] [],aN [5,14] [] [],aN [5] [] [],aN [4] [] []] Tryz.func45 (by kernel_rfl)
theorem tfault_fc (l : List Trf) (b : ByteArray) (hl : l.length ≤ 1000000) (hk : ∀ x ∈ l, x.frm.size ≤ 1000000 ∧ x.to.size ≤ 1000000) (hb : b.size ≤ 1000000) (h0 : ctF l = 0) (h1 : keyOk b = true) : FC Tryz.prog 45 none [trs false l, sv b] (fun _ r => r = iv 0) := by
 refine fc_tfault (by simp +arith) ?_
 unfold C_tfault
 simp (maxSteps := 1000000) (disch := omega) only [go_sem]
 refine CALL_det (ckT_fc l (by omega) hk) (.inl rfl) ?_
 rw [h0]
 simp (maxSteps := 1000000) (disch := omega) only [go_sem]
 refine CALL_det (key_fc b (by omega)) (.inl rfl) ?_
 rw [h1]
 simp (maxSteps := 1000000) (disch := omega) only [go_sem]
theorem tabB_up {P : Program} {w w1 : World} {okA : Nat → Prop} (h : TabB P w okA) (hg : w.grownBy w1 none) : TabB P w1 okA := by
 obtain ⟨W, h1, h2, h3⟩ := h
 exact ⟨W, h1, Nat.le_trans h2 hg.size, fun b hb => ⟨(h3 b hb).1, (hg.block b (Nat.lt_of_lt_of_le hb h2) (by simp)).trans (h3 b hb).2⟩⟩
set_option maxRecDepth 100000 in
theorem sources_run (l : List Trf) (b : ByteArray) (hl : l.length ≤ 1000000) (hk : ∀ x ∈ l, x.frm.size ≤ 1000000 ∧ x.to.size ≤ 1000000) (hbs : b.size ≤ 1000000) (h0 : ctF l = 0) (h1 : keyOk b = true) (hs : (srcL l b).length ≤ 1000000) {w : World} {okA : Nat → Prop} {v : Value} (htab : TabB Tryz.prog w okA) (hv : DRel w okA (.sl false 3 (l.map trC)) v) :
  Calls Tryz.prog 11 #[v, .string b] w fun e w' => ∃ v', e = .returned (.tuple #[v', .int .i64 0]) ∧ w.grownBy w' none ∧ w'.ownsRow w.heap.size 9 1 v' (srtS (srcL l b)).length ((srtS (srcL l b)).map .string) := by
 have hfault : Calls Tryz.prog 45 #[v, .string b] w fun e w' => e = .returned (.int .i64 0) ∧ w.grownBy w' none := by
  refine Calls.mono ((tfault_fc l b hl hk hbs h0 h1).2 w okA 0 [v, .string b] htab (fun _ h => by cases h) rfl fun i x y h1 h2 => ?_) ?_
  ·match i with
   | 0 => simp at h1 h2; subst h1; subst h2; exact .one hv
   | 1 => simp at h1 h2; subst h1; subst h2; exact .one ⟨rfl, rfl⟩
   | i + 2 => simp at h1
  ·rintro e w' ⟨x, _, r, rfl, rfl, hg, hr, _⟩
   cases hr with
   | one h => exact ⟨by rw [h.1], hg⟩
 have hinto : ∀ w1, w.grownBy w1 none → Calls Tryz.prog 43 #[v] w1 fun e w2 => ∃ fb okB, e = .returned (.map (some fb)) ∧ w1.grownBy w2 none ∧ DRel w2 okB (.fm 0 (fmG (grpAll l))) (.map (some fb)) := by
  intro w1 hg
  refine Calls.mono ((into_fc false l hl).2 w1 okA 0 [v] (tabB_up htab hg) (fun _ h => by cases h) rfl fun i x y h1 h2 => ?_) ?_
  ·match i with
   | 0 => simp at h1 h2; subst h1; subst h2; exact .one (DRel.keep hv (Keeps.of_grown hg) fun b _ h => h)
   | i + 1 => simp at h1
  ·rintro e w2 ⟨x, _, r, rfl, rfl, hg2, hr, _⟩
   cases hr with
   | one h =>
    have h : DRel w2 _ (.fm 0 (fmG (grpAll l))) x := h
    obtain ⟨fb, rfl, _⟩ := fm_look h
    exact ⟨fb, _, rfl, hg2, h⟩
 have hsrc : ∀ w2 fb okB, DRel w2 okB (.fm 0 (fmG (grpAll l))) (.map (some fb)) → Calls Tryz.prog 44 #[.map (some fb), .string b] w2 fun e w3 => e = .returned (.map (some w2.heap.size)) ∧ Sts w3 w2.heap.size (srcL l b) ∧ w2.grownBy w3 none := by
  intro w2 fb okB hD
  obtain ⟨fb', e, hlt, hf⟩ := fm_look hD
  injection e with e; injection e with e; subst e
  have hgk : (fun k => gat k (grpAll l)) = fun k => l.filter (fun y => decide (y.to = k)) := funext fun k => gat_all k l
  refine Calls.mono (sources_any fb (fun k => gat k (grpAll l)) (l.map (·.frm)) b w2 hlt (by simpa using hl) (fun k => by
   rw [gat_all]; have := List.length_filter_le (fun y : Trf => decide (y.to = k)) l; omega) (fun k y hy => by
   rw [gat_all] at hy
   exact List.mem_map.2 ⟨y, (List.mem_filter.1 hy).1, rfl⟩) hf) ?_
  rintro e w' ⟨rfl, hS, hg⟩
  rw [List.length_map, hgk] at hS
  exact ⟨rfl, hS, hg⟩
 have hsor : ∀ w3 b3, w.grownBy w3 none → Sts w3 b3 (srcL l b) → Calls Tryz.prog 46 #[.map (some b3)] w3 fun e w' => ∃ v, e = .returned v ∧ w.grownBy w' none ∧ w'.ownsRow w.heap.size 9 1 v (srtS (srcL l b)).length ((srtS (srcL l b)).map .string) := by
  intro w3 b3 hg hS
  rw [srtS_len]
  exact sorted_any b3 _ htab hg hS hs
 go_enter Tryz.func11, Tryz.ntmps11
 go_wp2_with (first | (refine Calls.mono hfault ?_; rintro e w1 ⟨rfl, hg1⟩) | (refine Calls.mono (hinto _ (by assumption)) ?_; rintro e w2 ⟨fb, okB, rfl, hg2, hD⟩) | (refine Calls.mono (hsrc _ _ _ (by assumption)) ?_; rintro e w3 ⟨rfl, hS3, hg3⟩) | (refine Calls.mono (hsor _ _ ((hg1.trans hg2).trans hg3) (by assumption)) ?_; rintro e w4 ⟨v4, rfl, hg4, ho4⟩) | go_in)
 go_ret2
 exact ⟨v4, rfl, hg4, ho4⟩
end Go.Proofs.YtodmofhehabmgaaGreatDoor
/-
 Share, as the program tells it.
-/
namespace Go.Proofs.YtodmofhehabmgaaGreatDoor
open Go Go.Ai
set_option linter.unusedSimpArgs false
set_option linter.unusedVariables false
set_option maxHeartbeats 4000000
def C_pshare : AC := (.seq (.reg false [gI 6 (.alloc [(.int .i64 (0)),(.int .i64 (0))]),gI 7 (.mv (oI 0))] (kP [0,1,2,6] [6] [8,9]))
 (.seq (.seq (.reg false [gM 11 0,gM 12 1,gI 13 (.call (.f 45) [(.t 11),(.t 12)]),gM 8 13] (kP [0,1,2,6,8,11] [6] [8,9]))
 (.seq (.reg false [gM 14 8,gI 15 (.bin .neq (.t 14) (oI 0))] (kP [0,1,2,6,8,11,15] [6] [8,9]))
 (.cond (.t 15)
 (.seq (.reg false [gI 16 (.build [(.int .i64 (0)),(.int .i64 (0))] []),gM 17 8,gN (.store 2 (.t 6) (.t 16)),gM 7 17] (kP [6,7] [6] []))
 .ret)
 .skip)))
 (.seq (.seq (.reg false [gM 18 2,gI 19 (.call (.f 40) [(.t 18)]),gI 20 (.un .not (.t 19))] (kP [0,1,2,6,11,20] [6] [8,9]))
 (.cond (.t 20)
 (.seq (.reg false [gI 21 (.build [(.int .i64 (0)),(.int .i64 (0))] []),gN (.store 2 (.t 6) (.t 21)),gI 7 (.mv (oI 5))] (kP [6,7] [6] []))
 .ret)
 .skip))
 (.seq (.reg false [gM 23 0,gM 24 2,gI 25 (.callm (.f 48) [(.t 23),(.t 24)] ⟨[],[],[11],[8,9],[]⟩),gM 26 1,gI 27 (.callm (.f 49) [(.t 25),(.t 26)] ⟨[11],[8,9],[11],[8,9],[8,9]⟩),gM 22 27,gI 28 (.extr (.t 22) 0),gI 29 (.extr (.t 22) 1),gI 9 (.alloc [(.int .i64 (0)),(.int .i64 (0))]),gN (.store 2 (.t 9) (.t 28)),gM 10 29] (kP [6,9,10,11] [6,9,11] []))
 (.seq (.seq (.reg false [gM 30 10,gI 31 (.un .not (.t 30))] (kP [6,9,31] [6,9] []))
 (.cond (.t 31)
 (.seq (.reg false [gI 32 (.build [(.int .i64 (0)),(.int .i64 (0))] []),gN (.store 2 (.t 6) (.t 32)),gI 7 (.mv (oI 12))] (kP [6,7] [6] []))
 .ret)
 .skip))
 (.seq (.reg false [gI 33 (.load true 2 (.t 9)),gN (.store 2 (.t 6) (.t 33)),gI 7 (.mv (oI 0))] (kP [6,7] [6] []))
 .ret))))))
theorem fc_pshare : FcT Tryz.prog 13 Tryz.f13 C_pshare [.cell 6 true 2, .t 7] := fc_mk [aN [0,1,2,6] [6] [8,9],aN [0,1,2,6,8,11] [6] [8,9],aN [0,1,2,6,8,11,15] [6] [8,9],aN [6,7] [6] [],aN [0,1,2,6,11,20] [6] [8,9],aN [6,7] [6] [],⟨(kP [6,9,10,11] [6,9,11] []),[],[],[],[(25,⟨[],[],[11],[8,9],[]⟩),(27,⟨[11],[8,9],[11],[8,9],[8,9]⟩)]⟩,aN [6,9,31] [6,9] [],aN [6,7] [6] [],aN [6,7] [6] []] Tryz.func13 (by kernel_rfl)
section
variable {P : Program} {Q : AX → AS → Prop} {s : AS} {k : List KI} {kp : Option Keep} {l : List GI}
theorem CALLM_Rn {f : FuncId} {S : List Nat} {H0 H : Hp} {args0 vargs : List Val} {m : CAnn} {d : Option Nat} {R : Hp → Val → Prop} (p q : Nat → Nat) (hp : ∀ k, p (p k) = k) (hq : ∀ k, q (q k) = k) (hf : FCMS P f S H0 args0 R) (hna : ∀ x ∈ args0, ∀ xs, x ≠ .tu xs)
  (hS : S.map q = m.sts) (hH : H0.rn p q = H) (ha : args0.map (rnV p q) = vargs) (hne : ∃ H r, R H r) (h : ∀ H1 r1, R H1 r1 → hkOk m (H1.rn p q) ∧ rg P l kp k Q ((s.after m (H1.rn p q)).put d (s.backV m (rnV p q r1)))) (hb : H0.bs.all (fun x => bldK x.1 == bldK (p x.1)) = true := by rfl) : CALLM P f H vargs m d l kp k Q s := by
 subst hH; subst ha
 obtain ⟨H2, r2, h2⟩ := hne
 refine ⟨_, hS ▸ fcms_rn hp hq hna hf hb, ⟨_, _, H2, r2, h2, rfl, rfl⟩, ?_⟩
 rintro H' r' ⟨H1, r1, h1, rfl, rfl⟩
 exact h H1 r1 h1
end
def mxQ (k : Nat) : Nat := Go.Ai.swp 8 1000001 (Go.Ai.swp 9 1000002 k)
theorem mxQ_inv (k : Nat) : mxQ (mxQ k) = k := by
 unfold mxQ Go.Ai.swp; split <;> (repeat' split) <;> omega
theorem pshare_fc (l : List Trf) (src b : ByteArray) (hl : l.length ≤ 1000000) (hk : ∀ x ∈ l, x.frm.size ≤ 1000000 ∧ x.to.size ≤ 1000000) (hbs : b.size ≤ 1000000) (hss : src.size ≤ 1000000) (h0 : ctF l = 0) (h1 : keyOk b = true) (h2 : keyOk src = true) :
  FC Tryz.prog 13 none [trs false l, sv b, sv src] (fun _ r => r = .tu [.ag [.g (.int .i64 (shN l src b)), .g (.int .i64 (shD l src b))], iv (if SC l b = 0 then 12 else 0)]) := by
 refine fc_pshare (by simp +arith) ?_
 unfold C_pshare
 have hf := flo_of h0
 simp (maxSteps := 1000000) (disch := omega) only [go_sem]
 refine CALL_det (tfault_fc l b hl hk hbs h0 h1) (.inl rfl) ?_
 simp (maxSteps := 1000000) (disch := omega) only [go_sem]
 refine CALL_det (key_fc src (by omega)) (.inl rfl) ?_
 rw [h2]
 simp (maxSteps := 1000000) (disch := omega) only [go_sem]
 refine ⟨rfl, CALLM_det (newMix_fcm l hl src) ⟨rfl, rfl⟩ ?_⟩
 simp (maxSteps := 1000000) (disch := omega) only [go_sem]
 refine ⟨rfl, CALLM_Rn (Go.Ai.swp 11 1000000) mxQ (Go.Ai.swp_swp 11 1000000) mxQ_inv (share_fcm hf src b [] [] (fun k v h => by cases h) (fun k v h => by cases h)) (by simp) rfl rfl rfl ⟨_, _, [], [], (fun k v h => by cases h), (fun k v h => by cases h), rfl, rfl⟩ ?_⟩
 rintro _ _ ⟨sc, pt, _, _, rfl, rfl⟩
 refine ⟨.inl ⟨rfl, rfl⟩, ?_⟩
 have er : (mxH l src sc pt).rn (Go.Ai.swp 11 1000000) mxQ = ⟨[(11, [.fm 0 (fmG (grpAll l)), .g (.string src), .mp 8, .mp 9])], [(8, mpRow sc), (9, mpRow pt)]⟩ := rfl
 have ev : ∀ (x y : Int) (z : Bool), rnV (Go.Ai.swp 11 1000000) mxQ (.tu [.ag [.g (.int .i64 x), .g (.int .i64 y)], bv z]) = .tu [.ag [.g (.int .i64 x), .g (.int .i64 y)], bv z] := fun _ _ _ => rfl
 rw [er, ev]
 by_cases hz : SC l b = 0
 ·rw [if_pos hz, decide_eq_false (by simpa using hz)]
  have e1 : shN l src b = 0 := by unfold shN; rw [if_pos hz]
  have e2 : shD l src b = 0 := by unfold shD; rw [if_pos hz]
  rw [e1, e2]
  simp (maxSteps := 1000000) (disch := omega) only [go_sem]
  done
 ·rw [if_neg hz, decide_eq_true (by simpa using hz)]
  simp (maxSteps := 1000000) (disch := omega) only [go_sem]
  done
end Go.Proofs.YtodmofhehabmgaaGreatDoor
