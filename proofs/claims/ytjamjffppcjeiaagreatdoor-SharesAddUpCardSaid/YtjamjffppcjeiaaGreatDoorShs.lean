
/-
 Share, as the program tells it.
-/
import Derived.Test.YtjamjffppcjeiaaGreatDoorShr
import Derived.Test.YtjamjffppcjeiaaGreatDoorSou
namespace Go.Proofs.YtjamjffppcjeiaaGreatDoor
open Go Go.Ai
set_option linter.unusedSimpArgs false
set_option linter.unusedVariables false
set_option maxHeartbeats 4000000
def C_pshare : AC := (.seq (.reg false [gI 6 (.alloc [(.int .i64 (0)),(.int .i64 (0))]),gI 7 (.mv (oI 0))] (kP [0,1,2,6] [6] [8,9]))
 (.seq (.seq (.reg false [gM 11 0,gM 12 1,gI 13 (.call (.f 27) [(.t 11),(.t 12)]),gM 8 13] (kP [0,1,2,6,8,11] [6] [8,9]))
 (.seq (.reg false [gM 14 8,gI 15 (.bin .neq (.t 14) (oI 0))] (kP [0,1,2,6,8,11,15] [6] [8,9]))
 (.cond (.t 15)
 (.seq (.reg false [gI 16 (.build [(.int .i64 (0)),(.int .i64 (0))] []),gM 17 8,gN (.store 2 (.t 6) (.t 16)),gM 7 17] (kP [6,7] [6] []))
 .ret)
 .skip)))
 (.seq (.seq (.reg false [gM 18 2,gI 19 (.call (.f 31) [(.t 18)]),gI 20 (.un .not (.t 19))] (kP [0,1,2,6,11,20] [6] [8,9]))
 (.cond (.t 20)
 (.seq (.reg false [gI 21 (.build [(.int .i64 (0)),(.int .i64 (0))] []),gN (.store 2 (.t 6) (.t 21)),gI 7 (.mv (oI 5))] (kP [6,7] [6] []))
 .ret)
 .skip))
 (.seq (.reg false [gM 23 0,gM 24 2,gI 25 (.callm (.f 32) [(.t 23),(.t 24)] ⟨[],[],[11],[8,9],[]⟩),gM 26 1,gI 27 (.callm (.f 33) [(.t 25),(.t 26)] ⟨[11],[8,9],[11],[8,9],[8,9]⟩),gM 22 27,gI 28 (.extr (.t 22) 0),gI 29 (.extr (.t 22) 1),gI 9 (.alloc [(.int .i64 (0)),(.int .i64 (0))]),gN (.store 2 (.t 9) (.t 28)),gM 10 29] (kP [6,9,10,11] [6,9,11] []))
 (.seq (.seq (.reg false [gM 30 10,gI 31 (.un .not (.t 30))] (kP [6,9,31] [6,9] []))
 (.cond (.t 31)
 (.seq (.reg false [gI 32 (.build [(.int .i64 (0)),(.int .i64 (0))] []),gN (.store 2 (.t 6) (.t 32)),gI 7 (.mv (oI 12))] (kP [6,7] [6] []))
 .ret)
 .skip))
 (.seq (.reg false [gI 33 (.load true 2 (.t 9)),gN (.store 2 (.t 6) (.t 33)),gI 7 (.mv (oI 0))] (kP [6,7] [6] []))
 .ret))))))
theorem fc_pshare : FcT Tryz.prog 9 Tryz.f9 C_pshare [.cell 6 true 2, .t 7] := fc_mk [aN [0,1,2,6] [6] [8,9],aN [0,1,2,6,8,11] [6] [8,9],aN [0,1,2,6,8,11,15] [6] [8,9],aN [6,7] [6] [],aN [0,1,2,6,11,20] [6] [8,9],aN [6,7] [6] [],⟨(kP [6,9,10,11] [6,9,11] []),[],[],[],[(25,⟨[],[],[11],[8,9],[]⟩),(27,⟨[11],[8,9],[11],[8,9],[8,9]⟩)]⟩,aN [6,9,31] [6,9] [],aN [6,7] [6] [],aN [6,7] [6] []] Tryz.func9 (by kernel_rfl)
section
variable {P : Program} {Q : AX → AS → Prop} {s : AS} {k : List KI} {kp : Option Keep} {l : List GI}
theorem CALLM_Rn {f : FuncId} {S : List Nat} {H0 H : Hp} {args0 vargs : List Val} {m : CAnn} {d : Option Nat} {R : Hp → Val → Prop} (p q : Nat → Nat) (hp : ∀ k, p (p k) = k) (hq : ∀ k, q (q k) = k) (hf : FCMS P f S H0 args0 R) (hna : ∀ x ∈ args0, ∀ xs, x ≠ .tu xs)
  (hS : S.map q = m.sts) (hH : H0.rn p q = H) (ha : args0.map (rnV p q) = vargs) (hne : ∃ H r, R H r) (h : ∀ H1 r1, R H1 r1 → hkOk m (H1.rn p q) ∧ rg P l kp k Q ((s.after m (H1.rn p q)).put d (s.backV m (rnV p q r1)))) (hb : H0.bs.all (fun x => bldK x.1 == bldK (p x.1)) = true := by rfl) : CALLM P f H vargs m d l kp k Q s := by
 subst hH; subst ha
 obtain ⟨H2, r2, h2⟩ := hne
 refine ⟨_, hS ▸ fcms_rn hp hq hna hf hb, ⟨_, _, H2, r2, h2, rfl, rfl⟩, ?_⟩
 rintro H' r' ⟨H1, r1, h1, rfl, rfl⟩
 exact h H1 r1 h1
end
def mxQ (k : Nat) : Nat := Go.Ai.swp 8 1000001 (Go.Ai.swp 9 1000002 k)
theorem mxQ_inv (k : Nat) : mxQ (mxQ k) = k := by
 unfold mxQ Go.Ai.swp; split <;> (repeat' split) <;> omega
theorem pshare_fc (l : List Trf) (src b : ByteArray) (hl : l.length ≤ 1000000) (hk : ∀ x ∈ l, x.frm.size ≤ 1000000 ∧ x.to.size ≤ 1000000) (hbs : b.size ≤ 1000000) (hss : src.size ≤ 1000000) (h0 : ctF l = 0) (h1 : keyOk b = true) (h2 : keyOk src = true) :
  FC Tryz.prog 9 none [trs false l, sv b, sv src] (fun _ r => r = .tu [.ag [.g (.int .i64 (shN l src b)), .g (.int .i64 (shD l src b))], iv (if SC l b = 0 then 12 else 0)]) := by
 refine fc_pshare (by simp +arith) ?_
 unfold C_pshare
 have hf := flo_of h0
 simp (maxSteps := 1000000) (disch := omega) only [go_sem]
 refine CALL_det (tfault_fc l b hl hk hbs h0 h1) (.inl rfl) ?_
 simp (maxSteps := 1000000) (disch := omega) only [go_sem]
 refine CALL_det (key_fc src (by omega)) (.inl rfl) ?_
 rw [h2]
 simp (maxSteps := 1000000) (disch := omega) only [go_sem]
 refine ⟨rfl, CALLM_det (newMix_fcm l hl src) ⟨rfl, rfl⟩ ?_⟩
 simp (maxSteps := 1000000) (disch := omega) only [go_sem]
 refine ⟨rfl, CALLM_Rn (Go.Ai.swp 11 1000000) mxQ (Go.Ai.swp_swp 11 1000000) mxQ_inv (share_fcm hf src b [] [] (fun k v h => by cases h) (fun k v h => by cases h)) (by simp) rfl rfl rfl ⟨_, _, [], [], rfl, rfl⟩ ?_⟩
 rintro _ _ ⟨sc, pt, rfl, rfl⟩
 refine ⟨.inl ⟨rfl, rfl⟩, ?_⟩
 have er : (mxH l src sc pt).rn (Go.Ai.swp 11 1000000) mxQ = ⟨[(11, [.fm 0 (fmG (grpAll l)), .g (.string src), .mp 8, .mp 9])], [(8, mpRow sc), (9, mpRow pt)]⟩ := rfl
 have ev : ∀ (x y : Int) (z : Bool), rnV (Go.Ai.swp 11 1000000) mxQ (.tu [.ag [.g (.int .i64 x), .g (.int .i64 y)], bv z]) = .tu [.ag [.g (.int .i64 x), .g (.int .i64 y)], bv z] := fun _ _ _ => rfl
 rw [er, ev]
 by_cases hz : SC l b = 0
 ·rw [if_pos hz, decide_eq_false (by simpa using hz)]
  have e1 : shN l src b = 0 := by unfold shN; rw [if_pos hz]
  have e2 : shD l src b = 0 := by unfold shD; rw [if_pos hz]
  rw [e1, e2]
  simp (maxSteps := 1000000) (disch := omega) only [go_sem]
  done
 ·rw [if_neg hz, decide_eq_true (by simpa using hz)]
  simp (maxSteps := 1000000) (disch := omega) only [go_sem]
  done
end Go.Proofs.YtjamjffppcjeiaaGreatDoor
