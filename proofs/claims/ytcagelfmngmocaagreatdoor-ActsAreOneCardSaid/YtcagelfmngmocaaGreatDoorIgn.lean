
/-
 Ignored: the acts that change nothing.
-/
import Derived.Test.YtcagelfmngmocaaGreatDoorSns
import Derived.Test.YtcagelfmngmocaaGreatDoorSrk
namespace Go.Proofs.YtcagelfmngmocaaGreatDoor
open Go Go.Ai
set_option linter.unusedSimpArgs false
set_option linter.unusedVariables false
set_option maxHeartbeats 4000000
def C_ignA : AC := (.seq (.reg false [gI 6 (.mv (.v (.slice none 0 0))),gI 7 (.mv (oI 0))] (kP [0,1,2,9021] [] [600021]))
 (.seq (.seq (.reg false [gM 10 0,gM 11 1,gM 12 2,gI 13 (.call (.f 41) [(.t 10),(.t 11),(.t 12)]),gM 8 13] (kP [0,1,2,8,9021] [] [600021]))
 (.seq (.reg false [gM 14 8,gI 15 (.bin .neq (.t 14) (oI 0))] (kP [0,1,2,8,15,9021] [] [600021]))
 (.cond (.t 15)
 (.seq (.seq (.reg false [gM 16 8,gI 6 (.mv (.v (.slice none 0 0))),gM 7 16] (kP [6,7] [] [600021]))
 (.ty 6 1))
 .ret)
 .skip)))
 (.seq (.reg false [gM 17 0,gM 18 1,gM 19 2,gI 20 (.callm (.f 37) [(.t 17),(.t 18),(.t 19)] ⟨[],[],[9021],[9019,500021,600021],[]⟩),gM 9 20] (kP [9,9021] [9021] [9019,500021,600021]))
 (.seq (.reg false [gM 21 9,gI 22 (.callm (.f 38) [(.t 21),(oI 345686399999),(.f 61)] ⟨[9021],[9019,500021,600021],[9021],[9019,500021,600021],[9019,500021]⟩)] (kP [9,9021] [9021] [600021]))
 (.seq (.reg false [gM 23 9,gI 24 (.nilchk (.t 23)),gI 25 (.fadr 6 (.t 24)),gI 26 (.load false 1 (.t 25)),gI 27 (.callm (.f 62) [(.t 26)] ⟨[],[600021],[],[600021],[600021]⟩)] (kP [9,9021] [9021] [600021]))
 (.seq (.reg false [gM 28 9,gI 29 (.nilchk (.t 28)),gI 30 (.fadr 6 (.t 29)),gI 31 (.load false 1 (.t 30)),gM 6 31,gI 7 (.mv (oI 0))] (kP [6,7] [] [600021]))
 .ret))))))
theorem fcm_ignA : FmT Tryz.prog 16 Tryz.f16 C_ignA [.t 6, .t 7] := fcm_mk [aN [0,1,2,9021] [] [600021],aN [0,1,2,8,9021] [] [600021],aN [0,1,2,8,15,9021] [] [600021],⟨(kP [6,7] [] [600021]),[],[],[(6,1)],[]⟩,⟨(kP [9,9021] [9021] [9019,500021,600021]),[],[],[],[(20,⟨[],[],[9021],[9019,500021,600021],[]⟩)]⟩,⟨(kP [9,9021] [9021] [600021]),[],[],[],[(22,⟨[9021],[9019,500021,600021],[9021],[9019,500021,600021],[9019,500021]⟩)]⟩,⟨(kP [9,9021] [9021] [600021]),[],[],[],[(27,⟨[],[600021],[],[600021],[600021]⟩)]⟩,aN [6,7] [] [600021]] Tryz.func16 (by kernel_rfl)
def C_ignC : AC := (.reg false [gI 1 (.box (.t 0))] (kP [] [] []))
theorem fc_ignC : FcT Tryz.prog 61 Tryz.f61 C_ignC [] := fc_mk [aN [] [] []] Tryz.func61 (by kernel_rfl)
theorem igC_fc (x : Std) : FC Tryz.prog 61 none [.ag (stdS x)] (fun _ r => r = .tu []) := by
 refine fc_ignC (by simp +arith) ?_
 unfold C_ignC
 simp (maxSteps := 1000000) (disch := omega) only [go_sem]
theorem rptE_ig (up : List (List Int)) (at_ : Int) : ∀ (n i : Nat) (s : Sit), (rptE up at_ n i s).ig = s.ig
 | 0, i, s => rfl
 | n + 1, i, s => by rw [rptE_succ, rptE_ig up at_ n, (rptX_len up at_ i s).2.2]
theorem runE_igl (l : List Alm) (a : List Opr) (to : Int) : ∀ (ev : List Ev) (s : Sit), (runE l a to ev s).ig.length ≤ s.ig.length + ev.length
 | [], s => by simp [runE]
 | e :: r, s => by
  rw [runE, List.length_cons]
  have h1 := (appE_len l a e s).2.2
  split
  ·omega
  ·refine Nat.le_trans (runE_igl l a to r _) ?_
   split
   ·omega
   ·rw [rptE_ig]; omega
theorem runA_igl {l : List Alm} {s : List Ser} {a : List Opr} (h : AllOk l s a) (to : Int) : (runA l s a to).ig.length ≤ 500000 := by
 have h1 := runE_igl l a to (evs l s a) (sit0 l)
 have h2 := h.ev
 rw [evs_len] at h1
 rw [show (sit0 l).ig = [] from rfl, List.length_nil] at h1
 show (runE l a to (evs l s a) (sit0 l)).ig.length ≤ 500000
 omega
theorem ignored_fcm (l : List Alm) (s : List Ser) (a : List Opr) (h : AllOk l s a) :
  FCM Tryz.prog 16 ⟨[], []⟩ [alms false l, sers false s, oprs false a] (fun H r => H = ⟨[], [(600021, ignRow (srtI (runA l s a 345686399999).ig))]⟩ ∧ r = .tu [.one (.ow 600021 0), iv 0]) := by
 refine fcm_ignA (K := ⟨[], [], [600021]⟩) (by simp +arith) (by simp) (by simp) ?_
 have hl := h.al.len
 have hf := aFault_fc l s a h.al h.sm1 h.se h.sm2 h.ac h.sm3
 have hns := newSite_fcm l s a h.al h.se h.ac (by have := h.ev; omega)
 have hrun := run_fcm 61 igC_fc l a (evs l s a) 345686399999 (sit0 l) (by omega) (by have := h.ac.len; omega) (fun x hx => par_in h.al _ x hx) h.run
 rw [show runE l a 345686399999 (evs l s a) (sit0 l) = runA l s a 345686399999 from rfl] at hrun
 have hil := runA_igl h 345686399999
 generalize runA l s a 345686399999 = T at *
 have hso := sortI_all T.ig (by omega)
 unfold C_ignA
 simp (maxSteps := 1000000) (disch := omega) only [go_sem]
 refine CALL_det hf (.inl rfl) ?_
 simp (maxSteps := 1000000) (disch := omega) only [go_sem]
 refine ⟨rfl, CALLM_rnE ⟨[(9021, siN 0 l a (evs l s a) (upA l) true)], siR (sit0 l)⟩ (.one (.bx 9021 0)) p21 q19 p21_p q19_q hns (by simp) rfl rfl rfl rfl ⟨rfl, rfl⟩ ?_⟩
 simp (maxSteps := 1000000) (disch := omega) only [go_sem]
 refine ⟨rfl, CALLM_rnES ⟨[(9021, siN 0 l a (restR 345686399999 (evs l s a)) (upA l) false)], siR T⟩ (.tu []) pRun qRun pRun_p qRun_q hrun (by simp) rfl rfl rfl rfl rfl ⟨rfl, rfl⟩ ?_⟩
 simp (maxSteps := 1000000) (disch := omega) only [go_sem]
 refine ⟨rfl, CALLM_rnES ⟨[], [(600021, ignRow (srtI T.ig))]⟩ (.tu []) (fun k => k) (Go.Ai.swp 600021 1000000) (fun _ => rfl) (Go.Ai.swp_swp 600021 1000000) hso (by simp) rfl rfl rfl rfl rfl ⟨rfl, rfl⟩ ?_⟩
 simp (maxSteps := 1000000) (disch := omega) only [go_sem]
end Go.Proofs.YtcagelfmngmocaaGreatDoor
