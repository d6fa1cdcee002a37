/-
 The reference merges acts.
-/
import Derived.Test.YtfgkpbkphmeigaaGreatDoorMgp
import Derived.Test.YtfgkpbkphmeigaaGreatDoorOpq
import Derived.Test.YtfgkpbkphmeigaaGreatDoorCla
import Derived.Test.YtfgkpbkphmeigaaGreatDoorMr2
import Derived.Test.YtfgkpbkphmeigaaGreatDoorSra
namespace Go.Proofs.YtfgkpbkphmeigaaGreatDoor
open Go Go.Ai
set_option linter.unusedSimpArgs false
set_option linter.unusedVariables false
set_option maxHeartbeats 4000000
def C_idxO : AC := (.seq (.reg false [gI 4 (.mv (oI 0))] (kP [0,1] [] []))
 (.seq (.seq (.reg false [gM 6 0,gI 7 (.len (.t 6)),gI 8 (.mv (oI 0))] (kP [0,1,7,8] [] []))
 (.block 0 (.loop (.seq (.reg false [gI 9 (.bin .lss (.t 8) (.t 7))] (kP [0,1,7,8,9] [] []))
 (.seq (.cond (.t 9)
 .skip
 (.exit 0))
 (.seq (.block 1 (.seq (.reg false [gM 10 8,gM 5 10] (kP [0,1,5,7,8] [] []))
 (.seq (.reg false [gM 11 1,gM 12 0,gM 13 5,gI 14 (.iadr 6 (.t 12) (.t 13)),gI 15 (.load true 6 (.t 14)),gI 16 (.call (.t 11) [(.t 15)])] (kP [0,1,5,7,8,16] [] []))
 (.cond (.t 16)
 (.seq (.reg false [gM 17 5,gM 4 17] (kP [4] [] []))
 .ret)
 .skip))))
 (.reg false [gI 18 (.bin .add (.t 8) (oI 1)),gM 8 18] (kP [0,1,7,8] [] []))))))))
 (.seq (.reg false [gI 4 (.mv (oI (-1)))] (kP [4] [] []))
 .ret)))
theorem fc_idxO : FcT Tryz.prog 92 Tryz.f92 C_idxO [.t 4] := fc_mk [aN [0,1] [] [],aN [0,1,7,8] [] [],aN [0,1,7,8,9] [] [],aN [0,1,5,7,8] [] [],aN [0,1,5,7,8,16] [] [],aN [4] [] [],aN [0,1,7,8] [] [],aN [4] [] []] Tryz.func92 (by kernel_rfl)
def C_amgC : AC := (.seq (.reg false [gI 2 (.box (.t 0)),gI 3 (.mv (.v (.bool false)))] (kP [1,2] [2] []))
 (.seq (.reg false [gI 4 (.load true 6 (.t 1)),gI 5 (.load true 6 (.t 2)),gI 6 (.call (.f 78) [(.t 4),(.t 5)]),gI 7 (.bin .eql (.t 6) (oI 0)),gM 3 7] (kP [3] [] []))
 .ret))
theorem fc_amgC : FcT Tryz.prog 93 Tryz.f93 C_amgC [.t 3] := fc_mk [aN [1,2] [2] [],aN [3] [] []] Tryz.func93 (by kernel_rfl)
def C_amg : AC := (.seq (.reg false [gI 4 (.mv (.v (.slice none 0 0))),gI 5 (.mv (oI 0))] (kP [0,1] [] []))
 (.seq (.reg false [gM 11 0,gI 12 (.callm (.f 9) [(.t 11)] ⟨[],[],[],[5000],[]⟩),gM 6 12] (kP [0,1,6] [] [5000]))
 (.seq (.seq (.reg false [gM 13 1,gI 14 (.len (.t 13)),gI 15 (.mv (oI 0))] (kP [0,6,13,14,15] [] [5000]))
 (.block 0 (.loop (.seq (.reg false [gI 16 (.bin .lss (.t 15) (.t 14))] (kP [0,6,13,14,15,16] [] [5000]))
 (.seq (.cond (.t 16)
 .skip
 (.exit 0))
 (.seq (.block 1 (.seq (.reg false [gI 17 (.iadr 6 (.t 13) (.t 15)),gI 18 (.load true 6 (.t 17)),gI 8 (.alloc [(.string (ByteArray.mk #[])),(.int .i64 (0)),(.int .i64 (0)),(.int .i64 (0)),(.string (ByteArray.mk #[])),(.int .i64 (0))]),gN (.store 6 (.t 8) (.t 18))] (kP [0,6,8,13,14,15] [8] [5000]))
 (.seq (.reg false [gM 19 0,gI 20 (.mkfn 93 [(.t 8)]),gI 21 (.call (.f 92) [(.t 19),(.t 20)]),gM 9 21] (kP [0,6,8,9,13,14,15] [8] [5000]))
 (.block 2 (.seq (.reg false [gM 23 9,gI 24 (.bin .lss (.t 23) (oI 0)),gM 22 24] (kP [0,6,8,9,13,14,15,22] [8] [5000]))
 (.cond (.t 22)
 (.reg false [gM 25 6,gI 26 (.load true 6 (.t 8)),gI 27 (.bslice 6 1 [(.t 26)]),gI 28 (.append 34 6 64 (.t 25) (.t 27)),gM 6 28] (kP [0,6,13,14,15] [] [5000]))
 (.seq (.reg true [gM 30 0,gM 31 9,gI 32 (.iadr 6 (.t 30) (.t 31)),gI 33 (.load true 6 (.t 32)),gI 34 (.load true 6 (.t 8)),gI 35 (.eqs true true [.s,.i .i64,.i .i64,.i .i64,.s,.i .i64] (.t 33) (.t 34)),gM 29 35] (kP [0,6,13,14,15,29] [] [5000]))
 (.cond (.t 29)
 (.seq (.seq (.reg false [gI 4 (.mv (.v (.slice none 0 0))),gI 5 (.mv (oI 13))] (kP [4,5] [] []))
 (.ty 4 6))
 .ret)
 .skip))))))))
 (.reg false [gI 36 (.bin .add (.t 15) (oI 1)),gM 15 36] (kP [0,6,13,14,15] [] [5000]))))))))
 (.seq (.reg false [gM 37 6,gI 38 (.callm (.f 94) [(.t 37),(.f 78)] ⟨[],[5000],[],[5000],[5000]⟩)] (kP [6] [] []))
 (.seq (.seq (.reg false [gM 39 6,gI 40 (.call (.f 13) [(.t 39)]),gM 10 40] (kP [6,10] [] []))
 (.seq (.reg false [gM 41 10,gI 42 (.bin .neq (.t 41) (oI 0))] (kP [6,10,42] [] []))
 (.cond (.t 42)
 (.seq (.seq (.reg false [gM 43 10,gI 4 (.mv (.v (.slice none 0 0))),gM 5 43] (kP [4,5] [] []))
 (.ty 4 6))
 .ret)
 .skip)))
 (.seq (.reg false [gM 44 6,gM 4 44,gI 5 (.mv (oI 0))] (kP [4,5] [] []))
 .ret))))))
theorem fc_amg : FcT Tryz.prog 20 Tryz.f20 C_amg [.t 4, .t 5] := fc_mk [aN [0,1] [] [],⟨(kP [0,1,6] [] [5000]),[],[],[],[(12,⟨[],[],[],[5000],[]⟩)]⟩,aN [0,6,13,14,15] [] [5000],aN [0,6,13,14,15,16] [] [5000],aN [0,6,8,13,14,15] [8] [5000],aN [0,6,8,9,13,14,15] [8] [5000],aN [0,6,8,9,13,14,15,22] [8] [5000],aN [0,6,13,14,15] [] [5000],aN [0,6,13,14,15,29] [] [5000],⟨(kP [4,5] [] []),[],[],[(4,6)],[]⟩,aN [0,6,13,14,15] [] [5000],⟨(kP [6] [] []),[],[],[],[(38,⟨[],[5000],[],[5000],[5000]⟩)]⟩,aN [6,10] [] [],aN [6,10,42] [] [],⟨(kP [4,5] [] []),[],[],[(4,6)],[]⟩,aN [4,5] [] []] Tryz.func20 (by kernel_rfl)
def ixOSt (x : Opr) (l : List Opr) (i : Int) : AS := ⟨tabV [(0, oprs false l), (1, .one (.fn 93 [.ep (oprS x)])), (7, iv l.length), (8, iv i)], tabO [], tabO []⟩
theorem amgC_fc (x y : Opr) : FC Tryz.prog 93 none [.ag (oprS y), .one (.ep (oprS x))] (fun _ r => r = bv (decide (cmpO x y = 0))) := by
 refine fc_amgC (by simp +arith) ?_
 have hc := rbyAct_fc x y
 generalize cmpO x y = e at *
 unfold C_amgC
 simp only [oprS_eq] at hc ⊢
 simp (maxSteps := 1000000) (disch := (first | omega | assumption)) only [go_sem]
 refine CALL_det hc (.inl rfl) ?_
 simp (maxSteps := 1000000) (disch := (first | omega | assumption)) only [go_sem]
def ixO (p : List Opr) (x : Opr) : Int := idxG (fun y => decide (cmpO x y = 0)) 0 p
theorem idxO_fc (x : Opr) (l : List Opr) (hl : l.length ≤ 1000000) : FC Tryz.prog 92 none [oprs false l, .one (.fn 93 [.ep (oprS x)])] (fun _ r => r = iv (ixO l x)) := by
 refine fc_idxO (by simp +arith) ?_
 unfold C_idxO ixO
 simp (maxSteps := 1000000) (disch := (first | omega | assumption)) only [go_sem]
 refine ex_loop1 (ixOSt x l) (fun i => 0 ≤ i ∧ i ≤ l.length ∧ idxG (fun y => decide (cmpO x y = 0)) i (l.drop i.toNat) = idxG (fun y => decide (cmpO x y = 0)) 0 l) (fun i => (l.length - i).toNat) 0 ⟨by omega, by omega, rfl⟩ rfl ?_
 rintro i ⟨g1, g2, g3⟩
 unfold ixOSt
 by_cases hi : i < l.length
 ·have e2 : (i + 1).toNat = i.toNat + 1 := by omega
  have em := getD_map_at oprS l i [] g1 hi
  rw [drop_cons l i.toNat (by omega), idxG, ← e2] at g3
  have hc := amgC_fc x (l.getD i.toNat default)
  by_cases c1 : cmpO x (l.getD i.toNat default) = 0
  ·rw [if_pos (decide_eq_true c1)] at g3
   rw [decide_eq_true c1] at hc
   rw [← g3]
   simp (maxSteps := 1000000) (disch := (first | omega | assumption)) only [go_sem]
   refine CALL_det hc (.inl rfl) ?_
   simp (maxSteps := 1000000) (disch := (first | omega | assumption)) only [go_sem]
  ·rw [if_neg (by simpa using c1)] at g3
   rw [decide_eq_false c1] at hc
   simp (maxSteps := 1000000) (disch := (first | omega | assumption)) only [go_sem]
   refine CALL_det hc (.inl rfl) ?_
   simp (maxSteps := 1000000) (disch := (first | omega | assumption)) only [go_sem]
   exact ⟨i + 1, rfl, ⟨by omega, by omega, g3⟩, by omega⟩
 ·rw [List.drop_eq_nil_of_le (by omega), idxG] at g3
  rw [← g3]
  simp (maxSteps := 1000000) (disch := (first | omega | assumption)) only [go_sem]
/-! ### what the index says -/
theorem ixO_neg {p : List Opr} {x : Opr} (h : ixO p x < 0) : hasK p x = false ∧ cf1 p x = false := by
 have key : ∀ (l : List Opr) (k : Int), 0 ≤ k → idxG (fun y => decide (cmpO x y = 0)) k l < 0 → ∀ y ∈ l, cmpO x y ≠ 0 := by
  intro l
  induction l with
  | nil => intro _ _ _ y hy; simp at hy
  | cons z l ih =>
   intro k hk h y hy
   rw [idxG] at h
   split at h
   ·omega
   ·rename_i hz
    rcases List.mem_cons.1 hy with rfl | hy
    ·simpa using hz
    ·exact ih (k + 1) (by omega) h y hy
 have h2 := key p 0 (by omega) h
 refine ⟨?_, ?_⟩
 ·unfold hasK; rw [List.any_eq_false]; intro y hy; simpa using h2 y hy
 ·unfold cf1; rw [List.any_eq_false]; intro y hy hd; exact h2 y hy (of_decide_eq_true hd).1
theorem ixO_pos {p : List Opr} {x : Opr} (hp : ActOk p) (h : 0 ≤ ixO p x) : ixO p x < p.length ∧ hasK p x = true ∧ (cf1 p x = true ↔ p.getD (ixO p x).toNat default ≠ x) := by
 have h1 := idxG_rng (fun y => decide (cmpO x y = 0)) p 0
 have hr : ixO p x < p.length := by unfold ixO at h ⊢; omega
 have h2 := idxG_at (fun y => decide (cmpO x y = 0)) p 0 (by omega) h
 rw [show (idxG (fun y => decide (cmpO x y = 0)) 0 p - 0).toNat = (ixO p x).toNat by unfold ixO; omega] at h2
 have h2 : cmpO x (p.getD (ixO p x).toNat default) = 0 := of_decide_eq_true h2
 have hm := mem_at (show (ixO p x).toNat < p.length by omega)
 refine ⟨hr, List.any_eq_true.2 ⟨_, hm, decide_eq_true h2⟩, ?_⟩
 constructor
 ·intro hc
  obtain ⟨y, hy, hd⟩ := List.any_eq_true.1 hc
  obtain ⟨d1, d2⟩ := of_decide_eq_true hd
  have : y = p.getD (ixO p x).toNat default := pw_uniq (act_pw hp) hy hm (by
   have a1 := cmpO_zero d1
   have a2 := cmpO_zero h2
   have b1 : ¬cmpO y (p.getD (ixO p x).toNat default) < 0 := (swoO fun _ => True).ntr _ x _ trivial trivial trivial a1.2 a2.1
   have b2 : ¬cmpO (p.getD (ixO p x).toNat default) y < 0 := (swoO fun _ => True).ntr _ x _ trivial trivial trivial a2.2 a1.1
   have := cmpO_anti y (p.getD (ixO p x).toNat default)
   omega)
  rw [← this]; exact d2
 ·intro hc
  exact List.any_eq_true.2 ⟨_, hm, decide_eq_true ⟨h2, hc⟩⟩
theorem oprR (x y : Opr) (h : x.b = y.b ∧ x.no = y.no ∧ x.at_ = y.at_ ∧ x.kd = y.kd ∧ x.al = y.al ∧ x.un = y.un) : x = y := by
 obtain ⟨h1, h2, h3, h4, h5, h6⟩ := h
 cases x; cases y; simp_all
def amSt (p q : List Opr) (i : Int) : AS := ⟨tabV [(0, oprs false p), (6, .one (.ow 5000 0)), (13, oprs false q), (14, iv q.length), (15, iv i)], tabO [], tabO [(5000, opRow (p ++ (q.take i.toNat).filter fun x => !hasK p x))]⟩
set_option maxHeartbeats 12000000 in
theorem amg_fc (p q : List Opr) (hsp : ∀ x ∈ p, x.sm) (hsq : ∀ x ∈ q, x.sm) (hp : ActOk p) (hq : ActOk q) (hlp : p.length ≤ 1000) (hlq : q.length ≤ 1000) : FC Tryz.prog 20 none [oprs false p, oprs false q] (fun _ r => r = .tu [oprs true (mgE p q).1, iv (mgE p q).2]) := by
 refine fc_amg (by simp +arith) ?_
 unfold C_amg
 simp (maxSteps := 1000000) (disch := (first | omega | assumption)) only [go_sem]
 refine ⟨rfl, CALLM_det (cloneA_fcm false p (by omega)) ⟨rfl, rfl⟩ ?_⟩
 simp (maxSteps := 1000000) (disch := (first | omega | assumption)) only [go_sem]
 refine ex_loop1 (fun i => amSt p q i) (fun i => 0 ≤ i ∧ i ≤ q.length ∧ cfB p (q.take i.toNat) = false) (fun i => (q.length - i).toNat) 0 ⟨by omega, by omega, rfl⟩ (by simp [amSt]) ?_
 rintro i ⟨i1, i2, i3⟩
 unfold amSt
 by_cases hi : i < q.length
 ·have em := getD_map_at oprS q i [] i1 hi
  have hix := idxO_fc (q.getD i.toNat default) p (by omega)
  have htk : q.take (i + 1).toNat = q.take i.toNat ++ [q.getD i.toNat default] := by
   rw [show (i + 1).toNat = i.toNat + 1 by omega, take_snoc (by omega)]
  have hin : q.getD i.toNat default ∈ q := mem_at (show i.toNat < q.length by omega)
  have hfl : (p ++ (q.take i.toNat).filter fun x => !hasK p x).length ≤ 2000 := by
   have := List.length_filter_le (fun x => !hasK p x) (q.take i.toNat)
   rw [List.length_append]; rw [List.length_take] at this; omega
  by_cases c1 : ixO p (q.getD i.toNat default) < 0
  ·obtain ⟨k1, k2⟩ := ixO_neg c1
   simp (maxSteps := 1000000) (disch := (first | omega | assumption)) only [go_sem]
   refine CALL_det hix (.inl rfl) ?_
   simp (maxSteps := 1000000) (disch := (first | omega | assumption)) only [go_sem]
   exact ⟨i + 1, by
    have e1 : (!hasK p (q.getD i.toNat default)) = true := by rw [k1]; rfl
    have e2 : (q.take (i + 1).toNat).filter (fun x => !hasK p x) = (q.take i.toNat).filter (fun x => !hasK p x) ++ [q.getD i.toNat default] := by
     rw [htk, List.filter_append, List.filter_cons, if_pos e1, List.filter_nil]
    rw [e2]
    simp only [opRow, List.map_append, List.map_cons, List.map_nil, List.append_assoc, oprS_eq], ⟨by omega, by omega, by
     rw [htk]; unfold cfB at i3 ⊢; rw [List.any_append, i3, List.any_cons, k2]; rfl⟩, by omega⟩
  ·obtain ⟨k0, k1, k2⟩ := ixO_pos hp (show 0 ≤ ixO p (q.getD i.toNat default) by omega)
   have ep := getD_map_at oprS p (ixO p (q.getD i.toNat default)) [] (by omega) (by omega)
   have hor := oprR (p.getD (ixO p (q.getD i.toNat default)).toNat default) (q.getD i.toNat default)
   simp (maxSteps := 1000000) (disch := (first | omega | assumption)) only [go_sem]
   refine CALL_det hix (.inl rfl) ?_
   simp (maxSteps := 1000000) (disch := (first | omega | assumption)) only [go_sem]
   refine ⟨fun hne => ?_, fun he => ?_⟩
   ·have hc : cfB p q = true := List.any_eq_true.2 ⟨_, hin, k2.2 fun e => hne (by rw [e]; exact ⟨rfl, rfl, rfl, rfl, rfl, rfl⟩)⟩
    unfold mgE
    rw [if_pos hc]; rfl
   ·have hc1 : cf1 p (q.getD i.toNat default) = false := by
     cases hb : cf1 p (q.getD i.toNat default) with
     | false => rfl
     | true => exact absurd (hor (Classical.not_not.1 he)) (k2.1 hb)
    have e1 : ¬(!hasK p (q.getD i.toNat default)) = true := by rw [k1]; simp
    have e2 : (q.take (i + 1).toNat).filter (fun x => !hasK p x) = (q.take i.toNat).filter (fun x => !hasK p x) := by
     rw [htk, List.filter_append, List.filter_cons, if_neg e1, List.filter_nil, List.append_nil]
    exact ⟨i + 1, by rw [e2], ⟨by omega, by omega, by
     rw [htk]; unfold cfB at i3 ⊢; rw [List.any_append, i3, List.any_cons, hc1]; rfl⟩, by omega⟩
 ·have hcn : cfB p q = false := by rw [show i.toNat = q.length by omega, List.take_length] at i3; exact i3
  have hso := srtO_all p q hp hq hcn (by
   unfold refM
   have := List.length_filter_le (fun x => !hasK p x) q
   rw [List.length_append]; omega)
  rw [show i.toNat = q.length by omega, List.take_length]
  have hm1 : mgE p q = if ofF (outM p q) ≠ 0 then ([], ofF (outM p q)) else (outM p q, 0) := by unfold mgE; rw [if_neg (by rw [hcn]; simp)]
  have hra := ractsF_fc (outM p q) (by have := outM_len p q; omega) (fun x hx => (outM_mem.1 hx).elim (hsp x) (hsq x))
  rw [hm1]
  change FCMS _ _ _ ⟨[], [(1000000, oRow (p ++ q.filter fun x => !hasK p x))]⟩ _ _ at hso
  generalize (p ++ q.filter fun x => !hasK p x) = m at *
  generalize outM p q = l at *
  simp (maxSteps := 1000000) (disch := (first | omega | assumption)) only [go_sem]
  refine ⟨rfl, CALLM_rnES ⟨[], [(5000, opRow l)]⟩ (.tu []) (fun k => k) (Go.Ai.swp 5000 1000000) (fun _ => rfl) (Go.Ai.swp_swp 5000 1000000) hso (by simp) rfl rfl rfl rfl rfl ⟨rfl, rfl⟩ ?_⟩
  simp (maxSteps := 1000000) (disch := (first | omega | assumption)) only [go_sem]
  refine CALL_det hra (.inl rfl) ?_
  by_cases c2 : ofF l ≠ 0
  ·rw [if_pos c2]
   simp (maxSteps := 1000000) (disch := (first | omega | assumption)) only [go_sem]
   rfl
  ·rw [if_neg c2]
   simp (maxSteps := 1000000) (disch := (first | omega | assumption)) only [go_sem]
end Go.Proofs.YtfgkpbkphmeigaaGreatDoor
