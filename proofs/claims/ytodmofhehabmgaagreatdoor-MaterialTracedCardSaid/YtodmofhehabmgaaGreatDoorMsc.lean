/-
 The mixer's scale: contracts.
-/
import Derived.Test.YtodmofhehabmgaaGreatDoorMpq
import Derived.Test.YtodmofhehabmgaaGreatDoorBas
namespace Go.Proofs.YtodmofhehabmgaaGreatDoor
open Go Go.Ai
set_option linter.unusedSimpArgs false
set_option linter.unusedVariables false
set_option maxHeartbeats 4000000
def C_times_ : AC := (.seq (.reg false [gI 4 (.mv (oI 0))] (kP [0,1] [] []))
 (.seq (.seq (.reg false [gM 5 0,gI 6 (.bin .eql (.t 5) (oI 0)),gM 7 6,gG 8 7 false (.mv (.t 1)),gG 9 7 false (.bin .eql (.t 8) (oI 0)),gI 10 (.pick (.t 7) (.v (.bool true)) (.t 9)),gM 11 10,gG 12 11 false (.mv (.t 0)),gG 13 11 false (.mv (.t 1)),gG 14 11 false (.bin .quo (oI 1000000000000) (.t 13)),gG 15 11 false (.bin .gtr (.t 12) (.t 14)),gI 16 (.pick (.t 11) (.v (.bool true)) (.t 15))] (kP [0,1,16] [] []))
 (.cond (.t 16)
 (.seq (.reg false [gI 4 (.mv (oI 0))] (kP [4] [] []))
 .ret)
 .skip))
 (.seq (.reg false [gM 17 0,gM 18 1,gI 19 (.bin .mul (.t 17) (.t 18)),gM 4 19] (kP [4] [] []))
 .ret)))
theorem fc_times_ : FcT Tryz.prog 135 Tryz.f135 C_times_ [.t 4] := fc_mk [aN [0,1] [] [],aN [0,1,16] [] [],aN [4] [] [],aN [4] [] []] Tryz.func135 (by kernel_rfl)
/-! ### maps from strings to numbers -/
def sget (k : ByteArray) : List (ByteArray × Int) → Option Int
 | [] => none
 | p :: l => if (k == p.1) = true then some p.2 else sget k l
def sput (k : ByteArray) (v : Int) : List (ByteArray × Int) → List (ByteArray × Int)
 | [] => [(k, v)]
 | p :: l => if (k == p.1) = true then (k, v) :: l else p :: sput k v l
def mSI (l : List (ByteArray × Int)) : List (List Cel) := l.map fun p => [.g (.string p.1), .g (.int .i64 p.2)]
theorem mget_si {k : ByteArray} : ∀ {l : List (ByteArray × Int)}, mget (.string k) (mSI l) = (sget k l).map fun v => .g (.int .i64 v)
 | [] => rfl
 | p :: l => by
  have ih := mget_si (k := k) (l := l)
  have e : mkey (.string k) [.g (.string p.1), .g (.int .i64 p.2)] = (k == p.1) := rfl
  have e1 : mSI (p :: l) = [.g (.string p.1), .g (.int .i64 p.2)] :: mSI l := rfl
  rw [e1, mget, sget]
  by_cases h : (k == p.1) = true
  ·rw [if_pos (e.trans h), if_pos h]; rfl
  ·rw [if_neg (fun h' => h (e.symm.trans h')), if_neg h, ih]
theorem mput_si {k : ByteArray} {v : Int} : ∀ {l : List (ByteArray × Int)}, mput (.string k) (.g (.int .i64 v)) (mSI l) = mSI (sput k v l)
 | [] => rfl
 | p :: l => by
  have ih := mput_si (k := k) (v := v) (l := l)
  have e : mkey (.string k) [.g (.string p.1), .g (.int .i64 p.2)] = (k == p.1) := rfl
  have e1 : mSI (p :: l) = [.g (.string p.1), .g (.int .i64 p.2)] :: mSI l := rfl
  rw [e1, mput, sput]
  by_cases h : (k == p.1) = true
  ·rw [if_pos (e.trans h), if_pos h]; rfl
  ·rw [if_neg (fun h' => h (e.symm.trans h')), if_neg h, ih]; rfl
attribute [go_sem] mget_si mput_si
theorem sget_put (k j : ByteArray) (v : Int) : ∀ l, sget j (sput k v l) = if j = k then some v else sget j l
 | [] => by
  by_cases h : j = k
  ·subst h; simp [sput, sget]
  ·have : (j == k) = false := by simpa using h
   simp [sput, sget, this, h]
 | p :: l => by
  have ih := sget_put k j v l
  rw [sput]
  by_cases h : (k == p.1) = true
  ·have e : k = p.1 := by simpa using h
   rw [if_pos h, sget, sget]
   by_cases hj : j = k
   ·subst hj; simp
   ·have h1 : ¬((j == k) = true) := by simpa using hj
    have h2 : ¬((j == p.1) = true) := by rw [← e]; exact h1
    rw [if_neg h1, if_neg h2, if_neg hj]
  ·rw [if_neg h, sget, sget, ih]
   by_cases hj : j = k
   ·subst hj; rw [if_neg h, if_pos rfl, if_pos rfl]
   ·rw [if_neg hj, if_neg hj]
theorem mgetF_fmG (k : ByteArray) : ∀ D : List (ByteArray × List Trf), (mgetF (.string k) (fmG D)).getD (.sl false 3 []) = .sl false 3 ((gat k D).map trC)
 | [] => rfl
 | p :: D => by
  have ih := mgetF_fmG k D
  have e : mkey (.string k) [.g (.string p.1), .sl false 3 (p.2.map trC)] = (k == p.1) := rfl
  have e1 : fmG (p :: D) = [.g (.string p.1), .sl false 3 (p.2.map trC)] :: fmG D := rfl
  rw [e1, mgetF]
  by_cases h : (k == p.1) = true
  ·have h2 : p.1 = k := (by simpa using h : k = p.1).symm
   rw [if_pos (e.trans h)]
   unfold gat
   rw [if_pos h2]; rfl
  ·have h2 : ¬ p.1 = k := fun h' => h (by simp [h'])
   rw [if_neg (fun h' => h (e.symm.trans h')), ih]
   conv => rhs; unfold gat
   rw [if_neg h2]
theorem fm_inT (l : List Trf) (k : ByteArray) : (mgetF (.string k) (fmG (grpAll l))).getD (.sl false 3 []) = .sl false 3 ((inT l k).map trC) := by
 rw [mgetF_fmG, gat_all]; rfl
attribute [go_sem] fm_inT
theorem times_fc (a b : Int) (ha : 0 ≤ a ∧ a ≤ 1000000000000) (hb : 0 ≤ b ∧ b ≤ 1000000000000) : FC Tryz.prog 135 none [iv a, iv b] (fun _ r => r = iv (tms a b)) := by
 refine fc_times_ (by simp +arith) ?_
 unfold C_times_
 have h9 := tms_bd ha.1 hb.1
 unfold tms at h9 ⊢
 by_cases h1 : a = 0
 ·rw [if_pos (.inl h1)]
  simp (maxSteps := 1000000) (disch := omega) only [go_sem]
 by_cases h2 : b = 0
 ·rw [if_pos (.inr (.inl h2))]
  simp (maxSteps := 1000000) (disch := omega) only [go_sem]
 have h4 := tdiv_bd (n := 1000000000000) (g := b) (B := 1000000000000) (by omega) (by omega) (by omega)
 by_cases h3 : a > (1000000000000 : Int).tdiv b
 ·rw [if_pos (.inr (.inr h3))]
  simp (maxSteps := 1000000) (disch := omega) only [go_sem]
 have hn : ¬(a = 0 ∨ b = 0 ∨ a > (1000000000000 : Int).tdiv b) := by omega
 rw [if_neg hn] at h9 ⊢
 simp (maxSteps := 1000000) (disch := omega) only [go_sem]
end Go.Proofs.YtodmofhehabmgaaGreatDoor
/-
 The mixer's scale: its contract, by induction on the rank of the batch.
-/
namespace Go.Proofs.YtodmofhehabmgaaGreatDoor
open Go Go.Ai
set_option linter.unusedSimpArgs false
set_option linter.unusedVariables false
set_option maxHeartbeats 4000000
def C_mscale : AC := (.seq (.reg false [gI 4 (.mv (oI 0))] (kP [0,1,1000000] [1000000] [1000001,1000002]))
 (.seq (.seq (.reg false [gM 14 0,gI 15 (.nilchk (.t 14)),gI 16 (.fadr 2 (.t 15)),gI 17 (.load false 1 (.t 16)),gM 18 1,gI 19 (.mlk 0 (.int .i64 (0)) true 0 (.t 17) (.t 18)),gM 13 19,gI 20 (.extr (.t 13) 0),gI 21 (.extr (.t 13) 1),gM 5 20,gM 6 21] (kP [0,1,5,6,1000000] [1000000] [1000001,1000002]))
 (.seq (.reg false [gM 22 6] (kP [0,1,5,22,1000000] [1000000] [1000001,1000002]))
 (.cond (.t 22)
 (.seq (.reg false [gM 23 5,gM 4 23] (kP [4] [1000000] [1000001,1000002]))
 .ret)
 .skip)))
 (.seq (.reg false [gI 7 (.mv (oI 0)),gI 8 (.mv (oI 1))] (kP [0,1,7,8,1000000] [1000000] [1000001,1000002]))
 (.seq (.seq (.reg false [gM 24 0,gI 25 (.nilchk (.t 24)),gI 26 (.fadr 0 (.t 25)),gI 27 (.load false 1 (.t 26)),gM 28 1,gI 29 (.mlk 0 (.slice none 0 0) false 3 (.t 27) (.t 28)),gI 30 (.len (.t 29)),gI 31 (.mv (oI 0))] (kP [0,1,7,8,29,30,31,1000000] [1000000] [1000001,1000002]))
 (.block 0 (.loop (.seq (.reg false [gI 32 (.bin .lss (.t 31) (.t 30))] (kP [0,1,7,8,29,30,31,32,1000000] [1000000] [1000001,1000002]))
 (.seq (.cond (.t 32)
 .skip
 (.exit 0))
 (.seq (.block 1 (.seq (.reg false [gI 33 (.iadr 3 (.t 29) (.t 31)),gI 34 (.load true 3 (.t 33)),gI 10 (.alloc [(.string (ByteArray.mk #[])),(.string (ByteArray.mk #[])),(.int .i64 (0))]),gN (.store 3 (.t 10) (.t 34))] (kP [0,1,7,8,10,29,30,31,1000000] [10,1000000] [1000001,1000002]))
 (.seq (.reg false [gM 35 7,gI 36 (.fadr 2 (.t 10)),gI 37 (.load false 1 (.t 36)),gI 38 (.bin .add (.t 35) (.t 37)),gM 7 38] (kP [0,1,7,8,10,29,30,31,1000000] [10,1000000] [1000001,1000002]))
 (.seq (.reg false [gM 39 0,gI 40 (.fadr 0 (.t 10)),gI 41 (.load false 1 (.t 40)),gI 42 (.callm (.f 91) [(.t 39),(.t 41)] ⟨[1000000],[1000001,1000002],[1000000],[1000001,1000002],[1000001,1000002]⟩),gM 11 42] (kP [0,1,7,8,11,29,30,31,1000000] [1000000] [1000001,1000002]))
 (.seq (.seq (.reg false [gM 43 11,gI 44 (.bin .gtr (.t 43) (oI 0)),gM 45 44,gG 46 45 true (.mv (.t 8)),gG 47 45 true (.bin .gtr (.t 46) (oI 0)),gI 48 (.pick (.t 45) (.t 47) (.v (.bool false)))] (kP [0,1,7,8,11,29,30,31,48,1000000] [1000000] [1000001,1000002]))
 (.cond (.t 48)
 (.reg false [gM 49 11,gM 50 11,gM 51 8,gI 52 (.call (.f 134) [(.t 50),(.t 51)]),gI 53 (.bin .quo (.t 49) (.t 52)),gM 11 53] (kP [0,1,7,8,11,29,30,31,1000000] [1000000] [1000001,1000002]))
 .skip))
 (.reg false [gM 54 8,gM 55 11,gI 56 (.call (.f 135) [(.t 54),(.t 55)]),gM 8 56] (kP [0,1,7,8,29,30,31,1000000] [1000000] [1000001,1000002])))))))
 (.reg false [gI 57 (.bin .add (.t 31) (oI 1)),gM 31 57] (kP [0,1,7,8,29,30,31,1000000] [1000000] [1000001,1000002]))))))))
 (.seq (.reg false [gI 12 (.mv (oI 1))] (kP [0,1,7,8,12,1000000] [1000000] [1000001,1000002]))
 (.seq (.seq (.reg false [gM 58 7,gI 59 (.bin .gtr (.t 58) (oI 0))] (kP [0,1,7,8,12,59,1000000] [1000000] [1000001,1000002]))
 (.cond (.t 59)
 (.reg false [gM 60 7,gM 61 8,gI 62 (.call (.f 135) [(.t 60),(.t 61)]),gM 12 62] (kP [0,1,12,1000000] [1000000] [1000001,1000002]))
 .skip))
 (.seq (.reg false [gM 63 0,gI 64 (.nilchk (.t 63)),gI 65 (.fadr 2 (.t 64)),gI 66 (.load false 1 (.t 65)),gM 67 1,gM 68 12,gN (.mup 0 (.t 66) (.t 67) (.t 68))] (kP [12] [1000000] [1000001,1000002]))
 (.seq (.reg false [gM 69 12,gM 4 69] (kP [4] [1000000] [1000001,1000002]))
 .ret))))))))
theorem fcms_mscale : FsT Tryz.prog 91 Tryz.f91 C_mscale [.t 4] := fcms_mk [aN [0,1,1000000] [1000000] [1000001,1000002],aN [0,1,5,6,1000000] [1000000] [1000001,1000002],aN [0,1,5,22,1000000] [1000000] [1000001,1000002],aN [4] [1000000] [1000001,1000002],aN [0,1,7,8,1000000] [1000000] [1000001,1000002],aN [0,1,7,8,29,30,31,1000000] [1000000] [1000001,1000002],aN [0,1,7,8,29,30,31,32,1000000] [1000000] [1000001,1000002],aN [0,1,7,8,10,29,30,31,1000000] [10,1000000] [1000001,1000002],aN [0,1,7,8,10,29,30,31,1000000] [10,1000000] [1000001,1000002],⟨(kP [0,1,7,8,11,29,30,31,1000000] [1000000] [1000001,1000002]),[],[],[],[(42,⟨[1000000],[1000001,1000002],[1000000],[1000001,1000002],[1000001,1000002]⟩)]⟩,aN [0,1,7,8,11,29,30,31,48,1000000] [1000000] [1000001,1000002],aN [0,1,7,8,11,29,30,31,1000000] [1000000] [1000001,1000002],aN [0,1,7,8,29,30,31,1000000] [1000000] [1000001,1000002],aN [0,1,7,8,29,30,31,1000000] [1000000] [1000001,1000002],aN [0,1,7,8,12,1000000] [1000000] [1000001,1000002],aN [0,1,7,8,12,59,1000000] [1000000] [1000001,1000002],aN [0,1,12,1000000] [1000000] [1000001,1000002],aN [12] [1000000] [1000001,1000002],aN [4] [1000000] [1000001,1000002]] Tryz.func91 (by kernel_rfl)
section
variable {P : Program} {Q : AX → AS → Prop} {s : AS} {k : List KI} {kp : Option Keep} {l : List GI}
theorem CALLM_R {f : FuncId} {H : Hp} {vargs : List Val} {m : CAnn} {d : Option Nat} {R : Hp → Val → Prop} (hf : FCMS P f m.sts H vargs R) (hne : ∃ H r, R H r) (h : ∀ H r, R H r → hkOk m H ∧ rg P l kp k Q ((s.after m H).put d (s.backV m r))) : CALLM P f H vargs m d l kp k Q s := ⟨R, hf, hne, h⟩
end
abbrev mxBox (l : List Trf) (src : ByteArray) : List Cel := [.fm 0 (fmG (grpAll l)), .g (.string src), .mp 1000001, .mp 1000002]
abbrev mpRow (m : List (ByteArray × Int)) : Row := ⟨0, 0, 0, mSI m⟩
abbrev mxH (l : List Trf) (src : ByteArray) (sc pt : List (ByteArray × Int)) : Hp := ⟨[(1000000, mxBox l src)], [(1000001, mpRow sc), (1000002, mpRow pt)]⟩
/-- A memo that holds right values alone. -/
def memS (l : List Trf) (sc : List (ByteArray × Int)) : Prop := ∀ k v, sget k sc = some v → v = SC l k
theorem memS.put {l : List Trf} {sc : List (ByteArray × Int)} (h : memS l sc) (b : ByteArray) : memS l (sput b (SC l b) sc) := fun k v hk => by
 rw [sget_put] at hk
 split at hk
 ·rename_i e; injection hk with hk; rw [← hk, e]
 ·exact h k v hk
theorem datE_si (m : List (ByteArray × Int)) : datE (mSI m) = mSI m := datE_map (fun _ => rfl) m
attribute [go_sem] datE_si
def scSt (l : List Trf) (src b : ByteArray) (pt : List (ByteArray × Int)) (ins : List Trf) (i all com : Int) (sc : List (ByteArray × Int)) : AS :=
 ⟨tabV [(0, .one (.bx 1000000 0)), (1, sv b), (7, iv all), (8, iv com), (29, trs false ins), (30, iv ins.length), (31, iv i), (1000000, .any)], tabO [(1000000, mxBox l src)], tabO [(1000001, mpRow sc), (1000002, mpRow pt)]⟩
theorem scale_fcm {l : List Trf} (hf : Flo l) (src : ByteArray) (pt : List (ByteArray × Int)) : ∀ (n : Nat) (b : ByteArray) (sc : List (ByteArray × Int)), rk l b < n → memS l sc →
  FCMS Tryz.prog 91 [1000001, 1000002] (mxH l src sc pt) [.one (.bx 1000000 0), sv b] (fun H r => ∃ sc', memS l sc' ∧ H = mxH l src sc' pt ∧ r = iv (SC l b)) := by
 intro n
 induction n with
 | zero => intro b sc h; omega
 | succ n ih =>
  intro b sc hn hm
  refine fcms_mscale (K := ⟨[], [1000000], [1000001, 1000002]⟩) (by simp +arith) (by simp [XK]) (by simp [XK]) ?_
  unfold C_mscale
  simp (maxSteps := 1000000) (disch := omega) only [go_sem]
  cases hs : sget b sc with
  | some v =>
   have := hm b v hs
   subst this
   simp only [Option.isSome_some, Option.getD_some]
   simp (maxSteps := 1000000) (disch := omega) only [go_sem]
   exact ⟨sc, hm, rfl⟩
  | none =>
   simp only [Option.isSome_none, Option.getD_none]
   simp (maxSteps := 1000000) (disch := omega) only [go_sem]
   have hil : (inT l b).length ≤ 500 := Nat.le_trans (List.length_filter_le _ _) hf.len
   have hia : ∀ x ∈ inT l b, 1 ≤ x.amt ∧ x.amt ≤ 1000000 := fun x hx => hf.amt x (inT_mem.1 hx).1
   have hik : ∀ x ∈ inT l b, 0 ≤ SC l x.frm ∧ SC l x.frm ≤ 1000000000000 := fun x hx => SC_bd hf n x.frm (by have := rk_lt hf hx; omega)
   have hir : ∀ x ∈ inT l b, rk l x.frm < n := fun x hx => by have := rk_lt hf hx; omega
   have hSC := SC_eq hf b
   unfold scOf at hSC
   have hfb := scFold_bd (k := SC l) (inT l b) (0, 1) hia hik (by simp) (by simp)
   generalize inT l b = ins at *
   clear hs
   refine ex_loop4 (scSt l src b pt ins) (fun i all com sc => 0 ≤ i ∧ i ≤ ins.length ∧ 0 ≤ all ∧ all ≤ 1000000 * i ∧ 0 ≤ com ∧ com ≤ 1000000000000 ∧ memS l sc ∧ (ins.drop i.toNat).foldl (scStep (SC l)) (all, com) = ins.foldl (scStep (SC l)) (0, 1)) (fun i _ _ _ => (ins.length - i).toNat) 0 0 1 sc ⟨by omega, by omega, by omega, by omega, by omega, by omega, hm, rfl⟩ rfl ?_
   rintro i all com sc ⟨g1, g2, g3, g4, g5, g6, hm, g7⟩
   unfold scSt
   by_cases hi : i < ins.length
   ·have e2 : (i + 1).toNat = i.toNat + 1 := by omega
    have em := getD_map_at trC ins i [] g1 hi
    have hmem := getD_mem ins i.toNat (by omega)
    have hx := hia _ hmem
    have hk := hik _ hmem
    have hr := hir _ hmem
    rw [drop_cons ins i.toNat (by omega), List.foldl_cons, ← e2] at g7
    simp (maxSteps := 1000000) (disch := omega) only [go_sem]
    refine ⟨rfl, CALLM_R (ih _ sc hr hm) ⟨_, _, sc, hm, rfl, rfl⟩ ?_⟩
    rintro _ _ ⟨sc2, hm2, rfl, rfl⟩
    refine ⟨.inl ⟨rfl, rfl⟩, ?_⟩
    generalize ins.getD i.toNat default = x at *
    by_cases c1 : 0 < SC l x.frm
    ·by_cases c2 : 0 < com
     ·have hst : scStep (SC l) (all, com) x = (all + x.amt, tms com ((SC l x.frm).tdiv (Nat.gcd (SC l x.frm).toNat com.toNat))) := by
       unfold scStep; rw [if_pos ⟨c1, c2⟩]
      rw [hst] at g7
      have hg : 1 ≤ ((Nat.gcd (SC l x.frm).toNat com.toNat : Nat) : Int) := by
       have := Nat.gcd_pos_of_pos_left com.toNat (show 0 < (SC l x.frm).toNat by omega)
       omega
      have hq := tdiv_bd (n := SC l x.frm) (B := 1000000000000) hg (by omega) (by omega)
      have hq0 := Int.tdiv_nonneg hk.1 (show 0 ≤ ((Nat.gcd (SC l x.frm).toNat com.toNat : Nat) : Int) by omega)
      have htm := tms_bd g5 hq0
      simp (maxSteps := 1000000) (disch := omega) only [go_sem]
      refine CALL_det (gcd_fc _ _ (by omega) (by omega)) (.inl rfl) ?_
      simp (maxSteps := 1000000) (disch := omega) only [go_sem]
      refine CALL_det (times_fc com _ ⟨g5, g6⟩ ⟨hq0, hq.2⟩) (.inl rfl) ?_
      simp (maxSteps := 1000000) (disch := omega) only [go_sem]
      exact ⟨i + 1, _, _, sc2, rfl, ⟨by omega, by omega, by omega, by omega, htm.1, htm.2, hm2, g7⟩, by omega⟩
     ·have hst : scStep (SC l) (all, com) x = (all + x.amt, tms com (SC l x.frm)) := by
       unfold scStep; rw [if_neg (fun h => c2 h.2)]
      rw [hst] at g7
      have htm := tms_bd g5 hk.1
      simp (maxSteps := 1000000) (disch := omega) only [go_sem]
      refine CALL_det (times_fc com _ ⟨g5, g6⟩ hk) (.inl rfl) ?_
      simp (maxSteps := 1000000) (disch := omega) only [go_sem]
      exact ⟨i + 1, _, _, sc2, rfl, ⟨by omega, by omega, by omega, by omega, htm.1, htm.2, hm2, g7⟩, by omega⟩
    ·have hst : scStep (SC l) (all, com) x = (all + x.amt, tms com (SC l x.frm)) := by
      unfold scStep; rw [if_neg (fun h => c1 h.1)]
     rw [hst] at g7
     have htm := tms_bd g5 hk.1
     simp (maxSteps := 1000000) (disch := omega) only [go_sem]
     refine CALL_det (times_fc com _ ⟨g5, g6⟩ hk) (.inl rfl) ?_
     simp (maxSteps := 1000000) (disch := omega) only [go_sem]
     exact ⟨i + 1, _, _, sc2, rfl, ⟨by omega, by omega, by omega, by omega, htm.1, htm.2, hm2, g7⟩, by omega⟩
   ·rw [List.drop_eq_nil_of_le (by omega), List.foldl_nil] at g7
    rw [← g7] at hSC
    simp only at hSC
    by_cases ha : 0 < all
    ·rw [if_pos ha] at hSC
     simp (maxSteps := 1000000) (disch := omega) only [go_sem]
     refine CALL_det (times_fc all com ⟨by omega, by omega⟩ ⟨g5, g6⟩) (.inl rfl) ?_
     rw [← hSC]
     simp (maxSteps := 1000000) (disch := omega) only [go_sem]
     exact ⟨_, hm.put b, rfl⟩
    ·rw [if_neg ha] at hSC
     rw [hSC]
     simp (maxSteps := 1000000) (disch := omega) only [go_sem]
     exact ⟨_, hm.put b, by rw [hSC]⟩
end Go.Proofs.YtodmofhehabmgaaGreatDoor
