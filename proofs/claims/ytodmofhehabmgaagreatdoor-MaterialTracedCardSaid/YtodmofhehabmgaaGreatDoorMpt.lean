/-
 The mixer's part: its contract.
-/
import Derived.Test.YtodmofhehabmgaaGreatDoorMsc
import Derived.Test.YtodmofhehabmgaaGreatDoorMpq
namespace Go.Proofs.YtodmofhehabmgaaGreatDoor
open Go Go.Ai
set_option linter.unusedSimpArgs false
set_option linter.unusedVariables false
set_option maxHeartbeats 4000000
def C_mpart : AC := (.seq (.reg false [gI 4 (.mv (oI 0))] (kP [0,1,1000000] [1000000] [1000001,1000002]))
 (.seq (.seq (.reg false [gM 14 1,gM 15 0,gI 16 (.nilchk (.t 15)),gI 17 (.fadr 1 (.t 16)),gI 18 (.load false 1 (.t 17)),gI 19 (.bin .eql (.t 14) (.t 18))] (kP [0,1,19,1000000] [1000000] [1000001,1000002]))
 (.cond (.t 19)
 (.seq (.reg false [gM 20 0,gM 21 1,gI 22 (.callm (.f 91) [(.t 20),(.t 21)] ⟨[1000000],[1000001,1000002],[1000000],[1000001,1000002],[1000001,1000002]⟩),gM 4 22] (kP [4,1000000] [1000000] [1000001,1000002]))
 .ret)
 .skip))
 (.seq (.seq (.reg false [gM 24 0,gI 25 (.nilchk (.t 24)),gI 26 (.fadr 3 (.t 25)),gI 27 (.load false 1 (.t 26)),gM 28 1,gI 29 (.mlk 0 (.int .i64 (0)) true 0 (.t 27) (.t 28)),gM 23 29,gI 30 (.extr (.t 23) 0),gI 31 (.extr (.t 23) 1),gM 5 30,gM 6 31] (kP [0,1,5,6,1000000] [1000000] [1000001,1000002]))
 (.seq (.reg false [gM 32 6] (kP [0,1,5,32,1000000] [1000000] [1000001,1000002]))
 (.cond (.t 32)
 (.seq (.reg false [gM 33 5,gM 4 33] (kP [4,1000000] [1000000] [1000001,1000002]))
 .ret)
 .skip)))
 (.seq (.reg false [gI 7 (.mv (oI 0))] (kP [0,1,7,1000000] [1000000] [1000001,1000002]))
 (.seq (.seq (.reg false [gM 34 0,gI 35 (.nilchk (.t 34)),gI 36 (.fadr 0 (.t 35)),gI 37 (.load false 1 (.t 36)),gM 38 1,gI 39 (.mlk 0 (.slice none 0 0) false 3 (.t 37) (.t 38)),gI 40 (.len (.t 39)),gI 41 (.mv (oI 0))] (kP [0,1,7,39,40,41,1000000] [1000000] [1000001,1000002]))
 (.block 0 (.loop (.seq (.reg false [gI 42 (.bin .lss (.t 41) (.t 40))] (kP [0,1,7,39,40,41,42,1000000] [1000000] [1000001,1000002]))
 (.seq (.cond (.t 42)
 .skip
 (.exit 0))
 (.seq (.block 1 (.seq (.reg false [gI 43 (.iadr 3 (.t 39) (.t 41)),gI 44 (.load true 3 (.t 43)),gI 9 (.alloc [(.string (ByteArray.mk #[])),(.string (ByteArray.mk #[])),(.int .i64 (0))]),gN (.store 3 (.t 9) (.t 44))] (kP [0,1,7,9,39,40,41,1000000] [9,1000000] [1000001,1000002]))
 (.reg false [gM 45 7,gI 46 (.fadr 2 (.t 9)),gI 47 (.load false 1 (.t 46)),gI 48 (.bin .add (.t 45) (.t 47)),gM 7 48] (kP [0,1,7,39,40,41,1000000] [1000000] [1000001,1000002]))))
 (.reg false [gI 49 (.bin .add (.t 41) (oI 1)),gM 41 49] (kP [0,1,7,39,40,41,1000000] [1000000] [1000001,1000002]))))))))
 (.seq (.reg false [gI 10 (.mv (oI 0))] (kP [0,1,7,10,1000000] [1000000] [1000001,1000002]))
 (.seq (.seq (.reg false [gM 50 0,gI 51 (.nilchk (.t 50)),gI 52 (.fadr 0 (.t 51)),gI 53 (.load false 1 (.t 52)),gM 54 1,gI 55 (.mlk 0 (.slice none 0 0) false 3 (.t 53) (.t 54)),gI 56 (.len (.t 55)),gI 57 (.mv (oI 0))] (kP [0,1,7,10,55,56,57,1000000] [1000000] [1000001,1000002]))
 (.block 2 (.loop (.seq (.reg false [gI 58 (.bin .lss (.t 57) (.t 56))] (kP [0,1,7,10,55,56,57,58,1000000] [1000000] [1000001,1000002]))
 (.seq (.cond (.t 58)
 .skip
 (.exit 2))
 (.seq (.block 3 (.seq (.reg false [gI 59 (.iadr 3 (.t 55) (.t 57)),gI 60 (.load true 3 (.t 59)),gI 12 (.alloc [(.string (ByteArray.mk #[])),(.string (ByteArray.mk #[])),(.int .i64 (0))]),gN (.store 3 (.t 12) (.t 60))] (kP [0,1,7,10,12,55,56,57,1000000] [12,1000000] [1000001,1000002]))
 (.seq (.reg false [gM 61 0,gM 62 1,gI 63 (.callm (.f 91) [(.t 61),(.t 62)] ⟨[1000000],[1000001,1000002],[1000000],[1000001,1000002],[1000001,1000002]⟩),gM 64 7,gI 65 (.bin .quo (.t 63) (.t 64)),gM 13 65] (kP [0,1,7,10,12,13,55,56,57,1000000] [12,1000000] [1000001,1000002]))
 (.reg true [gM 66 10,gN (.chk (.t 12) (some 12)),gI 67 (.fadr 2 (.t 12)),gN (.chk (.t 67) (some 12)),gI 68 (.load false 1 (.t 67)),gM 69 13,gM 70 0,gI 71 (.fadr 0 (.t 12)),gI 72 (.load false 1 (.t 71)),gI 73 (.callm (.f 91) [(.t 70),(.t 72)] ⟨[1000000],[1000001,1000002],[1000000],[1000001,1000002],[1000001,1000002]⟩),gI 74 (.bin .quo (.t 69) (.t 73)),gI 75 (.bin .mul (.t 68) (.t 74)),gM 76 0,gN (.chk (.t 12) (some 12)),gI 77 (.fadr 0 (.t 12)),gN (.chk (.t 77) (some 12)),gI 78 (.load false 1 (.t 77)),gI 79 (.callm (.f 93) [(.t 76),(.t 78)] ⟨[1000000],[1000001,1000002],[1000000],[1000001,1000002],[1000001,1000002]⟩),gI 80 (.bin .mul (.t 75) (.t 79)),gI 81 (.bin .add (.t 66) (.t 80)),gM 10 81] (kP [0,1,7,10,55,56,57,1000000] [1000000] [1000001,1000002])))))
 (.reg false [gI 82 (.bin .add (.t 57) (oI 1)),gM 57 82] (kP [0,1,7,10,55,56,57,1000000] [1000000] [1000001,1000002]))))))))
 (.seq (.reg false [gM 83 0,gI 84 (.nilchk (.t 83)),gI 85 (.fadr 3 (.t 84)),gI 86 (.load false 1 (.t 85)),gM 87 1,gM 88 10,gN (.mup 0 (.t 86) (.t 87) (.t 88))] (kP [10,1000000] [1000000] [1000001,1000002]))
 (.seq (.reg false [gM 89 10,gM 4 89] (kP [4,1000000] [1000000] [1000001,1000002]))
 .ret)))))))))
theorem fcms_mpart : FsT Tryz.prog 93 Tryz.f93 C_mpart [.t 4] := fcms_mk [aN [0,1,1000000] [1000000] [1000001,1000002],aN [0,1,19,1000000] [1000000] [1000001,1000002],⟨(kP [4,1000000] [1000000] [1000001,1000002]),[],[],[],[(22,⟨[1000000],[1000001,1000002],[1000000],[1000001,1000002],[1000001,1000002]⟩)]⟩,aN [0,1,5,6,1000000] [1000000] [1000001,1000002],aN [0,1,5,32,1000000] [1000000] [1000001,1000002],aN [4,1000000] [1000000] [1000001,1000002],aN [0,1,7,1000000] [1000000] [1000001,1000002],aN [0,1,7,39,40,41,1000000] [1000000] [1000001,1000002],aN [0,1,7,39,40,41,42,1000000] [1000000] [1000001,1000002],aN [0,1,7,9,39,40,41,1000000] [9,1000000] [1000001,1000002],aN [0,1,7,39,40,41,1000000] [1000000] [1000001,1000002],aN [0,1,7,39,40,41,1000000] [1000000] [1000001,1000002],aN [0,1,7,10,1000000] [1000000] [1000001,1000002],aN [0,1,7,10,55,56,57,1000000] [1000000] [1000001,1000002],aN [0,1,7,10,55,56,57,58,1000000] [1000000] [1000001,1000002],aN [0,1,7,10,12,55,56,57,1000000] [12,1000000] [1000001,1000002],⟨(kP [0,1,7,10,12,13,55,56,57,1000000] [12,1000000] [1000001,1000002]),[],[],[],[(63,⟨[1000000],[1000001,1000002],[1000000],[1000001,1000002],[1000001,1000002]⟩)]⟩,⟨(kP [0,1,7,10,55,56,57,1000000] [1000000] [1000001,1000002]),[],[(1,(some 12)),(2,(some 12)),(11,(some 12)),(12,(some 12))],[],[(73,⟨[1000000],[1000001,1000002],[1000000],[1000001,1000002],[1000001,1000002]⟩),(79,⟨[1000000],[1000001,1000002],[1000000],[1000001,1000002],[1000001,1000002]⟩)]⟩,aN [0,1,7,10,55,56,57,1000000] [1000000] [1000001,1000002],aN [10,1000000] [1000000] [1000001,1000002],aN [4,1000000] [1000000] [1000001,1000002]] Tryz.func93 (by kernel_rfl)
theorem term_bd {c s p a : Int} (hc : 0 ≤ c) (hs : 1 ≤ s) (hp : 0 ≤ p ∧ p ≤ s) (ha : 1 ≤ a) : (0 ≤ c.tdiv s ∧ c.tdiv s ≤ c) ∧ (0 ≤ a * c.tdiv s ∧ a * c.tdiv s ≤ a * c) ∧ 0 ≤ a * c.tdiv s * p ∧ a * c.tdiv s * p ≤ a * c := by
 have h1 := Int.tdiv_nonneg hc (show 0 ≤ s by omega)
 have h2 := Int.tdiv_le_self s hc
 have h3 : c.tdiv s * s ≤ c := by
  rw [Int.tdiv_eq_ediv_of_nonneg hc]; exact Int.ediv_mul_le _ (by omega)
 have h4 : c.tdiv s * p ≤ c := Int.le_trans (Int.mul_le_mul_of_nonneg_left hp.2 h1) h3
 have h5 := Int.mul_nonneg h1 hp.1
 refine ⟨⟨h1, h2⟩, ⟨Int.mul_nonneg (by omega) h1, Int.mul_le_mul_of_nonneg_left h2 (by omega)⟩, ?_, ?_⟩
 ·rw [Int.mul_assoc]; exact Int.mul_nonneg (by omega) h5
 ·rw [Int.mul_assoc]; exact Int.mul_le_mul_of_nonneg_left h4 (by omega)
theorem ptFold_bd {c : Int} {k p : ByteArray → Int} (hc : 0 ≤ c) : ∀ (ins : List Trf) (o : Int), (∀ x ∈ ins, 1 ≤ x.amt ∧ x.amt ≤ 1000000) → (∀ x ∈ ins, 1 ≤ k x.frm ∧ 0 ≤ p x.frm ∧ p x.frm ≤ k x.frm) →
  o ≤ ins.foldl (ptStep c k p) o ∧ ins.foldl (ptStep c k p) o ≤ o + amtS ins * c
 | [], o, _, _ => by simp [amtS]
 | x :: r, o, h1, h2 => by
  have h3 := h1 x (by simp)
  have h4 := h2 x (by simp)
  have h5 := term_bd hc h4.1 h4.2 h3.1
  have h6 := ptFold_bd hc r (ptStep c k p o x) (fun y hy => h1 y (by simp [hy])) (fun y hy => h2 y (by simp [hy]))
  rw [List.foldl_cons, amtS_cons, Int.add_mul]
  have e : ptStep c k p o x = o + x.amt * c.tdiv (k x.frm) * p x.frm := rfl
  rw [e] at h6 ⊢
  omega
theorem PT_bd {l : List Trf} (hf : Flo l) (src : ByteArray) : ∀ (n : Nat) (b : ByteArray), rk l b < n → 0 < SC l b → 0 ≤ PT l src b ∧ PT l src b ≤ SC l b
 | 0, _, h, _ => by omega
 | n + 1, b, h, hp => by
  rw [PT_eq hf]
  split
  ·omega
  ·by_cases hne : inT l b = []
   ·rw [hne]; simp [ptOf]; omega
   ·obtain ⟨h1, h2, h3, h4⟩ := SC_in hf hp hne
    have := ptFold_bd (k := SC l) (p := PT l src) h2 (inT l b) 0 (fun x hx => hf.amt x (inT_mem.1 hx).1) fun x hx => by
     have h5 := h4 x hx
     have := PT_bd hf src n x.frm (by have := rk_lt hf hx; omega) h5
     omega
    unfold ptOf
    omega
def memP (l : List Trf) (src : ByteArray) (pt : List (ByteArray × Int)) : Prop := ∀ k v, sget k pt = some v → v = PT l src k
theorem memP.put {l : List Trf} {src : ByteArray} {pt : List (ByteArray × Int)} (h : memP l src pt) (b : ByteArray) : memP l src (sput b (PT l src b) pt) := fun k v hk => by
 rw [sget_put] at hk
 split at hk
 ·rename_i e; injection hk with hk; rw [← hk, e]
 ·exact h k v hk
def pt1St (l : List Trf) (src b : ByteArray) (sc pt : List (ByteArray × Int)) (ins : List Trf) (i all : Int) : AS :=
 ⟨tabV [(0, .one (.bx 1000000 0)), (1, sv b), (7, iv all), (39, trs false ins), (40, iv ins.length), (41, iv i), (1000000, .any)], tabO [(1000000, mxBox l src)], tabO [(1000001, mpRow sc), (1000002, mpRow pt)]⟩
def pt2St (l : List Trf) (src b : ByteArray) (ins : List Trf) (all : Int) (i out : Int) (sc pt : List (ByteArray × Int)) : AS :=
 ⟨tabV [(0, .one (.bx 1000000 0)), (1, sv b), (7, iv all), (10, iv out), (55, trs false ins), (56, iv ins.length), (57, iv i), (1000000, .any)], tabO [(1000000, mxBox l src)], tabO [(1000001, mpRow sc), (1000002, mpRow pt)]⟩
theorem amtS_drop (ins : List Trf) (i : Int) (h : 0 ≤ i) (hi : i < ins.length) : amtS (ins.drop i.toNat) = (ins.getD i.toNat default).amt + amtS (ins.drop (i + 1).toNat) := by
 rw [drop_cons ins i.toNat (by omega), amtS_cons, show (i + 1).toNat = i.toNat + 1 by omega]
theorem part_fcm {l : List Trf} (hf : Flo l) (src : ByteArray) : ∀ (n : Nat) (b : ByteArray) (sc pt : List (ByteArray × Int)), rk l b < n → 0 < SC l b → memS l sc → memP l src pt →
  FCMS Tryz.prog 93 [1000001, 1000002] (mxH l src sc pt) [.one (.bx 1000000 0), sv b] (fun H r => ∃ sc' pt', memS l sc' ∧ memP l src pt' ∧ H = mxH l src sc' pt' ∧ r = iv (PT l src b)) := by
 intro n
 induction n with
 | zero => intro b sc pt h; omega
 | succ n ih =>
  intro b sc pt hn hp hm hq
  refine fcms_mpart (K := ⟨[], [1000000], [1000001, 1000002]⟩) (by simp +arith) (by simp [XK]) (by simp [XK]) ?_
  unfold C_mpart
  have hPT := PT_eq hf src b
  by_cases hb : b = src
  ·rw [if_pos hb] at hPT
   simp (maxSteps := 1000000) (disch := omega) only [go_sem]
   refine ⟨rfl, CALLM_R (scale_fcm hf src pt _ b sc (Nat.lt_succ_self _) hm) ⟨_, _, sc, hm, rfl, rfl⟩ ?_⟩
   rintro _ _ ⟨sc2, hm2, rfl, rfl⟩
   refine ⟨.inl ⟨rfl, rfl⟩, ?_⟩
   simp (maxSteps := 1000000) (disch := omega) only [go_sem]
   exact ⟨sc2, pt, hm2, hq, rfl, by rw [hPT]⟩
  rw [if_neg hb] at hPT
  simp (maxSteps := 1000000) (disch := omega) only [go_sem]
  refine ⟨fun h => ?_, fun _ => ?_⟩
  ·obtain ⟨v, hs⟩ := Option.isSome_iff_exists.1 h
   have := hq b v hs
   subst this
   exact ⟨sc, pt, hm, hq, rfl, by rw [hs]; rfl⟩
  have hil : (inT l b).length ≤ 500 := Nat.le_trans (List.length_filter_le _ _) hf.len
  have hia : ∀ x ∈ inT l b, 1 ≤ x.amt ∧ x.amt ≤ 1000000 := fun x hx => hf.amt x (inT_mem.1 hx).1
  have hir : ∀ x ∈ inT l b, rk l x.frm < n := fun x hx => by have := rk_lt hf hx; omega
  have hin := fun hne => SC_in hf hp (b := b) hne
  have hbd := SC_bd hf _ b (Nat.lt_succ_self _)
  have hsb := SC_bd hf
  unfold ptOf at hPT
  generalize hins : inT l b = ins at *
  have hnn := amtS_nn hia
  refine ex_loop2 (pt1St l src b sc pt ins) (fun i all => 0 ≤ i ∧ i ≤ ins.length ∧ 0 ≤ all ∧ all + amtS (ins.drop i.toNat) = amtS ins) (fun i _ => (ins.length - i).toNat) 0 0 ⟨by omega, by omega, by omega, by simp⟩ rfl ?_
  rintro i all ⟨g1, g2, g3, g4⟩
  unfold pt1St
  by_cases hi : i < ins.length
  ·have e2 : (i + 1).toNat = i.toNat + 1 := by omega
   have em := getD_map_at trC ins i [] g1 hi
   have hmem := getD_mem ins i.toNat (by omega)
   have hx := hia _ hmem
   have hd := amtS_drop ins i g1 hi
   have hd2 := (amtS_nn (ins := ins.drop (i + 1).toNat) fun x hx => hia x (List.mem_of_mem_drop hx)).1
   simp (maxSteps := 1000000) (disch := omega) only [go_sem]
   exact ⟨i + 1, _, rfl, ⟨by omega, by omega, by omega, by omega⟩, by omega⟩
  ·rw [List.drop_eq_nil_of_le (by omega)] at g4
   have hall : all = amtS ins := by simpa [amtS] using g4
   subst hall
   simp (maxSteps := 1000000) (disch := omega) only [go_sem]
   simp only [hins]
   refine ex_loop4 (pt2St l src b ins (amtS ins)) (fun i out sc pt => 0 ≤ i ∧ i ≤ ins.length ∧ 0 ≤ out ∧ out + amtS (ins.drop i.toNat) * (SC l b).tdiv (amtS ins) ≤ SC l b ∧ memS l sc ∧ memP l src pt ∧ (ins.drop i.toNat).foldl (ptStep ((SC l b).tdiv (amtS ins)) (SC l) (PT l src)) out = PT l src b) (fun i _ _ _ => (ins.length - i).toNat) 0 0 sc pt ⟨by omega, by omega, by omega, ?_, hm, hq, hPT.symm⟩ rfl ?_
   ·by_cases hne : ins = []
    ·rw [hne]; simp [amtS]; omega
    ·have := (hin hne).2.2.1
     simp; omega
   clear hm hq
   rintro i out sc pt ⟨g1, g2, g3, g4, hm, hq, g7⟩
   unfold pt2St
   by_cases hi : i < ins.length
   ·obtain ⟨k1, k2, k3, k4⟩ := hin (fun e => by rw [e] at hi; simp at hi; omega)
    have e2 : (i + 1).toNat = i.toNat + 1 := by omega
    have em := getD_map_at trC ins i [] g1 hi
    have hmem := getD_mem ins i.toNat (by omega)
    have hx := hia _ hmem
    have hr := hir _ hmem
    have hk := k4 _ hmem
    have hks := hsb _ (ins.getD i.toNat default).frm (Nat.lt_succ_self _)
    have hpt := PT_bd hf src _ (ins.getD i.toNat default).frm (Nat.lt_succ_self _) hk
    have htb := term_bd k2 hk hpt hx.1
    have hd := amtS_drop ins i g1 hi
    have hd2 := (amtS_nn (ins := ins.drop (i + 1).toNat) fun x hx => hia x (List.mem_of_mem_drop hx)).1
    rw [hd, Int.add_mul] at g4
    have hd3 := Int.mul_nonneg hd2 k2
    rw [drop_cons ins i.toNat (by omega), List.foldl_cons, ← e2] at g7
    have hcb := Int.tdiv_le_self (amtS ins) hbd.1
    have hamc : (ins.getD i.toNat default).amt * (SC l b).tdiv (amtS ins) ≤ 1000000 * 1000000000000 := Int.mul_le_mul (by omega) (by omega) k2 (by omega)
    simp (maxSteps := 1000000) (disch := omega) only [go_sem]
    refine ⟨rfl, CALLM_R (scale_fcm hf src pt _ b sc (Nat.lt_succ_self _) hm) ⟨_, _, sc, hm, rfl, rfl⟩ ?_⟩
    rintro _ _ ⟨sc2, hm2, rfl, rfl⟩
    refine ⟨.inl ⟨rfl, rfl⟩, ?_⟩
    simp (maxSteps := 1000000) (disch := omega) only [go_sem]
    refine ⟨rfl, CALLM_R (scale_fcm hf src pt _ _ sc2 (Nat.lt_succ_self _) hm2) ⟨_, _, sc2, hm2, rfl, rfl⟩ ?_⟩
    rintro _ _ ⟨sc3, hm3, rfl, rfl⟩
    refine ⟨.inl ⟨rfl, rfl⟩, ?_⟩
    simp (maxSteps := 1000000) (disch := omega) only [go_sem]
    refine ⟨rfl, CALLM_R (ih _ sc3 pt hr hk hm3 hq) ⟨_, _, sc3, pt, hm3, hq, rfl, rfl⟩ ?_⟩
    rintro _ _ ⟨sc4, pt4, hm4, hq4, rfl, rfl⟩
    refine ⟨.inl ⟨rfl, rfl⟩, ?_⟩
    simp (maxSteps := 1000000) (disch := omega) only [go_sem]
    exact ⟨i + 1, _, sc4, pt4, rfl, ⟨by omega, by omega, by omega, by omega, hm4, hq4, g7⟩, by omega⟩
   ·rw [List.drop_eq_nil_of_le (by omega), List.foldl_nil] at g7
    subst g7
    simp (maxSteps := 1000000) (disch := omega) only [go_sem]
    exact ⟨_, _, hm, hq.put b, rfl⟩
end Go.Proofs.YtodmofhehabmgaaGreatDoor
/-
 The mixer made, and the share that it tells.
-/
namespace Go.Proofs.YtodmofhehabmgaaGreatDoor
open Go Go.Ai
set_option linter.unusedSimpArgs false
set_option linter.unusedVariables false
set_option maxHeartbeats 4000000
def C_newMix : AC := (.seq (.reg false [gI 4 (.mv (.v (.pointer none)))] (kP [0,1] [11] [8,9]))
 (.seq (.reg false [gM 5 0,gI 6 (.call (.f 43) [(.t 5)]),gM 7 1,gI 8 (.mkm 0),gI 9 (.mkm 0),gI 10 (.build [(.map none),(.string (ByteArray.mk #[])),(.map none),(.map none)] [(0,1,(.t 6)),(1,1,(.t 7)),(2,1,(.t 8)),(3,1,(.t 9))]),gI 11 (.box (.t 10)),gM 4 11] (kP [4,11] [11] [8,9]))
 .ret))
theorem fcm_newMix : FmT Tryz.prog 48 Tryz.f48 C_newMix [.t 4] := fcm_mk [aN [0,1] [11] [8,9],aN [4,11] [11] [8,9]] Tryz.func48 (by kernel_rfl)
def C_mshare : AC := (.seq (.reg false [gI 4 (.alloc [(.int .i64 (0)),(.int .i64 (0))]),gI 5 (.mv (.v (.bool false)))] (kP [0,1,4,1000000] [4,1000000] [1000001,1000002]))
 (.seq (.reg false [gM 7 0,gM 8 1,gI 9 (.callm (.f 91) [(.t 7),(.t 8)] ⟨[1000000],[1000001,1000002],[1000000],[1000001,1000002],[1000001,1000002]⟩),gM 6 9] (kP [0,1,4,6,1000000] [4,1000000] [1000001,1000002]))
 (.seq (.seq (.reg false [gM 10 6,gI 11 (.bin .eql (.t 10) (oI 0))] (kP [0,1,4,6,11,1000000] [4,1000000] [1000001,1000002]))
 (.cond (.t 11)
 (.seq (.reg false [gI 12 (.build [(.int .i64 (0)),(.int .i64 (0))] []),gN (.store 2 (.t 4) (.t 12)),gI 5 (.mv (.v (.bool false)))] (kP [4,5] [4,1000000] [1000001,1000002]))
 .ret)
 .skip))
 (.seq (.reg false [gM 13 0,gM 14 1,gI 15 (.callm (.f 93) [(.t 13),(.t 14)] ⟨[1000000],[1000001,1000002],[1000000],[1000001,1000002],[1000001,1000002]⟩),gM 16 6,gI 17 (.call (.f 92) [(.t 15),(.t 16)]),gN (.store 2 (.t 4) (.t 17)),gI 5 (.mv (.v (.bool true)))] (kP [4,5] [4,1000000] [1000001,1000002]))
 .ret))))
theorem fcms_mshare : FsT Tryz.prog 49 Tryz.f49 C_mshare [.cell 4 true 2, .t 5] := fcms_mk [aN [0,1,4,1000000] [4,1000000] [1000001,1000002],⟨(kP [0,1,4,6,1000000] [4,1000000] [1000001,1000002]),[],[],[],[(9,⟨[1000000],[1000001,1000002],[1000000],[1000001,1000002],[1000001,1000002]⟩)]⟩,aN [0,1,4,6,11,1000000] [4,1000000] [1000001,1000002],aN [4,5] [4,1000000] [1000001,1000002],⟨(kP [4,5] [4,1000000] [1000001,1000002]),[],[],[],[(15,⟨[1000000],[1000001,1000002],[1000000],[1000001,1000002],[1000001,1000002]⟩)]⟩] Tryz.func49 (by kernel_rfl)
theorem newMix_fcm (l : List Trf) (hl : l.length ≤ 1000000) (src : ByteArray) : FCM Tryz.prog 48 ⟨[], []⟩ [trs false l, sv src] (fun H r => H = ⟨[(11, [.fm 0 (fmG (grpAll l)), .g (.string src), .mp 8, .mp 9])], [(8, mpRow []), (9, mpRow [])]⟩ ∧ r = .one (.bx 11 0)) := by
 refine fcm_newMix (K := ⟨[], [11], [8, 9]⟩) (by simp +arith) (by simp) (by simp) ?_
 unfold C_newMix
 simp (maxSteps := 1000000) (disch := omega) only [go_sem]
 refine CALL_det (into_fc false l hl) (.inr ⟨rfl, rfl⟩) ?_
 simp (maxSteps := 1000000) (disch := omega) only [go_sem]
 rfl
/-- A share, in lowest terms; 0/0 where the scale is too great. -/
def shN (l : List Trf) (src b : ByteArray) : Int := if SC l b = 0 then 0 else lowN (PT l src b) (SC l b)
def shD (l : List Trf) (src b : ByteArray) : Int := if SC l b = 0 then 0 else lowD (PT l src b) (SC l b)
theorem share_fcm {l : List Trf} (hf : Flo l) (src b : ByteArray) (sc pt : List (ByteArray × Int)) (hm : memS l sc) (hq : memP l src pt) :
  FCMS Tryz.prog 49 [1000001, 1000002] (mxH l src sc pt) [.one (.bx 1000000 0), sv b] (fun H r => ∃ sc' pt', memS l sc' ∧ memP l src pt' ∧ H = mxH l src sc' pt' ∧ r = .tu [.ag [.g (.int .i64 (shN l src b)), .g (.int .i64 (shD l src b))], bv (decide (SC l b ≠ 0))]) := by
 refine fcms_mshare (K := ⟨[], [1000000], [1000001, 1000002]⟩) (by simp +arith) (by simp [XK]) (by simp [XK]) ?_
 unfold C_mshare
 have hbd := SC_bd hf _ b (Nat.lt_succ_self _)
 simp (maxSteps := 1000000) (disch := omega) only [go_sem]
 refine ⟨rfl, CALLM_R (scale_fcm hf src pt _ b sc (Nat.lt_succ_self _) hm) ⟨_, _, sc, hm, rfl, rfl⟩ ?_⟩
 rintro _ _ ⟨sc2, hm2, rfl, rfl⟩
 refine ⟨.inl ⟨rfl, rfl⟩, ?_⟩
 unfold shN shD
 by_cases h0 : SC l b = 0
 ·rw [if_pos h0, if_pos h0, decide_eq_false (by simpa using h0)]
  simp (maxSteps := 1000000) (disch := omega) only [go_sem]
  exact ⟨sc2, pt, hm2, hq, rfl⟩
 ·rw [if_neg h0, if_neg h0, decide_eq_true (by simpa using h0)]
  have hp : 0 < SC l b := by omega
  have hpt := PT_bd hf src _ b (Nat.lt_succ_self _) hp
  simp (maxSteps := 1000000) (disch := omega) only [go_sem]
  refine ⟨rfl, CALLM_R (part_fcm hf src _ b sc2 pt (Nat.lt_succ_self _) hp hm2 hq) ⟨_, _, sc2, pt, hm2, hq, rfl, rfl⟩ ?_⟩
  rintro _ _ ⟨sc3, pt3, hm3, hq3, rfl, rfl⟩
  refine ⟨.inl ⟨rfl, rfl⟩, ?_⟩
  simp (maxSteps := 1000000) (disch := omega) only [go_sem]
  refine CALL_det (fraction_fc _ _ (by omega) (by omega) (by omega)) (.inl rfl) ?_
  simp (maxSteps := 1000000) (disch := omega) only [go_sem]
  exact ⟨sc3, pt3, hm3, hq3, rfl⟩
end Go.Proofs.YtodmofhehabmgaaGreatDoor
