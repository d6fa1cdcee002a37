/-
 Acts that streams draw: one list from one stream.
-/
import Derived.Test.YtfgkpbkphmeigaaGreatDoorAgl
import Derived.Test.YtfgkpbkphmeigaaGreatDoorAc2
import Derived.Test.YtfgkpbkphmeigaaGreatDoorOpv
namespace Go.Proofs.YtfgkpbkphmeigaaGreatDoor
open Go Go.Ai
set_option linter.unusedSimpArgs false
set_option linter.unusedVariables false
set_option maxHeartbeats 4000000
def C_actList : AC := (.seq (.reg false [gI 2 (.mv (.v (.slice none 0 0)))] (kP [0] [0] []))
 (.seq (.seq (.reg false [gI 3 (.mv (.v (.slice none 0 0)))] (kP [0,3] [0] []))
 (.own 3 34 6))
 (.seq (.seq (.reg false [gI 10 (.bslice 1 2 [(.v (.string (ByteArray.mk #[97,109,121]))),(.v (.string (ByteArray.mk #[98,111,98])))]),gI 11 (.len (.t 10)),gI 12 (.mv (oI 0))] (kP [0,3,10,11,12] [0] [3]))
 (.block 0 (.loop (.seq (.reg false [gI 13 (.bin .lss (.t 12) (.t 11))] (kP [0,3,10,11,12,13] [0] [3]))
 (.seq (.cond (.t 13)
 .skip
 (.exit 0))
 (.seq (.block 1 (.seq (.reg false [gI 14 (.iadr 1 (.t 10) (.t 12)),gI 15 (.load false 1 (.t 14)),gM 5 15] (kP [0,3,5,10,11,12] [0] [3]))
 (.seq (.reg false [gM 16 0,gI 17 (.bslice 1 2 [(oI 0),(oI 10)]),gI 18 (.callx (.f 55) [(.t 16),(.t 17)]),gI 6 (.mv (oI 0)),gM 7 18] (kP [0,3,5,6,7,10,11,12] [0] [3]))
 (.seq (.reg false [gM 19 0,gI 20 (.callx (.f 70) [(.t 19),(oI 0),(oI 4)]),gI 21 (.mv (oI 0))] (kP [0,3,5,6,7,10,11,12,20,21] [0] [3]))
 (.block 2 (.loop (.seq (.reg false [gI 22 (.bin .lss (.t 21) (.t 20))] (kP [0,3,5,6,7,10,11,12,20,21,22] [0] [3]))
 (.seq (.cond (.t 22)
 .skip
 (.exit 2))
 (.seq (.block 3 (.seq (.reg false [gM 23 6,gM 24 0,gI 25 (.bslice 1 3 [(oI 1),(oI 1),(oI 2)]),gI 26 (.callx (.f 55) [(.t 24),(.t 25)]),gI 27 (.bin .add (.t 23) (.t 26)),gM 6 27] (kP [0,3,5,6,7,10,11,12,20,21] [0] [3]))
 (.seq (.reg false [gM 28 5,gM 29 6,gM 30 7,gM 31 0,gI 32 (.bslice 1 5 [(oI 1),(oI 1),(oI 1),(oI 2),(oI 3)]),gI 33 (.callx (.f 55) [(.t 31),(.t 32)]),gM 34 0,gI 35 (.bslice 1 5 [(.v (.string (ByteArray.mk #[97,49]))),(.v (.string (ByteArray.mk #[97,49]))),(.v (.string (ByteArray.mk #[97,50]))),(.v (.string (ByteArray.mk #[97,51]))),(.v (.string (ByteArray.mk #[122,122])))]),gI 36 (.callx (.f 30) [(.t 34),(.t 35)]),gI 37 (.build [(.string (ByteArray.mk #[])),(.int .i64 (0)),(.int .i64 (0)),(.int .i64 (0)),(.string (ByteArray.mk #[])),(.int .i64 (0))] [(0,1,(.t 28)),(1,1,(.t 29)),(2,1,(.t 30)),(3,1,(.t 33)),(4,1,(.t 36))]),gI 8 (.alloc [(.string (ByteArray.mk #[])),(.int .i64 (0)),(.int .i64 (0)),(.int .i64 (0)),(.string (ByteArray.mk #[])),(.int .i64 (0))]),gN (.store 6 (.t 8) (.t 37))] (kP [0,3,5,6,7,8,10,11,12,20,21] [0,8] [3]))
 (.seq (.seq (.reg false [gI 38 (.fadr 3 (.t 8)),gI 39 (.load false 1 (.t 38)),gI 40 (.bin .eql (.t 39) (oI 2))] (kP [0,3,5,6,7,8,10,11,12,20,21,40] [0,8] [3]))
 (.cond (.t 40)
 (.reg false [gM 41 7,gM 42 0,gI 43 (.bslice 1 3 [(oI 1),(oI 10),(oI 40)]),gI 44 (.callx (.f 55) [(.t 42),(.t 43)]),gI 45 (.bin .add (.t 41) (.t 44)),gI 46 (.fadr 5 (.t 8)),gN (.store 1 (.t 46) (.t 45))] (kP [0,3,5,6,7,8,10,11,12,20,21] [0,8] [3]))
 .skip))
 (.seq (.reg false [gM 47 3,gI 48 (.load true 6 (.t 8)),gI 49 (.bslice 6 1 [(.t 48)]),gI 50 (.append 34 6 64 (.t 47) (.t 49)),gM 3 50] (kP [0,3,5,6,7,10,11,12,20,21] [0] [3]))
 (.reg false [gM 51 7,gM 52 0,gI 53 (.bslice 1 4 [(oI 0),(oI 1),(oI 10),(oI 30)]),gI 54 (.callx (.f 55) [(.t 52),(.t 53)]),gI 55 (.bin .add (.t 51) (.t 54)),gM 7 55] (kP [0,3,5,6,7,10,11,12,20,21] [0] [3])))))))
 (.reg false [gI 56 (.bin .add (.t 21) (oI 1)),gM 21 56] (kP [0,3,5,6,7,10,11,12,20,21] [0] [3])))))))))))
 (.reg false [gI 57 (.bin .add (.t 12) (oI 1)),gM 12 57] (kP [0,3,10,11,12] [0] [3]))))))))
 (.seq (.seq (.reg false [gM 58 3,gI 59 (.len (.t 58)),gI 60 (.bin .gtr (.t 59) (oI 0)),gM 61 60,gG 62 61 true (.mv (.t 0)),gG 63 61 true (.callx (.f 10) [(.t 62),(oI 12)]),gI 64 (.pick (.t 61) (.t 63) (.v (.bool false)))] (kP [0,3,64] [0] [3]))
 (.cond (.t 64)
 (.seq (.reg false [gM 65 3,gM 66 0,gM 67 3,gI 68 (.len (.t 67)),gI 69 (.callx (.f 71) [(.t 66),(.t 68)]),gI 70 (.iadr 6 (.t 65) (.t 69)),gM 9 70] (kP [0,3,9] [0] [3]))
 (.seq (.reg false [gM 71 0,gI 72 (.callx (.f 71) [(.t 71),(oI 3)])] (kP [0,3,9,72] [0] [3]))
 (.block 4 (.seq (.reg false [gI 77 (.bin .eql (.t 72) (oI 0)),gM 76 77] (kP [0,3,9,72,76] [0] [3]))
 (.cond (.t 76)
 (.reg true [gM 78 9,gM 79 9,gM 80 9,gM 81 0,gM 82 9,gI 83 (.nilchk (.t 82)),gI 84 (.fadr 0 (.t 83)),gI 85 (.load false 1 (.t 84)),gI 86 (.bslice 1 2 [(.t 85),(.v (.string (ByteArray.mk #[])))]),gN (.chk (.t 81) (some 0)),gI 87 (.callx (.f 30) [(.t 81),(.t 86)]),gM 88 0,gM 89 9,gN (.chk (.t 89) (some 999999999)),gI 90 (.nilchk (.t 89)),gN (.chk (.t 90) (some 999999999)),gI 91 (.fadr 1 (.t 90)),gN (.chk (.t 91) (some 999999999)),gI 92 (.load false 1 (.t 91)),gI 93 (.bslice 1 3 [(.t 92),(oI 0),(oI 1)]),gN (.chk (.t 88) (some 0)),gI 94 (.callx (.f 55) [(.t 88),(.t 93)]),gM 95 0,gM 96 9,gN (.chk (.t 96) (some 999999999)),gI 97 (.nilchk (.t 96)),gN (.chk (.t 97) (some 999999999)),gI 98 (.fadr 2 (.t 97)),gN (.chk (.t 98) (some 999999999)),gI 99 (.load false 1 (.t 98)),gI 100 (.bslice 1 3 [(.t 99),(oI (-1)),(oI 3)]),gI 101 (.callx (.f 55) [(.t 95),(.t 100)]),gI 102 (.nilchk (.t 78)),gI 103 (.fadr 0 (.t 102)),gN (.store 1 (.t 103) (.t 87)),gI 104 (.nilchk (.t 79)),gI 105 (.fadr 1 (.t 104)),gN (.store 1 (.t 105) (.t 94)),gI 106 (.nilchk (.t 80)),gI 107 (.fadr 2 (.t 106)),gN (.store 1 (.t 107) (.t 101))] (kP [3] [0] []))
 (.seq (.reg false [gI 109 (.bin .eql (.t 72) (oI 1)),gM 108 109] (kP [0,3,9,108] [0] [3]))
 (.cond (.t 108)
 (.reg true [gM 110 9,gM 111 9,gM 112 0,gN (.chk (.t 112) (some 0)),gI 113 (.callx (.f 72) [(.t 112),(oI 1),(oI 3)]),gM 114 0,gM 115 9,gN (.chk (.t 115) (some 999999999)),gI 116 (.nilchk (.t 115)),gN (.chk (.t 116) (some 999999999)),gI 117 (.fadr 5 (.t 116)),gN (.chk (.t 117) (some 999999999)),gI 118 (.load false 1 (.t 117)),gI 119 (.bslice 1 3 [(.t 118),(oI 0),(oI 1)]),gI 120 (.callx (.f 55) [(.t 114),(.t 119)]),gI 121 (.nilchk (.t 110)),gI 122 (.fadr 3 (.t 121)),gN (.store 1 (.t 122) (.t 113)),gI 123 (.nilchk (.t 111)),gI 124 (.fadr 5 (.t 123)),gN (.store 1 (.t 124) (.t 120))] (kP [3] [0] []))
 (.reg false [gM 73 9,gI 74 (.nilchk (.t 73)),gI 75 (.fadr 4 (.t 74)),gN (.store 1 (.t 75) (.v (.string (ByteArray.mk #[]))))] (kP [3] [0] [])))))))))
 .skip))
 (.seq (.reg false [gM 125 3,gM 2 125] (kP [2] [0] []))
 .ret)))))
theorem fc_actList : FcT Tryz.prog 8 Tryz.f8 C_actList [.t 2] := fc_mk [aN [0] [0] [],⟨(kP [0,3] [0] []),[(3,34,6)],[],[],[]⟩,aN [0,3,10,11,12] [0] [3],aN [0,3,10,11,12,13] [0] [3],aN [0,3,5,10,11,12] [0] [3],aN [0,3,5,6,7,10,11,12] [0] [3],aN [0,3,5,6,7,10,11,12,20,21] [0] [3],aN [0,3,5,6,7,10,11,12,20,21,22] [0] [3],aN [0,3,5,6,7,10,11,12,20,21] [0] [3],aN [0,3,5,6,7,8,10,11,12,20,21] [0,8] [3],aN [0,3,5,6,7,8,10,11,12,20,21,40] [0,8] [3],aN [0,3,5,6,7,8,10,11,12,20,21] [0,8] [3],aN [0,3,5,6,7,10,11,12,20,21] [0] [3],aN [0,3,5,6,7,10,11,12,20,21] [0] [3],aN [0,3,5,6,7,10,11,12,20,21] [0] [3],aN [0,3,10,11,12] [0] [3],aN [0,3,64] [0] [3],aN [0,3,9] [0] [3],aN [0,3,9,72] [0] [3],aN [0,3,9,72,76] [0] [3],⟨(kP [3] [0] []),[],[(9,(some 0)),(12,(some 999999999)),(13,(some 999999999)),(14,(some 999999999)),(16,(some 0)),(19,(some 999999999)),(20,(some 999999999)),(21,(some 999999999))],[],[]⟩,aN [0,3,9,108] [0] [3],⟨(kP [3] [0] []),[],[(3,(some 0)),(6,(some 999999999)),(7,(some 999999999)),(8,(some 999999999))],[],[]⟩,aN [3] [0] [],aN [2] [0] []] Tryz.func8 (by kernel_rfl)
section
variable {P : Program} {s : AS} {Y : Type}
/-- A loop that ends with one result, within another one. -/
theorem loopDk {X : Type} (st : X → AS) (I : X → Prop) (μ : X → Nat) {a : AC} {k : Y → List KI} {Q : Y → AX → AS → Prop} {B : Y → Prop} (x0 : X) (h0 : I x0) (hs : s = st x0)
  (round : ∀ (G : X → Y → Prop) (x : X), I x → (∀ x', I x' → μ x' < μ x → ∃ y, B y ∧ G x' y) → ∃ y, B y ∧ ex P a (.lp (fun s' => ∃ x', s' = st x' ∧ μ x' < μ x ∧ G x' y) :: k y) (Q y) (st x)) :
  ∃ y, B y ∧ ex P (.loop a) (k y) (Q y) s := by
 have key : ∀ n x, μ x = n → I x → ∃ y, B y ∧ rnd P a (k y) (Q y) (μ x + 1) (st x) := by
  intro n
  induction n using Nat.strongRecOn with
  | _ n ih =>
   intro x hx hI
   obtain ⟨y, hB, h⟩ := round (fun x' y => rnd P a (k y) (Q y) (μ x' + 1) (st x')) x hI (fun x' h1 h2 => ih (μ x') (by omega) x' rfl h1)
   refine ⟨y, hB, awp_mono a _ _ (fun e s h => ?_) _ h⟩
   cases e with
   | nrm =>
    obtain ⟨x', rfl, h1, h2⟩ := h
    exact rnd_le (by omega) h2
   | ret => exact h
   | ex id => exact h
 subst hs
 obtain ⟨y, hB, h⟩ := key _ x0 rfl h0
 exact ⟨y, hB, ex_rnd _ h⟩
end
abbrev oprRow (l : List Opr) : Row := ⟨0, 34, 6, l.map oprS⟩
theorem frE_opr (l : List Opr) : frE (l.map oprS) = true := by
 unfold frE
 rw [List.all_eq_true]
 intro e he
 obtain ⟨x, _, rfl⟩ := List.mem_map.1 he
 rfl
attribute [go_sem] frE_opr
def bysA : List ByteArray := [ByteArray.mk #[97, 109, 121], ByteArray.mk #[98, 111, 98]]
def alsA : List ByteArray := [keyB1, keyB1, keyB2, keyB3, ByteArray.mk #[122, 122]]
theorem by2 : ([[Cel.g (.string (ByteArray.mk #[97, 109, 121]))], [.g (.string (ByteArray.mk #[98, 111, 98]))]] : List (List Cel)) = bysA.map strC := (rfl)
structure AcX where
 i : Int
 q : Int
 l : List Opr
def acSt (L : List Int) (x : AcX) : AS := ⟨tabV [(0, .one (.bx 0 0)), (3, .one (.ow 3 0)), (10, .one (.sl true 1 (bysA.map strC))), (11, iv 2), (12, iv x.i)], tabO [(0, strm L x.q)], tabO [(3, oprRow x.l)]⟩
structure AdX where
 j : Int
 q : Int
 no : Int
 at_ : Int
 l : List Opr
def adSt (L : List Int) (b : ByteArray) (i n : Int) (x : AdX) : AS := ⟨tabV [(0, .one (.bx 0 0)), (3, .one (.ow 3 0)), (5, sv b), (6, iv x.no), (7, iv x.at_), (10, .one (.sl true 1 (bysA.map strC))), (11, iv 2), (12, iv i), (20, iv n), (21, iv x.j)], tabO [(0, strm L x.q)], tabO [(3, oprRow x.l)]⟩
theorem opr_app {l : List Opr} {x : Opr} (h : ∀ y ∈ l, y.sm) (hx : x.sm) : ∀ y ∈ l ++ [x], y.sm := fun y hy => by
 rcases List.mem_append.1 hy with hy | hy
 ·exact h y hy
 ·simp at hy; subst hy; exact hx
theorem opr_set {l : List Opr} {x : Opr} {k : Nat} (h : ∀ y ∈ l, y.sm) (hx : x.sm) : ∀ y ∈ l.set k x, y.sm := fun y hy => by
 rcases List.mem_or_eq_of_mem_set hy with hy | rfl
 ·exact h y hy
 ·exact hx
theorem bys_sm (i : Int) (h0 : 0 ≤ i) (h : i < 2) : (bysA.getD i.toNat default).size ≤ 1000 := sms bysA (by kernel_rfl) _ (getD_memB _ _ (by have : bysA.length = 2 := rfl; omega))
set_option maxHeartbeats 12000000 in
set_option maxRecDepth 8000 in
theorem actList_det : GenD Tryz.prog 8 [] 100 (fun r => ∃ l : List Opr, l.length ≤ 8 ∧ (∀ x ∈ l, x.sm) ∧ r = oprs true l) := by
 refine genD_of (fun L p R' h => fc_actList (xt := some (strm L p)) (args := []) (R := R') (by simp +arith) h) ?_
 intro L p hL hl h0 hp
 unfold C_actList strm
 simp (maxSteps := 1000000) (disch := omega) only [go_sem]
 rw [by2]
 refine loopD (acSt L) (fun x => 0 ≤ x.i ∧ x.i ≤ 2 ∧ x.l.length ≤ 4 * x.i ∧ p ≤ x.q ∧ x.q ≤ p + 22 * x.i ∧ ∀ y ∈ x.l, y.sm) (fun x => (2 - x.i).toNat) ⟨0, p, []⟩ ⟨by simp, by simp, by simp, by simp, by simp, by simp⟩ rfl ?_
 rintro G ⟨i, q, l⟩ ⟨g1, g2, g3, g4, g5, g6⟩ IH
 simp only at g1 g2 g3 g4 g5 g6
 unfold acSt strm
 by_cases hi : i < 2
 ·have em := getD_str bysA i g1 (by have : bysA.length = 2 := rfl; omega)
  have ksm := bys_sm i g1 hi
  have h2 : bysA.length = 2 := rfl
  simp (maxSteps := 1000000) (disch := omega) only [go_sem]
  simp only [strC_eq]
  simp (maxSteps := 1000000) (disch := omega) only [go_sem]
  obtain ⟨⟨pa, ra⟩, ⟨haa, hba, za, ka, rfl⟩, hfa⟩ := (pick_det false [0, 10] (by simp) (by simp)) L q hL hl (by omega) (by omega)
  simp only at haa hba hfa
  refine exX hfa rfl rfl ?_
  unfold strm
  simp (maxSteps := 1000000) (disch := (first | omega | assumption)) only [go_sem]
  obtain ⟨⟨pb, rb⟩, ⟨hab, hbb, zb, kb, nb, rfl⟩, hfb⟩ := (range_det 0 4 (by omega) (by omega) (by omega)) L pa hL hl (by omega) (by omega)
  simp only at hab hbb hfb
  refine exX hfb rfl rfl ?_
  unfold strm
  simp (maxSteps := 1000000) (disch := (first | omega | assumption)) only [go_sem]
  simp only [List.mem_cons, List.not_mem_nil, or_false] at ka
  generalize hby : bysA.getD i.toNat default = by_ at *
  refine loopDk (adSt L by_ i zb) (fun x => 0 ≤ x.j ∧ x.j ≤ zb ∧ x.l.length ≤ 4 * i + x.j ∧ p ≤ x.q ∧ x.q ≤ p + 22 * i + 2 + 5 * x.j ∧ 0 ≤ x.no ∧ x.no ≤ 2 * x.j ∧ 0 ≤ x.at_ ∧ x.at_ ≤ 10 + 30 * x.j ∧ ∀ y ∈ x.l, y.sm) (fun x => (zb - x.j).toNat) ⟨0, pb, 0, za, l⟩ ⟨by simp, by simp only; omega, by simp only; omega, by simp only; omega, by simp only; omega, by simp, by simp, by simp only; omega, by simp only; omega, g6⟩ rfl ?_
  rintro G2 ⟨j, q2, no, at_, l2⟩ ⟨d1, d2, d3, d4, d5, d6, d7, d8, d9, d10⟩ IH2
  simp only at d1 d2 d3 d4 d5 d6 d7 d8 d9 d10
  unfold adSt strm
  by_cases hj : j < zb
  ·simp (maxSteps := 1000000) (disch := omega) only [go_sem]
   obtain ⟨⟨pc, rc⟩, ⟨hac, hbc, zc, kc, rfl⟩, hfc⟩ := (pick_det false [1, 1, 2] (by simp) (by simp)) L q2 hL hl (by omega) (by omega)
   simp only at hac hbc hfc
   refine exX hfc rfl rfl ?_
   unfold strm
   simp (maxSteps := 1000000) (disch := (first | omega | assumption)) only [go_sem]
   simp only [List.mem_cons, List.not_mem_nil, or_false] at kc
   obtain ⟨⟨pd, rd⟩, ⟨had, hbd, zd, kd, rfl⟩, hfd⟩ := (pick_det false [1, 1, 1, 2, 3] (by simp) (by simp)) L pc hL hl (by omega) (by omega)
   simp only at had hbd hfd
   refine exX hfd rfl rfl ?_
   unfold strm
   simp (maxSteps := 1000000) (disch := (first | omega | assumption)) only [go_sem]
   obtain ⟨⟨pe, re⟩, ⟨hae, hbe, ze, ke, rfl⟩, hfe⟩ := (some_det false alsA (of_decide_eq_true (by kernel_rfl)) (of_decide_eq_true (by kernel_rfl))) L pd hL hl (by omega) (by omega)
   simp only at hae hbe hfe
   have asm := sms alsA (by kernel_rfl) _ ke
   by_cases hk2 : zd = 2
   ·
    refine exX hfe rfl rfl ?_
    unfold strm
    simp (maxSteps := 1000000) (disch := (first | omega | assumption)) only [go_sem]
    obtain ⟨⟨pf, rf⟩, ⟨haf, hbf, zf, kf, rfl⟩, hff⟩ := (pick_det false [1, 10, 40] (by simp) (by simp)) L pe hL hl (by omega) (by omega)
    simp only at haf hbf hff
    refine exX hff rfl rfl ?_
    unfold strm
    simp (maxSteps := 1000000) (disch := (first | omega | assumption)) only [go_sem]
    simp only [List.mem_cons, List.not_mem_nil, or_false] at kf
    obtain ⟨⟨pg, rg⟩, ⟨hag, hbg, zg, kg, rfl⟩, hfg⟩ := (pick_det false [0, 1, 10, 30] (by simp) (by simp)) L pf hL hl (by omega) (by omega)
    simp only at hag hbg hfg
    simp only [List.mem_cons, List.not_mem_nil, or_false] at kg
    refine exX hfg rfl rfl ?_
    unfold strm
    simp (maxSteps := 1000000) (disch := (first | omega | assumption)) only [go_sem]
    obtain ⟨yy, hB, hG⟩ := IH2 ⟨j + 1, pg, no + zc, at_ + zg, l2 ++ [⟨by_, no + zc, at_, zd, ze, at_ + zf⟩]⟩ ⟨by simp only; omega, by simp only; omega, by simp only [List.length_append, List.length_singleton]; omega, by simp only; omega, by simp only; omega, by simp only; omega, by simp only; omega, by simp only; omega, by simp only; omega, opr_app d10 ⟨ksm, asm, by unfold I64; simp only; omega⟩⟩ (by simp only; omega)
    exact ⟨yy, hB, _, by simp only [adSt, strm, oprRow, List.map_append, List.map_cons, List.map_nil, oprS_eq], by simp only; omega, hG⟩
   ·
    refine exX hfe rfl rfl ?_
    unfold strm
    simp (maxSteps := 1000000) (disch := (first | omega | assumption)) only [go_sem]
    obtain ⟨⟨pg, rg⟩, ⟨hag, hbg, zg, kg, rfl⟩, hfg⟩ := (pick_det false [0, 1, 10, 30] (by simp) (by simp)) L pe hL hl (by omega) (by omega)
    simp only at hag hbg hfg
    simp only [List.mem_cons, List.not_mem_nil, or_false] at kg
    refine exX hfg rfl rfl ?_
    unfold strm
    simp (maxSteps := 1000000) (disch := (first | omega | assumption)) only [go_sem]
    obtain ⟨yy, hB, hG⟩ := IH2 ⟨j + 1, pg, no + zc, at_ + zg, l2 ++ [⟨by_, no + zc, at_, zd, ze, 0⟩]⟩ ⟨by simp only; omega, by simp only; omega, by simp only [List.length_append, List.length_singleton]; omega, by simp only; omega, by simp only; omega, by simp only; omega, by simp only; omega, by simp only; omega, by simp only; omega, opr_app d10 ⟨ksm, asm, by unfold I64; simp only; omega⟩⟩ (by simp only; omega)
    exact ⟨yy, hB, _, by simp only [adSt, strm, oprRow, List.map_append, List.map_cons, List.map_nil, oprS_eq], by simp only; omega, hG⟩
  ·clear IH2
   simp (maxSteps := 1000000) (disch := omega) only [go_sem]
   obtain ⟨yy, hB, hG⟩ := IH ⟨i + 1, q2, l2⟩ ⟨by simp only; omega, by simp only; omega, by simp only; omega, by simp only; omega, by simp only; omega, d10⟩ (by simp only; omega)
   exact ⟨yy, hB, _, by simp only [acSt, strm], by simp only; omega, hG⟩
 ·clear IH
  have g7 : q ≤ p + 44 := by omega
  by_cases hn : 0 < l.length
  ·simp (maxSteps := 1000000) (disch := (first | omega | assumption)) only [go_sem]
   obtain ⟨⟨pb, rb⟩, ⟨hab, hbb, bb, rfl⟩, hfb⟩ := (flip_det 12 (by omega) (by omega)) L q hL hl (by omega) (by omega)
   simp only at hab hbb hfb
   cases bb with
   | false =>
    refine exX hfb rfl rfl ?_
    unfold strm
    simp (maxSteps := 1000000) (disch := (first | omega | assumption)) only [go_sem]
    exact ⟨(pb, _), ⟨by simp only; omega, by simp only; omega, l, by omega, g6, rfl⟩, rfl, rfl⟩
   | true =>
    refine exX hfb rfl rfl ?_
    unfold strm
    simp (maxSteps := 1000000) (disch := (first | omega | assumption)) only [go_sem]
    obtain ⟨⟨pc, rc⟩, ⟨hac, hbc, zc, kc, nc, rfl⟩, hfc⟩ := (next_det l.length (by omega) (by omega)) L pb hL hl (by omega) (by omega)
    simp only at hac hbc hfc
    refine exX hfc rfl rfl ?_
    unfold strm
    simp (maxSteps := 1000000) (disch := (first | omega | assumption)) only [go_sem]
    have eo := getE_map_in oprS l zc.toNat (by omega)
    have hsm := g6 _ (getD_mem l zc.toNat (by omega))
    obtain ⟨⟨pd, rd⟩, ⟨had, hbd, zd, kd, nd, rfl⟩, hfd⟩ := (next_det 3 (by omega) (by omega)) L pc hL hl (by omega) (by omega)
    simp only at had hbd hfd
    by_cases d0 : zd = 0
    ·
     refine exX hfd rfl rfl ?_
     unfold strm
     simp (maxSteps := 1000000) (disch := (first | omega | assumption)) only [go_sem]
     obtain ⟨⟨pe, re⟩, ⟨hae, hbe, ze, ke, rfl⟩, hfe⟩ := (some_det false [(l.getD zc.toNat default).b, ByteArray.mk #[]] (by simp) (by simp)) L pd hL hl (by omega) (by omega)
     simp only at hae hbe hfe
     refine exX hfe rfl rfl ?_
     unfold strm
     simp (maxSteps := 1000000) (disch := (first | omega | assumption)) only [go_sem]
     obtain ⟨⟨pf, rf⟩, ⟨haf, hbf, zf, kf, rfl⟩, hff⟩ := (pick_det false [(l.getD zc.toNat default).no, 0, 1] (by simp) (by simp)) L pe hL hl (by omega) (by omega)
     simp only at haf hbf hff
     refine exX hff rfl rfl ?_
     unfold strm
     simp (maxSteps := 1000000) (disch := (first | omega | assumption)) only [go_sem]
     obtain ⟨⟨pg, rg⟩, ⟨hag, hbg, zg, kg, rfl⟩, hfg⟩ := (pick_det false [(l.getD zc.toNat default).at_, -1, 3] (by simp) (by simp)) L pf hL hl (by omega) (by omega)
     simp only at hag hbg hfg
     refine exX hfg rfl rfl ?_
     unfold strm
     simp (maxSteps := 1000000) (disch := (first | omega | assumption)) only [go_sem]
     have s1 : ze.size ≤ 1000 := by
      simp only [List.mem_cons, List.not_mem_nil, or_false] at ke
      rcases ke with rfl | rfl
      ·exact hsm.1
      ·exact emp_sm
     have s2 : I64 (zg + 1) := by
      simp only [List.mem_cons, List.not_mem_nil, or_false] at kg
      rcases kg with rfl | rfl | rfl
      ·exact hsm.2.2
      ·unfold I64; omega
      ·unfold I64; omega
     exact ⟨(pg, _), ⟨by simp only; omega, by simp only; omega, l.set zc.toNat { l.getD zc.toNat default with b := ze, no := zf, at_ := zg }, by simp; omega, opr_set g6 ⟨s1, hsm.2.1, s2⟩, by simp [oprS_eq, List.map_set, frE_set, frE_opr, freshC]⟩, rfl, rfl⟩
    by_cases d1 : zd = 1
    ·
     refine exX hfd rfl rfl ?_
     unfold strm
     simp (maxSteps := 1000000) (disch := (first | omega | assumption)) only [go_sem]
     obtain ⟨⟨pe, re⟩, ⟨hae, hbe, ze, ke, rfl⟩, hfe⟩ := (odd_det 1 3 (by omega) (by omega) (by omega)) L pd hL hl (by omega) (by omega)
     simp only at hae hbe hfe
     refine exX hfe rfl rfl ?_
     unfold strm
     simp (maxSteps := 1000000) (disch := (first | omega | assumption)) only [go_sem]
     obtain ⟨⟨pf, rf⟩, ⟨haf, hbf, zf, kf, rfl⟩, hff⟩ := (pick_det false [(l.getD zc.toNat default).un, 0, 1] (by simp) (by simp)) L pe hL hl (by omega) (by omega)
     simp only at haf hbf hff
     refine exX hff rfl rfl ?_
     unfold strm
     simp (maxSteps := 1000000) (disch := (first | omega | assumption)) only [go_sem]
     exact ⟨(pf, _), ⟨by simp only; omega, by simp only; omega, l.set zc.toNat { l.getD zc.toNat default with kd := ze, un := zf }, by simp; omega, opr_set g6 hsm, by simp [oprS_eq, List.map_set, frE_set, frE_opr, freshC]⟩, rfl, rfl⟩
    refine exX hfd rfl rfl ?_
    unfold strm
    simp (maxSteps := 1000000) (disch := (first | omega | assumption)) only [go_sem]
    exact ⟨(pd, _), ⟨by simp only; omega, by simp only; omega, l.set zc.toNat { l.getD zc.toNat default with al := ByteArray.mk #[] }, by simp; omega, opr_set g6 ⟨hsm.1, emp_sm, hsm.2.2⟩, by simp [oprS_eq, List.map_set, frE_set, frE_opr, freshC]⟩, rfl, rfl⟩
  ·simp (maxSteps := 1000000) (disch := (first | omega | assumption)) only [go_sem]
   exact ⟨(q, _), ⟨by simp only; omega, by simp only; omega, l, by omega, g6, rfl⟩, rfl, rfl⟩
end Go.Proofs.YtfgkpbkphmeigaaGreatDoor
/-
 Acts that streams draw, as a row that is handed back.
-/
namespace Go.Proofs.YtfgkpbkphmeigaaGreatDoor
open Go Go.Ai
set_option linter.unusedSimpArgs false
set_option linter.unusedVariables false
set_option maxHeartbeats 4000000
def C_actListM : AC := (.seq (.reg false [gI 2 (.mv (.v (.slice none 0 0)))] (kP [0,1000000] [1000000] [3]))
 (.seq (.seq (.reg false [gI 3 (.mv (.v (.slice none 0 0)))] (kP [0,3,1000000] [1000000] []))
 (.own 3 34 6))
 (.seq (.seq (.reg false [gI 10 (.bslice 1 2 [(.v (.string (ByteArray.mk #[97,109,121]))),(.v (.string (ByteArray.mk #[98,111,98])))]),gI 11 (.len (.t 10)),gI 12 (.mv (oI 0))] (kP [0,3,10,11,12,1000000] [1000000] [3]))
 (.block 0 (.loop (.seq (.reg false [gI 13 (.bin .lss (.t 12) (.t 11))] (kP [0,3,10,11,12,13,1000000] [1000000] [3]))
 (.seq (.cond (.t 13)
 .skip
 (.exit 0))
 (.seq (.block 1 (.seq (.reg false [gI 14 (.iadr 1 (.t 10) (.t 12)),gI 15 (.load false 1 (.t 14)),gM 5 15] (kP [0,3,5,10,11,12,1000000] [1000000] [3]))
 (.seq (.reg false [gM 16 0,gI 17 (.bslice 1 2 [(oI 0),(oI 10)]),gI 18 (.callx (.f 55) [(.t 16),(.t 17)]),gI 6 (.mv (oI 0)),gM 7 18] (kP [0,3,5,6,7,10,11,12,1000000] [1000000] [3]))
 (.seq (.reg false [gM 19 0,gI 20 (.callx (.f 70) [(.t 19),(oI 0),(oI 4)]),gI 21 (.mv (oI 0))] (kP [0,3,5,6,7,10,11,12,20,21,1000000] [1000000] [3]))
 (.block 2 (.loop (.seq (.reg false [gI 22 (.bin .lss (.t 21) (.t 20))] (kP [0,3,5,6,7,10,11,12,20,21,22,1000000] [1000000] [3]))
 (.seq (.cond (.t 22)
 .skip
 (.exit 2))
 (.seq (.block 3 (.seq (.reg false [gM 23 6,gM 24 0,gI 25 (.bslice 1 3 [(oI 1),(oI 1),(oI 2)]),gI 26 (.callx (.f 55) [(.t 24),(.t 25)]),gI 27 (.bin .add (.t 23) (.t 26)),gM 6 27] (kP [0,3,5,6,7,10,11,12,20,21,1000000] [1000000] [3]))
 (.seq (.reg false [gM 28 5,gM 29 6,gM 30 7,gM 31 0,gI 32 (.bslice 1 5 [(oI 1),(oI 1),(oI 1),(oI 2),(oI 3)]),gI 33 (.callx (.f 55) [(.t 31),(.t 32)]),gM 34 0,gI 35 (.bslice 1 5 [(.v (.string (ByteArray.mk #[97,49]))),(.v (.string (ByteArray.mk #[97,49]))),(.v (.string (ByteArray.mk #[97,50]))),(.v (.string (ByteArray.mk #[97,51]))),(.v (.string (ByteArray.mk #[122,122])))]),gI 36 (.callx (.f 30) [(.t 34),(.t 35)]),gI 37 (.build [(.string (ByteArray.mk #[])),(.int .i64 (0)),(.int .i64 (0)),(.int .i64 (0)),(.string (ByteArray.mk #[])),(.int .i64 (0))] [(0,1,(.t 28)),(1,1,(.t 29)),(2,1,(.t 30)),(3,1,(.t 33)),(4,1,(.t 36))]),gI 8 (.alloc [(.string (ByteArray.mk #[])),(.int .i64 (0)),(.int .i64 (0)),(.int .i64 (0)),(.string (ByteArray.mk #[])),(.int .i64 (0))]),gN (.store 6 (.t 8) (.t 37))] (kP [0,3,5,6,7,8,10,11,12,20,21,1000000] [8,1000000] [3]))
 (.seq (.seq (.reg false [gI 38 (.fadr 3 (.t 8)),gI 39 (.load false 1 (.t 38)),gI 40 (.bin .eql (.t 39) (oI 2))] (kP [0,3,5,6,7,8,10,11,12,20,21,40,1000000] [8,1000000] [3]))
 (.cond (.t 40)
 (.reg false [gM 41 7,gM 42 0,gI 43 (.bslice 1 3 [(oI 1),(oI 10),(oI 40)]),gI 44 (.callx (.f 55) [(.t 42),(.t 43)]),gI 45 (.bin .add (.t 41) (.t 44)),gI 46 (.fadr 5 (.t 8)),gN (.store 1 (.t 46) (.t 45))] (kP [0,3,5,6,7,8,10,11,12,20,21,1000000] [8,1000000] [3]))
 .skip))
 (.seq (.reg false [gM 47 3,gI 48 (.load true 6 (.t 8)),gI 49 (.bslice 6 1 [(.t 48)]),gI 50 (.append 34 6 64 (.t 47) (.t 49)),gM 3 50] (kP [0,3,5,6,7,10,11,12,20,21,1000000] [1000000] [3]))
 (.reg false [gM 51 7,gM 52 0,gI 53 (.bslice 1 4 [(oI 0),(oI 1),(oI 10),(oI 30)]),gI 54 (.callx (.f 55) [(.t 52),(.t 53)]),gI 55 (.bin .add (.t 51) (.t 54)),gM 7 55] (kP [0,3,5,6,7,10,11,12,20,21,1000000] [1000000] [3])))))))
 (.reg false [gI 56 (.bin .add (.t 21) (oI 1)),gM 21 56] (kP [0,3,5,6,7,10,11,12,20,21,1000000] [1000000] [3])))))))))))
 (.reg false [gI 57 (.bin .add (.t 12) (oI 1)),gM 12 57] (kP [0,3,10,11,12,1000000] [1000000] [3]))))))))
 (.seq (.seq (.reg false [gM 58 3,gI 59 (.len (.t 58)),gI 60 (.bin .gtr (.t 59) (oI 0)),gM 61 60,gG 62 61 true (.mv (.t 0)),gG 63 61 true (.callx (.f 10) [(.t 62),(oI 12)]),gI 64 (.pick (.t 61) (.t 63) (.v (.bool false)))] (kP [0,3,64,1000000] [1000000] [3]))
 (.cond (.t 64)
 (.seq (.reg false [gM 65 3,gM 66 0,gM 67 3,gI 68 (.len (.t 67)),gI 69 (.callx (.f 71) [(.t 66),(.t 68)]),gI 70 (.iadr 6 (.t 65) (.t 69)),gM 9 70] (kP [0,3,9,1000000] [1000000] [3]))
 (.seq (.reg false [gM 71 0,gI 72 (.callx (.f 71) [(.t 71),(oI 3)])] (kP [0,3,9,72,1000000] [1000000] [3]))
 (.block 4 (.seq (.reg false [gI 77 (.bin .eql (.t 72) (oI 0)),gM 76 77] (kP [0,3,9,72,76,1000000] [1000000] [3]))
 (.cond (.t 76)
 (.reg true [gM 78 9,gM 79 9,gM 80 9,gM 81 0,gM 82 9,gI 83 (.nilchk (.t 82)),gI 84 (.fadr 0 (.t 83)),gI 85 (.load false 1 (.t 84)),gI 86 (.bslice 1 2 [(.t 85),(.v (.string (ByteArray.mk #[])))]),gN (.chk (.t 81) (some 1000000)),gI 87 (.callx (.f 30) [(.t 81),(.t 86)]),gM 88 0,gM 89 9,gN (.chk (.t 89) (some 999999999)),gI 90 (.nilchk (.t 89)),gN (.chk (.t 90) (some 999999999)),gI 91 (.fadr 1 (.t 90)),gN (.chk (.t 91) (some 999999999)),gI 92 (.load false 1 (.t 91)),gI 93 (.bslice 1 3 [(.t 92),(oI 0),(oI 1)]),gN (.chk (.t 88) (some 1000000)),gI 94 (.callx (.f 55) [(.t 88),(.t 93)]),gM 95 0,gM 96 9,gN (.chk (.t 96) (some 999999999)),gI 97 (.nilchk (.t 96)),gN (.chk (.t 97) (some 999999999)),gI 98 (.fadr 2 (.t 97)),gN (.chk (.t 98) (some 999999999)),gI 99 (.load false 1 (.t 98)),gI 100 (.bslice 1 3 [(.t 99),(oI (-1)),(oI 3)]),gI 101 (.callx (.f 55) [(.t 95),(.t 100)]),gI 102 (.nilchk (.t 78)),gI 103 (.fadr 0 (.t 102)),gN (.store 1 (.t 103) (.t 87)),gI 104 (.nilchk (.t 79)),gI 105 (.fadr 1 (.t 104)),gN (.store 1 (.t 105) (.t 94)),gI 106 (.nilchk (.t 80)),gI 107 (.fadr 2 (.t 106)),gN (.store 1 (.t 107) (.t 101))] (kP [3] [1000000] [3]))
 (.seq (.reg false [gI 109 (.bin .eql (.t 72) (oI 1)),gM 108 109] (kP [0,3,9,108,1000000] [1000000] [3]))
 (.cond (.t 108)
 (.reg true [gM 110 9,gM 111 9,gM 112 0,gN (.chk (.t 112) (some 1000000)),gI 113 (.callx (.f 72) [(.t 112),(oI 1),(oI 3)]),gM 114 0,gM 115 9,gN (.chk (.t 115) (some 999999999)),gI 116 (.nilchk (.t 115)),gN (.chk (.t 116) (some 999999999)),gI 117 (.fadr 5 (.t 116)),gN (.chk (.t 117) (some 999999999)),gI 118 (.load false 1 (.t 117)),gI 119 (.bslice 1 3 [(.t 118),(oI 0),(oI 1)]),gI 120 (.callx (.f 55) [(.t 114),(.t 119)]),gI 121 (.nilchk (.t 110)),gI 122 (.fadr 3 (.t 121)),gN (.store 1 (.t 122) (.t 113)),gI 123 (.nilchk (.t 111)),gI 124 (.fadr 5 (.t 123)),gN (.store 1 (.t 124) (.t 120))] (kP [3] [1000000] [3]))
 (.reg false [gM 73 9,gI 74 (.nilchk (.t 73)),gI 75 (.fadr 4 (.t 74)),gN (.store 1 (.t 75) (.v (.string (ByteArray.mk #[]))))] (kP [3] [1000000] [3])))))))))
 .skip))
 (.seq (.reg false [gM 125 3,gM 2 125] (kP [2] [1000000] [3]))
 .ret)))))
theorem fcm_actListM : FmT Tryz.prog 8 Tryz.f8 C_actListM [.t 2] := fcm_mk [aN [0,1000000] [1000000] [3],⟨(kP [0,3,1000000] [1000000] []),[(3,34,6)],[],[],[]⟩,aN [0,3,10,11,12,1000000] [1000000] [3],aN [0,3,10,11,12,13,1000000] [1000000] [3],aN [0,3,5,10,11,12,1000000] [1000000] [3],aN [0,3,5,6,7,10,11,12,1000000] [1000000] [3],aN [0,3,5,6,7,10,11,12,20,21,1000000] [1000000] [3],aN [0,3,5,6,7,10,11,12,20,21,22,1000000] [1000000] [3],aN [0,3,5,6,7,10,11,12,20,21,1000000] [1000000] [3],aN [0,3,5,6,7,8,10,11,12,20,21,1000000] [8,1000000] [3],aN [0,3,5,6,7,8,10,11,12,20,21,40,1000000] [8,1000000] [3],aN [0,3,5,6,7,8,10,11,12,20,21,1000000] [8,1000000] [3],aN [0,3,5,6,7,10,11,12,20,21,1000000] [1000000] [3],aN [0,3,5,6,7,10,11,12,20,21,1000000] [1000000] [3],aN [0,3,5,6,7,10,11,12,20,21,1000000] [1000000] [3],aN [0,3,10,11,12,1000000] [1000000] [3],aN [0,3,64,1000000] [1000000] [3],aN [0,3,9,1000000] [1000000] [3],aN [0,3,9,72,1000000] [1000000] [3],aN [0,3,9,72,76,1000000] [1000000] [3],⟨(kP [3] [1000000] [3]),[],[(9,(some 1000000)),(12,(some 999999999)),(13,(some 999999999)),(14,(some 999999999)),(16,(some 1000000)),(19,(some 999999999)),(20,(some 999999999)),(21,(some 999999999))],[],[]⟩,aN [0,3,9,108,1000000] [1000000] [3],⟨(kP [3] [1000000] [3]),[],[(3,(some 1000000)),(6,(some 999999999)),(7,(some 999999999)),(8,(some 999999999))],[],[]⟩,aN [3] [1000000] [3],aN [2] [1000000] [3]] Tryz.func8 (by kernel_rfl)
section
variable {P : Program} {s : AS} {k : List KI} {kp : Option Keep} {l : List GI} {Q : AX → AS → Prop}
theorem CALLX_det {f : FuncId} {key : Nat} {cs0 cs : List Cel} {vargs : List Val} {d : Option Nat} {r : Val} (hf : FC P f (some cs0) vargs (fun cs' x => cs' = cs ∧ x = r)) (hr : dataRV r = true) (hc : cs.all dataRC = true)
  (h : rg P l kp k Q ({ s with bx := upd s.bx key (some cs) }.put d r)) : CALLX P f key cs0 vargs d l kp k Q s :=
 ⟨_, hf, ⟨cs, r, rfl, rfl⟩, fun _ _ hx => by obtain ⟨rfl, rfl⟩ := hx; exact ⟨hr, hc, h⟩⟩
end
def acMt (L : List Int) (x : AcX) : AS := ⟨tabV [(0, .one (.bx 1000000 0)), (3, .one (.ow 3 0)), (10, .one (.sl true 1 (bysA.map strC))), (11, iv 2), (12, iv x.i), (1000000, .any)], tabO [(1000000, strm L x.q)], tabO [(3, opRow x.l)]⟩
def adMt (L : List Int) (b : ByteArray) (i n : Int) (x : AdX) : AS := ⟨tabV [(0, .one (.bx 1000000 0)), (3, .one (.ow 3 0)), (5, sv b), (6, iv x.no), (7, iv x.at_), (10, .one (.sl true 1 (bysA.map strC))), (11, iv 2), (12, iv i), (20, iv n), (21, iv x.j), (1000000, .any)], tabO [(1000000, strm L x.q)], tabO [(3, opRow x.l)]⟩
set_option maxHeartbeats 12000000 in
set_option maxRecDepth 8000 in
theorem actRow_fcm (L : List Int) (p : Int) (hL : ∀ x ∈ L, I64 x) (hl : L.length ≤ 9223372036854775807) (h0 : 0 ≤ p) (hp : p + 100 ≤ 4611686018427387904) : FCM Tryz.prog 8 ⟨[(1000000, strm L p)], []⟩ [.one (.bx 1000000 0)] (fun H r => ∃ q l, p ≤ q ∧ q ≤ p + 100 ∧ l.length ≤ 8 ∧ (∀ x ∈ l, x.sm) ∧ H = ⟨[(1000000, strm L q)], [(3, opRow l)]⟩ ∧ r = .one (.ow 3 0)) := by
 refine fcm_actListM (K := ⟨[], [1000000], [3]⟩) (by simp +arith) (by simp [XK]) (by simp [XK]) ?_
 unfold C_actListM strm
 simp (maxSteps := 1000000) (disch := omega) only [go_sem]
 rw [by2]
 refine ex_loopI (acMt L) (fun x => 0 ≤ x.i ∧ x.i ≤ 2 ∧ x.l.length ≤ 4 * x.i ∧ p ≤ x.q ∧ x.q ≤ p + 22 * x.i ∧ ∀ y ∈ x.l, y.sm) (fun x => (2 - x.i).toNat) ⟨0, p, []⟩ ⟨by simp, by simp, by simp, by simp, by simp, by simp⟩ rfl ?_
 rintro ⟨i, q, l⟩ ⟨g1, g2, g3, g4, g5, g6⟩
 simp only at g1 g2 g3 g4 g5 g6
 unfold acMt strm
 by_cases hi : i < 2
 ·have em := getD_str bysA i g1 (by have : bysA.length = 2 := rfl; omega)
  have ksm := bys_sm i g1 hi
  have h2 : bysA.length = 2 := rfl
  simp (maxSteps := 1000000) (disch := omega) only [go_sem]
  simp only [strC_eq]
  simp (maxSteps := 1000000) (disch := omega) only [go_sem]
  obtain ⟨⟨pa, ra⟩, ⟨haa, hba, za, ka, rfl⟩, hfa⟩ := (pick_det false [0, 10] (by simp) (by simp)) L q hL hl (by omega) (by omega)
  simp only at haa hba hfa
  refine CALLX_det hfa rfl rfl ?_
  unfold strm
  simp (maxSteps := 1000000) (disch := (first | omega | assumption)) only [go_sem]
  obtain ⟨⟨pb, rb⟩, ⟨hab, hbb, zb, kb, nb, rfl⟩, hfb⟩ := (range_det 0 4 (by omega) (by omega) (by omega)) L pa hL hl (by omega) (by omega)
  simp only at hab hbb hfb
  refine CALLX_det hfb rfl rfl ?_
  unfold strm
  simp (maxSteps := 1000000) (disch := (first | omega | assumption)) only [go_sem]
  simp only [List.mem_cons, List.not_mem_nil, or_false] at ka
  generalize hby : bysA.getD i.toNat default = by_ at *
  refine ex_loopI (adMt L by_ i zb) (fun x => 0 ≤ x.j ∧ x.j ≤ zb ∧ x.l.length ≤ 4 * i + x.j ∧ p ≤ x.q ∧ x.q ≤ p + 22 * i + 2 + 5 * x.j ∧ 0 ≤ x.no ∧ x.no ≤ 2 * x.j ∧ 0 ≤ x.at_ ∧ x.at_ ≤ 10 + 30 * x.j ∧ ∀ y ∈ x.l, y.sm) (fun x => (zb - x.j).toNat) ⟨0, pb, 0, za, l⟩ ⟨by simp, by simp only; omega, by simp only; omega, by simp only; omega, by simp only; omega, by simp, by simp, by simp only; omega, by simp only; omega, g6⟩ rfl ?_
  rintro ⟨j, q2, no, at_, l2⟩ ⟨d1, d2, d3, d4, d5, d6, d7, d8, d9, d10⟩
  simp only at d1 d2 d3 d4 d5 d6 d7 d8 d9 d10
  unfold adMt strm
  by_cases hj : j < zb
  ·simp (maxSteps := 1000000) (disch := omega) only [go_sem]
   obtain ⟨⟨pc, rc⟩, ⟨hac, hbc, zc, kc, rfl⟩, hfc⟩ := (pick_det false [1, 1, 2] (by simp) (by simp)) L q2 hL hl (by omega) (by omega)
   simp only at hac hbc hfc
   refine CALLX_det hfc rfl rfl ?_
   unfold strm
   simp (maxSteps := 1000000) (disch := (first | omega | assumption)) only [go_sem]
   simp only [List.mem_cons, List.not_mem_nil, or_false] at kc
   obtain ⟨⟨pd, rd⟩, ⟨had, hbd, zd, kd, rfl⟩, hfd⟩ := (pick_det false [1, 1, 1, 2, 3] (by simp) (by simp)) L pc hL hl (by omega) (by omega)
   simp only at had hbd hfd
   refine CALLX_det hfd rfl rfl ?_
   unfold strm
   simp (maxSteps := 1000000) (disch := (first | omega | assumption)) only [go_sem]
   obtain ⟨⟨pe, re⟩, ⟨hae, hbe, ze, ke, rfl⟩, hfe⟩ := (some_det false alsA (of_decide_eq_true (by kernel_rfl)) (of_decide_eq_true (by kernel_rfl))) L pd hL hl (by omega) (by omega)
   simp only at hae hbe hfe
   have asm := sms alsA (by kernel_rfl) _ ke
   by_cases hk2 : zd = 2
   ·
    refine CALLX_det hfe rfl rfl ?_
    unfold strm
    simp (maxSteps := 1000000) (disch := (first | omega | assumption)) only [go_sem]
    obtain ⟨⟨pf, rf⟩, ⟨haf, hbf, zf, kf, rfl⟩, hff⟩ := (pick_det false [1, 10, 40] (by simp) (by simp)) L pe hL hl (by omega) (by omega)
    simp only at haf hbf hff
    refine CALLX_det hff rfl rfl ?_
    unfold strm
    simp (maxSteps := 1000000) (disch := (first | omega | assumption)) only [go_sem]
    simp only [List.mem_cons, List.not_mem_nil, or_false] at kf
    obtain ⟨⟨pg, rg⟩, ⟨hag, hbg, zg, kg, rfl⟩, hfg⟩ := (pick_det false [0, 1, 10, 30] (by simp) (by simp)) L pf hL hl (by omega) (by omega)
    simp only at hag hbg hfg
    simp only [List.mem_cons, List.not_mem_nil, or_false] at kg
    refine CALLX_det hfg rfl rfl ?_
    unfold strm
    simp (maxSteps := 1000000) (disch := (first | omega | assumption)) only [go_sem]
    exact ⟨⟨j + 1, pg, no + zc, at_ + zg, l2 ++ [⟨by_, no + zc, at_, zd, ze, at_ + zf⟩]⟩, ⟨by simp only; omega, by simp only; omega, by simp only [List.length_append, List.length_singleton]; omega, by simp only; omega, by simp only; omega, by simp only; omega, by simp only; omega, by simp only; omega, by simp only; omega, opr_app d10 ⟨ksm, asm, by unfold I64; simp only; omega⟩⟩, by simp only [adMt, strm, opRow, List.map_append, List.map_cons, List.map_nil, oprS_eq], by simp only; omega⟩
   ·
    refine CALLX_det hfe rfl rfl ?_
    unfold strm
    simp (maxSteps := 1000000) (disch := (first | omega | assumption)) only [go_sem]
    obtain ⟨⟨pg, rg⟩, ⟨hag, hbg, zg, kg, rfl⟩, hfg⟩ := (pick_det false [0, 1, 10, 30] (by simp) (by simp)) L pe hL hl (by omega) (by omega)
    simp only at hag hbg hfg
    simp only [List.mem_cons, List.not_mem_nil, or_false] at kg
    refine CALLX_det hfg rfl rfl ?_
    unfold strm
    simp (maxSteps := 1000000) (disch := (first | omega | assumption)) only [go_sem]
    exact ⟨⟨j + 1, pg, no + zc, at_ + zg, l2 ++ [⟨by_, no + zc, at_, zd, ze, 0⟩]⟩, ⟨by simp only; omega, by simp only; omega, by simp only [List.length_append, List.length_singleton]; omega, by simp only; omega, by simp only; omega, by simp only; omega, by simp only; omega, by simp only; omega, by simp only; omega, opr_app d10 ⟨ksm, asm, by unfold I64; simp only; omega⟩⟩, by simp only [adMt, strm, opRow, List.map_append, List.map_cons, List.map_nil, oprS_eq], by simp only; omega⟩
  ·skip
   simp (maxSteps := 1000000) (disch := omega) only [go_sem]
   exact ⟨⟨i + 1, q2, l2⟩, ⟨by simp only; omega, by simp only; omega, by simp only; omega, by simp only; omega, by simp only; omega, d10⟩, by simp only [acMt, strm], by simp only; omega⟩
 ·skip
  have g7 : q ≤ p + 44 := by omega
  by_cases hn : 0 < l.length
  ·simp (maxSteps := 1000000) (disch := (first | omega | assumption)) only [go_sem]
   obtain ⟨⟨pb, rb⟩, ⟨hab, hbb, bb, rfl⟩, hfb⟩ := (flip_det 12 (by omega) (by omega)) L q hL hl (by omega) (by omega)
   simp only at hab hbb hfb
   cases bb with
   | false =>
    refine CALLX_det hfb rfl rfl ?_
    unfold strm
    simp (maxSteps := 1000000) (disch := (first | omega | assumption)) only [go_sem]
    exact ⟨pb, l, by omega, by omega, by omega, g6, rfl⟩
   | true =>
    refine CALLX_det hfb rfl rfl ?_
    unfold strm
    simp (maxSteps := 1000000) (disch := (first | omega | assumption)) only [go_sem]
    obtain ⟨⟨pc, rc⟩, ⟨hac, hbc, zc, kc, nc, rfl⟩, hfc⟩ := (next_det l.length (by omega) (by omega)) L pb hL hl (by omega) (by omega)
    simp only at hac hbc hfc
    refine CALLX_det hfc rfl rfl ?_
    unfold strm
    simp (maxSteps := 1000000) (disch := (first | omega | assumption)) only [go_sem]
    have eo := getE_map_in oprS l zc.toNat (by omega)
    have hsm := g6 _ (getD_mem l zc.toNat (by omega))
    obtain ⟨⟨pd, rd⟩, ⟨had, hbd, zd, kd, nd, rfl⟩, hfd⟩ := (next_det 3 (by omega) (by omega)) L pc hL hl (by omega) (by omega)
    simp only at had hbd hfd
    by_cases d0 : zd = 0
    ·
     refine CALLX_det hfd rfl rfl ?_
     unfold strm
     simp (maxSteps := 1000000) (disch := (first | omega | assumption)) only [go_sem]
     obtain ⟨⟨pe, re⟩, ⟨hae, hbe, ze, ke, rfl⟩, hfe⟩ := (some_det false [(l.getD zc.toNat default).b, ByteArray.mk #[]] (by simp) (by simp)) L pd hL hl (by omega) (by omega)
     simp only at hae hbe hfe
     refine CALLX_det hfe rfl rfl ?_
     unfold strm
     simp (maxSteps := 1000000) (disch := (first | omega | assumption)) only [go_sem]
     obtain ⟨⟨pf, rf⟩, ⟨haf, hbf, zf, kf, rfl⟩, hff⟩ := (pick_det false [(l.getD zc.toNat default).no, 0, 1] (by simp) (by simp)) L pe hL hl (by omega) (by omega)
     simp only at haf hbf hff
     refine CALLX_det hff rfl rfl ?_
     unfold strm
     simp (maxSteps := 1000000) (disch := (first | omega | assumption)) only [go_sem]
     obtain ⟨⟨pg, rg⟩, ⟨hag, hbg, zg, kg, rfl⟩, hfg⟩ := (pick_det false [(l.getD zc.toNat default).at_, -1, 3] (by simp) (by simp)) L pf hL hl (by omega) (by omega)
     simp only at hag hbg hfg
     refine CALLX_det hfg rfl rfl ?_
     unfold strm
     simp (maxSteps := 1000000) (disch := (first | omega | assumption)) only [go_sem]
     have s1 : ze.size ≤ 1000 := by
      simp only [List.mem_cons, List.not_mem_nil, or_false] at ke
      rcases ke with rfl | rfl
      ·exact hsm.1
      ·exact emp_sm
     have s2 : I64 (zg + 1) := by
      simp only [List.mem_cons, List.not_mem_nil, or_false] at kg
      rcases kg with rfl | rfl | rfl
      ·exact hsm.2.2
      ·unfold I64; omega
      ·unfold I64; omega
     exact ⟨pg, l.set zc.toNat { l.getD zc.toNat default with b := ze, no := zf, at_ := zg }, by omega, by omega, by simp; omega, opr_set g6 ⟨s1, hsm.2.1, s2⟩, by simp [oprS_eq, List.map_set, opRow, strm]⟩
    by_cases d1 : zd = 1
    ·
     refine CALLX_det hfd rfl rfl ?_
     unfold strm
     simp (maxSteps := 1000000) (disch := (first | omega | assumption)) only [go_sem]
     obtain ⟨⟨pe, re⟩, ⟨hae, hbe, ze, ke, rfl⟩, hfe⟩ := (odd_det 1 3 (by omega) (by omega) (by omega)) L pd hL hl (by omega) (by omega)
     simp only at hae hbe hfe
     refine CALLX_det hfe rfl rfl ?_
     unfold strm
     simp (maxSteps := 1000000) (disch := (first | omega | assumption)) only [go_sem]
     obtain ⟨⟨pf, rf⟩, ⟨haf, hbf, zf, kf, rfl⟩, hff⟩ := (pick_det false [(l.getD zc.toNat default).un, 0, 1] (by simp) (by simp)) L pe hL hl (by omega) (by omega)
     simp only at haf hbf hff
     refine CALLX_det hff rfl rfl ?_
     unfold strm
     simp (maxSteps := 1000000) (disch := (first | omega | assumption)) only [go_sem]
     exact ⟨pf, l.set zc.toNat { l.getD zc.toNat default with kd := ze, un := zf }, by omega, by omega, by simp; omega, opr_set g6 hsm, by simp [oprS_eq, List.map_set, opRow, strm]⟩
    refine CALLX_det hfd rfl rfl ?_
    unfold strm
    simp (maxSteps := 1000000) (disch := (first | omega | assumption)) only [go_sem]
    exact ⟨pd, l.set zc.toNat { l.getD zc.toNat default with al := ByteArray.mk #[] }, by omega, by omega, by simp; omega, opr_set g6 ⟨hsm.1, emp_sm, hsm.2.2⟩, by simp [oprS_eq, List.map_set, opRow, strm]⟩
  ·simp (maxSteps := 1000000) (disch := (first | omega | assumption)) only [go_sem]
   exact ⟨q, l, by omega, by omega, by omega, g6, rfl⟩
end Go.Proofs.YtfgkpbkphmeigaaGreatDoor
/-
 Two lists with parts of one: the second as a row that is handed back.
-/
namespace Go.Proofs.YtfgkpbkphmeigaaGreatDoor
open Go Go.Ai
set_option linter.unusedSimpArgs false
set_option linter.unusedVariables false
set_option maxHeartbeats 4000000
def C_hlfM : AC := (.seq (.seq (.seq (.reg false [gI 4 (.mv (.v (.slice none 0 0))),gI 5 (.mv (.v (.slice none 0 0)))] (kP [0,1,4,5,1000000] [1000000] []))
 (.own 4 34 6))
 (.own 5 34 6))
 (.seq (.seq (.reg false [gM 9 1,gI 10 (.len (.t 9)),gI 11 (.mv (oI 0))] (kP [0,4,5,9,10,11,1000000] [1000000] [4,5]))
 (.block 0 (.loop (.seq (.reg false [gI 12 (.bin .lss (.t 11) (.t 10))] (kP [0,4,5,9,10,11,12,1000000] [1000000] [4,5]))
 (.seq (.cond (.t 12)
 .skip
 (.exit 0))
 (.seq (.block 1 (.seq (.reg false [gI 13 (.iadr 6 (.t 9) (.t 11)),gI 14 (.load true 6 (.t 13)),gI 7 (.alloc [(.string (ByteArray.mk #[])),(.int .i64 (0)),(.int .i64 (0)),(.int .i64 (0)),(.string (ByteArray.mk #[])),(.int .i64 (0))]),gN (.store 6 (.t 7) (.t 14))] (kP [0,4,5,7,9,10,11,1000000] [7,1000000] [4,5]))
 (.seq (.reg false [gM 15 0,gI 16 (.callx (.f 71) [(.t 15),(oI 3)]),gM 8 16] (kP [0,4,5,7,8,9,10,11,1000000] [7,1000000] [4,5]))
 (.seq (.seq (.reg false [gM 17 8,gI 18 (.bin .neq (.t 17) (oI 1))] (kP [0,4,5,7,8,9,10,11,18,1000000] [7,1000000] [4,5]))
 (.cond (.t 18)
 (.reg false [gM 19 4,gI 20 (.load true 6 (.t 7)),gI 21 (.bslice 6 1 [(.t 20)]),gI 22 (.append 34 6 64 (.t 19) (.t 21)),gM 4 22] (kP [0,4,5,7,8,9,10,11,1000000] [7,1000000] [4,5]))
 .skip))
 (.seq (.reg false [gM 23 8,gI 24 (.bin .neq (.t 23) (oI 0))] (kP [0,4,5,7,9,10,11,24,1000000] [7,1000000] [4,5]))
 (.cond (.t 24)
 (.reg false [gM 25 5,gI 26 (.load true 6 (.t 7)),gI 27 (.bslice 6 1 [(.t 26)]),gI 28 (.append 34 6 64 (.t 25) (.t 27)),gM 5 28] (kP [0,4,5,9,10,11,1000000] [1000000] [4,5]))
 .skip))))))
 (.reg false [gI 29 (.bin .add (.t 11) (oI 1)),gM 11 29] (kP [0,4,5,9,10,11,1000000] [1000000] [4,5]))))))))
 (.seq (.reg false [gM 30 4,gM 31 5,gM 4 30,gM 5 31] (kP [4,5] [1000000] [5]))
 .ret)))
theorem fcm_hlfM : FmT Tryz.prog 74 Tryz.f74 C_hlfM [.t 4, .t 5] := fcm_mk [⟨(kP [0,1,4,5,1000000] [1000000] []),[(4,34,6),(5,34,6)],[],[],[]⟩,aN [0,4,5,9,10,11,1000000] [1000000] [4,5],aN [0,4,5,9,10,11,12,1000000] [1000000] [4,5],aN [0,4,5,7,9,10,11,1000000] [7,1000000] [4,5],aN [0,4,5,7,8,9,10,11,1000000] [7,1000000] [4,5],aN [0,4,5,7,8,9,10,11,18,1000000] [7,1000000] [4,5],aN [0,4,5,7,8,9,10,11,1000000] [7,1000000] [4,5],aN [0,4,5,7,9,10,11,24,1000000] [7,1000000] [4,5],aN [0,4,5,9,10,11,1000000] [1000000] [4,5],aN [0,4,5,9,10,11,1000000] [1000000] [4,5],aN [4,5] [1000000] [5]] Tryz.func74 (by kernel_rfl)
def C_hActM : AC := (.seq (.reg false [gI 4 (.mv (.v (.slice none 0 0))),gI 5 (.mv (.v (.slice none 0 0)))] (kP [0,1,1000000] [1000000] [5]))
 (.seq (.reg false [gM 6 0,gM 7 1,gI 8 (.callm (.f 74) [(.t 6),(.t 7)] ⟨[1000000],[],[1000000],[5],[]⟩),gI 9 (.extr (.t 8) 0),gI 10 (.extr (.t 8) 1),gM 4 9,gM 5 10] (kP [4,5,1000000] [1000000] [5]))
 .ret))
theorem fcm_hActM : FmT Tryz.prog 11 Tryz.f11 C_hActM [.t 4, .t 5] := fcm_mk [aN [0,1,1000000] [1000000] [5],⟨(kP [4,5,1000000] [1000000] [5]),[],[],[],[(8,⟨[1000000],[],[1000000],[5],[]⟩)]⟩] Tryz.func11 (by kernel_rfl)
section
variable {P : Program} {s : AS} {k : List KI} {kp : Option Keep} {l : List GI} {Q : AX → AS → Prop}
theorem CALLM_RA {f : FuncId} {H : Hp} {vargs : List Val} {m : CAnn} {d : Option Nat} {R : Hp → Val → Prop} (hf : FCMS P f m.sts H vargs R) (hne : ∃ H r, R H r) (h : ∀ H r, R H r → hkOk m H ∧ rg P l kp k Q ((s.after m H).put d (s.backV m r))) : CALLM P f H vargs m d l kp k Q s := ⟨R, hf, hne, h⟩
theorem CALLM_RnA {f : FuncId} {S : List Nat} {H0 H : Hp} {args0 vargs : List Val} {m : CAnn} {d : Option Nat} {R : Hp → Val → Prop} (p q : Nat → Nat) (hp : ∀ k, p (p k) = k) (hq : ∀ k, q (q k) = k) (hf : FCMS P f S H0 args0 R) (hna : ∀ x ∈ args0, ∀ xs, x ≠ .tu xs)
  (hS : S.map q = m.sts) (hH : H0.rn p q = H) (ha : args0.map (rnV p q) = vargs) (hne : ∃ H r, R H r) (h : ∀ H1 r1, R H1 r1 → hkOk m (H1.rn p q) ∧ rg P l kp k Q ((s.after m (H1.rn p q)).put d (s.backV m (rnV p q r1)))) (hb : H0.bs.all (fun x => bldK x.1 == bldK (p x.1)) = true := by rfl) : CALLM P f H vargs m d l kp k Q s := by
 subst hH; subst ha
 obtain ⟨H2, r2, h2⟩ := hne
 refine ⟨_, hS ▸ fcms_rn hp hq hna hf hb, ⟨_, _, H2, r2, h2, rfl, rfl⟩, ?_⟩
 rintro H' r' ⟨H1, r1, h1, rfl, rfl⟩
 exact h H1 r1 h1
end
def hmSt (L : List Int) (l : List Opr) (i q : Int) (a b : List Opr) : AS := ⟨tabV [(0, .one (.bx 1000000 0)), (4, .one (.ow 4 0)), (5, .one (.ow 5 0)), (9, oprs false l), (10, iv l.length), (11, iv i), (1000000, .any)], tabO [(1000000, strm L q)], tabO [(4, opRow a), (5, opRow b)]⟩
theorem frE_opr2 (l : List Opr) : frE (l.map oprS) = true := frE_map (fun _ => rfl) l
set_option maxHeartbeats 4000000 in
theorem half_fcm (L : List Int) (p : Int) (hL : ∀ x ∈ L, I64 x) (hl0 : L.length ≤ 9223372036854775807) (h0 : 0 ≤ p) (hp : p + 1000 ≤ 4611686018427387904) (l : List Opr) (hl : l.length ≤ 1000) (hsm : ∀ x ∈ l, x.sm) :
  FCM Tryz.prog 74 ⟨[(1000000, strm L p)], []⟩ [.one (.bx 1000000 0), oprs false l] (fun H r => ∃ q a b, p ≤ q ∧ q ≤ p + l.length ∧ a.length ≤ l.length ∧ b.length ≤ l.length ∧ (∀ x ∈ a, x.sm) ∧ (∀ x ∈ b, x.sm) ∧ H = ⟨[(1000000, strm L q)], [(5, opRow b)]⟩ ∧ r = .tu [oprs true a, .one (.ow 5 0)]) := by
 refine fcm_hlfM (K := ⟨[], [1000000], [5]⟩) (by simp +arith) (by simp [XK]) (by simp [XK]) ?_
 unfold C_hlfM strm
 simp (maxSteps := 1000000) (disch := (first | omega | assumption)) only [go_sem]
 refine ex_loop4 (hmSt L l) (fun i q a b => 0 ≤ i ∧ i ≤ l.length ∧ p ≤ q ∧ q ≤ p + i ∧ (a.length : Int) ≤ i ∧ (b.length : Int) ≤ i ∧ (∀ x ∈ a, x.sm) ∧ (∀ x ∈ b, x.sm)) (fun i _ _ _ => (l.length - i).toNat) 0 p [] [] ⟨by omega, by omega, by omega, by omega, by simp, by simp, by simp, by simp⟩ rfl ?_
 rintro i q a b ⟨g1, g2, g3, g4, g5, g6, g7, g8⟩
 unfold hmSt strm
 by_cases hi : i < l.length
 ·have em := getD_map_at oprS l i [] g1 hi
  have hxm := hsm _ (getD_mem l i.toNat (by omega))
  have ha2 : ∀ x ∈ a ++ [l.getD i.toNat default], x.sm := fun x hx => by
   rcases List.mem_append.1 hx with h | h
   ·exact g7 x h
   ·rw [List.mem_singleton.1 h]; exact hxm
  have hb2 : ∀ x ∈ b ++ [l.getD i.toNat default], x.sm := fun x hx => by
   rcases List.mem_append.1 hx with h | h
   ·exact g8 x h
   ·rw [List.mem_singleton.1 h]; exact hxm
  simp (maxSteps := 1000000) (disch := (first | omega | assumption)) only [go_sem]
  obtain ⟨⟨p', r⟩, ⟨h4, h5, z, h6, h7, rfl⟩, hf⟩ := (next_det 3 (by omega) (by omega)) L q hL hl0 (by omega) (by omega)
  simp only at h4 h5 hf
  refine CALLX_det hf rfl rfl ?_
  unfold strm
  by_cases hz0 : z = 0
  ·subst hz0
   simp (maxSteps := 1000000) (disch := (first | omega | assumption)) only [go_sem]
   exact ⟨i + 1, p', a ++ [l.getD i.toNat default], b, by simp only [hmSt, strm, opRow, List.map_append, List.map_cons, List.map_nil, oprS_eq], ⟨by omega, by omega, by omega, by omega, by simp; omega, by omega, ha2, g8⟩, by omega⟩
  ·by_cases hz1 : z = 1
   ·subst hz1
    simp (maxSteps := 1000000) (disch := (first | omega | assumption)) only [go_sem]
    exact ⟨i + 1, p', a, b ++ [l.getD i.toNat default], by simp only [hmSt, strm, opRow, List.map_append, List.map_cons, List.map_nil, oprS_eq], ⟨by omega, by omega, by omega, by omega, by omega, by simp; omega, g7, hb2⟩, by omega⟩
   ·simp (maxSteps := 1000000) (disch := (first | omega | assumption)) only [go_sem]
    exact ⟨i + 1, p', a ++ [l.getD i.toNat default], b ++ [l.getD i.toNat default], by simp only [hmSt, strm, opRow, List.map_append, List.map_cons, List.map_nil, oprS_eq], ⟨by omega, by omega, by omega, by omega, by simp; omega, by simp; omega, ha2, hb2⟩, by omega⟩
 ·simp (maxSteps := 1000000) (disch := (first | omega | assumption)) only [go_sem]
  exact ⟨q, a, b, by omega, by omega, by omega, by omega, g7, g8, rfl, rfl⟩
theorem halfA_fcm (L : List Int) (p : Int) (hL : ∀ x ∈ L, I64 x) (hl0 : L.length ≤ 9223372036854775807) (h0 : 0 ≤ p) (hp : p + 1000 ≤ 4611686018427387904) (l : List Opr) (hl : l.length ≤ 1000) (hsm : ∀ x ∈ l, x.sm) :
  FCM Tryz.prog 11 ⟨[(1000000, strm L p)], []⟩ [.one (.bx 1000000 0), oprs false l] (fun H r => ∃ q a b, p ≤ q ∧ q ≤ p + l.length ∧ a.length ≤ l.length ∧ b.length ≤ l.length ∧ (∀ x ∈ a, x.sm) ∧ (∀ x ∈ b, x.sm) ∧ H = ⟨[(1000000, strm L q)], [(5, opRow b)]⟩ ∧ r = .tu [oprs true a, .one (.ow 5 0)]) := by
 refine fcm_hActM (K := ⟨[], [1000000], [5]⟩) (by simp +arith) (by simp [XK]) (by simp [XK]) ?_
 unfold C_hActM strm
 simp (maxSteps := 1000000) (disch := (first | omega | assumption)) only [go_sem]
 refine ⟨rfl, CALLM_RA (half_fcm L p hL hl0 h0 hp l hl hsm) ⟨_, _, p, [], [], by omega, by omega, by simp, by simp, by simp, by simp, rfl, rfl⟩ ?_⟩
 rintro H r ⟨q, a, b, h1, h2, h3, h4, h5, h6, rfl, rfl⟩
 refine ⟨.inl ⟨rfl, rfl⟩, ?_⟩
 unfold strm
 simp (maxSteps := 1000000) (disch := (first | omega | assumption)) only [go_sem]
 exact ⟨q, a, b, h1, h2, h3, h4, h5, h6, rfl, rfl⟩
end Go.Proofs.YtfgkpbkphmeigaaGreatDoor
