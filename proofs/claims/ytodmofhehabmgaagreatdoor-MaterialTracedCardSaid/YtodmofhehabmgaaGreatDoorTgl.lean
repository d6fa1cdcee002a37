/-
 Transfers that streams draw: one list from one stream.
-/
import Derived.Test.YtodmofhehabmgaaGreatDoorLnk
namespace Go.Proofs.YtodmofhehabmgaaGreatDoor
open Go Go.Ai
set_option linter.unusedSimpArgs false
set_option linter.unusedVariables false
set_option maxHeartbeats 4000000
def C_trList : AC := (.seq (.reg false [gI 2 (.mv (.v (.slice none 0 0)))] (kP [0] [0] []))
 (.seq (.seq (.reg false [gI 3 (.mv (.v (.slice none 0 0)))] (kP [0,3] [0] []))
 (.own 3 54 3))
 (.seq (.reg false [gI 10 (.bslice 1 5 [(.v (.string (ByteArray.mk #[98,49]))),(.v (.string (ByteArray.mk #[98,50]))),(.v (.string (ByteArray.mk #[98,51]))),(.v (.string (ByteArray.mk #[98,52]))),(.v (.string (ByteArray.mk #[98,53])))]),gM 4 10] (kP [0,3,4] [0] [3]))
 (.seq (.seq (.reg false [gM 11 4,gI 12 (.len (.t 11)),gI 13 (.mv (oI 0))] (kP [0,3,4,11,12,13] [0] [3]))
 (.block 0 (.loop (.seq (.reg false [gI 14 (.bin .lss (.t 13) (.t 12))] (kP [0,3,4,11,12,13,14] [0] [3]))
 (.seq (.cond (.t 14)
 .skip
 (.exit 0))
 (.seq (.block 1 (.seq (.reg false [gM 15 13,gI 16 (.iadr 1 (.t 11) (.t 13)),gI 17 (.load false 1 (.t 16)),gM 5 15,gM 6 17] (kP [0,3,4,5,6,11,12,13] [0] [3]))
 (.seq (.reg false [gM 18 4,gM 19 5,gI 20 (.bin .add (.t 19) (oI 1)),gI 21 (.slc 1 (.t 18) (some (.t 20)) none),gI 22 (.len (.t 21)),gI 23 (.mv (oI 0))] (kP [0,3,4,6,11,12,13,21,22,23] [0] [3]))
 (.block 2 (.loop (.seq (.reg false [gI 24 (.bin .lss (.t 23) (.t 22))] (kP [0,3,4,6,11,12,13,21,22,23,24] [0] [3]))
 (.seq (.cond (.t 24)
 .skip
 (.exit 2))
 (.seq (.block 3 (.seq (.reg false [gI 25 (.iadr 1 (.t 21) (.t 23)),gI 26 (.load false 1 (.t 25)),gM 8 26] (kP [0,3,4,6,8,11,12,13,21,22,23] [0] [3]))
 (.seq (.reg false [gM 27 0,gI 28 (.callx (.f 7) [(.t 27),(oI 2)])] (kP [0,3,4,6,8,11,12,13,21,22,23,28] [0] [3]))
 (.cond (.t 28)
 (.reg false [gM 29 3,gM 30 6,gM 31 8,gM 32 0,gI 33 (.bslice 1 5 [(oI 1),(oI 2),(oI 3),(oI 10),(oI 30)]),gI 34 (.callx (.f 30) [(.t 32),(.t 33)]),gI 35 (.build [(.string (ByteArray.mk #[])),(.string (ByteArray.mk #[])),(.int .i64 (0))] [(0,1,(.t 30)),(1,1,(.t 31)),(2,1,(.t 34))]),gI 36 (.bslice 3 1 [(.t 35)]),gI 37 (.append 54 3 40 (.t 29) (.t 36)),gM 3 37] (kP [0,3,4,6,11,12,13,21,22,23] [0] [3]))
 .skip))))
 (.reg false [gI 38 (.bin .add (.t 23) (oI 1)),gM 23 38] (kP [0,3,4,6,11,12,13,21,22,23] [0] [3]))))))))))
 (.reg false [gI 39 (.bin .add (.t 13) (oI 1)),gM 13 39] (kP [0,3,4,11,12,13] [0] [3]))))))))
 (.seq (.seq (.reg false [gM 40 3,gI 41 (.len (.t 40)),gI 42 (.bin .gtr (.t 41) (oI 0)),gM 43 42,gG 44 43 true (.mv (.t 0)),gG 45 43 true (.callx (.f 7) [(.t 44),(oI 12)]),gI 46 (.pick (.t 43) (.t 45) (.v (.bool false)))] (kP [0,3,46] [0] [3]))
 (.cond (.t 46)
 (.seq (.reg false [gM 47 3,gM 48 0,gM 49 3,gI 50 (.len (.t 49)),gI 51 (.callx (.f 31) [(.t 48),(.t 50)]),gI 52 (.iadr 3 (.t 47) (.t 51)),gM 9 52] (kP [0,3,9] [0] [3]))
 (.seq (.reg false [gM 53 0,gI 54 (.callx (.f 31) [(.t 53),(oI 3)])] (kP [0,3,9,54] [0] [3]))
 (.block 4 (.seq (.reg false [gI 70 (.bin .eql (.t 54) (oI 0)),gM 69 70] (kP [0,3,9,54,69] [0] [3]))
 (.cond (.t 69)
 (.reg true [gM 71 9,gM 72 9,gM 73 0,gM 74 9,gI 75 (.nilchk (.t 74)),gI 76 (.fadr 0 (.t 75)),gI 77 (.load false 1 (.t 76)),gI 78 (.bslice 1 3 [(.t 77),(.v (.string (ByteArray.mk #[]))),(.v (.string (ByteArray.mk #[98,57])))]),gN (.chk (.t 73) (some 0)),gI 79 (.callx (.f 5) [(.t 73),(.t 78)]),gM 80 0,gM 81 9,gN (.chk (.t 81) (some 999999999)),gI 82 (.nilchk (.t 81)),gN (.chk (.t 82) (some 999999999)),gI 83 (.fadr 1 (.t 82)),gN (.chk (.t 83) (some 999999999)),gI 84 (.load false 1 (.t 83)),gM 85 9,gN (.chk (.t 85) (some 999999999)),gI 86 (.nilchk (.t 85)),gN (.chk (.t 86) (some 999999999)),gI 87 (.fadr 0 (.t 86)),gN (.chk (.t 87) (some 999999999)),gI 88 (.load false 1 (.t 87)),gI 89 (.bslice 1 2 [(.t 84),(.t 88)]),gI 90 (.callx (.f 5) [(.t 80),(.t 89)]),gI 91 (.nilchk (.t 71)),gI 92 (.fadr 0 (.t 91)),gN (.store 1 (.t 92) (.t 79)),gI 93 (.nilchk (.t 72)),gI 94 (.fadr 1 (.t 93)),gN (.store 1 (.t 94) (.t 90))] (kP [3] [0] []))
 (.seq (.reg false [gI 96 (.bin .eql (.t 54) (oI 1)),gM 95 96] (kP [0,3,9,95] [0] [3]))
 (.cond (.t 95)
 (.reg false [gM 97 9,gM 98 0,gI 99 (.callx (.f 32) [(.t 98),(oI 1),(oI 1000000)]),gI 100 (.nilchk (.t 97)),gI 101 (.fadr 2 (.t 100)),gN (.store 1 (.t 101) (.t 99))] (kP [3] [0] []))
 (.reg true [gM 55 9,gM 56 9,gM 57 9,gI 58 (.nilchk (.t 57)),gI 59 (.fadr 1 (.t 58)),gI 60 (.load false 1 (.t 59)),gM 61 9,gI 62 (.nilchk (.t 61)),gI 63 (.fadr 0 (.t 62)),gI 64 (.load false 1 (.t 63)),gI 65 (.nilchk (.t 55)),gI 66 (.fadr 0 (.t 65)),gN (.store 1 (.t 66) (.t 60)),gI 67 (.nilchk (.t 56)),gI 68 (.fadr 1 (.t 67)),gN (.store 1 (.t 68) (.t 64))] (kP [3] [0] [])))))))))
 .skip))
 (.seq (.reg false [gM 102 3,gM 2 102] (kP [2] [0] []))
 .ret))))))
theorem fc_trList : FcT Tryz.prog 4 Tryz.f4 C_trList [.t 2] := fc_mk [aN [0] [0] [],⟨(kP [0,3] [0] []),[(3,54,3)],[],[],[]⟩,aN [0,3,4] [0] [3],aN [0,3,4,11,12,13] [0] [3],aN [0,3,4,11,12,13,14] [0] [3],aN [0,3,4,5,6,11,12,13] [0] [3],aN [0,3,4,6,11,12,13,21,22,23] [0] [3],aN [0,3,4,6,11,12,13,21,22,23,24] [0] [3],aN [0,3,4,6,8,11,12,13,21,22,23] [0] [3],aN [0,3,4,6,8,11,12,13,21,22,23,28] [0] [3],aN [0,3,4,6,11,12,13,21,22,23] [0] [3],aN [0,3,4,6,11,12,13,21,22,23] [0] [3],aN [0,3,4,11,12,13] [0] [3],aN [0,3,46] [0] [3],aN [0,3,9] [0] [3],aN [0,3,9,54] [0] [3],aN [0,3,9,54,69] [0] [3],⟨(kP [3] [0] []),[],[(8,(some 0)),(11,(some 999999999)),(12,(some 999999999)),(13,(some 999999999)),(15,(some 999999999)),(16,(some 999999999)),(17,(some 999999999))],[],[]⟩,aN [0,3,9,95] [0] [3],aN [3] [0] [],aN [3] [0] [],aN [2] [0] []] Tryz.func4 (by kernel_rfl)
def C_rightTr : AC := (.seq (.reg false [gI 2 (.mv (.v (.slice none 0 0)))] (kP [0] [0] []))
 (.seq (.seq (.reg false [gI 4 (.mv (oI 0))] (kP [0,4] [0] []))
 (.block 0 (.loop (.seq (.reg false [gI 5 (.bin .lss (.t 4) (oI 6))] (kP [0,4,5] [0] []))
 (.seq (.cond (.t 5)
 .skip
 (.exit 0))
 (.seq (.block 1 (.seq (.reg false [gM 6 0,gI 7 (.callx (.f 4) [(.t 6)]),gM 3 7] (kP [0,3,4] [0] []))
 (.seq (.reg false [gM 8 3,gI 9 (.call (.f 9) [(.t 8)]),gI 10 (.bin .eql (.t 9) (oI 0))] (kP [0,3,4,10] [0] []))
 (.cond (.t 10)
 (.seq (.reg false [gM 11 3,gM 2 11] (kP [2] [0] []))
 .ret)
 .skip))))
 (.reg false [gI 12 (.bin .add (.t 4) (oI 1)),gM 4 12] (kP [0,4] [0] []))))))))
 (.seq (.seq (.reg false [gI 2 (.mv (.v (.slice none 0 0)))] (kP [2] [0] []))
 (.ty 2 3))
 .ret)))
theorem fc_rightTr : FcT Tryz.prog 68 Tryz.f68 C_rightTr [.t 2] := fc_mk [aN [0] [0] [],aN [0,4] [0] [],aN [0,4,5] [0] [],aN [0,3,4] [0] [],aN [0,3,4,10] [0] [],aN [2] [0] [],aN [0,4] [0] [],⟨(kP [2] [0] []),[],[],[(2,3)],[]⟩] Tryz.func68 (by kernel_rfl)
section
variable {P : Program} {s : AS} {Y : Type}
/-- A loop that ends with one result, within another one. -/
theorem loopK {k : Y → List KI} {X : Type} (st : X → AS) (I : X → Prop) (μ : X → Nat) {a : AC} {Q : Y → AX → AS → Prop} {B : Y → Prop} (x0 : X) (h0 : I x0) (hs : s = st x0)
  (round : ∀ (G : X → Y → Prop) (x : X), I x → (∀ x', I x' → μ x' < μ x → ∃ y, B y ∧ G x' y) → ∃ y, B y ∧ ex P a (.lp (fun s' => ∃ x', s' = st x' ∧ μ x' < μ x ∧ G x' y) :: k y) (Q y) (st x)) :
  ∃ y, B y ∧ ex P (.loop a) (k y) (Q y) s := by
 have key : ∀ n x, μ x = n → I x → ∃ y, B y ∧ rnd P a (k y) (Q y) (μ x + 1) (st x) := by
  intro n
  induction n using Nat.strongRecOn with
  | _ n ih =>
   intro x hx hI
   obtain ⟨y, hB, h⟩ := round (fun x' y => rnd P a (k y) (Q y) (μ x' + 1) (st x')) x hI (fun x' h1 h2 => ih (μ x') (by omega) x' rfl h1)
   refine ⟨y, hB, awp_mono a _ _ (fun e s h => ?_) _ h⟩
   cases e with
   | nrm =>
    obtain ⟨x', rfl, h1, h2⟩ := h
    exact rnd_le (by omega) h2
   | ret => exact h
   | ex id => exact h
 subst hs
 obtain ⟨y, hB, h⟩ := key _ x0 rfl h0
 exact ⟨y, hB, ex_rnd _ h⟩
end
abbrev trRow (l : List Trf) : Row := ⟨0, 54, 3, l.map trC⟩
theorem frE_tr (l : List Trf) : frE (l.map trC) = true := frE_map (fun _ => rfl) l
attribute [go_sem] frE_tr
theorem getE_set_mapA {α β : Type} (f : α → β) (l : List α) (i : Nat) (x : β) (h : i < l.length) : ((l.map f).set i x)[i]? = some x := by
 rw [List.getElem?_set_self (by simpa using h)]
theorem set_map_setA {α β : Type} (f : α → β) (l : List α) (i : Nat) (x y : β) : ((l.map f).set i x).set i y = (l.map f).set i y := by simp
attribute [go_sem] getE_set_mapA set_map_setA
def Trf.sm (x : Trf) : Prop := x.frm.size ≤ 1000 ∧ x.to.size ≤ 1000
def bN : List ByteArray := [ByteArray.mk #[98, 49], ByteArray.mk #[98, 50], ByteArray.mk #[98, 51], ByteArray.mk #[98, 52], ByteArray.mk #[98, 53]]
theorem eb5 : ([[Cel.g (.string (ByteArray.mk #[98, 49]))], [.g (.string (ByteArray.mk #[98, 50]))], [.g (.string (ByteArray.mk #[98, 51]))], [.g (.string (ByteArray.mk #[98, 52]))], [.g (.string (ByteArray.mk #[98, 53]))]] : List (List Cel)) = bN.map strC := (rfl)
theorem smsT (l : List ByteArray) (h : l.all (fun b => decide (b.size ≤ 1000)) = true) : ∀ b ∈ l, b.size ≤ 1000 := fun b hb => of_decide_eq_true (List.all_eq_true.1 h b hb)
theorem bN_sm : ∀ b ∈ bN, b.size ≤ 1000 := smsT bN (by kernel_rfl)
theorem bN_len : bN.length = 5 := rfl
structure TlX where
 i : Int
 q : Int
 l : List Trf
def tl1 (L : List Int) (x : TlX) : AS := ⟨tabV [(0, .one (.bx 0 0)), (3, .one (.ow 3 0)), (4, strs true bN), (11, strs true bN), (12, iv 5), (13, iv x.i)], tabO [(0, strm L x.q)], tabO [(3, trRow x.l)]⟩
def tl2 (L : List Int) (i : Int) (a : ByteArray) (D : List ByteArray) (x : TlX) : AS := ⟨tabV [(0, .one (.bx 0 0)), (3, .one (.ow 3 0)), (4, strs true bN), (6, sv a), (11, strs true bN), (12, iv 5), (13, iv i), (21, strs true D), (22, iv D.length), (23, iv x.i)], tabO [(0, strm L x.q)], tabO [(3, trRow x.l)]⟩
theorem smT_app {l : List Trf} {x : Trf} (h : ∀ y ∈ l, y.sm) (hx : x.sm) : ∀ y ∈ l ++ [x], y.sm := fun y hy => by
 rcases List.mem_append.1 hy with hy | hy
 ·exact h y hy
 ·simp at hy; subst hy; exact hx
theorem smT_set {l : List Trf} {x : Trf} {k : Nat} (h : ∀ y ∈ l, y.sm) (hx : x.sm) : ∀ y ∈ l.set k x, y.sm := fun y hy => by
 rcases List.mem_or_eq_of_mem_set hy with hy | rfl
 ·exact h y hy
 ·exact hx
theorem empT_sm : (ByteArray.mk #[]).size ≤ 1000 := of_decide_eq_true (by kernel_rfl)
set_option maxHeartbeats 12000000 in
set_option maxRecDepth 8000 in
theorem trList_det : GenD Tryz.prog 4 [] 100 (fun r => ∃ l : List Trf, l.length ≤ 13 ∧ (∀ x ∈ l, x.sm) ∧ r = trs true l) := by
 refine genD_of (fun L p R' h => fc_trList (xt := some (strm L p)) (args := []) (R := R') (by simp +arith) h) ?_
 intro L p hL hl h0 hp
 unfold C_trList strm
 simp (maxSteps := 1000000) (disch := omega) only [go_sem]
 rw [eb5]
 refine loopD (tl1 L) (fun x => 0 ≤ x.i ∧ x.i ≤ 5 ∧ (x.l.length ≤ 4 * x.i ∧ x.l.length ≤ 2 * x.i + 3) ∧ p ≤ x.q ∧ x.q ≤ p + 8 * x.i ∧ ∀ y ∈ x.l, y.sm) (fun x => (5 - x.i).toNat) ⟨0, p, []⟩ ⟨by simp, by simp, by simp, by simp, by simp, by simp⟩ rfl ?_
 rintro G ⟨i, q, l⟩ ⟨g1, g2, g3, g4, g5, g6⟩ IH
 simp only at g1 g2 g3 g4 g5 g6
 unfold tl1 strm
 by_cases hi : i < 5
 ·have em := getD_str bN i g1 (by have := bN_len; omega)
  have h5 := bN_len
  have asm := bN_sm _ (getD_memB bN i.toNat (by omega))
  have hDs : ∀ b ∈ bN.drop (i + 1).toNat, b.size ≤ 1000 := fun b hb => bN_sm b (List.mem_of_mem_drop hb)
  have hDl : (bN.drop (i + 1).toNat).length = 5 - (i + 1).toNat := by rw [List.length_drop, bN_len]
  have hdm : (bN.map strC).drop (i + 1).toNat = (bN.drop (i + 1).toNat).map strC := by rw [List.map_drop]
  simp (maxSteps := 1000000) (disch := omega) only [go_sem]
  rw [hdm, List.length_map]
  generalize bN.getD i.toNat default = a at *
  generalize bN.drop (i + 1).toNat = D at *
  refine loopK (tl2 L i a D) (fun x => 0 ≤ x.i ∧ x.i ≤ D.length ∧ (x.l.length ≤ 4 * i + x.i ∧ x.l.length ≤ l.length + x.i) ∧ p ≤ x.q ∧ x.q ≤ p + 8 * i + 2 * x.i ∧ ∀ y ∈ x.l, y.sm) (fun x => (D.length - x.i).toNat) ⟨0, q, l⟩ ⟨by simp, by simp, by simp only; omega, by simp only; omega, by simp only; omega, g6⟩ rfl ?_
  rintro G2 ⟨j, q2, l2⟩ ⟨k1, k2, k3, k4, k5, k6⟩ IH2
  simp only at k1 k2 k3 k4 k5 k6
  unfold tl2 strm
  by_cases hj : j < D.length
  ·have em2 := getD_str D j k1 hj
   have dsm := hDs _ (getD_memB D j.toNat (by omega))
   simp (maxSteps := 1000000) (disch := omega) only [go_sem]
   obtain ⟨⟨pa, ra⟩, ⟨haa, hba, ba, rfl⟩, hfa⟩ := (flip_det 2 (by omega) (by omega)) L q2 hL hl (by omega) (by omega)
   simp only at haa hba hfa
   cases ba with
   | true =>
    refine exX hfa rfl rfl ?_
    unfold strm
    simp (maxSteps := 1000000) (disch := (first | omega | assumption)) only [go_sem]
    obtain ⟨⟨pb, rb⟩, ⟨hab, hbb, zb, kb, rfl⟩, hfb⟩ := (pick_det false [1, 2, 3, 10, 30] (by simp) (by simp)) L pa hL hl (by omega) (by omega)
    simp only at hab hbb hfb
    refine exX hfb rfl rfl ?_
    unfold strm
    simp (maxSteps := 1000000) (disch := (first | omega | assumption)) only [go_sem]
    obtain ⟨yy, hB, hG⟩ := IH2 ⟨j + 1, pb, l2 ++ [⟨a, D.getD j.toNat default, zb⟩]⟩ ⟨by simp only; omega, by simp only; omega, by simp only [List.length_append, List.length_singleton]; omega, by simp only; omega, by simp only; omega, smT_app k6 ⟨asm, dsm⟩⟩ (by simp only; omega)
    exact ⟨yy, hB, _, by simp only [tl2, strm, trRow, List.map_append, List.map_cons, List.map_nil, trC_eq], by simp only; omega, hG⟩
   | false =>
    refine exX hfa rfl rfl ?_
    unfold strm
    simp (maxSteps := 1000000) (disch := (first | omega | assumption)) only [go_sem]
    obtain ⟨yy, hB, hG⟩ := IH2 ⟨j + 1, pa, l2⟩ ⟨by simp only; omega, by simp only; omega, by simp only; omega, by simp only; omega, by simp only; omega, k6⟩ (by simp only; omega)
    exact ⟨yy, hB, _, rfl, by simp only; omega, hG⟩
  ·clear IH2
   simp (maxSteps := 1000000) (disch := omega) only [go_sem]
   obtain ⟨yy, hB, hG⟩ := IH ⟨i + 1, q2, l2⟩ ⟨by simp only; omega, by simp only; omega, by simp only; omega, by simp only; omega, by simp only; omega, k6⟩ (by simp only; omega)
   exact ⟨yy, hB, _, rfl, by simp only; omega, hG⟩
 ·clear IH
  have g7 : q ≤ p + 40 := by omega
  by_cases hn : 0 < l.length
  ·simp (maxSteps := 1000000) (disch := (first | omega | assumption)) only [go_sem]
   obtain ⟨⟨pb, rb⟩, ⟨hab, hbb, bb, rfl⟩, hfb⟩ := (flip_det 12 (by omega) (by omega)) L q hL hl (by omega) (by omega)
   simp only at hab hbb hfb
   cases bb with
   | false =>
    refine exX hfb rfl rfl ?_
    unfold strm
    simp (maxSteps := 1000000) (disch := (first | omega | assumption)) only [go_sem]
    exact ⟨(pb, _), ⟨by simp only; omega, by simp only; omega, l, by omega, g6, rfl⟩, rfl, rfl⟩
   | true =>
    refine exX hfb rfl rfl ?_
    unfold strm
    simp (maxSteps := 1000000) (disch := (first | omega | assumption)) only [go_sem]
    obtain ⟨⟨pc, rc⟩, ⟨hac, hbc, zc, kc, nc, rfl⟩, hfc⟩ := (next_det l.length (by omega) (by omega)) L pb hL hl (by omega) (by omega)
    simp only at hac hbc hfc
    refine exX hfc rfl rfl ?_
    unfold strm
    simp (maxSteps := 1000000) (disch := (first | omega | assumption)) only [go_sem]
    have eo := getE_map_in trC l zc.toNat (by omega)
    have hsm := g6 _ (getD_mem l zc.toNat (by omega))
    obtain ⟨⟨pd, rd⟩, ⟨had, hbd, zd, kd, nd, rfl⟩, hfd⟩ := (next_det 3 (by omega) (by omega)) L pc hL hl (by omega) (by omega)
    simp only at had hbd hfd
    by_cases d0 : zd = 0
    ·refine exX hfd rfl rfl ?_
     unfold strm
     simp (maxSteps := 1000000) (disch := (first | omega | assumption)) only [go_sem]
     obtain ⟨⟨pe, re⟩, ⟨hae, hbe, ze, ke, rfl⟩, hfe⟩ := (some_det false [(l.getD zc.toNat default).frm, ByteArray.mk #[], ByteArray.mk #[98, 57]] (by simp) (by simp)) L pd hL hl (by omega) (by omega)
     simp only at hae hbe hfe
     refine exX hfe rfl rfl ?_
     unfold strm
     simp (maxSteps := 1000000) (disch := (first | omega | assumption)) only [go_sem]
     obtain ⟨⟨pf, rf⟩, ⟨haf, hbf, zf, kf, rfl⟩, hff⟩ := (some_det false [(l.getD zc.toNat default).to, (l.getD zc.toNat default).frm] (by simp) (by simp)) L pe hL hl (by omega) (by omega)
     simp only at haf hbf hff
     refine exX hff rfl rfl ?_
     unfold strm
     simp (maxSteps := 1000000) (disch := (first | omega | assumption)) only [go_sem]
     have s1 : ze.size ≤ 1000 := by
      simp only [List.mem_cons, List.not_mem_nil, or_false] at ke
      rcases ke with rfl | rfl | rfl
      ·exact hsm.1
      ·exact empT_sm
      ·exact of_decide_eq_true (by kernel_rfl)
     have s2 : zf.size ≤ 1000 := by
      simp only [List.mem_cons, List.not_mem_nil, or_false] at kf
      rcases kf with rfl | rfl
      ·exact hsm.2
      ·exact hsm.1
     exact ⟨(pf, _), ⟨by simp only; omega, by simp only; omega, l.set zc.toNat { l.getD zc.toNat default with frm := ze, to := zf }, by simp; omega, smT_set g6 ⟨s1, s2⟩, by simp [trC_eq, List.map_set, frE_set, frE_tr, freshC]⟩, rfl, rfl⟩
    by_cases d1 : zd = 1
    ·refine exX hfd rfl rfl ?_
     unfold strm
     simp (maxSteps := 1000000) (disch := (first | omega | assumption)) only [go_sem]
     obtain ⟨⟨pe, re⟩, ⟨hae, hbe, ze, ke, rfl⟩, hfe⟩ := (odd_det 1 1000000 (by omega) (by omega) (by omega)) L pd hL hl (by omega) (by omega)
     simp only at hae hbe hfe
     refine exX hfe rfl rfl ?_
     unfold strm
     simp (maxSteps := 1000000) (disch := (first | omega | assumption)) only [go_sem]
     exact ⟨(pe, _), ⟨by simp only; omega, by simp only; omega, l.set zc.toNat { l.getD zc.toNat default with amt := ze }, by simp; omega, smT_set g6 hsm, by simp [trC_eq, List.map_set, frE_set, frE_tr, freshC]⟩, rfl, rfl⟩
    refine exX hfd rfl rfl ?_
    unfold strm
    simp (maxSteps := 1000000) (disch := (first | omega | assumption)) only [go_sem]
    exact ⟨(pd, _), ⟨by simp only; omega, by simp only; omega, l.set zc.toNat { l.getD zc.toNat default with frm := (l.getD zc.toNat default).to, to := (l.getD zc.toNat default).frm }, by simp; omega, smT_set g6 ⟨hsm.2, hsm.1⟩, by simp [trC_eq, List.map_set, frE_set, frE_tr, freshC]⟩, rfl, rfl⟩
  ·simp (maxSteps := 1000000) (disch := (first | omega | assumption)) only [go_sem]
   exact ⟨(q, _), ⟨by simp only; omega, by simp only; omega, l, by omega, g6, rfl⟩, rfl, rfl⟩
def rtSt (L : List Int) (j q : Int) : AS := ⟨tabV [(0, .one (.bx 0 0)), (4, iv j)], tabO [(0, strm L q)], tabO []⟩
theorem rightTr_det : GenD Tryz.prog 68 [] 1000 (fun r => ∃ l : List Trf, ctF l = 0 ∧ l.length ≤ 13 ∧ (∀ x ∈ l, x.sm) ∧ r = trs true l) := by
 refine genD_of (fun L p R' h => fc_rightTr (xt := some (strm L p)) (args := []) (R := R') (by simp +arith) h) ?_
 intro L p hL hl h0 hp
 unfold C_rightTr strm
 simp (maxSteps := 1000000) (disch := omega) only [go_sem]
 refine loopD (fun x : Int × Int => rtSt L x.1 x.2) (fun x => 0 ≤ x.1 ∧ x.1 ≤ 6 ∧ p ≤ x.2 ∧ x.2 ≤ p + 100 * x.1) (fun x => (6 - x.1).toNat) (0, p) ⟨by simp, by simp, by simp, by simp⟩ rfl ?_
 rintro G ⟨j, q⟩ ⟨g1, g2, g3, g4⟩ IH
 simp only at g1 g2 g3 g4
 unfold rtSt strm
 by_cases hj : j < 6
 ·simp (maxSteps := 1000000) (disch := omega) only [go_sem]
  obtain ⟨⟨q', r⟩, ⟨h1, h2, l, hll, hsm, rfl⟩, hf⟩ := trList_det L q hL hl (by omega) (by omega)
  simp only at h1 h2 hf
  refine exX hf rfl rfl ?_
  unfold strm
  simp (maxSteps := 1000000) (disch := omega) only [go_sem]
  refine exC (trF_fc l (by omega) (fun x hx => ⟨Nat.le_trans (hsm x hx).1 (by omega), Nat.le_trans (hsm x hx).2 (by omega)⟩)) (.inl rfl) ?_
  by_cases hs : tfF l = 0
  ·simp (maxSteps := 1000000) (disch := omega) only [go_sem]
   exact ⟨(q', _), ⟨by simp only; omega, by simp only; omega, l, (ct_tf l).trans hs, hll, hsm, rfl⟩, rfl, rfl⟩
  ·simp (maxSteps := 1000000) (disch := omega) only [go_sem]
   obtain ⟨y, hB, hG⟩ := IH (j + 1, q') ⟨by simp; omega, by simp; omega, by simp; omega, by simp; omega⟩ (by simp; omega)
   exact ⟨y, hB, _, rfl, by simp; omega, hG⟩
 ·clear IH
  simp (maxSteps := 1000000) (disch := omega) only [go_sem]
  exact ⟨(q, _), ⟨by simp only; omega, by simp only; omega, [], rfl, by simp, by simp, rfl⟩, rfl, rfl⟩
end Go.Proofs.YtodmofhehabmgaaGreatDoor
