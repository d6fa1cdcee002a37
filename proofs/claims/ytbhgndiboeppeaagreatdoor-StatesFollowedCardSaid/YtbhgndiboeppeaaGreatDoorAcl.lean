/- slices.SortStableFunc over acts: at most 19 of them (insertion sort). -/
import Derived.Test.YtbhgndiboeppeaaGreatDoorStb
import Derived.Test.YtbhgndiboeppeaaGreatDoorAlp
import Derived.Test.YtbhgndiboeppeaaGreatDoorAgl
import Derived.Test.YtbhgndiboeppeaaGreatDoorAc2
set_option linter.all false
set_option maxHeartbeats 4000000
set_option maxRecDepth 100000
namespace Go.Proofs.YtbhgndiboeppeaaGreatDoor
open Go Go.Ai
theorem y7 (l : List (List Cel)) (x : List Cel) {i j : Nat} (h : i ≠ j) : (l.set j x)[i]? = l[i]? := by rw [List.getElem?_set]; simp [h.symm]
theorem b7z (l : List Opr) : H4 (l.map N7) = l.map N7 := by
 unfold H4
 rw [List.map_map]
 refine List.map_congr_left fun x _ => ?_
 rfl
theorem c1g (l : List Opr) : frE (l.map N7) = true := by
 unfold frE
 rw [List.all_eq_true]
 intro e he
 obtain ⟨x, _, rfl⟩ := List.mem_map.1 he
 rfl
attribute [go_sem] b7z c1g
section
variable {P : Program} {s : AS} {Y : Type}
theorem c9g {X : Type} (st : X → AS) (I : X → Prop) (μ : X → Nat) {a : AC} {k : Y → List KI} {Q : Y → AX → AS → Prop} {B : Y → Prop} (x0 : X) (h0 : I x0) (hs : s = st x0)
  (round : ∀ (G : X → Y → Prop) (x : X), I x → (∀ x', I x' → μ x' < μ x → ∃ y, B y ∧ G x' y) → ∃ y, B y ∧ ex P a (.lp (fun s' => ∃ x', s' = st x' ∧ μ x' < μ x ∧ G x' y) :: k y) (Q y) (st x)) :
  ∃ y, B y ∧ ex P (.loop a) (k y) (Q y) s := by
 have key : ∀ n x, μ x = n → I x → ∃ y, B y ∧ rnd P a (k y) (Q y) (μ x + 1) (st x) := by
  intro n
  induction n using Nat.strongRecOn with
  | _ n ih =>
   intro x hx hI
   obtain ⟨y, hB, h⟩ := round (fun x' y => rnd P a (k y) (Q y) (μ x' + 1) (st x')) x hI (fun x' h1 h2 => ih (μ x') (by omega) x' rfl h1)
   refine ⟨y, hB, F8 a _ _ (fun e s h => ?_) _ h⟩
   cases e with
   | nrm =>
    obtain ⟨x', rfl, h1, h2⟩ := h
    exact c0g (by omega) h2
   | ret => exact h
   | ex id => exact h
 subst hs
 obtain ⟨y, hB, h⟩ := key _ x0 rfl h0
 exact ⟨y, hB, X7 _ h⟩
end
abbrev a8D (l : List Opr) : Row := ⟨0, 78, 6, l.map N7⟩
theorem a3X (l : List Opr) : frE (l.map N7) = true := by
 unfold frE
 rw [List.all_eq_true]
 intro e he
 obtain ⟨x, _, rfl⟩ := List.mem_map.1 he
 rfl
attribute [go_sem] a3X
def bysA : List ByteArray := [ByteArray.mk #[97, 109, 121], ByteArray.mk #[98, 111, 98]]
def d4L : List ByteArray := [a9B, a9B, c1w, c3y, ByteArray.mk #[122, 122]]
theorem by2 : ([[Cel.g (.string (ByteArray.mk #[97, 109, 121]))], [.g (.string (ByteArray.mk #[98, 111, 98]))]] : List (List Cel)) = bysA.map b0Z := (rfl)
structure AcX where
 i : Int
 q : Int
 l : List Opr
def d2I (L : List Int) (x : AcX) : AS := ⟨m9 [(0, .one (.bx 0 0)), (3, .one (.ow 3 0)), (10, .one (.sl true 1 (bysA.map b0Z))), (11, iv 2), (12, iv x.i)], f9 [(0, m6 L x.q)], f9 [(3, a8D x.l)]⟩
structure AdX where
 j : Int
 q : Int
 no : Int
 at_ : Int
 l : List Opr
def d1C (L : List Int) (b : ByteArray) (i n : Int) (x : AdX) : AS := ⟨m9 [(0, .one (.bx 0 0)), (3, .one (.ow 3 0)), (5, sv b), (6, iv x.no), (7, iv x.at_), (10, .one (.sl true 1 (bysA.map b0Z))), (11, iv 2), (12, iv i), (20, iv n), (21, iv x.j)], f9 [(0, m6 L x.q)], f9 [(3, a8D x.l)]⟩
theorem b2M {l : List Opr} {x : Opr} (h : ∀ y ∈ l, y.sm) (hx : x.sm) : ∀ y ∈ l ++ [x], y.sm := fun y hy => by
 rcases List.mem_append.1 hy with hy | hy
 ·exact h y hy
 ·simp at hy; subst hy; exact hx
theorem a5F {l : List Opr} {x : Opr} {k : Nat} (h : ∀ y ∈ l, y.sm) (hx : x.sm) : ∀ y ∈ l.set k x, y.sm := fun y hy => by
 rcases List.mem_or_eq_of_mem_set hy with hy | rfl
 ·exact h y hy
 ·exact hx
theorem d0j (i : Int) (h0 : 0 ≤ i) (h : i < 2) : (bysA.getD i.toNat default).size ≤ 1000 := sms bysA (by kernel_rfl) _ (R2 _ _ (by have : bysA.length = 2 := rfl; omega))
set_option maxHeartbeats 12000000 in
set_option maxRecDepth 8000 in
theorem a6l : b0I Tryz.prog 6 [] 100 (fun r => ∃ l : List Opr, l.length ≤ 8 ∧ (∀ x ∈ l, x.sm) ∧ r = u9 true l) := by
 refine L7 (fun L p R' h => fcE Tryz.func6 ([aN [0] [0] [],⟨(kP [0,3] [0] []),[(3,78,6)],[],[],[]⟩] ++ aM [0] [3] [[0,3,10,11,12],[0,3,10,11,12,13],[0,3,5,10,11,12],[0,3,5,6,7,10,11,12],[0,3,5,6,7,10,11,12,20,21],[0,3,5,6,7,10,11,12,20,21,22],[0,3,5,6,7,10,11,12,20,21]] ++ aM [0,8] [3] [[0,3,5,6,7,8,10,11,12,20,21],[0,3,5,6,7,8,10,11,12,20,21,40],[0,3,5,6,7,8,10,11,12,20,21]] ++ aM [0] [3] [[0,3,5,6,7,10,11,12,20,21],[0,3,5,6,7,10,11,12,20,21],[0,3,5,6,7,10,11,12,20,21],[0,3,10,11,12],[0,3,64],[0,3,9],[0,3,9,72],[0,3,9,72,76]] ++ [⟨(kP [3] [0] []),[],[(9,(some 0)),(12,(some 999999999)),(13,(some 999999999)),(14,(some 999999999)),(16,(some 0)),(19,(some 999999999)),(20,(some 999999999)),(21,(some 999999999))],[],[]⟩,aN [0,3,9,108] [0] [3],⟨(kP [3] [0] []),[],[(3,(some 0)),(6,(some 999999999)),(7,(some 999999999)),(8,(some 999999999))],[],[]⟩,aN [3] [0] [],aN [2] [0] []]) h (xt := some (m6 L p)) (args := []) (R := R')) ?_
 intro L p hL hl h0 hp
 unfold m6
 refine qv ?_
 rw [by2]
 refine b9C (d2I L) (fun x => 0 ≤ x.i ∧ x.i ≤ 2 ∧ x.l.length ≤ 4 * x.i ∧ p ≤ x.q ∧ x.q ≤ p + 22 * x.i ∧ ∀ y ∈ x.l, y.sm) (fun x => (2 - x.i).toNat) ⟨0, p, []⟩ ⟨by simp, by simp, by simp, by simp, by simp, by simp⟩ rfl ?_
 rintro G ⟨i, q, l⟩ ⟨g1, g2, g3, g4, g5, g6⟩ IH
 simp only at g1 g2 g3 g4 g5 g6
 unfold d2I m6
 by_cases hi : i < 2
 ·have em := S9 bysA i g1 (by have : bysA.length = 2 := rfl; omega)
  have ksm := d0j i g1 hi
  have h2 : bysA.length = 2 := rfl
  refine qv ?_
  simp only [a2U]
  refine qv ?_
  obtain ⟨⟨pa, ra⟩, ⟨haa, hba, za, ka, rfl⟩, hfa⟩ := (o8 false [0, 10] (by simp) (by simp)) L q hL hl (by omega) (by omega)
  simp only at haa hba hfa
  refine exX hfa rfl rfl ?_
  unfold m6
  refine qvs ?_
  obtain ⟨⟨pb, rb⟩, ⟨hab, hbb, zb, kb, nb, rfl⟩, hfb⟩ := (W7 0 4 (by omega) (by omega) (by omega)) L pa hL hl (by omega) (by omega)
  simp only at hab hbb hfb
  refine exX hfb rfl rfl ?_
  unfold m6
  refine qvs ?_
  simp only [List.mem_cons, List.not_mem_nil, or_false] at ka
  generalize hby : bysA.getD i.toNat default = by_ at *
  refine c9g (d1C L by_ i zb) (fun x => 0 ≤ x.j ∧ x.j ≤ zb ∧ x.l.length ≤ 4 * i + x.j ∧ p ≤ x.q ∧ x.q ≤ p + 22 * i + 2 + 5 * x.j ∧ 0 ≤ x.no ∧ x.no ≤ 2 * x.j ∧ 0 ≤ x.at_ ∧ x.at_ ≤ 10 + 30 * x.j ∧ ∀ y ∈ x.l, y.sm) (fun x => (zb - x.j).toNat) ⟨0, pb, 0, za, l⟩ ⟨by simp, by simp only; omega, by simp only; omega, by simp only; omega, by simp only; omega, by simp, by simp, by simp only; omega, by simp only; omega, g6⟩ rfl ?_
  rintro G2 ⟨j, q2, no, at_, l2⟩ ⟨d1, d2, d3, d4, d5, d6, d7, d8, d9, d10⟩ IH2
  simp only at d1 d2 d3 d4 d5 d6 d7 d8 d9 d10
  unfold d1C m6
  by_cases hj : j < zb
  ·refine qv ?_
   obtain ⟨⟨pc, rc⟩, ⟨hac, hbc, zc, kc, rfl⟩, hfc⟩ := (o8 false [1, 1, 2] (by simp) (by simp)) L q2 hL hl (by omega) (by omega)
   simp only at hac hbc hfc
   refine exX hfc rfl rfl ?_
   unfold m6
   refine qvs ?_
   simp only [List.mem_cons, List.not_mem_nil, or_false] at kc
   obtain ⟨⟨pd, rd⟩, ⟨had, hbd, zd, kd, rfl⟩, hfd⟩ := (o8 false [1, 1, 1, 2, 3] (by simp) (by simp)) L pc hL hl (by omega) (by omega)
   simp only at had hbd hfd
   refine exX hfd rfl rfl ?_
   unfold m6
   refine qvs ?_
   obtain ⟨⟨pe, re⟩, ⟨hae, hbe, ze, ke, rfl⟩, hfe⟩ := (K9 false d4L (of_decide_eq_true (by kernel_rfl)) (of_decide_eq_true (by kernel_rfl))) L pd hL hl (by omega) (by omega)
   simp only at hae hbe hfe
   have asm := sms d4L (by kernel_rfl) _ ke
   by_cases hk2 : zd = 2
   ·
    refine exX hfe rfl rfl ?_
    unfold m6
    refine qvs ?_
    obtain ⟨⟨pf, rf⟩, ⟨haf, hbf, zf, kf, rfl⟩, hff⟩ := (o8 false [1, 10, 40] (by simp) (by simp)) L pe hL hl (by omega) (by omega)
    simp only at haf hbf hff
    refine exX hff rfl rfl ?_
    unfold m6
    refine qvs ?_
    simp only [List.mem_cons, List.not_mem_nil, or_false] at kf
    obtain ⟨⟨pg, rg⟩, ⟨hag, hbg, zg, kg, rfl⟩, hfg⟩ := (o8 false [0, 1, 10, 30] (by simp) (by simp)) L pf hL hl (by omega) (by omega)
    simp only at hag hbg hfg
    simp only [List.mem_cons, List.not_mem_nil, or_false] at kg
    refine exX hfg rfl rfl ?_
    unfold m6
    refine qvs ?_
    obtain ⟨yy, hB, hG⟩ := IH2 ⟨j + 1, pg, no + zc, at_ + zg, l2 ++ [⟨by_, no + zc, at_, zd, ze, at_ + zf⟩]⟩ ⟨by simp only; omega, by simp only; omega, by simp only [List.length_append, List.length_singleton]; omega, by simp only; omega, by simp only; omega, by simp only; omega, by simp only; omega, by simp only; omega, by simp only; omega, b2M d10 ⟨ksm, asm, by unfold I64; simp only; omega⟩⟩ (by simp only; omega)
    exact ⟨yy, hB, _, by simp only [d1C, m6, a8D, List.map_append, List.map_cons, List.map_nil, u3], by simp only; omega, hG⟩
   ·
    refine exX hfe rfl rfl ?_
    unfold m6
    refine qvs ?_
    obtain ⟨⟨pg, rg⟩, ⟨hag, hbg, zg, kg, rfl⟩, hfg⟩ := (o8 false [0, 1, 10, 30] (by simp) (by simp)) L pe hL hl (by omega) (by omega)
    simp only at hag hbg hfg
    simp only [List.mem_cons, List.not_mem_nil, or_false] at kg
    refine exX hfg rfl rfl ?_
    unfold m6
    refine qvs ?_
    obtain ⟨yy, hB, hG⟩ := IH2 ⟨j + 1, pg, no + zc, at_ + zg, l2 ++ [⟨by_, no + zc, at_, zd, ze, 0⟩]⟩ ⟨by simp only; omega, by simp only; omega, by simp only [List.length_append, List.length_singleton]; omega, by simp only; omega, by simp only; omega, by simp only; omega, by simp only; omega, by simp only; omega, by simp only; omega, b2M d10 ⟨ksm, asm, by unfold I64; simp only; omega⟩⟩ (by simp only; omega)
    exact ⟨yy, hB, _, by simp only [d1C, m6, a8D, List.map_append, List.map_cons, List.map_nil, u3], by simp only; omega, hG⟩
  ·clear IH2
   refine qv ?_
   obtain ⟨yy, hB, hG⟩ := IH ⟨i + 1, q2, l2⟩ ⟨by simp only; omega, by simp only; omega, by simp only; omega, by simp only; omega, by simp only; omega, d10⟩ (by simp only; omega)
   exact ⟨yy, hB, _, by simp only [d2I, m6], by simp only; omega, hG⟩
 ·clear IH
  have g7 : q ≤ p + 44 := by omega
  by_cases hn : 0 < l.length
  ·refine qvs ?_
   obtain ⟨⟨pb, rb⟩, ⟨hab, hbb, bb, rfl⟩, hfb⟩ := (G8 12 (by omega) (by omega)) L q hL hl (by omega) (by omega)
   simp only at hab hbb hfb
   cases bb with
   | false =>
    refine exX hfb rfl rfl ?_
    unfold m6
    refine qvs ?_
    exact ⟨(pb, _), ⟨by simp only; omega, by simp only; omega, l, by omega, g6, rfl⟩, rfl, rfl⟩
   | true =>
    refine exX hfb rfl rfl ?_
    unfold m6
    refine qvs ?_
    obtain ⟨⟨pc, rc⟩, ⟨hac, hbc, zc, kc, nc, rfl⟩, hfc⟩ := (C1 l.length (by omega) (by omega)) L pb hL hl (by omega) (by omega)
    simp only at hac hbc hfc
    refine exX hfc rfl rfl ?_
    unfold m6
    refine qvs ?_
    have eo := l0 N7 l zc.toNat (by omega)
    have hsm := g6 _ (j5 l zc.toNat (by omega))
    obtain ⟨⟨pd, rd⟩, ⟨had, hbd, zd, kd, nd, rfl⟩, hfd⟩ := (C1 3 (by omega) (by omega)) L pc hL hl (by omega) (by omega)
    simp only at had hbd hfd
    by_cases d0 : zd = 0
    ·
     refine exX hfd rfl rfl ?_
     unfold m6
     refine qvs ?_
     obtain ⟨⟨pe, re⟩, ⟨hae, hbe, ze, ke, rfl⟩, hfe⟩ := (K9 false [(l.getD zc.toNat default).b, ByteArray.mk #[]] (by simp) (by simp)) L pd hL hl (by omega) (by omega)
     simp only at hae hbe hfe
     refine exX hfe rfl rfl ?_
     unfold m6
     refine qvs ?_
     obtain ⟨⟨pf, rf⟩, ⟨haf, hbf, zf, kf, rfl⟩, hff⟩ := (o8 false [(l.getD zc.toNat default).no, 0, 1] (by simp) (by simp)) L pe hL hl (by omega) (by omega)
     simp only at haf hbf hff
     refine exX hff rfl rfl ?_
     unfold m6
     refine qvs ?_
     obtain ⟨⟨pg, rg⟩, ⟨hag, hbg, zg, kg, rfl⟩, hfg⟩ := (o8 false [(l.getD zc.toNat default).at_, -1, 3] (by simp) (by simp)) L pf hL hl (by omega) (by omega)
     simp only at hag hbg hfg
     refine exX hfg rfl rfl ?_
     unfold m6
     refine qvs ?_
     have s1 : ze.size ≤ 1000 := by
      simp only [List.mem_cons, List.not_mem_nil, or_false] at ke
      rcases ke with rfl | rfl
      ·exact hsm.1
      ·exact a1R
     have s2 : I64 (zg + 1) := by
      simp only [List.mem_cons, List.not_mem_nil, or_false] at kg
      rcases kg with rfl | rfl | rfl
      ·exact hsm.2.2
      ·unfold I64; omega
      ·unfold I64; omega
     exact ⟨(pg, _), ⟨by simp only; omega, by simp only; omega, l.set zc.toNat { l.getD zc.toNat default with b := ze, no := zf, at_ := zg }, by simp; omega, a5F g6 ⟨s1, hsm.2.1, s2⟩, by simp [u3, List.map_set, H8, a3X, p9]⟩, rfl, rfl⟩
    by_cases d1 : zd = 1
    ·
     refine exX hfd rfl rfl ?_
     unfold m6
     refine qvs ?_
     obtain ⟨⟨pe, re⟩, ⟨hae, hbe, ze, ke, rfl⟩, hfe⟩ := (W0 1 3 (by omega) (by omega) (by omega)) L pd hL hl (by omega) (by omega)
     simp only at hae hbe hfe
     refine exX hfe rfl rfl ?_
     unfold m6
     refine qvs ?_
     obtain ⟨⟨pf, rf⟩, ⟨haf, hbf, zf, kf, rfl⟩, hff⟩ := (o8 false [(l.getD zc.toNat default).un, 0, 1] (by simp) (by simp)) L pe hL hl (by omega) (by omega)
     simp only at haf hbf hff
     refine exX hff rfl rfl ?_
     unfold m6
     refine qvs ?_
     exact ⟨(pf, _), ⟨by simp only; omega, by simp only; omega, l.set zc.toNat { l.getD zc.toNat default with kd := ze, un := zf }, by simp; omega, a5F g6 hsm, by simp [u3, List.map_set, H8, a3X, p9]⟩, rfl, rfl⟩
    refine exX hfd rfl rfl ?_
    unfold m6
    refine qvs ?_
    exact ⟨(pd, _), ⟨by simp only; omega, by simp only; omega, l.set zc.toNat { l.getD zc.toNat default with al := ByteArray.mk #[] }, by simp; omega, a5F g6 ⟨hsm.1, a1R, hsm.2.2⟩, by simp [u3, List.map_set, H8, a3X, p9]⟩, rfl, rfl⟩
  ·refine qvs ?_
   exact ⟨(q, _), ⟨by simp only; omega, by simp only; omega, l, by omega, g6, rfl⟩, rfl, rfl⟩
end Go.Proofs.YtbhgndiboeppeaaGreatDoor
