/- Alarms that streams draw: one list from one stream. Series of tags that streams draw: one list from one stream. -/
import Derived.Test.YtbhgndiboeppeaaGreatDoorGdt
import Derived.Test.YtbhgndiboeppeaaGreatDoorAlw
import Derived.Test.YtbhgndiboeppeaaGreatDoorAlx
set_option linter.all false
set_option maxHeartbeats 4000000
set_option maxRecDepth 100000
namespace Go.Proofs.YtbhgndiboeppeaaGreatDoor
open Go Go.Ai
abbrev a1B (l : List Alm) : Row := ⟨0, 55, 10, l.map z7⟩
theorem a1q (l : List Alm) : frE (l.map z7) = true := by
 unfold frE
 rw [List.all_eq_true]
 intro e he
 obtain ⟨x, _, rfl⟩ := List.mem_map.1 he
 rfl
attribute [go_sem] a1q
theorem a3W {α β : Type} (f : α → β) (l : List α) (i : Nat) (x : β) (h : i < l.length) : ((l.map f).set i x)[i]? = some x := by
 rw [List.getElem?_set_self (by simpa using h)]
theorem a4U {α β : Type} (f : α → β) (l : List α) (i : Nat) (x y : β) : ((l.map f).set i x).set i y = (l.map f).set i y := by simp
attribute [go_sem] a3W a4U
def a9B : ByteArray := ByteArray.mk #[97, 49]
def c1w : ByteArray := ByteArray.mk #[97, 50]
def c3y : ByteArray := ByteArray.mk #[97, 51]
def keysA : List ByteArray := [a9B, c1w, c3y]
def parsA : List ByteArray := [a9B, c1w]
def c9Y : List ByteArray := [ByteArray.mk #[112, 49, 95, 116, 101, 109, 112], ByteArray.mk #[112, 49, 95, 116, 101, 109, 112], ByteArray.mk #[112, 50, 95, 116, 101, 109, 112], ByteArray.mk #[110, 111]]
theorem ek3 : ([[Cel.g (.string (ByteArray.mk #[97, 49]))], [.g (.string (ByteArray.mk #[97, 50]))], [.g (.string (ByteArray.mk #[97, 51]))]] : List (List Cel)) = keysA.map b0Z := (rfl)
theorem ek2 : ([[Cel.g (.string (ByteArray.mk #[97, 49]))], [.g (.string (ByteArray.mk #[97, 50]))]] : List (List Cel)) = parsA.map b0Z := (rfl)
theorem sms (l : List ByteArray) (h : l.all (fun b => decide (b.size ≤ 1000)) = true) : ∀ b ∈ l, b.size ≤ 1000 := fun b hb => of_decide_eq_true (List.all_eq_true.1 h b hb)
structure AlX where
 i : Int
 q : Int
 l : List Alm
abbrev ksA (n : Int) : List (List Cel) := (keysA.map b0Z).take n.toNat
def c0t (L : List Int) (n : Int) (x : AlX) : AS := ⟨m9 [(0, .one (.bx 0 0)), (3, .one (.ow 3 0)), (11, .one (.sl true 1 (ksA n))), (12, iv (ksA n).length), (13, iv x.i)], f9 [(0, m6 L x.q)], f9 [(3, a1B x.l)]⟩
theorem c1p {n : Int} (h0 : 0 ≤ n) (h : n ≤ 3) : ((ksA n).length : Int) = n := by
 unfold ksA; rw [List.length_take, List.length_map]; have : keysA.length = 3 := rfl; omega
theorem c8J {n i : Int} (h0 : 0 ≤ i) (hi : i < n) (h : n ≤ 3) : (ksA n).getD i.toNat [] = [.g (.string (keysA.getD i.toNat default))] := by
 unfold ksA
 have h3 : keysA.length = 3 := rfl
 rw [List.getD_eq_getElem?_getD, List.getElem?_take, if_pos (by omega), ← List.getD_eq_getElem?_getD]
 exact S9 keysA i h0 (by omega)
theorem b8P (i : Int) (h0 : 0 ≤ i) (h : i < 3) : (keysA.getD i.toNat default).size ≤ 1000 := sms keysA (by kernel_rfl) _ (R2 _ _ (by have : keysA.length = 3 := rfl; omega))
theorem a8N (i : Int) (h0 : 0 ≤ i) (h : i < 2) : (parsA.getD i.toNat default).size ≤ 1000 := sms parsA (by kernel_rfl) _ (R2 _ _ (by have : parsA.length = 2 := rfl; omega))
theorem a1R : (ByteArray.mk #[]).size ≤ 1000 := of_decide_eq_true (by kernel_rfl)
theorem a2K {l : List Alm} {x : Alm} (h : ∀ y ∈ l, y.sm) (hx : x.sm) : ∀ y ∈ l ++ [x], y.sm := fun y hy => by
 rcases List.mem_append.1 hy with hy | hy
 ·exact h y hy
 ·simp at hy; subst hy; exact hx
theorem a8k {l : List Alm} {x : Alm} {k : Nat} (h : ∀ y ∈ l, y.sm) (hx : x.sm) : ∀ y ∈ l.set k x, y.sm := fun y hy => by
 rcases List.mem_or_eq_of_mem_set hy with hy | rfl
 ·exact h y hy
 ·exact hx
set_option maxHeartbeats 12000000 in
set_option maxRecDepth 8000 in
theorem a3u : b0I Tryz.prog 4 [] 100 (fun r => ∃ l : List Alm, l.length ≤ 3 ∧ (∀ x ∈ l, x.sm) ∧ r = r6 true l) := by
 refine L7 (fun L p R' h => fcE Tryz.func4 ([aN [0] [0] [],⟨(kP [0,3] [0] []),[(3,55,10)],[],[],[]⟩] ++ aM [0] [3] [[0,3,11,12,13],[0,3,11,12,13,14],[0,3,4,5,11,12,13]] ++ aM [0,6] [3] [[0,3,4,6,11,12,13],[0,3,4,6,11,12,13,39],[0,3,4,6,11,12,13],[0,3,4,6,11,12,13,53],[0,3,6,11,12,13]] ++ aM [0] [3] [[0,3,11,12,13],[0,3,11,12,13],[0,3,72],[0,3,7],[0,3,7,80],[0,3,7,80,91]] ++ [⟨(kP [3] [0] []),[],[(8,(some 0)),(11,(some 999999999)),(12,(some 999999999)),(13,(some 999999999))],[],[]⟩,aN [0,3,7,80,113] [0] [3],aN [3] [0] [],aN [0,3,7,125] [0] [3]] ++ aM [0] [] [[3],[3],[2]]) h (xt := some (m6 L p)) (args := []) (R := R')) ?_
 intro L p hL hl h0 hp
 unfold m6
 refine qv ?_
 obtain ⟨⟨pa, ra⟩, ⟨haa, hba, za, ka, na, rfl⟩, hfa⟩ := (W7 0 3 (by omega) (by omega) (by omega)) L p hL hl (by omega) (by omega)
 simp only at haa hba hfa
 refine exX hfa rfl rfl ?_
 unfold m6
 refine qv ?_
 have hkl := c1p ka na
 rw [ek3]
 refine b9C (c0t L za) (fun x => 0 ≤ x.i ∧ x.i ≤ za ∧ x.l.length = x.i ∧ p ≤ x.q ∧ x.q ≤ p + 1 + 20 * x.i ∧ ∀ y ∈ x.l, y.sm) (fun x => (za - x.i).toNat) ⟨0, pa, []⟩ ⟨by simp, by simp; omega, by simp, by simp; omega, by simp; omega, by simp⟩ rfl ?_
 rintro G ⟨i, q, l⟩ ⟨g1, g2, g3, g4, g5, g6⟩ IH
 simp only at g1 g2 g3 g4 g5 g6
 unfold c0t m6
 by_cases hi : i < za
 ·have em := c8J g1 hi na
  have ksm := b8P i g1 (by omega)
  refine qv ?_
  rw [em]
  refine qv ?_
  obtain ⟨⟨pb, rb⟩, ⟨hab, hbb, zb, kb, rfl⟩, hfb⟩ := (K9 false c9Y (of_decide_eq_true (by kernel_rfl)) (of_decide_eq_true (by kernel_rfl))) L q hL hl (by omega) (by omega)
  simp only at hab hbb hfb
  refine exX hfb rfl rfl ?_
  unfold m6
  refine qvs ?_
  have tsm := sms c9Y (by kernel_rfl) _ kb
  obtain ⟨⟨pc, rc⟩, ⟨hac, hbc, zc, kc, rfl⟩, hfc⟩ := (o8 false [1, 1, 1, 2, 3] (by simp) (by simp)) L pb hL hl (by omega) (by omega)
  simp only at hac hbc hfc
  refine exX hfc rfl rfl ?_
  unfold m6
  refine qvs ?_
  obtain ⟨⟨pd, rd⟩, ⟨had, hbd, zd, kd, rfl⟩, hfd⟩ := (o8 false [0, 0, 5, 20] (by simp) (by simp)) L pc hL hl (by omega) (by omega)
  simp only at had hbd hfd
  refine exX hfd rfl rfl ?_
  unfold m6
  refine qvs ?_
  obtain ⟨⟨pe, re⟩, ⟨hae, hbe, ze, ke, rfl⟩, hfe⟩ := (o8 false [0, 0, 5] (by simp) (by simp)) L pd hL hl (by omega) (by omega)
  simp only at hae hbe hfe
  refine exX hfe rfl rfl ?_
  unfold m6
  refine qvs ?_
  obtain ⟨⟨pf, rf⟩, ⟨haf, hbf, zf, kf, rfl⟩, hff⟩ := (o8 false [1, 2, 2] (by simp) (by simp)) L pe hL hl (by omega) (by omega)
  simp only at haf hbf hff
  refine exX hff rfl rfl ?_
  unfold m6
  refine qvs ?_
  obtain ⟨⟨pg, rg⟩, ⟨hag, hbg, bg, rfl⟩, hfg⟩ := (G8 2 (by omega) (by omega)) L pf hL hl (by omega) (by omega)
  simp only at hag hbg hfg
  by_cases hc3 : zc = 3
  ·
   by_cases hi0 : 0 < i
   ·
    refine exX hfg rfl rfl ?_
    unfold m6
    refine qvs ?_
    obtain ⟨⟨pm, rm⟩, ⟨ham, hbm, bm, rfl⟩, hfm⟩ := (G8 3 (by omega) (by omega)) L pg hL hl (by omega) (by omega)
    simp only at ham hbm hfm
    cases bm with
    | true =>
     refine exX hfm rfl rfl ?_
     unfold m6
     refine qvs ?_
     obtain ⟨⟨pn, rn⟩, ⟨han, hbn, zn, kn, nn, rfl⟩, hfn⟩ := (C1 i (by omega) (by omega)) L pm hL hl (by omega) (by omega)
     simp only at han hbn hfn
     have em2 := S9 parsA zn kn (by have : parsA.length = 2 := rfl; omega)
     have psm := a8N zn kn (by omega)
     have hp2 : parsA.length = 2 := rfl
     refine exX hfn rfl rfl ?_
     unfold m6
     rw [ek2]
     refine qv ?_
     simp only [a2U]
     refine qv ?_
     obtain ⟨yy, hB, hG⟩ := IH ⟨i + 1, pn, l ++ [⟨keysA.getD i.toNat default, zb, zc, 0, 0, zd, ze, zf, bg, parsA.getD zn.toNat default⟩]⟩ ⟨by simp only; omega, by simp only; omega, by simp only [List.length_append, List.length_singleton]; omega, by simp only; omega, by simp only; omega, a2K g6 ⟨ksm, tsm, psm⟩⟩ (by simp only; omega)
     exact ⟨yy, hB, _, by simp only [c0t, m6, a1B, List.map_append, List.map_cons, List.map_nil, o6], by simp only; omega, hG⟩
    | false =>
     refine exX hfm rfl rfl ?_
     unfold m6
     refine qvs ?_
     obtain ⟨yy, hB, hG⟩ := IH ⟨i + 1, pm, l ++ [⟨keysA.getD i.toNat default, zb, zc, 0, 0, zd, ze, zf, bg, ByteArray.mk #[]⟩]⟩ ⟨by simp only; omega, by simp only; omega, by simp only [List.length_append, List.length_singleton]; omega, by simp only; omega, by simp only; omega, a2K g6 ⟨ksm, tsm, a1R⟩⟩ (by simp only; omega)
     exact ⟨yy, hB, _, by simp only [c0t, m6, a1B, List.map_append, List.map_cons, List.map_nil, o6], by simp only; omega, hG⟩
   ·
    refine exX hfg rfl rfl ?_
    unfold m6
    refine qvs ?_
    obtain ⟨yy, hB, hG⟩ := IH ⟨i + 1, pg, l ++ [⟨keysA.getD i.toNat default, zb, zc, 0, 0, zd, ze, zf, bg, ByteArray.mk #[]⟩]⟩ ⟨by simp only; omega, by simp only; omega, by simp only [List.length_append, List.length_singleton]; omega, by simp only; omega, by simp only; omega, a2K g6 ⟨ksm, tsm, a1R⟩⟩ (by simp only; omega)
    exact ⟨yy, hB, _, by simp only [c0t, m6, a1B, List.map_append, List.map_cons, List.map_nil, o6], by simp only; omega, hG⟩
  ·
   refine exX hfg rfl rfl ?_
   unfold m6
   refine qvs ?_
   obtain ⟨⟨ph, rh⟩, ⟨hah, hbh, zh, kh, rfl⟩, hfh⟩ := (o8 false [3, 5, 8] (by simp) (by simp)) L pg hL hl (by omega) (by omega)
   simp only at hah hbh hfh
   refine exX hfh rfl rfl ?_
   unfold m6
   refine qvs ?_
   obtain ⟨⟨pj, rj⟩, ⟨haj, hbj, zj, kj, rfl⟩, hfj⟩ := (o8 false [0, 0, 1, 3] (by simp) (by simp)) L ph hL hl (by omega) (by omega)
   simp only at haj hbj hfj
   by_cases hi0 : 0 < i
   ·
    refine exX hfj rfl rfl ?_
    unfold m6
    refine qvs ?_
    obtain ⟨⟨pm, rm⟩, ⟨ham, hbm, bm, rfl⟩, hfm⟩ := (G8 3 (by omega) (by omega)) L pj hL hl (by omega) (by omega)
    simp only at ham hbm hfm
    cases bm with
    | true =>
     refine exX hfm rfl rfl ?_
     unfold m6
     refine qvs ?_
     obtain ⟨⟨pn, rn⟩, ⟨han, hbn, zn, kn, nn, rfl⟩, hfn⟩ := (C1 i (by omega) (by omega)) L pm hL hl (by omega) (by omega)
     simp only at han hbn hfn
     have em2 := S9 parsA zn kn (by have : parsA.length = 2 := rfl; omega)
     have psm := a8N zn kn (by omega)
     have hp2 : parsA.length = 2 := rfl
     refine exX hfn rfl rfl ?_
     unfold m6
     rw [ek2]
     refine qv ?_
     simp only [a2U]
     refine qv ?_
     obtain ⟨yy, hB, hG⟩ := IH ⟨i + 1, pn, l ++ [⟨keysA.getD i.toNat default, zb, zc, zh, zj, zd, ze, zf, bg, parsA.getD zn.toNat default⟩]⟩ ⟨by simp only; omega, by simp only; omega, by simp only [List.length_append, List.length_singleton]; omega, by simp only; omega, by simp only; omega, a2K g6 ⟨ksm, tsm, psm⟩⟩ (by simp only; omega)
     exact ⟨yy, hB, _, by simp only [c0t, m6, a1B, List.map_append, List.map_cons, List.map_nil, o6], by simp only; omega, hG⟩
    | false =>
     refine exX hfm rfl rfl ?_
     unfold m6
     refine qvs ?_
     obtain ⟨yy, hB, hG⟩ := IH ⟨i + 1, pm, l ++ [⟨keysA.getD i.toNat default, zb, zc, zh, zj, zd, ze, zf, bg, ByteArray.mk #[]⟩]⟩ ⟨by simp only; omega, by simp only; omega, by simp only [List.length_append, List.length_singleton]; omega, by simp only; omega, by simp only; omega, a2K g6 ⟨ksm, tsm, a1R⟩⟩ (by simp only; omega)
     exact ⟨yy, hB, _, by simp only [c0t, m6, a1B, List.map_append, List.map_cons, List.map_nil, o6], by simp only; omega, hG⟩
   ·
    refine exX hfj rfl rfl ?_
    unfold m6
    refine qvs ?_
    obtain ⟨yy, hB, hG⟩ := IH ⟨i + 1, pj, l ++ [⟨keysA.getD i.toNat default, zb, zc, zh, zj, zd, ze, zf, bg, ByteArray.mk #[]⟩]⟩ ⟨by simp only; omega, by simp only; omega, by simp only [List.length_append, List.length_singleton]; omega, by simp only; omega, by simp only; omega, a2K g6 ⟨ksm, tsm, a1R⟩⟩ (by simp only; omega)
    exact ⟨yy, hB, _, by simp only [c0t, m6, a1B, List.map_append, List.map_cons, List.map_nil, o6], by simp only; omega, hG⟩
 ·clear IH
  have ei : i = za := by omega
  have g7 : q ≤ p + 61 := by omega
  by_cases hn : 0 < l.length
  ·refine qvs ?_
   obtain ⟨⟨pb, rb⟩, ⟨hab, hbb, bb, rfl⟩, hfb⟩ := (G8 12 (by omega) (by omega)) L q hL hl (by omega) (by omega)
   simp only at hab hbb hfb
   cases bb with
   | false =>
    refine exX hfb rfl rfl ?_
    unfold m6
    refine qvs ?_
    exact ⟨(pb, _), ⟨by simp only; omega, by simp only; omega, l, by omega, g6, rfl⟩, rfl, rfl⟩
   | true =>
    refine exX hfb rfl rfl ?_
    unfold m6
    refine qvs ?_
    obtain ⟨⟨pc, rc⟩, ⟨hac, hbc, zc, kc, nc, rfl⟩, hfc⟩ := (C1 l.length (by omega) (by omega)) L pb hL hl (by omega) (by omega)
    simp only at hac hbc hfc
    refine exX hfc rfl rfl ?_
    unfold m6
    refine qvs ?_
    have eo := l0 z7 l zc.toNat (by omega)
    have hsm := g6 _ (j5 l zc.toNat (by omega))
    obtain ⟨⟨pd, rd⟩, ⟨had, hbd, zd, kd, nd, rfl⟩, hfd⟩ := (C1 4 (by omega) (by omega)) L pc hL hl (by omega) (by omega)
    simp only at had hbd hfd
    by_cases d0 : zd = 0
    ·
     refine exX hfd rfl rfl ?_
     unfold m6
     refine qvs ?_
     obtain ⟨⟨pe, re⟩, ⟨hae, hbe, ze, ke, rfl⟩, hfe⟩ := (K9 false [(l.getD zc.toNat default).k, ByteArray.mk #[], a9B] (by simp) (by simp)) L pd hL hl (by omega) (by omega)
     simp only at hae hbe hfe
     refine exX hfe rfl rfl ?_
     unfold m6
     refine qvs ?_
     obtain ⟨⟨pf, rf⟩, ⟨haf, hbf, zf, kf, rfl⟩, hff⟩ := (K9 false [(l.getD zc.toNat default).t, ByteArray.mk #[65]] (by simp) (by simp)) L pe hL hl (by omega) (by omega)
     simp only at haf hbf hff
     refine exX hff rfl rfl ?_
     unfold m6
     refine qvs ?_
     have s1 : ze.size ≤ 1000 := by
      simp only [List.mem_cons, List.not_mem_nil, or_false] at ke
      rcases ke with rfl | rfl | rfl
      ·exact hsm.1
      ·exact a1R
      ·exact of_decide_eq_true (by kernel_rfl)
     have s2 : zf.size ≤ 1000 := by
      simp only [List.mem_cons, List.not_mem_nil, or_false] at kf
      rcases kf with rfl | rfl
      ·exact hsm.2.1
      ·exact of_decide_eq_true (by kernel_rfl)
     exact ⟨(pf, _), ⟨by simp only; omega, by simp only; omega, l.set zc.toNat { l.getD zc.toNat default with k := ze, t := zf }, by simp; omega, a8k g6 ⟨s1, s2, hsm.2.2⟩, by simp [o6, List.map_set, H8, a1q, p9]⟩, rfl, rfl⟩
    by_cases d1 : zd = 1
    ·
     refine exX hfd rfl rfl ?_
     unfold m6
     refine qvs ?_
     obtain ⟨⟨pe, re⟩, ⟨hae, hbe, ze, ke, rfl⟩, hfe⟩ := (W0 1 3 (by omega) (by omega) (by omega)) L pd hL hl (by omega) (by omega)
     simp only at hae hbe hfe
     refine exX hfe rfl rfl ?_
     unfold m6
     refine qvs ?_
     obtain ⟨⟨pf, rf⟩, ⟨haf, hbf, zf, kf, rfl⟩, hff⟩ := (W0 (-1000000) 1000000 (by omega) (by omega) (by omega)) L pe hL hl (by omega) (by omega)
     simp only at haf hbf hff
     refine exX hff rfl rfl ?_
     unfold m6
     refine qvs ?_
     exact ⟨(pf, _), ⟨by simp only; omega, by simp only; omega, l.set zc.toNat { l.getD zc.toNat default with kd := ze, lim := zf }, by simp; omega, a8k g6 hsm, by simp [o6, List.map_set, H8, a1q, p9]⟩, rfl, rfl⟩
    by_cases d2 : zd = 2
    ·
     refine exX hfd rfl rfl ?_
     unfold m6
     refine qvs ?_
     obtain ⟨⟨pe, re⟩, ⟨hae, hbe, ze, ke, rfl⟩, hfe⟩ := (W0 0 86400000 (by omega) (by omega) (by omega)) L pd hL hl (by omega) (by omega)
     simp only at hae hbe hfe
     refine exX hfe rfl rfl ?_
     unfold m6
     refine qvs ?_
     obtain ⟨⟨pf, rf⟩, ⟨haf, hbf, zf, kf, rfl⟩, hff⟩ := (W0 1 1000 (by omega) (by omega) (by omega)) L pe hL hl (by omega) (by omega)
     simp only at haf hbf hff
     refine exX hff rfl rfl ?_
     unfold m6
     refine qvs ?_
     exact ⟨(pf, _), ⟨by simp only; omega, by simp only; omega, l.set zc.toNat { l.getD zc.toNat default with on := ze, pr := zf }, by simp; omega, a8k g6 hsm, by simp [o6, List.map_set, H8, a1q, p9]⟩, rfl, rfl⟩
    refine exX hfd rfl rfl ?_
    unfold m6
    refine qvs ?_
    obtain ⟨⟨pe, re⟩, ⟨hae, hbe, ze, ke, rfl⟩, hfe⟩ := (K9 false [ByteArray.mk #[122, 122], (l.getD zc.toNat default).k, a9B, c3y] (by simp) (by simp)) L pd hL hl (by omega) (by omega)
    simp only at hae hbe hfe
    refine exX hfe rfl rfl ?_
    unfold m6
    refine qvs ?_
    have s1 : ze.size ≤ 1000 := by
     simp only [List.mem_cons, List.not_mem_nil, or_false] at ke
     rcases ke with rfl | rfl | rfl | rfl
     ·exact of_decide_eq_true (by kernel_rfl)
     ·exact hsm.1
     ·exact of_decide_eq_true (by kernel_rfl)
     ·exact of_decide_eq_true (by kernel_rfl)
    exact ⟨(pe, _), ⟨by simp only; omega, by simp only; omega, l.set zc.toNat { l.getD zc.toNat default with p := ze }, by simp; omega, a8k g6 ⟨hsm.1, hsm.2.1, s1⟩, by simp [o6, List.map_set, H8, a1q, p9]⟩, rfl, rfl⟩
  ·refine qvs ?_
   exact ⟨(q, _), ⟨by simp only; omega, by simp only; omega, l, by omega, g6, rfl⟩, rfl, rfl⟩
abbrev c0s (l : List Ser) : Row := ⟨0, 76, 2, l.map (b0n true)⟩
theorem b0E (l : List Ser) : frE (l.map (b0n true)) = true := by
 unfold frE
 rw [List.all_eq_true]
 intro e he
 obtain ⟨x, _, rfl⟩ := List.mem_map.1 he
 rfl
attribute [go_sem] b0E
def tgA : ByteArray := ByteArray.mk #[112, 49, 95, 116, 101, 109, 112]
def tgB : ByteArray := ByteArray.mk #[112, 50, 95, 116, 101, 109, 112]
def tgsA : List ByteArray := [tgA, tgB]
theorem tg2 : ([[Cel.g (.string (ByteArray.mk #[112, 49, 95, 116, 101, 109, 112]))], [.g (.string (ByteArray.mk #[112, 50, 95, 116, 101, 109, 112]))]] : List (List Cel)) = tgsA.map b0Z := (rfl)
structure TgX where
 i : Int
 q : Int
 l : List Ser
def d1z (L : List Int) (most : Int) (x : TgX) : AS := ⟨m9 [(0, .one (.bx 0 0)), (1, iv most), (5, .one (.ow 5 0)), (8, .one (.sl true 1 (tgsA.map b0Z))), (9, iv 2), (10, iv x.i)], f9 [(0, m6 L x.q)], f9 [(5, c0s x.l)]⟩
def Ser.sm (most : Int) (x : Ser) : Prop := x.t.size ≤ 1000 ∧ x.l.length ≤ most
theorem c2e {most : Int} {l : List Ser} {x : Ser} (h : ∀ y ∈ l, y.sm most) (hx : x.sm most) : ∀ y ∈ l ++ [x], y.sm most := fun y hy => by
 rcases List.mem_append.1 hy with hy | hy
 ·exact h y hy
 ·simp at hy; subst hy; exact hx
theorem d0V (i : Int) (h0 : 0 ≤ i) (h : i < 2) : (tgsA.getD i.toNat default).size ≤ 1000 := sms tgsA (by kernel_rfl) _ (R2 _ _ (by have : tgsA.length = 2 := rfl; omega))
set_option maxHeartbeats 12000000 in
set_option maxRecDepth 8000 in
theorem a5V (most : Int) (hm : 0 ≤ most) (hm2 : most ≤ 1000) : b0I Tryz.prog 5 [iv most] 9000 (fun r => ∃ l : List Ser, l.length ≤ 2 ∧ (∀ x ∈ l, x.sm most) ∧ r = B3 true l) := by
 refine L7 (fun L p R' h => fcE Tryz.func5 (aM [0] [] [[0,1]] ++ [⟨(kP [0,1,5] [0] []),[(5,76,2)],[],[],[]⟩] ++ aM [0] [5] [[0,1,5,8,9,10],[0,1,5,8,9,10,11],[0,1,5,7,8,9,10],[0,1,5,7,8,9,10,16],[0,1,5,8,9,10],[0,1,5,8,9,10],[0,5,32]] ++ aM [0] [] [[5],[4]]) h (xt := some (m6 L p)) (args := [iv most]) (R := R')) ?_
 intro L p hL hl h0 hp
 unfold m6
 refine qv ?_
 rw [tg2]
 refine b9C (d1z L most) (fun x => 0 ≤ x.i ∧ x.i ≤ 2 ∧ x.l.length ≤ x.i ∧ p ≤ x.q ∧ x.q ≤ p + 4001 * x.i ∧ ∀ y ∈ x.l, y.sm most) (fun x => (2 - x.i).toNat) ⟨0, p, []⟩ ⟨by simp, by simp, by simp, by simp, by simp, by simp⟩ rfl ?_
 rintro G ⟨i, q, l⟩ ⟨g1, g2, g3, g4, g5, g6⟩ IH
 simp only at g1 g2 g3 g4 g5 g6
 unfold d1z m6
 by_cases hi : i < 2
 ·have em := S9 tgsA i g1 (by have : tgsA.length = 2 := rfl; omega)
  have ksm := d0V i g1 hi
  have h2 : tgsA.length = 2 := rfl
  refine qv ?_
  simp only [a2U]
  refine qv ?_
  obtain ⟨⟨pa, ra⟩, ⟨haa, hba, ba, rfl⟩, hfa⟩ := (G8 6 (by omega) (by omega)) L q hL hl (by omega) (by omega)
  simp only at haa hba hfa
  cases ba with
  | true =>
   refine exX hfa rfl rfl ?_
   unfold m6
   refine qvs ?_
   obtain ⟨yy, hB, hG⟩ := IH ⟨i + 1, pa, l⟩ ⟨by simp only; omega, by simp only; omega, by simp only; omega, by simp only; omega, by simp only; omega, g6⟩ (by simp only; omega)
   exact ⟨yy, hB, _, by simp only [d1z, m6], by simp only; omega, hG⟩
  | false =>
   refine exX hfa rfl rfl ?_
   unfold m6
   refine qvs ?_
   obtain ⟨⟨pb, rb⟩, ⟨hab, hbb, c, hcl, hc64, rfl⟩, hfb⟩ := b3t most hm hm2 L pa hL hl (by omega) (by omega)
   simp only at hab hbb hfb
   refine exX hfb rfl rfl ?_
   unfold m6
   refine qvs ?_
   obtain ⟨yy, hB, hG⟩ := IH ⟨i + 1, pb, l ++ [⟨tgsA.getD i.toNat default, c⟩]⟩ ⟨by simp only; omega, by simp only; omega, by simp only [List.length_append, List.length_singleton]; omega, by simp only; omega, by simp only; omega, c2e g6 ⟨ksm, hcl⟩⟩ (by simp only; omega)
   exact ⟨yy, hB, _, by simp only [d1z, m6, c0s, List.map_append, List.map_cons, List.map_nil, a1J], by simp only; omega, hG⟩
 ·clear IH
  have g7 : q ≤ p + 8002 := by omega
  by_cases hn : 0 < l.length
  ·refine qvs ?_
   obtain ⟨⟨pb, rb⟩, ⟨hab, hbb, bb, rfl⟩, hfb⟩ := (G8 20 (by omega) (by omega)) L q hL hl (by omega) (by omega)
   simp only at hab hbb hfb
   cases bb with
   | false =>
    refine exX hfb rfl rfl ?_
    unfold m6
    refine qvs ?_
    exact ⟨(pb, _), ⟨by simp only; omega, by simp only; omega, l, by omega, g6, rfl⟩, rfl, rfl⟩
   | true =>
    refine exX hfb rfl rfl ?_
    unfold m6
    refine qvs ?_
    obtain ⟨⟨pe, re⟩, ⟨hae, hbe, ze, ke, rfl⟩, hfe⟩ := (K9 false [ByteArray.mk #[], ByteArray.mk #[122, 122], tgB] (by simp) (by simp)) L pb hL hl (by omega) (by omega)
    simp only at hae hbe hfe
    refine exX hfe rfl rfl ?_
    unfold m6
    refine qvs ?_
    have s1 : ze.size ≤ 1000 := by
     simp only [List.mem_cons, List.not_mem_nil, or_false] at ke
     rcases ke with rfl | rfl | rfl <;> exact of_decide_eq_true (by kernel_rfl)
    have hz := g6 _ (j5 l (Int.toNat 0) (by have : Int.toNat 0 = 0 := rfl; omega))
    refine ⟨(pe, _), ⟨by simp only; omega, by simp only; omega, l.set (Int.toNat 0) { l.getD (Int.toNat 0) default with t := ze }, by simp; omega, fun y hy => ?_, ?_⟩, rfl, rfl⟩
    ·rcases List.mem_or_eq_of_mem_set hy with hy | rfl
     ·exact g6 y hy
     ·exact ⟨s1, hz.2⟩
    ·simp [a1J, List.map_set, H8, b0E, p9]
  ·refine qvs ?_
   exact ⟨(q, _), ⟨by simp only; omega, by simp only; omega, l, by omega, g6, rfl⟩, rfl, rfl⟩
end Go.Proofs.YtbhgndiboeppeaaGreatDoor
