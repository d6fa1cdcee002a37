/-
 Sources, Products and Share for any arguments.
-/
import Derived.Test.YtodmofhehabmgaaGreatDoorShs
import Derived.Test.YtodmofhehabmgaaGreatDoorPrd
namespace Go.Proofs.YtodmofhehabmgaaGreatDoor
open Go Go.Ai Go.Proofs
set_option linter.unusedSimpArgs false
set_option linter.unusedVariables false
set_option maxHeartbeats 4000000
def C_srcP : AC := (.seq (.reg false [gI 4 (.mv (.v (.slice none 0 0))),gI 5 (.mv (oI 0))] (kP [0,1] [] []))
 (.seq (.seq (.reg false [gM 7 0,gM 8 1,gI 9 (.call (.f 45) [(.t 7),(.t 8)]),gM 6 9] (kP [0,1,6] [] []))
 (.seq (.reg false [gM 10 6,gI 11 (.bin .neq (.t 10) (oI 0))] (kP [0,1,6,11] [] []))
 (.cond (.t 11)
 (.seq (.seq (.reg false [gM 12 6,gI 4 (.mv (.v (.slice none 0 0))),gM 5 12] (kP [4,5] [] []))
 (.ty 4 1))
 .ret)
 .skip)))
 (.seq (.reg false [gM 13 0,gI 14 (.call (.f 43) [(.t 13)]),gM 15 1,gI 16 (.call (.f 44) [(.t 14),(.t 15)]),gI 17 (.call (.f 46) [(.t 16)]),gM 4 17,gI 5 (.mv (oI 0))] (kP [4,5] [] []))
 .ret)))
theorem fc_srcP : FcT Tryz.prog 11 Tryz.f11 C_srcP [.t 4, .t 5] := fc_mk [aN [0,1] [] [],aN [0,1,6] [] [],aN [0,1,6,11] [] [],⟨(kP [4,5] [] []),[],[],[(4,1)],[]⟩,aN [4,5] [] []] Tryz.func11 (by kernel_rfl)
theorem sources0_fc (l : List Trf) (b : ByteArray) (hl : l.length ≤ 1000000) (hk : ∀ x ∈ l, x.frm.size ≤ 1000000 ∧ x.to.size ≤ 1000000) (hbs : b.size ≤ 1000000) (h0 : ctF l = 0) (h1 : keyOk b = true) (hs : (srcL l b).length ≤ 1000000) :
  FC Tryz.prog 11 none [trs false l, sv b] (fun _ r => r = .tu [strs true (srtS (srcL l b)), iv 0]) := by
 refine ⟨⟨_, Tryz.func11, by kernel_rfl, by kernel_rfl⟩, fun w okA g vs htab hext hlen hrel => ?_⟩
 match vs, hlen with
 | [v, u], _ =>
  have hv0 := hrel 0 _ v rfl rfl
  have hu0 := hrel 1 _ u rfl rfl
  have hv : DRel w okA (.sl false 3 (l.map trC)) v := by
   cases hv0 with
   | one h => exact h
  have hu : u = .string b := by
   cases hu0 with
   | one h => exact h.1
  subst hu
  refine Calls.mono (sources_run l b hl hk hbs h0 h1 hs htab hv) ?_
  rintro e w4 ⟨v4, rfl, hg4, ho4⟩
  refine ⟨_, [], _, rfl, rfl, hg4, .tu (us := [v4, .int .i64 0]) rfl fun i x u h1 h2 => ?_, fun h => by cases h⟩
  match i with
  | 0 => simp at h1 h2; subst h1; subst h2; exact .one (drel_own ho4 fun b hb => ⟨hb, .inl hb⟩)
  | 1 => simp at h1 h2; subst h1; subst h2; exact .one ⟨rfl, rfl⟩
  | i + 2 => simp at h1
/-- What is wrong with transfers and a batch. -/
def fE (l : List Trf) (b : ByteArray) : Int := if ctF l ≠ 0 then ctF l else if keyOk b = true then 0 else 5
theorem fE_zero {l : List Trf} {b : ByteArray} (h : fE l b = 0) : ctF l = 0 ∧ keyOk b = true := by
 unfold fE at h
 by_cases c : ctF l ≠ 0
 ·rw [if_pos c] at h; exact absurd h c
 ·rw [if_neg c] at h
  refine ⟨by omega, ?_⟩
  cases hk : keyOk b with
  | true => rfl
  | false => rw [hk] at h; simp at h
structure SmT (l : List Trf) : Prop where
 len : l.length ≤ 1000
 siz : ∀ x ∈ l, x.frm.size ≤ 1000000 ∧ x.to.size ≤ 1000000
theorem tfaultA_fc {l : List Trf} (hl : SmT l) (b : ByteArray) (hb : b.size ≤ 1000000) : FC Tryz.prog 45 none [trs false l, sv b] (fun _ r => r = iv (fE l b)) := by
 have hlen := hl.len
 refine fc_tfault (by simp +arith) ?_
 unfold C_tfault fE
 have hc := ckT_fc l (by omega) hl.siz
 have hk := key_fc b (by omega)
 by_cases c : ctF l = 0
 ·rw [c] at hc
  rw [if_neg (by simp [c])]
  simp (maxSteps := 1000000) (disch := omega) only [go_sem]
  refine CALL_det hc (.inl rfl) ?_
  simp (maxSteps := 1000000) (disch := omega) only [go_sem]
  refine CALL_det hk (.inl rfl) ?_
  cases hkb : keyOk b with
  | true =>
   simp (maxSteps := 1000000) (disch := omega) only [go_sem]
  | false =>
   simp (maxSteps := 1000000) (disch := omega) only [go_sem]
 ·rw [if_pos c]
  generalize ctF l = e at *
  simp (maxSteps := 1000000) (disch := (first | omega | assumption)) only [go_sem]
  refine CALL_det hc (.inl rfl) ?_
  simp (maxSteps := 1000000) (disch := (first | omega | assumption)) only [go_sem]
def srA (l : List Trf) (b : ByteArray) : List ByteArray := if fE l b = 0 then srtS (srcL l b) else []
def prA (l : List Trf) (b : ByteArray) : List ByteArray := if fE l b = 0 then srtS (prdL l b) else []
theorem srcL_len' (l : List Trf) (b : ByteArray) : (srcL l b).length ≤ l.length := by
 have h := nodup_le _ (l.map (·.frm)) (srcL_clo l b).nd (fun s hs => by
  obtain ⟨x, _, hx⟩ := ((srcL_clo l b).re s hs).last
  exact stI_sub l x s hx)
 rwa [List.length_map] at h
theorem prdL_len (l : List Trf) (b : ByteArray) : (prdL l b).length ≤ l.length := by
 have := srcL_len' (l.map Trf.inv) b
 rw [List.length_map] at this
 exact this
theorem sourcesA_fc {l : List Trf} (hl : SmT l) (b : ByteArray) (hb : b.size ≤ 1000000) : FC Tryz.prog 11 none [trs false l, sv b] (fun _ r => r = .tu [strs true (srA l b), iv (fE l b)]) := by
 have hlen := hl.len
 unfold srA
 by_cases h : fE l b = 0
 ·have hz := fE_zero h
  rw [if_pos h, h]
  exact sources0_fc l b (by omega) hl.siz hb hz.1 hz.2 (by have := srcL_len' l b; omega)
 ·rw [if_neg h]
  refine fc_srcP (by simp +arith) ?_
  have hc := tfaultA_fc hl b hb
  generalize fE l b = e at *
  unfold C_srcP
  simp (maxSteps := 1000000) (disch := (first | omega | assumption)) only [go_sem]
  refine CALL_det hc (.inl rfl) ?_
  simp (maxSteps := 1000000) (disch := (first | omega | assumption)) only [go_sem]
  rfl
theorem productsA_fc {l : List Trf} (hl : SmT l) (b : ByteArray) (hb : b.size ≤ 1000000) : FC Tryz.prog 12 none [trs false l, sv b] (fun _ r => r = .tu [strs true (prA l b), iv (fE l b)]) := by
 have hlen := hl.len
 unfold prA
 by_cases h : fE l b = 0
 ·have hz := fE_zero h
  rw [if_pos h, h]
  exact products_fc l b (by omega) hl.siz hb hz.1 hz.2 (by have := prdL_len l b; omega)
 ·rw [if_neg h]
  refine fc_prodsP (by simp +arith) ?_
  have hc := tfaultA_fc hl b hb
  generalize fE l b = e at *
  unfold C_prodsP
  simp (maxSteps := 1000000) (disch := (first | omega | assumption)) only [go_sem]
  refine CALL_det hc (.inl rfl) ?_
  simp (maxSteps := 1000000) (disch := (first | omega | assumption)) only [go_sem]
  rfl
/-- What is wrong with transfers and two batches. -/
def twE (l : List Trf) (b s : ByteArray) : Int := if fE l b ≠ 0 then fE l b else if keyOk s = true then 0 else 5
def shAN (l : List Trf) (b s : ByteArray) : Int := if twE l b s = 0 then shN l s b else 0
def shAD (l : List Trf) (b s : ByteArray) : Int := if twE l b s = 0 then shD l s b else 0
def shAE (l : List Trf) (b s : ByteArray) : Int := if twE l b s = 0 then (if SC l b = 0 then 12 else 0) else twE l b s
theorem shareA_fc {l : List Trf} (hl : SmT l) (b s : ByteArray) (hb : b.size ≤ 1000000) (hs : s.size ≤ 1000000) : FC Tryz.prog 13 none [trs false l, sv b, sv s] (fun _ r => r = .tu [.ag [.g (.int .i64 (shAN l b s)), .g (.int .i64 (shAD l b s))], iv (shAE l b s)]) := by
 have hlen := hl.len
 have hc := tfaultA_fc hl b hb
 have hk := key_fc s (by omega)
 by_cases h : fE l b = 0
 ·have hz := fE_zero h
  cases hks : keyOk s with
  | true =>
   have ht : twE l b s = 0 := by unfold twE; rw [if_neg (by simp [h]), if_pos hks]
   unfold shAN shAD shAE
   rw [if_pos ht, if_pos ht, if_pos ht]
   exact pshare_fc l s b (by omega) hl.siz hb hs hz.1 hz.2 hks
  | false =>
   have ht : twE l b s = 5 := by unfold twE; rw [if_neg (by simp [h]), if_neg (by simp [hks])]
   unfold shAN shAD shAE
   rw [ht, if_neg (by omega), if_neg (by omega), if_neg (by omega)]
   rw [h] at hc
   rw [hks] at hk
   refine fc_pshare (by simp +arith) ?_
   unfold C_pshare
   simp (maxSteps := 1000000) (disch := (first | omega | assumption)) only [go_sem]
   refine CALL_det hc (.inl rfl) ?_
   simp (maxSteps := 1000000) (disch := (first | omega | assumption)) only [go_sem]
   refine CALL_det hk (.inl rfl) ?_
   simp (maxSteps := 1000000) (disch := (first | omega | assumption)) only [go_sem]
 ·have ht : twE l b s = fE l b := by unfold twE; rw [if_pos h]
  unfold shAN shAD shAE
  rw [ht, if_neg h, if_neg h, if_neg h]
  clear ht
  generalize fE l b = e at *
  refine fc_pshare (by simp +arith) ?_
  unfold C_pshare
  simp (maxSteps := 1000000) (disch := (first | omega | assumption)) only [go_sem]
  refine CALL_det hc (.inl rfl) ?_
  simp (maxSteps := 1000000) (disch := (first | omega | assumption)) only [go_sem]
end Go.Proofs.YtodmofhehabmgaaGreatDoor
