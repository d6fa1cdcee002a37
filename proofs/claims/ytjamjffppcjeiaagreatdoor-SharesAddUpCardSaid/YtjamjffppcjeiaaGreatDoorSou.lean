
/-
 Sources hands back a row: the names of all batches of which material went into one, in order.
-/
import Derived.Test.YtjamjffppcjeiaaGreatDoorTck
import Derived.Test.YtjamjffppcjeiaaGreatDoorSrt
namespace Go.Proofs.YtjamjffppcjeiaaGreatDoor
open Go Go.Ai Go.Proofs
set_option linter.unusedSimpArgs false
set_option linter.unusedVariables false
set_option maxHeartbeats 4000000
def C_tfault : AC := (.seq (.reg false [gI 4 (.mv (oI 0))] (kP [0,1] [] []))
 (.seq (.reg false [gM 6 0,gI 7 (.call (.f 56) [(.t 6)]),gM 5 7] (kP [1,5] [] []))
 (.seq (.seq (.reg false [gM 8 5,gI 9 (.bin .eql (.t 8) (oI 0)),gM 10 9,gG 11 10 true (.mv (.t 1)),gG 12 10 true (.call (.f 31) [(.t 11)]),gG 13 10 true (.un .not (.t 12)),gI 14 (.pick (.t 10) (.t 13) (.v (.bool false)))] (kP [5,14] [] []))
 (.cond (.t 14)
 (.reg false [gI 5 (.mv (oI 5))] (kP [5] [] []))
 .skip))
 (.seq (.reg false [gM 15 5,gM 4 15] (kP [4] [] []))
 .ret))))
theorem fc_tfault : FcT Tryz.prog 27 Tryz.f27 C_tfault [.t 4] := fc_mk [aN [0,1] [] [],aN [1,5] [] [],aN [5,14] [] [],aN [5] [] [],aN [4] [] []] Tryz.func27 (by kernel_rfl)
theorem tfault_fc (l : List Trf) (b : ByteArray) (hl : l.length ≤ 1000000) (hk : ∀ x ∈ l, x.frm.size ≤ 1000000 ∧ x.to.size ≤ 1000000) (hb : b.size ≤ 1000000) (h0 : ctF l = 0) (h1 : keyOk b = true) : FC Tryz.prog 27 none [trs false l, sv b] (fun _ r => r = iv 0) := by
 refine fc_tfault (by simp +arith) ?_
 unfold C_tfault
 simp (maxSteps := 1000000) (disch := omega) only [go_sem]
 refine CALL_det (ckT_fc l (by omega) hk) (.inl rfl) ?_
 rw [h0]
 simp (maxSteps := 1000000) (disch := omega) only [go_sem]
 refine CALL_det (key_fc b (by omega)) (.inl rfl) ?_
 rw [h1]
 simp (maxSteps := 1000000) (disch := omega) only [go_sem]
theorem tabB_up {P : Program} {w w1 : World} {okA : Nat → Prop} (h : TabB P w okA) (hg : w.grownBy w1 none) : TabB P w1 okA := by
 obtain ⟨W, h1, h2, h3⟩ := h
 exact ⟨W, h1, Nat.le_trans h2 hg.size, fun b hb => ⟨(h3 b hb).1, (hg.block b (Nat.lt_of_lt_of_le hb h2) (by simp)).trans (h3 b hb).2⟩⟩
/-- A call that makes one row and hands it back. -/
theorem fcm_new {w w' : World} {okA : Nat → Prop} {E : Env} {R : Hp → Val → Prop} {e : Ending} {v : Value} (key : Nat) {l : List ByteArray} (hk : bldK key = false)
  (hH : HRel w okA w.heap.size E (tabO []) (tabO [])) (hg : w.grownBy w' none) (ho : w'.ownsRow w.heap.size 9 1 v l.length (l.map .string)) (he : e = .returned (.tuple #[v, .int .i64 0]))
  (hR : R ⟨[], [(key, sRow l)]⟩ (.tu [.one (.ow key 0), iv 0])) :
  ∃ v H' r E', e = .returned v ∧ R H' r ∧ Grew E.own w w' ∧
 HRel w' (okE w okA E') w.heap.size E' (tabO H'.bs) (tabO H'.rs) ∧ VRel w' (okE w okA E') w.heap.size E' r v ∧
 (∀ k g g', E.gm k = some g → E'.gm k = some g' → g = g') ∧ (∀ k g, E'.gm k = some g → w.heap.size ≤ g ∨ E.own g) ∧
 (∀ k ver z u b, E'.rm k = some (ver, z, u) → (blkV u) = some b → w.heap.size ≤ b ∨ ∃ ver' z' u', E.rm k = some (ver', z', u') ∧ (blkV u') = some b) ∧
 (∀ k r0, tabO H'.rs k = some r0 → r0.ver = 0) ∧ (∀ k r0 r1, tabO ([] : List (Nat × Row)) k = some r0 → tabO H'.rs k = some r1 → r1.z = r0.z) ∧
 (∀ k ver ver' z z' u u', k ∈ ([] : List Nat) → E.rm k = some (ver, z, u) → E'.rm k = some (ver', z', u') → u = u') ∧ (∀ k g, bldK k = true → E.gm k = some g → E'.gm k = some g → ∃ cur T, w'.heap[g]? = some (.cells cur T (0, 0)) ∧ isBld Tryz.prog T = true) := by
 have hgm : ∀ k, E.gm k = none := fun k => hH.bxn k rfl
 have hE : ∀ k ver z u, (if k = key then some ((0 : Nat), (1 : Nat), v) else none) = some (ver, z, u) → k = key ∧ ver = 0 ∧ z = 1 ∧ u = v := fun k ver z u h => by
  split at h
  ·simp only [Option.some.injEq, Prod.mk.injEq] at h
   obtain ⟨rfl, rfl, rfl⟩ := h
   exact ⟨by assumption, rfl, rfl, rfl⟩
  ·cases h
 have hk1 : ∀ (k : Nat) (r0 : Row), tabO [(key, sRow l)] k = some r0 → k = key ∧ r0 = sRow l := fun k r0 h => by
  simp only [tabO] at h
  split at h
  ·rename_i e; injection h with h; exact ⟨e, h.symm⟩
  ·cases h
 have hone : v.oneCell' = true := by rcases ho.2 with ⟨rfl, _⟩ | ⟨_, _, _, rfl, _⟩ <;> rfl
 refine ⟨_, _, _, ⟨fun _ => none, fun k => if k = key then some (0, 1, v) else none⟩, he, hR, ⟨hg.os, hg.tape, hg.output, hg.size, fun k hk _ => hg.block k hk (by simp)⟩, ?_, ?_, fun k g g' h => (by rw [hgm] at h; cases h), fun k g h => (by cases h), ?_, ?_, fun k r0 r1 h => (by simp [tabO] at h), fun k _ _ _ _ _ _ h => (by simp at h), fun k g _ h => (by rw [hgm] at h; cases h)⟩
 ·refine ⟨fun k cs h => (by simp [tabO] at h), fun k _ => rfl, fun k r0 h => ?_, fun k h => ?_, fun k k' g' h => (by cases h), fun k g' k' ver z u h => (by cases h), fun k ver z u k' ver' z' u' b h h' _ _ => ?_⟩
  ·obtain ⟨rfl, rfl⟩ := hk1 _ _ h
   refine ⟨fun h => by simp at h, .of (show (0 : Nat) < 1 by omega) (fun e he => ?_), v, l.map .string, by simp, .inl ⟨show (0 : Nat) < 1 by omega, ?_⟩, rrel_strs l⟩
   ·obtain ⟨x, _, rfl⟩ := List.mem_map.1 he; rfl
   ·simp only [List.length_map]
    exact ⟨ho.1, ho.2.imp id fun ⟨g, cap, cur, h1, _, r⟩ => ⟨g, cap, cur, h1, Nat.zero_le _, r⟩⟩
  ·simp only [tabO] at h
   split at h
   ·cases h
   ·rename_i e; simp only []; rw [if_neg e]
  ·have := hE _ _ _ _ h
   have := hE _ _ _ _ h'
   omega
 ·refine .tu rfl fun i x u h1 h2 => ?_
  match i with
  | 0 =>
   simp at h1 h2; subst h1; subst h2
   exact .one ⟨hone, 0, 1, v, by simp, Nat.le_refl _, fun _ => rfl, by omega⟩
  | 1 =>
   simp at h1 h2; subst h1; subst h2
   exact .one ⟨rfl, rfl⟩
  | i + 2 => simp at h1
 ·intro k ver z u b h hb
  obtain ⟨_, _, _, rfl⟩ := hE _ _ _ _ h
  rw [row_blkV ho] at hb
  exact .inl (ho.lt b hb).1
 ·intro k r0 h
  obtain ⟨_, rfl⟩ := hk1 _ _ h
  rfl
set_option maxRecDepth 100000 in
theorem sources_fcm (l : List Trf) (b : ByteArray) (hl : l.length ≤ 1000000) (hk : ∀ x ∈ l, x.frm.size ≤ 1000000 ∧ x.to.size ≤ 1000000) (hbs : b.size ≤ 1000000) (h0 : ctF l = 0) (h1 : keyOk b = true) (hs : (srcL l b).length ≤ 1000000) :
  FCM Tryz.prog 7 ⟨[], []⟩ [trs false l, sv b] (fun H r => H = ⟨[], [(600, sRow (srtS (srcL l b)))]⟩ ∧ r = .tu [.one (.ow 600 0), iv 0]) := by
 refine ⟨⟨_, Tryz.func7, by kernel_rfl, by kernel_rfl⟩, fun w okA E vs htab hH hown hty hlen hrel => ?_⟩
 match vs, hlen with
 | [v, u], _ =>
  have hv0 := hrel 0 _ v rfl rfl
  have hu0 := hrel 1 _ u rfl rfl
  have hv : DRel w okA (.sl false 3 (l.map trC)) v := by
   cases hv0 with
   | one h => exact h
  have hu : u = .string b := by
   cases hu0 with
   | one h => exact h.1
  subst hu
  have hfault : Calls Tryz.prog 27 #[v, .string b] w fun e w' => e = .returned (.int .i64 0) ∧ w.grownBy w' none := by
   refine Calls.mono ((tfault_fc l b hl hk hbs h0 h1).2 w okA 0 [v, .string b] htab (fun _ h => by cases h) rfl fun i x y h1 h2 => ?_) ?_
   ·match i with
    | 0 => simp at h1 h2; subst h1; subst h2; exact .one hv
    | 1 => simp at h1 h2; subst h1; subst h2; exact .one ⟨rfl, rfl⟩
    | i + 2 => simp at h1
   ·rintro e w' ⟨x, _, r, rfl, rfl, hg, hr, _⟩
    cases hr with
    | one h => exact ⟨by rw [h.1], hg⟩
  have hinto : ∀ w1, w.grownBy w1 none → Calls Tryz.prog 29 #[v] w1 fun e w2 => ∃ fb okB, e = .returned (.map (some fb)) ∧ w1.grownBy w2 none ∧ DRel w2 okB (.fm 0 (fmG (grpAll l))) (.map (some fb)) := by
   intro w1 hg
   refine Calls.mono ((into_fc false l hl).2 w1 okA 0 [v] (tabB_up htab hg) (fun _ h => by cases h) rfl fun i x y h1 h2 => ?_) ?_
   ·match i with
    | 0 => simp at h1 h2; subst h1; subst h2; exact .one (DRel.keep hv (Keeps.of_grown hg) fun b _ h => h)
    | i + 1 => simp at h1
   ·rintro e w2 ⟨x, _, r, rfl, rfl, hg2, hr, _⟩
    cases hr with
    | one h =>
     have h : DRel w2 _ (.fm 0 (fmG (grpAll l))) x := h
     obtain ⟨fb, rfl, _⟩ := fm_look h
     exact ⟨fb, _, rfl, hg2, h⟩
  have hsrc : ∀ w2 fb okB, DRel w2 okB (.fm 0 (fmG (grpAll l))) (.map (some fb)) → Calls Tryz.prog 30 #[.map (some fb), .string b] w2 fun e w3 => e = .returned (.map (some w2.heap.size)) ∧ Sts w3 w2.heap.size (srcL l b) ∧ w2.grownBy w3 none := by
   intro w2 fb okB hD
   obtain ⟨fb', e, hlt, hf⟩ := fm_look hD
   injection e with e; injection e with e; subst e
   have hgk : (fun k => gat k (grpAll l)) = fun k => l.filter (fun y => decide (y.to = k)) := funext fun k => gat_all k l
   refine Calls.mono (sources_any fb (fun k => gat k (grpAll l)) (l.map (·.frm)) b w2 hlt (by simpa using hl) (fun k => by
    rw [gat_all]; have := List.length_filter_le (fun y : Trf => decide (y.to = k)) l; omega) (fun k y hy => by
    rw [gat_all] at hy
    exact List.mem_map.2 ⟨y, (List.mem_filter.1 hy).1, rfl⟩) hf) ?_
   rintro e w' ⟨rfl, hS, hg⟩
   rw [List.length_map, hgk] at hS
   exact ⟨rfl, hS, hg⟩
  have hsor : ∀ w3 b3, w.grownBy w3 none → Sts w3 b3 (srcL l b) → Calls Tryz.prog 28 #[.map (some b3)] w3 fun e w' => ∃ v, e = .returned v ∧ w.grownBy w' none ∧ w'.ownsRow w.heap.size 9 1 v (srtS (srcL l b)).length ((srtS (srcL l b)).map .string) := by
   intro w3 b3 hg hS
   rw [srtS_len]
   exact sorted_any b3 _ htab hg hS hs
  go_enter Tryz.func7, Tryz.ntmps7
  go_wp2_with (first | (refine Calls.mono hfault ?_; rintro e w1 ⟨rfl, hg1⟩) | (refine Calls.mono (hinto _ (by assumption)) ?_; rintro e w2 ⟨fb, okB, rfl, hg2, hD⟩) | (refine Calls.mono (hsrc _ _ _ (by assumption)) ?_; rintro e w3 ⟨rfl, hS3, hg3⟩) | (refine Calls.mono (hsor _ _ ((hg1.trans hg2).trans hg3) (by assumption)) ?_; rintro e w4 ⟨v4, rfl, hg4, ho4⟩) | go_in)
  go_ret2
  exact fcm_new 600 rfl hH hg4 ho4 rfl ⟨rfl, rfl⟩
end Go.Proofs.YtjamjffppcjeiaaGreatDoor
