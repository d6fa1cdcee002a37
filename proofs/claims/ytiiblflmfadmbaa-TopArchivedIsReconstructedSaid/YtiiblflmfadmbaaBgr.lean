
/-
 Room for bytes: slices.Grow of the nil slice.
-/
import Derived.Shelf.Spec.SlicesGrow
import Derived.Test.YtiiblflmfadmbaaBlw
namespace Go.Proofs.Ytiiblflmfadmbaa
open Go Go.Proofs Go.Ai
set_option linter.unusedSimpArgs false
set_option linter.unusedVariables false
set_option maxHeartbeats 4000000
def growR : Go.Shelf.Ren := ⟨fun | 4 => 47 | n => n, fun | 0 => 0 | 3 => 3 | 4 => 4 | 9 => 9 | 20 => 20 | 22 => 37 | 25 => 5 | n => n, fun | n => n⟩
theorem growL : Go.Proofs.Lays8.n4 Try.prog growR := {
mixed := by kernel_rfl
f4 := ⟨Try.f47.name, by decide, Try.func47.trans (congrArg some (by kernel_rfl))⟩
t0 := Try.underlying0
a0 := Try.isAgg0
z0 := Try.sizeOf0
v0 := Try.zeroValue0
t3 := Try.underlying3
a3 := Try.isAgg3
z3 := Try.sizeOf3
v3 := Try.zeroValue3
t4 := Try.underlying4
a4 := Try.isAgg4
z4 := Try.sizeOf4
v4 := Try.zeroValue4
t9 := Try.underlying9
a9 := Try.isAgg9
z9 := Try.sizeOf9
v9 := Try.zeroValue9
t20 := Try.underlying20
a20 := Try.isAgg20
z20 := Try.sizeOf20
v20 := Try.zeroValue20
t22 := Try.underlying37
a22 := Try.isAgg37
z22 := Try.sizeOf37
v22 := Try.zeroValue37 }
/-- A call that makes one empty row of bytes and hands it back. -/
theorem fcm_newB {w w' : World} {okA : Nat → Prop} {E : Env} {R : Hp → Val → Prop} {e : Ending} {v : Value} (key : Nat) (hk : bldK key = false)
  (hH : HRel w okA w.heap.size E (tabO []) (tabO [])) (hg : w.grownBy w' none) (ho : w'.ownsRow w.heap.size 5 1 v 0 []) (he : e = .returned v)
  (hR : R ⟨[], [(key, byRow [])]⟩ (.one (.ow key 0))) :
  ∃ v H' r E', e = .returned v ∧ R H' r ∧ Grew E.own w w' ∧
 HRel w' (okE w okA E') w.heap.size E' (tabO H'.bs) (tabO H'.rs) ∧ VRel w' (okE w okA E') w.heap.size E' r v ∧
 (∀ k g g', E.gm k = some g → E'.gm k = some g' → g = g') ∧ (∀ k g, E'.gm k = some g → w.heap.size ≤ g ∨ E.own g) ∧
 (∀ k ver z u b, E'.rm k = some (ver, z, u) → (blkV u) = some b → w.heap.size ≤ b ∨ ∃ ver' z' u', E.rm k = some (ver', z', u') ∧ (blkV u') = some b) ∧
 (∀ k r0, tabO H'.rs k = some r0 → r0.ver = 0) ∧ (∀ k r0 r1, tabO ([] : List (Nat × Row)) k = some r0 → tabO H'.rs k = some r1 → r1.z = r0.z) ∧
 (∀ k ver ver' z z' u u', k ∈ ([] : List Nat) → E.rm k = some (ver, z, u) → E'.rm k = some (ver', z', u') → u = u') ∧ (∀ k g, bldK k = true → E.gm k = some g → E'.gm k = some g → ∃ cur T, w'.heap[g]? = some (.cells cur T (0, 0)) ∧ isBld Try.prog T = true) := by
 have hgm : ∀ k, E.gm k = none := fun k => hH.bxn k rfl
 have hE : ∀ k ver z u, (if k = key then some ((0 : Nat), (1 : Nat), v) else none) = some (ver, z, u) → k = key ∧ ver = 0 ∧ z = 1 ∧ u = v := fun k ver z u h => by
  split at h
  ·simp only [Option.some.injEq, Prod.mk.injEq] at h
   obtain ⟨rfl, rfl, rfl⟩ := h
   exact ⟨by assumption, rfl, rfl, rfl⟩
  ·cases h
 have hk1 : ∀ (k : Nat) (r0 : Row), tabO [(key, byRow [])] k = some r0 → k = key ∧ r0 = byRow [] := fun k r0 h => by
  simp only [tabO] at h
  split at h
  ·rename_i e; injection h with h; exact ⟨e, h.symm⟩
  ·cases h
 have hone : v.oneCell' = true := by rcases ho.2 with ⟨rfl, _⟩ | ⟨_, _, _, rfl, _⟩ <;> rfl
 refine ⟨_, _, _, ⟨fun _ => none, fun k => if k = key then some (0, 1, v) else none⟩, he, hR, ⟨hg.os, hg.tape, hg.output, hg.size, fun k hk _ => hg.block k hk (by simp)⟩, ?_, ?_, fun k g g' h => (by rw [hgm] at h; cases h), fun k g h => (by cases h), ?_, ?_, fun k r0 r1 h => (by simp [tabO] at h), fun k _ _ _ _ _ _ h => (by simp at h), fun k g _ h => (by rw [hgm] at h; cases h)⟩
 ·refine ⟨fun k cs h => (by simp [tabO] at h), fun k _ => rfl, fun k r0 h => ?_, fun k h => ?_, fun k k' g' h => (by cases h), fun k g' k' ver z u h => (by cases h), fun k ver z u k' ver' z' u' b h h' _ _ => ?_⟩
  ·obtain ⟨rfl, rfl⟩ := hk1 _ _ h
   refine ⟨fun h => by simp at h, .of (show (0 : Nat) < 1 by omega) (fun e he => by simp at he), v, [], by simp, .inl ⟨show (0 : Nat) < 1 by omega, ?_⟩, .nil⟩
   exact ⟨ho.1, ho.2.imp id fun ⟨g, cap, cur, h1, _, r⟩ => ⟨g, cap, cur, h1, Nat.zero_le _, r⟩⟩
  ·simp only [tabO] at h
   split at h
   ·cases h
   ·rename_i e; simp only []; rw [if_neg e]
  ·have := hE _ _ _ _ h
   have := hE _ _ _ _ h'
   omega
 ·exact .one ⟨hone, 0, 1, v, by simp, Nat.le_refl _, fun _ => rfl, by omega⟩
 ·intro k ver z u b h hb
  obtain ⟨_, _, _, rfl⟩ := hE _ _ _ _ h
  rw [row_blkV ho] at hb
  exact .inl (ho.lt b hb).1
 ·intro k r0 h
  obtain ⟨_, rfl⟩ := hk1 _ _ h
  rfl
theorem grow_fcm (n : Nat) (h1 : 1 ≤ n) (hn : n ≤ 1000000) : FCM Try.prog 47 ⟨[], []⟩ [.one (.g (.slice none 0 0)), iv n] (fun H r => H = ⟨[], [(600, byRow [])]⟩ ∧ r = .one (.ow 600 0)) := by
 refine ⟨⟨Try.f47, Try.func47, by kernel_rfl, by kernel_rfl⟩, fun w okA E vs hT hH hown hTy hlen hargs => ?_⟩
 obtain ⟨v1, v2, rfl⟩ : ∃ a b, vs = [a, b] := by
  match vs, hlen with
  | [a, b], _ => exact ⟨a, b, rfl⟩
 have e1 : v1 = .slice none 0 0 := by
  have h := hargs 0 _ v1 rfl rfl
  cases h with
  | one h => exact h.1
 have e2 : v2 = .int .i64 n := by
  have h := hargs 1 _ v2 rfl rfl
  cases h with
  | one h => exact h.1
 subst e1; subst e2
 obtain ⟨i0, hi0, hz0, hs0, hb0⟩ := info_parts (show (Try.prog.info? 5).map (fun i => (i.zero, i.size, i.bytes)) = some (some (.int .u8 0), 1, 1) by kernel_rfl)
 have hc := Any8.slices_Grow_grow growL i0 (.int .u8 0) hi0 hz0 (by omega) none 0 0 n [] w (by omega) (by omega) (by rw [hb0]; omega) (by omega) (by simp) (fun _ => rfl) (fun a h => by cases h)
 refine Calls.mono hc ?_
 rintro e w' ⟨rfl, rfl⟩
 have hG1 := grownCap_ge w (0 + n) 0 5
 have hG2 := grownCap_le_maxLen w (0 + n) 0 5 (by unfold maxLen; omega)
 have hty : growR.t 25 = 5 := rfl
 rw [hty]
 generalize grownCap w (0 + n) 0 5 = G at *
 refine fcm_newB 600 rfl hH (show w.grownBy (w.drew.alloc _) none from by have h := World.grownBy_alloc w.drew (.cells (#[] ++ Builtin.zeroCells (Value.int .u8 0).cells (0 + n - 0) ++ Builtin.zeroCells (Value.int .u8 0).cells (G - (0 + n))) 5) none; exact ⟨h.os, h.tape, h.output, h.size, h.block⟩) ?_ rfl ⟨rfl, rfl⟩
 refine ⟨by simp, .inr ⟨w.heap.size, G, #[] ++ Builtin.zeroCells (Value.int .u8 0).cells (0 + n - 0) ++ Builtin.zeroCells (Value.int .u8 0).cells (G - (0 + n)), rfl, Nat.le_refl _, ?_, by omega, hG2, ?_, by simp⟩⟩
 ·exact heap_alloc_new w.drew _
 ·simp only [Array.size_append, List.size_toArray, size_zeroCells, Value.cells, List.length_nil]
  simp
  omega
end Go.Proofs.Ytiiblflmfadmbaa
