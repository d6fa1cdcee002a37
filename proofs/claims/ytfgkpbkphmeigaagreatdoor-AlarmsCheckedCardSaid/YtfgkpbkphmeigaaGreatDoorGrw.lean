/-
 A call that makes a row of strings and hands it back; strings.Split as such a call.
-/
import Derived.Test.YtfgkpbkphmeigaaGreatDoorStr
import Derived.Test.YtfgkpbkphmeigaaGreatDoorProg
import Derived.Laws.AppendOwn
namespace Go.Proofs.YtfgkpbkphmeigaaGreatDoor
open Go Go.Ai Go.Proofs
set_option linter.unusedSimpArgs false
set_option linter.unusedVariables false
set_option maxHeartbeats 4000000
abbrev snRow (l : List ByteArray) : Row := ⟨0, 9, 1, l.map strC⟩
theorem rrel_strN {w : World} {ok : Nat → Prop} {base : Nat} : ∀ l : List ByteArray, RRel w ok base (l.map strC).flatten (l.map Value.string)
 | [] => .nil
 | x :: l => by
  have h : RRel w ok base [Cel.g (.string x)] [Value.string x] := ⟨rfl, fun i c u h1 h2 => by
   match i with
   | 0 => simp at h1 h2; subst h1; subst h2; exact ⟨rfl, rfl, rfl⟩
   | i + 1 => simp at h1⟩
  exact h.append (rrel_strN l)
/-- A call that makes one row and hands it back. -/
theorem fcm_newG {w w' : World} {okA : Nat → Prop} {E : Env} {R : Hp → Val → Prop} {e : Ending} {v : Value} (key : Nat) (T : TypeId) {z : Nat} (hz : 0 < z) {es : List (List Cel)} {xs : List Value} (hes : ∀ e ∈ es, e.length = z) (hk : bldK key = false)
  (hH : HRel w okA w.heap.size E (tabO []) (tabO [])) (hg : w.grownBy w' none) (ho : w'.ownsRow w.heap.size T z v es.length xs) (hx : ∀ ok base, RRel w' ok base es.flatten xs) (he : e = .returned v)
  (hR : R ⟨[], [(key, ⟨0, T, z, es⟩)]⟩ (.one (.ow key 0))) :
  ∃ v H' r E', e = .returned v ∧ R H' r ∧ Grew E.own w w' ∧
 HRel w' (okE w okA E') w.heap.size E' (tabO H'.bs) (tabO H'.rs) ∧ VRel w' (okE w okA E') w.heap.size E' r v ∧
 (∀ k g g', E.gm k = some g → E'.gm k = some g' → g = g') ∧ (∀ k g, E'.gm k = some g → w.heap.size ≤ g ∨ E.own g) ∧
 (∀ k ver z u b, E'.rm k = some (ver, z, u) → (blkV u) = some b → w.heap.size ≤ b ∨ ∃ ver' z' u', E.rm k = some (ver', z', u') ∧ (blkV u') = some b) ∧
 (∀ k r0, tabO H'.rs k = some r0 → r0.ver = 0) ∧ (∀ k r0 r1, tabO ([] : List (Nat × Row)) k = some r0 → tabO H'.rs k = some r1 → r1.z = r0.z) ∧
 (∀ k ver ver' z z' u u', k ∈ ([] : List Nat) → E.rm k = some (ver, z, u) → E'.rm k = some (ver', z', u') → u = u') ∧ (∀ k g, bldK k = true → E.gm k = some g → E'.gm k = some g → ∃ cur T, w'.heap[g]? = some (.cells cur T (0, 0)) ∧ isBld Tryz.prog T = true) := by
 have hgm : ∀ k, E.gm k = none := fun k => hH.bxn k rfl
 have hE : ∀ k ver z1 u, (if k = key then some ((0 : Nat), z, v) else none) = some (ver, z1, u) → k = key ∧ ver = 0 ∧ z1 = z ∧ u = v := fun k ver z1 u h => by
  split at h
  ·simp only [Option.some.injEq, Prod.mk.injEq] at h
   obtain ⟨rfl, rfl, rfl⟩ := h
   exact ⟨by assumption, rfl, rfl, rfl⟩
  ·cases h
 have hk1 : ∀ (k : Nat) (r0 : Row), tabO [(key, (⟨0, T, z, es⟩ : Row))] k = some r0 → k = key ∧ r0 = ⟨0, T, z, es⟩ := fun k r0 h => by
  simp only [tabO] at h
  split at h
  ·rename_i e; injection h with h; exact ⟨e, h.symm⟩
  ·cases h
 have hone : v.oneCell' = true := by rcases ho.2 with ⟨rfl, _⟩ | ⟨_, _, _, rfl, _⟩ <;> rfl
 refine ⟨_, _, _, ⟨fun _ => none, fun k => if k = key then some (0, z, v) else none⟩, he, hR, ⟨hg.os, hg.tape, hg.output, hg.size, fun k hk _ => hg.block k hk (by simp)⟩, ?_, ?_, fun k g g' h => (by rw [hgm] at h; cases h), fun k g h => (by cases h), ?_, ?_, fun k r0 r1 h => (by simp [tabO] at h), fun k _ _ _ _ _ _ h => (by simp at h), fun k g _ h => (by rw [hgm] at h; cases h)⟩
 ·refine ⟨fun k cs h => (by simp [tabO] at h), fun k _ => rfl, fun k r0 h => ?_, fun k h => ?_, fun k k' g' h => (by cases h), fun k g' k' ver z u h => (by cases h), fun k ver z1 u k' ver' z' u' b h h' _ _ => ?_⟩
  ·obtain ⟨rfl, rfl⟩ := hk1 _ _ h
   refine ⟨fun h => by simp only at h; omega, .of (show (0 : Nat) < z from hz) hes, v, xs, by simp, .inl ⟨hz, ?_⟩, hx _ _⟩
   exact ⟨ho.1, ho.2.imp id fun ⟨g, cap, cur, h1, _, r⟩ => ⟨g, cap, cur, h1, Nat.zero_le _, r⟩⟩
  ·simp only [tabO] at h
   split at h
   ·cases h
   ·rename_i e; simp only []; rw [if_neg e]
  ·have := hE _ _ _ _ h
   have := hE _ _ _ _ h'
   omega
 ·exact .one ⟨hone, 0, z, v, by simp, Nat.le_refl _, fun _ => rfl, hz⟩
 ·intro k ver z1 u b h hb
  obtain ⟨_, _, _, rfl⟩ := hE _ _ _ _ h
  rw [row_blkV ho] at hb
  exact .inl (ho.lt b hb).1
 ·intro k r0 h
  obtain ⟨_, rfl⟩ := hk1 _ _ h
  rfl
theorem gsp_fcm (s : ByteArray) (c : UInt8) (hs : s.size < 4294967281) : FCM Tryz.prog 195 ⟨[], []⟩ [sv s, sv ⟨#[c]⟩, iv 0, iv (-1)] (fun H r => H = ⟨[], [(600, snRow (splL c s))]⟩ ∧ r = .one (.ow 600 0)) := by
 refine ⟨⟨Tryz.f195, Tryz.func195, by kernel_rfl, by kernel_rfl⟩, fun w okA E vs htab hH hown hty hlen hrel => ?_⟩
 match vs, hlen with
 | [a, b, d, e], hl2 =>
  obtain rfl := one_g (hrel 0 _ _ rfl rfl) rfl
  obtain rfl := one_g (hrel 1 _ _ rfl rfl) rfl
  obtain rfl := one_g (hrel 2 _ _ rfl rfl) rfl
  obtain rfl := one_g (hrel 3 _ _ rfl rfl) rfl
  have h1 : 1 ≤ (ByteArray.mk #[c]).size := Nat.le_refl 1
  have hle := Lib.countB_le ⟨#[c]⟩ h1 s.size s (Nat.le_refl _)
  have hln := Lib.splitB_all ⟨#[c]⟩ h1 0 _ s rfl
  refine Calls.mono (Any.strings_genSplit_core Llays221 (by kernel_rfl) s ⟨#[c]⟩ 0 (-1) (Lib.countB s ⟨#[c]⟩ + 1) w hs h1 (Nat.zero_le _) (fun x cs hx => ?_) ?_ (by decide) (by decide) (by rw [if_pos (by decide)]; omega)) ?_
  ·rw [show Lib.indexB x ⟨#[c]⟩ = Lib.indexByte x.data.toList c from Lib.index_one _ _]
   exact Any.strings_Index_one { Llays221 with } x c _
  ·rw [show (Lib.countB s ⟨#[c]⟩ : Int) = Lib.countByte s.data.toList c from congrArg _ (Lib.count_one c s.data.toList)]
   exact Any.strings_Count_one { Llays221 with } s c w
  ·rintro e w' ⟨rfl, rfl⟩
   rw [Nat.add_sub_cancel, hln]
   have hfull : Lib.cellsOf (splL c s) (Lib.countB s ⟨#[c]⟩ + 1) = ((splL c s).map Value.string).toArray := by rw [← hln]; exact Lib.cellsOf_full _
   rw [show Lib.splitB ⟨#[c]⟩ 0 (Lib.countB s ⟨#[c]⟩) s = splL c s from rfl] at *
   rw [hfull]
   have hl0 : (splL c s).length = Lib.countB s ⟨#[c]⟩ + 1 := hln
   refine fcm_newG 600 9 (show (0 : Nat) < 1 by omega) (es := (splL c s).map strC) (xs := (splL c s).map .string) (fun e he => by obtain ⟨x, _, rfl⟩ := List.mem_map.1 he; rfl) rfl hH ⟨rfl, rfl, rfl, by simp, fun k hk _ => RowKit.Below.heap_alloc w _ k hk⟩ ?_ (fun ok base => rrel_strN _) rfl ⟨rfl, rfl⟩
   rw [List.length_map, hl0]
   refine ⟨by rw [List.length_map, hl0, Nat.mul_one], .inr ⟨w.heap.size, _, _, rfl, Nat.le_refl _, heap_alloc_new w _, Nat.le_refl _, by unfold maxLen; omega, by simp [hl0], ?_⟩⟩
   rw [Nat.mul_one, List.toList_toArray, List.take_of_length_le (by rw [List.length_map, hl0]; exact Nat.le_refl _)]
end Go.Proofs.YtfgkpbkphmeigaaGreatDoor
/-
 slices.Grow of nil: an empty row of the call's own.
-/
namespace Go.Proofs.YtfgkpbkphmeigaaGreatDoor
open Go Go.Ai
set_option linter.unusedSimpArgs false
set_option linter.unusedVariables false
set_option maxHeartbeats 4000000
theorem made_owns {w : World} (e : TypeId) (z : Value) (n : Nat) (hm : (n : Int) ≤ 1000000) (hs : 0 < z.cells.size) :
  (w.drew.alloc (.cells (Builtin.zeroCells z.cells n ++ Builtin.zeroCells z.cells (grownCap w n 0 e - n)) e)).ownsRow w.heap.size e z.cells.size (.slice (some ⟨w.heap.size, 0, none⟩) 0 (grownCap w n 0 e)) 0 [] := by
 have hml : n ≤ maxLen := by simp only [maxLen]; omega
 have hge := grownCap_ge w n 0 e
 refine World.ownsRow_made (w := w.drew) _ _ (Nat.le_refl _) (grownCap_le_maxLen w n 0 e hml) ?_
 simp only [Array.size_append, size_zeroCells, ← Nat.add_mul]
 congr 1
 omega
theorem grow_run (n : Nat) (hn : (n : Int) ≤ 1000000) (w : World) : Calls Tryz.prog 184 #[.slice none 0 0, .int .i64 n] w fun e w' => ∃ v, e = .returned v ∧ w.grownBy w' none ∧ w'.ownsRow w.heap.size 34 6 v 0 [] := by
 have hb : (Tryz.t34).bytes = 64 := rfl
 have hnx : 0 < n → Builtin.nextslicecap n 0 = n := fun h => nextslicecap_zero h
 go_enter Tryz.func184, Tryz.ntmps184
 go_wp2
 all_goals try (exfalso; (try rw [hnx (by omega)] at *); rw [hb] at *; omega)
 ·go_ret
  exact ⟨_, rfl, ⟨rfl, rfl, rfl, by simp, (World.grownBy_alloc w _ none).block⟩, made_owns (w := w) 34 (Tryz.t34.zero.getD undef) n hn (by decide)⟩
 ·go_ret
  exact ⟨_, rfl, ⟨rfl, rfl, rfl, Nat.le_refl _, fun _ _ _ => rfl⟩, World.ownsRow_nil _ _ _ _⟩
theorem grow_fcms (K n : Nat) (hK : bldK K = false) (hn : (n : Int) ≤ 1000000) : FCMS Tryz.prog 184 [] ⟨[], []⟩ [.one (.g (.slice none 0 0)), iv n] (fun H r => H = ⟨[], [(K, ⟨0, 34, 6, []⟩)]⟩ ∧ r = .one (.ow K 0)) := by
 refine ⟨⟨Tryz.f184, by simp +arith, rfl, by decide⟩, fun w okA E vs htab hH hown hty hlen hrel => ?_⟩
 match vs, hlen with
 | [a, b], _ =>
  obtain rfl := one_g (hrel 0 _ _ rfl rfl) rfl
  obtain rfl := one_g (hrel 1 _ _ rfl rfl) rfl
  refine (grow_run n hn w).mono ?_
  rintro e w' ⟨v, rfl, hg, how⟩
  exact fcm_newG K 34 (show (0 : Nat) < 6 by omega) (es := []) (xs := []) (fun e he => by simp at he) hK hH hg how (fun _ _ => .nil) rfl ⟨rfl, rfl⟩
end Go.Proofs.YtfgkpbkphmeigaaGreatDoor
