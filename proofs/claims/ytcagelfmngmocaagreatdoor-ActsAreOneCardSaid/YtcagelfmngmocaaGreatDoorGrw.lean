
/-
 slices.Grow of nil: an empty row of the call's own.
-/
import Derived.Test.YtcagelfmngmocaaGreatDoorAiE
import Derived.Test.YtcagelfmngmocaaGreatDoorProg
import Derived.Laws.AppendOwn
namespace Go.Proofs.YtcagelfmngmocaaGreatDoor
open Go Go.Ai
set_option linter.unusedSimpArgs false
set_option linter.unusedVariables false
set_option maxHeartbeats 4000000
theorem made_owns {w : World} (e : TypeId) (z : Value) (n : Nat) (hm : (n : Int) ≤ 1000000) (hs : 0 < z.cells.size) :
  (w.drew.alloc (.cells (Builtin.zeroCells z.cells n ++ Builtin.zeroCells z.cells (grownCap w n 0 e - n)) e)).ownsRow w.heap.size e z.cells.size (.slice (some ⟨w.heap.size, 0, none⟩) 0 (grownCap w n 0 e)) 0 [] := by
 have hml : n ≤ maxLen := by simp only [maxLen]; omega
 have hge := grownCap_ge w n 0 e
 refine World.ownsRow_made (w := w.drew) _ _ (Nat.le_refl _) (grownCap_le_maxLen w n 0 e hml) ?_
 simp only [Array.size_append, size_zeroCells, ← Nat.add_mul]
 congr 1
 omega
theorem grow_run (n : Nat) (hn : (n : Int) ≤ 1000000) (w : World) : Calls Tryz.prog 116 #[.slice none 0 0, .int .i64 n] w fun e w' => ∃ v, e = .returned v ∧ w.grownBy w' none ∧ w'.ownsRow w.heap.size 56 6 v 0 [] := by
 have hb : (Tryz.t56).bytes = 64 := rfl
 have hnx : 0 < n → Builtin.nextslicecap n 0 = n := fun h => nextslicecap_zero h
 go_enter Tryz.func116, Tryz.ntmps116
 go_wp2
 all_goals try (exfalso; (try rw [hnx (by omega)] at *); rw [hb] at *; omega)
 ·go_ret
  exact ⟨_, rfl, ⟨rfl, rfl, rfl, by simp, (World.grownBy_alloc w _ none).block⟩, made_owns (w := w) 56 (Tryz.t56.zero.getD undef) n hn (by decide)⟩
 ·go_ret
  exact ⟨_, rfl, ⟨rfl, rfl, rfl, Nat.le_refl _, fun _ _ _ => rfl⟩, World.ownsRow_nil _ _ _ _⟩
theorem grow_fcms (K n : Nat) (hn : (n : Int) ≤ 1000000) : FCMS Tryz.prog 116 [] ⟨[], []⟩ [.one (.g (.slice none 0 0)), iv n] (fun H r => H = ⟨[], [(K, ⟨0, 56, 6, []⟩)]⟩ ∧ r = .one (.ow K 0)) := by
 refine ⟨⟨Tryz.f116, by simp +arith, rfl, by decide⟩, fun w okA E vs hr ho hl hv => ?_⟩
 match vs, hl with
 | [a, b], _ =>
  have ha := hv 0 _ _ rfl rfl
  have hb := hv 1 _ _ rfl rfl
  cases ha with
  | one h =>
   obtain ⟨rfl, _⟩ := h
   cases hb with
   | one h =>
    obtain ⟨rfl, _⟩ := h
    refine (grow_run n hn w).mono ?_
    rintro e w' ⟨v, rfl, hg, how⟩
    have h1 : v.oneCell' = true := by
     rcases how.2 with ⟨rfl, _⟩ | ⟨g, cap, cur, rfl, _⟩ <;> rfl
    have h0 : w'.ownsRow 0 56 6 v 0 [] := ⟨how.1, how.2.imp id fun ⟨g, cap, cur, he, hb, hr⟩ => ⟨g, cap, cur, he, Nat.zero_le _, hr⟩⟩
    have hE : ∀ k ver z u, (if k = K then some (0, 6, v) else none) = some (ver, z, u) → k = K ∧ ver = 0 ∧ z = 6 ∧ u = v := by
     intro k ver z u h
     split at h
     ·cases h; exact ⟨by assumption, rfl, rfl, rfl⟩
     ·cases h
    have hbk : ∀ b, blkV v = some b → w.heap.size ≤ b := by
     intro b h
     rcases how.2 with ⟨rfl, _⟩ | ⟨g, cap, cur, rfl, hg, _⟩
     ·cases h
     ·cases h; exact hg
    refine ⟨v, ⟨[], [(K, ⟨0, 56, 6, []⟩)]⟩, .one (.ow K 0), ⟨fun _ => none, fun k => if k = K then some (0, 6, v) else none⟩, rfl, ⟨rfl, rfl⟩, ⟨hg.os, hg.tape, hg.output, hg.size, fun k hk _ => hg.block k hk (by simp)⟩, ⟨(fun _ _ h => by cases h), fun _ _ => rfl, ?_, ?_, (fun _ _ _ h => by cases h), (fun _ _ _ _ _ _ h => by cases h), ?_⟩,
     .one ⟨h1, 0, 6, v, by simp, Nat.le_refl _, fun _ => rfl, by decide⟩, (fun _ _ _ _ h => by cases h), (fun _ _ h => by cases h), ?_, ?_, (fun _ _ _ h => by cases h), (fun _ _ _ _ _ _ _ h => by cases h)⟩
    ·intro k r0 h
     simp only [tabO] at h
     split at h
     ·cases h
      subst_vars
      exact ⟨(fun h => by cases h), .of (by decide) (fun _ h => (by cases h)), v, [], by simp, .inl ⟨by decide, h0⟩, rfl, (fun _ _ _ h => by cases h)⟩
     ·cases h
    ·intro k h
     simp only [tabO] at h
     split at h
     ·cases h
     ·rename_i h2
      simp [h2]
    ·intro k ver z u k' ver' z' u' b h h'
     intros
     rw [(hE _ _ _ _ h).1, (hE _ _ _ _ h').1]
    ·intro k ver z u b h hb
     obtain ⟨_, _, _, rfl⟩ := hE _ _ _ _ h
     exact .inl (hbk b hb)
    ·intro k r0 h
     simp only [tabO] at h
     split at h
     ·cases h; rfl
     ·cases h
#print axioms grow_fcms
end Go.Proofs.YtcagelfmngmocaaGreatDoor
