
/-
  slices.Sort and slices.Compact at []int, on a row that is handed over.
-/
import Derived.Test.YtggbcgldnjmobaaDoorLay
import Derived.Test.YtggbcgldnjmobaaDoorAiGen
import Derived.Sort.OwnSortedInts
import Derived.Shelf.Slices.CompactI
import Derived.Lib.RowBridge
namespace Go.Proofs.YtggbcgldnjmobaaDoor
open Go Go.Ai Go.Sort Go.Proofs
set_option linter.unusedSimpArgs false
set_option linter.unusedVariables false
set_option maxHeartbeats 4000000
theorem rrel_ints {w : World} {ok : Nat → Prop} {base : Nat} : ∀ l : List Int, RRel w ok base (l.map intC).flatten (l.map (Value.int .i64))
  | [] => .nil
  | x :: l => by
    have h : RRel w ok base [Cel.g (.int .i64 x)] [Value.int .i64 x] := ⟨rfl, fun i c u h1 h2 => by
      match i with
      | 0 => simp at h1 h2; subst h1; subst h2; exact ⟨rfl, rfl, rfl⟩
      | i + 1 => simp at h1⟩
    exact h.append (rrel_ints l)
theorem rrel_ints_eq {w : World} {ok : Nat → Prop} {base : Nat} : ∀ {l : List Int} {us : List Value}, RRel w ok base (l.map intC).flatten us → us = l.map (Value.int .i64)
  | [], us, h => List.eq_nil_of_length_eq_zero (by have := h.1; simpa using this.symm)
  | x :: l, us, h => by
    cases us with
    | nil => have := h.1; simp [intC] at this
    | cons u us =>
      have h0 := h.2 0 (.g (.int .i64 x)) u rfl rfl
      have e : u = .int .i64 x := h0.2.1
      have h1 : RRel w ok base (l.map intC).flatten us := by
        have := h.drop 1
        simpa [intC] using this
      rw [rrel_ints_eq h1, e]; rfl
/-- A function of the library that turns a row of integers in place, by its contract. -/
theorem fcms_int {P : Program} {f : FuncId} {E0 : TypeId} (S : List Nat) (l l2 : List Int) (hl : l ≠ []) (hll : l2.length ≤ l.length) (rv : Val) (hb : hasBody P f) (hS : 1000000 ∈ S → l2.length = l.length)
    (vv : Nat → Nat → Value) (hrv : ∀ (w : World) (ok : Nat → Prop) (base : Nat) (E : Env) (g cap : Nat), E.rm 1000000 = some (0, 1, .slice (some ⟨g, 0, none⟩) l2.length cap) → VRel w ok base E rv (vv g cap))
    (hC : ∀ (g cap : Nat) (w : World), Holds (Value.int .i64) w g 0 l.toArray → g < w.heap.size → l.length ≤ cap → Calls P f #[.slice (some ⟨g, 0, none⟩) l.length cap] w fun e w' => e = .returned (vv g cap) ∧ ∃ n os, ∃ d : List Int, d.length = l.length ∧ d.take l2.length = l2 ∧ w' = grow (putRow (Value.int .i64) (Sort.ahead w n) g 0 d.toArray) os) :
    FCMS P f S ⟨[], [(1000000, ⟨0, E0, 1, l.map intC⟩)]⟩ [.one (.ow 1000000 0)] (fun H r => H = ⟨[], [(1000000, ⟨0, E0, 1, l2.map intC⟩)]⟩ ∧ r = rv) := by
  refine ⟨hb, fun w okA E vs hH hown hlen hrel => ?_⟩
  have hk1 : ∀ (r : Row) (k : Nat) (r0 : Row), tabO [(1000000, r)] k = some r0 → k = 1000000 ∧ r0 = r := fun r k r0 h => by
    simp only [tabO] at h
    split at h
    · rename_i e; injection h with h; exact ⟨e, h.symm⟩
    · cases h
  have hk2 : ∀ (r : Row) (k : Nat), tabO [(1000000, r)] k = none → k ≠ 1000000 := fun r k h e => by subst e; simp [tabO] at h
  obtain ⟨_, hro, u, xs, hm, how, hxs⟩ := hH.rw 1000000 ⟨0, E0, 1, l.map intC⟩ (by simp [tabO])
  simp only at hm how hxs
  have how := how.row (by omega)
  have hxe := rrel_ints_eq hxs
  subst hxe
  have hgm : ∀ k, E.gm k = none := fun k => hH.bxn k rfl
  have hrm : ∀ k, k ≠ 1000000 → E.rm k = none := fun k hk => hH.rwn k (by simp [tabO, hk])
  obtain ⟨v, rfl⟩ : ∃ v, vs = [v] := by
    cases vs with
    | nil => simp at hlen
    | cons v vs => cases vs with
      | nil => exact ⟨v, rfl⟩
      | cons a b => simp at hlen
  have hv : v = u := by
    have h1 := hrel 0 _ v rfl rfl
    cases h1 with
    | one h2 =>
      obtain ⟨_, ver', z, u', hr, hle, hvu, hz⟩ := h2
      rw [hm] at hr
      simp only [Option.some.injEq, Prod.mk.injEq] at hr
      obtain ⟨rfl, rfl, rfl⟩ := hr
      exact hvu rfl
  subst hv
  have hlp : 0 < l.length := List.length_pos_iff.2 hl
  rcases how.2 with ⟨_, hn⟩ | ⟨g, cap, cur, hve, _, hcell, hnc, hcm, hcs, htake⟩
  · simp at hn; exact absurd hn hl
  · simp only [List.length_map, Nat.mul_one] at hnc htake hcs hve
    subst hve
    have hglt : g < w.heap.size := (Array.getElem?_eq_some_iff.1 hcell).1
    refine Calls.mono (hC g cap w (holds_of_blockI hcell htake) hglt hnc) ?_
    rintro e w' ⟨rfl, n, os, d, hd1, hd2, rfl⟩
    have hgr := grownBy_sortedI (w := w) (g := g) (n := n) (os := os) d.toArray
    have hcell' := heap_sortedI (n := n) (os := os) d.toArray hcell
    have htk := take_putCellsI cur d (by omega)
    have hE : ∀ k, (upd E.rm 1000000 (some (0, 1, Value.slice (some ⟨g, 0, none⟩) l2.length cap))) k = if k = 1000000 then some (0, 1, Value.slice (some ⟨g, 0, none⟩) l2.length cap) else none := fun k => by
      by_cases e : k = 1000000
      · subst e; simp [upd_same]
      · rw [upd_ne _ _ e, hrm k e, if_neg e]
    refine ⟨vv g cap, ⟨[], [(1000000, ⟨0, E0, 1, l2.map intC⟩)]⟩, rv, ⟨E.gm, upd E.rm 1000000 (some (0, 1, .slice (some ⟨g, 0, none⟩) l2.length cap))⟩, rfl, ⟨rfl, rfl⟩, ?_, ?_, ?_, ?_, ?_, ?_, ?_, ?_, ?_⟩
    · refine ⟨hgr.os, hgr.tape, hgr.output, hgr.size, fun k hk hx => hgr.block k hk (fun e => hx ?_)⟩
      injection e with e; subst e
      exact .inr ⟨1000000, 0, 1, _, hm, rfl⟩
    · refine ⟨fun k cs h => (by simp [tabO] at h), fun k _ => hgm k, fun k r0 h => ?_, fun k h => ?_, fun k k' g' h => (by rw [hgm] at h; cases h), fun k g' k' ver z u h => (by rw [hgm] at h; cases h), fun k ver z u k' ver' z' u' b h h' _ _ => ?_⟩
      · obtain ⟨rfl, rfl⟩ := hk1 _ _ _ h
        refine ⟨fun h => by simp at h, .of (show (0 : Nat) < 1 by omega) (fun e he => ?_), .slice (some ⟨g, 0, none⟩) l2.length cap, l2.map (Value.int .i64), by simp [upd_same], .inl ⟨show (0 : Nat) < 1 by omega, by simp, .inr ⟨g, cap, _, by simp, Nat.zero_le _, hcell', by simp only [List.length_map]; omega, hcm, by simp [putCells, hcs], ?_⟩⟩, rrel_ints l2⟩
        · obtain ⟨x, _, rfl⟩ := List.mem_map.1 he; rfl
        · simp only [List.length_map, Nat.mul_one]
          have h3 : (putCells (Value.int .i64) 0 d.toArray cur).toList.take l2.length = ((putCells (Value.int .i64) 0 d.toArray cur).toList.take d.length).take l2.length := by rw [List.take_take, Nat.min_eq_left (by omega)]
          rw [h3, htk, ← List.map_take, hd2]
      · have := hk2 _ _ h
        simp only [hE, if_neg this]
      · simp only [hE] at h h'
        split at h <;> split at h'
        · omega
        · cases h'
        · cases h
        · cases h
    · exact hrv _ _ _ _ g cap (by simp [upd_same])
    · intro k g1 g2 h; rw [hgm] at h; cases h
    · intro k g1 h
      have h : E.gm k = some g1 := h
      rw [hgm] at h; cases h
    · intro k ver z u b h hb2
      simp only [hE] at h
      split at h
      · rename_i e
        subst e
        simp only [Option.some.injEq, Prod.mk.injEq] at h
        obtain ⟨_, _, rfl⟩ := h
        exact .inr ⟨_, _, _, hm, hb2⟩
      · cases h
    · intro k r0 h
      obtain ⟨rfl, rfl⟩ := hk1 _ _ _ h
      rfl
    · intro k r0 r1 h h'
      obtain ⟨rfl, rfl⟩ := hk1 _ _ _ h
      obtain ⟨_, rfl⟩ := hk1 _ _ _ h'
      rfl
    · intro k ver ver' z z' u u' hkS h h'
      simp only [hE] at h'
      split at h'
      · rename_i e; subst e
        rw [hm] at h
        simp only [Option.some.injEq, Prod.mk.injEq] at h h'
        rw [← h.2.2, ← h'.2.2, hS hkS]
      · cases h'
/-- The row of integers. -/
abbrev nRow (l : List Int) : Row := ⟨0, 3, 1, l.map intC⟩
theorem compactI_fcm (l : List Int) (hl : l ≠ []) (hsz : l.length ≤ 9223372036854775807) : FCM Tryd.prog 32 ⟨[], [(1000000, nRow l)]⟩ [.one (.ow 1000000 0)] (fun H r => H = ⟨[], [(1000000, nRow (Lib.compact l))]⟩ ∧ r = .one (.ow 1000000 0)) :=
  fcms_int [] l (Lib.compact l) hl (Lib.compact_length_le l) _ ⟨Tryd.f32, Tryd.func32, by kernel_rfl, by kernel_rfl⟩ (fun h => by cases h) (fun g cap => .slice (some ⟨g, 0, none⟩) (Lib.compact l).length cap)
    (fun w ok base E g cap he => .one ⟨rfl, 0, 1, _, he, Nat.le_refl _, fun _ => rfl, by omega⟩)
    (fun g cap w hH hg hc => by
      have hle := Lib.compact_length_le l
      refine Calls.mono (Any.slices_Compact_int LayCompact g 0 cap l w hH hsz hc) ?_
      rintro e w' ⟨rfl, q, rfl⟩
      exact ⟨rfl, q, #[], Lib.compact l ++ List.replicate (l.length - (Lib.compact l).length) 0, by simp; omega, by simp, by rw [grow_empty]⟩)
end Go.Proofs.YtggbcgldnjmobaaDoor
