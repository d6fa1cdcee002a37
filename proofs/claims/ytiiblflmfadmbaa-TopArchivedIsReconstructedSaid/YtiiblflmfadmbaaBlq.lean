
/-
 A walker's query, walked: all samples of the tag in the window, in order.
-/
import Derived.Test.YtiiblflmfadmbaaBlm
import Derived.Test.YtiiblflmfadmbaaBlr
import Derived.Test.YtiiblflmfadmbaaLsm
import Derived.Sort.OwnSorted
import Derived.Great.BuildSlice
namespace Go.Proofs.Ytiiblflmfadmbaa
open Go Go.RowKit Go.Proofs Go.Ai Go.ChangeMaps
set_option linter.unusedSimpArgs false
set_option linter.unusedVariables false
set_option maxHeartbeats 4000000
def tqB : ByteArray := ByteArray.mk #[116, 97, 103]
structure QIn (w : World) (g bp op cp bs os cs : Nat) (n0 n1 n3 n4 n5 : Int) (b6 : Bool) (l : List Smp) : Prop where
 gb : g < w.heap.size
 gc : w.cell? ⟨g, 2, none⟩ = some (.slice (some ⟨bp, op, none⟩) 1 cp)
 pb : bp < w.heap.size
 pc : ∀ j u, [.int .i64 n0, .int .i64 n1, .string tqB, .int .i64 n3, .int .i64 n4, .int .i64 n5, .bool b6, .slice (some ⟨bs, os, none⟩) l.length cs][j]? = some u → w.cell? ⟨bp, op + j, none⟩ = some u
 sb : bs < w.heap.size
 sc : ∀ i x, l[i]? = some x → ∀ j u, (smV x)[j]? = some u → w.cell? ⟨bs, os + i * 3 + j, none⟩ = some u
def unSm : Value → Smp
 | .agg #[.int _ a, .int _ b, .int _ c] => ⟨a, b, c⟩
 | _ => default
set_option maxRecDepth 100000 in
theorem query_any {w : World} {g bp op cp bs os cs : Nat} {n0 n1 n3 n4 n5 : Int} {b6 : Bool} {l : List Smp} (h : QIn w g bp op cp bs os cs n0 n1 n3 n4 n5 b6 l) (h1 : 1 ≤ l.length) (hl : l.length ≤ 1000) (hok : ∀ x ∈ l, 0 ≤ x.a ∧ x.a < 345686400000) (hnd : l.Pairwise fun x y => x.a < y.a)
  (hsort : ∀ (W : World) (v : Value) (ss : List Smp) {B : Nat}, l.Perm ss → W.ownsRow B smT 3 v ss.length (ss.map smV).flatten → Calls Try.prog 51 #[v, .func (.func 52) #[] #[]] W fun e w' => e = .returned (.tuple #[]) ∧ W.grownBy w' v.ownBlock ∧ w'.ownsRow B smT 3 v l.length (l.map smV).flatten) :
  Calls Try.prog 28 #[.pointer (some ⟨g, 0, none⟩), .string tqB, .agg #[.int .i64 0, .int .i64 345686400000]] w fun e w' => ∃ v, e = .returned v ∧ w.grownBy w' none ∧ w'.ownsRow w.heap.size smT 3 v l.length (l.map smV).flatten := by
 have hmm := @run_makeMap Try.prog
 obtain ⟨gb, gc, pb, pc, sb, sc⟩ := h
 go_enter Try.func28, Try.ntmps28
 go_wp2
 refine wp_loop_rounds 2 ?_
 rw [rounds_succ]
 have hg0 : w.grownBy ((w.alloc (.cells #[.int .i64 0, .int .i64 345686400000] 42)).alloc (.map #[] 0)) none := (World.grownBy_alloc w _ none).trans (World.grownBy_alloc _ _ none)
 have q0 := (World.cell?_of_block (w := w) (a := ⟨bp, op, none⟩) (hg0.block bp pb (by simp))).trans (pc 0 _ rfl)
 have q1 := (World.cell?_of_block (w := w) (a := ⟨bp, op + 1, none⟩) (hg0.block bp pb (by simp))).trans (pc 1 _ rfl)
 have q2 := (World.cell?_of_block (w := w) (a := ⟨bp, op + 2, none⟩) (hg0.block bp pb (by simp))).trans (pc 2 _ rfl)
 have q3 := (World.cell?_of_block (w := w) (a := ⟨bp, op + 3, none⟩) (hg0.block bp pb (by simp))).trans (pc 3 _ rfl)
 have q4 := (World.cell?_of_block (w := w) (a := ⟨bp, op + 4, none⟩) (hg0.block bp pb (by simp))).trans (pc 4 _ rfl)
 have q5 := (World.cell?_of_block (w := w) (a := ⟨bp, op + 5, none⟩) (hg0.block bp pb (by simp))).trans (pc 5 _ rfl)
 have q6 := (World.cell?_of_block (w := w) (a := ⟨bp, op + 6, none⟩) (hg0.block bp pb (by simp))).trans (pc 6 _ rfl)
 have q7 := (World.cell?_of_block (w := w) (a := ⟨bp, op + 7, none⟩) (hg0.block bp pb (by simp))).trans (pc 7 _ rfl)
 go_wp2
 have hg1 : w.grownBy (((w.alloc (.cells #[.int .i64 0, .int .i64 345686400000] 42)).alloc (.map #[] 0)).alloc (.cells #[.int .i64 n0, .int .i64 n1, .string tqB, .int .i64 n3, .int .i64 n4, .int .i64 n5, .bool b6, .slice (some ⟨bs, os, none⟩) l.length cs] 109)) none := hg0.trans (World.grownBy_alloc _ _ none)
 go_loopw [33] (fun i wr => ∃ k : Nat, k ≤ l.length ∧ i = .int .i64 k ∧ Mss wr (w.heap.size + 1) (l.take k) ∧ w.grownBy wr none ∧ w.heap.size + 3 ≤ wr.heap.size ∧ wr.heap[w.heap.size]? = some (.cells #[.int .i64 0, .int .i64 345686400000] 42 (0, 0)))
  (fun i _ => l.length - (intOf i).toNat)
 case atStart =>
  refine ⟨0, Nat.zero_le _, rfl, ⟨#[], 0, ?_, rfl, Stp.nil, by simp⟩, hg1, by simp, ?_⟩
  ·rw [(World.grownBy_alloc _ _ none).block (w.heap.size + 1) (by simp) (by simp)]
   have := heap_alloc_new (w.alloc (.cells #[.int .i64 0, .int .i64 345686400000] 42)) (.map #[] 0)
   simpa using this
  ·rw [(World.grownBy_alloc _ _ none).block w.heap.size (by simp; omega) (by simp), (World.grownBy_alloc _ _ none).block w.heap.size (by simp) (by simp)]
   exact heap_alloc_new w _
 case round =>
  obtain ⟨k, hk, rfl, hMs, hgr, hsz, hbx⟩ := hrel
  by_cases hlt : k < l.length
  ·have hx := List.getElem?_eq_getElem hlt
   have hxo := hok _ (List.getElem_mem hlt)
   have hnew : ∀ s ∈ l.take k, s.a ≠ l[k].a := fun s hs => by
    obtain ⟨j, hj, rfl⟩ := List.getElem_of_mem hs
    rw [List.getElem_take]
    rw [List.length_take] at hj
    have := List.pairwise_iff_getElem.1 hnd j k (by omega) hlt (by omega)
    omega
   have htk : l.take (k + 1) = l.take k ++ [l[k]] := by rw [List.take_add_one, hx]; rfl
   have hsc := sc k _ hx
   generalize l[k] = x at hsc hxo hnew htk hx
   have c0 : wr.cell? ⟨bs, os + k * 3, none⟩ = some (.int .i64 x.a) := (World.cell?_of_block (w := w) (hgr.block bs sb (by simp))).trans (hsc 0 _ rfl)
   have c1 : wr.cell? ⟨bs, os + k * 3 + 1, none⟩ = some (.int .i64 x.v) := (World.cell?_of_block (w := w) (hgr.block bs sb (by simp))).trans (hsc 1 _ rfl)
   have c2 : wr.cell? ⟨bs, os + k * 3 + 2, none⟩ = some (.int .i64 x.q) := (World.cell?_of_block (w := w) (hgr.block bs sb (by simp))).trans (hsc 2 _ rfl)
   have hga := World.grownBy_alloc wr (.cells #[.int .i64 x.a, .int .i64 x.v, .int .i64 x.q] smT) none
   have hnb := heap_alloc_new wr (.cells #[.int .i64 x.a, .int .i64 x.v, .int .i64 x.q] smT)
   have hbx1 := (hga.block w.heap.size (by omega) (by simp)).trans hbx
   have hM1 : Mss (wr.alloc (.cells #[.int .i64 x.a, .int .i64 x.v, .int .i64 x.q] smT)) (w.heap.size + 1) (l.take k) := hMs.kept hga (by simp)
   have hs1 : (wr.alloc (.cells #[.int .i64 x.a, .int .i64 x.v, .int .i64 x.q] smT)).heap.size = wr.heap.size + 1 := by simp
   have d0 : (wr.alloc (.cells #[.int .i64 x.a, .int .i64 x.v, .int .i64 x.q] smT)).cell? ⟨w.heap.size, 0, none⟩ = some (.int .i64 0) := by rw [cell_of_row _ _ 0 _ _ (0, 0) hbx1]; rfl
   have d1 : (wr.alloc (.cells #[.int .i64 x.a, .int .i64 x.v, .int .i64 x.q] smT)).cell? ⟨w.heap.size, 1, none⟩ = some (.int .i64 345686400000) := by rw [cell_of_row _ _ 1 _ _ (0, 0) hbx1]; rfl
   obtain ⟨w3, hup, hM3, hg3, hsz3⟩ := (hM1.kept (World.grownBy_alloc (wr.alloc (.cells #[.int .i64 x.a, .int .i64 x.v, .int .i64 x.q] smT)) (.cells #[.int .i64 0, .int .i64 345686400000] 42) none) (by simp)).store hnew
   have hup2 : (Instr.mapUpdate mmT (.map (some (w.heap.size + 1))) (.int .i64 x.a) (.agg #[.int .i64 x.a, .int .i64 x.v, .int .i64 x.q])).run Try.prog ((wr.alloc (.cells #[.int .i64 x.a, .int .i64 x.v, .int .i64 x.q] smT)).alloc (.cells #[.int .i64 0, .int .i64 345686400000] 42)) = .ok () w3 := hup
   go_wp2
   refine ⟨⟨k + 1, by omega, by simp, by rw [htk]; exact hM3, ((hgr.trans hga).trans (World.grownBy_alloc _ _ none)).andThen hg3 fun j h => .inl (by injection h with h; omega), by rw [hsz3]; simp; omega, ?_⟩, by simp [intOf]; omega⟩
   rw [hg3.block w.heap.size (by simp; omega) (by intro e; injection e with e; omega), (World.grownBy_alloc _ _ none).block w.heap.size (by simp; omega) (by simp)]
   exact hbx1
  ·have hke : k = l.length := by omega
   subst hke
   rename World => W9
   rw [List.take_of_length_le (Nat.le_refl _)] at hMs
   obtain ⟨ms, clock, hb, hlm, hSp, hD⟩ := hMs
   have hblt : w.heap.size + 1 < W9.heap.size := (Array.getElem?_eq_some_iff.1 hb).1
   have hrange := run_range_map (P := Try.prog) W9 mmT 3 smT (w.heap.size + 1) ms clock Try.underlying105 hb
   obtain ⟨i1, hj, hj0, hj2⟩ := info_smp
   go_wp2
   rw [rounds_succ]
   go_wp2
   go_loopw [12] (fun v12 wi => ∃ (seen : Array Nat) (c0 : Nat) (ss : List Smp), wi.heap[W9.heap.size]? = some (.mapIter (some (w.heap.size + 1)) clock seen c0) ∧ clock ≤ c0 ∧ W9.grownBy wi none ∧ wi.ownsRow (W9.heap.size + 1) smT 3 v12 ss.length (ss.map smV).flatten ∧
     ((ms.toList.filter fun x => seen.contains x.born).map (·.val)).Perm (ss.map fun s => Value.agg (smV s).toArray)) (fun _ wi => itSz ms wi W9.heap.size)
   case atStart =>
    exact ⟨#[], clock, [], heap_alloc_new W9 _, Nat.le_refl _, World.grownBy_alloc W9 _ none, World.ownsRow_nil _ _ _ _, by simp⟩
   case round =>
    obtain ⟨seen, c0, ss, hr, hc0, hg, hO, hP⟩ := hrel
    have hbr : wr.heap[w.heap.size + 1]? = some (.map ms clock) := by rw [hg.block _ hblt (by simp)]; exact hb
    rcases run_next_at (P := Try.prog) wr 0 W9.heap.size (w.heap.size + 1) clock c0 seen ms clock hr hbr hSp.1 hc0 with ⟨h0, hrun⟩ | ⟨e, he, w1, hal, hrun⟩
    ·have hfl : (ms.toList.filter fun x => seen.contains x.born) = ms.toList := List.filter_eq_self.2 fun x hx => all_seen ms seen h0 x hx
     rw [hfl] at hP
     have hSk : ms.toList.map (·.val) = l.map fun s => Value.agg (smV s).toArray := by
      refine List.ext_getElem? fun j => ?_
      rw [List.getElem?_map, List.getElem?_map]
      cases hj1 : l[j]? with
      | none =>
       have : ms.toList[j]? = none := by rw [List.getElem?_eq_none_iff] at hj1 ⊢; omega
       rw [this]; rfl
      | some s =>
       have hlt : j < ms.toList.length := by have := (List.getElem?_eq_some_iff.1 hj1).1; omega
       have hx : ms.toList[j]? = some ms.toList[j] := List.getElem?_eq_getElem hlt
       rw [hx, Option.map_some, Option.map_some, (hD j s _ hj1 hx).2]
     rw [hSk] at hP
     have hP2 : l.Perm ss := by
      have := hP.map unSm
      rw [List.map_map, List.map_map, show (unSm ∘ fun s => Value.agg (smV s).toArray) = id from rfl, List.map_id, List.map_id] at this
      exact this
     have hsc := hsort wr u12 ss hP2 hO
     go_wp2_with (first | (refine Calls.mono hsc ?_; rintro e w' ⟨rfl, hg', hO'⟩) | go_in)
     go_ret
     refine ⟨_, rfl, (hgr.trans hg).andThen hg' fun j h => .inl (by have := (hO.lt j h).1; omega), hO'.1, hO'.2.imp id fun ⟨g, cap, cur, h1, h2, r⟩ => ⟨g, cap, cur, h1, by omega, r⟩⟩
    ·obtain ⟨hem, hes⟩ := mem_left he
     obtain ⟨j, hjl, hje⟩ := List.getElem_of_mem hem
     have hx : ms.toList[j]? = some e := by rw [List.getElem?_eq_getElem hjl, hje]
     have hs : l[j]? = some l[j] := List.getElem?_eq_getElem (by omega)
     obtain ⟨hkey, hval⟩ := hD j _ e hs hx
     generalize l[j] = s at hkey hval hs
     have hr1 : w1.heap[W9.heap.size]? = some (.mapIter (some (w.heap.size + 1)) clock seen c0) := by rcases hal with rfl | rfl <;> exact hr
     have hb1 : w1.heap[w.heap.size + 1]? = some (.map ms clock) := by rcases hal with rfl | rfl <;> exact hbr
     have hset := MapKept.heap_set (o' := .mapIter (some (w.heap.size + 1)) clock (seen.push e.born) clock) hr1
     have hb2 := (hset.2 (w.heap.size + 1) (by omega)).trans hb1
     have hent := run_entry_at (P := Try.prog) (setBlock w1 W9.heap.size (.mapIter (some (w.heap.size + 1)) clock (seen.push e.born) clock)) W9.heap.size (w.heap.size + 1) clock seen ms clock e hset.1 hb2 hem hSp.2
     have hg2 : wr.grownBy (setBlock w1 W9.heap.size (.mapIter (some (w.heap.size + 1)) clock (seen.push e.born) clock)) (some W9.heap.size) := by
      rcases hal with rfl | rfl <;> exact ⟨rfl, rfl, rfl, by simp [setBlock], fun i _ hi => hset.2 i (fun e1 => hi (by rw [e1]))⟩
     have hsz2 : (setBlock w1 W9.heap.size (.mapIter (some (w.heap.size + 1)) clock (seen.push e.born) clock)).heap.size = wr.heap.size := by
      rcases hal with rfl | rfl <;> simp [setBlock]
     have hlk : (setBlock w1 W9.heap.size (.mapIter (some (w.heap.size + 1)) clock (seen.push e.born) clock)).heap[W9.heap.size]? = some (.mapIter (some (w.heap.size + 1)) clock (seen.push e.born) clock) := hset.1
     have hsh := left_shrinks ms seen e he
     have hpp := (perm_push hSp.2 hem hes).map (fun x : MapEntry => x.val)
     have hval2 : e.val = Value.agg #[.int .i64 s.a, .int .i64 s.v, .int .i64 s.q] := hval
     rw [hkey, hval2] at hrun hent
     generalize setBlock w1 W9.heap.size (.mapIter (some (w.heap.size + 1)) clock (seen.push e.born) clock) = w2 at *
     have hrs : W9.heap.size < wr.heap.size := (Array.getElem?_eq_some_iff.1 hr).1
     go_wp2
     rename_i K1 hK1
     refine wp_buildSlice _ _ 1 _ rfl (smV s).toArray i1 _ Try.underlying26 hj (by exact hj0) (by rw [hj2.1]; decide) (by rw [hj2.1]; decide) ?_ ?_
     ·rw [hj2.1, Array.toList_map]
      show Instr.fill _ _ [(0, .agg (smV s).toArray)] = _
      have := fill_row 3 [.agg (smV s).toArray] 0 ((Array.range (1 * 3)).map (fun j => (Value.agg #[.int .i64 0, .int .i64 0, .int .i64 0]).cells[j % (Value.agg #[.int .i64 0, .int .i64 0, .int .i64 0]).cells.size]!)) (by simp [smV, Value.cells]) (by simp)
      simpa [Value.cells, List.range', smV] using this
     refine hK1 _ _ ?_
     have hlow : ∀ j, u12.ownBlock = some j → W9.heap.size < j := fun j h => (hO.lt j h).1
     have hO2 : ((w2.alloc (.cells #[.int .i64 s.a, .int .i64 s.v, .int .i64 s.q] smT)).alloc (.cells (smV s).toArray smT)).ownsRow (W9.heap.size + 1) smT 3 u12 ss.length (ss.map smV).flatten := ((hO.kept hg2 (.inr fun e => by have := hlow _ e; omega)).alloc _).alloc _
     have hssl : ss.length ≤ 1000000 := by
      have h1 := hP.length_eq
      rw [List.length_map, List.length_map] at h1
      have h2 := List.length_filter_le (fun x : MapEntry => seen.contains x.born) ms.toList
      omega
     have hnw : ((w2.alloc (.cells #[.int .i64 s.a, .int .i64 s.v, .int .i64 s.q] smT)).alloc (.cells (smV s).toArray smT)).heap[wr.heap.size + 1]? = some (.cells (smV s).toArray smT (0, 0)) := by
      rw [show wr.heap.size + 1 = (w2.alloc (.cells #[.int .i64 s.a, .int .i64 s.v, .int .i64 s.q] smT)).heap.size by simp; omega]
      exact heap_alloc_new _ _
     refine wp_append_smp rfl (.tmp 53) (.tmp 55) rfl rfl hO2 (by simp; omega) (wr.heap.size + 1) s (by show Value.slice (some ⟨(w2.alloc (.cells #[.int .i64 s.a, .int .i64 s.v, .int .i64 s.q] smT)).heap.size, 0, none⟩) 1 1 = _; rw [World.size_alloc, hsz2]) hnw (by omega) ?_
     intro v3 w3 hO3 hg3
     go_wp2
     have hr3 : w3.heap[W9.heap.size]? = some (.mapIter (some (w.heap.size + 1)) clock (seen.push e.born) clock) := by
      rw [hg3.block W9.heap.size (by simp; omega) (fun e => by have := hlow _ e.symm; omega), (World.grownBy_alloc _ _ none).block W9.heap.size (by simp; omega) (by simp), (World.grownBy_alloc _ _ none).block W9.heap.size (by omega) (by simp)]
      exact hlk
     refine ⟨⟨seen.push e.born, clock, hr3, Nat.le_refl _, ?_, ss ++ [s], hO3, ?_⟩, ?_⟩
     ·exact (((hg.andThen hg2 fun j h => .inl (by injection h with h; omega)).trans (World.grownBy_alloc w2 _ none)).trans (World.grownBy_alloc _ _ none)).andThen hg3 fun j h => .inl (by have := hlow j h; omega)
     ·have hcc : (fun x : MapEntry => (seen.push e.born).contains x.born) = fun x => decide (x.born ∈ seen.push e.born) := funext fun x => by simp
      rw [hcc] at hpp
      refine hpp.trans ?_
      rw [List.map_append, List.map_append, List.map_cons, List.map_nil, List.map_cons, List.map_nil, hval]
      exact hP.append_right _
     ·unfold itSz
      rw [hr3, hr]
      exact hsh
end Go.Proofs.Ytiiblflmfadmbaa
