/-
  Where slices.SortFunc at []api.Act, and what it calls, lie in the loaded program.
-/
import Derived.Shelf.SlLaysF0
import Derived.Test.YtfgkpbkphmeigaaGreatDoorProg
import Derived.Test.YtfgkpbkphmeigaaGreatDoorOpv
import Derived.Sort.OwnSorted
import Derived.Shelf.SlSortCmp.WholeK
namespace Go.Proofs.YtfgkpbkphmeigaaGreatDoor
open Go Go.Proofs
def LlaysSF94_ren : Go.Shelf.Ren := ⟨fun | 6 => 94 | 15 => 187 | 14 => 186 | 28 => 254 | 29 => 255 | 20 => 245 | 21 => 247 | 22 => 248 | 23 => 249 | 24 => 250 | 25 => 251 | 26 => 252 | 27 => 253 | 46 => 312 | 47 => 313 | 48 => 314 | 49 => 315 | 50 => 316 | 57 => 359 | n => n, fun | 22 => 30 | 24 => 34 | 25 => 118 | 3 => 3 | 39 => 227 | 0 => 0 | 53 => 300 | 55 => 240 | 4 => 4 | 46 => 294 | 45 => 293 | 50 => 140 | 5 => 5 | 9 => 9 | 66 => 338 | 70 => 342 | 76 => 370 | 77 => 371 | n => n, fun | n => n⟩
theorem LlaysSF94 : Go.Proofs.SlLaysF0.n6 Tryz.prog LlaysSF94_ren := {
 mixed := by kernel_rfl
 f6 := ⟨Tryz.f94.name, by decide, Tryz.func94.trans (congrArg some (by kernel_rfl))⟩
 f14 := ⟨Tryz.f186.name, by decide, Tryz.func186.trans (congrArg some (by kernel_rfl))⟩
 f15 := Tryz.func187.trans (congrArg some (by kernel_rfl))
 f20 := ⟨Tryz.f245.name, by decide, Tryz.func245.trans (congrArg some (by kernel_rfl))⟩
 f21 := ⟨Tryz.f247.name, by decide, Tryz.func247.trans (congrArg some (by kernel_rfl))⟩
 f22 := ⟨Tryz.f248.name, by decide, Tryz.func248.trans (congrArg some (by kernel_rfl))⟩
 f23 := ⟨Tryz.f249.name, by decide, Tryz.func249.trans (congrArg some (by kernel_rfl))⟩
 f24 := ⟨Tryz.f250.name, by decide, Tryz.func250.trans (congrArg some (by kernel_rfl))⟩
 f25 := ⟨Tryz.f251.name, by decide, Tryz.func251.trans (congrArg some (by kernel_rfl))⟩
 f26 := ⟨Tryz.f252.name, by decide, Tryz.func252.trans (congrArg some (by kernel_rfl))⟩
 f27 := ⟨Tryz.f253.name, by decide, Tryz.func253.trans (congrArg some (by kernel_rfl))⟩
 f28 := Tryz.func254.trans (congrArg some (by kernel_rfl))
 f29 := Tryz.func255.trans (congrArg some (by kernel_rfl))
 f46 := ⟨Tryz.f312.name, by decide, Tryz.func312.trans (congrArg some (by kernel_rfl))⟩
 f47 := Tryz.func313.trans (congrArg some (by kernel_rfl))
 f48 := Tryz.func314.trans (congrArg some (by kernel_rfl))
 f49 := ⟨Tryz.f315.name, by decide, Tryz.func315.trans (congrArg some (by kernel_rfl))⟩
 f50 := ⟨Tryz.f316.name, by decide, Tryz.func316.trans (congrArg some (by kernel_rfl))⟩
 f57 := ⟨Tryz.f359.name, by decide, Tryz.func359.trans (congrArg some (by kernel_rfl))⟩
 t0 := Tryz.underlying0
 a0 := Tryz.isAgg0
 z0 := Tryz.sizeOf0
 v0 := Tryz.zeroValue0
 t3 := Tryz.underlying3
 a3 := Tryz.isAgg3
 z3 := Tryz.sizeOf3
 v3 := Tryz.zeroValue3
 t4 := Tryz.underlying4
 a4 := Tryz.isAgg4
 z4 := Tryz.sizeOf4
 v4 := Tryz.zeroValue4
 t5 := Tryz.underlying5
 a5 := Tryz.isAgg5
 z5 := Tryz.sizeOf5
 v5 := Tryz.zeroValue5
 t9 := Tryz.underlying9
 a9 := Tryz.isAgg9
 z9 := Tryz.sizeOf9
 v9 := Tryz.zeroValue9
 t22 := Tryz.underlying30
 a22 := Tryz.isAgg30
 z22 := Tryz.sizeOf30
 v22 := Tryz.zeroValue30
 t25 := Tryz.underlying118
 a25 := Tryz.isAgg118
 z25 := Tryz.sizeOf118
 v25 := Tryz.zeroValue118
 t39 := Tryz.underlying227
 a39 := Tryz.isAgg227
 z39 := Tryz.sizeOf227
 v39 := Tryz.zeroValue227
 t45 := Tryz.underlying293
 a45 := Tryz.isAgg293
 z45 := Tryz.sizeOf293
 v45 := Tryz.zeroValue293
 t46 := Tryz.underlying294
 a46 := Tryz.isAgg294
 z46 := Tryz.sizeOf294
 v46 := Tryz.zeroValue294
 t50 := Tryz.underlying140
 a50 := Tryz.isAgg140
 z50 := Tryz.sizeOf140
 v50 := Tryz.zeroValue140
 t53 := Tryz.underlying300
 a53 := Tryz.isAgg300
 z53 := Tryz.sizeOf300
 v53 := Tryz.zeroValue300
 t55 := Tryz.underlying240
 a55 := Tryz.isAgg240
 z55 := Tryz.sizeOf240
 v55 := Tryz.zeroValue240
 t66 := Tryz.underlying338
 a66 := Tryz.isAgg338
 z66 := Tryz.sizeOf338
 v66 := Tryz.zeroValue338
 t70 := Tryz.underlying342
 a70 := Tryz.isAgg342
 z70 := Tryz.sizeOf342
 v70 := Tryz.zeroValue342
 t76 := Tryz.underlying370
 a76 := Tryz.isAgg370
 z76 := Tryz.sizeOf370
 v76 := Tryz.zeroValue370
 t77 := Tryz.underlying371
 a77 := Tryz.isAgg371
 z77 := Tryz.sizeOf371
 v77 := Tryz.zeroValue371 }
end Go.Proofs.YtfgkpbkphmeigaaGreatDoor
/-
 slices.SortFunc of acts, on a row that is handed over: at every length.
-/
namespace Go.Proofs.YtfgkpbkphmeigaaGreatDoor
open Go Go.Ai Go.Sort Go.Proofs
set_option linter.unusedSimpArgs false
set_option linter.unusedVariables false
set_option maxHeartbeats 4000000
theorem flatK_opr (l : List Opr) : flatK oprV 6 l.toArray = ((l.map oprV).flatten).toArray := by
 refine ext_get! (by rw [size_flatK]; simp only [List.size_toArray]; rw [oprV_len]) fun t ht => ?_
 rw [size_flatK] at ht
 rw [get_flatK _ _ _ t ht]
 have ht2 : t / 6 < l.length := by simp only [List.size_toArray] at ht; omega
 have h1 : l[t / 6]? = some l[t / 6] := List.getElem?_eq_getElem ht2
 have hm : t % 6 < 6 := Nat.mod_lt _ (by omega)
 have hl6 : (oprV l[t / 6]).length = 6 := rfl
 have h2 : (oprV l[t / 6])[t % 6]? = some (oprV l[t / 6])[t % 6] := List.getElem?_eq_getElem (by omega)
 have h3 := flat6 l (t / 6) _ (t % 6) _ h1 h2
 rw [show t / 6 * 6 + t % 6 = t by omega] at h3
 have e1 : (l.toArray)[t / 6]! = l[t / 6] := by simp [ht2]
 rw [e1]
 have e2 : (oprV l[t / 6])[t % 6]! = (oprV l[t / 6])[t % 6] := getElem!_pos _ _ (by omega)
 rw [e2]
 have h4 := (List.getElem?_eq_some_iff.1 h3)
 obtain ⟨h5, h6⟩ := h4
 rw [getElem!_pos _ _ (by simpa using h5)]
 simp [h6]
theorem holds_blockV {w : World} {g : Nat} {cur : Array Value} {e : TypeId} {ss : List Value} (hb : w.heap[g]? = some (.cells cur e (0, 0))) (ht : cur.toList.take ss.length = ss) : Holds id w g 0 ss.toArray := by
 intro j hj
 have hj' : j < ss.length := by simpa using hj
 refine ⟨?_, by simp [World.frozen?, hb]⟩
 have h1 : (cur.toList.take ss.length)[j]? = ss[j]? := by rw [ht]
 rw [List.getElem?_take_of_lt hj'] at h1
 simp only [World.cell?, hb, Nat.zero_add]
 simp only [Option.isSome_none, Bool.false_eq_true, if_false]
 rw [← Array.getElem?_toList, h1]
 simp [hj']
theorem heap_sortedV {w : World} {g n : Nat} {os : Array Obj} {cur : Array Value} {e : TypeId} {fr : Nat × Nat} (d : Array Value) (hb : w.heap[g]? = some (.cells cur e fr)) :
  (grow (putRow id (Sort.ahead w n) g 0 d) os).heap[g]? = some (.cells (putCells id 0 d cur) e fr) := by
 have hg : g < w.heap.size := (Array.getElem?_eq_some_iff.1 hb).1
 rw [heap_grow_old _ _ (by simpa using hg)]
 simp [putRow, mapBlock, Sort.ahead, Array.getElem?_modify, hb, onCells]
theorem grownBy_sortedV {w : World} {g n : Nat} {os : Array Obj} (d : Array Value) : w.grownBy (grow (putRow id (Sort.ahead w n) g 0 d) os) (some g) := by
 refine ⟨rfl, rfl, rfl, by simp, fun k hk hne => ?_⟩
 rw [heap_grow_old _ _ (by simpa using hk)]
 have : g ≠ k := fun e => hne (by rw [e])
 simp [putRow, mapBlock, Sort.ahead, Array.getElem?_modify, this]
theorem take_putCellsV (cur : Array Value) (ts : List Value) (h : ts.length ≤ cur.size) : (putCells id 0 ts.toArray cur).toList.take ts.length = ts := by
 apply List.ext_getElem?
 intro j
 by_cases hj : j < ts.length
 ·rw [List.getElem?_take_of_lt hj, Array.getElem?_toList]
  simp [putCells, hj, show j < cur.size by omega]
 ·rw [List.getElem?_take_eq_none (by omega), List.getElem?_eq_none (by omega)]
/-- A function of the library that puts a row of acts in order in place, by its contract. -/
theorem fcms_opr {P : Program} {f cl : FuncId} {E0 : TypeId} (S : List Nat) (l l2 : List Opr) (hl : l ≠ []) (hll : l2.length = l.length) (rv : Val) (hb : hasBody P f)
  (vv : Nat → Nat → Value) (hrv : ∀ (w : World) (ok : Nat → Prop) (base : Nat) (E : Env) (g cap : Nat), E.rm 1000000 = some (0, 6, .slice (some ⟨g, 0, none⟩) l2.length cap) → VRel w ok base E rv (vv g cap))
  (hC : ∀ (g cap : Nat) (w : World), HoldsK oprV 6 w g 0 l.toArray → g < w.heap.size → l.length ≤ cap → Calls P f #[.slice (some ⟨g, 0, none⟩) l.length cap, .func (.func cl) #[] #[]] w fun e w' => e = .returned (vv g cap) ∧ ∃ n os, w' = sortWorldK oprV 6 w g 0 n l2.toArray os) :
  FCMS P f S ⟨[], [(1000000, ⟨0, E0, 6, l.map oprS⟩)]⟩ [.one (.ow 1000000 0), .one (.fn cl [])] (fun H r => H = ⟨[], [(1000000, ⟨0, E0, 6, l2.map oprS⟩)]⟩ ∧ r = rv) := by
 refine ⟨hb, fun w okA E vs htab hH hown hty hlen hrel => ?_⟩
 have hk1 : ∀ (r : Row) (k : Nat) (r0 : Row), tabO [(1000000, r)] k = some r0 → k = 1000000 ∧ r0 = r := fun r k r0 h => by
  simp only [tabO] at h
  split at h
  ·rename_i e; injection h with h; exact ⟨e, h.symm⟩
  ·cases h
 have hk2 : ∀ (r : Row) (k : Nat), tabO [(1000000, r)] k = none → k ≠ 1000000 := fun r k h e => by subst e; simp [tabO] at h
 obtain ⟨_, hro, u, xs, hm, how, hxs⟩ := hH.rw 1000000 ⟨0, E0, 6, l.map oprS⟩ (by simp [tabO])
 simp only at hm how hxs
 have how := how.row (by omega)
 have hxe := rrel_oprs_eq hxs
 subst hxe
 have hgm : ∀ k, E.gm k = none := fun k => hH.bxn k rfl
 have hrm : ∀ k, k ≠ 1000000 → E.rm k = none := fun k hk => hH.rwn k (by simp [tabO, hk])
 obtain ⟨v, v2, rfl⟩ : ∃ v v2, vs = [v, v2] := by
  match vs, hlen with
  | [v, v2], _ => exact ⟨v, v2, rfl⟩
 have hv2 : v2 = .func (.func cl) #[] #[] := by
  have h1 := hrel 1 _ v2 rfl rfl
  cases h1 with
  | one h2 =>
   obtain ⟨us, rfl, hl, _⟩ := h2
   have : us = [] := List.eq_nil_of_length_eq_zero (by simpa using hl.symm)
   subst this; rfl
 subst hv2
 have hv : v = u := by
  have h1 := hrel 0 _ v rfl rfl
  cases h1 with
  | one h2 =>
   obtain ⟨_, ver', z, u', hr, hle, hvu, hz⟩ := h2
   rw [hm] at hr
   simp only [Option.some.injEq, Prod.mk.injEq] at hr
   obtain ⟨rfl, rfl, rfl⟩ := hr
   exact hvu rfl
 subst hv
 have hlp : 0 < l.length := List.length_pos_iff.2 hl
 rcases how.2 with ⟨_, hn⟩ | ⟨g, cap, cur, hve, _, hcell, hnc, hcm, hcs, htake⟩
 ·have : l.length = 0 := by simpa using hn
  omega
 ·simp only [List.length_map] at hnc htake hcs hve
  subst hve
  have hglt : g < w.heap.size := (Array.getElem?_eq_some_iff.1 hcell).1
  have hfl : ∀ m : List Opr, ((m.map oprV).flatten).length = m.length * 6 := oprV_len
  have hHK : HoldsK oprV 6 w g 0 l.toArray := by
   unfold HoldsK
   rw [flatK_opr]
   exact holds_blockV hcell (by rw [hfl]; exact htake)
  refine Calls.mono (hC g cap w hHK hglt hnc) ?_
  rintro e w' ⟨rfl, n, os, rfl⟩
  unfold sortWorldK putRowK
  rw [flatK_opr]
  have hgr := grownBy_sortedV (w := w) (g := g) (n := n) (os := os) ((l2.map oprV).flatten).toArray
  have hcell' := heap_sortedV (n := n) (os := os) ((l2.map oprV).flatten).toArray hcell
  have htk := take_putCellsV cur ((l2.map oprV).flatten) (by rw [hfl, hll]; have := Nat.mul_le_mul_right 6 hnc; omega)
  have hE : ∀ k, (upd E.rm 1000000 (some (0, 6, Value.slice (some ⟨g, 0, none⟩) l2.length cap))) k = if k = 1000000 then some (0, 6, Value.slice (some ⟨g, 0, none⟩) l2.length cap) else none := fun k => by
   by_cases e : k = 1000000
   ·subst e; simp [upd_same]
   ·rw [upd_ne _ _ e, hrm k e, if_neg e]
  refine ⟨vv g cap, ⟨[], [(1000000, ⟨0, E0, 6, l2.map oprS⟩)]⟩, rv, ⟨E.gm, upd E.rm 1000000 (some (0, 6, .slice (some ⟨g, 0, none⟩) l2.length cap))⟩, rfl, ⟨rfl, rfl⟩, ?_, ?_, ?_, ?_, ?_, ?_, ?_, ?_, ?_, fun k g1 _ h => by rw [hgm] at h; cases h⟩
  ·refine ⟨hgr.os, hgr.tape, hgr.output, hgr.size, fun k hk hx => hgr.block k hk (fun e => hx ?_)⟩
   injection e with e; subst e
   exact .inr ⟨1000000, 0, 6, _, hm, rfl⟩
  ·refine ⟨fun k cs h => (by simp [tabO] at h), fun k _ => hgm k, fun k r0 h => ?_, fun k h => ?_, fun k k' g' h => (by rw [hgm] at h; cases h), fun k g' k' ver z u h => (by rw [hgm] at h; cases h), fun k ver z u k' ver' z' u' b h h' _ _ => ?_⟩
   ·obtain ⟨rfl, rfl⟩ := hk1 _ _ _ h
    refine ⟨fun h => by simp at h, .of (show (0 : Nat) < 6 by omega) (fun e he => ?_), .slice (some ⟨g, 0, none⟩) l2.length cap, (l2.map oprV).flatten, by simp [upd_same], .inl ⟨show (0 : Nat) < 6 by omega, by simp only [List.length_map]; rw [hfl], .inr ⟨g, cap, _, by simp, Nat.zero_le _, hcell', by simp only [List.length_map]; omega, hcm, by simp [putCells, hcs], ?_⟩⟩, rrel_oprs l2⟩
    ·obtain ⟨x, _, rfl⟩ := List.mem_map.1 he; rfl
    ·simp only [List.length_map]
     rw [← hfl]; exact htk
   ·have := hk2 _ _ h
    simp only [hE, if_neg this]
   ·simp only [hE] at h h'
    split at h <;> split at h'
    ·omega
    ·cases h'
    ·cases h
    ·cases h
  ·exact hrv _ _ _ _ g cap (by simp [upd_same])
  ·intro k g1 g2 h; rw [hgm] at h; cases h
  ·intro k g1 h
   have h : E.gm k = some g1 := h
   rw [hgm] at h; cases h
  ·intro k ver z u b h hb2
   simp only [hE] at h
   split at h
   ·rename_i e
    subst e
    simp only [Option.some.injEq, Prod.mk.injEq] at h
    obtain ⟨_, _, rfl⟩ := h
    exact .inr ⟨_, _, _, hm, hb2⟩
   ·cases h
  ·intro k r0 h
   obtain ⟨rfl, rfl⟩ := hk1 _ _ _ h
   rfl
  ·intro k r0 r1 h h'
   obtain ⟨rfl, rfl⟩ := hk1 _ _ _ h
   obtain ⟨_, rfl⟩ := hk1 _ _ _ h'
   rfl
  ·intro k ver ver' z z' u u' hkS h h'
   simp only [hE] at h'
   split at h'
   ·rename_i e; subst e
    rw [hm] at h
    simp only [Option.some.injEq, Prod.mk.injEq] at h h'
    rw [← h.2.2, ← h'.2.2, hll]
   ·cases h'
end Go.Proofs.YtfgkpbkphmeigaaGreatDoor
