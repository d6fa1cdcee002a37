/-
  Where slices.Sort at []string, and what it calls, lie in the loaded program.
-/
import Derived.Shelf.Sort.Plain
import Derived.Test.YtodmofhehabmgaaGreatDoorProg
import Derived.Test.YtodmofhehabmgaaGreatDoorGdt
import Derived.Test.YtodmofhehabmgaaGreatDoorNum
import Derived.Sort.OwnSorted
import Derived.Sort.KeysCollected
namespace Go.Proofs.YtodmofhehabmgaaGreatDoor
open Go Go.Proofs
def Llays190_ren : Go.Shelf.Ren := ⟨fun | 190 => 90 | 125 => 84 | 258 => 133 | 128 => 122 | 129 => 123 | 302 => 165 | 303 => 166 | 304 => 167 | 305 => 168 | 306 => 169 | 307 => 170 | 308 => 171 | 309 => 172 | 310 => 173 | 333 => 194 | 329 => 155 | 330 => 156 | 334 => 195 | 335 => 196 | 336 => 197 | 344 => 209 | n => n, fun | 31 => 35 | 9 => 9 | 3 => 3 | 46 => 121 | 0 => 0 | 51 => 156 | 53 => 129 | 4 => 4 | 183 => 150 | 182 => 149 | 131 => 102 | 5 => 5 | 218 => 180 | 222 => 184 | 228 => 205 | 229 => 206 | n => n, fun | n => n⟩
theorem Llays190 : Go.Proofs.Lays.n190 Tryz.prog Llays190_ren := {
 mixed := by kernel_rfl
 f125 := Tryz.func84.trans (congrArg some (by kernel_rfl))
 f128 := Tryz.func122.trans (congrArg some (by kernel_rfl))
 f129 := Tryz.func123.trans (congrArg some (by kernel_rfl))
 f190 := Tryz.func90.trans (congrArg some (by kernel_rfl))
 f258 := Tryz.func133.trans (congrArg some (by kernel_rfl))
 f302 := Tryz.func165.trans (congrArg some (by kernel_rfl))
 f303 := Tryz.func166.trans (congrArg some (by kernel_rfl))
 f304 := Tryz.func167.trans (congrArg some (by kernel_rfl))
 f305 := Tryz.func168.trans (congrArg some (by kernel_rfl))
 f306 := Tryz.func169.trans (congrArg some (by kernel_rfl))
 f307 := Tryz.func170.trans (congrArg some (by kernel_rfl))
 f308 := Tryz.func171.trans (congrArg some (by kernel_rfl))
 f309 := Tryz.func172.trans (congrArg some (by kernel_rfl))
 f310 := Tryz.func173.trans (congrArg some (by kernel_rfl))
 f329 := Tryz.func155.trans (congrArg some (by kernel_rfl))
 f330 := Tryz.func156.trans (congrArg some (by kernel_rfl))
 f333 := Tryz.func194.trans (congrArg some (by kernel_rfl))
 f334 := Tryz.func195.trans (congrArg some (by kernel_rfl))
 f335 := Tryz.func196.trans (congrArg some (by kernel_rfl))
 f336 := Tryz.func197.trans (congrArg some (by kernel_rfl))
 f344 := Tryz.func209.trans (congrArg some (by kernel_rfl))
 t0 := Tryz.underlying0
 a0 := Tryz.isAgg0
 z0 := Tryz.sizeOf0
 v0 := Tryz.zeroValue0
 t3 := Tryz.underlying3
 a3 := Tryz.isAgg3
 z3 := Tryz.sizeOf3
 v3 := Tryz.zeroValue3
 t4 := Tryz.underlying4
 a4 := Tryz.isAgg4
 z4 := Tryz.sizeOf4
 v4 := Tryz.zeroValue4
 t5 := Tryz.underlying5
 a5 := Tryz.isAgg5
 z5 := Tryz.sizeOf5
 v5 := Tryz.zeroValue5
 t9 := Tryz.underlying9
 a9 := Tryz.isAgg9
 z9 := Tryz.sizeOf9
 v9 := Tryz.zeroValue9
 t31 := Tryz.underlying35
 a31 := Tryz.isAgg35
 z31 := Tryz.sizeOf35
 v31 := Tryz.zeroValue35
 t46 := Tryz.underlying121
 a46 := Tryz.isAgg121
 z46 := Tryz.sizeOf121
 v46 := Tryz.zeroValue121
 t51 := Tryz.underlying156
 a51 := Tryz.isAgg156
 z51 := Tryz.sizeOf156
 v51 := Tryz.zeroValue156
 t53 := Tryz.underlying129
 a53 := Tryz.isAgg129
 z53 := Tryz.sizeOf129
 v53 := Tryz.zeroValue129
 t131 := Tryz.underlying102
 a131 := Tryz.isAgg102
 z131 := Tryz.sizeOf102
 v131 := Tryz.zeroValue102
 t182 := Tryz.underlying149
 a182 := Tryz.isAgg149
 z182 := Tryz.sizeOf149
 v182 := Tryz.zeroValue149
 t183 := Tryz.underlying150
 a183 := Tryz.isAgg150
 z183 := Tryz.sizeOf150
 v183 := Tryz.zeroValue150
 t218 := Tryz.underlying180
 a218 := Tryz.isAgg180
 z218 := Tryz.sizeOf180
 v218 := Tryz.zeroValue180
 t222 := Tryz.underlying184
 a222 := Tryz.isAgg184
 z222 := Tryz.sizeOf184
 v222 := Tryz.zeroValue184
 t228 := Tryz.underlying205
 a228 := Tryz.isAgg205
 z228 := Tryz.sizeOf205
 v228 := Tryz.zeroValue205
 t229 := Tryz.underlying206
 a229 := Tryz.isAgg206
 z229 := Tryz.sizeOf206
 v229 := Tryz.zeroValue206 }
end Go.Proofs.YtodmofhehabmgaaGreatDoor
/-
 slices.Sort at []string, on a row that is handed over.
-/
namespace Go.Proofs.YtodmofhehabmgaaGreatDoor
open Go Go.Ai Go.Sort Go.Proofs
set_option linter.unusedSimpArgs false
set_option linter.unusedVariables false
set_option maxHeartbeats 4000000
def bys (l : List ByteArray) : List (List UInt8) := l.map (·.data.toList)
theorem bys_len (l : List ByteArray) : (bys l).length = l.length := List.length_map _
theorem bys_enc (l : List ByteArray) : (bys l).map encStr = l.map Value.string := by unfold bys; rw [List.map_map]; rfl
theorem rrel_strs {w : World} {ok : Nat → Prop} {base : Nat} : ∀ l : List ByteArray, RRel w ok base (l.map strC).flatten (l.map Value.string)
 | [] => .nil
 | x :: l => by
  have h : RRel w ok base [Cel.g (.string x)] [Value.string x] := ⟨rfl, fun i c u h1 h2 => by
   match i with
   | 0 => simp at h1 h2; subst h1; subst h2; exact ⟨rfl, rfl, rfl⟩
   | i + 1 => simp at h1⟩
  exact h.append (rrel_strs l)
theorem rrel_strs_eq {w : World} {ok : Nat → Prop} {base : Nat} : ∀ {l : List ByteArray} {us : List Value}, RRel w ok base (l.map strC).flatten us → us = l.map Value.string
 | [], us, h => List.eq_nil_of_length_eq_zero (by have := h.1; simpa using this.symm)
 | x :: l, us, h => by
  cases us with
  | nil => have := h.1; simp [strC] at this
  | cons u us =>
   have h0 := h.2 0 (.g (.string x)) u rfl rfl
   have e : u = .string x := h0.2.1
   have h1 : RRel w ok base (l.map strC).flatten us := by
    have := h.drop 1
    simpa [strC] using this
   rw [rrel_strs_eq h1, e]; rfl
/-- A function of the library that turns a row of strings in place, by its contract. -/
theorem fcms_str {P : Program} {f : FuncId} {E0 : TypeId} (S : List Nat) (l l2 : List ByteArray) (hl : l ≠ []) (hll : l2.length ≤ l.length) (rv : Val) (hb : hasBody P f) (hS : 1000000 ∈ S → l2.length = l.length)
  (vv : Nat → Nat → Value) (hrv : ∀ (w : World) (ok : Nat → Prop) (base : Nat) (E : Env) (g cap : Nat), E.rm 1000000 = some (0, 1, .slice (some ⟨g, 0, none⟩) l2.length cap) → VRel w ok base E rv (vv g cap))
  (hC : ∀ (g cap : Nat) (w : World), Holds encStr w g 0 (bys l).toArray → g < w.heap.size → l.length ≤ cap → Calls P f #[.slice (some ⟨g, 0, none⟩) l.length cap] w fun e w' => e = .returned (vv g cap) ∧ ∃ n os, ∃ d : List (List UInt8), d.length = l.length ∧ d.take l2.length = bys l2 ∧ w' = grow (putRow encStr (Sort.ahead w n) g 0 d.toArray) os) :
  FCMS P f S ⟨[], [(1000000, ⟨0, E0, 1, l.map strC⟩)]⟩ [.one (.ow 1000000 0)] (fun H r => H = ⟨[], [(1000000, ⟨0, E0, 1, l2.map strC⟩)]⟩ ∧ r = rv) := by
 refine ⟨hb, fun w okA E vs htab hH hown hty hlen hrel => ?_⟩
 have hk1 : ∀ (r : Row) (k : Nat) (r0 : Row), tabO [(1000000, r)] k = some r0 → k = 1000000 ∧ r0 = r := fun r k r0 h => by
  simp only [tabO] at h
  split at h
  ·rename_i e; injection h with h; exact ⟨e, h.symm⟩
  ·cases h
 have hk2 : ∀ (r : Row) (k : Nat), tabO [(1000000, r)] k = none → k ≠ 1000000 := fun r k h e => by subst e; simp [tabO] at h
 obtain ⟨_, hro, u, xs, hm, how, hxs⟩ := hH.rw 1000000 ⟨0, E0, 1, l.map strC⟩ (by simp [tabO])
 simp only at hm how hxs
 have how := how.row (by omega)
 have hxe := rrel_strs_eq hxs
 subst hxe
 have hgm : ∀ k, E.gm k = none := fun k => hH.bxn k rfl
 have hrm : ∀ k, k ≠ 1000000 → E.rm k = none := fun k hk => hH.rwn k (by simp [tabO, hk])
 obtain ⟨v, rfl⟩ : ∃ v, vs = [v] := by
  cases vs with
  | nil => simp at hlen
  | cons v vs => cases vs with
   | nil => exact ⟨v, rfl⟩
   | cons a b => simp at hlen
 have hv : v = u := by
  have h1 := hrel 0 _ v rfl rfl
  cases h1 with
  | one h2 =>
   obtain ⟨_, ver', z, u', hr, hle, hvu, hz⟩ := h2
   rw [hm] at hr
   simp only [Option.some.injEq, Prod.mk.injEq] at hr
   obtain ⟨rfl, rfl, rfl⟩ := hr
   exact hvu rfl
 subst hv
 have hlp : 0 < l.length := List.length_pos_iff.2 hl
 rcases how.2 with ⟨_, hn⟩ | ⟨g, cap, cur, hve, _, hcell, hnc, hcm, hcs, htake⟩
 ·simp at hn; exact absurd hn hl
 ·simp only [List.length_map, Nat.mul_one] at hnc htake hcs hve
  subst hve
  have hglt : g < w.heap.size := (Array.getElem?_eq_some_iff.1 hcell).1
  refine Calls.mono (hC g cap w (holds_of_block (ss := bys l) hcell (by rw [bys_len, bys_enc]; exact htake)) hglt hnc) ?_
  rintro e w' ⟨rfl, n, os, d, hd1, hd2, rfl⟩
  have hgr := grownBy_sorted (w := w) (g := g) (n := n) (os := os) d.toArray
  have hcell' := heap_sorted (n := n) (os := os) d.toArray hcell
  have htk := take_putCells cur d (by omega)
  have hE : ∀ k, (upd E.rm 1000000 (some (0, 1, Value.slice (some ⟨g, 0, none⟩) l2.length cap))) k = if k = 1000000 then some (0, 1, Value.slice (some ⟨g, 0, none⟩) l2.length cap) else none := fun k => by
   by_cases e : k = 1000000
   ·subst e; simp [upd_same]
   ·rw [upd_ne _ _ e, hrm k e, if_neg e]
  refine ⟨vv g cap, ⟨[], [(1000000, ⟨0, E0, 1, l2.map strC⟩)]⟩, rv, ⟨E.gm, upd E.rm 1000000 (some (0, 1, .slice (some ⟨g, 0, none⟩) l2.length cap))⟩, rfl, ⟨rfl, rfl⟩, ?_, ?_, ?_, ?_, ?_, ?_, ?_, ?_, ?_, fun k g1 _ h => by rw [hgm] at h; cases h⟩
  ·refine ⟨hgr.os, hgr.tape, hgr.output, hgr.size, fun k hk hx => hgr.block k hk (fun e => hx ?_)⟩
   injection e with e; subst e
   exact .inr ⟨1000000, 0, 1, _, hm, rfl⟩
  ·refine ⟨fun k cs h => (by simp [tabO] at h), fun k _ => hgm k, fun k r0 h => ?_, fun k h => ?_, fun k k' g' h => (by rw [hgm] at h; cases h), fun k g' k' ver z u h => (by rw [hgm] at h; cases h), fun k ver z u k' ver' z' u' b h h' _ _ => ?_⟩
   ·obtain ⟨rfl, rfl⟩ := hk1 _ _ _ h
    refine ⟨fun h => by simp at h, .of (show (0 : Nat) < 1 by omega) (fun e he => ?_), .slice (some ⟨g, 0, none⟩) l2.length cap, l2.map Value.string, by simp [upd_same], .inl ⟨show (0 : Nat) < 1 by omega, by simp, .inr ⟨g, cap, _, by simp, Nat.zero_le _, hcell', by simp only [List.length_map]; omega, hcm, by simp [putCells, hcs], ?_⟩⟩, rrel_strs l2⟩
    ·obtain ⟨x, _, rfl⟩ := List.mem_map.1 he; rfl
    ·simp only [List.length_map, Nat.mul_one]
     have h3 : (putCells encStr 0 d.toArray cur).toList.take l2.length = ((putCells encStr 0 d.toArray cur).toList.take d.length).take l2.length := by rw [List.take_take, Nat.min_eq_left (by omega)]
     rw [h3, htk, ← List.map_take, hd2, bys_enc]
   ·have := hk2 _ _ h
    simp only [hE, if_neg this]
   ·simp only [hE] at h h'
    split at h <;> split at h'
    ·omega
    ·cases h'
    ·cases h
    ·cases h
  ·exact hrv _ _ _ _ g cap (by simp [upd_same])
  ·intro k g1 g2 h; rw [hgm] at h; cases h
  ·intro k g1 h
   have h : E.gm k = some g1 := h
   rw [hgm] at h; cases h
  ·intro k ver z u b h hb2
   simp only [hE] at h
   split at h
   ·rename_i e
    subst e
    simp only [Option.some.injEq, Prod.mk.injEq] at h
    obtain ⟨_, _, rfl⟩ := h
    exact .inr ⟨_, _, _, hm, hb2⟩
   ·cases h
  ·intro k r0 h
   obtain ⟨rfl, rfl⟩ := hk1 _ _ _ h
   rfl
  ·intro k r0 r1 h h'
   obtain ⟨rfl, rfl⟩ := hk1 _ _ _ h
   obtain ⟨_, rfl⟩ := hk1 _ _ _ h'
   rfl
  ·intro k ver ver' z z' u u' hkS h h'
   simp only [hE] at h'
   split at h'
   ·rename_i e; subst e
    rw [hm] at h
    simp only [Option.some.injEq, Prod.mk.injEq] at h h'
    rw [← h.2.2, ← h'.2.2, hS hkS]
   ·cases h'
/-- The row of strings. -/
abbrev sRow (l : List ByteArray) : Row := ⟨0, 9, 1, l.map strC⟩
def srtS (l : List ByteArray) : List ByteArray := ((bys l).mergeSort fun x y => decide (x ≤ y)).map bS
theorem bys_srt (l : List ByteArray) : bys (srtS l) = (bys l).mergeSort fun x y => decide (x ≤ y) := by
 unfold srtS bys; rw [List.map_map, show ((fun x : ByteArray => x.data.toList) ∘ bS) = id from rfl, List.map_id]
theorem srtS_len (l : List ByteArray) : (srtS l).length = l.length := by unfold srtS bys; simp
theorem srtS_mem (l : List ByteArray) (s : ByteArray) : s ∈ srtS l ↔ s ∈ l := by
 unfold srtS
 rw [List.mem_map]
 constructor
 ·rintro ⟨x, hx, rfl⟩
  rw [List.mem_mergeSort] at hx
  obtain ⟨y, hy, rfl⟩ := List.mem_map.1 hx
  rw [bS_eq]; exact hy
 ·intro h
  exact ⟨s.data.toList, List.mem_mergeSort.2 (List.mem_map.2 ⟨s, h, rfl⟩), bS_eq s⟩
theorem sortS_fcms (l : List ByteArray) (hl : l ≠ []) (hsz : l.length < 4611686018427387904) : FCMS Tryz.prog 90 [1000000] ⟨[], [(1000000, sRow l)]⟩ [.one (.ow 1000000 0)] (fun H r => H = ⟨[], [(1000000, sRow (srtS l))]⟩ ∧ r = .tu []) := by
 have hlen := srtS_len l
 refine fcms_str [1000000] l (srtS l) hl (by omega) _ ⟨Tryz.f90, Tryz.func90, by kernel_rfl, by kernel_rfl⟩ (fun _ => hlen) (fun _ _ => .tuple #[])
  (fun w ok base E g cap he => .tu (us := []) rfl (fun i x u h => by simp at h))
  (fun g cap w hH hg hc => ?_)
 have hb : (bys l).length = l.length := bys_len l
 rw [← hb]
 refine Calls.mono (Any.slices_Sort_string Llays190 g 0 cap (bys l) w hH hg (by omega)) ?_
 rintro e w' ⟨rfl, n, os, rfl⟩
 exact ⟨rfl, n, os, _, by rw [List.length_mergeSort], by rw [hlen, bys_srt, List.take_of_length_le (by rw [List.length_mergeSort]; omega)], rfl⟩
def C_insS : AC := (.seq (.reg false [gM 8 1,gI 9 (.bin .add (.t 8) (oI 1)),gM 6 9] (kP [0,1,2,6] [] [1000000]))
 (.block 0 (.loop (.seq (.seq (.reg false [gM 10 6,gM 11 2,gI 12 (.bin .lss (.t 10) (.t 11))] (kP [0,1,2,6,12] [] [1000000]))
 (.cond (.t 12)
 .skip
 (.exit 0)))
 (.seq (.block 1 (.seq (.reg false [gM 15 6,gM 7 15] (kP [0,1,2,6,7] [] [1000000]))
 (.block 2 (.loop (.seq (.seq (.reg true [gM 16 7,gM 17 1,gI 18 (.bin .gtr (.t 16) (.t 17)),gM 19 18,gG 20 19 true (.mv (.t 0)),gG 21 19 true (.mv (.t 7)),gG 22 19 true (.iadr 1 (.t 20) (.t 21)),gG 23 19 true (.load false 1 (.t 22)),gG 24 19 true (.mv (.t 0)),gG 25 19 true (.mv (.t 7)),gG 26 19 true (.bin .sub (.t 25) (oI 1)),gG 27 19 true (.iadr 1 (.t 24) (.t 26)),gG 28 19 true (.load false 1 (.t 27)),gG 29 19 true (.call (.f 171) [(.t 23),(.t 28)]),gI 30 (.pick (.t 19) (.t 29) (.v (.bool false)))] (kP [0,1,2,6,7,30] [] [1000000]))
 (.cond (.t 30)
 .skip
 (.exit 2)))
 (.seq (.block 3 (.reg true [gM 33 0,gM 34 7,gM 35 0,gM 36 7,gI 37 (.bin .sub (.t 36) (oI 1)),gM 38 0,gM 39 7,gI 40 (.bin .sub (.t 39) (oI 1)),gI 41 (.iadr 1 (.t 38) (.t 40)),gI 42 (.load false 1 (.t 41)),gM 43 0,gM 44 7,gI 45 (.iadr 1 (.t 43) (.t 44)),gI 46 (.load false 1 (.t 45)),gI 47 (.iadr 1 (.t 33) (.t 34)),gN (.store 1 (.t 47) (.t 42)),gI 48 (.iadr 1 (.t 35) (.t 37)),gN (.store 1 (.t 48) (.t 46))] (kP [0,1,2,6,7] [] [1000000])))
 (.reg false [gM 31 7,gI 32 (.bin .sub (.t 31) (oI 1)),gM 7 32] (kP [0,1,2,6,7] [] [1000000]))))))))
 (.reg false [gM 13 6,gI 14 (.bin .add (.t 13) (oI 1)),gM 6 14] (kP [0,1,2,6] [] [1000000])))))))
theorem fcms_insS : FsT Tryz.prog 165 Tryz.f165 C_insS [] := fcms_mk [aN [0,1,2,6] [] [1000000],aN [0,1,2,6,12] [] [1000000],aN [0,1,2,6,7] [] [1000000],aN [0,1,2,6,7,30] [] [1000000],aN [0,1,2,6,7] [] [1000000],aN [0,1,2,6,7] [] [1000000],aN [0,1,2,6] [] [1000000]] Tryz.func165 (by kernel_rfl)
def C_pdqS : AC := (.seq (.reg false [gI 8 (.mv (.v (.bool true)))] (kP [0,1,2,3,8] [] [1000000]))
 (.seq (.reg false [gI 9 (.mv (.v (.bool true)))] (kP [0,1,2,3,8,9] [] [1000000]))
 (.block 0 (.loop (.block 1 (.seq (.reg false [gM 19 2,gM 20 1,gI 21 (.bin .sub (.t 19) (.t 20)),gM 10 21] (kP [0,1,2,3,8,9,10] [] [1000000]))
 (.seq (.seq (.reg false [gM 22 10,gI 23 (.bin .leq (.t 22) (oI 12))] (kP [0,1,2,3,8,9,10,23] [] [1000000]))
 (.cond (.t 23)
 (.seq (.reg false [gM 24 0,gM 25 1,gM 26 2,gI 27 (.callm (.f 165) [(.t 24),(.t 25),(.t 26)] ⟨[],[1000000],[],[1000000],[1000000]⟩)] (kP [] [] [1000000]))
 .ret)
 .skip))
 (.seq (.seq (.reg false [gM 28 3,gI 29 (.bin .eql (.t 28) (oI 0))] (kP [0,1,2,3,8,9,10,29] [] [1000000]))
 (.cond (.t 29)
 (.seq (.reg false [gM 30 0,gM 31 1,gM 32 2,gI 33 (.call (.f 166) [(.t 30),(.t 31),(.t 32)])] (kP [] [] [1000000]))
 .ret)
 .skip))
 (.seq (.seq (.reg false [gM 34 8,gI 35 (.un .not (.t 34))] (kP [0,1,2,3,8,9,10,35] [] [1000000]))
 (.cond (.t 35)
 (.seq (.reg false [gM 36 0,gM 37 1,gM 38 2,gI 39 (.call (.f 167) [(.t 36),(.t 37),(.t 38)])] (kP [0,1,2,3,8,9,10] [] [1000000]))
 (.reg false [gM 40 3,gI 41 (.bin .sub (.t 40) (oI 1)),gM 3 41] (kP [0,1,2,3,8,9,10] [] [1000000])))
 .skip))
 (.seq (.reg false [gM 43 0,gM 44 1,gM 45 2,gI 46 (.call (.f 168) [(.t 43),(.t 44),(.t 45)]),gM 42 46,gI 47 (.extr (.t 42) 0),gI 48 (.extr (.t 42) 1),gM 11 47,gM 12 48] (kP [0,1,2,3,8,9,10,11,12] [] [1000000]))
 (.seq (.seq (.reg false [gM 49 12,gI 50 (.bin .eql (.t 49) (oI 2))] (kP [0,1,2,3,8,9,10,11,12,50] [] [1000000]))
 (.cond (.t 50)
 (.seq (.reg false [gM 51 0,gM 52 1,gM 53 2,gI 54 (.call (.f 169) [(.t 51),(.t 52),(.t 53)])] (kP [0,1,2,3,8,9,10,11] [] [1000000]))
 (.seq (.reg false [gM 55 2,gI 56 (.bin .sub (.t 55) (oI 1)),gM 57 11,gM 58 1,gI 59 (.bin .sub (.t 57) (.t 58)),gI 60 (.bin .sub (.t 56) (.t 59)),gM 11 60] (kP [0,1,2,3,8,9,10,11] [] [1000000]))
 (.reg false [gI 12 (.mv (oI 1))] (kP [0,1,2,3,8,9,10,11,12] [] [1000000]))))
 .skip))
 (.seq (.seq (.reg false [gM 61 8,gM 62 61,gG 63 62 true (.mv (.t 9)),gI 64 (.pick (.t 62) (.t 63) (.v (.bool false))),gM 65 64,gG 66 65 true (.mv (.t 12)),gG 67 65 true (.bin .eql (.t 66) (oI 1)),gI 68 (.pick (.t 65) (.t 67) (.v (.bool false)))] (kP [0,1,2,3,8,9,10,11,68] [] [1000000]))
 (.cond (.t 68)
 (.seq (.reg false [gM 69 0,gM 70 1,gM 71 2,gI 72 (.call (.f 170) [(.t 69),(.t 70),(.t 71)])] (kP [0,1,2,3,8,9,10,11,72] [] [1000000]))
 (.cond (.t 72)
 .ret
 .skip))
 .skip))
 (.seq (.seq (.reg true [gM 73 1,gI 74 (.bin .gtr (.t 73) (oI 0)),gM 75 74,gG 76 75 true (.mv (.t 0)),gG 77 75 true (.mv (.t 1)),gG 78 75 true (.bin .sub (.t 77) (oI 1)),gG 79 75 true (.iadr 1 (.t 76) (.t 78)),gG 80 75 true (.load false 1 (.t 79)),gG 81 75 true (.mv (.t 0)),gG 82 75 true (.mv (.t 11)),gG 83 75 true (.iadr 1 (.t 81) (.t 82)),gG 84 75 true (.load false 1 (.t 83)),gG 85 75 true (.call (.f 171) [(.t 80),(.t 84)]),gG 86 75 true (.un .not (.t 85)),gI 87 (.pick (.t 75) (.t 86) (.v (.bool false)))] (kP [0,1,2,3,8,9,10,11,87] [] [1000000]))
 (.cond (.t 87)
 (.seq (.reg false [gM 88 0,gM 89 1,gM 90 2,gM 91 11,gI 92 (.call (.f 172) [(.t 88),(.t 89),(.t 90),(.t 91)]),gM 13 92] (kP [0,2,3,8,9,13] [] [1000000]))
 (.seq (.reg false [gM 93 13,gM 1 93] (kP [0,1,2,3,8,9] [] [1000000]))
 (.exit 1)))
 .skip))
 (.seq (.reg false [gM 95 0,gM 96 1,gM 97 2,gM 98 11,gI 99 (.call (.f 173) [(.t 95),(.t 96),(.t 97),(.t 98)]),gM 94 99,gI 100 (.extr (.t 94) 0),gI 101 (.extr (.t 94) 1),gM 14 100,gM 15 101] (kP [0,1,2,3,10,14,15] [] [1000000]))
 (.seq (.reg false [gM 102 15,gM 9 102] (kP [0,1,2,3,9,10,14] [] [1000000]))
 (.seq (.reg false [gM 103 14,gM 104 1,gI 105 (.bin .sub (.t 103) (.t 104)),gM 106 2,gM 107 14,gI 108 (.bin .sub (.t 106) (.t 107)),gM 16 105,gM 17 108] (kP [0,1,2,3,9,10,14,16,17] [] [1000000]))
 (.seq (.reg false [gM 109 10,gI 110 (.bin .quo (.t 109) (oI 8)),gM 18 110] (kP [0,1,2,3,9,14,16,17,18] [] [1000000]))
 (.seq (.reg false [gM 111 16,gM 112 17,gI 113 (.bin .lss (.t 111) (.t 112))] (kP [0,1,2,3,9,14,16,17,18,113] [] [1000000]))
 (.cond (.t 113)
 (.seq (.reg false [gM 114 16,gM 115 18,gI 116 (.bin .geq (.t 114) (.t 115)),gM 8 116] (kP [0,1,2,3,8,9,14] [] [1000000]))
 (.seq (.reg false [gM 117 0,gM 118 1,gM 119 14,gM 120 3,gI 121 (.call (.f 133) [(.t 117),(.t 118),(.t 119),(.t 120)])] (kP [0,2,3,8,9,14] [] [1000000]))
 (.reg false [gM 122 14,gI 123 (.bin .add (.t 122) (oI 1)),gM 1 123] (kP [0,1,2,3,8,9] [] [1000000]))))
 (.seq (.reg false [gM 124 17,gM 125 18,gI 126 (.bin .geq (.t 124) (.t 125)),gM 8 126] (kP [0,1,2,3,8,9,14] [] [1000000]))
 (.seq (.reg false [gM 127 0,gM 128 14,gI 129 (.bin .add (.t 128) (oI 1)),gM 130 2,gM 131 3,gI 132 (.call (.f 133) [(.t 127),(.t 129),(.t 130),(.t 131)])] (kP [0,1,3,8,9,14] [] [1000000]))
 (.reg false [gM 133 14,gM 2 133] (kP [0,1,2,3,8,9] [] [1000000])))))))))))))))))))))))
theorem fcms_pdqS : FsT Tryz.prog 133 Tryz.f133 C_pdqS [] := fcms_mk [aN [0,1,2,3,8] [] [1000000],aN [0,1,2,3,8,9] [] [1000000],aN [0,1,2,3,8,9,10] [] [1000000],aN [0,1,2,3,8,9,10,23] [] [1000000],⟨(kP [] [] [1000000]),[],[],[],[(27,⟨[],[1000000],[],[1000000],[1000000]⟩)]⟩,aN [0,1,2,3,8,9,10,29] [] [1000000],aN [] [] [1000000],aN [0,1,2,3,8,9,10,35] [] [1000000],aN [0,1,2,3,8,9,10] [] [1000000],aN [0,1,2,3,8,9,10] [] [1000000],aN [0,1,2,3,8,9,10,11,12] [] [1000000],aN [0,1,2,3,8,9,10,11,12,50] [] [1000000],aN [0,1,2,3,8,9,10,11] [] [1000000],aN [0,1,2,3,8,9,10,11] [] [1000000],aN [0,1,2,3,8,9,10,11,12] [] [1000000],aN [0,1,2,3,8,9,10,11,68] [] [1000000],aN [0,1,2,3,8,9,10,11,72] [] [1000000],aN [0,1,2,3,8,9,10,11,87] [] [1000000],aN [0,2,3,8,9,13] [] [1000000],aN [0,1,2,3,8,9] [] [1000000],aN [0,1,2,3,10,14,15] [] [1000000],aN [0,1,2,3,9,10,14] [] [1000000],aN [0,1,2,3,9,10,14,16,17] [] [1000000],aN [0,1,2,3,9,14,16,17,18] [] [1000000],aN [0,1,2,3,9,14,16,17,18,113] [] [1000000],aN [0,1,2,3,8,9,14] [] [1000000],aN [0,2,3,8,9,14] [] [1000000],aN [0,1,2,3,8,9] [] [1000000],aN [0,1,2,3,8,9,14] [] [1000000],aN [0,1,3,8,9,14] [] [1000000],aN [0,1,2,3,8,9] [] [1000000]] Tryz.func133 (by kernel_rfl)
def C_srtZ : AC := (.seq (.reg false [gM 3 0,gI 4 (.len (.t 3)),gM 2 4] (kP [0,2] [] [1000000]))
 (.reg false [gM 5 0,gM 6 2,gM 7 2,gI 8 (.conv .u64 (.t 7)),gI 9 (.call (.f 84) [(.t 8)]),gI 10 (.callm (.f 133) [(.t 5),(oI 0),(.t 6),(.t 9)] ⟨[],[1000000],[],[1000000],[1000000]⟩)] (kP [] [] [1000000])))
theorem fcms_srtZ : FsT Tryz.prog 90 Tryz.f90 C_srtZ [] := fcms_mk [aN [0,2] [] [1000000],⟨(kP [] [] [1000000]),[],[],[],[(10,⟨[],[1000000],[],[1000000],[1000000]⟩)]⟩] Tryz.func90 (by kernel_rfl)
def C_bitsLen : AC := (.seq (.reg false [gI 2 (.mv (oI 0))] (kP [0] [] []))
 (.seq (.cond (.v (.bool false))
 (.seq (.reg false [gM 3 0,gI 4 (.conv .u32 (.t 3)),gI 5 (.call (.f 122) [(.t 4)]),gM 2 5] (kP [2] [] []))
 .ret)
 .skip)
 (.seq (.reg false [gM 6 0,gI 7 (.call (.f 123) [(.t 6)]),gM 2 7] (kP [2] [] []))
 .ret)))
theorem fc_bitsLen : FcT Tryz.prog 84 Tryz.f84 C_bitsLen [.t 2] := fc_mk [aN [0] [] [],aN [2] [] [],aN [2] [] []] Tryz.func84 (by kernel_rfl)
def C_bitsLen64 : AC := (.seq (.reg false [gI 2 (.mv (oI 0))] (kP [0,2] [] []))
 (.seq (.seq (.reg false [gM 3 0,gI 4 (.bin .geq (.t 3) (.v (.int .u64 (4294967296))))] (kP [0,2,4] [] []))
 (.cond (.t 4)
 (.seq (.reg false [gM 5 0,gI 6 (.bin .shr (.t 5) (.v (.int .u64 (32)))),gM 0 6] (kP [0] [] []))
 (.reg false [gI 2 (.mv (oI 32))] (kP [0,2] [] [])))
 .skip))
 (.seq (.seq (.reg false [gM 7 0,gI 8 (.bin .geq (.t 7) (.v (.int .u64 (65536))))] (kP [0,2,8] [] []))
 (.cond (.t 8)
 (.seq (.reg false [gM 9 0,gI 10 (.bin .shr (.t 9) (.v (.int .u64 (16)))),gM 0 10] (kP [0,2] [] []))
 (.reg false [gM 11 2,gI 12 (.bin .add (.t 11) (oI 16)),gM 2 12] (kP [0,2] [] [])))
 .skip))
 (.seq (.seq (.reg false [gM 13 0,gI 14 (.bin .geq (.t 13) (.v (.int .u64 (256))))] (kP [0,2,14] [] []))
 (.cond (.t 14)
 (.seq (.reg false [gM 15 0,gI 16 (.bin .shr (.t 15) (.v (.int .u64 (8)))),gM 0 16] (kP [0,2] [] []))
 (.reg false [gM 17 2,gI 18 (.bin .add (.t 17) (oI 8)),gM 2 18] (kP [0,2] [] [])))
 .skip))
 (.seq (.reg false [gM 19 2,gM 20 0,gI 21 (.conv .u8 (.t 20)),gI 22 (.idx (.v (.string (ByteArray.mk #[0,1,2,2,3,3,3,3,4,4,4,4,4,4,4,4,5,5,5,5,5,5,5,5,5,5,5,5,5,5,5,5,6,6,6,6,6,6,6,6,6,6,6,6,6,6,6,6,6,6,6,6,6,6,6,6,6,6,6,6,6,6,6,6,7,7,7,7,7,7,7,7,7,7,7,7,7,7,7,7,7,7,7,7,7,7,7,7,7,7,7,7,7,7,7,7,7,7,7,7,7,7,7,7,7,7,7,7,7,7,7,7,7,7,7,7,7,7,7,7,7,7,7,7,7,7,7,7,8,8,8,8,8,8,8,8,8,8,8,8,8,8,8,8,8,8,8,8,8,8,8,8,8,8,8,8,8,8,8,8,8,8,8,8,8,8,8,8,8,8,8,8,8,8,8,8,8,8,8,8,8,8,8,8,8,8,8,8,8,8,8,8,8,8,8,8,8,8,8,8,8,8,8,8,8,8,8,8,8,8,8,8,8,8,8,8,8,8,8,8,8,8,8,8,8,8,8,8,8,8,8,8,8,8,8,8,8,8,8,8,8,8,8,8,8,8,8,8,8,8,8,8,8,8,8,8]))) (.t 21)),gI 23 (.conv .i64 (.t 22)),gI 24 (.bin .add (.t 19) (.t 23)),gM 2 24] (kP [2] [] []))
 .ret)))))
theorem fc_bitsLen64 : FcT Tryz.prog 123 Tryz.f123 C_bitsLen64 [.t 2] := fc_mk [aN [0,2] [] [],aN [0,2,4] [] [],aN [0] [] [],aN [0,2] [] [],aN [0,2,8] [] [],aN [0,2] [] [],aN [0,2] [] [],aN [0,2,14] [] [],aN [0,2] [] [],aN [0,2] [] [],aN [2] [] []] Tryz.func123 (by kernel_rfl)
abbrev sRow0 : Row := ⟨0, 9, 1, []⟩
set_option maxRecDepth 8000 in
theorem bitsLen64_fc (n : Int) (h : 0 ≤ n ∧ n ≤ 12) : ∃ v : Int, FC Tryz.prog 123 none [.one (.g (.int .u64 n))] (fun _ r => r = iv v) := by
 obtain ⟨h1, h2⟩ := h
 refine Exists.imp (fun v => fc_bitsLen64 (by simp +arith)) ?_
 unfold C_bitsLen64
 generalize hb : ByteArray.mk _ = tab
 have hs : tab.size = 256 := by subst hb; rfl
 clear hb
 apply Exists.intro
 simp (maxSteps := 1000000) (disch := omega) only [go_sem]
 rw [IntWalk.u8_in n ⟨h1, by omega⟩, hs]
 exact ⟨by omega, rfl⟩
theorem bitsLen_fc (n : Int) (h : 0 ≤ n ∧ n ≤ 12) : ∃ v : Int, FC Tryz.prog 84 none [.one (.g (.int .u64 n))] (fun _ r => r = iv v) := by
 obtain ⟨v, hv⟩ := bitsLen64_fc n h
 refine ⟨v, fc_bitsLen (by simp +arith) ?_⟩
 unfold C_bitsLen
 simp (maxSteps := 1000000) (disch := omega) only [go_sem]
 refine CALL_det hv (.inl rfl) ?_
 simp (maxSteps := 1000000) (disch := omega) only [go_sem]
theorem insS_fcm : FCMS Tryz.prog 165 [1000000] ⟨[], [(1000000, sRow0)]⟩ [.one (.ow 1000000 0), iv 0, iv 0] (fun H r => H = ⟨[], [(1000000, sRow0)]⟩ ∧ r = .tu []) := by
 refine fcms_insS (K := ⟨[], [], [1000000]⟩) (by simp +arith) (by simp) (by simp [XK]) ?_
 unfold C_insS
 simp (maxSteps := 1000000) (disch := omega) only [go_sem]
 refine ex_rnd 2 ?_
 simp (maxSteps := 1000000) (disch := omega) only [go_sem]
theorem pdqS_fcm (v : Int) : FCMS Tryz.prog 133 [1000000] ⟨[], [(1000000, sRow0)]⟩ [.one (.ow 1000000 0), iv 0, iv 0, iv v] (fun H r => H = ⟨[], [(1000000, sRow0)]⟩ ∧ r = .tu []) := by
 refine fcms_pdqS (K := ⟨[], [], [1000000]⟩) (by simp +arith) (by simp) (by simp [XK]) ?_
 unfold C_pdqS
 simp (maxSteps := 1000000) (disch := omega) only [go_sem]
 refine ex_rnd 2 ?_
 simp (maxSteps := 1000000) (disch := omega) only [go_sem]
 refine ⟨rfl, CALLM_det insS_fcm ⟨rfl, rfl⟩ ?_⟩
 simp (maxSteps := 1000000) (disch := omega) only [go_sem]
theorem srtZ_fcms : FCMS Tryz.prog 90 [1000000] ⟨[], [(1000000, sRow0)]⟩ [.one (.ow 1000000 0)] (fun H r => H = ⟨[], [(1000000, sRow0)]⟩ ∧ r = .tu []) := by
 refine fcms_srtZ (K := ⟨[], [], [1000000]⟩) (by simp +arith) (by simp) (by simp [XK]) ?_
 obtain ⟨v, hv⟩ := bitsLen_fc 0 (by omega)
 unfold C_srtZ
 simp (maxSteps := 1000000) (disch := omega) only [go_sem]
 refine CALL_det hv (.inl rfl) ?_
 simp (maxSteps := 1000000) (disch := omega) only [go_sem]
 refine ⟨rfl, CALLM_det (pdqS_fcm v) ⟨rfl, rfl⟩ ?_⟩
 simp (maxSteps := 1000000) (disch := omega) only [go_sem]
theorem zlt4 : ((0 : Nat) < 1) = True := by simp
attribute [go_sem] zlt4
theorem sortS_all (l : List ByteArray) (hsz : l.length < 4611686018427387904) : FCMS Tryz.prog 90 [1000000] ⟨[], [(1000000, sRow l)]⟩ [.one (.ow 1000000 0)] (fun H r => H = ⟨[], [(1000000, sRow (srtS l))]⟩ ∧ r = .tu []) := by
 by_cases h : l = []
 ·subst h; rw [show srtS [] = [] by simp [srtS, bys]]; exact srtZ_fcms
 ·exact sortS_fcms l h hsz
end Go.Proofs.YtodmofhehabmgaaGreatDoor
