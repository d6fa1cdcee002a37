/- Where slices.Sort at []int. -/
import Derived.Shelf.Lays
import Derived.Shelf.Lays2
import Derived.Sort.OwnSortedInts
import Derived.Shelf.Sort.Plain
import Derived.Lib.RowBridge
import Derived.Shelf.Slices.CompactI
import Derived.Test.YtnlafmigfjlnnaaGreatDoorBas
set_option linter.all false
set_option maxHeartbeats 0
set_option maxRecDepth 100000
namespace Go.Proofs.YtnlafmigfjlnnaaGreatDoor
open Go Go.Proofs
def a7k : Go.Shelf.Ren := ⟨fun | 189 => 44 | 125 => 80 | 257 => 79 | 128 => 127 | 129 => 128 | 294 => 118 | 295 => 119 | 296 => 120 | 297 => 121 | 298 => 122 | 299 => 123 | 216 => 124 | 300 => 125 | 301 => 126 | 328 => 157 | 329 => 158 | 330 => 159 | 331 => 160 | 332 => 161 | 215 => 97 | 343 => 178 | n => n, fun | 28 => 22 | 3 => 3 | 46 => 133 | 0 => 0 | 51 => 184 | 53 => 186 | 4 => 4 | 183 => 177 | 182 => 176 | 131 => 97 | 5 => 5 | 9 => 9 | 218 => 205 | 222 => 209 | 228 => 221 | 229 => 222 | n => n, fun | n => n⟩
theorem c3m : Go.Proofs.Lays.n189 Tryz.prog a7k := {
  mixed := by kernel_rfl,
  f125 := Tryz.func80.trans (congrArg some (by kernel_rfl)),
  f128 := Tryz.func127.trans (congrArg some (by kernel_rfl)),
  f129 := Tryz.func128.trans (congrArg some (by kernel_rfl)),
  f189 := Tryz.func44.trans (congrArg some (by kernel_rfl)),
  f215 := Tryz.func97.trans (congrArg some (by kernel_rfl)),
  f216 := Tryz.func124.trans (congrArg some (by kernel_rfl)),
  f257 := Tryz.func79.trans (congrArg some (by kernel_rfl)),
  f294 := Tryz.func118.trans (congrArg some (by kernel_rfl)),
  f295 := Tryz.func119.trans (congrArg some (by kernel_rfl)),
  f296 := Tryz.func120.trans (congrArg some (by kernel_rfl)),
  f297 := Tryz.func121.trans (congrArg some (by kernel_rfl)),
  f298 := Tryz.func122.trans (congrArg some (by kernel_rfl)),
  f299 := Tryz.func123.trans (congrArg some (by kernel_rfl)),
  f300 := Tryz.func125.trans (congrArg some (by kernel_rfl)),
  f301 := Tryz.func126.trans (congrArg some (by kernel_rfl)),
  f328 := Tryz.func157.trans (congrArg some (by kernel_rfl)),
  f329 := Tryz.func158.trans (congrArg some (by kernel_rfl)),
  f330 := Tryz.func159.trans (congrArg some (by kernel_rfl)),
  f331 := Tryz.func160.trans (congrArg some (by kernel_rfl)),
  f332 := Tryz.func161.trans (congrArg some (by kernel_rfl)),
  f343 := Tryz.func178.trans (congrArg some (by kernel_rfl)),
  t0 := Tryz.underlying0,
  a0 := Tryz.isAgg0,
  z0 := Tryz.sizeOf0,
  v0 := Tryz.zeroValue0,
  t3 := Tryz.underlying3,
  a3 := Tryz.isAgg3,
  z3 := Tryz.sizeOf3,
  v3 := Tryz.zeroValue3,
  t4 := Tryz.underlying4,
  a4 := Tryz.isAgg4,
  z4 := Tryz.sizeOf4,
  v4 := Tryz.zeroValue4,
  t5 := Tryz.underlying5,
  a5 := Tryz.isAgg5,
  z5 := Tryz.sizeOf5,
  v5 := Tryz.zeroValue5,
  t9 := Tryz.underlying9,
  a9 := Tryz.isAgg9,
  z9 := Tryz.sizeOf9,
  v9 := Tryz.zeroValue9,
  t28 := Tryz.underlying22,
  a28 := Tryz.isAgg22,
  z28 := Tryz.sizeOf22,
  v28 := Tryz.zeroValue22,
  t46 := Tryz.underlying133,
  a46 := Tryz.isAgg133,
  z46 := Tryz.sizeOf133,
  v46 := Tryz.zeroValue133,
  t51 := Tryz.underlying184,
  a51 := Tryz.isAgg184,
  z51 := Tryz.sizeOf184,
  v51 := Tryz.zeroValue184,
  t53 := Tryz.underlying186,
  a53 := Tryz.isAgg186,
  z53 := Tryz.sizeOf186,
  v53 := Tryz.zeroValue186,
  t131 := Tryz.underlying97,
  a131 := Tryz.isAgg97,
  z131 := Tryz.sizeOf97,
  v131 := Tryz.zeroValue97,
  t182 := Tryz.underlying176,
  a182 := Tryz.isAgg176,
  z182 := Tryz.sizeOf176,
  v182 := Tryz.zeroValue176,
  t183 := Tryz.underlying177,
  a183 := Tryz.isAgg177,
  z183 := Tryz.sizeOf177,
  v183 := Tryz.zeroValue177,
  t218 := Tryz.underlying205,
  a218 := Tryz.isAgg205,
  z218 := Tryz.sizeOf205,
  v218 := Tryz.zeroValue205,
  t222 := Tryz.underlying209,
  a222 := Tryz.isAgg209,
  z222 := Tryz.sizeOf209,
  v222 := Tryz.zeroValue209,
  t228 := Tryz.underlying221,
  a228 := Tryz.isAgg221,
  z228 := Tryz.sizeOf221,
  v228 := Tryz.zeroValue221,
  t229 := Tryz.underlying222,
  a229 := Tryz.isAgg222,
  z229 := Tryz.sizeOf222,
  v229 := Tryz.zeroValue222 }
def a2u : Go.Shelf.Ren := ⟨fun | 20 => 105 | n => n, fun | 22 => 22 | 3 => 3 | 4 => 4 | 0 => 0 | n => n, fun | n => n⟩
theorem a9B : Go.Proofs.Lays2.n20 Tryz.prog a2u := {
  mixed := by kernel_rfl,
  f20 := Tryz.func105.trans (congrArg some (by kernel_rfl)),
  t0 := Tryz.underlying0,
  a0 := Tryz.isAgg0,
  z0 := Tryz.sizeOf0,
  v0 := Tryz.zeroValue0,
  t3 := Tryz.underlying3,
  a3 := Tryz.isAgg3,
  z3 := Tryz.sizeOf3,
  v3 := Tryz.zeroValue3,
  t4 := Tryz.underlying4,
  a4 := Tryz.isAgg4,
  z4 := Tryz.sizeOf4,
  v4 := Tryz.zeroValue4,
  t22 := Tryz.underlying22,
  a22 := Tryz.isAgg22,
  z22 := Tryz.sizeOf22,
  v22 := Tryz.zeroValue22,
  i3 := by kernel_rfl }
end Go.Proofs.YtnlafmigfjlnnaaGreatDoor
namespace Go.Proofs.YtnlafmigfjlnnaaGreatDoor
open Go Go.Ai Go.Sort Go.Proofs
theorem a5U {w : World} {ok : Nat -> Prop} {base : Nat} : ∀ l : List Int, RRel w ok base (l.map N3).flatten (l.map (Value.int .i64))
 | [] => .nil
 | x :: l => by
  have h : RRel w ok base [Cel.g (.int .i64 x)] [Value.int .i64 x] := ⟨rfl, fun i c u h1 h2 => by
   match i with
   | 0 => simp at h1 h2; subst h1; subst h2; exact ⟨rfl, rfl, rfl⟩
   | i + 1 => simp at h1⟩
  exact h.append (a5U l)
theorem a0v {w : World} {ok : Nat -> Prop} {base : Nat} : ∀ {l : List Int} {us : List Value}, RRel w ok base (l.map N3).flatten us -> us = l.map (Value.int .i64)
 | [], us, h => List.eq_nil_of_length_eq_zero (by have := h.1; simpa using this.symm)
 | x :: l, us, h => by
  cases us with
  | nil => have := h.1; simp [N3] at this
  | cons u us =>
   have h0 := h.2 0 (.g (.int .i64 x)) u rfl rfl
   have e : u = .int .i64 x := h0.2.1
   have h1 : RRel w ok base (l.map N3).flatten us := by
    have := h.drop 1
    simpa [N3] using this
   rw [a0v h1, e]; rfl
theorem a8m {P : Program} {f : FuncId} {E0 : TypeId} (S : List Nat) (l l2 : List Int) (hl : l ≠ []) (hll : l2.length <= l.length) (rv : Val) (hb : U5 P f) (hS : 1000000 ∈ S -> l2.length = l.length)
  (vv : Nat -> Nat -> Value) (hrv : ∀ (w : World) (ok : Nat -> Prop) (base : Nat) (E : Env) (g cap : Nat), E.rm 1000000 = some (0, 1, .slice (some ⟨g, 0, none⟩) l2.length cap) -> VRel w ok base E rv (vv g cap))
  (hC : ∀ (g cap : Nat) (w : World), Holds (Value.int .i64) w g 0 l.toArray -> g < w.heap.size -> l.length <= cap -> Calls P f #[.slice (some ⟨g, 0, none⟩) l.length cap] w fun e w' => e = .returned (vv g cap) ∧ ∃ n os, ∃ d : List Int, d.length = l.length ∧ d.take l2.length = l2 ∧ w' = grow (putRow (Value.int .i64) (Sort.ahead w n) g 0 d.toArray) os) :
  F9 P f S ⟨[], [(1000000, ⟨0, E0, 1, l.map N3⟩)]⟩ [.one (.ow 1000000 0)] (fun H r => H = ⟨[], [(1000000, ⟨0, E0, 1, l2.map N3⟩)]⟩ ∧ r = rv) := by
 refine ⟨hb, fun w okA E vs htab hH hown hty hlen hrel => ?_⟩
 have hk1 : ∀ (r : Row) (k : Nat) (r0 : Row), f7 [(1000000, r)] k = some r0 -> k = 1000000 ∧ r0 = r := fun r k r0 h => by
  simp only [f7] at h
  split at h
  ·rename_i e; injection h with h; exact ⟨e, h.symm⟩
  ·cases h
 have hk2 : ∀ (r : Row) (k : Nat), f7 [(1000000, r)] k = none -> k ≠ 1000000 := fun r k h e => by subst e; simp [f7] at h
 obtain ⟨_, hro, u, xs, hm, how, hxs⟩ := hH.rw 1000000 ⟨0, E0, 1, l.map N3⟩ (by simp [f7])
 simp only at hm how hxs
 have how := how.row (by omega)
 have hxe := a0v hxs
 subst hxe
 have hgm : ∀ k, E.gm k = none := fun k => hH.bxn k rfl
 have hrm : ∀ k, k ≠ 1000000 -> E.rm k = none := fun k hk => hH.rwn k (by simp [f7, hk])
 obtain ⟨v, rfl⟩ : ∃ v, vs = [v] := by
  cases vs with
  | nil => simp at hlen
  | cons v vs => cases vs with
   | nil => exact ⟨v, rfl⟩
   | cons a b => simp at hlen
 have hv : v = u := by
  have h1 := hrel 0 _ v rfl rfl
  cases h1 with
  | one h2 =>
   obtain ⟨_, ver', z, u', hr, hle, hvu, hz⟩ := h2
   rw [hm] at hr
   simp only [Option.some.injEq, Prod.mk.injEq] at hr
   obtain ⟨rfl, rfl, rfl⟩ := hr
   exact hvu rfl
 subst hv
 have hlp : 0 < l.length := List.length_pos_iff.2 hl
 rcases how.2 with ⟨_, hn⟩ | ⟨g, cap, cur, hve, _, hcell, hnc, hcm, hcs, htake⟩
 ·simp at hn; exact absurd hn hl
 ·simp only [List.length_map, Nat.mul_one] at hnc htake hcs hve
  subst hve
  have hglt : g < w.heap.size := (Array.getElem?_eq_some_iff.1 hcell).1
  refine Calls.mono (hC g cap w (holds_of_blockI hcell htake) hglt hnc) ?_
  rintro e w' ⟨rfl, n, os, d, hd1, hd2, rfl⟩
  have hgr := grownBy_sortedI (w := w) (g := g) (n := n) (os := os) d.toArray
  have hcell' := heap_sortedI (n := n) (os := os) d.toArray hcell
  have htk := take_putCellsI cur d (by omega)
  have hE : ∀ k, (upd E.rm 1000000 (some (0, 1, Value.slice (some ⟨g, 0, none⟩) l2.length cap))) k = if k = 1000000 then some (0, 1, Value.slice (some ⟨g, 0, none⟩) l2.length cap) else none := fun k => by
   by_cases e : k = 1000000
   ·subst e; simp [j6]
   ·rw [l6 _ _ e, hrm k e, if_neg e]
  refine ⟨vv g cap, ⟨[], [(1000000, ⟨0, E0, 1, l2.map N3⟩)]⟩, rv, ⟨E.gm, upd E.rm 1000000 (some (0, 1, .slice (some ⟨g, 0, none⟩) l2.length cap))⟩, rfl, ⟨rfl, rfl⟩, ?_, ?_, ?_, ?_, ?_, ?_, ?_, ?_, ?_, fun k g1 _ h => by rw [hgm] at h; cases h⟩
  ·refine ⟨hgr.os, hgr.tape, hgr.output, hgr.size, fun k hk hx => hgr.block k hk (fun e => hx ?_)⟩
   injection e with e; subst e
   exact .inr ⟨1000000, 0, 1, _, hm, rfl⟩
  ·refine ⟨fun k cs h => (by simp [f7] at h), fun k _ => hgm k, fun k r0 h => ?_, fun k h => ?_, fun k k' g' h => (by rw [hgm] at h; cases h), fun k g' k' ver z u h => (by rw [hgm] at h; cases h), fun k ver z u k' ver' z' u' b h h' _ _ => ?_⟩
   ·obtain ⟨rfl, rfl⟩ := hk1 _ _ _ h
    refine ⟨fun h => by simp at h, .of (show (0 : Nat) < 1 by omega) (fun e he => ?_), .slice (some ⟨g, 0, none⟩) l2.length cap, l2.map (Value.int .i64), by simp [j6], .inl ⟨show (0 : Nat) < 1 by omega, by simp, .inr ⟨g, cap, _, by simp, Nat.zero_le _, hcell', by simp only [List.length_map]; omega, hcm, by simp [putCells, hcs], ?_⟩⟩, a5U l2⟩
    ·obtain ⟨x, _, rfl⟩ := List.mem_map.1 he; rfl
    ·simp only [List.length_map, Nat.mul_one]
     have h3 : (putCells (Value.int .i64) 0 d.toArray cur).toList.take l2.length = ((putCells (Value.int .i64) 0 d.toArray cur).toList.take d.length).take l2.length := by rw [List.take_take, Nat.min_eq_left (by omega)]
     rw [h3, htk, <- List.map_take, hd2]
   ·have := hk2 _ _ h
    simp only [hE, if_neg this]
   ·simp only [hE] at h h'
    split at h <;> split at h'
    ·omega
    ·cases h'
    ·cases h
    ·cases h
  ·exact hrv _ _ _ _ g cap (by simp [j6])
  ·intro k g1 g2 h; rw [hgm] at h; cases h
  ·intro k g1 h
   have h : E.gm k = some g1 := h
   rw [hgm] at h; cases h
  ·intro k ver z u b h hb2
   simp only [hE] at h
   split at h
   ·rename_i e
    subst e
    simp only [Option.some.injEq, Prod.mk.injEq] at h
    obtain ⟨_, _, rfl⟩ := h
    exact .inr ⟨_, _, _, hm, hb2⟩
   ·cases h
  ·intro k r0 h
   obtain ⟨rfl, rfl⟩ := hk1 _ _ _ h
   rfl
  ·intro k r0 r1 h h'
   obtain ⟨rfl, rfl⟩ := hk1 _ _ _ h
   obtain ⟨_, rfl⟩ := hk1 _ _ _ h'
   rfl
  ·intro k ver ver' z z' u u' hkS h h'
   simp only [hE] at h'
   split at h'
   ·rename_i e; subst e
    rw [hm] at h
    simp only [Option.some.injEq, Prod.mk.injEq] at h h'
    rw [<- h.2.2, <- h'.2.2, hS hkS]
   ·cases h'
abbrev a2j (l : List Int) : Row := ⟨0, 3, 1, l.map N3⟩
theorem a4A (l : List Int) (hl : l ≠ []) (hsz : l.length <= 9223372036854775807) : FCM Tryz.prog 105 ⟨[], [(1000000, a2j l)]⟩ [.one (.ow 1000000 0)] (fun H r => H = ⟨[], [(1000000, a2j (Lib.compact l))]⟩ ∧ r = .one (.ow 1000000 0)) :=
 a8m [] l (Lib.compact l) hl (Lib.compact_length_le l) _ ⟨Tryz.f105, Tryz.func105, by kernel_rfl, by kernel_rfl⟩ (fun h => by cases h) (fun g cap => .slice (some ⟨g, 0, none⟩) (Lib.compact l).length cap)
  (fun w ok base E g cap he => .one ⟨rfl, 0, 1, _, he, Nat.le_refl _, fun _ => rfl, by omega⟩)
  (fun g cap w hH hg hc => by
   have hle := Lib.compact_length_le l
   refine Calls.mono (Any.slices_Compact_int a9B g 0 cap l w hH hsz hc) ?_
   rintro e w' ⟨rfl, q, rfl⟩
   exact ⟨rfl, q, #[], Lib.compact l ++ List.replicate (l.length - (Lib.compact l).length) 0, by simp; omega, by simp, by rw [grow_empty]⟩)
def T5 (l : List Int) : List Int := l.mergeSort fun x y => decide (x <= y)
theorem a9W (l : List Int) (hl : l ≠ []) (hsz : l.length < 4611686018427387904) : F9 Tryz.prog 44 [1000000] ⟨[], [(1000000, a2j l)]⟩ [.one (.ow 1000000 0)] (fun H r => H = ⟨[], [(1000000, a2j (T5 l))]⟩ ∧ r = .tu []) := by
 have hlen : (T5 l).length = l.length := List.length_mergeSort l
 refine a8m [1000000] l (T5 l) hl (by omega) _ ⟨Tryz.f44, Tryz.func44, by kernel_rfl, by kernel_rfl⟩ (fun _ => hlen) (fun _ _ => .tuple #[])
  (fun w ok base E g cap he => .tu (us := []) rfl (fun i x u h => by simp at h))
  (fun g cap w hH hg hc => ?_)
 refine Calls.mono (Any.slices_Sort_int c3m g 0 cap l w hH hg hsz) ?_
 rintro e w' ⟨rfl, n, os, rfl⟩
 exact ⟨rfl, n, os, T5 l, hlen, List.take_length, rfl⟩
abbrev a4X : Row := ⟨0, 3, 1, []⟩
theorem a5o (n : Int) (h : 0 <= n ∧ n <= 12) : ∃ v : Int, FC Tryz.prog 128 none [.one (.g (.int .u64 n))] (fun _ r => r = iv v) := by
 obtain ⟨h1, h2⟩ := h
 refine Exists.imp (fun v h => fcE Tryz.func128 (aL [[0,2],[0,2,4],[0],[0,2],[0,2,8],[0,2],[0,2],[0,2,14],[0,2],[0,2],[2]]) h) ?_
 generalize hb : ByteArray.mk _ = tab
 have hs : tab.size = 256 := by subst hb; rfl
 clear hb
 apply Exists.intro
 refine qv ?_
 rw [IntWalk.u8_in n ⟨h1, by omega⟩, hs]
 exact ⟨by omega, rfl⟩
theorem b0x (n : Int) (h : 0 <= n ∧ n <= 12) : ∃ v : Int, FC Tryz.prog 80 none [.one (.g (.int .u64 n))] (fun _ r => r = iv v) := by
 obtain ⟨v, hv⟩ := a5o n h
 refine ⟨v, fcE Tryz.func80 (aL [[0],[2],[2]]) ?_⟩
 refine qc hv ?_
 exact qt
theorem b6l : F9 Tryz.prog 118 [1000000] ⟨[], [(1000000, a4X)]⟩ [.one (.ow 1000000 0), iv 0, iv 0] (fun H r => H = ⟨[], [(1000000, a4X)]⟩ ∧ r = .tu []) := by
 refine fsE Tryz.func118 (aM [] [1000000] [[0,1,2,6],[0,1,2,6,12],[0,1,2,6,7],[0,1,2,6,7,30],[0,1,2,6,7],[0,1,2,6,7],[0,1,2,6]]) ⟨[], [], [1000000]⟩ ?_
 refine qv ?_
 refine T6 2 ?_
 exact qt
theorem b7P (v : Int) : F9 Tryz.prog 79 [1000000] ⟨[], [(1000000, a4X)]⟩ [.one (.ow 1000000 0), iv 0, iv 0, iv v] (fun H r => H = ⟨[], [(1000000, a4X)]⟩ ∧ r = .tu []) := by
 refine fsE Tryz.func79 (aM [] [1000000] [[0,1,2,3,8],[0,1,2,3,8,9],[0,1,2,3,8,9,10],[0,1,2,3,8,9,10,23]] ++ [⟨(kP [] [] [1000000]),[],[],[],[(27,⟨[],[1000000],[],[1000000],[1000000]⟩)]⟩] ++ aM [] [1000000] [[0,1,2,3,8,9,10,29],[],[0,1,2,3,8,9,10,35],[0,1,2,3,8,9,10],[0,1,2,3,8,9,10],[0,1,2,3,8,9,10,11,12],[0,1,2,3,8,9,10,11,12,50],[0,1,2,3,8,9,10,11],[0,1,2,3,8,9,10,11],[0,1,2,3,8,9,10,11,12],[0,1,2,3,8,9,10,11,68],[0,1,2,3,8,9,10,11,72],[0,1,2,3,8,9,10,11,87],[0,2,3,8,9,13],[0,1,2,3,8,9],[0,1,2,3,10,14,15],[0,1,2,3,9,10,14],[0,1,2,3,9,10,14,16,17],[0,1,2,3,9,14,16,17,18],[0,1,2,3,9,14,16,17,18,113],[0,1,2,3,8,9,14],[0,2,3,8,9,14],[0,1,2,3,8,9],[0,1,2,3,8,9,14],[0,1,3,8,9,14],[0,1,2,3,8,9]]) ⟨[], [], [1000000]⟩ ?_
 refine qv ?_
 refine T6 2 ?_
 refine qv ?_
 refine ⟨rfl, e7 b6l ⟨rfl, rfl⟩ ?_⟩
 exact qt
theorem b1E : F9 Tryz.prog 44 [1000000] ⟨[], [(1000000, a4X)]⟩ [.one (.ow 1000000 0)] (fun H r => H = ⟨[], [(1000000, a4X)]⟩ ∧ r = .tu []) := by
 refine fsE Tryz.func44 [aN [0,2] [] [1000000],⟨(kP [] [] [1000000]),[],[],[],[(10,⟨[],[1000000],[],[1000000],[1000000]⟩)]⟩] ⟨[], [], [1000000]⟩ ?_
 obtain ⟨v, hv⟩ := b0x 0 (by omega)
 refine qc hv ?_
 refine qv ?_
 refine ⟨rfl, e7 (b7P v) ⟨rfl, rfl⟩ ?_⟩
 exact qt
theorem d6Z : ((0 : Nat) < 1) = True := by simp
attribute [go_sem] d6Z
theorem Z0 (l : List Int) (hsz : l.length < 4611686018427387904) : F9 Tryz.prog 44 [1000000] ⟨[], [(1000000, a2j l)]⟩ [.one (.ow 1000000 0)] (fun H r => H = ⟨[], [(1000000, a2j (T5 l))]⟩ ∧ r = .tu []) := by
 by_cases h : l = []
 ·subst h; rw [show T5 [] = [] by simp [T5]]; exact b1E
 ·exact a9W l h hsz
end Go.Proofs.YtnlafmigfjlnnaaGreatDoor
