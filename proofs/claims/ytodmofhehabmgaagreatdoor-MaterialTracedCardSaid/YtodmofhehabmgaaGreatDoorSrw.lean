/-
 All batches of which material went into a batch: sources, walked.
-/
import Derived.Test.YtodmofhehabmgaaGreatDoorInw
import Derived.ArgAppend
namespace Go.Proofs.YtodmofhehabmgaaGreatDoor
open Go Go.RowKit Go.Proofs Go.Ai
set_option linter.unusedSimpArgs false
set_option linter.unusedVariables false
set_option maxHeartbeats 4000000
abbrev stT : TypeId := 9
/-- A queue of strings in a slice of the call's own, whose front may have been cut off. -/
def Que (w : World) (B : Nat) (v : Value) (xs : List ByteArray) : Prop :=
 ∃ b off c, v = .slice (some ⟨b, off, none⟩) xs.length c ∧ B ≤ b ∧ b < w.heap.size ∧ xs.length ≤ c ∧ (∀ j s, xs[j]? = some s → w.cell? ⟨b, off + j, none⟩ = some (.string s)) ∧
  ∀ j, j < c → (w.cell? ⟨b, off + j, none⟩).isSome = true ∧ w.frozen? ⟨b, off + j, none⟩ = false
/-- Stamps as they are laid: no two alike, and none that is still to come. -/
def Stp (ms : Array MapEntry) (clock : Nat) : Prop := (∀ x ∈ ms.toList, x.born < clock) ∧ (ms.toList.map (·.born)).Nodup
theorem Stp.nil : Stp #[] 0 := ⟨by simp, by simp⟩
theorem Stp.push {ms : Array MapEntry} {clock : Nat} (h : Stp ms clock) (k v : Value) : Stp (ms.push ⟨k, v, clock⟩) (clock + 1) := by
 refine ⟨fun x hx => ?_, ?_⟩
 ·rw [Array.toList_push, List.mem_append] at hx
  rcases hx with hx | hx
  ·have := h.1 x hx; omega
  ·simp at hx; subst hx; simp
 ·rw [Array.toList_push, List.map_append, List.nodup_append]
  refine ⟨h.2, by simp, fun a ha b hb => ?_⟩
  simp at hb; subst hb
  obtain ⟨x, hx, rfl⟩ := List.mem_map.1 ha
  have := h.1 x hx; omega
/-- A set of strings: a map whose elements are all true. -/
def Sts (w : World) (b : Nat) (S : List ByteArray) : Prop :=
 ∃ ms clock, w.heap[b]? = some (.map ms clock) ∧ S.length = ms.toList.length ∧ Stp ms clock ∧ ∀ (j : Nat) (s : ByteArray) (x : MapEntry), S[j]? = some s → ms.toList[j]? = some x → x.key = .string s ∧ x.val = .bool true
abbrev msT : TypeId := 71
theorem Sts.look {w : World} {b : Nat} {S : List ByteArray} (h : Sts w b S) (k : ByteArray) : (Instr.lookup msT (.map (some b)) (.string k) false).run Tryz.prog w = .ok (.bool (decide (k ∈ S))) w := by
 obtain ⟨ms, clock, hb, hl, hSp, hD⟩ := h
 have hz : ∀ W : World, (zeroValue 4).run Tryz.prog W = .ok (.bool false) W := fun W => by kernel_rfl
 rcases find_keys k S ms.toList hl (fun j s x h1 h2 => (hD j s x h1 h2).1) 0 with ⟨i1, i2⟩ | ⟨j, x, i1, i2, i3, i4⟩
 ·have : k ∉ S := fun h => i2 k h rfl
  simp [Instr.lookup, run_underlying Tryz.underlying71, MapKept.run_getObj_map hb, MapKept.run_checkKey Tryz.underlying9 (isKey_of (c := 0) rfl (key_ok k)), MapKept.run_findKey Tryz.underlying9 i1, hz, Result.andThen, this]
 ·have : k ∈ S := List.mem_of_getElem? i3
  have hv := (hD j k x i3 i2).2
  simp [Instr.lookup, run_underlying Tryz.underlying71, MapKept.run_getObj_map hb, MapKept.run_checkKey Tryz.underlying9 (isKey_of (c := 0) rfl (key_ok k)), MapKept.run_findKey Tryz.underlying9 i1, Result.andThen, this, hv]
theorem Sts.store {w : World} {b : Nat} {S : List ByteArray} (h : Sts w b S) {k : ByteArray} (hk : k ∉ S) : ∃ w', (Instr.mapUpdate msT (.map (some b)) (.string k) (.bool true)).run Tryz.prog w = .ok () w' ∧ Sts w' b (S ++ [k]) ∧ w.grownBy w' (some b) ∧ w'.heap.size = w.heap.size := by
 obtain ⟨ms, clock, hb, hl, hSp, hD⟩ := h
 rcases find_keys k S ms.toList hl (fun j s x h1 h2 => (hD j s x h1 h2).1) 0 with ⟨i1, i2⟩ | ⟨j, x, i1, i2, i3, i4⟩
 ·have hrun : (Instr.mapUpdate msT (.map (some b)) (.string k) (.bool true)).run Tryz.prog w = .ok () { w with heap := w.heap.setIfInBounds b (.map (ms.push ⟨.string k, .bool true, clock⟩) (clock + 1)) } := by
   simp [Instr.mapUpdate, run_underlying Tryz.underlying71, MapKept.run_getObj_map hb, MapKept.run_checkKey Tryz.underlying9 (isKey_of (c := 0) rfl (key_ok k)), MapKept.run_findKey Tryz.underlying9 i1, MapKept.run_setObj_map _ hb, Result.andThen]
  refine ⟨_, hrun, ⟨_, _, (MapKept.heap_set hb).1, by simp [hl], hSp.push _ _, fun j s x h1 h2 => ?_⟩, ⟨rfl, rfl, rfl, by simp, fun i _ hi => (MapKept.heap_set hb).2 i (fun e => hi (by rw [e]))⟩, by simp⟩
  rw [Array.toList_push, List.getElem?_append] at h2
  rw [List.getElem?_append] at h1
  by_cases hj : j < S.length
  ·rw [if_pos hj] at h1; rw [if_pos (by omega)] at h2; exact hD j s x h1 h2
  ·rw [if_neg hj] at h1; rw [if_neg (by omega)] at h2
   cases hjj : j - S.length with
   | zero =>
    rw [hjj] at h1; rw [← hl, hjj] at h2
    simp at h1 h2; subst h1; subst h2; exact ⟨rfl, rfl⟩
   | succ n => rw [hjj] at h1; simp at h1
 ·exact absurd (List.mem_of_getElem? i3) hk
theorem Sts.kept {w w' : World} {b : Nat} {S : List ByteArray} {row : Option Nat} (h : Sts w b S) (hg : w.grownBy w' row) (hr : row ≠ some b) : Sts w' b S := by
 obtain ⟨ms, clock, hb, rest⟩ := h
 exact ⟨ms, clock, by rw [hg.block b (Array.getElem?_eq_some_iff.1 hb).1 (Ne.symm hr)]; exact hb, rest⟩
theorem Que.kept {w w' : World} {B : Nat} {v : Value} {xs : List ByteArray} {row : Option Nat} (h : Que w B v xs) (hg : w.grownBy w' row) (hr : ∀ g, row = some g → v.ownBlock ≠ some g) : Que w' B v xs := by
 obtain ⟨b, off, c, rfl, h1, h2, h3, h4, h5⟩ := h
 have hb : w'.heap[b]? = w.heap[b]? := hg.block b h2 (fun e => hr b e.symm rfl)
 refine ⟨b, off, c, rfl, h1, Nat.lt_of_lt_of_le h2 hg.size, h3, fun j s hj => ?_, fun j hj => ?_⟩
 ·rw [World.cell?_of_block hb]; exact h4 j s hj
 ·rw [World.cell?_of_block hb, World.frozen?_of_block hb]; exact h5 j hj
theorem Que.append {w : World} {B : Nat} {v : Value} {xs : List ByteArray} (h : Que w B v xs) (hB : B ≤ w.heap.size) (ty : TypeId) (g : Nat) (s : ByteArray) (hc : w.cell? ⟨g, 0, none⟩ = some (.string s)) (hl : xs.length ≤ 100000000) :
  ∃ v' w', (Builtin.append_ #[35, 35] ty #[v, .slice (some ⟨g, 0, none⟩) 1 1]).run Tryz.prog w = .ok v' w' ∧ Que w' B v' (xs ++ [s]) ∧ w.grownBy w' v.ownBlock := by
 obtain ⟨i1, hj, hj0, hj1, hj2⟩ := info_parts (show (Tryz.prog.info? 9).map (fun i => (i.zero, i.size, i.bytes)) = some (some (.string ByteArray.empty), 1, 16) by kernel_rfl)
 obtain ⟨b, off, c, rfl, h1, h2, h3, h4, h5⟩ := h
 have hnews : ∀ j u, [Value.string s][j]? = some u → w.cell? ((⟨g, 0, none⟩ : Addr).add j) = some u := fun j u hu => by
  match j with
  | 0 => simp at hu; subst hu; rw [add_none]; exact hc
  | j + 1 => simp at hu
 by_cases hroom : xs.length + 1 ≤ c
 ·have hcell : ∀ j, j < c → (w.cell? ⟨b, off + j, none⟩).isSome = true ∧ w.frozen? ⟨b, off + j, none⟩ = false := h5
  have hr := run_append_room_cells (P := Tryz.prog) w 35 ty stT i1 Tryz.underlying35 hj b off xs.length c ⟨g, 0, none⟩ 1 1 [.string s] (by rw [hj1]; rfl) hnews (by simp [Value.oneCell']) hroom
   (fun j hj => by rw [hj1]; simp at hj; subst hj; have := (h5 xs.length (by omega)).1; simpa using this) (fun j hj => by rw [hj1]; simp at hj; subst hj; have := (h5 xs.length (by omega)).2; simpa using this)
  rw [hj1, Nat.mul_one] at hr
  have hsome : (w.cell? ⟨b, off + xs.length, none⟩).isSome = true := (h5 xs.length (by omega)).1
  obtain ⟨u0, hu0⟩ := Option.isSome_iff_exists.1 hsome
  refine ⟨_, _, hr, ⟨b, off, c, by simp, h1, by simp [World.setCells, World.setCell]; exact h2, by simpa using hroom, fun j t hj => ?_, fun j hj => ?_⟩, ⟨rfl, rfl, rfl, by simp [World.setCells, World.setCell], fun k hk hne => Below.heap_setCell _ _ _ _ (fun e => hne (by simp [e, Value.ownBlock]))⟩⟩
  ·show (w.setCell ⟨b, off + xs.length, none⟩ (.string s)).cell? _ = _
   rw [List.getElem?_append] at hj
   by_cases hlt : j < xs.length
   ·rw [if_pos hlt] at hj
    rw [World.cell?_setCell_other _ _ _ _ (by intro e; injection e with _ e _; omega)]
    exact h4 j t hj
   ·rw [if_neg hlt] at hj
    cases hjj : j - xs.length with
    | zero =>
     rw [hjj] at hj; simp at hj; subst hj
     rw [show j = xs.length by omega]
     exact World.cell?_setCell_same _ _ _ hu0
    | succ n => rw [hjj] at hj; simp at hj
  ·show ((w.setCell ⟨b, off + xs.length, none⟩ (.string s)).cell? _).isSome = true ∧ (w.setCell ⟨b, off + xs.length, none⟩ (.string s)).frozen? _ = false
   rw [World.frozen?_setCell]
   refine ⟨?_, (h5 j hj).2⟩
   by_cases e : j = xs.length
   ·subst e; rw [World.cell?_setCell_same _ _ _ hu0]; rfl
   ·rw [World.cell?_setCell_other _ _ _ _ (by intro e; injection e with _ e _; omega)]; exact (h5 j hj).1
 ·obtain ⟨v', w', hr, ho, hg⟩ := run_append_arg_grows (P := Tryz.prog) w 35 ty stT i1 (.string ByteArray.empty) 1 16 Tryz.underlying35 hj hj0 hj1 hj2 rfl (by decide) ⟨b, off, none⟩ xs.length c (xs.map Value.string) (by simp) (fun j u hu => by
    rw [List.getElem?_map] at hu
    cases hx : xs[j]? with
    | none => rw [hx] at hu; cases hu
    | some s' => rw [hx] at hu; simp at hu; subst hu; rw [add_none]; exact h4 j s' hx) ⟨g, 0, none⟩ 1 1 [.string s] rfl hnews (by omega) (by unfold maxLen; omega) (by omega)
  refine ⟨v', w', hr, ?_, ⟨hg.os, hg.tape, hg.output, hg.size, fun k hk _ => hg.block k hk (by simp)⟩⟩
  rcases ho.2 with ⟨_, h0⟩ | ⟨g', cap, cur, rfl, hb', hg', hnc, hcm, hcs, htake⟩
  ·omega
  ·have hglt : g' < w'.heap.size := (Array.getElem?_eq_some_iff.1 hg').1
   refine ⟨g', 0, cap, by simp, by omega, hglt, by simpa using hnc, fun j t hj => ?_, fun j hj => ?_⟩
   ·have := ho.cells (g := g') rfl j (.string t) (by rw [show xs.map Value.string ++ [Value.string s] = (xs ++ [s]).map Value.string by simp, List.getElem?_map, hj]; rfl)
    rw [add_none] at this; exact this
   ·rw [cell_of_row w' g' (0 + j) cur stT (0, 0) hg', Nat.zero_add]
    refine ⟨by simp [show j < cur.size by omega], ?_⟩
    simp [World.frozen?, hg']
def innT (p : List ByteArray × List ByteArray) (y : Trf) : List ByteArray × List ByteArray := if y.frm ∈ p.1 then p else (p.1 ++ [y.frm], p.2 ++ [y.frm])
def srcF (gk : ByteArray → List Trf) : Nat → List ByteArray → List ByteArray → List ByteArray
 | 0, S, _ => S
 | _ + 1, S, [] => S
 | n + 1, S, x :: T => srcF gk n ((gk x).foldl innT (S, T)).1 ((gk x).foldl innT (S, T)).2
def mapSz (w : World) (b : Nat) : Nat := match w.heap[b]? with | some (.map ms _) => ms.size | _ => 0
theorem Sts.sz {w : World} {b : Nat} {S : List ByteArray} (h : Sts w b S) : mapSz w b = S.length := by
 obtain ⟨ms, clock, hb, hl, _⟩ := h
 unfold mapSz; rw [hb]; simp only; rw [hl]; simp
def lenV : Value → Nat
 | .slice _ n _ => n
 | _ => 0
theorem Que.len {w : World} {B : Nat} {v : Value} {xs : List ByteArray} (h : Que w B v xs) : lenV v = xs.length := by
 obtain ⟨b, off, c, rfl, _⟩ := h; rfl
theorem nodup_le : ∀ (S N : List ByteArray), S.Nodup → (∀ s ∈ S, s ∈ N) → S.length ≤ N.length
 | [], _, _, _ => Nat.zero_le _
 | s :: S, N, hn, hs => by
  rw [List.nodup_cons] at hn
  have h1 := nodup_le S (N.erase s) hn.2 fun x hx => (List.mem_erase_of_ne (fun e => hn.1 (by rw [← e]; exact hx))).2 (hs x (by simp [hx]))
  have h2 := List.length_erase_of_mem (hs s (by simp))
  have h3 := List.length_pos_of_mem (hs s (by simp))
  simp only [List.length_cons]; omega
/-- What an inner round keeps. -/
structure InnOk (names S T : List ByteArray) (p : List ByteArray × List ByteArray) : Prop where
 nd : p.1.Nodup
 sub : ∀ s ∈ p.1, s ∈ names
 len : p.2.length + S.length = T.length + p.1.length
theorem InnOk.step {names S T : List ByteArray} {p : List ByteArray × List ByteArray} (h : InnOk names S T p) {y : Trf} (hy : y.frm ∈ names) : InnOk names S T (innT p y) := by
 unfold innT
 split
 ·exact h
 ·rename_i hn
  refine ⟨?_, fun s hs => ?_, by have := h.len; simp; omega⟩
  ·rw [List.nodup_append]
   exact ⟨h.nd, by simp, fun a ha b hb => by simp at hb; subst hb; rintro rfl; exact hn ha⟩
  ·simp only [List.mem_append, List.mem_singleton] at hs
   rcases hs with hs | rfl
   ·exact h.sub s hs
   ·exact hy
theorem wp_append_que {ops : Array Oper} {rest : List Oper} {o : Oper} {a : Act} {w : World} {Q : Exit → Act → World → Prop} (hgd : o.guard = none) (sl x : Operand)
  (ho : o.op = .call { callee := .builtin .append, args := #[sl, x], argTypes := #[35, 35] }) {B : Nat} {v : Value} {xs : List ByteArray} (hs : a.eval sl = v) (hQ : Que w B v xs) (hB : B ≤ w.heap.size) (g : Nat) (s : ByteArray)
  (hx : a.eval x = .slice (some ⟨g, 0, none⟩) 1 1) (hc : w.cell? ⟨g, 0, none⟩ = some (.string s)) (hl : xs.length ≤ 100000000)
  (h : ∀ v' w', Que w' B v' (xs ++ [s]) → w.grownBy w' v.ownBlock → wpList Tryz.prog ops Q rest (a.put o.dst v') w') : wpList Tryz.prog ops Q (o :: rest) a w := by
 refine wpList_plain hgd fun K hK => ?_
 obtain ⟨v', w', hr, h2, h3⟩ := hQ.append hB o.type g s hc hl
 unfold Oper.wp execOp
 simp only [ho, resolve, invoke, builtin, Sem.run_bind, Sem.run_pure, Result.andThen_ok, List.map_toArray, List.map_cons, List.map_nil, hs, hx, hr]
 exact hK _ _ (h v' w' h2 h3)
theorem Que.low {w : World} {B : Nat} {v : Value} {xs : List ByteArray} (h : Que w B v xs) : ∃ g, v.ownBlock = some g ∧ B ≤ g ∧ g < w.heap.size := by
 obtain ⟨b, off, c, rfl, h1, h2, _⟩ := h; exact ⟨b, rfl, h1, h2⟩
set_option maxRecDepth 100000 in
theorem sources_any (fb : Nat) (gk : ByteArray → List Trf) (names : List ByteArray) (batch : ByteArray) (w : World) (hfb : fb < w.heap.size) (hN : names.length ≤ 1000000) (hgl : ∀ k, (gk k).length ≤ 1000000)
  (hn : ∀ k y, y ∈ gk k → y.frm ∈ names)
  (hf : ∀ k, ∃ A c, (∀ W : World, W.heap[fb]? = w.heap[fb]? → (Instr.lookup mpT (.map (some fb)) (.string k) false).run Tryz.prog W = .ok (.slice A (gk k).length c) W) ∧
   ∀ i t, (gk k)[i]? = some t → ∃ b off, A = some ⟨b, off, none⟩ ∧ b < w.heap.size ∧ ∀ j u, (trV t)[j]? = some u → w.cell? ⟨b, off + i * 3 + j, none⟩ = some u) :
  Calls Tryz.prog 44 #[.map (some fb), .string batch] w fun e w' => e = .returned (.map (some w.heap.size)) ∧ Sts w' w.heap.size (srcF gk (names.length + 1) [] [batch]) ∧ w.grownBy w' none := by
 have hmm := @run_makeMap Tryz.prog
 obtain ⟨i1, hj, hj0, hj1, hj2⟩ := info_parts (show (Tryz.prog.info? 9).map (fun i => (i.zero, i.size, i.bytes)) = some (some (.string ByteArray.empty), 1, 16) by kernel_rfl)
 go_enter Tryz.func44, Tryz.ntmps44
 go_wp2
 rename_i K0 hK0
 refine wp_buildSlice _ _ 1 _ rfl #[.string batch] i1 _ Tryz.underlying35 hj (by exact hj0) (by rw [hj1]; decide) (by rw [hj1]; decide) ?_ ?_
 ·rw [hj1, Array.toList_map]
  show Instr.fill _ _ [(0, .string batch)] = _
  have := fill_row 1 [.string batch] 0 ((Array.range (1 * 1)).map (fun j => (Value.string ByteArray.empty).cells[j % (Value.string ByteArray.empty).cells.size]!)) (by simp [Value.cells]) (by simp)
  simpa [Value.cells, List.range'] using this
 refine hK0 _ _ ?_
 go_wp2
 go_loopw [6] (fun v6 wr => ∃ (n : Nat) (S T : List ByteArray), srcF gk n S T = srcF gk (names.length + 1) [] [batch] ∧ T.length + names.length ≤ n + S.length ∧ n ≤ names.length + 1 ∧ S.Nodup ∧ (∀ s ∈ S, s ∈ names) ∧
   Sts wr w.heap.size S ∧ Que wr (w.heap.size + 1) v6 T ∧ w.grownBy wr none) (fun v6 wr => lenV v6 + (names.length - mapSz wr w.heap.size))
 case atStart =>
  have hnw : ((w.alloc (.map #[] 0)).alloc (.cells #[.string batch] stT)).heap[w.heap.size + 1]? = some (.cells #[.string batch] stT (0, 0)) := by
   have := heap_alloc_new (w.alloc (.map #[] 0)) (.cells #[.string batch] stT)
   simpa using this
  refine ⟨names.length + 1, [], [batch], rfl, by simp; omega, by omega, by simp, by simp, ⟨#[], 0, ?_, rfl, .nil, by simp⟩, ⟨w.heap.size + 1, 0, 1, by simp, by omega, by simp, by simp, fun j s hj => ?_, fun j hj => ?_⟩, (World.grownBy_alloc w _ none).trans (World.grownBy_alloc _ _ none)⟩
  ·rw [RowKit.Below.heap_alloc _ _ _ (by simp)]; exact heap_alloc_new w _
  ·match j with
   | 0 => simp at hj; subst hj; rw [cell_of_row _ _ _ _ _ (0, 0) hnw]; rfl
   | j + 1 => simp at hj
  ·have : j = 0 := by omega
   subst this
   rw [cell_of_row _ _ _ _ _ (0, 0) hnw]
   exact ⟨rfl, by unfold World.frozen?; rw [hnw]; rfl⟩
 case round =>
  obtain ⟨n, S, T, hR, hn1, hn2, hnd, hsub, hSt, hQ, hgr⟩ := hrel
  have hQ0 := hQ
  obtain ⟨qb, qo, qc, rfl, hq1, hq2, hq3, hq4, hq5⟩ := hQ
  cases T with
  | nil =>
   have : srcF gk n S [] = S := by cases n <;> rfl
   go_wp2
   go_ret
   exact ⟨rfl, by rw [← hR, this]; exact hSt, hgr⟩
  | cons x T =>
   have hx : wr.cell? ⟨qb, qo, none⟩ = some (.string x) := hq4 0 x rfl
   have hlen : ((x :: T).length : Int) = (T.length : Int) + 1 := by simp
   have hp : (0 : Int) < (x :: T).length := by omega
   obtain ⟨A, c, hlk, hcells⟩ := hf x
   have hlkr : (Instr.lookup 69 (.map (some fb)) (.string x) false).run Tryz.prog wr = .ok (.slice A (gk x).length c) wr := hlk wr (hgr.block fb hfb (by simp))
   have hT1 : T.length ≤ 1000000 := by
    have := nodup_le S names hnd hsub
    simp only [List.length_cons] at hn1; omega
   have hn0 : ∃ n', n = n' + 1 := by
    have := nodup_le S names hnd hsub
    cases n with
    | zero => simp only [List.length_cons] at hn1; omega
    | succ n' => exact ⟨n', rfl⟩
   obtain ⟨n, rfl⟩ := hn0
   have hqa : qc = 1 → Que wr (w.heap.size + 1) (.slice (some ⟨qb, qo, none⟩) T.length 0) T := fun e => by
    simp only [List.length_cons] at hq3
    have hT : T = [] := List.eq_nil_of_length_eq_zero (by omega)
    subst hT
    exact ⟨qb, qo, 0, rfl, hq1, hq2, by simp, by simp, by simp⟩
   have hqb : ¬ qc = 1 → Que wr (w.heap.size + 1) (.slice (some ⟨qb, qo + 1, none⟩) T.length (qc - 1)) T := fun e => by
    simp only [List.length_cons] at hq3
    refine ⟨qb, qo + 1, qc - 1, rfl, hq1, hq2, by omega, fun j s hj => ?_, fun j hj => ?_⟩
    ·have := hq4 (j + 1) s (by simpa using hj)
     rw [show qo + 1 + j = qo + (j + 1) by omega]; exact this
    ·rw [show qo + 1 + j = qo + (j + 1) by omega]; exact hq5 (j + 1) (by omega)
   go_wp2
   all_goals
    go_loopw [6, 25] (fun v6 i wi => ∃ (m : Nat), i = .int .i64 m ∧ m ≤ (gk x).length ∧ InnOk names S T (((gk x).take m).foldl innT (S, T)) ∧ Sts wi w.heap.size (((gk x).take m).foldl innT (S, T)).1 ∧ Que wi (w.heap.size + 1) v6 (((gk x).take m).foldl innT (S, T)).2 ∧ w.grownBy wi none)
     (fun v6 i _ => (gk x).length - (intOf i).toNat)
    case atStart =>
     refine ⟨0, rfl, Nat.zero_le _, ⟨hnd, hsub, rfl⟩, hSt, ?_, hgr⟩
     first | exact hqa (by assumption) | exact hqb (by assumption)
    case round =>
     obtain ⟨m, rfl, hm, hI, hSi, hQi, hgi⟩ := hrel
     by_cases hlt : m < (gk x).length
     ·obtain ⟨eb, eo, rfl, heb, hec⟩ := hcells m (gk x)[m] (List.getElem?_eq_getElem hlt)
      have hfold : ((gk x).take (m + 1)).foldl innT (S, T) = innT (((gk x).take m).foldl innT (S, T)) (gk x)[m] := by
       rw [List.take_add_one, List.getElem?_eq_getElem hlt, Option.toList_some, List.foldl_append]; rfl
      have hyn : (gk x)[m].frm ∈ names := hn x _ (List.getElem_mem hlt)
      generalize (gk x)[m] = y at hec hfold hyn
      generalize ((gk x).take m).foldl innT (S, T) = pp at hI hSi hQi hfold
      obtain ⟨S1, T1⟩ := pp
      simp only at hI hSi hQi hfold
      have c0 : wr.cell? ⟨eb, eo + m * 3, none⟩ = some (.string y.frm) := (World.cell?_of_block (w := w) (hgi.block eb heb (by simp))).trans (hec 0 _ rfl)
      have c1 : wr.cell? ⟨eb, eo + m * 3 + 1, none⟩ = some (.string y.to) := (World.cell?_of_block (w := w) (hgi.block eb heb (by simp))).trans (hec 1 _ rfl)
      have c2 : wr.cell? ⟨eb, eo + m * 3 + 2, none⟩ = some (.int .i64 y.amt) := (World.cell?_of_block (w := w) (hgi.block eb heb (by simp))).trans (hec 2 _ rfl)
      have hws : w.heap.size + 1 ≤ wr.heap.size := by obtain ⟨g, _, h1, h2⟩ := hQi.low; omega
      have hSa : Sts (wr.alloc (.cells (trV y).toArray trT)) w.heap.size S1 := hSi.kept (World.grownBy_alloc wr _ none) (by simp)
      have hlk2 : (Instr.lookup 71 (.map (some w.heap.size)) (.string y.frm) false).run Tryz.prog (wr.alloc (.cells #[.string y.frm, .string y.to, .int .i64 y.amt] 54)) = .ok (.bool (decide (y.frm ∈ S1))) (wr.alloc (.cells #[.string y.frm, .string y.to, .int .i64 y.amt] 54)) := hSa.look y.frm
      have hb6 := hgl x
      have hI2 := hI.step hyn
      have hml := nodup_le _ names hI.nd hI.sub
      have hTl : T1.length ≤ 100000000 := by have := hI.len; simp only at this hml; omega
      by_cases hin : y.frm ∈ S1
      ·rw [decide_eq_true hin] at hlk2
       have hinn : innT (S1, T1) y = (S1, T1) := by unfold innT; rw [if_pos hin]
       rw [hinn] at hfold
       go_wp2
       refine ⟨⟨m + 1, by simp, by omega, ?_⟩, by simp [intOf]; omega⟩
       rw [hfold]
       exact ⟨hI, hSa, hQi.kept (World.grownBy_alloc wr _ none) (by simp), hgi.trans (World.grownBy_alloc wr _ none)⟩
      ·rw [decide_eq_false hin] at hlk2
       have hinn : innT (S1, T1) y = (S1 ++ [y.frm], T1 ++ [y.frm]) := by unfold innT; rw [if_neg hin]
       rw [hinn] at hfold
       obtain ⟨w2, hup, hS2, hg2, hsz2⟩ := hSa.store hin
       have hup2 : (Instr.mapUpdate 71 (.map (some w.heap.size)) (.string y.frm) (.bool true)).run Tryz.prog (wr.alloc (.cells #[.string y.frm, .string y.to, .int .i64 y.amt] 54)) = .ok () w2 := hup
       have hbk : w2.heap[wr.heap.size]? = some (.cells (trV y).toArray trT (0, 0)) := by
        rw [hg2.block wr.heap.size (by simp) (by intro e; injection e with e; omega)]
        exact heap_alloc_new wr _
       have d0 : w2.cell? ⟨wr.heap.size, 0, none⟩ = some (.string y.frm) := by rw [cell_of_row w2 wr.heap.size 0 _ _ (0, 0) hbk]; rfl
       have hs2 : w2.heap.size = wr.heap.size + 1 := by rw [hsz2]; simp
       have hnw : (w2.alloc (.cells #[.string y.frm] stT)).heap[wr.heap.size + 1]? = some (.cells #[.string y.frm] stT (0, 0)) := by rw [← hs2]; exact heap_alloc_new w2 _
       have hnc : (w2.alloc (.cells #[.string y.frm] stT)).cell? ⟨wr.heap.size + 1, 0, none⟩ = some (.string y.frm) := by rw [cell_of_row _ _ 0 _ _ (0, 0) hnw]; rfl
       go_wp2
       rename_i K1 hK1
       refine wp_buildSlice _ _ 1 _ rfl #[.string y.frm] i1 _ Tryz.underlying35 hj (by exact hj0) (by rw [hj1]; decide) (by rw [hj1]; decide) ?_ ?_
       ·rw [hj1, Array.toList_map]
        show Instr.fill _ _ [(0, .string y.frm)] = _
        have := fill_row 1 [.string y.frm] 0 ((Array.range (1 * 1)).map (fun j => (Value.string ByteArray.empty).cells[j % (Value.string ByteArray.empty).cells.size]!)) (by simp [Value.cells]) (by simp)
        simpa [Value.cells, List.range'] using this
       refine hK1 _ _ ?_
       have hQ2 : Que (w2.alloc (.cells #[.string y.frm] stT)) (w.heap.size + 1) u6 T1 := (((hQi.kept (World.grownBy_alloc wr _ none) (by simp)).kept hg2 (by
        intro g e e2
        injection e with e
        obtain ⟨g', h1, h2, _⟩ := hQi.low
        rw [h1] at e2; injection e2 with e2; omega)).kept (World.grownBy_alloc w2 _ none) (by simp))
       have hg12 : w.grownBy w2 none := (hgi.trans (World.grownBy_alloc wr _ none)).andThen hg2 fun j h => .inl (by injection h with h; omega)
       refine wp_append_que rfl (.tmp 37) (.tmp 40) rfl rfl hQ2 (by simp; omega) (wr.heap.size + 1) y.frm (by rw [← hs2]; rfl) hnc hTl ?_
       intro v3 w3 hQ3 hg3
       obtain ⟨b3, o3, c3, rfl, _⟩ := id hQ3
       go_wp2
       refine ⟨⟨m + 1, by simp, by omega, ?_⟩, by simp [intOf]; omega⟩
       rw [hfold]
       rw [hinn] at hI2
       have hlow : ∀ j, u6.ownBlock = some j → w.heap.size < j := fun j h => by
        obtain ⟨g', h1, h2, _⟩ := hQi.low
        rw [h1] at h; injection h with h; omega
       exact ⟨hI2, (hS2.kept (World.grownBy_alloc w2 _ none) (by simp)).kept hg3 (fun e => by have := hlow _ e; omega), by simpa using hQ3,
        (hg12.trans (World.grownBy_alloc w2 _ none)).andThen hg3 fun j h => .inl (Nat.le_of_lt (hlow j h))⟩
     ·have : m = (gk x).length := by omega
      subst this
      rw [List.take_length] at hI hSi hQi
      go_wp2
      have hml := nodup_le _ names hI.nd hI.sub
      have hml0 := nodup_le _ names hnd hsub
      have e1 := hQi.len
      have e2 := hSi.sz
      have e3 := hSt.sz
      have e4 := hI.len
      simp only [List.length_cons] at hn1
      refine ⟨⟨n, _, _, by rw [← hR]; rfl, by omega, by omega, hI.nd, hI.sub, hSi, hQi, hgi⟩, ?_⟩
      simp only [Array.getD, lenV] at e1 ⊢
      rw [e1, e2, e3, List.length_cons]
      omega
end Go.Proofs.YtodmofhehabmgaaGreatDoor
