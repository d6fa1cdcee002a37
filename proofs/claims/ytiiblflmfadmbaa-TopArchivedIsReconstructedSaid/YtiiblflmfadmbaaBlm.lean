
/-
 A map from moments to samples, read in any order.
-/
import Derived.Test.YtiiblflmfadmbaaBas
import Derived.Maps.RangeWalk
import Derived.Maps.AppendAt
import Derived.ArgAppend
namespace Go.Proofs.Ytiiblflmfadmbaa
open Go Go.RowKit Go.Proofs Go.Ai Go.ChangeMaps
set_option linter.unusedSimpArgs false
set_option linter.unusedVariables false
set_option maxHeartbeats 4000000
/-- Stamps as they are laid: no two alike, and none that is still to come. -/
def Stp (ms : Array MapEntry) (clock : Nat) : Prop := (∀ x ∈ ms.toList, x.born < clock) ∧ (ms.toList.map (·.born)).Nodup
theorem Stp.nil : Stp #[] 0 := ⟨by simp, by simp⟩
theorem Stp.push {ms : Array MapEntry} {clock : Nat} (h : Stp ms clock) (k v : Value) : Stp (ms.push ⟨k, v, clock⟩) (clock + 1) := by
 refine ⟨fun x hx => ?_, ?_⟩
 ·rw [Array.toList_push, List.mem_append] at hx
  rcases hx with hx | hx
  ·have := h.1 x hx; omega
  ·simp at hx; subst hx; simp
 ·rw [Array.toList_push, List.map_append, List.nodup_append]
  refine ⟨h.2, by simp, fun a ha b hb => ?_⟩
  simp at hb; subst hb
  obtain ⟨x, hx, rfl⟩ := List.mem_map.1 ha
  have := h.1 x hx; omega
def smV (x : Smp) : List Value := [.int .i64 x.a, .int .i64 x.v, .int .i64 x.q]
abbrev mmT : TypeId := 105
abbrev smT : TypeId := 45
/-- A map that holds samples at their moments. -/
def Mss (w : World) (b : Nat) (S : List Smp) : Prop :=
 ∃ ms clock, w.heap[b]? = some (.map ms clock) ∧ S.length = ms.toList.length ∧ Stp ms clock ∧ ∀ (j : Nat) (s : Smp) (x : MapEntry), S[j]? = some s → ms.toList[j]? = some x → x.key = .int .i64 s.a ∧ x.val = .agg (smV s).toArray
theorem find_new (k : Int) : ∀ (S : List Smp) (l : List MapEntry), S.length = l.length → (∀ (j : Nat) (s : Smp) (x : MapEntry), S[j]? = some s → l[j]? = some x → x.key = .int .i64 s.a) → (∀ s ∈ S, s.a ≠ k) → ∀ i : Nat,
  Instr.findNow (.int .i64) (.int .i64 k) l i = some none
 | [], [], _, _, _, i => rfl
 | [], x :: l, h, _, _, _ => by simp at h
 | s :: S, [], h, _, _, _ => by simp at h
 | s :: S, x :: l, h, hk, hn, i => by
  have h0 := hk 0 s x rfl rfl
  have hs := same_key (c := 4) (d := .int .i64) rfl (a := .int .i64 k) (b := .int .i64 s.a) rfl rfl
  have e : k ≠ s.a := fun e => hn s (by simp) e.symm
  have hq : keyEq (.int .i64 k) (.int .i64 s.a) = false := by
   cases hq : keyEq (.int .i64 k) (.int .i64 s.a) with
   | false => rfl
   | true => exact absurd ((keyEq_iff (c := 4) rfl rfl).1 hq) (by simpa using e)
  rw [hq] at hs
  have ih := find_new k S l (by simpa using h) (fun j s' x' h1 h2 => hk (j + 1) s' x' (by simpa using h1) (by simpa using h2)) (fun s' h' => hn s' (by simp [h'])) (i + 1)
  simp [Instr.findNow, h0, hs, ih]
theorem Mss.store {w : World} {b : Nat} {S : List Smp} (h : Mss w b S) {x : Smp} (hk : ∀ s ∈ S, s.a ≠ x.a) : ∃ w', (Instr.mapUpdate mmT (.map (some b)) (.int .i64 x.a) (.agg (smV x).toArray)).run Try.prog w = .ok () w' ∧ Mss w' b (S ++ [x]) ∧ w.grownBy w' (some b) ∧ w'.heap.size = w.heap.size := by
 obtain ⟨ms, clock, hb, hl, hSp, hD⟩ := h
 have i1 := find_new x.a S ms.toList hl (fun j s x h1 h2 => (hD j s x h1 h2).1) hk 0
 have hik : MapKept.IsKey (.int .i64) (.int .i64 x.a) := isKey_of (c := 4) rfl rfl
 have hrun : (Instr.mapUpdate mmT (.map (some b)) (.int .i64 x.a) (.agg (smV x).toArray)).run Try.prog w = .ok () { w with heap := w.heap.setIfInBounds b (.map (ms.push ⟨.int .i64 x.a, .agg (smV x).toArray, clock⟩) (clock + 1)) } := by
  simp [Instr.mapUpdate, run_underlying Try.underlying105, MapKept.run_getObj_map hb, MapKept.run_checkKey Try.underlying3 hik, MapKept.run_findKey Try.underlying3 i1, MapKept.run_setObj_map _ hb, Result.andThen]
 refine ⟨_, hrun, ⟨_, _, (MapKept.heap_set hb).1, by simp [hl], hSp.push _ _, fun j s y h1 h2 => ?_⟩, ⟨rfl, rfl, rfl, by simp, fun i _ hi => (MapKept.heap_set hb).2 i (fun e => hi (by rw [e]))⟩, by simp⟩
 rw [Array.toList_push, List.getElem?_append] at h2
 rw [List.getElem?_append] at h1
 by_cases hj : j < S.length
 ·rw [if_pos hj] at h1; rw [if_pos (by omega)] at h2; exact hD j s y h1 h2
 ·rw [if_neg hj] at h1; rw [if_neg (by omega)] at h2
  cases hjj : j - S.length with
  | zero =>
   rw [hjj] at h1; rw [← hl, hjj] at h2
   simp at h1 h2; subst h1; subst h2; exact ⟨rfl, rfl⟩
  | succ n => rw [hjj] at h1; simp at h1
theorem Mss.kept {w w' : World} {b : Nat} {S : List Smp} {row : Option Nat} (h : Mss w b S) (hg : w.grownBy w' row) (hr : row ≠ some b) : Mss w' b S := by
 obtain ⟨ms, clock, hb, rest⟩ := h
 exact ⟨ms, clock, by rw [hg.block b (Array.getElem?_eq_some_iff.1 hb).1 (Ne.symm hr)]; exact hb, rest⟩
theorem perm_push {ms : Array MapEntry} {seen : Array Nat} {e : MapEntry} (hnd : (ms.toList.map (·.born)).Nodup) (he : e ∈ ms.toList) (hs : seen.contains e.born = false) :
  (ms.toList.filter fun x => (seen.push e.born).contains x.born).Perm ((ms.toList.filter fun x => seen.contains x.born) ++ [e]) := by
 generalize ms.toList = l at hnd he
 have h1 : ∀ x ∈ l, x.born = e.born → x = e := fun x hx hb => by
  have : ∀ (l : List MapEntry), (l.map (·.born)).Nodup → ∀ x ∈ l, ∀ y ∈ l, x.born = y.born → x = y := by
   intro l
   induction l with
   | nil => intro _ x hx; simp at hx
   | cons a r ih =>
    intro hn x hx y hy hb
    rw [List.map_cons, List.nodup_cons] at hn
    rw [List.mem_cons] at hx hy
    rcases hx with rfl | hx <;> rcases hy with rfl | hy
    ·rfl
    ·exact absurd (List.mem_map.2 ⟨y, hy, hb.symm⟩) hn.1
    ·exact absurd (List.mem_map.2 ⟨x, hx, hb⟩) hn.1
    ·exact ih hn.2 x hx y hy hb
  exact this l hnd x hx e he hb
 have hnl : l.Nodup := by
  have : ∀ (l : List MapEntry), (l.map (·.born)).Nodup → l.Nodup := by
   intro l
   induction l with
   | nil => intro _; exact List.nodup_nil
   | cons a r ih =>
    intro hn
    rw [List.map_cons, List.nodup_cons] at hn
    exact List.nodup_cons.2 ⟨fun h => hn.1 (List.mem_map.2 ⟨a, h, rfl⟩), ih hn.2⟩
  exact this l hnd
 refine (List.perm_ext_iff_of_nodup (hnl.sublist (List.filter_sublist)) ?_).2 fun x => ?_
 ·rw [List.nodup_append]
  refine ⟨hnl.sublist (List.filter_sublist), by simp, fun a ha b hb => ?_⟩
  simp at hb; subst hb
  rintro rfl
  have := (List.mem_filter.1 ha).2
  rw [hs] at this; cases this
 ·rw [List.mem_filter, List.mem_append, List.mem_filter, contains_push]
  constructor
  ·rintro ⟨hx, hc⟩
   rw [Bool.or_eq_true] at hc
   rcases hc with hc | hc
   ·exact .inl ⟨hx, hc⟩
   ·exact .inr (by simp [h1 x hx (by simpa using hc)])
  ·rintro (⟨hx, hc⟩ | hx)
   ·exact ⟨hx, by rw [hc]; rfl⟩
   ·simp at hx; subst hx; exact ⟨he, by simp⟩
def itSz (ms : Array MapEntry) (w : World) (r : Nat) : Nat := match w.heap[r]? with | some (.mapIter _ _ seen _) => (leftOf ms seen).size | _ => 0
theorem info_smp : ∃ i0, Try.prog.info? smT = some i0 ∧ i0.zero = some (.agg #[.int .i64 0, .int .i64 0, .int .i64 0]) ∧ i0.size = 3 ∧ i0.bytes = 24 :=
 info_parts (show (Try.prog.info? smT).map (fun i => (i.zero, i.size, i.bytes)) = some (some (.agg #[.int .i64 0, .int .i64 0, .int .i64 0]), 3, 24) by kernel_rfl)
theorem wp_append_smp {ops : Array Oper} {rest : List Oper} {o : Oper} {a : Act} {w : World} {Q : Exit → Act → World → Prop} (hgd : o.guard = none) (sl x : Operand)
  (ho : o.op = .call { callee := .builtin .append, args := #[sl, x], argTypes := #[26, 26] }) {B : Nat} {v : Value} {xs : List Smp} (hs : a.eval sl = v) (hO : w.ownsRow B smT 3 v xs.length (xs.map smV).flatten) (hB : B ≤ w.heap.size) (g : Nat) (s : Smp)
  (hx : a.eval x = .slice (some ⟨g, 0, none⟩) 1 1) (hc : w.heap[g]? = some (.cells (smV s).toArray smT (0, 0))) (hl : xs.length ≤ 1000000)
  (h : ∀ v' w', w'.ownsRow B smT 3 v' (xs ++ [s]).length ((xs ++ [s]).map smV).flatten → w.grownBy w' v.ownBlock → wpList Try.prog ops Q rest (a.put o.dst v') w') : wpList Try.prog ops Q (o :: rest) a w := by
 refine wpList_plain hgd fun K hK => ?_
 obtain ⟨i1, hj, hj0, hj1, hj2⟩ := info_smp
 obtain ⟨v', w', hr, h2, h3, _⟩ := run_append_own_at (P := Try.prog) w B 26 o.type smT i1 _ 3 24 Try.underlying26 hj hj0 hj1 hj2 rfl (by decide) v _ _ hO ⟨g, 0, none⟩ 1 1 (smV s) rfl
  (fun j u hu => by
   rw [add_none, cell_of_row w g (0 + j) (smV s).toArray smT (0, 0) hc, Nat.zero_add]
   simpa using hu) (by simp [smV, Value.oneCell']) (by unfold maxLen; omega) (by omega) hB
 unfold Oper.wp execOp
 simp only [ho, resolve, invoke, builtin, Sem.run_bind, Sem.run_pure, Result.andThen_ok, List.map_toArray, List.map_cons, List.map_nil, hs, hx, hr]
 exact hK _ _ (h v' w' (by simpa using h2) h3)
end Go.Proofs.Ytiiblflmfadmbaa
