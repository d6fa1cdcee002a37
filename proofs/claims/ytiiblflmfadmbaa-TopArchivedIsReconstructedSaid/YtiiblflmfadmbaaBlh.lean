
/-
 slices.Chunk of at most one piece: its iterator.
-/
import Derived.RangeFuncBox
import Derived.RangeFuncNested
import Derived.RangeFuncCalls
import Derived.RangeFuncLeaves
import Derived.Shelf.Abstract
import Derived.WalkKit
import Derived.OwnWalkIn
import Derived.TacticsInMore
import Derived.LoopNIn
import Derived.LoopIn
import Derived.Maps.AppendAt
import Derived.Sort.QuietIn
import Derived.Test.YtiiblflmfadmbaaProg
namespace Go.Proofs.Ytiiblflmfadmbaa
open Go Go.Proofs Go.RowKit Go.Shelf
set_option linter.unusedSimpArgs false
set_option linter.unusedVariables false
set_option maxHeartbeats 4000000
attribute [local go_sem] Oper.semAt_some
/-- What a round keeps: all below, and two boxes. -/
def KpB (n₀ Bs Bn : Nat) (W W' : World) : Prop := Below n₀ W W' ∧ W'.heap[Bs]? = W.heap[Bs]? ∧ W'.heap[Bn]? = W.heap[Bn]?
set_option maxRecDepth 100000 in
set_option maxHeartbeats 2000000 in
theorem chunk1_in (n : Nat) (hn : 1 ≤ n) (l Bs Bn n₀ b off len cap : Nat) (h1 : 1 ≤ len) (hlen : len ≤ 100) (hcap : len ≤ cap) (J Jx : List Unit → World → Prop) (hJd : ∀ (s : List Unit) (W : World) (q : Nat), J s W → J s (W.drewN q))
  (hY : ∀ pre x W, J pre W → pre.length < 1 → YieldAt Fence.wide (n - 1) Try.prog l #[.slice (some ⟨b, off, none⟩) len len] W fun e W' =>
   (e = .returned (.bool true) ∧ J (pre ++ [x]) W' ∧ KpB n₀ Bs Bn W W') ∨ (e = .returned (.bool false) ∧ Jx (pre ++ [x]) W'))
  (W : World) (hBs : W.cell? ⟨Bs, 0, none⟩ = some (.slice (some ⟨b, off, none⟩) len cap)) (hBn : W.cell? ⟨Bn, 0, none⟩ = some (.int .i64 100)) (h0 : J [] W) :
  CallsIn Fence.wide n Try.prog 63 #[.func (.yield l) #[] #[], .pointer (some ⟨Bs, 0, none⟩), .pointer (some ⟨Bn, 0, none⟩)] W fun e W' => (∃ v, e = .returned v) ∧
   ((∃ ys, ys = [()] ∧ J ys W') ∨ (∃ pre, (pre = [()]) ∧ Jx pre W')) := by
 refine callsIn_of_wp Try.func63 rfl trivial ?_ rfl
 simp only [Try.ntmps63, List.size_toArray, List.length_cons, List.length_nil, Nat.reduceAdd, Nat.reduceSub, Array.replicate_succ, Array.replicate_zero, List.push_toArray, List.append_toArray, List.nil_append, List.cons_append]
 gi_wp2
 gi_loopw [4] (fun i wr => ((i = .int .i64 0 ∧ J [] wr) ∨ (i = .int .i64 100 ∧ J [()] wr)) ∧ wr.cell? ⟨Bs, 0, none⟩ = some (.slice (some ⟨b, off, none⟩) len cap) ∧ wr.cell? ⟨Bn, 0, none⟩ = some (.int .i64 100))
  (fun i _ => 100 - (intOf i).toNat)
 case atStart => exact ⟨.inl ⟨rfl, h0⟩, hBs, hBn⟩
 case round =>
  obtain ⟨⟨rfl, hJ⟩ | ⟨rfl, hJ⟩, c1, c2⟩ := hrel
  ·have hmn : (if (len : Int) < 100 then (len : Int) else 100) = len := by split <;> omega
   gi_wp2
   gi_quiet (fail)
   have c3 : (wr.drewN nq).cell? ⟨Bs, 0, none⟩ = some (.slice (some ⟨b, off, none⟩) len cap) := c1
   have c4 : (wr.drewN nq).cell? ⟨Bn, 0, none⟩ = some (.int .i64 100) := c2
   obtain ⟨fn, tmps, assign, body, hy, hR⟩ := hY [] () (wr.drewN nq) (hJd _ _ _ hJ) (by simp)
   gi_wp2
   refine hR.mono ?_
   rintro e W3 (⟨rfl, hJ3, hk3⟩ | ⟨rfl, hJx3⟩)
   ·have d1 : W3.cell? ⟨Bs, 0, none⟩ = some (.slice (some ⟨b, off, none⟩) len cap) := (World.cell?_of_block (w := wr.drewN nq) (a := ⟨Bs, 0, none⟩) hk3.2.1).trans c3
    have d2 : W3.cell? ⟨Bn, 0, none⟩ = some (.int .i64 100) := (World.cell?_of_block (w := wr.drewN nq) (a := ⟨Bn, 0, none⟩) hk3.2.2).trans c4
    gi_wp2
    go_roundw
    case rel => exact ⟨.inr ⟨rfl, hJ3⟩, d1, d2⟩
    case measure => simp [intOf]
   ·gi_wp2
    refine bodyPost_ret (results_none rfl _ _ _) rfl ?_
    exact ⟨⟨_, rfl⟩, .inr ⟨_, rfl, hJx3⟩⟩
  ·gi_wp2
   go_end0
   exact ⟨⟨_, rfl⟩, .inl ⟨_, rfl, hJ⟩⟩
set_option maxRecDepth 100000 in
set_option maxHeartbeats 2000000 in
/-- .. of nothing: no round. -/
theorem chunk0_in (n : Nat) (l Bs Bn cap : Nat) (A : Option Addr) (J : List Unit → World → Prop)
  (W : World) (hBs : W.cell? ⟨Bs, 0, none⟩ = some (.slice A 0 cap)) (hBn : W.cell? ⟨Bn, 0, none⟩ = some (.int .i64 100)) (h0 : J [] W) :
  CallsIn Fence.wide n Try.prog 63 #[.func (.yield l) #[] #[], .pointer (some ⟨Bs, 0, none⟩), .pointer (some ⟨Bn, 0, none⟩)] W fun e W' => (∃ v, e = .returned v) ∧ J [] W' := by
 refine callsIn_of_wp Try.func63 rfl trivial ?_ rfl
 simp only [Try.ntmps63, List.size_toArray, List.length_cons, List.length_nil, Nat.reduceAdd, Nat.reduceSub, Array.replicate_succ, Array.replicate_zero, List.push_toArray, List.append_toArray, List.nil_append, List.cons_append]
 gi_wp2
 gi_loopw [4] (fun i wr => i = .int .i64 0 ∧ J [] wr ∧ wr.cell? ⟨Bs, 0, none⟩ = some (.slice A 0 cap)) (fun i _ => 0)
 case atStart => exact ⟨rfl, h0, hBs⟩
 case round =>
  obtain ⟨rfl, hJ, c1⟩ := hrel
  gi_wp2
  go_end0
  exact ⟨⟨_, rfl⟩, hJ⟩
set_option maxHeartbeats 1000000 in
theorem chunk_in (n : Nat) (A : Option Addr) (len cap : Nat) (w : World) :
  CallsIn Fence.wide n Try.prog 48 #[.slice A len cap, .int .i64 100] w fun e w' => e = .returned (.func (.func 63) #[] #[.pointer (some ⟨w.heap.size, 0, none⟩), .pointer (some ⟨w.heap.size + 1, 0, none⟩)]) ∧ w' = (w.alloc (.cells #[.slice A len cap] 26)).alloc (.cells #[.int .i64 100] 3) := by
 refine callsIn_of_wp Try.func48 rfl trivial ?_ rfl
 simp only [Try.ntmps48, List.size_toArray, List.length_cons, List.length_nil, Nat.reduceAdd, Nat.reduceSub, Array.replicate_succ, Array.replicate_zero, List.push_toArray, List.append_toArray, List.nil_append, List.cons_append]
 gi_wp2
 go_ret
 exact ⟨by simp, rfl⟩
/-- What Chunk hands back gives one piece, or none. -/
theorem chunk_stops (n : Nat) (hn : 1 ≤ n) (Bs Bn n₀ b off len cap : Nat) (hlen : len ≤ 100) (hcap : len ≤ cap) (w : World) (hBs : Bs < w.heap.size) (hBn : Bn < w.heap.size)
  (c1 : w.cell? ⟨Bs, 0, none⟩ = some (.slice (some ⟨b, off, none⟩) len cap)) (c2 : w.cell? ⟨Bn, 0, none⟩ = some (.int .i64 100)) :
  SeqStopsK Fence.wide n Try.prog 63 #[.pointer (some ⟨Bs, 0, none⟩), .pointer (some ⟨Bn, 0, none⟩)] (fun _ : Unit => #[Value.slice (some ⟨b, off, none⟩) len len]) (KpB n₀ Bs Bn) (fun ys => ys = if len = 0 then [] else [()]) (fun pre => pre = [()]) 1 w := fun l J Jx W hW hJ _ hY h0 => by
 have d1 := (hW.cell (p := ⟨Bs, 0, none⟩) hBs).trans c1
 have d2 := (hW.cell (p := ⟨Bn, 0, none⟩) hBn).trans c2
 have hJd : ∀ (s : List Unit) (W : World) (q : Nat), J s W → J s (W.drewN q) := fun s W q h => hJ s W _ none h ⟨rfl, rfl, rfl, Nat.le_refl _, fun _ _ _ => rfl⟩ (fun r e => by cases e)
 by_cases hz : len = 0
 ·subst hz
  refine (chunk0_in n l Bs Bn cap _ J W d1 d2 h0).mono ?_
  rintro e W' ⟨he, hj⟩
  exact ⟨he, .inl ⟨[], rfl, hj⟩⟩
 ·refine (chunk1_in n hn l Bs Bn n₀ b off len cap (by omega) hlen hcap J Jx hJd hY W d1 d2 h0).mono ?_
  rintro e W' ⟨he, ⟨ys, rfl, hj⟩ | ⟨pre, rfl, hj⟩⟩
  ·exact ⟨he, .inl ⟨_, by rw [if_neg hz], hj⟩⟩
  ·exact ⟨he, .inr ⟨_, rfl, hj⟩⟩
end Go.Proofs.Ytiiblflmfadmbaa
