
/-
  Some: one of some strings, drawn.
-/
import Derived.Test.YtggbcgldnjmobaaDoorGenA
namespace Go.Proofs.YtggbcgldnjmobaaDoor
open Go Go.Ai
set_option linter.unusedSimpArgs false
set_option linter.unusedVariables false
set_option maxHeartbeats 4000000
def A_some_ : List Ann := [⟨(some ⟨[0,1], [0], []⟩), [], [], [], []⟩, ⟨(some ⟨[4], [0], []⟩), [], [], [], []⟩]
def C_some_ : AC := (.seq (.reg false [⟨(some 4), none, .mv (.v (.string (ByteArray.mk #[])))⟩] (some ⟨[0,1], [0], []⟩))
  (.seq (.reg false [⟨(some 5), none, .mv (.t 1)⟩, ⟨(some 6), none, .mv (.t 0)⟩, ⟨(some 7), none, .mv (.t 1)⟩, ⟨(some 8), none, .len (.t 7)⟩, ⟨(some 9), none, .callx (.f 20) [(.t 6), (.t 8)]⟩, ⟨(some 10), none, .iadr 1 (.t 5) (.t 9)⟩, ⟨(some 11), none, .load false 1 (.t 10)⟩, ⟨(some 4), none, .mv (.t 11)⟩] (some ⟨[4], [0], []⟩))
  .ret))
theorem c_some_ : compileCode Tryd.prog Tryd.f5.ntmps (Tryd.f5.body.getD .skip) A_some_ = some (C_some_, []) := by kernel_rfl
theorem r_some_ : compileRes Tryd.prog Tryd.f5.results.toList = some [.t 4] := by kernel_rfl
theorem b_some_ : Tryd.f5.body = some (Tryd.f5.body.getD .skip) := by kernel_rfl
theorem n_some_ : (Tryd.f5.name == "runtime.NumGoroutine") = false := by kernel_rfl
theorem fc_some_ {xt : Option (List Cel)} {args : List Val} {R : List Cel → Val → Prop} (hn : (if xt.isSome then 1 else 0) + args.length ≤ Tryd.f5.ntmps) (h : ex Tryd.prog C_some_ [] (fpost xt [.t 4] R) (initSt xt args)) : FC Tryd.prog 5 xt args R :=
  fc_of_awp Tryd.func5 b_some_ n_some_ c_some_ r_some_ (of_decide_eq_true (by kernel_rfl)) hn h


def strC (b : ByteArray) : List Cel := [.g (.string b)]
theorem strC_eq (b : ByteArray) : strC b = [.g (.string b)] := rfl
abbrev strs (fr : Bool) (l : List ByteArray) : Val := .one (.sl fr 1 (l.map strC))
theorem getD_str (l : List ByteArray) (i : Int) (h0 : 0 ≤ i) (h : i < l.length) : (l.map strC).getD i.toNat [] = [.g (.string (l.getD i.toNat default))] := by
  rw [List.getD_eq_getElem?_getD, List.getElem?_map, List.getElem?_eq_getElem (show i.toNat < l.length by omega), List.getD_eq_getElem?_getD, List.getElem?_eq_getElem (show i.toNat < l.length by omega)]; rfl
theorem getD_memB (l : List ByteArray) (i : Nat) (h : i < l.length) : l.getD i default ∈ l := by
  rw [List.getD_eq_getElem?_getD, List.getElem?_eq_getElem h]; exact List.getElem_mem _
theorem some_fc (fr : Bool) (l : List ByteArray) (h1 : 0 < l.length) (h2 : l.length ≤ 9223372036854775807) : Gen Tryd.prog 5 [strs fr l] 1 (fun r => ∃ x ∈ l, r = sv x) := by
  intro L p hL hl h0 hp
  refine fc_some_ (by simp +arith) ?_
  unfold C_some_ strm
  simp (maxSteps := 1000000) (disch := omega) only [go_sem, eq_self, decide_true, decide_false, not_true_eq_false, not_false_eq_true, reduceIte, reduceCtorEq, Nat.reduceEqDiff, Nat.reduceAdd, Nat.reduceSub, Nat.reduceLeDiff]
  refine callx_gen (next_fc l.length (by omega) (by omega)) hL hl h0 hp ⟨_, 0, by omega, by omega, rfl⟩ ?_
  rintro p' r h4 h5 ⟨x, h6, h7, rfl⟩
  refine ⟨rfl, ?_⟩
  have em := getD_str l x h6 h7
  unfold strm
  simp (maxSteps := 1000000) (disch := omega) only [go_sem, eq_self, decide_true, decide_false, not_true_eq_false, not_false_eq_true, reduceIte, reduceCtorEq, Nat.reduceEqDiff, Nat.reduceAdd, Nat.reduceSub, Nat.reduceLeDiff]
  exact ⟨⟨p', by omega, by omega, rfl⟩, _, getD_memB _ _ (by omega), rfl⟩
end Go.Proofs.YtggbcgldnjmobaaDoor
