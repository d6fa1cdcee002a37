
/-
  Reconstruct: what lies between archived samples.
-/
import Derived.Test.YtggbcgldnjmobaaVal
namespace Go.Proofs.Ytggbcgldnjmobaa
open Go Go.Ai
set_option linter.unusedSimpArgs false
set_option linter.unusedVariables false
set_option maxHeartbeats 4000000
def A_recClos : List Ann := [⟨(some ⟨[1,2], [2], []⟩), [], [], [], []⟩, ⟨(some ⟨[4], [], []⟩), [], [], [], []⟩]
def C_recClos : AC := (.seq (.reg false [⟨(some 2), none, .box (.t 0)⟩, ⟨(some 4), none, .mv (.v (.int .i64 (0)))⟩] (some ⟨[1,2], [2], []⟩))
  (.seq (.reg false [⟨(some 5), none, .fadr 0 (.t 2)⟩, ⟨(some 6), none, .load false 1 (.t 5)⟩, ⟨(some 7), none, .mv (.t 1)⟩, ⟨(some 8), none, .bin .sub (.t 6) (.t 7)⟩, ⟨(some 4), none, .mv (.t 8)⟩] (some ⟨[4], [], []⟩))
  .ret))
theorem c_recClos : compileCode Try.prog Try.f175.ntmps (Try.f175.body.getD .skip) A_recClos = some (C_recClos, []) := by kernel_rfl
theorem r_recClos : compileRes Try.prog Try.f175.results.toList = some [.t 4] := by kernel_rfl
theorem b_recClos : Try.f175.body = some (Try.f175.body.getD .skip) := by kernel_rfl
theorem n_recClos : (Try.f175.name == "runtime.NumGoroutine") = false := by kernel_rfl
theorem fc_recClos {xt : Option (List Cel)} {args : List Val} {R : List Cel → Val → Prop} (hn : (if xt.isSome then 1 else 0) + args.length ≤ Try.f175.ntmps) (h : ex Try.prog C_recClos [] (fpost xt [.t 4] R) (initSt xt args)) : FC Try.prog 175 xt args R :=
  fc_of_awp Try.func175 b_recClos n_recClos c_recClos r_recClos (of_decide_eq_true (by kernel_rfl)) hn h

def A_rec_ : List Ann := [⟨(some ⟨[0,1,4], [4], []⟩), [], [], [], []⟩, ⟨(some ⟨[0,1,4,6,7], [4], []⟩), [], [], [], []⟩, ⟨(some ⟨[0,1,4,6,17], [4], []⟩), [], [], [], []⟩, ⟨(some ⟨[4,5], [4], []⟩), [], [(8, none), (9, none), (10, none)], [], []⟩, ⟨(some ⟨[0,1,4,6,37], [4], []⟩), [], [], [], []⟩, ⟨(some ⟨[4,5], [4], []⟩), [], [], [], []⟩, ⟨(some ⟨[1,4,8,9], [4,8,9], []⟩), [], [(3, none), (4, none), (7, none), (8, none)], [], []⟩, ⟨(some ⟨[1,4,8,9,10], [4,8,9], []⟩), [], [], [], []⟩, ⟨(some ⟨[4,5], [4], []⟩), [], [(21, (some 9)), (22, (some 9)), (25, (some 4))], [], []⟩]
def C_rec_ : AC := (.seq (.reg false [⟨(some 4), none, .alloc [(.int .i64 (0)), (.int .i64 (0))]⟩, ⟨(some 5), none, .mv (.v (.bool false))⟩] (some ⟨[0,1,4], [4], []⟩))
  (.seq (.reg false [⟨(some 12), none, .mv (.t 0)⟩, ⟨(some 13), none, .mv (.t 1)⟩, ⟨(some 14), none, .call (.f 157) [(.t 12), (.t 13), (.f 175)]⟩, ⟨(some 11), none, .mv (.t 14)⟩, ⟨(some 15), none, .extr (.t 11) 0⟩, ⟨(some 16), none, .extr (.t 11) 1⟩, ⟨(some 6), none, .mv (.t 15)⟩, ⟨(some 7), none, .mv (.t 16)⟩] (some ⟨[0,1,4,6,7], [4], []⟩))
  (.seq (.seq (.reg false [⟨(some 17), none, .mv (.t 7)⟩] (some ⟨[0,1,4,6,17], [4], []⟩))
  (.cond (.t 17)
  (.seq (.reg true [⟨(some 18), none, .mv (.t 0)⟩, ⟨(some 19), none, .mv (.t 6)⟩, ⟨(some 20), none, .iadr 3 (.t 18) (.t 19)⟩, ⟨(some 21), none, .fadr 1 (.t 20)⟩, ⟨(some 22), none, .load false 1 (.t 21)⟩, ⟨(some 23), none, .build [(.int .i64 (0)), (.int .i64 (0))] [(0, 1, (.t 22)), (1, 1, (.v (.int .i64 (1))))]⟩, ⟨(some 24), none, .mv (.t 0)⟩, ⟨(some 25), none, .mv (.t 6)⟩, ⟨none, none, .chk (.t 24) none⟩, ⟨(some 26), none, .iadr 3 (.t 24) (.t 25)⟩, ⟨none, none, .chk (.t 26) none⟩, ⟨(some 27), none, .fadr 2 (.t 26)⟩, ⟨none, none, .chk (.t 27) none⟩, ⟨(some 28), none, .load false 1 (.t 27)⟩, ⟨(some 29), none, .bin .neq (.t 28) (.v (.int .i64 (2)))⟩, ⟨none, none, .store 2 (.t 4) (.t 23)⟩, ⟨(some 5), none, .mv (.t 29)⟩] (some ⟨[4,5], [4], []⟩))
  .ret)
  .skip))
  (.seq (.seq (.reg false [⟨(some 30), none, .mv (.t 6)⟩, ⟨(some 31), none, .bin .eql (.t 30) (.v (.int .i64 (0)))⟩, ⟨(some 32), none, .mv (.t 31)⟩, ⟨(some 33), (some (32, false)), .mv (.t 6)⟩, ⟨(some 34), (some (32, false)), .mv (.t 0)⟩, ⟨(some 35), (some (32, false)), .len (.t 34)⟩, ⟨(some 36), (some (32, false)), .bin .eql (.t 33) (.t 35)⟩, ⟨(some 37), none, .pick (.t 32) (.v (.bool true)) (.t 36)⟩] (some ⟨[0,1,4,6,37], [4], []⟩))
  (.cond (.t 37)
  (.seq (.reg false [⟨(some 38), none, .build [(.int .i64 (0)), (.int .i64 (0))] []⟩, ⟨none, none, .store 2 (.t 4) (.t 38)⟩, ⟨(some 5), none, .mv (.v (.bool false))⟩] (some ⟨[4,5], [4], []⟩))
  .ret)
  .skip))
  (.seq (.reg true [⟨(some 39), none, .mv (.t 0)⟩, ⟨(some 40), none, .mv (.t 6)⟩, ⟨(some 41), none, .bin .sub (.t 40) (.v (.int .i64 (1)))⟩, ⟨none, none, .chk (.t 39) none⟩, ⟨(some 42), none, .iadr 3 (.t 39) (.t 41)⟩, ⟨none, none, .chk (.t 42) none⟩, ⟨(some 43), none, .load true 3 (.t 42)⟩, ⟨(some 44), none, .mv (.t 0)⟩, ⟨(some 45), none, .mv (.t 6)⟩, ⟨none, none, .chk (.t 44) none⟩, ⟨(some 46), none, .iadr 3 (.t 44) (.t 45)⟩, ⟨none, none, .chk (.t 46) none⟩, ⟨(some 47), none, .load true 3 (.t 46)⟩, ⟨(some 8), none, .alloc [(.int .i64 (0)), (.int .i64 (0)), (.int .i64 (0))]⟩, ⟨(some 9), none, .alloc [(.int .i64 (0)), (.int .i64 (0)), (.int .i64 (0))]⟩, ⟨none, none, .store 3 (.t 8) (.t 43)⟩, ⟨none, none, .store 3 (.t 9) (.t 47)⟩] (some ⟨[1,4,8,9], [4,8,9], []⟩))
  (.seq (.reg false [⟨(some 48), none, .fadr 0 (.t 9)⟩, ⟨(some 49), none, .load false 1 (.t 48)⟩, ⟨(some 50), none, .fadr 0 (.t 8)⟩, ⟨(some 51), none, .load false 1 (.t 50)⟩, ⟨(some 52), none, .bin .sub (.t 49) (.t 51)⟩, ⟨(some 10), none, .mv (.t 52)⟩] (some ⟨[1,4,8,9,10], [4,8,9], []⟩))
  (.seq (.reg true [⟨(some 53), none, .fadr 1 (.t 8)⟩, ⟨(some 54), none, .load false 1 (.t 53)⟩, ⟨(some 55), none, .mv (.t 10)⟩, ⟨(some 56), none, .bin .mul (.t 54) (.t 55)⟩, ⟨(some 57), none, .fadr 1 (.t 9)⟩, ⟨(some 58), none, .load false 1 (.t 57)⟩, ⟨(some 59), none, .fadr 1 (.t 8)⟩, ⟨(some 60), none, .load false 1 (.t 59)⟩, ⟨(some 61), none, .bin .sub (.t 58) (.t 60)⟩, ⟨(some 62), none, .mv (.t 1)⟩, ⟨(some 63), none, .fadr 0 (.t 8)⟩, ⟨(some 64), none, .load false 1 (.t 63)⟩, ⟨(some 65), none, .bin .sub (.t 62) (.t 64)⟩, ⟨(some 66), none, .bin .mul (.t 61) (.t 65)⟩, ⟨(some 67), none, .bin .add (.t 56) (.t 66)⟩, ⟨(some 68), none, .mv (.t 10)⟩, ⟨(some 69), none, .build [(.int .i64 (0)), (.int .i64 (0))] [(0, 1, (.t 67)), (1, 1, (.t 68))]⟩, ⟨(some 70), none, .fadr 2 (.t 8)⟩, ⟨(some 71), none, .load false 1 (.t 70)⟩, ⟨(some 72), none, .bin .neq (.t 71) (.v (.int .i64 (2)))⟩, ⟨(some 73), none, .mv (.t 72)⟩, ⟨none, (some (73, true)), .chk (.t 9) (some 9)⟩, ⟨(some 74), (some (73, true)), .fadr 2 (.t 9)⟩, ⟨none, (some (73, true)), .chk (.t 74) (some 9)⟩, ⟨(some 75), (some (73, true)), .load false 1 (.t 74)⟩, ⟨(some 76), (some (73, true)), .bin .neq (.t 75) (.v (.int .i64 (2)))⟩, ⟨(some 77), none, .pick (.t 73) (.t 76) (.v (.bool false))⟩, ⟨none, none, .chk (.t 4) (some 4)⟩, ⟨none, none, .store 2 (.t 4) (.t 69)⟩, ⟨(some 5), none, .mv (.t 77)⟩] (some ⟨[4,5], [4], []⟩))
  .ret)))))))
theorem c_rec_ : compileCode Try.prog Try.f137.ntmps (Try.f137.body.getD .skip) A_rec_ = some (C_rec_, []) := by kernel_rfl
theorem r_rec_ : compileRes Try.prog Try.f137.results.toList = some [.cell 4 true 2, .t 5] := by kernel_rfl
theorem b_rec_ : Try.f137.body = some (Try.f137.body.getD .skip) := by kernel_rfl
theorem n_rec_ : (Try.f137.name == "runtime.NumGoroutine") = false := by kernel_rfl
theorem fc_rec_ {xt : Option (List Cel)} {args : List Val} {R : List Cel → Val → Prop} (hn : (if xt.isSome then 1 else 0) + args.length ≤ Try.f137.ntmps) (h : ex Try.prog C_rec_ [] (fpost xt [.cell 4 true 2, .t 5] R) (initSt xt args)) : FC Try.prog 137 xt args R :=
  fc_of_awp Try.func137 b_rec_ n_rec_ c_rec_ r_rec_ (of_decide_eq_true (by kernel_rfl)) hn h

def A_reconstruct : List Ann := [⟨(some ⟨[0,1,4], [4], []⟩), [], [], [], []⟩, ⟨(some ⟨[0,1,4,7], [4], []⟩), [], [], [], []⟩, ⟨(some ⟨[0,1,4,7,13], [4], []⟩), [], [], [], []⟩, ⟨(some ⟨[4,5,6], [4], []⟩), [], [], [], []⟩, ⟨(some ⟨[0,1,4,18], [4], []⟩), [], [], [], []⟩, ⟨(some ⟨[4,5,6], [4], []⟩), [], [], [], []⟩, ⟨(some ⟨[4,8,9], [4,8], []⟩), [], [], [], []⟩, ⟨(some ⟨[4,8,27], [4,8], []⟩), [], [], [], []⟩, ⟨(some ⟨[4,5,6], [4], []⟩), [], [], [], []⟩, ⟨(some ⟨[4,5,6], [4], []⟩), [], [], [], []⟩]
def C_reconstruct : AC := (.seq (.reg false [⟨(some 4), none, .alloc [(.int .i64 (0)), (.int .i64 (0))]⟩, ⟨(some 5), none, .mv (.v (.bool false))⟩, ⟨(some 6), none, .mv (.v (.int .i64 (0)))⟩] (some ⟨[0,1,4], [4], []⟩))
  (.seq (.seq (.reg false [⟨(some 10), none, .mv (.t 0)⟩, ⟨(some 11), none, .call (.f 85) [(.t 10)]⟩, ⟨(some 7), none, .mv (.t 11)⟩] (some ⟨[0,1,4,7], [4], []⟩))
  (.seq (.reg false [⟨(some 12), none, .mv (.t 7)⟩, ⟨(some 13), none, .bin .neq (.t 12) (.v (.int .i64 (0)))⟩] (some ⟨[0,1,4,7,13], [4], []⟩))
  (.cond (.t 13)
  (.seq (.reg false [⟨(some 14), none, .build [(.int .i64 (0)), (.int .i64 (0))] []⟩, ⟨(some 15), none, .mv (.t 7)⟩, ⟨none, none, .store 2 (.t 4) (.t 14)⟩, ⟨(some 5), none, .mv (.v (.bool false))⟩, ⟨(some 6), none, .mv (.t 15)⟩] (some ⟨[4,5,6], [4], []⟩))
  .ret)
  .skip)))
  (.seq (.seq (.reg false [⟨(some 16), none, .mv (.t 1)⟩, ⟨(some 17), none, .call (.f 104) [(.t 16)]⟩, ⟨(some 18), none, .un .not (.t 17)⟩] (some ⟨[0,1,4,18], [4], []⟩))
  (.cond (.t 18)
  (.seq (.reg false [⟨(some 19), none, .build [(.int .i64 (0)), (.int .i64 (0))] []⟩, ⟨none, none, .store 2 (.t 4) (.t 19)⟩, ⟨(some 5), none, .mv (.v (.bool false))⟩, ⟨(some 6), none, .mv (.v (.int .i64 (1)))⟩] (some ⟨[4,5,6], [4], []⟩))
  .ret)
  .skip))
  (.seq (.reg false [⟨(some 21), none, .mv (.t 0)⟩, ⟨(some 22), none, .mv (.t 1)⟩, ⟨(some 23), none, .call (.f 137) [(.t 21), (.t 22)]⟩, ⟨(some 20), none, .mv (.t 23)⟩, ⟨(some 24), none, .extr (.t 20) 0⟩, ⟨(some 25), none, .extr (.t 20) 1⟩, ⟨(some 8), none, .alloc [(.int .i64 (0)), (.int .i64 (0))]⟩, ⟨none, none, .store 2 (.t 8) (.t 24)⟩, ⟨(some 9), none, .mv (.t 25)⟩] (some ⟨[4,8,9], [4,8], []⟩))
  (.seq (.seq (.reg false [⟨(some 26), none, .mv (.t 9)⟩, ⟨(some 27), none, .un .not (.t 26)⟩] (some ⟨[4,8,27], [4,8], []⟩))
  (.cond (.t 27)
  (.seq (.reg false [⟨(some 28), none, .build [(.int .i64 (0)), (.int .i64 (0))] []⟩, ⟨none, none, .store 2 (.t 4) (.t 28)⟩, ⟨(some 5), none, .mv (.v (.bool false))⟩, ⟨(some 6), none, .mv (.v (.int .i64 (0)))⟩] (some ⟨[4,5,6], [4], []⟩))
  .ret)
  .skip))
  (.seq (.reg false [⟨(some 29), none, .fadr 0 (.t 8)⟩, ⟨(some 30), none, .load false 1 (.t 29)⟩, ⟨(some 31), none, .fadr 1 (.t 8)⟩, ⟨(some 32), none, .load false 1 (.t 31)⟩, ⟨(some 33), none, .call (.f 116) [(.t 30), (.t 32)]⟩, ⟨none, none, .store 2 (.t 4) (.t 33)⟩, ⟨(some 5), none, .mv (.v (.bool true))⟩, ⟨(some 6), none, .mv (.v (.int .i64 (0)))⟩] (some ⟨[4,5,6], [4], []⟩))
  .ret))))))
theorem c_reconstruct : compileCode Try.prog Try.f77.ntmps (Try.f77.body.getD .skip) A_reconstruct = some (C_reconstruct, []) := by kernel_rfl
theorem r_reconstruct : compileRes Try.prog Try.f77.results.toList = some [.cell 4 true 2, .t 5, .t 6] := by kernel_rfl
theorem b_reconstruct : Try.f77.body = some (Try.f77.body.getD .skip) := by kernel_rfl
theorem n_reconstruct : (Try.f77.name == "runtime.NumGoroutine") = false := by kernel_rfl
theorem fc_reconstruct {xt : Option (List Cel)} {args : List Val} {R : List Cel → Val → Prop} (hn : (if xt.isSome then 1 else 0) + args.length ≤ Try.f77.ntmps) (h : ex Try.prog C_reconstruct [] (fpost xt [.cell 4 true 2, .t 5, .t 6] R) (initSt xt args)) : FC Try.prog 77 xt args R :=
  fc_of_awp Try.func77 b_reconstruct n_reconstruct c_reconstruct r_reconstruct (of_decide_eq_true (by kernel_rfl)) hn h


def bsgSt (cl : FuncId) (l : List Smp) (at_ : Int) (x : Int × Int) : AS := ⟨tabV [(0, smps false l), (1, iv at_), (2, .one (.fn cl [])), (8, iv l.length), (9, iv x.1), (10, iv x.2)], tabO [], tabO []⟩
theorem bsg_fc (cl : FuncId) (l : List Smp) (at_ : Int) (hg : Good l) (hcl : ∀ x, okSmp x → FC Try.prog cl none [smpV x, iv at_] (fun _ r => r = iv (x.a - at_))) (ha : 0 ≤ at_ ∧ at_ ≤ 345686400000) : FC Try.prog 157 none [smps false l, iv at_, .one (.fn cl [])]
    (fun _ r => r = .tu [iv (pos l at_), bv (decide (pos l at_ < l.length ∧ (l.getD (pos l at_).toNat default).a = at_))]) := by
  have hl := hg.len
  refine fc_bsf (by simp +arith) ?_
  unfold C_bsf
  simp (maxSteps := 1000000) (disch := omega) only [go_sem, eq_self, decide_true, decide_false, not_true_eq_false, not_false_eq_true, reduceIte, reduceCtorEq, Nat.reduceEqDiff, Nat.reduceAdd, Nat.reduceSub, Nat.reduceLeDiff]
  refine ex_loopI (bsgSt cl l at_) (fun x => 0 ≤ x.1 ∧ x.1 ≤ x.2 ∧ x.2 ≤ l.length ∧ (∀ j : Nat, j < x.1 → (l.getD j default).a < at_) ∧ (∀ j : Nat, x.2 ≤ j → j < l.length → at_ ≤ (l.getD j default).a)) (fun x => (x.2 - x.1).toNat) (0, l.length) ⟨by simp, by simp, by simp, fun j hj => by simp at hj; omega, fun j hj hj2 => by simp at hj; omega⟩ rfl ?_
  rintro ⟨i, j⟩ ⟨g1, g2, g3, g4, g5⟩
  simp only at g1 g2 g3 g4 g5
  unfold bsgSt
  simp (maxSteps := 1000000) (disch := omega) only [go_sem, eq_self, decide_true, decide_false, not_true_eq_false, not_false_eq_true, reduceIte, reduceCtorEq, Nat.reduceEqDiff, Nat.reduceAdd, Nat.reduceSub, Nat.reduceLeDiff]
  have eh : IntKind.i64.wrap ((i + j).fdiv (2 ^ min (Int.toNat 1) 64)) = (i + j) / 2 := by
    have : (i + j).fdiv (2 ^ min (Int.toNat 1) 64) = (i + j) / 2 := Int.fdiv_eq_ediv_of_nonneg _ (by decide)
    rw [this, wrap_i64 _ (by omega) (by omega)]
  simp only [eh]
  refine ⟨fun hij => ?_, fun hij => ?_⟩
  · have hb : ((i + j) / 2).toNat < l.length := by omega
    have hok := hg.ok _ hb
    rw [getD_map_in smpC l ((i + j) / 2).toNat [] hb]
    simp (maxSteps := 1000000) (disch := omega) only [go_sem, eq_self, decide_true, decide_false, not_true_eq_false, not_false_eq_true, reduceIte, reduceCtorEq, Nat.reduceEqDiff, Nat.reduceAdd, Nat.reduceSub, Nat.reduceLeDiff]
    refine CALL_det (hcl _ hok) (.inl rfl) ?_
    unfold okSmp at hok
    simp (maxSteps := 1000000) (disch := omega) only [go_sem, eq_self, decide_true, decide_false, not_true_eq_false, not_false_eq_true, reduceIte, reduceCtorEq, Nat.reduceEqDiff, Nat.reduceAdd, Nat.reduceSub, Nat.reduceLeDiff]
    refine ⟨fun h => ⟨((i + j) / 2 + 1, j), ⟨by simp only; omega, by simp only; omega, g3, fun m hm => ?_, g5⟩, rfl, by simp only; omega⟩, fun h => ⟨(i, (i + j) / 2), ⟨g1, by simp only; omega, by simp only; omega, g4, fun m hm hm2 => ?_⟩, rfl, by simp only; omega⟩⟩
    · simp only at hm
      have := hg.le m ((i + j) / 2).toNat (by omega) hb
      omega
    · simp only at hm
      have := hg.le ((i + j) / 2).toNat m (by omega) hm2
      omega
  · have hij' : i = j := by omega
    subst hij'
    refine ⟨fun h => ?_, fun h => ?_⟩
    · have hok := hg.ok i.toNat (by omega)
      rw [getD_map_in smpC l i.toNat [] (by omega)]
      simp (maxSteps := 1000000) (disch := omega) only [go_sem, eq_self, decide_true, decide_false, not_true_eq_false, not_false_eq_true, reduceIte, reduceCtorEq, Nat.reduceEqDiff, Nat.reduceAdd, Nat.reduceSub, Nat.reduceLeDiff]
      refine CALL_det (hcl _ hok) (.inl rfl) ?_
      simp (maxSteps := 1000000) (disch := omega) only [go_sem, eq_self, decide_true, decide_false, not_true_eq_false, not_false_eq_true, reduceIte, reduceCtorEq, Nat.reduceEqDiff, Nat.reduceAdd, Nat.reduceSub, Nat.reduceLeDiff]
      rw [← pos_eq g1 g3 g4 g5]
      exact tu2_congr rfl (bv_dec (by omega))
    · rw [← pos_eq g1 g3 g4 g5]
      exact tu2_congr rfl (bv_f (by omega))
theorem recClos_fc (x : Smp) (at_ : Int) (h : okSmp x) (ha : 0 ≤ at_ ∧ at_ ≤ 345686400000) : FC Try.prog 175 none [smpV x, iv at_] (fun _ r => r = iv (x.a - at_)) := by
  refine fc_recClos (by simp +arith) ?_
  unfold okSmp at h
  unfold C_recClos
  simp (maxSteps := 1000000) (disch := omega) only [go_sem, eq_self, decide_true, decide_false, not_true_eq_false, not_false_eq_true, reduceIte, reduceCtorEq, Nat.reduceEqDiff, Nat.reduceAdd, Nat.reduceSub, Nat.reduceLeDiff]
/-- The value at a moment, not in lowest terms; false: there is none. -/
def recSp (l : List Smp) (at_ : Int) : (Int × Int) × Bool :=
  if pos l at_ < l.length ∧ (l.getD (pos l at_).toNat default).a = at_ then (((l.getD (pos l at_).toNat default).v, 1), decide ((l.getD (pos l at_).toNat default).q ≠ 2))
  else if pos l at_ = 0 ∨ pos l at_ = l.length then ((0, 0), false)
  else ((lineN (l.getD (pos l at_ - 1).toNat default) (l.getD (pos l at_).toNat default) at_, (l.getD (pos l at_).toNat default).a - (l.getD (pos l at_ - 1).toNat default).a), decide ((l.getD (pos l at_ - 1).toNat default).q ≠ 2) && decide ((l.getD (pos l at_).toNat default).q ≠ 2))
theorem rec_fc (l : List Smp) (at_ : Int) (hg : Good l) (ha : 0 ≤ at_ ∧ at_ ≤ 345686400000) : FC Try.prog 137 none [smps false l, iv at_] (fun _ r => r = .tu [.ag [.g (.int .i64 (recSp l at_).1.1), .g (.int .i64 (recSp l at_).1.2)], bv (recSp l at_).2]) := by
  refine fc_rec_ (by simp +arith) ?_
  have hl := hg.len
  have hp := pos_bd hg at_
  unfold C_rec_
  simp (maxSteps := 1000000) (disch := omega) only [go_sem, eq_self, decide_true, decide_false, not_true_eq_false, not_false_eq_true, reduceIte, reduceCtorEq, Nat.reduceEqDiff, Nat.reduceAdd, Nat.reduceSub, Nat.reduceLeDiff]
  refine CALL_det (bsg_fc _ l at_ hg (fun x hx => recClos_fc x at_ hx ha) ha) (.inl rfl) ?_
  unfold recSp
  by_cases h1 : pos l at_ < l.length ∧ (l.getD (pos l at_).toNat default).a = at_
  · have e1 : (l.map smpC).getD (pos l at_).toNat [] = smpC (l.getD (pos l at_).toNat default) := getD_map_in _ _ _ _ (by omega)
    rw [if_pos h1, decide_eq_true h1]
    simp (maxSteps := 1000000) (disch := omega) only [go_sem, eq_self, decide_true, decide_false, not_true_eq_false, not_false_eq_true, reduceIte, reduceCtorEq, Nat.reduceEqDiff, Nat.reduceAdd, Nat.reduceSub, Nat.reduceLeDiff]
  · rw [if_neg h1, decide_eq_false h1]
    by_cases h2 : pos l at_ = 0
    · rw [if_pos (.inl h2)]
      simp (maxSteps := 1000000) (disch := omega) only [go_sem, eq_self, decide_true, decide_false, not_true_eq_false, not_false_eq_true, reduceIte, reduceCtorEq, Nat.reduceEqDiff, Nat.reduceAdd, Nat.reduceSub, Nat.reduceLeDiff]
    · by_cases h3 : pos l at_ = l.length
      · rw [if_pos (.inr h3)]
        simp (maxSteps := 1000000) (disch := omega) only [go_sem, eq_self, decide_true, decide_false, not_true_eq_false, not_false_eq_true, reduceIte, reduceCtorEq, Nat.reduceEqDiff, Nat.reduceAdd, Nat.reduceSub, Nat.reduceLeDiff]
      · rw [if_neg (by omega)]
        have hoa := hg.ok (pos l at_ - 1).toNat (by omega)
        have hob := hg.ok (pos l at_).toNat (by omega)
        have hup := hg.up (pos l at_ - 1).toNat (pos l at_).toNat (by omega) (by omega)
        have hb := lineN_bd hoa hob ha
        have e1 : (l.map smpC).getD (pos l at_ - 1).toNat [] = smpC (l.getD (pos l at_ - 1).toNat default) := getD_map_in _ _ _ _ (by omega)
        have e2 : (l.map smpC).getD (pos l at_).toNat [] = smpC (l.getD (pos l at_).toNat default) := getD_map_in _ _ _ _ (by omega)
        have hN : lineN (l.getD (pos l at_ - 1).toNat default) (l.getD (pos l at_).toNat default) at_ = (l.getD (pos l at_ - 1).toNat default).v * ((l.getD (pos l at_).toNat default).a - (l.getD (pos l at_ - 1).toNat default).a) + ((l.getD (pos l at_).toNat default).v - (l.getD (pos l at_ - 1).toNat default).v) * (at_ - (l.getD (pos l at_ - 1).toNat default).a) := rfl
        rw [hN]
        unfold okSmp at hoa hob
        by_cases h4 : (l.getD (pos l at_ - 1).toNat default).q = 2
        · rw [decide_eq_false (show ¬((l.getD (pos l at_ - 1).toNat default).q ≠ 2) from fun h => h h4), Bool.false_and]
          simp (maxSteps := 1000000) (disch := omega) only [go_sem, eq_self, decide_true, decide_false, not_true_eq_false, not_false_eq_true, reduceIte, reduceCtorEq, Nat.reduceEqDiff, Nat.reduceAdd, Nat.reduceSub, Nat.reduceLeDiff]
        · rw [decide_eq_true (show (l.getD (pos l at_ - 1).toNat default).q ≠ 2 from h4), Bool.true_and]
          simp (maxSteps := 1000000) (disch := omega) only [go_sem, eq_self, decide_true, decide_false, not_true_eq_false, not_false_eq_true, reduceIte, reduceCtorEq, Nat.reduceEqDiff, Nat.reduceAdd, Nat.reduceSub, Nat.reduceLeDiff]
def recoSp (l : List Smp) (at_ : Int) : (Int × Int) × Bool × Int :=
  if serFault l ≠ 0 then ((0, 0), false, serFault l) else if ¬(0 ≤ at_ ∧ at_ ≤ 345686399999) then ((0, 0), false, 1) else if (recSp l at_).2 = false then ((0, 0), false, 0) else ((lowN (recSp l at_).1.1 (recSp l at_).1.2, lowD (recSp l at_).1.1 (recSp l at_).1.2), true, 0)
theorem recSp_bd {l : List Smp} (hg : Good l) {at_ : Int} (ha : 0 ≤ at_ ∧ at_ ≤ 345686400000) (h : (recSp l at_).2 = true) : (-2000000000000000000 ≤ (recSp l at_).1.1 ∧ (recSp l at_).1.1 ≤ 2000000000000000000) ∧ 1 ≤ (recSp l at_).1.2 ∧ (recSp l at_).1.2 ≤ 345686400000 := by
  have hp := pos_bd hg at_
  unfold recSp at h ⊢
  by_cases h1 : pos l at_ < l.length ∧ (l.getD (pos l at_).toNat default).a = at_
  · have := hg.ok (pos l at_).toNat (by omega)
    unfold okSmp at this
    rw [if_pos h1]; simp only; omega
  · rw [if_neg h1] at h ⊢
    by_cases h2 : pos l at_ = 0 ∨ pos l at_ = l.length
    · rw [if_pos h2] at h; cases h
    · rw [if_neg h2] at h ⊢
      have hoa := hg.ok (pos l at_ - 1).toNat (by omega)
      have hob := hg.ok (pos l at_).toNat (by omega)
      have hup := hg.up (pos l at_ - 1).toNat (pos l at_).toNat (by omega) (by omega)
      have hb := lineN_bd hoa hob ha
      unfold okSmp at hoa hob
      simp only [lineN]; omega
theorem reconstruct_fc (l : List Smp) (hl : l.length ≤ 4611686018427387904) (at_ : Int) : FC Try.prog 77 none [smps false l, iv at_] (fun _ r => r = .tu [.ag [.g (.int .i64 (recoSp l at_).1.1), .g (.int .i64 (recoSp l at_).1.2)], bv (recoSp l at_).2.1, iv (recoSp l at_).2.2]) := by
  refine fc_reconstruct (by simp +arith) ?_
  unfold C_reconstruct recoSp
  simp (maxSteps := 1000000) (disch := omega) only [go_sem, eq_self, decide_true, decide_false, not_true_eq_false, not_false_eq_true, reduceIte, reduceCtorEq, Nat.reduceEqDiff, Nat.reduceAdd, Nat.reduceSub, Nat.reduceLeDiff]
  refine CALL_det (checkSeries_fc l hl) (.inl rfl) ?_
  by_cases h1 : serFault l = 0
  · have hg := good_of h1
    rw [if_neg (by omega)]
    simp (maxSteps := 1000000) (disch := omega) only [go_sem, eq_self, decide_true, decide_false, not_true_eq_false, not_false_eq_true, reduceIte, reduceCtorEq, Nat.reduceEqDiff, Nat.reduceAdd, Nat.reduceSub, Nat.reduceLeDiff]
    refine CALL_det (moment_fc _) (.inl rfl) ?_
    by_cases h2 : 0 ≤ at_ ∧ at_ ≤ 345686399999
    · rw [if_neg (by omega), decide_eq_true h2]
      simp (maxSteps := 1000000) (disch := omega) only [go_sem, eq_self, decide_true, decide_false, not_true_eq_false, not_false_eq_true, reduceIte, reduceCtorEq, Nat.reduceEqDiff, Nat.reduceAdd, Nat.reduceSub, Nat.reduceLeDiff]
      refine CALL_det (rec_fc l at_ hg (by omega)) (.inl rfl) ?_
      have hb := recSp_bd hg (at_ := at_) (by omega)
      generalize recSp l at_ = x at *
      obtain ⟨⟨n, d⟩, b⟩ := x
      cases b with
      | false => simp (maxSteps := 1000000) (disch := omega) only [go_sem, eq_self, decide_true, decide_false, not_true_eq_false, not_false_eq_true, reduceIte, reduceCtorEq, Nat.reduceEqDiff, Nat.reduceAdd, Nat.reduceSub, Nat.reduceLeDiff]
      | true =>
        obtain ⟨hb1, hb2, hb3⟩ := hb rfl
        simp only at hb1 hb2 hb3
        simp (maxSteps := 1000000) (disch := omega) only [go_sem, eq_self, decide_true, decide_false, not_true_eq_false, not_false_eq_true, reduceIte, reduceCtorEq, Nat.reduceEqDiff, Nat.reduceAdd, Nat.reduceSub, Nat.reduceLeDiff]
        refine CALL_det (fraction_fc n d (by omega) (by omega) (by omega)) (.inl rfl) ?_
        simp (maxSteps := 1000000) (disch := omega) only [go_sem, eq_self, decide_true, decide_false, not_true_eq_false, not_false_eq_true, reduceIte, reduceCtorEq, Nat.reduceEqDiff, Nat.reduceAdd, Nat.reduceSub, Nat.reduceLeDiff]
    · rw [if_pos (by omega), decide_eq_false h2]
      simp (maxSteps := 1000000) (disch := omega) only [go_sem, eq_self, decide_true, decide_false, not_true_eq_false, not_false_eq_true, reduceIte, reduceCtorEq, Nat.reduceEqDiff, Nat.reduceAdd, Nat.reduceSub, Nat.reduceLeDiff]
  · rw [if_pos h1]
    simp (maxSteps := 1000000) (disch := omega) only [go_sem, eq_self, decide_true, decide_false, not_true_eq_false, not_false_eq_true, reduceIte, reduceCtorEq, Nat.reduceEqDiff, Nat.reduceAdd, Nat.reduceSub, Nat.reduceLeDiff]
end Go.Proofs.Ytggbcgldnjmobaa
