
/-
  CompressStays' function: what a compressor, Keep and Steps hand back is new memory.
-/
import Derived.Test.YtggbcgldnjmobaaRws
import Derived.Test.YtggbcgldnjmobaaKep
import Derived.Test.YtggbcgldnjmobaaStpb
import Derived.Test.YtggbcgldnjmobaaStl
import Derived.Test.YtggbcgldnjmobaaRdy
namespace Go.Proofs.Ytggbcgldnjmobaa
open Go Go.Ai
set_option linter.unusedSimpArgs false
set_option linter.unusedVariables false
set_option maxHeartbeats 4000000
def A_cs : List Ann := [⟨(some ⟨[0,602], [], []⟩), [], [], [], []⟩, ⟨(some ⟨[3,4,21,24,602], [21,24], []⟩), [], [], [], []⟩, ⟨(some ⟨[3,4,5,6,21,24,602], [21,24], []⟩), [], [], [], []⟩, ⟨(some ⟨[5,6,7,8,602], [], []⟩), [], [], [], []⟩, ⟨(some ⟨[5,6,7,8,38,602], [], []⟩), [], [], [], []⟩, ⟨(some ⟨[2], [], []⟩), [], [], [], []⟩, ⟨(some ⟨[5,6,7,8,9,10,602], [], [600]⟩), [], [], [], [(43, ⟨[], [], [], [600], []⟩)]⟩, ⟨(some ⟨[5,6,7,8,9,10,11,12,602], [], [600,601]⟩), [], [], [], [(48, ⟨[], [], [], [601], []⟩)]⟩, ⟨(some ⟨[5,6,7,8,9,10,11,12,13,14,602], [602], [600,601]⟩), [], [], [], [(53, ⟨[], [], [602], [], []⟩)]⟩, ⟨(some ⟨[5,6,7,8,9,11,13,69,602], [602], [600,601]⟩), [], [], [], []⟩, ⟨(some ⟨[2], [], []⟩), [], [], [], []⟩, ⟨(some ⟨[5,6,7,8,9,11,13,70,71,72,602], [602], [600,601]⟩), [], [], [], []⟩, ⟨(some ⟨[5,6,7,8,9,11,13,70,71,72,73,602], [602], [600,601]⟩), [], [], [], []⟩, ⟨(some ⟨[5,6,7,8,9,11,13,16,70,71,72,602], [16,602], [600,601]⟩), [], [], [], []⟩, ⟨(some ⟨[5,6,7,8,9,11,13,17,18,70,71,72,602], [602], [600,601,603]⟩), [], [], [], [(79, ⟨[602], [], [602], [603], []⟩)]⟩, ⟨(some ⟨[5,6,7,8,9,11,13,17,70,71,72,83,602], [602], [600,601,603]⟩), [], [], [], []⟩, ⟨(some ⟨[2], [], []⟩), [], [], [], []⟩, ⟨(some ⟨[5,6,7,8,9,11,13,70,71,72,602], [602], [600,601]⟩), [], [], [], [(85, ⟨[], [603], [], [603], []⟩)]⟩, ⟨(some ⟨[5,6,7,8,9,11,13,70,71,72,602], [602], [600,601]⟩), [], [], [], []⟩, ⟨(some ⟨[5,6,7,8,9,11], [], [600,601]⟩), [], [], [], [(88, ⟨[602], [], [602], [604], []⟩), (89, ⟨[], [604], [], [604], []⟩)]⟩, ⟨(some ⟨[5,6,7,8,11], [], [601]⟩), [], [], [], [(91, ⟨[], [600], [], [600], []⟩)]⟩, ⟨(some ⟨[5,6,7,8], [], []⟩), [], [], [], [(93, ⟨[], [601], [], [601], []⟩)]⟩, ⟨(some ⟨[2], [], []⟩), [], [], [], []⟩]
def C_cs : AC := (.seq (.reg false [⟨(some 2), none, .mv (.v (.bool false))⟩] (some ⟨[0,602], [], []⟩))
  (.seq (.reg false [⟨(some 19), none, .mv (.t 0)⟩, ⟨(some 20), none, .build [(.slice none 0 0), (.int .i64 (0))] [(0, 1, (.t 19))]⟩, ⟨(some 21), none, .box (.t 20)⟩, ⟨(some 22), none, .mv (.t 0)⟩, ⟨(some 23), none, .build [(.slice none 0 0), (.int .i64 (0))] [(0, 1, (.t 22))]⟩, ⟨(some 24), none, .box (.t 23)⟩, ⟨(some 3), none, .mv (.t 21)⟩, ⟨(some 4), none, .mv (.t 24)⟩] (some ⟨[3,4,21,24,602], [21,24], []⟩))
  (.seq (.reg false [⟨(some 25), none, .mv (.t 3)⟩, ⟨(some 26), none, .callx (.f 38) [(.t 25), (.v (.int .i64 (10)))]⟩, ⟨(some 27), none, .mv (.t 4)⟩, ⟨(some 28), none, .callx (.f 38) [(.t 27), (.v (.int .i64 (10)))]⟩, ⟨(some 5), none, .mv (.t 26)⟩, ⟨(some 6), none, .mv (.t 28)⟩] (some ⟨[3,4,5,6,21,24,602], [21,24], []⟩))
  (.seq (.reg false [⟨(some 29), none, .mv (.t 3)⟩, ⟨(some 30), none, .mv (.t 5)⟩, ⟨(some 31), none, .callx (.f 26) [(.t 29), (.t 30)]⟩, ⟨(some 32), none, .mv (.t 4)⟩, ⟨(some 33), none, .mv (.t 6)⟩, ⟨(some 34), none, .callx (.f 26) [(.t 32), (.t 33)]⟩, ⟨(some 7), none, .mv (.t 31)⟩, ⟨(some 8), none, .mv (.t 34)⟩] (some ⟨[5,6,7,8,602], [], []⟩))
  (.seq (.seq (.reg false [⟨(some 35), none, .mv (.t 6)⟩, ⟨(some 36), none, .mv (.t 8)⟩, ⟨(some 37), none, .call (.f 35) [(.t 35), (.t 36)]⟩, ⟨(some 38), none, .bin .neq (.t 37) (.v (.int .i64 (0)))⟩] (some ⟨[5,6,7,8,38,602], [], []⟩))
  (.cond (.t 38)
  (.seq (.reg false [⟨(some 39), none, .call (.f 42) []⟩, ⟨(some 2), none, .mv (.t 39)⟩] (some ⟨[2], [], []⟩))
  .ret)
  .skip))
  (.seq (.reg false [⟨(some 41), none, .mv (.t 5)⟩, ⟨(some 42), none, .mv (.t 7)⟩, ⟨(some 43), none, .callm (.f 50) [(.t 41), (.t 42)] ⟨[], [], [], [600], []⟩⟩, ⟨(some 40), none, .mv (.t 43)⟩, ⟨(some 44), none, .extr (.t 40) 0⟩, ⟨(some 45), none, .extr (.t 40) 1⟩, ⟨(some 9), none, .mv (.t 44)⟩, ⟨(some 10), none, .mv (.t 45)⟩] (some ⟨[5,6,7,8,9,10,602], [], [600]⟩))
  (.seq (.reg false [⟨(some 47), none, .mv (.t 5)⟩, ⟨(some 48), none, .callm (.f 32) [(.t 47)] ⟨[], [], [], [601], []⟩⟩, ⟨(some 46), none, .mv (.t 48)⟩, ⟨(some 49), none, .extr (.t 46) 0⟩, ⟨(some 50), none, .extr (.t 46) 1⟩, ⟨(some 11), none, .mv (.t 49)⟩, ⟨(some 12), none, .mv (.t 50)⟩] (some ⟨[5,6,7,8,9,10,11,12,602], [], [600,601]⟩))
  (.seq (.reg false [⟨(some 52), none, .build [(.int .i64 (0)), (.int .i64 (0))] [(0, 1, (.v (.int .i64 (1)))), (1, 1, (.v (.int .i64 (1000))))]⟩, ⟨(some 53), none, .callm (.f 16) [(.t 52)] ⟨[], [], [602], [], []⟩⟩, ⟨(some 51), none, .mv (.t 53)⟩, ⟨(some 54), none, .extr (.t 51) 0⟩, ⟨(some 55), none, .extr (.t 51) 1⟩, ⟨(some 13), none, .mv (.t 54)⟩, ⟨(some 14), none, .mv (.t 55)⟩] (some ⟨[5,6,7,8,9,10,11,12,13,14,602], [602], [600,601]⟩))
  (.seq (.seq (.reg false [⟨(some 56), none, .mv (.t 10)⟩, ⟨(some 57), none, .bin .neq (.t 56) (.v (.int .i64 (0)))⟩, ⟨(some 58), none, .mv (.t 57)⟩, ⟨(some 59), (some (58, false)), .mv (.t 12)⟩, ⟨(some 60), (some (58, false)), .bin .neq (.t 59) (.v (.int .i64 (0)))⟩, ⟨(some 61), none, .pick (.t 58) (.v (.bool true)) (.t 60)⟩, ⟨(some 62), none, .mv (.t 61)⟩, ⟨(some 63), (some (62, false)), .mv (.t 14)⟩, ⟨(some 64), (some (62, false)), .bin .neq (.t 63) (.v (.int .i64 (0)))⟩, ⟨(some 65), none, .pick (.t 62) (.v (.bool true)) (.t 64)⟩, ⟨(some 66), none, .mv (.t 65)⟩, ⟨(some 67), (some (66, false)), .mv (.t 13)⟩, ⟨(some 68), (some (66, false)), .eqs false false [.np] (.t 67) (.v (.pointer none))⟩, ⟨(some 69), none, .pick (.t 66) (.v (.bool true)) (.t 68)⟩] (some ⟨[5,6,7,8,9,11,13,69,602], [602], [600,601]⟩))
  (.cond (.t 69)
  (.seq (.reg false [⟨(some 2), none, .mv (.v (.bool false))⟩] (some ⟨[2], [], []⟩))
  .ret)
  .skip))
  (.seq (.seq (.reg false [⟨(some 70), none, .mv (.t 5)⟩, ⟨(some 71), none, .len (.t 70)⟩, ⟨(some 72), none, .mv (.v (.int .i64 (0)))⟩] (some ⟨[5,6,7,8,9,11,13,70,71,72,602], [602], [600,601]⟩))
  (.block 0 (.loop (.seq (.reg false [⟨(some 73), none, .bin .lss (.t 72) (.t 71)⟩] (some ⟨[5,6,7,8,9,11,13,70,71,72,73,602], [602], [600,601]⟩))
  (.seq (.cond (.t 73)
  .skip
  (.exit 0))
  (.seq (.block 1 (.seq (.reg false [⟨(some 74), none, .iadr 3 (.t 70) (.t 72)⟩, ⟨(some 75), none, .load true 3 (.t 74)⟩, ⟨(some 16), none, .alloc [(.int .i64 (0)), (.int .i64 (0)), (.int .i64 (0))]⟩, ⟨none, none, .store 3 (.t 16) (.t 75)⟩] (some ⟨[5,6,7,8,9,11,13,16,70,71,72,602], [16,602], [600,601]⟩))
  (.seq (.reg false [⟨(some 77), none, .mv (.t 13)⟩, ⟨(some 78), none, .load true 3 (.t 16)⟩, ⟨(some 79), none, .callm (.f 19) [(.t 77), (.t 78)] ⟨[602], [], [602], [603], []⟩⟩, ⟨(some 76), none, .mv (.t 79)⟩, ⟨(some 80), none, .extr (.t 76) 0⟩, ⟨(some 81), none, .extr (.t 76) 1⟩, ⟨(some 17), none, .mv (.t 80)⟩, ⟨(some 18), none, .mv (.t 81)⟩] (some ⟨[5,6,7,8,9,11,13,17,18,70,71,72,602], [602], [600,601,603]⟩))
  (.seq (.seq (.reg false [⟨(some 82), none, .mv (.t 18)⟩, ⟨(some 83), none, .bin .neq (.t 82) (.v (.int .i64 (0)))⟩] (some ⟨[5,6,7,8,9,11,13,17,70,71,72,83,602], [602], [600,601,603]⟩))
  (.cond (.t 83)
  (.seq (.reg false [⟨(some 2), none, .mv (.v (.bool false))⟩] (some ⟨[2], [], []⟩))
  .ret)
  .skip))
  (.reg false [⟨(some 84), none, .mv (.t 17)⟩, ⟨(some 85), none, .callm (.f 51) [(.t 84)] ⟨[], [603], [], [603], []⟩⟩] (some ⟨[5,6,7,8,9,11,13,70,71,72,602], [602], [600,601]⟩))))))
  (.reg false [⟨(some 86), none, .bin .add (.t 72) (.v (.int .i64 (1)))⟩, ⟨(some 72), none, .mv (.t 86)⟩] (some ⟨[5,6,7,8,9,11,13,70,71,72,602], [602], [600,601]⟩))))))))
  (.seq (.reg false [⟨(some 87), none, .mv (.t 13)⟩, ⟨(some 88), none, .callm (.f 22) [(.t 87)] ⟨[602], [], [602], [604], []⟩⟩, ⟨(some 89), none, .callm (.f 51) [(.t 88)] ⟨[], [604], [], [604], []⟩⟩] (some ⟨[5,6,7,8,9,11], [], [600,601]⟩))
  (.seq (.reg false [⟨(some 90), none, .mv (.t 9)⟩, ⟨(some 91), none, .callm (.f 51) [(.t 90)] ⟨[], [600], [], [600], []⟩⟩] (some ⟨[5,6,7,8,11], [], [601]⟩))
  (.seq (.reg false [⟨(some 92), none, .mv (.t 11)⟩, ⟨(some 93), none, .callm (.f 52) [(.t 92)] ⟨[], [601], [], [601], []⟩⟩] (some ⟨[5,6,7,8], [], []⟩))
  (.seq (.reg false [⟨(some 94), none, .mv (.t 5)⟩, ⟨(some 95), none, .mv (.t 6)⟩, ⟨(some 96), none, .call (.f 23) [(.t 94), (.t 95)]⟩, ⟨(some 97), none, .mv (.t 96)⟩, ⟨(some 98), (some (97, true)), .mv (.t 7)⟩, ⟨(some 99), (some (97, true)), .mv (.t 8)⟩, ⟨(some 100), (some (97, true)), .call (.f 33) [(.t 98), (.t 99)]⟩, ⟨(some 101), none, .pick (.t 97) (.t 100) (.v (.bool false))⟩, ⟨(some 102), none, .mv (.t 101)⟩, ⟨(some 103), (some (102, true)), .call (.f 42) []⟩, ⟨(some 104), none, .pick (.t 102) (.t 103) (.v (.bool false))⟩, ⟨(some 2), none, .mv (.t 104)⟩] (some ⟨[2], [], []⟩))
  .ret))))))))))))))
theorem c_cs : compileCode Try.prog Try.f7.ntmps (Try.f7.body.getD .skip) A_cs = some (C_cs, []) := by kernel_rfl
theorem r_cs : compileRes Try.prog Try.f7.results.toList = some [.t 2] := by kernel_rfl
theorem b_cs : Try.f7.body = some (Try.f7.body.getD .skip) := by kernel_rfl
theorem n_cs : (Try.f7.name == "runtime.NumGoroutine") = false := by kernel_rfl
theorem fc_cs {xt : Option (List Cel)} {args : List Val} {R : List Cel → Val → Prop} (hn : (if xt.isSome then 1 else 0) + args.length ≤ Try.f7.ntmps) (h : ex Try.prog C_cs [] (fpost xt [.t 2] R) (initSt xt args)) : FC Try.prog 7 xt args R :=
  fc_of_awp Try.func7 b_cs n_cs c_cs r_cs (of_decide_eq_true (by kernel_rfl)) hn h
theorem fcm_cs {H : Hp} {K : Keep} {args : List Val} {R : Hp → Val → Prop} (hn : args.length ≤ Try.f7.ntmps) (hkb : ∀ p ∈ H.bs, p.1 = 0 ∨ XK ≤ p.1) (hkr : ∀ p ∈ H.rs, XK ≤ p.1) (h : ex Try.prog C_cs [] (mpost H K [.t 2] R) (initM H args)) : FCM Try.prog 7 H args R :=
  fcm_of_awp Try.func7 b_cs n_cs c_cs r_cs (of_decide_eq_true (by kernel_rfl)) hn hkb hkr h
theorem fcms_cs {S : List Nat} {H : Hp} {K : Keep} {args : List Val} {R : Hp → Val → Prop} (hn : args.length ≤ Try.f7.ntmps) (hkb : ∀ p ∈ H.bs, p.1 = 0 ∨ XK ≤ p.1) (hkr : ∀ p ∈ H.rs, XK ≤ p.1) (h : ex Try.prog C_cs [] (mpostS S H K [.t 2] R) (initM H args))   : FCMS Try.prog 7 S H args R :=
  fcms_of_awp Try.func7 b_cs n_cs c_cs r_cs (of_decide_eq_true (by kernel_rfl)) hn hkb hkr h


theorem serGo_all : ∀ (l : List Smp) (p : Option Smp), serGo p l = 0 → ∀ x ∈ l, smpFault x = 0
  | [], _, _, x, hx => by cases hx
  | y :: r, p, h, x, hx => by
    obtain ⟨k1, _, k3⟩ := serGo_c.1 h
    simp only [List.mem_cons] at hx
    rcases hx with rfl | hx
    · exact k1
    · exact serGo_all r _ k3 x hx
section
variable {s : AS} {x : Sc} {o : Option Int}
theorem sc_pass {m : CAnn} : (scC x o).map (s.passC m) = scC x o := by cases o <;> rfl
end
attribute [go_sem] sc_pass
theorem addS_len (x : Sc) (s : Smp) : (addS x s).2.length ≤ 5 := by
  unfold addS keepS
  (repeat' split) <;> simp
theorem fluS_len (x : Sc) : (fluS x).2.length ≤ 5 := by
  unfold fluS
  simp only
  split <;> simp
def cmsSt (l : List Smp) (kept : List Int) (xx : List Smp) (tt : List Int) (i n : Int) : AS :=
  ⟨tabV [(5, smps true l), (6, smps true l), (7, ints true kept), (8, ints true kept), (9, .one (.ow 600 0)), (11, .one (.ow 601 0)), (13, .one (.bx 602 0)), (70, smps true l), (71, iv l.length), (72, iv i), (602, .any)],
   tabO [(602, scC (runN 1 1000 l i.toNat).1 (some n))], tabO [(600, smpRow xx), (601, intRow tt)]⟩
theorem cs_fc (L : List Int) (hL : ∀ x ∈ L, I64 x) (hl : L.length ≤ 9223372036854775807) : FC Try.prog 7 none [ints false L] (fun _ r => r = bv true) := by
  obtain ⟨⟨pa, ra⟩, ⟨hpa, hpb, l, hs, hll, hra⟩, hf⟩ := rightCurve_det 10 (by omega) (by omega) L 0 hL hl (by omega) (by omega)
  simp only at hra hf hpa hpb
  subst hra
  have hg := good_of hs
  have hlen := hg.len
  obtain ⟨⟨pk, rk⟩, ⟨hka, hkb, kept, hkl, hk64, hrk⟩, hk⟩ := keptList_det l (by omega) L pa hL hl (by omega) (by omega)
  simp only at hrk hk
  subst hrk
  refine fc_cs (by simp +arith) ?_
  unfold C_cs
  simp (maxSteps := 1000000) (disch := omega) only [go_sem, eq_self, decide_true, decide_false, not_true_eq_false, not_false_eq_true, reduceIte, reduceCtorEq, Nat.reduceEqDiff, Nat.reduceAdd, Nat.reduceSub, Nat.reduceLeDiff]
  refine CALLX_det hf rfl rfl ?_
  unfold strm
  simp (maxSteps := 1000000) (disch := omega) only [go_sem, eq_self, decide_true, decide_false, not_true_eq_false, not_false_eq_true, reduceIte, reduceCtorEq, Nat.reduceEqDiff, Nat.reduceAdd, Nat.reduceSub, Nat.reduceLeDiff]
  refine CALLX_det hf rfl rfl ?_
  unfold strm
  simp (maxSteps := 1000000) (disch := omega) only [go_sem, eq_self, decide_true, decide_false, not_true_eq_false, not_false_eq_true, reduceIte, reduceCtorEq, Nat.reduceEqDiff, Nat.reduceAdd, Nat.reduceSub, Nat.reduceLeDiff]
  refine CALLX_det hk rfl rfl ?_
  unfold strm
  simp (maxSteps := 1000000) (disch := omega) only [go_sem, eq_self, decide_true, decide_false, not_true_eq_false, not_false_eq_true, reduceIte, reduceCtorEq, Nat.reduceEqDiff, Nat.reduceAdd, Nat.reduceSub, Nat.reduceLeDiff]
  refine CALLX_det hk rfl rfl ?_
  unfold strm
  simp (maxSteps := 1000000) (disch := omega) only [go_sem, eq_self, decide_true, decide_false, not_true_eq_false, not_false_eq_true, reduceIte, reduceCtorEq, Nat.reduceEqDiff, Nat.reduceAdd, Nat.reduceSub, Nat.reduceLeDiff]
  refine CALL_det (indicesFault_fc l (by omega) kept (by omega)) (.inl rfl) ?_
  by_cases h1 : idxF l kept = 0
  · have h2 : kptF l kept = 0 := by rw [kptF_idx, if_neg (by omega)]; exact h1
    rw [h1]
    simp (maxSteps := 1000000) (disch := omega) only [go_sem, eq_self, decide_true, decide_false, not_true_eq_false, not_false_eq_true, reduceIte, reduceCtorEq, Nat.reduceEqDiff, Nat.reduceAdd, Nat.reduceSub, Nat.reduceLeDiff]
    refine ⟨rfl, CALLM_rnE ⟨[], [(600, smpRow (kep l kept))]⟩ (.tu [.one (.ow 600 0), iv 0]) (fun k => k) (swp 500 600) (fun _ => rfl) (swp_swp 500 600) (keepPR_fcm l kept h2) (by simp) rfl rfl rfl rfl ⟨rfl, rfl⟩ ?_⟩
    simp (maxSteps := 1000000) (disch := omega) only [go_sem, eq_self, decide_true, decide_false, not_true_eq_false, not_false_eq_true, reduceIte, reduceCtorEq, Nat.reduceEqDiff, Nat.reduceAdd, Nat.reduceSub, Nat.reduceLeDiff]
    refine ⟨rfl, CALLM_rnE ⟨[], [(601, intRow (stpW l l.length))]⟩ (.tu [.one (.ow 601 0), iv 0]) (fun k => k) (swp 5 601) (fun _ => rfl) (swp_swp 5 601) (stepsR_fcm l hs) (by simp) rfl rfl rfl rfl ⟨rfl, rfl⟩ ?_⟩
    simp (maxSteps := 1000000) (disch := omega) only [go_sem, eq_self, decide_true, decide_false, not_true_eq_false, not_false_eq_true, reduceIte, reduceCtorEq, Nat.reduceEqDiff, Nat.reduceAdd, Nat.reduceSub, Nat.reduceLeDiff]
    refine ⟨rfl, CALLM_rnE ⟨[(602, scC (ini 1 1000) (some 0))], []⟩ (.tu [.one (.bx 602 0), iv 0]) (swp 13 602) (fun k => k) (swp_swp 13 602) (fun _ => rfl) (new_ok 1 1000 (by decide)) (by simp) rfl rfl rfl rfl ⟨rfl, rfl⟩ ?_⟩
    simp (maxSteps := 1000000) (disch := omega) only [go_sem, eq_self, decide_true, decide_false, not_true_eq_false, not_false_eq_true, reduceIte, reduceCtorEq, Nat.reduceEqDiff, Nat.reduceAdd, Nat.reduceSub, Nat.reduceLeDiff]
    have hkl2 : (kep l kept).length ≤ 1000 := by unfold kep; rw [List.length_map]; omega
    have hsl := stpW_len l l.length
    refine ex_loop2 (cmsSt l kept (kep l kept) (stpW l l.length)) (fun i n => 0 ≤ i ∧ i ≤ l.length ∧ (0 < i → n = (l.getD (i - 1).toNat default).a)) (fun i _ => (l.length - i).toNat) 0 0 ⟨by omega, by omega, by omega⟩ rfl ?_
    rintro i n ⟨g1, g2, g3⟩
    have hrb : (runN 1 1000 l i.toNat).1.b = decide (0 < i.toNat) := by
      cases hn : i.toNat with
      | zero => rfl
      | succ m =>
        obtain ⟨p, H⟩ := sim_run (dv := 1) (mg := 1000) hg (by omega) m (by omega)
        rw [H.b]; simp
    unfold cmsSt
    by_cases hi : i < l.length
    · have em := getD_map_at smpC l i [] g1 hi
      have e2 : (i + 1).toNat = i.toNat + 1 := by omega
      have hsm : smpFault (l.getD i.toNat default) = 0 := serGo_all l none (serFault_ok hs).2 _ (getD_mem l i.toNat (by omega))
      have hok := cAddR_ok (runN 1 1000 l i.toNat).1 n (l.getD i.toNat default) hsm (fun hb => by
        rw [hrb] at hb
        have h8 := of_decide_eq_true hb
        rw [g3 (by omega)]
        have := hg.up (i - 1).toNat i.toNat (by omega) (by omega)
        omega) (fun hb => by
        rw [hrb] at hb
        have h8 := of_decide_eq_true hb
        obtain ⟨m, hm⟩ : ∃ m, i.toNat = m + 1 := ⟨i.toNat - 1, by omega⟩
        obtain ⟨p, H⟩ := sim_run (dv := 1) (mg := 1000) hg (by omega) m (by omega)
        have H2 := H.okx hg (by omega) (by omega) (by omega)
        rw [hm]
        exact H2)
      have hal := addS_len (runN 1 1000 l i.toNat).1 (l.getD i.toNat default)
      have hnx : (runN 1 1000 l (i + 1).toNat).1 = (addS (runN 1 1000 l i.toNat).1 (l.getD i.toNat default)).1 := by rw [e2]; rfl
      generalize (addS (runN 1 1000 l i.toNat).1 (l.getD i.toNat default)).2 = out at *
      generalize (addS (runN 1 1000 l i.toNat).1 (l.getD i.toNat default)).1 = x2 at *
      generalize (runN 1 1000 l i.toNat).1 = x1 at *
      simp (maxSteps := 1000000) (disch := omega) only [go_sem, eq_self, decide_true, decide_false, not_true_eq_false, not_false_eq_true, reduceIte, reduceCtorEq, Nat.reduceEqDiff, Nat.reduceAdd, Nat.reduceSub, Nat.reduceLeDiff]
      refine ⟨rfl, CALLM_rnE ⟨[(602, scC x2 (some (l.getD i.toNat default).a))], [(603, smpRow out)]⟩ (.tu [.one (.ow 603 0), iv 0]) (swp 0 602) (swp 500 603) (swp_swp 0 602) (swp_swp 500 603) hok (by simp) rfl rfl rfl rfl ⟨rfl, rfl⟩ ?_⟩
      simp (maxSteps := 1000000) (disch := omega) only [go_sem, eq_self, decide_true, decide_false, not_true_eq_false, not_false_eq_true, reduceIte, reduceCtorEq, Nat.reduceEqDiff, Nat.reduceAdd, Nat.reduceSub, Nat.reduceLeDiff]
      refine ⟨rfl, CALLM_rnE ⟨[], [(603, smpRow (spo (out).length (out)))]⟩ (.tu []) (fun k => k) (swp 1000000 603) (fun _ => rfl) (swp_swp 1000000 603) (spoilS_fcm (out) (by omega)) (by simp) rfl rfl rfl rfl ⟨rfl, rfl⟩ ?_⟩
      simp (maxSteps := 1000000) (disch := omega) only [go_sem, eq_self, decide_true, decide_false, not_true_eq_false, not_false_eq_true, reduceIte, reduceCtorEq, Nat.reduceEqDiff, Nat.reduceAdd, Nat.reduceSub, Nat.reduceLeDiff]
      exact ⟨i + 1, (l.getD i.toNat default).a, by simp only [cmsSt, hnx], ⟨by omega, by omega, fun _ => by rw [show i + 1 - 1 = i by omega]⟩, by omega⟩
    · have hfl := cFlushR_fcm (runN 1 1000 l i.toNat).1 n
      have hfl2 := fluS_len (runN 1 1000 l i.toNat).1
      generalize fluS (runN 1 1000 l i.toNat).1 = y at *
      generalize (runN 1 1000 l i.toNat).1 = x1 at *
      obtain ⟨y1, y2⟩ := y
      simp only at hfl hfl2
      simp (maxSteps := 1000000) (disch := omega) only [go_sem, eq_self, decide_true, decide_false, not_true_eq_false, not_false_eq_true, reduceIte, reduceCtorEq, Nat.reduceEqDiff, Nat.reduceAdd, Nat.reduceSub, Nat.reduceLeDiff]
      refine ⟨rfl, CALLM_rnE ⟨[(602, scC y1 (some n))], [(604, smpRow y2)]⟩ (.one (.ow 604 0)) (swp 0 602) (swp 500 604) (swp_swp 0 602) (swp_swp 500 604) hfl (by simp) rfl rfl rfl rfl ⟨rfl, rfl⟩ ?_⟩
      simp (maxSteps := 1000000) (disch := omega) only [go_sem, eq_self, decide_true, decide_false, not_true_eq_false, not_false_eq_true, reduceIte, reduceCtorEq, Nat.reduceEqDiff, Nat.reduceAdd, Nat.reduceSub, Nat.reduceLeDiff]
      refine ⟨rfl, CALLM_rnE ⟨[], [(604, smpRow (spo (y2).length (y2)))]⟩ (.tu []) (fun k => k) (swp 1000000 604) (fun _ => rfl) (swp_swp 1000000 604) (spoilS_fcm (y2) (by omega)) (by simp) rfl rfl rfl rfl ⟨rfl, rfl⟩ ?_⟩
      simp (maxSteps := 1000000) (disch := omega) only [go_sem, eq_self, decide_true, decide_false, not_true_eq_false, not_false_eq_true, reduceIte, reduceCtorEq, Nat.reduceEqDiff, Nat.reduceAdd, Nat.reduceSub, Nat.reduceLeDiff]
      refine ⟨rfl, CALLM_rnE ⟨[], [(600, smpRow (spo (kep l kept).length (kep l kept)))]⟩ (.tu []) (fun k => k) (swp 1000000 600) (fun _ => rfl) (swp_swp 1000000 600) (spoilS_fcm (kep l kept) (by omega)) (by simp) rfl rfl rfl rfl ⟨rfl, rfl⟩ ?_⟩
      simp (maxSteps := 1000000) (disch := omega) only [go_sem, eq_self, decide_true, decide_false, not_true_eq_false, not_false_eq_true, reduceIte, reduceCtorEq, Nat.reduceEqDiff, Nat.reduceAdd, Nat.reduceSub, Nat.reduceLeDiff]
      refine ⟨rfl, CALLM_rnE ⟨[], [(601, intRow (spio (stpW l l.length).length (stpW l l.length)))]⟩ (.tu []) (fun k => k) (swp 1000000 601) (fun _ => rfl) (swp_swp 1000000 601) (spoilI_fcm (stpW l l.length) (by omega)) (by simp) rfl rfl rfl rfl ⟨rfl, rfl⟩ ?_⟩
      simp (maxSteps := 1000000) (disch := omega) only [go_sem, eq_self, decide_true, decide_false, not_true_eq_false, not_false_eq_true, reduceIte, reduceCtorEq, Nat.reduceEqDiff, Nat.reduceAdd, Nat.reduceSub, Nat.reduceLeDiff]
      refine CALL_det (eqSmp_fc false false l (by omega)) (.inl rfl) ?_
      simp (maxSteps := 1000000) (disch := omega) only [go_sem, eq_self, decide_true, decide_false, not_true_eq_false, not_false_eq_true, reduceIte, reduceCtorEq, Nat.reduceEqDiff, Nat.reduceAdd, Nat.reduceSub, Nat.reduceLeDiff]
      refine CALL_det (eqInts_fc false false kept (by omega)) (.inl rfl) ?_
      simp (maxSteps := 1000000) (disch := omega) only [go_sem, eq_self, decide_true, decide_false, not_true_eq_false, not_false_eq_true, reduceIte, reduceCtorEq, Nat.reduceEqDiff, Nat.reduceAdd, Nat.reduceSub, Nat.reduceLeDiff]
      refine CALL_det ready_fc (.inl rfl) ?_
      simp (maxSteps := 1000000) (disch := omega) only [go_sem, eq_self, decide_true, decide_false, not_true_eq_false, not_false_eq_true, reduceIte, reduceCtorEq, Nat.reduceEqDiff, Nat.reduceAdd, Nat.reduceSub, Nat.reduceLeDiff]
  · simp (maxSteps := 1000000) (disch := omega) only [go_sem, eq_self, decide_true, decide_false, not_true_eq_false, not_false_eq_true, reduceIte, reduceCtorEq, Nat.reduceEqDiff, Nat.reduceAdd, Nat.reduceSub, Nat.reduceLeDiff]
    refine CALL_det ready_fc (.inl rfl) ?_
    simp (maxSteps := 1000000) (disch := omega) only [go_sem, eq_self, decide_true, decide_false, not_true_eq_false, not_false_eq_true, reduceIte, reduceCtorEq, Nat.reduceEqDiff, Nat.reduceAdd, Nat.reduceSub, Nat.reduceLeDiff]
end Go.Proofs.Ytggbcgldnjmobaa
