
/-
  SamplesStream returns true for every slice of integers, and leaves the slice as it was: a compressor archives one sample after the other as the reference says, for all doors and samples that its generators make of the slice. No condition.
-/
import Derived.Test.YtggbcgldnjmobaaStl
import Derived.Test.YtggbcgldnjmobaaStpb
import Derived.Test.YtggbcgldnjmobaaAiRow
import Derived.Test.YtggbcgldnjmobaaRows
namespace Go.Proofs.Ytggbcgldnjmobaa
open Go Go.Ai
set_option linter.unusedSimpArgs false
set_option linter.unusedVariables false
set_option maxHeartbeats 4000000
def A_ss : List Ann := [⟨(some ⟨[0,500], [], []⟩), [], [], [], []⟩, ⟨(some ⟨[3,18,500], [18], []⟩), [], [], [], []⟩, ⟨(some ⟨[3,4,5,18,500], [4,18], []⟩), [], [], [], []⟩, ⟨(some ⟨[3,4,5,6,7,18,500], [4,18,500], []⟩), [], [], [], [(25, ⟨[], [], [500], [], []⟩)]⟩, ⟨(some ⟨[3,4,5,6,7,8,18,500], [4,18,500], []⟩), [], [], [], []⟩, ⟨(some ⟨[3,4,5,6,7,8,18,31,500], [4,18,500], []⟩), [], [], [], []⟩, ⟨(some ⟨[2,500], [500], []⟩), [], [], [], []⟩, ⟨(some ⟨[3,4,5,6,18,47,500], [4,18,500], []⟩), [], [], [], []⟩, ⟨(some ⟨[2,500], [500], []⟩), [], [], [], []⟩, ⟨(some ⟨[3,4,5,6,9,10,18,500], [4,18,500], []⟩), [(9, 38, 3), (10, 38, 3)], [], [], []⟩, ⟨(some ⟨[3,4,6,9,10,18,48,49,50,500], [4,18,500], [9,10]⟩), [], [], [], []⟩, ⟨(some ⟨[3,4,6,9,10,18,48,49,50,51,500], [4,18,500], [9,10]⟩), [], [], [], []⟩, ⟨(some ⟨[3,4,6,9,10,12,18,48,49,50,500], [4,12,18,500], [9,10]⟩), [], [], [], []⟩, ⟨(some ⟨[3,4,6,9,10,12,13,14,18,48,49,50,500], [4,12,18,500], [9,10]⟩), [], [], [], []⟩, ⟨(some ⟨[3,4,6,9,10,12,13,14,15,18,48,49,50,500], [4,12,18,500], [9,10]⟩), [], [], [], []⟩, ⟨(some ⟨[3,4,6,9,10,12,13,14,15,18,48,49,50,64,500], [4,12,18,500], [9,10]⟩), [], [], [], []⟩, ⟨(some ⟨[3,4,6,9,10,18,48,49,50,72,500], [4,18,500], [9,10]⟩), [], [], [], []⟩, ⟨(some ⟨[2,500], [500], []⟩), [], [], [], []⟩, ⟨(some ⟨[3,4,6,9,10,12,13,18,48,49,50,74,500], [4,12,18,500], [9,10]⟩), [], [], [], []⟩, ⟨(some ⟨[2,500], [500], []⟩), [], [], [], []⟩, ⟨(some ⟨[3,4,6,9,10,18,48,49,50,500], [4,18,500], [9,10]⟩), [], [], [], []⟩, ⟨(some ⟨[3,4,6,9,10,18,48,49,50,83,500], [4,18,500], [9,10]⟩), [], [], [], []⟩, ⟨(some ⟨[3,4,6,9,10,18,48,49,50,500], [4,18,500], []⟩), [], [], [], []⟩, ⟨(some ⟨[3,4,6,18,48,49,50,95,500], [4,18,500], []⟩), [], [], [], []⟩, ⟨(some ⟨[2,500], [500], []⟩), [], [], [], []⟩, ⟨(some ⟨[3,4,6,9,10,18,48,49,50,500], [4,18,500], []⟩), [(9, 38, 3), (10, 38, 3)], [], [], []⟩, ⟨(some ⟨[3,4,6,9,10,18,48,49,50,500], [4,18,500], [9,10]⟩), [], [], [], []⟩, ⟨(some ⟨[4,6,9,10,500], [4,500], []⟩), [], [], [], []⟩, ⟨(some ⟨[2,500], [500], []⟩), [], [], [], []⟩]
def C_ss : AC := (.seq (.reg false [⟨(some 2), none, .mv (.v (.bool false))⟩] (some ⟨[0,500], [], []⟩))
  (.seq (.reg false [⟨(some 16), none, .mv (.t 0)⟩, ⟨(some 17), none, .build [(.slice none 0 0), (.int .i64 (0))] [(0, 1, (.t 16))]⟩, ⟨(some 18), none, .box (.t 17)⟩, ⟨(some 3), none, .mv (.t 18)⟩] (some ⟨[3,18,500], [18], []⟩))
  (.seq (.reg false [⟨(some 19), none, .mv (.t 3)⟩, ⟨(some 20), none, .callx (.f 14) [(.t 19)]⟩, ⟨(some 21), none, .mv (.t 3)⟩, ⟨(some 22), none, .callx (.f 15) [(.t 21), (.v (.int .i64 (14)))]⟩, ⟨(some 4), none, .alloc [(.int .i64 (0)), (.int .i64 (0))]⟩, ⟨none, none, .store 2 (.t 4) (.t 20)⟩, ⟨(some 5), none, .mv (.t 22)⟩] (some ⟨[3,4,5,18,500], [4,18], []⟩))
  (.seq (.reg false [⟨(some 24), none, .load true 2 (.t 4)⟩, ⟨(some 25), none, .callm (.f 16) [(.t 24)] ⟨[], [], [500], [], []⟩⟩, ⟨(some 23), none, .mv (.t 25)⟩, ⟨(some 26), none, .extr (.t 23) 0⟩, ⟨(some 27), none, .extr (.t 23) 1⟩, ⟨(some 6), none, .mv (.t 26)⟩, ⟨(some 7), none, .mv (.t 27)⟩] (some ⟨[3,4,5,6,7,18,500], [4,18,500], []⟩))
  (.seq (.seq (.reg false [⟨(some 28), none, .load true 2 (.t 4)⟩, ⟨(some 29), none, .call (.f 17) [(.t 28)]⟩, ⟨(some 8), none, .mv (.t 29)⟩] (some ⟨[3,4,5,6,7,8,18,500], [4,18,500], []⟩))
  (.seq (.reg false [⟨(some 30), none, .mv (.t 8)⟩, ⟨(some 31), none, .bin .neq (.t 30) (.v (.int .i64 (0)))⟩] (some ⟨[3,4,5,6,7,8,18,31,500], [4,18,500], []⟩))
  (.cond (.t 31)
  (.seq (.reg false [⟨(some 32), none, .mv (.t 7)⟩, ⟨(some 33), none, .mv (.t 8)⟩, ⟨(some 34), none, .bin .eql (.t 32) (.t 33)⟩, ⟨(some 35), none, .mv (.t 34)⟩, ⟨(some 36), (some (35, true)), .mv (.t 6)⟩, ⟨(some 37), (some (35, true)), .eqs false false [.np] (.t 36) (.v (.pointer none))⟩, ⟨(some 38), none, .pick (.t 35) (.t 37) (.v (.bool false))⟩, ⟨(some 39), none, .mv (.t 38)⟩, ⟨(some 40), (some (39, true)), .call (.f 18) []⟩, ⟨(some 41), none, .pick (.t 39) (.t 40) (.v (.bool false))⟩, ⟨(some 2), none, .mv (.t 41)⟩] (some ⟨[2,500], [500], []⟩))
  .ret)
  .skip)))
  (.seq (.seq (.reg false [⟨(some 42), none, .mv (.t 7)⟩, ⟨(some 43), none, .bin .neq (.t 42) (.v (.int .i64 (0)))⟩, ⟨(some 44), none, .mv (.t 43)⟩, ⟨(some 45), (some (44, false)), .mv (.t 6)⟩, ⟨(some 46), (some (44, false)), .eqs false false [.np] (.t 45) (.v (.pointer none))⟩, ⟨(some 47), none, .pick (.t 44) (.v (.bool true)) (.t 46)⟩] (some ⟨[3,4,5,6,18,47,500], [4,18,500], []⟩))
  (.cond (.t 47)
  (.seq (.reg false [⟨(some 2), none, .mv (.v (.bool false))⟩] (some ⟨[2,500], [500], []⟩))
  .ret)
  .skip))
  (.seq (.seq (.seq (.reg false [⟨(some 9), none, .mv (.v (.slice none 0 0))⟩, ⟨(some 10), none, .mv (.v (.slice none 0 0))⟩] (some ⟨[3,4,5,6,9,10,18,500], [4,18,500], []⟩))
  (.own 9 38 3))
  (.own 10 38 3))
  (.seq (.seq (.reg false [⟨(some 48), none, .mv (.t 5)⟩, ⟨(some 49), none, .len (.t 48)⟩, ⟨(some 50), none, .mv (.v (.int .i64 (0)))⟩] (some ⟨[3,4,6,9,10,18,48,49,50,500], [4,18,500], [9,10]⟩))
  (.block 0 (.loop (.seq (.reg false [⟨(some 51), none, .bin .lss (.t 50) (.t 49)⟩] (some ⟨[3,4,6,9,10,18,48,49,50,51,500], [4,18,500], [9,10]⟩))
  (.seq (.cond (.t 51)
  .skip
  (.exit 0))
  (.seq (.block 1 (.seq (.reg false [⟨(some 52), none, .iadr 3 (.t 48) (.t 50)⟩, ⟨(some 53), none, .load true 3 (.t 52)⟩, ⟨(some 12), none, .alloc [(.int .i64 (0)), (.int .i64 (0)), (.int .i64 (0))]⟩, ⟨none, none, .store 3 (.t 12) (.t 53)⟩] (some ⟨[3,4,6,9,10,12,18,48,49,50,500], [4,12,18,500], [9,10]⟩))
  (.seq (.reg false [⟨(some 55), none, .mv (.t 6)⟩, ⟨(some 56), none, .load true 3 (.t 12)⟩, ⟨(some 57), none, .callx (.f 19) [(.t 55), (.t 56)]⟩, ⟨(some 54), none, .mv (.t 57)⟩, ⟨(some 58), none, .extr (.t 54) 0⟩, ⟨(some 59), none, .extr (.t 54) 1⟩, ⟨(some 13), none, .mv (.t 58)⟩, ⟨(some 14), none, .mv (.t 59)⟩] (some ⟨[3,4,6,9,10,12,13,14,18,48,49,50,500], [4,12,18,500], [9,10]⟩))
  (.seq (.seq (.reg false [⟨(some 60), none, .mv (.t 9)⟩, ⟨(some 61), none, .load true 3 (.t 12)⟩, ⟨(some 62), none, .call (.f 20) [(.t 60), (.t 61)]⟩, ⟨(some 15), none, .mv (.t 62)⟩] (some ⟨[3,4,6,9,10,12,13,14,15,18,48,49,50,500], [4,12,18,500], [9,10]⟩))
  (.seq (.reg false [⟨(some 63), none, .mv (.t 15)⟩, ⟨(some 64), none, .bin .neq (.t 63) (.v (.int .i64 (0)))⟩] (some ⟨[3,4,6,9,10,12,13,14,15,18,48,49,50,64,500], [4,12,18,500], [9,10]⟩))
  (.cond (.t 64)
  (.seq (.seq (.reg false [⟨(some 65), none, .mv (.t 14)⟩, ⟨(some 66), none, .mv (.t 15)⟩, ⟨(some 67), none, .bin .neq (.t 65) (.t 66)⟩, ⟨(some 68), none, .mv (.t 67)⟩, ⟨(some 69), (some (68, false)), .mv (.t 13)⟩, ⟨(some 70), (some (68, false)), .len (.t 69)⟩, ⟨(some 71), (some (68, false)), .bin .gtr (.t 70) (.v (.int .i64 (0)))⟩, ⟨(some 72), none, .pick (.t 68) (.v (.bool true)) (.t 71)⟩] (some ⟨[3,4,6,9,10,18,48,49,50,72,500], [4,18,500], [9,10]⟩))
  (.cond (.t 72)
  (.seq (.reg false [⟨(some 2), none, .mv (.v (.bool false))⟩] (some ⟨[2,500], [500], []⟩))
  .ret)
  .skip))
  (.exit 1))
  .skip)))
  (.seq (.seq (.reg false [⟨(some 73), none, .mv (.t 14)⟩, ⟨(some 74), none, .bin .neq (.t 73) (.v (.int .i64 (0)))⟩] (some ⟨[3,4,6,9,10,12,13,18,48,49,50,74,500], [4,12,18,500], [9,10]⟩))
  (.cond (.t 74)
  (.seq (.reg false [⟨(some 2), none, .mv (.v (.bool false))⟩] (some ⟨[2,500], [500], []⟩))
  .ret)
  .skip))
  (.seq (.reg false [⟨(some 75), none, .mv (.t 9)⟩, ⟨(some 76), none, .load true 3 (.t 12)⟩, ⟨(some 77), none, .bslice 3 1 [(.t 76)]⟩, ⟨(some 78), none, .append 38 3 24 (.t 75) (.t 77)⟩, ⟨(some 79), none, .mv (.t 10)⟩, ⟨(some 80), none, .mv (.t 13)⟩, ⟨(some 81), none, .append 38 3 24 (.t 79) (.t 80)⟩, ⟨(some 9), none, .mv (.t 78)⟩, ⟨(some 10), none, .mv (.t 81)⟩] (some ⟨[3,4,6,9,10,18,48,49,50,500], [4,18,500], [9,10]⟩))
  (.seq (.reg false [⟨(some 82), none, .mv (.t 3)⟩, ⟨(some 83), none, .callx (.f 21) [(.t 82), (.v (.int .i64 (12)))]⟩] (some ⟨[3,4,6,9,10,18,48,49,50,83,500], [4,18,500], [9,10]⟩))
  (.cond (.t 83)
  (.seq (.reg false [⟨(some 84), none, .mv (.t 10)⟩, ⟨(some 85), none, .mv (.t 6)⟩, ⟨(some 86), none, .callx (.f 22) [(.t 85)]⟩, ⟨(some 87), none, .append 38 3 24 (.t 84) (.t 86)⟩, ⟨(some 10), none, .mv (.t 87)⟩] (some ⟨[3,4,6,9,10,18,48,49,50,500], [4,18,500], []⟩))
  (.seq (.seq (.reg false [⟨(some 88), none, .mv (.t 10)⟩, ⟨(some 89), none, .mv (.t 9)⟩, ⟨(some 90), none, .load true 2 (.t 4)⟩, ⟨(some 91), none, .mv (.t 9)⟩, ⟨(some 92), none, .call (.f 25) [(.t 90), (.t 91)]⟩, ⟨(some 93), none, .call (.f 24) [(.t 89), (.t 92)]⟩, ⟨(some 94), none, .call (.f 23) [(.t 88), (.t 93)]⟩, ⟨(some 95), none, .un .not (.t 94)⟩] (some ⟨[3,4,6,18,48,49,50,95,500], [4,18,500], []⟩))
  (.cond (.t 95)
  (.seq (.reg false [⟨(some 2), none, .mv (.v (.bool false))⟩] (some ⟨[2,500], [500], []⟩))
  .ret)
  .skip))
  (.seq (.seq (.reg false [⟨(some 9), none, .mv (.v (.slice none 0 0))⟩, ⟨(some 10), none, .mv (.v (.slice none 0 0))⟩] (some ⟨[3,4,6,9,10,18,48,49,50,500], [4,18,500], []⟩))
  (.own 9 38 3))
  (.own 10 38 3))))
  .skip))))))))
  (.reg false [⟨(some 96), none, .bin .add (.t 50) (.v (.int .i64 (1)))⟩, ⟨(some 50), none, .mv (.t 96)⟩] (some ⟨[3,4,6,9,10,18,48,49,50,500], [4,18,500], [9,10]⟩))))))))
  (.seq (.reg false [⟨(some 97), none, .mv (.t 10)⟩, ⟨(some 98), none, .mv (.t 6)⟩, ⟨(some 99), none, .callx (.f 22) [(.t 98)]⟩, ⟨(some 100), none, .append 38 3 24 (.t 97) (.t 99)⟩, ⟨(some 10), none, .mv (.t 100)⟩] (some ⟨[4,6,9,10,500], [4,500], []⟩))
  (.seq (.reg false [⟨(some 101), none, .mv (.t 10)⟩, ⟨(some 102), none, .mv (.t 9)⟩, ⟨(some 103), none, .load true 2 (.t 4)⟩, ⟨(some 104), none, .mv (.t 9)⟩, ⟨(some 105), none, .call (.f 25) [(.t 103), (.t 104)]⟩, ⟨(some 106), none, .call (.f 24) [(.t 102), (.t 105)]⟩, ⟨(some 107), none, .call (.f 23) [(.t 101), (.t 106)]⟩, ⟨(some 108), none, .mv (.t 107)⟩, ⟨(some 109), (some (108, true)), .mv (.t 6)⟩, ⟨(some 110), (some (108, true)), .callx (.f 22) [(.t 109)]⟩, ⟨(some 111), (some (108, true)), .len (.t 110)⟩, ⟨(some 112), (some (108, true)), .bin .eql (.t 111) (.v (.int .i64 (0)))⟩, ⟨(some 113), none, .pick (.t 108) (.t 112) (.v (.bool false))⟩, ⟨(some 114), none, .mv (.t 113)⟩, ⟨(some 115), (some (114, true)), .call (.f 18) []⟩, ⟨(some 116), none, .pick (.t 114) (.t 115) (.v (.bool false))⟩, ⟨(some 2), none, .mv (.t 116)⟩] (some ⟨[2,500], [500], []⟩))
  .ret))))))))))
theorem c_ss : compileCode Try.prog Try.f3.ntmps (Try.f3.body.getD .skip) A_ss = some (C_ss, []) := by kernel_rfl
theorem r_ss : compileRes Try.prog Try.f3.results.toList = some [.t 2] := by kernel_rfl
theorem b_ss : Try.f3.body = some (Try.f3.body.getD .skip) := by kernel_rfl
theorem n_ss : (Try.f3.name == "runtime.NumGoroutine") = false := by kernel_rfl
theorem fc_ss {xt : Option (List Cel)} {args : List Val} {R : List Cel → Val → Prop} (hn : (if xt.isSome then 1 else 0) + args.length ≤ Try.f3.ntmps) (h : ex Try.prog C_ss [] (fpost xt [.t 2] R) (initSt xt args)) : FC Try.prog 3 xt args R :=
  fc_of_awp Try.func3 b_ss n_ss c_ss r_ss (of_decide_eq_true (by kernel_rfl)) hn h
theorem fcm_ss {H : Hp} {K : Keep} {args : List Val} {R : Hp → Val → Prop} (hn : args.length ≤ Try.f3.ntmps) (hkb : ∀ p ∈ H.bs, p.1 = 0 ∨ XK ≤ p.1) (hkr : ∀ p ∈ H.rs, XK ≤ p.1) (h : ex Try.prog C_ss [] (mpost H K [.t 2] R) (initM H args)) : FCM Try.prog 3 H args R :=
  fcm_of_awp Try.func3 b_ss n_ss c_ss r_ss (of_decide_eq_true (by kernel_rfl)) hn hkb hkr h
theorem fcms_ss {S : List Nat} {H : Hp} {K : Keep} {args : List Val} {R : Hp → Val → Prop} (hn : args.length ≤ Try.f3.ntmps) (hkb : ∀ p ∈ H.bs, p.1 = 0 ∨ XK ≤ p.1) (hkr : ∀ p ∈ H.rs, XK ≤ p.1) (h : ex Try.prog C_ss [] (mpostS S H K [.t 2] R) (initM H args))   : FCMS Try.prog 3 S H args R :=
  fcms_of_awp Try.func3 b_ss n_ss c_ss r_ss (of_decide_eq_true (by kernel_rfl)) hn hkb hkr h


section
variable {s : AS} {x : Sc} {o : Option Int}
theorem sc_ren {K : Kp} : (scC x o).map (s.renC K) = scC x o := by cases o <;> rfl
theorem sc_back {m : CAnn} : (scC x o).map (s.backC m) = scC x o := by cases o <;> rfl
theorem sc_view : (scC x o).map s.viewC = scC x o := by cases o <;> rfl
theorem sc_plain : (scC x o).all plainC = true := by cases o <;> rfl
end
attribute [go_sem] sc_ren sc_back sc_view sc_plain
theorem runN_app {dv mg : Int} (l : List Smp) (s : Smp) : ∀ i : Nat, i ≤ l.length → runN dv mg (l ++ [s]) i = runN dv mg l i
  | 0, _ => rfl
  | i + 1, hi => by
    have e : (l ++ [s]).getD i default = l.getD i default := by
      simp [List.getD_eq_getElem?_getD, List.getElem?_append_left (show i < l.length by omega)]
    rw [runN, runN, runN_app l s i (by omega), e]
theorem runN_snoc {dv mg : Int} (l : List Smp) (s : Smp) : runN dv mg (l ++ [s]) (l ++ [s]).length = ((addS (runN dv mg l l.length).1 s).1, (runN dv mg l l.length).2 ++ (addS (runN dv mg l l.length).1 s).2) := by
  have e : (l ++ [s]).length = l.length + 1 := by simp
  have e2 : (l ++ [s]).getD l.length default = s := by simp [List.getD_eq_getElem?_getD]
  rw [e, runN, runN_app l s l.length (Nat.le_refl _), e2]
theorem serGo_snoc (s : Smp) (hs : smpFault s = 0) : ∀ (l : List Smp) (p : Option Smp), serGo p l = 0 → (l = [] → ltO p s) → (l ≠ [] → (l.getD (l.length - 1) default).a < s.a) → serGo p (l ++ [s]) = 0
  | [], p, _, h1, _ => by
    rw [List.nil_append, serGo_c]
    exact ⟨hs, h1 rfl, rfl⟩
  | x :: r, p, h, _, h2 => by
    obtain ⟨k1, k2, k3⟩ := serGo_c.1 h
    rw [List.cons_append, serGo_c]
    refine ⟨k1, k2, serGo_snoc s hs r (some x) k3 (fun e => ?_) (fun e => ?_)⟩
    · subst e
      have := h2 (by simp)
      intro y hy
      cases hy
      simpa using this
    · have := h2 (by simp)
      cases r with
      | nil => exact absurd rfl e
      | cons y r' => simpa using this
theorem ser_snoc {l : List Smp} {s : Smp} (h : serFault l = 0) (hl : l.length ≤ 4999) (hs : smpFault s = 0) (h2 : 0 < l.length → (l.getD ((l.length : Int) - 1).toNat default).a < s.a) : serFault (l ++ [s]) = 0 := by
  have h3 := serGo_snoc s hs l none (serFault_ok h).2 (fun _ y hy => by cases hy) (fun e => by
    have h4 : 0 < l.length := List.length_pos_iff.2 e
    have := h2 h4
    rwa [show ((l.length : Int) - 1).toNat = l.length - 1 by omega] at this)
  unfold serFault
  rw [if_neg (by simp; omega), h3]
def sstSt (L : List Int) (dv mg : Int) (c : List Smp) (i q n : Int) (dn : List Smp) : AS :=
  ⟨tabV [(3, .one (.bx 18 0)), (4, .one (.bx 4 0)), (6, .one (.bx 500 0)), (9, .one (.ow 9 0)), (10, .one (.ow 10 0)), (18, .one (.bx 18 0)), (48, smps true c), (49, iv c.length), (50, iv i), (500, .any)],
   tabO [(4, [.g (.int .i64 dv), .g (.int .i64 mg)]), (18, strm L q), (500, scC (runN dv mg dn dn.length).1 (some n))], tabO [(9, smpRow dn), (10, smpRow (runN dv mg dn dn.length).2)]⟩
set_option maxHeartbeats 12000000 in
set_option maxRecDepth 8000 in
theorem ss_fc (L : List Int) (hL : ∀ x ∈ L, I64 x) (hl : L.length ≤ 9223372036854775807) : FC Try.prog 3 none [ints false L] (fun _ r => r = bv true) := by
  refine fc_ss (by simp +arith) ?_
  unfold C_ss
  simp (maxSteps := 1000000) (disch := omega) only [go_sem, eq_self, decide_true, decide_false, not_true_eq_false, not_false_eq_true, reduceIte, reduceCtorEq, Nat.reduceEqDiff, Nat.reduceAdd, Nat.reduceSub, Nat.reduceLeDiff]
  refine callx_gen (p := 0) doorOf_fc hL hl (by omega) (by omega) ⟨_, 0, 0, by simp [I64], by simp [I64], rfl⟩ ?_
  rintro pa r ha1 ha2 ⟨dv, mg, hdv, hmg, rfl⟩
  refine ⟨rfl, ?_⟩
  unfold strm
  simp (maxSteps := 1000000) (disch := omega) only [go_sem, eq_self, decide_true, decide_false, not_true_eq_false, not_false_eq_true, reduceIte, reduceCtorEq, Nat.reduceEqDiff, Nat.reduceAdd, Nat.reduceSub, Nat.reduceLeDiff]
  refine callx_gen (curve_fc 14 (by omega) (by omega)) hL hl (by omega) (by omega) ⟨_, [], by simp, by simp, rfl⟩ ?_
  rintro pb r hb1 hb2 ⟨c, hcl, hc64, rfl⟩
  refine ⟨rfl, ?_⟩
  unfold strm
  by_cases h1 : excF dv mg = 0
  · simp (maxSteps := 1000000) (disch := omega) only [go_sem, eq_self, decide_true, decide_false, not_true_eq_false, not_false_eq_true, reduceIte, reduceCtorEq, Nat.reduceEqDiff, Nat.reduceAdd, Nat.reduceSub, Nat.reduceLeDiff]
    refine ⟨rfl, CALLM_rn (swp 13 500) (fun k => k) (swp_swp 13 500) (fun _ => rfl) (new_ok dv mg h1) (by simp) rfl rfl ⟨rfl, rfl⟩ ?_⟩
    rw [show (⟨[(13, scC (ini dv mg) (some 0))], []⟩ : Hp).rn (swp 13 500) (fun k => k) = ⟨[(500, scC (ini dv mg) (some 0))], []⟩ from rfl, show rnV (swp 13 500) (fun k => k) (.tu [.one (.bx 13 0), iv 0]) = .tu [.one (.bx 500 0), iv 0] from rfl]
    simp (maxSteps := 1000000) (disch := omega) only [go_sem, eq_self, decide_true, decide_false, not_true_eq_false, not_false_eq_true, reduceIte, reduceCtorEq, Nat.reduceEqDiff, Nat.reduceAdd, Nat.reduceSub, Nat.reduceLeDiff]
    refine CALL_det (doorFault_fc dv mg) (.inl rfl) ?_
    rw [h1]
    simp (maxSteps := 1000000) (disch := omega) only [go_sem, eq_self, decide_true, decide_false, not_true_eq_false, not_false_eq_true, reduceIte, reduceCtorEq, Nat.reduceEqDiff, Nat.reduceAdd, Nat.reduceSub, Nat.reduceLeDiff]
    have hdd : 0 ≤ dv ∧ dv ≤ 2000000 := by unfold excF at h1; split at h1 <;> omega
    have hdm : 1 ≤ mg ∧ mg ≤ 345686400000 := by unfold excF at h1; split at h1 <;> omega
    refine ex_loop4 (sstSt L dv mg c) (fun i q n dn => 0 ≤ i ∧ i ≤ c.length ∧ pb ≤ q ∧ q ≤ pb + i ∧ serFault dn = 0 ∧ dn.length ≤ i ∧ (0 < dn.length → n = (dn.getD ((dn.length : Int) - 1).toNat default).a)) (fun i _ _ _ => (c.length - i).toNat) 0 pb 0 [] ⟨by omega, by omega, by omega, by omega, rfl, by simp, by simp⟩ rfl ?_
    rintro i q n dn ⟨g1, g2, g3, g4, g5, g6, g7⟩
    have hg := good_of g5
    obtain ⟨s1, s2, s3, s4⟩ := stream_is (mg := mg) hg hdd
    have hrb : (runN dv mg dn dn.length).1.b = decide (0 < dn.length) ∧ (runN dv mg dn dn.length).1.dv = dv := by
      cases hn : dn.length with
      | zero => exact ⟨rfl, rfl⟩
      | succ m =>
        obtain ⟨p, H⟩ := sim_run (mg := mg) hg hdd m (by omega)
        exact ⟨by rw [H.b]; simp, H.d.1⟩
    unfold sstSt strm
    by_cases hi : i < c.length
    · have em := getD_map_at smpC c i [] g1 hi
      have haf := addFault_fc dn (by omega) (c.getD i.toNat default)
      generalize hs : c.getD i.toNat default = s at *
      by_cases f1 : smpFault s = 0
      · by_cases f2 : 0 < dn.length ∧ s.a ≤ (dn.getD ((dn.length : Int) - 1).toNat default).a
        · have ea : adF dn s = 7 := by unfold adF; rw [if_neg (by omega), if_pos f2]
          rw [ea] at haf
          have hno := cAdd_ord (runN dv mg dn dn.length).1 n s f1 (by rw [hrb.1]; exact decide_eq_true f2.1) (by rw [g7 f2.1]; exact f2.2)
          simp (maxSteps := 1000000) (disch := omega) only [go_sem, eq_self, decide_true, decide_false, not_true_eq_false, not_false_eq_true, reduceIte, reduceCtorEq, Nat.reduceEqDiff, Nat.reduceAdd, Nat.reduceSub, Nat.reduceLeDiff]
          rw [hs]
          refine CALLX_det hno rfl (sc_data _ _) ?_
          simp (maxSteps := 1000000) (disch := omega) only [go_sem, eq_self, decide_true, decide_false, not_true_eq_false, not_false_eq_true, reduceIte, reduceCtorEq, Nat.reduceEqDiff, Nat.reduceAdd, Nat.reduceSub, Nat.reduceLeDiff]
          refine CALL_det haf (.inl rfl) ?_
          simp (maxSteps := 1000000) (disch := omega) only [go_sem, eq_self, decide_true, decide_false, not_true_eq_false, not_false_eq_true, reduceIte, reduceCtorEq, Nat.reduceEqDiff, Nat.reduceAdd, Nat.reduceSub, Nat.reduceLeDiff]
          exact ⟨i + 1, q, n, dn, rfl, ⟨by omega, by omega, by omega, by omega, g5, by omega, g7⟩, by omega⟩
        · have ea : adF dn s = 0 := by unfold adF; rw [if_neg (by omega), if_neg f2]
          rw [ea] at haf
          have f3 : 0 < dn.length → (dn.getD ((dn.length : Int) - 1).toNat default).a < s.a := fun h => by
            rcases Int.lt_or_le (dn.getD ((dn.length : Int) - 1).toNat default).a s.a with h' | h'
            · exact h'
            · exact absurd ⟨h, h'⟩ f2
          have g5' := ser_snoc g5 (by omega) f1 f3
          have hok := cAdd_ok (runN dv mg dn dn.length).1 n s f1 (fun hb => by
            rw [hrb.1] at hb
            have := of_decide_eq_true hb
            have h8 := f3 this
            rw [g7 this]; omega) (fun hb => by
            rw [hrb.1] at hb
            have h8 := of_decide_eq_true hb
            obtain ⟨m, hm⟩ : ∃ m, dn.length = m + 1 := ⟨dn.length - 1, by omega⟩
            have hg' := good_of g5'
            obtain ⟨p, H⟩ := sim_run (mg := mg) hg' hdd m (by simp; omega)
            have H2 := H.okx hg' hdd hdm (by simp; omega)
            rw [runN_app dn s (m + 1) (by omega)] at H2
            rw [hm]
            have e2 : (dn ++ [s]).getD (m + 1) default = s := by simp [List.getD_eq_getElem?_getD, ← hm]
            rw [e2] at H2
            exact H2)
          have hsn := runN_snoc (dv := dv) (mg := mg) dn s
          have hlast : (dn ++ [s]).getD (((dn ++ [s]).length : Int) - 1).toNat default = s := by
            have : (((dn ++ [s]).length : Int) - 1).toNat = dn.length := by simp
            rw [this]; simp [List.getD_eq_getElem?_getD]
          have hfl := cFlush_fc (runN dv mg (dn ++ [s]) (dn ++ [s]).length).1 s.a
          obtain ⟨t1, t2, t3, t4⟩ := stream_is (mg := mg) (good_of g5') hdd
          have hl5 : (dn ++ [s]).length = dn.length + 1 := by simp
          have hcf := cof_fc dv mg hdd (dn ++ [s]) (good_of g5')
          have hkp := keptOf_fc (dn ++ [s]) (by omega) _ t3 t2
          have hkl : (kep (dn ++ [s]) (cofSp dv mg (dn ++ [s]))).length ≤ 5000 := by unfold kep; rw [List.length_map]; omega
          have heq := eqSmp_fc false false (kep (dn ++ [s]) (cofSp dv mg (dn ++ [s]))) (by omega)
          rw [hsn] at t1 t4 hfl
          simp only at t1 t4 hfl
          have ed : List.map smpC dn ++ [[.g (.int .i64 s.a), .g (.int .i64 s.v), .g (.int .i64 s.q)]] = List.map smpC (dn ++ [s]) := by simp [smpC_eq]
          have hsx : (runN dv mg (dn ++ [s]) (dn ++ [s]).length).1 = (addS (runN dv mg dn dn.length).1 s).1 ∧ (runN dv mg (dn ++ [s]) (dn ++ [s]).length).2 = (runN dv mg dn dn.length).2 ++ (addS (runN dv mg dn dn.length).1 s).2 := by rw [hsn]; exact ⟨rfl, rfl⟩
          have hol : (runN dv mg dn dn.length).2.length + (addS (runN dv mg dn dn.length).1 s).2.length + (fluS (addS (runN dv mg dn dn.length).1 s).1).2.length ≤ 5000 := by
            rw [← t1] at hkl
            simp only [List.length_append] at hkl
            omega
          clear hsn g7 s1 s2 s3 s4
          generalize (addS (runN dv mg dn dn.length).1 s).2 = out at *
          generalize (runN dv mg dn dn.length).2 = all at *
          generalize (addS (runN dv mg dn dn.length).1 s).1 = x' at *
          simp (maxSteps := 1000000) (disch := omega) only [go_sem, eq_self, decide_true, decide_false, not_true_eq_false, not_false_eq_true, reduceIte, reduceCtorEq, Nat.reduceEqDiff, Nat.reduceAdd, Nat.reduceSub, Nat.reduceLeDiff]
          rw [hs]
          refine CALLX_det hok rfl (sc_data _ _) ?_
          simp (maxSteps := 1000000) (disch := omega) only [go_sem, eq_self, decide_true, decide_false, not_true_eq_false, not_false_eq_true, reduceIte, reduceCtorEq, Nat.reduceEqDiff, Nat.reduceAdd, Nat.reduceSub, Nat.reduceLeDiff]
          refine CALL_det haf (.inl rfl) ?_
          simp (maxSteps := 1000000) (disch := omega) only [go_sem, eq_self, decide_true, decide_false, not_true_eq_false, not_false_eq_true, reduceIte, reduceCtorEq, Nat.reduceEqDiff, Nat.reduceAdd, Nat.reduceSub, Nat.reduceLeDiff]
          rw [ed]
          refine callx_gen (flip_fc 12 (by omega) (by omega)) hL hl (by omega) (by omega) ⟨_, true, rfl⟩ ?_
          rintro pz r haz hbz ⟨bz, rfl⟩
          refine ⟨rfl, ?_⟩
          unfold strm
          simp (maxSteps := 1000000) (disch := omega) only [go_sem, eq_self, decide_true, decide_false, not_true_eq_false, not_false_eq_true, reduceIte, reduceCtorEq, Nat.reduceEqDiff, Nat.reduceAdd, Nat.reduceSub, Nat.reduceLeDiff]
          cases bz with
          | true =>
            simp (maxSteps := 1000000) (disch := omega) only [go_sem, eq_self, decide_true, decide_false, not_true_eq_false, not_false_eq_true, reduceIte, reduceCtorEq, Nat.reduceEqDiff, Nat.reduceAdd, Nat.reduceSub, Nat.reduceLeDiff]
            refine CALLX_det hfl rfl (sc_data _ _) ?_
            simp (maxSteps := 1000000) (disch := omega) only [go_sem, eq_self, decide_true, decide_false, not_true_eq_false, not_false_eq_true, reduceIte, reduceCtorEq, Nat.reduceEqDiff, Nat.reduceAdd, Nat.reduceSub, Nat.reduceLeDiff]
            refine ⟨by simp only [List.length_append, List.length_map]; omega, ?_⟩
            refine CALL_det hcf (.inl rfl) ?_
            simp (maxSteps := 1000000) (disch := omega) only [go_sem, eq_self, decide_true, decide_false, not_true_eq_false, not_false_eq_true, reduceIte, reduceCtorEq, Nat.reduceEqDiff, Nat.reduceAdd, Nat.reduceSub, Nat.reduceLeDiff]
            refine CALL_det hkp (.inl rfl) ?_
            rw [show List.map smpC all ++ List.map smpC out ++ List.map smpC (fluS x').2 = List.map smpC (kep (dn ++ [s]) (cofSp dv mg (dn ++ [s]))) by rw [← t1]; simp only [List.map_append]]
            rw [t4]
            simp (maxSteps := 1000000) (disch := omega) only [go_sem, eq_self, decide_true, decide_false, not_true_eq_false, not_false_eq_true, reduceIte, reduceCtorEq, Nat.reduceEqDiff, Nat.reduceAdd, Nat.reduceSub, Nat.reduceLeDiff]
            refine CALL_det heq (.inl rfl) ?_
            simp (maxSteps := 1000000) (disch := omega) only [go_sem, eq_self, decide_true, decide_false, not_true_eq_false, not_false_eq_true, reduceIte, reduceCtorEq, Nat.reduceEqDiff, Nat.reduceAdd, Nat.reduceSub, Nat.reduceLeDiff]
            refine ⟨i + 1, pz, s.a, [], rfl, ⟨by omega, by omega, by omega, by omega, rfl, by simp; omega, by simp⟩, by omega⟩
          | false =>
            simp (maxSteps := 1000000) (disch := omega) only [go_sem, eq_self, decide_true, decide_false, not_true_eq_false, not_false_eq_true, reduceIte, reduceCtorEq, Nat.reduceEqDiff, Nat.reduceAdd, Nat.reduceSub, Nat.reduceLeDiff]
            refine ⟨i + 1, pz, s.a, dn ++ [s], ?_, ⟨by omega, by omega, by omega, by omega, g5', by omega, fun _ => by rw [hlast]⟩, by omega⟩
            simp only [sstSt, strm, smpRow, hsx.1, hsx.2, List.map_append]
      · have ea : adF dn s = smpFault s := by unfold adF; rw [if_pos f1]
        rw [ea] at haf
        have hno := cAdd_no (runN dv mg dn dn.length).1 n s f1
        simp (maxSteps := 1000000) (disch := omega) only [go_sem, eq_self, decide_true, decide_false, not_true_eq_false, not_false_eq_true, reduceIte, reduceCtorEq, Nat.reduceEqDiff, Nat.reduceAdd, Nat.reduceSub, Nat.reduceLeDiff]
        rw [hs]
        refine CALLX_det hno rfl (sc_data _ _) ?_
        simp (maxSteps := 1000000) (disch := omega) only [go_sem, eq_self, decide_true, decide_false, not_true_eq_false, not_false_eq_true, reduceIte, reduceCtorEq, Nat.reduceEqDiff, Nat.reduceAdd, Nat.reduceSub, Nat.reduceLeDiff]
        refine CALL_det haf (.inl rfl) ?_
        simp (maxSteps := 1000000) (disch := omega) only [go_sem, eq_self, decide_true, decide_false, not_true_eq_false, not_false_eq_true, reduceIte, reduceCtorEq, Nat.reduceEqDiff, Nat.reduceAdd, Nat.reduceSub, Nat.reduceLeDiff]
        exact ⟨i + 1, q, n, dn, rfl, ⟨by omega, by omega, by omega, by omega, g5, by omega, g7⟩, by omega⟩
    · have hfl := cFlush_fc (runN dv mg dn dn.length).1 n
      have hcf := cof_fc dv mg hdd dn hg
      have hkp := keptOf_fc dn (by omega) _ s3 s2
      have hkl : (kep dn (cofSp dv mg dn)).length ≤ 5000 := by unfold kep; rw [List.length_map]; omega
      have heq := eqSmp_fc false false (kep dn (cofSp dv mg dn)) (by omega)
      have hfl2 := cFlush_fc (ini dv mg) n
      have hol : (runN dv mg dn dn.length).2.length + (fluS (runN dv mg dn dn.length).1).2.length ≤ 5000 := by
        rw [← s1] at hkl
        simp only [List.length_append] at hkl
        omega
      generalize (runN dv mg dn dn.length).2 = all at *
      generalize (runN dv mg dn dn.length).1 = x' at *
      simp (maxSteps := 1000000) (disch := omega) only [go_sem, eq_self, decide_true, decide_false, not_true_eq_false, not_false_eq_true, reduceIte, reduceCtorEq, Nat.reduceEqDiff, Nat.reduceAdd, Nat.reduceSub, Nat.reduceLeDiff]
      refine CALLX_det hfl rfl (sc_data _ _) ?_
      simp (maxSteps := 1000000) (disch := omega) only [go_sem, eq_self, decide_true, decide_false, not_true_eq_false, not_false_eq_true, reduceIte, reduceCtorEq, Nat.reduceEqDiff, Nat.reduceAdd, Nat.reduceSub, Nat.reduceLeDiff]
      refine CALL_det hcf (.inl rfl) ?_
      simp (maxSteps := 1000000) (disch := omega) only [go_sem, eq_self, decide_true, decide_false, not_true_eq_false, not_false_eq_true, reduceIte, reduceCtorEq, Nat.reduceEqDiff, Nat.reduceAdd, Nat.reduceSub, Nat.reduceLeDiff]
      refine CALL_det hkp (.inl rfl) ?_
      rw [show List.map smpC all ++ List.map smpC (fluS x').2 = List.map smpC (kep dn (cofSp dv mg dn)) by rw [← s1]; simp only [List.map_append]]
      rw [s4]
      simp (maxSteps := 1000000) (disch := omega) only [go_sem, eq_self, decide_true, decide_false, not_true_eq_false, not_false_eq_true, reduceIte, reduceCtorEq, Nat.reduceEqDiff, Nat.reduceAdd, Nat.reduceSub, Nat.reduceLeDiff]
      refine CALL_det heq (.inl rfl) ?_
      simp (maxSteps := 1000000) (disch := omega) only [go_sem, eq_self, decide_true, decide_false, not_true_eq_false, not_false_eq_true, reduceIte, reduceCtorEq, Nat.reduceEqDiff, Nat.reduceAdd, Nat.reduceSub, Nat.reduceLeDiff]
      refine CALLX_det hfl2 rfl (sc_data _ _) ?_
      have e0 : (fluS (ini dv mg)).2 = [] := rfl
      rw [e0]
      simp (maxSteps := 1000000) (disch := omega) only [go_sem, eq_self, decide_true, decide_false, not_true_eq_false, not_false_eq_true, reduceIte, reduceCtorEq, Nat.reduceEqDiff, Nat.reduceAdd, Nat.reduceSub, Nat.reduceLeDiff]
      refine CALL_det pressed_fc (.inl rfl) ?_
      simp (maxSteps := 1000000) (disch := omega) only [go_sem, eq_self, decide_true, decide_false, not_true_eq_false, not_false_eq_true, reduceIte, reduceCtorEq, Nat.reduceEqDiff, Nat.reduceAdd, Nat.reduceSub, Nat.reduceLeDiff]
  · simp (maxSteps := 1000000) (disch := omega) only [go_sem, eq_self, decide_true, decide_false, not_true_eq_false, not_false_eq_true, reduceIte, reduceCtorEq, Nat.reduceEqDiff, Nat.reduceAdd, Nat.reduceSub, Nat.reduceLeDiff]
    refine ⟨rfl, CALLM_less (new_bad dv mg h1) rfl ?_⟩
    simp (maxSteps := 1000000) (disch := omega) only [go_sem, eq_self, decide_true, decide_false, not_true_eq_false, not_false_eq_true, reduceIte, reduceCtorEq, Nat.reduceEqDiff, Nat.reduceAdd, Nat.reduceSub, Nat.reduceLeDiff]
    refine CALL_det (doorFault_fc dv mg) (.inl rfl) ?_
    simp (maxSteps := 1000000) (disch := omega) only [go_sem, eq_self, decide_true, decide_false, not_true_eq_false, not_false_eq_true, reduceIte, reduceCtorEq, Nat.reduceEqDiff, Nat.reduceAdd, Nat.reduceSub, Nat.reduceLeDiff]
    refine CALL_det pressed_fc (.inl rfl) ?_
    simp (maxSteps := 1000000) (disch := omega) only [go_sem, eq_self, decide_true, decide_false, not_true_eq_false, not_false_eq_true, reduceIte, reduceCtorEq, Nat.reduceEqDiff, Nat.reduceAdd, Nat.reduceSub, Nat.reduceLeDiff]
theorem ss_own : ownKnob Try.prog.godebug = none := by kernel_rfl
theorem ss_laid : laidOutB Try.prog = true := by kernel_rfl
set_option maxRecDepth 100000 in
theorem ss_lifted (os : Os) (started : os.Started) (H : Type) (enc : TypeId × Value → H) :
    ReturnsInHanded {} Try.checked os 3 .any (Rows.samplesStreamSpec.pre6 enc Try.prog Try.f3 Rows.samplesStreamRow.domain false) (Rows.samplesStreamSpec.post enc Try.prog Try.f3 false true false false) := by
  refine returnsInHanded_of_change (C := Try.checked) ss_own started (by kernel_rfl) Try.func3
    (ChangeSpec.witness6 (enc := enc) (C := Try.checked) false ⟨#[], #[.slice none 0 0], []⟩ 8 (by kernel_rfl) (by kernel_rfl) (by kernel_rfl) (by kernel_rfl)) ?_
  intro W base args ds gs before hval hW _ _
  exact law_contract (P := Try.prog) (fun L h1 h2 => ss_fc L h1 h2) (fun _ _ => rfl) rfl rfl rfl ss_laid (by kernel_rfl) (of_decide_eq_true (by kernel_rfl)) Try.underlying22 Try.underlying3 (by kernel_rfl) Try.underlying4 W base args ds gs before hval hW
theorem ss_over : Rows.samplesStreamRow.holds Try.pinned (OpenSpec.ofChange Rows.samplesStreamSpec) :=
  OpenClaim.holds_of_wide 3 Try.f3 rfl rfl rfl rfl rfl rfl rfl ⟨rfl, rfl, rfl, rfl, rfl⟩ rfl rfl rfl rfl rfl (by kernel_rfl) Try.func3 (by kernel_rfl)
    (of_decide_eq_true (by kernel_rfl)) (by unfold Func.isWrapper; first | (rw [if_pos (by decide +kernel)]; kernel_rfl) | (rw [if_neg (by decide +kernel)]; exact ⟨rfl, rfl⟩))
    (fun os started H enc _ => ss_lifted os started H enc)
theorem samples_stream : Rows.SamplesStreamSaid := ss_over
end Go.Proofs.Ytggbcgldnjmobaa
