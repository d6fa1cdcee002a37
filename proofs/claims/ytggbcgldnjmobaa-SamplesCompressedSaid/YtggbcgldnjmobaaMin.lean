
/-
  Minimum: the fewest samples that fit.
-/
import Derived.Test.YtggbcgldnjmobaaMnp
namespace Go.Proofs.Ytggbcgldnjmobaa
open Go Go.Ai
set_option linter.unusedSimpArgs false
set_option linter.unusedVariables false
set_option maxHeartbeats 4000000
def A_minimum : List Ann := [⟨(some ⟨[1,2], [2], []⟩), [], [], [], []⟩, ⟨(some ⟨[1,2,6], [2], []⟩), [], [], [], []⟩, ⟨(some ⟨[1,2,6,20], [2], []⟩), [], [], [], []⟩, ⟨(some ⟨[4,5], [], []⟩), [], [], [(4, 1)], []⟩, ⟨(some ⟨[1,2,22], [2], []⟩), [], [], [], []⟩, ⟨(some ⟨[4,5], [], []⟩), [], [], [(4, 1)], []⟩, ⟨(some ⟨[1,2,26], [2], []⟩), [], [], [], []⟩, ⟨(some ⟨[4,5], [], []⟩), [], [], [(4, 1)], []⟩, ⟨(some ⟨[1,2,7], [2], [32]⟩), [], [], [], []⟩, ⟨(some ⟨[1,2,7,8], [2], [32,35]⟩), [], [], [], []⟩, ⟨(some ⟨[1,2,7,8], [2], [32,35]⟩), [], [], [], []⟩, ⟨(some ⟨[1,2,7,8,9], [2], [32,35]⟩), [], [], [], []⟩, ⟨(some ⟨[1,2,7,8,9,45], [2], [32,35]⟩), [], [], [], []⟩, ⟨(some ⟨[1,2,7,8,9,10], [2], [32,35]⟩), [], [], [], []⟩, ⟨(some ⟨[1,2,7,8,9,10,53], [2], [32,35]⟩), [], [], [], []⟩, ⟨(some ⟨[1,2,7,8,9,10,81], [2], [32,35]⟩), [], [], [], []⟩, ⟨(some ⟨[1,2,7,8,9,10], [2], [32,35]⟩), [], [], [], []⟩, ⟨(some ⟨[1,2,7,8,9,10], [2], [32,35]⟩), [], [], [], []⟩, ⟨(some ⟨[1,2,7,8,9], [2], [32,35]⟩), [], [], [], []⟩, ⟨(some ⟨[1,7,11], [], [94]⟩), [], [], [], [(94, ⟨[], [], [], [], []⟩)]⟩, ⟨(some ⟨[1,7,11,12], [], [94]⟩), [], [], [], []⟩, ⟨(some ⟨[1,7,11,12,99], [], [94]⟩), [], [], [], []⟩, ⟨(some ⟨[1,7,11,12], [], [94]⟩), [], [], [], []⟩, ⟨(some ⟨[1,7,11,12], [], [94]⟩), [], [], [], []⟩, ⟨(some ⟨[4,5], [], []⟩), [], [], [], []⟩]
def C_minimum : AC := (.seq (.reg false [⟨(some 2), none, .box (.t 0)⟩, ⟨(some 4), none, .mv (.v (.slice none 0 0))⟩, ⟨(some 5), none, .mv (.v (.int .i64 (0)))⟩] (some ⟨[1,2], [2], []⟩))
  (.seq (.seq (.reg false [⟨(some 13), none, .load true 2 (.t 2)⟩, ⟨(some 14), none, .call (.f 75) [(.t 13)]⟩, ⟨(some 15), none, .mv (.t 1)⟩, ⟨(some 16), none, .call (.f 85) [(.t 15)]⟩, ⟨(some 17), none, .bslice 1 2 [(.t 14), (.t 16)]⟩, ⟨(some 18), none, .call (.f 84) [(.t 17)]⟩, ⟨(some 6), none, .mv (.t 18)⟩] (some ⟨[1,2,6], [2], []⟩))
  (.seq (.reg false [⟨(some 19), none, .mv (.t 6)⟩, ⟨(some 20), none, .bin .neq (.t 19) (.v (.int .i64 (0)))⟩] (some ⟨[1,2,6,20], [2], []⟩))
  (.cond (.t 20)
  (.seq (.seq (.reg false [⟨(some 21), none, .mv (.t 6)⟩, ⟨(some 4), none, .mv (.v (.slice none 0 0))⟩, ⟨(some 5), none, .mv (.t 21)⟩] (some ⟨[4,5], [], []⟩))
  (.ty 4 1))
  .ret)
  .skip)))
  (.seq (.block 0 (.seq (.reg false [⟨(some 23), none, .mv (.t 1)⟩, ⟨(some 24), none, .len (.t 23)⟩, ⟨(some 25), none, .bin .gtr (.t 24) (.v (.int .i64 (300)))⟩, ⟨(some 22), none, .mv (.t 25)⟩] (some ⟨[1,2,22], [2], []⟩))
  (.cond (.t 22)
  (.seq (.seq (.reg false [⟨(some 4), none, .mv (.v (.slice none 0 0))⟩, ⟨(some 5), none, .mv (.v (.int .i64 (2)))⟩] (some ⟨[4,5], [], []⟩))
  (.ty 4 1))
  .ret)
  (.seq (.reg false [⟨(some 27), none, .mv (.t 1)⟩, ⟨(some 28), none, .len (.t 27)⟩, ⟨(some 29), none, .bin .eql (.t 28) (.v (.int .i64 (0)))⟩, ⟨(some 26), none, .mv (.t 29)⟩] (some ⟨[1,2,26], [2], []⟩))
  (.cond (.t 26)
  (.seq (.seq (.reg false [⟨(some 4), none, .mv (.v (.slice none 0 0))⟩, ⟨(some 5), none, .mv (.v (.int .i64 (0)))⟩] (some ⟨[4,5], [], []⟩))
  (.ty 4 1))
  .ret)
  .skip)))))
  (.seq (.reg false [⟨(some 30), none, .mv (.t 1)⟩, ⟨(some 31), none, .len (.t 30)⟩, ⟨(some 32), none, .mkr 3 1 8 [(.int .i64 (0))] (.t 31) (.t 31)⟩, ⟨(some 7), none, .mv (.t 32)⟩] (some ⟨[1,2,7], [2], [32]⟩))
  (.seq (.reg false [⟨(some 33), none, .mv (.t 1)⟩, ⟨(some 34), none, .len (.t 33)⟩, ⟨(some 35), none, .mkr 3 1 8 [(.int .i64 (0))] (.t 34) (.t 34)⟩, ⟨(some 8), none, .mv (.t 35)⟩] (some ⟨[1,2,7,8], [2], [32,35]⟩))
  (.seq (.reg false [⟨(some 36), none, .mv (.t 8)⟩, ⟨(some 37), none, .mv (.t 1)⟩, ⟨(some 38), none, .len (.t 37)⟩, ⟨(some 39), none, .bin .sub (.t 38) (.v (.int .i64 (1)))⟩, ⟨(some 40), none, .iadr 1 (.t 36) (.t 39)⟩, ⟨none, none, .store 1 (.t 40) (.v (.int .i64 (1)))⟩] (some ⟨[1,2,7,8], [2], [32,35]⟩))
  (.seq (.seq (.reg false [⟨(some 41), none, .mv (.t 1)⟩, ⟨(some 42), none, .len (.t 41)⟩, ⟨(some 43), none, .bin .sub (.t 42) (.v (.int .i64 (2)))⟩, ⟨(some 9), none, .mv (.t 43)⟩] (some ⟨[1,2,7,8,9], [2], [32,35]⟩))
  (.block 1 (.loop (.seq (.seq (.reg false [⟨(some 44), none, .mv (.t 9)⟩, ⟨(some 45), none, .bin .geq (.t 44) (.v (.int .i64 (0)))⟩] (some ⟨[1,2,7,8,9,45], [2], [32,35]⟩))
  (.cond (.t 45)
  .skip
  (.exit 1)))
  (.seq (.block 2 (.seq (.reg false [⟨(some 48), none, .mv (.t 9)⟩, ⟨(some 49), none, .bin .add (.t 48) (.v (.int .i64 (1)))⟩, ⟨(some 10), none, .mv (.t 49)⟩] (some ⟨[1,2,7,8,9,10], [2], [32,35]⟩))
  (.block 3 (.loop (.seq (.seq (.reg false [⟨(some 50), none, .mv (.t 10)⟩, ⟨(some 51), none, .mv (.t 1)⟩, ⟨(some 52), none, .len (.t 51)⟩, ⟨(some 53), none, .bin .lss (.t 50) (.t 52)⟩] (some ⟨[1,2,7,8,9,10,53], [2], [32,35]⟩))
  (.cond (.t 53)
  .skip
  (.exit 3)))
  (.seq (.block 4 (.seq (.reg true [⟨(some 56), none, .mv (.t 7)⟩, ⟨(some 57), none, .mv (.t 9)⟩, ⟨(some 58), none, .iadr 1 (.t 56) (.t 57)⟩, ⟨(some 59), none, .load false 1 (.t 58)⟩, ⟨(some 60), none, .bin .eql (.t 59) (.v (.int .i64 (0)))⟩, ⟨(some 61), none, .mv (.t 60)⟩, ⟨(some 62), (some (61, false)), .mv (.t 8)⟩, ⟨(some 63), (some (61, false)), .mv (.t 10)⟩, ⟨(some 64), (some (61, false)), .iadr 1 (.t 62) (.t 63)⟩, ⟨(some 65), (some (61, false)), .load false 1 (.t 64)⟩, ⟨(some 66), (some (61, false)), .mv (.t 8)⟩, ⟨(some 67), (some (61, false)), .mv (.t 7)⟩, ⟨(some 68), (some (61, false)), .mv (.t 9)⟩, ⟨(some 69), (some (61, false)), .iadr 1 (.t 67) (.t 68)⟩, ⟨(some 70), (some (61, false)), .load false 1 (.t 69)⟩, ⟨(some 71), (some (61, false)), .iadr 1 (.t 66) (.t 70)⟩, ⟨(some 72), (some (61, false)), .load false 1 (.t 71)⟩, ⟨(some 73), (some (61, false)), .bin .lss (.t 65) (.t 72)⟩, ⟨(some 74), none, .pick (.t 61) (.v (.bool true)) (.t 73)⟩, ⟨(some 75), none, .mv (.t 74)⟩, ⟨(some 76), (some (75, true)), .load true 2 (.t 2)⟩, ⟨(some 77), (some (75, true)), .mv (.t 1)⟩, ⟨(some 78), (some (75, true)), .mv (.t 9)⟩, ⟨(some 79), (some (75, true)), .mv (.t 10)⟩, ⟨(some 80), (some (75, true)), .call (.f 87) [(.t 76), (.t 77), (.t 78), (.t 79)]⟩, ⟨(some 81), none, .pick (.t 75) (.t 80) (.v (.bool false))⟩] (some ⟨[1,2,7,8,9,10,81], [2], [32,35]⟩))
  (.cond (.t 81)
  (.reg false [⟨(some 82), none, .mv (.t 7)⟩, ⟨(some 83), none, .mv (.t 9)⟩, ⟨(some 84), none, .mv (.t 8)⟩, ⟨(some 85), none, .mv (.t 9)⟩, ⟨(some 86), none, .mv (.t 10)⟩, ⟨(some 87), none, .mv (.t 8)⟩, ⟨(some 88), none, .mv (.t 10)⟩, ⟨(some 89), none, .iadr 1 (.t 87) (.t 88)⟩, ⟨(some 90), none, .load false 1 (.t 89)⟩, ⟨(some 91), none, .bin .add (.t 90) (.v (.int .i64 (1)))⟩, ⟨(some 92), none, .iadr 1 (.t 82) (.t 83)⟩, ⟨none, none, .store 1 (.t 92) (.t 86)⟩, ⟨(some 93), none, .iadr 1 (.t 84) (.t 85)⟩, ⟨none, none, .store 1 (.t 93) (.t 91)⟩] (some ⟨[1,2,7,8,9,10], [2], [32,35]⟩))
  .skip)))
  (.reg false [⟨(some 54), none, .mv (.t 10)⟩, ⟨(some 55), none, .bin .add (.t 54) (.v (.int .i64 (1)))⟩, ⟨(some 10), none, .mv (.t 55)⟩] (some ⟨[1,2,7,8,9,10], [2], [32,35]⟩))))))))
  (.reg false [⟨(some 46), none, .mv (.t 9)⟩, ⟨(some 47), none, .bin .sub (.t 46) (.v (.int .i64 (1)))⟩, ⟨(some 9), none, .mv (.t 47)⟩] (some ⟨[1,2,7,8,9], [2], [32,35]⟩)))))))
  (.seq (.reg false [⟨(some 94), none, .bslr 3 1 1 [(.v (.int .i64 (0)))]⟩, ⟨(some 11), none, .mv (.t 94)⟩] (some ⟨[1,7,11], [], [94]⟩))
  (.seq (.seq (.reg false [⟨(some 12), none, .mv (.v (.int .i64 (0)))⟩] (some ⟨[1,7,11,12], [], [94]⟩))
  (.block 5 (.loop (.seq (.seq (.reg false [⟨(some 95), none, .mv (.t 12)⟩, ⟨(some 96), none, .mv (.t 1)⟩, ⟨(some 97), none, .len (.t 96)⟩, ⟨(some 98), none, .bin .sub (.t 97) (.v (.int .i64 (1)))⟩, ⟨(some 99), none, .bin .lss (.t 95) (.t 98)⟩] (some ⟨[1,7,11,12,99], [], [94]⟩))
  (.cond (.t 99)
  .skip
  (.exit 5)))
  (.seq (.block 6 (.reg false [⟨(some 104), none, .mv (.t 11)⟩, ⟨(some 105), none, .mv (.t 7)⟩, ⟨(some 106), none, .mv (.t 12)⟩, ⟨(some 107), none, .iadr 1 (.t 105) (.t 106)⟩, ⟨(some 108), none, .load false 1 (.t 107)⟩, ⟨(some 109), none, .bslice 1 1 [(.t 108)]⟩, ⟨(some 110), none, .append 3 1 8 (.t 104) (.t 109)⟩, ⟨(some 11), none, .mv (.t 110)⟩] (some ⟨[1,7,11,12], [], [94]⟩)))
  (.reg false [⟨(some 100), none, .mv (.t 7)⟩, ⟨(some 101), none, .mv (.t 12)⟩, ⟨(some 102), none, .iadr 1 (.t 100) (.t 101)⟩, ⟨(some 103), none, .load false 1 (.t 102)⟩, ⟨(some 12), none, .mv (.t 103)⟩] (some ⟨[1,7,11,12], [], [94]⟩)))))))
  (.seq (.reg false [⟨(some 111), none, .mv (.t 11)⟩, ⟨(some 4), none, .mv (.t 111)⟩, ⟨(some 5), none, .mv (.v (.int .i64 (0)))⟩] (some ⟨[4,5], [], []⟩))
  .ret))))))))))
theorem c_minimum : compileCode Try.prog Try.f31.ntmps (Try.f31.body.getD .skip) A_minimum = some (C_minimum, []) := by kernel_rfl
theorem r_minimum : compileRes Try.prog Try.f31.results.toList = some [.t 4, .t 5] := by kernel_rfl
theorem b_minimum : Try.f31.body = some (Try.f31.body.getD .skip) := by kernel_rfl
theorem n_minimum : (Try.f31.name == "runtime.NumGoroutine") = false := by kernel_rfl
theorem fc_minimum {xt : Option (List Cel)} {args : List Val} {R : List Cel → Val → Prop} (hn : (if xt.isSome then 1 else 0) + args.length ≤ Try.f31.ntmps) (h : ex Try.prog C_minimum [] (fpost xt [.t 4, .t 5] R) (initSt xt args)) : FC Try.prog 31 xt args R :=
  fc_of_awp Try.func31 b_minimum n_minimum c_minimum r_minimum (of_decide_eq_true (by kernel_rfl)) hn h
theorem fcm_minimum {H : Hp} {K : Keep} {args : List Val} {R : Hp → Val → Prop} (hn : args.length ≤ Try.f31.ntmps) (hkb : ∀ p ∈ H.bs, p.1 = 0 ∨ XK ≤ p.1) (hkr : ∀ p ∈ H.rs, XK ≤ p.1) (h : ex Try.prog C_minimum [] (mpost H K [.t 4, .t 5] R) (initM H args)) : FCM Try.prog 31 H args R :=
  fcm_of_awp Try.func31 b_minimum n_minimum c_minimum r_minimum (of_decide_eq_true (by kernel_rfl)) hn hkb hkr h
theorem fcms_minimum {S : List Nat} {H : Hp} {K : Keep} {args : List Val} {R : Hp → Val → Prop} (hn : args.length ≤ Try.f31.ntmps) (hkb : ∀ p ∈ H.bs, p.1 = 0 ∨ XK ≤ p.1) (hkr : ∀ p ∈ H.rs, XK ≤ p.1) (h : ex Try.prog C_minimum [] (mpostS S H K [.t 4, .t 5] R) (initM H args))   : FCMS Try.prog 31 S H args R :=
  fcms_of_awp Try.func31 b_minimum n_minimum c_minimum r_minimum (of_decide_eq_true (by kernel_rfl)) hn hkb hkr h


theorem zlt1 : ((0 : Nat) < 1) = True := by simp
theorem rep_int {n : Nat} {x : Int} : List.replicate n [Cel.g (.int .i64 x)] = (List.replicate n x).map intC := by simp [List.map_replicate, intC]
attribute [go_sem] zlt1 rep_int List.length_replicate Int.toNat_natCast
abbrev iRow (l : List Int) : Row := ⟨0, 3, 1, l.map intC⟩
def mnSt (dv mg : Int) (l : List Smp) (i : Int) (N F : List Int) : AS := ⟨tabV [(1, smps false l), (2, .one (.bx 2 0)), (7, .one (.ow 32 0)), (8, .one (.ow 35 0)), (9, iv i)], tabO [(2, [.g (.int .i64 dv), .g (.int .i64 mg)])], tabO [(32, iRow N), (35, iRow F)]⟩
def mnkSt (dv mg : Int) (l : List Smp) (i k : Int) (N F : List Int) : AS := ⟨tabV [(1, smps false l), (2, .one (.bx 2 0)), (7, .one (.ow 32 0)), (8, .one (.ow 35 0)), (9, iv i), (10, iv k)], tabO [(2, [.g (.int .i64 dv), .g (.int .i64 mg)])], tabO [(32, iRow N), (35, iRow F)]⟩
def mnpSt (l : List Smp) (N : List Int) (out : List Int) (i : Int) : AS := ⟨tabV [(1, smps false l), (7, ints true N), (11, .one (.ow 94 0)), (12, iv i)], tabO [], tabO [(94, iRow out)]⟩
/-- It is the fewest, and the first of these. -/
def MinP (dv mg : Int) (l : List Smp) (m : List Int) : Prop :=
  if l.length = 0 then m = [] else ∃ (nf ff : Int → Int) (r : List Int), m = 0 :: r ∧ Opt l.length (jnB dv mg l) nf ff (-1) ∧ isP l.length nf 0 r
theorem minP_nil {dv mg : Int} {l : List Smp} (h : l.length = 0) : MinP dv mg l [] := by unfold MinP; rw [if_pos h]
theorem minP_of {dv mg : Int} {l : List Smp} {nf ff : Int → Int} {r : List Int} (h : ¬l.length = 0) (h1 : Opt l.length (jnB dv mg l) nf ff (-1)) (h2 : isP l.length nf 0 r) : MinP dv mg l (0 :: r) := by
  unfold MinP; rw [if_neg h]; exact ⟨nf, ff, r, rfl, h1, h2⟩
theorem jnB_next {dv mg : Int} {l : List Smp} {i : Int} : jnB dv mg l i (i + 1) = true := by unfold jnB; simp
theorem min_ex (dv mg : Int) (l : List Smp) : ∃ m, MinP dv mg l m := by
  by_cases h : l.length = 0
  · exact ⟨[], minP_nil h⟩
  · obtain ⟨nf, ff, h1⟩ := opt_ex (n := l.length) (jn := jnB dv mg l) (fun i _ _ => jnB_next) (by omega) (l.length - 1) (by omega)
    rw [show (l.length : Int) - 2 - ((l.length - 1 : Nat) : Int) = -1 by omega] at h1
    obtain ⟨r, hr⟩ := path_ex h1 (l.length - 1) 0 (by omega) (by omega) (by omega)
    exact ⟨0 :: r, minP_of h h1 hr⟩
theorem ixf_app {a : List Int} {i : Int} (h0 : 0 ≤ i) (h : i < a.length) (x : List Int) : ixf (a ++ x) i = ixf a i := by
  unfold ixf
  simp [List.getD_eq_getElem?_getD, List.getElem?_append_left (show i.toNat < a.length by omega)]
/-- The path up to here: what comes behind it goes on. -/
def pth (n : Int) (nf : Int → Int) : Int → List Int → Int → Prop
  | a, [], c => a = c
  | a, b :: r, c => a + 1 < n ∧ b = nf a ∧ pth n nf b r c
theorem pth_snoc {n : Int} {nf : Int → Int} : ∀ (r : List Int) (a c : Int), pth n nf a r c → c + 1 < n → pth n nf a (r ++ [nf c]) (nf c)
  | [], a, c, h, hc => by
    have h : a = c := h
    subst h
    exact ⟨hc, rfl, rfl⟩
  | b :: r, a, c, h, hc => ⟨h.1, h.2.1, pth_snoc r b c h.2.2 hc⟩
theorem pth_isP {n : Int} {nf : Int → Int} : ∀ (r : List Int) (a : Int), pth n nf a r (n - 1) → isP n nf a r
  | [], a, h => h
  | b :: r, a, h => ⟨h.1, h.2.1, pth_isP r b h.2.2⟩
theorem pth_len {n : Int} {nf : Int → Int} (hn : ∀ j, 0 ≤ j → j + 1 < n → j < nf j ∧ nf j < n) : ∀ (r : List Int) (a c : Int), 0 ≤ a → pth n nf a r c → r.length + a ≤ c
  | [], a, c, h0, h => by have h : a = c := h; simp; omega
  | b :: r, a, c, h0, h => by
    obtain ⟨h1, h2, h3⟩ := h
    have := hn a h0 h1
    have := pth_len hn r b c (by omega) h3
    simp only [List.length_cons]; omega
set_option maxHeartbeats 8000000 in
theorem min_ok (dv mg : Int) (hd : excF dv mg = 0) (l : List Smp) (hs : serFault l = 0) (hl3 : l.length ≤ 300) : FC Try.prog 31 none [twoV dv mg, smps false l] (fun _ r => ∃ m, MinP dv mg l m ∧ r = .tu [ints true m, iv 0]) := by
  refine fc_minimum (by simp +arith) ?_
  have hg := good_of hs
  have hdd : 0 ≤ dv ∧ dv ≤ 2000000 := by unfold excF at hd; split at hd <;> omega
  have hcd := checkDoor_fc dv mg
  have hcs := checkSeries_fc l (by omega)
  have hf := first_fc false [0, 0] (by simp)
  rw [hd] at hcd
  rw [hs] at hcs
  rw [show orSp [0, 0] = 0 from rfl] at hf
  unfold C_minimum
  by_cases h0 : l.length = 0
  · simp (maxSteps := 1000000) (disch := omega) only [go_sem, eq_self, decide_true, decide_false, not_true_eq_false, not_false_eq_true, reduceIte, reduceCtorEq, Nat.reduceEqDiff, Nat.reduceAdd, Nat.reduceSub, Nat.reduceLeDiff]
    refine CALL_det hcd (.inl rfl) ?_
    simp (maxSteps := 1000000) (disch := omega) only [go_sem, eq_self, decide_true, decide_false, not_true_eq_false, not_false_eq_true, reduceIte, reduceCtorEq, Nat.reduceEqDiff, Nat.reduceAdd, Nat.reduceSub, Nat.reduceLeDiff]
    refine CALL_det hcs (.inl rfl) ?_
    simp (maxSteps := 1000000) (disch := omega) only [go_sem, eq_self, decide_true, decide_false, not_true_eq_false, not_false_eq_true, reduceIte, reduceCtorEq, Nat.reduceEqDiff, Nat.reduceAdd, Nat.reduceSub, Nat.reduceLeDiff]
    refine CALL_det hf (.inl rfl) ?_
    simp (maxSteps := 1000000) (disch := omega) only [go_sem, eq_self, decide_true, decide_false, not_true_eq_false, not_false_eq_true, reduceIte, reduceCtorEq, Nat.reduceEqDiff, Nat.reduceAdd, Nat.reduceSub, Nat.reduceLeDiff]
    exact ⟨[], minP_nil h0, rfl⟩
  · have hrl : (List.replicate l.length (0 : Int)).length = l.length := List.length_replicate
    simp (maxSteps := 1000000) (disch := omega) only [go_sem, eq_self, decide_true, decide_false, not_true_eq_false, not_false_eq_true, reduceIte, reduceCtorEq, Nat.reduceEqDiff, Nat.reduceAdd, Nat.reduceSub, Nat.reduceLeDiff]
    refine CALL_det hcd (.inl rfl) ?_
    simp (maxSteps := 1000000) (disch := omega) only [go_sem, eq_self, decide_true, decide_false, not_true_eq_false, not_false_eq_true, reduceIte, reduceCtorEq, Nat.reduceEqDiff, Nat.reduceAdd, Nat.reduceSub, Nat.reduceLeDiff]
    refine CALL_det hcs (.inl rfl) ?_
    simp (maxSteps := 1000000) (disch := omega) only [go_sem, eq_self, decide_true, decide_false, not_true_eq_false, not_false_eq_true, reduceIte, reduceCtorEq, Nat.reduceEqDiff, Nat.reduceAdd, Nat.reduceSub, Nat.reduceLeDiff]
    refine CALL_det hf (.inl rfl) ?_
    simp (maxSteps := 1000000) (disch := omega) only [go_sem, eq_self, decide_true, decide_false, not_true_eq_false, not_false_eq_true, reduceIte, reduceCtorEq, Nat.reduceEqDiff, Nat.reduceAdd, Nat.reduceSub, Nat.reduceLeDiff]
    have hset : ∀ (N : List Int) (j : Nat) (x : Int), (N.map intC).set j [.g (.int .i64 x)] = (N.set j x).map intC := fun N j x => by rw [List.map_set]; rfl
    refine ex_loop3 (mnSt dv mg l) (fun i N F => -1 ≤ i ∧ i ≤ l.length - 2 ∧ N.length = l.length ∧ F.length = l.length ∧ Opt l.length (jnB dv mg l) (ixf N) (ixf F) i) (fun i _ _ => (i + 1).toNat) (l.length - 2) (List.replicate l.length 0) ((List.replicate l.length 0).set ((l.length : Int) - 1).toNat 1) ⟨by omega, by omega, hrl, by rw [List.length_set, hrl], ?_⟩ ?_ ?_
    · have hl1 : 0 ≤ (l.length : Int) - 1 := by omega
      have e1 : ixf ((List.replicate l.length 0).set ((l.length : Int) - 1).toNat 1) ((l.length : Int) - 1) = 1 := by rw [ixf_set hl1 (by rw [hrl]; omega) hl1, if_pos rfl]
      refine ⟨fun j h1 h2 => ?_, e1, fun j h1 h2 => by omega, fun j h1 h2 => ?_⟩
      · obtain rfl : j = (l.length : Int) - 1 := by omega
        rw [e1]; omega
      · unfold ixf
        simp [List.getD_eq_getElem?_getD, List.getElem?_replicate, show j.toNat < l.length by omega]
    · simp only [mnSt, iRow, hset]
    · rintro i N F ⟨g1, g2, g3, g4, g5⟩
      unfold mnSt
      by_cases hi : 0 ≤ i
      · have g6 := g5.inn hi
        simp (maxSteps := 1000000) (disch := omega) only [go_sem, eq_self, decide_true, decide_false, not_true_eq_false, not_false_eq_true, reduceIte, reduceCtorEq, Nat.reduceEqDiff, Nat.reduceAdd, Nat.reduceSub, Nat.reduceLeDiff]
        refine ex_loop3 (mnkSt dv mg l i) (fun k N F => i < k ∧ k ≤ l.length ∧ N.length = l.length ∧ F.length = l.length ∧ Inn l.length (jnB dv mg l) (ixf N) (ixf F) i k) (fun k _ _ => (l.length - k).toNat) (i + 1) N F ⟨by omega, by omega, g3, g4, g6⟩ rfl ?_
        clear g3 g4 g5 g6 N F
        rintro k N F ⟨h1, h2, h3, h4, h5⟩
        unfold mnkSt
        by_cases hk : k < l.length
        · have hj := joined_fc dv mg hdd l hg i k hi (by omega) hk
          have fb := h5.fb k h1 hk
          have fb' : 1 ≤ F.getD k.toNat default ∧ F.getD k.toNat default ≤ l.length - k := fb
          have take : jnB dv mg l i k = true → (ixf N i = 0 ∨ ixf F k < ixf F (ixf N i)) → Inn l.length (jnB dv mg l) (ixf (N.set i.toNat k)) (ixf (F.set i.toNat (F.getD k.toNat default + 1))) i (k + 1) := fun q1 q2 =>
            h5.take hi h1 (by omega) q1 q2 (by rw [ixf_set hi (by omega) hi, if_pos rfl]) (by rw [ixf_set hi (by omega) hi, if_pos rfl]; rfl) (fun t q3 q4 => by rw [ixf_set hi (by omega) q3, if_neg q4]) (fun t q3 q4 => by rw [ixf_set hi (by omega) q3, if_neg q4])
          have ln : (N.set i.toNat k).length = l.length := by rw [List.length_set, h3]
          have lf : (F.set i.toNat (F.getD k.toNat default + 1)).length = l.length := by rw [List.length_set, h4]
          by_cases c1 : N.getD i.toNat default = 0
          · cases hb : jnB dv mg l i k with
            | true =>
              rw [hb] at hj
              have q := take hb (.inl c1)
              simp (maxSteps := 1000000) (disch := omega) only [go_sem, eq_self, decide_true, decide_false, not_true_eq_false, not_false_eq_true, reduceIte, reduceCtorEq, Nat.reduceEqDiff, Nat.reduceAdd, Nat.reduceSub, Nat.reduceLeDiff]
              refine CALL_det hj (.inl rfl) ?_
              simp (maxSteps := 1000000) (disch := omega) only [go_sem, eq_self, decide_true, decide_false, not_true_eq_false, not_false_eq_true, reduceIte, reduceCtorEq, Nat.reduceEqDiff, Nat.reduceAdd, Nat.reduceSub, Nat.reduceLeDiff]
              exact ⟨k + 1, _, _, by simp only [mnkSt, iRow, hset], ⟨by omega, by omega, ln, lf, q⟩, by omega⟩
            | false =>
              rw [hb] at hj
              have q := h5.skip2 hb
              simp (maxSteps := 1000000) (disch := omega) only [go_sem, eq_self, decide_true, decide_false, not_true_eq_false, not_false_eq_true, reduceIte, reduceCtorEq, Nat.reduceEqDiff, Nat.reduceAdd, Nat.reduceSub, Nat.reduceLeDiff]
              refine CALL_det hj (.inl rfl) ?_
              simp (maxSteps := 1000000) (disch := omega) only [go_sem, eq_self, decide_true, decide_false, not_true_eq_false, not_false_eq_true, reduceIte, reduceCtorEq, Nat.reduceEqDiff, Nat.reduceAdd, Nat.reduceSub, Nat.reduceLeDiff]
              exact ⟨k + 1, N, F, rfl, ⟨by omega, by omega, h3, h4, q⟩, by omega⟩
          · have hbst : i < N.getD i.toNat default ∧ N.getD i.toNat default < k := by
              rcases h5.at_ with ⟨q, _⟩ | q
              · exact absurd q c1
              · exact ⟨q.gt, q.lt⟩
            by_cases c2 : F.getD k.toNat default < F.getD (N.getD i.toNat default).toNat default
            · cases hb : jnB dv mg l i k with
              | true =>
                rw [hb] at hj
                have q := take hb (.inr c2)
                simp (maxSteps := 1000000) (disch := omega) only [go_sem, eq_self, decide_true, decide_false, not_true_eq_false, not_false_eq_true, reduceIte, reduceCtorEq, Nat.reduceEqDiff, Nat.reduceAdd, Nat.reduceSub, Nat.reduceLeDiff]
                refine CALL_det hj (.inl rfl) ?_
                simp (maxSteps := 1000000) (disch := omega) only [go_sem, eq_self, decide_true, decide_false, not_true_eq_false, not_false_eq_true, reduceIte, reduceCtorEq, Nat.reduceEqDiff, Nat.reduceAdd, Nat.reduceSub, Nat.reduceLeDiff]
                exact ⟨k + 1, _, _, by simp only [mnkSt, iRow, hset], ⟨by omega, by omega, ln, lf, q⟩, by omega⟩
              | false =>
                rw [hb] at hj
                have q := h5.skip2 hb
                simp (maxSteps := 1000000) (disch := omega) only [go_sem, eq_self, decide_true, decide_false, not_true_eq_false, not_false_eq_true, reduceIte, reduceCtorEq, Nat.reduceEqDiff, Nat.reduceAdd, Nat.reduceSub, Nat.reduceLeDiff]
                refine CALL_det hj (.inl rfl) ?_
                simp (maxSteps := 1000000) (disch := omega) only [go_sem, eq_self, decide_true, decide_false, not_true_eq_false, not_false_eq_true, reduceIte, reduceCtorEq, Nat.reduceEqDiff, Nat.reduceAdd, Nat.reduceSub, Nat.reduceLeDiff]
                exact ⟨k + 1, N, F, rfl, ⟨by omega, by omega, h3, h4, q⟩, by omega⟩
            · have q := h5.skip1 c1 (Int.not_lt.1 c2)
              simp (maxSteps := 1000000) (disch := omega) only [go_sem, eq_self, decide_true, decide_false, not_true_eq_false, not_false_eq_true, reduceIte, reduceCtorEq, Nat.reduceEqDiff, Nat.reduceAdd, Nat.reduceSub, Nat.reduceLeDiff]
              exact ⟨k + 1, N, F, rfl, ⟨by omega, by omega, h3, h4, q⟩, by omega⟩
        · obtain rfl : k = l.length := by omega
          have q := h5.opt hi (by omega) jnB_next
          simp (maxSteps := 1000000) (disch := omega) only [go_sem, eq_self, decide_true, decide_false, not_true_eq_false, not_false_eq_true, reduceIte, reduceCtorEq, Nat.reduceEqDiff, Nat.reduceAdd, Nat.reduceSub, Nat.reduceLeDiff]
          exact ⟨i - 1, N, F, rfl, ⟨by omega, by omega, h3, h4, q⟩, by omega⟩
      · obtain rfl : i = -1 := by omega
        simp (maxSteps := 1000000) (disch := omega) only [go_sem, eq_self, decide_true, decide_false, not_true_eq_false, not_false_eq_true, reduceIte, reduceCtorEq, Nat.reduceEqDiff, Nat.reduceAdd, Nat.reduceSub, Nat.reduceLeDiff]
        refine ex_loop2 (fun i out => mnpSt l N out i) (fun i out => 0 ≤ i ∧ i < l.length ∧ ∃ r, out = 0 :: r ∧ pth l.length (ixf N) 0 r i) (fun i _ => (l.length - i).toNat) 0 [0] ⟨by omega, by omega, [], rfl, rfl⟩ rfl ?_
        rintro i out ⟨h1, h2, r, rfl, h3⟩
        unfold mnpSt
        have hnx : ∀ j, 0 ≤ j → j + 1 < (l.length : Int) → j < ixf N j ∧ ixf N j < l.length := fun j q1 q2 => ⟨(g5.st j (by omega) q2).gt, (g5.st j (by omega) q2).lt⟩
        by_cases hi2 : i < l.length - 1
        · have q := hnx i h1 (by omega)
          have q' : i < N.getD i.toNat default ∧ N.getD i.toNat default < l.length := q
          have hrl2 := pth_len hnx r 0 i (by omega) h3
          have hp := pth_snoc r 0 i h3 (by omega)
          have hl0 : (0 :: r : List Int).length = r.length + 1 := rfl
          simp (maxSteps := 1000000) (disch := omega) only [go_sem, eq_self, decide_true, decide_false, not_true_eq_false, not_false_eq_true, reduceIte, reduceCtorEq, Nat.reduceEqDiff, Nat.reduceAdd, Nat.reduceSub, Nat.reduceLeDiff]
          exact ⟨N.getD i.toNat default, 0 :: r ++ [N.getD i.toNat default], by simp only [mnpSt, iRow, List.map_append, List.map_cons, List.map_nil, intC_eq, List.cons_append], ⟨by omega, q'.2, r ++ [N.getD i.toNat default], rfl, hp⟩, by omega⟩
        · obtain rfl : i = l.length - 1 := by omega
          simp (maxSteps := 1000000) (disch := omega) only [go_sem, eq_self, decide_true, decide_false, not_true_eq_false, not_false_eq_true, reduceIte, reduceCtorEq, Nat.reduceEqDiff, Nat.reduceAdd, Nat.reduceSub, Nat.reduceLeDiff]
          exact ⟨0 :: r, minP_of h0 g5 (pth_isP r 0 h3), rfl⟩
end Go.Proofs.Ytggbcgldnjmobaa
