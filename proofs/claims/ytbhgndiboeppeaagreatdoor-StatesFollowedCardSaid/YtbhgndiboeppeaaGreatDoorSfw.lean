/- StatesFollowed: the walk. -/
import Derived.Test.YtbhgndiboeppeaaGreatDoorSfp
import Derived.Test.YtbhgndiboeppeaaGreatDoorAla
set_option linter.all false
set_option maxHeartbeats 4000000
set_option maxRecDepth 100000
namespace Go.Proofs.YtbhgndiboeppeaaGreatDoor
open Go Go.Ai
def d0D : List Ann := ([aN [0] [] [],aN [3,28] [28] [],aN [4,5,6,7,8,9] [7,9] [],aN [4,5,6,7,8,9,10] [7,9] []] ++ aM [7,9,11] [] [[4,5,6,7,8,9,10,11,12],[4,5,6,7,8,9,10,11,12,13,14],[4,5,6,7,8,9,10,11,12,13,14,15,16],[4,5,6,7,8,9,10,11,12,13,14,15,16,17,18],[4,5,6,7,8,9,10,11,12,13,14,15,16,17,18,19],[4,5,6,7,8,9,10,11,12,13,14,15,16,17,18,19,20,21]] ++ [aN [4,5,6,7,8,9,10,11,12,13,14,15,16,17,18,19,20,21,22] [7,9,11,22] [],⟨(kP [4,5,6,7,8,9,10,11,12,13,14,15,16,17,18,19,20,21,22,23,24] [7,9,11,22] []),[],[],[(23,3),(24,3)],[]⟩,⟨(kP [4,5,6,7,8,9,10,11,12,13,14,15,16,17,18,19,20,21,22,23,24,25] [7,9,11,22] []),[],[],[(25,1)],[]⟩,aN [4,5,6,7,8,9,10,11,12,13,14,15,16,17,18,19,20,21,22,23,24,25,103] [7,9,11,22] []] ++ aM [9,11,22] [] [[4,5,6,8,9,10,11,12,13,14,15,16,17,18,19,20,21,22,23,24,25],[4,5,6,8,9,10,11,12,13,14,15,16,17,18,19,20,21,22,23,24,25,111],[4,5,6,9,10,11,12,13,14,15,16,17,18,19,20,21,22,23,24,25],[4,5,6,9,10,11,12,13,14,15,16,17,18,19,20,21,22,23,24,25,118],[4,5,6,9,10,11,12,13,14,15,16,17,18,19,20,21,22,23,24,25],[4,5,6,9,10,11,12,13,14,15,16,17,18,19,20,21,22,23,24,25,124]] ++ [aN [10,11,12,13,14,15,16,17,18,19,20,21,22,23,24,25] [11,22] [],aN [2] [] []])
noncomputable def U4 : AC := cc Tryz.prog Tryz.f3 d0D
abbrev d1B (l : List Std) : Val := .one (.sl false 3 (l.map u7))
def d1f (l : List Std) (i : Int) : AS := ⟨m9 [(0, d1B l), (1, d1B l), (12, iv l.length), (13, iv i)], f9 [], f9 []⟩
theorem a7P (l : List Std) (hl : l.length ≤ 100000000) : FC Tryz.prog 27 none [d1B l, d1B l] (fun _ r => r = bv true) := by
 refine fcE Tryz.func27 (aL [[0,1],[0,1,10],[4],[0,1,12,13],[0,1,12,13,14],[0,1,5,12,13],[0,1,12,13,24],[4],[0,1,12,13],[4]]) ?_
 refine qv ?_
 refine j9 (d1f l) (fun i => 0 ≤ i ∧ i ≤ l.length) (fun i => (l.length - i).toNat) 0 ⟨by omega, by omega⟩ rfl ?_
 rintro i ⟨g1, g2⟩
 unfold d1f
 by_cases hi : i < l.length
 ·refine qv ?_
  exact ⟨_, rfl, ⟨by omega, by omega⟩, by omega⟩
 ·exact qt
theorem a0A (b : Bool) : FC Tryz.prog 18 none [bv b] (fun _ r => r = iv (if b = true then 8 else 0)) := by
 refine fcE Tryz.func18 (aL [[0],[3],[2],[2]]) ?_
 cases b with
 | false => exact qt
 | true => exact qt
theorem c3I (key : ByteArray) (x : Alm) : FC Tryz.prog 20 none [.ag (z7 x), .one (.ep [.g (.string key)])] (fun _ r => r = bv (decide (x.k = key))) := by
 refine fcE Tryz.func20 [aN [1,2] [2] [],aN [3] [] []] ?_
 simp only [o6]
 exact qt
def d0G (cl : FuncId) (key : ByteArray) (l : List Alm) (i : Int) : AS := ⟨m9 [(0, r6 false l), (1, .one (.fn cl [.ep [.g (.string key)]])), (7, iv l.length), (8, iv i)], f9 [], f9 []⟩
theorem c3l (key : ByteArray) (l : List Alm) (hl : l.length ≤ 1000000) : FC Tryz.prog 60 none [r6 false l, .one (.fn 20 [.ep [.g (.string key)]])] (fun _ r => r = iv (q8 l key)) := by
 refine fcE Tryz.func60 a2O ?_
 unfold q8
 refine qv ?_
 refine j9 (d0G 20 key l) (fun i => 0 ≤ i ∧ i ≤ l.length ∧ D0 (fun x : Alm => decide (x.k = key)) i (l.drop i.toNat) = D0 (fun x : Alm => decide (x.k = key)) 0 l) (fun i => (l.length - i).toNat) 0 ⟨by omega, by omega, rfl⟩ rfl ?_
 rintro i ⟨g1, g2, g3⟩
 unfold d0G
 by_cases hi : i < l.length
 ·rw [m7 l i.toNat (by omega), D0] at g3
  have e2 : (i + 1).toNat = i.toNat + 1 := by omega
  have em := e8 z7 l i [] g1 hi
  have hc := c3I key (l.getD i.toNat default)
  rw [o6] at hc
  by_cases h : (l.getD i.toNat default).k = key
  ·rw [if_pos (by simpa using h)] at g3
   rw [decide_eq_true h] at hc
   refine qc hc ?_
   refine qv ?_
   rw [← g3]
  ·rw [if_neg (by simpa using h)] at g3
   rw [decide_eq_false h] at hc
   refine qc hc ?_
   refine qv ?_
   exact ⟨_, rfl, ⟨by omega, by omega, by rw [e2]; exact g3⟩, by omega⟩
 ·rw [List.drop_eq_nil_of_le (by omega), D0] at g3
  refine qv ?_
  rw [← g3]
theorem c2I (key : ByteArray) (l : List Alm) (hl : l.length ≤ 1000000) : FC Tryz.prog 19 none [r6 false l, .one (.fn 20 [.ep [.g (.string key)]])] (fun _ r => r = bv (decide (0 ≤ q8 l key))) := by
 refine fcE Tryz.func19 (aL [[0,1],[4]]) ?_
 refine qc (c3l key l hl) ?_
 exact qt
def acL : AC → AC
 | .seq a _ => a
 | c => c
def acR : AC → AC
 | .seq _ b => b
 | c => c
noncomputable def c5R : AC := acR (acR (acR (acR (acR (acR (acR (acR (acR (acR (acR (acR (acR U4))))))))))))
noncomputable def c5N : AC := acR c5R
noncomputable def c5Z : AC := acR c5N
noncomputable def c5U : AC := acR c5Z
noncomputable def d2b : AC := acR c5U
theorem d1U : c5R = .seq (acL c5R) c5N := by kernel_rfl
theorem d2a : c5N = .seq (acL c5N) c5Z := by kernel_rfl
theorem d3y : c5Z = .seq (acL c5Z) c5U := by kernel_rfl
theorem d3d : c5U = .seq (acL c5U) d2b := by kernel_rfl
abbrev L1 (o : List Std) : Val := .one (.sl true 3 (o.map u7))
abbrev a2e (o : List Int) : Val := .one (.sl true 1 (o.map U5))
-- tails
section
variable {l : List Alm} {s : List Ser} {a : List Opr} {key : ByteArray} {at_ f t E0 E1 E2 E3 : Int} {S : Std} {SN LG : List Std} {IG : List Int}
theorem d2Q (hs : SN.length ≤ 100000000) (hg : LG.length ≤ 100000000) (hi : IG.length ≤ 100000000) (st : AS) (hS : st = ⟨m9 [(10, iv E0), (11, .one (.bx 11 0)), (12, iv E1), (13, L1 SN), (14, iv E2), (15, a2e IG), (16, iv E0), (17, L1 LG), (18, iv E3), (19, iv E1), (20, iv E2), (21, iv E3), (22, .one (.bx 22 0)), (23, L1 SN), (24, L1 LG), (25, a2e IG)], f9 [(11, u7 S), (22, u7 S)], f9 []⟩ ∨ st = ⟨m9 [(4, r6 true l), (5, B3 true s), (6, u9 true a), (9, .one (.bx 9 0)), (10, iv E0), (11, .one (.bx 11 0)), (12, iv E1), (13, L1 SN), (14, iv E2), (15, a2e IG), (16, iv E0), (17, L1 LG), (18, iv E3), (19, iv E1), (20, iv E2), (21, iv E3), (22, .one (.bx 22 0)), (23, L1 SN), (24, L1 LG), (25, a2e IG), (124, bv (decide (E3 = 0)))], f9 [(9, [.g (.int .i64 f), .g (.int .i64 t)]), (11, u7 S), (22, u7 S)], f9 []⟩) : ex Tryz.prog d2b [] (M5 none [RV.t 2] fun x r => r = bv true) st := by
 have h1 := a7P SN hs
 have h2 := a7P LG hg
 have h3 := b0R false false IG (by omega)
 conv => arg 2; cbv
 rcases hS with rfl | rfl
 all_goals (
  refine qc h1 ?_
  refine qc h3 ?_
  refine qc h2 ?_
  refine qc a9S ?_
  exact qt)
theorem d4e (hs : SN.length ≤ 100000000) (hg : LG.length ≤ 100000000) (hi : IG.length ≤ 100000000) (r4 : E3 = 0 → FC Tryz.prog 26 none [r6 false l, B3 false s, u9 false a, .ag [.g (.int .i64 f), .g (.int .i64 t)]] (fun _ r => r = L1 LG)) (z4 : E3 ≠ 0 → LG = []) (st : AS) (hS : st = ⟨m9 [(4, r6 true l), (5, B3 true s), (6, u9 true a), (9, .one (.bx 9 0)), (10, iv E0), (11, .one (.bx 11 0)), (12, iv E1), (13, L1 SN), (14, iv E2), (15, a2e IG), (16, iv E0), (17, L1 LG), (18, iv E3), (19, iv E1), (20, iv E2), (21, iv E3), (22, .one (.bx 22 0)), (23, L1 SN), (24, L1 []), (25, a2e IG)], f9 [(9, [.g (.int .i64 f), .g (.int .i64 t)]), (11, u7 S), (22, u7 S)], f9 []⟩ ∨ st = ⟨m9 [(4, r6 true l), (5, B3 true s), (6, u9 true a), (9, .one (.bx 9 0)), (10, iv E0), (11, .one (.bx 11 0)), (12, iv E1), (13, L1 SN), (14, iv E2), (15, a2e IG), (16, iv E0), (17, L1 LG), (18, iv E3), (19, iv E1), (20, iv E2), (21, iv E3), (22, .one (.bx 22 0)), (23, L1 SN), (24, L1 []), (25, a2e IG), (118, bv (decide (E0 = 0)))], f9 [(9, [.g (.int .i64 f), .g (.int .i64 t)]), (11, u7 S), (22, u7 S)], f9 []⟩) : ex Tryz.prog c5U [] (M5 none [RV.t 2] fun x r => r = bv true) st := by
 have hT := d2Q (l := l) (s := s) (a := a) (f := f) (t := t) (E0 := E0) (E1 := E1) (E2 := E2) (E3 := E3) (S := S) hs hg hi
 rw [d3d]
 generalize d2b = T at *
 conv => arg 2; arg 1; cbv
 by_cases h0 : E3 = 0
 ·have hr := r4 h0
  have hT := hT _ (.inl rfl)
  rcases hS with rfl | rfl
  all_goals (
   refine qc hr ?_
   refine qv ?_
   exact hT)
 ·have hz := z4 h0
  subst hz
  have hT := hT _ (.inr rfl)
  rcases hS with rfl | rfl
  all_goals (
   refine qv ?_
   exact hT)
theorem d2L (hs : SN.length ≤ 100000000) (hg : LG.length ≤ 100000000) (hi : IG.length ≤ 100000000) (r3 : E0 = 0 → FC Tryz.prog 25 none [r6 false l, B3 false s, u9 false a] (fun _ r => r = a2e IG)) (z3 : E0 ≠ 0 → IG = []) (r4 : E3 = 0 → FC Tryz.prog 26 none [r6 false l, B3 false s, u9 false a, .ag [.g (.int .i64 f), .g (.int .i64 t)]] (fun _ r => r = L1 LG)) (z4 : E3 ≠ 0 → LG = []) (st : AS) (hS : st = ⟨m9 [(4, r6 true l), (5, B3 true s), (6, u9 true a), (9, .one (.bx 9 0)), (10, iv E0), (11, .one (.bx 11 0)), (12, iv E1), (13, L1 SN), (14, iv E2), (15, a2e IG), (16, iv E0), (17, L1 LG), (18, iv E3), (19, iv E1), (20, iv E2), (21, iv E3), (22, .one (.bx 22 0)), (23, L1 SN), (24, L1 []), (25, a2e [])], f9 [(9, [.g (.int .i64 f), .g (.int .i64 t)]), (11, u7 S), (22, u7 S)], f9 []⟩ ∨ st = ⟨m9 [(4, r6 true l), (5, B3 true s), (6, u9 true a), (8, iv at_), (9, .one (.bx 9 0)), (10, iv E0), (11, .one (.bx 11 0)), (12, iv E1), (13, L1 SN), (14, iv E2), (15, a2e IG), (16, iv E0), (17, L1 LG), (18, iv E3), (19, iv E1), (20, iv E2), (21, iv E3), (22, .one (.bx 22 0)), (23, L1 SN), (24, L1 []), (25, a2e []), (111, bv (decide (E2 = 0)))], f9 [(9, [.g (.int .i64 f), .g (.int .i64 t)]), (11, u7 S), (22, u7 S)], f9 []⟩) : ex Tryz.prog c5Z [] (M5 none [RV.t 2] fun x r => r = bv true) st := by
 have hT := d4e (l := l) (s := s) (a := a) (f := f) (t := t) (E0 := E0) (E1 := E1) (E2 := E2) (E3 := E3) (S := S) hs hg hi r4 z4
 rw [d3y]
 generalize c5U = T at *
 conv => arg 2; arg 1; cbv
 by_cases h0 : E0 = 0
 ·have hr := r3 h0
  have hT := hT _ (.inl rfl)
  rcases hS with rfl | rfl
  all_goals (
   refine qc hr ?_
   refine qv ?_
   exact hT)
 ·have hz := z3 h0
  subst hz
  have hT := hT _ (.inr rfl)
  rcases hS with rfl | rfl
  all_goals (
   refine qv ?_
   exact hT)
theorem d4m (hs : SN.length ≤ 100000000) (hg : LG.length ≤ 100000000) (hi : IG.length ≤ 100000000) (r2 : E2 = 0 → FC Tryz.prog 24 none [r6 false l, B3 false s, u9 false a, iv at_] (fun _ r => r = L1 SN)) (z2 : E2 ≠ 0 → SN = []) (r3 : E0 = 0 → FC Tryz.prog 25 none [r6 false l, B3 false s, u9 false a] (fun _ r => r = a2e IG)) (z3 : E0 ≠ 0 → IG = []) (r4 : E3 = 0 → FC Tryz.prog 26 none [r6 false l, B3 false s, u9 false a, .ag [.g (.int .i64 f), .g (.int .i64 t)]] (fun _ r => r = L1 LG)) (z4 : E3 ≠ 0 → LG = []) (st : AS) (hS : st = ⟨m9 [(4, r6 true l), (5, B3 true s), (6, u9 true a), (8, iv at_), (9, .one (.bx 9 0)), (10, iv E0), (11, .one (.bx 11 0)), (12, iv E1), (13, L1 SN), (14, iv E2), (15, a2e IG), (16, iv E0), (17, L1 LG), (18, iv E3), (19, iv E1), (20, iv E2), (21, iv E3), (22, .one (.bx 22 0)), (23, L1 []), (24, L1 []), (25, a2e [])], f9 [(9, [.g (.int .i64 f), .g (.int .i64 t)]), (11, u7 S), (22, u7 S)], f9 []⟩ ∨ st = ⟨m9 [(4, r6 true l), (5, B3 true s), (6, u9 true a), (7, .one (.bx 7 0)), (8, iv at_), (9, .one (.bx 9 0)), (10, iv E0), (11, .one (.bx 11 0)), (12, iv E1), (13, L1 SN), (14, iv E2), (15, a2e IG), (16, iv E0), (17, L1 LG), (18, iv E3), (19, iv E1), (20, iv E2), (21, iv E3), (22, .one (.bx 22 0)), (23, L1 []), (24, L1 []), (25, a2e []), (103, bv (decide (E1 = 0)))], f9 [(7, [.g (.string key)]), (9, [.g (.int .i64 f), .g (.int .i64 t)]), (11, u7 S), (22, u7 S)], f9 []⟩) : ex Tryz.prog c5N [] (M5 none [RV.t 2] fun x r => r = bv true) st := by
 have hT := d2L (l := l) (s := s) (a := a) (at_ := at_) (f := f) (t := t) (E0 := E0) (E1 := E1) (E2 := E2) (E3 := E3) (S := S) hs hg hi r3 z3 r4 z4
 rw [d2a]
 generalize c5Z = T at *
 conv => arg 2; arg 1; cbv
 by_cases h0 : E2 = 0
 ·have hr := r2 h0
  have hT := hT _ (.inl rfl)
  rcases hS with rfl | rfl
  all_goals (
   refine qc hr ?_
   refine qv ?_
   exact hT)
 ·have hz := z2 h0
  subst hz
  have hT := hT _ (.inr rfl)
  rcases hS with rfl | rfl
  all_goals (
   refine qv ?_
   exact hT)
theorem d2W (hs : SN.length ≤ 100000000) (hg : LG.length ≤ 100000000) (hi : IG.length ≤ 100000000) (r1 : E1 = 0 → FC Tryz.prog 23 none [r6 false l, B3 false s, u9 false a, sv key, iv at_] (fun _ r => r = .ag (u7 S))) (z1 : E1 ≠ 0 → S = ⟨emp, 0, 0⟩) (r2 : E2 = 0 → FC Tryz.prog 24 none [r6 false l, B3 false s, u9 false a, iv at_] (fun _ r => r = L1 SN)) (z2 : E2 ≠ 0 → SN = []) (r3 : E0 = 0 → FC Tryz.prog 25 none [r6 false l, B3 false s, u9 false a] (fun _ r => r = a2e IG)) (z3 : E0 ≠ 0 → IG = []) (r4 : E3 = 0 → FC Tryz.prog 26 none [r6 false l, B3 false s, u9 false a, .ag [.g (.int .i64 f), .g (.int .i64 t)]] (fun _ r => r = L1 LG)) (z4 : E3 ≠ 0 → LG = []) : ex Tryz.prog c5R [] (M5 none [RV.t 2] fun x r => r = bv true) ⟨m9 [(4, r6 true l), (5, B3 true s), (6, u9 true a), (7, .one (.bx 7 0)), (8, iv at_), (9, .one (.bx 9 0)), (10, iv E0), (11, .one (.bx 11 0)), (12, iv E1), (13, L1 SN), (14, iv E2), (15, a2e IG), (16, iv E0), (17, L1 LG), (18, iv E3), (19, iv E1), (20, iv E2), (21, iv E3), (22, .one (.bx 22 0)), (23, L1 []), (24, L1 []), (25, a2e [])], f9 [(7, [.g (.string key)]), (9, [.g (.int .i64 f), .g (.int .i64 t)]), (11, u7 S), (22, u7 ⟨emp, 0, 0⟩)], f9 []⟩ := by
 have hT := d4m (l := l) (s := s) (a := a) (key := key) (at_ := at_) (f := f) (t := t) (E0 := E0) (E1 := E1) (E2 := E2) (E3 := E3) (S := S) hs hg hi r2 z2 r3 z3 r4 z4
 rw [d1U]
 generalize c5N = T at *
 conv => arg 2; arg 1; cbv
 by_cases h0 : E1 = 0
 ·have hr := r1 h0
  have hT := hT _ (.inl rfl)
  refine qc hr ?_
  refine qv ?_
  exact hT
 ·have hz := z1 h0
  rw [hz] at hT
  have hT := hT _ (.inr rfl)
  rw [hz]
  refine qv ?_
  exact hT
end
def d1F : List (Nat × Val) → Nat → Val → List (Nat × Val)
 | [], k, v => [(k, v)]
 | p :: l, k, v => if p.1 = k then (k, v) :: l else p :: d1F l k v
theorem a3i (k : Nat) (v : Val) : ∀ l : List (Nat × Val), upd (m9 l) k v = m9 (d1F l k v)
 | [] => by funext n; simp [upd, d1F, m9]
 | p :: l => by
  funext n
  have ih := congrFun (a3i k v l) n
  simp only [upd] at ih ⊢
  unfold d1F
  by_cases h : p.1 = k
  ·rw [if_pos h]
   simp only [m9]
   by_cases h2 : n = k
   ·rw [if_pos h2, if_pos h2]
   ·rw [if_neg h2, if_neg h2, if_neg (by omega)]
  ·rw [if_neg h]
   simp only [m9]
   by_cases h2 : n = k
   ·rw [if_pos h2] at ih ⊢
    rw [if_neg (by omega)]; exact ih
   ·rw [if_neg h2] at ih ⊢
    rw [ih]
theorem d2Y : U4 = .seq (acL U4) (.seq (acL (acR U4)) (.seq (acL (acR (acR U4))) (.seq (acL (acR (acR (acR U4)))) (.seq (acL (acR (acR (acR (acR U4))))) (.seq (acL (acR (acR (acR (acR (acR U4)))))) (.seq (acL (acR (acR (acR (acR (acR (acR U4))))))) (.seq (acL (acR (acR (acR (acR (acR (acR (acR U4)))))))) (.seq (acL (acR (acR (acR (acR (acR (acR (acR (acR U4))))))))) (.seq (acL (acR (acR (acR (acR (acR (acR (acR (acR (acR U4)))))))))) (.seq (acL (acR (acR (acR (acR (acR (acR (acR (acR (acR (acR U4))))))))))) (.seq (acL (acR (acR (acR (acR (acR (acR (acR (acR (acR (acR (acR U4)))))))))))) (.seq (acL (acR (acR (acR (acR (acR (acR (acR (acR (acR (acR (acR (acR U4))))))))))))) (c5R))))))))))))) := by kernel_rfl
theorem c9i (l : List Alm) (s : List Ser) (a : List Opr) (key : ByteArray) (at_ : Int) : C2 [alF l s a, if 0 ≤ q8 l key then 0 else 8, if 0 ≤ at_ ∧ at_ ≤ 345686399999 then 0 else 1] = saE l s a key at_ := by
 rw [c6u]
 unfold saE
 by_cases h : alF l s a ≠ 0
 ·rw [if_pos h, if_pos h]
 rw [if_neg h, if_neg h]
 by_cases h : 0 ≤ q8 l key
 ·rw [if_pos h, if_neg (by omega), if_neg (show ¬q8 l key < 0 by omega)]
 ·rw [if_neg h, if_pos (by omega), if_pos (show q8 l key < 0 by omega)]
theorem c9M (l : List Alm) (s : List Ser) (a : List Opr) (at_ : Int) : C2 [alF l s a, if 0 ≤ at_ ∧ at_ ≤ 345686399999 then 0 else 1] = snE l s a at_ := by
 rw [c4Y]; rfl
theorem c8g (l : List Alm) (s : List Ser) (a : List Opr) (f t : Int) : C2 [alF l s a, F6 f t] = lgE l s a f t := by
 rw [c4Y]
 unfold lgE F6
 by_cases h : alF l s a ≠ 0
 ·rw [if_pos h, if_pos h]
 rw [if_neg h, if_neg h]
 by_cases h : 0 ≤ f ∧ f ≤ t ∧ t ≤ 345686400000
 ·rw [if_pos h, if_neg (by omega)]
 ·rw [if_neg h, if_pos (by omega)]
theorem b6T (l : List Alm) (td : List Std) : (b9Y l td).length ≤ td.length := by
 unfold b9Y; rw [f0]; exact List.length_filter_le _ _
set_option maxHeartbeats 8000000 in
set_option maxRecDepth 8000 in
theorem d0z (L : List Int) (hL : ∀ x ∈ L, I64 x) (hl : L.length ≤ 9223372036854775807) : FC Tryz.prog 3 none [a1p false L] (fun _ r => r = bv true) := by
 refine fcE Tryz.func3 d0D (C := U4) (hC := rfl) ?_
 obtain ⟨⟨p1, r1⟩, ⟨c1, b1, l, h1, h2, rfl⟩, hf1⟩ := a3u L 0 hL hl (by omega) (by omega)
 simp only at b1 c1 hf1
 obtain ⟨⟨p2, r2⟩, ⟨c2, b2, s, h3, h4, rfl⟩, hf2⟩ := a5V 8 (by omega) (by omega) L p1 hL hl (by omega) (by omega)
 simp only at b2 c2 hf2
 obtain ⟨⟨p3, r3⟩, ⟨c3, b3, a, h5, h6, rfl⟩, hf3⟩ := a6l L p2 hL hl (by omega) (by omega)
 simp only at b3 c3 hf3
 obtain ⟨⟨p4, r4⟩, ⟨c4, b4, key, hkey, rfl⟩, hf4⟩ := K9 false [ByteArray.mk #[97, 49], ByteArray.mk #[97, 49], ByteArray.mk #[97, 50], ByteArray.mk #[122, 122]] (by simp) (by simp) L p3 hL hl (by omega) (by omega)
 simp only at b4 c4 hf4
 have hD : Drw l s a := ⟨h1, h3, h5, h2, fun x hx => by have h := h4 x hx; unfold Ser.sm at h ⊢; omega, h6⟩
 have k1 := a2s l (by omega) h2
 have k2 := a6E s (by omega) (fun x hx => by have h := h4 x hx; unfold Ser.sm at h; omega)
 have k3 := b3Q a (by omega) h6
 have k4 := a7g false [afF l, asF s, ofF a] (by simp)
 rw [show C2 [afF l, asF s, ofF a] = alF l s a from rfl] at k4
 have k6 := fun at_ => a5T hD key at_
 have k7 := fun at_ => a5a hD at_
 have k8 := a6J hD
 have k9 := fun f t => c5s hD f t
 have k10 := c2I key l (by omega)
 have k11 : ∀ at_ : Int, FC Tryz.prog 10 none [a1p false [alF l s a, if 0 ≤ q8 l key then 0 else 8, if 0 ≤ at_ ∧ at_ ≤ 345686399999 then 0 else 1]] (fun _ r => r = iv (saE l s a key at_)) := fun at_ => by rw [← c9i]; exact a7g false _ (by simp)
 have k12 : ∀ at_ : Int, FC Tryz.prog 10 none [a1p false [alF l s a, if 0 ≤ at_ ∧ at_ ≤ 345686399999 then 0 else 1]] (fun _ r => r = iv (snE l s a at_)) := fun at_ => by rw [← c9M]; exact a7g false _ (by simp)
 have k13 : ∀ f t : Int, FC Tryz.prog 10 none [a1p false [alF l s a, F6 f t]] (fun _ r => r = iv (lgE l s a f t)) := fun f t => by rw [← c8g]; exact a7g false _ (by simp)
 have z1 : ∀ at_, saE l s a key at_ ≠ 0 → saS l s a key at_ = ⟨emp, 0, 0⟩ := fun at_ h => by unfold saS; rw [if_neg h]
 have z2 : ∀ at_, snE l s a at_ ≠ 0 → snL l s a at_ = [] := fun at_ h => by unfold snL; rw [if_neg h]
 have z3 : alF l s a ≠ 0 → igL l s a = [] := fun h => by unfold igL; rw [if_neg h]
 have z4 : ∀ f t, lgE l s a f t ≠ 0 → lgL l s a f t = [] := fun f t h => by unfold lgL; rw [if_neg h]
 have q1 : ∀ at_, saE l s a key at_ = 0 → FC Tryz.prog 23 none [r6 false l, B3 false s, u9 false a, sv key, iv at_] (fun _ r => r = .ag (u7 (saS l s a key at_))) := fun at_ h => by
  obtain ⟨e1, e2, e3⟩ := saE_zero.1 h
  have ok := hD.ok e1
  have e4 := b3C (hD.rl e1) key at_
  obtain ⟨e5, e6⟩ := a8h e2
  rw [(ok.rl e3.2).1] at e4
  have e7 := b1m ok (to := at_) e5
  rw [e6] at e7
  unfold saS; rw [if_pos h, ← e7]; exact e4
 have q2 : ∀ at_, snE l s a at_ = 0 → FC Tryz.prog 24 none [r6 false l, B3 false s, u9 false a, iv at_] (fun _ r => r = L1 (snL l s a at_)) := fun at_ h => by
  obtain ⟨e1, e3⟩ := snE_zero.1 h
  have ok := hD.ok e1
  have e4 := c2F (hD.rl e1) (by omega) at_
  rw [c4C ok e3.2] at e4
  unfold snL; rw [if_pos h]; exact e4
 have q3 : alF l s a = 0 → FC Tryz.prog 25 none [r6 false l, B3 false s, u9 false a] (fun _ r => r = a2e (igL l s a)) := fun h => by
  have ok := hD.ok h
  have e4 := c3K (hD.rl h)
  rw [ok.rlEnd, (ok.rl (by omega)).2] at e4
  unfold igL; rw [if_pos h]; exact e4
 have q4 : ∀ f t, lgE l s a f t = 0 → FC Tryz.prog 26 none [r6 false l, B3 false s, u9 false a, .ag [.g (.int .i64 f), .g (.int .i64 t)]] (fun _ r => r = L1 (lgL l s a f t)) := fun f t h => by
  obtain ⟨e1, e3⟩ := lgE_zero.1 h
  have ok := hD.ok e1
  have e4 := c2S (hD.rl e1) f t (by omega)
  rw [c3B ok e3.2.2] at e4
  unfold lgL; rw [if_pos h]; exact e4
 have n2 : ∀ at_, (snL l s a at_).length ≤ 100000000 := fun at_ => by
  unfold snL
  split
  ·rename_i h
   obtain ⟨e1, e3⟩ := snE_zero.1 h
   have := b6T l (J7 l s a at_).td
   rw [((hD.ok e1).lg at_).n] at this
   omega
  ·simp
 have n3 : (igL l s a).length ≤ 100000000 := by
  unfold igL
  split
  ·rename_i h
   have := a7i (hD.ok h) 345686399999
   have e : (a0q (J7 l s a 345686399999).ig).length = _ := List.length_mergeSort _
   omega
  ·simp
 have n4 : ∀ f t, (lgL l s a f t).length ≤ 100000000 := fun f t => by
  unfold lgL
  split
  ·rename_i h
   exact Nat.le_trans (c0c f t _) ((hD.ok (lgE_zero.1 h).1).out (t - 1))
  ·simp
 have hT := fun at_ f t => d2W (key := key) (S := saS l s a key at_) (n2 at_) (n4 f t) n3 (q1 at_) (z1 at_) (q2 at_) (z2 at_) q3 z3 (q4 f t) (z4 f t)
 clear q1 q2 q3 q4 z1 z2 z3 z4 n2 n3 n4 hkey h2 h4 h6 hD
 generalize alF l s a = E0 at *
 generalize afF l = fa at *
 generalize asF s = ft at *
 generalize ofF a = fx at *
 generalize igL l s a = IG at *
 generalize q8 l key = ik at *
 rw [d2Y]
 generalize c5R = T at *
 conv => arg 2; cbv
 refine qv ?_
 refine Y6 hf1 rfl rfl ?_
 unfold m6
 refine qv ?_
 refine Y6 hf2 rfl rfl ?_
 unfold m6
 refine qv ?_
 refine Y6 hf3 rfl rfl ?_
 unfold m6
 refine qv ?_
 refine Y6 hf4 rfl rfl ?_
 unfold m6
 refine qv ?_
 refine A0 b0c hL hl (by omega) (by omega) ⟨_, 0, by unfold I64; omega, rfl⟩ ?_
 rintro p5 _ b5 c5 ⟨at_, ha5, rfl⟩
 refine ⟨rfl, ?_⟩
 unfold m6
 refine qv ?_
 refine A0 b9t hL hl (by omega) (by omega) ⟨_, 0, 0, by unfold I64; omega, by unfold I64; omega, rfl⟩ ?_
 rintro p6 _ b6 c6 ⟨f, t, hf5, ht5, rfl⟩
 refine ⟨rfl, ?_⟩
 unfold m6
 have hT := hT at_ f t
 have k6 := k6 at_
 have k7 := k7 at_
 have k9 := k9 f t
 have k11 := k11 at_
 have k12 := k12 at_
 have k13 := k13 f t
 have k14 := b1A at_
 have k15 := a2j f t
 generalize saE l s a key at_ = E1 at *
 generalize saS l s a key at_ = S at *
 generalize snE l s a at_ = E2 at *
 generalize snL l s a at_ = SN at *
 generalize lgE l s a f t = E3 at *
 generalize lgL l s a f t = LG at *
 generalize (if 0 ≤ at_ ∧ at_ ≤ 345686399999 then (0 : Int) else 1) = mE at *
 generalize F6 f t = wE at *
 refine qc k1 ?_
 refine qc k2 ?_
 refine qc k3 ?_
 refine qc k4 ?_
 refine qc k6 ?_
 refine qc k7 ?_
 refine qc k8 ?_
 refine qc k9 ?_
 refine qv ?_
 by_cases hk : 0 ≤ ik
 ·rw [decide_eq_true hk] at k10
  rw [if_pos hk] at k11
  refine n6 k10 (.inl rfl) ?_
  refine qc (a0A false) ?_
  refine qc k14 ?_
  refine qc k11 ?_
  refine qc k14 ?_
  refine qc k12 ?_
  refine qc k15 ?_
  refine qc k13 ?_
  refine qv ?_
  rw [a3i]
  exact hT
 ·rw [decide_eq_false hk] at k10
  rw [if_neg hk] at k11
  refine n6 k10 (.inl rfl) ?_
  refine qc (a0A true) ?_
  refine qc k14 ?_
  refine qc k11 ?_
  refine qc k14 ?_
  refine qc k12 ?_
  refine qc k15 ?_
  refine qc k13 ?_
  refine qv ?_
  rw [a3i]
  exact hT
end Go.Proofs.YtbhgndiboeppeaaGreatDoor
