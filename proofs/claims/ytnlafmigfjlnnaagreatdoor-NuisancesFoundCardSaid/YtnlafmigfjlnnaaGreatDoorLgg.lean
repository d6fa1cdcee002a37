/- The reference's log. -/
import Derived.Maps.OwnRows
import Derived.OwnWalkIn
import Derived.OrdersIn
import Derived.Test.YtnlafmigfjlnnaaGreatDoorEwa
import Derived.Test.YtnlafmigfjlnnaaGreatDoorCnd
set_option linter.all false
set_option maxHeartbeats 0
set_option maxRecDepth 100000
namespace Go.Proofs.YtnlafmigfjlnnaaGreatDoor
open Go Go.Ai
noncomputable def lgK : Code := (Tryz.f64.body).getD .skip
abbrev pG : List Nat := [1, 1, 1, 1, 1, 1, 0, 1, 0, 0]
abbrev pG3 : List Nat := [1, 1, 1, 1, 1, 1, 0, 1, 0, 0, 1, 1, 0, 0]
abbrev pG4 : List Nat := [1, 1, 1, 1, 1, 1, 0, 1, 0, 0, 1, 1, 0, 0, 1, 1, 1, 1, 1, 0, 0]
abbrev d5i : CAnn := ⟨[1000001], [1000002, 1000003, 1000004], [1000001], [1000002, 1000003, 1000004], [1000002, 1000003, 1000004]⟩
abbrev d2D : CAnn := ⟨[1000001, 1000005], [1000002, 1000003, 1000004], [1000001, 1000005], [1000002, 1000003, 1000004], [1000002, 1000003]⟩
theorem d6t : b0 Tryz.prog 133 (o7 [1, 1, 1, 1, 1, 1, 0, 0] lgK) [⟨none, [(14, 96, 3)], [], [], []⟩] = some (.seq (.reg false [gM 61 15, gI 62 (.len (.t 61)), gI 63 (.mv (oI 0))] none) (.own 14 96 3), []) := by kernel_rfl
theorem d7k : b0 Tryz.prog 133 (o7 (pG ++ [0]) lgK) [aZ] = some (.reg false [gI 64 (.bin .lss (.t 63) (.t 62))] none, []) := by kernel_rfl
theorem d6g : b0 Tryz.prog 133 (o7 (pG3 ++ [0]) lgK) [aZ] = some (.reg false [gM 65 63, gI 66 (.iadr 5 (.t 61) (.t 63)), gI 67 (.load true 5 (.t 66)), gI 17 (.alloc [(.int .i64 (0)), (.int .i64 (0)), (.string (ByteArray.mk #[])), (.int .i64 (0)), .nilFunc]), gM 16 65, gN (.store 5 (.t 17) (.t 67))] none, []) := by kernel_rfl
theorem d6L : b0 Tryz.prog 133 (o7 (pG3 ++ [1, 0, 0]) lgK) [aZ] = some (.reg false [gI 68 (.fadr 0 (.t 17)), gI 69 (.load false 1 (.t 68)), gM 70 3, gI 71 (.bin .gtr (.t 69) (.t 70))] none, []) := by kernel_rfl
theorem d6y : b0 Tryz.prog 133 (o7 (pG3 ++ [1, 1, 1, 0, 0]) lgK) [aZ] = some (.reg true [gM 75 16, gI 76 (.bin .add (.t 75) (oI 1)), gM 77 15, gI 78 (.len (.t 77)), gI 79 (.bin .lss (.t 76) (.t 78)), gM 80 79, gG 81 80 true (.mv (.t 15)), gG 82 80 true (.mv (.t 16)), gG 83 80 true (.bin .add (.t 82) (oI 1)), gG 84 80 true (.iadr 5 (.t 81) (.t 83)), gG 85 80 true (.fadr 0 (.t 84)), gG 86 80 true (.load false 1 (.t 85)), gG 87 80 true (.fadr 0 (.t 17)), gG 88 80 true (.load false 1 (.t 87)), gG 89 80 true (.bin .eql (.t 86) (.t 88)), gI 90 (.pick (.t 80) (.t 89) (.v (.bool false)))] none, []) := by kernel_rfl
theorem d7a : b0 Tryz.prog 133 (o7 (pG3 ++ [1, 1, 1, 1, 0]) lgK) [aZ] = some (.reg false [gM 91 0, gI 92 (.len (.t 91)), gI 93 (.mv (oI 0))] none, []) := by kernel_rfl
theorem d5U : b0 Tryz.prog 133 (o7 (pG4 ++ [0]) lgK) [aZ] = some (.reg false [gI 94 (.bin .lss (.t 93) (.t 92))] none, []) := by kernel_rfl
theorem d5S : b0 Tryz.prog 133 (o7 (pG4 ++ [1, 1, 0, 0]) lgK) [aZ, ⟨none, [], [], [], [(101, d5i)]⟩, aZ, aZ, aZ] = some (.seq (.reg false [gI 95 (.iadr 10 (.t 91) (.t 93)), gI 96 (.load true 10 (.t 95)), gI 19 (.alloc [(.string (ByteArray.mk #[])), (.string (ByteArray.mk #[])), (.int .i64 (0)), (.int .i64 (0)), (.int .i64 (0)), (.int .i64 (0)), (.int .i64 (0)), (.int .i64 (0)), (.bool false), (.string (ByteArray.mk #[]))]), gN (.store 10 (.t 19) (.t 96))] none) (.seq (.reg false [gM 97 10, gI 98 (.load true 10 (.t 19)), gI 99 (.fadr 0 (.t 17)), gI 100 (.load false 1 (.t 99)), gI 101 (.callm (.f 101) [(.t 97), (.t 98), (.t 100)] d5i), gM 20 101] none) (.seq (.reg false [gM 102 20, gM 103 11, gI 104 (.fadr 0 (.t 19)), gI 105 (.load false 1 (.t 104)), gI 106 (.mlk 0 (.int .i64 (0)) false 0 (.t 103) (.t 105)), gI 107 (.bin .neq (.t 102) (.t 106))] none) (.cond (.t 107) (.seq (.reg false [gM 108 14, gI 109 (.fadr 0 (.t 19)), gI 110 (.load false 1 (.t 109)), gM 111 20, gI 112 (.fadr 0 (.t 17)), gI 113 (.load false 1 (.t 112)), gI 114 (.build [(.string (ByteArray.mk #[])), (.int .i64 (0)), (.int .i64 (0))] [(0, 1, (.t 110)), (1, 1, (.t 111)), (2, 1, (.t 113))]), gI 115 (.bslice 3 1 [(.t 114)]), gI 116 (.append 96 3 32 (.t 108) (.t 115)), gM 14 116] none) (.reg false [gM 117 11, gI 118 (.fadr 0 (.t 19)), gI 119 (.load false 1 (.t 118)), gM 120 20, gN (.mup 0 (.t 117) (.t 119) (.t 120))] none)) .skip))), []) := by kernel_rfl
theorem d7h : b0 Tryz.prog 133 (o7 (pG4 ++ [1, 1, 1]) lgK) [aZ] = some (.reg false [gI 121 (.bin .add (.t 93) (oI 1)), gM 93 121] none, []) := by kernel_rfl
theorem d5X : b0 Tryz.prog 133 (o7 (pG ++ [1, 1, 1]) lgK) [aZ] = some (.reg false [gI 122 (.bin .add (.t 63) (oI 1)), gM 63 122] none, []) := by kernel_rfl
theorem d6D : b0 Tryz.prog 133 (o7 [1, 1, 1, 1, 1, 1, 1, 1, 0] lgK) [aZ] = some (.reg true [gM 128 14, gM 129 10, gI 130 (.nilchk (.t 129)), gI 131 (.fadr 4 (.t 130)), gI 132 (.load false 1 (.t 131)), gM 8 128, gM 9 132] none, []) := by kernel_rfl
noncomputable def opG (p : List Nat) : List Oper := d5q (o7 p lgK)
abbrev p15 : List Nat := [1, 1, 1, 1, 1, 1, 0, 1, 0, 0, 1, 1, 0, 0, 1, 1, 0]
theorem d6z : ((opG p15).take 2).mapM (l7 Tryz.prog 133 [] (opG p15).toArray) = some [gI 72 (.fadr 4 (.t 17)), gI 73 (.load false 1 (.t 72))] := by kernel_rfl
theorem d2Q : ((opG p15).drop 2).mapM (l7 Tryz.prog 133 [(74, d2D)] (opG p15).toArray) = some [gI 74 (.callm (.t 73) [] d2D)] := by kernel_rfl
theorem d6A : ((opG p15).drop 2).mapM (l7 Tryz.prog 133 [] (opG p15).toArray) = some [gI 74 (.call (.t 73) [])] := by kernel_rfl
abbrev a1Z : List Nat := [1, 1, 1, 1, 1, 0]
theorem d2T : ((opG a1Z).take 2).mapM (l7 Tryz.prog 133 [] (opG a1Z).toArray) = some [gM 58 10, gM 59 2] := by kernel_rfl
theorem d3Y : ((opG a1Z).drop 3).mapM (l7 Tryz.prog 133 [] (opG a1Z).toArray) = some [gM 15 60] := by kernel_rfl
theorem d3S : c3e (o7 a1Z lgK) = some (opG a1Z, false) := by kernel_rfl
theorem d5p : opG a1Z = (opG a1Z).take 2 ++ (opG a1Z).getD 2 default :: ((opG a1Z).drop 3 ++ []) := by kernel_rfl
attribute [irreducible] lgK opG
section
variable {l : List Alm} {s : List Ser} {a : List Opr} {ac : List (List Cel)} {to : Int}
abbrev lgM : CAnn := ⟨[1000001, 1000005], [1000002, 1000003, 1000004, 1000007, 1000008], [], [], []⟩
abbrev d6T (k : Nat) : CAnn := ⟨[1000001, 1000005, k], [1000002, 1000003, 1000004, 1000007, 1000008], [], [], []⟩
abbrev lgH (l : List Alm) (ac : List (List Cel)) (g : Rlg) : Hp := ⟨[(1000001, waC l ac), (1000005, [.bx 1000001 0])], [(1000002, mpR g.r.st), (1000003, mpR g.r.sh), (1000004, n8 g.r.ig), (1000007, mpR g.la), (1000008, x9 g.out)]⟩
abbrev d5M (k : Nat) (cs : List Cel) (l : List Alm) (ac : List (List Cel)) (g : Rlg) : Hp := ⟨[(1000001, waC l ac), (1000005, [.bx 1000001 0]), (k, cs)], (lgH l ac g).rs⟩
theorem y4 {g : Rlg} : ∀ p ∈ (lgH l ac g).rs, XK <= p.1 := by simp [XK]
abbrev lgT (l : List Alm) (to : Int) (L : List Rvp) (i : Int) : List (Nat × Val) := [(0, r6 false l), (3, iv to), (10, .one (.bx 1000001 0)), (11, .one (.mp 1000007)), (14, .one (.ow 1000008 0)), (15, .one (.sl false 5 (L.map rvS))), (61, .one (.sl false 5 (L.map rvS))), (62, iv L.length), (63, iv i)]
abbrev N5 (l : List Alm) (to : Int) (L : List Rvp) (i : Int) (c : Cel) : List (Nat × Val) := [(0, r6 false l), (3, iv to), (10, .one (.bx 1000001 0)), (11, .one (.mp 1000007)), (14, .one (.ow 1000008 0)), (15, .one (.sl false 5 (L.map rvS))), (16, iv i), (17, .one c), (61, .one (.sl false 5 (L.map rvS))), (62, iv L.length), (63, iv i)]
abbrev a0J : List Nat := [0, 3, 10, 11, 14, 15, 16, 17, 61, 62, 63]
theorem c3c (L : List Rvp) (i : Int) (g : Rlg) :
  ex Tryz.prog (.reg false [gI 64 (.bin .lss (.t 63) (.t 62))] none) [] (C9 [64, 0, 3, 10, 11, 14, 15, 61, 62, 63] lgM ((64, bv (decide (i < L.length))) :: lgT l to L i) (lgH l ac g)) (lAS (lgT l to L i) (lgH l ac g)) := by
 unfold lAS lgH lgT waC
 exact qt
theorem c3M (L : List Rvp) (i : Int) (hi : 0 <= i ∧ i < L.length) (v : Val) (g : Rlg) :
  ex Tryz.prog (.reg false [gM 65 63, gI 66 (.iadr 5 (.t 61) (.t 63)), gI 67 (.load true 5 (.t 66)), gI 17 (.alloc [(.int .i64 (0)), (.int .i64 (0)), (.string (ByteArray.mk #[])), (.int .i64 (0)), .nilFunc]), gM 16 65, gN (.store 5 (.t 17) (.t 67))] none) [] (C9 a0J (d6T 17) (N5 l to L i (.bx 17 0)) (d5M 17 (rvS (L.getD i.toNat default)) l ac g)) (lAS ((64, v) :: lgT l to L i) (lgH l ac g)) := by
 unfold lAS lgH d5M lgT N5 a0J waC
 exact qt
theorem c2I (L : List Rvp) (i : Int) (x : Rvp) (g : Rlg) :
  ex Tryz.prog (.reg false [gI 68 (.fadr 0 (.t 17)), gI 69 (.load false 1 (.t 68)), gM 70 3, gI 71 (.bin .gtr (.t 69) (.t 70))] none) [] (C9 (71 :: a0J) lgM ((71, bv (decide (x.r.a > to))) :: N5 l to L i (.ep (rvS x))) (lgH l ac g)) (lAS (N5 l to L i (.ep (rvS x))) (lgH l ac g)) := by
 unfold lAS lgH N5 a0J waC
 simp only [x5]
 exact qt
theorem b6z (L : List Rvp) (i : Int) (x : Rvp) (v : Val) (g : Rlg) :
  ex Tryz.prog (.reg false [gI 72 (.fadr 4 (.t 17)), gI 73 (.load false 1 (.t 72))] none) [] (C9 (73 :: a0J) lgM ((73, .one (.g x.f)) :: N5 l to L i (.ep (rvS x))) (lgH l ac g)) (lAS ((71, v) :: N5 l to L i (.ep (rvS x))) (lgH l ac g)) := by
 unfold lAS lgH N5 a0J waC
 simp only [x5]
 exact qt
theorem a5p (L : List Rvp) (i : Int) (x : Rvp) (g : Rlg) (r' : Rst) (f : FuncId) (d1 : List Cel)
  (hf : F9 Tryz.prog f [1000002, 1000003] (wbH l ac g.r) [.one (.bx 1000005 0), .one (.ep d1)] (fun H y => H = wbH l ac r' ∧ y = .tu [])) :
  ex Tryz.prog (.reg false [gI 74 (.callm (.t 73) [] d2D)] none) [] (C9 a0J lgM (N5 l to L i (.ep (rvS x))) (lgH l ac ⟨r', g.la, g.out⟩)) (lAS ((73, .one (.fn f [.bx 1000005 0, .ep d1])) :: N5 l to L i (.ep (rvS x))) (lgH l ac g)) := by
 unfold lAS lgH N5 a0J waC
 unfold wbH waC at hf
 refine qv ?_
 refine ⟨rfl, e7 hf ⟨rfl, rfl⟩ ?_⟩
 exact qt
theorem b4b (L : List Rvp) (i : Int) (x : Rvp) (g : Rlg) (r' : Rst) (f : FuncId) (d1 d2 : List Cel)
  (hf : F9 Tryz.prog f [1000002, 1000003] (wbH l ac g.r) [.one (.bx 1000005 0), .one (.ep d1), .one (.ep d2)] (fun H y => H = wbH l ac r' ∧ y = .tu [])) :
  ex Tryz.prog (.reg false [gI 74 (.callm (.t 73) [] d2D)] none) [] (C9 a0J lgM (N5 l to L i (.ep (rvS x))) (lgH l ac ⟨r', g.la, g.out⟩)) (lAS ((73, .one (.fn f [.bx 1000005 0, .ep d1, .ep d2])) :: N5 l to L i (.ep (rvS x))) (lgH l ac g)) := by
 unfold lAS lgH N5 a0J waC
 unfold wbH waC at hf
 refine qv ?_
 refine ⟨rfl, e7 hf ⟨rfl, rfl⟩ ?_⟩
 exact qt
theorem c0c (L : List Rvp) (i : Int) (x : Rvp) (g : Rlg) :
  ex Tryz.prog (.reg false [gI 74 (.call (.t 73) [])] none) [] (C9 a0J lgM (N5 l to L i (.ep (rvS x))) (lgH l ac g)) (lAS ((73, .one (.fn 146 [])) :: N5 l to L i (.ep (rvS x))) (lgH l ac g)) := by
 unfold lAS lgH N5 a0J waC
 refine qc c7G ?_
 exact qt
theorem c4l (L : List Rvp) (i : Int) (hi : 0 <= i ∧ i < L.length) (hL : L.length <= 1000000) (x : Rvp) (g : Rlg) :
  ex Tryz.prog (.reg true [gM 75 16, gI 76 (.bin .add (.t 75) (oI 1)), gM 77 15, gI 78 (.len (.t 77)), gI 79 (.bin .lss (.t 76) (.t 78)), gM 80 79, gG 81 80 true (.mv (.t 15)), gG 82 80 true (.mv (.t 16)), gG 83 80 true (.bin .add (.t 82) (oI 1)), gG 84 80 true (.iadr 5 (.t 81) (.t 83)), gG 85 80 true (.fadr 0 (.t 84)), gG 86 80 true (.load false 1 (.t 85)), gG 87 80 true (.fadr 0 (.t 17)), gG 88 80 true (.load false 1 (.t 87)), gG 89 80 true (.bin .eql (.t 86) (.t 88)), gI 90 (.pick (.t 80) (.t 89) (.v (.bool false)))] none) [] (C9 (90 :: a0J) lgM ((90, bv (hdT Rev.a ((L.drop (i.toNat + 1)).map (·.r)) x.r.a)) :: N5 l to L i (.ep (rvS x))) (lgH l ac g)) (lAS (N5 l to L i (.ep (rvS x))) (lgH l ac g)) := by
 by_cases h : i + 1 < L.length
 ·have e : hdT Rev.a ((L.drop (i.toNat + 1)).map (·.r)) x.r.a = decide ((L.getD (i + 1).toNat default).r.a = x.r.a) := by
   rw [F6 (show i.toNat + 1 < L.length by omega), List.map_cons, hdT, show (i + 1).toNat = i.toNat + 1 by omega]
  rw [e]
  unfold lAS lgH N5 a0J waC
  simp only [x5]
  exact qt
 ·have e : hdT Rev.a ((L.drop (i.toNat + 1)).map (·.r)) x.r.a = false := by
   rw [List.drop_eq_nil_of_le (by omega)]; rfl
  rw [e]
  unfold lAS lgH N5 a0J waC
  simp only [x5]
  exact qt
abbrev a9c (l : List Alm) (to : Int) (L : List Rvp) (i : Int) (x : Rvp) (j : Int) : List (Nat × Val) := (91, r6 false l) :: (92, iv l.length) :: (93, iv j) :: N5 l to L i (.ep (rvS x))
theorem c1V (L : List Rvp) (i : Int) (x : Rvp) (v : Val) (g : Rlg) :
  ex Tryz.prog (.reg false [gM 91 0, gI 92 (.len (.t 91)), gI 93 (.mv (oI 0))] none) [] (C9 (91 :: 92 :: 93 :: a0J) lgM (a9c l to L i x 0) (lgH l ac g)) (lAS ((90, v) :: N5 l to L i (.ep (rvS x))) (lgH l ac g)) := by
 unfold lAS lgH a9c N5 a0J waC
 exact qt
theorem c5z (L : List Rvp) (i : Int) (x : Rvp) (j : Int) (g : Rlg) :
  ex Tryz.prog (.reg false [gI 94 (.bin .lss (.t 93) (.t 92))] none) [] (C9 (94 :: 91 :: 92 :: 93 :: a0J) lgM ((94, bv (decide (j < l.length))) :: a9c l to L i x j) (lgH l ac g)) (lAS (a9c l to L i x j) (lgH l ac g)) := by
 unfold lAS lgH a9c N5 a0J waC
 exact qt
theorem c6m (L : List Rvp) (i : Int) (x : Rvp) (j : Int) (hj : 0 <= j ∧ j <= 1000000) (g : Rlg) :
  ex Tryz.prog (.reg false [gI 121 (.bin .add (.t 93) (oI 1)), gM 93 121] none) [] (C9 (91 :: 92 :: 93 :: a0J) lgM (a9c l to L i x (j + 1)) (lgH l ac g)) (lAS (a9c l to L i x j) (lgH l ac g)) := by
 unfold lAS lgH a9c N5 a0J waC
 exact qt
theorem c3x (L : List Rvp) (i : Int) (hi : 0 <= i ∧ i <= 1000000) (c : Cel) (g : Rlg) :
  ex Tryz.prog (.reg false [gI 122 (.bin .add (.t 63) (oI 1)), gM 63 122] none) [] (C9 [0, 3, 10, 11, 14, 15, 61, 62, 63] lgM (lgT l to L (i + 1)) (lgH l ac g)) (lAS (N5 l to L i c) (lgH l ac g)) := by
 unfold lAS lgH lgT N5 waC
 exact qt
theorem c2V (hA : J4 l) (hW : ∀ k, (wnK s k l).length <= 1000000) (L : List Rvp) (i : Int) (x : Rvp) (j : Int) (hj : 0 <= j ∧ j < l.length) (v : Val) (g : Rlg) (hg : g.out.length <= 1000000) :
  ex Tryz.prog (.seq (.reg false [gI 95 (.iadr 10 (.t 91) (.t 93)), gI 96 (.load true 10 (.t 95)), gI 19 (.alloc [(.string (ByteArray.mk #[])), (.string (ByteArray.mk #[])), (.int .i64 (0)), (.int .i64 (0)), (.int .i64 (0)), (.int .i64 (0)), (.int .i64 (0)), (.int .i64 (0)), (.bool false), (.string (ByteArray.mk #[]))]), gN (.store 10 (.t 19) (.t 96))] none) (.seq (.reg false [gM 97 10, gI 98 (.load true 10 (.t 19)), gI 99 (.fadr 0 (.t 17)), gI 100 (.load false 1 (.t 99)), gI 101 (.callm (.f 101) [(.t 97), (.t 98), (.t 100)] d5i), gM 20 101] none) (.seq (.reg false [gM 102 20, gM 103 11, gI 104 (.fadr 0 (.t 19)), gI 105 (.load false 1 (.t 104)), gI 106 (.mlk 0 (.int .i64 (0)) false 0 (.t 103) (.t 105)), gI 107 (.bin .neq (.t 102) (.t 106))] none) (.cond (.t 107) (.seq (.reg false [gM 108 14, gI 109 (.fadr 0 (.t 19)), gI 110 (.load false 1 (.t 109)), gM 111 20, gI 112 (.fadr 0 (.t 17)), gI 113 (.load false 1 (.t 112)), gI 114 (.build [(.string (ByteArray.mk #[])), (.int .i64 (0)), (.int .i64 (0))] [(0, 1, (.t 110)), (1, 1, (.t 111)), (2, 1, (.t 113))]), gI 115 (.bslice 3 1 [(.t 114)]), gI 116 (.append 96 3 32 (.t 108) (.t 115)), gM 14 116] none) (.reg false [gM 117 11, gI 118 (.fadr 0 (.t 19)), gI 119 (.load false 1 (.t 118)), gM 120 20, gN (.mup 0 (.t 117) (.t 119) (.t 120))] none)) .skip))))
   [] (C9 (91 :: 92 :: 93 :: a0J) lgM (a9c l to L i x j) (lgH l (acM s l) (rpX l s x.r.a (l.getD j.toNat default) g))) (lAS ((94, v) :: a9c l to L i x j) (lgH l (acM s l) g)) := by
 have hr := b9h l hA s hW g.r (l.getD j.toNat default) (f8 l _ (by omega)) x.r.a
 unfold rpX
 generalize c0J l s g.r (l.getD j.toNat default) x.r.a = now at *
 unfold waH waC at hr
 by_cases c : now ≠ mgt (l.getD j.toNat default).k g.la
 ·rw [if_pos c]
  unfold lAS lgH a9c N5 a0J waC
  simp only [x5]
  refine qv ?_
  refine ⟨rfl, e7 hr ⟨rfl, rfl⟩ ?_⟩
  refine qv ?_
  rw [x9, List.map_append]; rfl
 ·rw [if_neg c]
  unfold lAS lgH a9c N5 a0J waC
  simp only [x5]
  refine qv ?_
  refine ⟨rfl, e7 hr ⟨rfl, rfl⟩ ?_⟩
  exact qt
end
section
variable {ok0 : Nat -> Prop} {w0 : World} {E0 : Env} {gb gw : Nat} {ul : Value} {l : List Alm} {s : List Ser} {a : List Opr} {to : Int} {M : List Rev}
theorem a6T (t : Int) : ∀ (k : List Alm) (g : Rlg), (k.foldl (fun g x => rpX l s t x g) g).out.length <= g.out.length + k.length
 | [], g => by simp
 | x :: k, g => by
  have ih := a6T t k (rpX l s t x g)
  rw [List.foldl_cons, List.length_cons]
  have : (rpX l s t x g).out.length <= g.out.length + 1 := by
   unfold rpX; split
   ·simp
   ·simp
  omega
theorem c5W (t : Int) : ∀ (k : List Alm) (g : Rlg), (k.foldl (fun g x => rpX l s t x g) g).r = g.r
 | [], g => rfl
 | x :: k, g => by
  rw [List.foldl_cons, c5W t k]
  unfold rpX; split <;> rfl
theorem c9R (hA : J4 l) (hW : ∀ k, (wnK s k l).length <= 1000000) {L : List Rvp} {i : Int} {x : Rvp} {g : Rlg} (hg : g.out.length + l.length <= 1000000) {ok : Nat -> Prop} {b : Act} {w : World} {E : Env} (hI : EvI ok0 w0 E0 gb gw ul l a M L ok w E)
  (h : Plc Tryz.prog 133 ok (a9c l to L i x 0) (lgH l (acM s l) g) b w E) {R : Exit -> Act -> World -> Prop}
  (hR : ∀ ok' b' w' E', EvI ok0 w0 E0 gb gw ul l a M L ok' w' E' -> Plc Tryz.prog 133 ok' (N5 l to L i (.ep (rvS x))) (lgH l (acM s l) (rpR l s x.r.a g)) b' w' E' -> R .normal b' w') :
  (o7 [1, 1, 1, 1, 1, 1, 0, 1, 0, 0, 1, 1, 0, 0, 1, 1, 1, 1, 1] lgK).wp Tryz.prog R b w := by
 have hX : XK <= 1000005 := by simp [XK]
 refine b0T _ 4 (by kernel_rfl) ?_
 refine b0f (pG3 ++ [1, 1, 1, 1, 1, 0]) (by kernel_rfl) (fun n b w => ∃ (j : Int) (ok : Nat -> Prop) (E : Env), 0 <= j ∧ j <= l.length ∧ n = (l.length - j).toNat ∧
  EvI ok0 w0 E0 gb gw ul l a M L ok w E ∧ Plc Tryz.prog 133 ok (a9c l to L i x j) (lgH l (acM s l) ((l.take j.toNat).foldl (fun g y => rpX l s x.r.a y g) g)) b w E) l.length ⟨0, ok, E, by omega, by omega, by omega, hI, h⟩ ?_
 rintro n b w ⟨j, ok, E, j0, j1, rfl, hI, h⟩
 have hgl := a6T (l := l) (s := s) x.r.a (l.take j.toNat) g
 have htl : (l.take j.toNat).length = j.toNat := by rw [List.length_take]; omega
 refine h.seqP pG4 (by kernel_rfl) d5U y4 _ _ (c5z L i x j _) fun b1 w1 ok1 E1 h1 A1 => ?_
 have I1 := hI.adv A1 h.no (gbs h1 A1 hI.g)
 refine a0G (pG4 ++ [1]) (by kernel_rfl) ?_
 refine a2s (pG4 ++ [1, 0]) (.tmp 94) (by kernel_rfl) (h1.bool rfl) (fun hb => ?_) (fun hb => ?_)
 rotate_left
 ·refine a4V (pG4 ++ [1, 0, 1]) 4 (by kernel_rfl) ?_
  have hj : j = l.length := by have := of_decide_eq_false hb; omega
  subst hj
  simp only [Exit.then, Exit.inBlock, if_true]
  have e : l.take (l.length : Int).toNat = l := List.take_of_length_le (by omega)
  rw [e] at h1
  refine hR ok1 b1 w1 E1 I1 ((((h1.tail rfl rfl).tail rfl rfl).tail rfl rfl).tail rfl rfl)
 have hb := of_decide_eq_true hb
 refine a2r (pG4 ++ [1, 0, 0]) (by kernel_rfl) ?_
 simp only [Exit.then]
 refine a0G (pG4 ++ [1, 1]) (by kernel_rfl) ?_
 refine b0T (pG4 ++ [1, 1, 0]) 5 (by kernel_rfl) ?_
 refine h1.code1 d5S y4 _ _ (c2V hA hW L i x j ⟨j0, hb⟩ _ _ (by omega)) fun b2 w2 ok2 E2 h2 A2 => ?_
 have I2 := I1.adv A2 h1.no (gbs h2 A2 I1.g)
 simp only [Exit.inBlock, Exit.then]
 refine h2.code1 d7h y4 _ _ (c6m L i x j ⟨j0, by omega⟩ _) fun b3 w3 ok3 E3 h3 A3 => ?_
 refine ⟨(l.length - (j + 1)).toNat, by omega, j + 1, ok3, E3, by omega, by omega, rfl, I2.adv A3 h2.no (gbs h3 A3 I2.g), ?_⟩
 rw [show (j + 1).toNat = j.toNat + 1 by omega, B7 (show j.toNat < l.length by omega), List.foldl_append]
 exact h3
theorem fn1 {w : World} {ok : Nat -> Prop} {E : Env} {base : Nat} {f : FuncId} {d : List Cel} {v : Value} (hg : E.gm 1000005 = some gb) (h2 : CRel0 w ok 0 Env.none (.ep d) v) :
  VRel w ok base E (.one (.fn f [.bx 1000005 0, .ep d])) (.func (.func f) #[] #[.pointer (some ⟨gb, 0, none⟩), v]) := by
 refine .one ⟨[.pointer (some ⟨gb, 0, none⟩), v], rfl, rfl, fun i c u h3 h4 => ?_⟩
 match i with
 | 0 => simp at h3 h4; subst h3; subst h4; exact ⟨gb, hg, rfl⟩
 | 1 => simp at h3 h4; subst h3; subst h4; exact h2
 | i + 2 => simp at h3
theorem fn2 {w : World} {ok : Nat -> Prop} {E : Env} {base : Nat} {f : FuncId} {d e : List Cel} {v u : Value} (hg : E.gm 1000005 = some gb) (h2 : CRel0 w ok 0 Env.none (.ep d) v) (h3 : CRel0 w ok 0 Env.none (.ep e) u) :
  VRel w ok base E (.one (.fn f [.bx 1000005 0, .ep d, .ep e])) (.func (.func f) #[] #[.pointer (some ⟨gb, 0, none⟩), v, u]) := by
 refine .one ⟨[.pointer (some ⟨gb, 0, none⟩), v, u], rfl, rfl, fun i c z h5 h4 => ?_⟩
 match i with
 | 0 => simp at h5 h4; subst h5; subst h4; exact ⟨gb, hg, rfl⟩
 | 1 => simp at h5 h4; subst h5; subst h4; exact h2
 | 2 => simp at h5 h4; subst h5; subst h4; exact h3
 | i + 3 => simp at h5
theorem d3A (hl : l.length <= 1000000) {L : List Rvp} {i : Int} {x : Rvp} (hx : x ∈ L) {v : Val} {g : Rlg} (hg : g.r.ig.length <= 1000000) {ok : Nat -> Prop} {b : Act} {w : World} {E : Env} (hI : EvI ok0 w0 E0 gb gw ul l a M L ok w E)
  (h : Plc Tryz.prog 133 ok ((71, v) :: N5 l to L i (.ep (rvS x))) (lgH l (acM s l) g) b w E) {R : Exit -> Act -> World -> Prop}
  (hR : ∀ ok' b' w' E', EvI ok0 w0 E0 gb gw ul l a M L ok' w' E' -> Plc Tryz.prog 133 ok' (N5 l to L i (.ep (rvS x))) (lgH l (acM s l) (apR l a x.r g)) b' w' E' -> R .normal b' w') : (o7 p15 lgK).wp Tryz.prog R b w := by
 have hX : XK <= 1000005 := by simp [XK]
 refine d2F p15 (l := opG p15) (by kernel_rfl) ?_
 have e : opG p15 = (opG p15).take 2 ++ ((opG p15).drop 2 ++ []) := by rw [List.append_nil, List.take_append_drop]
 have e2 : wpList Tryz.prog (opG p15).toArray R (opG p15) b w = wpList Tryz.prog (opG p15).toArray R ((opG p15).take 2 ++ ((opG p15).drop 2 ++ [])) b w := by rw [<- e]
 rw [e2]
 refine h.ops1 d6z y4 _ _ (b6z L i x v g) fun b1 w1 ok1 E1 h1 A1 => ?_
 have I1 := hI.adv A1 h.no (gbs h1 A1 hI.g)
 have hc := I1.c x hx
 have hf := h1.tm 73
 have hev : b1.tmps.getD 73 undef = x.f := by
  generalize b1.tmps.getD 73 undef = u at hf
  cases hf with
  | one h2 => exact h2.1
 have rest : ∀ {cs : List Cel} {f : FuncId}, VRel w1 ok1 w1.heap.size E1 (.one (.fn f cs)) x.f -> Plc Tryz.prog 133 ok1 ((73, .one (.fn f cs)) :: N5 l to L i (.ep (rvS x))) (lgH l (acM s l) g) b1 w1 E1 := fun hv => by
  have h2 := h1.tail (tl' := N5 l to L i (.ep (rvS x))) rfl rfl
  refine ⟨h2.toWd, h2.size, h2.nx, h2.defers, fun t => ?_⟩
  simp only [m7]
  by_cases et : t = 73
  ·grind
  ·rw [if_neg et]; exact h2.tm t
 have fin : ∀ (r' : Rst), doR l a x.r.d g.r = r' -> ∀ ok2 b2 w2 E2, Plc Tryz.prog 133 ok2 (N5 l to L i (.ep (rvS x))) (lgH l (acM s l) ⟨r', g.la, g.out⟩) b2 w2 E2 -> Adv w1 ok1 E1 w2 ok2 E2 -> R .normal b2 w2 := fun r' hr' ok2 b2 w2 E2 h2 A2 => by
  subst hr'
  exact hR ok2 b2 w2 E2 (I1.adv A2 h1.no (gbs h2 A2 I1.g)) h2
 unfold ClE at hc
 cases hd : x.r.d with
 | on i' =>
  simp only [hd] at hc
  obtain ⟨v, c1, c2⟩ := hc
  refine (rest (by rw [c1]; exact fn1 I1.g.1 c2)).ops1 d2Q y4 _ _ (a5p L i x g _ _ _ (c5a l (acM s l) g.r (l.getD i' default))) fun b2 w2 ok2 E2 h2 A2 => fin _ (by rw [hd]; rfl) ok2 b2 w2 E2 h2 A2
 | off i' =>
  simp only [hd] at hc
  obtain ⟨v, c1, c2⟩ := hc
  refine (rest (by rw [c1]; exact fn1 I1.g.1 c2)).ops1 d2Q y4 _ _ (a5p L i x g _ _ _ (c2S l (acM s l) g.r (l.getD i' default))) fun b2 w2 ok2 E2 h2 A2 => fin _ (by rw [hd]; rfl) ok2 b2 w2 E2 h2 A2
 | act k =>
  simp only [hd] at hc
  obtain ⟨v, u, c1, c2, c3⟩ := hc
  refine (rest (by rw [c1]; exact fn2 I1.g.1 c2 c3)).ops1 d2Q y4 _ _ (b4b L i x g _ _ _ _ (c2T l hl (acM s l) g.r hg (a.getD k default) k)) fun b2 w2 ok2 E2 h2 A2 => fin _ (by rw [hd]; rfl) ok2 b2 w2 E2 h2 A2
 | nop =>
  simp only [hd] at hc
  refine (rest (cs := []) (by rw [hc]; exact .one ⟨[], rfl, rfl, fun i c u h => by simp at h⟩)).ops1 d6A y4 _ _ (c0c L i x g) fun b2 w2 ok2 E2 h2 A2 => fin g.r (by rw [hd]; rfl) ok2 b2 w2 E2 h2 A2
end
section
variable {ok0 : Nat -> Prop} {w0 : World} {E0 : Env} {gb gw : Nat} {ul : Value} {l : List Alm} {s : List Ser} {a : List Opr} {to : Int} {M : List Rev}
theorem d6I (x : Rvp) : ∀ c ∈ rvS x, c.isD = true := by simp [x5, Cel.isD]
abbrev b7Q : List (Nat × Val) := [(10, .one (.bx 1000001 0)), (14, .one (.ow 1000008 0))]
theorem d0Y {ok : Nat -> Prop} {tl : List (Nat × Val)} {H : Hp} {b : Act} {w : World} {E : Env} (h : Plc Tryz.prog 133 ok tl H b w E) (h1 : m7 tl 10 = .one (.bx 1000001 0)) (h2 : m7 tl 14 = .one (.ow 1000008 0)) : Plc Tryz.prog 133 ok b7Q H b w E := by
 refine h.set _ fun p hp => ?_
 simp only [List.mem_cons, List.not_mem_nil, or_false] at hp
 rcases hp with rfl | rfl
 ·have := h.tm 10; rw [h1] at this; exact this
 ·have := h.tm 14; rw [h2] at this; exact this
theorem d1Q (hA : J4 l) (hW : ∀ k, (wnK s k l).length <= 1000000) {L : List Rvp} {i : Int} (hi : 0 <= i ∧ i < L.length) (hL : L.length <= 1000000) {x : Rvp} {g : Rlg} (hg : g.out.length + l.length <= 1000000) {ok : Nat -> Prop} {b : Act} {w : World} {E : Env} (hI : EvI ok0 w0 E0 gb gw ul l a M L ok w E)
  (h : Plc Tryz.prog 133 ok (N5 l to L i (.ep (rvS x))) (lgH l (acM s l) g) b w E) {R : Exit -> Act -> World -> Prop}
  (hR : ∀ ok' b' w' E', EvI ok0 w0 E0 gb gw ul l a M L ok' w' E' -> Plc Tryz.prog 133 ok' (N5 l to L i (.ep (rvS x))) (lgH l (acM s l) (if hdT Rev.a ((L.drop (i.toNat + 1)).map (·.r)) x.r.a = true then g else rpR l s x.r.a g)) b' w' E' -> R (.exit 3) b' w' ∧ R .normal b' w') :
  (o7 [1, 1, 1, 1, 1, 1, 0, 1, 0, 0, 1, 1, 0, 0, 1, 1, 1] lgK).wp Tryz.prog R b w := by
 have hX : XK <= 1000005 := by simp [XK]
 refine a0G _ (by kernel_rfl) ?_
 refine h.seqP (pG3 ++ [1, 1, 1, 0]) (by kernel_rfl) d6y y4 _ _ (c4l L i hi hL x g) fun b1 w1 ok1 E1 h1 A1 => ?_
 have I1 := hI.adv A1 h.no (gbs h1 A1 hI.g)
 refine a2s (pG3 ++ [1, 1, 1, 0, 1]) (.tmp 90) (by kernel_rfl) (h1.bool rfl) (fun hb => ?_) (fun hb => ?_)
 ·refine a4V (pG3 ++ [1, 1, 1, 0, 1, 0]) 3 (by kernel_rfl) ?_
  refine (hR ok1 b1 w1 E1 I1 ?_).1
  rw [if_pos hb]
  exact h1.tail rfl rfl
 refine a2r (pG3 ++ [1, 1, 1, 0, 1, 1]) (by kernel_rfl) ?_
 simp only [Exit.then]
 refine h1.seqP (pG3 ++ [1, 1, 1, 1]) (by kernel_rfl) d7a y4 _ _ (c1V L i x _ g) fun b2 w2 ok2 E2 h2 A2 => ?_
 have I2 := I1.adv A2 h1.no (gbs h2 A2 I1.g)
 refine c9R hA hW hg I2 h2 fun ok' b' w' E' hI' h' => ?_
 grind
theorem c7F (hA : J4 l) (hl : l.length <= 1000000) (hW : ∀ k, (wnK s k l).length <= 1000000) {L : List Rvp} {i : Int} (hi : 0 <= i ∧ i <= L.length) (hL : L.length <= 1000000) {g : Rlg} (hg : g.out.length + l.length <= 1000000) (hig : g.r.ig.length <= 1000000) {ok : Nat -> Prop} {b : Act} {w : World} {E : Env} (hI : EvI ok0 w0 E0 gb gw ul l a M L ok w E)
  (h : Plc Tryz.prog 133 ok (lgT l to L i) (lgH l (acM s l) g) b w E) {Q : Exit -> Act -> World -> Prop}
  (hE : (i = L.length ∨ (i < L.length ∧ to < (L.getD i.toNat default).r.a)) -> ∀ ok' b' w' E', EvI ok0 w0 E0 gb gw ul l a M L ok' w' E' -> Plc Tryz.prog 133 ok' b7Q (lgH l (acM s l) g) b' w' E' -> Q (.exit 2) b' w')
  (hN : i < L.length -> ¬to < (L.getD i.toNat default).r.a -> ∀ ok' b' w' E', EvI ok0 w0 E0 gb gw ul l a M L ok' w' E' -> Plc Tryz.prog 133 ok' (lgT l to L (i + 1)) (lgH l (acM s l) (if hdT Rev.a ((L.drop (i.toNat + 1)).map (·.r)) (L.getD i.toNat default).r.a = true then apR l a (L.getD i.toNat default).r g else rpR l s (L.getD i.toNat default).r.a (apR l a (L.getD i.toNat default).r g))) b' w' E' -> Q .normal b' w') :
  (o7 pG lgK).wp Tryz.prog Q b w := by
 have hX : XK <= 1000005 := by simp [XK]
 refine h.seqP pG (by kernel_rfl) d7k y4 _ _ (c3c L i g) fun b1 w1 ok1 E1 h1 A1 => ?_
 have I1 := hI.adv A1 h.no (gbs h1 A1 hI.g)
 refine a0G (pG ++ [1]) (by kernel_rfl) ?_
 refine a2s (pG ++ [1, 0]) (.tmp 64) (by kernel_rfl) (h1.bool rfl) (fun hb => ?_) (fun hb => ?_)
 rotate_left
 ·refine a4V (pG ++ [1, 0, 1]) 2 (by kernel_rfl) ?_
  have hj : i = L.length := by have := of_decide_eq_false hb; omega
  simp only [Exit.then]
  exact hE (.inl hj) ok1 b1 w1 E1 I1 (d0Y h1 rfl rfl)
 have hb := of_decide_eq_true hb
 refine a2r (pG ++ [1, 0, 0]) (by kernel_rfl) ?_
 simp only [Exit.then]
 refine a0G (pG ++ [1, 1]) (by kernel_rfl) ?_
 refine b0T (pG ++ [1, 1, 0]) 3 (by kernel_rfl) ?_
 refine h1.seqP pG3 (by kernel_rfl) d6g y4 _ _ (c3M L i ⟨hi.1, hb⟩ _ g) fun b2 w2 ok2 E2 h2 A2 => ?_
 have I2 := I1.adv A2 h1.no (gbs h2 A2 I1.g)
 have hx : L.getD i.toNat default ∈ L := f8 L _ (by omega)
 generalize hxe : L.getD i.toNat default = x at *
 obtain ⟨g17, ok3, hg17, h3, A3⟩ := h2.freeze 17 (cs := rvS x) rfl (d6I _)
 have h4 : Plc Tryz.prog 133 ok3 (N5 l to L i (.ep (rvS x))) (lgH l (acM s l) g) b2 w2 (E2.del 17) := h3
 have I3 := I2.adv A3 h2.no (gbs h4 A3 I2.g)
 clear h3 h2
 refine a0G (pG3 ++ [1]) (by kernel_rfl) ?_
 refine h4.seqP (pG3 ++ [1, 0]) (by kernel_rfl) d6L y4 _ _ (c2I L i x g) fun b3 w3 ok4 E3 h5 A4 => ?_
 have I4 := I3.adv A4 h4.no (gbs h5 A4 I3.g)
 refine a2s (pG3 ++ [1, 0, 1]) (.tmp 71) (by kernel_rfl) (h5.bool rfl) (fun hc => ?_) (fun hc => ?_)
 ·have hc := of_decide_eq_true hc
  refine a4V (pG3 ++ [1, 0, 1, 0]) 2 (by kernel_rfl) ?_
  simp only [Exit.then, Exit.inBlock]
  rw [if_neg (by omega)]
  exact hE (.inr ⟨hb, by omega⟩) ok4 b3 w3 E3 I4 (d0Y h5 rfl rfl)
 have hc := of_decide_eq_false hc
 refine a2r (pG3 ++ [1, 0, 1, 1]) (by kernel_rfl) ?_
 simp only [Exit.then]
 refine a0G (pG3 ++ [1, 1]) (by kernel_rfl) ?_
 refine d3A hl hx hig I4 h5 fun ok5 b5 w5 E5 I5 h6 => ?_
 simp only [Exit.then]
 refine d1Q hA hW ⟨hi.1, hb⟩ hL (g := apR l a x.r g) hg I5 h6 fun ok6 b6 w6 E6 I6 h7 => ?_
 simp only [Exit.inBlock, if_true, Exit.then]
 refine (fun hq => ⟨hq, hq⟩) ?_
 refine h7.code1 d5X y4 _ _ (c3x L i ⟨hi.1, by omega⟩ _ _) fun b7 w7 ok7 E7 h8 A8 => ?_
 exact hN hb (by omega) ok7 b7 w7 E7 (I6.adv A8 h7.no (gbs h8 A8 I6.g)) h8
theorem b3X (l : List Alm) (s : List Ser) (t : Int) (g : Rlg) : (rpR l s t g).out.length <= g.out.length + l.length ∧ (rpR l s t g).r = g.r := ⟨a6T t l g, c5W t l g⟩
theorem c1P (l : List Alm) (a : List Opr) (d : Rdo) (r : Rst) : (doR l a d r).ig.length <= r.ig.length + 1 := by
 have h : ∀ x, (actR l x r).1.ig = r.ig := fun x => by
  unfold actR
  (repeat' split) <;> rfl
 cases d with
 | on i => simp [doR]
 | off i => simp [doR]
 | nop => simp [doR]
 | act k =>
  simp only [doR]
  all_goals grind
theorem d1y (hA : J4 l) (hl : l.length <= 1000000) (hW : ∀ k, (wnK s k l).length <= 1000000) {L : List Rvp} (hL : L.length <= 1000000) (hLl : (L.length + 1) * l.length <= 1000000) {g0 : Rlg} (hg0 : g0.out = []) (hig0 : g0.r.ig = []) {ok : Nat -> Prop} {b : Act} {w : World} {E : Env} (hI : EvI ok0 w0 E0 gb gw ul l a M L ok w E)
  (h : Plc Tryz.prog 133 ok (lgT l to L 0) (lgH l (acM s l) g0) b w E) {R : Exit -> Act -> World -> Prop}
  (hR : ∀ ok' b' w' E', EvI ok0 w0 E0 gb gw ul l a M L ok' w' E' -> Plc Tryz.prog 133 ok' b7Q (lgH l (acM s l) (rnR l s a to (L.map (·.r)) g0)) b' w' E' -> R .normal b' w') :
  (o7 [1, 1, 1, 1, 1, 1, 0, 1] lgK).wp Tryz.prog R b w := by
 refine b0T _ 2 (by kernel_rfl) ?_
 refine b0f [1, 1, 1, 1, 1, 1, 0, 1, 0] (by kernel_rfl) (fun n b w => ∃ (i : Int) (g : Rlg) (ok : Nat -> Prop) (E : Env), 0 <= i ∧ i <= L.length ∧ n = (L.length - i).toNat ∧ g.out.length <= i.toNat * l.length ∧ g.r.ig.length <= i.toNat ∧
  rnR l s a to ((L.drop i.toNat).map (·.r)) g = rnR l s a to (L.map (·.r)) g0 ∧ EvI ok0 w0 E0 gb gw ul l a M L ok w E ∧ Plc Tryz.prog 133 ok (lgT l to L i) (lgH l (acM s l) g) b w E) L.length ⟨0, g0, ok, E, by omega, by omega, by omega, by simp [hg0], by simp [hig0], rfl, hI, h⟩ ?_
 rintro n b w ⟨i, g, ok, E, i0, i1, rfl, i2, i3, i4, hI, h⟩
 have hm1 : (i.toNat + 1) * l.length <= (L.length + 1) * l.length := Nat.mul_le_mul_right _ (by omega)
 have hm2 : (i.toNat + 1) * l.length = i.toNat * l.length + l.length := Nat.succ_mul _ _
 refine c7F hA hl hW ⟨i0, i1⟩ hL (by omega) (by omega) hI h (fun he ok' b' w' E' hI' h' => ?_) (fun hb hc ok' b' w' E' hI' h' => ?_)
 ·simp only [Exit.then, Exit.inBlock, if_true]
  refine hR ok' b' w' E' hI' ?_
  rw [<- i4]
  rcases he with he | ⟨h1, h2⟩
  ·rw [List.drop_eq_nil_of_le (by omega)]; exact h'
  ·rw [F6 (show i.toNat < L.length by omega), List.map_cons, rnR, a4t, if_pos h2]; exact h'
 ·simp only [Exit.then]
  rw [F6 (show i.toNat < L.length by omega), List.map_cons, rnR, a4t, if_neg hc] at i4
  have hr := b3X l s (L.getD i.toNat default).r.a (apR l a (L.getD i.toNat default).r g)
  have hd := c1P l a (L.getD i.toNat default).r.d g.r
  refine ⟨(L.length - (i + 1)).toNat, by omega, i + 1, _, ok', E', by omega, by omega, rfl, ?_, ?_, ?_, hI', h'⟩
  ·rw [show (i + 1).toNat = i.toNat + 1 by omega, hm2]
   split
   ·show g.out.length <= _; omega
   ·have h1 := hr.1
    have h2 : (apR l a (L.getD i.toNat default).r g).out = g.out := rfl
    rw [h2] at h1; omega
  ·rw [show (i + 1).toNat = i.toNat + 1 by omega]
   split
   ·show (doR l a _ g.r).ig.length <= _; omega
   ·rw [hr.2]; show (doR l a _ g.r).ig.length <= _; omega
  ·rw [show (i + 1).toNat = i.toNat + 1 by omega]
   exact i4
end
def b8w (s : List Ser) (tag : ByteArray) (i : Int) : AS := ⟨m7 [(1, sv tag), (7, B1 false s), (8, iv s.length), (9, iv i)], f7 [], f7 []⟩
theorem a3J (s : List Ser) (tag : ByteArray) (hl : s.length <= 1000000) : FC Tryz.prog 66 none [B1 false s, sv tag] (fun _ r => ∃ fr, r = Z4 fr (a1J s tag)) := by
 refine fcE Tryz.func66 (aL [[0,1],[1,7,8,9],[1,7,8,9,10]] ++ aM [6] [] [[1,6,7,8,9],[1,6,7,8,9,16]] ++ aL [[4],[1,7,8,9]] ++ [⟨(kP [4] [] []),[],[],[(4,3)],[]⟩]) ?_
 have hI := X8 (fun x : Ser => decide (x.t = tag)) s 0 (by omega)
 unfold a1J
 generalize D3 (fun x : Ser => decide (x.t = tag)) 0 s = k at hI
 refine qv ?_
 refine l0 (b8w s tag) (fun i => 0 <= i ∧ i <= s.length ∧ (∀ j : Nat, j < i.toNat -> (s.getD j default).t ≠ tag)) (fun i => (s.length - i).toNat) 0 ⟨by omega, by omega, fun j hj => by omega⟩ rfl ?_
 rintro i ⟨g1, g2, g3⟩
 by_cases hi : i < s.length
 ·by_cases ht : (s.getD i.toNat default).t = tag
  ·have hk : k = i := by
    rcases hI with ⟨rfl, h⟩ | ⟨h1, h2, h3, h4⟩
    ·have := h _ (f8 s i.toNat (by omega))
     rw [decide_eq_true ht] at this; cases this
    ·rcases Int.lt_trichotomy k i with c | c | c
     ·rw [Int.sub_zero] at h3
      exact absurd (of_decide_eq_true h3) (g3 k.toNat (by omega))
     ·exact c
     ·have := h4 i.toNat (by omega)
      rw [decide_eq_true ht] at this; cases this
   subst hk
   rw [if_pos g1]
   unfold b8w
   refine qvs ?_
   exact ⟨false, rfl⟩
  ·unfold b8w
   refine qvs ?_
   refine ⟨i + 1, rfl, ⟨by omega, by omega, fun j hj => ?_⟩, by omega⟩
   rcases Nat.lt_or_ge j i.toNat with c | c
   ·exact g3 j c
   ·obtain rfl : j = i.toNat := by omega
    exact ht
 ·have hk : ¬0 <= k := by
   rcases hI with ⟨rfl, h⟩ | ⟨h1, h2, h3, h4⟩
   ·omega
   ·rw [Int.sub_zero] at h3
    exact absurd (of_decide_eq_true h3) (g3 k.toNat (by omega))
  rw [if_neg hk]
  unfold b8w
  refine qvs ?_
  exact ⟨true, rfl⟩
abbrev pI0 : List Nat := [1, 1, 1, 0, 1, 0, 0]
abbrev pI1 : List Nat := [1, 1, 1, 0, 1, 0, 0, 1, 1, 0, 0]
theorem kg0 : b0 Tryz.prog 133 (o7 [0] lgK) [aZ] = some (.reg false [gI 8 (.mv (.v (.slice none 0 0))), gI 9 (.mv (.v (.slice none 0 0)))] none, []) := by kernel_rfl
theorem kg1 : b0 Tryz.prog 133 (o7 [1, 0] lgK) [⟨none, [(1400026, 3, 1)], [], [], []⟩] = some (.seq (.reg false [gM 21 0, gI 22 (.mkm 0), gI 23 (.mkm 0), gI 24 (.mkm 0), gI 25 (.build [(.slice none 0 0), (.map none), (.map none), (.map none), (.slice none 0 0)] [(0, 1, (.t 21)), (1, 1, (.t 22)), (2, 1, (.t 23)), (3, 1, (.t 24))]), gI 26 (.box (.t 25)), gM 10 26] none) (.ownb 26 4 400026 3 1), []) := by kernel_rfl
theorem kg2 : b0 Tryz.prog 133 (o7 [1, 1, 0] lgK) [aZ] = some (.reg false [gI 27 (.mkm 0), gM 11 27] none, []) := by kernel_rfl
theorem kg3 : b0 Tryz.prog 133 (o7 [1, 1, 1, 0, 0] lgK) [aZ] = some (.reg false [gM 28 0, gI 29 (.len (.t 28)), gI 30 (.mv (oI 0))] none, []) := by kernel_rfl
theorem kg4 : b0 Tryz.prog 133 (o7 (pI0 ++ [0]) lgK) [aZ] = some (.reg false [gI 31 (.bin .lss (.t 30) (.t 29))] none, []) := by kernel_rfl
theorem kg5 : b0 Tryz.prog 133 (o7 (pI1 ++ [0]) lgK) [aZ] = some (.reg false [gI 32 (.iadr 10 (.t 28) (.t 30)), gI 33 (.load true 10 (.t 32)), gI 13 (.alloc [(.string (ByteArray.mk #[])), (.string (ByteArray.mk #[])), (.int .i64 (0)), (.int .i64 (0)), (.int .i64 (0)), (.int .i64 (0)), (.int .i64 (0)), (.int .i64 (0)), (.bool false), (.string (ByteArray.mk #[]))]), gN (.store 10 (.t 13) (.t 33))] none, []) := by kernel_rfl
theorem kg6 : b0 Tryz.prog 133 (o7 (pI1 ++ [1, 0]) lgK) [aZ] = some (.reg true [gM 34 10, gI 35 (.nilchk (.t 34)), gI 36 (.fadr 1 (.t 35)), gI 37 (.load false 1 (.t 36)), gI 38 (.fadr 0 (.t 13)), gI 39 (.load false 1 (.t 38)), gI 40 (.load true 10 (.t 13)), gM 41 1, gI 42 (.fadr 1 (.t 13)), gI 43 (.load false 1 (.t 42)), gI 44 (.call (.f 66) [(.t 41), (.t 43)]), gI 45 (.call (.f 65) [(.t 40), (.t 44), (oI 345686400000)]), gN (.mup 0 (.t 37) (.t 39) (.t 45))] none, []) := by kernel_rfl
theorem kg8 : b0 Tryz.prog 133 (o7 (pI0 ++ [1, 1, 1]) lgK) [aZ] = some (.reg false [gI 57 (.bin .add (.t 30) (oI 1)), gM 30 57] none, []) := by kernel_rfl
theorem kg9 : b0 Tryz.prog 133 (o7 [1, 1, 1, 1, 0] lgK) [aZ] = some (.reg false [gI 14 (.mv (.v (.slice none 0 0)))] none, []) := by kernel_rfl
/-! ### the maps as they are filled -/
abbrev mpA (m : List (List Cel)) : Row := ⟨0, 0, 0, m⟩
abbrev waI (l : List Alm) (v1 : Value) : List Cel := [.sl false 10 (l.map D0), .mp 1000006, .g v1, .mp 1000003, .ow 1000004 0]
abbrev liH (s : List Ser) (l : List Alm) (v1 : Value) (A : List Alm) : Hp := ⟨[(1000001, waI l v1)], [(1000006, mpA (acM s A)), (1000003, mpR []), (1000004, n8 [])]⟩
abbrev b9u (s : List Ser) (l : List Alm) (v1 : Value) (A : List Alm) (x : Alm) : Hp := ⟨[(1000001, waI l v1), (13, D0 x)], [(1000006, mpA (acM s A)), (1000003, mpR []), (1000004, n8 [])]⟩
abbrev liM : CAnn := ⟨[1000001], [1000006, 1000003, 1000004], [], [], []⟩
abbrev d5s : CAnn := ⟨[1000001, 13], [1000006, 1000003, 1000004], [], [], []⟩
theorem a3b {s : List Ser} {l : List Alm} {v1 : Value} {A : List Alm} : ∀ p ∈ (liH s l v1 A).rs, XK <= p.1 := by simp [XK]
abbrev liT (l : List Alm) (s : List Ser) (a : List Opr) (to : Int) (v2 : Value) (i : Int) : List (Nat × Val) := [(0, r6 false l), (1, B1 false s), (2, F7 false a), (3, iv to), (10, .one (.bx 1000001 0)), (11, .one (.g v2)), (28, r6 false l), (29, iv l.length), (30, iv i)]
abbrev b5t (l : List Alm) (s : List Ser) (a : List Opr) (to : Int) (v2 : Value) (i : Int) (c : Cel) : List (Nat × Val) := [(0, r6 false l), (1, B1 false s), (2, F7 false a), (3, iv to), (10, .one (.bx 1000001 0)), (11, .one (.g v2)), (13, .one c), (28, r6 false l), (29, iv l.length), (30, iv i)]
theorem a2Z (s : List Ser) : ∀ l : List Alm, F8 (acM s l) = acM s l
 | [] => rfl
 | x :: l => by
  have ih := a2Z s l
  rw [show acM s (x :: l) = [.g (.string x.k), .sl false 2 ((m8 s x).map frC)] :: acM s l from rfl, a1S, ih]
  simp only [List.map_cons, List.map_nil, a3C]; rfl
attribute [go_sem] a2Z
theorem a9s (s : List Ser) (k : ByteArray) (c : Cel) : ∀ l : List Alm, (∀ y ∈ l, y.k ≠ k) -> a4u (.string k) c (acM s l) = acM s l ++ [[.g (.string k), c]]
 | [], _ => rfl
 | x :: l, h => by
  have ih := a9s s k c l fun y hy => h y (by simp [hy])
  rw [show acM s (x :: l) = [.g (.string x.k), .sl false 2 ((m8 s x).map frC)] :: acM s l from rfl, a4u, a0a, if_neg (by simp [h x (by simp)]), ih]; rfl
section
variable {l : List Alm} {s : List Ser} {a : List Opr} {to : Int} {v1 v2 : Value} {A : List Alm}
theorem c8k (i : Int) :
  ex Tryz.prog (.reg false [gI 31 (.bin .lss (.t 30) (.t 29))] none) [] (C9 [31, 0, 1, 2, 3, 10, 11, 28, 29, 30] liM ((31, bv (decide (i < l.length))) :: liT l s a to v2 i) (liH s l v1 A)) (lAS (liT l s a to v2 i) (liH s l v1 A)) := by
 unfold lAS liH liT waI
 refine qv ?_
 rfl
theorem c8w (i : Int) (hi : 0 <= i ∧ i < l.length) (v : Val) :
  ex Tryz.prog (.reg false [gI 32 (.iadr 10 (.t 28) (.t 30)), gI 33 (.load true 10 (.t 32)), gI 13 (.alloc [(.string (ByteArray.mk #[])), (.string (ByteArray.mk #[])), (.int .i64 (0)), (.int .i64 (0)), (.int .i64 (0)), (.int .i64 (0)), (.int .i64 (0)), (.int .i64 (0)), (.bool false), (.string (ByteArray.mk #[]))]), gN (.store 10 (.t 13) (.t 33))] none) [] (C9 [0, 1, 2, 3, 10, 11, 13, 28, 29, 30] d5s (b5t l s a to v2 i (.bx 13 0)) (b9u s l v1 A (l.getD i.toNat default))) (lAS ((31, v) :: liT l s a to v2 i) (liH s l v1 A)) := by
 unfold lAS liH b9u liT b5t waI
 refine qv ?_
 rfl
theorem d0t (i : Int) (x : Alm) (hk : ∀ y ∈ A, y.k ≠ x.k) (hs : s.length <= 1000000) (hg : Good (a1J s x.t)) (hx : (-1000000 <= x.lim ∧ x.lim <= 1000000) ∧ (0 <= x.db ∧ x.db <= 2000000) ∧ (0 <= x.on ∧ x.on <= 86400000) ∧ (0 <= x.off ∧ x.off <= 86400000)) :
  ex Tryz.prog (.reg true [gM 34 10, gI 35 (.nilchk (.t 34)), gI 36 (.fadr 1 (.t 35)), gI 37 (.load false 1 (.t 36)), gI 38 (.fadr 0 (.t 13)), gI 39 (.load false 1 (.t 38)), gI 40 (.load true 10 (.t 13)), gM 41 1, gI 42 (.fadr 1 (.t 13)), gI 43 (.load false 1 (.t 42)), gI 44 (.call (.f 66) [(.t 41), (.t 43)]), gI 45 (.call (.f 65) [(.t 40), (.t 44), (oI 345686400000)]), gN (.mup 0 (.t 37) (.t 39) (.t 45))] none) [] (C9 [0, 1, 2, 3, 10, 11, 13, 28, 29, 30] d5s (b5t l s a to v2 i (.bx 13 0)) (b9u s l v1 (A ++ [x]) x)) (lAS (b5t l s a to v2 i (.bx 13 0)) (b9u s l v1 A x)) := by
 have h1 := a3J s x.t hs
 have h2 := a1f x.k x.t x.p x.lt x.kd x.lim x.db x.on x.off x.pr 345686400000 (a1J s x.t) hg hx.1 hx.2.1 hx.2.2.1 hx.2.2.2 (by omega)
 unfold lAS b9u b5t waI
 simp only [j9]
 refine qv ?_
 refine ⟨_, h1, ⟨[], _, true, rfl⟩, ?_⟩
 rintro cs r ⟨fr, rfl⟩
 refine ⟨.inr ⟨rfl, rfl⟩, ?_⟩
 refine qc h2 ?_
 refine qv ?_
 have e : F8 (a4u (Value.string x.k) (Cel.sl true 2 (List.map frC (b0z x.kd x.lim x.db x.on x.off 345686400000 (a1J s x.t)))) (acM s A)) = acM s (A ++ [x]) := by
  rw [a9s s x.k _ A hk, a8R, a2Z]
  unfold acM
  rw [List.map_append, List.map_cons, List.map_nil, a1S, a7A]
  have h := a3C (m8 s x)
  simp only [List.map_cons, List.map_nil, Cel.dat] at h ⊢
  rfl
 rw [e]; rfl
theorem d0B (i : Int) (hi : 0 <= i ∧ i <= 1000000) :
  ex Tryz.prog (.reg false [gI 57 (.bin .add (.t 30) (oI 1)), gM 30 57] none) [] (C9 [0, 1, 2, 3, 10, 11, 28, 29, 30] liM (liT l s a to v2 (i + 1)) (liH s l v1 A)) (lAS (b5t l s a to v2 i (.bx 13 0)) (b9u s l v1 A (l.getD i.toNat default))) := by
 unfold lAS liH b9u liT b5t waI
 simp only [j9]
 refine qv ?_
 rfl
theorem c7M :
  ex Tryz.prog (.reg false [gI 8 (.mv (.v (.slice none 0 0))), gI 9 (.mv (.v (.slice none 0 0)))] none) [] (C9 [0, 1, 2, 3] ⟨[], [], [], [], []⟩ [(0, r6 false l), (1, B1 false s), (2, F7 false a), (3, iv to)] ⟨[], []⟩) (lAS (O6 0 [r6 false l, B1 false s, F7 false a, iv to]) ⟨[], []⟩) := by
 unfold lAS
 exact qt
theorem c9C :
  ex Tryz.prog (.seq (.reg false [gM 21 0, gI 22 (.mkm 0), gI 23 (.mkm 0), gI 24 (.mkm 0), gI 25 (.build [(.slice none 0 0), (.map none), (.map none), (.map none), (.slice none 0 0)] [(0, 1, (.t 21)), (1, 1, (.t 22)), (2, 1, (.t 23)), (3, 1, (.t 24))]), gI 26 (.box (.t 25)), gM 10 26] none) (.ownb 26 4 400026 3 1)) [] (C9 [0, 1, 2, 3, 10] ⟨[26], [22, 23, 24, 400026], [], [], []⟩ [(0, r6 false l), (1, B1 false s), (2, F7 false a), (3, iv to), (10, .one (.bx 26 0))]
   ⟨[(26, [.sl false 10 (l.map D0), .mp 22, .mp 23, .mp 24, .ow 400026 0])], [(22, mpA []), (23, mpA []), (24, mpA []), (400026, n8 [])]⟩) (lAS [(0, r6 false l), (1, B1 false s), (2, F7 false a), (3, iv to)] ⟨[], []⟩) := by
 unfold lAS
 refine qv ?_
 rfl
theorem d2f (A : List Alm) :
  ex Tryz.prog (.reg false [gM 28 0, gI 29 (.len (.t 28)), gI 30 (.mv (oI 0))] none) [] (C9 [0, 1, 2, 3, 10, 11, 28, 29, 30] liM (liT l s a to v2 0) (liH s l v1 A)) (lAS [(0, r6 false l), (1, B1 false s), (2, F7 false a), (3, iv to), (10, .one (.bx 1000001 0)), (11, .one (.g v2))] (liH s l v1 A)) := by
 unfold lAS liH liT waI
 refine qv ?_
 rfl
end
end Go.Proofs.YtnlafmigfjlnnaaGreatDoor
namespace Go.Proofs.YtnlafmigfjlnnaaGreatDoor
open Go Go.Ai Go.Proofs
def stE (k : ByteArray) (v : Int) (c : Nat) : MapEntry := ⟨.string k, .int .i64 v, c⟩
theorem a1L (k : ByteArray) : ∀ (l : List MapEntry) (i : Nat), (∀ x ∈ l, ∃ s, x.key = .string s ∧ s ≠ k) -> Instr.findNow .string (.string k) l i = some none
 | [], i, _ => rfl
 | x :: l, i, h => by
  obtain ⟨s, h0, h1⟩ := h x (by simp)
  have hs := a2V (c := 0) (d := .string) rfl (a := .string k) (b := .string s) rfl rfl
  have hq : a3W (.string k) (.string s) = false := by
   cases hq : a3W (.string k) (.string s) with
   | false => rfl
   | true => exact absurd ((a1N (c := 0) rfl rfl).1 hq) (by simpa using fun e => h1 e.symm)
  rw [hq] at hs
  simp [Instr.findNow, h0, hs, a1L k l (i + 1) (fun y hy => h y (by simp [hy]))]
section
variable {w : World} {b c c' : Nat} {es : Array MapEntry} {k : ByteArray}
theorem b9r (hb : w.heap[b]? = some (.map es c)) (hk : ∀ x ∈ es.toList, ∃ s, x.key = .string s ∧ s ≠ k) :
  (Instr.mapEntry 91 (.map (some b)) (.string k)).run Tryz.prog w = .ok (.tuple #[.int .i64 0, .int .i64 c]) { w with heap := w.heap.setIfInBounds b (.map (es.push (stE k 0 c)) (c + 1)) } := by
 have hck : (Instr.checkKey false 10000 9 (.string k)).run Tryz.prog w = .ok () w := MapKept.run_checkKey Tryz.underlying9 (z7 (c := 0) rfl rfl) _ _
 have hz : ∀ W : World, (zeroValue 3).run Tryz.prog W = .ok (.int .i64 0) W := fun W => by kernel_rfl
 simp [Instr.mapEntry, run_underlying Tryz.underlying91, MapKept.run_getObj_map hb, hck, MapKept.run_findKey Tryz.underlying9 (a1L k es.toList 0 hk), MapKept.run_setObj_map _ hb, hz, Result.andThen, stE, goInt]
theorem c2H (hb : w.heap[b]? = some (.map (es.push (stE k 0 c)) c')) (hs : ∀ x ∈ es.toList, x.born ≠ c) :
  (Instr.entryStore 91 (.map (some b)) (.int .i64 c) (.int .i64 1)).run Tryz.prog w = .ok () { w with heap := w.heap.setIfInBounds b (.map (es.push (stE k 1 c)) c') } := by
 have h1 : (es.push (stE k 0 c)).findIdx? (fun e => (e.born : Int) == (c : Int)) = some es.size := by
  rw [Array.findIdx?_push]
  have : es.findIdx? (fun e => (e.born : Int) == (c : Int)) = none := by
   rw [Array.findIdx?_eq_none_iff]
   intro x hx
   have := hs x (by simpa using hx)
   simp; omega
  rw [this]; simp [stE]
 have h2 : (es.push (stE k 0 c)).modify es.size (fun e => { e with val := .int .i64 1 }) = es.push (stE k 1 c) := by
  apply Array.ext
  ·simp
  ·intro i h1 h2
   have h5 : i < es.size + 1 := by simpa using h2
   simp [Array.getElem_modify, Array.getElem_push]
   split <;> split <;> first | rfl | omega | (simp [stE])
 simp [Instr.entryStore, MapKept.run_getObj_map hb, MapKept.run_setObj_map _ hb, h1, h2, Result.andThen, asInt, asIntOf]
theorem b5V (hb : w.heap[b]? = some (.map es c)) (hk : ∀ x ∈ es.toList, ∃ s, x.key = .string s ∧ s ≠ k) :
  (Instr.mapUpdate 91 (.map (some b)) (.string k) (.int .i64 1)).run Tryz.prog w = .ok () { w with heap := w.heap.setIfInBounds b (.map (es.push (stE k 1 c)) (c + 1)) } := by
 have hck : (Instr.checkKey false 10000 9 (.string k)).run Tryz.prog w = .ok () w := MapKept.run_checkKey Tryz.underlying9 (z7 (c := 0) rfl rfl) _ _
 simp [Instr.mapUpdate, run_underlying Tryz.underlying91, MapKept.run_getObj_map hb, hck, MapKept.run_findKey Tryz.underlying9 (a1L k es.toList 0 hk), MapKept.run_setObj_map _ hb, Result.andThen, stE]
end
end Go.Proofs.YtnlafmigfjlnnaaGreatDoor
namespace Go.Proofs.YtnlafmigfjlnnaaGreatDoor
open Go Go.Ai Go.Proofs Go.RowKit
theorem a9v {P : Program} {ops : Array Oper} {Q : Exit -> Act -> World -> Prop} (Inv : Array Bool -> Act -> World -> Prop) (hgd : ∀ (i : Nat) (o : Oper), ops[i]? = some o -> o.guard = none ∧ ∀ e ∈ o.after, Region.binds .any e = true -> e.on < i) (hsz : ∀ L a w, Inv L a w -> L.size = ops.size)
  (step : ∀ (i : Nat) (o : Oper), ops[i]? = some o -> ∀ L a w, Inv L a w -> L.getD i true = false -> (∀ e ∈ o.after, Region.binds .any e = true -> L.getD e.on false = true) -> o.wp P a w (Inv (L.setIfInBounds i true)) Q)
  (done : ∀ L a w, Inv L a w -> (∀ i, i < ops.size -> L.getD i true = true) -> Q .normal a w) :
  ∀ (fuel : Nat) (L : Array Bool) (a : Act) (w : World), Inv L a w -> L.toList.count false <= fuel -> wpAny P .any ops Q fuel L a w := by
 intro fuel
 induction fuel with
 | zero =>
  intro L a w h hc
  have hall : ∀ i, i < ops.size -> L.getD i true = true := fun i hi => by
   have hlt : i < L.size := by rw [hsz L a w h]; exact hi
   cases hb : L[i] with
   | true => simp [Array.getD, hlt, hb]
   | false =>
    exfalso
    have : false ∈ L.toList := by rw [<- hb]; exact Array.getElem_mem_toList hlt
    grind
  refine ⟨?_, done L a w h hall⟩
  cases hr : Region.ready .any ops L with
  | nil => rfl
  | cons i rs =>
   exfalso
   obtain ⟨h1, o, h2, _⟩ := mem_ready.1 (show i ∈ Region.ready .any ops L by rw [hr]; simp)
   grind
 | succ fuel ih =>
  intro L a w h hc
  refine ⟨fun hr => done L a w h fun i => ?_, fun i hi => ?_⟩
  ·induction i using Nat.strongRecOn with
   | ind i ihi =>
    intro hi
    apply Classical.byContradiction
    intro hno
    have hlt : i < L.size := by rw [hsz L a w h]; exact hi
    have hf : L.getD i true = false := by simpa using hno
    have ho : ops[i]? = some ops[i] := Array.getElem?_eq_getElem hi
    have : i ∈ Region.ready .any ops L := mem_ready.2 ⟨hf, ops[i], ho, fun e he hbi => by
     have h1 := (hgd i _ ho).2 e he hbi
     have h2 := ihi e.on h1 (by omega)
     have h3 : e.on < L.size := by omega
     simp only [Array.getD, h3, dif_pos] at h2 ⊢
     exact h2⟩
    rw [hr] at this; simp at this
  obtain ⟨h1, o, h2, h3⟩ := mem_ready.1 hi
  unfold wpOp
  simp only [h2]
  have hw : Region.wanted o (yielded ops a.tmps) = true := by unfold Region.wanted; rw [(hgd i o h2).1]
  rw [if_pos hw]
  refine .inl (Oper.wp_mono (fun a' w' h' => ih _ a' w' h' ?_) (step i o h2 L a w h h1 h3))
  have hlt : i < L.size := by rw [hsz L a w h]; exact (Array.getElem?_eq_some_iff.1 h2).1
  have hf : L[i] = false := by simpa [Array.getD, hlt] using h1
  grind
section
variable {P : Program} {ρ : Operand -> Value} {o : Oper} {w : World}
theorem b3r (x : Operand) (h : o.op = .move x) : (execOp ρ o).run P w = .ok (.value (ρ x)) w := by simp [execOp, h]
theorem a1D {t : TypeId} {x : Operand} {k off sz b n : Nat} (ho : o.op = .fieldAddr t x k) (hf : (L3 P t k).map (fun f => (f.offset, (P.info? f.type).map (·.size))) = some (off, some sz)) (hz : sz ≠ 0) (hv : ρ x = .pointer (some ⟨b, n, none⟩)) :
  (execOp ρ o).run P w = .ok (.value (.pointer (some ⟨b, n + off, none⟩))) w := by
 cases hff : L3 P t k with
 | none => rw [hff] at hf; cases hf
 | some f =>
  rw [hff] at hf
  cases hi : P.info? f.type with
  | none => rw [Option.map_some, hi] at hf; simp at hf
  | some i =>
   rw [Option.map_some, hi] at hf; simp at hf
   obtain ⟨rfl, rfl⟩ := hf
   unfold L3 at hff
   split at hff
   ·rename_i fs hu
    simp [execOp, ho, Instr.fieldAt, run_underlying hu, hff, hv, Instr.sureAddr, fieldPlace, sizeOf, typeInfo, hi, hz, u7]
   ·cases hff
theorem a0h {t : TypeId} {d : TypeDesc} {x : Operand} {A : Addr} {u : Value} (hu : P.underlying t = some d) (hd : K7 d = false) (ho : o.op = .load t x) (hv : ρ x = .pointer (some A)) (hc : w.cell? A = some u) :
  (execOp ρ o).run P w = .ok (.value u) w := by
 cases d <;> simp [K7] at hd <;> simp [execOp, ho, hv, Instr.loadAt, Instr.sureAddr, loadVar, isAgg, run_underlying hu, load, Sem.run, hc]
theorem b9z {x : Operand} {A : Addr} (ho : o.op = .nilCheck x) (hv : ρ x = .pointer (some A)) : (execOp ρ o).run P w = .ok (.value (.pointer (some A))) w := by simp [execOp, ho, hv]
theorem b7L {x : Operand} {vs : Array Value} {i : Nat} {v : Value} (ho : o.op = .extract x i) (hv : ρ x = .tuple vs) (hi : vs[i]? = some v) : (execOp ρ o).run P w = .ok (.value v) w := by simp [execOp, ho, hv, hi, Instr.extract, Result.andThen]
theorem b3C {t : TypeId} {m x : Operand} {v : Value} {w' : World} (ho : o.op = .mapEntry t m x) (hr : (Instr.mapEntry t (ρ m) (ρ x)).run P w = .ok v w') : (execOp ρ o).run P w = .ok (.value v) w' := by simp [execOp, ho, hr, Result.andThen]
theorem b8A {t : TypeId} {m x y : Operand} {w' : World} (ho : o.op = .entryStore t m x y) (hr : (Instr.entryStore t (ρ m) (ρ x) (ρ y)).run P w = .ok () w') : (execOp ρ o).run P w = .ok .skip w' := by simp [execOp, ho, hr, Result.andThen]
theorem b7G {t : TypeId} {m x y : Operand} {w' : World} (ho : o.op = .mapUpdate t m x y) (hr : (Instr.mapUpdate t (ρ m) (ρ x) (ρ y)).run P w = .ok () w') : (execOp ρ o).run P w = .ok .skip w' := by simp [execOp, ho, hr, Result.andThen]
end
abbrev p7 : List Nat := [1, 1, 1, 0, 1, 0, 0, 1, 1, 0, 0, 1, 1]
theorem d1v : c3e (o7 p7 lgK) = some (opG p7, true) := by kernel_rfl
theorem a5P : (opG p7).length = 13 := by kernel_rfl
theorem d3I : ((List.range 13).all fun i => ((opG p7).getD i default).guard.isNone && ((opG p7).getD i default).after.all fun e => !(Region.binds .any e) || decide (e.on < i)) = true := by kernel_rfl
noncomputable def dpB (i j : Nat) : Bool := ((opG p7).getD i default).after.any fun e => e.on == j && Region.binds .any e
theorem d7l : ((opG p7).getD 0 default).op = .move (.tmp 10) := by kernel_rfl
theorem d5R : ((opG p7).getD 0 default).dst = some 46 := by kernel_rfl
theorem d7c : ((opG p7).getD 1 default).op = .nilCheck (.tmp 46) := by kernel_rfl
theorem d6h : ((opG p7).getD 1 default).dst = some 47 := by kernel_rfl
theorem d1r : dpB 1 0 = true := by kernel_rfl
theorem d6S : ((opG p7).getD 2 default).op = .fieldAddr 157 (.tmp 47) 2 := by kernel_rfl
theorem d6n : ((opG p7).getD 2 default).dst = some 48 := by kernel_rfl
theorem d0T : dpB 2 1 = true := by kernel_rfl
theorem d6v : ((opG p7).getD 3 default).op = .load 91 (.tmp 48) := by kernel_rfl
theorem d6R : ((opG p7).getD 3 default).dst = some 49 := by kernel_rfl
theorem c8c : dpB 3 2 = true := by kernel_rfl
theorem d6i : ((opG p7).getD 4 default).op = .fieldAddr 71 (.tmp 13) 0 := by kernel_rfl
theorem d6K : ((opG p7).getD 4 default).dst = some 50 := by kernel_rfl
theorem d6d : ((opG p7).getD 5 default).op = .load 9 (.tmp 50) := by kernel_rfl
theorem d5T : ((opG p7).getD 5 default).dst = some 51 := by kernel_rfl
theorem d2v : dpB 5 4 = true := by kernel_rfl
theorem d7o : ((opG p7).getD 6 default).op = .move (.tmp 11) := by kernel_rfl
theorem d6E : ((opG p7).getD 6 default).dst = some 52 := by kernel_rfl
theorem d6C : ((opG p7).getD 7 default).op = .fieldAddr 71 (.tmp 13) 0 := by kernel_rfl
theorem d6a : ((opG p7).getD 7 default).dst = some 53 := by kernel_rfl
theorem d7f : ((opG p7).getD 8 default).op = .load 9 (.tmp 53) := by kernel_rfl
theorem d7d : ((opG p7).getD 8 default).dst = some 54 := by kernel_rfl
theorem c9c : dpB 8 7 = true := by kernel_rfl
theorem d7g : ((opG p7).getD 9 default).op = .mapEntry 91 (.tmp 49) (.tmp 51) := by kernel_rfl
theorem d7b : ((opG p7).getD 9 default).dst = some 55 := by kernel_rfl
theorem d0w : dpB 9 3 = true := by kernel_rfl
theorem c8R : dpB 9 5 = true := by kernel_rfl
theorem d5d : ((opG p7).getD 10 default).op = .extract (.tmp 55) 1 := by kernel_rfl
theorem d3d : ((opG p7).getD 10 default).dst = some 56 := by kernel_rfl
theorem c2W : dpB 10 9 = true := by kernel_rfl
theorem d2S : ((opG p7).getD 11 default).op = .entryStore 91 (.tmp 49) (.tmp 56) (.const (.int .i64 1)) := by kernel_rfl
theorem d4W : ((opG p7).getD 11 default).dst = none := by kernel_rfl
theorem c3P : dpB 11 3 = true := by kernel_rfl
theorem b8R : dpB 11 10 = true := by kernel_rfl
theorem c1U : dpB 11 9 = true := by kernel_rfl
theorem d4D : ((opG p7).getD 12 default).op = .mapUpdate 91 (.tmp 52) (.tmp 54) (.const (.int .i64 1)) := by kernel_rfl
theorem d4S : ((opG p7).getD 12 default).dst = none := by kernel_rfl
theorem c5C : dpB 12 6 = true := by kernel_rfl
theorem c3k : dpB 12 8 = true := by kernel_rfl
theorem b9F : dpB 12 11 = true := by kernel_rfl
theorem d3Z {P : Program} {c : Code} {R : Exit -> Act -> World -> Prop} {a : Act} {w : World} (hm : P.follows .mixedOrders = true) (p : List Nat) {l : List Oper} (h : c3e (o7 p c) = some (l, true)) (h2 : wpAny P .any l.toArray R l.length (Array.replicate l.length false) a { w with drawn := w.drawn + 1 }) : (o7 p c).wp P R a w := by
 cases hx : o7 p c <;> rw [hx] at h <;> first | (cases h; done) | skip
 simp only [c3e, Option.some.injEq, Prod.mk.injEq] at h; obtain ⟨rfl, rfl⟩ := h
 refine wp_region_any hm ?_
 simpa using h2
def vl7 (gw gx b1 b2 : Nat) (k : ByteArray) (c1 : Nat) : Nat -> Value
 | 0 => .pointer (some ⟨gw, 0, none⟩)
 | 1 => .pointer (some ⟨gw, 0, none⟩)
 | 2 => .pointer (some ⟨gw, 0 + 2, none⟩)
 | 3 => .map (some b1)
 | 4 => .pointer (some ⟨gx, 0 + 0, none⟩)
 | 5 => .string k
 | 6 => .map (some b2)
 | 7 => .pointer (some ⟨gx, 0 + 0, none⟩)
 | 8 => .string k
 | 9 => .tuple #[.int .i64 0, .int .i64 c1]
 | _ => .int .i64 c1
structure R7 (w0 : World) (b1 b2 : Nat) (es1 es2 : Array MapEntry) (c1 c2 : Nat) (k : ByteArray) (m e u : Bool) (w : World) : Prop where
 os : w.os = w0.os
 tape : w.tape = w0.tape
 output : w.output = w0.output
 size : w.heap.size = w0.heap.size
 oth : ∀ b, b ≠ b1 -> b ≠ b2 -> w.heap[b]? = w0.heap[b]?
 h1 : w.heap[b1]? = some (if m = true then .map (es1.push (stE k (if e = true then 1 else 0) c1)) (c1 + 1) else .map es1 c1)
 h2 : w.heap[b2]? = some (if u = true then .map (es2.push (stE k 1 c2)) (c2 + 1) else .map es2 c2)
structure I7 (w0 : World) (a0 : Act) (gw gx b1 b2 : Nat) (es1 es2 : Array MapEntry) (c1 c2 : Nat) (k : ByteArray) (L : Array Bool) (a : Act) (w : World) : Prop where
 sz : L.size = 13
 ts : a.tmps.size = 133
 df : a.defers = a0.defers
 old : ∀ t, t < 46 ∨ 56 < t -> a.tmps.getD t undef = a0.tmps.getD t undef
 new : ∀ i, i <= 10 -> L.getD i false = true -> a.tmps.getD (46 + i) undef = vl7 gw gx b1 b2 k c1 i
 e9 : L.getD 11 false = true -> L.getD 9 false = true
 wr : R7 w0 b1 b2 es1 es2 c1 c2 k (L.getD 9 false) (L.getD 11 false) (L.getD 12 false) w
theorem D1 (L : Array Bool) (i j : Nat) (hi : i < L.size) : (L.setIfInBounds i true).getD j false = if j = i then true else L.getD j false := by
 simp only [Array.getD_eq_getD_getElem?, Array.getElem?_setIfInBounds]
 all_goals grind
theorem a7B (a : Act) (d : Nat) (v : Value) (t : Nat) (hd : d < a.tmps.size) : (a.put (some d) v).tmps.getD t undef = if t = d then v else a.tmps.getD t undef := by
 simp only [Act.put, Array.getD_eq_getD_getElem?, Array.getElem?_setIfInBounds]
 all_goals grind
section
variable {w0 : World} {a0 : Act} {gw gx b1 b2 : Nat} {es1 es2 : Array MapEntry} {c1 c2 : Nat} {k : ByteArray} {L : Array Bool} {a : Act} {w w' : World}
theorem I7.val (h : I7 w0 a0 gw gx b1 b2 es1 es2 c1 c2 k L a w) {i : Nat} (hi : i <= 10) (hw : R7 w0 b1 b2 es1 es2 c1 c2 k (if i = 9 then true else L.getD 9 false) (L.getD 11 false) (L.getD 12 false) w') :
  I7 w0 a0 gw gx b1 b2 es1 es2 c1 c2 k (L.setIfInBounds i true) (a.put (some (46 + i)) (vl7 gw gx b1 b2 k c1 i)) w' := by
 have hz := h.sz
 have ht := h.ts
 refine ⟨by simpa using hz, by simp [Act.put, ht], h.df, fun t h1 => ?_, fun j h1 h2 => ?_, fun h1 => ?_, ?_⟩
 ·rw [a7B _ _ _ _ (by omega), if_neg (by omega)]; exact h.old t h1
 ·rw [a7B _ _ _ _ (by omega)]
  by_cases e : j = i
  ·subst e; rw [if_pos rfl]
  ·rw [if_neg (by omega)]
   rw [D1 _ _ _ (by omega), if_neg e] at h2
   exact h.new j h1 h2
 ·rw [D1 _ _ _ (by omega), if_neg (by omega)] at h1
  rw [D1 _ _ _ (by omega)]
  split
  ·rfl
  ·exact h.e9 h1
 ·rw [D1 _ _ _ (by omega), D1 _ _ _ (by omega), D1 _ _ _ (by omega), if_neg (show ¬11 = i by omega), if_neg (show ¬12 = i by omega)]
  all_goals grind
theorem I7.st (h : I7 w0 a0 gw gx b1 b2 es1 es2 c1 c2 k L a w) {i : Nat} (hi : i = 11 ∨ i = 12) (h9 : L.getD 9 false = true) (hw : R7 w0 b1 b2 es1 es2 c1 c2 k true (if i = 11 then true else L.getD 11 false) (if i = 12 then true else L.getD 12 false) w') :
  I7 w0 a0 gw gx b1 b2 es1 es2 c1 c2 k (L.setIfInBounds i true) (a.put none undef) w' := by
 have hz := h.sz
 have hne : ∀ j, j <= 10 -> (L.setIfInBounds i true).getD j false = L.getD j false := fun j hj => by rw [D1 _ _ _ (by omega), if_neg (by omega)]
 refine ⟨by simpa using hz, h.ts, h.df, h.old, fun j h1 h2 => h.new j h1 (by rw [hne j h1] at h2; exact h2), fun _ => by rw [hne 9 (by omega)]; exact h9, ?_⟩
 rw [hne 9 (by omega), h9, D1 _ _ _ (by omega), D1 _ _ _ (by omega)]
 all_goals grind
end
theorem a8s {P : Program} {o : Oper} {a : Act} {w w' : World} {K : Act -> World -> Prop} {Q : Exit -> Act -> World -> Prop} (h : (execOp a.eval o).run P w = .ok .skip w') (hK : K (a.put o.dst undef) w') : o.wp P a w K Q := by
 unfold Oper.wp
 rw [h]
 exact hK
theorem d4H {w0 : World} {a0 : Act} {gw gx b1 b2 : Nat} {es1 es2 : Array MapEntry} {c1 c2 : Nat} {k : ByteArray} (hts : a0.tmps.size = 133) (h10 : a0.tmps.getD 10 undef = .pointer (some ⟨gw, 0, none⟩)) (h11 : a0.tmps.getD 11 undef = .map (some b2)) (h13 : a0.tmps.getD 13 undef = .pointer (some ⟨gx, 0, none⟩))
  (cw : w0.cell? ⟨gw, 0 + 2, none⟩ = some (.map (some b1))) (cx : w0.cell? ⟨gx, 0 + 0, none⟩ = some (.string k)) (hgw : gw ≠ b1 ∧ gw ≠ b2) (hgx : gx ≠ b1 ∧ gx ≠ b2) (hb : b1 ≠ b2) (m1 : w0.heap[b1]? = some (.map es1 c1)) (m2 : w0.heap[b2]? = some (.map es2 c2))
  (hk1 : ∀ x ∈ es1.toList, ∃ s, x.key = .string s ∧ s ≠ k) (hk2 : ∀ x ∈ es2.toList, ∃ s, x.key = .string s ∧ s ≠ k) (hs : ∀ x ∈ es1.toList, x.born ≠ c1)
  {R : Exit -> Act -> World -> Prop} (hR : ∀ a w, a.tmps.size = 133 -> a.defers = a0.defers -> (∀ t, t < 46 ∨ 56 < t -> a.tmps.getD t undef = a0.tmps.getD t undef) -> R7 w0 b1 b2 es1 es2 c1 c2 k true true true w -> R .normal a w) : (o7 p7 lgK).wp Tryz.prog R a0 w0 := by
 refine d3Z (by kernel_rfl) p7 d1v ?_
 have hgd0 := List.all_eq_true.1 d3I
 refine a9v (I7 w0 a0 gw gx b1 b2 es1 es2 c1 c2 k) ?_ ?_ ?_ ?_ _ _ _ _ ?_ ?_
 ·intro i o ho
  have hlt := (Array.getElem?_eq_some_iff.1 ho).1
  have hoo : o = (opG p7).getD i default := by rw [List.getD_eq_getElem?_getD]; simp at ho; rw [ho]; rfl
  have h1 := hgd0 i (by rw [<- a5P]; simpa using hlt)
  rw [Bool.and_eq_true] at h1
  rw [hoo]
  refine ⟨Option.isNone_iff_eq_none.1 h1.1, fun e he hbi => ?_⟩
  have h2 := Array.all_eq_true'.1 h1.2 e he
  grind
 ·intro L a w h; rw [h.sz]; simp [a5P]
 ·intro i o ho L a w hI hL hd
  have hlt := (Array.getElem?_eq_some_iff.1 ho).1
  have hi13 : i < 13 := by rw [<- a5P]; simpa using hlt
  have hoo : o = (opG p7).getD i default := by rw [List.getD_eq_getElem?_getD]; simp at ho; rw [ho]; rfl
  have hLf : L.getD i false = false := by
   grind
  have dp : ∀ j, dpB i j = true -> L.getD j false = true := fun j hj => by
   unfold dpB at hj
   grind
  have e10 : a.tmps.getD 10 undef = .pointer (some ⟨gw, 0, none⟩) := (hI.old 10 (by omega)).trans h10
  have e11 : a.tmps.getD 11 undef = .map (some b2) := (hI.old 11 (by omega)).trans h11
  have e13 : a.eval (.tmp 13) = .pointer (some ⟨gx, 0, none⟩) := (hI.old 13 (by omega)).trans h13
  have cw' : w.cell? ⟨gw, 0 + 2, none⟩ = some (.map (some b1)) := (World.cell?_of_block (w := w0) (hI.wr.oth gw hgw.1 hgw.2)).trans cw
  have cx' : w.cell? ⟨gx, 0 + 0, none⟩ = some (.string k) := (World.cell?_of_block (w := w0) (hI.wr.oth gx hgx.1 hgx.2)).trans cx
  clear hL ho hlt hd
  subst hoo
  match i, hi13, hLf, dp with
  | 0, _, hL, dp =>
   refine f9 (v := vl7 gw gx b1 b2 k c1 0) (w' := w) ((b3r _ d7l).trans (by rw [show a.eval (.tmp 10) = _ from e10]; rfl)) ?_
   rw [d5R]
   exact hI.val (by omega) (by rw [if_neg (by omega)]; exact hI.wr)
  | 1, _, hL, dp =>
   refine f9 (v := vl7 gw gx b1 b2 k c1 1) (w' := w) (b9z d7c (hI.new 0 (by omega) (dp 0 d1r))) ?_
   rw [d6h]
   exact hI.val (by omega) (by rw [if_neg (by omega)]; exact hI.wr)
  | 2, _, hL, dp =>
   refine f9 (v := vl7 gw gx b1 b2 k c1 2) (w' := w) (a1D (sz := 1) d6S (by kernel_rfl) (by decide) (hI.new 1 (by omega) (dp 1 d0T))) ?_
   rw [d6n]
   exact hI.val (by omega) (by rw [if_neg (by omega)]; exact hI.wr)
  | 3, _, hL, dp =>
   refine f9 (v := vl7 gw gx b1 b2 k c1 3) (w' := w) (a0h Tryz.underlying91 rfl d6v (hI.new 2 (by omega) (dp 2 c8c)) cw') ?_
   rw [d6R]
   exact hI.val (by omega) (by rw [if_neg (by omega)]; exact hI.wr)
  | 4, _, hL, dp =>
   refine f9 (v := vl7 gw gx b1 b2 k c1 4) (w' := w) (a1D (sz := 1) d6i (by kernel_rfl) (by decide) e13) ?_
   rw [d6K]
   exact hI.val (by omega) (by rw [if_neg (by omega)]; exact hI.wr)
  | 5, _, hL, dp =>
   refine f9 (v := vl7 gw gx b1 b2 k c1 5) (w' := w) (a0h Tryz.underlying9 rfl d6d (hI.new 4 (by omega) (dp 4 d2v)) cx') ?_
   rw [d5T]
   exact hI.val (by omega) (by rw [if_neg (by omega)]; exact hI.wr)
  | 6, _, hL, dp =>
   refine f9 (v := vl7 gw gx b1 b2 k c1 6) (w' := w) ((b3r _ d7o).trans (by rw [show a.eval (.tmp 11) = _ from e11]; rfl)) ?_
   rw [d6E]
   exact hI.val (by omega) (by rw [if_neg (by omega)]; exact hI.wr)
  | 7, _, hL, dp =>
   refine f9 (v := vl7 gw gx b1 b2 k c1 7) (w' := w) (a1D (sz := 1) d6C (by kernel_rfl) (by decide) e13) ?_
   rw [d6a]
   exact hI.val (by omega) (by rw [if_neg (by omega)]; exact hI.wr)
  | 8, _, hL, dp =>
   refine f9 (v := vl7 gw gx b1 b2 k c1 8) (w' := w) (a0h Tryz.underlying9 rfl d7f (hI.new 7 (by omega) (dp 7 c9c)) cx') ?_
   rw [d7d]
   exact hI.val (by omega) (by rw [if_neg (by omega)]; exact hI.wr)
  | 9, _, hL, dp =>
   have hf9 : L.getD 9 false = false := hL
   have hf11 : L.getD 11 false = false := by
    cases h : L.getD 11 false with
    | false => rfl
    | true => have := hI.e9 h; rw [hf9] at this; cases this
   have hb1 := hI.wr.h1
   rw [hf9, if_neg (by simp)] at hb1
   have e49 : a.eval (.tmp 49) = .map (some b1) := hI.new 3 (by omega) (dp 3 d0w)
   have e51 : a.eval (.tmp 51) = .string k := hI.new 5 (by omega) (dp 5 c8R)
   refine f9 (v := vl7 gw gx b1 b2 k c1 9) (w' := { w with heap := w.heap.setIfInBounds b1 (.map (es1.push (stE k 0 c1)) (c1 + 1)) }) (b3C d7g (by rw [e49, e51]; exact b9r hb1 hk1)) ?_
   rw [d7b]
   refine hI.val (by omega) ?_
   rw [if_pos rfl, hf11]
   have hset := MapKept.heap_set (o' := .map (es1.push (stE k 0 c1)) (c1 + 1)) hb1
   exact ⟨hI.wr.os, hI.wr.tape, hI.wr.output, by simp [hI.wr.size], fun b n1 n2 => (hset.2 b n1).trans (hI.wr.oth b n1 n2), by rw [if_pos rfl, if_neg (by simp)]; exact hset.1, (hset.2 b2 (fun e => hb e.symm)).trans hI.wr.h2⟩
  | 10, _, hL, dp =>
   refine f9 (v := vl7 gw gx b1 b2 k c1 10) (w' := w) (b7L (vs := #[.int .i64 0, .int .i64 c1]) d5d (hI.new 9 (by omega) (dp 9 c2W)) rfl) ?_
   rw [d3d]
   exact hI.val (by omega) (by rw [if_neg (by omega)]; exact hI.wr)
  | 11, _, hL, dp =>
   have h9 : L.getD 9 false = true := dp 9 c1U
   have hf11 : L.getD 11 false = false := hL
   have hb1 := hI.wr.h1
   rw [h9, hf11, if_pos rfl, if_neg (by simp)] at hb1
   have e49 : a.eval (.tmp 49) = .map (some b1) := hI.new 3 (by omega) (dp 3 c3P)
   have e56 : a.eval (.tmp 56) = .int .i64 c1 := hI.new 10 (by omega) (dp 10 b8R)
   refine a8s (w' := { w with heap := w.heap.setIfInBounds b1 (.map (es1.push (stE k 1 c1)) (c1 + 1)) }) (b8A d2S (by rw [e49, e56]; exact c2H hb1 hs)) ?_
   rw [d4W]
   refine hI.st (.inl rfl) h9 ?_
   rw [if_pos rfl, if_neg (by omega)]
   have hset := MapKept.heap_set (o' := .map (es1.push (stE k 1 c1)) (c1 + 1)) hb1
   exact ⟨hI.wr.os, hI.wr.tape, hI.wr.output, by simp [hI.wr.size], fun b n1 n2 => (hset.2 b n1).trans (hI.wr.oth b n1 n2), by rw [if_pos rfl, if_pos rfl]; exact hset.1, (hset.2 b2 (fun e => hb e.symm)).trans hI.wr.h2⟩
  | 12, _, hL, dp =>
   have h11 : L.getD 11 false = true := dp 11 b9F
   have h9 : L.getD 9 false = true := hI.e9 h11
   have hf12 : L.getD 12 false = false := hL
   have hb2 := hI.wr.h2
   rw [hf12, if_neg (by simp)] at hb2
   have e52 : a.eval (.tmp 52) = .map (some b2) := hI.new 6 (by omega) (dp 6 c5C)
   have e54 : a.eval (.tmp 54) = .string k := hI.new 8 (by omega) (dp 8 c3k)
   refine a8s (w' := { w with heap := w.heap.setIfInBounds b2 (.map (es2.push (stE k 1 c2)) (c2 + 1)) }) (b7G d4D (by rw [e52, e54]; exact b5V hb2 hk2)) ?_
   rw [d4S]
   refine hI.st (.inr rfl) h9 ?_
   rw [if_neg (by omega), if_pos rfl, h11]
   have hset := MapKept.heap_set (o' := .map (es2.push (stE k 1 c2)) (c2 + 1)) hb2
   have hh1 := hI.wr.h1
   rw [h9, h11] at hh1
   exact ⟨hI.wr.os, hI.wr.tape, hI.wr.output, by simp [hI.wr.size], fun b n1 n2 => (hset.2 b n2).trans (hI.wr.oth b n1 n2), (hset.2 b1 hb).trans hh1, by rw [if_pos rfl]; exact hset.1⟩
  | i + 13, h, _, _ => omega
 ·intro L a w hI hall
  have hf : ∀ i, i < 13 -> L.getD i false = true := fun i hi => by
   have h1 := hall i (by simp [a5P]; exact hi)
   have : i < L.size := by rw [hI.sz]; exact hi
   grind
  have hw := hI.wr
  rw [hf 9 (by omega), hf 11 (by omega), hf 12 (by omega)] at hw
  exact hR a w hI.ts hI.df hI.old hw
 ·have hz : ∀ i, (Array.replicate (opG p7).length false).getD i false = false := fun i => by
   simp only [Array.getD]; split <;> simp
  exact ⟨by simp [a5P], hts, rfl, fun _ _ => rfl, fun i _ h => (by rw [hz] at h; cases h), fun h => (by rw [hz] at h; cases h), by
   rw [hz, hz, hz]
   exact ⟨rfl, rfl, rfl, rfl, fun _ _ _ => rfl, by rw [if_neg (by simp)]; exact m1, by rw [if_neg (by simp)]; exact m2⟩⟩
 ·simp
end Go.Proofs.YtnlafmigfjlnnaaGreatDoor
