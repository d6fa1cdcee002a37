/- The reference's log, walked piece by piece: its code; the pieces of a moment. -/
import Derived.Test.YtbhgndiboeppeaaGreatDoorEwa
set_option linter.all false
set_option maxHeartbeats 4000000
namespace Go.Proofs.YtbhgndiboeppeaaGreatDoor
open Go Go.Ai
noncomputable def lgK : Code := (Tryz.f63.body).getD .skip
abbrev pG : List Nat := [1, 1, 1, 1, 1, 1, 0, 1, 0, 0]
abbrev pG3 : List Nat := [1, 1, 1, 1, 1, 1, 0, 1, 0, 0, 1, 1, 0, 0]
abbrev pG4 : List Nat := [1, 1, 1, 1, 1, 1, 0, 1, 0, 0, 1, 1, 0, 0, 1, 1, 1, 1, 1, 0, 0]
abbrev d2d : CAnn := ⟨[1000001], [1000002, 1000003, 1000004], [1000001], [1000002, 1000003, 1000004], [1000002, 1000003, 1000004]⟩
abbrev d1E : CAnn := ⟨[1000001, 1000005], [1000002, 1000003, 1000004], [1000001, 1000005], [1000002, 1000003, 1000004], [1000002, 1000003]⟩
theorem d6f : b0 Tryz.prog 133 (q6 [1, 1, 1, 1, 1, 1, 0, 0] lgK) [⟨none, [(14, 43, 3)], [], [], []⟩] = some (.seq (.reg false [gM 61 15, gI 62 (.len (.t 61)), gI 63 (.mv (oI 0))] none) (.own 14 43 3), []) := by kernel_rfl
theorem d6j : b0 Tryz.prog 133 (q6 (pG ++ [0]) lgK) [aZ] = some (.reg false [gI 64 (.bin .lss (.t 63) (.t 62))] none, []) := by kernel_rfl
theorem d5e : b0 Tryz.prog 133 (q6 (pG3 ++ [0]) lgK) [aZ] = some (.reg false [gM 65 63, gI 66 (.iadr 5 (.t 61) (.t 63)), gI 67 (.load true 5 (.t 66)), gI 17 (.alloc [(.int .i64 (0)), (.int .i64 (0)), (.string (ByteArray.mk #[])), (.int .i64 (0)), .nilFunc]), gM 16 65, gN (.store 5 (.t 17) (.t 67))] none, []) := by kernel_rfl
theorem d5Z : b0 Tryz.prog 133 (q6 (pG3 ++ [1, 0, 0]) lgK) [aZ] = some (.reg false [gI 68 (.fadr 0 (.t 17)), gI 69 (.load false 1 (.t 68)), gM 70 3, gI 71 (.bin .gtr (.t 69) (.t 70))] none, []) := by kernel_rfl
theorem d5O : b0 Tryz.prog 133 (q6 (pG3 ++ [1, 1, 1, 0, 0]) lgK) [aZ] = some (.reg true [gM 75 16, gI 76 (.bin .add (.t 75) (oI 1)), gM 77 15, gI 78 (.len (.t 77)), gI 79 (.bin .lss (.t 76) (.t 78)), gM 80 79, gG 81 80 true (.mv (.t 15)), gG 82 80 true (.mv (.t 16)), gG 83 80 true (.bin .add (.t 82) (oI 1)), gG 84 80 true (.iadr 5 (.t 81) (.t 83)), gG 85 80 true (.fadr 0 (.t 84)), gG 86 80 true (.load false 1 (.t 85)), gG 87 80 true (.fadr 0 (.t 17)), gG 88 80 true (.load false 1 (.t 87)), gG 89 80 true (.bin .eql (.t 86) (.t 88)), gI 90 (.pick (.t 80) (.t 89) (.v (.bool false)))] none, []) := by kernel_rfl
theorem d5F : b0 Tryz.prog 133 (q6 (pG3 ++ [1, 1, 1, 1, 0]) lgK) [aZ] = some (.reg false [gM 91 0, gI 92 (.len (.t 91)), gI 93 (.mv (oI 0))] none, []) := by kernel_rfl
theorem d6o : b0 Tryz.prog 133 (q6 (pG4 ++ [0]) lgK) [aZ] = some (.reg false [gI 94 (.bin .lss (.t 93) (.t 92))] none, []) := by kernel_rfl
theorem d6r : b0 Tryz.prog 133 (q6 (pG4 ++ [1, 1, 0, 0]) lgK) [aZ, ⟨none, [], [], [], [(101, d2d)]⟩, aZ, aZ, aZ] = some (.seq (.reg false [gI 95 (.iadr 10 (.t 91) (.t 93)), gI 96 (.load true 10 (.t 95)), gI 19 (.alloc [(.string (ByteArray.mk #[])), (.string (ByteArray.mk #[])), (.int .i64 (0)), (.int .i64 (0)), (.int .i64 (0)), (.int .i64 (0)), (.int .i64 (0)), (.int .i64 (0)), (.bool false), (.string (ByteArray.mk #[]))]), gN (.store 10 (.t 19) (.t 96))] none) (.seq (.reg false [gM 97 10, gI 98 (.load true 10 (.t 19)), gI 99 (.fadr 0 (.t 17)), gI 100 (.load false 1 (.t 99)), gI 101 (.callm (.f 100) [(.t 97), (.t 98), (.t 100)] d2d), gM 20 101] none) (.seq (.reg false [gM 102 20, gM 103 11, gI 104 (.fadr 0 (.t 19)), gI 105 (.load false 1 (.t 104)), gI 106 (.mlk 0 (.int .i64 (0)) false 0 (.t 103) (.t 105)), gI 107 (.bin .neq (.t 102) (.t 106))] none) (.cond (.t 107) (.seq (.reg false [gM 108 14, gI 109 (.fadr 0 (.t 19)), gI 110 (.load false 1 (.t 109)), gM 111 20, gI 112 (.fadr 0 (.t 17)), gI 113 (.load false 1 (.t 112)), gI 114 (.build [(.string (ByteArray.mk #[])), (.int .i64 (0)), (.int .i64 (0))] [(0, 1, (.t 110)), (1, 1, (.t 111)), (2, 1, (.t 113))]), gI 115 (.bslice 3 1 [(.t 114)]), gI 116 (.append 43 3 32 (.t 108) (.t 115)), gM 14 116] none) (.reg false [gM 117 11, gI 118 (.fadr 0 (.t 19)), gI 119 (.load false 1 (.t 118)), gM 120 20, gN (.mup 0 (.t 117) (.t 119) (.t 120))] none)) .skip))), []) := by kernel_rfl
theorem d6t : b0 Tryz.prog 133 (q6 (pG4 ++ [1, 1, 1]) lgK) [aZ] = some (.reg false [gI 121 (.bin .add (.t 93) (oI 1)), gM 93 121] none, []) := by kernel_rfl
theorem d5S : b0 Tryz.prog 133 (q6 (pG ++ [1, 1, 1]) lgK) [aZ] = some (.reg false [gI 122 (.bin .add (.t 63) (oI 1)), gM 63 122] none, []) := by kernel_rfl
theorem d4X : b0 Tryz.prog 133 (q6 [1, 1, 1, 1, 1, 1, 1, 1, 0] lgK) [aZ] = some (.reg true [gM 128 14, gM 129 10, gI 130 (.nilchk (.t 129)), gI 131 (.fadr 4 (.t 130)), gI 132 (.load false 1 (.t 131)), gM 8 128, gM 9 132] none, []) := by kernel_rfl
noncomputable def opG (p : List Nat) : List Oper := d4I (q6 p lgK)
abbrev p15 : List Nat := [1, 1, 1, 1, 1, 1, 0, 1, 0, 0, 1, 1, 0, 0, 1, 1, 0]
theorem d5c : ((opG p15).take 2).mapM (l8 Tryz.prog 133 [] (opG p15).toArray) = some [gI 72 (.fadr 4 (.t 17)), gI 73 (.load false 1 (.t 72))] := by kernel_rfl
theorem d3p : ((opG p15).drop 2).mapM (l8 Tryz.prog 133 [(74, d1E)] (opG p15).toArray) = some [gI 74 (.callm (.t 73) [] d1E)] := by kernel_rfl
theorem d5C : ((opG p15).drop 2).mapM (l8 Tryz.prog 133 [] (opG p15).toArray) = some [gI 74 (.call (.t 73) [])] := by kernel_rfl
abbrev a2q : List Nat := [1, 1, 1, 1, 1, 0]
theorem d3v : ((opG a2q).take 2).mapM (l8 Tryz.prog 133 [] (opG a2q).toArray) = some [gM 58 10, gM 59 2] := by kernel_rfl
theorem d2y : ((opG a2q).drop 3).mapM (l8 Tryz.prog 133 [] (opG a2q).toArray) = some [gM 15 60] := by kernel_rfl
theorem d2e : c4y (q6 a2q lgK) = some (opG a2q, false) := by kernel_rfl
theorem d2P : opG a2q = (opG a2q).take 2 ++ (opG a2q).getD 2 default :: ((opG a2q).drop 3 ++ []) := by kernel_rfl
attribute [irreducible] lgK opG
section
variable {l : List Alm} {s : List Ser} {a : List Opr} {ac : List (List Cel)} {to : Int}
abbrev lgM : CAnn := ⟨[1000001, 1000005], [1000002, 1000003, 1000004, 1000007, 1000008], [], [], []⟩
abbrev d5P (k : Nat) : CAnn := ⟨[1000001, 1000005, k], [1000002, 1000003, 1000004, 1000007, 1000008], [], [], []⟩
abbrev lgH (l : List Alm) (ac : List (List Cel)) (g : Rlg) : Hp := ⟨[(1000001, waC l ac), (1000005, [.bx 1000001 0])], [(1000002, mpR g.r.st), (1000003, mpR g.r.sh), (1000004, n9 g.r.ig), (1000007, mpR g.la), (1000008, l9 g.out)]⟩
abbrev d4A (k : Nat) (cs : List Cel) (l : List Alm) (ac : List (List Cel)) (g : Rlg) : Hp := ⟨[(1000001, waC l ac), (1000005, [.bx 1000001 0]), (k, cs)], (lgH l ac g).rs⟩
theorem y9 {g : Rlg} : ∀ p ∈ (lgH l ac g).rs, XK ≤ p.1 := by simp [XK]
abbrev lgT (l : List Alm) (to : Int) (L : List Rvp) (i : Int) : List (Nat × Val) := [(0, r6 false l), (3, iv to), (10, .one (.bx 1000001 0)), (11, .one (.mp 1000007)), (14, .one (.ow 1000008 0)), (15, .one (.sl false 5 (L.map rvS))), (61, .one (.sl false 5 (L.map rvS))), (62, iv L.length), (63, iv i)]
abbrev O2 (l : List Alm) (to : Int) (L : List Rvp) (i : Int) (c : Cel) : List (Nat × Val) := [(0, r6 false l), (3, iv to), (10, .one (.bx 1000001 0)), (11, .one (.mp 1000007)), (14, .one (.ow 1000008 0)), (15, .one (.sl false 5 (L.map rvS))), (16, iv i), (17, .one c), (61, .one (.sl false 5 (L.map rvS))), (62, iv L.length), (63, iv i)]
abbrev a1a : List Nat := [0, 3, 10, 11, 14, 15, 16, 17, 61, 62, 63]
theorem c4F (L : List Rvp) (i : Int) (g : Rlg) :
  ex Tryz.prog (.reg false [gI 64 (.bin .lss (.t 63) (.t 62))] none) [] (C9 [64, 0, 3, 10, 11, 14, 15, 61, 62, 63] lgM ((64, bv (decide (i < L.length))) :: lgT l to L i) (lgH l ac g)) (lAS (lgT l to L i) (lgH l ac g)) := by
 unfold lAS lgH lgT waC
 exact qt
theorem c4G (L : List Rvp) (i : Int) (hi : 0 ≤ i ∧ i < L.length) (v : Val) (g : Rlg) :
  ex Tryz.prog (.reg false [gM 65 63, gI 66 (.iadr 5 (.t 61) (.t 63)), gI 67 (.load true 5 (.t 66)), gI 17 (.alloc [(.int .i64 (0)), (.int .i64 (0)), (.string (ByteArray.mk #[])), (.int .i64 (0)), .nilFunc]), gM 16 65, gN (.store 5 (.t 17) (.t 67))] none) [] (C9 a1a (d5P 17) (O2 l to L i (.bx 17 0)) (d4A 17 (rvS (L.getD i.toNat default)) l ac g)) (lAS ((64, v) :: lgT l to L i) (lgH l ac g)) := by
 unfold lAS lgH d4A lgT O2 a1a waC
 exact qt
theorem c1r (L : List Rvp) (i : Int) (x : Rvp) (g : Rlg) :
  ex Tryz.prog (.reg false [gI 68 (.fadr 0 (.t 17)), gI 69 (.load false 1 (.t 68)), gM 70 3, gI 71 (.bin .gtr (.t 69) (.t 70))] none) [] (C9 (71 :: a1a) lgM ((71, bv (decide (x.r.a > to))) :: O2 l to L i (.ep (rvS x))) (lgH l ac g)) (lAS (O2 l to L i (.ep (rvS x))) (lgH l ac g)) := by
 unfold lAS lgH O2 a1a waC
 simp only [x9]
 exact qt
theorem b8M (L : List Rvp) (i : Int) (x : Rvp) (v : Val) (g : Rlg) :
  ex Tryz.prog (.reg false [gI 72 (.fadr 4 (.t 17)), gI 73 (.load false 1 (.t 72))] none) [] (C9 (73 :: a1a) lgM ((73, .one (.g x.f)) :: O2 l to L i (.ep (rvS x))) (lgH l ac g)) (lAS ((71, v) :: O2 l to L i (.ep (rvS x))) (lgH l ac g)) := by
 unfold lAS lgH O2 a1a waC
 simp only [x9]
 exact qt
theorem a4i (L : List Rvp) (i : Int) (x : Rvp) (g : Rlg) (r' : Rst) (f : FuncId) (d1 : List Cel)
  (hf : G9 Tryz.prog f [1000002, 1000003] (wbH l ac g.r) [.one (.bx 1000005 0), .one (.ep d1)] (fun H y => H = wbH l ac r' ∧ y = .tu [])) :
  ex Tryz.prog (.reg false [gI 74 (.callm (.t 73) [] d1E)] none) [] (C9 a1a lgM (O2 l to L i (.ep (rvS x))) (lgH l ac ⟨r', g.la, g.out⟩)) (lAS ((73, .one (.fn f [.bx 1000005 0, .ep d1])) :: O2 l to L i (.ep (rvS x))) (lgH l ac g)) := by
 unfold lAS lgH O2 a1a waC
 unfold wbH waC at hf
 refine qv ?_
 refine ⟨rfl, f7 hf ⟨rfl, rfl⟩ ?_⟩
 exact qt
theorem b2T (L : List Rvp) (i : Int) (x : Rvp) (g : Rlg) (r' : Rst) (f : FuncId) (d1 d2 : List Cel)
  (hf : G9 Tryz.prog f [1000002, 1000003] (wbH l ac g.r) [.one (.bx 1000005 0), .one (.ep d1), .one (.ep d2)] (fun H y => H = wbH l ac r' ∧ y = .tu [])) :
  ex Tryz.prog (.reg false [gI 74 (.callm (.t 73) [] d1E)] none) [] (C9 a1a lgM (O2 l to L i (.ep (rvS x))) (lgH l ac ⟨r', g.la, g.out⟩)) (lAS ((73, .one (.fn f [.bx 1000005 0, .ep d1, .ep d2])) :: O2 l to L i (.ep (rvS x))) (lgH l ac g)) := by
 unfold lAS lgH O2 a1a waC
 unfold wbH waC at hf
 refine qv ?_
 refine ⟨rfl, f7 hf ⟨rfl, rfl⟩ ?_⟩
 exact qt
theorem b8s (L : List Rvp) (i : Int) (x : Rvp) (g : Rlg) :
  ex Tryz.prog (.reg false [gI 74 (.call (.t 73) [])] none) [] (C9 a1a lgM (O2 l to L i (.ep (rvS x))) (lgH l ac g)) (lAS ((73, .one (.fn 152 [])) :: O2 l to L i (.ep (rvS x))) (lgH l ac g)) := by
 unfold lAS lgH O2 a1a waC
 refine qc c6k ?_
 exact qt
theorem c2J (L : List Rvp) (i : Int) (hi : 0 ≤ i ∧ i < L.length) (hL : L.length ≤ 1000000) (x : Rvp) (g : Rlg) :
  ex Tryz.prog (.reg true [gM 75 16, gI 76 (.bin .add (.t 75) (oI 1)), gM 77 15, gI 78 (.len (.t 77)), gI 79 (.bin .lss (.t 76) (.t 78)), gM 80 79, gG 81 80 true (.mv (.t 15)), gG 82 80 true (.mv (.t 16)), gG 83 80 true (.bin .add (.t 82) (oI 1)), gG 84 80 true (.iadr 5 (.t 81) (.t 83)), gG 85 80 true (.fadr 0 (.t 84)), gG 86 80 true (.load false 1 (.t 85)), gG 87 80 true (.fadr 0 (.t 17)), gG 88 80 true (.load false 1 (.t 87)), gG 89 80 true (.bin .eql (.t 86) (.t 88)), gI 90 (.pick (.t 80) (.t 89) (.v (.bool false)))] none) [] (C9 (90 :: a1a) lgM ((90, bv (hdT Rev.a ((L.drop (i.toNat + 1)).map (·.r)) x.r.a)) :: O2 l to L i (.ep (rvS x))) (lgH l ac g)) (lAS (O2 l to L i (.ep (rvS x))) (lgH l ac g)) := by
 by_cases h : i + 1 < L.length
 ·have e : hdT Rev.a ((L.drop (i.toNat + 1)).map (·.r)) x.r.a = decide ((L.getD (i + 1).toNat default).r.a = x.r.a) := by
   rw [D3 (show i.toNat + 1 < L.length by omega), List.map_cons, hdT, show (i + 1).toNat = i.toNat + 1 by omega]
  rw [e]
  unfold lAS lgH O2 a1a waC
  simp only [x9]
  exact qt
 ·have e : hdT Rev.a ((L.drop (i.toNat + 1)).map (·.r)) x.r.a = false := by
   rw [List.drop_eq_nil_of_le (by omega)]; rfl
  rw [e]
  unfold lAS lgH O2 a1a waC
  simp only [x9]
  exact qt
abbrev a8O (l : List Alm) (to : Int) (L : List Rvp) (i : Int) (x : Rvp) (j : Int) : List (Nat × Val) := (91, r6 false l) :: (92, iv l.length) :: (93, iv j) :: O2 l to L i (.ep (rvS x))
theorem c1h (L : List Rvp) (i : Int) (x : Rvp) (v : Val) (g : Rlg) :
  ex Tryz.prog (.reg false [gM 91 0, gI 92 (.len (.t 91)), gI 93 (.mv (oI 0))] none) [] (C9 (91 :: 92 :: 93 :: a1a) lgM (a8O l to L i x 0) (lgH l ac g)) (lAS ((90, v) :: O2 l to L i (.ep (rvS x))) (lgH l ac g)) := by
 unfold lAS lgH a8O O2 a1a waC
 exact qt
theorem c3P (L : List Rvp) (i : Int) (x : Rvp) (j : Int) (g : Rlg) :
  ex Tryz.prog (.reg false [gI 94 (.bin .lss (.t 93) (.t 92))] none) [] (C9 (94 :: 91 :: 92 :: 93 :: a1a) lgM ((94, bv (decide (j < l.length))) :: a8O l to L i x j) (lgH l ac g)) (lAS (a8O l to L i x j) (lgH l ac g)) := by
 unfold lAS lgH a8O O2 a1a waC
 exact qt
theorem c5v (L : List Rvp) (i : Int) (x : Rvp) (j : Int) (hj : 0 ≤ j ∧ j ≤ 1000000) (g : Rlg) :
  ex Tryz.prog (.reg false [gI 121 (.bin .add (.t 93) (oI 1)), gM 93 121] none) [] (C9 (91 :: 92 :: 93 :: a1a) lgM (a8O l to L i x (j + 1)) (lgH l ac g)) (lAS (a8O l to L i x j) (lgH l ac g)) := by
 unfold lAS lgH a8O O2 a1a waC
 exact qt
theorem c3Z (L : List Rvp) (i : Int) (hi : 0 ≤ i ∧ i ≤ 1000000) (c : Cel) (g : Rlg) :
  ex Tryz.prog (.reg false [gI 122 (.bin .add (.t 63) (oI 1)), gM 63 122] none) [] (C9 [0, 3, 10, 11, 14, 15, 61, 62, 63] lgM (lgT l to L (i + 1)) (lgH l ac g)) (lAS (O2 l to L i c) (lgH l ac g)) := by
 unfold lAS lgH lgT O2 waC
 exact qt
theorem c3C (hA : J8 l) (hW : ∀ k, (wnK s k l).length ≤ 1000000) (L : List Rvp) (i : Int) (x : Rvp) (j : Int) (hj : 0 ≤ j ∧ j < l.length) (v : Val) (g : Rlg) (hg : g.out.length ≤ 1000000) :
  ex Tryz.prog (.seq (.reg false [gI 95 (.iadr 10 (.t 91) (.t 93)), gI 96 (.load true 10 (.t 95)), gI 19 (.alloc [(.string (ByteArray.mk #[])), (.string (ByteArray.mk #[])), (.int .i64 (0)), (.int .i64 (0)), (.int .i64 (0)), (.int .i64 (0)), (.int .i64 (0)), (.int .i64 (0)), (.bool false), (.string (ByteArray.mk #[]))]), gN (.store 10 (.t 19) (.t 96))] none) (.seq (.reg false [gM 97 10, gI 98 (.load true 10 (.t 19)), gI 99 (.fadr 0 (.t 17)), gI 100 (.load false 1 (.t 99)), gI 101 (.callm (.f 100) [(.t 97), (.t 98), (.t 100)] d2d), gM 20 101] none) (.seq (.reg false [gM 102 20, gM 103 11, gI 104 (.fadr 0 (.t 19)), gI 105 (.load false 1 (.t 104)), gI 106 (.mlk 0 (.int .i64 (0)) false 0 (.t 103) (.t 105)), gI 107 (.bin .neq (.t 102) (.t 106))] none) (.cond (.t 107) (.seq (.reg false [gM 108 14, gI 109 (.fadr 0 (.t 19)), gI 110 (.load false 1 (.t 109)), gM 111 20, gI 112 (.fadr 0 (.t 17)), gI 113 (.load false 1 (.t 112)), gI 114 (.build [(.string (ByteArray.mk #[])), (.int .i64 (0)), (.int .i64 (0))] [(0, 1, (.t 110)), (1, 1, (.t 111)), (2, 1, (.t 113))]), gI 115 (.bslice 3 1 [(.t 114)]), gI 116 (.append 43 3 32 (.t 108) (.t 115)), gM 14 116] none) (.reg false [gM 117 11, gI 118 (.fadr 0 (.t 19)), gI 119 (.load false 1 (.t 118)), gM 120 20, gN (.mup 0 (.t 117) (.t 119) (.t 120))] none)) .skip))))
   [] (C9 (91 :: 92 :: 93 :: a1a) lgM (a8O l to L i x j) (lgH l (acM s l) (rpX l s x.r.a (l.getD j.toNat default) g))) (lAS ((94, v) :: a8O l to L i x j) (lgH l (acM s l) g)) := by
 have hr := b7A l hA s hW g.r (l.getD j.toNat default) (j5 l _ (by omega)) x.r.a
 unfold rpX
 generalize c0u l s g.r (l.getD j.toNat default) x.r.a = now at *
 unfold waH waC at hr
 by_cases c : now ≠ mgt (l.getD j.toNat default).k g.la
 ·rw [if_pos c]
  unfold lAS lgH a8O O2 a1a waC
  simp only [x9]
  refine qv ?_
  refine ⟨rfl, f7 hr ⟨rfl, rfl⟩ ?_⟩
  refine qv ?_
  rw [l9, List.map_append]; rfl
 ·rw [if_neg c]
  unfold lAS lgH a8O O2 a1a waC
  simp only [x9]
  refine qv ?_
  refine ⟨rfl, f7 hr ⟨rfl, rfl⟩ ?_⟩
  exact qt
end
section
variable {ok0 : Nat → Prop} {w0 : World} {E0 : Env} {gb gw : Nat} {ul : Value} {l : List Alm} {s : List Ser} {a : List Opr} {to : Int} {M : List Rev}
theorem a6q (t : Int) : ∀ (k : List Alm) (g : Rlg), (k.foldl (fun g x => rpX l s t x g) g).out.length ≤ g.out.length + k.length
 | [], g => by simp
 | x :: k, g => by
  have ih := a6q t k (rpX l s t x g)
  rw [List.foldl_cons, List.length_cons]
  have : (rpX l s t x g).out.length ≤ g.out.length + 1 := by
   unfold rpX; split
   ·simp
   ·simp
  omega
theorem c5t (t : Int) : ∀ (k : List Alm) (g : Rlg), (k.foldl (fun g x => rpX l s t x g) g).r = g.r
 | [], g => rfl
 | x :: k, g => by
  rw [List.foldl_cons, c5t t k]
  unfold rpX; split <;> rfl
theorem c7A (hA : J8 l) (hW : ∀ k, (wnK s k l).length ≤ 1000000) {L : List Rvp} {i : Int} {x : Rvp} {g : Rlg} (hg : g.out.length + l.length ≤ 1000000) {ok : Nat → Prop} {b : Act} {w : World} {E : Env} (hI : EvI ok0 w0 E0 gb gw ul l a M L ok w E)
  (h : Plc Tryz.prog 133 ok (a8O l to L i x 0) (lgH l (acM s l) g) b w E) {R : Exit → Act → World → Prop}
  (hR : ∀ ok' b' w' E', EvI ok0 w0 E0 gb gw ul l a M L ok' w' E' → Plc Tryz.prog 133 ok' (O2 l to L i (.ep (rvS x))) (lgH l (acM s l) (rpR l s x.r.a g)) b' w' E' → R .normal b' w') :
  (q6 [1, 1, 1, 1, 1, 1, 0, 1, 0, 0, 1, 1, 0, 0, 1, 1, 1, 1, 1] lgK).wp Tryz.prog R b w := by
 have hX : XK ≤ 1000005 := by simp [XK]
 refine b0m _ 4 (by kernel_rfl) ?_
 refine a9d (pG3 ++ [1, 1, 1, 1, 1, 0]) (by kernel_rfl) (fun n b w => ∃ (j : Int) (ok : Nat → Prop) (E : Env), 0 ≤ j ∧ j ≤ l.length ∧ n = (l.length - j).toNat ∧
  EvI ok0 w0 E0 gb gw ul l a M L ok w E ∧ Plc Tryz.prog 133 ok (a8O l to L i x j) (lgH l (acM s l) ((l.take j.toNat).foldl (fun g y => rpX l s x.r.a y g) g)) b w E) l.length ⟨0, ok, E, by omega, by omega, by omega, hI, h⟩ ?_
 rintro n b w ⟨j, ok, E, j0, j1, rfl, hI, h⟩
 have hgl := a6q (l := l) (s := s) x.r.a (l.take j.toNat) g
 have htl : (l.take j.toNat).length = j.toNat := by rw [List.length_take]; omega
 refine h.seqP pG4 (by kernel_rfl) d6o y9 _ _ (c3P L i x j _) fun b1 w1 ok1 E1 h1 A1 => ?_
 have I1 := hI.adv A1 h.no (gbs h1 A1 hI.g)
 refine a0T (pG4 ++ [1]) (by kernel_rfl) ?_
 refine a2v (pG4 ++ [1, 0]) (.tmp 94) (by kernel_rfl) (h1.bool rfl) (fun hb => ?_) (fun hb => ?_)
 rotate_left
 ·refine a4P (pG4 ++ [1, 0, 1]) 4 (by kernel_rfl) ?_
  have hj : j = l.length := by have := of_decide_eq_false hb; omega
  subst hj
  simp only [Exit.then, Exit.inBlock, if_true]
  have e : l.take (l.length : Int).toNat = l := List.take_of_length_le (by omega)
  rw [e] at h1
  refine hR ok1 b1 w1 E1 I1 ((((h1.tail rfl rfl).tail rfl rfl).tail rfl rfl).tail rfl rfl)
 have hb := of_decide_eq_true hb
 refine a2g (pG4 ++ [1, 0, 0]) (by kernel_rfl) ?_
 simp only [Exit.then]
 refine a0T (pG4 ++ [1, 1]) (by kernel_rfl) ?_
 refine b0m (pG4 ++ [1, 1, 0]) 5 (by kernel_rfl) ?_
 refine h1.code1 d6r y9 _ _ (c3C hA hW L i x j ⟨j0, hb⟩ _ _ (by omega)) fun b2 w2 ok2 E2 h2 A2 => ?_
 have I2 := I1.adv A2 h1.no (gbs h2 A2 I1.g)
 simp only [Exit.inBlock, Exit.then]
 refine h2.code1 d6t y9 _ _ (c5v L i x j ⟨j0, by omega⟩ _) fun b3 w3 ok3 E3 h3 A3 => ?_
 refine ⟨(l.length - (j + 1)).toNat, by omega, j + 1, ok3, E3, by omega, by omega, rfl, I2.adv A3 h2.no (gbs h3 A3 I2.g), ?_⟩
 rw [show (j + 1).toNat = j.toNat + 1 by omega, B0 (show j.toNat < l.length by omega), List.foldl_append]
 exact h3
theorem fn1 {w : World} {ok : Nat → Prop} {E : Env} {base : Nat} {f : FuncId} {d : List Cel} {v : Value} (hg : E.gm 1000005 = some gb) (h2 : CRel0 w ok 0 Env.none (.ep d) v) :
  VRel w ok base E (.one (.fn f [.bx 1000005 0, .ep d])) (.func (.func f) #[] #[.pointer (some ⟨gb, 0, none⟩), v]) := by
 refine .one ⟨[.pointer (some ⟨gb, 0, none⟩), v], rfl, rfl, fun i c u h3 h4 => ?_⟩
 match i with
 | 0 => simp at h3 h4; subst h3; subst h4; exact ⟨gb, hg, rfl⟩
 | 1 => simp at h3 h4; subst h3; subst h4; exact h2
 | i + 2 => simp at h3
theorem fn2 {w : World} {ok : Nat → Prop} {E : Env} {base : Nat} {f : FuncId} {d e : List Cel} {v u : Value} (hg : E.gm 1000005 = some gb) (h2 : CRel0 w ok 0 Env.none (.ep d) v) (h3 : CRel0 w ok 0 Env.none (.ep e) u) :
  VRel w ok base E (.one (.fn f [.bx 1000005 0, .ep d, .ep e])) (.func (.func f) #[] #[.pointer (some ⟨gb, 0, none⟩), v, u]) := by
 refine .one ⟨[.pointer (some ⟨gb, 0, none⟩), v, u], rfl, rfl, fun i c z h5 h4 => ?_⟩
 match i with
 | 0 => simp at h5 h4; subst h5; subst h4; exact ⟨gb, hg, rfl⟩
 | 1 => simp at h5 h4; subst h5; subst h4; exact h2
 | 2 => simp at h5 h4; subst h5; subst h4; exact h3
 | i + 3 => simp at h5
theorem d3i (hl : l.length ≤ 1000000) {L : List Rvp} {i : Int} {x : Rvp} (hx : x ∈ L) {v : Val} {g : Rlg} (hg : g.r.ig.length ≤ 1000000) {ok : Nat → Prop} {b : Act} {w : World} {E : Env} (hI : EvI ok0 w0 E0 gb gw ul l a M L ok w E)
  (h : Plc Tryz.prog 133 ok ((71, v) :: O2 l to L i (.ep (rvS x))) (lgH l (acM s l) g) b w E) {R : Exit → Act → World → Prop}
  (hR : ∀ ok' b' w' E', EvI ok0 w0 E0 gb gw ul l a M L ok' w' E' → Plc Tryz.prog 133 ok' (O2 l to L i (.ep (rvS x))) (lgH l (acM s l) (apR l a x.r g)) b' w' E' → R .normal b' w') : (q6 p15 lgK).wp Tryz.prog R b w := by
 have hX : XK ≤ 1000005 := by simp [XK]
 refine d1G p15 (l := opG p15) (by kernel_rfl) ?_
 have e : opG p15 = (opG p15).take 2 ++ ((opG p15).drop 2 ++ []) := by rw [List.append_nil, List.take_append_drop]
 have e2 : wpList Tryz.prog (opG p15).toArray R (opG p15) b w = wpList Tryz.prog (opG p15).toArray R ((opG p15).take 2 ++ ((opG p15).drop 2 ++ [])) b w := by rw [← e]
 rw [e2]
 refine h.ops1 d5c y9 _ _ (b8M L i x v g) fun b1 w1 ok1 E1 h1 A1 => ?_
 have I1 := hI.adv A1 h.no (gbs h1 A1 hI.g)
 have hc := I1.c x hx
 have hf := h1.tm 73
 have hev : b1.tmps.getD 73 undef = x.f := by
  generalize b1.tmps.getD 73 undef = u at hf
  cases hf with
  | one h2 => exact h2.1
 have rest : ∀ {cs : List Cel} {f : FuncId}, VRel w1 ok1 w1.heap.size E1 (.one (.fn f cs)) x.f → Plc Tryz.prog 133 ok1 ((73, .one (.fn f cs)) :: O2 l to L i (.ep (rvS x))) (lgH l (acM s l) g) b1 w1 E1 := fun hv => by
  have h2 := h1.tail (tl' := O2 l to L i (.ep (rvS x))) rfl rfl
  refine ⟨h2.toWd, h2.size, h2.nx, h2.defers, fun t => ?_⟩
  simp only [m9]
  by_cases et : t = 73
  ·grind
  ·rw [if_neg et]; exact h2.tm t
 have fin : ∀ (r' : Rst), doR l a x.r.d g.r = r' → ∀ ok2 b2 w2 E2, Plc Tryz.prog 133 ok2 (O2 l to L i (.ep (rvS x))) (lgH l (acM s l) ⟨r', g.la, g.out⟩) b2 w2 E2 → Adv w1 ok1 E1 w2 ok2 E2 → R .normal b2 w2 := fun r' hr' ok2 b2 w2 E2 h2 A2 => by
  subst hr'
  exact hR ok2 b2 w2 E2 (I1.adv A2 h1.no (gbs h2 A2 I1.g)) h2
 unfold ClE at hc
 cases hd : x.r.d with
 | on i' =>
  simp only [hd] at hc
  obtain ⟨v, c1, c2⟩ := hc
  refine (rest (by rw [c1]; exact fn1 I1.g.1 c2)).ops1 d3p y9 _ _ (a4i L i x g _ _ _ (c5H l (acM s l) g.r (l.getD i' default))) fun b2 w2 ok2 E2 h2 A2 => fin _ (by rw [hd]; rfl) ok2 b2 w2 E2 h2 A2
 | off i' =>
  simp only [hd] at hc
  obtain ⟨v, c1, c2⟩ := hc
  refine (rest (by rw [c1]; exact fn1 I1.g.1 c2)).ops1 d3p y9 _ _ (a4i L i x g _ _ _ (c1n l (acM s l) g.r (l.getD i' default))) fun b2 w2 ok2 E2 h2 A2 => fin _ (by rw [hd]; rfl) ok2 b2 w2 E2 h2 A2
 | act k =>
  simp only [hd] at hc
  obtain ⟨v, u, c1, c2, c3⟩ := hc
  refine (rest (by rw [c1]; exact fn2 I1.g.1 c2 c3)).ops1 d3p y9 _ _ (b2T L i x g _ _ _ _ (c3g l hl (acM s l) g.r hg (a.getD k default) k)) fun b2 w2 ok2 E2 h2 A2 => fin _ (by rw [hd]; rfl) ok2 b2 w2 E2 h2 A2
 | nop =>
  simp only [hd] at hc
  refine (rest (cs := []) (by rw [hc]; exact .one ⟨[], rfl, rfl, fun i c u h => by simp at h⟩)).ops1 d5C y9 _ _ (b8s L i x g) fun b2 w2 ok2 E2 h2 A2 => fin g.r (by rw [hd]; rfl) ok2 b2 w2 E2 h2 A2
end
section
variable {ok0 : Nat → Prop} {w0 : World} {E0 : Env} {gb gw : Nat} {ul : Value} {l : List Alm} {s : List Ser} {a : List Opr} {to : Int} {M : List Rev}
theorem d5Y (x : Rvp) : ∀ c ∈ rvS x, c.isD = true := by simp [x9, Cel.isD]
abbrev b8W : List (Nat × Val) := [(10, .one (.bx 1000001 0)), (14, .one (.ow 1000008 0))]
theorem c9a {ok : Nat → Prop} {tl : List (Nat × Val)} {H : Hp} {b : Act} {w : World} {E : Env} (h : Plc Tryz.prog 133 ok tl H b w E) (h1 : m9 tl 10 = .one (.bx 1000001 0)) (h2 : m9 tl 14 = .one (.ow 1000008 0)) : Plc Tryz.prog 133 ok b8W H b w E := by
 refine h.set _ fun p hp => ?_
 simp only [List.mem_cons, List.not_mem_nil, or_false] at hp
 rcases hp with rfl | rfl
 ·have := h.tm 10; rw [h1] at this; exact this
 ·have := h.tm 14; rw [h2] at this; exact this
theorem d0O (hA : J8 l) (hW : ∀ k, (wnK s k l).length ≤ 1000000) {L : List Rvp} {i : Int} (hi : 0 ≤ i ∧ i < L.length) (hL : L.length ≤ 1000000) {x : Rvp} {g : Rlg} (hg : g.out.length + l.length ≤ 1000000) {ok : Nat → Prop} {b : Act} {w : World} {E : Env} (hI : EvI ok0 w0 E0 gb gw ul l a M L ok w E)
  (h : Plc Tryz.prog 133 ok (O2 l to L i (.ep (rvS x))) (lgH l (acM s l) g) b w E) {R : Exit → Act → World → Prop}
  (hR : ∀ ok' b' w' E', EvI ok0 w0 E0 gb gw ul l a M L ok' w' E' → Plc Tryz.prog 133 ok' (O2 l to L i (.ep (rvS x))) (lgH l (acM s l) (if hdT Rev.a ((L.drop (i.toNat + 1)).map (·.r)) x.r.a = true then g else rpR l s x.r.a g)) b' w' E' → R (.exit 3) b' w' ∧ R .normal b' w') :
  (q6 [1, 1, 1, 1, 1, 1, 0, 1, 0, 0, 1, 1, 0, 0, 1, 1, 1] lgK).wp Tryz.prog R b w := by
 have hX : XK ≤ 1000005 := by simp [XK]
 refine a0T _ (by kernel_rfl) ?_
 refine h.seqP (pG3 ++ [1, 1, 1, 0]) (by kernel_rfl) d5O y9 _ _ (c2J L i hi hL x g) fun b1 w1 ok1 E1 h1 A1 => ?_
 have I1 := hI.adv A1 h.no (gbs h1 A1 hI.g)
 refine a2v (pG3 ++ [1, 1, 1, 0, 1]) (.tmp 90) (by kernel_rfl) (h1.bool rfl) (fun hb => ?_) (fun hb => ?_)
 ·refine a4P (pG3 ++ [1, 1, 1, 0, 1, 0]) 3 (by kernel_rfl) ?_
  refine (hR ok1 b1 w1 E1 I1 ?_).1
  rw [if_pos hb]
  exact h1.tail rfl rfl
 refine a2g (pG3 ++ [1, 1, 1, 0, 1, 1]) (by kernel_rfl) ?_
 simp only [Exit.then]
 refine h1.seqP (pG3 ++ [1, 1, 1, 1]) (by kernel_rfl) d5F y9 _ _ (c1h L i x _ g) fun b2 w2 ok2 E2 h2 A2 => ?_
 have I2 := I1.adv A2 h1.no (gbs h2 A2 I1.g)
 refine c7A hA hW hg I2 h2 fun ok' b' w' E' hI' h' => ?_
 grind
theorem c9W (hA : J8 l) (hl : l.length ≤ 1000000) (hW : ∀ k, (wnK s k l).length ≤ 1000000) {L : List Rvp} {i : Int} (hi : 0 ≤ i ∧ i ≤ L.length) (hL : L.length ≤ 1000000) {g : Rlg} (hg : g.out.length + l.length ≤ 1000000) (hig : g.r.ig.length ≤ 1000000) {ok : Nat → Prop} {b : Act} {w : World} {E : Env} (hI : EvI ok0 w0 E0 gb gw ul l a M L ok w E)
  (h : Plc Tryz.prog 133 ok (lgT l to L i) (lgH l (acM s l) g) b w E) {Q : Exit → Act → World → Prop}
  (hE : (i = L.length ∨ (i < L.length ∧ to < (L.getD i.toNat default).r.a)) → ∀ ok' b' w' E', EvI ok0 w0 E0 gb gw ul l a M L ok' w' E' → Plc Tryz.prog 133 ok' b8W (lgH l (acM s l) g) b' w' E' → Q (.exit 2) b' w')
  (hN : i < L.length → ¬to < (L.getD i.toNat default).r.a → ∀ ok' b' w' E', EvI ok0 w0 E0 gb gw ul l a M L ok' w' E' → Plc Tryz.prog 133 ok' (lgT l to L (i + 1)) (lgH l (acM s l) (if hdT Rev.a ((L.drop (i.toNat + 1)).map (·.r)) (L.getD i.toNat default).r.a = true then apR l a (L.getD i.toNat default).r g else rpR l s (L.getD i.toNat default).r.a (apR l a (L.getD i.toNat default).r g))) b' w' E' → Q .normal b' w') :
  (q6 pG lgK).wp Tryz.prog Q b w := by
 have hX : XK ≤ 1000005 := by simp [XK]
 refine h.seqP pG (by kernel_rfl) d6j y9 _ _ (c4F L i g) fun b1 w1 ok1 E1 h1 A1 => ?_
 have I1 := hI.adv A1 h.no (gbs h1 A1 hI.g)
 refine a0T (pG ++ [1]) (by kernel_rfl) ?_
 refine a2v (pG ++ [1, 0]) (.tmp 64) (by kernel_rfl) (h1.bool rfl) (fun hb => ?_) (fun hb => ?_)
 rotate_left
 ·refine a4P (pG ++ [1, 0, 1]) 2 (by kernel_rfl) ?_
  have hj : i = L.length := by have := of_decide_eq_false hb; omega
  simp only [Exit.then]
  exact hE (.inl hj) ok1 b1 w1 E1 I1 (c9a h1 rfl rfl)
 have hb := of_decide_eq_true hb
 refine a2g (pG ++ [1, 0, 0]) (by kernel_rfl) ?_
 simp only [Exit.then]
 refine a0T (pG ++ [1, 1]) (by kernel_rfl) ?_
 refine b0m (pG ++ [1, 1, 0]) 3 (by kernel_rfl) ?_
 refine h1.seqP pG3 (by kernel_rfl) d5e y9 _ _ (c4G L i ⟨hi.1, hb⟩ _ g) fun b2 w2 ok2 E2 h2 A2 => ?_
 have I2 := I1.adv A2 h1.no (gbs h2 A2 I1.g)
 have hx : L.getD i.toNat default ∈ L := j5 L _ (by omega)
 generalize hxe : L.getD i.toNat default = x at *
 obtain ⟨g17, ok3, hg17, h3, A3⟩ := h2.freeze 17 (cs := rvS x) rfl (d5Y _)
 have h4 : Plc Tryz.prog 133 ok3 (O2 l to L i (.ep (rvS x))) (lgH l (acM s l) g) b2 w2 (E2.del 17) := h3
 have I3 := I2.adv A3 h2.no (gbs h4 A3 I2.g)
 clear h3 h2
 refine a0T (pG3 ++ [1]) (by kernel_rfl) ?_
 refine h4.seqP (pG3 ++ [1, 0]) (by kernel_rfl) d5Z y9 _ _ (c1r L i x g) fun b3 w3 ok4 E3 h5 A4 => ?_
 have I4 := I3.adv A4 h4.no (gbs h5 A4 I3.g)
 refine a2v (pG3 ++ [1, 0, 1]) (.tmp 71) (by kernel_rfl) (h5.bool rfl) (fun hc => ?_) (fun hc => ?_)
 ·have hc := of_decide_eq_true hc
  refine a4P (pG3 ++ [1, 0, 1, 0]) 2 (by kernel_rfl) ?_
  simp only [Exit.then, Exit.inBlock]
  rw [if_neg (by omega)]
  exact hE (.inr ⟨hb, by omega⟩) ok4 b3 w3 E3 I4 (c9a h5 rfl rfl)
 have hc := of_decide_eq_false hc
 refine a2g (pG3 ++ [1, 0, 1, 1]) (by kernel_rfl) ?_
 simp only [Exit.then]
 refine a0T (pG3 ++ [1, 1]) (by kernel_rfl) ?_
 refine d3i hl hx hig I4 h5 fun ok5 b5 w5 E5 I5 h6 => ?_
 simp only [Exit.then]
 refine d0O hA hW ⟨hi.1, hb⟩ hL (g := apR l a x.r g) hg I5 h6 fun ok6 b6 w6 E6 I6 h7 => ?_
 simp only [Exit.inBlock, if_true, Exit.then]
 refine (fun hq => ⟨hq, hq⟩) ?_
 refine h7.code1 d5S y9 _ _ (c3Z L i ⟨hi.1, by omega⟩ _ _) fun b7 w7 ok7 E7 h8 A8 => ?_
 exact hN hb (by omega) ok7 b7 w7 E7 (I6.adv A8 h7.no (gbs h8 A8 I6.g)) h8
theorem b2Z (l : List Alm) (s : List Ser) (t : Int) (g : Rlg) : (rpR l s t g).out.length ≤ g.out.length + l.length ∧ (rpR l s t g).r = g.r := ⟨a6q t l g, c5t t l g⟩
theorem c0o (l : List Alm) (a : List Opr) (d : Rdo) (r : Rst) : (doR l a d r).ig.length ≤ r.ig.length + 1 := by
 have h : ∀ x, (a4p l x r).1.ig = r.ig := fun x => by
  unfold a4p
  (repeat' split) <;> rfl
 cases d with
 | on i => simp [doR]
 | off i => simp [doR]
 | nop => simp [doR]
 | act k =>
  simp only [doR]
  all_goals grind
theorem c8e (hA : J8 l) (hl : l.length ≤ 1000000) (hW : ∀ k, (wnK s k l).length ≤ 1000000) {L : List Rvp} (hL : L.length ≤ 1000000) (hLl : (L.length + 1) * l.length ≤ 1000000) {g0 : Rlg} (hg0 : g0.out = []) (hig0 : g0.r.ig = []) {ok : Nat → Prop} {b : Act} {w : World} {E : Env} (hI : EvI ok0 w0 E0 gb gw ul l a M L ok w E)
  (h : Plc Tryz.prog 133 ok (lgT l to L 0) (lgH l (acM s l) g0) b w E) {R : Exit → Act → World → Prop}
  (hR : ∀ ok' b' w' E', EvI ok0 w0 E0 gb gw ul l a M L ok' w' E' → Plc Tryz.prog 133 ok' b8W (lgH l (acM s l) (rnR l s a to (L.map (·.r)) g0)) b' w' E' → R .normal b' w') :
  (q6 [1, 1, 1, 1, 1, 1, 0, 1] lgK).wp Tryz.prog R b w := by
 refine b0m _ 2 (by kernel_rfl) ?_
 refine a9d [1, 1, 1, 1, 1, 1, 0, 1, 0] (by kernel_rfl) (fun n b w => ∃ (i : Int) (g : Rlg) (ok : Nat → Prop) (E : Env), 0 ≤ i ∧ i ≤ L.length ∧ n = (L.length - i).toNat ∧ g.out.length ≤ i.toNat * l.length ∧ g.r.ig.length ≤ i.toNat ∧
  rnR l s a to ((L.drop i.toNat).map (·.r)) g = rnR l s a to (L.map (·.r)) g0 ∧ EvI ok0 w0 E0 gb gw ul l a M L ok w E ∧ Plc Tryz.prog 133 ok (lgT l to L i) (lgH l (acM s l) g) b w E) L.length ⟨0, g0, ok, E, by omega, by omega, by omega, by simp [hg0], by simp [hig0], rfl, hI, h⟩ ?_
 rintro n b w ⟨i, g, ok, E, i0, i1, rfl, i2, i3, i4, hI, h⟩
 have hm1 : (i.toNat + 1) * l.length ≤ (L.length + 1) * l.length := Nat.mul_le_mul_right _ (by omega)
 have hm2 : (i.toNat + 1) * l.length = i.toNat * l.length + l.length := Nat.succ_mul _ _
 refine c9W hA hl hW ⟨i0, i1⟩ hL (by omega) (by omega) hI h (fun he ok' b' w' E' hI' h' => ?_) (fun hb hc ok' b' w' E' hI' h' => ?_)
 ·simp only [Exit.then, Exit.inBlock, if_true]
  refine hR ok' b' w' E' hI' ?_
  rw [← i4]
  rcases he with he | ⟨h1, h2⟩
  ·rw [List.drop_eq_nil_of_le (by omega)]; exact h'
  ·rw [D3 (show i.toNat < L.length by omega), List.map_cons, rnR, a3V, if_pos h2]; exact h'
 ·simp only [Exit.then]
  rw [D3 (show i.toNat < L.length by omega), List.map_cons, rnR, a3V, if_neg hc] at i4
  have hr := b2Z l s (L.getD i.toNat default).r.a (apR l a (L.getD i.toNat default).r g)
  have hd := c0o l a (L.getD i.toNat default).r.d g.r
  refine ⟨(L.length - (i + 1)).toNat, by omega, i + 1, _, ok', E', by omega, by omega, rfl, ?_, ?_, ?_, hI', h'⟩
  ·rw [show (i + 1).toNat = i.toNat + 1 by omega, hm2]
   split
   ·show g.out.length ≤ _; omega
   ·have h1 := hr.1
    have h2 : (apR l a (L.getD i.toNat default).r g).out = g.out := rfl
    rw [h2] at h1; omega
  ·rw [show (i + 1).toNat = i.toNat + 1 by omega]
   split
   ·show (doR l a _ g.r).ig.length ≤ _; omega
   ·rw [hr.2]; show (doR l a _ g.r).ig.length ≤ _; omega
  ·rw [show (i + 1).toNat = i.toNat + 1 by omega]
   exact i4
end
end Go.Proofs.YtbhgndiboeppeaaGreatDoor
