/- The reference's events. -/
import Derived.Test.YtnlafmigfjlnnaaGreatDoorHyc
import Derived.Test.YtnlafmigfjlnnaaGreatDoorRvb
import Derived.Test.YtnlafmigfjlnnaaGreatDoorWtd
set_option linter.all false
set_option maxHeartbeats 0
set_option maxRecDepth 100000
namespace Go.Proofs.YtnlafmigfjlnnaaGreatDoor
open Go Go.Ai
theorem d2g (x y : Rvp) : FC Tryz.prog 148 none [.ag (rvS x), .ag (rvS y)] (fun _ r => r = iv (a5Y x.r y.r)) := by
 refine fcE Tryz.func148 [aN [2,3] [2,3] [],aN [4] [] []] ?_
 have ho := a4y [sd y.r.a x.r.a, sd y.r.o x.r.o, a0u x.r.b y.r.b, sd y.r.no x.r.no] (by simp)
 have e : C3 [sd y.r.a x.r.a, sd y.r.o x.r.o, a0u x.r.b y.r.b, sd y.r.no x.r.no] = a5Y x.r y.r := rfl
 rw [e] at ho
 generalize a5Y x.r y.r = e at *
 simp only [x5]
 refine qc (s6 _ _) ?_
 refine qc (s6 _ _) ?_
 refine qc (a1i _ _) ?_
 refine qc (s6 _ _) ?_
 refine qc ho ?_
 exact qt
theorem d0m : Swo (fun _ : Rvp => True) (fun x y => a5Y x.r y.r) := ⟨fun x _ => revSwo.irr x.r trivial, fun x y z _ _ _ => revSwo.tr x.r y.r z.r trivial trivial trivial, fun x y z _ _ _ => revSwo.ntr x.r y.r z.r trivial trivial trivial⟩
/-! ### the functions of events -/
def ClE (w : World) (ok : Nat -> Prop) (gb : Nat) (l : List Alm) (a : List Opr) (x : Rvp) : Prop :=
 match x.r.d with
 | .on i => ∃ v, x.f = .func (.func 141) #[] #[.pointer (some ⟨gb, 0, none⟩), v] ∧ CRel0 w ok 0 Env.none (.ep (D0 (l.getD i default))) v
 | .off i => ∃ v, x.f = .func (.func 142) #[] #[.pointer (some ⟨gb, 0, none⟩), v] ∧ CRel0 w ok 0 Env.none (.ep (D0 (l.getD i default))) v
 | .act k => ∃ v u, x.f = .func (.func 144) #[] #[.pointer (some ⟨gb, 0, none⟩), v, u] ∧ CRel0 w ok 0 Env.none (.ep (O4 (a.getD k default))) v ∧ CRel0 w ok 0 Env.none (.ep [.g (.int .i64 k)]) u
 | .nop => x.f = .func (.func 146) #[] #[]
theorem ClE.adv {w w' : World} {ok ok' : Nat -> Prop} {E E' : Env} {gb : Nat} {l : List Alm} {a : List Opr} {x : Rvp} (h : ClE w ok gb l a x) (hA : Adv0 w ok E w' ok' E') (hno : ∀ b, E.own b -> ¬ ok b) : ClE w' ok' gb l a x := by
 unfold ClE at h ⊢
 cases hd : x.r.d with
 | on i => simp only [hd] at h ⊢; obtain ⟨v, h1, h2⟩ := h; exact ⟨v, h1, hA.ep hno h2⟩
 | off i => simp only [hd] at h ⊢; obtain ⟨v, h1, h2⟩ := h; exact ⟨v, h1, hA.ep hno h2⟩
 | act k => simp only [hd] at h ⊢; obtain ⟨v, u, h1, h2, h3⟩ := h; exact ⟨v, u, h1, hA.ep hno h2, hA.ep hno h3⟩
 | nop => simp only [hd] at h ⊢; exact h
/-! ### the code -/
noncomputable def evK : Code := (Tryz.f100.body).getD .skip
abbrev aZ : Ann := ⟨none, [], [], [], []⟩
theorem ke0 : b0 Tryz.prog 88 (o7 [0] evK) [aZ] = some (.reg false [gI 2 (.box (.t 0)), gI 4 (.mv (.v (.slice none 0 0)))] none, []) := by kernel_rfl
theorem ke1 : b0 Tryz.prog 88 (o7 [1, 0] evK) [⟨none, [(5, 161, 5)], [], [], []⟩] = some (.seq (.reg false [gI 5 (.mv (.v (.slice none 0 0)))] none) (.own 5 161 5), []) := by kernel_rfl
theorem ke2 : b0 Tryz.prog 88 (o7 [1, 1, 0, 0] evK) [aZ] = some (.reg false [gI 12 (.load false 1 (.t 2)), gI 13 (.nilchk (.t 12)), gI 14 (.fadr 0 (.t 13)), gI 15 (.load false 1 (.t 14)), gI 16 (.len (.t 15)), gI 17 (.mv (oI 0))] none, []) := by kernel_rfl
theorem ke3 : b0 Tryz.prog 88 (o7 [1, 1, 0, 1, 0, 0, 0] evK) [aZ] = some (.reg false [gI 18 (.bin .lss (.t 17) (.t 16))] none, []) := by kernel_rfl
theorem ke4 : b0 Tryz.prog 88 (o7 [1, 1, 0, 1, 0, 0, 1, 1, 0, 0, 0] evK) [aZ] = some (.reg false [gI 19 (.iadr 10 (.t 15) (.t 17)), gI 20 (.load true 10 (.t 19)), gI 7 (.alloc [(.string (ByteArray.mk #[])), (.string (ByteArray.mk #[])), (.int .i64 (0)), (.int .i64 (0)), (.int .i64 (0)), (.int .i64 (0)), (.int .i64 (0)), (.int .i64 (0)), (.bool false), (.string (ByteArray.mk #[]))]), gN (.store 10 (.t 7) (.t 20))] none, []) := by kernel_rfl
theorem ke5 : b0 Tryz.prog 88 (o7 [1, 1, 0, 1, 0, 0, 1, 1, 0, 0, 1, 0] evK) [aZ] = some (.reg true [gI 21 (.load false 1 (.t 2)), gI 22 (.nilchk (.t 21)), gI 23 (.fadr 1 (.t 22)), gI 24 (.load false 1 (.t 23)), gI 25 (.fadr 0 (.t 7)), gI 26 (.load false 1 (.t 25)), gI 27 (.mlk 0 (.slice none 0 0) false 2 (.t 24) (.t 26)), gI 28 (.len (.t 27)), gI 29 (.mv (oI 0))] none, []) := by kernel_rfl
theorem ke6 : b0 Tryz.prog 88 (o7 [1, 1, 0, 1, 0, 0, 1, 1, 0, 0, 1, 1, 0, 0, 0] evK) [aZ] = some (.reg false [gI 30 (.bin .lss (.t 29) (.t 28))] none, []) := by kernel_rfl
theorem ke7 : b0 Tryz.prog 88 (o7 [1, 1, 0, 1, 0, 0, 1, 1, 0, 0, 1, 1, 0, 0, 1, 1, 0, 0, 0] evK) [aZ] = some (.reg false [gI 31 (.iadr 2 (.t 27) (.t 29)), gI 32 (.load true 2 (.t 31)), gI 9 (.alloc [(.int .i64 (0)), (.int .i64 (0))]), gN (.store 2 (.t 9) (.t 32))] none, []) := by kernel_rfl
theorem ke9 : b0 Tryz.prog 88 (o7 [1, 1, 0, 1, 0, 0, 1, 1, 0, 0, 1, 1, 0, 0, 1, 1, 0, 0, 1, 1, 0] evK) [aZ] = some (.reg false [gI 40 (.fadr 1 (.t 9)), gI 41 (.load false 1 (.t 40)), gI 42 (.bin .lss (.t 41) (oI 345686400000))] none, []) := by kernel_rfl
theorem d6j : b0 Tryz.prog 88 (o7 [1, 1, 0, 1, 0, 0, 1, 1, 0, 0, 1, 1, 0, 0, 1, 1, 1] evK) [aZ] = some (.reg false [gI 50 (.bin .add (.t 29) (oI 1)), gM 29 50] none, []) := by kernel_rfl
theorem d5Z : b0 Tryz.prog 88 (o7 [1, 1, 0, 1, 0, 0, 1, 1, 1] evK) [aZ] = some (.reg false [gI 51 (.bin .add (.t 17) (oI 1)), gM 17 51] none, []) := by kernel_rfl
theorem d7e : b0 Tryz.prog 88 (o7 [1, 1, 1, 0, 0] evK) [aZ] = some (.reg false [gM 52 1, gI 53 (.len (.t 52)), gI 54 (.mv (oI 0))] none, []) := by kernel_rfl
theorem d7m : b0 Tryz.prog 88 (o7 [1, 1, 1, 0, 1, 0, 0, 0] evK) [aZ] = some (.reg false [gI 55 (.bin .lss (.t 54) (.t 53))] none, []) := by kernel_rfl
theorem d6b : b0 Tryz.prog 88 (o7 [1, 1, 1, 0, 1, 0, 0, 1, 1, 0, 0, 0] evK) [aZ] = some (.reg false [gM 56 54, gI 57 (.iadr 6 (.t 52) (.t 54)), gI 58 (.load true 6 (.t 57)), gI 10 (.alloc [(.int .i64 (0))]), gI 11 (.alloc [(.string (ByteArray.mk #[])), (.int .i64 (0)), (.int .i64 (0)), (.int .i64 (0)), (.string (ByteArray.mk #[])), (.int .i64 (0))]), gN (.store 1 (.t 10) (.t 56)), gN (.store 6 (.t 11) (.t 58))] none, []) := by kernel_rfl
theorem d6l : b0 Tryz.prog 88 (o7 [1, 1, 1, 0, 1, 0, 0, 1, 1, 0, 0, 1, 1, 0] evK) [aZ] = some (.reg false [gI 70 (.fadr 3 (.t 11)), gI 71 (.load false 1 (.t 70)), gI 72 (.bin .eql (.t 71) (oI 2)), gM 73 72, gG 74 73 true (.fadr 5 (.t 11)), gG 75 73 true (.load false 1 (.t 74)), gG 76 73 true (.bin .lss (.t 75) (oI 345686400000)), gI 77 (.pick (.t 73) (.t 76) (.v (.bool false)))] none, []) := by kernel_rfl
theorem d7j : b0 Tryz.prog 88 (o7 [1, 1, 1, 0, 1, 0, 0, 1, 1, 1] evK) [aZ] = some (.reg false [gI 84 (.bin .add (.t 54) (oI 1)), gM 54 84] none, []) := by kernel_rfl
theorem d6V : b0 Tryz.prog 88 (o7 [1, 1, 1, 1, 0] evK) [⟨none, [], [], [], [(86, ⟨[], [1000000], [], [1000000], [1000000]⟩)]⟩] = some (.reg false [gM 85 5, gI 86 (.callm (.f 147) [(.t 85), (.f 148)] ⟨[], [1000000], [], [1000000], [1000000]⟩)] none, []) := by kernel_rfl
theorem d6W : b0 Tryz.prog 88 (o7 [1, 1, 1, 1, 1, 0] evK) [aZ] = some (.reg false [gM 87 5, gM 4 87] none, []) := by kernel_rfl
noncomputable def opE (p : List Nat) : List Oper := d5q (o7 p evK)
abbrev p8 : List Nat := [1, 1, 0, 1, 0, 0, 1, 1, 0, 0, 1, 1, 0, 0, 1, 1, 0, 0, 1, 0]
abbrev p10 : List Nat := [1, 1, 0, 1, 0, 0, 1, 1, 0, 0, 1, 1, 0, 0, 1, 1, 0, 0, 1, 1, 1, 0]
abbrev p16 : List Nat := [1, 1, 1, 0, 1, 0, 0, 1, 1, 0, 0, 1, 0]
abbrev p18 : List Nat := [1, 1, 1, 0, 1, 0, 0, 1, 1, 0, 0, 1, 1, 1, 0]
theorem ka8 : ((opE p8).take 3).mapM (l7 Tryz.prog 88 [] (opE p8).toArray) = some [gM 33 5, gI 34 (.fadr 0 (.t 9)), gI 35 (.load false 1 (.t 34))] := by kernel_rfl
theorem kb8 : ((opE p8).drop 4).mapM (l7 Tryz.prog 88 [] (opE p8).toArray) = some [gI 37 (.build [(.int .i64 (0)), (.int .i64 (0)), (.string (ByteArray.mk #[])), (.int .i64 (0)), .nilFunc] [(0, 1, (.t 35)), (4, 1, (.t 36))]), gI 38 (.bslice 5 1 [(.t 37)]), gI 39 (.append 161 5 48 (.t 33) (.t 38)), gM 5 39] := by kernel_rfl
theorem ko8 : ((opE p8).getD 3 default).op = .makeFunc (.func 141) #[] #[.tmp 2, .tmp 7] := by kernel_rfl
theorem d6s : ((opE p10).take 3).mapM (l7 Tryz.prog 88 [] (opE p10).toArray) = some [gM 43 5, gI 44 (.fadr 1 (.t 9)), gI 45 (.load false 1 (.t 44))] := by kernel_rfl
theorem d6Y : ((opE p10).drop 4).mapM (l7 Tryz.prog 88 [] (opE p10).toArray) = some [gI 47 (.build [(.int .i64 (0)), (.int .i64 (0)), (.string (ByteArray.mk #[])), (.int .i64 (0)), .nilFunc] [(0, 1, (.t 45)), (4, 1, (.t 46))]), gI 48 (.bslice 5 1 [(.t 47)]), gI 49 (.append 161 5 48 (.t 43) (.t 48)), gM 5 49] := by kernel_rfl
theorem d5P : ((opE p10).getD 3 default).op = .makeFunc (.func 142) #[] #[.tmp 2, .tmp 7] := by kernel_rfl
theorem d6q : ((opE p16).take 7).mapM (l7 Tryz.prog 88 [] (opE p16).toArray) = some [gM 59 5, gI 60 (.fadr 2 (.t 11)), gI 61 (.load false 1 (.t 60)), gI 62 (.fadr 0 (.t 11)), gI 63 (.load false 1 (.t 62)), gI 64 (.fadr 1 (.t 11)), gI 65 (.load false 1 (.t 64))] := by kernel_rfl
theorem d5V : ((opE p16).drop 8).mapM (l7 Tryz.prog 88 [] (opE p16).toArray) = some [gI 67 (.build [(.int .i64 (0)), (.int .i64 (0)), (.string (ByteArray.mk #[])), (.int .i64 (0)), .nilFunc] [(0, 1, (.t 61)), (1, 1, (oI 2)), (2, 1, (.t 63)), (3, 1, (.t 65)), (4, 1, (.t 66))]), gI 68 (.bslice 5 1 [(.t 67)]), gI 69 (.append 161 5 48 (.t 59) (.t 68)), gM 5 69] := by kernel_rfl
theorem d6e : ((opE p16).getD 7 default).op = .makeFunc (.func 144) #[] #[.tmp 2, .tmp 11, .tmp 10] := by kernel_rfl
theorem d6P : ((opE p18).take 4).mapM (l7 Tryz.prog 88 [] (opE p18).toArray) = some [gM 78 5, gI 79 (.fadr 5 (.t 11)), gI 80 (.load false 1 (.t 79)), gI 81 (.build [(.int .i64 (0)), (.int .i64 (0)), (.string (ByteArray.mk #[])), (.int .i64 (0)), .nilFunc] [(0, 1, (.t 80)), (1, 1, (oI 1)), (4, 1, (.f 146))])] := by kernel_rfl
theorem d5Y : ((opE p18).drop 4).mapM (l7 Tryz.prog 88 [] (opE p18).toArray) = some [gI 82 (.bslice 5 1 [(.t 81)]), gI 83 (.append 161 5 48 (.t 78) (.t 82)), gM 5 83] := by kernel_rfl
attribute [irreducible] evK opE
theorem a4e (s : List Ser) : ∀ (A B : List Alm) (k : Nat), Z6 s k (A ++ B) = Z6 s k A ++ Z6 s (k + A.length) B
 | [], B, k => rfl
 | x :: A, B, k => by
  rw [List.cons_append, Z6, Z6, a4e s A B (k + 1), List.append_assoc, List.length_cons]
  congr 2
  congr 1
  omega
theorem a3d : ∀ (A B : List Opr) (k : Nat), a0L k (A ++ B) = a0L k A ++ a0L (k + A.length) B
 | [], B, k => rfl
 | x :: A, B, k => by
  rw [List.cons_append, a0L, a0L, a3d A B (k + 1), List.append_assoc, List.length_cons]
  congr 2
  congr 1
  omega
theorem a4x (s : List Ser) (l : List Alm) (i : Nat) (h : i < l.length) : Z6 s 0 (l.take (i + 1)) = Z6 s 0 (l.take i) ++ rvA s i (l.getD i default) := by
 rw [B7 h, a4e, Z6, Z6, List.append_nil, List.length_take, Nat.min_eq_left (by omega), Nat.zero_add]
theorem b1p (l : List Opr) (i : Nat) (h : i < l.length) : a0L 0 (l.take (i + 1)) = a0L 0 (l.take i) ++ rvB i (l.getD i default) := by
 rw [B7 h, a3d, a0L, a0L, List.append_nil, List.length_take, Nat.min_eq_left (by omega), Nat.zero_add]
theorem c4i (s : List Ser) (l : List Alm) (a : List Opr) (i : Nat) (h : i <= l.length) : (Z6 s 0 (l.take i)).length <= (H7 l s a).length := by
 unfold H7
 have := a4e s (l.take i) (l.drop i) 0
 rw [List.take_append_drop] at this
 rw [this, List.length_append, List.length_append]; omega
theorem c8p (s : List Ser) (l : List Alm) (a : List Opr) (i : Nat) (h : i < l.length) (j : Nat) : (Z6 s 0 (l.take i)).length + (((m8 s (l.getD i default)).take j).flatMap (rvW i)).length <= (H7 l s a).length := by
 have h1 := c4i s l a (i + 1) h
 rw [a4x s l i h, List.length_append] at h1
 unfold rvA at h1
 have h2 : ((m8 s (l.getD i default)).flatMap (rvW i)).length = (((m8 s (l.getD i default)).take j).flatMap (rvW i)).length + (((m8 s (l.getD i default)).drop j).flatMap (rvW i)).length := by
  rw [<- List.length_append, <- List.flatMap_append, List.take_append_drop]
 omega
theorem c9b (s : List Ser) (l : List Alm) (a : List Opr) (i : Nat) : (Z6 s 0 l).length + (a0L 0 (a.take i)).length <= (H7 l s a).length := by
 unfold H7
 have := a3d (a.take i) (a.drop i) 0
 rw [List.take_append_drop] at this
 rw [this, List.length_append, List.length_append]; omega
abbrev evM : CAnn := ⟨[1000001, 1000005], [1000002, 1000003, 1000004, 1000000, 1000007], [], [], []⟩
abbrev d5G (k : Nat) : CAnn := ⟨[1000001, 1000005, k], [1000002, 1000003, 1000004, 1000000, 1000007], [], [], []⟩
abbrev evH (l : List Alm) (ac : List (List Cel)) (r : Rst) (L : List Rvp) (la : List (ByteArray × Int)) (out : List Std) : Hp := ⟨[(1000001, waC l ac), (1000005, [.bx 1000001 0])], [(1000002, mpR r.st), (1000003, mpR r.sh), (1000004, n8 r.ig), (1000000, y7 L), (1000007, mpR la)]⟩
abbrev d2K (k : Nat) (cs : List Cel) (l : List Alm) (ac : List (List Cel)) (r : Rst) (L : List Rvp) (la : List (ByteArray × Int)) (out : List Std) : Hp := ⟨[(1000001, waC l ac), (1000005, [.bx 1000001 0]), (k, cs)], [(1000002, mpR r.st), (1000003, mpR r.sh), (1000004, n8 r.ig), (1000000, y7 L), (1000007, mpR la)]⟩
theorem o5 {l : List Alm} {ac : List (List Cel)} {r : Rst} {L : List Rvp} {la : List (ByteArray × Int)} {out : List Std} : ∀ p ∈ (evH l ac r L la out).rs, XK <= p.1 := by simp [XK]
abbrev a4r (l : List Alm) (a : List Opr) (i : Int) (W : List (Int × Int)) (j : Int) : List (Nat × Val) := [(0, .one (.bx 1000001 0)), (1, F7 false a), (2, .one (.bx 1000005 0)), (5, .one (.ow 1000000 0)), (7, .one (.ep (D0 (l.getD i.toNat default)))), (15, r6 false l), (16, iv l.length), (17, iv i), (27, a0C false W), (28, iv W.length), (29, iv j)]
abbrev a1X (l : List Alm) (a : List Opr) (i : Int) (W : List (Int × Int)) (j : Int) (c : Cel) : List (Nat × Val) := [(0, .one (.bx 1000001 0)), (1, F7 false a), (2, .one (.bx 1000005 0)), (5, .one (.ow 1000000 0)), (7, .one (.ep (D0 (l.getD i.toNat default)))), (9, .one c), (15, r6 false l), (16, iv l.length), (17, iv i), (27, a0C false W), (28, iv W.length), (29, iv j)]
abbrev pL2 : List Nat := [1, 1, 0, 1, 0, 0, 1, 1, 0, 0, 1, 1, 0, 0]
theorem d1D (l : List Alm) (a : List Opr) (i : Int) (W : List (Int × Int)) (j : Int) (hj : 0 <= j ∧ j < W.length) (ac : List (List Cel)) (r : Rst) (L : List Rvp) (la : List (ByteArray × Int)) (out : List Std) :
  ex Tryz.prog (.reg false [gI 31 (.iadr 2 (.t 27) (.t 29)), gI 32 (.load true 2 (.t 31)), gI 9 (.alloc [(.int .i64 (0)), (.int .i64 (0))]), gN (.store 2 (.t 9) (.t 32))] none) [] (C9 [0, 1, 2, 5, 7, 9, 15, 16, 17, 27, 28, 29] (d5G 9) (a1X l a i W j (.bx 9 0)) (d2K 9 (frC (W.getD j.toNat default)) l ac r L la out)) (lAS (a4r l a i W j) (evH l ac r L la out)) := by
 unfold lAS evH d2K a4r a1X waC
 exact qt
theorem d0V (l : List Alm) (a : List Opr) (i : Int) (W : List (Int × Int)) (j : Int) (ac : List (List Cel)) (r : Rst) (L : List Rvp) (la : List (ByteArray × Int)) (out : List Std) :
  ex Tryz.prog (.reg false [gI 30 (.bin .lss (.t 29) (.t 28))] none) [] (C9 [30, 0, 1, 2, 5, 7, 15, 16, 17, 27, 28, 29] evM ((30, bv (decide (j < W.length))) :: a4r l a i W j) (evH l ac r L la out)) (lAS (a4r l a i W j) (evH l ac r L la out)) := by
 unfold lAS evH a4r waC
 exact qt
abbrev c7h (l : List Alm) (a : List Opr) (i : Int) (W : List (Int × Int)) (j : Int) (c : Cel) (d : Nat) (x : Int) (e : Nat) : List (Nat × Val) := (d, .one (.ow 1000000 0)) :: (e, iv x) :: a1X l a i W j c
theorem c3C (l : List Alm) (a : List Opr) (i : Int) (W : List (Int × Int)) (j : Int) (v : Int × Int) (ac : List (List Cel)) (r : Rst) (L : List Rvp) (la : List (ByteArray × Int)) (out : List Std) :
  ex Tryz.prog (.reg false [gM 33 5, gI 34 (.fadr 0 (.t 9)), gI 35 (.load false 1 (.t 34))] none) [] (C9 [33, 35, 0, 1, 2, 5, 7, 9, 15, 16, 17, 27, 28, 29] evM (c7h l a i W j (.ep (frC v)) 33 v.1 35) (evH l ac r L la out)) (lAS (a1X l a i W j (.ep (frC v))) (evH l ac r L la out)) := by
 unfold lAS evH c7h a1X waC
 exact qt
theorem c6V (l : List Alm) (a : List Opr) (i : Int) (W : List (Int × Int)) (j : Int) (v : Int × Int) (ac : List (List Cel)) (r : Rst) (L : List Rvp) (hL : L.length <= 1000000) (la : List (ByteArray × Int)) (out : List Std) (fv : Value) (d : Rdo) :
  ex Tryz.prog (.reg false [gI 37 (.build [(.int .i64 (0)), (.int .i64 (0)), (.string (ByteArray.mk #[])), (.int .i64 (0)), .nilFunc] [(0, 1, (.t 35)), (4, 1, (.t 36))]), gI 38 (.bslice 5 1 [(.t 37)]), gI 39 (.append 161 5 48 (.t 33) (.t 38)), gM 5 39] none) [] (C9 [0, 1, 2, 5, 7, 9, 15, 16, 17, 27, 28, 29] evM (a1X l a i W j (.ep (frC v))) (evH l ac r (L ++ [⟨⟨v.1, 0, emp, 0, d⟩, fv⟩]) la out)) (lAS ((36, .one (.g fv)) :: c7h l a i W j (.ep (frC v)) 33 v.1 35) (evH l ac r L la out)) := by
 unfold lAS evH a1X waC
 refine qv ?_
 rw [y7, List.map_append]; rfl
theorem c9E (l : List Alm) (a : List Opr) (i : Int) (W : List (Int × Int)) (j : Int) (v : Int × Int) (ac : List (List Cel)) (r : Rst) (L : List Rvp) (la : List (ByteArray × Int)) (out : List Std) :
  ex Tryz.prog (.reg false [gI 40 (.fadr 1 (.t 9)), gI 41 (.load false 1 (.t 40)), gI 42 (.bin .lss (.t 41) (oI 345686400000))] none) [] (C9 [42, 0, 1, 2, 5, 7, 9, 15, 16, 17, 27, 28, 29] evM ((42, bv (decide (v.2 < 345686400000))) :: a1X l a i W j (.ep (frC v))) (evH l ac r L la out)) (lAS (a1X l a i W j (.ep (frC v))) (evH l ac r L la out)) := by
 unfold lAS evH a1X waC
 exact qt
theorem b6W (l : List Alm) (a : List Opr) (i : Int) (W : List (Int × Int)) (j : Int) (v : Int × Int) (ac : List (List Cel)) (r : Rst) (L : List Rvp) (la : List (ByteArray × Int)) (out : List Std) :
  ex Tryz.prog (.reg false [gM 43 5, gI 44 (.fadr 1 (.t 9)), gI 45 (.load false 1 (.t 44))] none) [] (C9 [43, 45, 0, 1, 2, 5, 7, 9, 15, 16, 17, 27, 28, 29] evM (c7h l a i W j (.ep (frC v)) 43 v.2 45) (evH l ac r L la out)) (lAS ((42, bv (decide (v.2 < 345686400000))) :: a1X l a i W j (.ep (frC v))) (evH l ac r L la out)) := by
 unfold lAS evH c7h a1X waC
 exact qt
theorem b7s (l : List Alm) (a : List Opr) (i : Int) (W : List (Int × Int)) (j : Int) (v : Int × Int) (ac : List (List Cel)) (r : Rst) (L : List Rvp) (hL : L.length <= 1000000) (la : List (ByteArray × Int)) (out : List Std) (fv : Value) (d : Rdo) :
  ex Tryz.prog (.reg false [gI 47 (.build [(.int .i64 (0)), (.int .i64 (0)), (.string (ByteArray.mk #[])), (.int .i64 (0)), .nilFunc] [(0, 1, (.t 45)), (4, 1, (.t 46))]), gI 48 (.bslice 5 1 [(.t 47)]), gI 49 (.append 161 5 48 (.t 43) (.t 48)), gM 5 49] none) [] (C9 [0, 1, 2, 5, 7, 9, 15, 16, 17, 27, 28, 29] evM (a1X l a i W j (.ep (frC v))) (evH l ac r (L ++ [⟨⟨v.2, 0, emp, 0, d⟩, fv⟩]) la out)) (lAS ((46, .one (.g fv)) :: c7h l a i W j (.ep (frC v)) 43 v.2 45) (evH l ac r L la out)) := by
 unfold lAS evH a1X waC
 refine qv ?_
 rw [y7, List.map_append]; rfl
theorem c6v (l : List Alm) (a : List Opr) (i : Int) (W : List (Int × Int)) (j : Int) (hj : 0 <= j ∧ j <= 1000000) (v : Int × Int) (ac : List (List Cel)) (r : Rst) (L : List Rvp) (la : List (ByteArray × Int)) (out : List Std) :
  ex Tryz.prog (.reg false [gI 50 (.bin .add (.t 29) (oI 1)), gM 29 50] none) [] (C9 [0, 1, 2, 5, 7, 15, 16, 17, 27, 28, 29] evM (a4r l a i W (j + 1)) (evH l ac r L la out)) (lAS (a1X l a i W j (.ep (frC v))) (evH l ac r L la out)) := by
 unfold lAS evH a1X a4r waC
 exact qt
theorem d6N (v : Int × Int) : ∀ c ∈ frC v, c.isD = true := by simp [T0, Cel.isD]
abbrev pB3 : List Nat := [1, 1, 0, 1, 0, 0, 1, 1, 0, 0, 1, 1, 0, 0, 1, 1, 0, 0]
section
variable {ok0 : Nat -> Prop} {w0 : World} {E0 : Env} {gb gw : Nat} {ul : Value} {l : List Alm} {s : List Ser} {a : List Opr} {ac : List (List Cel)} {r : Rst} {la : List (ByteArray × Int)} {out : List Std}
def GB (gb gw : Nat) (ul : Value) (E : Env) : Prop := E.gm 1000005 = some gb ∧ E.gm 1000001 = some gw ∧ E.rm 1000007 = some (0, 0, ul)
theorem gbs {P : Program} {N : Nat} {ok ok' : Nat -> Prop} {tl' : List (Nat × Val)} {H' : Hp} {a' : Act} {w w' : World} {E E' : Env} {gb gw : Nat} {ul : Value} {cs1 cs2 : List Cel} {m : List (ByteArray × Int)} (h : Plc P N ok' tl' H' a' w' E') (hA : Adv w ok E w' ok' E') (hg : GB gb gw ul E) (h1 : f7 H'.bs 1000005 = some cs1 := by rfl) (h2 : f7 H'.bs 1000001 = some cs2 := by rfl) (h3 : f7 H'.rs 1000007 = some (mpR m) := by rfl) : GB gb gw ul E' := by
 refine ⟨h.same hA h1 (by simp [XK]) hg.1, h.same hA h2 (by simp [XK]) hg.2.1, ?_⟩
 obtain ⟨_, _, u, _, h4, _⟩ := h.h.rw 1000007 (mpR m) h3
 have h5 := hA.pinM 1000007 u (by simp [XK]) h4
 rw [hg.2.2] at h5
 simp only [Option.some.injEq, Prod.mk.injEq, true_and] at h5
 subst h5
 exact h4
structure EvI (ok0 : Nat -> Prop) (w0 : World) (E0 : Env) (gb gw : Nat) (ul : Value) (l : List Alm) (a : List Opr) (M : List Rev) (L : List Rvp) (ok : Nat -> Prop) (w : World) (E : Env) : Prop where
 m : L.map (·.r) = M
 c : ∀ x ∈ L, ClE w ok gb l a x
 g : GB gb gw ul E
 a : Adv0 w0 ok0 E0 w ok E
theorem EvI.adv {M : List Rev} {L : List Rvp} {ok ok' : Nat -> Prop} {w w' : World} {E E' : Env} (h : EvI ok0 w0 E0 gb gw ul l a M L ok w E) (hA : Adv w ok E w' ok' E') (hno : ∀ b, E.own b -> ¬ ok b) (hg : GB gb gw ul E') : EvI ok0 w0 E0 gb gw ul l a M L ok' w' E' :=
 ⟨h.m, fun x hx => (h.c x hx).adv hA.toAdv0 hno, hg, h.a.trans hA.toAdv0⟩
theorem EvI.snoc {M : List Rev} {L : List Rvp} {ok : Nat -> Prop} {w : World} {E : Env} (h : EvI ok0 w0 E0 gb gw ul l a M L ok w E) {x : Rvp} (hx : ClE w ok gb l a x) : EvI ok0 w0 E0 gb gw ul l a (M ++ [x.r]) (L ++ [x]) ok w E :=
 ⟨by rw [List.map_append, h.m]; rfl, fun y hy => by
  rcases List.mem_append.1 hy with hy | hy
  ·exact h.c y hy
  ·rw [List.mem_singleton.1 hy]; exact hx, h.g, h.a⟩
theorem EvI.len {M : List Rev} {L : List Rvp} {ok : Nat -> Prop} {w : World} {E : Env} (h : EvI ok0 w0 E0 gb gw ul l a M L ok w E) : L.length = M.length := by rw [<- h.m, List.length_map]
theorem d1w {i j : Int} {W : List (Int × Int)} {v : Int × Int} {M : List Rev} {L : List Rvp} {ok : Nat -> Prop} {b : Act} {w : World} {E : Env} (hI : EvI ok0 w0 E0 gb gw ul l a M L ok w E) (hM : M.length <= 1000000)
  (h : Plc Tryz.prog 88 ok (a1X l a i W j (.ep (frC v))) (evH l ac r L la out) b w E) {Q : Exit -> Act -> World -> Prop}
  (hN : ∀ L' ok' b' w' E', EvI ok0 w0 E0 gb gw ul l a (M ++ if v.2 < 345686400000 then [⟨v.2, 0, emp, 0, .off i.toNat⟩] else []) L' ok' w' E' -> Plc Tryz.prog 88 ok' (a1X l a i W j (.ep (frC v))) (evH l ac r L' la out) b' w' E' -> Q .normal b' w') : (o7 [1, 1, 0, 1, 0, 0, 1, 1, 0, 0, 1, 1, 0, 0, 1, 1, 0, 0, 1, 1] evK).wp Tryz.prog Q b w := by
 have hX : XK <= 1000005 := by simp [XK]
 have hl := hI.len
 refine h.seqP _ (by kernel_rfl) ke9 o5 _ _ (c9E l a i W j v ac r L la out) fun b5 w5 ok6 E5 h8 A6 => ?_
 have I7 := hI.adv A6 h.no (gbs h8 A6 hI.g)
 refine a2s [1, 1, 0, 1, 0, 0, 1, 1, 0, 0, 1, 1, 0, 0, 1, 1, 0, 0, 1, 1, 1] (.tmp 42) (by kernel_rfl) (h8.bool rfl) (fun hb => ?_) (fun hb => ?_)
 ·have hb := of_decide_eq_true hb
  refine h8.regMk p10 (l := opE p10) (A := (opE p10).take 3) (o := (opE p10).getD 3 default) (B := (opE p10).drop 4) (by kernel_rfl) (by kernel_rfl) d6s d6Y d5P (by kernel_rfl) (by kernel_rfl) (by omega) o5 _ _ (b6W l a i W j v ac r L la out) o5 _ _ (tl2 := fun _ => a1X l a i W j (.ep (frC v))) (H2 := fun fw => evH l ac r (L ++ [⟨⟨v.2, 0, emp, 0, .off i.toNat⟩, fw⟩]) la out)
   (fun fw => b7s l a i W j v ac r L (by omega) la out fw (.off i.toNat)) fun b6 w6 ok7 E6 h9 A7 fw hfw b7 w7 ok8 E7 h10 A8 => ?_
  have I8 := I7.adv A7 h8.no (gbs h9 A7 I7.g)
  have I9 := I8.snoc (x := ⟨⟨v.2, 0, emp, 0, .off i.toNat⟩, fw⟩) ⟨b6.eval (.tmp 7), by
   have e2 := h9.ptr (t := 2) rfl I8.g.1
   rw [hfw]; simp [e2], h9.epv (t := 7) rfl⟩
  have I10 := I9.adv A8 h9.no (gbs h10 A8 I9.g)
  refine hN _ ok8 b7 w7 E7 ?_ h10
  rw [if_pos hb]
  exact I10
 ·have hb := of_decide_eq_false hb
  refine a2r [1, 1, 0, 1, 0, 0, 1, 1, 0, 0, 1, 1, 0, 0, 1, 1, 0, 0, 1, 1, 1, 1] (by kernel_rfl) ?_
  refine hN _ ok6 b5 w5 E5 ?_ (h8.tail rfl rfl)
  rw [if_neg hb, List.append_nil]
  exact I7
theorem d5k {i j : Int} {W : List (Int × Int)} (hj : 0 <= j ∧ j < W.length) {M : List Rev} {L : List Rvp} {ok : Nat -> Prop} {b : Act} {w : World} {E : Env} (hI : EvI ok0 w0 E0 gb gw ul l a M L ok w E) (hM : M.length + 1 <= 1000000)
  (h : Plc Tryz.prog 88 ok (a4r l a i W j) (evH l ac r L la out) b w E) {Q : Exit -> Act -> World -> Prop}
  (hN : ∀ L' ok' b' w' E', EvI ok0 w0 E0 gb gw ul l a (M ++ rvW i.toNat (W.getD j.toNat default)) L' ok' w' E' -> Plc Tryz.prog 88 ok' (a1X l a i W j (.ep (frC (W.getD j.toNat default)))) (evH l ac r L' la out) b' w' E' -> Q .normal b' w') : (o7 pB3 evK).wp Tryz.prog Q b w := by
 have hX : XK <= 1000005 := by simp [XK]
 refine h.seqP pB3 (by kernel_rfl) ke7 o5 _ _ (d1D l a i W j hj ac r L la out) fun b2 w2 ok2 E2 h3 A2 => ?_
 have I2 := hI.adv A2 h.no (gbs h3 A2 hI.g)
 obtain ⟨g9, ok3, hg9, h4, A3⟩ := h3.freeze 9 (cs := frC (W.getD j.toNat default)) rfl (d6N _)
 have h5 : Plc Tryz.prog 88 ok3 (a1X l a i W j (.ep (frC (W.getD j.toNat default)))) (evH l ac r L la out) b2 w2 (E2.del 9) := h4
 have I3 := I2.adv A3 h3.no (gbs h5 A3 I2.g)
 clear h4 h3
 generalize hv : W.getD j.toNat default = v at *
 have hl := I3.len
 refine a0G (pB3 ++ [1]) (by kernel_rfl) ?_
 refine h5.regMk p8 (l := opE p8) (A := (opE p8).take 3) (o := (opE p8).getD 3 default) (B := (opE p8).drop 4) (by kernel_rfl) (by kernel_rfl) ka8 kb8 ko8 (by kernel_rfl) (by kernel_rfl) (by omega) o5 _ _ (c3C l a i W j v ac r L la out) o5 _ _ (tl2 := fun _ => a1X l a i W j (.ep (frC v))) (H2 := fun fv => evH l ac r (L ++ [⟨⟨v.1, 0, emp, 0, .on i.toNat⟩, fv⟩]) la out)
  (fun fv => c6V l a i W j v ac r L (by omega) la out fv (.on i.toNat)) fun b3 w3 ok4 E3 h6 A4 fv hfv b4 w4 ok5 E4 h7 A5 => ?_
 have I4 := I3.adv A4 h5.no (gbs h6 A4 I3.g)
 have I5 := I4.snoc (x := ⟨⟨v.1, 0, emp, 0, .on i.toNat⟩, fv⟩) ⟨b3.eval (.tmp 7), by
  have e2 := h6.ptr (t := 2) rfl I4.g.1
  rw [hfv]; simp [e2], h6.epv (t := 7) rfl⟩
 have I6 := I5.adv A5 h6.no (gbs h7 A5 I5.g)
 simp only [Exit.then]
 refine d1w I6 (by simpa using hM) h7 fun L' ok' b' w' E' hI' h' => hN L' ok' b' w' E' ?_ h'
 rw [rvW]
 rw [List.append_assoc] at hI'
 exact hI'
end
section
variable {ok0 : Nat -> Prop} {w0 : World} {E0 : Env} {gb gw : Nat} {ul : Value} {l : List Alm} {s : List Ser} {a : List Opr} {ac : List (List Cel)} {r : Rst} {la : List (ByteArray × Int)} {out : List Std}
theorem c4N {α β : Type} [Inhabited α] (f : α -> List β) (W : List α) (j : Nat) (h : j < W.length) : (W.take (j + 1)).flatMap f = (W.take j).flatMap f ++ f (W.getD j default) := by
 rw [B7 h, List.flatMap_append]; simp
theorem c9o {i j : Int} {W : List (Int × Int)} (hj : 0 <= j ∧ j <= W.length) (hWl : W.length <= 1000000) {M : List Rev} {L : List Rvp} {ok : Nat -> Prop} {b : Act} {w : World} {E : Env} (hI : EvI ok0 w0 E0 gb gw ul l a M L ok w E) (hM : M.length + 1 <= 1000000)
  (h : Plc Tryz.prog 88 ok (a4r l a i W j) (evH l ac r L la out) b w E) {Q : Exit -> Act -> World -> Prop}
  (hE : j = W.length -> ∀ ok' b' w' E', EvI ok0 w0 E0 gb gw ul l a M L ok' w' E' -> Plc Tryz.prog 88 ok' (a4r l a i W j) (evH l ac r L la out) b' w' E' -> Q (.exit 2) b' w')
  (hN : j < W.length -> ∀ L' ok' b' w' E', EvI ok0 w0 E0 gb gw ul l a (M ++ rvW i.toNat (W.getD j.toNat default)) L' ok' w' E' -> Plc Tryz.prog 88 ok' (a4r l a i W (j + 1)) (evH l ac r L' la out) b' w' E' -> Q .normal b' w') : (o7 pL2 evK).wp Tryz.prog Q b w := by
 have hX : XK <= 1000005 := by simp [XK]
 refine h.seqP pL2 (by kernel_rfl) ke6 o5 _ _ (d0V l a i W j ac r L la out) fun b1 w1 ok1 E1 h1 A1 => ?_
 have I1 := hI.adv A1 h.no (gbs h1 A1 hI.g)
 refine a0G (pL2 ++ [1]) (by kernel_rfl) ?_
 refine a2s (pL2 ++ [1, 0]) (.tmp 30) (by kernel_rfl) (h1.bool rfl) (fun hb => ?_) (fun hb => ?_)
 rotate_left
 ·refine a4V (pL2 ++ [1, 0, 1]) 2 (by kernel_rfl) ?_
  have hj : j = W.length := by have := of_decide_eq_false hb; omega
  exact hE hj ok1 b1 w1 E1 I1 (h1.tail rfl rfl)
 have hb := of_decide_eq_true hb
 refine a2r (pL2 ++ [1, 0, 0]) (by kernel_rfl) ?_
 simp only [Exit.then]
 refine a0G (pL2 ++ [1, 1]) (by kernel_rfl) ?_
 refine b0T (pL2 ++ [1, 1, 0]) 3 (by kernel_rfl) ?_
 refine d5k ⟨hj.1, hb⟩ I1 hM (h1.tail rfl rfl) fun L' ok' b' w' E' hI' h' => ?_
 simp only [Exit.inBlock, Exit.then]
 refine h'.code1 d6j o5 _ _ (c6v l a i W j ⟨hj.1, by omega⟩ _ ac r L' la out) fun b2 w2 ok2 E2 h2 A2 => ?_
 exact hN hb L' ok2 b2 w2 E2 (hI'.adv A2 h'.no (gbs h2 A2 hI'.g)) h2
theorem d3W {i : Int} {W : List (Int × Int)} (hWl : W.length <= 1000000) {M : List Rev} (hM : ∀ j, (M ++ (W.take j).flatMap (rvW i.toNat)).length + 1 <= 1000000)
  {L : List Rvp} {ok : Nat -> Prop} {b : Act} {w : World} {E : Env} (hI : EvI ok0 w0 E0 gb gw ul l a M L ok w E)
  (h : Plc Tryz.prog 88 ok (a4r l a i W 0) (evH l ac r L la out) b w E) {R : Exit -> Act -> World -> Prop}
  (hR : ∀ L' ok' b' w' E', EvI ok0 w0 E0 gb gw ul l a (M ++ W.flatMap (rvW i.toNat)) L' ok' w' E' -> Plc Tryz.prog 88 ok' (a4r l a i W W.length) (evH l ac r L' la out) b' w' E' -> R .normal b' w') :
  (o7 [1, 1, 0, 1, 0, 0, 1, 1, 0, 0, 1, 1] evK).wp Tryz.prog R b w := by
 refine b0T _ 2 (by kernel_rfl) ?_
 refine b0f [1, 1, 0, 1, 0, 0, 1, 1, 0, 0, 1, 1, 0] (by kernel_rfl) (fun n b w => ∃ (j : Int) (L' : List Rvp) (ok : Nat -> Prop) (E : Env), 0 <= j ∧ j <= W.length ∧ n = (W.length - j).toNat ∧
  EvI ok0 w0 E0 gb gw ul l a (M ++ (W.take j.toNat).flatMap (rvW i.toNat)) L' ok w E ∧ Plc Tryz.prog 88 ok (a4r l a i W j) (evH l ac r L' la out) b w E) W.length ⟨0, L, ok, E, by omega, by omega, by omega, by simpa using hI, h⟩ ?_
 rintro n b w ⟨j, L', ok, E, j0, j1, rfl, hI, h⟩
 refine c9o ⟨j0, j1⟩ hWl hI (hM _) h (fun hj ok' b' w' E' hI' h' => ?_) (fun hj L' ok' b' w' E' hI' h' => ?_)
 ·simp only [Exit.then, Exit.inBlock, if_true]
  refine hR L' ok' b' w' E' ?_ (hj ▸ h')
  have : W.take j.toNat = W := List.take_of_length_le (by omega)
  rw [this] at hI'
  exact hI'
 ·simp only [Exit.then]
  refine ⟨(W.length - (j + 1)).toNat, by omega, j + 1, L', ok', E', by omega, by omega, rfl, ?_, h'⟩
  rw [show (j + 1).toNat = j.toNat + 1 by omega, c4N _ _ _ (by omega), <- List.append_assoc]
  exact hI'
/-! ### alarms -/
abbrev a9a (l : List Alm) (a : List Opr) (i : Int) : List (Nat × Val) := [(0, .one (.bx 1000001 0)), (1, F7 false a), (2, .one (.bx 1000005 0)), (5, .one (.ow 1000000 0)), (15, r6 false l), (16, iv l.length), (17, iv i)]
abbrev b3s (l : List Alm) (a : List Opr) (i : Int) (c : Cel) : List (Nat × Val) := [(0, .one (.bx 1000001 0)), (1, F7 false a), (2, .one (.bx 1000005 0)), (5, .one (.ow 1000000 0)), (7, .one c), (15, r6 false l), (16, iv l.length), (17, iv i)]
theorem d3b (x : Alm) : ∀ c ∈ D0 x, c.isD = true := by simp [j9, Cel.isD]
theorem c7N (i : Int) (L : List Rvp) :
  ex Tryz.prog (.reg false [gI 18 (.bin .lss (.t 17) (.t 16))] none) [] (C9 [18, 0, 1, 2, 5, 15, 16, 17] evM ((18, bv (decide (i < l.length))) :: a9a l a i) (evH l ac r L la out)) (lAS (a9a l a i) (evH l ac r L la out)) := by
 unfold lAS evH a9a waC
 exact qt
theorem d1O (i : Int) (hi : 0 <= i ∧ i < l.length) (L : List Rvp) :
  ex Tryz.prog (.reg false [gI 19 (.iadr 10 (.t 15) (.t 17)), gI 20 (.load true 10 (.t 19)), gI 7 (.alloc [(.string (ByteArray.mk #[])), (.string (ByteArray.mk #[])), (.int .i64 (0)), (.int .i64 (0)), (.int .i64 (0)), (.int .i64 (0)), (.int .i64 (0)), (.int .i64 (0)), (.bool false), (.string (ByteArray.mk #[]))]), gN (.store 10 (.t 7) (.t 20))] none) [] (C9 [0, 1, 2, 5, 7, 15, 16, 17] (d5G 7) (b3s l a i (.bx 7 0)) (d2K 7 (D0 (l.getD i.toNat default)) l ac r L la out)) (lAS ((18, bv (decide (i < l.length))) :: a9a l a i) (evH l ac r L la out)) := by
 unfold lAS evH d2K a9a b3s waC
 exact qt
theorem d0S (i : Int) (L : List Rvp) (hW : (wnK s (l.getD i.toNat default).k l).length <= 1000000) :
  ex Tryz.prog (.reg true [gI 21 (.load false 1 (.t 2)), gI 22 (.nilchk (.t 21)), gI 23 (.fadr 1 (.t 22)), gI 24 (.load false 1 (.t 23)), gI 25 (.fadr 0 (.t 7)), gI 26 (.load false 1 (.t 25)), gI 27 (.mlk 0 (.slice none 0 0) false 2 (.t 24) (.t 26)), gI 28 (.len (.t 27)), gI 29 (.mv (oI 0))] none) [] (C9 [0, 1, 2, 5, 7, 15, 16, 17, 27, 28, 29] evM (a4r l a i (wnK s (l.getD i.toNat default).k l) 0) (evH l (acM s l) r L la out)) (lAS (b3s l a i (.ep (D0 (l.getD i.toNat default)))) (evH l (acM s l) r L la out)) := by
 unfold lAS evH a4r b3s waC
 simp only [j9]
 exact qt
theorem c3h (i : Int) (hi : 0 <= i ∧ i <= 1000000) (W : List (Int × Int)) (j : Int) (L : List Rvp) :
  ex Tryz.prog (.reg false [gI 51 (.bin .add (.t 17) (oI 1)), gM 17 51] none) [] (C9 [0, 1, 2, 5, 15, 16, 17] evM (a9a l a (i + 1)) (evH l ac r L la out)) (lAS (a4r l a i W j) (evH l ac r L la out)) := by
 unfold lAS evH a9a a4r waC
 exact qt
theorem a8c (hA : a0w Alm.k l) {i : Nat} (hi : i < l.length) : wnK s (l.getD i default).k l = m8 s (l.getD i default) := by
 have h1 := a4Q hA hi
 have h2 := b3w s (l.getD i default).k l 0 (by omega)
 have h3 : D3 (fun x : Alm => decide (x.k = (l.getD i default).k)) 0 l = i := h1
 grind
abbrev pL0 : List Nat := [1, 1, 0, 1, 0, 0]
abbrev pB1 : List Nat := [1, 1, 0, 1, 0, 0, 1, 1, 0, 0]
theorem d0W (hA : a0w Alm.k l) (hl : l.length <= 1000000) (hT : (H7 l s a).length + 1 <= 1000000) (hW : ∀ k, (wnK s k l).length <= 1000000)
  {L : List Rvp} {ok : Nat -> Prop} {b : Act} {w : World} {E : Env} (hI : EvI ok0 w0 E0 gb gw ul l a [] L ok w E)
  (h : Plc Tryz.prog 88 ok (a9a l a 0) (evH l (acM s l) r L la out) b w E) {R : Exit -> Act -> World -> Prop}
  (hR : ∀ L' ok' b' w' E', EvI ok0 w0 E0 gb gw ul l a (Z6 s 0 l) L' ok' w' E' -> Plc Tryz.prog 88 ok' (a9a l a l.length) (evH l (acM s l) r L' la out) b' w' E' -> R .normal b' w') :
  (o7 [1, 1, 0, 1] evK).wp Tryz.prog R b w := by
 have hX : XK <= 1000005 := by simp [XK]
 refine b0T _ 0 (by kernel_rfl) ?_
 refine b0f [1, 1, 0, 1, 0] (by kernel_rfl) (fun n b w => ∃ (i : Int) (L' : List Rvp) (ok : Nat -> Prop) (E : Env), 0 <= i ∧ i <= l.length ∧ n = (l.length - i).toNat ∧
  EvI ok0 w0 E0 gb gw ul l a (Z6 s 0 (l.take i.toNat)) L' ok w E ∧ Plc Tryz.prog 88 ok (a9a l a i) (evH l (acM s l) r L' la out) b w E) l.length ⟨0, L, ok, E, by omega, by omega, by omega, by simpa [Z6] using hI, h⟩ ?_
 rintro n b w ⟨i, L', ok, E, i0, i1, rfl, hI, h⟩
 refine h.seqP pL0 (by kernel_rfl) ke3 o5 _ _ (c7N i L') fun b1 w1 ok1 E1 h1 A1 => ?_
 have I1 := hI.adv A1 h.no (gbs h1 A1 hI.g)
 refine a0G (pL0 ++ [1]) (by kernel_rfl) ?_
 refine a2s (pL0 ++ [1, 0]) (.tmp 18) (by kernel_rfl) (h1.bool rfl) (fun hb => ?_) (fun hb => ?_)
 rotate_left
 ·refine a4V (pL0 ++ [1, 0, 1]) 0 (by kernel_rfl) ?_
  have hj : i = l.length := by have := of_decide_eq_false hb; omega
  subst hj
  simp only [Exit.then, Exit.inBlock, if_true]
  refine hR L' ok1 b1 w1 E1 ?_ (h1.tail rfl rfl)
  have : l.take (l.length : Int).toNat = l := List.take_of_length_le (by omega)
  rw [this] at I1
  exact I1
 have hb := of_decide_eq_true hb
 refine a2r (pL0 ++ [1, 0, 0]) (by kernel_rfl) ?_
 simp only [Exit.then]
 refine a0G (pL0 ++ [1, 1]) (by kernel_rfl) ?_
 refine b0T (pL0 ++ [1, 1, 0]) 1 (by kernel_rfl) ?_
 refine h1.seqP pB1 (by kernel_rfl) ke4 o5 _ _ (d1O i ⟨i0, hb⟩ L') fun b2 w2 ok2 E2 h2 A2 => ?_
 have I2 := I1.adv A2 h1.no (gbs h2 A2 I1.g)
 obtain ⟨g7, ok3, hg7, h3, A3⟩ := h2.freeze 7 (cs := D0 (l.getD i.toNat default)) rfl (d3b _)
 have h4 : Plc Tryz.prog 88 ok3 (b3s l a i (.ep (D0 (l.getD i.toNat default)))) (evH l (acM s l) r L' la out) b2 w2 (E2.del 7) := h3
 have I3 := I2.adv A3 h2.no (gbs h4 A3 I2.g)
 clear h3 h2
 refine h4.seqP (pB1 ++ [1]) (by kernel_rfl) ke5 o5 _ _ (d0S i L' (hW _)) fun b3 w3 ok4 E3 h5 A4 => ?_
 have I4 := I3.adv A4 h4.no (gbs h5 A4 I3.g)
 rw [a8c hA (show i.toNat < l.length by omega)] at h5
 have hWl := hW (l.getD i.toNat default).k
 rw [a8c hA (show i.toNat < l.length by omega)] at hWl
 refine d3W hWl (fun j => ?_) I4 h5 fun L'' ok' b' w' E' hI' h' => ?_
 ·have := c8p s l a i.toNat (by omega) j
  grind
 simp only [Exit.inBlock, Exit.then]
 refine h'.code1 d5Z o5 _ _ (c3h i ⟨i0, by omega⟩ _ _ L'') fun b4 w4 ok5 E4 h6 A5 => ?_
 refine ⟨(l.length - (i + 1)).toNat, by omega, i + 1, L'', ok5, E4, by omega, by omega, rfl, ?_, h6⟩
 rw [show (i + 1).toNat = i.toNat + 1 by omega, a4x s l i.toNat (by omega)]
 exact hI'.adv A5 h'.no (gbs h6 A5 hI'.g)
end
section
variable {ok0 : Nat -> Prop} {w0 : World} {E0 : Env} {gb gw : Nat} {ul : Value} {l : List Alm} {s : List Ser} {a : List Opr} {ac : List (List Cel)} {r : Rst} {la : List (ByteArray × Int)} {out : List Std}
abbrev a6i (a : List Opr) (k : Int) : List (Nat × Val) := [(2, .one (.bx 1000005 0)), (5, .one (.ow 1000000 0)), (52, F7 false a), (53, iv a.length), (54, iv k)]
abbrev a2p (a : List Opr) (k : Int) (c d : Cel) : List (Nat × Val) := [(2, .one (.bx 1000005 0)), (5, .one (.ow 1000000 0)), (10, .one c), (11, .one d), (52, F7 false a), (53, iv a.length), (54, iv k)]
abbrev M5 (a : List Opr) (k : Int) : List (Nat × Val) := a2p a k (.ep [.g (.int .i64 k)]) (.ep (O4 (a.getD k.toNat default)))
theorem c3T (i : Int) (L : List Rvp) :
  ex Tryz.prog (.reg false [gM 52 1, gI 53 (.len (.t 52)), gI 54 (.mv (oI 0))] none) [] (C9 [2, 5, 52, 53, 54] evM (a6i a 0) (evH l ac r L la out)) (lAS (a9a l a i) (evH l ac r L la out)) := by
 unfold lAS evH a9a a6i waC
 exact qt
theorem c3B (k : Int) (L : List Rvp) :
  ex Tryz.prog (.reg false [gI 55 (.bin .lss (.t 54) (.t 53))] none) [] (C9 [55, 2, 5, 52, 53, 54] evM ((55, bv (decide (k < a.length))) :: a6i a k) (evH l ac r L la out)) (lAS (a6i a k) (evH l ac r L la out)) := by
 unfold lAS evH a6i waC
 exact qt
theorem c4h (k : Int) (hk : 0 <= k ∧ k < a.length) (L : List Rvp) :
  ex Tryz.prog (.reg false [gM 56 54, gI 57 (.iadr 6 (.t 52) (.t 54)), gI 58 (.load true 6 (.t 57)), gI 10 (.alloc [(.int .i64 (0))]), gI 11 (.alloc [(.string (ByteArray.mk #[])), (.int .i64 (0)), (.int .i64 (0)), (.int .i64 (0)), (.string (ByteArray.mk #[])), (.int .i64 (0))]), gN (.store 1 (.t 10) (.t 56)), gN (.store 6 (.t 11) (.t 58))] none) [] (C9 [2, 5, 10, 11, 52, 53, 54] ⟨[1000001, 1000005, 10, 11], [1000002, 1000003, 1000004, 1000000, 1000007], [], [], []⟩ (a2p a k (.bx 10 0) (.bx 11 0))
   ⟨[(1000001, waC l ac), (1000005, [.bx 1000001 0]), (10, [.g (.int .i64 k)]), (11, O4 (a.getD k.toNat default))], (evH l ac r L la out).rs⟩) (lAS ((55, bv (decide (k < a.length))) :: a6i a k) (evH l ac r L la out)) := by
 unfold lAS evH a6i a2p waC
 exact qt
abbrev d2E (a : List Opr) (k : Int) (x : Opr) : List (Nat × Val) := (59, .one (.ow 1000000 0)) :: (61, iv x.at_) :: (63, sv x.b) :: (65, iv x.no) :: M5 a k
theorem b8G (k : Int) (L : List Rvp) :
  ex Tryz.prog (.reg false [gM 59 5, gI 60 (.fadr 2 (.t 11)), gI 61 (.load false 1 (.t 60)), gI 62 (.fadr 0 (.t 11)), gI 63 (.load false 1 (.t 62)), gI 64 (.fadr 1 (.t 11)), gI 65 (.load false 1 (.t 64))] none) [] (C9 [59, 61, 63, 65, 2, 5, 10, 11, 52, 53, 54] evM (d2E a k (a.getD k.toNat default)) (evH l ac r L la out)) (lAS (M5 a k) (evH l ac r L la out)) := by
 generalize hx : a.getD k.toNat default = x
 unfold lAS evH d2E M5 a2p waC
 rw [hx]
 simp only [s9]
 exact qt
theorem b8n (k : Int) (L : List Rvp) (hL : L.length <= 1000000) (x : Opr) (fv : Value) (d : Rdo) :
  ex Tryz.prog (.reg false [gI 67 (.build [(.int .i64 (0)), (.int .i64 (0)), (.string (ByteArray.mk #[])), (.int .i64 (0)), .nilFunc] [(0, 1, (.t 61)), (1, 1, (oI 2)), (2, 1, (.t 63)), (3, 1, (.t 65)), (4, 1, (.t 66))]), gI 68 (.bslice 5 1 [(.t 67)]), gI 69 (.append 161 5 48 (.t 59) (.t 68)), gM 5 69] none) [] (C9 [2, 5, 10, 11, 52, 53, 54] evM (M5 a k) (evH l ac r (L ++ [⟨⟨x.at_, 2, x.b, x.no, d⟩, fv⟩]) la out)) (lAS ((66, .one (.g fv)) :: d2E a k x) (evH l ac r L la out)) := by
 unfold lAS evH d2E M5 a2p waC
 refine qv ?_
 rw [y7, List.map_append]; rfl
theorem c5v (k : Int) (L : List Rvp) :
  ex Tryz.prog (.reg false [gI 70 (.fadr 3 (.t 11)), gI 71 (.load false 1 (.t 70)), gI 72 (.bin .eql (.t 71) (oI 2)), gM 73 72, gG 74 73 true (.fadr 5 (.t 11)), gG 75 73 true (.load false 1 (.t 74)), gG 76 73 true (.bin .lss (.t 75) (oI 345686400000)), gI 77 (.pick (.t 73) (.t 76) (.v (.bool false)))] none) [] (C9 [77, 2, 5, 10, 11, 52, 53, 54] evM ((77, bv (decide ((a.getD k.toNat default).kd = 2 ∧ (a.getD k.toNat default).un < 345686400000))) :: M5 a k) (evH l ac r L la out)) (lAS (M5 a k) (evH l ac r L la out)) := by
 generalize hx : a.getD k.toNat default = x
 unfold lAS evH M5 a2p waC
 rw [hx]
 simp only [s9]
 by_cases c : x.kd = 2
 ·rw [show decide (x.kd = 2 ∧ x.un < 345686400000) = decide (x.un < 345686400000) by simp [c]]
  exact qt
 ·rw [decide_eq_false (fun h => c h.1)]
  exact qt
abbrev c9Q (a : List Opr) (k : Int) (x : Opr) (c : Cel) : List (Nat × Val) := (78, .one (.ow 1000000 0)) :: (81, .ag [.g (.int .i64 x.un), .g (.int .i64 1), .g (.string emp), .g (.int .i64 0), c]) :: M5 a k
theorem b5Q (k : Int) (L : List Rvp) (v : Val) :
  ex Tryz.prog (.reg false [gM 78 5, gI 79 (.fadr 5 (.t 11)), gI 80 (.load false 1 (.t 79)), gI 81 (.build [(.int .i64 (0)), (.int .i64 (0)), (.string (ByteArray.mk #[])), (.int .i64 (0)), .nilFunc] [(0, 1, (.t 80)), (1, 1, (oI 1)), (4, 1, (.f 146))])] none) [] (C9 [78, 81, 2, 5, 10, 11, 52, 53, 54] evM (c9Q a k (a.getD k.toNat default) (.fn 146 [])) (evH l ac r L la out)) (lAS ((77, v) :: M5 a k) (evH l ac r L la out)) := by
 generalize hx : a.getD k.toNat default = x
 unfold lAS evH c9Q M5 a2p waC
 rw [hx]
 simp only [s9]
 exact qt
theorem b9l (k : Int) (L : List Rvp) (hL : L.length <= 1000000) (x : Opr) (fv : Value) (d : Rdo) :
  ex Tryz.prog (.reg false [gI 82 (.bslice 5 1 [(.t 81)]), gI 83 (.append 161 5 48 (.t 78) (.t 82)), gM 5 83] none) [] (C9 [2, 5, 10, 11, 52, 53, 54] evM (M5 a k) (evH l ac r (L ++ [⟨⟨x.un, 1, emp, 0, d⟩, fv⟩]) la out)) (lAS (c9Q a k x (.g fv)) (evH l ac r L la out)) := by
 unfold lAS evH c9Q M5 a2p waC
 refine qv ?_
 rw [y7, List.map_append]; rfl
theorem c4M (k : Int) (hk : 0 <= k ∧ k <= 1000000) (L : List Rvp) :
  ex Tryz.prog (.reg false [gI 84 (.bin .add (.t 54) (oI 1)), gM 54 84] none) [] (C9 [2, 5, 52, 53, 54] evM (a6i a (k + 1)) (evH l ac r L la out)) (lAS (M5 a k) (evH l ac r L la out)) := by
 unfold lAS evH M5 a2p a6i waC
 exact qt
theorem d5l (x : Opr) : ∀ c ∈ O4 x, c.isD = true := by simp [s9, Cel.isD]
abbrev pB5 : List Nat := [1, 1, 1, 0, 1, 0, 0, 1, 1, 0, 0]
theorem c9t {k : Int} {M : List Rev} {L : List Rvp} {ok : Nat -> Prop} {b : Act} {w : World} {E : Env} (hI : EvI ok0 w0 E0 gb gw ul l a M L ok w E) (hM : M.length <= 1000000)
  (h : Plc Tryz.prog 88 ok (M5 a k) (evH l ac r L la out) b w E) {Q : Exit -> Act -> World -> Prop}
  (hN : ∀ L' ok' b' w' E', EvI ok0 w0 E0 gb gw ul l a (M ++ if (a.getD k.toNat default).kd = 2 ∧ (a.getD k.toNat default).un < 345686400000 then [⟨(a.getD k.toNat default).un, 1, emp, 0, .nop⟩] else []) L' ok' w' E' -> Plc Tryz.prog 88 ok' (M5 a k) (evH l ac r L' la out) b' w' E' -> Q .normal b' w') : (o7 [1, 1, 1, 0, 1, 0, 0, 1, 1, 0, 0, 1, 1] evK).wp Tryz.prog Q b w := by
 have hX : XK <= 1000005 := by simp [XK]
 have hl := hI.len
 refine h.seqP _ (by kernel_rfl) d6l o5 _ _ (c5v k L) fun b1 w1 ok1 E1 h1 A1 => ?_
 have I1 := hI.adv A1 h.no (gbs h1 A1 hI.g)
 refine a2s [1, 1, 1, 0, 1, 0, 0, 1, 1, 0, 0, 1, 1, 1] (.tmp 77) (by kernel_rfl) (h1.bool rfl) (fun hb => ?_) (fun hb => ?_)
 ·have hb := of_decide_eq_true hb
  refine d2F p18 (l := opE p18) (by kernel_rfl) ?_
  have e : opE p18 = (opE p18).take 4 ++ ((opE p18).drop 4 ++ []) := by rw [List.append_nil, List.take_append_drop]
  have e2 : wpList Tryz.prog (opE p18).toArray Q (opE p18) b1 w1 = wpList Tryz.prog (opE p18).toArray Q ((opE p18).take 4 ++ ((opE p18).drop 4 ++ [])) b1 w1 := by rw [<- e]
  rw [e2]
  refine h1.ops1 d6P o5 _ _ (b5Q k L _) fun b2 w2 ok2 E2 h2 A2 => ?_
  have I2 := I1.adv A2 h1.no (gbs h2 A2 I1.g)
  have h3 : Plc Tryz.prog 88 ok2 (c9Q a k (a.getD k.toNat default) (.g (.func (.func 146) #[] #[]))) (evH l ac r L la out) b2 w2 E2 := by
   refine h2.set _ fun p hp => ?_
   simp only [List.mem_cons, List.not_mem_nil, or_false] at hp
   rcases hp with rfl | rfl | rfl | rfl | rfl | rfl | rfl | rfl | rfl
   ·exact h2.tm 78
   ·exact VRel.unf (h2.tm 81)
   ·exact h2.tm 2
   ·exact h2.tm 5
   ·exact h2.tm 10
   ·exact h2.tm 11
   ·exact h2.tm 52
   ·exact h2.tm 53
   ·exact h2.tm 54
  refine h3.ops1 d5Y o5 _ _ (b9l k L (by omega) _ _ .nop) fun b4 w4 ok4 E4 h4 A4 => ?_
  have I3 := I2.snoc (x := ⟨⟨(a.getD k.toNat default).un, 1, emp, 0, .nop⟩, .func (.func 146) #[] #[]⟩) rfl
  refine hN _ ok4 b4 w4 E4 ?_ h4
  rw [if_pos hb]
  exact I3.adv A4 h3.no (gbs h4 A4 I3.g)
 ·have hb := of_decide_eq_false hb
  refine a2r [1, 1, 1, 0, 1, 0, 0, 1, 1, 0, 0, 1, 1, 1, 1] (by kernel_rfl) ?_
  refine hN _ ok1 b1 w1 E1 ?_ (h1.tail rfl rfl)
  grind
theorem d3C {k : Int} (hk : 0 <= k ∧ k < a.length) {M : List Rev} {L : List Rvp} {ok : Nat -> Prop} {b : Act} {w : World} {E : Env} (hI : EvI ok0 w0 E0 gb gw ul l a M L ok w E) (hM : M.length + 1 <= 1000000)
  (h : Plc Tryz.prog 88 ok ((55, bv (decide (k < a.length))) :: a6i a k) (evH l ac r L la out) b w E) {Q : Exit -> Act -> World -> Prop}
  (hN : ∀ L' ok' b' w' E', EvI ok0 w0 E0 gb gw ul l a (M ++ rvB k.toNat (a.getD k.toNat default)) L' ok' w' E' -> Plc Tryz.prog 88 ok' (M5 a k) (evH l ac r L' la out) b' w' E' -> Q .normal b' w') : (o7 pB5 evK).wp Tryz.prog Q b w := by
 have hX : XK <= 1000005 := by simp [XK]
 refine h.seqP pB5 (by kernel_rfl) d6b o5 _ _ (c4h k hk L) fun b1 w1 ok1 E1 h1 A1 => ?_
 have I1 := hI.adv A1 h.no (gbs h1 A1 hI.g)
 obtain ⟨g10, ok2, hg10, h2, A2⟩ := h1.freeze 10 (cs := [.g (.int .i64 k)]) rfl (by simp [Cel.isD])
 have h3 : Plc Tryz.prog 88 ok2 (a2p a k (.ep [.g (.int .i64 k)]) (.bx 11 0)) ⟨[(1000001, waC l ac), (1000005, [.bx 1000001 0]), (11, O4 (a.getD k.toNat default))], (evH l ac r L la out).rs⟩ b1 w1 (E1.del 10) := h2
 have I2 := I1.adv A2 h1.no (gbs h3 A2 I1.g)
 obtain ⟨g11, ok3, hg11, h4, A3⟩ := h3.freeze 11 (cs := O4 (a.getD k.toNat default)) rfl (d5l _)
 have h5 : Plc Tryz.prog 88 ok3 (M5 a k) (evH l ac r L la out) b1 w1 ((E1.del 10).del 11) := h4
 have I3 := I2.adv A3 h3.no (gbs h5 A3 I2.g)
 clear h4 h3 h2 h1
 have hl := I3.len
 refine a0G (pB5 ++ [1]) (by kernel_rfl) ?_
 refine h5.regMk p16 (l := opE p16) (A := (opE p16).take 7) (o := (opE p16).getD 7 default) (B := (opE p16).drop 8) (by kernel_rfl) (by kernel_rfl) d6q d5V d6e (by kernel_rfl) (by kernel_rfl) (by omega) o5 _ _ (b8G k L) o5 _ _ (tl2 := fun _ => M5 a k) (H2 := fun fv => evH l ac r (L ++ [⟨⟨(a.getD k.toNat default).at_, 2, (a.getD k.toNat default).b, (a.getD k.toNat default).no, .act k.toNat⟩, fv⟩]) la out)
  (fun fv => b8n k L (by omega) (a.getD k.toNat default) fv (.act k.toNat)) fun b3 w3 ok4 E3 h6 A4 fv hfv b4 w4 ok5 E4 h7 A5 => ?_
 have I4 := I3.adv A4 h5.no (gbs h6 A4 I3.g)
 have I5 := I4.snoc (x := ⟨⟨(a.getD k.toNat default).at_, 2, (a.getD k.toNat default).b, (a.getD k.toNat default).no, .act k.toNat⟩, fv⟩) ⟨b3.eval (.tmp 11), b3.eval (.tmp 10), by
  have e2 := h6.ptr (t := 2) rfl I4.g.1
  rw [hfv]; simp [e2], h6.epv (t := 11) rfl, by
  have := h6.epv (t := 10) rfl
  rw [show ((k.toNat : Nat) : Int) = k by omega]
  exact this⟩
 have I6 := I5.adv A5 h6.no (gbs h7 A5 I5.g)
 simp only [Exit.then]
 refine c9t I6 (by simpa using hM) h7 fun L' ok' b' w' E' hI' h' => hN L' ok' b' w' E' ?_ h'
 rw [rvB]
 grind
abbrev pL4 : List Nat := [1, 1, 1, 0, 1, 0, 0]
theorem d1B (ha : a.length <= 1000000) (hT : (H7 l s a).length + 1 <= 1000000)
  {L : List Rvp} {ok : Nat -> Prop} {b : Act} {w : World} {E : Env} (hI : EvI ok0 w0 E0 gb gw ul l a (Z6 s 0 l) L ok w E)
  (h : Plc Tryz.prog 88 ok (a6i a 0) (evH l ac r L la out) b w E) {R : Exit -> Act -> World -> Prop}
  (hR : ∀ L' ok' b' w' E', EvI ok0 w0 E0 gb gw ul l a (H7 l s a) L' ok' w' E' -> Plc Tryz.prog 88 ok' (a6i a a.length) (evH l ac r L' la out) b' w' E' -> R .normal b' w') :
  (o7 [1, 1, 1, 0, 1] evK).wp Tryz.prog R b w := by
 have hX : XK <= 1000005 := by simp [XK]
 refine b0T _ 4 (by kernel_rfl) ?_
 refine b0f [1, 1, 1, 0, 1, 0] (by kernel_rfl) (fun n b w => ∃ (k : Int) (L' : List Rvp) (ok : Nat -> Prop) (E : Env), 0 <= k ∧ k <= a.length ∧ n = (a.length - k).toNat ∧
  EvI ok0 w0 E0 gb gw ul l a (Z6 s 0 l ++ a0L 0 (a.take k.toNat)) L' ok w E ∧ Plc Tryz.prog 88 ok (a6i a k) (evH l ac r L' la out) b w E) a.length ⟨0, L, ok, E, by omega, by omega, by omega, by simpa [a0L] using hI, h⟩ ?_
 rintro n b w ⟨k, L', ok, E, k0, k1, rfl, hI, h⟩
 refine h.seqP pL4 (by kernel_rfl) d7m o5 _ _ (c3B k L') fun b1 w1 ok1 E1 h1 A1 => ?_
 have I1 := hI.adv A1 h.no (gbs h1 A1 hI.g)
 refine a0G (pL4 ++ [1]) (by kernel_rfl) ?_
 refine a2s (pL4 ++ [1, 0]) (.tmp 55) (by kernel_rfl) (h1.bool rfl) (fun hb => ?_) (fun hb => ?_)
 rotate_left
 ·refine a4V (pL4 ++ [1, 0, 1]) 4 (by kernel_rfl) ?_
  have hj : k = a.length := by have := of_decide_eq_false hb; omega
  subst hj
  simp only [Exit.then, Exit.inBlock, if_true]
  refine hR L' ok1 b1 w1 E1 ?_ (h1.tail rfl rfl)
  have : a.take (a.length : Int).toNat = a := List.take_of_length_le (by omega)
  rw [this] at I1
  exact I1
 have hb := of_decide_eq_true hb
 refine a2r (pL4 ++ [1, 0, 0]) (by kernel_rfl) ?_
 simp only [Exit.then]
 refine a0G (pL4 ++ [1, 1]) (by kernel_rfl) ?_
 refine b0T (pL4 ++ [1, 1, 0]) 5 (by kernel_rfl) ?_
 refine d3C ⟨k0, hb⟩ I1 ?_ h1 fun L'' ok' b' w' E' hI' h' => ?_
 ·have := c9b s l a k.toNat
  grind
 simp only [Exit.inBlock, Exit.then]
 refine h'.code1 d7j o5 _ _ (c4M k ⟨k0, by omega⟩ L'') fun b4 w4 ok5 E4 h6 A5 => ?_
 refine ⟨(a.length - (k + 1)).toNat, by omega, k + 1, L'', ok5, E4, by omega, by omega, rfl, ?_, h6⟩
 rw [show (k + 1).toNat = k.toNat + 1 by omega, b1p a k.toNat (by omega), <- List.append_assoc]
 exact hI'.adv A5 h'.no (gbs h6 A5 hI'.g)
end
section
variable {l : List Alm} {s : List Ser} {a : List Opr} {ac : List (List Cel)} {r : Rst} {la : List (ByteArray × Int)} {out : List Std}
abbrev b0U (l : List Alm) (ac : List (List Cel)) (r : Rst) (la : List (ByteArray × Int)) (out : List Std) : Hp := ⟨[(1000001, waC l ac)], [(1000002, mpR r.st), (1000003, mpR r.sh), (1000004, n8 r.ig), (1000007, mpR la)]⟩
abbrev b6V (l : List Alm) (ac : List (List Cel)) (r : Rst) (la : List (ByteArray × Int)) (out : List Std) : Hp := ⟨[(1000001, waC l ac), (1000005, [.bx 1000001 0])], [(1000002, mpR r.st), (1000003, mpR r.sh), (1000004, n8 r.ig), (1000007, mpR la)]⟩
theorem d2b :
  ex Tryz.prog (.reg false [gI 2 (.box (.t 0)), gI 4 (.mv (.v (.slice none 0 0)))] none) [] (C9 [0, 1, 2] ⟨[1000001, 2], [1000002, 1000003, 1000004, 1000007], [], [], []⟩ [(0, .one (.bx 1000001 0)), (1, F7 false a), (2, .one (.bx 2 0))]
   ⟨[(1000001, waC l ac), (2, [.bx 1000001 0])], (b0U l ac r la out).rs⟩) (lAS (O6 0 [.one (.bx 1000001 0), F7 false a]) (b0U l ac r la out)) := by
 unfold lAS b0U waC
 exact qt
theorem c8W :
  ex Tryz.prog (.seq (.reg false [gI 5 (.mv (.v (.slice none 0 0)))] none) (.own 5 161 5)) [] (C9 [0, 1, 2, 5] ⟨[1000001, 2], [1000002, 1000003, 1000004, 5, 1000007], [], [], []⟩ [(0, .one (.bx 1000001 0)), (1, F7 false a), (2, .one (.bx 2 0)), (5, .one (.ow 5 0))]
   ⟨[(1000001, waC l ac), (2, [.bx 1000001 0])], [(1000002, mpR r.st), (1000003, mpR r.sh), (1000004, n8 r.ig), (5, y7 []), (1000007, mpR la)]⟩)
   (lAS [(0, .one (.bx 1000001 0)), (1, F7 false a), (2, .one (.bx 2 0))] ⟨[(1000001, waC l ac), (2, [.bx 1000001 0])], (b0U l ac r la out).rs⟩) := by
 unfold lAS b0U waC
 refine qv ?_
 rfl
theorem d1G :
  ex Tryz.prog (.reg false [gI 12 (.load false 1 (.t 2)), gI 13 (.nilchk (.t 12)), gI 14 (.fadr 0 (.t 13)), gI 15 (.load false 1 (.t 14)), gI 16 (.len (.t 15)), gI 17 (.mv (oI 0))] none) [] (C9 [0, 1, 2, 5, 15, 16, 17] evM (a9a l a 0) (evH l ac r [] la out)) (lAS [(0, .one (.bx 1000001 0)), (1, F7 false a), (2, .one (.bx 1000005 0)), (5, .one (.ow 1000000 0))] (evH l ac r [] la out)) := by
 unfold lAS evH a9a waC
 refine qv ?_
 rfl
theorem c6p (k : Int) (L : List Rvp) (hL : L.length <= 1000000) :
  ex Tryz.prog (.reg false [gM 85 5, gI 86 (.callm (.f 147) [(.t 85), (.f 148)] ⟨[], [1000000], [], [1000000], [1000000]⟩)] none) [] (C9 [5] evM [(5, .one (.ow 1000000 0))] (evH l ac r (n5 (fun x y : Rvp => a5Y x.r y.r) L) la out)) (lAS (a6i a k) (evH l ac r L la out)) := by
 have hso := b8M 148 d0m (fun x y _ _ => d2g x y) L (fun _ _ => trivial) hL
 generalize n5 (fun x y : Rvp => a5Y x.r y.r) L = L2 at *
 unfold lAS evH a6i waC
 refine qv ?_
 refine ⟨rfl, e7 hso ⟨rfl, rfl⟩ ?_⟩
 exact qt
theorem c3o (L : List Rvp) :
  ex Tryz.prog (.reg false [gM 87 5, gM 4 87] none) [] (C9 [4] evM [(4, .one (.ow 1000000 0))] (evH l ac r L la out)) (lAS [(5, .one (.ow 1000000 0))] (evH l ac r L la out)) := by
 unfold lAS evH waC
 exact qt
theorem a6u (hA : a0w Alm.k l) (hl : l.length <= 1000000) (ha : a.length <= 1000000) (hT : (H7 l s a).length + 1 <= 1000000) (hW : ∀ k, (wnK s k l).length <= 1000000)
  {ok : Nat -> Prop} {w : World} {E : Env} {vs : List Value} (hWd : Wd Tryz.prog ok (b0U l (acM s l) r la out) w E) (hlen : [Val.one (.bx 1000001 0), F7 false a].length = vs.length)
  (hargs : ∀ (i : Nat) (x : Val) (u : Value), [Val.one (.bx 1000001 0), F7 false a][i]? = some x -> vs[i]? = some u -> VRel w ok w.heap.size E x u) :
  Calls Tryz.prog 100 vs.toArray w (fun e w' => ∃ v ok' E' gb gw ul L, e = .returned v ∧ E.gm 1000001 = some gw ∧ E.rm 1000007 = some (0, 0, ul) ∧ Wd Tryz.prog ok' (b6V l (acM s l) r la out) w' E' ∧ EvI ok w E gb gw ul l a (Y6 l s a) L ok' w' E' ∧ VRel w' ok' w'.heap.size E' (.one (.sl false 5 (L.map rvS))) v) := by
 have hX : XK <= 1000005 := by simp [XK]
 refine calls_of_wp (c := evK) Tryz.func100 (by kernel_rfl) ?_
 have en : Tryz.f100.ntmps = 88 := by kernel_rfl
 have er : Tryz.f100.results = #[.tmp 4] := by kernel_rfl
 rw [en]
 have h0 := Plc.start hWd hlen hargs (n := 88) (by simp) (by omega)
 rw [<- a7E evK]
 refine h0.seqP [] (by kernel_rfl) ke0 (by simp [XK]) _ _ d2b fun b1 w1 ok1 E1 h1 A1 => ?_
 refine h1.seqP [1] (by kernel_rfl) ke1 (by simp [XK]) _ _ c8W fun b2 w2 ok2 E2 h2 A2 => ?_
 obtain ⟨h3, A3⟩ := h2.rn (p := swp 2 1000005) (q := swp 5 1000000) (s8 _ _) (s8 _ _) rfl
 have h4 : Plc Tryz.prog 88 ok2 [(0, .one (.bx 1000001 0)), (1, F7 false a), (2, .one (.bx 1000005 0)), (5, .one (.ow 1000000 0))] (evH l (acM s l) r [] la out) b2 w2 (E2.rn (swp 2 1000005) (swp 5 1000000)) := h3
 obtain ⟨gb, _, _, hgb, _⟩ := h4.h.bx 1000005 [.bx 1000001 0] rfl
 obtain ⟨gw, _, _, hgw, _⟩ := hWd.h.bx 1000001 (waC l (acM s l)) rfl
 have hgw3 : (E2.rn (swp 2 1000005) (swp 5 1000000)).gm 1000001 = some gw := h2.same A2 (k := 1000001) rfl (by simp [XK]) (h1.same A1 rfl (by simp [XK]) hgw)
 obtain ⟨_, _, ul, _, hul, _⟩ := hWd.h.rw 1000007 (mpR la) rfl
 have hul3 : (E2.rn (swp 2 1000005) (swp 5 1000000)).rm 1000007 = some (0, 0, ul) := by
  obtain ⟨_, _, u, _, q1, _⟩ := h2.h.rw 1000007 (mpR la) rfl
  have q2 := A1.pinM 1000007 u (by simp [XK]) (A2.pinM 1000007 u (by simp [XK]) q1)
  rw [hul] at q2
  simp only [Option.some.injEq, Prod.mk.injEq, true_and] at q2
  subst q2
  exact q1
 generalize E2.rn (swp 2 1000005) (swp 5 1000000) = E3 at *
 have I4 : EvI ok w E gb gw ul l a [] [] ok2 w2 E3 := ⟨rfl, fun x hx => by simp at hx, ⟨hgb, hgw3, hul3⟩, (A1.toAdv0.trans A2.toAdv0).trans A3⟩
 clear h3 h2 h1 h0
 refine a0G [1, 1] (by kernel_rfl) ?_
 refine h4.seqP [1, 1, 0] (by kernel_rfl) ke2 o5 _ _ d1G fun b5 w5 ok5 E5 h5 A5 => ?_
 have I5 := I4.adv A5 h4.no (gbs h5 A5 I4.g)
 refine d0W hA hl hT hW I5 h5 fun L6 ok6 b6 w6 E6 I6 h6 => ?_
 simp only [Exit.then]
 refine a0G [1, 1, 1] (by kernel_rfl) ?_
 refine h6.seqP [1, 1, 1, 0] (by kernel_rfl) d7e o5 _ _ (c3T _ L6) fun b7 w7 ok7 E7 h7 A7 => ?_
 have I7 := I6.adv A7 h6.no (gbs h7 A7 I6.g)
 refine d1B ha hT I7 h7 fun L8 ok8 b8 w8 E8 I8 h8 => ?_
 simp only [Exit.then]
 have hl8 := I8.len
 refine h8.seqP [1, 1, 1, 1] (by kernel_rfl) d6V o5 _ _ (c6p _ L8 (by omega)) fun b9 w9 ok9 E9 h9 A9 => ?_
 have I9' := I8.adv A9 h8.no (gbs h9 A9 I8.g)
 have I9 : EvI ok w E gb gw ul l a (Y6 l s a) (n5 (fun x y : Rvp => a5Y x.r y.r) L8) ok9 w9 E9 := ⟨by rw [a5i (d := a5Y) (f := fun x : Rvp => x.r) (fun _ _ => rfl), I9'.m]; rfl, fun x hx => I9'.c x (ssort_mem.1 hx), I9'.g, I9'.a⟩
 generalize n5 (fun x y : Rvp => a5Y x.r y.r) L8 = L9 at *
 refine h9.seqP [1, 1, 1, 1, 1] (by kernel_rfl) d6W o5 _ _ (c3o L9) fun b10 w10 ok10 E10 h10 A10 => ?_
 have I10 := I9.adv A10 h9.no (gbs h10 A10 I9.g)
 obtain ⟨ok11, h11, A11⟩ := h10.frzRow 1000000 (r := y7 L9) rfl
 have h12 : Plc Tryz.prog 88 ok11 [(4, .one (.sl false 5 (L9.map rvS)))] (b6V l (acM s l) r la out) b10 w10 (E10.delR 1000000) := h11
 have I12 := I10.adv A11 h10.no (gbs h12 A11 I10.g)
 refine d5C [1, 1, 1, 1, 1, 1] (by kernel_rfl) ?_
 exact ⟨h12.defers, _, results_tmp er _ _ _, _, ok11, _, gb, gw, ul, L9, rfl, hgw, hul, h12.toWd, I12, h12.tm 4⟩
end
end Go.Proofs.YtnlafmigfjlnnaaGreatDoor
