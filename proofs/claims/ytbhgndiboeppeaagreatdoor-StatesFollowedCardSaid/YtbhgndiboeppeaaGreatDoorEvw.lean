/- The reference's events, walked piece by piece: a list of events with their functions. -/
import Derived.Test.YtbhgndiboeppeaaGreatDoorHyb
import Derived.Test.YtbhgndiboeppeaaGreatDoorRvb
import Derived.Test.YtbhgndiboeppeaaGreatDoorWtd
import Derived.Test.YtbhgndiboeppeaaGreatDoorAc2
set_option linter.all false
set_option maxHeartbeats 4000000
set_option maxRecDepth 100000
namespace Go.Proofs.YtbhgndiboeppeaaGreatDoor
open Go Go.Ai
theorem c8k (x y : Rvp) : FC Tryz.prog 154 none [.ag (rvS x), .ag (rvS y)] (fun _ r => r = iv (a5C x.r y.r)) := by
 refine fcE Tryz.func154 [aN [2,3] [2,3] [],aN [4] [] []] ?_
 have ho := a1v [sd y.r.a x.r.a, sd y.r.o x.r.o, X3 x.r.b y.r.b, sd y.r.no x.r.no] (by simp)
 have e : C2 [sd y.r.a x.r.a, sd y.r.o x.r.o, X3 x.r.b y.r.b, sd y.r.no x.r.no] = a5C x.r y.r := rfl
 rw [e] at ho
 generalize a5C x.r y.r = e at *
 simp only [x9]
 refine qc (r9 _ _) ?_
 refine qc (r9 _ _) ?_
 refine qc (a0n _ _) ?_
 refine qc (r9 _ _) ?_
 refine qc ho ?_
 exact qt
theorem d0n : Swo (fun _ : Rvp => True) (fun x y => a5C x.r y.r) := ⟨fun x _ => revSwo.irr x.r trivial, fun x y z _ _ _ => revSwo.tr x.r y.r z.r trivial trivial trivial, fun x y z _ _ _ => revSwo.ntr x.r y.r z.r trivial trivial trivial⟩
/-! ### the functions of events -/
def ClE (w : World) (ok : Nat → Prop) (gb : Nat) (l : List Alm) (a : List Opr) (x : Rvp) : Prop :=
 match x.r.d with
 | .on i => ∃ v, x.f = .func (.func 147) #[] #[.pointer (some ⟨gb, 0, none⟩), v] ∧ CRel0 w ok 0 Env.none (.ep (z7 (l.getD i default))) v
 | .off i => ∃ v, x.f = .func (.func 148) #[] #[.pointer (some ⟨gb, 0, none⟩), v] ∧ CRel0 w ok 0 Env.none (.ep (z7 (l.getD i default))) v
 | .act k => ∃ v u, x.f = .func (.func 150) #[] #[.pointer (some ⟨gb, 0, none⟩), v, u] ∧ CRel0 w ok 0 Env.none (.ep (N7 (a.getD k default))) v ∧ CRel0 w ok 0 Env.none (.ep [.g (.int .i64 k)]) u
 | .nop => x.f = .func (.func 152) #[] #[]
theorem ClE.adv {w w' : World} {ok ok' : Nat → Prop} {E E' : Env} {gb : Nat} {l : List Alm} {a : List Opr} {x : Rvp} (h : ClE w ok gb l a x) (hA : Adv0 w ok E w' ok' E') (hno : ∀ b, E.own b → ¬ ok b) : ClE w' ok' gb l a x := by
 unfold ClE at h ⊢
 cases hd : x.r.d with
 | on i => simp only [hd] at h ⊢; obtain ⟨v, h1, h2⟩ := h; exact ⟨v, h1, hA.ep hno h2⟩
 | off i => simp only [hd] at h ⊢; obtain ⟨v, h1, h2⟩ := h; exact ⟨v, h1, hA.ep hno h2⟩
 | act k => simp only [hd] at h ⊢; obtain ⟨v, u, h1, h2, h3⟩ := h; exact ⟨v, u, h1, hA.ep hno h2, hA.ep hno h3⟩
 | nop => simp only [hd] at h ⊢; exact h
/-! ### the code -/
noncomputable def evK : Code := (Tryz.f99.body).getD .skip
abbrev aZ : Ann := ⟨none, [], [], [], []⟩
theorem ke0 : b0 Tryz.prog 88 (q6 [0] evK) [aZ] = some (.reg false [gI 2 (.box (.t 0)), gI 4 (.mv (.v (.slice none 0 0)))] none, []) := by kernel_rfl
theorem ke1 : b0 Tryz.prog 88 (q6 [1, 0] evK) [⟨none, [(5, 146, 5)], [], [], []⟩] = some (.seq (.reg false [gI 5 (.mv (.v (.slice none 0 0)))] none) (.own 5 146 5), []) := by kernel_rfl
theorem ke2 : b0 Tryz.prog 88 (q6 [1, 1, 0, 0] evK) [aZ] = some (.reg false [gI 12 (.load false 1 (.t 2)), gI 13 (.nilchk (.t 12)), gI 14 (.fadr 0 (.t 13)), gI 15 (.load false 1 (.t 14)), gI 16 (.len (.t 15)), gI 17 (.mv (oI 0))] none, []) := by kernel_rfl
theorem ke3 : b0 Tryz.prog 88 (q6 [1, 1, 0, 1, 0, 0, 0] evK) [aZ] = some (.reg false [gI 18 (.bin .lss (.t 17) (.t 16))] none, []) := by kernel_rfl
theorem ke4 : b0 Tryz.prog 88 (q6 [1, 1, 0, 1, 0, 0, 1, 1, 0, 0, 0] evK) [aZ] = some (.reg false [gI 19 (.iadr 10 (.t 15) (.t 17)), gI 20 (.load true 10 (.t 19)), gI 7 (.alloc [(.string (ByteArray.mk #[])), (.string (ByteArray.mk #[])), (.int .i64 (0)), (.int .i64 (0)), (.int .i64 (0)), (.int .i64 (0)), (.int .i64 (0)), (.int .i64 (0)), (.bool false), (.string (ByteArray.mk #[]))]), gN (.store 10 (.t 7) (.t 20))] none, []) := by kernel_rfl
theorem ke5 : b0 Tryz.prog 88 (q6 [1, 1, 0, 1, 0, 0, 1, 1, 0, 0, 1, 0] evK) [aZ] = some (.reg true [gI 21 (.load false 1 (.t 2)), gI 22 (.nilchk (.t 21)), gI 23 (.fadr 1 (.t 22)), gI 24 (.load false 1 (.t 23)), gI 25 (.fadr 0 (.t 7)), gI 26 (.load false 1 (.t 25)), gI 27 (.mlk 0 (.slice none 0 0) false 2 (.t 24) (.t 26)), gI 28 (.len (.t 27)), gI 29 (.mv (oI 0))] none, []) := by kernel_rfl
theorem ke6 : b0 Tryz.prog 88 (q6 [1, 1, 0, 1, 0, 0, 1, 1, 0, 0, 1, 1, 0, 0, 0] evK) [aZ] = some (.reg false [gI 30 (.bin .lss (.t 29) (.t 28))] none, []) := by kernel_rfl
theorem ke7 : b0 Tryz.prog 88 (q6 [1, 1, 0, 1, 0, 0, 1, 1, 0, 0, 1, 1, 0, 0, 1, 1, 0, 0, 0] evK) [aZ] = some (.reg false [gI 31 (.iadr 2 (.t 27) (.t 29)), gI 32 (.load true 2 (.t 31)), gI 9 (.alloc [(.int .i64 (0)), (.int .i64 (0))]), gN (.store 2 (.t 9) (.t 32))] none, []) := by kernel_rfl
theorem ke9 : b0 Tryz.prog 88 (q6 [1, 1, 0, 1, 0, 0, 1, 1, 0, 0, 1, 1, 0, 0, 1, 1, 0, 0, 1, 1, 0] evK) [aZ] = some (.reg false [gI 40 (.fadr 1 (.t 9)), gI 41 (.load false 1 (.t 40)), gI 42 (.bin .lss (.t 41) (oI 345686400000))] none, []) := by kernel_rfl
theorem d4Z : b0 Tryz.prog 88 (q6 [1, 1, 0, 1, 0, 0, 1, 1, 0, 0, 1, 1, 0, 0, 1, 1, 1] evK) [aZ] = some (.reg false [gI 50 (.bin .add (.t 29) (oI 1)), gM 29 50] none, []) := by kernel_rfl
theorem d5a : b0 Tryz.prog 88 (q6 [1, 1, 0, 1, 0, 0, 1, 1, 1] evK) [aZ] = some (.reg false [gI 51 (.bin .add (.t 17) (oI 1)), gM 17 51] none, []) := by kernel_rfl
theorem d4W : b0 Tryz.prog 88 (q6 [1, 1, 1, 0, 0] evK) [aZ] = some (.reg false [gM 52 1, gI 53 (.len (.t 52)), gI 54 (.mv (oI 0))] none, []) := by kernel_rfl
theorem d4U : b0 Tryz.prog 88 (q6 [1, 1, 1, 0, 1, 0, 0, 0] evK) [aZ] = some (.reg false [gI 55 (.bin .lss (.t 54) (.t 53))] none, []) := by kernel_rfl
theorem d6i : b0 Tryz.prog 88 (q6 [1, 1, 1, 0, 1, 0, 0, 1, 1, 0, 0, 0] evK) [aZ] = some (.reg false [gM 56 54, gI 57 (.iadr 6 (.t 52) (.t 54)), gI 58 (.load true 6 (.t 57)), gI 10 (.alloc [(.int .i64 (0))]), gI 11 (.alloc [(.string (ByteArray.mk #[])), (.int .i64 (0)), (.int .i64 (0)), (.int .i64 (0)), (.string (ByteArray.mk #[])), (.int .i64 (0))]), gN (.store 1 (.t 10) (.t 56)), gN (.store 6 (.t 11) (.t 58))] none, []) := by kernel_rfl
theorem d5D : b0 Tryz.prog 88 (q6 [1, 1, 1, 0, 1, 0, 0, 1, 1, 0, 0, 1, 1, 0] evK) [aZ] = some (.reg false [gI 70 (.fadr 3 (.t 11)), gI 71 (.load false 1 (.t 70)), gI 72 (.bin .eql (.t 71) (oI 2)), gM 73 72, gG 74 73 true (.fadr 5 (.t 11)), gG 75 73 true (.load false 1 (.t 74)), gG 76 73 true (.bin .lss (.t 75) (oI 345686400000)), gI 77 (.pick (.t 73) (.t 76) (.v (.bool false)))] none, []) := by kernel_rfl
theorem d5H : b0 Tryz.prog 88 (q6 [1, 1, 1, 0, 1, 0, 0, 1, 1, 1] evK) [aZ] = some (.reg false [gI 84 (.bin .add (.t 54) (oI 1)), gM 54 84] none, []) := by kernel_rfl
theorem d5j : b0 Tryz.prog 88 (q6 [1, 1, 1, 1, 0] evK) [⟨none, [], [], [], [(86, ⟨[], [1000000], [], [1000000], [1000000]⟩)]⟩] = some (.reg false [gM 85 5, gI 86 (.callm (.f 153) [(.t 85), (.f 154)] ⟨[], [1000000], [], [1000000], [1000000]⟩)] none, []) := by kernel_rfl
theorem d6b : b0 Tryz.prog 88 (q6 [1, 1, 1, 1, 1, 0] evK) [aZ] = some (.reg false [gM 87 5, gM 4 87] none, []) := by kernel_rfl
noncomputable def opE (p : List Nat) : List Oper := d4I (q6 p evK)
abbrev p8 : List Nat := [1, 1, 0, 1, 0, 0, 1, 1, 0, 0, 1, 1, 0, 0, 1, 1, 0, 0, 1, 0]
abbrev p10 : List Nat := [1, 1, 0, 1, 0, 0, 1, 1, 0, 0, 1, 1, 0, 0, 1, 1, 0, 0, 1, 1, 1, 0]
abbrev p16 : List Nat := [1, 1, 1, 0, 1, 0, 0, 1, 1, 0, 0, 1, 0]
abbrev p18 : List Nat := [1, 1, 1, 0, 1, 0, 0, 1, 1, 0, 0, 1, 1, 1, 0]
theorem ka8 : ((opE p8).take 3).mapM (l8 Tryz.prog 88 [] (opE p8).toArray) = some [gM 33 5, gI 34 (.fadr 0 (.t 9)), gI 35 (.load false 1 (.t 34))] := by kernel_rfl
theorem kb8 : ((opE p8).drop 4).mapM (l8 Tryz.prog 88 [] (opE p8).toArray) = some [gI 37 (.build [(.int .i64 (0)), (.int .i64 (0)), (.string (ByteArray.mk #[])), (.int .i64 (0)), .nilFunc] [(0, 1, (.t 35)), (4, 1, (.t 36))]), gI 38 (.bslice 5 1 [(.t 37)]), gI 39 (.append 146 5 48 (.t 33) (.t 38)), gM 5 39] := by kernel_rfl
theorem ko8 : ((opE p8).getD 3 default).op = .makeFunc (.func 147) #[] #[.tmp 2, .tmp 7] := by kernel_rfl
theorem d5V : ((opE p10).take 3).mapM (l8 Tryz.prog 88 [] (opE p10).toArray) = some [gM 43 5, gI 44 (.fadr 1 (.t 9)), gI 45 (.load false 1 (.t 44))] := by kernel_rfl
theorem d5L : ((opE p10).drop 4).mapM (l8 Tryz.prog 88 [] (opE p10).toArray) = some [gI 47 (.build [(.int .i64 (0)), (.int .i64 (0)), (.string (ByteArray.mk #[])), (.int .i64 (0)), .nilFunc] [(0, 1, (.t 45)), (4, 1, (.t 46))]), gI 48 (.bslice 5 1 [(.t 47)]), gI 49 (.append 146 5 48 (.t 43) (.t 48)), gM 5 49] := by kernel_rfl
theorem d6g : ((opE p10).getD 3 default).op = .makeFunc (.func 148) #[] #[.tmp 2, .tmp 7] := by kernel_rfl
theorem d5g : ((opE p16).take 7).mapM (l8 Tryz.prog 88 [] (opE p16).toArray) = some [gM 59 5, gI 60 (.fadr 2 (.t 11)), gI 61 (.load false 1 (.t 60)), gI 62 (.fadr 0 (.t 11)), gI 63 (.load false 1 (.t 62)), gI 64 (.fadr 1 (.t 11)), gI 65 (.load false 1 (.t 64))] := by kernel_rfl
theorem d5Q : ((opE p16).drop 8).mapM (l8 Tryz.prog 88 [] (opE p16).toArray) = some [gI 67 (.build [(.int .i64 (0)), (.int .i64 (0)), (.string (ByteArray.mk #[])), (.int .i64 (0)), .nilFunc] [(0, 1, (.t 61)), (1, 1, (oI 2)), (2, 1, (.t 63)), (3, 1, (.t 65)), (4, 1, (.t 66))]), gI 68 (.bslice 5 1 [(.t 67)]), gI 69 (.append 146 5 48 (.t 59) (.t 68)), gM 5 69] := by kernel_rfl
theorem d5M : ((opE p16).getD 7 default).op = .makeFunc (.func 150) #[] #[.tmp 2, .tmp 11, .tmp 10] := by kernel_rfl
theorem d5u : ((opE p18).take 4).mapM (l8 Tryz.prog 88 [] (opE p18).toArray) = some [gM 78 5, gI 79 (.fadr 5 (.t 11)), gI 80 (.load false 1 (.t 79)), gI 81 (.build [(.int .i64 (0)), (.int .i64 (0)), (.string (ByteArray.mk #[])), (.int .i64 (0)), .nilFunc] [(0, 1, (.t 80)), (1, 1, (oI 1)), (4, 1, (.f 152))])] := by kernel_rfl
theorem d6w : ((opE p18).drop 4).mapM (l8 Tryz.prog 88 [] (opE p18).toArray) = some [gI 82 (.bslice 5 1 [(.t 81)]), gI 83 (.append 146 5 48 (.t 78) (.t 82)), gM 5 83] := by kernel_rfl
attribute [irreducible] evK opE
end Go.Proofs.YtbhgndiboeppeaaGreatDoor
