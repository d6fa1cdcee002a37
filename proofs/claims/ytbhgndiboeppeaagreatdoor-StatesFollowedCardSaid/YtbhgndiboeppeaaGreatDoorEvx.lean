/- The reference's events, walked: an alarm's windows. -/
import Derived.Test.YtbhgndiboeppeaaGreatDoorEvw
set_option linter.all false
set_option maxHeartbeats 4000000
namespace Go.Proofs.YtbhgndiboeppeaaGreatDoor
open Go Go.Ai
theorem a3A (s : List Ser) : ∀ (A B : List Alm) (k : Nat), W5 s k (A ++ B) = W5 s k A ++ W5 s (k + A.length) B
 | [], B, k => rfl
 | x :: A, B, k => by
  rw [List.cons_append, W5, W5, a3A s A B (k + 1), List.append_assoc, List.length_cons]
  congr 2
  congr 1
  omega
theorem a3M : ∀ (A B : List Opr) (k : Nat), a0f k (A ++ B) = a0f k A ++ a0f (k + A.length) B
 | [], B, k => rfl
 | x :: A, B, k => by
  rw [List.cons_append, a0f, a0f, a3M A B (k + 1), List.append_assoc, List.length_cons]
  congr 2
  congr 1
  omega
theorem a4M (s : List Ser) (l : List Alm) (i : Nat) (h : i < l.length) : W5 s 0 (l.take (i + 1)) = W5 s 0 (l.take i) ++ rvA s i (l.getD i default) := by
 rw [B0 h, a3A, W5, W5, List.append_nil, List.length_take, Nat.min_eq_left (by omega), Nat.zero_add]
theorem b3h (l : List Opr) (i : Nat) (h : i < l.length) : a0f 0 (l.take (i + 1)) = a0f 0 (l.take i) ++ rvB i (l.getD i default) := by
 rw [B0 h, a3M, a0f, a0f, List.append_nil, List.length_take, Nat.min_eq_left (by omega), Nat.zero_add]
theorem c2x (s : List Ser) (l : List Alm) (a : List Opr) (i : Nat) (h : i ≤ l.length) : (W5 s 0 (l.take i)).length ≤ (G4 l s a).length := by
 unfold G4
 have := a3A s (l.take i) (l.drop i) 0
 rw [List.take_append_drop] at this
 rw [this, List.length_append, List.length_append]; omega
theorem c9t (s : List Ser) (l : List Alm) (a : List Opr) (i : Nat) (h : i < l.length) (j : Nat) : (W5 s 0 (l.take i)).length + (((v7 s (l.getD i default)).take j).flatMap (rvW i)).length ≤ (G4 l s a).length := by
 have h1 := c2x s l a (i + 1) h
 rw [a4M s l i h, List.length_append] at h1
 unfold rvA at h1
 have h2 : ((v7 s (l.getD i default)).flatMap (rvW i)).length = (((v7 s (l.getD i default)).take j).flatMap (rvW i)).length + (((v7 s (l.getD i default)).drop j).flatMap (rvW i)).length := by
  rw [← List.length_append, ← List.flatMap_append, List.take_append_drop]
 omega
theorem d1o (s : List Ser) (l : List Alm) (a : List Opr) (i : Nat) : (W5 s 0 l).length + (a0f 0 (a.take i)).length ≤ (G4 l s a).length := by
 unfold G4
 have := a3M (a.take i) (a.drop i) 0
 rw [List.take_append_drop] at this
 rw [this, List.length_append, List.length_append]; omega
abbrev evM : CAnn := ⟨[1000001, 1000005], [1000002, 1000003, 1000004, 1000000, 1000007], [], [], []⟩
abbrev d4R (k : Nat) : CAnn := ⟨[1000001, 1000005, k], [1000002, 1000003, 1000004, 1000000, 1000007], [], [], []⟩
abbrev evH (l : List Alm) (ac : List (List Cel)) (r : Rst) (L : List Rvp) (la : List (ByteArray × Int)) (out : List Std) : Hp := ⟨[(1000001, waC l ac), (1000005, [.bx 1000001 0])], [(1000002, mpR r.st), (1000003, mpR r.sh), (1000004, n9 r.ig), (1000000, B1 L), (1000007, mpR la)]⟩
abbrev d1L (k : Nat) (cs : List Cel) (l : List Alm) (ac : List (List Cel)) (r : Rst) (L : List Rvp) (la : List (ByteArray × Int)) (out : List Std) : Hp := ⟨[(1000001, waC l ac), (1000005, [.bx 1000001 0]), (k, cs)], [(1000002, mpR r.st), (1000003, mpR r.sh), (1000004, n9 r.ig), (1000000, B1 L), (1000007, mpR la)]⟩
theorem o7 {l : List Alm} {ac : List (List Cel)} {r : Rst} {L : List Rvp} {la : List (ByteArray × Int)} {out : List Std} : ∀ p ∈ (evH l ac r L la out).rs, XK ≤ p.1 := by simp [XK]
abbrev a4d (l : List Alm) (a : List Opr) (i : Int) (W : List (Int × Int)) (j : Int) : List (Nat × Val) := [(0, .one (.bx 1000001 0)), (1, u9 false a), (2, .one (.bx 1000005 0)), (5, .one (.ow 1000000 0)), (7, .one (.ep (z7 (l.getD i.toNat default)))), (15, r6 false l), (16, iv l.length), (17, iv i), (27, b0q false W), (28, iv W.length), (29, iv j)]
abbrev a2d (l : List Alm) (a : List Opr) (i : Int) (W : List (Int × Int)) (j : Int) (c : Cel) : List (Nat × Val) := [(0, .one (.bx 1000001 0)), (1, u9 false a), (2, .one (.bx 1000005 0)), (5, .one (.ow 1000000 0)), (7, .one (.ep (z7 (l.getD i.toNat default)))), (9, .one c), (15, r6 false l), (16, iv l.length), (17, iv i), (27, b0q false W), (28, iv W.length), (29, iv j)]
abbrev pL2 : List Nat := [1, 1, 0, 1, 0, 0, 1, 1, 0, 0, 1, 1, 0, 0]
theorem c8N (l : List Alm) (a : List Opr) (i : Int) (W : List (Int × Int)) (j : Int) (hj : 0 ≤ j ∧ j < W.length) (ac : List (List Cel)) (r : Rst) (L : List Rvp) (la : List (ByteArray × Int)) (out : List Std) :
  ex Tryz.prog (.reg false [gI 31 (.iadr 2 (.t 27) (.t 29)), gI 32 (.load true 2 (.t 31)), gI 9 (.alloc [(.int .i64 (0)), (.int .i64 (0))]), gN (.store 2 (.t 9) (.t 32))] none) [] (C9 [0, 1, 2, 5, 7, 9, 15, 16, 17, 27, 28, 29] (d4R 9) (a2d l a i W j (.bx 9 0)) (d1L 9 (frC (W.getD j.toNat default)) l ac r L la out)) (lAS (a4d l a i W j) (evH l ac r L la out)) := by
 unfold lAS evH d1L a4d a2d waC
 exact qt
theorem c8O (l : List Alm) (a : List Opr) (i : Int) (W : List (Int × Int)) (j : Int) (ac : List (List Cel)) (r : Rst) (L : List Rvp) (la : List (ByteArray × Int)) (out : List Std) :
  ex Tryz.prog (.reg false [gI 30 (.bin .lss (.t 29) (.t 28))] none) [] (C9 [30, 0, 1, 2, 5, 7, 15, 16, 17, 27, 28, 29] evM ((30, bv (decide (j < W.length))) :: a4d l a i W j) (evH l ac r L la out)) (lAS (a4d l a i W j) (evH l ac r L la out)) := by
 unfold lAS evH a4d waC
 exact qt
abbrev c6b (l : List Alm) (a : List Opr) (i : Int) (W : List (Int × Int)) (j : Int) (c : Cel) (d : Nat) (x : Int) (e : Nat) : List (Nat × Val) := (d, .one (.ow 1000000 0)) :: (e, iv x) :: a2d l a i W j c
theorem c4m (l : List Alm) (a : List Opr) (i : Int) (W : List (Int × Int)) (j : Int) (v : Int × Int) (ac : List (List Cel)) (r : Rst) (L : List Rvp) (la : List (ByteArray × Int)) (out : List Std) :
  ex Tryz.prog (.reg false [gM 33 5, gI 34 (.fadr 0 (.t 9)), gI 35 (.load false 1 (.t 34))] none) [] (C9 [33, 35, 0, 1, 2, 5, 7, 9, 15, 16, 17, 27, 28, 29] evM (c6b l a i W j (.ep (frC v)) 33 v.1 35) (evH l ac r L la out)) (lAS (a2d l a i W j (.ep (frC v))) (evH l ac r L la out)) := by
 unfold lAS evH c6b a2d waC
 exact qt
theorem c2R (l : List Alm) (a : List Opr) (i : Int) (W : List (Int × Int)) (j : Int) (v : Int × Int) (ac : List (List Cel)) (r : Rst) (L : List Rvp) (hL : L.length ≤ 1000000) (la : List (ByteArray × Int)) (out : List Std) (fv : Value) (d : Rdo) :
  ex Tryz.prog (.reg false [gI 37 (.build [(.int .i64 (0)), (.int .i64 (0)), (.string (ByteArray.mk #[])), (.int .i64 (0)), .nilFunc] [(0, 1, (.t 35)), (4, 1, (.t 36))]), gI 38 (.bslice 5 1 [(.t 37)]), gI 39 (.append 146 5 48 (.t 33) (.t 38)), gM 5 39] none) [] (C9 [0, 1, 2, 5, 7, 9, 15, 16, 17, 27, 28, 29] evM (a2d l a i W j (.ep (frC v))) (evH l ac r (L ++ [⟨⟨v.1, 0, emp, 0, d⟩, fv⟩]) la out)) (lAS ((36, .one (.g fv)) :: c6b l a i W j (.ep (frC v)) 33 v.1 35) (evH l ac r L la out)) := by
 unfold lAS evH a2d waC
 refine qv ?_
 rw [B1, List.map_append]; rfl
theorem c8W (l : List Alm) (a : List Opr) (i : Int) (W : List (Int × Int)) (j : Int) (v : Int × Int) (ac : List (List Cel)) (r : Rst) (L : List Rvp) (la : List (ByteArray × Int)) (out : List Std) :
  ex Tryz.prog (.reg false [gI 40 (.fadr 1 (.t 9)), gI 41 (.load false 1 (.t 40)), gI 42 (.bin .lss (.t 41) (oI 345686400000))] none) [] (C9 [42, 0, 1, 2, 5, 7, 9, 15, 16, 17, 27, 28, 29] evM ((42, bv (decide (v.2 < 345686400000))) :: a2d l a i W j (.ep (frC v))) (evH l ac r L la out)) (lAS (a2d l a i W j (.ep (frC v))) (evH l ac r L la out)) := by
 unfold lAS evH a2d waC
 exact qt
theorem b4P (l : List Alm) (a : List Opr) (i : Int) (W : List (Int × Int)) (j : Int) (v : Int × Int) (ac : List (List Cel)) (r : Rst) (L : List Rvp) (la : List (ByteArray × Int)) (out : List Std) :
  ex Tryz.prog (.reg false [gM 43 5, gI 44 (.fadr 1 (.t 9)), gI 45 (.load false 1 (.t 44))] none) [] (C9 [43, 45, 0, 1, 2, 5, 7, 9, 15, 16, 17, 27, 28, 29] evM (c6b l a i W j (.ep (frC v)) 43 v.2 45) (evH l ac r L la out)) (lAS ((42, bv (decide (v.2 < 345686400000))) :: a2d l a i W j (.ep (frC v))) (evH l ac r L la out)) := by
 unfold lAS evH c6b a2d waC
 exact qt
theorem b6O (l : List Alm) (a : List Opr) (i : Int) (W : List (Int × Int)) (j : Int) (v : Int × Int) (ac : List (List Cel)) (r : Rst) (L : List Rvp) (hL : L.length ≤ 1000000) (la : List (ByteArray × Int)) (out : List Std) (fv : Value) (d : Rdo) :
  ex Tryz.prog (.reg false [gI 47 (.build [(.int .i64 (0)), (.int .i64 (0)), (.string (ByteArray.mk #[])), (.int .i64 (0)), .nilFunc] [(0, 1, (.t 45)), (4, 1, (.t 46))]), gI 48 (.bslice 5 1 [(.t 47)]), gI 49 (.append 146 5 48 (.t 43) (.t 48)), gM 5 49] none) [] (C9 [0, 1, 2, 5, 7, 9, 15, 16, 17, 27, 28, 29] evM (a2d l a i W j (.ep (frC v))) (evH l ac r (L ++ [⟨⟨v.2, 0, emp, 0, d⟩, fv⟩]) la out)) (lAS ((46, .one (.g fv)) :: c6b l a i W j (.ep (frC v)) 43 v.2 45) (evH l ac r L la out)) := by
 unfold lAS evH a2d waC
 refine qv ?_
 rw [B1, List.map_append]; rfl
theorem c2w (l : List Alm) (a : List Opr) (i : Int) (W : List (Int × Int)) (j : Int) (hj : 0 ≤ j ∧ j ≤ 1000000) (v : Int × Int) (ac : List (List Cel)) (r : Rst) (L : List Rvp) (la : List (ByteArray × Int)) (out : List Std) :
  ex Tryz.prog (.reg false [gI 50 (.bin .add (.t 29) (oI 1)), gM 29 50] none) [] (C9 [0, 1, 2, 5, 7, 15, 16, 17, 27, 28, 29] evM (a4d l a i W (j + 1)) (evH l ac r L la out)) (lAS (a2d l a i W j (.ep (frC v))) (evH l ac r L la out)) := by
 unfold lAS evH a2d a4d waC
 exact qt
theorem d5K (v : Int × Int) : ∀ c ∈ frC v, c.isD = true := by simp [a1x, Cel.isD]
abbrev pB3 : List Nat := [1, 1, 0, 1, 0, 0, 1, 1, 0, 0, 1, 1, 0, 0, 1, 1, 0, 0]
section
variable {ok0 : Nat → Prop} {w0 : World} {E0 : Env} {gb gw : Nat} {ul : Value} {l : List Alm} {s : List Ser} {a : List Opr} {ac : List (List Cel)} {r : Rst} {la : List (ByteArray × Int)} {out : List Std}
def GB (gb gw : Nat) (ul : Value) (E : Env) : Prop := E.gm 1000005 = some gb ∧ E.gm 1000001 = some gw ∧ E.rm 1000007 = some (0, 0, ul)
theorem gbs {P : Program} {N : Nat} {ok ok' : Nat → Prop} {tl' : List (Nat × Val)} {H' : Hp} {a' : Act} {w w' : World} {E E' : Env} {gb gw : Nat} {ul : Value} {cs1 cs2 : List Cel} {m : List (ByteArray × Int)} (h : Plc P N ok' tl' H' a' w' E') (hA : Adv w ok E w' ok' E') (hg : GB gb gw ul E) (h1 : f9 H'.bs 1000005 = some cs1 := by rfl) (h2 : f9 H'.bs 1000001 = some cs2 := by rfl) (h3 : f9 H'.rs 1000007 = some (mpR m) := by rfl) : GB gb gw ul E' := by
 refine ⟨h.same hA h1 (by simp [XK]) hg.1, h.same hA h2 (by simp [XK]) hg.2.1, ?_⟩
 obtain ⟨_, _, u, _, h4, _⟩ := h.h.rw 1000007 (mpR m) h3
 have h5 := hA.pinM 1000007 u (by simp [XK]) h4
 rw [hg.2.2] at h5
 simp only [Option.some.injEq, Prod.mk.injEq, true_and] at h5
 subst h5
 exact h4
structure EvI (ok0 : Nat → Prop) (w0 : World) (E0 : Env) (gb gw : Nat) (ul : Value) (l : List Alm) (a : List Opr) (M : List Rev) (L : List Rvp) (ok : Nat → Prop) (w : World) (E : Env) : Prop where
 m : L.map (·.r) = M
 c : ∀ x ∈ L, ClE w ok gb l a x
 g : GB gb gw ul E
 a : Adv0 w0 ok0 E0 w ok E
theorem EvI.adv {M : List Rev} {L : List Rvp} {ok ok' : Nat → Prop} {w w' : World} {E E' : Env} (h : EvI ok0 w0 E0 gb gw ul l a M L ok w E) (hA : Adv w ok E w' ok' E') (hno : ∀ b, E.own b → ¬ ok b) (hg : GB gb gw ul E') : EvI ok0 w0 E0 gb gw ul l a M L ok' w' E' :=
 ⟨h.m, fun x hx => (h.c x hx).adv hA.toAdv0 hno, hg, h.a.trans hA.toAdv0⟩
theorem EvI.snoc {M : List Rev} {L : List Rvp} {ok : Nat → Prop} {w : World} {E : Env} (h : EvI ok0 w0 E0 gb gw ul l a M L ok w E) {x : Rvp} (hx : ClE w ok gb l a x) : EvI ok0 w0 E0 gb gw ul l a (M ++ [x.r]) (L ++ [x]) ok w E :=
 ⟨by rw [List.map_append, h.m]; rfl, fun y hy => by
  rcases List.mem_append.1 hy with hy | hy
  ·exact h.c y hy
  ·rw [List.mem_singleton.1 hy]; exact hx, h.g, h.a⟩
theorem EvI.len {M : List Rev} {L : List Rvp} {ok : Nat → Prop} {w : World} {E : Env} (h : EvI ok0 w0 E0 gb gw ul l a M L ok w E) : L.length = M.length := by rw [← h.m, List.length_map]
theorem c6x {i j : Int} {W : List (Int × Int)} {v : Int × Int} {M : List Rev} {L : List Rvp} {ok : Nat → Prop} {b : Act} {w : World} {E : Env} (hI : EvI ok0 w0 E0 gb gw ul l a M L ok w E) (hM : M.length ≤ 1000000)
  (h : Plc Tryz.prog 88 ok (a2d l a i W j (.ep (frC v))) (evH l ac r L la out) b w E) {Q : Exit → Act → World → Prop}
  (hN : ∀ L' ok' b' w' E', EvI ok0 w0 E0 gb gw ul l a (M ++ if v.2 < 345686400000 then [⟨v.2, 0, emp, 0, .off i.toNat⟩] else []) L' ok' w' E' → Plc Tryz.prog 88 ok' (a2d l a i W j (.ep (frC v))) (evH l ac r L' la out) b' w' E' → Q .normal b' w') : (q6 [1, 1, 0, 1, 0, 0, 1, 1, 0, 0, 1, 1, 0, 0, 1, 1, 0, 0, 1, 1] evK).wp Tryz.prog Q b w := by
 have hX : XK ≤ 1000005 := by simp [XK]
 have hl := hI.len
 refine h.seqP _ (by kernel_rfl) ke9 o7 _ _ (c8W l a i W j v ac r L la out) fun b5 w5 ok6 E5 h8 A6 => ?_
 have I7 := hI.adv A6 h.no (gbs h8 A6 hI.g)
 refine a2v [1, 1, 0, 1, 0, 0, 1, 1, 0, 0, 1, 1, 0, 0, 1, 1, 0, 0, 1, 1, 1] (.tmp 42) (by kernel_rfl) (h8.bool rfl) (fun hb => ?_) (fun hb => ?_)
 ·have hb := of_decide_eq_true hb
  refine h8.regMk p10 (l := opE p10) (A := (opE p10).take 3) (o := (opE p10).getD 3 default) (B := (opE p10).drop 4) (by kernel_rfl) (by kernel_rfl) d5V d5L d6g (by kernel_rfl) (by kernel_rfl) (by omega) o7 _ _ (b4P l a i W j v ac r L la out) o7 _ _ (tl2 := fun _ => a2d l a i W j (.ep (frC v))) (H2 := fun fw => evH l ac r (L ++ [⟨⟨v.2, 0, emp, 0, .off i.toNat⟩, fw⟩]) la out)
   (fun fw => b6O l a i W j v ac r L (by omega) la out fw (.off i.toNat)) fun b6 w6 ok7 E6 h9 A7 fw hfw b7 w7 ok8 E7 h10 A8 => ?_
  have I8 := I7.adv A7 h8.no (gbs h9 A7 I7.g)
  have I9 := I8.snoc (x := ⟨⟨v.2, 0, emp, 0, .off i.toNat⟩, fw⟩) ⟨b6.eval (.tmp 7), by
   have e2 := h9.ptr (t := 2) rfl I8.g.1
   rw [hfw]; simp [e2], h9.epv (t := 7) rfl⟩
  have I10 := I9.adv A8 h9.no (gbs h10 A8 I9.g)
  refine hN _ ok8 b7 w7 E7 ?_ h10
  rw [if_pos hb]
  exact I10
 ·have hb := of_decide_eq_false hb
  refine a2g [1, 1, 0, 1, 0, 0, 1, 1, 0, 0, 1, 1, 0, 0, 1, 1, 0, 0, 1, 1, 1, 1] (by kernel_rfl) ?_
  refine hN _ ok6 b5 w5 E5 ?_ (h8.tail rfl rfl)
  rw [if_neg hb, List.append_nil]
  exact I7
theorem d3H {i j : Int} {W : List (Int × Int)} (hj : 0 ≤ j ∧ j < W.length) {M : List Rev} {L : List Rvp} {ok : Nat → Prop} {b : Act} {w : World} {E : Env} (hI : EvI ok0 w0 E0 gb gw ul l a M L ok w E) (hM : M.length + 1 ≤ 1000000)
  (h : Plc Tryz.prog 88 ok (a4d l a i W j) (evH l ac r L la out) b w E) {Q : Exit → Act → World → Prop}
  (hN : ∀ L' ok' b' w' E', EvI ok0 w0 E0 gb gw ul l a (M ++ rvW i.toNat (W.getD j.toNat default)) L' ok' w' E' → Plc Tryz.prog 88 ok' (a2d l a i W j (.ep (frC (W.getD j.toNat default)))) (evH l ac r L' la out) b' w' E' → Q .normal b' w') : (q6 pB3 evK).wp Tryz.prog Q b w := by
 have hX : XK ≤ 1000005 := by simp [XK]
 refine h.seqP pB3 (by kernel_rfl) ke7 o7 _ _ (c8N l a i W j hj ac r L la out) fun b2 w2 ok2 E2 h3 A2 => ?_
 have I2 := hI.adv A2 h.no (gbs h3 A2 hI.g)
 obtain ⟨g9, ok3, hg9, h4, A3⟩ := h3.freeze 9 (cs := frC (W.getD j.toNat default)) rfl (d5K _)
 have h5 : Plc Tryz.prog 88 ok3 (a2d l a i W j (.ep (frC (W.getD j.toNat default)))) (evH l ac r L la out) b2 w2 (E2.del 9) := h4
 have I3 := I2.adv A3 h3.no (gbs h5 A3 I2.g)
 clear h4 h3
 generalize hv : W.getD j.toNat default = v at *
 have hl := I3.len
 refine a0T (pB3 ++ [1]) (by kernel_rfl) ?_
 refine h5.regMk p8 (l := opE p8) (A := (opE p8).take 3) (o := (opE p8).getD 3 default) (B := (opE p8).drop 4) (by kernel_rfl) (by kernel_rfl) ka8 kb8 ko8 (by kernel_rfl) (by kernel_rfl) (by omega) o7 _ _ (c4m l a i W j v ac r L la out) o7 _ _ (tl2 := fun _ => a2d l a i W j (.ep (frC v))) (H2 := fun fv => evH l ac r (L ++ [⟨⟨v.1, 0, emp, 0, .on i.toNat⟩, fv⟩]) la out)
  (fun fv => c2R l a i W j v ac r L (by omega) la out fv (.on i.toNat)) fun b3 w3 ok4 E3 h6 A4 fv hfv b4 w4 ok5 E4 h7 A5 => ?_
 have I4 := I3.adv A4 h5.no (gbs h6 A4 I3.g)
 have I5 := I4.snoc (x := ⟨⟨v.1, 0, emp, 0, .on i.toNat⟩, fv⟩) ⟨b3.eval (.tmp 7), by
  have e2 := h6.ptr (t := 2) rfl I4.g.1
  rw [hfv]; simp [e2], h6.epv (t := 7) rfl⟩
 have I6 := I5.adv A5 h6.no (gbs h7 A5 I5.g)
 simp only [Exit.then]
 refine c6x I6 (by simpa using hM) h7 fun L' ok' b' w' E' hI' h' => hN L' ok' b' w' E' ?_ h'
 rw [rvW]
 rw [List.append_assoc] at hI'
 exact hI'
end
end Go.Proofs.YtbhgndiboeppeaaGreatDoor
