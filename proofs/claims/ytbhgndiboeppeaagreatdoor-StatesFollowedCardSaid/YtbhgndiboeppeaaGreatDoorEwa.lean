/- The reference's events, walked: alarms, acts, the order. -/
import Derived.Test.YtbhgndiboeppeaaGreatDoorEvx
set_option linter.all false
set_option maxHeartbeats 4000000
namespace Go.Proofs.YtbhgndiboeppeaaGreatDoor
open Go Go.Ai
section
variable {ok0 : Nat → Prop} {w0 : World} {E0 : Env} {gb gw : Nat} {ul : Value} {l : List Alm} {s : List Ser} {a : List Opr} {ac : List (List Cel)} {r : Rst} {la : List (ByteArray × Int)} {out : List Std}
theorem c3G {α β : Type} [Inhabited α] (f : α → List β) (W : List α) (j : Nat) (h : j < W.length) : (W.take (j + 1)).flatMap f = (W.take j).flatMap f ++ f (W.getD j default) := by
 rw [B0 h, List.flatMap_append]; simp
theorem c8p {i j : Int} {W : List (Int × Int)} (hj : 0 ≤ j ∧ j ≤ W.length) (hWl : W.length ≤ 1000000) {M : List Rev} {L : List Rvp} {ok : Nat → Prop} {b : Act} {w : World} {E : Env} (hI : EvI ok0 w0 E0 gb gw ul l a M L ok w E) (hM : M.length + 1 ≤ 1000000)
  (h : Plc Tryz.prog 88 ok (a4d l a i W j) (evH l ac r L la out) b w E) {Q : Exit → Act → World → Prop}
  (hE : j = W.length → ∀ ok' b' w' E', EvI ok0 w0 E0 gb gw ul l a M L ok' w' E' → Plc Tryz.prog 88 ok' (a4d l a i W j) (evH l ac r L la out) b' w' E' → Q (.exit 2) b' w')
  (hN : j < W.length → ∀ L' ok' b' w' E', EvI ok0 w0 E0 gb gw ul l a (M ++ rvW i.toNat (W.getD j.toNat default)) L' ok' w' E' → Plc Tryz.prog 88 ok' (a4d l a i W (j + 1)) (evH l ac r L' la out) b' w' E' → Q .normal b' w') : (q6 pL2 evK).wp Tryz.prog Q b w := by
 have hX : XK ≤ 1000005 := by simp [XK]
 refine h.seqP pL2 (by kernel_rfl) ke6 o7 _ _ (c8O l a i W j ac r L la out) fun b1 w1 ok1 E1 h1 A1 => ?_
 have I1 := hI.adv A1 h.no (gbs h1 A1 hI.g)
 refine a0T (pL2 ++ [1]) (by kernel_rfl) ?_
 refine a2v (pL2 ++ [1, 0]) (.tmp 30) (by kernel_rfl) (h1.bool rfl) (fun hb => ?_) (fun hb => ?_)
 rotate_left
 ·refine a4P (pL2 ++ [1, 0, 1]) 2 (by kernel_rfl) ?_
  have hj : j = W.length := by have := of_decide_eq_false hb; omega
  exact hE hj ok1 b1 w1 E1 I1 (h1.tail rfl rfl)
 have hb := of_decide_eq_true hb
 refine a2g (pL2 ++ [1, 0, 0]) (by kernel_rfl) ?_
 simp only [Exit.then]
 refine a0T (pL2 ++ [1, 1]) (by kernel_rfl) ?_
 refine b0m (pL2 ++ [1, 1, 0]) 3 (by kernel_rfl) ?_
 refine d3H ⟨hj.1, hb⟩ I1 hM (h1.tail rfl rfl) fun L' ok' b' w' E' hI' h' => ?_
 simp only [Exit.inBlock, Exit.then]
 refine h'.code1 d4Z o7 _ _ (c2w l a i W j ⟨hj.1, by omega⟩ _ ac r L' la out) fun b2 w2 ok2 E2 h2 A2 => ?_
 exact hN hb L' ok2 b2 w2 E2 (hI'.adv A2 h'.no (gbs h2 A2 hI'.g)) h2
theorem d2A {i : Int} {W : List (Int × Int)} (hWl : W.length ≤ 1000000) {M : List Rev} (hM : ∀ j, (M ++ (W.take j).flatMap (rvW i.toNat)).length + 1 ≤ 1000000)
  {L : List Rvp} {ok : Nat → Prop} {b : Act} {w : World} {E : Env} (hI : EvI ok0 w0 E0 gb gw ul l a M L ok w E)
  (h : Plc Tryz.prog 88 ok (a4d l a i W 0) (evH l ac r L la out) b w E) {R : Exit → Act → World → Prop}
  (hR : ∀ L' ok' b' w' E', EvI ok0 w0 E0 gb gw ul l a (M ++ W.flatMap (rvW i.toNat)) L' ok' w' E' → Plc Tryz.prog 88 ok' (a4d l a i W W.length) (evH l ac r L' la out) b' w' E' → R .normal b' w') :
  (q6 [1, 1, 0, 1, 0, 0, 1, 1, 0, 0, 1, 1] evK).wp Tryz.prog R b w := by
 refine b0m _ 2 (by kernel_rfl) ?_
 refine a9d [1, 1, 0, 1, 0, 0, 1, 1, 0, 0, 1, 1, 0] (by kernel_rfl) (fun n b w => ∃ (j : Int) (L' : List Rvp) (ok : Nat → Prop) (E : Env), 0 ≤ j ∧ j ≤ W.length ∧ n = (W.length - j).toNat ∧
  EvI ok0 w0 E0 gb gw ul l a (M ++ (W.take j.toNat).flatMap (rvW i.toNat)) L' ok w E ∧ Plc Tryz.prog 88 ok (a4d l a i W j) (evH l ac r L' la out) b w E) W.length ⟨0, L, ok, E, by omega, by omega, by omega, by simpa using hI, h⟩ ?_
 rintro n b w ⟨j, L', ok, E, j0, j1, rfl, hI, h⟩
 refine c8p ⟨j0, j1⟩ hWl hI (hM _) h (fun hj ok' b' w' E' hI' h' => ?_) (fun hj L' ok' b' w' E' hI' h' => ?_)
 ·simp only [Exit.then, Exit.inBlock, if_true]
  refine hR L' ok' b' w' E' ?_ (hj ▸ h')
  have : W.take j.toNat = W := List.take_of_length_le (by omega)
  rw [this] at hI'
  exact hI'
 ·simp only [Exit.then]
  refine ⟨(W.length - (j + 1)).toNat, by omega, j + 1, L', ok', E', by omega, by omega, rfl, ?_, h'⟩
  rw [show (j + 1).toNat = j.toNat + 1 by omega, c3G _ _ _ (by omega), ← List.append_assoc]
  exact hI'
/-! ### alarms -/
abbrev a7E (l : List Alm) (a : List Opr) (i : Int) : List (Nat × Val) := [(0, .one (.bx 1000001 0)), (1, u9 false a), (2, .one (.bx 1000005 0)), (5, .one (.ow 1000000 0)), (15, r6 false l), (16, iv l.length), (17, iv i)]
abbrev b4p (l : List Alm) (a : List Opr) (i : Int) (c : Cel) : List (Nat × Val) := [(0, .one (.bx 1000001 0)), (1, u9 false a), (2, .one (.bx 1000005 0)), (5, .one (.ow 1000000 0)), (7, .one c), (15, r6 false l), (16, iv l.length), (17, iv i)]
theorem d3u (x : Alm) : ∀ c ∈ z7 x, c.isD = true := by simp [o6, Cel.isD]
theorem d0k (i : Int) (L : List Rvp) :
  ex Tryz.prog (.reg false [gI 18 (.bin .lss (.t 17) (.t 16))] none) [] (C9 [18, 0, 1, 2, 5, 15, 16, 17] evM ((18, bv (decide (i < l.length))) :: a7E l a i) (evH l ac r L la out)) (lAS (a7E l a i) (evH l ac r L la out)) := by
 unfold lAS evH a7E waC
 exact qt
theorem c9H (i : Int) (hi : 0 ≤ i ∧ i < l.length) (L : List Rvp) :
  ex Tryz.prog (.reg false [gI 19 (.iadr 10 (.t 15) (.t 17)), gI 20 (.load true 10 (.t 19)), gI 7 (.alloc [(.string (ByteArray.mk #[])), (.string (ByteArray.mk #[])), (.int .i64 (0)), (.int .i64 (0)), (.int .i64 (0)), (.int .i64 (0)), (.int .i64 (0)), (.int .i64 (0)), (.bool false), (.string (ByteArray.mk #[]))]), gN (.store 10 (.t 7) (.t 20))] none) [] (C9 [0, 1, 2, 5, 7, 15, 16, 17] (d4R 7) (b4p l a i (.bx 7 0)) (d1L 7 (z7 (l.getD i.toNat default)) l ac r L la out)) (lAS ((18, bv (decide (i < l.length))) :: a7E l a i) (evH l ac r L la out)) := by
 unfold lAS evH d1L a7E b4p waC
 exact qt
theorem d0B (i : Int) (L : List Rvp) (hW : (wnK s (l.getD i.toNat default).k l).length ≤ 1000000) :
  ex Tryz.prog (.reg true [gI 21 (.load false 1 (.t 2)), gI 22 (.nilchk (.t 21)), gI 23 (.fadr 1 (.t 22)), gI 24 (.load false 1 (.t 23)), gI 25 (.fadr 0 (.t 7)), gI 26 (.load false 1 (.t 25)), gI 27 (.mlk 0 (.slice none 0 0) false 2 (.t 24) (.t 26)), gI 28 (.len (.t 27)), gI 29 (.mv (oI 0))] none) [] (C9 [0, 1, 2, 5, 7, 15, 16, 17, 27, 28, 29] evM (a4d l a i (wnK s (l.getD i.toNat default).k l) 0) (evH l (acM s l) r L la out)) (lAS (b4p l a i (.ep (z7 (l.getD i.toNat default)))) (evH l (acM s l) r L la out)) := by
 unfold lAS evH a4d b4p waC
 simp only [o6]
 exact qt
theorem c3L (i : Int) (hi : 0 ≤ i ∧ i ≤ 1000000) (W : List (Int × Int)) (j : Int) (L : List Rvp) :
  ex Tryz.prog (.reg false [gI 51 (.bin .add (.t 17) (oI 1)), gM 17 51] none) [] (C9 [0, 1, 2, 5, 15, 16, 17] evM (a7E l a (i + 1)) (evH l ac r L la out)) (lAS (a4d l a i W j) (evH l ac r L la out)) := by
 unfold lAS evH a7E a4d waC
 exact qt
theorem a7o (hA : a0h Alm.k l) {i : Nat} (hi : i < l.length) : wnK s (l.getD i default).k l = v7 s (l.getD i default) := by
 have h1 := a1i hA hi
 have h2 := b1o s (l.getD i default).k l 0 (by omega)
 have h3 : D0 (fun x : Alm => decide (x.k = (l.getD i default).k)) 0 l = i := h1
 grind
abbrev pL0 : List Nat := [1, 1, 0, 1, 0, 0]
abbrev pB1 : List Nat := [1, 1, 0, 1, 0, 0, 1, 1, 0, 0]
theorem d0X (hA : a0h Alm.k l) (hl : l.length ≤ 1000000) (hT : (G4 l s a).length + 1 ≤ 1000000) (hW : ∀ k, (wnK s k l).length ≤ 1000000)
  {L : List Rvp} {ok : Nat → Prop} {b : Act} {w : World} {E : Env} (hI : EvI ok0 w0 E0 gb gw ul l a [] L ok w E)
  (h : Plc Tryz.prog 88 ok (a7E l a 0) (evH l (acM s l) r L la out) b w E) {R : Exit → Act → World → Prop}
  (hR : ∀ L' ok' b' w' E', EvI ok0 w0 E0 gb gw ul l a (W5 s 0 l) L' ok' w' E' → Plc Tryz.prog 88 ok' (a7E l a l.length) (evH l (acM s l) r L' la out) b' w' E' → R .normal b' w') :
  (q6 [1, 1, 0, 1] evK).wp Tryz.prog R b w := by
 have hX : XK ≤ 1000005 := by simp [XK]
 refine b0m _ 0 (by kernel_rfl) ?_
 refine a9d [1, 1, 0, 1, 0] (by kernel_rfl) (fun n b w => ∃ (i : Int) (L' : List Rvp) (ok : Nat → Prop) (E : Env), 0 ≤ i ∧ i ≤ l.length ∧ n = (l.length - i).toNat ∧
  EvI ok0 w0 E0 gb gw ul l a (W5 s 0 (l.take i.toNat)) L' ok w E ∧ Plc Tryz.prog 88 ok (a7E l a i) (evH l (acM s l) r L' la out) b w E) l.length ⟨0, L, ok, E, by omega, by omega, by omega, by simpa [W5] using hI, h⟩ ?_
 rintro n b w ⟨i, L', ok, E, i0, i1, rfl, hI, h⟩
 refine h.seqP pL0 (by kernel_rfl) ke3 o7 _ _ (d0k i L') fun b1 w1 ok1 E1 h1 A1 => ?_
 have I1 := hI.adv A1 h.no (gbs h1 A1 hI.g)
 refine a0T (pL0 ++ [1]) (by kernel_rfl) ?_
 refine a2v (pL0 ++ [1, 0]) (.tmp 18) (by kernel_rfl) (h1.bool rfl) (fun hb => ?_) (fun hb => ?_)
 rotate_left
 ·refine a4P (pL0 ++ [1, 0, 1]) 0 (by kernel_rfl) ?_
  have hj : i = l.length := by have := of_decide_eq_false hb; omega
  subst hj
  simp only [Exit.then, Exit.inBlock, if_true]
  refine hR L' ok1 b1 w1 E1 ?_ (h1.tail rfl rfl)
  have : l.take (l.length : Int).toNat = l := List.take_of_length_le (by omega)
  rw [this] at I1
  exact I1
 have hb := of_decide_eq_true hb
 refine a2g (pL0 ++ [1, 0, 0]) (by kernel_rfl) ?_
 simp only [Exit.then]
 refine a0T (pL0 ++ [1, 1]) (by kernel_rfl) ?_
 refine b0m (pL0 ++ [1, 1, 0]) 1 (by kernel_rfl) ?_
 refine h1.seqP pB1 (by kernel_rfl) ke4 o7 _ _ (c9H i ⟨i0, hb⟩ L') fun b2 w2 ok2 E2 h2 A2 => ?_
 have I2 := I1.adv A2 h1.no (gbs h2 A2 I1.g)
 obtain ⟨g7, ok3, hg7, h3, A3⟩ := h2.freeze 7 (cs := z7 (l.getD i.toNat default)) rfl (d3u _)
 have h4 : Plc Tryz.prog 88 ok3 (b4p l a i (.ep (z7 (l.getD i.toNat default)))) (evH l (acM s l) r L' la out) b2 w2 (E2.del 7) := h3
 have I3 := I2.adv A3 h2.no (gbs h4 A3 I2.g)
 clear h3 h2
 refine h4.seqP (pB1 ++ [1]) (by kernel_rfl) ke5 o7 _ _ (d0B i L' (hW _)) fun b3 w3 ok4 E3 h5 A4 => ?_
 have I4 := I3.adv A4 h4.no (gbs h5 A4 I3.g)
 rw [a7o hA (show i.toNat < l.length by omega)] at h5
 have hWl := hW (l.getD i.toNat default).k
 rw [a7o hA (show i.toNat < l.length by omega)] at hWl
 refine d2A hWl (fun j => ?_) I4 h5 fun L'' ok' b' w' E' hI' h' => ?_
 ·have := c9t s l a i.toNat (by omega) j
  grind
 simp only [Exit.inBlock, Exit.then]
 refine h'.code1 d5a o7 _ _ (c3L i ⟨i0, by omega⟩ _ _ L'') fun b4 w4 ok5 E4 h6 A5 => ?_
 refine ⟨(l.length - (i + 1)).toNat, by omega, i + 1, L'', ok5, E4, by omega, by omega, rfl, ?_, h6⟩
 rw [show (i + 1).toNat = i.toNat + 1 by omega, a4M s l i.toNat (by omega)]
 exact hI'.adv A5 h'.no (gbs h6 A5 hI'.g)
end
section
variable {ok0 : Nat → Prop} {w0 : World} {E0 : Env} {gb gw : Nat} {ul : Value} {l : List Alm} {s : List Ser} {a : List Opr} {ac : List (List Cel)} {r : Rst} {la : List (ByteArray × Int)} {out : List Std}
abbrev a5Q (a : List Opr) (k : Int) : List (Nat × Val) := [(2, .one (.bx 1000005 0)), (5, .one (.ow 1000000 0)), (52, u9 false a), (53, iv a.length), (54, iv k)]
abbrev a2m (a : List Opr) (k : Int) (c d : Cel) : List (Nat × Val) := [(2, .one (.bx 1000005 0)), (5, .one (.ow 1000000 0)), (10, .one c), (11, .one d), (52, u9 false a), (53, iv a.length), (54, iv k)]
abbrev N6 (a : List Opr) (k : Int) : List (Nat × Val) := a2m a k (.ep [.g (.int .i64 k)]) (.ep (N7 (a.getD k.toNat default)))
theorem c5K (i : Int) (L : List Rvp) :
  ex Tryz.prog (.reg false [gM 52 1, gI 53 (.len (.t 52)), gI 54 (.mv (oI 0))] none) [] (C9 [2, 5, 52, 53, 54] evM (a5Q a 0) (evH l ac r L la out)) (lAS (a7E l a i) (evH l ac r L la out)) := by
 unfold lAS evH a7E a5Q waC
 exact qt
theorem c3e (k : Int) (L : List Rvp) :
  ex Tryz.prog (.reg false [gI 55 (.bin .lss (.t 54) (.t 53))] none) [] (C9 [55, 2, 5, 52, 53, 54] evM ((55, bv (decide (k < a.length))) :: a5Q a k) (evH l ac r L la out)) (lAS (a5Q a k) (evH l ac r L la out)) := by
 unfold lAS evH a5Q waC
 exact qt
theorem c1A (k : Int) (hk : 0 ≤ k ∧ k < a.length) (L : List Rvp) :
  ex Tryz.prog (.reg false [gM 56 54, gI 57 (.iadr 6 (.t 52) (.t 54)), gI 58 (.load true 6 (.t 57)), gI 10 (.alloc [(.int .i64 (0))]), gI 11 (.alloc [(.string (ByteArray.mk #[])), (.int .i64 (0)), (.int .i64 (0)), (.int .i64 (0)), (.string (ByteArray.mk #[])), (.int .i64 (0))]), gN (.store 1 (.t 10) (.t 56)), gN (.store 6 (.t 11) (.t 58))] none) [] (C9 [2, 5, 10, 11, 52, 53, 54] ⟨[1000001, 1000005, 10, 11], [1000002, 1000003, 1000004, 1000000, 1000007], [], [], []⟩ (a2m a k (.bx 10 0) (.bx 11 0))
   ⟨[(1000001, waC l ac), (1000005, [.bx 1000001 0]), (10, [.g (.int .i64 k)]), (11, N7 (a.getD k.toNat default))], (evH l ac r L la out).rs⟩) (lAS ((55, bv (decide (k < a.length))) :: a5Q a k) (evH l ac r L la out)) := by
 unfold lAS evH a5Q a2m waC
 exact qt
abbrev d1N (a : List Opr) (k : Int) (x : Opr) : List (Nat × Val) := (59, .one (.ow 1000000 0)) :: (61, iv x.at_) :: (63, sv x.b) :: (65, iv x.no) :: N6 a k
theorem b6E (k : Int) (L : List Rvp) :
  ex Tryz.prog (.reg false [gM 59 5, gI 60 (.fadr 2 (.t 11)), gI 61 (.load false 1 (.t 60)), gI 62 (.fadr 0 (.t 11)), gI 63 (.load false 1 (.t 62)), gI 64 (.fadr 1 (.t 11)), gI 65 (.load false 1 (.t 64))] none) [] (C9 [59, 61, 63, 65, 2, 5, 10, 11, 52, 53, 54] evM (d1N a k (a.getD k.toNat default)) (evH l ac r L la out)) (lAS (N6 a k) (evH l ac r L la out)) := by
 generalize hx : a.getD k.toNat default = x
 unfold lAS evH d1N N6 a2m waC
 rw [hx]
 simp only [u3]
 exact qt
theorem b6M (k : Int) (L : List Rvp) (hL : L.length ≤ 1000000) (x : Opr) (fv : Value) (d : Rdo) :
  ex Tryz.prog (.reg false [gI 67 (.build [(.int .i64 (0)), (.int .i64 (0)), (.string (ByteArray.mk #[])), (.int .i64 (0)), .nilFunc] [(0, 1, (.t 61)), (1, 1, (oI 2)), (2, 1, (.t 63)), (3, 1, (.t 65)), (4, 1, (.t 66))]), gI 68 (.bslice 5 1 [(.t 67)]), gI 69 (.append 146 5 48 (.t 59) (.t 68)), gM 5 69] none) [] (C9 [2, 5, 10, 11, 52, 53, 54] evM (N6 a k) (evH l ac r (L ++ [⟨⟨x.at_, 2, x.b, x.no, d⟩, fv⟩]) la out)) (lAS ((66, .one (.g fv)) :: d1N a k x) (evH l ac r L la out)) := by
 unfold lAS evH d1N N6 a2m waC
 refine qv ?_
 rw [B1, List.map_append]; rfl
theorem c3p (k : Int) (L : List Rvp) :
  ex Tryz.prog (.reg false [gI 70 (.fadr 3 (.t 11)), gI 71 (.load false 1 (.t 70)), gI 72 (.bin .eql (.t 71) (oI 2)), gM 73 72, gG 74 73 true (.fadr 5 (.t 11)), gG 75 73 true (.load false 1 (.t 74)), gG 76 73 true (.bin .lss (.t 75) (oI 345686400000)), gI 77 (.pick (.t 73) (.t 76) (.v (.bool false)))] none) [] (C9 [77, 2, 5, 10, 11, 52, 53, 54] evM ((77, bv (decide ((a.getD k.toNat default).kd = 2 ∧ (a.getD k.toNat default).un < 345686400000))) :: N6 a k) (evH l ac r L la out)) (lAS (N6 a k) (evH l ac r L la out)) := by
 generalize hx : a.getD k.toNat default = x
 unfold lAS evH N6 a2m waC
 rw [hx]
 simp only [u3]
 by_cases c : x.kd = 2
 ·rw [show decide (x.kd = 2 ∧ x.un < 345686400000) = decide (x.un < 345686400000) by simp [c]]
  exact qt
 ·rw [decide_eq_false (fun h => c h.1)]
  exact qt
abbrev c6m (a : List Opr) (k : Int) (x : Opr) (c : Cel) : List (Nat × Val) := (78, .one (.ow 1000000 0)) :: (81, .ag [.g (.int .i64 x.un), .g (.int .i64 1), .g (.string emp), .g (.int .i64 0), c]) :: N6 a k
theorem b6f (k : Int) (L : List Rvp) (v : Val) :
  ex Tryz.prog (.reg false [gM 78 5, gI 79 (.fadr 5 (.t 11)), gI 80 (.load false 1 (.t 79)), gI 81 (.build [(.int .i64 (0)), (.int .i64 (0)), (.string (ByteArray.mk #[])), (.int .i64 (0)), .nilFunc] [(0, 1, (.t 80)), (1, 1, (oI 1)), (4, 1, (.f 152))])] none) [] (C9 [78, 81, 2, 5, 10, 11, 52, 53, 54] evM (c6m a k (a.getD k.toNat default) (.fn 152 [])) (evH l ac r L la out)) (lAS ((77, v) :: N6 a k) (evH l ac r L la out)) := by
 generalize hx : a.getD k.toNat default = x
 unfold lAS evH c6m N6 a2m waC
 rw [hx]
 simp only [u3]
 exact qt
theorem b8i (k : Int) (L : List Rvp) (hL : L.length ≤ 1000000) (x : Opr) (fv : Value) (d : Rdo) :
  ex Tryz.prog (.reg false [gI 82 (.bslice 5 1 [(.t 81)]), gI 83 (.append 146 5 48 (.t 78) (.t 82)), gM 5 83] none) [] (C9 [2, 5, 10, 11, 52, 53, 54] evM (N6 a k) (evH l ac r (L ++ [⟨⟨x.un, 1, emp, 0, d⟩, fv⟩]) la out)) (lAS (c6m a k x (.g fv)) (evH l ac r L la out)) := by
 unfold lAS evH c6m N6 a2m waC
 refine qv ?_
 rw [B1, List.map_append]; rfl
theorem c1I (k : Int) (hk : 0 ≤ k ∧ k ≤ 1000000) (L : List Rvp) :
  ex Tryz.prog (.reg false [gI 84 (.bin .add (.t 54) (oI 1)), gM 54 84] none) [] (C9 [2, 5, 52, 53, 54] evM (a5Q a (k + 1)) (evH l ac r L la out)) (lAS (N6 a k) (evH l ac r L la out)) := by
 unfold lAS evH N6 a2m a5Q waC
 exact qt
theorem d3a (x : Opr) : ∀ c ∈ N7 x, c.isD = true := by simp [u3, Cel.isD]
abbrev pB5 : List Nat := [1, 1, 1, 0, 1, 0, 0, 1, 1, 0, 0]
theorem c9F {k : Int} {M : List Rev} {L : List Rvp} {ok : Nat → Prop} {b : Act} {w : World} {E : Env} (hI : EvI ok0 w0 E0 gb gw ul l a M L ok w E) (hM : M.length ≤ 1000000)
  (h : Plc Tryz.prog 88 ok (N6 a k) (evH l ac r L la out) b w E) {Q : Exit → Act → World → Prop}
  (hN : ∀ L' ok' b' w' E', EvI ok0 w0 E0 gb gw ul l a (M ++ if (a.getD k.toNat default).kd = 2 ∧ (a.getD k.toNat default).un < 345686400000 then [⟨(a.getD k.toNat default).un, 1, emp, 0, .nop⟩] else []) L' ok' w' E' → Plc Tryz.prog 88 ok' (N6 a k) (evH l ac r L' la out) b' w' E' → Q .normal b' w') : (q6 [1, 1, 1, 0, 1, 0, 0, 1, 1, 0, 0, 1, 1] evK).wp Tryz.prog Q b w := by
 have hX : XK ≤ 1000005 := by simp [XK]
 have hl := hI.len
 refine h.seqP _ (by kernel_rfl) d5D o7 _ _ (c3p k L) fun b1 w1 ok1 E1 h1 A1 => ?_
 have I1 := hI.adv A1 h.no (gbs h1 A1 hI.g)
 refine a2v [1, 1, 1, 0, 1, 0, 0, 1, 1, 0, 0, 1, 1, 1] (.tmp 77) (by kernel_rfl) (h1.bool rfl) (fun hb => ?_) (fun hb => ?_)
 ·have hb := of_decide_eq_true hb
  refine d1G p18 (l := opE p18) (by kernel_rfl) ?_
  have e : opE p18 = (opE p18).take 4 ++ ((opE p18).drop 4 ++ []) := by rw [List.append_nil, List.take_append_drop]
  have e2 : wpList Tryz.prog (opE p18).toArray Q (opE p18) b1 w1 = wpList Tryz.prog (opE p18).toArray Q ((opE p18).take 4 ++ ((opE p18).drop 4 ++ [])) b1 w1 := by rw [← e]
  rw [e2]
  refine h1.ops1 d5u o7 _ _ (b6f k L _) fun b2 w2 ok2 E2 h2 A2 => ?_
  have I2 := I1.adv A2 h1.no (gbs h2 A2 I1.g)
  have h3 : Plc Tryz.prog 88 ok2 (c6m a k (a.getD k.toNat default) (.g (.func (.func 152) #[] #[]))) (evH l ac r L la out) b2 w2 E2 := by
   refine h2.set _ fun p hp => ?_
   simp only [List.mem_cons, List.not_mem_nil, or_false] at hp
   rcases hp with rfl | rfl | rfl | rfl | rfl | rfl | rfl | rfl | rfl
   ·exact h2.tm 78
   ·exact VRel.unf (h2.tm 81)
   ·exact h2.tm 2
   ·exact h2.tm 5
   ·exact h2.tm 10
   ·exact h2.tm 11
   ·exact h2.tm 52
   ·exact h2.tm 53
   ·exact h2.tm 54
  refine h3.ops1 d6w o7 _ _ (b8i k L (by omega) _ _ .nop) fun b4 w4 ok4 E4 h4 A4 => ?_
  have I3 := I2.snoc (x := ⟨⟨(a.getD k.toNat default).un, 1, emp, 0, .nop⟩, .func (.func 152) #[] #[]⟩) rfl
  refine hN _ ok4 b4 w4 E4 ?_ h4
  rw [if_pos hb]
  exact I3.adv A4 h3.no (gbs h4 A4 I3.g)
 ·have hb := of_decide_eq_false hb
  refine a2g [1, 1, 1, 0, 1, 0, 0, 1, 1, 0, 0, 1, 1, 1, 1] (by kernel_rfl) ?_
  refine hN _ ok1 b1 w1 E1 ?_ (h1.tail rfl rfl)
  grind
theorem d1X {k : Int} (hk : 0 ≤ k ∧ k < a.length) {M : List Rev} {L : List Rvp} {ok : Nat → Prop} {b : Act} {w : World} {E : Env} (hI : EvI ok0 w0 E0 gb gw ul l a M L ok w E) (hM : M.length + 1 ≤ 1000000)
  (h : Plc Tryz.prog 88 ok ((55, bv (decide (k < a.length))) :: a5Q a k) (evH l ac r L la out) b w E) {Q : Exit → Act → World → Prop}
  (hN : ∀ L' ok' b' w' E', EvI ok0 w0 E0 gb gw ul l a (M ++ rvB k.toNat (a.getD k.toNat default)) L' ok' w' E' → Plc Tryz.prog 88 ok' (N6 a k) (evH l ac r L' la out) b' w' E' → Q .normal b' w') : (q6 pB5 evK).wp Tryz.prog Q b w := by
 have hX : XK ≤ 1000005 := by simp [XK]
 refine h.seqP pB5 (by kernel_rfl) d6i o7 _ _ (c1A k hk L) fun b1 w1 ok1 E1 h1 A1 => ?_
 have I1 := hI.adv A1 h.no (gbs h1 A1 hI.g)
 obtain ⟨g10, ok2, hg10, h2, A2⟩ := h1.freeze 10 (cs := [.g (.int .i64 k)]) rfl (by simp [Cel.isD])
 have h3 : Plc Tryz.prog 88 ok2 (a2m a k (.ep [.g (.int .i64 k)]) (.bx 11 0)) ⟨[(1000001, waC l ac), (1000005, [.bx 1000001 0]), (11, N7 (a.getD k.toNat default))], (evH l ac r L la out).rs⟩ b1 w1 (E1.del 10) := h2
 have I2 := I1.adv A2 h1.no (gbs h3 A2 I1.g)
 obtain ⟨g11, ok3, hg11, h4, A3⟩ := h3.freeze 11 (cs := N7 (a.getD k.toNat default)) rfl (d3a _)
 have h5 : Plc Tryz.prog 88 ok3 (N6 a k) (evH l ac r L la out) b1 w1 ((E1.del 10).del 11) := h4
 have I3 := I2.adv A3 h3.no (gbs h5 A3 I2.g)
 clear h4 h3 h2 h1
 have hl := I3.len
 refine a0T (pB5 ++ [1]) (by kernel_rfl) ?_
 refine h5.regMk p16 (l := opE p16) (A := (opE p16).take 7) (o := (opE p16).getD 7 default) (B := (opE p16).drop 8) (by kernel_rfl) (by kernel_rfl) d5g d5Q d5M (by kernel_rfl) (by kernel_rfl) (by omega) o7 _ _ (b6E k L) o7 _ _ (tl2 := fun _ => N6 a k) (H2 := fun fv => evH l ac r (L ++ [⟨⟨(a.getD k.toNat default).at_, 2, (a.getD k.toNat default).b, (a.getD k.toNat default).no, .act k.toNat⟩, fv⟩]) la out)
  (fun fv => b6M k L (by omega) (a.getD k.toNat default) fv (.act k.toNat)) fun b3 w3 ok4 E3 h6 A4 fv hfv b4 w4 ok5 E4 h7 A5 => ?_
 have I4 := I3.adv A4 h5.no (gbs h6 A4 I3.g)
 have I5 := I4.snoc (x := ⟨⟨(a.getD k.toNat default).at_, 2, (a.getD k.toNat default).b, (a.getD k.toNat default).no, .act k.toNat⟩, fv⟩) ⟨b3.eval (.tmp 11), b3.eval (.tmp 10), by
  have e2 := h6.ptr (t := 2) rfl I4.g.1
  rw [hfv]; simp [e2], h6.epv (t := 11) rfl, by
  have := h6.epv (t := 10) rfl
  rw [show ((k.toNat : Nat) : Int) = k by omega]
  exact this⟩
 have I6 := I5.adv A5 h6.no (gbs h7 A5 I5.g)
 simp only [Exit.then]
 refine c9F I6 (by simpa using hM) h7 fun L' ok' b' w' E' hI' h' => hN L' ok' b' w' E' ?_ h'
 rw [rvB]
 grind
abbrev pL4 : List Nat := [1, 1, 1, 0, 1, 0, 0]
theorem c8b (ha : a.length ≤ 1000000) (hT : (G4 l s a).length + 1 ≤ 1000000)
  {L : List Rvp} {ok : Nat → Prop} {b : Act} {w : World} {E : Env} (hI : EvI ok0 w0 E0 gb gw ul l a (W5 s 0 l) L ok w E)
  (h : Plc Tryz.prog 88 ok (a5Q a 0) (evH l ac r L la out) b w E) {R : Exit → Act → World → Prop}
  (hR : ∀ L' ok' b' w' E', EvI ok0 w0 E0 gb gw ul l a (G4 l s a) L' ok' w' E' → Plc Tryz.prog 88 ok' (a5Q a a.length) (evH l ac r L' la out) b' w' E' → R .normal b' w') :
  (q6 [1, 1, 1, 0, 1] evK).wp Tryz.prog R b w := by
 have hX : XK ≤ 1000005 := by simp [XK]
 refine b0m _ 4 (by kernel_rfl) ?_
 refine a9d [1, 1, 1, 0, 1, 0] (by kernel_rfl) (fun n b w => ∃ (k : Int) (L' : List Rvp) (ok : Nat → Prop) (E : Env), 0 ≤ k ∧ k ≤ a.length ∧ n = (a.length - k).toNat ∧
  EvI ok0 w0 E0 gb gw ul l a (W5 s 0 l ++ a0f 0 (a.take k.toNat)) L' ok w E ∧ Plc Tryz.prog 88 ok (a5Q a k) (evH l ac r L' la out) b w E) a.length ⟨0, L, ok, E, by omega, by omega, by omega, by simpa [a0f] using hI, h⟩ ?_
 rintro n b w ⟨k, L', ok, E, k0, k1, rfl, hI, h⟩
 refine h.seqP pL4 (by kernel_rfl) d4U o7 _ _ (c3e k L') fun b1 w1 ok1 E1 h1 A1 => ?_
 have I1 := hI.adv A1 h.no (gbs h1 A1 hI.g)
 refine a0T (pL4 ++ [1]) (by kernel_rfl) ?_
 refine a2v (pL4 ++ [1, 0]) (.tmp 55) (by kernel_rfl) (h1.bool rfl) (fun hb => ?_) (fun hb => ?_)
 rotate_left
 ·refine a4P (pL4 ++ [1, 0, 1]) 4 (by kernel_rfl) ?_
  have hj : k = a.length := by have := of_decide_eq_false hb; omega
  subst hj
  simp only [Exit.then, Exit.inBlock, if_true]
  refine hR L' ok1 b1 w1 E1 ?_ (h1.tail rfl rfl)
  have : a.take (a.length : Int).toNat = a := List.take_of_length_le (by omega)
  rw [this] at I1
  exact I1
 have hb := of_decide_eq_true hb
 refine a2g (pL4 ++ [1, 0, 0]) (by kernel_rfl) ?_
 simp only [Exit.then]
 refine a0T (pL4 ++ [1, 1]) (by kernel_rfl) ?_
 refine b0m (pL4 ++ [1, 1, 0]) 5 (by kernel_rfl) ?_
 refine d1X ⟨k0, hb⟩ I1 ?_ h1 fun L'' ok' b' w' E' hI' h' => ?_
 ·have := d1o s l a k.toNat
  grind
 simp only [Exit.inBlock, Exit.then]
 refine h'.code1 d5H o7 _ _ (c1I k ⟨k0, by omega⟩ L'') fun b4 w4 ok5 E4 h6 A5 => ?_
 refine ⟨(a.length - (k + 1)).toNat, by omega, k + 1, L'', ok5, E4, by omega, by omega, rfl, ?_, h6⟩
 rw [show (k + 1).toNat = k.toNat + 1 by omega, b3h a k.toNat (by omega), ← List.append_assoc]
 exact hI'.adv A5 h'.no (gbs h6 A5 hI'.g)
end
section
variable {l : List Alm} {s : List Ser} {a : List Opr} {ac : List (List Cel)} {r : Rst} {la : List (ByteArray × Int)} {out : List Std}
abbrev b0v (l : List Alm) (ac : List (List Cel)) (r : Rst) (la : List (ByteArray × Int)) (out : List Std) : Hp := ⟨[(1000001, waC l ac)], [(1000002, mpR r.st), (1000003, mpR r.sh), (1000004, n9 r.ig), (1000007, mpR la)]⟩
abbrev b6G (l : List Alm) (ac : List (List Cel)) (r : Rst) (la : List (ByteArray × Int)) (out : List Std) : Hp := ⟨[(1000001, waC l ac), (1000005, [.bx 1000001 0])], [(1000002, mpR r.st), (1000003, mpR r.sh), (1000004, n9 r.ig), (1000007, mpR la)]⟩
theorem c9k :
  ex Tryz.prog (.reg false [gI 2 (.box (.t 0)), gI 4 (.mv (.v (.slice none 0 0)))] none) [] (C9 [0, 1, 2] ⟨[1000001, 2], [1000002, 1000003, 1000004, 1000007], [], [], []⟩ [(0, .one (.bx 1000001 0)), (1, u9 false a), (2, .one (.bx 2 0))]
   ⟨[(1000001, waC l ac), (2, [.bx 1000001 0])], (b0v l ac r la out).rs⟩) (lAS (P5 0 [.one (.bx 1000001 0), u9 false a]) (b0v l ac r la out)) := by
 unfold lAS b0v waC
 exact qt
theorem c8B :
  ex Tryz.prog (.seq (.reg false [gI 5 (.mv (.v (.slice none 0 0)))] none) (.own 5 146 5)) [] (C9 [0, 1, 2, 5] ⟨[1000001, 2], [1000002, 1000003, 1000004, 5, 1000007], [], [], []⟩ [(0, .one (.bx 1000001 0)), (1, u9 false a), (2, .one (.bx 2 0)), (5, .one (.ow 5 0))]
   ⟨[(1000001, waC l ac), (2, [.bx 1000001 0])], [(1000002, mpR r.st), (1000003, mpR r.sh), (1000004, n9 r.ig), (5, B1 []), (1000007, mpR la)]⟩)
   (lAS [(0, .one (.bx 1000001 0)), (1, u9 false a), (2, .one (.bx 2 0))] ⟨[(1000001, waC l ac), (2, [.bx 1000001 0])], (b0v l ac r la out).rs⟩) := by
 unfold lAS b0v waC
 refine qv ?_
 rfl
theorem d0E :
  ex Tryz.prog (.reg false [gI 12 (.load false 1 (.t 2)), gI 13 (.nilchk (.t 12)), gI 14 (.fadr 0 (.t 13)), gI 15 (.load false 1 (.t 14)), gI 16 (.len (.t 15)), gI 17 (.mv (oI 0))] none) [] (C9 [0, 1, 2, 5, 15, 16, 17] evM (a7E l a 0) (evH l ac r [] la out)) (lAS [(0, .one (.bx 1000001 0)), (1, u9 false a), (2, .one (.bx 1000005 0)), (5, .one (.ow 1000000 0))] (evH l ac r [] la out)) := by
 unfold lAS evH a7E waC
 refine qv ?_
 rfl
theorem c2d (k : Int) (L : List Rvp) (hL : L.length ≤ 1000000) :
  ex Tryz.prog (.reg false [gM 85 5, gI 86 (.callm (.f 153) [(.t 85), (.f 154)] ⟨[], [1000000], [], [1000000], [1000000]⟩)] none) [] (C9 [5] evM [(5, .one (.ow 1000000 0))] (evH l ac r (l7 (fun x y : Rvp => a5C x.r y.r) L) la out)) (lAS (a5Q a k) (evH l ac r L la out)) := by
 have hso := b8k 154 d0n (fun x y _ _ => c8k x y) L (fun _ _ => trivial) hL
 generalize l7 (fun x y : Rvp => a5C x.r y.r) L = L2 at *
 unfold lAS evH a5Q waC
 refine qv ?_
 refine ⟨rfl, f7 hso ⟨rfl, rfl⟩ ?_⟩
 exact qt
theorem c0Z (L : List Rvp) :
  ex Tryz.prog (.reg false [gM 87 5, gM 4 87] none) [] (C9 [4] evM [(4, .one (.ow 1000000 0))] (evH l ac r L la out)) (lAS [(5, .one (.ow 1000000 0))] (evH l ac r L la out)) := by
 unfold lAS evH waC
 exact qt
theorem a6C (hA : a0h Alm.k l) (hl : l.length ≤ 1000000) (ha : a.length ≤ 1000000) (hT : (G4 l s a).length + 1 ≤ 1000000) (hW : ∀ k, (wnK s k l).length ≤ 1000000)
  {ok : Nat → Prop} {w : World} {E : Env} {vs : List Value} (hWd : Wd Tryz.prog ok (b0v l (acM s l) r la out) w E) (hlen : [Val.one (.bx 1000001 0), u9 false a].length = vs.length)
  (hargs : ∀ (i : Nat) (x : Val) (u : Value), [Val.one (.bx 1000001 0), u9 false a][i]? = some x → vs[i]? = some u → VRel w ok w.heap.size E x u) :
  Calls Tryz.prog 99 vs.toArray w (fun e w' => ∃ v ok' E' gb gw ul L, e = .returned v ∧ E.gm 1000001 = some gw ∧ E.rm 1000007 = some (0, 0, ul) ∧ Wd Tryz.prog ok' (b6G l (acM s l) r la out) w' E' ∧ EvI ok w E gb gw ul l a (W4 l s a) L ok' w' E' ∧ VRel w' ok' w'.heap.size E' (.one (.sl false 5 (L.map rvS))) v) := by
 have hX : XK ≤ 1000005 := by simp [XK]
 refine calls_of_wp (c := evK) Tryz.func99 (by kernel_rfl) ?_
 have en : Tryz.f99.ntmps = 88 := by kernel_rfl
 have er : Tryz.f99.results = #[.tmp 4] := by kernel_rfl
 rw [en]
 have h0 := Plc.start hWd hlen hargs (n := 88) (by simp) (by omega)
 rw [← a8s evK]
 refine h0.seqP [] (by kernel_rfl) ke0 (by simp [XK]) _ _ c9k fun b1 w1 ok1 E1 h1 A1 => ?_
 refine h1.seqP [1] (by kernel_rfl) ke1 (by simp [XK]) _ _ c8B fun b2 w2 ok2 E2 h2 A2 => ?_
 obtain ⟨h3, A3⟩ := h2.rn (p := swp 2 1000005) (q := swp 5 1000000) (s8 _ _) (s8 _ _) rfl
 have h4 : Plc Tryz.prog 88 ok2 [(0, .one (.bx 1000001 0)), (1, u9 false a), (2, .one (.bx 1000005 0)), (5, .one (.ow 1000000 0))] (evH l (acM s l) r [] la out) b2 w2 (E2.rn (swp 2 1000005) (swp 5 1000000)) := h3
 obtain ⟨gb, _, _, hgb, _⟩ := h4.h.bx 1000005 [.bx 1000001 0] rfl
 obtain ⟨gw, _, _, hgw, _⟩ := hWd.h.bx 1000001 (waC l (acM s l)) rfl
 have hgw3 : (E2.rn (swp 2 1000005) (swp 5 1000000)).gm 1000001 = some gw := h2.same A2 (k := 1000001) rfl (by simp [XK]) (h1.same A1 rfl (by simp [XK]) hgw)
 obtain ⟨_, _, ul, _, hul, _⟩ := hWd.h.rw 1000007 (mpR la) rfl
 have hul3 : (E2.rn (swp 2 1000005) (swp 5 1000000)).rm 1000007 = some (0, 0, ul) := by
  obtain ⟨_, _, u, _, q1, _⟩ := h2.h.rw 1000007 (mpR la) rfl
  have q2 := A1.pinM 1000007 u (by simp [XK]) (A2.pinM 1000007 u (by simp [XK]) q1)
  rw [hul] at q2
  simp only [Option.some.injEq, Prod.mk.injEq, true_and] at q2
  subst q2
  exact q1
 generalize E2.rn (swp 2 1000005) (swp 5 1000000) = E3 at *
 have I4 : EvI ok w E gb gw ul l a [] [] ok2 w2 E3 := ⟨rfl, fun x hx => by simp at hx, ⟨hgb, hgw3, hul3⟩, (A1.toAdv0.trans A2.toAdv0).trans A3⟩
 clear h3 h2 h1 h0
 refine a0T [1, 1] (by kernel_rfl) ?_
 refine h4.seqP [1, 1, 0] (by kernel_rfl) ke2 o7 _ _ d0E fun b5 w5 ok5 E5 h5 A5 => ?_
 have I5 := I4.adv A5 h4.no (gbs h5 A5 I4.g)
 refine d0X hA hl hT hW I5 h5 fun L6 ok6 b6 w6 E6 I6 h6 => ?_
 simp only [Exit.then]
 refine a0T [1, 1, 1] (by kernel_rfl) ?_
 refine h6.seqP [1, 1, 1, 0] (by kernel_rfl) d4W o7 _ _ (c5K _ L6) fun b7 w7 ok7 E7 h7 A7 => ?_
 have I7 := I6.adv A7 h6.no (gbs h7 A7 I6.g)
 refine c8b ha hT I7 h7 fun L8 ok8 b8 w8 E8 I8 h8 => ?_
 simp only [Exit.then]
 have hl8 := I8.len
 refine h8.seqP [1, 1, 1, 1] (by kernel_rfl) d5j o7 _ _ (c2d _ L8 (by omega)) fun b9 w9 ok9 E9 h9 A9 => ?_
 have I9' := I8.adv A9 h8.no (gbs h9 A9 I8.g)
 have I9 : EvI ok w E gb gw ul l a (W4 l s a) (l7 (fun x y : Rvp => a5C x.r y.r) L8) ok9 w9 E9 := ⟨by rw [a5s (d := a5C) (f := fun x : Rvp => x.r) (fun _ _ => rfl), I9'.m]; rfl, fun x hx => I9'.c x (ssort_mem.1 hx), I9'.g, I9'.a⟩
 generalize l7 (fun x y : Rvp => a5C x.r y.r) L8 = L9 at *
 refine h9.seqP [1, 1, 1, 1, 1] (by kernel_rfl) d6b o7 _ _ (c0Z L9) fun b10 w10 ok10 E10 h10 A10 => ?_
 have I10 := I9.adv A10 h9.no (gbs h10 A10 I9.g)
 obtain ⟨ok11, h11, A11⟩ := h10.frzRow 1000000 (r := B1 L9) rfl
 have h12 : Plc Tryz.prog 88 ok11 [(4, .one (.sl false 5 (L9.map rvS)))] (b6G l (acM s l) r la out) b10 w10 (E10.delR 1000000) := h11
 have I12 := I10.adv A11 h10.no (gbs h12 A11 I10.g)
 refine d4G [1, 1, 1, 1, 1, 1] (by kernel_rfl) ?_
 exact ⟨h12.defers, _, results_tmp er _ _ _, _, ok11, _, gb, gw, ul, L9, rfl, hgw, hul, h12.toWd, I12, h12.tm 4⟩
end
end Go.Proofs.YtbhgndiboeppeaaGreatDoor
