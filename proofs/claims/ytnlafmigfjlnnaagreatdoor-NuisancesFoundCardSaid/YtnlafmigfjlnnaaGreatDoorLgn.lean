/- The reference's log. -/
import Derived.Test.YtnlafmigfjlnnaaGreatDoorLgg
import Derived.Test.YtnlafmigfjlnnaaGreatDoorLog
set_option linter.all false
set_option maxHeartbeats 0
namespace Go.Proofs.YtnlafmigfjlnnaaGreatDoor
open Go Go.Ai
structure Ent (A : List Alm) (es : Array MapEntry) (c : Nat) : Prop where
 kv : es.toList.map (fun e => (e.key, e.val)) = A.map fun x => (Value.string x.k, Value.int .i64 1)
 bo : ∀ e ∈ es.toList, e.born < c
theorem Ent.push {A : List Alm} {es : Array MapEntry} {c : Nat} (h : Ent A es c) (x : Alm) : Ent (A ++ [x]) (es.push (stE x.k 1 c)) (c + 1) := by
 refine ⟨by rw [Array.toList_push, List.map_append, h.kv, List.map_append]; rfl, fun e he => ?_⟩
 rw [Array.toList_push, List.mem_append] at he
 rcases he with he | he
 ·have := h.bo e he; omega
 ·rw [List.mem_singleton.1 he]; simp [stE]
theorem Ent.key {A : List Alm} {es : Array MapEntry} {c : Nat} (h : Ent A es c) {k : ByteArray} (hk : ∀ y ∈ A, y.k ≠ k) : ∀ e ∈ es.toList, ∃ s, e.key = .string s ∧ s ≠ k := fun e he => by
 have h1 : (e.key, e.val) ∈ A.map fun x => (Value.string x.k, Value.int .i64 1) := by rw [<- h.kv]; exact List.mem_map_of_mem he
 grind
structure Mps (w0 : World) (ok0 : Nat -> Prop) (E0 : Env) (b1 b2 : Nat) (A : List Alm) (w : World) (ok : Nat -> Prop) (E : Env) : Prop where
 a : Adv0 w0 ok0 E0 w ok E
 n0 : ∀ b, ¬E0.own b
 l1 : w0.heap.size <= b1
 l2 : w0.heap.size <= b2
 ne : b1 ≠ b2
 k1 : ¬ok b1
 k2 : ¬ok b2
 o1 : ¬E.own b1
 o2 : ¬E.own b2
 m1 : ∃ es c, w.heap[b1]? = some (.map es c) ∧ Ent A es c
 m2 : ∃ es c, w.heap[b2]? = some (.map es c) ∧ Ent A es c
theorem Mps.adv {w0 : World} {ok0 : Nat -> Prop} {E0 : Env} {b1 b2 : Nat} {A : List Alm} {w w' : World} {ok ok' : Nat -> Prop} {E E' : Env} (h : Mps w0 ok0 E0 b1 b2 A w ok E) (hA : Adv0 w ok E w' ok' E') (hb : ∀ b, ok' b -> w.heap.size <= b ∨ ok b) : Mps w0 ok0 E0 b1 b2 A w' ok' E' := by
 obtain ⟨es1, c1, m1, e1⟩ := h.m1
 obtain ⟨es2, c2, m2, e2⟩ := h.m2
 have l1 : b1 < w.heap.size := (Array.getElem?_eq_some_iff.1 m1).1
 have l2 : b2 < w.heap.size := (Array.getElem?_eq_some_iff.1 m2).1
 refine ⟨h.a.trans hA, h.n0, h.l1, h.l2, h.ne, fun ho => ?_, fun ho => ?_, fun ho => ?_, fun ho => ?_, ⟨es1, c1, (hA.grew.block b1 l1 h.o1).trans m1, e1⟩, ⟨es2, c2, (hA.grew.block b2 l2 h.o2).trans m2, e2⟩⟩
 ·rcases hb b1 ho with h1 | h1
  ·omega
  ·exact h.k1 h1
 ·rcases hb b2 ho with h1 | h1
  ·omega
  ·exact h.k2 h1
 ·rcases hA.own b1 ho with h1 | h1
  ·omega
  ·exact h.o1 h1
 ·rcases hA.own b2 ho with h1 | h1
  ·omega
  ·exact h.o2 h1
section
variable {ok0 : Nat -> Prop} {w0 : World} {E0 : Env} {b1 b2 : Nat} {l : List Alm} {s : List Ser} {a : List Opr} {to : Int}
abbrev mv1 (b : Nat) : Value := .map (some b)
theorem d4c {A : List Alm} {i : Int} {x : Alm} (hk : ∀ y ∈ A, y.k ≠ x.k) {ok : Nat -> Prop} {b : Act} {w : World} {E : Env} (hI : Mps w0 ok0 E0 b1 b2 A w ok E) {A' : List Alm}
  (h : Plc Tryz.prog 133 ok (b5t l s a to (mv1 b2) i (.bx 13 0)) (b9u s l (mv1 b1) A' x) b w E) {R : Exit -> Act -> World -> Prop}
  (hR : ∀ b' w', Mps w0 ok0 E0 b1 b2 (A ++ [x]) w' ok E -> Plc Tryz.prog 133 ok (b5t l s a to (mv1 b2) i (.bx 13 0)) (b9u s l (mv1 b1) A' x) b' w' E -> R .normal b' w') : (o7 p7 lgK).wp Tryz.prog R b w := by
 obtain ⟨es1, c1, m1, e1⟩ := hI.m1
 obtain ⟨es2, c2, m2, e2⟩ := hI.m2
 obtain ⟨gw, cur, ty, q1, q2, q3⟩ := h.h.bx 1000001 (waI l (mv1 b1)) rfl
 obtain ⟨gx, cur', ty', r1, r2, r3⟩ := h.h.bx 13 (D0 x) rfl
 have hgw : E.own gw := .inl ⟨_, q1⟩
 have hgx : E.own gx := .inl ⟨_, r1⟩
 have e10 : b.tmps.getD 10 undef = .pointer (some ⟨gw, 0, none⟩) := h.ptr (t := 10) rfl q1
 have e13 : b.tmps.getD 13 undef = .pointer (some ⟨gx, 0, none⟩) := h.ptr (t := 13) rfl r1
 have e11 : b.tmps.getD 11 undef = .map (some b2) := by
  have := h.tm 11
  rw [show m7 (b5t l s a to (mv1 b2) i (.bx 13 0)) 11 = .one (.g (mv1 b2)) from rfl] at this
  generalize b.tmps.getD 11 undef = u at this
  cases this with
  | one h1 => exact h1.1
 have cw : w.cell? ⟨gw, 0 + 2, none⟩ = some (.map (some b1)) := by
  obtain ⟨u, h1, h2⟩ := q3.at_ (i := 2) (c := .g (mv1 b1)) rfl
  rw [cell_of_row w gw (0 + 2) cur ty (0, 0) q2, <- Array.getElem?_toList, h1, h2.1]
 have cx : w.cell? ⟨gx, 0 + 0, none⟩ = some (.string x.k) := by
  obtain ⟨u, h1, h2⟩ := r3.at_ (i := 0) (c := .g (.string x.k)) rfl
  rw [cell_of_row w gx (0 + 0) cur' ty' (0, 0) r2, <- Array.getElem?_toList, h1, h2.1]
 refine d4H (gw := gw) (gx := gx) (b1 := b1) (b2 := b2) h.size e10 e11 e13 cw cx ⟨fun e => hI.o1 (e ▸ hgw), fun e => hI.o2 (e ▸ hgw)⟩ ⟨fun e => hI.o1 (e ▸ hgx), fun e => hI.o2 (e ▸ hgx)⟩ hI.ne m1 m2 (e1.key hk) (e2.key hk) (fun e he => by have := e1.bo e he; omega) fun b' w' s1 s2 s3 r7 => ?_
 have l1 : b1 < w.heap.size := (Array.getElem?_eq_some_iff.1 m1).1
 have oth : ∀ z, ok z ∨ E.own z -> w'.heap[z]? = w.heap[z]? := fun z hz => r7.oth z (fun e => by subst e; rcases hz with h1 | h1; exact hI.k1 h1; exact hI.o1 h1) (fun e => by subst e; rcases hz with h1 | h1; exact hI.k2 h1; exact hI.o2 h1)
 refine hR b' w' ⟨⟨⟨r7.os.trans hI.a.grew.os, r7.tape.trans hI.a.grew.tape, r7.output.trans hI.a.grew.output, by rw [r7.size]; exact hI.a.grew.size, fun z hz hn => (r7.oth z (fun e => by have := hI.l1; omega) (fun e => by have := hI.l2; omega)).trans (hI.a.grew.block z hz hn)⟩, hI.a.okm, hI.a.own⟩, hI.n0, hI.l1, hI.l2, hI.ne, hI.k1, hI.k2, hI.o1, hI.o2, ⟨_, _, by have := r7.h1; simpa using this, e1.push x⟩, ⟨_, _, by have := r7.h2; simpa using this, e2.push x⟩⟩ ?_
 refine h.other r7.size oth (by rw [s1, h.size]) s2 fun p hp => s3 p.1 (.inl ?_)
 simp only [List.mem_cons, List.not_mem_nil, or_false] at hp
 grind
end
section
variable {ok0 : Nat -> Prop} {w0 : World} {E0 : Env} {b1 b2 : Nat} {l : List Alm} {s : List Ser} {a : List Opr} {to : Int}
theorem c9L (hA : a0w Alm.k l) (hl : l.length <= 1000000) (hs : s.length <= 1000000) (hG : ∀ x ∈ l, Good (a1J s x.t)) (hX : ∀ x ∈ l, (-1000000 <= x.lim ∧ x.lim <= 1000000) ∧ (0 <= x.db ∧ x.db <= 2000000) ∧ (0 <= x.on ∧ x.on <= 86400000) ∧ (0 <= x.off ∧ x.off <= 86400000))
  {ok : Nat -> Prop} {b : Act} {w : World} {E : Env} (hI : Mps w0 ok0 E0 b1 b2 [] w ok E)
  (h : Plc Tryz.prog 133 ok (liT l s a to (mv1 b2) 0) (liH s l (mv1 b1) []) b w E) {R : Exit -> Act -> World -> Prop}
  (hR : ∀ ok' b' w' E', Mps w0 ok0 E0 b1 b2 l w' ok' E' -> Plc Tryz.prog 133 ok' (liT l s a to (mv1 b2) l.length) (liH s l (mv1 b1) l) b' w' E' -> R .normal b' w') :
  (o7 [1, 1, 1, 0, 1] lgK).wp Tryz.prog R b w := by
 refine b0T _ 0 (by kernel_rfl) ?_
 refine b0f [1, 1, 1, 0, 1, 0] (by kernel_rfl) (fun n b w => ∃ (i : Int) (ok : Nat -> Prop) (E : Env), 0 <= i ∧ i <= l.length ∧ n = (l.length - i).toNat ∧
  Mps w0 ok0 E0 b1 b2 (l.take i.toNat) w ok E ∧ Plc Tryz.prog 133 ok (liT l s a to (mv1 b2) i) (liH s l (mv1 b1) (l.take i.toNat)) b w E) l.length ⟨0, ok, E, by omega, by omega, by omega, hI, h⟩ ?_
 rintro n b w ⟨i, ok, E, i0, i1, rfl, hI, h⟩
 refine h.seqPX pI0 (by kernel_rfl) kg4 a3b _ _ (c8k i) fun b1 w1 ok1 E1 h1 A1 K1 => ?_
 have I1 := hI.adv A1.toAdv0 K1
 refine a0G (pI0 ++ [1]) (by kernel_rfl) ?_
 refine a2s (pI0 ++ [1, 0]) (.tmp 31) (by kernel_rfl) (h1.bool rfl) (fun hb => ?_) (fun hb => ?_)
 rotate_left
 ·refine a4V (pI0 ++ [1, 0, 1]) 0 (by kernel_rfl) ?_
  have hj : i = l.length := by have := of_decide_eq_false hb; omega
  subst hj
  simp only [Exit.then, Exit.inBlock, if_true]
  have e : l.take (l.length : Int).toNat = l := List.take_of_length_le (by omega)
  rw [e] at I1 h1
  exact hR ok1 b1 w1 E1 I1 (h1.tail rfl rfl)
 have hb := of_decide_eq_true hb
 have hxm : l.getD i.toNat default ∈ l := f8 l _ (by omega)
 have hk : ∀ y ∈ l.take i.toNat, y.k ≠ (l.getD i.toNat default).k := fun y hy => by
  obtain ⟨j, hj, rfl⟩ := List.mem_iff_getElem.1 hy
  have hj2 : j < i.toNat := by have := hj; rw [List.length_take] at this; omega
  have e : (l.take i.toNat)[j] = l.getD j default := by
   rw [List.getElem_take, List.getD_eq_getElem?_getD, List.getElem?_eq_getElem (by omega)]; rfl
  rw [e]
  intro he
  have := N8 hA (show j < l.length by omega) (show i.toNat < l.length by omega) he
  omega
 refine a2r (pI0 ++ [1, 0, 0]) (by kernel_rfl) ?_
 simp only [Exit.then]
 refine a0G (pI0 ++ [1, 1]) (by kernel_rfl) ?_
 refine b0T (pI0 ++ [1, 1, 0]) 1 (by kernel_rfl) ?_
 refine h1.seqPX pI1 (by kernel_rfl) kg5 a3b _ _ (c8w i ⟨i0, hb⟩ _) fun b2 w2 ok2 E2 h2 A2 K2 => ?_
 have I2 := I1.adv A2.toAdv0 K2
 refine h2.seqPX (pI1 ++ [1]) (by kernel_rfl) kg6 (by simp [XK]) _ _ (d0t i _ hk hs (hG _ hxm) (hX _ hxm)) fun b3 w3 ok3 E3 h3 A3 K3 => ?_
 have I3 := I2.adv A3.toAdv0 K3
 refine d4c hk I3 h3 fun b4 w4 I4 h4 => ?_
 simp only [Exit.inBlock, Exit.then]
 refine h4.code1X kg8 (by simp [XK]) _ _ (d0B i ⟨i0, by omega⟩) fun b5 w5 ok5 E5 h5 A5 K5 => ?_
 have e : l.take (i + 1).toNat = l.take i.toNat ++ [l.getD i.toNat default] := by
  rw [show (i + 1).toNat = i.toNat + 1 by omega, B7 (show i.toNat < l.length by omega)]
 refine ⟨(l.length - (i + 1)).toNat, by omega, i + 1, ok5, E5, by omega, by omega, rfl, ?_, ?_⟩
 ·rw [e]; exact I4.adv A5.toAdv0 K5
 ·rw [e]; exact h5
end
section
variable {l : List Alm} {s : List Ser} {a : List Opr} {to : Int}
abbrev waJ (l : List Alm) (c1 : Cel) : List Cel := [.sl false 10 (l.map D0), .mp 1000006, c1, .mp 1000003, .ow 1000004 0]
abbrev c7k (l : List Alm) (s : List Ser) (a : List Opr) (to : Int) (c : Cel) : List (Nat × Val) := [(0, r6 false l), (1, B1 false s), (2, F7 false a), (3, iv to), (10, .one (.bx 1000001 0)), (11, .one c)]
theorem d2i :
  ex Tryz.prog (.reg false [gI 27 (.mkm 0), gM 11 27] none) [] (C9 [0, 1, 2, 3, 10, 11] ⟨[1000001], [1000006, 1000002, 1000003, 1000004, 27], [], [], []⟩ (c7k l s a to (.mp 27))
   ⟨[(1000001, waJ l (.mp 1000002))], [(1000006, mpA []), (1000002, mpA []), (1000003, mpA []), (1000004, n8 []), (27, mpA [])]⟩) (lAS [(0, r6 false l), (1, B1 false s), (2, F7 false a), (3, iv to), (10, .one (.bx 1000001 0))] ⟨[(1000001, waJ l (.mp 1000002))], [(1000006, mpA []), (1000002, mpA []), (1000003, mpA []), (1000004, n8 [])]⟩) := by
 unfold lAS waJ c7k
 refine qv ?_
 rfl
theorem c8x {ok0 : Nat -> Prop} {w0 : World} {E0 : Env} (hn0 : ∀ b, ¬E0.own b) {b : Act} (h : Plc Tryz.prog 133 ok0 (O6 0 [r6 false l, B1 false s, F7 false a, iv to]) ⟨[], []⟩ b w0 E0) {R : Exit -> Act -> World -> Prop}
  (hR : ∀ b1 b2 ok' b' w' E', Mps w0 ok0 E0 b1 b2 [] w' ok' E' -> Plc Tryz.prog 133 ok' (c7k l s a to (.g (mv1 b2))) (liH s l (mv1 b1) []) b' w' E' -> (o7 [1, 1, 1] lgK).wp Tryz.prog R b' w') : (o7 [] lgK).wp Tryz.prog R b w0 := by
 refine h.seqP [] (by kernel_rfl) kg0 (by simp) _ _ c7M fun b1 w1 ok1 E1 h1 A1 => ?_
 refine h1.seqP [1] (by kernel_rfl) kg1 (by simp) _ _ c9C fun b2 w2 ok2 E2 h2 A2 => ?_
 obtain ⟨h3, A3⟩ := h2.rn (p := swp 26 1000001) (q := swp 22 1000006) (s8 _ _) (s8 _ _) rfl
 have h3 : Plc Tryz.prog 133 ok2 [(0, r6 false l), (1, B1 false s), (2, F7 false a), (3, iv to), (10, .one (.bx 1000001 0))] ⟨[(1000001, [.sl false 10 (l.map D0), .mp 1000006, .mp 23, .mp 24, .ow 400026 0])], [(1000006, mpA []), (23, mpA []), (24, mpA []), (400026, n8 [])]⟩ b2 w2 _ := h3
 obtain ⟨h4, A4⟩ := h3.rn (p := fun k => k) (q := swp 23 1000002) (fun _ => rfl) (s8 _ _) rfl
 have h4 : Plc Tryz.prog 133 ok2 [(0, r6 false l), (1, B1 false s), (2, F7 false a), (3, iv to), (10, .one (.bx 1000001 0))] ⟨[(1000001, [.sl false 10 (l.map D0), .mp 1000006, .mp 1000002, .mp 24, .ow 400026 0])], [(1000006, mpA []), (1000002, mpA []), (24, mpA []), (400026, n8 [])]⟩ b2 w2 _ := h4
 obtain ⟨h5, A5⟩ := h4.rn (p := fun k => k) (q := swp 24 1000003) (fun _ => rfl) (s8 _ _) rfl
 have h5 : Plc Tryz.prog 133 ok2 [(0, r6 false l), (1, B1 false s), (2, F7 false a), (3, iv to), (10, .one (.bx 1000001 0))] ⟨[(1000001, [.sl false 10 (l.map D0), .mp 1000006, .mp 1000002, .mp 1000003, .ow 400026 0])], [(1000006, mpA []), (1000002, mpA []), (1000003, mpA []), (400026, n8 [])]⟩ b2 w2 _ := h5
 obtain ⟨h6, A6⟩ := h5.rn (p := fun k => k) (q := swp 400026 1000004) (fun _ => rfl) (s8 _ _) rfl
 have h6 : Plc Tryz.prog 133 ok2 [(0, r6 false l), (1, B1 false s), (2, F7 false a), (3, iv to), (10, .one (.bx 1000001 0))] ⟨[(1000001, waJ l (.mp 1000002))], [(1000006, mpA []), (1000002, mpA []), (1000003, mpA []), (1000004, n8 [])]⟩ b2 w2 _ := h6
 have B6 := ((((A1.toAdv0.trans A2.toAdv0).trans A3).trans A4).trans A5).trans A6
 clear A1 A2 A3 A4 A5 A6 h5 h4 h3 h2 h1
 generalize Env.rn _ _ _ = E6 at h6 B6
 refine h6.seqP [1, 1] (by kernel_rfl) kg2 (by simp [XK]) _ _ d2i fun b7 w7 ok7 E7 h7 A7 => ?_
 obtain ⟨h8, A8⟩ := h7.rn (p := fun k => k) (q := swp 27 1000007) (fun _ => rfl) (s8 _ _) rfl
 have h8 : Plc Tryz.prog 133 ok7 (c7k l s a to (.mp 1000007)) ⟨[(1000001, waJ l (.mp 1000002))], [(1000006, mpA []), (1000002, mpA []), (1000003, mpA []), (1000004, n8 []), (1000007, mpA [])]⟩ b7 w7 _ := h8
 have B8 := (B6.trans A7.toAdv0).trans A8
 clear A7 A8 h7 h6 B6
 generalize Env.rn _ _ _ = E8 at h8 B8
 obtain ⟨x1, es1, c1, m1, z1, k1, o1, w1', h9, A9⟩ := h8.forget 1000002 (r := mpA []) rfl rfl
 have h9 : Plc Tryz.prog 133 ok7 (c7k l s a to (.mp 1000007)) ⟨[(1000001, waJ l (.g (mv1 x1)))], [(1000006, mpA []), (1000003, mpA []), (1000004, n8 []), (1000007, mpA [])]⟩ b7 w7 _ := h9
 obtain ⟨x2, es2, c2, m2, z2, k2, o2, w2', h10, A10⟩ := h9.forget 1000007 (r := mpA []) rfl rfl
 have h10 : Plc Tryz.prog 133 ok7 (c7k l s a to (.g (mv1 x2))) (liH s l (mv1 x1) []) b7 w7 _ := h10
 have l1 : x1 < w7.heap.size := (Array.getElem?_eq_some_iff.1 m1).1
 have hent : ∀ {es : Array MapEntry} {c : Nat}, es.size = (mpA []).es.length -> Ent [] es c := fun {es c} hz => by
  have : es = #[] := by simpa using hz
  subst this
  exact ⟨rfl, fun e he => by simp at he⟩
 refine hR x1 x2 ok7 b7 w7 _ ⟨(B8.trans A9.toAdv0).trans A10.toAdv0, hn0, ?_, ?_, ?_, k1, k2, ?_, o2, ⟨es1, c1, m1, hent z1⟩, ⟨es2, c2, m2, hent z2⟩⟩ h10
 ·exact (B8.own x1 w1').resolve_right (hn0 x1)
 ·exact ((B8.trans A9.toAdv0).own x2 w2').resolve_right (hn0 x2)
 ·intro e; subst e; exact o1 w2'
 ·intro ho
  rcases A10.own x1 ho with h1 | h1
  ·omega
  ·exact o1 h1
end
def in1 (l : List Alm) : List (ByteArray × Int) := l.map fun x => (x.k, 1)
theorem a6X {w : World} {ok : Nat -> Prop} {base : Nat} : ∀ A : List Alm, RRel w ok base (mST (in1 A)).flatten ((A.map fun x => [Value.string x.k, Value.int .i64 1]).flatten)
 | [] => .nil
 | x :: A => by
  have h : RRel w ok base [Cel.g (.string x.k), Cel.g (.int .i64 1)] [Value.string x.k, Value.int .i64 1] := ⟨rfl, fun i c u h1 h2 => by
   match i with
   | 0 => simp at h1 h2; subst h1; subst h2; exact ⟨rfl, rfl, rfl⟩
   | 1 => simp at h1 h2; subst h1; subst h2; exact ⟨rfl, rfl, rfl⟩
   | i + 2 => simp at h1⟩
  exact h.append (a6X A)
theorem Ent.flat {A : List Alm} {es : Array MapEntry} {c : Nat} (h : Ent A es c) : es.toList.map (fun e => [e.key, a0z e.val]) = A.map fun x => [Value.string x.k, Value.int .i64 1] := by
 have h1 := congrArg (List.map fun p : Value × Value => [p.1, a0z p.2]) h.kv
 rw [List.map_map, List.map_map] at h1
 exact h1
theorem Ent.ok {A : List Alm} {es : Array MapEntry} {c : Nat} (h : Ent A es c) : ∀ e ∈ es.toList, Go.Ai.l8 0 e.key = true ∧ vOk 0 e.val := fun e he => by
 have h1 : (e.key, e.val) ∈ A.map fun x => (Value.string x.k, Value.int .i64 1) := by rw [<- h.kv]; exact List.mem_map_of_mem he
 obtain ⟨x, hx, hxe⟩ := List.mem_map.1 h1
 simp only [Prod.mk.injEq] at hxe
 rw [<- hxe.1, <- hxe.2]
 exact ⟨rfl, by unfold vOk; rw [if_pos (by omega)]; rfl⟩
theorem Ent.len {A : List Alm} {es : Array MapEntry} {c : Nat} (h : Ent A es c) : es.size = (mST (in1 A)).length := by
 have := congrArg List.length h.kv
 simpa [mST, in1] using this
theorem a9f (A : List Alm) : a9H (mST (in1 A)) := fun e he => by
 unfold mST at he
 obtain ⟨p, hp, rfl⟩ := List.mem_map.1 he
 exact ⟨_, _, rfl⟩
section
variable {l : List Alm} {s : List Ser} {a : List Opr} {to : Int} {ac : List (List Cel)}
abbrev lkT (l : List Alm) (a : List Opr) (to : Int) : List (Nat × Val) := [(0, r6 false l), (2, F7 false a), (3, iv to), (10, .one (.bx 1000001 0)), (11, .one (.mp 1000007))]
theorem d0q (m : List (ByteArray × Int)) :
  ex Tryz.prog (.reg false [gI 14 (.mv (.v (.slice none 0 0)))] none) [] (C9 [0, 2, 3, 10, 11, 14] ⟨[1000001], [1000002, 1000003, 1000004, 1000007], [], [], []⟩ (lkT l a to ++ [(14, .one (.g (.slice none 0 0)))])
   ⟨[(1000001, waC l ac)], [(1000002, mpR m), (1000003, mpR []), (1000004, n8 []), (1000007, mpR m)]⟩) (lAS (lkT l a to) ⟨[(1000001, waC l ac)], [(1000007, mpR m), (1000002, mpR m), (1000003, mpR []), (1000004, n8 [])]⟩) := by
 unfold lAS waC lkT
 refine qv ?_
 rfl
theorem c9P {ok0 : Nat -> Prop} {w0 : World} {E0 : Env} {b1 b2 : Nat} {ok : Nat -> Prop} {b : Act} {w : World} {E : Env} {i : Int} (hI : Mps w0 ok0 E0 b1 b2 l w ok E)
  (h : Plc Tryz.prog 133 ok (liT l s a to (mv1 b2) i) (liH s l (mv1 b1) l) b w E) {R : Exit -> Act -> World -> Prop}
  (hR : ∀ ok' b' w' E', Adv0 w0 ok0 E0 w' ok' E' -> Plc Tryz.prog 133 ok' (lkT l a to ++ [(14, .one (.g (.slice none 0 0)))]) (b0U l (acM s l) ⟨in1 l, [], []⟩ (in1 l) []) b' w' E' -> (o7 [1, 1, 1, 1, 1] lgK).wp Tryz.prog R b' w') : (o7 [1, 1, 1, 1] lgK).wp Tryz.prog R b w := by
 obtain ⟨es1, c1, m1, e1⟩ := hI.m1
 obtain ⟨es2, c2, m2, e2⟩ := hI.m2
 have h1 := h.adopt (kc := 0) (m := mST (in1 l)) 1000002 rfl m1 hI.k1 hI.o1 e1.len (a9f l) (by rw [e1.flat]; exact a6X l) e1.ok
 have o2 : ¬(E.addR 1000002 (.map (some b1))).own b2 := fun ho => by
  rcases ho with hg | ⟨j, ver, z, u, hj, hu⟩
  ·exact hI.o2 (.inl hg)
  ·simp only [Env.addR] at hj
   split at hj
   ·simp only [Option.some.injEq, Prod.mk.injEq] at hj
    obtain ⟨_, _, rfl⟩ := hj
    simp only [u6, Option.some.injEq] at hu
    exact hI.ne hu
   ·exact hI.o2 (.inr ⟨j, ver, z, u, hj, hu⟩)
 have h2 := h1.adopt (kc := 0) (m := mST (in1 l)) 1000007 rfl m2 hI.k2 o2 e2.len (a9f l) (by rw [e2.flat]; exact a6X l) e2.ok
 have A2 : Adv0 w0 ok0 E0 w ok ((E.addR 1000002 (.map (some b1))).addR 1000007 (.map (some b2))) := ⟨hI.a.grew, hI.a.okm, fun z hz => by
  rcases hz with hg | ⟨j, ver, zz, u, hj, hu⟩
  ·exact hI.a.own z (.inl hg)
  ·simp only [Env.addR] at hj
   split at hj
   ·simp only [Option.some.injEq, Prod.mk.injEq] at hj
    obtain ⟨_, _, rfl⟩ := hj
    simp only [u6, Option.some.injEq] at hu
    exact .inl (hu ▸ hI.l2)
   ·split at hj
    ·simp only [Option.some.injEq, Prod.mk.injEq] at hj
     obtain ⟨_, _, rfl⟩ := hj
     simp only [u6, Option.some.injEq] at hu
     exact .inl (hu ▸ hI.l1)
    ·exact hI.a.own z (.inr ⟨j, ver, zz, u, hj, hu⟩)⟩
 have r2 : ((E.addR 1000002 (.map (some b1))).addR 1000007 (.map (some b2))).rm 1000002 = some (0, 0, .map (some b1)) := by simp [Env.addR]
 have r7 : ((E.addR 1000002 (.map (some b1))).addR 1000007 (.map (some b2))).rm 1000007 = some (0, 0, .map (some b2)) := by simp [Env.addR]
 generalize (E.addR 1000002 (.map (some b1))).addR 1000007 (.map (some b2)) = E2 at *
 have h3 := h2.box1 (cs2 := waJ l (.mp 1000002)) fun cur hc => ⟨hc.1, fun j c u hj hu => by
  match j with
  | 0 => exact hc.2 0 _ u hj hu
  | 1 => exact hc.2 1 _ u hj hu
  | 2 =>
   have h5 := hc.2 2 (.g (mv1 b1)) u rfl hu
   simp at hj; subst hj
   obtain ⟨rfl, h6⟩ := h5
   exact ⟨h6, 0, _, r2, rfl⟩
  | 3 => exact hc.2 3 _ u hj hu
  | 4 => exact hc.2 4 _ u hj hu
  | j + 5 => simp at hj⟩
 have h4 : Plc Tryz.prog 133 ok (lkT l a to) ⟨[(1000001, waJ l (.mp 1000002))], [(1000007, mpR (in1 l)), (1000002, mpR (in1 l)), (1000006, mpA (acM s l)), (1000003, mpR []), (1000004, n8 [])]⟩ b w E2 := h3.set _ fun p hp => by
  simp only [List.mem_cons, List.not_mem_nil, or_false] at hp
  rcases hp with rfl | rfl | rfl | rfl | rfl
  ·exact h3.tm 0
  ·exact h3.tm 2
  ·exact h3.tm 3
  ·exact h3.tm 10
  ·have h5 := h3.tm 11
   rw [show m7 (liT l s a to (mv1 b2) i) 11 = .one (.g (mv1 b2)) from rfl] at h5
   generalize b.tmps.getD 11 undef = u at h5
   cases h5 with
   | one h6 =>
    obtain ⟨rfl, h7⟩ := h6
    exact .one ⟨h7, 0, _, r7, rfl⟩
 obtain ⟨ok5, h5, A5⟩ := h4.frzRow 1000006 (r := mpA (acM s l)) rfl
 have h5 : Plc Tryz.prog 133 ok5 (lkT l a to) ⟨[(1000001, waC l (acM s l))], [(1000007, mpR (in1 l)), (1000002, mpR (in1 l)), (1000003, mpR []), (1000004, n8 [])]⟩ b w _ := h5
 refine h5.seqP [1, 1, 1, 1] (by kernel_rfl) kg9 (by simp [XK]) _ _ (d0q (in1 l)) fun b6 w6 ok6 E6 h6 A6 => ?_
 exact hR ok6 b6 w6 _ ((A2.trans A5.toAdv0).trans A6.toAdv0) h6
end
section
variable {l : List Alm} {s : List Ser} {a : List Opr} {to : Int} {ac : List (List Cel)} {r : Rst} {la : List (ByteArray × Int)} {out : List Std}
abbrev llT (l : List Alm) (a : List Opr) (to : Int) : List (Nat × Val) := lkT l a to ++ [(14, .one (.g (.slice none 0 0)))]
abbrev d6F : CAnn := ⟨[1000001, 1000005], [1000002, 1000003, 1000004, 1000007], [], [], []⟩
theorem c5Q :
  ex Tryz.prog (.reg false [gM 58 10, gM 59 2] none) [] (C9 [58, 59, 0, 3, 10, 11, 14] ⟨[1000001], [1000002, 1000003, 1000004, 1000007], [], [], []⟩ [(58, .one (.bx 1000001 0)), (59, F7 false a), (0, r6 false l), (3, iv to), (10, .one (.bx 1000001 0)), (11, .one (.mp 1000007)), (14, .one (.g (.slice none 0 0)))]
   (b0U l ac r la out)) (lAS (llT l a to) (b0U l ac r la out)) := by
 unfold lAS b0U waC llT lkT
 exact qt
theorem d3B : ((opG a1Z).getD 2 default).op = .call { callee := .value (.func 100), args := #[.tmp 58, .tmp 59], argTypes := #[154, 30] } := by kernel_rfl
abbrev lcT (l : List Alm) (to : Int) : List (Nat × Val) := [(0, r6 false l), (3, iv to), (10, .one (.bx 1000001 0)), (11, .one (.mp 1000007)), (14, .one (.g (.slice none 0 0)))]
theorem b6M (L : List Rvp) :
  ex Tryz.prog (.reg false [gM 15 60] none) [] (C9 [0, 3, 10, 11, 14, 15] d6F (lcT l to ++ [(15, .one (.sl false 5 (L.map rvS)))]) (b6V l ac r la out)) (lAS ((60, .one (.sl false 5 (L.map rvS))) :: lcT l to) (b6V l ac r la out)) := by
 unfold lAS b6V waC lcT
 exact qt
theorem b6Z {P : Program} {o : Oper} {b : Act} {w : World} {f : FuncId} {x y : Nat} {ts : Array TypeId} {K : Act -> World -> Prop} {Q : Exit -> Act -> World -> Prop} (ho : o.op = .call { callee := .value (.func f), args := #[.tmp x, .tmp y], argTypes := ts }) (hb : U5 P f)
  (h : Calls P f [b.eval (.tmp x), b.eval (.tmp y)].toArray w (fun e w' => ∃ v, e = .returned v ∧ K (b.put o.dst v) w')) : o.wp P b w K Q := by
 unfold Oper.wp
 rw [a0Y (us := []) ho rfl hb, Oper.upon_enter]
 refine Calls.mono (by simpa using h) ?_
 rintro e w' ⟨v, rfl, hk⟩
 exact hk
theorem c2j (hA : a0w Alm.k l) (hl : l.length <= 1000000) (ha : a.length <= 1000000) (hT : (H7 l s a).length + 1 <= 1000000) (hW : ∀ k, (wnK s k l).length <= 1000000)
  {ok0 : Nat -> Prop} {w0 : World} {E0 : Env} {ok : Nat -> Prop} {b : Act} {w : World} {E : Env} (hA0 : Adv0 w0 ok0 E0 w ok E) (h : Plc Tryz.prog 133 ok (llT l a to) (b0U l (acM s l) r la out) b w E) {R : Exit -> Act -> World -> Prop}
  (hR : ∀ gb gw ul L ok' b' w' E', EvI ok0 w0 E0 gb gw ul l a (Y6 l s a) L ok' w' E' -> Plc Tryz.prog 133 ok' [(0, r6 false l), (3, iv to), (10, .one (.bx 1000001 0)), (11, .one (.mp 1000007)), (14, .one (.g (.slice none 0 0))), (15, .one (.sl false 5 (L.map rvS)))] (b6V l (acM s l) r la out) b' w' E' -> R .normal b' w') : (o7 a1Z lgK).wp Tryz.prog R b w := by
 refine d2F a1Z d3S ?_
 have e2 : wpList Tryz.prog (opG a1Z).toArray R (opG a1Z) b w = wpList Tryz.prog (opG a1Z).toArray R ((opG a1Z).take 2 ++ (opG a1Z).getD 2 default :: ((opG a1Z).drop 3 ++ [])) b w := by rw [<- d5p]
 rw [e2]
 refine h.ops1 d2T (by simp [XK]) _ _ c5Q fun b1 w1 ok1 E1 h1 A1 => ?_
 simp only [wpList]
 rw [if_pos (by unfold Region.wanted; rw [show ((opG a1Z).getD 2 default).guard = none by kernel_rfl])]
 refine .inl (b6Z d3B ⟨Tryz.f100, Tryz.func100, by kernel_rfl, by kernel_rfl⟩ ?_)
 refine Calls.mono (a6u hA hl ha hT hW h1.toWd rfl fun i x u hx hu => ?_) ?_
 ·match i with
  | 0 => simp at hx hu; subst hx; subst hu; exact h1.tm 58
  | 1 => simp at hx hu; subst hx; subst hu; exact h1.tm 59
  | i + 2 => simp at hx
 rintro e w2 ⟨v, ok2, E2, gb, gw, ul, L, rfl, q1, q2, hWd, hI, hv⟩
 refine ⟨v, rfl, ?_⟩
 have hk := hI.a.keeps h1.no
 have hd : ((opG a1Z).getD 2 default).dst = some 60 := by kernel_rfl
 rw [hd]
 have hX : XK <= 1000005 := by simp [XK]
 have t10 := h1.ptr (t := 10) rfl q1
 have h2 : Plc Tryz.prog 133 ok2 (lcT l to) (b6V l (acM s l) r la out) b1 w2 E2 := by
  refine ⟨hWd, h1.size, h1.nx, h1.defers, fun t => ?_⟩
  have key : ∀ p ∈ lcT l to, VRel w2 ok2 w2.heap.size E2 p.2 (b1.tmps.getD p.1 undef) := fun p hp => by
   simp only [List.mem_cons, List.not_mem_nil, or_false] at hp
   rcases hp with rfl | rfl | rfl | rfl | rfl
   ·have h5 := h1.tm 0
    rw [show m7 _ 0 = r6 false l from rfl] at h5
    generalize b1.tmps.getD 0 undef = u at h5 ⊢
    cases h5 with
    | one h6 => exact .one (DRel.keep h6 hk hI.a.okm)
   ·have h5 := h1.tm 3
    rw [show m7 _ 3 = iv to from rfl] at h5
    generalize b1.tmps.getD 3 undef = u at h5 ⊢
    cases h5 with
    | one h6 => exact .one h6
   ·rw [show b1.tmps.getD 10 undef = _ from t10]
    exact .one ⟨gw, hI.g.2.1, rfl⟩
   ·have h5 := h1.tm 11
    rw [show m7 _ 11 = .one (.mp 1000007) from rfl] at h5
    generalize b1.tmps.getD 11 undef = u at h5 ⊢
    cases h5 with
    | one h6 =>
     obtain ⟨h7, v', u', h8, rfl⟩ := h6
     rw [q2] at h8
     simp only [Option.some.injEq, Prod.mk.injEq] at h8
     obtain ⟨_, _, rfl⟩ := h8
     exact .one ⟨h7, 0, _, hI.g.2.2, rfl⟩
   ·have h5 := h1.tm 14
    rw [show m7 _ 14 = .one (.g (.slice none 0 0)) from rfl] at h5
    generalize b1.tmps.getD 14 undef = u at h5 ⊢
    cases h5 with
    | one h6 => exact .one h6
  generalize lcT l to = tl at key
  induction tl with
  | nil => exact .any
  | cons p tl ih =>
   simp only [m7]
   by_cases e : t = p.1
   ·subst e; rw [if_pos rfl]; exact key p (by simp)
   ·rw [if_neg e]; exact ih fun q hq => key q (by simp [hq])
 have h3 := h2.put 60 (by omega) hv
 refine h3.ops1 d3Y (by simp [XK]) _ _ (b6M L) fun b4 w4 ok4 E4 h4 A4 => ?_
 have I2 : EvI ok0 w0 E0 gb gw ul l a (Y6 l s a) L ok2 w2 E2 := ⟨hI.m, hI.c, hI.g, (hA0.trans A1.toAdv0).trans hI.a⟩
 exact hR gb gw ul L ok4 b4 w4 E4 (I2.adv A4 h3.no (gbs h4 A4 I2.g)) h4
end
section
variable {l : List Alm} {s : List Ser} {a : List Opr} {to : Int} {ac : List (List Cel)} {r : Rst} {la : List (ByteArray × Int)} {out : List Std}
theorem c3y (L : List Rvp) :
  ex Tryz.prog (.seq (.reg false [gM 61 15, gI 62 (.len (.t 61)), gI 63 (.mv (oI 0))] none) (.own 14 96 3)) [] (C9 [0, 3, 10, 11, 14, 15, 61, 62, 63] ⟨[1000001, 1000005], [1000002, 1000003, 1000004, 1000007, 14], [], [], []⟩ [(0, r6 false l), (3, iv to), (10, .one (.bx 1000001 0)), (11, .one (.mp 1000007)), (14, .one (.ow 14 0)), (15, .one (.sl false 5 (L.map rvS))), (61, .one (.sl false 5 (L.map rvS))), (62, iv L.length), (63, iv 0)]
   ⟨[(1000001, waC l ac), (1000005, [.bx 1000001 0])], [(1000002, mpR r.st), (1000003, mpR r.sh), (1000004, n8 r.ig), (1000007, mpR la), (14, x9 [])]⟩) (lAS (lcT l to ++ [(15, .one (.sl false 5 (L.map rvS)))]) (b6V l ac r la out)) := by
 unfold lAS b6V waC lcT
 refine qv ?_
 rfl
theorem b3Q (k : ByteArray) (v : Int) : ∀ m : List (ByteArray × Int), (∀ p ∈ m, p.1 ≠ k) -> mpt k v m = m ++ [(k, v)]
 | [], _ => rfl
 | p :: m, h => by
  rw [mpt, if_neg (h p (by simp)), b3Q k v m fun q hq => h q (by simp [hq])]; rfl
theorem c1H : ∀ (A : List Alm) (m : List (ByteArray × Int)), A.Pairwise (fun x y => x.k ≠ y.k) -> (∀ x ∈ A, ∀ p ∈ m, p.1 ≠ x.k) -> A.foldl (fun m x => mpt x.k 1 m) m = m ++ in1 A
 | [], m, _, _ => by simp [in1]
 | x :: A, m, h, hm => by
  rw [List.pairwise_cons] at h
  rw [List.foldl_cons, b3Q x.k 1 m (hm x (by simp)), c1H A _ h.2 fun y hy p hp => ?_]
  ·simp [in1]
  ·rcases List.mem_append.1 hp with hp | hp
   ·exact hm y (by simp [hy]) p hp
   ·rw [List.mem_singleton.1 hp]; exact h.1 y hy
theorem d0J (hA : a0w Alm.k l) : inM l = in1 l := by
 unfold inM
 rw [c1H l [] ?_ (fun _ _ p hp => by simp at hp), List.nil_append]
 refine List.pairwise_iff_getElem.2 fun i j hi hj hij he => ?_
 have e1 : l[i] = l.getD i default := by rw [List.getD_eq_getElem?_getD, List.getElem?_eq_getElem hi]; rfl
 have e2 : l[j] = l.getD j default := by rw [List.getD_eq_getElem?_getD, List.getElem?_eq_getElem hj]; rfl
 rw [e1, e2] at he
 have := N8 hA hi hj he
 omega
theorem d0a (hA : J4 l) (hl : l.length <= 1000000) (ha : a.length <= 1000000) (hT : (H7 l s a).length + 1 <= 1000000) (hW : ∀ k, (wnK s k l).length <= 1000000) (hLl : ((Y6 l s a).length + 1) * l.length <= 1000000) (hrig : r.ig = [])
  {ok0 : Nat -> Prop} {w0 : World} {E0 : Env} {ok : Nat -> Prop} {b : Act} {w : World} {E : Env} (hA0 : Adv0 w0 ok0 E0 w ok E) (h : Plc Tryz.prog 133 ok (llT l a to) (b0U l (acM s l) r la []) b w E) {R : Exit -> Act -> World -> Prop}
  (hR : ∀ ok' b' w' E', Adv0 w0 ok0 E0 w' ok' E' -> Plc Tryz.prog 133 ok' b7Q (lgH l (acM s l) (rnR l s a to (Y6 l s a) ⟨r, la, []⟩)) b' w' E' -> (o7 [1, 1, 1, 1, 1, 1, 1] lgK).wp Tryz.prog R b' w') : (o7 [1, 1, 1, 1, 1] lgK).wp Tryz.prog R b w := by
 refine a0G [1, 1, 1, 1, 1] (by kernel_rfl) ?_
 refine c2j hA.up hl ha hT hW hA0 h fun gb gw ul L ok1 b1 w1 E1 I1 h1 => ?_
 simp only [Exit.then]
 refine a0G [1, 1, 1, 1, 1, 1] (by kernel_rfl) ?_
 refine h1.seqP [1, 1, 1, 1, 1, 1, 0] (by kernel_rfl) d6t (by simp [XK]) _ _ (c3y L) fun b2 w2 ok2 E2 h2 A2 => ?_
 have I2 := I1.adv A2 h1.no (gbs h2 A2 I1.g)
 obtain ⟨h3, A3⟩ := h2.rn (p := fun k => k) (q := swp 14 1000008) (fun _ => rfl) (s8 _ _) rfl
 have h3 : Plc Tryz.prog 133 ok2 (lgT l to L 0) (lgH l (acM s l) ⟨r, la, []⟩) b2 w2 _ := h3
 have I3 : EvI ok0 w0 E0 gb gw ul l a (Y6 l s a) L ok2 w2 (E2.rn (fun k => k) (swp 14 1000008)) := ⟨I2.m, I2.c, ⟨I2.g.1, I2.g.2.1, I2.g.2.2⟩, I2.a.trans A3⟩
 have hlen := I3.len
 refine d1y hA hl hW (by rw [hlen, Y6, e6]; omega) (by rw [hlen]; exact hLl) rfl hrig I3 h3 fun ok4 b4 w4 E4 I4 h4 => ?_
 simp only [Exit.then]
 rw [I4.m] at h4
 exact hR ok4 b4 w4 E4 I4.a h4
end
def plR (r : Row) : Prop := r.ver = 0 ∧ ∀ e ∈ r.es, ∀ c ∈ e, ∃ u, c = Cel.g u
theorem RRel.plain {w w' : World} {ok ok' : Nat -> Prop} {base base' : Nat} {cs : List Cel} {us : List Value} (hp : ∀ c ∈ cs, ∃ u, c = Cel.g u) (h : RRel w ok base cs us) : RRel w' ok' base' cs us :=
 ⟨h.1, fun i c u h1 h2 => by
  obtain ⟨h3, h4⟩ := h.2 i c u h1 h2
  obtain ⟨x, rfl⟩ := hp c (List.mem_of_getElem? h1)
  exact ⟨rfl, h4⟩⟩
theorem c5e {P : Program} {N : Nat} {ok ok' : Nat -> Prop} {tl : List (Nat × Val)} {H : Hp} {a : Act} {w w' : World} {E E' : Env} {R : Hp -> Val -> Prop} {x : Val} {v : Value} (hE : HRel w ok w.heap.size E (f7 []) (f7 []))
  (hP : Plc P N ok' tl H a w' E') (hA : Adv0 w ok E w' ok' E') (hb : H.bs = []) (hr : ∀ p ∈ H.rs, plR p.2) (hx : VRel w' (okE w ok E') w.heap.size E' x v) (hR : R H x) :
  ∃ v' H' r E', Ending.returned v = .returned v' ∧ R H' r ∧ Grew E.own w w' ∧
 HRel w' (okE w ok E') w.heap.size E' (f7 H'.bs) (f7 H'.rs) ∧ VRel w' (okE w ok E') w.heap.size E' r v' ∧
 (∀ k g g', E.gm k = some g -> E'.gm k = some g' -> g = g') ∧ (∀ k g, E'.gm k = some g -> w.heap.size <= g ∨ E.own g) ∧
 (∀ k ver z u b, E'.rm k = some (ver, z, u) -> (u6 u) = some b -> w.heap.size <= b ∨ ∃ ver' z' u', E.rm k = some (ver', z', u') ∧ (u6 u') = some b) ∧
 (∀ k r0, f7 H'.rs k = some r0 -> r0.ver = 0) ∧ (∀ k r0 r1, f7 ([] : List (Nat × Row)) k = some r0 -> f7 H'.rs k = some r1 -> r1.z = r0.z) ∧
 (∀ k ver ver' z z' u u', k ∈ ([] : List Nat) -> E.rm k = some (ver, z, u) -> E'.rm k = some (ver', z', u') -> u = u') ∧ (∀ k g, W1 k = true -> E.gm k = some g -> E'.gm k = some g -> ∃ cur T, w'.heap[g]? = some (.cells cur T (0, 0)) ∧ S9 P T = true) := by
 have hgm : ∀ k, E.gm k = none := fun k => hE.bxn k rfl
 have hrm : ∀ k, E.rm k = none := fun k => hE.rwn k rfl
 have hgm' : ∀ k, E'.gm k = none := fun k => hP.h.bxn k (by rw [hb]; rfl)
 have hno : ∀ b, ¬E.own b := fun b h => by
  rcases h with ⟨k, h⟩ | ⟨k, _, _, _, h, _⟩
  ·rw [hgm] at h; cases h
  ·rw [hrm] at h; cases h
 have htab : ∀ (l : List (Nat × Row)) (k : Nat) (r0 : Row), f7 l k = some r0 -> ∃ p ∈ l, p.2 = r0 := fun l k r0 h => by
  induction l with
  | nil => cases h
  | cons p l ih =>
   simp only [f7] at h
   split at h
   ·injection h with h; exact ⟨p, by simp, h⟩
   ·obtain ⟨q, h1, h2⟩ := ih h; exact ⟨q, by simp [h1], h2⟩
 have hpl : ∀ (k : Nat) (r0 : Row), f7 H.rs k = some r0 -> plR r0 := fun k r0 h => by
  obtain ⟨p, h1, rfl⟩ := htab _ _ _ h
  exact hr p h1
 refine ⟨v, H, x, E', rfl, hR, hA.grew, ⟨fun k cs h => ?_, fun k _ => hgm' k, fun k r0 h => ?_, hP.h.rwn, fun k k' g h => (by rw [hgm'] at h; cases h), fun k g k' ver z u h => (by rw [hgm'] at h; cases h), hP.h.rr⟩, hx, fun k g g' h => (by rw [hgm] at h; cases h), fun k g h => (by rw [hgm'] at h; cases h), fun k ver z u b h h2 => ?_, fun k r0 h => (hpl k r0 h).1, fun k r0 r1 h => (by cases h), fun k _ _ _ _ _ _ h => (by cases h), fun k g _ h => (by rw [hgm] at h; cases h)⟩
 ·rw [hb] at h; cases h
 ·obtain ⟨h1, h2, u, vs, h3, h4, h5⟩ := hP.h.rw k r0 h
  refine ⟨h1, h2, u, vs, h3, h4, RRel.plain (fun c hc => ?_) h5⟩
  obtain ⟨e, he, hc⟩ := List.mem_flatten.1 hc
  exact (hpl k r0 h).2 e he c hc
 ·exact .inl ((hA.own b (.inr ⟨k, ver, z, u, h, h2⟩)).resolve_right (hno b))
section
variable {l : List Alm} {s : List Ser} {a : List Opr} {to : Int} {ac : List (List Cel)} {g : Rlg}
abbrev d4J : CAnn := ⟨[], [1000004], [], [1000004], [1000004]⟩
theorem d4y : b0 Tryz.prog 133 (o7 [1, 1, 1, 1, 1, 1, 1, 0] lgK) [⟨none, [], [], [], [(127, d4J)]⟩] = some (.reg false [gM 123 10, gI 124 (.nilchk (.t 123)), gI 125 (.fadr 4 (.t 124)), gI 126 (.load false 1 (.t 125)), gI 127 (.callm (.f 44) [(.t 126)] d4J)] none, []) := by kernel_rfl
abbrev lnH (l : List Alm) (ac : List (List Cel)) (g : Rlg) : Hp := ⟨[(1000001, [.sl false 10 (l.map D0), .fm 0 ac, .any, .any, .ow 1000004 0])], [(1000004, n8 (T5 g.r.ig)), (1000008, x9 g.out)]⟩
theorem c3d (hi : g.r.ig.length <= 1000000) :
  ex Tryz.prog (.reg false [gM 123 10, gI 124 (.nilchk (.t 123)), gI 125 (.fadr 4 (.t 124)), gI 126 (.load false 1 (.t 125)), gI 127 (.callm (.f 44) [(.t 126)] d4J)] none) [] (C9 [10, 14] ⟨[1000001], [1000004, 1000008], [], [], []⟩ b7Q (lnH l ac g)) (lAS b7Q (lgH l ac g)) := by
 have hso := Z0 g.r.ig (by omega)
 unfold lAS lgH b7Q lnH waC
 refine qv ?_
 refine ⟨rfl, C5 ⟨[], [(1000004, n8 (T5 g.r.ig))]⟩ (.tu []) (fun k => k) (Go.Ai.swp 1000004 1000000) (fun _ => rfl) (Go.Ai.s8 1000004 1000000) hso (by simp) rfl rfl rfl rfl rfl ⟨rfl, rfl⟩ ?_⟩
 exact qt
theorem c2o :
  ex Tryz.prog (.reg true [gM 128 14, gM 129 10, gI 130 (.nilchk (.t 129)), gI 131 (.fadr 4 (.t 130)), gI 132 (.load false 1 (.t 131)), gM 8 128, gM 9 132] none) [] (C9 [8, 9] ⟨[], [1000008, 1000004], [], [], []⟩ [(8, .one (.ow 1000008 0)), (9, .one (.ow 1000004 0))] ⟨[], [(1000008, x9 g.out), (1000004, n8 (T5 g.r.ig))]⟩) (lAS b7Q (lnH l ac g)) := by
 unfold lAS lnH b7Q
 exact qt
theorem c5c (o : List Std) : plR (x9 o) := ⟨rfl, fun e he c hc => by
 obtain ⟨x, _, rfl⟩ := List.mem_map.1 he
 simp only [a8S, List.mem_cons, List.not_mem_nil, or_false] at hc
 rcases hc with rfl | rfl | rfl <;> exact ⟨_, rfl⟩⟩
theorem c3J (o : List Int) : plR (n8 o) := ⟨rfl, fun e he c hc => by
 obtain ⟨x, _, rfl⟩ := List.mem_map.1 he
 simp only [N3, List.mem_cons, List.not_mem_nil, or_false] at hc
 subst hc; exact ⟨_, rfl⟩⟩
theorem a7n (l : List Alm) (s : List Ser) (a : List Opr) (to : Int) : ∀ (E : List Rev) (g : Rlg), (rnR l s a to E g).r.ig.length <= g.r.ig.length + E.length
 | [], g => by simp [rnR, a4t]
 | e :: r, g => by
  rw [rnR, a4t, List.length_cons]
  have h1 : (apR l a e g).r.ig.length <= g.r.ig.length + 1 := c1P l a e.d g.r
  split
  ·omega
  ·refine Nat.le_trans (a7n l s a to r _) ?_
   split
   ·omega
   ·rw [show (rpR l s e.a (apR l a e g)).r = _ from c5W e.a l _]; omega
theorem b3V (hA : J4 l) (hs : a2o s) (hss : s.length <= 1000000) (hl : l.length <= 1000000) (ha : a.length <= 1000000) (hT : (H7 l s a).length + 1 <= 1000000) (hW : ∀ k, (wnK s k l).length <= 1000000) (hLl : ((Y6 l s a).length + 1) * l.length <= 1000000) :
  FCM Tryz.prog 64 ⟨[], []⟩ [r6 false l, B1 false s, F7 false a, iv to] (fun H r => H = ⟨[], [(500023, x9 (rlA l s a to).out), (600023, n8 (T5 (rlA l s a to).r.ig))]⟩ ∧ r = .tu [.one (.ow 500023 0), .one (.ow 600023 0)]) := by
 refine ⟨⟨Tryz.f64, Tryz.func64, by kernel_rfl, by kernel_rfl⟩, fun w ok E vs htab hH hno hty hlen hargs => ?_⟩
 refine calls_of_wp (c := lgK) Tryz.func64 (by kernel_rfl) ?_
 have en : Tryz.f64.ntmps = 133 := by kernel_rfl
 have er : Tryz.f64.results = #[.tmp 8, .tmp 9] := by kernel_rfl
 rw [en]
 have hno0 : ∀ b, ¬E.own b := fun b h => by
  rcases h with ⟨k, h⟩ | ⟨k, _, _, _, h, _⟩
  ·rw [hH.bxn k rfl] at h; cases h
  ·rw [hH.rwn k rfl] at h; cases h
 have h0 : Plc Tryz.prog 133 ok (O6 0 [r6 false l, B1 false s, F7 false a, iv to]) ⟨[], []⟩ _ w E := Plc.start ⟨hH, hno, hty, htab⟩ hlen hargs (n := 133) (by simp) (by omega)
 rw [<- a7E lgK]
 have hG : ∀ x ∈ l, Good (a1J s x.t) := fun x _ => P1 hs x.t
 have hX : ∀ x ∈ l, (-1000000 <= x.lim ∧ x.lim <= 1000000) ∧ (0 <= x.db ∧ x.db <= 2000000) ∧ (0 <= x.on ∧ x.on <= 86400000) ∧ (0 <= x.off ∧ x.off <= 86400000) := fun x hx => by
  obtain ⟨i, hi, rfl⟩ := G8 hx
  have hff := hA.flt i hi
  obtain ⟨kk, hff⟩ := a4i hff
  obtain ⟨f1, f2, f3, f4, f5, f6⟩ := a3w hff
  exact ⟨f2, f3, f4, f5⟩
 have hrl : (Y6 l s a).length = (H7 l s a).length := e6 _ _
 have hR : (rnR l s a to (Y6 l s a) ⟨⟨in1 l, [], []⟩, in1 l, []⟩) = rlA l s a to := by
  unfold rlA rl0; rw [d0J hA.up]
 have hig : (rlA l s a to).r.ig.length <= 1000000 := by
  rw [<- hR]
  refine Nat.le_trans (a7n l s a to _ _) ?_
  simp only [List.length_nil]; omega
 refine c8x hno0 h0 fun b1 b2 ok1 a1 w1 E1 M1 h1 => ?_
 refine a0G [1, 1, 1] (by kernel_rfl) ?_
 refine h1.seqPX [1, 1, 1, 0] (by kernel_rfl) kg3 a3b _ _ (d2f []) fun a2 w2 ok2 E2 h2 A2 K2 => ?_
 have M2 := M1.adv A2.toAdv0 K2
 refine c9L hA.up hl hss hG hX M2 h2 fun ok3 a3 w3 E3 M3 h3 => ?_
 simp only [Exit.then]
 refine c9P M3 h3 fun ok4 a4 w4 E4 A4 h4 => ?_
 refine d0a hA hl ha hT hW hLl rfl A4 h4 fun ok5 a5 w5 E5 A5 h5 => ?_
 rw [hR] at h5
 refine h5.seqP [1, 1, 1, 1, 1, 1, 1] (by kernel_rfl) d4y (by simp [XK]) _ _ (c3d hig) fun a6 w6 ok6 E6 h6 A6 => ?_
 refine h6.seqP [1, 1, 1, 1, 1, 1, 1, 1] (by kernel_rfl) d6D (by simp [XK]) _ _ c2o fun a7 w7 ok7 E7 h7 A7 => ?_
 refine d5C [1, 1, 1, 1, 1, 1, 1, 1, 1] (by kernel_rfl) ?_
 obtain ⟨h8, A8⟩ := h7.rn (p := fun k => k) (q := swp 1000008 500023) (fun _ => rfl) (s8 _ _) rfl
 have h8 : Plc Tryz.prog 133 ok7 [(8, .one (.ow 500023 0)), (9, .one (.ow 1000004 0))] ⟨[], [(500023, x9 (rlA l s a to).out), (1000004, n8 (T5 (rlA l s a to).r.ig))]⟩ a7 w7 _ := h8
 obtain ⟨h9, A9⟩ := h8.rn (p := fun k => k) (q := swp 1000004 600023) (fun _ => rfl) (s8 _ _) rfl
 have h9 : Plc Tryz.prog 133 ok7 [(8, .one (.ow 500023 0)), (9, .one (.ow 600023 0))] ⟨[], [(500023, x9 (rlA l s a to).out), (600023, n8 (T5 (rlA l s a to).r.ig))]⟩ a7 w7 _ := h9
 have B9 := (((A5.trans A6.toAdv0).trans A7.toAdv0).trans A8).trans A9
 generalize Env.rn _ _ _ = E9 at h9 B9
 have o9 : ∀ (k t : Nat), m7 [(8, Val.one (.ow 500023 0)), (9, Val.one (.ow 600023 0))] t = .one (.ow k 0) -> VRel w7 (okE w ok E9) w.heap.size E9 (.one (.ow k 0)) (a7.tmps.getD t undef) := fun k t e => by
  have h8 := h9.tm t
  rw [e] at h8
  generalize a7.tmps.getD t undef = u at h8
  cases h8 with
  | one h9 => exact .one h9
 refine ⟨h9.defers, _, results_tmp2 er _ _ _, c5e hH h9 B9 rfl (fun p hp => ?_) (.tu (us := [_, _]) rfl fun i x u hx hu => ?_) ⟨rfl, rfl⟩⟩
 ·simp only [List.mem_cons, List.not_mem_nil, or_false] at hp
  rcases hp with rfl | rfl
  ·exact c5c _
  ·exact c3J _
 ·match i with
  | 0 => simp only [List.getElem?_cons_zero, Option.some.injEq] at hx hu; subst hx; subst hu; exact o9 _ 8 rfl
  | 1 => simp only [List.getElem?_cons_zero, List.getElem?_cons_succ, Option.some.injEq] at hx hu; subst hx; subst hu; exact o9 _ 9 rfl
  | i + 2 => simp at hx
end
end Go.Proofs.YtnlafmigfjlnnaaGreatDoor
