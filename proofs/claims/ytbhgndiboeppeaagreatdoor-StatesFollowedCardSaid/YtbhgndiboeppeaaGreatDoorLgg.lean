/- The reference's log, walked: its maps at the beginning. -/
import Derived.Test.YtbhgndiboeppeaaGreatDoorLgd
import Derived.Test.YtbhgndiboeppeaaGreatDoorCnd
import Derived.Maps.OwnRows
import Derived.OwnWalkIn
import Derived.OrdersIn
set_option linter.all false
set_option maxHeartbeats 4000000
set_option maxRecDepth 100000
namespace Go.Proofs.YtbhgndiboeppeaaGreatDoor
open Go Go.Ai
def b9x (s : List Ser) (tag : ByteArray) (i : Int) : AS := ⟨m9 [(1, sv tag), (7, B3 false s), (8, iv s.length), (9, iv i)], f9 [], f9 []⟩
theorem b8S (s : List Ser) (tag : ByteArray) (hl : s.length ≤ 1000000) : FC Tryz.prog 98 none [B3 false s, sv tag] (fun _ r => ∃ fr, r = a0Z fr (a5D s tag)) := by
 refine fcE Tryz.func98 (aL [[0,1],[1,7,8,9],[1,7,8,9,10]] ++ aM [6] [] [[1,6,7,8,9],[1,6,7,8,9,16]] ++ aL [[4],[1,7,8,9]] ++ [⟨(kP [4] [] []),[],[],[(4,3)],[]⟩]) ?_
 have hI := X2 (fun x : Ser => decide (x.t = tag)) s 0 (by omega)
 unfold a5D
 generalize D0 (fun x : Ser => decide (x.t = tag)) 0 s = k at hI
 refine qv ?_
 refine j9 (b9x s tag) (fun i => 0 ≤ i ∧ i ≤ s.length ∧ (∀ j : Nat, j < i.toNat → (s.getD j default).t ≠ tag)) (fun i => (s.length - i).toNat) 0 ⟨by omega, by omega, fun j hj => by omega⟩ rfl ?_
 rintro i ⟨g1, g2, g3⟩
 by_cases hi : i < s.length
 ·by_cases ht : (s.getD i.toNat default).t = tag
  ·have hk : k = i := by
    rcases hI with ⟨rfl, h⟩ | ⟨h1, h2, h3, h4⟩
    ·have := h _ (j5 s i.toNat (by omega))
     rw [decide_eq_true ht] at this; cases this
    ·rcases Int.lt_trichotomy k i with c | c | c
     ·rw [Int.sub_zero] at h3
      exact absurd (of_decide_eq_true h3) (g3 k.toNat (by omega))
     ·exact c
     ·have := h4 i.toNat (by omega)
      rw [decide_eq_true ht] at this; cases this
   subst hk
   rw [if_pos g1]
   unfold b9x
   refine qvs ?_
   exact ⟨false, rfl⟩
  ·unfold b9x
   refine qvs ?_
   refine ⟨i + 1, rfl, ⟨by omega, by omega, fun j hj => ?_⟩, by omega⟩
   rcases Nat.lt_or_ge j i.toNat with c | c
   ·exact g3 j c
   ·obtain rfl : j = i.toNat := by omega
    exact ht
 ·have hk : ¬0 ≤ k := by
   rcases hI with ⟨rfl, h⟩ | ⟨h1, h2, h3, h4⟩
   ·omega
   ·rw [Int.sub_zero] at h3
    exact absurd (of_decide_eq_true h3) (g3 k.toNat (by omega))
  rw [if_neg hk]
  unfold b9x
  refine qvs ?_
  exact ⟨true, rfl⟩
abbrev pI0 : List Nat := [1, 1, 1, 0, 1, 0, 0]
abbrev pI1 : List Nat := [1, 1, 1, 0, 1, 0, 0, 1, 1, 0, 0]
theorem kg0 : b0 Tryz.prog 133 (q6 [0] lgK) [aZ] = some (.reg false [gI 8 (.mv (.v (.slice none 0 0))), gI 9 (.mv (.v (.slice none 0 0)))] none, []) := by kernel_rfl
theorem kg1 : b0 Tryz.prog 133 (q6 [1, 0] lgK) [⟨none, [(1400026, 3, 1)], [], [], []⟩] = some (.seq (.reg false [gM 21 0, gI 22 (.mkm 0), gI 23 (.mkm 0), gI 24 (.mkm 0), gI 25 (.build [(.slice none 0 0), (.map none), (.map none), (.map none), (.slice none 0 0)] [(0, 1, (.t 21)), (1, 1, (.t 22)), (2, 1, (.t 23)), (3, 1, (.t 24))]), gI 26 (.box (.t 25)), gM 10 26] none) (.ownb 26 4 400026 3 1), []) := by kernel_rfl
theorem kg2 : b0 Tryz.prog 133 (q6 [1, 1, 0] lgK) [aZ] = some (.reg false [gI 27 (.mkm 0), gM 11 27] none, []) := by kernel_rfl
theorem kg3 : b0 Tryz.prog 133 (q6 [1, 1, 1, 0, 0] lgK) [aZ] = some (.reg false [gM 28 0, gI 29 (.len (.t 28)), gI 30 (.mv (oI 0))] none, []) := by kernel_rfl
theorem kg4 : b0 Tryz.prog 133 (q6 (pI0 ++ [0]) lgK) [aZ] = some (.reg false [gI 31 (.bin .lss (.t 30) (.t 29))] none, []) := by kernel_rfl
theorem kg5 : b0 Tryz.prog 133 (q6 (pI1 ++ [0]) lgK) [aZ] = some (.reg false [gI 32 (.iadr 10 (.t 28) (.t 30)), gI 33 (.load true 10 (.t 32)), gI 13 (.alloc [(.string (ByteArray.mk #[])), (.string (ByteArray.mk #[])), (.int .i64 (0)), (.int .i64 (0)), (.int .i64 (0)), (.int .i64 (0)), (.int .i64 (0)), (.int .i64 (0)), (.bool false), (.string (ByteArray.mk #[]))]), gN (.store 10 (.t 13) (.t 33))] none, []) := by kernel_rfl
theorem kg6 : b0 Tryz.prog 133 (q6 (pI1 ++ [1, 0]) lgK) [aZ] = some (.reg true [gM 34 10, gI 35 (.nilchk (.t 34)), gI 36 (.fadr 1 (.t 35)), gI 37 (.load false 1 (.t 36)), gI 38 (.fadr 0 (.t 13)), gI 39 (.load false 1 (.t 38)), gI 40 (.load true 10 (.t 13)), gM 41 1, gI 42 (.fadr 1 (.t 13)), gI 43 (.load false 1 (.t 42)), gI 44 (.call (.f 98) [(.t 41), (.t 43)]), gI 45 (.call (.f 97) [(.t 40), (.t 44), (oI 345686400000)]), gN (.mup 0 (.t 37) (.t 39) (.t 45))] none, []) := by kernel_rfl
theorem kg8 : b0 Tryz.prog 133 (q6 (pI0 ++ [1, 1, 1]) lgK) [aZ] = some (.reg false [gI 57 (.bin .add (.t 30) (oI 1)), gM 30 57] none, []) := by kernel_rfl
theorem kg9 : b0 Tryz.prog 133 (q6 [1, 1, 1, 1, 0] lgK) [aZ] = some (.reg false [gI 14 (.mv (.v (.slice none 0 0)))] none, []) := by kernel_rfl
/-! ### the maps as they are filled -/
abbrev mpA (m : List (List Cel)) : Row := ⟨0, 0, 0, m⟩
abbrev waI (l : List Alm) (v1 : Value) : List Cel := [.sl false 10 (l.map z7), .mp 1000006, .g v1, .mp 1000003, .ow 1000004 0]
abbrev liH (s : List Ser) (l : List Alm) (v1 : Value) (A : List Alm) : Hp := ⟨[(1000001, waI l v1)], [(1000006, mpA (acM s A)), (1000003, mpR []), (1000004, n9 [])]⟩
abbrev b5h (s : List Ser) (l : List Alm) (v1 : Value) (A : List Alm) (x : Alm) : Hp := ⟨[(1000001, waI l v1), (13, z7 x)], [(1000006, mpA (acM s A)), (1000003, mpR []), (1000004, n9 [])]⟩
abbrev liM : CAnn := ⟨[1000001], [1000006, 1000003, 1000004], [], [], []⟩
abbrev d4M : CAnn := ⟨[1000001, 13], [1000006, 1000003, 1000004], [], [], []⟩
theorem a3s {s : List Ser} {l : List Alm} {v1 : Value} {A : List Alm} : ∀ p ∈ (liH s l v1 A).rs, XK ≤ p.1 := by simp [XK]
abbrev liT (l : List Alm) (s : List Ser) (a : List Opr) (to : Int) (v2 : Value) (i : Int) : List (Nat × Val) := [(0, r6 false l), (1, B3 false s), (2, u9 false a), (3, iv to), (10, .one (.bx 1000001 0)), (11, .one (.g v2)), (28, r6 false l), (29, iv l.length), (30, iv i)]
abbrev b4E (l : List Alm) (s : List Ser) (a : List Opr) (to : Int) (v2 : Value) (i : Int) (c : Cel) : List (Nat × Val) := [(0, r6 false l), (1, B3 false s), (2, u9 false a), (3, iv to), (10, .one (.bx 1000001 0)), (11, .one (.g v2)), (13, .one c), (28, r6 false l), (29, iv l.length), (30, iv i)]
theorem a3o (s : List Ser) : ∀ l : List Alm, H4 (acM s l) = acM s l
 | [] => rfl
 | x :: l => by
  have ih := a3o s l
  rw [show acM s (x :: l) = [.g (.string x.k), .sl false 2 ((v7 s x).map frC)] :: acM s l from rfl, a1l, ih]
  simp only [List.map_cons, List.map_nil, a3t]; rfl
attribute [go_sem] a3o
theorem a7S (s : List Ser) (k : ByteArray) (c : Cel) : ∀ l : List Alm, (∀ y ∈ l, y.k ≠ k) → a4e (.string k) c (acM s l) = acM s l ++ [[.g (.string k), c]]
 | [], _ => rfl
 | x :: l, h => by
  have ih := a7S s k c l fun y hy => h y (by simp [hy])
  rw [show acM s (x :: l) = [.g (.string x.k), .sl false 2 ((v7 s x).map frC)] :: acM s l from rfl, a4e, a3I, if_neg (by simp [h x (by simp)]), ih]; rfl
section
variable {l : List Alm} {s : List Ser} {a : List Opr} {to : Int} {v1 v2 : Value} {A : List Alm}
theorem c7e (i : Int) :
  ex Tryz.prog (.reg false [gI 31 (.bin .lss (.t 30) (.t 29))] none) [] (C9 [31, 0, 1, 2, 3, 10, 11, 28, 29, 30] liM ((31, bv (decide (i < l.length))) :: liT l s a to v2 i) (liH s l v1 A)) (lAS (liT l s a to v2 i) (liH s l v1 A)) := by
 unfold lAS liH liT waI
 refine qv ?_
 rfl
theorem c6Q (i : Int) (hi : 0 ≤ i ∧ i < l.length) (v : Val) :
  ex Tryz.prog (.reg false [gI 32 (.iadr 10 (.t 28) (.t 30)), gI 33 (.load true 10 (.t 32)), gI 13 (.alloc [(.string (ByteArray.mk #[])), (.string (ByteArray.mk #[])), (.int .i64 (0)), (.int .i64 (0)), (.int .i64 (0)), (.int .i64 (0)), (.int .i64 (0)), (.int .i64 (0)), (.bool false), (.string (ByteArray.mk #[]))]), gN (.store 10 (.t 13) (.t 33))] none) [] (C9 [0, 1, 2, 3, 10, 11, 13, 28, 29, 30] d4M (b4E l s a to v2 i (.bx 13 0)) (b5h s l v1 A (l.getD i.toNat default))) (lAS ((31, v) :: liT l s a to v2 i) (liH s l v1 A)) := by
 unfold lAS liH b5h liT b4E waI
 refine qv ?_
 rfl
theorem d0H (i : Int) (x : Alm) (hk : ∀ y ∈ A, y.k ≠ x.k) (hs : s.length ≤ 1000000) (hg : Good (a5D s x.t)) (hx : (-1000000 ≤ x.lim ∧ x.lim ≤ 1000000) ∧ (0 ≤ x.db ∧ x.db ≤ 2000000) ∧ (0 ≤ x.on ∧ x.on ≤ 86400000) ∧ (0 ≤ x.off ∧ x.off ≤ 86400000)) :
  ex Tryz.prog (.reg true [gM 34 10, gI 35 (.nilchk (.t 34)), gI 36 (.fadr 1 (.t 35)), gI 37 (.load false 1 (.t 36)), gI 38 (.fadr 0 (.t 13)), gI 39 (.load false 1 (.t 38)), gI 40 (.load true 10 (.t 13)), gM 41 1, gI 42 (.fadr 1 (.t 13)), gI 43 (.load false 1 (.t 42)), gI 44 (.call (.f 98) [(.t 41), (.t 43)]), gI 45 (.call (.f 97) [(.t 40), (.t 44), (oI 345686400000)]), gN (.mup 0 (.t 37) (.t 39) (.t 45))] none) [] (C9 [0, 1, 2, 3, 10, 11, 13, 28, 29, 30] d4M (b4E l s a to v2 i (.bx 13 0)) (b5h s l v1 (A ++ [x]) x)) (lAS (b4E l s a to v2 i (.bx 13 0)) (b5h s l v1 A x)) := by
 have h1 := b8S s x.t hs
 have h2 := a6L x.k x.t x.p x.lt x.kd x.lim x.db x.on x.off x.pr 345686400000 (a5D s x.t) hg hx.1 hx.2.1 hx.2.2.1 hx.2.2.2 (by omega)
 unfold lAS b5h b4E waI
 simp only [o6]
 refine qv ?_
 refine ⟨_, h1, ⟨[], _, true, rfl⟩, ?_⟩
 rintro cs r ⟨fr, rfl⟩
 refine ⟨.inr ⟨rfl, rfl⟩, ?_⟩
 refine qc h2 ?_
 refine qv ?_
 have e : H4 (a4e (Value.string x.k) (Cel.sl true 2 (List.map frC (a9P x.kd x.lim x.db x.on x.off 345686400000 (a5D s x.t)))) (acM s A)) = acM s (A ++ [x]) := by
  rw [a7S s x.k _ A hk, a7f, a3o]
  unfold acM
  rw [List.map_append, List.map_cons, List.map_nil, a1l, a7n]
  have h := a3t (v7 s x)
  simp only [List.map_cons, List.map_nil, Cel.dat] at h ⊢
  rfl
 rw [e]; rfl
theorem c6D (i : Int) (hi : 0 ≤ i ∧ i ≤ 1000000) :
  ex Tryz.prog (.reg false [gI 57 (.bin .add (.t 30) (oI 1)), gM 30 57] none) [] (C9 [0, 1, 2, 3, 10, 11, 28, 29, 30] liM (liT l s a to v2 (i + 1)) (liH s l v1 A)) (lAS (b4E l s a to v2 i (.bx 13 0)) (b5h s l v1 A (l.getD i.toNat default))) := by
 unfold lAS liH b5h liT b4E waI
 simp only [o6]
 refine qv ?_
 rfl
theorem c6w :
  ex Tryz.prog (.reg false [gI 8 (.mv (.v (.slice none 0 0))), gI 9 (.mv (.v (.slice none 0 0)))] none) [] (C9 [0, 1, 2, 3] ⟨[], [], [], [], []⟩ [(0, r6 false l), (1, B3 false s), (2, u9 false a), (3, iv to)] ⟨[], []⟩) (lAS (P5 0 [r6 false l, B3 false s, u9 false a, iv to]) ⟨[], []⟩) := by
 unfold lAS
 exact qt
theorem c7W :
  ex Tryz.prog (.seq (.reg false [gM 21 0, gI 22 (.mkm 0), gI 23 (.mkm 0), gI 24 (.mkm 0), gI 25 (.build [(.slice none 0 0), (.map none), (.map none), (.map none), (.slice none 0 0)] [(0, 1, (.t 21)), (1, 1, (.t 22)), (2, 1, (.t 23)), (3, 1, (.t 24))]), gI 26 (.box (.t 25)), gM 10 26] none) (.ownb 26 4 400026 3 1)) [] (C9 [0, 1, 2, 3, 10] ⟨[26], [22, 23, 24, 400026], [], [], []⟩ [(0, r6 false l), (1, B3 false s), (2, u9 false a), (3, iv to), (10, .one (.bx 26 0))]
   ⟨[(26, [.sl false 10 (l.map z7), .mp 22, .mp 23, .mp 24, .ow 400026 0])], [(22, mpA []), (23, mpA []), (24, mpA []), (400026, n9 [])]⟩) (lAS [(0, r6 false l), (1, B3 false s), (2, u9 false a), (3, iv to)] ⟨[], []⟩) := by
 unfold lAS
 refine qv ?_
 rfl
theorem c7b (A : List Alm) :
  ex Tryz.prog (.reg false [gM 28 0, gI 29 (.len (.t 28)), gI 30 (.mv (oI 0))] none) [] (C9 [0, 1, 2, 3, 10, 11, 28, 29, 30] liM (liT l s a to v2 0) (liH s l v1 A)) (lAS [(0, r6 false l), (1, B3 false s), (2, u9 false a), (3, iv to), (10, .one (.bx 1000001 0)), (11, .one (.g v2))] (liH s l v1 A)) := by
 unfold lAS liH liT waI
 refine qv ?_
 rfl
end
end Go.Proofs.YtbhgndiboeppeaaGreatDoor
namespace Go.Proofs.YtbhgndiboeppeaaGreatDoor
open Go Go.Ai Go.Proofs
def stE (k : ByteArray) (v : Int) (c : Nat) : MapEntry := ⟨.string k, .int .i64 v, c⟩
theorem a1o (k : ByteArray) : ∀ (l : List MapEntry) (i : Nat), (∀ x ∈ l, ∃ s, x.key = .string s ∧ s ≠ k) → Instr.findNow .string (.string k) l i = some none
 | [], i, _ => rfl
 | x :: l, i, h => by
  obtain ⟨s, h0, h1⟩ := h x (by simp)
  have hs := a8p (c := 0) (d := .string) rfl (a := .string k) (b := .string s) rfl rfl
  have hq : a5z (.string k) (.string s) = false := by
   cases hq : a5z (.string k) (.string s) with
   | false => rfl
   | true => exact absurd ((a1V (c := 0) rfl rfl).1 hq) (by simpa using fun e => h1 e.symm)
  rw [hq] at hs
  simp [Instr.findNow, h0, hs, a1o k l (i + 1) (fun y hy => h y (by simp [hy]))]
section
variable {w : World} {b c c' : Nat} {es : Array MapEntry} {k : ByteArray}
theorem b7B (hb : w.heap[b]? = some (.map es c)) (hk : ∀ x ∈ es.toList, ∃ s, x.key = .string s ∧ s ≠ k) :
  (Instr.mapEntry 140 (.map (some b)) (.string k)).run Tryz.prog w = .ok (.tuple #[.int .i64 0, .int .i64 c]) { w with heap := w.heap.setIfInBounds b (.map (es.push (stE k 0 c)) (c + 1)) } := by
 have hck : (Instr.checkKey false 10000 9 (.string k)).run Tryz.prog w = .ok () w := MapKept.run_checkKey Tryz.underlying9 (D2 (c := 0) rfl rfl) _ _
 have hz : ∀ W : World, (zeroValue 3).run Tryz.prog W = .ok (.int .i64 0) W := fun W => by kernel_rfl
 simp [Instr.mapEntry, run_underlying Tryz.underlying140, MapKept.run_getObj_map hb, hck, MapKept.run_findKey Tryz.underlying9 (a1o k es.toList 0 hk), MapKept.run_setObj_map _ hb, hz, Result.andThen, stE, goInt]
theorem c5n (hb : w.heap[b]? = some (.map (es.push (stE k 0 c)) c')) (hs : ∀ x ∈ es.toList, x.born ≠ c) :
  (Instr.entryStore 140 (.map (some b)) (.int .i64 c) (.int .i64 1)).run Tryz.prog w = .ok () { w with heap := w.heap.setIfInBounds b (.map (es.push (stE k 1 c)) c') } := by
 have h1 : (es.push (stE k 0 c)).findIdx? (fun e => (e.born : Int) == (c : Int)) = some es.size := by
  rw [Array.findIdx?_push]
  have : es.findIdx? (fun e => (e.born : Int) == (c : Int)) = none := by
   rw [Array.findIdx?_eq_none_iff]
   intro x hx
   have := hs x (by simpa using hx)
   simp; omega
  rw [this]; simp [stE]
 have h2 : (es.push (stE k 0 c)).modify es.size (fun e => { e with val := .int .i64 1 }) = es.push (stE k 1 c) := by
  apply Array.ext
  ·simp
  ·intro i h1 h2
   have h5 : i < es.size + 1 := by simpa using h2
   simp [Array.getElem_modify, Array.getElem_push]
   split <;> split <;> first | rfl | omega | (simp [stE])
 simp [Instr.entryStore, MapKept.run_getObj_map hb, MapKept.run_setObj_map _ hb, h1, h2, Result.andThen, asInt, asIntOf]
theorem b6c (hb : w.heap[b]? = some (.map es c)) (hk : ∀ x ∈ es.toList, ∃ s, x.key = .string s ∧ s ≠ k) :
  (Instr.mapUpdate 140 (.map (some b)) (.string k) (.int .i64 1)).run Tryz.prog w = .ok () { w with heap := w.heap.setIfInBounds b (.map (es.push (stE k 1 c)) (c + 1)) } := by
 have hck : (Instr.checkKey false 10000 9 (.string k)).run Tryz.prog w = .ok () w := MapKept.run_checkKey Tryz.underlying9 (D2 (c := 0) rfl rfl) _ _
 simp [Instr.mapUpdate, run_underlying Tryz.underlying140, MapKept.run_getObj_map hb, hck, MapKept.run_findKey Tryz.underlying9 (a1o k es.toList 0 hk), MapKept.run_setObj_map _ hb, Result.andThen, stE]
end
end Go.Proofs.YtbhgndiboeppeaaGreatDoor
namespace Go.Proofs.YtbhgndiboeppeaaGreatDoor
open Go Go.Ai Go.Proofs Go.RowKit
theorem a9D {P : Program} {ops : Array Oper} {Q : Exit → Act → World → Prop} (Inv : Array Bool → Act → World → Prop) (hgd : ∀ (i : Nat) (o : Oper), ops[i]? = some o → o.guard = none ∧ ∀ e ∈ o.after, Region.binds .any e = true → e.on < i) (hsz : ∀ L a w, Inv L a w → L.size = ops.size)
  (step : ∀ (i : Nat) (o : Oper), ops[i]? = some o → ∀ L a w, Inv L a w → L.getD i true = false → (∀ e ∈ o.after, Region.binds .any e = true → L.getD e.on false = true) → o.wp P a w (Inv (L.setIfInBounds i true)) Q)
  (done : ∀ L a w, Inv L a w → (∀ i, i < ops.size → L.getD i true = true) → Q .normal a w) :
  ∀ (fuel : Nat) (L : Array Bool) (a : Act) (w : World), Inv L a w → L.toList.count false ≤ fuel → wpAny P .any ops Q fuel L a w := by
 intro fuel
 induction fuel with
 | zero =>
  intro L a w h hc
  have hall : ∀ i, i < ops.size → L.getD i true = true := fun i hi => by
   have hlt : i < L.size := by rw [hsz L a w h]; exact hi
   cases hb : L[i] with
   | true => simp [Array.getD, hlt, hb]
   | false =>
    exfalso
    have : false ∈ L.toList := by rw [← hb]; exact Array.getElem_mem_toList hlt
    grind
  refine ⟨?_, done L a w h hall⟩
  cases hr : Region.ready .any ops L with
  | nil => rfl
  | cons i rs =>
   exfalso
   obtain ⟨h1, o, h2, _⟩ := mem_ready.1 (show i ∈ Region.ready .any ops L by rw [hr]; simp)
   grind
 | succ fuel ih =>
  intro L a w h hc
  refine ⟨fun hr => done L a w h fun i => ?_, fun i hi => ?_⟩
  ·induction i using Nat.strongRecOn with
   | ind i ihi =>
    intro hi
    apply Classical.byContradiction
    intro hno
    have hlt : i < L.size := by rw [hsz L a w h]; exact hi
    have hf : L.getD i true = false := by simpa using hno
    have ho : ops[i]? = some ops[i] := Array.getElem?_eq_getElem hi
    have : i ∈ Region.ready .any ops L := mem_ready.2 ⟨hf, ops[i], ho, fun e he hbi => by
     have h1 := (hgd i _ ho).2 e he hbi
     have h2 := ihi e.on h1 (by omega)
     have h3 : e.on < L.size := by omega
     simp only [Array.getD, h3, dif_pos] at h2 ⊢
     exact h2⟩
    rw [hr] at this; simp at this
  obtain ⟨h1, o, h2, h3⟩ := mem_ready.1 hi
  unfold wpOp
  simp only [h2]
  have hw : Region.wanted o (yielded ops a.tmps) = true := by unfold Region.wanted; rw [(hgd i o h2).1]
  rw [if_pos hw]
  refine .inl (Oper.wp_mono (fun a' w' h' => ih _ a' w' h' ?_) (step i o h2 L a w h h1 h3))
  have hlt : i < L.size := by rw [hsz L a w h]; exact (Array.getElem?_eq_some_iff.1 h2).1
  have hf : L[i] = false := by simpa [Array.getD, hlt] using h1
  grind
section
variable {P : Program} {ρ : Operand → Value} {o : Oper} {w : World}
theorem b3I (x : Operand) (h : o.op = .move x) : (execOp ρ o).run P w = .ok (.value (ρ x)) w := by simp [execOp, h]
theorem a1f {t : TypeId} {x : Operand} {k off sz b n : Nat} (ho : o.op = .fieldAddr t x k) (hf : (L4 P t k).map (fun f => (f.offset, (P.info? f.type).map (·.size))) = some (off, some sz)) (hz : sz ≠ 0) (hv : ρ x = .pointer (some ⟨b, n, none⟩)) :
  (execOp ρ o).run P w = .ok (.value (.pointer (some ⟨b, n + off, none⟩))) w := by
 cases hff : L4 P t k with
 | none => rw [hff] at hf; cases hf
 | some f =>
  rw [hff] at hf
  cases hi : P.info? f.type with
  | none => rw [Option.map_some, hi] at hf; simp at hf
  | some i =>
   rw [Option.map_some, hi] at hf; simp at hf
   obtain ⟨rfl, rfl⟩ := hf
   unfold L4 at hff
   split at hff
   ·rename_i fs hu
    simp [execOp, ho, Instr.fieldAt, run_underlying hu, hff, hv, Instr.sureAddr, fieldPlace, sizeOf, typeInfo, hi, hz, x8]
   ·cases hff
theorem a0p {t : TypeId} {d : TypeDesc} {x : Operand} {A : Addr} {u : Value} (hu : P.underlying t = some d) (hd : L0 d = false) (ho : o.op = .load t x) (hv : ρ x = .pointer (some A)) (hc : w.cell? A = some u) :
  (execOp ρ o).run P w = .ok (.value u) w := by
 cases d <;> simp [L0] at hd <;> simp [execOp, ho, hv, Instr.loadAt, Instr.sureAddr, loadVar, isAgg, run_underlying hu, load, Sem.run, hc]
theorem b8V {x : Operand} {A : Addr} (ho : o.op = .nilCheck x) (hv : ρ x = .pointer (some A)) : (execOp ρ o).run P w = .ok (.value (.pointer (some A))) w := by simp [execOp, ho, hv]
theorem b8K {x : Operand} {vs : Array Value} {i : Nat} {v : Value} (ho : o.op = .extract x i) (hv : ρ x = .tuple vs) (hi : vs[i]? = some v) : (execOp ρ o).run P w = .ok (.value v) w := by simp [execOp, ho, hv, hi, Instr.extract, Result.andThen]
theorem b0Q {t : TypeId} {m x : Operand} {v : Value} {w' : World} (ho : o.op = .mapEntry t m x) (hr : (Instr.mapEntry t (ρ m) (ρ x)).run P w = .ok v w') : (execOp ρ o).run P w = .ok (.value v) w' := by simp [execOp, ho, hr, Result.andThen]
theorem b7Q {t : TypeId} {m x y : Operand} {w' : World} (ho : o.op = .entryStore t m x y) (hr : (Instr.entryStore t (ρ m) (ρ x) (ρ y)).run P w = .ok () w') : (execOp ρ o).run P w = .ok .skip w' := by simp [execOp, ho, hr, Result.andThen]
theorem b5d {t : TypeId} {m x y : Operand} {w' : World} (ho : o.op = .mapUpdate t m x y) (hr : (Instr.mapUpdate t (ρ m) (ρ x) (ρ y)).run P w = .ok () w') : (execOp ρ o).run P w = .ok .skip w' := by simp [execOp, ho, hr, Result.andThen]
end
abbrev p7 : List Nat := [1, 1, 1, 0, 1, 0, 0, 1, 1, 0, 0, 1, 1]
theorem c7m : c4y (q6 p7 lgK) = some (opG p7, true) := by kernel_rfl
theorem a5n : (opG p7).length = 13 := by kernel_rfl
theorem d3f : ((List.range 13).all fun i => ((opG p7).getD i default).guard.isNone && ((opG p7).getD i default).after.all fun e => !(Region.binds .any e) || decide (e.on < i)) = true := by kernel_rfl
noncomputable def dpB (i j : Nat) : Bool := ((opG p7).getD i default).after.any fun e => e.on == j && Region.binds .any e
theorem d5z : ((opG p7).getD 0 default).op = .move (.tmp 10) := by kernel_rfl
theorem d6m : ((opG p7).getD 0 default).dst = some 46 := by kernel_rfl
theorem d5G : ((opG p7).getD 1 default).op = .nilCheck (.tmp 46) := by kernel_rfl
theorem d5X : ((opG p7).getD 1 default).dst = some 47 := by kernel_rfl
theorem c6A : dpB 1 0 = true := by kernel_rfl
theorem d6n : ((opG p7).getD 2 default).op = .fieldAddr 142 (.tmp 47) 2 := by kernel_rfl
theorem d5l : ((opG p7).getD 2 default).dst = some 48 := by kernel_rfl
theorem c7r : dpB 2 1 = true := by kernel_rfl
theorem d6c : ((opG p7).getD 3 default).op = .load 140 (.tmp 48) := by kernel_rfl
theorem d5T : ((opG p7).getD 3 default).dst = some 49 := by kernel_rfl
theorem c9I : dpB 3 2 = true := by kernel_rfl
theorem d5i : ((opG p7).getD 4 default).op = .fieldAddr 55 (.tmp 13) 0 := by kernel_rfl
theorem d5o : ((opG p7).getD 4 default).dst = some 50 := by kernel_rfl
theorem d6s : ((opG p7).getD 5 default).op = .load 9 (.tmp 50) := by kernel_rfl
theorem d4Y : ((opG p7).getD 5 default).dst = some 51 := by kernel_rfl
theorem d1b : dpB 5 4 = true := by kernel_rfl
theorem d6l : ((opG p7).getD 6 default).op = .move (.tmp 11) := by kernel_rfl
theorem d6u : ((opG p7).getD 6 default).dst = some 52 := by kernel_rfl
theorem d6h : ((opG p7).getD 7 default).op = .fieldAddr 55 (.tmp 13) 0 := by kernel_rfl
theorem d5E : ((opG p7).getD 7 default).dst = some 53 := by kernel_rfl
theorem d5N : ((opG p7).getD 8 default).op = .load 9 (.tmp 53) := by kernel_rfl
theorem d5v : ((opG p7).getD 8 default).dst = some 54 := by kernel_rfl
theorem c7Q : dpB 8 7 = true := by kernel_rfl
theorem d6p : ((opG p7).getD 9 default).op = .mapEntry 140 (.tmp 49) (.tmp 51) := by kernel_rfl
theorem d6v : ((opG p7).getD 9 default).dst = some 55 := by kernel_rfl
theorem c9l : dpB 9 3 = true := by kernel_rfl
theorem c6y : dpB 9 5 = true := by kernel_rfl
theorem d3B : ((opG p7).getD 10 default).op = .extract (.tmp 55) 1 := by kernel_rfl
theorem d2R : ((opG p7).getD 10 default).dst = some 56 := by kernel_rfl
theorem c1K : dpB 10 9 = true := by kernel_rfl
theorem d4g : ((opG p7).getD 11 default).op = .entryStore 140 (.tmp 49) (.tmp 56) (.const (.int .i64 1)) := by kernel_rfl
theorem d2Z : ((opG p7).getD 11 default).dst = none := by kernel_rfl
theorem c3O : dpB 11 3 = true := by kernel_rfl
theorem b8t : dpB 11 10 = true := by kernel_rfl
theorem c4z : dpB 11 9 = true := by kernel_rfl
theorem d3T : ((opG p7).getD 12 default).op = .mapUpdate 140 (.tmp 52) (.tmp 54) (.const (.int .i64 1)) := by kernel_rfl
theorem d2g : ((opG p7).getD 12 default).dst = none := by kernel_rfl
theorem c0Q : dpB 12 6 = true := by kernel_rfl
theorem c0V : dpB 12 8 = true := by kernel_rfl
theorem b5A : dpB 12 11 = true := by kernel_rfl
theorem d3Q {P : Program} {c : Code} {R : Exit → Act → World → Prop} {a : Act} {w : World} (hm : P.follows .mixedOrders = true) (p : List Nat) {l : List Oper} (h : c4y (q6 p c) = some (l, true)) (h2 : wpAny P .any l.toArray R l.length (Array.replicate l.length false) a { w with drawn := w.drawn + 1 }) : (q6 p c).wp P R a w := by
 cases hx : q6 p c <;> rw [hx] at h <;> first | (cases h; done) | skip
 simp only [c4y, Option.some.injEq, Prod.mk.injEq] at h; obtain ⟨rfl, rfl⟩ := h
 refine wp_region_any hm ?_
 simpa using h2
def vl7 (gw gx b1 b2 : Nat) (k : ByteArray) (c1 : Nat) : Nat → Value
 | 0 => .pointer (some ⟨gw, 0, none⟩)
 | 1 => .pointer (some ⟨gw, 0, none⟩)
 | 2 => .pointer (some ⟨gw, 0 + 2, none⟩)
 | 3 => .map (some b1)
 | 4 => .pointer (some ⟨gx, 0 + 0, none⟩)
 | 5 => .string k
 | 6 => .map (some b2)
 | 7 => .pointer (some ⟨gx, 0 + 0, none⟩)
 | 8 => .string k
 | 9 => .tuple #[.int .i64 0, .int .i64 c1]
 | _ => .int .i64 c1
structure R7 (w0 : World) (b1 b2 : Nat) (es1 es2 : Array MapEntry) (c1 c2 : Nat) (k : ByteArray) (m e u : Bool) (w : World) : Prop where
 os : w.os = w0.os
 tape : w.tape = w0.tape
 output : w.output = w0.output
 size : w.heap.size = w0.heap.size
 oth : ∀ b, b ≠ b1 → b ≠ b2 → w.heap[b]? = w0.heap[b]?
 h1 : w.heap[b1]? = some (if m = true then .map (es1.push (stE k (if e = true then 1 else 0) c1)) (c1 + 1) else .map es1 c1)
 h2 : w.heap[b2]? = some (if u = true then .map (es2.push (stE k 1 c2)) (c2 + 1) else .map es2 c2)
structure I7 (w0 : World) (a0 : Act) (gw gx b1 b2 : Nat) (es1 es2 : Array MapEntry) (c1 c2 : Nat) (k : ByteArray) (L : Array Bool) (a : Act) (w : World) : Prop where
 sz : L.size = 13
 ts : a.tmps.size = 133
 df : a.defers = a0.defers
 old : ∀ t, t < 46 ∨ 56 < t → a.tmps.getD t undef = a0.tmps.getD t undef
 new : ∀ i, i ≤ 10 → L.getD i false = true → a.tmps.getD (46 + i) undef = vl7 gw gx b1 b2 k c1 i
 e9 : L.getD 11 false = true → L.getD 9 false = true
 wr : R7 w0 b1 b2 es1 es2 c1 c2 k (L.getD 9 false) (L.getD 11 false) (L.getD 12 false) w
theorem D4 (L : Array Bool) (i j : Nat) (hi : i < L.size) : (L.setIfInBounds i true).getD j false = if j = i then true else L.getD j false := by
 simp only [Array.getD_eq_getD_getElem?, Array.getElem?_setIfInBounds]
 all_goals grind
theorem a6Z (a : Act) (d : Nat) (v : Value) (t : Nat) (hd : d < a.tmps.size) : (a.put (some d) v).tmps.getD t undef = if t = d then v else a.tmps.getD t undef := by
 simp only [Act.put, Array.getD_eq_getD_getElem?, Array.getElem?_setIfInBounds]
 all_goals grind
section
variable {w0 : World} {a0 : Act} {gw gx b1 b2 : Nat} {es1 es2 : Array MapEntry} {c1 c2 : Nat} {k : ByteArray} {L : Array Bool} {a : Act} {w w' : World}
theorem I7.val (h : I7 w0 a0 gw gx b1 b2 es1 es2 c1 c2 k L a w) {i : Nat} (hi : i ≤ 10) (hw : R7 w0 b1 b2 es1 es2 c1 c2 k (if i = 9 then true else L.getD 9 false) (L.getD 11 false) (L.getD 12 false) w') :
  I7 w0 a0 gw gx b1 b2 es1 es2 c1 c2 k (L.setIfInBounds i true) (a.put (some (46 + i)) (vl7 gw gx b1 b2 k c1 i)) w' := by
 have hz := h.sz
 have ht := h.ts
 refine ⟨by simpa using hz, by simp [Act.put, ht], h.df, fun t h1 => ?_, fun j h1 h2 => ?_, fun h1 => ?_, ?_⟩
 ·rw [a6Z _ _ _ _ (by omega), if_neg (by omega)]; exact h.old t h1
 ·rw [a6Z _ _ _ _ (by omega)]
  by_cases e : j = i
  ·subst e; rw [if_pos rfl]
  ·rw [if_neg (by omega)]
   rw [D4 _ _ _ (by omega), if_neg e] at h2
   exact h.new j h1 h2
 ·rw [D4 _ _ _ (by omega), if_neg (by omega)] at h1
  rw [D4 _ _ _ (by omega)]
  split
  ·rfl
  ·exact h.e9 h1
 ·rw [D4 _ _ _ (by omega), D4 _ _ _ (by omega), D4 _ _ _ (by omega), if_neg (show ¬11 = i by omega), if_neg (show ¬12 = i by omega)]
  all_goals grind
theorem I7.st (h : I7 w0 a0 gw gx b1 b2 es1 es2 c1 c2 k L a w) {i : Nat} (hi : i = 11 ∨ i = 12) (h9 : L.getD 9 false = true) (hw : R7 w0 b1 b2 es1 es2 c1 c2 k true (if i = 11 then true else L.getD 11 false) (if i = 12 then true else L.getD 12 false) w') :
  I7 w0 a0 gw gx b1 b2 es1 es2 c1 c2 k (L.setIfInBounds i true) (a.put none undef) w' := by
 have hz := h.sz
 have hne : ∀ j, j ≤ 10 → (L.setIfInBounds i true).getD j false = L.getD j false := fun j hj => by rw [D4 _ _ _ (by omega), if_neg (by omega)]
 refine ⟨by simpa using hz, h.ts, h.df, h.old, fun j h1 h2 => h.new j h1 (by rw [hne j h1] at h2; exact h2), fun _ => by rw [hne 9 (by omega)]; exact h9, ?_⟩
 rw [hne 9 (by omega), h9, D4 _ _ _ (by omega), D4 _ _ _ (by omega)]
 all_goals grind
end
theorem a6V {P : Program} {o : Oper} {a : Act} {w w' : World} {K : Act → World → Prop} {Q : Exit → Act → World → Prop} (h : (execOp a.eval o).run P w = .ok .skip w') (hK : K (a.put o.dst undef) w') : o.wp P a w K Q := by
 unfold Oper.wp
 rw [h]
 exact hK
theorem d3Y {w0 : World} {a0 : Act} {gw gx b1 b2 : Nat} {es1 es2 : Array MapEntry} {c1 c2 : Nat} {k : ByteArray} (hts : a0.tmps.size = 133) (h10 : a0.tmps.getD 10 undef = .pointer (some ⟨gw, 0, none⟩)) (h11 : a0.tmps.getD 11 undef = .map (some b2)) (h13 : a0.tmps.getD 13 undef = .pointer (some ⟨gx, 0, none⟩))
  (cw : w0.cell? ⟨gw, 0 + 2, none⟩ = some (.map (some b1))) (cx : w0.cell? ⟨gx, 0 + 0, none⟩ = some (.string k)) (hgw : gw ≠ b1 ∧ gw ≠ b2) (hgx : gx ≠ b1 ∧ gx ≠ b2) (hb : b1 ≠ b2) (m1 : w0.heap[b1]? = some (.map es1 c1)) (m2 : w0.heap[b2]? = some (.map es2 c2))
  (hk1 : ∀ x ∈ es1.toList, ∃ s, x.key = .string s ∧ s ≠ k) (hk2 : ∀ x ∈ es2.toList, ∃ s, x.key = .string s ∧ s ≠ k) (hs : ∀ x ∈ es1.toList, x.born ≠ c1)
  {R : Exit → Act → World → Prop} (hR : ∀ a w, a.tmps.size = 133 → a.defers = a0.defers → (∀ t, t < 46 ∨ 56 < t → a.tmps.getD t undef = a0.tmps.getD t undef) → R7 w0 b1 b2 es1 es2 c1 c2 k true true true w → R .normal a w) : (q6 p7 lgK).wp Tryz.prog R a0 w0 := by
 refine d3Q (by kernel_rfl) p7 c7m ?_
 have hgd0 := List.all_eq_true.1 d3f
 refine a9D (I7 w0 a0 gw gx b1 b2 es1 es2 c1 c2 k) ?_ ?_ ?_ ?_ _ _ _ _ ?_ ?_
 ·intro i o ho
  have hlt := (Array.getElem?_eq_some_iff.1 ho).1
  have hoo : o = (opG p7).getD i default := by rw [List.getD_eq_getElem?_getD]; simp at ho; rw [ho]; rfl
  have h1 := hgd0 i (by rw [← a5n]; simpa using hlt)
  rw [Bool.and_eq_true] at h1
  rw [hoo]
  refine ⟨Option.isNone_iff_eq_none.1 h1.1, fun e he hbi => ?_⟩
  have h2 := Array.all_eq_true'.1 h1.2 e he
  grind
 ·intro L a w h; rw [h.sz]; simp [a5n]
 ·intro i o ho L a w hI hL hd
  have hlt := (Array.getElem?_eq_some_iff.1 ho).1
  have hi13 : i < 13 := by rw [← a5n]; simpa using hlt
  have hoo : o = (opG p7).getD i default := by rw [List.getD_eq_getElem?_getD]; simp at ho; rw [ho]; rfl
  have hLf : L.getD i false = false := by
   grind
  have dp : ∀ j, dpB i j = true → L.getD j false = true := fun j hj => by
   unfold dpB at hj
   grind
  have e10 : a.tmps.getD 10 undef = .pointer (some ⟨gw, 0, none⟩) := (hI.old 10 (by omega)).trans h10
  have e11 : a.tmps.getD 11 undef = .map (some b2) := (hI.old 11 (by omega)).trans h11
  have e13 : a.eval (.tmp 13) = .pointer (some ⟨gx, 0, none⟩) := (hI.old 13 (by omega)).trans h13
  have cw' : w.cell? ⟨gw, 0 + 2, none⟩ = some (.map (some b1)) := (World.cell?_of_block (w := w0) (hI.wr.oth gw hgw.1 hgw.2)).trans cw
  have cx' : w.cell? ⟨gx, 0 + 0, none⟩ = some (.string k) := (World.cell?_of_block (w := w0) (hI.wr.oth gx hgx.1 hgx.2)).trans cx
  clear hL ho hlt hd
  subst hoo
  match i, hi13, hLf, dp with
  | 0, _, hL, dp =>
   refine i9 (v := vl7 gw gx b1 b2 k c1 0) (w' := w) ((b3I _ d5z).trans (by rw [show a.eval (.tmp 10) = _ from e10]; rfl)) ?_
   rw [d6m]
   exact hI.val (by omega) (by rw [if_neg (by omega)]; exact hI.wr)
  | 1, _, hL, dp =>
   refine i9 (v := vl7 gw gx b1 b2 k c1 1) (w' := w) (b8V d5G (hI.new 0 (by omega) (dp 0 c6A))) ?_
   rw [d5X]
   exact hI.val (by omega) (by rw [if_neg (by omega)]; exact hI.wr)
  | 2, _, hL, dp =>
   refine i9 (v := vl7 gw gx b1 b2 k c1 2) (w' := w) (a1f (sz := 1) d6n (by kernel_rfl) (by decide) (hI.new 1 (by omega) (dp 1 c7r))) ?_
   rw [d5l]
   exact hI.val (by omega) (by rw [if_neg (by omega)]; exact hI.wr)
  | 3, _, hL, dp =>
   refine i9 (v := vl7 gw gx b1 b2 k c1 3) (w' := w) (a0p Tryz.underlying140 rfl d6c (hI.new 2 (by omega) (dp 2 c9I)) cw') ?_
   rw [d5T]
   exact hI.val (by omega) (by rw [if_neg (by omega)]; exact hI.wr)
  | 4, _, hL, dp =>
   refine i9 (v := vl7 gw gx b1 b2 k c1 4) (w' := w) (a1f (sz := 1) d5i (by kernel_rfl) (by decide) e13) ?_
   rw [d5o]
   exact hI.val (by omega) (by rw [if_neg (by omega)]; exact hI.wr)
  | 5, _, hL, dp =>
   refine i9 (v := vl7 gw gx b1 b2 k c1 5) (w' := w) (a0p Tryz.underlying9 rfl d6s (hI.new 4 (by omega) (dp 4 d1b)) cx') ?_
   rw [d4Y]
   exact hI.val (by omega) (by rw [if_neg (by omega)]; exact hI.wr)
  | 6, _, hL, dp =>
   refine i9 (v := vl7 gw gx b1 b2 k c1 6) (w' := w) ((b3I _ d6l).trans (by rw [show a.eval (.tmp 11) = _ from e11]; rfl)) ?_
   rw [d6u]
   exact hI.val (by omega) (by rw [if_neg (by omega)]; exact hI.wr)
  | 7, _, hL, dp =>
   refine i9 (v := vl7 gw gx b1 b2 k c1 7) (w' := w) (a1f (sz := 1) d6h (by kernel_rfl) (by decide) e13) ?_
   rw [d5E]
   exact hI.val (by omega) (by rw [if_neg (by omega)]; exact hI.wr)
  | 8, _, hL, dp =>
   refine i9 (v := vl7 gw gx b1 b2 k c1 8) (w' := w) (a0p Tryz.underlying9 rfl d5N (hI.new 7 (by omega) (dp 7 c7Q)) cx') ?_
   rw [d5v]
   exact hI.val (by omega) (by rw [if_neg (by omega)]; exact hI.wr)
  | 9, _, hL, dp =>
   have hf9 : L.getD 9 false = false := hL
   have hf11 : L.getD 11 false = false := by
    cases h : L.getD 11 false with
    | false => rfl
    | true => have := hI.e9 h; rw [hf9] at this; cases this
   have hb1 := hI.wr.h1
   rw [hf9, if_neg (by simp)] at hb1
   have e49 : a.eval (.tmp 49) = .map (some b1) := hI.new 3 (by omega) (dp 3 c9l)
   have e51 : a.eval (.tmp 51) = .string k := hI.new 5 (by omega) (dp 5 c6y)
   refine i9 (v := vl7 gw gx b1 b2 k c1 9) (w' := { w with heap := w.heap.setIfInBounds b1 (.map (es1.push (stE k 0 c1)) (c1 + 1)) }) (b0Q d6p (by rw [e49, e51]; exact b7B hb1 hk1)) ?_
   rw [d6v]
   refine hI.val (by omega) ?_
   rw [if_pos rfl, hf11]
   have hset := MapKept.heap_set (o' := .map (es1.push (stE k 0 c1)) (c1 + 1)) hb1
   exact ⟨hI.wr.os, hI.wr.tape, hI.wr.output, by simp [hI.wr.size], fun b n1 n2 => (hset.2 b n1).trans (hI.wr.oth b n1 n2), by rw [if_pos rfl, if_neg (by simp)]; exact hset.1, (hset.2 b2 (fun e => hb e.symm)).trans hI.wr.h2⟩
  | 10, _, hL, dp =>
   refine i9 (v := vl7 gw gx b1 b2 k c1 10) (w' := w) (b8K (vs := #[.int .i64 0, .int .i64 c1]) d3B (hI.new 9 (by omega) (dp 9 c1K)) rfl) ?_
   rw [d2R]
   exact hI.val (by omega) (by rw [if_neg (by omega)]; exact hI.wr)
  | 11, _, hL, dp =>
   have h9 : L.getD 9 false = true := dp 9 c4z
   have hf11 : L.getD 11 false = false := hL
   have hb1 := hI.wr.h1
   rw [h9, hf11, if_pos rfl, if_neg (by simp)] at hb1
   have e49 : a.eval (.tmp 49) = .map (some b1) := hI.new 3 (by omega) (dp 3 c3O)
   have e56 : a.eval (.tmp 56) = .int .i64 c1 := hI.new 10 (by omega) (dp 10 b8t)
   refine a6V (w' := { w with heap := w.heap.setIfInBounds b1 (.map (es1.push (stE k 1 c1)) (c1 + 1)) }) (b7Q d4g (by rw [e49, e56]; exact c5n hb1 hs)) ?_
   rw [d2Z]
   refine hI.st (.inl rfl) h9 ?_
   rw [if_pos rfl, if_neg (by omega)]
   have hset := MapKept.heap_set (o' := .map (es1.push (stE k 1 c1)) (c1 + 1)) hb1
   exact ⟨hI.wr.os, hI.wr.tape, hI.wr.output, by simp [hI.wr.size], fun b n1 n2 => (hset.2 b n1).trans (hI.wr.oth b n1 n2), by rw [if_pos rfl, if_pos rfl]; exact hset.1, (hset.2 b2 (fun e => hb e.symm)).trans hI.wr.h2⟩
  | 12, _, hL, dp =>
   have h11 : L.getD 11 false = true := dp 11 b5A
   have h9 : L.getD 9 false = true := hI.e9 h11
   have hf12 : L.getD 12 false = false := hL
   have hb2 := hI.wr.h2
   rw [hf12, if_neg (by simp)] at hb2
   have e52 : a.eval (.tmp 52) = .map (some b2) := hI.new 6 (by omega) (dp 6 c0Q)
   have e54 : a.eval (.tmp 54) = .string k := hI.new 8 (by omega) (dp 8 c0V)
   refine a6V (w' := { w with heap := w.heap.setIfInBounds b2 (.map (es2.push (stE k 1 c2)) (c2 + 1)) }) (b5d d3T (by rw [e52, e54]; exact b6c hb2 hk2)) ?_
   rw [d2g]
   refine hI.st (.inr rfl) h9 ?_
   rw [if_neg (by omega), if_pos rfl, h11]
   have hset := MapKept.heap_set (o' := .map (es2.push (stE k 1 c2)) (c2 + 1)) hb2
   have hh1 := hI.wr.h1
   rw [h9, h11] at hh1
   exact ⟨hI.wr.os, hI.wr.tape, hI.wr.output, by simp [hI.wr.size], fun b n1 n2 => (hset.2 b n2).trans (hI.wr.oth b n1 n2), (hset.2 b1 hb).trans hh1, by rw [if_pos rfl]; exact hset.1⟩
  | i + 13, h, _, _ => omega
 ·intro L a w hI hall
  have hf : ∀ i, i < 13 → L.getD i false = true := fun i hi => by
   have h1 := hall i (by simp [a5n]; exact hi)
   have : i < L.size := by rw [hI.sz]; exact hi
   grind
  have hw := hI.wr
  rw [hf 9 (by omega), hf 11 (by omega), hf 12 (by omega)] at hw
  exact hR a w hI.ts hI.df hI.old hw
 ·have hz : ∀ i, (Array.replicate (opG p7).length false).getD i false = false := fun i => by
   simp only [Array.getD]; split <;> simp
  exact ⟨by simp [a5n], hts, rfl, fun _ _ => rfl, fun i _ h => (by rw [hz] at h; cases h), fun h => (by rw [hz] at h; cases h), by
   rw [hz, hz, hz]
   exact ⟨rfl, rfl, rfl, rfl, fun _ _ _ => rfl, by rw [if_neg (by simp)]; exact m1, by rw [if_neg (by simp)]; exact m2⟩⟩
 ·simp
end Go.Proofs.YtbhgndiboeppeaaGreatDoor
