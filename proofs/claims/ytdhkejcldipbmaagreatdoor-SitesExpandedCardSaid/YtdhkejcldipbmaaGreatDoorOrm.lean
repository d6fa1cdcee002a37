
/-
 Answers for runs: slices.Clone of strings, and strings.Builder's methods.
-/
import Derived.Test.YtdhkejcldipbmaaGreatDoorKst
import Derived.Test.YtdhkejcldipbmaaGreatDoorBld
import Derived.WalkKit
import Derived.Lib.Walk
import Derived.Lib.SliceRun
import Derived.Lib.MakeNoZero
namespace Go.Proofs.YtdhkejcldipbmaaGreatDoor
open Go Go.Ai Go.Proofs Go.RowKit Go.Lib
set_option linter.unusedSimpArgs false
set_option linter.unusedVariables false
set_option maxHeartbeats 4000000
abbrev sRow (l : List ByteArray) : Row := ⟨0, 9, 1, l.map sC⟩
theorem rrel_strs {w : World} {ok : Nat → Prop} {base : Nat} : ∀ l : List ByteArray, RRel w ok base (l.map sC).flatten (l.map .string)
 | [] => .nil
 | x :: l => by
  have h : RRel w ok base [Cel.g (.string x)] [Value.string x] := ⟨rfl, fun i c u h1 h2 => by
   match i with
   | 0 => simp at h1 h2; subst h1; subst h2; exact ⟨rfl, rfl, rfl⟩
   | i + 1 => simp at h1⟩
  exact h.append (rrel_strs l)
theorem sl_strs {w : World} {ok : Nat → Prop} {fr : Bool} {l : List ByteArray} {v : Value} (h : DRel w ok (.sl fr 1 (l.map sC)) v) :
  ∃ A c, v = .slice A l.length c ∧ ∀ i t, l[i]? = some t → ∃ b off, A = some ⟨b, off, none⟩ ∧ b < w.heap.size ∧ w.cell? ⟨b, off + i, none⟩ = some (.string t) := by
 generalize hE : l.map sC = es at h
 generalize hc : Cel.sl fr 1 es = c at h
 cases h with
 | g hv => cases hc
 | any hv => cases hc
 | fm => cases hc
 | ep => cases hc
 | @nil fr' z' a cc =>
  injection hc with _ _ hc
  subst hc
  have : l = [] := List.map_eq_nil_iff.1 hE
  subst this
  exact ⟨a, cc, rfl, by simp⟩
 | @sl fr' z' es' b off n cc us hn hnc hb hlt hz hcell hrel =>
  injection hc with _ hz' hc
  subst hc; subst hz'; subst hE
  refine ⟨some ⟨b, off, none⟩, cc, by rw [hn]; simp, fun i t ht => ⟨b, off, rfl, hlt, ?_⟩⟩
  have he : (l.map sC)[i]? = some (sC t) := by rw [List.getElem?_map, ht]; rfl
  have h1 := hcell i _ 0 _ he rfl
  have h2 := hrel i _ 0 _ he rfl
  rw [Nat.mul_one, Nat.add_zero] at h1
  rw [h1]
  generalize us i 0 = uu at h2
  cases h2; rfl
set_option maxHeartbeats 2000000 in
set_option maxRecDepth 100000 in
theorem clone_run (A : Option Addr) (c : Nat) (l : List ByteArray) (w : World) (hl : l.length ≤ 1000000) (hz : ∀ i t, l[i]? = some t → ∃ b off, A = some ⟨b, off, none⟩ ∧ b < w.heap.size ∧ w.cell? ⟨b, off + i, none⟩ = some (.string t)) :
  Calls Tryz.prog 28 #[.slice A l.length c] w fun e w' => ∃ v', e = .returned v' ∧ w.grownBy w' none ∧ w'.ownsRow w.heap.size 9 1 v' l.length (l.map .string) := by
 obtain ⟨i1, hj, hj0, hj1, hj2⟩ := info_parts (show (Tryz.prog.info? 9).map (fun i => (i.zero, i.size, i.bytes)) = some (some (.string ByteArray.empty), 1, 16) by kernel_rfl)
 have q24 : ∀ (w : World) (a : Option Addr) (n c n' c' : Nat), (binOp .eql 35 (.slice a n c) (.slice none n' c')).run Tryz.prog w = .ok (.bool a.isNone) w := fun w a n c n' c' => Lib.run_eql_slice_nil w _ _ a n c n' c' Tryz.underlying35
 match A with
 | none =>
  have : l = [] := by
   cases l with
   | nil => rfl
   | cons x r => obtain ⟨b, off, h, _⟩ := hz 0 x rfl; cases h
  subst this
  go_enter Tryz.func28, Tryz.ntmps28
  go_wp2
  go_ret
  exact ⟨_, rfl, ⟨rfl, rfl, rfl, Nat.le_refl _, fun _ _ _ => rfl⟩, World.ownsRow_nil _ _ _ _⟩
 | some a =>
  have hcell : ∀ j u, (l.map Value.string)[j]? = some u → w.cell? (a.add j) = some u := fun j u hu => by
   rw [List.getElem?_map] at hu
   cases hx : l[j]? with
   | none => rw [hx] at hu; cases hu
   | some s' =>
    rw [hx] at hu; simp at hu; subst hu
    obtain ⟨b, off, e, _, h⟩ := hz j s' hx
    injection e with e
    subst e
    rw [add_none]; exact h
  have AA : Aside (∀ j u, (l.map Value.string)[j]? = some u → w.cell? (a.add j) = some u) := hcell
  clear hcell
  go_enter Tryz.func28, Tryz.ntmps28
  go_wp2_with (at_builtin; refine wpList_append_own _ rfl _ _ 35 rfl w.heap.size 9 i1 (.string ByteArray.empty) 1 16 Tryz.underlying35 hj hj0 hj1 hj2 rfl (by decide) _ _ _ rfl (World.ownsRow_made w #[] 0 (Nat.le_refl _) (Nat.zero_le _) rfl) a l.length c (l.map Value.string) rfl ?qc1 ?qc2 ?qc3 ?qc4 ?qc5 ?qc6 ?_)
  case qc1 => simp
  case qc2 => intro j u hj; exact Lib.cell?_alloc_some _ (AA.out j u hj)
  case qc3 => intro u hu; obtain ⟨x, _, rfl⟩ := List.mem_map.1 hu; rfl
  case qc4 => unfold maxLen; omega
  case qc5 => omega
  case qc6 => simp
  intro v' w1 hown hgrow hnil
  go_wp2
  go_ret
  refine ⟨v', rfl, ?_, by simpa using hown⟩
  have hsz := hgrow.size
  rw [World.size_alloc] at hsz
  refine ⟨hgrow.os, hgrow.tape, hgrow.output, by omega, fun k hk _ => ?_⟩
  rw [hgrow.block k (by rw [World.size_alloc]; omega) (by simp [Value.ownBlock]; omega)]
  exact (World.grownBy_alloc w _ none).block k hk (by simp)
/-- A call that makes one row and hands it back. -/
theorem fcm_new1 {w w' : World} {okA : Nat → Prop} {E : Env} {R : Hp → Val → Prop} {e : Ending} {v : Value} (key : Nat) {l : List ByteArray} (hk : bldK key = false)
  (hH : HRel w okA w.heap.size E (tabO []) (tabO [])) (hg : w.grownBy w' none) (ho : w'.ownsRow w.heap.size 9 1 v l.length (l.map .string)) (he : e = .returned v)
  (hR : R ⟨[], [(key, sRow l)]⟩ (.one (.ow key 0))) :
  ∃ v H' r E', e = .returned v ∧ R H' r ∧ Grew E.own w w' ∧
 HRel w' (okE w okA E') w.heap.size E' (tabO H'.bs) (tabO H'.rs) ∧ VRel w' (okE w okA E') w.heap.size E' r v ∧
 (∀ k g g', E.gm k = some g → E'.gm k = some g' → g = g') ∧ (∀ k g, E'.gm k = some g → w.heap.size ≤ g ∨ E.gm k = some g) ∧
 (∀ k ver z u b, E'.rm k = some (ver, z, u) → (blkV u) = some b → w.heap.size ≤ b ∨ ∃ ver' z' u', E.rm k = some (ver', z', u') ∧ (blkV u') = some b) ∧
 (∀ k r0, tabO H'.rs k = some r0 → r0.ver = 0) ∧ (∀ k r0 r1, tabO ([] : List (Nat × Row)) k = some r0 → tabO H'.rs k = some r1 → r1.z = r0.z) ∧
 (∀ k ver ver' z z' u u', k ∈ ([] : List Nat) → E.rm k = some (ver, z, u) → E'.rm k = some (ver', z', u') → u = u') ∧ (∀ k g, bldK k = true → E.gm k = some g → E'.gm k = some g → ∃ cur T, w'.heap[g]? = some (.cells cur T (0, 0)) ∧ isBld Tryz.prog T = true) := by
 have hgm : ∀ k, E.gm k = none := fun k => hH.bxn k rfl
 have hE : ∀ k ver z u, (if k = key then some ((0 : Nat), (1 : Nat), v) else none) = some (ver, z, u) → k = key ∧ ver = 0 ∧ z = 1 ∧ u = v := fun k ver z u h => by
  split at h
  ·simp only [Option.some.injEq, Prod.mk.injEq] at h
   obtain ⟨rfl, rfl, rfl⟩ := h
   exact ⟨by assumption, rfl, rfl, rfl⟩
  ·cases h
 have hk1 : ∀ (k : Nat) (r0 : Row), tabO [(key, sRow l)] k = some r0 → k = key ∧ r0 = sRow l := fun k r0 h => by
  simp only [tabO] at h
  split at h
  ·rename_i e; injection h with h; exact ⟨e, h.symm⟩
  ·cases h
 have hone : v.oneCell' = true := by rcases ho.2 with ⟨rfl, _⟩ | ⟨_, _, _, rfl, _⟩ <;> rfl
 refine ⟨_, _, _, ⟨fun _ => none, fun k => if k = key then some (0, 1, v) else none⟩, he, hR, ⟨hg.os, hg.tape, hg.output, hg.size, fun k hk _ => hg.block k hk (by simp)⟩, ?_, ?_, fun k g g' h => (by rw [hgm] at h; cases h), fun k g h => (by cases h), ?_, ?_, fun k r0 r1 h => (by simp [tabO] at h), fun k _ _ _ _ _ _ h => (by simp at h), fun k g _ h => (by rw [hgm] at h; cases h)⟩
 ·refine ⟨fun k cs h => (by simp [tabO] at h), fun k _ => rfl, fun k r0 h => ?_, fun k h => ?_, fun k k' g' h => (by cases h), fun k g' k' ver z u h => (by cases h), fun k ver z u k' ver' z' u' b h h' _ _ => ?_⟩
  ·obtain ⟨rfl, rfl⟩ := hk1 _ _ h
   refine ⟨fun h => by simp at h, .of (show (0 : Nat) < 1 by omega) (fun e he => ?_), v, l.map .string, by simp, .inl ⟨show (0 : Nat) < 1 by omega, ?_⟩, rrel_strs l⟩
   ·obtain ⟨x, _, rfl⟩ := List.mem_map.1 he; rfl
   ·simp only [List.length_map]
    exact ⟨ho.1, ho.2.imp id fun ⟨g, cap, cur, h1, _, r⟩ => ⟨g, cap, cur, h1, Nat.zero_le _, r⟩⟩
  ·simp only [tabO] at h
   split at h
   ·cases h
   ·rename_i e; simp only []; rw [if_neg e]
  ·have := hE _ _ _ _ h
   have := hE _ _ _ _ h'
   omega
 ·exact .one ⟨hone, 0, 1, v, by simp, Nat.le_refl _, fun _ => rfl, by omega⟩
 ·intro k ver z u b h hb
  obtain ⟨_, _, _, rfl⟩ := hE _ _ _ _ h
  rw [row_blkV ho] at hb
  exact .inl (ho.lt b hb).1
 ·intro k r0 h
  obtain ⟨_, rfl⟩ := hk1 _ _ h
  rfl
/-- Strings, as cells. -/
def strsE : List (List Cel) → Option (List ByteArray)
 | [] => some []
 | [.g (.string s)] :: l => (strsE l).map (s :: ·)
 | _ => none
theorem strsE_ok : ∀ {es : List (List Cel)} {l : List ByteArray}, strsE es = some l → es = l.map sC
 | [], l, h => by cases h; rfl
 | e :: r, l, h => by
  unfold strsE at h
  split at h
  ·rename_i he; cases he
  ·rename_i s l' he
   cases he
   obtain ⟨l1, h1, rfl⟩ := Option.map_eq_some_iff.1 h
   rw [strsE_ok h1]; rfl
  ·cases h
def slA : List Val → Option (Bool × List ByteArray)
 | [.one (.sl fr 1 es)] => (strsE es).map fun l => (fr, l)
 | _ => none
theorem slA_ok {args : List Val} {fr : Bool} {l : List ByteArray} (h : slA args = some (fr, l)) : args = [.one (.sl fr 1 (l.map sC))] := by
 unfold slA at h; split at h
 ·obtain ⟨l1, h1, h2⟩ := Option.map_eq_some_iff.1 h
  cases h2
  rw [strsE_ok h1]
 ·cases h
theorem clone_fcm (fr : Bool) (l : List ByteArray) (hl : l.length ≤ 1000000) : FCM Tryz.prog 28 ⟨[], []⟩ [.one (.sl fr 1 (l.map sC))] (fun H r => H = ⟨[], [(600, sRow l)]⟩ ∧ r = .one (.ow 600 0)) := by
 refine ⟨⟨_, Tryz.func28, by kernel_rfl, by kernel_rfl⟩, fun w okA E vs htab hH hown hty hlen hrel => ?_⟩
 match vs, hlen with
 | [v], _ =>
  obtain ⟨ok', hv⟩ : ∃ ok', DRel w ok' (.sl fr 1 (l.map sC)) v := ⟨_, one_c (hrel 0 _ v rfl rfl) rfl⟩
  obtain ⟨A, c, rfl, hc⟩ := sl_strs hv
  refine Calls.mono (clone_run A c l w hl hc) ?_
  rintro e w' ⟨v', rfl, hg, ho⟩
  exact fcm_new1 600 rfl hH hg ho rfl ⟨rfl, rfl⟩
def oCln : OM Tryz.prog := ⟨28, [], [600], fun S H args => if S.isEmpty && hp0 H then (match slA args with
 | some (_, l) => if l.length ≤ 1000000 then some (⟨[], [(600, sRow l)]⟩, .one (.ow 600 0)) else none
 | none => none) else none, fun S H args X r h => by
 split at h
 ·rename_i hc
  rw [Bool.and_eq_true, List.isEmpty_iff] at hc
  obtain ⟨rfl, h1⟩ := hc
  obtain rfl := hp0_ok h1
  split at h
  ·rename_i fr l he
   split at h
   ·cases h; rw [slA_ok he]; exact clone_fcm fr l (by assumption)
   ·cases h
  ·cases h
 ·cases h⟩
set_option maxHeartbeats 2000000 in
set_option maxRecDepth 1000000 in
theorem bld_grow0 (b n : Nat) (w : World) (hbk : w.heap[b]? = some (.cells #[.pointer (some ⟨b, 0, none⟩), .slice none 0 0] bTy (0, 0))) (hn : n ≤ 281474976710656) :
  Calls Tryz.prog 219 #[.pointer (some ⟨b, 0, none⟩), .int .i64 n] w fun e w' => e = .returned (.tuple #[]) ∧ ∃ cs : Array Value, cs.size ≤ maxLen ∧ w' = ((w.setCell ⟨b, 1, none⟩ (.slice (some ⟨w.heap.size, 0, none⟩) 0 cs.size)).alloc (.cells cs byTy)).drew.drew.drew := by
 obtain ⟨cs, hrun, hle, hmax⟩ := Lib.run_makeNoZero (P := Tryz.prog) w.drew #[3] 200 byTy Tryz.underlying200 n hn
 have hw : IntKind.i64.wrap (n : Int) = n := by
  rw [IntKind.wrap_i64]
  omega
 have hcall : (callFunc 236 #[.int .i64 (IntKind.i64.wrap (n : Int))]).run Tryz.prog w.drew = .ok (.value (.slice (some ⟨w.drew.heap.size, 0, none⟩) n cs.size)) (w.drew.drew.drew.alloc (.cells cs byTy)) := by
  rw [hw, run_callFunc_extern Tryz.func236 (by kernel_rfl) (by kernel_rfl) (by kernel_rfl) (e := Extern.BytealgMakeNoZero.makeNoZero #[3] #[200]) (by kernel_rfl), hrun]
  rfl
 have hlt : b < w.heap.size := (Array.getElem?_eq_some_iff.1 hbk).1
 have c1 : w.drew.cell? ⟨b, 1, none⟩ = some (.slice none 0 0) := by
  have : w.drew.heap[b]? = _ := hbk
  rw [Lib.cell_of_heap this]; rfl
 have c2 : (w.alloc (.cells cs byTy)).cell? ⟨b, 1, none⟩ = some (.slice none 0 0) := by
  have : (w.alloc (.cells cs byTy)).heap[b]? = _ := (Lib.alloc_old w _ b hlt).trans hbk
  rw [Lib.cell_of_heap this]; rfl
 have f2 : (w.alloc (.cells cs byTy)).frozen? ⟨b, 1, none⟩ = false := Lib.frozen_of_heap ((Lib.alloc_old w _ b hlt).trans hbk) 1
 have hcopy : ∀ W : World, (Builtin.copy_ #[200, 200] 3 #[.slice (some ⟨w.heap.size, 0, none⟩) 0 cs.size, .slice none 0 0]).run Tryz.prog W = .ok (goInt 0) W :=
  fun W => run_copy_none W 200 200 3 byTy _ _ 0 cs.size 0 0 Tryz.underlying200 LBuilder_Extra_169.sizeByte rfl
 clear hw
 have hm := hmax (by unfold maxLen; omega)
 have mixed := Llays169.mixed
 go_enter Tryz.func219, Tryz.ntmps219
 go_wp2
 go_region_o
 all_goals (go_wp2; go_end0; exact ⟨rfl, cs, hm, rfl⟩)
set_option maxHeartbeats 2000000 in
set_option maxRecDepth 1000000 in
theorem bld_Grow (b n : Nat) (w : World) (hbk : w.heap[b]? = some (.cells #[.pointer none, .slice none 0 0] bTy (0, 0))) (hn : n ≤ 281474976710656) :
  Calls Tryz.prog 187 #[.pointer (some ⟨b, 0, none⟩), .int .i64 n] w fun e w' => e = .returned (.tuple #[]) ∧ ∃ u, w'.heap[b]? = some (.cells #[.pointer (some ⟨b, 0, none⟩), u] bTy (0, 0)) ∧ w'.ownsRow w.heap.size byTy 1 u 0 [] ∧ w.grownBy w' (some b) := by
 have hlt : b < w.heap.size := (Array.getElem?_eq_some_iff.1 hbk).1
 have c1 : ∀ w1 : World, w1.heap[b]? = some (.cells #[.pointer (some ⟨b, 0, none⟩), .slice none 0 0] bTy (0, 0)) → w1.drew.cell? ⟨b, 1, none⟩ = some (.slice none 0 0) := fun w1 h => by
  have h' : w1.drew.heap[b]? = _ := h
  rw [Lib.cell_of_heap h']; rfl
 have mixed := Llays169.mixed
 go_enter Tryz.func187, Tryz.ntmps187
 go_wp2_with (go_at_call 218; refine (bld_check b _ _ _ hbk (.inl rfl)).mono ?_)
 rintro e w1 ⟨rfl, hg1, hb1⟩
 have c2 := c1 w1 hb1
 have hs1 := hg1.size
 go_wp2
 go_region_o
 go_wp2_with (go_at_call 219; refine (bld_grow0 b n w1.drew hb1 hn).mono ?_)
 ·rintro e w2 ⟨rfl, cs, hm, rfl⟩
  go_wp2
  go_end0
  have hsz : (w1.drew.setCell ⟨b, 1, none⟩ (.slice (some ⟨w1.drew.heap.size, 0, none⟩) 0 cs.size)).heap.size = w1.heap.size := by simp [World.setCell]
  have hold : ∀ k, k < w1.heap.size → ((w1.drew.setCell ⟨b, 1, none⟩ (.slice (some ⟨w1.drew.heap.size, 0, none⟩) 0 cs.size)).alloc (.cells cs byTy)).heap[k]? = (w1.drew.setCell ⟨b, 1, none⟩ (.slice (some ⟨w1.drew.heap.size, 0, none⟩) 0 cs.size)).heap[k]? := fun k hk => Lib.alloc_old _ _ k (by rw [hsz]; exact hk)
  refine ⟨rfl, .slice (some ⟨w1.drew.heap.size, 0, none⟩) 0 cs.size, ?_, ?_, ?_⟩
  ·refine (hold b (Nat.lt_of_lt_of_le hlt hs1)).trans ?_
   have hb1' : w1.drew.heap[b]? = _ := hb1
   simp [World.setCell, Array.getElem?_modify]
   exact ⟨_, hb1', rfl⟩
  ·refine ⟨rfl, .inr ⟨w1.heap.size, cs.size, cs, rfl, hs1, ?_, Nat.zero_le _, hm, by simp, by simp⟩⟩
   have hnew := heap_alloc_new (w1.drew.setCell ⟨b, 1, none⟩ (.slice (some ⟨w1.drew.heap.size, 0, none⟩) 0 cs.size)) (.cells cs byTy)
   rw [hsz] at hnew
   exact hnew
  ·refine ⟨hg1.os, hg1.tape, hg1.output, ?_, fun k hk hne => ?_⟩
   ·show w.heap.size ≤ ((w1.drew.setCell ⟨b, 1, none⟩ (.slice (some ⟨w1.drew.heap.size, 0, none⟩) 0 cs.size)).alloc (.cells cs byTy)).heap.size
    rw [World.size_alloc, hsz]; omega
   ·refine (hold k (Nat.lt_of_lt_of_le hk hs1)).trans ?_
    rw [Below.heap_setCell _ _ _ _ (fun e => hne (by rw [e]))]
    exact hg1.block k hk hne
 ·go_end0
  exact ⟨rfl, _, hb1, World.ownsRow_nil _ _ _ _, ⟨hg1.os, hg1.tape, hg1.output, hs1, hg1.block⟩⟩
/-- Grow of a Builder that nobody has written to. -/
theorem grow_fcm (n : Nat) (hn : n ≤ 281474976710656) :
  FCM Tryz.prog 187 ⟨[(1900001, [.g (.pointer none), .g (.slice none 0 0)])], []⟩ [.one (.bx 1900001 0), iv n] (fun H r => H = bH (bpC true) (.ow 1000002 0) [] ∧ r = .tu []) := by
 refine ⟨⟨Tryz.f187, Tryz.func187, by kernel_rfl, by kernel_rfl⟩, fun w okA E vs htab hH hown hty hlen hrel => ?_⟩
 have hk3 : ∀ (x : List Cel) (k : Nat), tabO [(1900001, x)] k = none → k ≠ 1900001 := fun x k h e => by subst e; simp [tabO] at h
 have hk2 : ∀ (r : Row) (k : Nat), tabO [(1000002, r)] k = none → k ≠ 1000002 := fun r k h e => by subst e; simp [tabO] at h
 obtain ⟨g, cur, ty, hg, hcur, hcs⟩ := hH.bx 1900001 [.g (.pointer none), .g (.slice none 0 0)] (by simp [tabO])
 obtain ⟨cur0, T0, hh0, hT0⟩ := hty 1900001 g (by decide) hg
 have hT := bld_only hT0
 rw [hcur] at hh0
 injection hh0 with hh0; injection hh0 with _ hh0 _
 subst hh0; subst hT
 obtain ⟨p, u1, hpu⟩ : ∃ p u1, cur.toList = [p, u1] := by
  have := hcs.1
  match hc : cur.toList, this with
  | [p, u1], _ => exact ⟨p, u1, rfl⟩
 have hcu : cur = #[p, u1] := by apply Array.ext'; rw [hpu]
 subst hcu
 have hgm : ∀ k, k ≠ 1900001 → E.gm k = none := fun k hk => hH.bxn k (by simp [tabO, hk])
 have hrm : ∀ k, E.rm k = none := fun k => hH.rwn k rfl
 have hgv : ∀ {g1 k}, E.gm k = some g1 → k = 1900001 ∧ g1 = g := fun {g1 k} h => by
  by_cases e : k = 1900001
  ·subst e; rw [hg] at h; exact ⟨rfl, (Option.some.inj h).symm⟩
  ·rw [hgm k e] at h; cases h
 obtain ⟨rfl, _⟩ := hcs.2 0 (.g (.pointer none)) p rfl rfl
 obtain ⟨rfl, _⟩ := hcs.2 1 (.g (.slice none 0 0)) u1 rfl rfl
 have hvs : vs = [.pointer (some ⟨g, 0, none⟩), .int .i64 n] := by
  match vs, hlen with
  | [a, b], _ =>
   have h0 := hrel 0 _ a rfl rfl
   have h1 := one_g (hrel 1 _ b rfl rfl) rfl
   cases h0 with
   | one h3 =>
    obtain ⟨g', hg', hp'⟩ := h3
    rw [(hgv hg').2] at hp'; rw [hp', h1]
 subst hvs
 have hglt : g < w.heap.size := (Array.getElem?_eq_some_iff.1 hcur).1
 refine Calls.mono (bld_Grow g n w hcur hn) ?_
 rintro e w' ⟨rfl, u, hw', how', hgr⟩
 have hbk : ∀ b, blkV u = some b → w.heap.size ≤ b := fun b h => by
  rw [row_blkV how'] at h; exact (how'.lt b h).1
 have how0 : w'.ownsRow 0 byTy 1 u 0 [] := ⟨how'.1, how'.2.imp id fun ⟨g, cap, cur, h1, _, r⟩ => ⟨g, cap, cur, h1, Nat.zero_le _, r⟩⟩
 have hE : ∀ k ver z u2, (if k = 1000002 then some ((0 : Nat), (1 : Nat), u) else none) = some (ver, z, u2) → k = 1000002 ∧ u2 = u := fun k ver z u2 h => by
  split at h
  ·simp only [Option.some.injEq, Prod.mk.injEq] at h
   obtain ⟨_, _, rfl⟩ := h
   exact ⟨by assumption, rfl⟩
  ·cases h
 refine ⟨_, _, _, ⟨E.gm, fun k => if k = 1000002 then some (0, 1, u) else none⟩, rfl, ⟨rfl, rfl⟩, ?_, ?_, .tu (us := []) rfl (fun i x u h => by simp at h), ?_, ?_, ?_, ?_, ?_, ?_, ?_⟩
 ·exact ⟨hgr.os, hgr.tape, hgr.output, hgr.size, fun k hk hx => hgr.block k hk (fun e => hx (.inl ⟨1900001, by rw [hg]; exact e.symm⟩))⟩
 ·refine ⟨fun k cs h => ?_, fun k h => hgm k (hk3 _ _ h), fun k r0 h => ?_, fun k h => ?_, fun k k' g' h h' => by rw [(hgv h).1, (hgv h').1], fun k g' k' ver z u2 h h' hb => ?_, fun k ver z u2 k' ver' z' u' b h h' _ _ => ?_⟩
  ·obtain ⟨rfl, rfl⟩ := tabO_1b h
   refine ⟨g, #[.pointer (some ⟨g, 0, none⟩), u], bTy, hg, hw', rfl, fun i c x h1 h2 => ?_⟩
   match i with
   | 0 => simp at h1 h2; subst h1; subst h2; exact ⟨g, hg, rfl⟩
   | 1 => simp at h1 h2; subst h1; subst h2; exact ⟨oneCell_own how0, 0, 1, u, by simp, Nat.le_refl _, fun _ => rfl, by omega⟩
   | i + 2 => simp at h1
  ·obtain ⟨rfl, rfl⟩ := tabO_1b h
   exact ⟨fun h => by simp at h, .of (show (0 : Nat) < 1 by omega) (fun e he => by simp at he), u, [], by simp, .inl ⟨show (0 : Nat) < 1 by omega, how0⟩, .nil⟩
  ·have := hk2 _ _ h
   simp only [if_neg this]
  ·obtain ⟨_, rfl⟩ := hE _ _ _ _ h'
   have := hbk _ hb
   rw [(hgv h).2] at this
   omega
  ·rw [(hE _ _ _ _ h).1, (hE _ _ _ _ h').1]
 ·intro k g1 g2 h h'; exact (hgv h).2.trans (hgv h').2.symm
 ·intro k g1 h; exact .inr h
 ·intro k ver z u2 b h hb2
  obtain ⟨_, rfl⟩ := hE _ _ _ _ h
  exact .inl (hbk _ hb2)
 ·intro k r0 h; obtain ⟨rfl, rfl⟩ := tabO_1b h; rfl
 ·intro k r0 r1 h; simp [tabO] at h
 ·intro k ver ver' z z' u2 u3 hk; cases hk
 ·intro k g1 _ h h'
  obtain ⟨rfl, rfl⟩ := hgv h
  exact ⟨_, _, hw', hT0⟩
def bytE : List (List Cel) → Option (List UInt8)
 | [] => some []
 | [.g (.int .u8 n)] :: l => if ((UInt8.ofNat n.toNat).toNat : Int) = n then (bytE l).map (UInt8.ofNat n.toNat :: ·) else none
 | _ => none
theorem bytE_ok : ∀ {es : List (List Cel)} {l : List UInt8}, bytE es = some l → es = l.map bytC
 | [], l, h => by cases h; rfl
 | e :: r, l, h => by
  unfold bytE at h
  split at h
  ·rename_i he; cases he
  ·rename_i n l' he
   cases he
   split at h
   ·rename_i hn
    obtain ⟨l1, h1, rfl⟩ := Option.map_eq_some_iff.1 h
    rw [bytE_ok h1, List.map_cons, bytC, hn]
   ·cases h
  ·cases h
def bldB : List (Nat × List Cel) → Option Bool
 | [(1900001, [.g (.pointer none), .ow 1000002 0])] => some false
 | [(1900001, [.bx 1900001 0, .ow 1000002 0])] => some true
 | _ => none
theorem bldB_ok {bs : List (Nat × List Cel)} {q : Bool} (h : bldB bs = some q) : bs = [(1900001, [bpC q, .ow 1000002 0])] := by
 unfold bldB at h; split at h
 ·cases h; rfl
 ·cases h; rfl
 ·cases h
def bldR : List (Nat × Row) → Option (List UInt8)
 | [(1000002, ⟨0, E, 1, es⟩)] => if E = byTy then bytE es else none
 | _ => none
theorem bldR_ok {rs : List (Nat × Row)} {l : List UInt8} (h : bldR rs = some l) : rs = [(1000002, bRow l)] := by
 unfold bldR at h; split at h
 ·split at h
  ·rename_i hE; subst hE; rw [bytE_ok h]
  ·cases h
 ·cases h
def bldZ : List (Nat × List Cel) → Bool
 | [(1900001, [.g (.pointer none), .g (.slice none 0 0)])] => true
 | _ => false
theorem bldZ_ok {bs : List (Nat × List Cel)} (h : bldZ bs = true) : bs = [(1900001, [.g (.pointer none), .g (.slice none 0 0)])] := by
 unfold bldZ at h; split at h
 ·rfl
 ·cases h
def bldN : List Val → Option Nat
 | [.one (.bx 1900001 0), .one (.g (.int .i64 n))] => if (n.toNat : Int) = n ∧ n.toNat ≤ 1000000 then some n.toNat else none
 | _ => none
theorem bldN_ok {l : List Val} {n : Nat} (h : bldN l = some n) : l = [.one (.bx 1900001 0), iv n] ∧ n ≤ 1000000 := by
 unfold bldN at h; split at h
 ·split at h
  ·rename_i hn; cases h; rw [hn.1]; exact ⟨rfl, hn.2⟩
  ·cases h
 ·cases h
def bldS : List Val → Option ByteArray
 | [.one (.bx 1900001 0), .one (.g (.string s))] => if s.size ≤ 1000000 then some s else none
 | _ => none
theorem bldS_ok {l : List Val} {s : ByteArray} (h : bldS l = some s) : l = [.one (.bx 1900001 0), sv s] ∧ s.size ≤ 1000000 := by
 unfold bldS at h; split at h
 ·split at h
  ·cases h; exact ⟨rfl, by assumption⟩
  ·cases h
 ·cases h
def bldV : List Val → Bool
 | [.one (.bx 1900001 0)] => true
 | _ => false
theorem bldV_ok {l : List Val} (h : bldV l = true) : l = [.one (.bx 1900001 0)] := by
 unfold bldV at h; split at h
 ·rfl
 ·cases h
def oGrw : OM Tryz.prog := ⟨187, [1900001], [1000002], fun S H args => if S.isEmpty && (H.rs.isEmpty && bldZ H.bs) then (bldN args).map fun _ => (bH (bpC true) (.ow 1000002 0) [], .tu []) else none, fun S H args X r h => by
 split at h
 ·rename_i hc
  simp only [Bool.and_eq_true, List.isEmpty_iff] at hc
  obtain ⟨rfl, h1, h2⟩ := hc
  obtain ⟨bs, rs⟩ := H
  simp only at h1 h2
  subst h1
  rw [bldZ_ok h2]
  obtain ⟨n, hn, h⟩ := Option.map_eq_some_iff.1 h
  cases h
  obtain ⟨rfl, hn⟩ := bldN_ok hn
  exact grow_fcm n (by omega)
 ·cases h⟩
def oWrs : OM Tryz.prog := ⟨188, [1900001], [1000002], fun S H args => if S.isEmpty then (match bldB H.bs, bldR H.rs, bldS args with
 | some _, some l, some s => if l.length ≤ 1000000 then some (bH (bpC true) (.ow 1000002 0) (l ++ s.data.toList), .tu [iv s.size, .one (.g .nilIface)]) else none
 | _, _, _ => none) else none, fun S H args X r h => by
 split at h
 ·rename_i hc
  rw [List.isEmpty_iff] at hc
  subst hc
  split at h
  ·rename_i q l s h1 h2 h3
   split at h
   ·rename_i hl
    cases h
    obtain ⟨bs, rs⟩ := H
    simp only at h1 h2
    rw [bldB_ok h1, bldR_ok h2]
    obtain ⟨rfl, h4⟩ := bldS_ok h3
    exact writeString_fcm q l s (by omega)
   ·cases h
  ·cases h
 ·cases h⟩
def oStr : OM Tryz.prog := ⟨189, [1900001], [1000002], fun S H args => if S.isEmpty && bldV args then (match bldB H.bs, bldR H.rs with
 | some q, some l => some (bH (bpC q) .any [], sv ⟨l.toArray⟩)
 | _, _ => none) else none, fun S H args X r h => by
 split at h
 ·rename_i hc
  rw [Bool.and_eq_true, List.isEmpty_iff] at hc
  obtain ⟨rfl, hv⟩ := hc
  rw [bldV_ok hv]
  split at h
  ·rename_i q l h1 h2
   cases h
   obtain ⟨bs, rs⟩ := H
   simp only at h1 h2
   rw [bldB_ok h1, bldR_ok h2]
   exact string_fcm q l
  ·cases h
 ·cases h⟩
end Go.Proofs.YtdhkejcldipbmaaGreatDoor
