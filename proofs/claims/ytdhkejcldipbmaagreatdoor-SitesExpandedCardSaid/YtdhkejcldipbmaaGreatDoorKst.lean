
/-
 slices.Sorted(maps.Keys(m)): both calls, as answers for runs.
-/
import Derived.Test.YtdhkejcldipbmaaGreatDoorOrf
import Derived.Test.YtdhkejcldipbmaaGreatDoorLks
namespace Go.Proofs.YtdhkejcldipbmaaGreatDoor
open Go Go.Ai Go.Proofs Go.Maps Go.Shelf
set_option linter.unusedSimpArgs false
set_option linter.unusedVariables false
set_option maxHeartbeats 4000000
abbrev kyF : FuncId := 179
abbrev kyF1 : FuncId := 213
set_option maxRecDepth 100000 in
theorem mkeys_fcm (es : List (List Cel)) : FCMS Tryz.prog kyF [] ⟨[], []⟩ [.one (.fm 0 es)] (fun H r => H = ⟨[(700, [.fm 0 es])], []⟩ ∧ r = .one (.fn kyF1 [.bx 700 0])) := by
 refine ⟨⟨Tryz.f179, Tryz.func179, by kernel_rfl, by kernel_rfl⟩, fun w okA E vs _ hH hown hty hlen hrel => ?_⟩
 obtain ⟨v, rfl⟩ : ∃ v, vs = [v] := List.length_eq_one_iff.1 (by simpa using hlen.symm)
 have h0 := one_c (hrel 0 _ v rfl rfl) rfl
 have h1 : DRel w okA (.fm 0 es) v := h0
 have h1' := h1
 cases h1 with
 | fm cs hb hlt hh hn hks hcs =>
  rename_i b clock ms
  have hc : CallsIn Fence.wide 1 Tryz.prog kyF #[.map (some b)] w fun e w' => e = .returned (.func (.func kyF1) #[] #[.pointer (some ⟨w.heap.size, 0, none⟩)]) ∧ w' = w.alloc (.cells #[.map (some b)] (LlaysK_ren.t 23)) := AnyZ.keys_in LlaysK Fence.wide 1 trivial rfl (some b) w
  refine ((callsIn_wide (n := 1)).1 hc).mono ?_
  rintro e w' ⟨rfl, rfl⟩
  have hgr := World.grownBy_alloc w (.cells #[.map (some b)] (LlaysK_ren.t 23)) none
  have hgm : ∀ k, E.gm k = none := fun k => hH.bxn k rfl
  refine ⟨_, _, _, ⟨fun k => if k = 700 then some w.heap.size else none, fun _ => none⟩, rfl, ⟨rfl, rfl⟩, ⟨hgr.os, hgr.tape, hgr.output, hgr.size, fun k hk _ => hgr.block k hk (by simp)⟩, ?_, ?_, fun k g g' h => (by rw [hgm] at h; cases h), fun k g h => ?_, fun k ver z u b h => (by cases h), fun k r0 h => (by simp [tabO] at h), fun k r0 r1 h => (by simp [tabO] at h), fun k _ _ _ _ _ _ h => (by simp at h), fun k g _ h => (by rw [hgm] at h; cases h)⟩
  ·refine ⟨fun k cs h => ?_, fun k h => ?_, fun k r0 h => (by simp [tabO] at h), fun k _ => rfl, fun k k' g h h' => ?_, fun k g k' ver z u h h' => (by cases h'), fun k ver z u k' ver' z' u' b h => (by cases h)⟩
   ·simp only [tabO] at h
    split at h
    ·rename_i e; subst e; cases h
     refine ⟨w.heap.size, #[.map (some b)], LlaysK_ren.t 23, by simp, (MapKept.heap_alloc w _).1, rfl, fun i c u h2 h3 => ?_⟩
     match i with
     | 0 =>
      simp at h2 h3; subst h2; subst h3
      exact DRel.keep h1' (Keeps.of_grown hgr) (fun b hb h => ⟨fun k e => by simp only [] at e; split at e <;> cases e; omega, fun _ _ _ _ h => by (cases h), .inr h⟩)
     | i + 1 => simp at h2
    ·cases h
   ·simp only [tabO] at h
    split at h
    ·cases h
    ·rename_i e; simp only []; rw [if_neg e]
   ·simp only [] at h h'
    split at h
    ·split at h'
     ·rename_i e e'; rw [e, e']
     ·cases h'
    ·cases h
  ·refine .one ⟨[_], rfl, rfl, fun i c u h2 h3 => ?_⟩
   match i with
   | 0 =>
    simp at h2 h3; subst h2; subst h3
    exact ⟨w.heap.size, by simp, rfl⟩
   | i + 1 => simp at h2
  ·simp only [] at h
   split at h
   ·cases h; exact .inl (Nat.le_refl _)
   ·cases h
/-- Strings sorted by their bytes, for reckoning. -/
def leL : List UInt8 → List UInt8 → Bool
 | [], _ => true
 | _ :: _, [] => false
 | a :: l, b :: r => Nat.blt a.toNat b.toNat || (Nat.beq a.toNat b.toNat && leL l r)
theorem leL_eq : ∀ a b : List UInt8, leL a b = decide (a ≤ b)
 | [], b => by simp [leL]
 | a :: l, [] => by simp [leL]
 | a :: l, b :: r => by
  rw [leL, leL_eq l r, Bool.eq_iff_iff]
  simp only [Bool.or_eq_true, Bool.and_eq_true, decide_eq_true_eq, List.cons_le_cons_iff, Nat.blt_eq, Nat.beq_eq, UInt8.lt_iff_toNat_lt, UInt8.toNat_inj]
def insL (x : List UInt8) : List (List UInt8) → List (List UInt8)
 | [] => [x]
 | y :: l => if leL x y then x :: y :: l else y :: insL x l
def isoL : List (List UInt8) → List (List UInt8)
 | [] => []
 | x :: l => insL x (isoL l)
theorem insL_perm (x : List UInt8) : ∀ l, (insL x l).Perm (x :: l)
 | [] => .refl _
 | y :: l => by
  rw [insL]
  split
  ·exact .refl _
  ·exact ((insL_perm x l).cons y).trans (.swap x y l)
theorem isoL_perm : ∀ l, (isoL l).Perm l
 | [] => .refl _
 | x :: l => (insL_perm x _).trans ((isoL_perm l).cons x)
theorem insL_sorted (x : List UInt8) : ∀ l : List (List UInt8), l.Pairwise (fun a b => leB a b = true) → (insL x l).Pairwise (fun a b => leB a b = true)
 | [], _ => by simp [insL]
 | y :: l, h => by
  have h1 := List.pairwise_cons.1 h
  rw [insL, leL_eq]
  split
  ·rename_i hc
   refine List.pairwise_cons.2 ⟨fun z hz => ?_, h⟩
   rcases List.mem_cons.1 hz with rfl | hz
   ·exact hc
   ·have := h1.1 z hz
    simp only [leB, decide_eq_true_eq] at *
    exact List.le_trans hc this
  ·rename_i hc
   have hyx : y ≤ x := (List.le_total x y).resolve_left (by simpa using hc)
   refine List.pairwise_cons.2 ⟨fun z hz => ?_, insL_sorted x l h1.2⟩
   rcases List.mem_cons.1 ((insL_perm x l).mem_iff.1 hz) with rfl | hz
   ·simpa [leB] using hyx
   ·exact h1.1 z hz
theorem isoL_sorted : ∀ l : List (List UInt8), (isoL l).Pairwise (fun a b => leB a b = true)
 | [] => .nil
 | x :: l => insL_sorted x _ (isoL_sorted l)
theorem isoL_eq {l ss : List (List UInt8)} (h : ss.Perm l) : ss.mergeSort leB = isoL l := by
 have tr : ∀ a b c : List UInt8, leB a b = true → leB b c = true → leB a c = true := fun a b c h1 h2 => by simp only [leB, decide_eq_true_eq] at *; exact List.le_trans h1 h2
 have to : ∀ a b : List UInt8, (leB a b || leB b a) = true := fun a b => by simp only [leB, Bool.or_eq_true, decide_eq_true_eq]; exact List.le_total a b
 refine List.Perm.eq_of_pairwise (le := fun a b => leB a b = true) (fun a b _ _ h1 h2 => ?_) (List.pairwise_mergeSort tr to ss) (isoL_sorted l) (((List.mergeSort_perm ss leB).trans h).trans (isoL_perm l).symm)
 simp only [leB, decide_eq_true_eq] at h1 h2
 exact List.le_antisymm h1 h2
def bS' (l : List UInt8) : ByteArray := ⟨l.toArray⟩
/-- The keys of entries: strings that are not too long. -/
def keysE : List (List Cel) → Option (List (List UInt8))
 | [] => some []
 | (.g (.string s) :: _) :: l => if s.size ≤ 1000000 then (keysE l).map (s.data.toList :: ·) else none
 | _ => none
theorem keysE_len : ∀ {es : List (List Cel)} {S : List (List UInt8)}, keysE es = some S → S.length = es.length
 | [], S, h => by cases h; rfl
 | e :: l, S, h => by
  unfold keysE at h
  split at h
  ·rename_i he; cases he
  ·rename_i s r l' he
   cases he
   split at h
   ·obtain ⟨S', h1, rfl⟩ := Option.map_eq_some_iff.1 h
    simp [keysE_len h1]
   ·cases h
  ·cases h
theorem keysE_at : ∀ {es : List (List Cel)} {S : List (List UInt8)}, keysE es = some S → ∀ {i : Nat} {e : List Cel}, es[i]? = some e → ∃ s r, e = .g (.string s) :: r ∧ s.size ≤ 1000000 ∧ S[i]? = some s.data.toList
 | [], S, h, i, e, he => by simp at he
 | e0 :: l, S, h, i, e, he => by
  unfold keysE at h
  split at h
  ·rename_i he'; cases he'
  ·rename_i s r l' he'
   cases he'
   split at h
   ·rename_i hs
    obtain ⟨S', h1, rfl⟩ := Option.map_eq_some_iff.1 h
    match i with
    | 0 => simp at he; subst he; exact ⟨s, r, rfl, hs, rfl⟩
    | i + 1 => simp at he; obtain ⟨s', r', h2, h3, h4⟩ := keysE_at h1 he; exact ⟨s', r', h2, h3, by simpa using h4⟩
   ·cases h
  ·cases h
abbrev sC (s : ByteArray) : List Cel := [.g (.string s)]
theorem drel_own {w : World} {ok : Nat → Prop} {base : Nat} {v : Value} {l : List ByteArray} (h : w.ownsRow base 9 1 v l.length (l.map .string)) (hok : ∀ b, base ≤ b → ok b) : DRel w ok (.sl true 1 (l.map sC)) v := by
 rcases h.2 with ⟨rfl, h0⟩ | ⟨g, cap, cur, rfl, hb, hcell, hnc, _⟩
 ·have : l = [] := List.eq_nil_of_length_eq_zero h0
  subst this; exact .nil
 ·refine DRel.sl (fun i j => .string (l.getD i default)) (by simp) hnc (hok g hb) (Array.getElem?_eq_some_iff.1 hcell).1 (fun e he => by obtain ⟨x, _, rfl⟩ := List.mem_map.1 he; rfl) (fun i e j x he hx => ?_) (fun i e j x he hx => ?_)
  ·rw [List.getElem?_map] at he
   cases hi : l[i]? with
   | none => rw [hi] at he; cases he
   | some s =>
    rw [hi] at he; simp at he; subst he
    match j with
    | 0 =>
     have := h.cells (g := g) rfl i (.string s) (by rw [List.getElem?_map, hi]; rfl)
     rw [add_none] at this
     rw [List.getD_eq_getElem?_getD, hi, Option.getD_some, Nat.mul_one, Nat.add_zero]; exact this
    | j + 1 => simp [sC] at hx
  ·rw [List.getElem?_map] at he
   cases hi : l[i]? with
   | none => rw [hi] at he; cases he
   | some s =>
    rw [hi] at he; simp at he; subst he
    match j with
    | 0 =>
     simp [sC] at hx; subst hx
     rw [List.getD_eq_getElem?_getD, hi, Option.getD_some]
     exact .g rfl
    | j + 1 => simp [sC] at hx
theorem sortsL (m : Nat) : AnyZ.SortsIn Tryz.prog LlaysS_ren Fence.wide m :=
 ⟨fun blk off cap ss W hH hblk hsz => callsIn_wide.2 (AnyM.slices_Sort_string LlaysO blk off cap ss W hH hblk hsz),
 fun p cap W => callsIn_wide.2 (AnyM.slices_Sort_string_none LlaysO p cap W)⟩
theorem keysE_keys {es : List (List Cel)} {S : List (List UInt8)} (hS : keysE es = some S) {w : World} {okA : Nat → Prop} {cs : Nat → Cel} {ms : Array MapEntry} {kc : Nat} (hn : es.length = ms.size)
  (hks : ∀ (i : Nat) (e : MapEntry), ms.toList[i]? = some e → Ai.keyOk kc e.key = true ∧ es[i]? = some [.g e.key, cs i] ∧ vOk kc e.val) :
  ms.toList.map (·.key) = S.map encStr ∧ ∀ s ∈ S, s.length ≤ 1000000 := by
 have key : ∀ (i : Nat) (e : MapEntry), ms.toList[i]? = some e → ∃ s : List UInt8, S[i]? = some s ∧ e.key = encStr s ∧ s.length ≤ 1000000 := fun i e he => by
  obtain ⟨_, h2, _⟩ := hks i e he
  obtain ⟨s, r, h3, h4, h5⟩ := keysE_at hS h2
  have h3' : e.key = .string s := Cel.g.inj (List.cons.inj h3).1
  exact ⟨_, h5, by rw [h3'], by simpa using h4⟩
 have hl : ms.toList.length = S.length := by rw [keysE_len hS, hn]; simp
 constructor
 ·apply List.ext_getElem (by simpa using hl)
  intro i h1 h2
  have h1' : i < ms.toList.length := by simpa using h1
  obtain ⟨s, hs, he, _⟩ := key i _ (List.getElem?_eq_getElem h1')
  have h2' : i < S.length := by simpa using h2
  rw [List.getElem?_eq_getElem h2'] at hs
  injection hs with hs
  simp only [List.getElem_map]
  rw [hs]; exact he
 ·intro s hs
  obtain ⟨i, hi, rfl⟩ := List.mem_iff_getElem.1 hs
  have h1' : i < ms.toList.length := by omega
  obtain ⟨s, hs, _, h⟩ := key i _ (List.getElem?_eq_getElem h1')
  rw [List.getElem?_eq_getElem hi] at hs
  injection hs with hs
  rw [hs]; exact h
set_option maxRecDepth 100000 in
theorem sorted_fcm (es : List (List Cel)) (S : List (List UInt8)) (hS : keysE es = some S) (hl : es.length ≤ 1000000) : FCMS Tryz.prog 178 [] ⟨[(700, [.fm 0 es])], []⟩ [.one (.fn kyF1 [.bx 700 0])] (fun H r => H = ⟨[(700, [.fm 0 es])], []⟩ ∧ r = .one (.sl true 1 ((isoL S).map fun l => [.g (.string (bS' l))]))) := by
 refine ⟨⟨Tryz.f178, Tryz.func178, by kernel_rfl, by kernel_rfl⟩, fun w okA E vs _ hH hown hty hlen hrel => ?_⟩
 obtain ⟨v, rfl⟩ : ∃ v, vs = [v] := List.length_eq_one_iff.1 (by simpa using hlen.symm)
 obtain ⟨us, rfl, hul, hcs⟩ := one_c (hrel 0 _ v rfl rfl) rfl
 obtain ⟨u, rfl⟩ : ∃ u, us = [u] := List.length_eq_one_iff.1 (by simpa using hul.symm)
 obtain ⟨g, hg, rfl⟩ := hcs 0 _ u rfl rfl
 obtain ⟨g', cur, ty, hg', hcur, hcc⟩ := hH.bx 700 [.fm 0 es] (by simp [tabO])
 rw [hg] at hg'; cases hg'
 obtain ⟨mv, hmv⟩ : ∃ mv, cur.toList = [mv] := List.length_eq_one_iff.1 (by simpa using hcc.1.symm)
 have hce : cur = #[mv] := by apply Array.ext'; rw [hmv]
 subst hce
 have hd : DRel w okA (.fm 0 es) mv := hcc.2 0 _ mv rfl rfl
 cases hd with
 | fm cs hb hlt hh hn hks hcs' =>
  rename_i b clock ms
  obtain ⟨hk1, hk2⟩ := keysE_keys hS (w := w) (okA := okA) hn.1 hks
  have hu : Tryz.prog.underlying 9 = some .string := Tryz.underlying9
  have hkof : ∀ x ∈ ms.toList, ∃ s ∈ S, x.key = encStr s ∧ keyOf Tryz.prog 9 x.key = some (.string s) := fun x hx => by
   have h1 : x.key ∈ ms.toList.map (·.key) := List.mem_map_of_mem hx
   rw [hk1] at h1
   obtain ⟨s, hs, he⟩ := List.mem_map.1 h1
   have hsl := hk2 s hs
   refine ⟨s, hs, he.symm, ?_⟩
   rw [← he]
   have : (⟨s.toArray⟩ : ByteArray).size ≤ maxLen := by
    show s.toArray.size ≤ maxLen
    unfold maxLen; simp; omega
   simp [keyOf, hu, mapKey, encStr, this]
  have hsz : ms.size ≤ 1000000 := by rw [← hn.1]; exact hl
  let R : Value → Option (DataW Empty × List MemPlace) := fun _ => some (.nil, [])
  let D0 : DataW Empty := .map ((ms.toList.map (WideElems.rg Tryz.prog 9 R)).foldr DataW.insert [])
  have hRg : ms.toList.map (WideElems.rg Tryz.prog 9 R) = S.map fun s => (.string s, .nil) := by
   have e : ∀ x ∈ ms.toList, ∀ s, x.key = encStr s → WideElems.rg Tryz.prog 9 R x = (.string s, .nil) := fun x hx s he => by
    obtain ⟨s', hs', he', hk'⟩ := hkof x hx
    rw [he] at he'
    rw [encStr_inj he']
    simp [WideElems.rg, WideElems.rd, hk', R]
   have hl' : ms.toList.length = S.length := by
    have := congrArg List.length hk1
    simpa using this
   apply List.ext_getElem (by simpa using hl')
   intro i h1 h2
   have h1' : i < ms.toList.length := by simpa using h1
   have h2' : i < S.length := by simpa using h2
   simp only [List.getElem_map]
   refine e _ (List.getElem_mem h1') _ ?_
   have : (ms.toList.map (·.key))[i]'(by simpa using h1') = (S.map encStr)[i]'(by simpa using h2') := by simp only [hk1]
   simpa using this
  have hownM : w.ownsMap Tryz.prog 9 R b ms.size D0 :=
   ⟨ms, clock, hh, ⟨by unfold maxLen; omega, hn.2, fun x hx => by obtain ⟨s, _, _, hk⟩ := hkof x hx; exact ⟨_, by simp only [WideElems.rd, hk, R]; rfl⟩⟩, Nat.le_refl _, rfl⟩
  have hperm : (strKeys D0).Perm S := by
   show (((ms.toList.map (WideElems.rg Tryz.prog 9 R)).foldr DataW.insert []).map fun p => strOf p.1).Perm S
   refine ((WideShapes.sorted_perm _).map _).trans ?_
   rw [hRg, List.map_map]
   exact .of_eq ((List.map_congr_left fun s _ => rfl).trans (List.map_id _))
  have hsize : Maps.size D0 = ms.size := by
   show (((ms.toList.map (WideElems.rg Tryz.prog 9 R)).foldr DataW.insert [])).length = ms.size
   rw [(WideShapes.sorted_perm _).length_eq]; simp
  have hseq : SeqGives Fence.wide 2 Tryz.prog kyF1 #[.pointer (some ⟨g, 0, none⟩)] encStr (fun ss => ss.Perm (strKeys D0)) (Maps.size D0) w :=
   AnyZ.keys_gives (ρ := LlaysK_ren) { LlaysK with } Fence.wide _ trivial rfl (by omega) g b ms.size D0 _ (Array.getElem?_eq_some_iff.1 hcur).1 (by simp [World.cell?, hcur]) hownM
  have cS := AnyZ.sorted_in LlaysS Fence.wide 5 trivial trivial trivial trivial rfl (by omega) (sortsL _) (enters_of Tryz.func54 (by kernel_rfl) rfl) kyF1 #[.pointer (some ⟨g, 0, none⟩)] trivial (enters_of Tryz.func213 (by kernel_rfl) rfl) _ _ (by rw [hsize]; unfold maxLen; omega) (by rw [hsize]; omega) _ hseq
  refine ((callsIn_wide (n := 5)).1 cS).mono ?_
  rintro e w' ⟨v, ss, rfl, hp, hrow, _, hbel⟩
  have hiso : ss.mergeSort leB = isoL S := isoL_eq (hp.trans hperm)
  have hgm : ∀ k g1, E.gm k = some g1 → k = 700 := fun k g1 h => by
   by_cases e : k = 700
   ·exact e
   ·rw [hH.bxn k (by simp [tabO, e])] at h; cases h
  have hrow' : w'.ownsRow w.heap.size 9 1 v ((isoL S).map bS').length (((isoL S).map bS').map .string) := by
   have h1 : w'.ownsRow w.heap.size 9 1 v ss.length ((ss.mergeSort leB).map encStr) := hrow
   rw [hiso] at h1
   have hle : ss.length = ((isoL S).map bS').length := by
    rw [List.length_map, ← hiso, List.length_mergeSort]
   rw [hle] at h1
   rw [List.map_map]
   exact h1
  have hgl : g < w.heap.size := (Array.getElem?_eq_some_iff.1 hcur).1
  have hgr : w.grownBy w' none := ⟨hbel.os, hbel.tape, hbel.output, hbel.size, fun k hk _ => hbel.block k hk⟩
  have hE : ∀ k g1, (if k = 700 then some g else none) = some g1 → k = 700 ∧ g1 = g := fun k g1 h => by
   split at h
   ·cases h; exact ⟨by assumption, rfl⟩
   ·cases h
  have hnok : ¬ okA g := hown g (.inl ⟨700, hg⟩)
  refine ⟨v, _, _, ⟨fun k => if k = 700 then some g else none, fun _ => none⟩, rfl, ⟨rfl, rfl⟩, ⟨hbel.os, hbel.tape, hbel.output, hbel.size, fun k hk _ => hbel.block k hk⟩, ?_, ?_, fun k g1 g2 h h' => ?_, fun k g1 h => ?_, fun k ver z u b h => (by cases h), fun k r0 h => (by simp [tabO] at h), fun k r0 r1 h => (by simp [tabO] at h), fun k _ _ _ _ _ _ h => (by simp at h), fun k g1 hk _ h => ?_⟩
  ·refine ⟨fun k cs1 h => ?_, fun k h => ?_, fun k r0 h => (by simp [tabO] at h), fun k _ => rfl, fun k k' g1 h h' => by rw [(hE _ _ h).1, (hE _ _ h').1], fun k g1 k' ver z u h h' => (by cases h'), fun k ver z u k' ver' z' u' b h => (by cases h)⟩
   ·simp only [tabO] at h
    split at h
    ·rename_i e; subst e; cases h
     refine ⟨g, _, ty, by simp, (hbel.block g hgl).trans hcur, rfl, fun i c u h2 h3 => ?_⟩
     match i with
     | 0 =>
      simp at h2 h3; subst h2; subst h3
      refine DRel.keep (DRel.fm cs hb hlt hh hn hks hcs') (Keeps.of_grown hgr) (fun b1 hb1 h => ⟨fun k e => ?_, fun _ _ _ _ h => (by cases h), .inr h⟩)
      obtain ⟨_, e⟩ := hE _ _ e
      subst e; exact hnok h
     | i + 1 => simp at h2
    ·cases h
   ·simp only [tabO] at h
    split at h
    ·cases h
    ·rename_i e; simp only []; rw [if_neg e]
  ·have := drel_own hrow' (ok := fun b => w.heap.size ≤ b ∧ okE w okA ⟨fun k => if k = 700 then some g else none, fun _ => none⟩ b) (fun b hb => ⟨hb, ⟨fun k h => (by obtain ⟨_, h⟩ := hE _ _ h; omega), fun _ _ _ _ h => (by cases h), .inl hb⟩⟩)
   rw [List.map_map] at this
   exact .one this
  ·obtain ⟨rfl, rfl⟩ := hE _ _ h'
   rw [hg] at h; exact (Option.some.inj h).symm
  ·obtain ⟨rfl, rfl⟩ := hE _ _ h
   exact .inr hg
  ·obtain ⟨rfl, _⟩ := hE _ _ h
   cases hk
/-- One map among the arguments, and nothing handed over. -/
def fmA : List Val → Option (List (List Cel))
 | [.one (.fm 0 es)] => some es
 | _ => none
theorem fmA_ok : ∀ {l : List Val} {es : List (List Cel)}, fmA l = some es → l = [.one (.fm 0 es)] := fun {l es} h => by
 unfold fmA at h; split at h
 ·cases h; rfl
 ·cases h
def hp0 (H : Hp) : Bool := H.bs.isEmpty && H.rs.isEmpty
theorem hp0_ok {H : Hp} (h : hp0 H = true) : H = ⟨[], []⟩ := by
 obtain ⟨bs, rs⟩ := H
 simp only [hp0, Bool.and_eq_true, List.isEmpty_iff] at h
 obtain ⟨rfl, rfl⟩ := h; rfl
def oKys : OM Tryz.prog := ⟨kyF, [700], [], fun S H args => if S.isEmpty && hp0 H then (fmA args).map fun es => (⟨[(700, [.fm 0 es])], []⟩, .one (.fn kyF1 [.bx 700 0])) else none, fun S H args X r h => by
 split at h
 ·rename_i hc
  rw [Bool.and_eq_true, List.isEmpty_iff] at hc
  obtain ⟨rfl, h1⟩ := hc
  obtain rfl := hp0_ok h1
  rw [Option.map_eq_some_iff] at h
  obtain ⟨es, he, h⟩ := h
  cases h
  rw [fmA_ok he]
  exact mkeys_fcm es
 ·cases h⟩
def fmB : List (Nat × List Cel) → Option (List (List Cel))
 | [(700, [.fm 0 es])] => some es
 | _ => none
theorem fmB_ok : ∀ {l : List (Nat × List Cel)} {es : List (List Cel)}, fmB l = some es → l = [(700, [.fm 0 es])] := fun {l es} h => by
 unfold fmB at h; split at h
 ·cases h; rfl
 ·cases h
def kyA : List Val → Bool
 | [.one (.fn f [.bx 700 0])] => f == kyF1
 | _ => false
theorem kyA_ok {l : List Val} (h : kyA l = true) : l = [.one (.fn kyF1 [.bx 700 0])] := by
 unfold kyA at h; split at h
 ·rw [beq_iff_eq] at h; subst h; rfl
 ·cases h
def oSrt : OM Tryz.prog := ⟨178, [700], [], fun S H args => if S.isEmpty && H.rs.isEmpty && kyA args then (match fmB H.bs with
 | some es => if es.length ≤ 1000000 then (keysE es).map fun S => (⟨[(700, [.fm 0 es])], []⟩, .one (.sl true 1 ((isoL S).map fun l => [.g (.string (bS' l))]))) else none
 | none => none) else none, fun S H args X r h => by
 split at h
 ·rename_i hc
  simp only [Bool.and_eq_true, List.isEmpty_iff] at hc
  obtain ⟨⟨rfl, h1⟩, h2⟩ := hc
  obtain ⟨bs, rs⟩ := H
  simp only at h1
  subst h1
  rw [kyA_ok h2]
  split at h
  ·rename_i es he
   have := fmB_ok he
   simp only at this
   subst this
   split at h
   ·rename_i hl
    rw [Option.map_eq_some_iff] at h
    obtain ⟨S, hS, h⟩ := h
    cases h
    exact sorted_fcm es S hS hl
   ·cases h
  ·cases h
 ·cases h⟩
end Go.Proofs.YtdhkejcldipbmaaGreatDoor
