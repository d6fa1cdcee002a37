/-
 Transfers by the batches into which they lead: the map that into makes, walked.
-/
import Derived.Test.YtodmofhehabmgaaGreatDoorAiE
import Derived.Test.YtodmofhehabmgaaGreatDoorProg
import Derived.WalkKit
import Derived.Maps.OwnRows
import Derived.Maps.AppendAt
import Derived.Maps.Range
import Derived.Great.BuildSlice
namespace Go.Proofs.YtodmofhehabmgaaGreatDoor
open Go Go.RowKit Go.Proofs Go.Ai
set_option linter.unusedSimpArgs false
set_option linter.unusedVariables false
set_option maxHeartbeats 4000000
instance : LawfulBEq ByteArray where
 eq_of_beq h := (MapKept.bytes_beq _ _).1 h
 rfl := (MapKept.bytes_beq _ _).2 rfl
structure Trf where
 frm : ByteArray
 to : ByteArray
 amt : Int
def trV (t : Trf) : List Value := [.string t.frm, .string t.to, .int .i64 t.amt]
/-- Groups by key, in the order in which the keys came. -/
def grpPut (k : ByteArray) (x : Trf) : List (ByteArray × List Trf) → List (ByteArray × List Trf)
 | [] => [(k, [x])]
 | p :: D => if p.1 = k then (p.1, p.2 ++ [x]) :: D else p :: grpPut k x D
def grpAll (l : List Trf) : List (ByteArray × List Trf) := l.foldl (fun D x => grpPut x.to x D) []
def gat (k : ByteArray) : List (ByteArray × List Trf) → List Trf
 | [] => []
 | p :: D => if p.1 = k then p.2 else gat k D
theorem grp_none {k : ByteArray} : ∀ {D : List (ByteArray × List Trf)}, (∀ s ∈ D.map (·.1), s ≠ k) → gat k D = [] ∧ ∀ x, grpPut k x D = D ++ [(k, [x])]
 | [], _ => ⟨rfl, fun _ => rfl⟩
 | p :: D, h => by
  have h0 : p.1 ≠ k := h p.1 (by simp)
  have ih := grp_none (D := D) fun s hs => h s (by simp at hs ⊢; exact .inr hs)
  exact ⟨by simp [gat, h0, ih.1], fun x => by simp [grpPut, h0, ih.2]⟩
theorem grp_some {k : ByteArray} {l : List Trf} : ∀ {D : List (ByteArray × List Trf)} {j : Nat}, D[j]? = some (k, l) → (∀ j', j' < j → (D.map (·.1))[j']? ≠ some k) → gat k D = l ∧ ∀ x, grpPut k x D = D.set j (k, l ++ [x])
 | [], j, h, _ => by simp at h
 | p :: D, 0, h, _ => by
  simp at h; subst h
  exact ⟨by simp [gat], fun x => by simp [grpPut]⟩
 | p :: D, j + 1, h, hn => by
  have h0 : p.1 ≠ k := by have := hn 0 (by omega); simpa using this
  have ih := grp_some (D := D) (j := j) (by simpa using h) fun j' hj => by have := hn (j' + 1) (by omega); simpa using this
  exact ⟨by simp [gat, h0, ih.1], fun x => by simp [grpPut, h0, ih.2]⟩
theorem find_keys (k : ByteArray) : ∀ (ks : List ByteArray) (l : List MapEntry), ks.length = l.length → (∀ (j : Nat) (s : ByteArray) (x : MapEntry), ks[j]? = some s → l[j]? = some x → x.key = .string s) → ∀ i : Nat,
  (Instr.findNow .string (.string k) l i = some none ∧ ∀ s ∈ ks, s ≠ k) ∨
  (∃ j x, Instr.findNow .string (.string k) l i = some (some (i + j, x.val)) ∧ l[j]? = some x ∧ ks[j]? = some k ∧ ∀ j', j' < j → ks[j']? ≠ some k)
 | [], [], _, _, i => .inl ⟨rfl, by simp⟩
 | [], x :: l, h, _, _ => by simp at h
 | s :: ks, [], h, _, _ => by simp at h
 | s :: ks, x :: l, h, hk, i => by
  have h0 := hk 0 s x rfl rfl
  have hs := same_key (c := 0) (d := .string) rfl (a := .string k) (b := .string s) rfl rfl
  by_cases e : k = s
  ·subst e
   have hq : keyEq (.string k) (.string k) = true := (keyEq_iff (c := 0) rfl rfl).2 rfl
   rw [hq] at hs
   exact .inr ⟨0, x, by simp [Instr.findNow, h0, hs], rfl, rfl, fun j' h => by omega⟩
  ·have hq : keyEq (.string k) (.string s) = false := by
    cases hq : keyEq (.string k) (.string s) with
    | false => rfl
    | true => exact absurd ((keyEq_iff (c := 0) rfl rfl).1 hq) (by simpa using e)
   rw [hq] at hs
   rcases find_keys k ks l (by simpa using h) (fun j s' x' h1 h2 => hk (j + 1) s' x' (by simpa using h1) (by simpa using h2)) (i + 1) with ⟨i1, i2⟩ | ⟨j, x', i1, i2, i3, i4⟩
   ·refine .inl ⟨by simp [Instr.findNow, h0, hs, i1], fun s' h' => ?_⟩
    rcases List.mem_cons.1 h' with rfl | h'
    ·exact fun e' => e e'.symm
    ·exact i2 s' h'
   ·refine .inr ⟨j + 1, x', by simp [Instr.findNow, h0, hs, i1]; omega, by simpa using i2, by simpa using i3, fun j' hj => ?_⟩
    match j' with
    | 0 => simpa using fun e' => e e'.symm
    | j' + 1 => simpa using i4 j' (by omega)
theorem gat_put (k k' : ByteArray) (x : Trf) : ∀ D, gat k (grpPut k' x D) = if k' = k then gat k D ++ [x] else gat k D
 | [] => by by_cases e : k' = k <;> simp [grpPut, gat, e]
 | p :: D => by
  have ih := gat_put k k' x D
  by_cases e : p.1 = k' <;> by_cases e' : k' = k <;> by_cases e2 : p.1 = k <;> simp_all [grpPut, gat]
theorem gat_fold (k : ByteArray) : ∀ (l : List Trf) D, gat k (l.foldl (fun D x => grpPut x.to x D) D) = gat k D ++ l.filter (fun y => decide (y.to = k))
 | [], D => by simp
 | x :: l, D => by
  rw [List.foldl_cons, gat_fold k l, gat_put, List.filter_cons]
  by_cases e : x.to = k <;> simp [e]
theorem gat_all (k : ByteArray) (l : List Trf) : gat k (grpAll l) = l.filter (fun y => decide (y.to = k)) := by
 unfold grpAll; rw [gat_fold]; rfl
theorem grpAll_snoc (l : List Trf) (x : Trf) : grpAll (l ++ [x]) = grpPut x.to x (grpAll l) := by unfold grpAll; rw [List.foldl_append]; rfl
abbrev trT : TypeId := 54
abbrev mpT : TypeId := 69
def Grp (w : World) (B b : Nat) (D : List (ByteArray × List Trf)) : Prop :=
 ∃ ms clock, w.heap[b]? = some (.map ms clock) ∧ D.length = ms.toList.length ∧ (∀ (j : Nat) (p : ByteArray × List Trf) (x : MapEntry), D[j]? = some p → ms.toList[j]? = some x → x.key = .string p.1 ∧ w.ownsRow B trT 3 x.val p.2.length (p.2.map trV).flatten) ∧
  (∀ (i j : Nat) (x y : MapEntry) (g : Nat), ms.toList[i]? = some x → ms.toList[j]? = some y → x.val.ownBlock = some g → y.val.ownBlock = some g → i = j) ∧ ∀ x ∈ ms.toList, x.val.ownBlock ≠ some b
theorem key_ok (k : ByteArray) : keyOk 0 (.string k) = true := rfl
theorem Grp.look {w : World} {B b : Nat} {D : List (ByteArray × List Trf)} (h : Grp w B b D) (k : ByteArray) : ∃ v, (∀ W : World, W.heap[b]? = w.heap[b]? → (Instr.lookup mpT (.map (some b)) (.string k) false).run Tryz.prog W = .ok v W) ∧
  w.ownsRow B trT 3 v (gat k D).length ((gat k D).map trV).flatten ∧ v.ownBlock ≠ some b := by
 obtain ⟨ms, clock, hb, hl, hD, hx, hnb⟩ := h
 have hz : ∀ W : World, (zeroValue 26).run Tryz.prog W = .ok (.slice none 0 0) W := fun W => by kernel_rfl
 rcases find_keys k (D.map (·.1)) ms.toList (by simpa using hl) (fun j s x h1 h2 => by
  rw [List.getElem?_map] at h1
  cases hj : D[j]? with
  | none => rw [hj] at h1; cases h1
  | some p => rw [hj] at h1; simp at h1; subst h1; exact (hD j p x hj h2).1) 0 with ⟨i1, i2⟩ | ⟨j, x, i1, i2, i3, i4⟩
 ·refine ⟨.slice none 0 0, fun W hW => ?_, by rw [(grp_none i2).1]; exact World.ownsRow_nil _ _ _ _, by simp [Value.ownBlock]⟩
  rw [hb] at hW
  simp [Instr.lookup, run_underlying Tryz.underlying69, MapKept.run_getObj_map hW, MapKept.run_checkKey Tryz.underlying9 (isKey_of (c := 0) rfl (key_ok k)), MapKept.run_findKey Tryz.underlying9 i1, hz, Result.andThen]
 ·rw [List.getElem?_map] at i3
  cases hj : D[j]? with
  | none => rw [hj] at i3; cases i3
  | some p =>
   rw [hj] at i3; simp at i3
   obtain ⟨k', l⟩ := p
   simp only at i3; subst i3
   refine ⟨x.val, fun W hW => ?_, by rw [(grp_some hj i4).1]; exact (hD j _ x hj i2).2, hnb x (List.mem_of_getElem? i2)⟩
   rw [hb] at hW
   simp [Instr.lookup, run_underlying Tryz.underlying69, MapKept.run_getObj_map hW, MapKept.run_checkKey Tryz.underlying9 (isKey_of (c := 0) rfl (key_ok k')), MapKept.run_findKey Tryz.underlying9 i1, Result.andThen]
theorem Grp.kept {w w' : World} {B b : Nat} {D : List (ByteArray × List Trf)} {row : Option Nat} (h : Grp w B b D) (hg : w.grownBy w' row) (hr : ∀ g, row = some g → g ≠ b ∧ (g < B ∨ w.heap.size ≤ g)) : Grp w' B b D := by
 obtain ⟨ms, clock, hb, hl, hD, hx, hnb⟩ := h
 refine ⟨ms, clock, ?_, hl, fun j p x h1 h2 => ⟨(hD j p x h1 h2).1, (hD j p x h1 h2).2.kept hg ?_⟩, hx, hnb⟩
 ·rw [hg.block b (Array.getElem?_eq_some_iff.1 hb).1 (fun e => (hr b e.symm).1 rfl)]; exact hb
 ·cases ho : x.val.ownBlock with
  | none => exact .inl rfl
  | some g =>
   refine .inr fun e => ?_
   have h3 := (hD j p x h1 h2).2.lt g ho
   rcases (hr g e.symm).2 with h4 | h4 <;> omega
theorem Grp.store {w w3 : World} {B b : Nat} {D : List (ByteArray × List Trf)} (h : Grp w B b D) {k : ByteArray} {x : Trf} {v v' : Value}
  (hk : ∀ W : World, W.heap[b]? = w.heap[b]? → (Instr.lookup mpT (.map (some b)) (.string k) false).run Tryz.prog W = .ok v W)
  (hg : w.grownBy w3 v.ownBlock) (hv' : w3.ownsRow B trT 3 v' ((gat k D).length + 1) (((gat k D).map trV).flatten ++ trV x)) (hat : v'.ownBlock = v.ownBlock ∨ ∃ g, v'.ownBlock = some g ∧ w.heap.size ≤ g) :
  ∃ w4, (Instr.mapUpdate mpT (.map (some b)) (.string k) v').run Tryz.prog w3 = .ok () w4 ∧ Grp w4 B b (grpPut k x D) ∧ w3.grownBy w4 (some b) := by
 obtain ⟨v0, hv0, hown0, hvb⟩ := h.look k
 have hve : v0 = v := by have h1 := hv0 w rfl; rw [hk w rfl] at h1; injection h1 with h1 _; exact h1.symm
 subst hve
 obtain ⟨ms, clock, hb, hl, hD, hx, hnb⟩ := h
 have hlt : b < w.heap.size := (Array.getElem?_eq_some_iff.1 hb).1
 have hb3 : w3.heap[b]? = some (.map ms clock) := by rw [hg.block b hlt (fun e => hvb e.symm)]; exact hb
 have hvb' : v'.ownBlock ≠ some b := by
  rcases hat with h1 | ⟨g, h1, h2⟩
  ·rw [h1]; exact hvb
  ·rw [h1]; intro e; injection e with e; omega
 have hgr : ∀ (es' : Array MapEntry) (clock' : Nat), w3.grownBy { w3 with heap := w3.heap.setIfInBounds b (.map es' clock') } (some b) := fun es' clock' => ⟨rfl, rfl, rfl, by simp, fun i _ hi => (MapKept.heap_set hb3).2 i (fun e => hi (by rw [e]))⟩
 have hlast : ((k, [x]) : ByteArray × List Trf).2.length = 1 := rfl
 rcases find_keys k (D.map (·.1)) ms.toList (by simpa using hl) (fun j s x h1 h2 => by
  rw [List.getElem?_map] at h1
  cases hj : D[j]? with
  | none => rw [hj] at h1; cases h1
  | some p => rw [hj] at h1; simp at h1; subst h1; exact (hD j p x hj h2).1) 0 with ⟨i1, i2⟩ | ⟨j, y, i1, i2, i3, i4⟩
 ·have hv00 : v0 = .slice none 0 0 := by
   have h1 := hv0 w rfl
   have hz : ∀ W : World, (zeroValue 26).run Tryz.prog W = .ok (.slice none 0 0) W := fun W => by kernel_rfl
   simp [Instr.lookup, run_underlying Tryz.underlying69, MapKept.run_getObj_map hb, MapKept.run_checkKey Tryz.underlying9 (isKey_of (c := 0) rfl (key_ok k)), MapKept.run_findKey Tryz.underlying9 i1, hz, Result.andThen] at h1
   exact h1.symm
  subst hv00
  obtain ⟨g1, g2⟩ := grp_none i2
  rw [g1] at hv'
  have hrun : (Instr.mapUpdate mpT (.map (some b)) (.string k) v').run Tryz.prog w3 = .ok () { w3 with heap := w3.heap.setIfInBounds b (.map (ms.push ⟨.string k, v', clock⟩) (clock + 1)) } := by
   simp [Instr.mapUpdate, run_underlying Tryz.underlying69, MapKept.run_getObj_map hb3, MapKept.run_checkKey Tryz.underlying9 (isKey_of (c := 0) rfl (key_ok k)), MapKept.run_findKey Tryz.underlying9 i1, MapKept.run_setObj_map _ hb3, Result.andThen]
  refine ⟨_, hrun, ?_, hgr _ _⟩
  rw [g2]
  have hkeep : ∀ {v n xs}, w.ownsRow B trT 3 v n xs → v.ownBlock ≠ some b → ({ w3 with heap := w3.heap.setIfInBounds b (.map (ms.push ⟨.string k, v', clock⟩) (clock + 1)) } : World).ownsRow B trT 3 v n xs := fun {v n xs} h1 h2 => (h1.kept hg (by cases hv : v.ownBlock <;> simp [Value.ownBlock])).kept (hgr _ _) (.inr h2)
  have hold : ∀ {i : Nat} {y : MapEntry} {g : Nat}, ms.toList[i]? = some y → y.val.ownBlock = some g → g < w.heap.size := fun {i y g} h1 h2 => by
   have hi : i < D.length := by rw [hl]; exact (List.getElem?_eq_some_iff.1 h1).1
   exact ((hD i D[i] y (List.getElem?_eq_getElem hi) h1).2.lt g h2).2
  have hnew : ∀ {g : Nat}, v'.ownBlock = some g → w.heap.size ≤ g := fun {g} h1 => by
   rcases hat with h2 | ⟨g', h2, h3⟩
   ·rw [h2] at h1; cases h1
   ·rw [h2] at h1; injection h1 with h1; omega
  refine ⟨_, _, (MapKept.heap_set hb3).1, by simp [hl], fun j p y h1 h2 => ?_, fun i j y z g h1 h2 h3 h4 => ?_, fun y hy => ?_⟩
  ·rw [Array.toList_push, List.getElem?_append] at h2
   rw [List.getElem?_append] at h1
   by_cases hj : j < D.length
   ·rw [if_pos hj] at h1; rw [if_pos (by omega)] at h2
    exact ⟨(hD j p y h1 h2).1, hkeep (hD j p y h1 h2).2 (hnb y (List.mem_of_getElem? h2))⟩
   ·rw [if_neg hj] at h1; rw [if_neg (by omega)] at h2
    cases hjj : j - D.length with
    | zero =>
     rw [hjj] at h1; rw [← hl, hjj] at h2
     simp at h1 h2; subst h1; subst h2
     exact ⟨rfl, hv'.kept (hgr _ _) (.inr hvb')⟩
    | succ n => rw [hjj] at h1; simp at h1
  ·rw [Array.toList_push, List.getElem?_append] at h1 h2
   by_cases hi : i < ms.toList.length <;> by_cases hj : j < ms.toList.length
   ·rw [if_pos hi] at h1; rw [if_pos hj] at h2; exact hx i j y z g h1 h2 h3 h4
   ·rw [if_pos hi] at h1; rw [if_neg hj] at h2
    have := hold h1 h3
    cases hjj : j - ms.toList.length with
    | zero => rw [hjj] at h2; simp at h2; subst h2; have := hnew h4; omega
    | succ n => rw [hjj] at h2; simp at h2
   ·rw [if_neg hi] at h1; rw [if_pos hj] at h2
    have := hold h2 h4
    cases hjj : i - ms.toList.length with
    | zero => rw [hjj] at h1; simp at h1; subst h1; have := hnew h3; omega
    | succ n => rw [hjj] at h1; simp at h1
   ·rw [if_neg hi] at h1; rw [if_neg hj] at h2
    have e1 : i - ms.toList.length = 0 := by
     have := (List.getElem?_eq_some_iff.1 h1).1
     simp at this ⊢; omega
    have e2 : j - ms.toList.length = 0 := by
     have := (List.getElem?_eq_some_iff.1 h2).1
     simp at this ⊢; omega
    omega
  ·rw [Array.toList_push] at hy
   rcases List.mem_append.1 hy with h1 | h1
   ·exact hnb y h1
   ·simp at h1; subst h1; exact hvb'
 ·rw [List.getElem?_map] at i3
  cases hj : D[j]? with
  | none => rw [hj] at i3; cases i3
  | some p =>
   rw [hj] at i3; simp at i3
   obtain ⟨k', l⟩ := p
   simp only at i3; subst i3
   obtain ⟨g1, g2⟩ := grp_some hj i4
   have hv00 : v0 = y.val := by
    have h1 := hv0 w rfl
    simp [Instr.lookup, run_underlying Tryz.underlying69, MapKept.run_getObj_map hb, MapKept.run_checkKey Tryz.underlying9 (isKey_of (c := 0) rfl (key_ok k')), MapKept.run_findKey Tryz.underlying9 i1, Result.andThen] at h1
    exact h1.symm
   subst hv00
   rw [g1] at hv'
   have hmj : ms[j]? = some y := by simpa using i2
   have hyk : y.key = .string k' := (hD j _ y hj i2).1
   have hrun : (Instr.mapUpdate mpT (.map (some b)) (.string k') v').run Tryz.prog w3 = .ok () { w3 with heap := w3.heap.setIfInBounds b (.map (ms.modify j fun e => { e with key := .string k', val := v' }) clock) } := by
    simp [Instr.mapUpdate, run_underlying Tryz.underlying69, MapKept.run_getObj_map hb3, MapKept.run_checkKey Tryz.underlying9 (isKey_of (c := 0) rfl (key_ok k')), MapKept.run_findKey Tryz.underlying9 i1, hmj, hyk, MapKept.run_keyThatStays (isKey_of (c := 0) (d := .string) rfl (key_ok k')), MapKept.run_setObj_map _ hb3, Result.andThen]
   refine ⟨_, hrun, ?_, hgr _ _⟩
   rw [g2]
   have hget : ∀ i, (ms.modify j fun e => { e with key := .string k', val := v' }).toList[i]? = if i = j then some { y with key := .string k', val := v' } else ms.toList[i]? := fun i => by
    rw [Array.toList_modify, List.getElem?_modify]
    by_cases e : i = j
    ·subst e; rw [if_pos rfl, i2]; simp
    ·rw [if_neg e]; cases ms.toList[i]? <;> simp [Ne.symm e]
   have hold : ∀ {i : Nat} {z : MapEntry} {g : Nat}, ms.toList[i]? = some z → z.val.ownBlock = some g → g < w.heap.size := fun {i z g} h1 h2 => by
    have hi : i < D.length := by rw [hl]; exact (List.getElem?_eq_some_iff.1 h1).1
    exact ((hD i D[i] z (List.getElem?_eq_getElem hi) h1).2.lt g h2).2
   have hnew : ∀ {i : Nat} {z : MapEntry} {g : Nat}, i ≠ j → ms.toList[i]? = some z → z.val.ownBlock = some g → v'.ownBlock ≠ some g := fun {i z g} hi h1 h2 h3 => by
    rcases hat with h4 | ⟨g', h4, h5⟩
    ·rw [h4] at h3; exact hi (hx i j z y g h1 i2 h2 h3)
    ·rw [h4] at h3; injection h3 with h3; have := hold h1 h2; omega
   refine ⟨_, _, (MapKept.heap_set hb3).1, by simp [hl], fun i p z h1 h2 => ?_, fun i i' z z' g h1 h2 h3 h4 => ?_, fun z hz => ?_⟩
   ·rw [hget] at h2
    rw [List.getElem?_set] at h1
    by_cases e : i = j
    ·subst e
     rw [if_pos rfl] at h2
     rw [if_pos rfl, if_pos (List.getElem?_eq_some_iff.1 hj).1] at h1
     simp at h1 h2; subst h1; subst h2
     refine ⟨rfl, ?_⟩
     have := hv'.kept (hgr (ms.modify i fun e => { e with key := .string k', val := v' }) clock) (.inr hvb')
     simpa using this
    ·rw [if_neg e] at h2; rw [if_neg (Ne.symm e)] at h1
     refine ⟨(hD i p z h1 h2).1, ((hD i p z h1 h2).2.kept hg ?_).kept (hgr _ _) (.inr (hnb z (List.mem_of_getElem? h2)))⟩
     cases ho : z.val.ownBlock with
     | none => exact .inl rfl
     | some g => exact .inr fun e' => e (hx i j z y g h2 i2 ho e'.symm)
   ·rw [hget] at h1 h2
    by_cases e : i = j <;> by_cases e' : i' = j
    ·omega
    ·rw [if_pos e] at h1; rw [if_neg e'] at h2
     simp at h1; subst h1; exact absurd h3 (hnew e' h2 h4)
    ·rw [if_neg e] at h1; rw [if_pos e'] at h2
     simp at h2; subst h2; exact absurd h4 (hnew e h1 h3)
    ·rw [if_neg e] at h1; rw [if_neg e'] at h2; exact hx i i' z z' g h1 h2 h3 h4
   ·obtain ⟨i, hi⟩ := List.getElem?_of_mem hz
    rw [hget] at hi
    by_cases e : i = j
    ·rw [if_pos e] at hi; simp at hi; subst hi; exact hvb'
    ·rw [if_neg e] at hi; exact hnb z (List.mem_of_getElem? hi)
/-- A region that draws its order, by what holds behind each set of its operations. -/
theorem wpAny_inv {P : Program} {ops : Array Oper} {Q : Exit → Act → World → Prop} (Inv : Array Bool → Act → World → Prop) (hgd : ∀ (i : Nat) (o : Oper), ops[i]? = some o → o.guard = none ∧ ∀ e ∈ o.after, e.on < i) (hsz : ∀ L a w, Inv L a w → L.size = ops.size)
  (step : ∀ (i : Nat) (o : Oper), ops[i]? = some o → ∀ L a w, Inv L a w → L.getD i true = false → (∀ e ∈ o.after, Region.binds .any e = true → L.getD e.on false = true) → o.wp P a w (Inv (L.setIfInBounds i true)) Q)
  (done : ∀ L a w, Inv L a w → (∀ i, i < ops.size → L.getD i true = true) → Q .normal a w) :
  ∀ (fuel : Nat) (L : Array Bool) (a : Act) (w : World), Inv L a w → L.toList.count false ≤ fuel → wpAny P .any ops Q fuel L a w := by
 intro fuel
 induction fuel with
 | zero =>
  intro L a w h hc
  have hall : ∀ i, i < ops.size → L.getD i true = true := fun i hi => by
   have hlt : i < L.size := by rw [hsz L a w h]; exact hi
   cases hb : L[i] with
   | true => simp [Array.getD, hlt, hb]
   | false =>
    exfalso
    have : false ∈ L.toList := by rw [← hb]; exact Array.getElem_mem_toList hlt
    have := List.count_pos_iff.2 this
    omega
  refine ⟨?_, done L a w h hall⟩
  cases hr : Region.ready .any ops L with
  | nil => rfl
  | cons i rs =>
   exfalso
   obtain ⟨h1, o, h2, _⟩ := mem_ready.1 (show i ∈ Region.ready .any ops L by rw [hr]; simp)
   have := hall i (Array.getElem?_eq_some_iff.1 h2).1
   rw [h1] at this; cases this
 | succ fuel ih =>
  intro L a w h hc
  refine ⟨fun hr => done L a w h fun i => ?_, fun i hi => ?_⟩
  ·induction i using Nat.strongRecOn with
   | ind i ihi =>
    intro hi
    apply Classical.byContradiction
    intro hno
    have hlt : i < L.size := by rw [hsz L a w h]; exact hi
    have hf : L.getD i true = false := by simpa using hno
    have ho : ops[i]? = some ops[i] := Array.getElem?_eq_getElem hi
    have : i ∈ Region.ready .any ops L := mem_ready.2 ⟨hf, ops[i], ho, fun e he _ => by
     have h1 := (hgd i _ ho).2 e he
     have h2 := ihi e.on h1 (by omega)
     have h3 : e.on < L.size := by omega
     simp only [Array.getD, h3, dif_pos] at h2 ⊢
     exact h2⟩
    rw [hr] at this; simp at this
  obtain ⟨h1, o, h2, h3⟩ := mem_ready.1 hi
  unfold wpOp
  simp only [h2]
  have hw : Region.wanted o (yielded ops a.tmps) = true := by unfold Region.wanted; rw [(hgd i o h2).1]
  rw [if_pos hw]
  refine .inl (Oper.wp_mono (fun a' w' h' => ih _ a' w' h' ?_) (step i o h2 L a w h h1 h3))
  have hlt : i < L.size := by rw [hsz L a w h]; exact (Array.getElem?_eq_some_iff.1 h2).1
  have hf : L[i] = false := by simpa [Array.getD, hlt] using h1
  have hcs : (L.toList.set i true).count false = L.toList.count false - 1 := by
   rw [List.count_set (by simpa using hlt)]
   simp [hf]
  have := List.count_pos_iff.2 (show false ∈ L.toList by rw [← hf]; exact Array.getElem_mem_toList hlt)
  rw [Array.toList_setIfInBounds, hcs]
  omega
section
variable {P : Program} {ρ : Operand → Value} {o : Oper} {w : World}
theorem run_mv (x : Operand) (h : o.op = .move x) : (execOp ρ o).run P w = .ok (.value (ρ x)) w := by simp [execOp, h]
theorem run_lkp {t : TypeId} {m x : Operand} {ok : Bool} {v : Value} (ho : o.op = .lookup t m x ok) (hr : (Instr.lookup t (ρ m) (ρ x) ok).run P w = .ok v w) : (execOp ρ o).run P w = .ok (.value v) w := by
 simp [execOp, ho, hr, Result.andThen]
theorem run_mup {t : TypeId} {m x y : Operand} {w' : World} (ho : o.op = .mapUpdate t m x y) (hr : (Instr.mapUpdate t (ρ m) (ρ x) (ρ y)).run P w = .ok () w') : (execOp ρ o).run P w = .ok .skip w' := by
 simp [execOp, ho, hr, Result.andThen]
theorem run_app {t : TypeId} {x y : Operand} {v : Value} {w' : World} (ho : o.op = .call { callee := .builtin .append, args := #[x, y], argTypes := #[t, t] }) (hr : (Builtin.append_ #[t, t] o.type #[ρ x, ρ y]).run P w = .ok v w') : (execOp ρ o).run P w = .ok (.value v) w' := by
 unfold execOp
 simp only [ho, resolve, invoke, builtin, Sem.run_bind, Sem.run_pure, Result.andThen_ok, List.map_toArray, List.map_cons, List.map_nil, hr]
theorem run_fadr {t : TypeId} {x : Operand} {k off sz b n : Nat} (ho : o.op = .fieldAddr t x k) (hf : (fieldOf P t k).map (fun f => (f.offset, (P.info? f.type).map (·.size))) = some (off, some sz)) (hz : sz ≠ 0) (hv : ρ x = .pointer (some ⟨b, n, none⟩)) :
  (execOp ρ o).run P w = .ok (.value (.pointer (some ⟨b, n + off, none⟩))) w := by
 cases hff : fieldOf P t k with
 | none => rw [hff] at hf; cases hf
 | some f =>
  rw [hff] at hf
  cases hi : P.info? f.type with
  | none => rw [Option.map_some, hi] at hf; simp at hf
  | some i =>
   rw [Option.map_some, hi] at hf; simp at hf
   obtain ⟨rfl, rfl⟩ := hf
   unfold fieldOf at hff
   split at hff
   ·rename_i fs hu
    simp [execOp, ho, Instr.fieldAt, run_underlying hu, hff, hv, Instr.sureAddr, fieldPlace, sizeOf, typeInfo, hi, hz, add_none]
   ·cases hff
theorem run_load1 {t : TypeId} {d : TypeDesc} {x : Operand} {A : Addr} {u : Value} (hu : P.underlying t = some d) (hd : isAggB d = false) (ho : o.op = .load t x) (hv : ρ x = .pointer (some A)) (hc : w.cell? A = some u) :
  (execOp ρ o).run P w = .ok (.value u) w := by
 cases d <;> simp [isAggB] at hd <;> simp [execOp, ho, hv, Instr.loadAt, Instr.sureAddr, loadVar, isAgg, run_underlying hu, load, Sem.run, hc]
theorem run_loadN {t : TypeId} {d : TypeDesc} {x : Operand} {b off : Nat} {us : List Value} (hu : P.underlying t = some d) (hd : isAggB d = true) (hi : (P.info? t).map (·.size) = some us.length) (ho : o.op = .load t x) (hv : ρ x = .pointer (some ⟨b, off, none⟩))
  (hc : ∀ (j : Nat) (u : Value), us[j]? = some u → w.cell? ⟨b, off + j, none⟩ = some u) : (execOp ρ o).run P w = .ok (.value (.agg us.toArray)) w := by
 cases hii : P.info? t with
 | none => rw [hii] at hi; cases hi
 | some i =>
  rw [hii] at hi; simp at hi
  have hload := run_loadCells_list (P := P) (w := w) ⟨b, off, none⟩ us (fun j v hv => by rw [add_none]; exact hc j v hv)
  rw [← hi] at hload
  cases d <;> simp [isAggB] at hd <;> simp [execOp, ho, hv, Instr.loadAt, Instr.sureAddr, loadVar, isAgg, run_underlying hu, sizeOf, typeInfo, hii, hload]
end
/-- Nothing but the draw's count has turned. -/
def Sm (w w' : World) : Prop := w.grownBy w' none ∧ w'.heap.size = w.heap.size
/-- The element that is appended has been laid. -/
def Sl (w : World) (x : Trf) (w' : World) : Prop := w.grownBy w' none ∧ w'.heap.size = w.heap.size + 1 ∧ w'.heap[w.heap.size]? = some (.cells (trV x).toArray trT (0, 0))
theorem Sm.alloc {w w' : World} (h : Sm w w') (x : Trf) : Sl w x (w'.alloc (.cells (trV x).toArray trT)) :=
 ⟨h.1.trans (World.grownBy_alloc _ _ _), by simp [h.2], by rw [← h.2]; exact heap_alloc_new w' _⟩
set_option maxRecDepth 100000 in
theorem into_any (A : Option Addr) (cap : Nat) (l : List Trf) (w : World) (hreach : l.length ≤ 1000000)
  (hc : ∀ i t, l[i]? = some t → ∃ b off, A = some ⟨b, off, none⟩ ∧ b < w.heap.size ∧ ∀ j u, (trV t)[j]? = some u → w.cell? ⟨b, off + i * 3 + j, none⟩ = some u) :
  Calls Tryz.prog 43 #[.slice A l.length cap] w fun e w' => e = .returned (.map (some w.heap.size)) ∧ Grp w' w.heap.size w.heap.size (grpAll l) ∧ w.grownBy w' none := by
 have hmm := @run_makeMap Tryz.prog
 go_enter Tryz.func43, Tryz.ntmps43
 go_wp2
 go_loopw [9] (fun i wr => ∃ k : Nat, k ≤ l.length ∧ i = .int .i64 k ∧ Grp wr w.heap.size w.heap.size (grpAll (l.take k)) ∧ w.grownBy wr none ∧ w.heap.size + 1 ≤ wr.heap.size)
  (fun i _ => l.length - (intOf i).toNat)
 case atStart => exact ⟨0, Nat.zero_le _, rfl, ⟨#[], 0, heap_alloc_new w _, rfl, by simp [grpAll], by simp, by simp⟩, World.grownBy_alloc w _ none, by simp⟩
 case round =>
  obtain ⟨k, hk, rfl, hown, hgr, hws⟩ := hrel
  by_cases hlt : k < l.length
  ·obtain ⟨b, off, rfl, hb, hcell⟩ := hc k l[k] (List.getElem?_eq_getElem hlt)
   generalize hx : l[k] = x at hcell
   have c0 : wr.cell? ⟨b, off + k * 3, none⟩ = some (.string x.frm) := (World.cell?_of_block (w := w) (hgr.block b hb (by simp))).trans (hcell 0 _ rfl)
   have c1 : wr.cell? ⟨b, off + k * 3 + 1, none⟩ = some (.string x.to) := (World.cell?_of_block (w := w) (hgr.block b hb (by simp))).trans (hcell 1 _ rfl)
   have c2 : wr.cell? ⟨b, off + k * 3 + 2, none⟩ = some (.int .i64 x.amt) := (World.cell?_of_block (w := w) (hgr.block b hb (by simp))).trans (hcell 2 _ rfl)
   obtain ⟨v, hlook, hownv, hvb⟩ := hown.look x.to
   obtain ⟨i0, hi, hz0, hz1, hz2⟩ := info_parts (show (Tryz.prog.info? 54).map (fun i => (i.zero, i.size, i.bytes)) = some (some (.agg #[.string ByteArray.empty, .string ByteArray.empty, .int .i64 0]), 3, 40) by kernel_rfl)
   go_wp2
   rename_i Kx hKx
   refine wp_region_any (by kernel_rfl) ?_
   refine wpAny_inv (fun L a wc => ∃ (l0 l1 l2 l3 l4 l5 l6 l7 l8 l9 l10 : Bool) (v' : Value), L = #[l0, l1, l2, l3, l4, l5, l6, l7, l8, l9, l10] ∧
    a = ⟨#[.slice (some ⟨b, off, none⟩) l.length cap, undef, .map none, .map (some w.heap.size), undef, .pointer (some ⟨wr.heap.size, 0, none⟩), .map (some w.heap.size), .slice (some ⟨b, off, none⟩) l.length cap,
     .int .i64 l.length, .int .i64 k, .bool true, .pointer (some ⟨b, off + k * 3, none⟩), .agg #[.string x.frm, .string x.to, .int .i64 x.amt],
     bif l0 then .map (some w.heap.size) else u13, bif l1 then .pointer (some ⟨wr.heap.size, 1, none⟩) else u14, bif l2 then .string x.to else u15,
     bif l3 then .map (some w.heap.size) else u16, bif l4 then .pointer (some ⟨wr.heap.size, 1, none⟩) else u17, bif l5 then .string x.to else u18,
     bif l6 then v else u19, bif l7 then .agg (trV x).toArray else u20, bif l8 then .slice (some ⟨wr.heap.size + 1, 0, none⟩) 1 1 else u21, bif l9 then v' else u22, u23, undef], []⟩ ∧
    (l10 = true → l0 = true ∧ l2 = true ∧ l9 = true) ∧ (l9 = true → l6 = true ∧ l8 = true) ∧ (l8 = true → l7 = true) ∧ (l6 = true → l5 = true) ∧
    (l8 = false → Sm (wr.alloc (.cells (trV x).toArray trT)) wc) ∧ (l8 = true → l9 = false → Sl (wr.alloc (.cells (trV x).toArray trT)) x wc) ∧
    (l9 = true → l10 = false → ∃ wb, Sl (wr.alloc (.cells (trV x).toArray trT)) x wb ∧ wb.grownBy wc v.ownBlock ∧ wc.ownsRow w.heap.size trT 3 v' ((gat x.to (grpAll (l.take k))).length + 1) (((gat x.to (grpAll (l.take k))).map trV).flatten ++ trV x) ∧ (v'.ownBlock = v.ownBlock ∨ v'.ownBlock = some wb.heap.size)) ∧
    (l10 = true → Grp wc w.heap.size w.heap.size (grpPut x.to x (grpAll (l.take k))) ∧ w.grownBy wc none ∧ wr.heap.size ≤ wc.heap.size)) ?_ ?_ ?_ ?_ _ _ _ _ ?_ ?_
   ·intro i o ho
    have hlt := (Array.getElem?_eq_some_iff.1 ho).1
    match i, ho with
    | 0, ho => obtain rfl := Option.some.inj ho; exact ⟨rfl, by simp⟩
    | 1, ho => obtain rfl := Option.some.inj ho; exact ⟨rfl, by simp⟩
    | 2, ho => obtain rfl := Option.some.inj ho; exact ⟨rfl, by simp⟩
    | 3, ho => obtain rfl := Option.some.inj ho; exact ⟨rfl, by simp⟩
    | 4, ho => obtain rfl := Option.some.inj ho; exact ⟨rfl, by simp⟩
    | 5, ho => obtain rfl := Option.some.inj ho; exact ⟨rfl, by simp⟩
    | 6, ho => obtain rfl := Option.some.inj ho; exact ⟨rfl, by simp⟩
    | 7, ho => obtain rfl := Option.some.inj ho; exact ⟨rfl, by simp⟩
    | 8, ho => obtain rfl := Option.some.inj ho; exact ⟨rfl, by simp⟩
    | 9, ho => obtain rfl := Option.some.inj ho; exact ⟨rfl, by simp⟩
    | 10, ho => obtain rfl := Option.some.inj ho; exact ⟨rfl, by simp⟩
    | i + 11, ho => simp at hlt; omega
   ·rintro L a wc ⟨l0, l1, l2, l3, l4, l5, l6, l7, l8, l9, l10, v', rfl, _⟩; rfl
   ·intro i o ho L a wc hI hL hd
    have hlt := (Array.getElem?_eq_some_iff.1 ho).1
    obtain ⟨l0, l1, l2, l3, l4, l5, l6, l7, l8, l9, l10, v', rfl, rfl, h10, h9, h8, h6, s0, s1, s2, s3⟩ := hI
    have hbx : l10 = false → ∀ j u, (trV x)[j]? = some u → wc.cell? ⟨wr.heap.size, 0 + j, none⟩ = some u := fun e10 j u hu => by
     have hA : ∀ W : World, (wr.alloc (.cells (trV x).toArray trT)).heap[wr.heap.size]? = W.heap[wr.heap.size]? → W.cell? ⟨wr.heap.size, 0 + j, none⟩ = some u := fun W hW => by
      rw [heap_alloc_new] at hW
      rw [cell_of_row W wr.heap.size (0 + j) (trV x).toArray trT (0, 0) hW.symm, Nat.zero_add]
      simpa using hu
     have hlt1 : wr.heap.size < (wr.alloc (.cells (trV x).toArray trT)).heap.size := by simp
     cases e8 : l8 with
     | false => exact hA wc ((s0 e8).1.block _ hlt1 (by simp)).symm
     | true =>
      cases e9 : l9 with
      | false => exact hA wc ((s1 e8 e9).1.block _ hlt1 (by simp)).symm
      | true =>
       obtain ⟨wb, h1, h2, _, _⟩ := s2 e9 e10
       refine hA wc ((h2.block _ (by have := h1.2.1; omega) fun e => ?_).trans (h1.1.block _ hlt1 (by simp))).symm
       have := hownv.lt _ e.symm
       omega
    match i, ho with
    | 0, ho =>
     obtain rfl := Option.some.inj ho
     obtain rfl : l0 = false := hL
     exact wp_value (run_mv _ rfl) ⟨true, l1, l2, l3, l4, l5, l6, l7, l8, l9, l10, v', rfl, rfl, fun e => absurd (h10 e).1 (by simp), h9, h8, h6, s0, s1, s2, s3⟩
    | 1, ho =>
     obtain rfl := Option.some.inj ho
     obtain rfl : l1 = false := hL
     exact wp_value (run_fadr (off := 1) (sz := 1) (b := wr.heap.size) (n := 0) rfl (by kernel_rfl) (by decide) rfl) ⟨l0, true, l2, l3, l4, l5, l6, l7, l8, l9, l10, v', rfl, rfl, h10, h9, h8, h6, s0, s1, s2, s3⟩
    | 2, ho =>
     obtain rfl := Option.some.inj ho
     obtain rfl : l2 = false := hL
     obtain rfl : l1 = true := hd ⟨1, .data⟩ (by simp) rfl
     have e10 : l10 = false := by cases l10 with | false => rfl | true => exact absurd (h10 rfl).2.1 (by simp)
     exact wp_value (run_load1 (A := ⟨wr.heap.size, 1, none⟩) (u := .string x.to) Tryz.underlying9 rfl rfl rfl (by have := hbx e10 1 _ rfl; simpa using this)) ⟨l0, true, true, l3, l4, l5, l6, l7, l8, l9, l10, v', rfl, rfl, (fun e => by rw [e10] at e; cases e), h9, h8, h6, s0, s1, s2, s3⟩
    | 3, ho =>
     obtain rfl := Option.some.inj ho
     obtain rfl : l3 = false := hL
     exact wp_value (run_mv _ rfl) ⟨l0, l1, l2, true, l4, l5, l6, l7, l8, l9, l10, v', rfl, rfl, h10, h9, h8, h6, s0, s1, s2, s3⟩
    | 4, ho =>
     obtain rfl := Option.some.inj ho
     obtain rfl : l4 = false := hL
     exact wp_value (run_fadr (off := 1) (sz := 1) (b := wr.heap.size) (n := 0) rfl (by kernel_rfl) (by decide) rfl) ⟨l0, l1, l2, l3, true, l5, l6, l7, l8, l9, l10, v', rfl, rfl, h10, h9, h8, h6, s0, s1, s2, s3⟩
    | 5, ho =>
     obtain rfl := Option.some.inj ho
     obtain rfl : l5 = false := hL
     obtain rfl : l4 = true := hd ⟨4, .data⟩ (by simp) rfl
     have e6 : l6 = false := by cases l6 with | false => rfl | true => exact absurd (h6 rfl) (by simp)
     have e9 : l9 = false := by cases l9 with | false => rfl | true => rw [(h9 rfl).1] at e6; cases e6
     have e10 : l10 = false := by cases l10 with | false => rfl | true => rw [(h10 rfl).2.2] at e9; cases e9
     exact wp_value (run_load1 (A := ⟨wr.heap.size, 1, none⟩) (u := .string x.to) Tryz.underlying9 rfl rfl rfl (by have := hbx e10 1 _ rfl; simpa using this)) ⟨l0, l1, l2, l3, true, true, l6, l7, l8, l9, l10, v', rfl, rfl, h10, h9, h8, fun _ => rfl, s0, s1, s2, s3⟩
    | 6, ho =>
     obtain rfl := Option.some.inj ho
     obtain rfl : l6 = false := hL
     obtain rfl : l3 = true := hd ⟨3, .data⟩ (by simp) rfl
     obtain rfl : l5 = true := hd ⟨5, .data⟩ (by simp) rfl
     have e9 : l9 = false := by cases l9 with | false => rfl | true => exact absurd (h9 rfl).1 (by simp)
     have e10 : l10 = false := by cases l10 with | false => rfl | true => rw [(h10 rfl).2.2] at e9; cases e9
     have hlb : w.heap.size < (wr.alloc (.cells (trV x).toArray trT)).heap.size := by simp; omega
     have hwb : wc.heap[w.heap.size]? = wr.heap[w.heap.size]? := by
      rw [show wr.heap[w.heap.size]? = (wr.alloc (.cells (trV x).toArray trT)).heap[w.heap.size]? from (RowKit.Below.heap_alloc wr _ _ (by omega)).symm]
      cases e8 : l8 with
      | false => exact (s0 e8).1.block _ hlb (by simp)
      | true => exact (s1 e8 e9).1.block _ hlb (by simp)
     have hrun := hlook wc hwb
     refine wp_value (v := v) (w' := wc) ?_ ⟨l0, l1, l2, true, l4, true, true, l7, l8, l9, l10, v', rfl, rfl, h10, fun e => ⟨rfl, (h9 e).2⟩, h8, fun _ => rfl, s0, s1, s2, s3⟩
     exact run_lkp (t := mpT) (m := .tmp 16) (x := .tmp 18) rfl hrun
    | 7, ho =>
     obtain rfl := Option.some.inj ho
     obtain rfl : l7 = false := hL
     have e8 : l8 = false := by cases l8 with | false => rfl | true => exact absurd (h8 rfl) (by simp)
     have e9 : l9 = false := by cases l9 with | false => rfl | true => rw [(h9 rfl).2] at e8; cases e8
     have e10 : l10 = false := by cases l10 with | false => rfl | true => rw [(h10 rfl).2.2] at e9; cases e9
     exact wp_value (run_loadN (us := trV x) (b := wr.heap.size) (off := 0) Tryz.underlying54 rfl (by kernel_rfl) rfl rfl (hbx e10)) ⟨l0, l1, l2, l3, l4, l5, l6, true, l8, l9, l10, v', rfl, rfl, h10, h9, fun _ => rfl, h6, s0, s1, s2, s3⟩
    | 8, ho =>
     obtain rfl := Option.some.inj ho
     obtain rfl : l8 = false := hL
     obtain rfl : l7 = true := hd ⟨7, .data⟩ (by simp) rfl
     have e9 : l9 = false := by cases l9 with | false => rfl | true => exact absurd (h9 rfl).2 (by simp)
     have e10 : l10 = false := by cases l10 with | false => rfl | true => rw [(h10 rfl).2.2] at e9; cases e9
     have hS := s0 rfl
     have hsz : wc.heap.size = wr.heap.size + 1 := by rw [hS.2]; simp
     refine wp_buildSlice _ _ 1 _ rfl (trV x).toArray i0 _ Tryz.underlying26 hi hz0 (by rw [hz1]; decide) (by rw [hz1]; decide) ?_ ?_
     ·rw [hz1, Array.toList_map]
      show Instr.fill _ _ [(0, .agg (trV x).toArray)] = _
      have := fill_row 3 [.agg (trV x).toArray] 0 ((Array.range (1 * 3)).map (fun j => (Value.agg #[.string ByteArray.empty, .string ByteArray.empty, .int .i64 0]).cells[j % (Value.agg #[.string ByteArray.empty, .string ByteArray.empty, .int .i64 0]).cells.size]!)) (by simp [trV, Value.cells]) (by simp)
      simpa [Value.cells, List.range', trV] using this
     ·rw [hsz]
      exact ⟨l0, l1, l2, l3, l4, l5, l6, true, true, l9, l10, v', rfl, rfl, h10, fun e => ⟨(h9 e).1, rfl⟩, fun _ => rfl, h6, (fun e => by cases e), fun _ _ => hS.alloc x, (fun e => by rw [e9] at e; cases e), (fun e => by rw [e10] at e; cases e)⟩
    | 9, ho =>
     obtain rfl := Option.some.inj ho
     obtain rfl : l9 = false := hL
     obtain rfl : l6 = true := hd ⟨6, .data⟩ (by simp) rfl
     obtain rfl : l8 = true := hd ⟨8, .data⟩ (by simp) rfl
     have e10 : l10 = false := by cases l10 with | false => rfl | true => exact absurd (h10 rfl).2.2 (by simp)
     have hS := s1 rfl rfl
     have hgl : (gat x.to (grpAll (l.take k))).length ≤ 1000000 := by
      have h1 := gat_all x.to (l.take k)
      rw [h1]
      have h2 := List.length_filter_le (fun y : Trf => decide (y.to = x.to)) (l.take k)
      rw [List.length_take] at h2; omega
     have hownc : wc.ownsRow w.heap.size trT 3 v (gat x.to (grpAll (l.take k))).length ((gat x.to (grpAll (l.take k))).map trV).flatten := (hownv.alloc _).kept hS.1 (by cases v.ownBlock <;> simp)
     have hnew : ∀ j u, (trV x)[j]? = some u → wc.cell? ((⟨wr.heap.size + 1, 0, none⟩ : Addr).add j) = some u := fun j u hu => by
      have h1 := hS.2.2
      rw [show (wr.alloc (.cells (trV x).toArray trT)).heap.size = wr.heap.size + 1 by simp] at h1
      rw [add_none, Nat.zero_add, cell_of_row wc (wr.heap.size + 1) j (trV x).toArray trT (0, 0) h1]
      simpa using hu
     obtain ⟨v1, w1, hrun, ho1, hg1, _, hat1⟩ := run_append_own_at (P := Tryz.prog) wc w.heap.size 26 26 trT i0 _ 3 40 Tryz.underlying26 hi hz0 hz1 hz2 rfl (by decide) v _ _ hownc ⟨wr.heap.size + 1, 0, none⟩ 1 1 (trV x) rfl hnew (by intro u hu; simp [trV] at hu; rcases hu with rfl | rfl | rfl <;> rfl) (by unfold maxLen; omega) (by omega) (by have := hS.2.1; simp at this; omega)
     refine wp_value (v := v1) (w' := w1) ?_ ⟨l0, l1, l2, l3, l4, l5, true, l7, true, true, l10, v1, rfl, rfl, (fun e => by rw [e10] at e; cases e), fun _ => ⟨rfl, rfl⟩, h8, h6, (fun e => by cases e), (fun _ e => by cases e), fun _ _ => ⟨wc, hS, hg1, ho1, hat1⟩, (fun e => by rw [e10] at e; cases e)⟩
     exact run_app (x := .tmp 19) (y := .tmp 21) rfl hrun
    | 10, ho =>
     obtain rfl := Option.some.inj ho
     obtain rfl : l10 = false := hL
     obtain rfl : l0 = true := hd ⟨0, .data⟩ (by simp) rfl
     obtain rfl : l2 = true := hd ⟨2, .data⟩ (by simp) rfl
     obtain rfl : l9 = true := hd ⟨9, .data⟩ (by simp) rfl
     obtain ⟨wb, hSb, hgb, hob, hatb⟩ := s2 rfl rfl
     have hwb : wb.heap[w.heap.size]? = wr.heap[w.heap.size]? := by
      rw [show wr.heap[w.heap.size]? = (wr.alloc (.cells (trV x).toArray trT)).heap[w.heap.size]? from (RowKit.Below.heap_alloc wr _ _ (by omega)).symm]
      exact hSb.1.block _ (by simp; omega) (by simp)
     have hGb : Grp wb w.heap.size w.heap.size (grpAll (l.take k)) := (hown.kept (World.grownBy_alloc wr (.cells (trV x).toArray trT) none) (by simp)).kept hSb.1 (by simp)
     obtain ⟨w4, hrun, hG4, hg4⟩ := hGb.store (k := x.to) (x := x) (v := v) (v' := v') (fun W hW => hlook W (hW.trans hwb)) hgb hob (hatb.imp id fun h => ⟨_, h, Nat.le_refl _⟩)
     have hall : wr.grownBy wb none := (World.grownBy_alloc wr _ none).trans hSb.1
     have hvs : ∀ j, v.ownBlock = some j → w.heap.size ≤ j := fun j h => (hownv.lt j h).1
     have hg1 : w.grownBy wb none := hgr.trans hall
     have hg2 : w.grownBy wc none := hg1.andThen hgb fun j h => .inl (hvs j h)
     have hg3 : w.grownBy w4 none := hg2.andThen hg4 fun j h => .inl (by injection h with h; omega)
     exact wp_skip_ (w' := w4) (run_mup (m := .tmp 13) (x := .tmp 15) (y := .tmp 22) rfl hrun) ⟨true, l1, true, l3, l4, l5, l6, l7, l8, true, true, v', rfl, rfl, fun _ => ⟨rfl, rfl, rfl⟩, h9, h8, h6, (fun e => by have := (h9 rfl).2; rw [this] at e; cases e), (fun _ e => by cases e), (fun _ e => by cases e), fun _ => ⟨hG4, hg3, Nat.le_trans hall.size (Nat.le_trans hgb.size hg4.size)⟩⟩
    | i + 11, ho => simp at hlt; omega
   ·rintro L a wc ⟨l0, l1, l2, l3, l4, l5, l6, l7, l8, l9, l10, v', rfl, rfl, h10, h9, h8, h6, s0, s1, s2, s3⟩ hall
    obtain rfl : l10 = true := hall 10 (by decide)
    obtain ⟨hG4, hg4, hs4⟩ := s3 rfl
    have hs4' : w.heap.size + 1 ≤ wc.heap.size := by omega
    have hG5 : Grp wc w.heap.size w.heap.size (grpAll (l.take (k + 1))) := by
     rw [List.take_add_one, List.getElem?_eq_getElem hlt, hx, Option.toList_some, grpAll_snoc]; exact hG4
    refine hKx _ _ ?_
    go_wp2
    exact ⟨⟨k + 1, by omega, by simp, hG5, hg4, hs4'⟩, by simp [intOf]; omega⟩
   ·exact ⟨false, false, false, false, false, false, false, false, false, false, false, undef, rfl, rfl, by simp, by simp, by simp, by simp, fun _ => ⟨⟨rfl, rfl, rfl, Nat.le_refl _, fun _ _ _ => rfl⟩, rfl⟩, by simp, by simp, by simp⟩
   ·decide
  ·have : k = l.length := by omega
   subst this
   rw [List.take_length] at hown
   go_wp2
   go_ret
   exact ⟨rfl, hown, hgr⟩
end Go.Proofs.YtodmofhehabmgaaGreatDoor
