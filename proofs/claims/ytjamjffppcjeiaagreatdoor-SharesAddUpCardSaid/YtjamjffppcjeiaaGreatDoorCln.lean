
/-
 slices.Clone of strings: a row of the call's own.
-/
import Derived.Test.YtjamjffppcjeiaaGreatDoorPrd
import Derived.WalkKit
import Derived.Lib.Walk
import Derived.Lib.SliceRun
namespace Go.Proofs.YtjamjffppcjeiaaGreatDoor
open Go Go.Ai Go.Proofs Go.RowKit Go.Lib
set_option linter.unusedSimpArgs false
set_option linter.unusedVariables false
set_option maxHeartbeats 4000000
theorem sl_strs {w : World} {ok : Nat → Prop} {fr : Bool} {l : List ByteArray} {v : Value} (h : DRel w ok (.sl fr 1 (l.map strC)) v) :
  ∃ A c, v = .slice A l.length c ∧ ∀ i t, l[i]? = some t → ∃ b off, A = some ⟨b, off, none⟩ ∧ b < w.heap.size ∧ w.cell? ⟨b, off + i, none⟩ = some (.string t) := by
 generalize hE : l.map strC = es at h
 generalize hc : Cel.sl fr 1 es = c at h
 cases h with
 | g hv => cases hc
 | any hv => cases hc
 | fm => cases hc
 | @nil fr' z' a cc =>
  injection hc with _ _ hc
  subst hc
  have : l = [] := List.map_eq_nil_iff.1 hE
  subst this
  exact ⟨a, cc, rfl, by simp⟩
 | @sl fr' z' es' b off n cc us hn hnc hb hlt hz hcell hrel =>
  injection hc with _ hz' hc
  subst hc; subst hz'; subst hE
  refine ⟨some ⟨b, off, none⟩, cc, by rw [hn]; simp, fun i t ht => ⟨b, off, rfl, hlt, ?_⟩⟩
  have he : (l.map strC)[i]? = some (strC t) := by rw [List.getElem?_map, ht]; rfl
  have h1 := hcell i _ 0 _ he rfl
  have h2 := hrel i _ 0 _ he rfl
  rw [Nat.mul_one, Nat.add_zero] at h1
  rw [h1]
  generalize us i 0 = uu at h2
  cases h2; rfl
set_option maxHeartbeats 2000000 in
set_option maxRecDepth 100000 in
theorem clone_run (A : Option Addr) (c : Nat) (l : List ByteArray) (w : World) (hl : l.length ≤ 1000000) (hz : ∀ i t, l[i]? = some t → ∃ b off, A = some ⟨b, off, none⟩ ∧ b < w.heap.size ∧ w.cell? ⟨b, off + i, none⟩ = some (.string t)) :
  Calls Tryz.prog 8 #[.slice A l.length c] w fun e w' => ∃ v', e = .returned v' ∧ w.grownBy w' none ∧ w'.ownsRow w.heap.size 9 1 v' l.length (l.map .string) := by
 obtain ⟨i1, hj, hj0, hj1, hj2⟩ := info_parts (show (Tryz.prog.info? 9).map (fun i => (i.zero, i.size, i.bytes)) = some (some (.string ByteArray.empty), 1, 16) by kernel_rfl)
 have q24 : ∀ (w : World) (a : Option Addr) (n c n' c' : Nat), (binOp .eql 29 (.slice a n c) (.slice none n' c')).run Tryz.prog w = .ok (.bool a.isNone) w := fun w a n c n' c' => Lib.run_eql_slice_nil w _ _ a n c n' c' Tryz.underlying29
 match A with
 | none =>
  have : l = [] := by
   cases l with
   | nil => rfl
   | cons x r => obtain ⟨b, off, h, _⟩ := hz 0 x rfl; cases h
  subst this
  go_enter Tryz.func8, Tryz.ntmps8
  go_wp2
  go_ret
  exact ⟨_, rfl, ⟨rfl, rfl, rfl, Nat.le_refl _, fun _ _ _ => rfl⟩, World.ownsRow_nil _ _ _ _⟩
 | some a =>
  have hcell : ∀ j u, (l.map Value.string)[j]? = some u → w.cell? (a.add j) = some u := fun j u hu => by
   rw [List.getElem?_map] at hu
   cases hx : l[j]? with
   | none => rw [hx] at hu; cases hu
   | some s' =>
    rw [hx] at hu; simp at hu; subst hu
    obtain ⟨b, off, e, _, h⟩ := hz j s' hx
    injection e with e
    subst e
    rw [add_none]; exact h
  have AA : Aside (∀ j u, (l.map Value.string)[j]? = some u → w.cell? (a.add j) = some u) := hcell
  clear hcell
  go_enter Tryz.func8, Tryz.ntmps8
  go_wp2_with (at_builtin; refine wpList_append_own _ rfl _ _ 29 rfl w.heap.size 9 i1 (.string ByteArray.empty) 1 16 Tryz.underlying29 hj hj0 hj1 hj2 rfl (by decide) _ _ _ rfl (World.ownsRow_made w #[] 0 (Nat.le_refl _) (Nat.zero_le _) rfl) a l.length c (l.map Value.string) rfl ?qc1 ?qc2 ?qc3 ?qc4 ?qc5 ?qc6 ?_)
  case qc1 => simp
  case qc2 => intro j u hj; exact Lib.cell?_alloc_some _ (AA.out j u hj)
  case qc3 => intro u hu; obtain ⟨x, _, rfl⟩ := List.mem_map.1 hu; rfl
  case qc4 => unfold maxLen; omega
  case qc5 => omega
  case qc6 => simp
  intro v' w1 hown hgrow hnil
  go_wp2
  go_ret
  refine ⟨v', rfl, ?_, by simpa using hown⟩
  have hsz := hgrow.size
  rw [World.size_alloc] at hsz
  refine ⟨hgrow.os, hgrow.tape, hgrow.output, by omega, fun k hk _ => ?_⟩
  rw [hgrow.block k (by rw [World.size_alloc]; omega) (by simp [Value.ownBlock]; omega)]
  exact (World.grownBy_alloc w _ none).block k hk (by simp)
/-- A call that makes one row and hands it back, alone. -/
theorem fcm_new1 {w w' : World} {okA : Nat → Prop} {E : Env} {R : Hp → Val → Prop} {e : Ending} {v : Value} (key : Nat) {l : List ByteArray} (hk : bldK key = false)
  (hH : HRel w okA w.heap.size E (tabO []) (tabO [])) (hg : w.grownBy w' none) (ho : w'.ownsRow w.heap.size 9 1 v l.length (l.map .string)) (he : e = .returned v)
  (hR : R ⟨[], [(key, sRow l)]⟩ (.one (.ow key 0))) :
  ∃ v H' r E', e = .returned v ∧ R H' r ∧ Grew E.own w w' ∧
 HRel w' (okE w okA E') w.heap.size E' (tabO H'.bs) (tabO H'.rs) ∧ VRel w' (okE w okA E') w.heap.size E' r v ∧
 (∀ k g g', E.gm k = some g → E'.gm k = some g' → g = g') ∧ (∀ k g, E'.gm k = some g → w.heap.size ≤ g ∨ E.own g) ∧
 (∀ k ver z u b, E'.rm k = some (ver, z, u) → (blkV u) = some b → w.heap.size ≤ b ∨ ∃ ver' z' u', E.rm k = some (ver', z', u') ∧ (blkV u') = some b) ∧
 (∀ k r0, tabO H'.rs k = some r0 → r0.ver = 0) ∧ (∀ k r0 r1, tabO ([] : List (Nat × Row)) k = some r0 → tabO H'.rs k = some r1 → r1.z = r0.z) ∧
 (∀ k ver ver' z z' u u', k ∈ ([] : List Nat) → E.rm k = some (ver, z, u) → E'.rm k = some (ver', z', u') → u = u') ∧ (∀ k g, bldK k = true → E.gm k = some g → E'.gm k = some g → ∃ cur T, w'.heap[g]? = some (.cells cur T (0, 0)) ∧ isBld Tryz.prog T = true) := by
 obtain ⟨v2, H', r, E', e1, hR', h1, h2, h3, rest⟩ := fcm_new (R := fun H r => H = ⟨[], [(key, sRow l)]⟩ ∧ r = .tu [.one (.ow key 0), iv 0]) key hk hH hg ho (e := .returned (.tuple #[v, .int .i64 0])) rfl ⟨rfl, rfl⟩
 obtain ⟨rfl, rfl⟩ := hR'
 injection e1 with e1
 subst e1
 refine ⟨v, _, _, E', he, hR, h1, h2, ?_, rest⟩
 cases h3 with
 | tu hl hv => exact hv 0 _ _ rfl rfl
theorem clone_fcm (fr : Bool) (l : List ByteArray) (hl : l.length ≤ 1000000) : FCM Tryz.prog 8 ⟨[], []⟩ [strs fr l] (fun H r => H = ⟨[], [(600, sRow l)]⟩ ∧ r = .one (.ow 600 0)) := by
 refine ⟨⟨_, Tryz.func8, by kernel_rfl, by kernel_rfl⟩, fun w okA E vs htab hH hown hty hlen hrel => ?_⟩
 match vs, hlen with
 | [v], _ =>
  have hv0 := hrel 0 _ v rfl rfl
  obtain ⟨ok', hv⟩ := sl_any hv0
  obtain ⟨A, c, rfl, hc⟩ := sl_strs hv
  refine Calls.mono (clone_run A c l w hl hc) ?_
  rintro e w' ⟨v', rfl, hg, ho⟩
  exact fcm_new1 600 rfl hH hg ho rfl ⟨rfl, rfl⟩
end Go.Proofs.YtjamjffppcjeiaaGreatDoor
