/-
 slices.Clone of acts: a row of the call's own.
-/
import Derived.Test.YtfgkpbkphmeigaaGreatDoorOpv
import Derived.Test.YtfgkpbkphmeigaaGreatDoorGrw
import Derived.WalkKit
import Derived.Deep.LoopGhost
import Derived.Lib.Walk
import Derived.Lib.SliceRun
namespace Go.Proofs.YtfgkpbkphmeigaaGreatDoor
open Go Go.Ai Go.Proofs Go.RowKit Go.Lib
set_option linter.unusedSimpArgs false
set_option linter.unusedVariables false
set_option maxHeartbeats 4000000
theorem sl_opr {w : World} {ok : Nat → Prop} {fr : Bool} {l : List Opr} {v : Value} (h : DRel w ok (.sl fr 6 (l.map oprS)) v) :
  ∃ A c, v = .slice A l.length c ∧ ∀ i t, l[i]? = some t → ∃ b off, A = some ⟨b, off, none⟩ ∧ b < w.heap.size ∧ ∀ j u, (oprV t)[j]? = some u → w.cell? ⟨b, off + i * 6 + j, none⟩ = some u := by
 generalize hE : l.map oprS = es at h
 generalize hc : Cel.sl fr 6 es = c at h
 cases h with
 | g hv => cases hc
 | any hv => cases hc
 | fm => cases hc
 | @nil fr' z' a cc =>
  injection hc with _ _ hc
  subst hc
  have : l = [] := List.map_eq_nil_iff.1 hE
  subst this
  exact ⟨a, cc, rfl, by simp⟩
 | @sl fr' z' es' b off n cc us hn hnc hb hlt hz hcell hrel =>
  injection hc with _ hz' hc
  subst hc; subst hz'; subst hE
  refine ⟨some ⟨b, off, none⟩, cc, by rw [hn]; simp, fun i t ht => ⟨b, off, rfl, hlt, fun j u hu => ?_⟩⟩
  have he : (l.map oprS)[i]? = some (oprS t) := by rw [List.getElem?_map, ht]; rfl
  obtain ⟨c0, hc0⟩ : ∃ c0, (oprS t)[j]? = some c0 := ⟨_, List.getElem?_eq_getElem (show j < (oprS t).length from (List.getElem?_eq_some_iff.1 hu).1)⟩
  obtain ⟨rfl, _⟩ := oprV_at hc0 hu
  have h1 := hcell i _ j _ he hc0
  have h2 := hrel i _ j _ he hc0
  rw [h1]
  generalize us i j = uu at h2
  cases h2; rfl
set_option maxHeartbeats 2000000 in
set_option maxRecDepth 100000 in
theorem cloneA_run (A : Option Addr) (c : Nat) (l : List Opr) (w : World) (hl : l.length ≤ 1000000) (hz : ∀ i t, l[i]? = some t → ∃ b off, A = some ⟨b, off, none⟩ ∧ b < w.heap.size ∧ ∀ j u, (oprV t)[j]? = some u → w.cell? ⟨b, off + i * 6 + j, none⟩ = some u) :
  Calls Tryz.prog 9 #[.slice A l.length c] w fun e w' => ∃ v', e = .returned v' ∧ w.grownBy w' none ∧ w'.ownsRow w.heap.size 34 6 v' l.length ((l.map oprV).flatten) := by
 obtain ⟨i1, hj, hj0, hj1, hj2⟩ := info_parts (show (Tryz.prog.info? 34).map (fun i => (i.zero, i.size, i.bytes)) = some (some (.agg #[.string ByteArray.empty, .int .i64 0, .int .i64 0, .int .i64 0, .string ByteArray.empty, .int .i64 0]), 6, 64) by kernel_rfl)
 have q24 : ∀ (w : World) (a : Option Addr) (n c n' c' : Nat), (binOp .eql 30 (.slice a n c) (.slice none n' c')).run Tryz.prog w = .ok (.bool a.isNone) w := fun w a n c n' c' => Lib.run_eql_slice_nil w _ _ a n c n' c' Tryz.underlying30
 match A with
 | none =>
  have : l = [] := by
   cases l with
   | nil => rfl
   | cons x r => obtain ⟨b, off, h, _⟩ := hz 0 x rfl; cases h
  subst this
  go_enter Tryz.func9, Tryz.ntmps9
  go_wp2
  go_ret
  exact ⟨_, rfl, ⟨rfl, rfl, rfl, Nat.le_refl _, fun _ _ _ => rfl⟩, World.ownsRow_nil _ _ _ _⟩
 | some a =>
  have hcell : ∀ j u, ((l.map oprV).flatten)[j]? = some u → w.cell? (a.add j) = some u := fun j u hu => by
   have hj : j < l.length * 6 := by rw [← oprV_len]; exact (List.getElem?_eq_some_iff.1 hu).1
   have h1 : l[j / 6]? = some l[j / 6] := List.getElem?_eq_getElem (by omega)
   have hm6 : j % 6 < (oprV l[j / 6]).length := show j % 6 < 6 by omega
   have h2 : (oprV l[j / 6])[j % 6]? = some (oprV l[j / 6])[j % 6] := List.getElem?_eq_getElem hm6
   have h3 := flat6 l (j / 6) _ (j % 6) _ h1 h2
   rw [show j / 6 * 6 + j % 6 = j by omega, hu] at h3
   injection h3 with h3
   obtain ⟨b, off, e, _, h⟩ := hz (j / 6) _ h1
   injection e with e
   subst e
   have h4 := h (j % 6) _ h2
   rw [add_none, h3, ← h4]
   congr 2
   omega
  have AA : Aside (∀ j u, ((l.map oprV).flatten)[j]? = some u → w.cell? (a.add j) = some u) := hcell
  clear hcell
  go_enter Tryz.func9, Tryz.ntmps9
  go_wp2_with (at_builtin; refine wpList_append_own _ rfl _ _ 30 rfl w.heap.size 34 i1 (.agg #[.string ByteArray.empty, .int .i64 0, .int .i64 0, .int .i64 0, .string ByteArray.empty, .int .i64 0]) 6 64 Tryz.underlying30 hj hj0 hj1 hj2 rfl (by decide) _ _ _ rfl (World.ownsRow_made w #[] 0 (Nat.le_refl _) (Nat.zero_le _) rfl) a l.length c ((l.map oprV).flatten) ?qc0 ?qc1 ?qc2 ?qc3 ?qc4 ?qc5 ?qc6 ?_)
  case qc0 => first | rfl | exact oprV_len l
  case qc1 => first | rfl | exact oprV_len l
  case qc2 => intro j u hj; exact Lib.cell?_alloc_some _ (AA.out j u hj)
  case qc3 =>
   intro u hu
   obtain ⟨y, hy, hu⟩ := List.mem_flatten.1 hu
   obtain ⟨x, _, rfl⟩ := List.mem_map.1 hy
   simp only [oprV, List.mem_cons, List.not_mem_nil, or_false] at hu
   rcases hu with rfl | rfl | rfl | rfl | rfl | rfl <;> rfl
  case qc4 => unfold maxLen; omega
  case qc5 => omega
  case qc6 => simp
  intro v' w1 hown hgrow hnil
  go_wp2
  go_ret
  refine ⟨v', rfl, ?_, by simpa using hown⟩
  have hsz := hgrow.size
  rw [World.size_alloc] at hsz
  refine ⟨hgrow.os, hgrow.tape, hgrow.output, by omega, fun k hk _ => ?_⟩
  rw [hgrow.block k (by rw [World.size_alloc]; omega) (by simp [Value.ownBlock]; omega)]
  exact (World.grownBy_alloc w _ none).block k hk (by simp)
theorem cloneA_fcm (fr : Bool) (l : List Opr) (hl : l.length ≤ 1000000) : FCM Tryz.prog 9 ⟨[], []⟩ [oprs fr l] (fun H r => H = ⟨[], [(5000, opRow l)]⟩ ∧ r = .one (.ow 5000 0)) := by
 refine ⟨⟨_, Tryz.func9, by kernel_rfl, by kernel_rfl⟩, fun w okA E vs htab hH hown hty hlen hrel => ?_⟩
 match vs, hlen with
 | [v], _ =>
  have hv0 := hrel 0 _ v rfl rfl
  have hv : ∃ ok', DRel w ok' (.sl fr 6 (l.map oprS)) v := by
   cases hv0 with
   | one h => exact ⟨_, h⟩
  obtain ⟨ok', hv⟩ := hv
  obtain ⟨A, c, rfl, hc⟩ := sl_opr hv
  refine Calls.mono (cloneA_run A c l w hl hc) ?_
  rintro e w' ⟨v', rfl, hg, ho⟩
  refine fcm_newG 5000 34 (show (0 : Nat) < 6 by omega) (es := l.map oprS) (xs := (l.map oprV).flatten) (fun e he => by obtain ⟨x, _, rfl⟩ := List.mem_map.1 he; rfl) rfl hH hg (by rw [List.length_map]; exact ho) (fun ok base => rrel_oprs l) rfl ⟨rfl, rfl⟩
end Go.Proofs.YtfgkpbkphmeigaaGreatDoor
