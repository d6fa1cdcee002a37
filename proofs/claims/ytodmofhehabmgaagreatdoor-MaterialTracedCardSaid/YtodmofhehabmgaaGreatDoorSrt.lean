/-
 The keys of a set of strings, in order: the program's sorted, walked.
-/
import Derived.Test.YtodmofhehabmgaaGreatDoorSrw
import Derived.Test.YtodmofhehabmgaaGreatDoorSos
import Derived.Maps.RangeWalk
import Derived.Maps.AppendAt
namespace Go.Proofs.YtodmofhehabmgaaGreatDoor
open Go Go.Ai Go.Proofs Go.ChangeMaps
set_option linter.unusedSimpArgs false
set_option linter.unusedVariables false
set_option maxHeartbeats 4000000
theorem perm_push {ms : Array MapEntry} {seen : Array Nat} {e : MapEntry} (hnd : (ms.toList.map (·.born)).Nodup) (he : e ∈ ms.toList) (hs : seen.contains e.born = false) :
  (ms.toList.filter fun x => (seen.push e.born).contains x.born).Perm ((ms.toList.filter fun x => seen.contains x.born) ++ [e]) := by
 generalize ms.toList = l at hnd he
 have h1 : ∀ x ∈ l, x.born = e.born → x = e := fun x hx hb => by
  have : ∀ (l : List MapEntry), (l.map (·.born)).Nodup → ∀ x ∈ l, ∀ y ∈ l, x.born = y.born → x = y := by
   intro l
   induction l with
   | nil => intro _ x hx; simp at hx
   | cons a r ih =>
    intro hn x hx y hy hb
    rw [List.map_cons, List.nodup_cons] at hn
    rw [List.mem_cons] at hx hy
    rcases hx with rfl | hx <;> rcases hy with rfl | hy
    ·rfl
    ·exact absurd (List.mem_map.2 ⟨y, hy, hb.symm⟩) hn.1
    ·exact absurd (List.mem_map.2 ⟨x, hx, hb⟩) hn.1
    ·exact ih hn.2 x hx y hy hb
  exact this l hnd x hx e he hb
 have hnl : l.Nodup := by
  have : ∀ (l : List MapEntry), (l.map (·.born)).Nodup → l.Nodup := by
   intro l
   induction l with
   | nil => intro _; exact List.nodup_nil
   | cons a r ih =>
    intro hn
    rw [List.map_cons, List.nodup_cons] at hn
    exact List.nodup_cons.2 ⟨fun h => hn.1 (List.mem_map.2 ⟨a, h, rfl⟩), ih hn.2⟩
  exact this l hnd
 refine (List.perm_ext_iff_of_nodup (hnl.sublist (List.filter_sublist)) ?_).2 fun x => ?_
 ·rw [List.nodup_append]
  refine ⟨hnl.sublist (List.filter_sublist), by simp, fun a ha b hb => ?_⟩
  simp at hb; subst hb
  rintro rfl
  have := (List.mem_filter.1 ha).2
  rw [hs] at this; cases this
 ·rw [List.mem_filter, List.mem_append, List.mem_filter, contains_push]
  constructor
  ·rintro ⟨hx, hc⟩
   rw [Bool.or_eq_true] at hc
   rcases hc with hc | hc
   ·exact .inl ⟨hx, hc⟩
   ·exact .inr (by simp [h1 x hx (by simpa using hc)])
  ·rintro (⟨hx, hc⟩ | hx)
   ·exact ⟨hx, by rw [hc]; rfl⟩
   ·simp at hx; subst hx; exact ⟨he, by simp⟩
theorem srtS_perm {a b : List ByteArray} (h : a.Perm b) : srtS a = srtS b := by
 unfold srtS
 have := mergeSort_of_perm (h.map (·.data.toList))
 unfold bys
 exact congrArg _ this
/-- A row that is sorted where it lies. -/
theorem sort_calls {w0 w : World} {okA : Nat → Prop} (htab : TabB Tryz.prog w0 okA) (hg : w0.grownBy w none) {v : Value} {l : List ByteArray} (hown : w.ownsRow w0.heap.size 9 1 v l.length (l.map .string)) (hl : l.length < 4611686018427387904) :
  Calls Tryz.prog 90 #[v] w fun e w' => e = .returned (.tuple #[]) ∧ w0.grownBy w' none ∧ w'.ownsRow w0.heap.size 9 1 v l.length ((srtS l).map .string) := by
 obtain ⟨hb, h⟩ := sortS_all l hl
 have hbo : ∀ b, blkV v = some b → w0.heap.size ≤ b ∧ b < w.heap.size := fun b hb => by
  rw [row_blkV hown] at hb; exact hown.lt b hb
 have hE : ∀ k ver z u, (if k = 1000000 then some ((0 : Nat), (1 : Nat), v) else none) = some (ver, z, u) → k = 1000000 ∧ ver = 0 ∧ z = 1 ∧ u = v := fun k ver z u h => by
  split at h
  ·simp only [Option.some.injEq, Prod.mk.injEq] at h
   obtain ⟨rfl, rfl, rfl⟩ := h
   exact ⟨by assumption, rfl, rfl, rfl⟩
  ·cases h
 have hrw : ∀ b, Env.own ⟨fun _ => none, fun k => if k = 1000000 then some (0, 1, v) else none⟩ b → w0.heap.size ≤ b := by
  rintro b (⟨k, h⟩ | ⟨k, ver, z, u, h, hb⟩)
  ·cases h
  ·obtain ⟨_, _, _, rfl⟩ := hE _ _ _ _ h
   exact (hbo b hb).1
 refine Calls.mono (h w (fun b => okA b ∧ b < w0.heap.size) ⟨fun _ => none, fun k => if k = 1000000 then some (0, 1, v) else none⟩ [v] ?_ ?_ ?_ ?_ rfl ?_) ?_
 ·obtain ⟨W, h1, h2, h3⟩ := htab
  exact ⟨W, h1, Nat.le_trans h2 hg.size, fun b hb => ⟨⟨(h3 b hb).1, Nat.lt_of_lt_of_le hb h2⟩, (hg.block b (Nat.lt_of_lt_of_le hb h2) (by simp)).trans (h3 b hb).2⟩⟩
 ·refine ⟨fun k cs h => (by simp [tabO] at h), fun _ _ => rfl, fun k r0 h => ?_, fun k h => ?_, fun k k' g h => (by cases h), fun k g k' ver z u h => (by cases h), fun k ver z u k' ver' z' u' b h h' _ _ => ?_⟩
  ·simp only [tabO] at h
   split at h
   ·rename_i e
    injection h with h; subst h; subst e
    refine ⟨fun h => by simp at h, .of (show (0 : Nat) < 1 by omega) (fun e he => ?_), v, l.map .string, by simp, .inl ⟨show (0 : Nat) < 1 by omega, ?_⟩, rrel_strs l⟩
    ·obtain ⟨x, _, rfl⟩ := List.mem_map.1 he; rfl
    ·simp only [List.length_map]
     exact ⟨hown.1, hown.2.imp id fun ⟨g, cap, cur, h1, _, r⟩ => ⟨g, cap, cur, h1, Nat.zero_le _, r⟩⟩
   ·cases h
  ·simp only [tabO] at h
   split at h
   ·cases h
   ·rename_i e; simp only []; rw [if_neg e]
  ·have := hE _ _ _ _ h
   have := hE _ _ _ _ h'
   omega
 ·intro b hb ho
  have := hrw b hb
  omega
 ·intro k g _ h; cases h
 ·intro i x u h1 h2
  match i with
  | 0 =>
   simp at h1 h2; subst h1; subst h2
   refine .one ⟨?_, 0, 1, v, by simp, Nat.le_refl _, fun _ => rfl, by omega⟩
   rcases hown.2 with ⟨rfl, _⟩ | ⟨_, _, _, rfl, _⟩ <;> rfl
  | i + 1 => simp at h1
 ·rintro e w' ⟨v', H', r, E', rfl, ⟨rfl, rfl⟩, hgrew, hH', hv', _, _, _, _, _, hS, _⟩
  obtain ⟨_, _, u, xs, hm, how, hxs⟩ := hH'.rw 1000000 (sRow (srtS l)) (by simp [tabO])
  have hu := hS 1000000 0 0 1 1 v u (by simp) (by simp) hm
  subst hu
  have hxe := rrel_strs_eq hxs
  subst hxe
  have how := how.row (by simp)
  simp only [List.length_map, srtS_len] at how
  have hv : v' = .tuple #[] := by
   cases hv' with
   | tu h1 h2 =>
    have := List.eq_nil_of_length_eq_zero h1.symm
    subst this; rfl
  subst hv
  refine ⟨rfl, ⟨hgrew.os.trans hg.os, hgrew.tape.trans hg.tape, hgrew.output.trans hg.output, Nat.le_trans hg.size hgrew.size, fun k hk _ => ?_⟩, how.1, ?_⟩
  ·rw [hgrew.block k (Nat.lt_of_lt_of_le hk hg.size) (fun ho => by have := hrw k ho; omega)]
   exact hg.block k hk (by simp)
  ·rcases how.2 with h | ⟨g, cap, cur, rfl, _, rest⟩
   ·exact .inl h
   ·exact .inr ⟨g, cap, cur, rfl, (hbo g rfl).1, rest⟩
theorem wp_append_row {ops : Array Oper} {rest : List Oper} {o : Oper} {a : Act} {w : World} {Q : Exit → Act → World → Prop} (hgd : o.guard = none) (sl x : Operand)
  (ho : o.op = .call { callee := .builtin .append, args := #[sl, x], argTypes := #[35, 35] }) {B : Nat} {v : Value} {xs : List ByteArray} (hs : a.eval sl = v) (hO : w.ownsRow B 9 1 v xs.length (xs.map .string)) (hB : B ≤ w.heap.size) (g : Nat) (s : ByteArray)
  (hx : a.eval x = .slice (some ⟨g, 0, none⟩) 1 1) (hc : w.cell? ⟨g, 0, none⟩ = some (.string s)) (hl : xs.length ≤ 100000000)
  (h : ∀ v' w', w'.ownsRow B 9 1 v' (xs ++ [s]).length ((xs ++ [s]).map .string) → w.grownBy w' v.ownBlock → wpList Tryz.prog ops Q rest (a.put o.dst v') w') : wpList Tryz.prog ops Q (o :: rest) a w := by
 refine wpList_plain hgd fun K hK => ?_
 obtain ⟨i1, hj, hj0, hj1, hj2⟩ := info_parts (show (Tryz.prog.info? 9).map (fun i => (i.zero, i.size, i.bytes)) = some (some (.string ByteArray.empty), 1, 16) by kernel_rfl)
 obtain ⟨v', w', hr, h2, h3, _⟩ := run_append_own_at (P := Tryz.prog) w B 35 o.type 9 i1 _ 1 16 Tryz.underlying35 hj hj0 hj1 hj2 rfl (by decide) v _ _ hO ⟨g, 0, none⟩ 1 1 [.string s] rfl
  (fun j u hu => by
   match j with
   | 0 => simp at hu; subst hu; rw [add_none]; exact hc
   | j + 1 => simp at hu) (by simp [Value.oneCell']) (by unfold maxLen; omega) (by omega) hB
 unfold Oper.wp execOp
 simp only [ho, resolve, invoke, builtin, Sem.run_bind, Sem.run_pure, Result.andThen_ok, List.map_toArray, List.map_cons, List.map_nil, hs, hx, hr]
 exact hK _ _ (h v' w' (by simpa using h2) h3)
def unS : Value → ByteArray
 | .string s => s
 | _ => ByteArray.empty
def itSz (ms : Array MapEntry) (w : World) (r : Nat) : Nat := match w.heap[r]? with | some (.mapIter _ _ seen _) => (leftOf ms seen).size | _ => 0
set_option maxRecDepth 100000 in
theorem sorted_any (b : Nat) (S : List ByteArray) {w0 w : World} {okA : Nat → Prop} (htab : TabB Tryz.prog w0 okA) (hg0 : w0.grownBy w none) (hS : Sts w b S) (hSl : S.length ≤ 1000000) :
  Calls Tryz.prog 46 #[.map (some b)] w fun e w' => ∃ v, e = .returned v ∧ w0.grownBy w' none ∧ w'.ownsRow w0.heap.size 9 1 v S.length ((srtS S).map .string) := by
 obtain ⟨ms, clock, hb, hlm, hSp, hD⟩ := hS
 have hblt : b < w.heap.size := (Array.getElem?_eq_some_iff.1 hb).1
 have hrange := run_range_map (P := Tryz.prog) w 71 9 4 b ms clock Tryz.underlying71 hb
 obtain ⟨i1, hj, hj0, hj1, hj2⟩ := info_parts (show (Tryz.prog.info? 9).map (fun i => (i.zero, i.size, i.bytes)) = some (some (.string ByteArray.empty), 1, 16) by kernel_rfl)
 go_enter Tryz.func46, Tryz.ntmps46
 go_wp2
 go_loopw [3] (fun v3 wr => ∃ (seen : Array Nat) (c0 : Nat) (ss : List ByteArray), wr.heap[w.heap.size]? = some (.mapIter (some b) clock seen c0) ∧ clock ≤ c0 ∧ w.grownBy wr none ∧ wr.ownsRow (w.heap.size + 1) 9 1 v3 ss.length (ss.map .string) ∧
   ((ms.toList.filter fun x => seen.contains x.born).map (·.key)).Perm (ss.map .string)) (fun v3 wr => itSz ms wr w.heap.size)
 case atStart =>
  exact ⟨#[], clock, [], heap_alloc_new w _, Nat.le_refl _, World.grownBy_alloc w _ none, World.ownsRow_nil _ _ _ _, by simp⟩
 case round =>
  obtain ⟨seen, c0, ss, hr, hc0, hg, hO, hP⟩ := hrel
  have hbr : wr.heap[b]? = some (.map ms clock) := by rw [hg.block b hblt (by simp)]; exact hb
  rcases run_next_at (P := Tryz.prog) wr 0 w.heap.size b clock c0 seen ms clock hr hbr hSp.1 hc0 with ⟨h0, hrun⟩ | ⟨e, he, w1, hal, hrun⟩
  ·have hfl : (ms.toList.filter fun x => seen.contains x.born) = ms.toList := List.filter_eq_self.2 fun x hx => all_seen ms seen h0 x hx
   rw [hfl] at hP
   have hSk : ms.toList.map (·.key) = S.map .string := by
    refine List.ext_getElem? fun j => ?_
    rw [List.getElem?_map, List.getElem?_map]
    cases hj1 : S[j]? with
    | none =>
     have : ms.toList[j]? = none := by rw [List.getElem?_eq_none_iff] at hj1 ⊢; omega
     rw [this]; rfl
    | some s =>
     have hlt : j < ms.toList.length := by have := (List.getElem?_eq_some_iff.1 hj1).1; omega
     have hx : ms.toList[j]? = some ms.toList[j] := List.getElem?_eq_getElem hlt
     rw [hx, Option.map_some, Option.map_some, (hD j s _ hj1 hx).1]
   rw [hSk] at hP
   have hP2 : S.Perm ss := by
    have := hP.map unS
    rw [List.map_map, List.map_map, show (unS ∘ Value.string) = id from rfl, List.map_id, List.map_id] at this
    exact this
   have hlen := hP2.length_eq
   have hO1 : wr.ownsRow w0.heap.size 9 1 u3 ss.length (ss.map .string) := ⟨hO.1, hO.2.imp id fun ⟨g, cap, cur, h1, h2, r⟩ => ⟨g, cap, cur, h1, by have := hg0.size; omega, r⟩⟩
   have hsc := sort_calls htab (hg0.trans hg) hO1 (by omega)
   go_wp2_with (first | (refine Calls.mono hsc ?_; rintro e w' ⟨rfl, hg', hO'⟩) | go_in)
   go_ret
   rw [srtS_perm hP2, hlen]
   exact ⟨_, rfl, hg', hO'⟩
  ·obtain ⟨hem, hes⟩ := mem_left he
   obtain ⟨j, hjl, hje⟩ := List.getElem_of_mem hem
   have hx : ms.toList[j]? = some e := by rw [List.getElem?_eq_getElem hjl, hje]
   have hs : S[j]? = some S[j] := List.getElem?_eq_getElem (by omega)
   obtain ⟨hkey, hval⟩ := hD j _ e hs hx
   generalize S[j] = s at hkey hs
   have hr1 : w1.heap[w.heap.size]? = some (.mapIter (some b) clock seen c0) := by rcases hal with rfl | rfl <;> exact hr
   have hb1 : w1.heap[b]? = some (.map ms clock) := by rcases hal with rfl | rfl <;> exact hbr
   have hset := MapKept.heap_set (o' := .mapIter (some b) clock (seen.push e.born) clock) hr1
   have hb2 := (hset.2 b (by omega)).trans hb1
   have hent := run_entry_at (P := Tryz.prog) (setBlock w1 w.heap.size (.mapIter (some b) clock (seen.push e.born) clock)) w.heap.size b clock seen ms clock e hset.1 hb2 hem hSp.2
   have hg2 : wr.grownBy (setBlock w1 w.heap.size (.mapIter (some b) clock (seen.push e.born) clock)) (some w.heap.size) := by
    rcases hal with rfl | rfl <;> exact ⟨rfl, rfl, rfl, by simp [setBlock], fun i _ hi => hset.2 i (fun e1 => hi (by rw [e1]))⟩
   have hsz2 : (setBlock w1 w.heap.size (.mapIter (some b) clock (seen.push e.born) clock)).heap.size = wr.heap.size := by
    rcases hal with rfl | rfl <;> simp [setBlock]
   have hlk : (setBlock w1 w.heap.size (.mapIter (some b) clock (seen.push e.born) clock)).heap[w.heap.size]? = some (.mapIter (some b) clock (seen.push e.born) clock) := hset.1
   have hsh := left_shrinks ms seen e he
   have hpp := (perm_push hSp.2 hem hes).map (fun x : MapEntry => x.key)
   rw [hkey, hval] at hrun hent
   generalize setBlock w1 w.heap.size (.mapIter (some b) clock (seen.push e.born) clock) = w2 at *
   have hrs : w.heap.size < wr.heap.size := (Array.getElem?_eq_some_iff.1 hr).1
   have hnw : (w2.alloc (.cells #[.string s] stT)).heap[wr.heap.size]? = some (.cells #[.string s] stT (0, 0)) := by rw [← hsz2]; exact heap_alloc_new w2 _
   have hnc : (w2.alloc (.cells #[.string s] stT)).cell? ⟨wr.heap.size, 0, none⟩ = some (.string s) := by rw [cell_of_row _ _ 0 _ _ (0, 0) hnw]; rfl
   go_wp2
   rename_i K1 hK1
   refine wp_buildSlice _ _ 1 _ rfl #[.string s] i1 _ Tryz.underlying35 hj (by exact hj0) (by rw [hj1]; decide) (by rw [hj1]; decide) ?_ ?_
   ·rw [hj1, Array.toList_map]
    show Instr.fill _ _ [(0, .string s)] = _
    have := fill_row 1 [.string s] 0 ((Array.range (1 * 1)).map (fun j => (Value.string ByteArray.empty).cells[j % (Value.string ByteArray.empty).cells.size]!)) (by simp [Value.cells]) (by simp)
    simpa [Value.cells, List.range'] using this
   refine hK1 _ _ ?_
   have hlow : ∀ j, u3.ownBlock = some j → w.heap.size < j := fun j h => (hO.lt j h).1
   have hO2 : (w2.alloc (.cells #[.string s] stT)).ownsRow (w.heap.size + 1) 9 1 u3 ss.length (ss.map .string) := (hO.kept hg2 (.inr fun e => by have := hlow _ e; omega)).alloc _
   have hssl : ss.length ≤ 1000000 := by
    have h1 := hP.length_eq
    rw [List.length_map, List.length_map] at h1
    have h2 := List.length_filter_le (fun x : MapEntry => seen.contains x.born) ms.toList
    omega
   refine wp_append_row rfl (.tmp 11) (.tmp 13) rfl rfl hO2 (by simp; omega) wr.heap.size s (by rw [← hsz2]; rfl) hnc (by omega) ?_
   intro v3 w3 hO3 hg3
   go_wp2
   have hr3 : w3.heap[w.heap.size]? = some (.mapIter (some b) clock (seen.push e.born) clock) := by
    rw [hg3.block w.heap.size (by simp; omega) (fun e => by have := hlow _ e.symm; omega), RowKit.Below.heap_alloc _ _ _ (by omega)]
    exact hlk
   refine ⟨⟨seen.push e.born, clock, ss ++ [s], hr3, Nat.le_refl _, ?_, hO3, ?_⟩, ?_⟩
   ·exact ((hg.andThen hg2 fun j h => .inl (by injection h with h; omega)).trans (World.grownBy_alloc w2 _ none)).andThen hg3 fun j h => .inl (by have := hlow j h; omega)
   ·refine hpp.trans ?_
    rw [List.map_append, List.map_append, List.map_cons, List.map_nil, List.map_cons, List.map_nil, hkey]
    exact hP.append_right _
   ·unfold itSz
    rw [hr3, hr]
    exact hsh
end Go.Proofs.YtodmofhehabmgaaGreatDoor
