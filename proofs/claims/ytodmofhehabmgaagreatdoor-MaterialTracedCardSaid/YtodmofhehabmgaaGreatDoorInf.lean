/-
 Transfers by the batches into which they lead, and all batches of which material went into one: contracts.
-/
import Derived.Test.YtodmofhehabmgaaGreatDoorSrw
namespace Go.Proofs.YtodmofhehabmgaaGreatDoor
open Go Go.Ai Go.Proofs
set_option linter.unusedSimpArgs false
set_option linter.unusedVariables false
set_option maxHeartbeats 4000000
def trC (t : Trf) : List Cel := [.g (.string t.frm), .g (.string t.to), .g (.int .i64 t.amt)]
abbrev trs (fr : Bool) (l : List Trf) : Val := .one (.sl fr 3 (l.map trC))
def fmG (D : List (ByteArray × List Trf)) : List (List Cel) := D.map fun p => [.g (.string p.1), .sl false 3 (p.2.map trC)]
def fmS (S : List ByteArray) : List (List Cel) := S.map fun s => [.g (.string s), .g (.bool true)]
/-- All batches of which material went into a batch, in the order in which they are found. -/
def srcL (l : List Trf) (b : ByteArray) : List ByteArray := srcF (fun k => l.filter (fun y => decide (y.to = k))) (l.length + 1) [] [b]
theorem trC_at {t : Trf} {j : Nat} {u : Value} (h : (trV t)[j]? = some u) : (trC t)[j]? = some (.g u) := by
 match j with
 | 0 => simp [trV] at h; subst h; rfl
 | 1 => simp [trV] at h; subst h; rfl
 | 2 => simp [trV] at h; subst h; rfl
 | j + 3 => simp [trV] at h
theorem sl_trf {w : World} {ok : Nat → Prop} {fr : Bool} {l : List Trf} {v : Value} (h : DRel w ok (.sl fr 3 (l.map trC)) v) :
  ∃ A c, v = .slice A l.length c ∧ ∀ i t, l[i]? = some t → ∃ b off, A = some ⟨b, off, none⟩ ∧ b < w.heap.size ∧ ∀ j u, (trV t)[j]? = some u → w.cell? ⟨b, off + i * 3 + j, none⟩ = some u := by
 generalize hE : l.map trC = es at h
 generalize hc : Cel.sl fr 3 es = c at h
 cases h with
 | g hv => cases hc
 | any hv => cases hc
 | fm => cases hc
 | @nil fr' z' a cc =>
  injection hc with _ _ hc
  subst hc
  have : l = [] := List.map_eq_nil_iff.1 hE
  subst this
  exact ⟨a, cc, rfl, by simp⟩
 | @sl fr' z' es' b off n cc us hn hnc hb hlt hz hcell hrel =>
  injection hc with _ hz' hc
  subst hc; subst hz'; subst hE
  refine ⟨some ⟨b, off, none⟩, cc, by rw [hn]; simp, fun i t ht => ⟨b, off, rfl, hlt, fun j u hu => ?_⟩⟩
  have he : (l.map trC)[i]? = some (trC t) := by rw [List.getElem?_map, ht]; rfl
  have h1 := hcell i _ j _ he (trC_at hu)
  have h2 := hrel i _ j _ he (trC_at hu)
  rw [h1]
  generalize us i j = uu at h2
  cases h2; rfl
theorem row_one {w : World} {base z n : Nat} {e : TypeId} {v : Value} {xs : List Value} (h : w.ownsRow base e z v n xs) : v.oneCell' = true := by
 rcases h.2 with ⟨rfl, _⟩ | ⟨_, _, _, rfl, _⟩ <;> rfl
theorem sl_any {w : World} {ok : Nat → Prop} {base : Nat} {E : Env} {fr : Bool} {z : Nat} {es : List (List Cel)} {v : Value} (h : VRel w ok base E (.one (.sl fr z es)) v) : ∃ ok', DRel w ok' (.sl fr z es) v := by
 cases h with
 | one h => exact ⟨_, h⟩
theorem into_fc (fr : Bool) (l : List Trf) (hl : l.length ≤ 1000000) : FC Tryz.prog 43 none [trs fr l] (fun _ r => r = .one (.fm 0 (fmG (grpAll l)))) := by
 refine ⟨⟨_, Tryz.func43, by kernel_rfl, by kernel_rfl⟩, fun w okA g vs htab hext hlen hrel => ?_⟩
 match vs, hlen with
 | [v], _ =>
  obtain ⟨ok', hD⟩ := sl_any (hrel 0 _ v rfl rfl)
  obtain ⟨A, c, rfl, hc⟩ := sl_trf hD
  refine Calls.mono (into_any A c l w hl hc) ?_
  rintro e w' ⟨rfl, hG, hg⟩
  refine ⟨_, [], _, rfl, rfl, hg, .one ?_, by simp⟩
  obtain ⟨ms, clock, hb, hlm, hDm, hx, hnb⟩ := hG
  have hlt : w.heap.size < w'.heap.size := (Array.getElem?_eq_some_iff.1 hb).1
  refine DRel.fm (fun i => .sl false 3 (((grpAll l).getD i (ByteArray.empty, [])).2.map trC)) (.inl (Nat.le_refl _)) hlt hb (by simp [fmG, hlm]) (fun i e he => ?_) (fun i e he => ?_)
  ·have hi : i < (grpAll l).length := by rw [hlm]; exact (List.getElem?_eq_some_iff.1 he).1
   have hp : (grpAll l)[i]? = some (grpAll l)[i] := List.getElem?_eq_getElem hi
   have h1 := hDm i _ e hp he
   refine ⟨by rw [h1.1]; rfl, ?_, row_one h1.2⟩
   rw [h1.1, fmG, List.getElem?_map, hp, List.getD_eq_getElem?_getD, hp]; rfl
  ·have hi : i < (grpAll l).length := by rw [hlm]; exact (List.getElem?_eq_some_iff.1 he).1
   have hp : (grpAll l)[i]? = some (grpAll l)[i] := List.getElem?_eq_getElem hi
   have h1 := hDm i _ e hp he
   rw [List.getD_eq_getElem?_getD, hp, Option.getD_some, encV_one (row_one h1.2)]
   generalize (grpAll l)[i] = p at h1
   have hrow : rowOk 3 (p.2.map trC) := fun e he => by obtain ⟨t, _, rfl⟩ := List.mem_map.1 he; rfl
   have hfl : ∀ ts : List Trf, ((ts.map trC).flatten) = ((ts.map trV).flatten).map Cel.g := fun ts => by
    induction ts with
    | nil => rfl
    | cons t ts ih => simp only [List.map_cons, List.flatten_cons, ih, List.map_append]; rfl
   refine row_at (base := w.heap.size) hrow h1.2 (by simp) (by rw [hfl, List.length_map]) (fun i' j e' x he' hx' => ?_) (fun b hb' => .inl (h1.2.lt b (by rw [← row_blkV h1.2]; exact hb')).1)
   have h3 := flatten_at hrow he' hx'
   rw [hfl, List.getElem?_map] at h3
   cases hv : ((p.2.map trV).flatten)[i' * 3 + j]? with
   | none => rw [hv] at h3; cases h3
   | some u =>
    rw [hv] at h3; simp at h3; subst h3
    rw [List.getD_eq_getElem?_getD, hv, Option.getD_some]
    refine .g ?_
    obtain ⟨q, hq, hu⟩ := List.mem_flatten.1 (List.mem_of_getElem? hv)
    obtain ⟨t, _, rfl⟩ := List.mem_map.1 hq
    simp [trV] at hu
    rcases hu with rfl | rfl | rfl <;> rfl
theorem fm_look {w : World} {ok : Nat → Prop} {D : List (ByteArray × List Trf)} {v : Value} (h : DRel w ok (.fm 0 (fmG D)) v) : ∃ fb, v = .map (some fb) ∧ fb < w.heap.size ∧
  ∀ k, ∃ A c, (∀ W : World, W.heap[fb]? = w.heap[fb]? → (Instr.lookup mpT (.map (some fb)) (.string k) false).run Tryz.prog W = .ok (.slice A (gat k D).length c) W) ∧
   ∀ i t, (gat k D)[i]? = some t → ∃ b off, A = some ⟨b, off, none⟩ ∧ b < w.heap.size ∧ ∀ j u, (trV t)[j]? = some u → w.cell? ⟨b, off + i * 3 + j, none⟩ = some u := by
 generalize hE : fmG D = es at h
 cases h with
 | @fm kc es' fb clock ms cs hok hlt hb hl hk hv =>
  subst hE
  have hz : ∀ W : World, (zeroValue 26).run Tryz.prog W = .ok (.slice none 0 0) W := fun W => by kernel_rfl
  have hkey : ∀ (j : Nat) (s : ByteArray) (x : MapEntry), (D.map (·.1))[j]? = some s → ms.toList[j]? = some x → x.key = .string s := fun j s x h1 h2 => by
   rw [List.getElem?_map] at h1
   cases hj : D[j]? with
   | none => rw [hj] at h1; cases h1
   | some p =>
    rw [hj] at h1; simp at h1; subst h1
    have h3 := (hk j x h2).2.1
    rw [fmG, List.getElem?_map, hj] at h3
    simp at h3
    exact h3.1.symm
  refine ⟨fb, rfl, hlt, fun k => ?_⟩
  rcases find_keys k (D.map (·.1)) ms.toList (by simpa [fmG] using hl) hkey 0 with ⟨i1, i2⟩ | ⟨j, x, i1, i2, i3, i4⟩
  ·rw [(grp_none i2).1]
   refine ⟨none, 0, fun W hW => ?_, by simp⟩
   rw [hb] at hW
   simp [Instr.lookup, run_underlying Tryz.underlying69, MapKept.run_getObj_map hW, MapKept.run_checkKey Tryz.underlying9 (isKey_of (c := 0) rfl (key_ok k)), MapKept.run_findKey Tryz.underlying9 i1, hz, Result.andThen]
  ·rw [List.getElem?_map] at i3
   cases hj : D[j]? with
   | none => rw [hj] at i3; cases i3
   | some p =>
    rw [hj] at i3; simp at i3
    obtain ⟨k', l⟩ := p
    simp only at i3; subst i3
    have h3 := (hk j x i2).2.1
    have h0 := (hk j x i2).2.2
    rw [fmG, List.getElem?_map, hj] at h3
    simp at h3
    have h4 := hv j x i2
    rw [← h3.2] at h4
    rw [encV_ok (by omega) h0] at h4
    obtain ⟨A, c, hA, hc⟩ := sl_trf h4
    rw [(grp_some hj i4).1]
    refine ⟨A, c, fun W hW => ?_, hc⟩
    rw [hb] at hW
    rw [← hA]
    simp [Instr.lookup, run_underlying Tryz.underlying69, MapKept.run_getObj_map hW, MapKept.run_checkKey Tryz.underlying9 (isKey_of (c := 0) rfl (key_ok k')), MapKept.run_findKey Tryz.underlying9 i1, Result.andThen]
theorem sources_fc (l : List Trf) (b : ByteArray) (hl : l.length ≤ 1000000) : FC Tryz.prog 44 none [.one (.fm 0 (fmG (grpAll l))), sv b] (fun _ r => r = .one (.fm 0 (fmS (srcL l b)))) := by
 refine ⟨⟨_, Tryz.func44, by kernel_rfl, by kernel_rfl⟩, fun w okA g vs htab hext hlen hrel => ?_⟩
 match vs, hlen with
 | [v, u], _ =>
  have h0 := hrel 0 _ v rfl rfl
  have h1 := hrel 1 _ u rfl rfl
  have hu : u = .string b := by
   cases h1 with
   | one h => exact h.1
  subst hu
  cases h0 with
  | one h0 =>
   obtain ⟨fb, rfl, hlt, hf⟩ := fm_look h0
   have hgk : (fun k => gat k (grpAll l)) = fun k => l.filter (fun y => decide (y.to = k)) := funext fun k => gat_all k l
   refine Calls.mono (sources_any fb (fun k => gat k (grpAll l)) (l.map (·.frm)) b w hlt (by simpa using hl) (fun k => by
    rw [gat_all]; have := List.length_filter_le (fun y : Trf => decide (y.to = k)) l; omega) (fun k y hy => by
    rw [gat_all] at hy
    exact List.mem_map.2 ⟨y, (List.mem_filter.1 hy).1, rfl⟩) hf) ?_
   rintro e w' ⟨rfl, hS, hg⟩
   refine ⟨_, [], _, rfl, rfl, hg, .one ?_, by simp⟩
   rw [List.length_map, hgk] at hS
   obtain ⟨ms, clock, hb, hlm, _, hDm⟩ := hS
   refine DRel.fm (fun i => .g (.bool true)) (.inl (Nat.le_refl _)) (Array.getElem?_eq_some_iff.1 hb).1 hb (by simp [fmS, hlm, srcL]) (fun i e he => ?_) (fun i e he => ?_)
   ·have hi : i < (srcL l b).length := by unfold srcL; rw [hlm]; exact (List.getElem?_eq_some_iff.1 he).1
    have hp : (srcL l b)[i]? = some (srcL l b)[i] := List.getElem?_eq_getElem hi
    have h1 := hDm i _ e hp he
    exact ⟨by rw [h1.1]; rfl, by rw [h1.1, fmS, List.getElem?_map, hp]; rfl, by rw [h1.2]; rfl⟩
   ·have hi : i < (srcL l b).length := by unfold srcL; rw [hlm]; exact (List.getElem?_eq_some_iff.1 he).1
    have hp : (srcL l b)[i]? = some (srcL l b)[i] := List.getElem?_eq_getElem hi
    rw [(hDm i _ e hp he).2]
    exact .g rfl
end Go.Proofs.YtodmofhehabmgaaGreatDoor
