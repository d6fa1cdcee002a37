
/-
 blocks of at most one block, as contracts.
-/
import Derived.Test.YtiiblflmfadmbaaBlj
import Derived.Test.YtiiblflmfadmbaaBlf
namespace Go.Proofs.Ytiiblflmfadmbaa
open Go Go.Proofs Go.RowKit Go.Ai
set_option linter.unusedSimpArgs false
set_option linter.unusedVariables false
set_option maxHeartbeats 4000000
/-- A row of bytes, read as data. -/
theorem drel_bys {w : World} {ok : Nat → Prop} {B : Nat} {v : Value} {l : List Int} (hl : 1 ≤ l.length) (hO : w.ownsRow B byT 1 v l.length (l.map byV)) (hok : ∀ b, B ≤ b → ok b) : DRel w ok (.sl true 1 (l.map u8C)) v := by
 rcases hO.2 with ⟨_, hn⟩ | ⟨g, cap, cur, rfl, hB, hcell, hnc, hcm, hcs, htake⟩
 ·omega
 ·have hat : ∀ i x, l[i]? = some x → w.cell? ⟨g, 0 + i * 1 + 0, none⟩ = some (byV x) := fun i x h1 => by
   have h4 := hO.cells (g := g) rfl i (byV x) (by rw [List.getElem?_map, h1]; rfl)
   rw [add_none] at h4
   rw [Nat.mul_one, Nat.add_zero]
   exact h4
  refine .sl (fun i j => byV (l.getD i default)) (by simp) (by simpa using hnc) (hok _ hB) (Array.getElem?_eq_some_iff.1 hcell).1 (fun e he => ?_) (fun i e j x he hx => ?_) (fun i e j x he hx => ?_)
  ·obtain ⟨y, _, rfl⟩ := List.mem_map.1 he; rfl
  ·rw [List.getElem?_map] at he
   cases hli : l[i]? with
   | none => rw [hli] at he; cases he
   | some y =>
    rw [hli] at he; simp at he; subst he
    match j with
    | 0 => rw [hat i y hli]; simp [List.getD_eq_getElem?_getD, hli]
    | j + 1 => simp [u8C] at hx
  ·rw [List.getElem?_map] at he
   cases hli : l[i]? with
   | none => rw [hli] at he; cases he
   | some y =>
    rw [hli] at he; simp at he; subst he
    match j with
    | 0 => simp [u8C] at hx; subst hx; simp only [List.getD_eq_getElem?_getD, hli, Option.getD_some]; exact .g rfl
    | j + 1 => simp [u8C] at hx
theorem drel_sl2 {w : World} {ok : Nat → Prop} {fr : Bool} {z : Nat} {es : List (List Cel)} {u : Value} (h : DRel w ok (.sl fr z es) u) (hne : es ≠ []) :
  ∃ (b off c : Nat), u = .slice (some ⟨b, off, none⟩) es.length c ∧ es.length ≤ c ∧ ∀ W : World, Keeps ok w W → DRel W ok (.sl fr z es) (.slice (some ⟨b, off, none⟩) es.length es.length) := by
 cases h with
 | nil => exact absurd rfl hne
 | sl us hn hc hb hlt hz hcl hd =>
  subst hn
  exact ⟨_, _, _, rfl, hc, fun W hW => DRel.sl us rfl (Nat.le_refl _) hb (Nat.lt_of_lt_of_le hlt hW.1) hz (fun i e j x he hx => (hW.cell hlt hb).trans (hcl i e j x he hx)) (fun i e j x he hx => (hd i e j x he hx).keep hW (fun _ _ h => h))⟩
theorem three_args {vs : List Value} (h : 3 = vs.length) : ∃ a b c, vs = [a, b, c] := by
 match vs, h with
 | [a, b, c], _ => exact ⟨a, b, c, rfl⟩
theorem bys_at {w : World} {ok : Nat → Prop} {v : Value} {l : List Int} (hl : 1 ≤ l.length) (h : DRel w ok (.sl true 1 (l.map u8C)) v) : BytesAt w v l := by
 obtain ⟨b, off, c, us, rfl, _, _, hc, hd⟩ := drel_sl h (by intro e; rw [List.map_eq_nil_iff] at e; rw [e] at hl; simp at hl)
 refine ⟨b, off, c, by rw [List.length_map], fun j x hx => ?_⟩
 have he : (l.map u8C)[j]? = some (u8C x) := by rw [List.getElem?_map, hx]; rfl
 have h1 := hc j _ 0 _ he rfl
 rw [Nat.mul_one, Nat.add_zero] at h1
 rw [h1, drel_g (hd j _ 0 _ he rfl)]
 rfl
theorem blocks_fc (l : List Smp) (hk : ∀ x ∈ l, okSmp x) (h1 : 1 ≤ l.length) (hl : l.length ≤ 100) :
  FC Try.prog 26 none [.one (.g (.string tgB)), smps false l, bv false] (fun _ r => r = bysV true (encS tgL false l)) := by
 refine ⟨⟨Try.f26, Try.func26, by kernel_rfl, by kernel_rfl⟩, fun w okA g vs htab hext hlen hargs => ?_⟩
 obtain ⟨v1, v2, v3, rfl⟩ := three_args hlen
 have e1 : v1 = .string tgB := by
  have h := hargs 0 _ v1 rfl rfl
  cases h with
  | one h => exact h.1
 have e3 : v3 = .bool false := by
  have h := hargs 2 _ v3 rfl rfl
  cases h with
  | one h => exact h.1
 have h2 : DRel w okA (.sl false 3 (l.map smpC)) v2 := by
  have h := hargs 1 _ v2 rfl rfl
  cases h with
  | one h => exact h
 subst e1; subst e3
 have hne : l.map smpC ≠ [] := by intro e; rw [List.map_eq_nil_iff] at e; rw [e] at h1; simp at h1
 have hbl := bodyS_len tgL false l
 rw [show tgL.length = 3 from rfl] at hbl
 have hel : (encS tgL false l).length = (bodyS tgL false l).length + 2 := by unfold encS; simp
 obtain ⟨b, off, c, rfl, hcap, hD⟩ := drel_sl2 h2 hne
 rw [List.length_map] at hcap hD ⊢
 refine Calls.mono (blocks_any w b off l.length c tgB false (encS tgL false l) h1 hl hcap (by omega) fun W hW => ?_) ?_
 ·have hk2 : Keeps okA w W := ⟨hW.size, fun k hk _ => hW.block k hk⟩
  have htab2 : TabB Try.prog W okA := by
   obtain ⟨W0, t1, t2, t3⟩ := htab
   exact ⟨W0, t1, Nat.le_trans t2 hW.size, fun k hk => ⟨(t3 k hk).1, (hW.block k (by omega)).trans (t3 k hk).2⟩⟩
  refine Calls.mono ((encode_fc l hk (by omega)).2 W okA 0 [.string tgB, .slice (some ⟨b, off, none⟩) l.length l.length, .bool false] htab2 (fun cs h => by cases h) rfl ?_) ?_
  ·intro i x u hx hu
   match i with
   | 0 => simp at hx hu; subst hx; subst hu; exact .one ⟨rfl, rfl⟩
   | 1 => simp at hx hu; subst hx; subst hu; exact .one (hD W hk2)
   | 2 => simp at hx hu; subst hx; subst hu; exact .one ⟨rfl, rfl⟩
   | i + 3 => simp at hx
  ·rintro e w' ⟨v, cs', r, rfl, rfl, hg, hv, _⟩
   refine ⟨v, rfl, hg, ?_⟩
   cases hv with
   | one h => exact bys_at (by omega) h
 ·rintro e w' ⟨v, rfl, hO, hB⟩
  have hg : w.grownBy w' none := ⟨hB.os, hB.tape, hB.output, hB.size, fun k hk _ => hB.block k hk⟩
  exact ⟨v, [], _, rfl, rfl, hg, .one (drel_bys (by omega) hO fun b hb => ⟨hb, .inl hb⟩), fun h => by cases h⟩
theorem blocks0_fc (fr b : Bool) : FC Try.prog 26 none [.one (.g (.string tgB)), .one (.sl fr 3 []), bv b] (fun _ r => r = .one (.sl true 1 [])) := by
 refine ⟨⟨Try.f26, Try.func26, by kernel_rfl, by kernel_rfl⟩, fun w okA g vs htab hext hlen hargs => ?_⟩
 obtain ⟨v1, v2, v3, rfl⟩ := three_args hlen
 have e1 : v1 = .string tgB := by
  have h := hargs 0 _ v1 rfl rfl
  cases h with
  | one h => exact h.1
 have e3 : v3 = .bool b := by
  have h := hargs 2 _ v3 rfl rfl
  cases h with
  | one h => exact h.1
 obtain ⟨A, c, rfl⟩ : ∃ A c, v2 = .slice A 0 c := by
  have h := hargs 1 _ v2 rfl rfl
  cases h with
  | one h => 
   cases h with
   | nil => exact ⟨_, _, rfl⟩
   | sl us hn => subst hn; exact ⟨_, _, rfl⟩
 subst e1; subst e3
 refine Calls.mono (blocks_nil w A c tgB b) ?_
 rintro e w' ⟨rfl, hB⟩
 exact ⟨_, [], _, rfl, rfl, ⟨hB.os, hB.tape, hB.output, hB.size, fun k hk _ => hB.block k hk⟩, .one .nil, fun h => by cases h⟩
end Go.Proofs.Ytiiblflmfadmbaa
