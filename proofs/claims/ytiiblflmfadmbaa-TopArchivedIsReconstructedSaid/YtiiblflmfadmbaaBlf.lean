
/-
 A walker's query as a contract.
-/
import Derived.Test.YtiiblflmfadmbaaBlq
import Derived.Test.YtiiblflmfadmbaaBls
import Derived.Test.YtiiblflmfadmbaaBlw
namespace Go.Proofs.Ytiiblflmfadmbaa
open Go Go.Ai
set_option linter.unusedSimpArgs false
set_option linter.unusedVariables false
set_option maxHeartbeats 4000000
theorem drel_g {w : World} {ok : Nat → Prop} {v u : Value} (h : DRel w ok (.g v) u) : u = v := by cases h; rfl
theorem drel_sl {w : World} {ok : Nat → Prop} {fr : Bool} {z : Nat} {es : List (List Cel)} {u : Value} (h : DRel w ok (.sl fr z es) u) (hne : es ≠ []) :
  ∃ (b off c : Nat) (us : Nat → Nat → Value), u = .slice (some ⟨b, off, none⟩) es.length c ∧ ok b ∧ b < w.heap.size ∧ (∀ i e j x, es[i]? = some e → e[j]? = some x → w.cell? ⟨b, off + i * z + j, none⟩ = some (us i j)) ∧ ∀ i e j x, es[i]? = some e → e[j]? = some x → DRel w ok x (us i j) := by
 cases h with
 | nil => exact absurd rfl hne
 | sl us hn hc hb hlt hz hcl hd => subst hn; exact ⟨_, _, _, us, rfl, hb, hlt, hcl, hd⟩
theorem flatS3 : ∀ (ys : List Smp) (i : Nat) (t : Smp) (j : Nat) (u : Value), ys[i]? = some t → (smV t)[j]? = some u → ((ys.map smV).flatten)[i * 3 + j]? = some u
 | [], i, t, j, u, h, _ => by simp at h
 | y :: ys, 0, t, j, u, h, hu => by
  simp at h; subst h
  have hj : j < 3 := (List.getElem?_eq_some_iff.1 hu).1
  rw [List.map_cons, List.flatten_cons, List.getElem?_append_left (by show _ < 3; omega), Nat.zero_mul, Nat.zero_add]
  exact hu
 | y :: ys, i + 1, t, j, u, h, hu => by
  rw [List.map_cons, List.flatten_cons, List.getElem?_append_right (by show 3 ≤ _; omega)]
  rw [show (i + 1) * 3 + j - (smV y).length = i * 3 + j by show _ - 3 = _; omega]
  exact flatS3 ys i t j u (by simpa using h) hu
theorem smC_V {x : Smp} {j : Nat} {c : Cel} (h : (smpC x)[j]? = some c) : ∃ u, c = .g u ∧ (smV x)[j]? = some u ∧ u.oneCell' = true := by
 match j with
 | 0 => simp [smpC] at h; subst h; exact ⟨_, rfl, rfl, rfl⟩
 | 1 => simp [smpC] at h; subst h; exact ⟨_, rfl, rfl, rfl⟩
 | 2 => simp [smpC] at h; subst h; exact ⟨_, rfl, rfl, rfl⟩
 | j + 3 => simp [smpC] at h
/-- A row of samples, read as data. -/
theorem drel_smps {w : World} {ok : Nat → Prop} {B : Nat} {v : Value} {l : List Smp} (hl : 1 ≤ l.length) (hO : w.ownsRow B smT 3 v l.length (l.map smV).flatten) (hok : ∀ b, B ≤ b → ok b) : DRel w ok (.sl true 3 (l.map smpC)) v := by
 rcases hO.2 with ⟨_, hn⟩ | ⟨g, cap, cur, rfl, hB, hcell, hnc, hcm, hcs, htake⟩
 ·omega
 ·have hat : ∀ i x j u, l[i]? = some x → (smV x)[j]? = some u → w.cell? ⟨g, 0 + i * 3 + j, none⟩ = some u := fun i x j u h1 h2 => by
   have h3 := flatS3 l i x j u h1 h2
   have h4 := hO.cells (g := g) rfl (i * 3 + j) u h3
   rw [add_none, ← Nat.add_assoc] at h4
   exact h4
  refine .sl (fun i j => ((smV (l.getD i default)).getD j default)) (by simp) (by simpa using hnc) (hok _ hB) (Array.getElem?_eq_some_iff.1 hcell).1 (fun e he => ?_) (fun i e j x he hx => ?_) (fun i e j x he hx => ?_)
  ·obtain ⟨y, _, rfl⟩ := List.mem_map.1 he; rfl
  ·rw [List.getElem?_map] at he
   cases hli : l[i]? with
   | none => rw [hli] at he; cases he
   | some y =>
    rw [hli] at he; simp at he; subst he
    obtain ⟨u, rfl, hu, _⟩ := smC_V hx
    rw [hat i y j u hli hu]
    simp [List.getD_eq_getElem?_getD, hli, hu]
  ·rw [List.getElem?_map] at he
   cases hli : l[i]? with
   | none => rw [hli] at he; cases he
   | some y =>
    rw [hli] at he; simp at he; subst he
    obtain ⟨u, rfl, hu, h1⟩ := smC_V hx
    simp only [List.getD_eq_getElem?_getD, hli, hu, Option.getD_some]
    exact .g h1
def wkQ (BB : List (List Cel)) (at_ : Int) (l : List Smp) (mm : List (List Cel)) : List Cel := [.sl false 1 BB, .g (.int .i64 at_), .sl false 8 [ptE l], .fm 0 mm]
theorem query_fc (l : List Smp) (h1 : 1 ≤ l.length) (hl : l.length ≤ 1000) (hok : ∀ x ∈ l, 0 ≤ x.a ∧ x.a < 345686400000) (hnd : l.Pairwise fun x y => x.a < y.a) (BB : List (List Cel)) (at_ : Int) (mm : List (List Cel)) :
  FC Try.prog 28 (some (wkQ BB at_ l mm)) [.one (.g (.string tgB)), winV 0 345686400000] (fun cs r => cs = wkQ BB at_ l mm ∧ r = smps true l) := by
 refine ⟨⟨Try.f28, Try.func28, by kernel_rfl, by kernel_rfl⟩, fun w okA g vs htab hext hlen hargs => ?_⟩
 obtain ⟨hng, cur, ty, hcell, hrel⟩ := hext _ rfl
 have hglt : g < w.heap.size := (Array.getElem?_eq_some_iff.1 hcell).1
 obtain ⟨v1, v2, rfl⟩ : ∃ a b, vs = [a, b] := by
  match vs, hlen with
  | [a, b], _ => exact ⟨a, b, rfl⟩
 have e1 : v1 = .string tgB := by
  have h := hargs 0 _ v1 rfl rfl
  cases h with
  | one h => exact h.1
 have e2 : v2 = .agg #[.int .i64 0, .int .i64 345686400000] := by
  have h := hargs 1 _ v2 rfl rfl
  cases h with
  | @ag _ us h =>
   obtain ⟨h3, h4⟩ := h
   match us, h3 with
   | [a, b], _ =>
    have ha : a = _ := (h4 0 _ a rfl rfl).1
    have hb : b = _ := (h4 1 _ b rfl rfl).1
    rw [ha, hb]
 subst e1; subst e2
 have hps : ∃ u, cur[2]? = some u ∧ DRel w okA (.sl false 8 [ptE l]) u := by
  have h3 := hrel.1
  have hlt : 2 < cur.size := by simp [wkQ] at h3; omega
  have h4 := hrel.2 2 (.sl false 8 [ptE l]) cur[2] rfl (by simp [hlt])
  exact ⟨_, Array.getElem?_eq_getElem hlt, h4⟩
 obtain ⟨u, hu2, hD⟩ := hps
 obtain ⟨bp, op, cp, us, rfl, hbk, hblt, hcl, hd⟩ := drel_sl hD (by simp)
 obtain ⟨bs, os, cs, us2, hu7, _, hslt, hcl2, hd2⟩ := drel_sl (hd 0 (ptE l) 7 (.sl true 3 (l.map smpC)) rfl rfl) (by intro e; rw [List.map_eq_nil_iff] at e; rw [e] at h1; simp at h1)
 rw [List.length_map] at hu7
 have c0 := drel_g (hd 0 (ptE l) 0 _ rfl rfl)
 have c1 := drel_g (hd 0 (ptE l) 1 _ rfl rfl)
 have c2 := drel_g (hd 0 (ptE l) 2 _ rfl rfl)
 have c3 := drel_g (hd 0 (ptE l) 3 _ rfl rfl)
 have c4 := drel_g (hd 0 (ptE l) 4 _ rfl rfl)
 have c5 := drel_g (hd 0 (ptE l) 5 _ rfl rfl)
 have c6 := drel_g (hd 0 (ptE l) 6 _ rfl rfl)
 have hQ : QIn w g bp op cp bs os cs 0 (encS tgL false l).length (l.getD 0 default).a (l.getD (l.length - 1) default).a l.length false l := by
  refine ⟨hglt, ?_, hblt, fun j u hu => ?_, hslt, fun i x hx j u hu => ?_⟩
  ·rw [cell_of_row w g 2 cur ty (0, 0) hcell]; exact hu2
  ·have hz : ∀ (j : Nat) (x : Cel), (ptE l)[j]? = some x → w.cell? ⟨bp, op + j, none⟩ = some (us 0 j) := fun j x hx => by
    have := hcl 0 (ptE l) j x rfl hx
    rwa [Nat.zero_mul, Nat.add_zero] at this
   match j with
   | 0 => simp at hu; subst hu; rw [← c0]; exact hz 0 _ rfl
   | 1 => simp at hu; subst hu; rw [← c1]; exact hz 1 _ rfl
   | 2 => simp at hu; subst hu; rw [show Value.string tqB = Value.string tgB from rfl, ← c2]; exact hz 2 _ rfl
   | 3 => simp at hu; subst hu; rw [← List.getD_eq_getElem?_getD, ← c3]; exact hz 3 _ rfl
   | 4 => simp at hu; subst hu; rw [← List.getD_eq_getElem?_getD, ← c4]; exact hz 4 _ rfl
   | 5 => simp at hu; subst hu; rw [← c5]; exact hz 5 _ rfl
   | 6 => simp at hu; subst hu; rw [← c6]; exact hz 6 _ rfl
   | 7 => simp at hu; subst hu; rw [← hu7]; exact hz 7 _ rfl
   | j + 8 => simp at hu
  ·have hxl : (l.map smpC)[i]? = some (smpC x) := by rw [List.getElem?_map, hx]; rfl
   match j with
   | 0 => simp [smV] at hu; subst hu; rw [← drel_g (hd2 i _ 0 _ hxl rfl)]; exact hcl2 i _ 0 _ hxl rfl
   | 1 => simp [smV] at hu; subst hu; rw [← drel_g (hd2 i _ 1 _ hxl rfl)]; exact hcl2 i _ 1 _ hxl rfl
   | 2 => simp [smV] at hu; subst hu; rw [← drel_g (hd2 i _ 2 _ hxl rfl)]; exact hcl2 i _ 2 _ hxl rfl
   | j + 3 => simp [smV] at hu
 refine Calls.mono (query_any hQ h1 hl hok hnd (fun W v ss {B} => sort_smp l h1 hl hok hnd W v ss)) ?_
 rintro e w' ⟨v, rfl, hg, hO⟩
 refine ⟨v, wkQ BB at_ l mm, smps true l, rfl, ⟨rfl, rfl⟩, ⟨hg.os, hg.tape, hg.output, hg.size, fun k hk _ => hg.block k hk (by simp)⟩, .one (drel_smps h1 hO fun b hb => ⟨hb, .inl hb⟩), fun _ => ⟨cur, ty, (hg.block g hglt (by simp)).trans hcell, hrel.move (Keeps.of_grown hg) (fun b _ hb => ⟨.inr hb, fun e => hng (e ▸ hb)⟩) (Nat.le_refl _) (EnvLe.refl _)⟩⟩
end Go.Proofs.Ytiiblflmfadmbaa
