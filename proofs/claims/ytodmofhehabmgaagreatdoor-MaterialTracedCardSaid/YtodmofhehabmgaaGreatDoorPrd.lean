/-
 Products and Sources as functions that hand back fresh slices.
-/
import Derived.Test.YtodmofhehabmgaaGreatDoorPrw
import Derived.Test.YtodmofhehabmgaaGreatDoorShs
namespace Go.Proofs.YtodmofhehabmgaaGreatDoor
open Go Go.Ai Go.Proofs
set_option linter.unusedSimpArgs false
set_option linter.unusedVariables false
set_option maxHeartbeats 4000000
theorem drel_own {w : World} {ok : Nat → Prop} {base : Nat} {v : Value} {l : List ByteArray} (h : w.ownsRow base 9 1 v l.length (l.map .string)) (hok : ∀ b, base ≤ b → ok b) : DRel w ok (.sl true 1 (l.map strC)) v := by
 rcases h.2 with ⟨rfl, h0⟩ | ⟨g, cap, cur, rfl, hb, hcell, hnc, _⟩
 ·have : l = [] := List.eq_nil_of_length_eq_zero h0
  subst this; exact .nil
 ·refine DRel.sl (fun i j => .string (l.getD i default)) (by simp) hnc (hok g hb) (Array.getElem?_eq_some_iff.1 hcell).1 (fun e he => by obtain ⟨x, _, rfl⟩ := List.mem_map.1 he; rfl) (fun i e j x he hx => ?_) (fun i e j x he hx => ?_)
  ·rw [List.getElem?_map] at he
   cases hi : l[i]? with
   | none => rw [hi] at he; cases he
   | some s =>
    rw [hi] at he; simp at he; subst he
    match j with
    | 0 =>
     have := h.cells (g := g) rfl i (.string s) (by rw [List.getElem?_map, hi]; rfl)
     rw [add_none] at this
     rw [List.getD_eq_getElem?_getD, hi, Option.getD_some, Nat.mul_one, Nat.add_zero]; exact this
    | j + 1 => simp [strC] at hx
  ·rw [List.getElem?_map] at he
   cases hi : l[i]? with
   | none => rw [hi] at he; cases he
   | some s =>
    rw [hi] at he; simp at he; subst he
    match j with
    | 0 =>
     simp [strC] at hx; subst hx
     rw [List.getD_eq_getElem?_getD, hi, Option.getD_some]
     exact .g rfl
    | j + 1 => simp [strC] at hx
def C_prodsP : AC := (.seq (.reg false [gI 4 (.mv (.v (.slice none 0 0))),gI 5 (.mv (oI 0))] (kP [0,1] [] []))
 (.seq (.seq (.reg false [gM 7 0,gM 8 1,gI 9 (.call (.f 45) [(.t 7),(.t 8)]),gM 6 9] (kP [0,1,6] [] []))
 (.seq (.reg false [gM 10 6,gI 11 (.bin .neq (.t 10) (oI 0))] (kP [0,1,6,11] [] []))
 (.cond (.t 11)
 (.seq (.seq (.reg false [gM 12 6,gI 4 (.mv (.v (.slice none 0 0))),gM 5 12] (kP [4,5] [] []))
 (.ty 4 1))
 .ret)
 .skip)))
 (.seq (.reg false [gM 13 0,gM 14 1,gI 15 (.call (.f 47) [(.t 13),(.t 14)]),gM 4 15,gI 5 (.mv (oI 0))] (kP [4,5] [] []))
 .ret)))
theorem fc_prodsP : FcT Tryz.prog 12 Tryz.f12 C_prodsP [.t 4, .t 5] := fc_mk [aN [0,1] [] [],aN [0,1,6] [] [],aN [0,1,6,11] [] [],⟨(kP [4,5] [] []),[],[],[(4,1)],[]⟩,aN [4,5] [] []] Tryz.func12 (by kernel_rfl)
theorem products0_fc (l : List Trf) (b : ByteArray) (hl : l.length ≤ 1000000) (hs : (prdL l b).length ≤ 1000000) :
  FC Tryz.prog 47 none [trs false l, sv b] (fun _ r => r = strs true (srtS (prdL l b))) := by
 refine ⟨⟨_, Tryz.func47, by kernel_rfl, by kernel_rfl⟩, fun w okA g vs htab hext hlen hrel => ?_⟩
 match vs, hlen with
 | [v, u], _ =>
  have hv0 := hrel 0 _ v rfl rfl
  have hu0 := hrel 1 _ u rfl rfl
  have hv : DRel w okA (.sl false 3 (l.map trC)) v := by
   cases hv0 with
   | one h => exact h
  have hu : u = .string b := by
   cases hu0 with
   | one h => exact h.1
  subst hu
  obtain ⟨A, c, rfl, hc⟩ := sl_trf hv
  refine Calls.mono (products_any A c l b htab (World.grownBy.refl w none) hl hs hc) ?_
  rintro e w4 ⟨v4, rfl, hg4, ho4⟩
  rw [← srtS_len] at ho4
  refine ⟨v4, [], _, rfl, rfl, hg4, .one (drel_own ho4 fun b hb => ⟨hb, .inl hb⟩), ?_⟩
  exact fun h => by cases h
theorem products_fc (l : List Trf) (b : ByteArray) (hl : l.length ≤ 1000000) (hk : ∀ x ∈ l, x.frm.size ≤ 1000000 ∧ x.to.size ≤ 1000000) (hbs : b.size ≤ 1000000) (h0 : ctF l = 0) (h1 : keyOk b = true) (hs : (prdL l b).length ≤ 1000000) :
  FC Tryz.prog 12 none [trs false l, sv b] (fun _ r => r = .tu [strs true (srtS (prdL l b)), iv 0]) := by
 refine fc_prodsP (by simp +arith) ?_
 unfold C_prodsP
 simp (maxSteps := 1000000) (disch := omega) only [go_sem]
 refine CALL_det (tfault_fc l b hl hk hbs h0 h1) (.inl rfl) ?_
 simp (maxSteps := 1000000) (disch := omega) only [go_sem]
 refine CALL_det (products0_fc l b hl hs) (.inl rfl) ?_
 simp (maxSteps := 1000000) (disch := omega) only [go_sem]
end Go.Proofs.YtodmofhehabmgaaGreatDoor
