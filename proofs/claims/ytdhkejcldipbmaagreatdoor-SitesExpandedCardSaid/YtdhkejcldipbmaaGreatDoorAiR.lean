/-
 The abstract layer: a law over a slice of integers, out of its contract.
-/
import Derived.Test.YtdhkejcldipbmaaGreatDoorBas
import Derived.ProofKit
import Derived.OpenShut
import Derived.ChangeSlices
import Derived.WideShapes
namespace Go.Ai
open Go Go.ChangeShapes Go.WideShapes Go.ChangeAt Go.RowKit
set_option linter.unusedSimpArgs false
set_option linter.unusedVariables false
section
variable {P : Program} {H : Type} {enc : TypeId × Value → H} {W : World}
theorem ints_rel {t e : TypeId} (ht : P.underlying t = some (.slice e)) (he : P.underlying e = some (.int .i64)) (hc : P.cellsOf e = 1) {v : Value} {len cap : Nat} {a0 : Option Addr} (hv : v = .slice a0 len cap) {d0 : DataW H} {p : List MemPlace}
  (h0 : DataW.Trod enc P W 0 (fun _ => true) true t v d0 p) : ∃ L : List Int, (∀ x ∈ L, I64 x) ∧ L.length ≤ 9223372036854775807 ∧ VRel W (fun _ => True) W.heap.size Env.none (ints false L) v := by
 subst hv
 obtain ⟨fuel, hf⟩ := h0
 rcases open_ints ht he hc hf with ⟨hcs, hx⟩ | ⟨a, len', cap', zs, hcs, _, hl, hm, hz, hx, hcell, hwz⟩
 ·simp [Value.cells] at hcs
  obtain ⟨rfl, rfl, rfl⟩ := hcs
  exact ⟨[], by simp, by simp, .one .nil⟩
 ·simp [Value.cells] at hcs
  obtain ⟨rfl, rfl, rfl⟩ := hcs
  simp only [if_true] at hz
  have hm' : cap ≤ 9223372036854775807 := by simpa [maxLen] using Nat.le_trans hm (by decide)
  refine ⟨zs.take len, fun x hx => ?_, by simp; omega, ?_⟩
  ·have := hwz x (List.mem_of_mem_take hx)
   simpa [Lit.wf, IntKind.min, IntKind.max, IntKind.signed, IntKind.bits, I64] using this
  ·by_cases hn : len = 0
   ·subst hn
    exact .one .nil
   ·have h00 := hcell 0 (by omega)
    have hs : a.spot = none := by
     have := World.cell?_spot h00
     simpa [Addr.add] using this
    obtain ⟨b, off, spot⟩ := a
    simp only at hs
    subst hs
    have hb : b < W.heap.size := by
     have h1 : W.cell? ⟨b, off, none⟩ ≠ none := by
      have : (Addr.mk b off none).add 0 = ⟨b, off, none⟩ := by simp [Addr.add]
      rw [this] at h00; rw [h00]; simp
     rcases Nat.lt_or_ge b W.heap.size with h2 | h2
     ·exact h2
     ·exfalso; apply h1; simp [World.cell?, Array.getElem?_eq_none h2]
    refine .one (.sl (fun i j => .int .i64 (zs.getD i 0)) (by simp; omega) hl trivial hb (fun e he => ?_) (fun i e j x hi hj => ?_) (fun i e j x hi hj => ?_))
    ·simp only [List.mem_map] at he; obtain ⟨n, _, rfl⟩ := he; rfl
    ·rw [List.getElem?_map] at hi
     cases hz' : (zs.take len)[i]? with
     | none => rw [hz'] at hi; cases hi
     | some n =>
      rw [hz'] at hi; simp only [Option.map_some, Option.some.injEq] at hi; subst hi
      have hlt : i < zs.length := by have := (List.getElem?_eq_some_iff.1 hz').1; simp at this; omega
      have hj0 : j = 0 := by
       cases j with
       | zero => rfl
       | succ j => simp [intC] at hj
      subst hj0
      have h1 := hcell i hlt
      have h2 : (Addr.mk b off none).add i = ⟨b, off + i * 1 + 0, none⟩ := by
       unfold Addr.add; split <;> simp_all
      rw [h2] at h1; exact h1
    ·rw [List.getElem?_map] at hi
     cases hz' : (zs.take len)[i]? with
     | none => rw [hz'] at hi; cases hi
     | some n =>
      rw [hz'] at hi; simp only [Option.map_some, Option.some.injEq] at hi; subst hi
      have hj0 : j = 0 := by
       cases j with
       | zero => rfl
       | succ j => simp [intC] at hj
      subst hj0
      simp only [intC, List.getElem?_cons_zero, Option.some.injEq] at hj; subst hj
      have h3 : zs.getD i 0 = n := by
       rw [List.getElem?_take] at hz'
       split at hz'
       ·simp [List.getD_eq_getElem?_getD, hz']
       ·cases hz'
      rw [h3]
      exact .g rfl
/-- A law's contract: of every slice of integers, true; the slice reads as it did. -/
theorem law_contract {f : FuncId} {fn : Func} {s : ChangeSpec} {t e tb : TypeId} (hfc : ∀ L : List Int, (∀ x ∈ L, I64 x) → L.length ≤ 9223372036854775807 → FC P f none [ints false L] (fun _ r => r = bv true))
  (hs : ∀ (H : Type) (d : DataW H), s.fn H [d] = { results := [.lit (.bool true)], args := [d] }) (hsv : s.vars = []) (hp : fn.params = #[t]) (hr : fn.resultTypes = #[tb]) (hlaid : laidOutB P = true) (hrec : P.readableRec t = true) (hlt : t < P.types.size)
  (ht : P.underlying t = some (.slice e)) (he : P.underlying e = some (.int .i64)) (hc : P.cellsOf e = 1) (hb : P.underlying tb = some .bool)
  (W : World) (hlw : LaidW P W) (base : Nat) (args : Array Value) (ds gs : List (DataW H)) (before : List MemPlace) (hval : ∀ (j : Nat) t v, fn.params[j]? = some t → args[j]? = some v → Value.okWide P W .any base t v)
  (hW : DataW.Whole enc P fn.params.toList s.vars false W args.toList ds gs before) : Calls P f args W fun e W' => ∃ v, e = .returned v ∧ s.post enc P fn false true false false W args v W' := by
 have hW' := hW
 obtain ⟨p, q, hA0, hV, rfl, _, _⟩ := hW
 have hA : DataW.TrodAll enc P W 0 (fun _ => true) true fn.params.toList args.toList ds p := hA0
 rw [hp] at hA
 obtain ⟨v0, vs0, d0, ds0, p0, q0, hargs, rfl, rfl, h0, r0⟩ := trodAll_cons hA
 obtain ⟨rfl, rfl, rfl⟩ := trodAll_nil r0
 obtain rfl : args = #[v0] := by cases args; simp_all
 rw [hsv] at hV
 obtain ⟨rfl, rfl⟩ := trodVars_none hV
 obtain ⟨a0, len0, cap0, hv0⟩ := okWide_slice ht (hval 0 t v0 (by rw [hp]; rfl) rfl)
 simp only [List.append_nil] at hW'
 have hlt' : ∀ x ∈ p0, x.block < W.heap.size := fun x hx => by simpa using hW'.lt x (by simpa using hx)
 have harg0 : DataW.Trod enc P W 0 (fun b => decide (b < W.heap.size)) true t v0 d0 p0 := Below.trod hlaid hrec hlt h0 (Below.refl _ _) hlt'
 obtain ⟨L, hL, hlen, hrel⟩ := ints_rel ht he hc hv0 h0
 have hcall := (hfc L hL hlen).2 W (fun _ => True) 0 [v0] ⟨W, hlw, Nat.le_refl _, fun _ _ => ⟨trivial, rfl⟩⟩ (fun cs h => by cases h) rfl (fun i x u h1 h2 => by
  match i with
  | 0 => simp only [List.getElem?_cons_zero, Option.some.injEq] at h1 h2; subst h1; subst h2; exact hrel
  | i + 1 => simp at h1)
 refine Calls.mono hcall fun e W' ⟨v, cs', r, he, hr', hg, hv, _⟩ => ?_
 subst he; subst hr'
 have e1 := one_g hv rfl
 subst e1
 have hbel : Below W.heap.size W W' := ⟨hg.os, hg.tape, hg.output, hg.size, fun k hk => hg.block k hk (by simp)⟩
 have harg1 : DataW.Trod enc P W' 0 (fun b => decide (b < W.heap.size)) true t v0 d0 p0 := Below.trod hlaid hrec hlt h0 hbel hlt'
 refine ⟨_, rfl, [d0], [], _, [], p0, [], hW', ?_, ?_, ?_, hbel.frame _, fun h => by cases h⟩
 ·rw [List.append_nil, hs, hr]
  exact trodAll_mk1 (shut_bool hb _)
 ·rw [List.append_nil, hs, hp]
  exact trodAll_mk1 harg1
 ·rw [List.append_nil, hs, hsv]; rfl
end
end Go.Ai
