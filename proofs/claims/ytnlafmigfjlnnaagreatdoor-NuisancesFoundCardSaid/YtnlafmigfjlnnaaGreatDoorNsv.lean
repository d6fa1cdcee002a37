/- NuisancesFound returns true for every slice of integers, and leaves the slice as it was; the tables that its row lists hold what the program's text lays. No condition. -/
import Derived.ProofKit
import Derived.OpenShut
import Derived.ChangeSlices
import Derived.WideShapes
import Derived.LaidLaws
import Derived.MakeChecks
import Derived.Lib.LaidTab
import Derived.LaidMore
import Derived.Lay
import Derived.Stop.Joined
import Derived.Test.YtnlafmigfjlnnaaGreatDoorRows
import Derived.Test.YtnlafmigfjlnnaaGreatDoorNsh
import Derived.Test.YtnlafmigfjlnnaaGreatDoorCards
import Derived.Test.YtnlafmigfjlnnaaGreatDoorTie
set_option linter.all false
set_option maxHeartbeats 0
set_option maxRecDepth 100000
namespace Go.Ai
open Go Go.ChangeShapes Go.WideShapes Go.ChangeAt Go.RowKit
section
variable {P : Program} {H : Type} {enc : TypeId × Value -> H} {W : World}
theorem b9Y {t e : TypeId} (ht : P.underlying t = some (.slice e)) (he : P.underlying e = some (.int .i64)) (hc : P.cellsOf e = 1) {v : Value} {len cap : Nat} {a0 : Option Addr} (hv : v = .slice a0 len cap) {d0 : DataW H} {p : List MemPlace}
  (h0 : DataW.Trod enc P W 0 (fun _ => true) true t v d0 p) : ∃ L : List Int, (∀ x ∈ L, I64 x) ∧ L.length <= 9223372036854775807 ∧ VRel W (fun _ => True) W.heap.size Env.none (W0 false L) v := by
 subst hv
 obtain ⟨fuel, hf⟩ := h0
 rcases open_ints ht he hc hf with ⟨hcs, hx⟩ | ⟨a, len', cap', zs, hcs, _, hl, hm, hz, hx, hcell, hwz⟩
 ·simp [Value.cells] at hcs
  obtain ⟨rfl, rfl, rfl⟩ := hcs
  exact ⟨[], by simp, by simp, .one .nil⟩
 ·simp [Value.cells] at hcs
  obtain ⟨rfl, rfl, rfl⟩ := hcs
  simp only [if_true] at hz
  have hm' : cap <= 9223372036854775807 := by simpa [maxLen] using Nat.le_trans hm (by decide)
  refine ⟨zs.take len, fun x hx => ?_, by simp; omega, ?_⟩
  ·have := hwz x (List.mem_of_mem_take hx)
   simpa [Lit.wf, IntKind.min, IntKind.max, IntKind.signed, IntKind.bits, I64] using this
  ·by_cases hn : len = 0
   ·subst hn
    exact .one .nil
   ·have h00 := hcell 0 (by omega)
    have hs : a.spot = none := by
     have := World.cell?_spot h00
     simpa [Addr.add] using this
    obtain ⟨b, off, spot⟩ := a
    simp only at hs
    subst hs
    have hb : b < W.heap.size := by
     have h1 : W.cell? ⟨b, off, none⟩ ≠ none := by
      have : (Addr.mk b off none).add 0 = ⟨b, off, none⟩ := by simp [Addr.add]
      rw [this] at h00; rw [h00]; simp
     rcases Nat.lt_or_ge b W.heap.size with h2 | h2
     ·exact h2
     ·exfalso; apply h1; simp [World.cell?, Array.getElem?_eq_none h2]
    refine .one (.sl (fun i j => .int .i64 (zs.getD i 0)) (by simp; omega) hl trivial hb (fun e he => ?_) (fun i e j x hi hj => ?_) (fun i e j x hi hj => ?_))
    ·simp only [List.mem_map] at he; obtain ⟨n, _, rfl⟩ := he; rfl
    ·rw [List.getElem?_map] at hi
     cases hz' : (zs.take len)[i]? with
     | none => rw [hz'] at hi; cases hi
     | some n =>
      rw [hz'] at hi; simp only [Option.map_some, Option.some.injEq] at hi; subst hi
      have hlt : i < zs.length := by have := (List.getElem?_eq_some_iff.1 hz').1; simp at this; omega
      have hj0 : j = 0 := by
       cases j with
       | zero => rfl
       | succ j => simp [N3] at hj
      subst hj0
      have h1 := hcell i hlt
      have h2 : (Addr.mk b off none).add i = ⟨b, off + i * 1 + 0, none⟩ := by
       unfold Addr.add; split <;> simp_all
      rw [h2] at h1; exact h1
    ·rw [List.getElem?_map] at hi
     cases hz' : (zs.take len)[i]? with
     | none => rw [hz'] at hi; cases hi
     | some n =>
      rw [hz'] at hi; simp only [Option.map_some, Option.some.injEq] at hi; subst hi
      have hj0 : j = 0 := by
       cases j with
       | zero => rfl
       | succ j => simp [N3] at hj
      subst hj0
      simp only [N3, List.getElem?_cons_zero, Option.some.injEq] at hj; subst hj
      have h3 : zs.getD i 0 = n := by
       rw [List.getElem?_take] at hz'
       split at hz'
       ·simp [List.getD_eq_getElem?_getD, hz']
       ·cases hz'
      rw [h3]
      exact .g rfl
theorem a5R {f : FuncId} {fn : Func} {s : ChangeSpec} {t e tb : TypeId} (hfc : ∀ L : List Int, (∀ x ∈ L, I64 x) -> L.length <= 9223372036854775807 -> FC P f none [W0 false L] (fun _ r => r = bv true))
  (hs : ∀ (H : Type) (d : DataW H), s.fn H [d] = { results := [.lit (.bool true)], args := [d] }) (hsv : s.vars = []) (hp : fn.params = #[t]) (hr : fn.resultTypes = #[tb]) (hlaid : laidOutB P = true) (hrec : P.readableRec t = true) (hlt : t < P.types.size)
  (ht : P.underlying t = some (.slice e)) (he : P.underlying e = some (.int .i64)) (hc : P.cellsOf e = 1) (hb : P.underlying tb = some .bool)
  (W : World) (hlw : b1B P W) (base : Nat) (args : Array Value) (ds gs : List (DataW H)) (before : List MemPlace) (hval : ∀ (j : Nat) t v, fn.params[j]? = some t -> args[j]? = some v -> Value.okWide P W .any base t v)
  (hW : DataW.Whole enc P fn.params.toList s.vars false W args.toList ds gs before) : Calls P f args W fun e W' => ∃ v, e = .returned v ∧ s.post enc P fn false true false false W args v W' := by
 have hW' := hW
 obtain ⟨p, q, hA0, hV, rfl, _, _⟩ := hW
 have hA : DataW.TrodAll enc P W 0 (fun _ => true) true fn.params.toList args.toList ds p := hA0
 rw [hp] at hA
 obtain ⟨v0, vs0, d0, ds0, p0, q0, hargs, rfl, rfl, h0, r0⟩ := trodAll_cons hA
 obtain ⟨rfl, rfl, rfl⟩ := trodAll_nil r0
 obtain rfl : args = #[v0] := by cases args; simp_all
 rw [hsv] at hV
 obtain ⟨rfl, rfl⟩ := trodVars_none hV
 obtain ⟨a0, len0, cap0, hv0⟩ := okWide_slice ht (hval 0 t v0 (by rw [hp]; rfl) rfl)
 simp only [List.append_nil] at hW'
 have hlt' : ∀ x ∈ p0, x.block < W.heap.size := fun x hx => by simpa using hW'.lt x (by simpa using hx)
 have harg0 : DataW.Trod enc P W 0 (fun b => decide (b < W.heap.size)) true t v0 d0 p0 := Below.trod hlaid hrec hlt h0 (Below.refl _ _) hlt'
 obtain ⟨L, hL, hlen, hrel⟩ := b9Y ht he hc hv0 h0
 have hcall := (hfc L hL hlen).2 W (fun _ => True) 0 [v0] ⟨W, hlw, Nat.le_refl _, fun _ _ => ⟨trivial, rfl⟩⟩ (fun cs h => by cases h) rfl (fun i x u h1 h2 => by
  match i with
  | 0 => simp only [List.getElem?_cons_zero, Option.some.injEq] at h1 h2; subst h1; subst h2; exact hrel
  | i + 1 => simp at h1)
 refine Calls.mono hcall fun e W' ⟨v, cs', r, he, hr', hg, hv, _⟩ => ?_
 subst he; subst hr'
 have e1 := q9 hv rfl
 subst e1
 have hbel : Below W.heap.size W W' := ⟨hg.os, hg.tape, hg.output, hg.size, fun k hk => hg.block k hk (by simp)⟩
 have harg1 : DataW.Trod enc P W' 0 (fun b => decide (b < W.heap.size)) true t v0 d0 p0 := Below.trod hlaid hrec hlt h0 hbel hlt'
 refine ⟨_, rfl, [d0], [], _, [], p0, [], hW', ?_, ?_, ?_, hbel.frame _, fun h => by cases h⟩
 ·rw [List.append_nil, hs, hr]
  exact trodAll_mk1 (shut_bool hb _)
 ·rw [List.append_nil, hs, hp]
  exact trodAll_mk1 harg1
 ·rw [List.append_nil, hs, hsv]; rfl
end
end Go.Ai
namespace Go.Proofs.YtnlafmigfjlnnaaGreatDoor
open Go Go.Ai
theorem a7C {P : Program} {w : World} : ∀ {l : List (String × DataW Unit)} {ps : List MemPlace}, DataW.LaidVars P w l ps -> ∀ n d, (n, d) ∈ l -> ∃ g t cs fuel p, P.globalNamed n = some g ∧ (P.globals[g]?).map (·.type) = some t ∧ w.var? P n = some cs ∧ DataW.trod (fun _ => ()) P w 0 (fun _ => true) false fuel t cs.toList = some (d, p)
 | [], _, _, n, d, h => by cases h
 | (m, x) :: r, ps, hv, n, d, h => by
  obtain ⟨g, t, cs, fuel, p, q, h1, h2, h3, h4, h5, _⟩ := hv
  rcases List.mem_cons.1 h with h | h
  ·obtain ⟨rfl, rfl⟩ := Prod.mk.inj h
   exact ⟨g, t, cs, fuel, p, h1, h2, h3, h4⟩
  ·exact a7C h5 n d h
theorem b4x {W : World} (h : laidMetH Tryz.prog Rows.nuisancesFoundRow.laid W) : b1B Tryz.prog W := by
 rw [MakeChecks.laidMetH_plain _ _ _ (by kernel_rfl)] at h
 obtain ⟨ps, hv, _⟩ := h
 refine ⟨fun g hg => ?_, fun g n hn hg => ?_⟩
 ·obtain ⟨g', t, cs, fuel, p, h1, h2, h3, h4⟩ := a7C hv "internal/strconv.uint64pow10" _ (List.mem_of_getElem? (i := 2) rfl)
  obtain rfl := Option.some.inj (h1.symm.trans (show Tryz.prog.globalNamed "internal/strconv.uint64pow10" = some 1 by kernel_rfl))
  obtain rfl := Option.some.inj (h2.symm.trans (show (Tryz.prog.globals[1]?).map (·.type) = some 225 by kernel_rfl))
  have := Lib.cells_of_tab Tryz.underlying225 Tryz.underlying186 (by kernel_rfl) (by kernel_rfl) (show _ = some (Lib.tabData .u64 ((List.range 20).map fun i => ((10 ^ i : Nat) : Int)), p) from h4)
  unfold Lib.TabIs
  rw [h3, <- this]
 ·rcases hn with rfl | rfl
  ·rw [show Tryz.prog.globalNamed "strconv.ErrSyntax" = none by kernel_rfl] at hg; cases hg
  ·rw [show Tryz.prog.globalNamed "strconv.ErrRange" = none by kernel_rfl] at hg; cases hg
end Go.Proofs.YtnlafmigfjlnnaaGreatDoor
namespace Go.Proofs.YtnlafmigfjlnnaaGreatDoor
open Go Go.Ai Go.ChangeShapes Go.WideShapes Go.ChangeAt Go.RowKit
theorem c2P : ownKnob Tryz.prog.godebug = none := by kernel_rfl
theorem b9G : laidOutB Tryz.prog = true := by kernel_rfl
theorem a9T (os : Os) (started : os.Started) (H : Type) (enc : TypeId × Value -> H) :
  ReturnsInHanded {} Tryz.checked os 3 .any (fun w args => (Rows.nuisancesFoundSpec.pre enc Tryz.prog Tryz.f3 Rows.nuisancesFoundRow.domain false w args ∧ laidMetH Tryz.prog Rows.nuisancesFoundRow.laid w) ∧ sizedMet enc Tryz.prog Tryz.f3 (OpenSpec.ofChange Rows.nuisancesFoundSpec) false w args)
   (Rows.nuisancesFoundSpec.post enc Tryz.prog Tryz.f3 false true false false) := by
 refine returnsInHanded_of_change_and (C := Tryz.checked) (X := fun w _ => laidMetH Tryz.prog Rows.nuisancesFoundRow.laid w) (fun _ _ _ hh h => h.of_heap hh) c2P started (by kernel_rfl) Tryz.func3
  (ChangeSpec.witness_shaped (enc := enc) (C := Tryz.checked) (os := os) (X := fun w _ => laidMetH Tryz.prog Rows.nuisancesFoundRow.laid w) false (World.laidAll Tryz.prog os Rows.nuisancesFoundRow.laid) #[.slice none 0 0] 8 (World.laidAll_os _ _ _)
   (World.shaped_of_ZipB (by kernel_rfl) (by kernel_rfl)) (by kernel_rfl) (by kernel_rfl) (by kernel_rfl)
   (by rw [MakeChecks.laidMetH_plain _ _ _ (by kernel_rfl)]; exact laidMet_laidAll _ (by kernel_rfl) (by kernel_rfl))) ?_
 intro W base args ds gs before hval hW _ _ _ _
 exact a5R (P := Tryz.prog) (fun L h1 h2 => c9K L h1 h2) (fun _ _ => rfl) rfl rfl rfl b9G (by kernel_rfl) (of_decide_eq_true (by kernel_rfl)) Tryz.underlying22 Tryz.underlying3 (by kernel_rfl) Tryz.underlying4 W (b4x (by assumption)) base args ds gs before hval hW
theorem b9w : Rows.nuisancesFoundRow.holds Tryz.pinned (OpenSpec.ofChange Rows.nuisancesFoundSpec) :=
 OpenClaim.holds_of_wide 3 Tryz.f3 rfl rfl rfl rfl rfl rfl rfl ⟨rfl, rfl, rfl, rfl, rfl⟩ rfl rfl rfl rfl rfl (by kernel_rfl) Tryz.func3 (by kernel_rfl)
  (of_decide_eq_true (by kernel_rfl)) (by unfold Func.isWrapper; first | (rw [if_pos (by decide +kernel)]; kernel_rfl) | (rw [if_neg (by decide +kernel)]; exact ⟨rfl, rfl⟩))
  (fun os started H enc _ => a9T os started H enc)
theorem b4R (f : FuncId) (fn : Func) (hf : Tryz.pinned.checked.prog.funcNamed "plantlog/loglaw1.NuisancesFound" = some f) (hfn : Tryz.pinned.checked.prog.funcs[f]? = some fn) :
  false = Tryz.pinned.checked.prog.looks [] ∧ ∀ (j : Nat) t, fn.params[j]? = some t -> Tryz.pinned.checked.prog.wantsStandIn t = false := by
 obtain rfl : f = 3 := Option.some.inj ((show Tryz.prog.funcNamed "plantlog/loglaw1.NuisancesFound" = some 3 by kernel_rfl).symm.trans hf) |>.symm
 obtain rfl : fn = Tryz.f3 := (Option.some.inj (Tryz.func3.symm.trans hfn)).symm
 refine ⟨by kernel_rfl, fun j t ht => ?_⟩
 rw [Tryz.params3] at ht
 obtain rfl : t = 22 := by simpa using Array.mem_of_getElem? ht
 exact (show Tryz.prog.wantsStandIn 22 = false by kernel_rfl)
theorem b6u : Claim7.holds Tryz.pinned (.plain (OpenSpec.ofChange Rows.nuisancesFoundSpec)) Rows.nuisancesFoundCard :=
 Claim7.holds_tied_plain_at .later [] _ _ _ _ b9w (fun _ h => by cases h) (by kernel_rfl) (fun _ h => by cases h) nuisancesFound_row_tie rfl ⟨rfl, rfl⟩ (by kernel_rfl) rfl b4R (by kernel_rfl)
theorem nuisances_found : Rows.NuisancesFoundCardSaid := b6u
end Go.Proofs.YtnlafmigfjlnnaaGreatDoor
