
/-
 SitesExpanded returns true for every slice of integers, and leaves the slice as it was; the tables that its row lists hold what the program's text lays. No condition.
-/
import Derived.Test.YtdhkejcldipbmaaGreatDoorSlw
import Derived.LaidLaws
import Derived.MakeChecks
import Derived.Lib.LaidTab
import Derived.Test.YtdhkejcldipbmaaGreatDoorRows
import Derived.Test.YtdhkejcldipbmaaGreatDoorAiR
import Derived.Test.YtdhkejcldipbmaaGreatDoorCards
import Derived.Test.YtdhkejcldipbmaaGreatDoorTie
import Derived.LaidMore
import Derived.Lay
import Derived.Stop.Joined
namespace Go.Proofs.YtdhkejcldipbmaaGreatDoor
open Go Go.Ai Go.ChangeShapes Go.WideShapes Go.ChangeAt Go.RowKit
theorem vars_mem {P : Program} {w : World} : ∀ {l : List (String × DataW Unit)} {ps : List MemPlace}, DataW.LaidVars P w l ps → ∀ n d, (n, d) ∈ l → ∃ g t cs fuel p, P.globalNamed n = some g ∧ (P.globals[g]?).map (·.type) = some t ∧ w.var? P n = some cs ∧ DataW.trod (fun _ => ()) P w 0 (fun _ => true) false fuel t cs.toList = some (d, p)
 | [], _, _, n, d, h => by cases h
 | (m, x) :: r, ps, hv, n, d, h => by
  obtain ⟨g, t, cs, fuel, p, q, h1, h2, h3, h4, h5, _⟩ := hv
  rcases List.mem_cons.1 h with h | h
  ·obtain ⟨rfl, rfl⟩ := Prod.mk.inj h
   exact ⟨g, t, cs, fuel, p, h1, h2, h3, h4⟩
  ·exact vars_mem h5 n d h
theorem err_at {P : Program} {w : World} {g : Nat} {t0 : TypeId} {ms : Array (String × TypeId)} {n nm : String} {d : DataW Unit} (hg : P.globalNamed n = some g) (ht : (P.globals[g]?).map (·.type) = some t0) (hu : P.underlying t0 = some (.interface ms))
  (h : ∃ g t cs fuel p, P.globalNamed n = some g ∧ (P.globals[g]?).map (·.type) = some t ∧ w.var? P n = some cs ∧ DataW.trod (fun _ => ()) P w 0 (fun _ => true) false fuel t cs.toList = some (.iface nm d, p)) : ∃ t p, w.var? P n = some #[.iface t p] := by
 obtain ⟨g', t, cs, fuel, p, h1, h2, h3, h4⟩ := h
 obtain rfl := Option.some.inj (hg.symm.trans h1)
 obtain rfl := Option.some.inj (ht.symm.trans h2)
 obtain ⟨_, u, v, hcs, _, _⟩ := iface_of_trod hu h4
 exact ⟨u, v, by rw [h3]; exact congrArg some (Array.ext' hcs)⟩
theorem tab_at {P : Program} {w : World} {g : Nat} {t0 e : TypeId} {m : Nat} {k : IntKind} {zs : List Int} {n : String} (hg : P.globalNamed n = some g) (ht : (P.globals[g]?).map (·.type) = some t0) (hu : P.underlying t0 = some (.array m e)) (he : P.underlying e = some (.int k)) (hce : P.cellsOf e = 1) (hct : P.cellsOf t0 = m)
  (h : ∃ g t cs fuel p, P.globalNamed n = some g ∧ (P.globals[g]?).map (·.type) = some t ∧ w.var? P n = some cs ∧ DataW.trod (fun _ => ()) P w 0 (fun _ => true) false fuel t cs.toList = some (Lib.tabData k zs, p)) : Lib.TabIs P w n k zs := by
 obtain ⟨g', t, cs, fuel, p, h1, h2, h3, h4⟩ := h
 obtain rfl := Option.some.inj (hg.symm.trans h1)
 obtain rfl := Option.some.inj (ht.symm.trans h2)
 have := Lib.cells_of_tab hu he hce hct h4
 unfold Lib.TabIs
 rw [h3, ← this]
theorem laidW_row {W : World} (h : laidMetH Tryz.prog Rows.sitesExpandedRow.laid W) : LaidW Tryz.prog W := by
 rw [MakeChecks.laidMetH_plain _ _ _ (by kernel_rfl)] at h
 obtain ⟨ps, hv, _⟩ := h
 have hm := vars_mem hv
 refine ⟨fun g hg => ?_, fun g n hn hg => ?_⟩
 ·exact tab_at (g := 5) (t0 := 277) (by kernel_rfl) (by kernel_rfl) Tryz.underlying277 Tryz.underlying171 (by kernel_rfl) (by kernel_rfl) (hm "internal/strconv.uint64pow10" _ (List.mem_of_getElem? (i := 2) rfl))
 ·rcases hn with rfl | rfl
  ·exact err_at (g := 3) (t0 := 205) (by kernel_rfl) (by kernel_rfl) Tryz.underlying205 (hm "strconv.ErrSyntax" _ (List.mem_of_getElem? (i := 5) rfl))
  ·exact err_at (g := 4) (t0 := 205) (by kernel_rfl) (by kernel_rfl) Tryz.underlying205 (hm "strconv.ErrRange" _ (List.mem_of_getElem? (i := 4) rfl))
theorem slw_own : ownKnob Tryz.prog.godebug = none := by kernel_rfl
theorem slw_laid : laidOutB Tryz.prog = true := by kernel_rfl
set_option maxRecDepth 100000 in
theorem slw_lifted (os : Os) (started : os.Started) (H : Type) (enc : TypeId × Value → H) :
  ReturnsInHanded {} Tryz.checked os 3 .any (fun w args => (Rows.sitesExpandedSpec.pre enc Tryz.prog Tryz.f3 Rows.sitesExpandedRow.domain false w args ∧ laidMetH Tryz.prog Rows.sitesExpandedRow.laid w) ∧ sizedMet enc Tryz.prog Tryz.f3 (OpenSpec.ofChange Rows.sitesExpandedSpec) false w args)
   (Rows.sitesExpandedSpec.post enc Tryz.prog Tryz.f3 false true false false) := by
 refine returnsInHanded_of_change_and (C := Tryz.checked) (X := fun w _ => laidMetH Tryz.prog Rows.sitesExpandedRow.laid w) (fun _ _ _ hh h => h.of_heap hh) slw_own started (by kernel_rfl) Tryz.func3
  (ChangeSpec.witness_shaped (enc := enc) (C := Tryz.checked) (os := os) (X := fun w _ => laidMetH Tryz.prog Rows.sitesExpandedRow.laid w) false (World.laidAll Tryz.prog os Rows.sitesExpandedRow.laid) #[.slice none 0 0] 8 (World.laidAll_os _ _ _)
   (World.shaped_of_ZipB (by kernel_rfl) (by kernel_rfl)) (by kernel_rfl) (by kernel_rfl) (by kernel_rfl)
   (by rw [MakeChecks.laidMetH_plain _ _ _ (by kernel_rfl)]; exact laidMet_laidAll _ (by kernel_rfl) (by kernel_rfl))) ?_
 intro W base args ds gs before hval hW _ _ _ _
 exact law_contract (P := Tryz.prog) (fun L h1 h2 => slw_fc L h1 h2) (fun _ _ => rfl) rfl rfl rfl slw_laid (by kernel_rfl) (of_decide_eq_true (by kernel_rfl)) Tryz.underlying22 Tryz.underlying3 (by kernel_rfl) Tryz.underlying4 W (laidW_row (by assumption)) base args ds gs before hval hW
theorem slw_over : Rows.sitesExpandedRow.holds Tryz.pinned (OpenSpec.ofChange Rows.sitesExpandedSpec) :=
 OpenClaim.holds_of_wide 3 Tryz.f3 rfl rfl rfl rfl rfl rfl rfl ⟨rfl, rfl, rfl, rfl, rfl⟩ rfl rfl rfl rfl rfl (by kernel_rfl) Tryz.func3 (by kernel_rfl)
  (of_decide_eq_true (by kernel_rfl)) (by unfold Func.isWrapper; first | (rw [if_pos (by decide +kernel)]; kernel_rfl) | (rw [if_neg (by decide +kernel)]; exact ⟨rfl, rfl⟩))
  (fun os started H enc _ => slw_lifted os started H enc)
theorem slw_plain (f : FuncId) (fn : Func) (hf : Tryz.pinned.checked.prog.funcNamed "plantlog/loglaw1.SitesExpanded" = some f) (hfn : Tryz.pinned.checked.prog.funcs[f]? = some fn) :
  true = Tryz.pinned.checked.prog.looks [] ∧ ∀ (j : Nat) t, fn.params[j]? = some t → Tryz.pinned.checked.prog.wantsStandIn t = false := by
 obtain rfl : f = 3 := Option.some.inj ((show Tryz.prog.funcNamed "plantlog/loglaw1.SitesExpanded" = some 3 by kernel_rfl).symm.trans hf) |>.symm
 obtain rfl : fn = Tryz.f3 := (Option.some.inj (Tryz.func3.symm.trans hfn)).symm
 refine ⟨by kernel_rfl, fun j t ht => ?_⟩
 rw [Tryz.params3] at ht
 obtain rfl : t = 22 := by simpa using Array.mem_of_getElem? ht
 exact (show Tryz.prog.wantsStandIn 22 = false by kernel_rfl)
theorem slw_card : Claim7.holds Tryz.pinned (.plain (OpenSpec.ofChange Rows.sitesExpandedSpec)) Rows.sitesExpandedCard :=
 Claim7.holds_tied_plain_at .later [] _ _ _ _ slw_over (fun _ h => by cases h) (by kernel_rfl) (fun _ h => by cases h) sitesExpanded_row_tie rfl ⟨rfl, rfl⟩ (by kernel_rfl) rfl slw_plain (by kernel_rfl)
theorem sites_expanded : Rows.SitesExpandedCardSaid := slw_card
end Go.Proofs.YtdhkejcldipbmaaGreatDoor
