/-
 What the row says of the program's tables is what the contracts ask for.
-/
import Derived.LaidLaws
import Derived.MakeChecks
import Derived.Lib.LaidTab
import Derived.Test.YtodmofhehabmgaaGreatDoorAiA
import Derived.Test.YtodmofhehabmgaaGreatDoorRows
namespace Go.Proofs.YtodmofhehabmgaaGreatDoor
open Go Go.Ai
set_option linter.unusedSimpArgs false
set_option linter.unusedVariables false
set_option maxHeartbeats 4000000
theorem vars_mem {P : Program} {w : World} : ∀ {l : List (String × DataW Unit)} {ps : List MemPlace}, DataW.LaidVars P w l ps → ∀ n d, (n, d) ∈ l → ∃ g t cs fuel p, P.globalNamed n = some g ∧ (P.globals[g]?).map (·.type) = some t ∧ w.var? P n = some cs ∧ DataW.trod (fun _ => ()) P w 0 (fun _ => true) false fuel t cs.toList = some (d, p)
 | [], _, _, n, d, h => by cases h
 | (m, x) :: r, ps, hv, n, d, h => by
  obtain ⟨g, t, cs, fuel, p, q, h1, h2, h3, h4, h5, _⟩ := hv
  rcases List.mem_cons.1 h with h | h
  ·obtain ⟨rfl, rfl⟩ := Prod.mk.inj h
   exact ⟨g, t, cs, fuel, p, h1, h2, h3, h4⟩
  ·exact vars_mem h5 n d h
theorem err_at {P : Program} {w : World} {g : Nat} {t0 : TypeId} {ms : Array (String × TypeId)} {n nm : String} {d : DataW Unit} (hg : P.globalNamed n = some g) (ht : (P.globals[g]?).map (·.type) = some t0) (hu : P.underlying t0 = some (.interface ms))
  (h : ∃ g t cs fuel p, P.globalNamed n = some g ∧ (P.globals[g]?).map (·.type) = some t ∧ w.var? P n = some cs ∧ DataW.trod (fun _ => ()) P w 0 (fun _ => true) false fuel t cs.toList = some (.iface nm d, p)) : ∃ t p, w.var? P n = some #[.iface t p] := by
 obtain ⟨g', t, cs, fuel, p, h1, h2, h3, h4⟩ := h
 obtain rfl := Option.some.inj (hg.symm.trans h1)
 obtain rfl := Option.some.inj (ht.symm.trans h2)
 obtain ⟨_, u, v, hcs, _, _⟩ := iface_of_trod hu h4
 exact ⟨u, v, by rw [h3]; exact congrArg some (Array.ext' hcs)⟩
theorem tab_at {P : Program} {w : World} {g : Nat} {t0 e : TypeId} {m : Nat} {k : IntKind} {zs : List Int} {n : String} (hg : P.globalNamed n = some g) (ht : (P.globals[g]?).map (·.type) = some t0) (hu : P.underlying t0 = some (.array m e)) (he : P.underlying e = some (.int k)) (hce : P.cellsOf e = 1) (hct : P.cellsOf t0 = m)
  (h : ∃ g t cs fuel p, P.globalNamed n = some g ∧ (P.globals[g]?).map (·.type) = some t ∧ w.var? P n = some cs ∧ DataW.trod (fun _ => ()) P w 0 (fun _ => true) false fuel t cs.toList = some (Lib.tabData k zs, p)) : Lib.TabIs P w n k zs := by
 obtain ⟨g', t, cs, fuel, p, h1, h2, h3, h4⟩ := h
 obtain rfl := Option.some.inj (hg.symm.trans h1)
 obtain rfl := Option.some.inj (ht.symm.trans h2)
 have := Lib.cells_of_tab hu he hce hct h4
 unfold Lib.TabIs
 rw [h3, ← this]
theorem laidW_row {W : World} (h : laidMetH Tryz.prog Rows.materialTracedRow.laid W) : LaidW Tryz.prog W := by
 rw [MakeChecks.laidMetH_plain _ _ _ (by kernel_rfl)] at h
 obtain ⟨ps, hv, _⟩ := h
 have hm := vars_mem hv
 refine ⟨fun g hg => ?_, fun g n hn hg => ?_⟩
 ·exact tab_at (g := 1) (t0 := 203) (by kernel_rfl) (by kernel_rfl) Tryz.underlying203 Tryz.underlying129 (by kernel_rfl) (by kernel_rfl) (hm "internal/strconv.uint64pow10" _ (List.mem_of_getElem? (i := 2) rfl))
 ·rcases hn with rfl | rfl
  ·exact err_at (g := 2) (t0 := 97) (by kernel_rfl) (by kernel_rfl) Tryz.underlying97 (hm "strconv.ErrSyntax" _ (List.mem_of_getElem? (i := 5) rfl))
  ·exact err_at (g := 3) (t0 := 97) (by kernel_rfl) (by kernel_rfl) Tryz.underlying97 (hm "strconv.ErrRange" _ (List.mem_of_getElem? (i := 4) rfl))
end Go.Proofs.YtodmofhehabmgaaGreatDoor
