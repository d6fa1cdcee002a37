
/-
 A region that draws its order inside a fence, by an invariant over the set of operations that are done.
-/
import Derived.OwnWalkIn
import Derived.OrdersIn
import Derived.TacticsInMore
import Derived.Test.YtiiblflmfadmbaaBas
namespace Go.Proofs.Ytiiblflmfadmbaa
open Go Go.Proofs Go.RowKit Go.Ai
set_option linter.unusedSimpArgs false
set_option linter.unusedVariables false
set_option maxHeartbeats 4000000
/-- A region that draws its order, by what holds behind each set of its operations. -/
theorem wpAnyIn_inv {F : Fence} {n : Nat} {P : Program} {ops : Array Oper} {Q : Exit → Act → World → Prop} (Inv : Array Bool → Act → World → Prop) (hgd : ∀ (i : Nat) (o : Oper), ops[i]? = some o → o.guard = none ∧ ∀ e ∈ o.after, e.on < i) (hsz : ∀ L a w, Inv L a w → L.size = ops.size)
  (step : ∀ (i : Nat) (o : Oper), ops[i]? = some o → ∀ L a w, Inv L a w → L.getD i true = false → (∀ e ∈ o.after, Region.binds .any e = true → L.getD e.on false = true) → o.wpIn F n P a w (Inv (L.setIfInBounds i true)) Q)
  (done : ∀ L a w, Inv L a w → (∀ i, i < ops.size → L.getD i true = true) → Q .normal a w) :
  ∀ (fuel : Nat) (L : Array Bool) (a : Act) (w : World), Inv L a w → L.toList.count false ≤ fuel → wpAnyIn F n P .any ops Q fuel L a w := by
 intro fuel
 induction fuel with
 | zero =>
  intro L a w h hc
  have hall : ∀ i, i < ops.size → L.getD i true = true := fun i hi => by
   have hlt : i < L.size := by rw [hsz L a w h]; exact hi
   cases hb : L[i] with
   | true => simp [Array.getD, hlt, hb]
   | false =>
    exfalso
    have : false ∈ L.toList := by rw [← hb]; exact Array.getElem_mem_toList hlt
    have := List.count_pos_iff.2 this
    omega
  refine ⟨?_, done L a w h hall⟩
  cases hr : Region.ready .any ops L with
  | nil => rfl
  | cons i rs =>
   exfalso
   obtain ⟨h1, o, h2, _⟩ := mem_ready.1 (show i ∈ Region.ready .any ops L by rw [hr]; simp)
   have := hall i (Array.getElem?_eq_some_iff.1 h2).1
   rw [h1] at this; cases this
 | succ fuel ih =>
  intro L a w h hc
  refine ⟨fun hr => done L a w h fun i => ?_, fun i hi => ?_⟩
  ·induction i using Nat.strongRecOn with
   | ind i ihi =>
    intro hi
    apply Classical.byContradiction
    intro hno
    have hlt : i < L.size := by rw [hsz L a w h]; exact hi
    have hf : L.getD i true = false := by simpa using hno
    have ho : ops[i]? = some ops[i] := Array.getElem?_eq_getElem hi
    have : i ∈ Region.ready .any ops L := mem_ready.2 ⟨hf, ops[i], ho, fun e he _ => by
     have h1 := (hgd i _ ho).2 e he
     have h2 := ihi e.on h1 (by omega)
     have h3 : e.on < L.size := by omega
     simp only [Array.getD, h3, dif_pos] at h2 ⊢
     exact h2⟩
    rw [hr] at this; simp at this
  obtain ⟨h1, o, h2, h3⟩ := mem_ready.1 hi
  unfold wpOpIn
  simp only [h2]
  have hw : Region.wanted o (yielded ops a.tmps) = true := by unfold Region.wanted; rw [(hgd i o h2).1]
  rw [if_pos hw]
  refine (Oper.wpIn_mono (fun a' w' h' => ih _ a' w' h' ?_) (step i o h2 L a w h h1 h3))
  have hlt : i < L.size := by rw [hsz L a w h]; exact (Array.getElem?_eq_some_iff.1 h2).1
  have hf : L[i] = false := by simpa [Array.getD, hlt] using h1
  have hcs : (L.toList.set i true).count false = L.toList.count false - 1 := by
   rw [List.count_set (by simpa using hlt)]
   simp [hf]
  have := List.count_pos_iff.2 (show false ∈ L.toList by rw [← hf]; exact Array.getElem_mem_toList hlt)
  rw [Array.toList_setIfInBounds, hcs]
  omega
section
variable {P : Program} {ρ : Operand → Value} {o : Oper} {w : World}
theorem run_mv (x : Operand) (h : o.op = .move x) : (execOp ρ o).run P w = .ok (.value (ρ x)) w := by simp [execOp, h]
theorem run_load1 {t : TypeId} {d : TypeDesc} {x : Operand} {A : Addr} {u : Value} (hu : P.underlying t = some d) (hd : isAggB d = false) (ho : o.op = .load t x) (hv : ρ x = .pointer (some A)) (hc : w.cell? A = some u) :
  (execOp ρ o).run P w = .ok (.value u) w := by
 cases d <;> simp [isAggB] at hd <;> simp [execOp, ho, hv, Instr.loadAt, Instr.sureAddr, loadVar, isAgg, run_underlying hu, load, Sem.run, hc]
theorem run_app {t : TypeId} {x y : Operand} {v : Value} {w' : World} (ho : o.op = .call { callee := .builtin .append, args := #[x, y], argTypes := #[t, t] }) (hr : (Builtin.append_ #[t, t] o.type #[ρ x, ρ y]).run P w = .ok v w') : (execOp ρ o).run P w = .ok (.value v) w' := by
 unfold execOp
 simp only [ho, resolve, invoke, builtin, Sem.run_bind, Sem.run_pure, Result.andThen_ok, List.map_toArray, List.map_cons, List.map_nil, hr]
theorem run_store1 {t e : TypeId} {x y : Operand} {A : Addr} {q : Option Addr} {n c : Nat} (hu : P.underlying t = some (.slice e)) (hsz : ∀ W, (sizeOf t).run P W = .ok 1 W) (ho : o.op = .store t x y) (hv : ρ x = .pointer (some A)) (hy : ρ y = .slice q n c) (hc : (w.cell? A).isSome = true) (hf : w.frozen? A = false) :
  (execOp ρ o).run P w = .ok .skip (w.setCell A (.slice q n c)) := by
 obtain ⟨u, hu'⟩ := Option.isSome_iff_exists.1 hc
 simp [execOp, ho, hv, hy, Instr.storeAt, Instr.sureAddr, isAgg, run_underlying hu, storeVar, Value.cells, storeCells, hsz, hu', hf, go_sem]
end
end Go.Proofs.Ytiiblflmfadmbaa
