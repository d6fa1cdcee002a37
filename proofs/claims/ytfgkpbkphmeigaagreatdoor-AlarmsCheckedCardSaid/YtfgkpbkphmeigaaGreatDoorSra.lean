/-
 The order of acts, walked directly: to the world behind.
-/
import Derived.Test.YtfgkpbkphmeigaaGreatDoorAiE
import Derived.Test.YtfgkpbkphmeigaaGreatDoorProg
import Derived.WalkKit
import Derived.OwnWalk
import Derived.Great.BuildSlice
import Derived.Handy
import Derived.LoopTactic
import Derived.Lib.MinMaxS
import Derived.Lib.Bytealg
import Derived.Sort.Grow
import Derived.Shelf.SlSortCmp.WholeK
import Derived.Test.YtfgkpbkphmeigaaGreatDoorMgp
import Derived.Test.YtfgkpbkphmeigaaGreatDoorOpq
namespace Go.Proofs.YtfgkpbkphmeigaaGreatDoor
open Go Go.RowKit Go.Sort Go.Proofs Go.Ai
set_option linter.unusedSimpArgs false
set_option linter.unusedVariables false
set_option maxHeartbeats 4000000
set_option maxRecDepth 100000 in
theorem bytealgCompareW (a b : ByteArray) (w : World) :
  Calls Tryz.prog 235 #[.string a, .string b] w fun e w' => e = .returned (.int .i64 (Lib.compareBytes a.data.toList b.data.toList)) ∧ w' = w := by
 go_enter Tryz.func235, Tryz.ntmps235
 go_wp2
 rw [run_callFunc_extern Tryz.func305 (by kernel_rfl) (by kernel_rfl) (by kernel_rfl) (e := Extern.BytealgCompare.compare) (by kernel_rfl), Lib.run_compareString]
 simp only [Result.andThen]
 rw [Oper.upon_value]
 go_wp2
 go_ret
 exact ⟨rfl, rfl⟩
theorem stringsCompareW (a b : ByteArray) (w : World) :
  Calls Tryz.prog 177 #[.string a, .string b] w fun e w' => e = .returned (.int .i64 (Lib.compareBytes a.data.toList b.data.toList)) ∧ w' = w := by
 go_enter Tryz.func177, Tryz.ntmps177
 go_wp2_with (go_at_call 235; refine (bytealgCompareW _ _ _).mono ?_; rintro e w' ⟨rfl, rfl⟩)
 go_ret
 exact ⟨rfl, rfl⟩
def sdW (a b : Int) : Int := if a < b then -1 else if b < a then 1 else 0
theorem cmpIntW (a b : Int) (w : World) :
  Calls Tryz.prog 162 #[.int .i64 a, .int .i64 b] w fun e w' => e = .returned (.int .i64 (sdW a b)) ∧ w' = w := by
 unfold sdW
 have hn : ∀ (n : Int) (w : World), Calls Tryz.prog 225 #[.int .i64 n] w fun e w' => e = .returned (.bool false) ∧ w' = w := by
  intro n w
  go_enter Tryz.func225, Tryz.ntmps225
  go_wp2
  go_ret
  simp
 go_enter Tryz.func162, Tryz.ntmps162
 go_wp2_with (go_at_call 225; refine (hn _ _).mono ?_; rintro e w' ⟨rfl, rfl⟩)
 all_goals go_ret
 all_goals (refine ⟨?_, rfl⟩; simp_all)
theorem orW (a b : Int) (g : Nat) (e0 : TypeId) (w : World) (hc : w.heap[g]? = some (.cells #[.int .i64 a, .int .i64 b] e0 (0, 0))) :
  Calls Tryz.prog 176 #[.slice (some ⟨g, 0, none⟩) 2 2] w fun e w' => e = .returned (.int .i64 (if a = 0 then b else a)) ∧ w' = w := by
 have h0 : w.cell? ⟨g, 0, none⟩ = some (.int .i64 a) := by simp [World.cell?, hc]
 have h1 : w.cell? ⟨g, 1, none⟩ = some (.int .i64 b) := by simp [World.cell?, hc]
 generalize hv : (if a = 0 then b else a) = v
 go_enter Tryz.func176, Tryz.ntmps176
 go_wp2
 go_rounds 3
 all_goals go_ret
 all_goals (refine ⟨?_, rfl⟩; simp_all)
/-- A region that draws its order, by what holds behind each set of its operations. -/
theorem wpAny_invA {P : Program} {ops : Array Oper} {Q : Exit → Act → World → Prop} (Inv : Array Bool → Act → World → Prop) (hgd : ∀ (i : Nat) (o : Oper), ops[i]? = some o → o.guard = none ∧ ∀ e ∈ o.after, e.on < i) (hsz : ∀ L a w, Inv L a w → L.size = ops.size)
  (step : ∀ (i : Nat) (o : Oper), ops[i]? = some o → ∀ L a w, Inv L a w → L.getD i true = false → (∀ e ∈ o.after, Region.binds .any e = true → L.getD e.on false = true) → o.wp P a w (Inv (L.setIfInBounds i true)) Q)
  (done : ∀ L a w, Inv L a w → (∀ i, i < ops.size → L.getD i true = true) → Q .normal a w) :
  ∀ (fuel : Nat) (L : Array Bool) (a : Act) (w : World), Inv L a w → L.toList.count false ≤ fuel → wpAny P .any ops Q fuel L a w := by
 intro fuel
 induction fuel with
 | zero =>
  intro L a w h hc
  have hall : ∀ i, i < ops.size → L.getD i true = true := fun i hi => by
   have hlt : i < L.size := by rw [hsz L a w h]; exact hi
   cases hb : L[i] with
   | true => simp [Array.getD, hlt, hb]
   | false =>
    exfalso
    have : false ∈ L.toList := by rw [← hb]; exact Array.getElem_mem_toList hlt
    have := List.count_pos_iff.2 this
    omega
  refine ⟨?_, done L a w h hall⟩
  cases hr : Region.ready .any ops L with
  | nil => rfl
  | cons i rs =>
   exfalso
   obtain ⟨h1, o, h2, _⟩ := mem_ready.1 (show i ∈ Region.ready .any ops L by rw [hr]; simp)
   have := hall i (Array.getElem?_eq_some_iff.1 h2).1
   rw [h1] at this; cases this
 | succ fuel ih =>
  intro L a w h hc
  refine ⟨fun hr => done L a w h fun i => ?_, fun i hi => ?_⟩
  ·induction i using Nat.strongRecOn with
   | ind i ihi =>
    intro hi
    apply Classical.byContradiction
    intro hno
    have hlt : i < L.size := by rw [hsz L a w h]; exact hi
    have hf : L.getD i true = false := by simpa using hno
    have ho : ops[i]? = some ops[i] := Array.getElem?_eq_getElem hi
    have : i ∈ Region.ready .any ops L := mem_ready.2 ⟨hf, ops[i], ho, fun e he _ => by
     have h1 := (hgd i _ ho).2 e he
     have h2 := ihi e.on h1 (by omega)
     have h3 : e.on < L.size := by omega
     simp only [Array.getD, h3, dif_pos] at h2 ⊢
     exact h2⟩
    rw [hr] at this; simp at this
  obtain ⟨h1, o, h2, h3⟩ := mem_ready.1 hi
  unfold wpOp
  simp only [h2]
  have hw : Region.wanted o (yielded ops a.tmps) = true := by unfold Region.wanted; rw [(hgd i o h2).1]
  rw [if_pos hw]
  refine .inl (Oper.wp_mono (fun a' w' h' => ih _ a' w' h' ?_) (step i o h2 L a w h h1 h3))
  have hlt : i < L.size := by rw [hsz L a w h]; exact (Array.getElem?_eq_some_iff.1 h2).1
  have hf : L[i] = false := by simpa [Array.getD, hlt] using h1
  have hcs : (L.toList.set i true).count false = L.toList.count false - 1 := by
   rw [List.count_set (by simpa using hlt)]
   simp [hf]
  have := List.count_pos_iff.2 (show false ∈ L.toList by rw [← hf]; exact Array.getElem_mem_toList hlt)
  rw [Array.toList_setIfInBounds, hcs]
  omega
section
variable {P : Program} {ρ : Operand → Value} {o : Oper} {w : World}
theorem run_fadrA {t : TypeId} {x : Operand} {k off sz b n : Nat} (ho : o.op = .fieldAddr t x k) (hf : (fieldOf P t k).map (fun f => (f.offset, (P.info? f.type).map (·.size))) = some (off, some sz)) (hz : sz ≠ 0) (hv : ρ x = .pointer (some ⟨b, n, none⟩)) :
  (execOp ρ o).run P w = .ok (.value (.pointer (some ⟨b, n + off, none⟩))) w := by
 cases hff : fieldOf P t k with
 | none => rw [hff] at hf; cases hf
 | some f =>
  rw [hff] at hf
  cases hi : P.info? f.type with
  | none => rw [Option.map_some, hi] at hf; simp at hf
  | some i =>
   rw [Option.map_some, hi] at hf; simp at hf
   obtain ⟨rfl, rfl⟩ := hf
   unfold fieldOf at hff
   split at hff
   ·rename_i fs hu
    simp [execOp, ho, Instr.fieldAt, run_underlying hu, hff, hv, Instr.sureAddr, fieldPlace, sizeOf, typeInfo, hi, hz, add_none]
   ·cases hff
theorem run_load1A {t : TypeId} {d : TypeDesc} {x : Operand} {A : Addr} {u : Value} (hu : P.underlying t = some d) (hd : isAggB d = false) (ho : o.op = .load t x) (hv : ρ x = .pointer (some A)) (hc : w.cell? A = some u) :
  (execOp ρ o).run P w = .ok (.value u) w := by
 cases d <;> simp [isAggB] at hd <;> simp [execOp, ho, hv, Instr.loadAt, Instr.sureAddr, loadVar, isAgg, run_underlying hu, load, Sem.run, hc]
end
theorem run_asgA {P : Program} {ρ : Operand → Value} {o : Oper} {w : World} (x : Operand) (h : o.op = .assign x) : (execOp ρ o).run P w = .ok (.value (ρ x)) w := by simp [execOp, h]
theorem wp_callRA {P : Program} {o : Oper} {a : Act} {w : World} {K : Act → World → Prop} {Q : Exit → Act → World → Prop} {f : FuncId} {args : Array Value} {v : Value} (hrun : (execOp a.eval o).run P w = .ok (.enter f args) w)
  (hc : Calls P f args w fun e w'' => e = .returned v ∧ w'' = w) (hK : K (a.put o.dst v) w) : o.wp P a w K Q := by
 unfold Oper.wp
 rw [hrun, Oper.upon_enter]
 refine hc.mono fun e w'' hh => ?_
 obtain ⟨rfl, rfl⟩ := hh
 exact hK
set_option maxRecDepth 100000 in
theorem byActW (b1 b2 s1 s2 : ByteArray) (n1 n2 a1 a2 k1 k2 u1 u2 : Int) (w : World) :
  Calls Tryz.prog 78 #[.agg #[.string b1, .int .i64 n1, .int .i64 a1, .int .i64 k1, .string s1, .int .i64 u1], .agg #[.string b2, .int .i64 n2, .int .i64 a2, .int .i64 k2, .string s2, .int .i64 u2]] w fun e w' =>
   e = .returned (.int .i64 (if Lib.compareBytes b1.data.toList b2.data.toList = 0 then sdW n1 n2 else Lib.compareBytes b1.data.toList b2.data.toList)) ∧ ∃ q os', w' = grow (w.drewN q) os' := by
 generalize hc : Lib.compareBytes b1.data.toList b2.data.toList = c
 generalize hd : sdW n1 n2 = d
 have h1 : ∀ w, Calls Tryz.prog 177 #[.string b1, .string b2] w fun e w' => e = .returned (.int .i64 c) ∧ w' = w := fun w => hc ▸ stringsCompareW b1 b2 w
 have h2 : ∀ w, Calls Tryz.prog 162 #[.int .i64 n1, .int .i64 n2] w fun e w' => e = .returned (.int .i64 d) ∧ w' = w := fun w => hd ▸ cmpIntW n1 n2 w
 have h3 : ∀ (g : Nat) (e0 : TypeId) (w : World), w.heap[g]? = some (.cells #[.int .i64 c, .int .i64 d] e0 (0, 0)) → Calls Tryz.prog 176 #[.slice (some ⟨g, 0, none⟩) 2 2] w fun e w' => e = .returned (.int .i64 (if c = 0 then d else c)) ∧ w' = w := fun g e0 w h => orW c d g e0 w h
 generalize hv : (if c = 0 then d else c) = v at h3 ⊢
 clear hc hd hv
 have hb1 : hasBody Tryz.prog 177 := ⟨Tryz.f177, Tryz.func177, by kernel_rfl, by kernel_rfl⟩
 have hb2 : hasBody Tryz.prog 162 := ⟨Tryz.f162, Tryz.func162, by kernel_rfl, by kernel_rfl⟩
 have hb3 : hasBody Tryz.prog 176 := ⟨Tryz.f176, Tryz.func176, by kernel_rfl, by kernel_rfl⟩
 obtain ⟨i0, hi, hz0, hz1, hz2⟩ := info_parts (show (Tryz.prog.info? 3).map (fun i => (i.zero, i.size, i.bytes)) = some (some (.int .i64 0), 1, 8) by kernel_rfl)
 go_enter Tryz.func78, Tryz.ntmps78
 go_wp2
 rename_i Kx hKx
 generalize hX : Value.agg #[.string b1, .int .i64 n1, .int .i64 a1, .int .i64 k1, .string s1, .int .i64 u1] = X
 generalize hY : Value.agg #[.string b2, .int .i64 n2, .int .i64 a2, .int .i64 k2, .string s2, .int .i64 u2] = Y
 generalize hW : (w.alloc (.cells #[.string b1, .int .i64 n1, .int .i64 a1, .int .i64 k1, .string s1, .int .i64 u1] 34)).alloc (.cells #[.string b2, .int .i64 n2, .int .i64 a2, .int .i64 k2, .string s2, .int .i64 u2] 34) = W
 have hWs : W.heap.size = w.heap.size + 2 := by subst hW; simp
 have hWg : W = grow w #[.cells #[.string b1, .int .i64 n1, .int .i64 a1, .int .i64 k1, .string s1, .int .i64 u1] 34, .cells #[.string b2, .int .i64 n2, .int .i64 a2, .int .i64 k2, .string s2, .int .i64 u2] 34] := by
  subst hW; rw [alloc_eq_grow, alloc_eq_grow, grow_grow]; rfl
 have hx1 : W.heap[w.heap.size]? = some (.cells #[.string b1, .int .i64 n1, .int .i64 a1, .int .i64 k1, .string s1, .int .i64 u1] 34 (0, 0)) := by
  subst hW; rw [RowKit.Below.heap_alloc _ _ _ (by simp)]; exact heap_alloc_new w _
 have hy1 : W.heap[w.heap.size + 1]? = some (.cells #[.string b2, .int .i64 n2, .int .i64 a2, .int .i64 k2, .string s2, .int .i64 u2] 34 (0, 0)) := by
  subst hW
  have := heap_alloc_new (w.alloc (.cells #[.string b1, .int .i64 n1, .int .i64 a1, .int .i64 k1, .string s1, .int .i64 u1] 34)) (.cells #[.string b2, .int .i64 n2, .int .i64 a2, .int .i64 k2, .string s2, .int .i64 u2] 34)
  simpa using this
 have hcc : ∀ (l : Bool) (g j : Nat) (cs : Array Value) (t : TypeId), g < w.heap.size + 2 → W.heap[g]? = some (.cells cs t (0, 0)) → (bif l then W.drew.alloc (.cells #[.int .i64 c, .int .i64 d] 3) else W.drew).cell? ⟨g, j, none⟩ = cs[j]? := by
  intro l g j cs t hg h
  cases l with
  | false => exact cell_of_row W.drew g j cs t (0, 0) h
  | true =>
   refine cell_of_row _ g j cs t (0, 0) ?_
   show (W.drew.alloc _).heap[g]? = _
   rw [RowKit.Below.heap_alloc _ _ _ (by show g < W.heap.size; omega)]; exact h
 clear hW hX hY
 refine wp_region_any (by kernel_rfl) ?_
 refine wpAny_invA (fun L a wc => ∃ (l0 l1 l2 l3 l4 l5 l6 l7 l8 l9 l10 l11 l12 : Bool), L = #[l0, l1, l2, l3, l4, l5, l6, l7, l8, l9, l10, l11, l12] ∧ a = ⟨#[X, Y, .pointer (some ⟨w.heap.size, 0, none⟩), .pointer (some ⟨w.heap.size + 1, 0, none⟩), bif l12 then .int .i64 v else .int .i64 0, bif l0 then .pointer (some ⟨w.heap.size, 0, none⟩) else undef, bif l1 then .string b1 else undef, bif l2 then .pointer (some ⟨w.heap.size + 1, 0, none⟩) else undef, bif l3 then .string b2 else undef, bif l4 then .int .i64 c else undef, bif l5 then .pointer (some ⟨w.heap.size, 1, none⟩) else undef, bif l6 then .int .i64 n1 else undef, bif l7 then .pointer (some ⟨w.heap.size + 1, 1, none⟩) else undef, bif l8 then .int .i64 n2 else undef, bif l9 then .int .i64 d else undef, bif l10 then .slice (some ⟨w.heap.size + 2, 0, none⟩) 2 2 else undef, bif l11 then .int .i64 v else undef], []⟩ ∧ (l11 = true → l10 = true) ∧ wc = bif l10 then W.drew.alloc (.cells #[.int .i64 c, .int .i64 d] 3) else W.drew) ?_ ?_ ?_ ?_ _ _ _ _ ?_ ?_
 ·intro i o ho
  have hlt := (Array.getElem?_eq_some_iff.1 ho).1
  match i, ho with
  | 0, ho => obtain rfl := Option.some.inj ho; exact ⟨rfl, by simp⟩
  | 1, ho => obtain rfl := Option.some.inj ho; exact ⟨rfl, by simp⟩
  | 2, ho => obtain rfl := Option.some.inj ho; exact ⟨rfl, by simp⟩
  | 3, ho => obtain rfl := Option.some.inj ho; exact ⟨rfl, by simp⟩
  | 4, ho => obtain rfl := Option.some.inj ho; exact ⟨rfl, by simp⟩
  | 5, ho => obtain rfl := Option.some.inj ho; exact ⟨rfl, by simp⟩
  | 6, ho => obtain rfl := Option.some.inj ho; exact ⟨rfl, by simp⟩
  | 7, ho => obtain rfl := Option.some.inj ho; exact ⟨rfl, by simp⟩
  | 8, ho => obtain rfl := Option.some.inj ho; exact ⟨rfl, by simp⟩
  | 9, ho => obtain rfl := Option.some.inj ho; exact ⟨rfl, by simp⟩
  | 10, ho => obtain rfl := Option.some.inj ho; exact ⟨rfl, by simp⟩
  | 11, ho => obtain rfl := Option.some.inj ho; exact ⟨rfl, by simp⟩
  | 12, ho => obtain rfl := Option.some.inj ho; exact ⟨rfl, by simp⟩
  | i + 13, ho => simp at hlt; omega
 ·rintro L a wc ⟨l0, l1, l2, l3, l4, l5, l6, l7, l8, l9, l10, l11, l12, rfl, _⟩; rfl
 ·intro i o ho L a wc hI hL hd
  have hlt := (Array.getElem?_eq_some_iff.1 ho).1
  obtain ⟨l0, l1, l2, l3, l4, l5, l6, l7, l8, l9, l10, l11, l12, rfl, rfl, h11, rfl⟩ := hI
  match i, ho with
  | 0, ho =>
   obtain rfl := Option.some.inj ho
   obtain rfl : l0 = false := hL
   exact wp_value (run_fadrA (off := 0) (sz := 1) (b := w.heap.size) (n := 0) rfl (by kernel_rfl) (by decide) rfl) ⟨true, l1, l2, l3, l4, l5, l6, l7, l8, l9, l10, l11, l12, rfl, rfl, h11, rfl⟩
  | 1, ho =>
   obtain rfl := Option.some.inj ho
   obtain rfl : l1 = false := hL
   obtain rfl : l0 = true := hd ⟨0, .data⟩ (by simp) rfl
   exact wp_value (run_load1A (A := ⟨w.heap.size, 0, none⟩) (u := .string b1) Tryz.underlying9 rfl rfl rfl (hcc l10 _ _ _ _ (by omega) hx1)) ⟨true, true, l2, l3, l4, l5, l6, l7, l8, l9, l10, l11, l12, rfl, rfl, h11, rfl⟩
  | 2, ho =>
   obtain rfl := Option.some.inj ho
   obtain rfl : l2 = false := hL
   exact wp_value (run_fadrA (off := 0) (sz := 1) (b := w.heap.size + 1) (n := 0) rfl (by kernel_rfl) (by decide) rfl) ⟨l0, l1, true, l3, l4, l5, l6, l7, l8, l9, l10, l11, l12, rfl, rfl, h11, rfl⟩
  | 3, ho =>
   obtain rfl := Option.some.inj ho
   obtain rfl : l3 = false := hL
   obtain rfl : l2 = true := hd ⟨2, .data⟩ (by simp) rfl
   exact wp_value (run_load1A (A := ⟨w.heap.size + 1, 0, none⟩) (u := .string b2) Tryz.underlying9 rfl rfl rfl (hcc l10 _ _ _ _ (by omega) hy1)) ⟨l0, l1, true, true, l4, l5, l6, l7, l8, l9, l10, l11, l12, rfl, rfl, h11, rfl⟩
  | 4, ho =>
   obtain rfl := Option.some.inj ho
   obtain rfl : l4 = false := hL
   obtain rfl : l1 = true := hd ⟨1, .data⟩ (by simp) rfl
   obtain rfl : l3 = true := hd ⟨3, .data⟩ (by simp) rfl
   exact wp_callRA (args := #[.string b1, .string b2]) (run_call (fo := .func 177) (args := #[.tmp 6, .tmp 8]) (us := []) rfl rfl hb1) (h1 _) ⟨l0, true, l2, true, true, l5, l6, l7, l8, l9, l10, l11, l12, rfl, rfl, h11, rfl⟩
  | 5, ho =>
   obtain rfl := Option.some.inj ho
   obtain rfl : l5 = false := hL
   exact wp_value (run_fadrA (off := 1) (sz := 1) (b := w.heap.size) (n := 0) rfl (by kernel_rfl) (by decide) rfl) ⟨l0, l1, l2, l3, l4, true, l6, l7, l8, l9, l10, l11, l12, rfl, rfl, h11, rfl⟩
  | 6, ho =>
   obtain rfl := Option.some.inj ho
   obtain rfl : l6 = false := hL
   obtain rfl : l5 = true := hd ⟨5, .data⟩ (by simp) rfl
   exact wp_value (run_load1A (A := ⟨w.heap.size, 1, none⟩) (u := .int .i64 n1) Tryz.underlying3 rfl rfl rfl (hcc l10 _ _ _ _ (by omega) hx1)) ⟨l0, l1, l2, l3, l4, true, true, l7, l8, l9, l10, l11, l12, rfl, rfl, h11, rfl⟩
  | 7, ho =>
   obtain rfl := Option.some.inj ho
   obtain rfl : l7 = false := hL
   exact wp_value (run_fadrA (off := 1) (sz := 1) (b := w.heap.size + 1) (n := 0) rfl (by kernel_rfl) (by decide) rfl) ⟨l0, l1, l2, l3, l4, l5, l6, true, l8, l9, l10, l11, l12, rfl, rfl, h11, rfl⟩
  | 8, ho =>
   obtain rfl := Option.some.inj ho
   obtain rfl : l8 = false := hL
   obtain rfl : l7 = true := hd ⟨7, .data⟩ (by simp) rfl
   exact wp_value (run_load1A (A := ⟨w.heap.size + 1, 1, none⟩) (u := .int .i64 n2) Tryz.underlying3 rfl rfl rfl (hcc l10 _ _ _ _ (by omega) hy1)) ⟨l0, l1, l2, l3, l4, l5, l6, true, true, l9, l10, l11, l12, rfl, rfl, h11, rfl⟩
  | 9, ho =>
   obtain rfl := Option.some.inj ho
   obtain rfl : l9 = false := hL
   obtain rfl : l6 = true := hd ⟨6, .data⟩ (by simp) rfl
   obtain rfl : l8 = true := hd ⟨8, .data⟩ (by simp) rfl
   exact wp_callRA (args := #[.int .i64 n1, .int .i64 n2]) (run_call (fo := .func 162) (args := #[.tmp 11, .tmp 13]) (us := []) rfl rfl hb2) (h2 _) ⟨l0, l1, l2, l3, l4, l5, true, l7, true, true, l10, l11, l12, rfl, rfl, h11, rfl⟩
  | 10, ho =>
   obtain rfl := Option.some.inj ho
   obtain rfl : l10 = false := hL
   obtain rfl : l4 = true := hd ⟨4, .data⟩ (by simp) rfl
   obtain rfl : l9 = true := hd ⟨9, .data⟩ (by simp) rfl
   obtain rfl : l11 = false := by cases l11 with | false => rfl | true => exact absurd (h11 rfl) (by simp)
   refine wp_buildSlice _ _ 2 _ rfl #[.int .i64 c, .int .i64 d] i0 _ Tryz.underlying22 hi hz0 (by rw [hz1]; decide) (by rw [hz1]; decide) ?_ ?_
   ·rw [hz1, Array.toList_map]
    show Instr.fill _ _ [(0, .int .i64 c), (1, .int .i64 d)] = _
    have := fill_row 1 [.int .i64 c, .int .i64 d] 0 ((Array.range (2 * 1)).map (fun j => (Value.int .i64 0).cells[j % (Value.int .i64 0).cells.size]!)) (by simp [Value.cells]) (by simp)
    simpa [Value.cells, List.range'] using this
   ·refine ⟨l0, l1, l2, l3, true, l5, l6, l7, l8, true, true, false, l12, rfl, ?_, fun _ => rfl, rfl⟩
    rw [show (cond false (W.drew.alloc (.cells #[.int .i64 c, .int .i64 d] 3)) W.drew).heap.size = w.heap.size + 2 from hWs]; rfl
  | 11, ho =>
   obtain rfl := Option.some.inj ho
   obtain rfl : l11 = false := hL
   obtain rfl : l10 = true := hd ⟨10, .data⟩ (by simp) rfl
   exact wp_callRA (args := #[.slice (some ⟨w.heap.size + 2, 0, none⟩) 2 2]) (run_call (fo := .func 176) (args := #[.tmp 15]) (us := []) rfl rfl hb3) (h3 _ 3 _ (by show (W.drew.alloc _).heap[w.heap.size + 2]? = _; rw [← hWs]; exact heap_alloc_new W.drew _)) ⟨l0, l1, l2, l3, l4, l5, l6, l7, l8, l9, true, true, l12, rfl, rfl, fun _ => rfl, rfl⟩
  | 12, ho =>
   obtain rfl := Option.some.inj ho
   obtain rfl : l12 = false := hL
   obtain rfl : l11 = true := hd ⟨11, .data⟩ (by simp) rfl
   exact wp_value (run_asgA _ rfl) ⟨l0, l1, l2, l3, l4, l5, l6, l7, l8, l9, l10, true, true, rfl, rfl, h11, rfl⟩
  | i + 13, ho => simp at hlt; omega
 ·rintro L a wc ⟨l0, l1, l2, l3, l4, l5, l6, l7, l8, l9, l10, l11, l12, rfl, rfl, h11, rfl⟩ hall
  obtain rfl : l12 = true := hall 12 (by decide)
  obtain rfl : l10 = true := hall 10 (by decide)
  refine hKx _ _ ?_
  go_wp2
  go_ret
  refine ⟨rfl, 1, #[.cells #[.string b1, .int .i64 n1, .int .i64 a1, .int .i64 k1, .string s1, .int .i64 u1] 34, .cells #[.string b2, .int .i64 n2, .int .i64 a2, .int .i64 k2, .string s2, .int .i64 u2] 34, .cells #[.int .i64 c, .int .i64 d] 3], ?_⟩
  first | rw [hWg] | skip
  rw [alloc_eq_grow, grow_grow]; rfl
 ·exact ⟨false, false, false, false, false, false, false, false, false, false, false, false, false, rfl, rfl, by simp, rfl⟩
 ·decide
end Go.Proofs.YtfgkpbkphmeigaaGreatDoor
/-
 Acts put in order by slices.SortFunc.
-/
namespace Go.Proofs.YtfgkpbkphmeigaaGreatDoor
open Go Go.Ai Go.Sort Go.Proofs
set_option linter.unusedSimpArgs false
set_option linter.unusedVariables false
set_option maxHeartbeats 4000000
def C_insF : AC := (.seq (.reg false [gM 10 1,gI 11 (.bin .add (.t 10) (oI 1)),gM 8 11] (kP [0,1,2,3,8] [] [1000000]))
 (.block 0 (.loop (.seq (.seq (.reg false [gM 12 8,gM 13 2,gI 14 (.bin .lss (.t 12) (.t 13))] (kP [0,1,2,3,8,14] [] [1000000]))
 (.cond (.t 14)
 .skip
 (.exit 0)))
 (.seq (.block 1 (.seq (.reg false [gM 17 8,gM 9 17] (kP [0,1,2,3,8,9] [] [1000000]))
 (.block 2 (.loop (.seq (.seq (.reg true [gM 18 9,gM 19 1,gI 20 (.bin .gtr (.t 18) (.t 19)),gM 21 20,gG 22 21 true (.mv (.t 3)),gG 23 21 true (.mv (.t 0)),gG 24 21 true (.mv (.t 9)),gG 25 21 true (.iadr 6 (.t 23) (.t 24)),gG 26 21 true (.load true 6 (.t 25)),gG 27 21 true (.mv (.t 0)),gG 28 21 true (.mv (.t 9)),gG 29 21 true (.bin .sub (.t 28) (oI 1)),gG 30 21 true (.iadr 6 (.t 27) (.t 29)),gG 31 21 true (.load true 6 (.t 30)),gG 32 21 true (.call (.t 22) [(.t 26),(.t 31)]),gG 33 21 true (.bin .lss (.t 32) (oI 0)),gI 34 (.pick (.t 21) (.t 33) (.v (.bool false)))] (kP [0,1,2,3,8,9,34] [] [1000000]))
 (.cond (.t 34)
 .skip
 (.exit 2)))
 (.seq (.block 3 (.reg true [gM 37 0,gM 38 9,gM 39 0,gM 40 9,gI 41 (.bin .sub (.t 40) (oI 1)),gM 42 0,gM 43 9,gI 44 (.bin .sub (.t 43) (oI 1)),gI 45 (.iadr 6 (.t 42) (.t 44)),gI 46 (.load true 6 (.t 45)),gM 47 0,gM 48 9,gI 49 (.iadr 6 (.t 47) (.t 48)),gI 50 (.load true 6 (.t 49)),gI 51 (.iadr 6 (.t 37) (.t 38)),gN (.store 6 (.t 51) (.t 46)),gI 52 (.iadr 6 (.t 39) (.t 41)),gN (.store 6 (.t 52) (.t 50))] (kP [0,1,2,3,8,9] [] [1000000])))
 (.reg false [gM 35 9,gI 36 (.bin .sub (.t 35) (oI 1)),gM 9 36] (kP [0,1,2,3,8,9] [] [1000000]))))))))
 (.reg false [gM 15 8,gI 16 (.bin .add (.t 15) (oI 1)),gM 8 16] (kP [0,1,2,3,8] [] [1000000])))))))
theorem fcms_insF : FsT Tryz.prog 245 Tryz.f245 C_insF [] := fcms_mk [aN [0,1,2,3,8] [] [1000000],aN [0,1,2,3,8,14] [] [1000000],aN [0,1,2,3,8,9] [] [1000000],aN [0,1,2,3,8,9,34] [] [1000000],aN [0,1,2,3,8,9] [] [1000000],aN [0,1,2,3,8,9] [] [1000000],aN [0,1,2,3,8] [] [1000000]] Tryz.func245 (by kernel_rfl)
def C_pdqF : AC := (.seq (.reg false [gI 10 (.mv (.v (.bool true)))] (kP [0,1,2,3,4,10] [] [1000000]))
 (.seq (.reg false [gI 11 (.mv (.v (.bool true)))] (kP [0,1,2,3,4,10,11] [] [1000000]))
 (.block 0 (.loop (.block 1 (.seq (.reg false [gM 21 2,gM 22 1,gI 23 (.bin .sub (.t 21) (.t 22)),gM 12 23] (kP [0,1,2,3,4,10,11,12] [] [1000000]))
 (.seq (.seq (.reg false [gM 24 12,gI 25 (.bin .leq (.t 24) (oI 12))] (kP [0,1,2,3,4,10,11,12,25] [] [1000000]))
 (.cond (.t 25)
 (.seq (.reg false [gM 26 0,gM 27 1,gM 28 2,gM 29 4,gI 30 (.callm (.f 245) [(.t 26),(.t 27),(.t 28),(.t 29)] ⟨[],[1000000],[],[1000000],[1000000]⟩)] (kP [] [] [1000000]))
 .ret)
 .skip))
 (.seq (.seq (.reg false [gM 31 3,gI 32 (.bin .eql (.t 31) (oI 0))] (kP [0,1,2,3,4,10,11,12,32] [] [1000000]))
 (.cond (.t 32)
 (.seq (.reg false [gM 33 0,gM 34 1,gM 35 2,gM 36 4,gI 37 (.call (.f 247) [(.t 33),(.t 34),(.t 35),(.t 36)])] (kP [] [] [1000000]))
 .ret)
 .skip))
 (.seq (.seq (.reg false [gM 38 10,gI 39 (.un .not (.t 38))] (kP [0,1,2,3,4,10,11,12,39] [] [1000000]))
 (.cond (.t 39)
 (.seq (.reg false [gM 40 0,gM 41 1,gM 42 2,gM 43 4,gI 44 (.call (.f 248) [(.t 40),(.t 41),(.t 42),(.t 43)])] (kP [0,1,2,3,4,10,11,12] [] [1000000]))
 (.reg false [gM 45 3,gI 46 (.bin .sub (.t 45) (oI 1)),gM 3 46] (kP [0,1,2,3,4,10,11,12] [] [1000000])))
 .skip))
 (.seq (.reg false [gM 48 0,gM 49 1,gM 50 2,gM 51 4,gI 52 (.call (.f 249) [(.t 48),(.t 49),(.t 50),(.t 51)]),gM 47 52,gI 53 (.extr (.t 47) 0),gI 54 (.extr (.t 47) 1),gM 13 53,gM 14 54] (kP [0,1,2,3,4,10,11,12,13,14] [] [1000000]))
 (.seq (.seq (.reg false [gM 55 14,gI 56 (.bin .eql (.t 55) (oI 2))] (kP [0,1,2,3,4,10,11,12,13,14,56] [] [1000000]))
 (.cond (.t 56)
 (.seq (.reg false [gM 57 0,gM 58 1,gM 59 2,gM 60 4,gI 61 (.call (.f 250) [(.t 57),(.t 58),(.t 59),(.t 60)])] (kP [0,1,2,3,4,10,11,12,13] [] [1000000]))
 (.seq (.reg false [gM 62 2,gI 63 (.bin .sub (.t 62) (oI 1)),gM 64 13,gM 65 1,gI 66 (.bin .sub (.t 64) (.t 65)),gI 67 (.bin .sub (.t 63) (.t 66)),gM 13 67] (kP [0,1,2,3,4,10,11,12,13] [] [1000000]))
 (.reg false [gI 14 (.mv (oI 1))] (kP [0,1,2,3,4,10,11,12,13,14] [] [1000000]))))
 .skip))
 (.seq (.seq (.reg false [gM 68 10,gM 69 68,gG 70 69 true (.mv (.t 11)),gI 71 (.pick (.t 69) (.t 70) (.v (.bool false))),gM 72 71,gG 73 72 true (.mv (.t 14)),gG 74 72 true (.bin .eql (.t 73) (oI 1)),gI 75 (.pick (.t 72) (.t 74) (.v (.bool false)))] (kP [0,1,2,3,4,10,11,12,13,75] [] [1000000]))
 (.cond (.t 75)
 (.seq (.reg false [gM 76 0,gM 77 1,gM 78 2,gM 79 4,gI 80 (.call (.f 251) [(.t 76),(.t 77),(.t 78),(.t 79)])] (kP [0,1,2,3,4,10,11,12,13,80] [] [1000000]))
 (.cond (.t 80)
 .ret
 .skip))
 .skip))
 (.seq (.seq (.reg true [gM 81 1,gI 82 (.bin .gtr (.t 81) (oI 0)),gM 83 82,gG 84 83 true (.mv (.t 4)),gG 85 83 true (.mv (.t 0)),gG 86 83 true (.mv (.t 1)),gG 87 83 true (.bin .sub (.t 86) (oI 1)),gG 88 83 true (.iadr 6 (.t 85) (.t 87)),gG 89 83 true (.load true 6 (.t 88)),gG 90 83 true (.mv (.t 0)),gG 91 83 true (.mv (.t 13)),gG 92 83 true (.iadr 6 (.t 90) (.t 91)),gG 93 83 true (.load true 6 (.t 92)),gG 94 83 true (.call (.t 84) [(.t 89),(.t 93)]),gG 95 83 true (.bin .lss (.t 94) (oI 0)),gG 96 83 true (.un .not (.t 95)),gI 97 (.pick (.t 83) (.t 96) (.v (.bool false)))] (kP [0,1,2,3,4,10,11,12,13,97] [] [1000000]))
 (.cond (.t 97)
 (.seq (.reg false [gM 98 0,gM 99 1,gM 100 2,gM 101 13,gM 102 4,gI 103 (.call (.f 252) [(.t 98),(.t 99),(.t 100),(.t 101),(.t 102)]),gM 15 103] (kP [0,2,3,4,10,11,15] [] [1000000]))
 (.seq (.reg false [gM 104 15,gM 1 104] (kP [0,1,2,3,4,10,11] [] [1000000]))
 (.exit 1)))
 .skip))
 (.seq (.reg false [gM 106 0,gM 107 1,gM 108 2,gM 109 13,gM 110 4,gI 111 (.call (.f 253) [(.t 106),(.t 107),(.t 108),(.t 109),(.t 110)]),gM 105 111,gI 112 (.extr (.t 105) 0),gI 113 (.extr (.t 105) 1),gM 16 112,gM 17 113] (kP [0,1,2,3,4,12,16,17] [] [1000000]))
 (.seq (.reg false [gM 114 17,gM 11 114] (kP [0,1,2,3,4,11,12,16] [] [1000000]))
 (.seq (.reg false [gM 115 16,gM 116 1,gI 117 (.bin .sub (.t 115) (.t 116)),gM 118 2,gM 119 16,gI 120 (.bin .sub (.t 118) (.t 119)),gM 18 117,gM 19 120] (kP [0,1,2,3,4,11,12,16,18,19] [] [1000000]))
 (.seq (.reg false [gM 121 12,gI 122 (.bin .quo (.t 121) (oI 8)),gM 20 122] (kP [0,1,2,3,4,11,16,18,19,20] [] [1000000]))
 (.seq (.reg false [gM 123 18,gM 124 19,gI 125 (.bin .lss (.t 123) (.t 124))] (kP [0,1,2,3,4,11,16,18,19,20,125] [] [1000000]))
 (.cond (.t 125)
 (.seq (.reg false [gM 126 18,gM 127 20,gI 128 (.bin .geq (.t 126) (.t 127)),gM 10 128] (kP [0,1,2,3,4,10,11,16] [] [1000000]))
 (.seq (.reg false [gM 129 0,gM 130 1,gM 131 16,gM 132 3,gM 133 4,gI 134 (.call (.f 186) [(.t 129),(.t 130),(.t 131),(.t 132),(.t 133)])] (kP [0,2,3,4,10,11,16] [] [1000000]))
 (.reg false [gM 135 16,gI 136 (.bin .add (.t 135) (oI 1)),gM 1 136] (kP [0,1,2,3,4,10,11] [] [1000000]))))
 (.seq (.reg false [gM 137 19,gM 138 20,gI 139 (.bin .geq (.t 137) (.t 138)),gM 10 139] (kP [0,1,2,3,4,10,11,16] [] [1000000]))
 (.seq (.reg false [gM 140 0,gM 141 16,gI 142 (.bin .add (.t 141) (oI 1)),gM 143 2,gM 144 3,gM 145 4,gI 146 (.call (.f 186) [(.t 140),(.t 142),(.t 143),(.t 144),(.t 145)])] (kP [0,1,3,4,10,11,16] [] [1000000]))
 (.reg false [gM 147 16,gM 2 147] (kP [0,1,2,3,4,10,11] [] [1000000])))))))))))))))))))))))
theorem fcms_pdqF : FsT Tryz.prog 186 Tryz.f186 C_pdqF [] := fcms_mk [aN [0,1,2,3,4,10] [] [1000000],aN [0,1,2,3,4,10,11] [] [1000000],aN [0,1,2,3,4,10,11,12] [] [1000000],aN [0,1,2,3,4,10,11,12,25] [] [1000000],⟨(kP [] [] [1000000]),[],[],[],[(30,⟨[],[1000000],[],[1000000],[1000000]⟩)]⟩,aN [0,1,2,3,4,10,11,12,32] [] [1000000],aN [] [] [1000000],aN [0,1,2,3,4,10,11,12,39] [] [1000000],aN [0,1,2,3,4,10,11,12] [] [1000000],aN [0,1,2,3,4,10,11,12] [] [1000000],aN [0,1,2,3,4,10,11,12,13,14] [] [1000000],aN [0,1,2,3,4,10,11,12,13,14,56] [] [1000000],aN [0,1,2,3,4,10,11,12,13] [] [1000000],aN [0,1,2,3,4,10,11,12,13] [] [1000000],aN [0,1,2,3,4,10,11,12,13,14] [] [1000000],aN [0,1,2,3,4,10,11,12,13,75] [] [1000000],aN [0,1,2,3,4,10,11,12,13,80] [] [1000000],aN [0,1,2,3,4,10,11,12,13,97] [] [1000000],aN [0,2,3,4,10,11,15] [] [1000000],aN [0,1,2,3,4,10,11] [] [1000000],aN [0,1,2,3,4,12,16,17] [] [1000000],aN [0,1,2,3,4,11,12,16] [] [1000000],aN [0,1,2,3,4,11,12,16,18,19] [] [1000000],aN [0,1,2,3,4,11,16,18,19,20] [] [1000000],aN [0,1,2,3,4,11,16,18,19,20,125] [] [1000000],aN [0,1,2,3,4,10,11,16] [] [1000000],aN [0,2,3,4,10,11,16] [] [1000000],aN [0,1,2,3,4,10,11] [] [1000000],aN [0,1,2,3,4,10,11,16] [] [1000000],aN [0,1,3,4,10,11,16] [] [1000000],aN [0,1,2,3,4,10,11] [] [1000000]] Tryz.func186 (by kernel_rfl)
def C_srtF : AC := (.seq (.reg false [gM 5 0,gI 6 (.len (.t 5)),gM 4 6] (kP [0,1,4] [] [1000000]))
 (.reg false [gM 7 0,gM 8 4,gM 9 4,gI 10 (.conv .u64 (.t 9)),gI 11 (.call (.f 187) [(.t 10)]),gM 12 1,gI 13 (.callm (.f 186) [(.t 7),(oI 0),(.t 8),(.t 11),(.t 12)] ⟨[],[1000000],[],[1000000],[1000000]⟩)] (kP [] [] [1000000])))
theorem fcms_srtF : FsT Tryz.prog 94 Tryz.f94 C_srtF [] := fcms_mk [aN [0,1,4] [] [1000000],⟨(kP [] [] [1000000]),[],[],[],[(13,⟨[],[1000000],[],[1000000],[1000000]⟩)]⟩] Tryz.func94 (by kernel_rfl)
def C_bitsLen : AC := (.seq (.reg false [gI 2 (.mv (oI 0))] (kP [0] [] []))
 (.seq (.cond (.v (.bool false))
 (.seq (.reg false [gM 3 0,gI 4 (.conv .u32 (.t 3)),gI 5 (.call (.f 254) [(.t 4)]),gM 2 5] (kP [2] [] []))
 .ret)
 .skip)
 (.seq (.reg false [gM 6 0,gI 7 (.call (.f 255) [(.t 6)]),gM 2 7] (kP [2] [] []))
 .ret)))
theorem fc_bitsLen : FcT Tryz.prog 187 Tryz.f187 C_bitsLen [.t 2] := fc_mk [aN [0] [] [],aN [2] [] [],aN [2] [] []] Tryz.func187 (by kernel_rfl)
def C_bitsLen64 : AC := (.seq (.reg false [gI 2 (.mv (oI 0))] (kP [0,2] [] []))
 (.seq (.seq (.reg false [gM 3 0,gI 4 (.bin .geq (.t 3) (.v (.int .u64 (4294967296))))] (kP [0,2,4] [] []))
 (.cond (.t 4)
 (.seq (.reg false [gM 5 0,gI 6 (.bin .shr (.t 5) (.v (.int .u64 (32)))),gM 0 6] (kP [0] [] []))
 (.reg false [gI 2 (.mv (oI 32))] (kP [0,2] [] [])))
 .skip))
 (.seq (.seq (.reg false [gM 7 0,gI 8 (.bin .geq (.t 7) (.v (.int .u64 (65536))))] (kP [0,2,8] [] []))
 (.cond (.t 8)
 (.seq (.reg false [gM 9 0,gI 10 (.bin .shr (.t 9) (.v (.int .u64 (16)))),gM 0 10] (kP [0,2] [] []))
 (.reg false [gM 11 2,gI 12 (.bin .add (.t 11) (oI 16)),gM 2 12] (kP [0,2] [] [])))
 .skip))
 (.seq (.seq (.reg false [gM 13 0,gI 14 (.bin .geq (.t 13) (.v (.int .u64 (256))))] (kP [0,2,14] [] []))
 (.cond (.t 14)
 (.seq (.reg false [gM 15 0,gI 16 (.bin .shr (.t 15) (.v (.int .u64 (8)))),gM 0 16] (kP [0,2] [] []))
 (.reg false [gM 17 2,gI 18 (.bin .add (.t 17) (oI 8)),gM 2 18] (kP [0,2] [] [])))
 .skip))
 (.seq (.reg false [gM 19 2,gM 20 0,gI 21 (.conv .u8 (.t 20)),gI 22 (.idx (.v (.string (ByteArray.mk #[0,1,2,2,3,3,3,3,4,4,4,4,4,4,4,4,5,5,5,5,5,5,5,5,5,5,5,5,5,5,5,5,6,6,6,6,6,6,6,6,6,6,6,6,6,6,6,6,6,6,6,6,6,6,6,6,6,6,6,6,6,6,6,6,7,7,7,7,7,7,7,7,7,7,7,7,7,7,7,7,7,7,7,7,7,7,7,7,7,7,7,7,7,7,7,7,7,7,7,7,7,7,7,7,7,7,7,7,7,7,7,7,7,7,7,7,7,7,7,7,7,7,7,7,7,7,7,7,8,8,8,8,8,8,8,8,8,8,8,8,8,8,8,8,8,8,8,8,8,8,8,8,8,8,8,8,8,8,8,8,8,8,8,8,8,8,8,8,8,8,8,8,8,8,8,8,8,8,8,8,8,8,8,8,8,8,8,8,8,8,8,8,8,8,8,8,8,8,8,8,8,8,8,8,8,8,8,8,8,8,8,8,8,8,8,8,8,8,8,8,8,8,8,8,8,8,8,8,8,8,8,8,8,8,8,8,8,8,8,8,8,8,8,8,8,8,8,8,8,8,8,8,8,8,8,8]))) (.t 21)),gI 23 (.conv .i64 (.t 22)),gI 24 (.bin .add (.t 19) (.t 23)),gM 2 24] (kP [2] [] []))
 .ret)))))
theorem fc_bitsLen64 : FcT Tryz.prog 255 Tryz.f255 C_bitsLen64 [.t 2] := fc_mk [aN [0,2] [] [],aN [0,2,4] [] [],aN [0] [] [],aN [0,2] [] [],aN [0,2,8] [] [],aN [0,2] [] [],aN [0,2] [] [],aN [0,2,14] [] [],aN [0,2] [] [],aN [0,2] [] [],aN [2] [] []] Tryz.func255 (by kernel_rfl)
theorem swoA : SWO (ltOf cmpO) where
 irrefl x := decide_eq_false ((swoO fun _ => True).irr x trivial)
 trans x y z h1 h2 := decide_eq_true ((swoO fun _ => True).tr x y z trivial trivial trivial (of_decide_eq_true h1) (of_decide_eq_true h2))
 ntrans x y z h1 h2 := decide_eq_false ((swoO fun _ => True).ntr x y z trivial trivial trivial (of_decide_eq_false h1) (of_decide_eq_false h2))
theorem cmpO_W (x y : Opr) : (if Lib.compareBytes x.b.data.toList y.b.data.toList = 0 then sdW x.no y.no else Lib.compareBytes x.b.data.toList y.b.data.toList) = cmpO x y := by
 unfold cmpO cmpS cmpI sdW
 by_cases h : Lib.compareBytes x.b.data.toList y.b.data.toList = 0 <;> simp [h]
theorem layO (blk off size : Nat) (w : World) : CmpLays Tryz.prog 78 #[] oprV 6 cmpO blk off size w := fun m os dk _ x y => by
 have h := byActW x.b y.b x.al y.al x.no y.no x.at_ y.at_ x.kd y.kd x.un y.un (sortWorldK oprV 6 w blk off m dk os)
 rw [cmpO_W] at h
 exact h
theorem perm_of {α : Type} [Inhabited α] {d d' : Array α} (h : PermIn 0 d.size d d') : d'.toList.Perm d.toList := by
 obtain ⟨h1, _, h3⟩ := h
 have e1 : d'.extract 0 d.size = d' := by rw [← h1]; exact Array.extract_size
 have e2 : d.extract 0 d.size = d := Array.extract_size
 rwa [e1, e2] at h3
theorem ord_of {d : Array Opr} (h : SortedIn (ltOf cmpO) 0 d.size d) : Ord cmpO d.toList := by
 unfold Ord
 rw [List.pairwise_iff_getElem]
 intro i j hi hj hij
 have := h i j (Nat.zero_le _) hij (by simpa using hj)
 have := of_decide_eq_false this
 rw [getElem!_pos d i (by simpa using hi), getElem!_pos d j (by simpa using hj)] at this
 simpa using this
abbrev oRow (l : List Opr) : Row := ⟨0, 34, 6, l.map oprS⟩
theorem srtO_fcms (p q : List Opr) (hp : ActOk p) (hq : ActOk q) (hc : cfB p q = false) (hl : refM p q ≠ []) (hsz : (refM p q).length < 4611686018427387904) :
  FCMS Tryz.prog 94 [1000000] ⟨[], [(1000000, oRow (refM p q))]⟩ [.one (.ow 1000000 0), .one (.fn 78 [])] (fun H r => H = ⟨[], [(1000000, oRow (outM p q))]⟩ ∧ r = .tu []) := by
 have hlen : (outM p q).length = (refM p q).length := by
  have h1 := refM_sort hp hq hc (s := ssort cmpO (refM p q)) (ssort_perm _) (ssort_ord (swoO fun _ => True) fun _ _ => trivial)
  rw [← h1]; exact (ssort_perm _).length_eq
 refine fcms_opr [1000000] (refM p q) (outM p q) hl hlen _ ⟨Tryz.f94, Tryz.func94, by kernel_rfl, by kernel_rfl⟩ (fun _ _ => .tuple #[])
  (fun w ok base E g cap he => .tu (us := []) rfl (fun i x u h => by simp at h))
  (fun g cap w hH hg hcp => ?_)
 have eg : ∀ args w, (callFunc 78 args).run Tryz.prog w = .ok (.enter 78 args) w := enters_of Tryz.func78 (by kernel_rfl) rfl
 have hcon := AnyQ.slices_SortFunc LlaysSF94 6 Tryz.isAgg34 Tryz.sizeOf34 oprV (fun _ => rfl) (fun x v hv => by simp [oprV] at hv; rcases hv with rfl | rfl | rfl | rfl | rfl | rfl <;> rfl) cmpO swoA 78 #[] g 0 cap (refM p q).toArray w eg (layO g 0 _ w) hH hg (by simpa using hsz)
 refine Calls.mono hcon ?_
 rintro e w' ⟨rfl, d', n, os, hP, hS, rfl⟩
 refine ⟨rfl, n, os, ?_⟩
 have hd : d'.toList = outM p q := refM_sort hp hq hc (perm_of hP) (ord_of (by rw [hP.1]; exact hS))
 rw [← hd]
set_option maxRecDepth 8000 in
theorem bitsLen64_fc (n : Int) (h : 0 ≤ n ∧ n ≤ 12) : ∃ v : Int, FC Tryz.prog 255 none [.one (.g (.int .u64 n))] (fun _ r => r = iv v) := by
 obtain ⟨h1, h2⟩ := h
 refine Exists.imp (fun v => fc_bitsLen64 (by simp +arith)) ?_
 unfold C_bitsLen64
 generalize hb : ByteArray.mk _ = tab
 have hs : tab.size = 256 := by subst hb; rfl
 clear hb
 apply Exists.intro
 simp (maxSteps := 1000000) (disch := omega) only [go_sem]
 rw [IntWalk.u8_in n ⟨h1, by omega⟩, hs]
 exact ⟨by omega, rfl⟩
theorem bitsLen_fc (n : Int) (h : 0 ≤ n ∧ n ≤ 12) : ∃ v : Int, FC Tryz.prog 187 none [.one (.g (.int .u64 n))] (fun _ r => r = iv v) := by
 obtain ⟨v, hv⟩ := bitsLen64_fc n h
 refine ⟨v, fc_bitsLen (by simp +arith) ?_⟩
 unfold C_bitsLen
 simp (maxSteps := 1000000) (disch := omega) only [go_sem]
 refine CALL_det hv (.inl rfl) ?_
 simp (maxSteps := 1000000) (disch := omega) only [go_sem]
abbrev byF : Val := .one (.fn 78 [])
theorem insF_fcm : FCMS Tryz.prog 245 [1000000] ⟨[], [(1000000, oRow [])]⟩ [.one (.ow 1000000 0), iv 0, iv 0, byF] (fun H r => H = ⟨[], [(1000000, oRow [])]⟩ ∧ r = .tu []) := by
 refine fcms_insF (K := ⟨[], [], [1000000]⟩) (by simp +arith) (by simp) (by simp [XK]) ?_
 unfold C_insF
 simp (maxSteps := 1000000) (disch := omega) only [go_sem]
 refine ex_rnd 2 ?_
 simp (maxSteps := 1000000) (disch := omega) only [go_sem]
 rfl
theorem pdqF_fcm (v : Int) : FCMS Tryz.prog 186 [1000000] ⟨[], [(1000000, oRow [])]⟩ [.one (.ow 1000000 0), iv 0, iv 0, iv v, byF] (fun H r => H = ⟨[], [(1000000, oRow [])]⟩ ∧ r = .tu []) := by
 refine fcms_pdqF (K := ⟨[], [], [1000000]⟩) (by simp +arith) (by simp) (by simp [XK]) ?_
 unfold C_pdqF
 simp (maxSteps := 1000000) (disch := omega) only [go_sem]
 refine ex_rnd 2 ?_
 simp (maxSteps := 1000000) (disch := omega) only [go_sem]
 refine ⟨rfl, CALLM_det insF_fcm ⟨rfl, rfl⟩ ?_⟩
 simp (maxSteps := 1000000) (disch := omega) only [go_sem]
 rfl
theorem srtF0_fcms : FCMS Tryz.prog 94 [1000000] ⟨[], [(1000000, oRow [])]⟩ [.one (.ow 1000000 0), byF] (fun H r => H = ⟨[], [(1000000, oRow [])]⟩ ∧ r = .tu []) := by
 refine fcms_srtF (K := ⟨[], [], [1000000]⟩) (by simp +arith) (by simp) (by simp [XK]) ?_
 obtain ⟨v, hv⟩ := bitsLen_fc 0 (by omega)
 unfold C_srtF
 simp (maxSteps := 1000000) (disch := omega) only [go_sem]
 refine CALL_det hv (.inl rfl) ?_
 simp (maxSteps := 1000000) (disch := omega) only [go_sem]
 refine ⟨rfl, CALLM_det (pdqF_fcm v) ⟨rfl, rfl⟩ ?_⟩
 simp (maxSteps := 1000000) (disch := omega) only [go_sem]
 rfl
/-- What the reference merges, put in order: what the program merges. -/
theorem srtO_all (p q : List Opr) (hp : ActOk p) (hq : ActOk q) (hc : cfB p q = false) (hsz : (refM p q).length < 4611686018427387904) :
  FCMS Tryz.prog 94 [1000000] ⟨[], [(1000000, oRow (refM p q))]⟩ [.one (.ow 1000000 0), byF] (fun H r => H = ⟨[], [(1000000, oRow (outM p q))]⟩ ∧ r = .tu []) := by
 by_cases h : refM p q = []
 ·have e : outM p q = [] := by
   refine List.eq_nil_iff_forall_not_mem.2 fun x hx => ?_
   have := (refM_mem hc).2 (outM_mem.1 hx)
   rw [h] at this; cases this
  rw [h, e]; exact srtF0_fcms
 ·exact srtO_fcms p q hp hq hc h hsz
end Go.Proofs.YtfgkpbkphmeigaaGreatDoor
