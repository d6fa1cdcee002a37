
/-
 blocks of at most one block, walked.
-/
import Derived.Test.YtiiblflmfadmbaaBlh
import Derived.Test.YtiiblflmfadmbaaBli
import Derived.RangeFuncFrom
import Derived.RangeFuncBox
namespace Go.Proofs.Ytiiblflmfadmbaa
open Go Go.Proofs Go.RowKit Go.Shelf Go.Ai
set_option linter.unusedSimpArgs false
set_option linter.unusedVariables false
set_option maxHeartbeats 4000000
attribute [local go_sem] Oper.semAt_some
abbrev byT : TypeId := 5
abbrev bsT : TypeId := 37
def byV (n : Int) : Value := .int .u8 n
/-- v is a slice of the bytes B. -/
def BytesAt (w : World) (v : Value) (B : List Int) : Prop := ∃ b off c, v = .slice (some ⟨b, off, none⟩) B.length c ∧ ∀ j x, B[j]? = some x → w.cell? ⟨b, off + j, none⟩ = some (byV x)
theorem KpB.trans {n₀ Bs Bn : Nat} {A B C : World} (h : KpB n₀ Bs Bn A B) (k : KpB n₀ Bs Bn B C) : KpB n₀ Bs Bn A C := ⟨h.1.trans k.1, k.2.1.trans h.2.1, k.2.2.trans h.2.2⟩
theorem KpB.b {n₀ Bs Bn : Nat} {w : World} (hn : n₀ ≤ w.heap.size) (h1 : Bs < w.heap.size) (h2 : Bn < w.heap.size) (W : World) (l : Nat) (o o' : Obj) (hl : w.heap.size ≤ l) (h : W.heap[l]? = some o) (hc : o.isCells = false) (hw : o.isWalk = false) : KpB n₀ Bs Bn W (W.putObj l o') :=
 ⟨belowK_b hn W l o o' hl h hc hw, World.putObj_heap_other (by omega), World.putObj_heap_other (by omega)⟩
theorem wpInV {n : Nat} {P : Program} {o : Oper} {a : Act} {w w' : World} {v : Value} {l : Nat} {K : Act → World → Prop} {Q : Exit → Act → World → Prop} (ho : ∀ c, o.op ≠ .defer c) (hr : (execOp a.eval o).run P w = .ok (.value v) w') (hK : K (a.put o.dst v) w') : o.wpIn (Fence.wide.inRound l) n P a w K Q :=
 ⟨fun _ _ => trivial, by rw [show (Fence.wide.inRound l).round = some l from rfl, Oper.semAt_some l _ _ ho, hr]; exact hK⟩
theorem wpInS {n : Nat} {P : Program} {o : Oper} {a : Act} {w w' : World} {l : Nat} {K : Act → World → Prop} {Q : Exit → Act → World → Prop} (ho : ∀ c, o.op ≠ .defer c) (hr : (execOp a.eval o).run P w = .ok .skip w') (hK : K (a.put o.dst undef) w') : o.wpIn (Fence.wide.inRound l) n P a w K Q :=
 ⟨fun _ _ => trivial, by rw [show (Fence.wide.inRound l).round = some l from rfl, Oper.semAt_some l _ _ ho, hr]; exact hK⟩
theorem wpInC {n : Nat} {P : Program} {o : Oper} {a : Act} {w : World} {l : Nat} {f : FuncId} {args : Array Value} {R : Ending → World → Prop} {K : Act → World → Prop} {Q : Exit → Act → World → Prop} (ho : ∀ c, o.op ≠ .defer c) (hr : (execOp a.eval o).run P w = .ok (.enter f args) w)
  (hc : Calls P f args w R) (hK : ∀ e w', R e w' → ∃ v, e = .returned v ∧ K (a.put o.dst v) w') : o.wpIn (Fence.wide.inRound l) n P a w K Q :=
 ⟨fun _ _ => trivial, by
  rw [show (Fence.wide.inRound l).round = some l from rfl, Oper.semAt_some l _ _ ho, hr, Oper.uponIn_enter]
  refine ⟨fun h => by simp [Fence.wide] at h, ((callsIn_wide.2 hc).inRound l).mono ?_⟩
  rintro e w' h
  obtain ⟨v, rfl, h2⟩ := hK e w' h
  exact h2⟩
/-- Where a round of blocks stands, by what is done: the call, the append, the store. -/
def RdSt (n0 : Nat) (B : List Int) (W : World) (l0 l1 l2 l3 l4 l5 l6 : Bool) (v16 v17 : Value) (wc : World) : Prop :=
 (l4 = false → wc = W.drew) ∧ (l4 = true → l1 = true ∧ l2 = true ∧ l3 = true) ∧ (l5 = true → l4 = true ∧ l0 = true) ∧ (l6 = true → l5 = true) ∧ (l4 = true → l6 = false → W.grownBy wc none) ∧ (l4 = true → l5 = false → BytesAt wc v16 B) ∧
 (l5 = true → l6 = false → wc.ownsRow n0 byT 1 v17 B.length (B.map byV)) ∧
 (l6 = true → ∃ w5, W.grownBy w5 none ∧ w5.ownsRow n0 byT 1 v17 B.length (B.map byV) ∧ wc = w5.setCell ⟨n0 + 2, 0, none⟩ v17)
set_option maxRecDepth 100000 in
set_option maxHeartbeats 2000000 in
theorem blocks_any (w : World) (b off len cap : Nat) (tg : ByteArray) (ov : Bool) (B : List Int) (h1 : 1 ≤ len) (hlen : len ≤ 100) (hcap : len ≤ cap) (hBl : B.length ≤ 1000000)
  (henc : ∀ W : World, Below w.heap.size w W → Calls Try.prog 49 #[.string tg, .slice (some ⟨b, off, none⟩) len len, .bool ov] W fun e w' => ∃ v, e = .returned v ∧ W.grownBy w' none ∧ BytesAt w' v B) :
  Calls Try.prog 26 #[.string tg, .slice (some ⟨b, off, none⟩) len cap, .bool ov] w fun e w' => ∃ v, e = .returned v ∧ w'.ownsRow w.heap.size byT 1 v B.length (B.map byV) ∧ Below w.heap.size w w' := by
 refine (callsIn_wide (n := 5)).1 ?_
 refine callsIn_of_wp_marks Try.func26 rfl trivial ?_ rfl
 simp only [Try.ntmps26, List.size_toArray, List.length_cons, List.length_nil, Nat.reduceAdd, Nat.reduceSub, Array.replicate_succ, Array.replicate_zero, List.push_toArray, List.append_toArray, List.nil_append, List.cons_append]
 gi_wp2_with (refine ⟨trivial, ?_⟩; gi_at_call 48; refine (chunk_in _ _ _ _ _).mono ?_; rintro e w' ⟨rfl, rfl⟩)
 have bT : Boxed (((((w.alloc (.cells #[.string tg] 9)).alloc (.cells #[.bool ov] 4)).alloc (.cells #[.slice none 0 0] bsT)).alloc (.cells #[.slice (some ⟨b, off, none⟩) len cap] 26)).alloc (.cells #[.int .i64 100] 3)) w.heap.size 9 (.string tg) := ((((Boxed.new w _ _).alloc _).alloc _).alloc _).alloc _
 have bV : Boxed (((((w.alloc (.cells #[.string tg] 9)).alloc (.cells #[.bool ov] 4)).alloc (.cells #[.slice none 0 0] bsT)).alloc (.cells #[.slice (some ⟨b, off, none⟩) len cap] 26)).alloc (.cells #[.int .i64 100] 3)) (w.heap.size + 1) 4 (.bool ov) := by
  have h := Boxed.new (w.alloc (.cells #[.string tg] 9)) 4 (.bool ov)
  rw [World.size_alloc] at h
  exact ((h.alloc _).alloc _).alloc _
 have bO : Boxed (((((w.alloc (.cells #[.string tg] 9)).alloc (.cells #[.bool ov] 4)).alloc (.cells #[.slice none 0 0] bsT)).alloc (.cells #[.slice (some ⟨b, off, none⟩) len cap] 26)).alloc (.cells #[.int .i64 100] 3)) (w.heap.size + 2) bsT (.slice none 0 0) := by
  have h := Boxed.new ((w.alloc (.cells #[.string tg] 9)).alloc (.cells #[.bool ov] 4)) bsT (.slice none 0 0)
  rw [World.size_alloc, World.size_alloc] at h
  exact (h.alloc _).alloc _
 have bS : Boxed (((((w.alloc (.cells #[.string tg] 9)).alloc (.cells #[.bool ov] 4)).alloc (.cells #[.slice none 0 0] bsT)).alloc (.cells #[.slice (some ⟨b, off, none⟩) len cap] 26)).alloc (.cells #[.int .i64 100] 3)) (w.heap.size + 3) 26 (.slice (some ⟨b, off, none⟩) len cap) := by
  have h := Boxed.new (((w.alloc (.cells #[.string tg] 9)).alloc (.cells #[.bool ov] 4)).alloc (.cells #[.slice none 0 0] bsT)) 26 (.slice (some ⟨b, off, none⟩) len cap)
  rw [World.size_alloc, World.size_alloc, World.size_alloc] at h
  exact h.alloc _
 have bN : Boxed (((((w.alloc (.cells #[.string tg] 9)).alloc (.cells #[.bool ov] 4)).alloc (.cells #[.slice none 0 0] bsT)).alloc (.cells #[.slice (some ⟨b, off, none⟩) len cap] 26)).alloc (.cells #[.int .i64 100] 3)) (w.heap.size + 4) 3 (.int .i64 100) := by
  have h := Boxed.new ((((w.alloc (.cells #[.string tg] 9)).alloc (.cells #[.bool ov] 4)).alloc (.cells #[.slice none 0 0] bsT)).alloc (.cells #[.slice (some ⟨b, off, none⟩) len cap] 26)) 3 (.int .i64 100)
  rw [World.size_alloc, World.size_alloc, World.size_alloc, World.size_alloc] at h
  exact h
 have hB0 : Below w.heap.size w (((((w.alloc (.cells #[.string tg] 9)).alloc (.cells #[.bool ov] 4)).alloc (.cells #[.slice none 0 0] bsT)).alloc (.cells #[.slice (some ⟨b, off, none⟩) len cap] 26)).alloc (.cells #[.int .i64 100] 3)) := (((((Below.refl _ w).alloc (Nat.le_refl _) _).alloc (by simp) _).alloc (by simp; omega) _).alloc (by simp; omega) _).alloc (by simp; omega) _
 have hsz : (((((w.alloc (.cells #[.string tg] 9)).alloc (.cells #[.bool ov] 4)).alloc (.cells #[.slice none 0 0] bsT)).alloc (.cells #[.slice (some ⟨b, off, none⟩) len cap] 26)).alloc (.cells #[.int .i64 100] 3)).heap.size = w.heap.size + 5 := by simp
 generalize ((((w.alloc (.cells #[.string tg] 9)).alloc (.cells #[.bool ov] 4)).alloc (.cells #[.slice none 0 0] bsT)).alloc (.cells #[.slice (some ⟨b, off, none⟩) len cap] 26)).alloc (.cells #[.int .i64 100] 3) = W0 at *
 refine wpIn_rangeFunc_ownF rfl (by omega) (gf := 63) (lb := #[.pointer (some ⟨w.heap.size + 3, 0, none⟩), .pointer (some ⟨w.heap.size + 4, 0, none⟩)]) rfl trivial (enters_of Try.func63 (by kernel_rfl) rfl)
  (chunk_stops 4 (by omega) (w.heap.size + 3) (w.heap.size + 4) w.heap.size b off len cap hlen hcap W0 (by omega) (by omega) bS.cell bN.cell) (fun h k => h.trans k) (KpB.b (by omega) (by omega) (by omega)) (Below.refl _ _) (fun _ => rfl)
  (fun pre W => ((∃ v, Boxed W (w.heap.size + 2) bsT v ∧ W.ownsRow w.heap.size byT 1 v (if pre = [] then 0 else B.length) (if pre = [] then [] else B.map byV) ∧ (pre = [] → v = .slice none 0 0)) ∧ Boxed W w.heap.size 9 (.string tg) ∧ Boxed W (w.heap.size + 1) 4 (.bool ov) ∧ w.heap.size + 4 < W.heap.size) ∧ Below w.heap.size w W)
  (fun _ _ _ => False)
  (OwnFrom.and (Own.from (fun s X Y row hs hg hr => ⟨holdsRow_own w.heap.size (w.heap.size + 2) bsT byT 1 (fun pre : List Unit => if pre = [] then 0 else B.length) (fun pre => if pre = [] then [] else B.map byV) (fun pre v => pre = [] → v = .slice none 0 0) s X Y row hs.1 hg hr, hs.2.1.kept hg (fun e => by obtain ⟨o, ho, hc⟩ := hr _ e.symm; rw [show X.heap[w.heap.size]? = _ from hs.2.1] at ho; cases ho; cases hc), hs.2.2.1.kept hg (fun e => by obtain ⟨o, ho, hc⟩ := hr _ e.symm; rw [show X.heap[w.heap.size + 1]? = _ from hs.2.2.1] at ho; cases ho; cases hc), Nat.lt_of_lt_of_le hs.2.2.2 hg.size⟩) _) (ownFrom_below (Nat.le_refl _) (by omega)))
  (fun _ _ _ _ _ hs _ _ => hs)
  ⟨⟨⟨_, bO, World.ownsRow_nil _ _ _ _, fun _ => rfl⟩, bT, bV, by omega⟩, hB0⟩
  (fun _ => { tmps := #[.string tg, .slice (some ⟨b, off, none⟩) len cap, .bool ov, .pointer (some ⟨w.heap.size, 0, none⟩), undef, .pointer (some ⟨w.heap.size + 1, 0, none⟩), .slice none 0 0, .pointer (some ⟨w.heap.size + 2, 0, none⟩), .slice (some ⟨b, off, none⟩) len len, .slice (some ⟨b, off, none⟩) len cap, .func (.func 63) #[] #[.pointer (some ⟨w.heap.size + 3, 0, none⟩), .pointer (some ⟨w.heap.size + 4, 0, none⟩)], .slice (some ⟨b, off, none⟩) len len, undef, undef, undef, undef, undef, undef, undef], defers := [] }) ?assign ?body ?done ?stop
 case assign =>
  intro l x W K hK
  gi_wp2
  exact hK
 case body =>
  rintro l pre x W ⟨⟨⟨v, hv, hrow, hnil⟩, hT, hV, hbig⟩, hB⟩ hlt
  obtain rfl : pre = [] := by cases pre with | nil => rfl | cons _ _ => simp at hlt
  obtain rfl := hnil rfl
  clear hrow hnil
  obtain ⟨i0, hi, hz0, hz1, hz2⟩ := info_parts (show (Try.prog.info? byT).map (fun i => (i.zero, i.size, i.bytes)) = some (some (.int .u8 0), 1, 1) by kernel_rfl)
  have hWs : w.heap.size + 2 < W.heap.size := hv.lt
  gi_wp2
  refine wpIn_region_any (by kernel_rfl) ?_
  refine wpAnyIn_inv (fun L a wc => ∃ (l0 l1 l2 l3 l4 l5 l6 : Bool) (v16 v17 : Value), L = #[l0, l1, l2, l3, l4, l5, l6] ∧ a = ⟨#[.string tg, .slice (some ⟨b, off, none⟩) len cap, .bool ov, .pointer (some ⟨w.heap.size, 0, none⟩), undef, .pointer (some ⟨w.heap.size + 1, 0, none⟩), .slice none 0 0, .pointer (some ⟨w.heap.size + 2, 0, none⟩), .slice (some ⟨b, off, none⟩) len len, .slice (some ⟨b, off, none⟩) len cap, .func (.func 63) #[] #[.pointer (some ⟨w.heap.size + 3, 0, none⟩), .pointer (some ⟨w.heap.size + 4, 0, none⟩)], .slice (some ⟨b, off, none⟩) len len, bif l0 then .slice none 0 0 else undef, bif l1 then .string tg else undef, bif l2 then .slice (some ⟨b, off, none⟩) len len else undef, bif l3 then .bool ov else undef, bif l4 then v16 else undef, bif l5 then v17 else undef, undef], []⟩ ∧ RdSt w.heap.size B W l0 l1 l2 l3 l4 l5 l6 v16 v17 wc) ?_ ?_ ?_ ?_ _ _ _ _ ?_ ?_
  ·intro i o ho
   have hlt := (Array.getElem?_eq_some_iff.1 ho).1
   match i, ho with
   | 0, ho => obtain rfl := Option.some.inj ho; exact ⟨rfl, by simp⟩
   | 1, ho => obtain rfl := Option.some.inj ho; exact ⟨rfl, by simp⟩
   | 2, ho => obtain rfl := Option.some.inj ho; exact ⟨rfl, by simp⟩
   | 3, ho => obtain rfl := Option.some.inj ho; exact ⟨rfl, by simp⟩
   | 4, ho => obtain rfl := Option.some.inj ho; exact ⟨rfl, by simp⟩
   | 5, ho => obtain rfl := Option.some.inj ho; exact ⟨rfl, by simp⟩
   | 6, ho => obtain rfl := Option.some.inj ho; exact ⟨rfl, by simp⟩
   | i + 7, ho => simp at hlt; omega
  ·rintro L a wc ⟨l0, l1, l2, l3, l4, l5, l6, v16, v17, rfl, _⟩; rfl
  ·intro i o ho L a wc hI hL hd
   have hlt := (Array.getElem?_eq_some_iff.1 ho).1
   obtain ⟨l0, l1, l2, l3, l4, l5, l6, v16, v17, rfl, rfl, r1, r2, r3, r4, r5, r6, r7, r8⟩ := hI
   match i, ho with
   | 0, ho =>
    obtain rfl := Option.some.inj ho
    obtain rfl : l0 = false := hL
    have h5 : l5 = false := by cases l5 with | false => rfl | true => exact absurd (r3 rfl).2 (by simp)
    have h6 : l6 = false := by cases l6 with | false => rfl | true => exact absurd (r4 rfl) (by simp [h5])
    have hbx : Boxed wc (w.heap.size + 2) bsT (.slice none 0 0) := by
     cases h4 : l4 with
     | false => rw [r1 h4]; exact hv
     | true => exact hv.kept (r5 h4 h6) (by simp)
    exact wpInV (fun c e => by cases e) (run_load1 (A := ⟨w.heap.size + 2, 0, none⟩) (u := .slice none 0 0) Try.underlying37 rfl rfl rfl hbx.cell) ⟨true, l1, l2, l3, l4, l5, l6, v16, v17, rfl, rfl, r1, r2, fun h => ⟨(r3 h).1, rfl⟩, r4, r5, r6, r7, r8⟩
   | 1, ho =>
    obtain rfl := Option.some.inj ho
    obtain rfl : l1 = false := hL
    have h4 : l4 = false := by cases l4 with | false => rfl | true => exact absurd (r2 rfl) (by simp)
    have hW := r1 h4
    exact wpInV (fun c e => by cases e) (run_load1 (A := ⟨w.heap.size, 0, none⟩) (u := .string tg) Try.underlying9 rfl rfl rfl (by rw [hW]; exact hT.cell)) ⟨l0, true, l2, l3, l4, l5, l6, v16, v17, rfl, rfl, r1, fun h => absurd h (by simp [h4]), r3, r4, r5, r6, r7, r8⟩
   | 2, ho =>
    obtain rfl := Option.some.inj ho
    obtain rfl : l2 = false := hL
    have h4 : l4 = false := by cases l4 with | false => rfl | true => exact absurd (r2 rfl) (by simp)
    have hW := r1 h4
    exact wpInV (fun c e => by cases e) (run_mv _ rfl) ⟨l0, l1, true, l3, l4, l5, l6, v16, v17, rfl, rfl, r1, fun h => absurd h (by simp [h4]), r3, r4, r5, r6, r7, r8⟩
   | 3, ho =>
    obtain rfl := Option.some.inj ho
    obtain rfl : l3 = false := hL
    have h4 : l4 = false := by cases l4 with | false => rfl | true => exact absurd (r2 rfl) (by simp)
    have hW := r1 h4
    exact wpInV (fun c e => by cases e) (run_load1 (A := ⟨w.heap.size + 1, 0, none⟩) (u := .bool ov) Try.underlying4 rfl rfl rfl (by rw [hW]; exact hV.cell)) ⟨l0, l1, l2, true, l4, l5, l6, v16, v17, rfl, rfl, r1, fun h => absurd h (by simp [h4]), r3, r4, r5, r6, r7, r8⟩
   | 4, ho =>
    obtain rfl := Option.some.inj ho
    obtain rfl : l4 = false := hL
    obtain rfl : l1 = true := hd ⟨1, .data⟩ (by simp) rfl
    obtain rfl : l2 = true := hd ⟨2, .data⟩ (by simp) rfl
    obtain rfl : l3 = true := hd ⟨3, .data⟩ (by simp) rfl
    have h5 : l5 = false := by cases l5 with | false => rfl | true => exact absurd (r3 rfl).1 (by simp)
    have h6 : l6 = false := by cases l6 with | false => rfl | true => exact absurd (r4 rfl) (by simp [h5])
    have hW := r1 rfl
    subst hW
    refine wpInC (fun c e => by cases e) (run_call (fo := .func 49) (args := #[.tmp 13, .tmp 14, .tmp 15]) (us := []) rfl rfl ⟨Try.f49, Try.func49, by kernel_rfl, by kernel_rfl⟩) (henc W.drew (hB.drew)) ?_
    rintro e w' ⟨v, rfl, hg, hb⟩
    exact ⟨v, rfl, l0, true, true, true, true, l5, l6, v, v17, rfl, rfl, fun h => by (cases h), fun _ => ⟨rfl, rfl, rfl⟩, fun h => absurd h (by simp [h5]), r4, fun _ _ => ⟨hg.os, hg.tape, hg.output, hg.size, hg.block⟩, fun _ _ => hb, fun h => absurd h (by simp [h5]), fun h => absurd h (by simp [h6])⟩
   | 5, ho =>
    obtain rfl := Option.some.inj ho
    obtain rfl : l5 = false := hL
    obtain rfl : l0 = true := hd ⟨0, .data⟩ (by simp) rfl
    obtain rfl : l4 = true := hd ⟨4, .data⟩ (by simp) rfl
    have h6 : l6 = false := by cases l6 with | false => rfl | true => exact absurd (r4 rfl) (by simp)
    have hg := r5 rfl h6
    obtain ⟨b2, o2, c2, rfl, hbytes⟩ := r6 rfl rfl
    obtain ⟨v1, w1, hrun, ho1, hg1, _, _⟩ := run_append_own_at (P := Try.prog) wc w.heap.size bsT bsT byT i0 _ 1 1 Try.underlying37 hi hz0 hz1 hz2 rfl (by decide) (.slice none 0 0) 0 [] (World.ownsRow_nil _ _ _ _) ⟨b2, o2, none⟩ B.length c2 (B.map byV) (by simp)
     (fun j u hu => by
      rw [List.getElem?_map] at hu
      cases hj : B[j]? with
      | none => rw [hj] at hu; cases hu
      | some x => rw [hj] at hu; injection hu with hu; subst hu; rw [add_none]; exact hbytes j x hj) (by intro u hu; obtain ⟨x, _, rfl⟩ := List.mem_map.1 hu; rfl) (by unfold maxLen; omega) (by omega) (by have h1 := hg.size; omega)
    refine wpInV (v := v1) (w' := w1) (fun c e => by cases e) (run_app (x := .tmp 12) (y := .tmp 16) rfl hrun) ⟨true, l1, l2, l3, true, true, l6, .slice (some ⟨b2, o2, none⟩) B.length c2, v1, rfl, rfl, fun h => by (cases h), r2, fun _ => ⟨rfl, rfl⟩, fun _ => rfl, fun _ _ => hg.trans (by simpa [Value.ownBlock] using hg1), fun _ h => by (cases h), fun _ _ => by simpa using ho1, fun h => absurd h (by simp [h6])⟩
   | 6, ho =>
    obtain rfl := Option.some.inj ho
    obtain rfl : l6 = false := hL
    obtain rfl : l5 = true := hd ⟨5, .data⟩ (by simp) rfl
    have hg := r5 (r3 rfl).1 rfl
    have ho := r7 rfl rfl
    have hbx := hv.kept hg (by simp)
    obtain ⟨q, n, c, rfl⟩ : ∃ q n c, v17 = .slice q n c := by
     rcases ho.2 with ⟨rfl, _⟩ | ⟨g, cp, cur, rfl, _⟩
     ·exact ⟨_, _, _, rfl⟩
     ·exact ⟨_, _, _, rfl⟩
    exact wpInS (fun c e => by cases e) (run_store1 (t := bsT) (x := .tmp 7) (y := .tmp 17) Try.underlying37 Try.sizeOf37 rfl rfl rfl (by rw [hbx.cell]; rfl) hbx.frozen) ⟨l0, l1, l2, l3, l4, true, true, v16, .slice q n c, rfl, rfl, fun h => absurd h (by simp [(r3 rfl).1]), r2, r3, fun _ => rfl, fun _ h => by (cases h), fun _ h => by (cases h), fun _ h => by (cases h), fun _ => ⟨wc, hg, ho, rfl⟩⟩
   | i + 7, ho => simp at hlt; omega
  ·rintro L a wc ⟨l0, l1, l2, l3, l4, l5, l6, v16, v17, rfl, rfl, r1, r2, r3, r4, r5, r6, r7, r8⟩ hall
   obtain rfl : l6 = true := hall 6 (by decide)
   obtain ⟨w5, hg, ho, rfl⟩ := r8 rfl
   have hbx := hv.kept hg (by simp)
   have hlow : Below w.heap.size W (w5.setCell ⟨w.heap.size + 2, 0, none⟩ v17) := ((Below.refl _ W).grown hg hB.size (fun k e => by cases e)).setCell (p := ⟨w.heap.size + 2, 0, none⟩) (show w.heap.size ≤ w.heap.size + 2 by omega) _
   have hS3 : w.heap.size + 4 < W.heap.size := hbig
   refine ⟨(KeepsOthers.of_grownBy hg (fun j o e => by cases e)).trans (KeepsOthers.setCell _ _ _), ⟨hlow, (Below.heap_setCell _ _ _ _ (by simp)).trans (hg.block _ (by omega) (by simp)), (Below.heap_setCell _ _ _ _ (by simp)).trans (hg.block _ (by omega) (by simp))⟩, ⟨⟨v17, hbx.set v17, ?_, fun h => absurd h (by simp)⟩, ?_, ?_⟩, hB.trans hlow⟩
   ·simp only [List.nil_append, List.cons_ne_self, reduceCtorEq, if_false]
    exact ho.kept (grownBy_setCell' w5 (w.heap.size + 2) v17) (.inr (hbx.not_row (by decide) ho).symm)
   ·exact (hT.kept hg (by simp)).kept (grownBy_setCell' w5 (w.heap.size + 2) v17) (by simp)
   ·exact ⟨(hV.kept hg (by simp)).kept (grownBy_setCell' w5 (w.heap.size + 2) v17) (by simp), Nat.lt_of_lt_of_le hbig (Nat.le_trans hg.size (grownBy_setCell' w5 (w.heap.size + 2) v17).size)⟩
  ·exact ⟨false, false, false, false, false, false, false, undef, undef, rfl, rfl, fun _ => rfl, fun h => by (cases h), fun h => by (cases h), fun h => by (cases h), fun h => by (cases h), fun h => by (cases h), fun h => by (cases h), fun h => by (cases h)⟩
  ·decide
 case done =>
  rintro D ys W hD hys ⟨⟨⟨v, hv, hrow, _⟩, _⟩, hB⟩ hK
  rw [if_neg (by omega)] at hys; subst hys
  have hc := hv.cell
  gi_wp2
  refine ⟨by simp, .inl ⟨_, _, rfl, run_takeDeferred hK, ?_⟩⟩
  exact ⟨_, results_tmp rfl _ _ _, v, rfl, ownsRow_putObj hrow _ hK rfl, hB.trans (belowK_b (w := w) (Nat.le_refl _) W D _ _ (by omega) hK rfl rfl)⟩
 case stop =>
  rintro D c pre W _ _ h _
  exact h.elim
theorem chunk0_stops (n : Nat) (Bs Bn n₀ cap : Nat) (A : Option Addr) (w : World) (hBs : Bs < w.heap.size) (hBn : Bn < w.heap.size)
  (c1 : w.cell? ⟨Bs, 0, none⟩ = some (.slice A 0 cap)) (c2 : w.cell? ⟨Bn, 0, none⟩ = some (.int .i64 100)) :
  SeqStopsK Fence.wide n Try.prog 63 #[.pointer (some ⟨Bs, 0, none⟩), .pointer (some ⟨Bn, 0, none⟩)] (fun _ : Unit => #[Value.slice none 0 0]) (KpB n₀ Bs Bn) (fun ys => ys = []) (fun _ => False) 0 w := fun l J Jx W hW hJ _ hY h0 => by
 refine (chunk0_in n l Bs Bn cap A J W ((hW.cell (p := ⟨Bs, 0, none⟩) hBs).trans c1) ((hW.cell (p := ⟨Bn, 0, none⟩) hBn).trans c2) h0).mono ?_
 rintro e W' ⟨he, hj⟩
 exact ⟨he, .inl ⟨[], rfl, hj⟩⟩
set_option maxRecDepth 100000 in
set_option maxHeartbeats 2000000 in
theorem blocks_nil (w : World) (A : Option Addr) (cap : Nat) (tg : ByteArray) (ov : Bool) :
  Calls Try.prog 26 #[.string tg, .slice A 0 cap, .bool ov] w fun e w' => e = .returned (.slice none 0 0) ∧ Below w.heap.size w w' := by
 refine (callsIn_wide (n := 5)).1 ?_
 refine callsIn_of_wp_marks Try.func26 rfl trivial ?_ rfl
 simp only [Try.ntmps26, List.size_toArray, List.length_cons, List.length_nil, Nat.reduceAdd, Nat.reduceSub, Array.replicate_succ, Array.replicate_zero, List.push_toArray, List.append_toArray, List.nil_append, List.cons_append]
 gi_wp2_with (refine ⟨trivial, ?_⟩; gi_at_call 48; refine (chunk_in _ _ _ _ _).mono ?_; rintro e w' ⟨rfl, rfl⟩)
 have bO : Boxed (((((w.alloc (.cells #[.string tg] 9)).alloc (.cells #[.bool ov] 4)).alloc (.cells #[.slice none 0 0] bsT)).alloc (.cells #[.slice A 0 cap] 26)).alloc (.cells #[.int .i64 100] 3)) (w.heap.size + 2) bsT (.slice none 0 0) := by
  have h := Boxed.new ((w.alloc (.cells #[.string tg] 9)).alloc (.cells #[.bool ov] 4)) bsT (.slice none 0 0)
  rw [World.size_alloc, World.size_alloc] at h
  exact (h.alloc _).alloc _
 have bS : Boxed (((((w.alloc (.cells #[.string tg] 9)).alloc (.cells #[.bool ov] 4)).alloc (.cells #[.slice none 0 0] bsT)).alloc (.cells #[.slice A 0 cap] 26)).alloc (.cells #[.int .i64 100] 3)) (w.heap.size + 3) 26 (.slice A 0 cap) := by
  have h := Boxed.new (((w.alloc (.cells #[.string tg] 9)).alloc (.cells #[.bool ov] 4)).alloc (.cells #[.slice none 0 0] bsT)) 26 (.slice A 0 cap)
  rw [World.size_alloc, World.size_alloc, World.size_alloc] at h
  exact h.alloc _
 have bN : Boxed (((((w.alloc (.cells #[.string tg] 9)).alloc (.cells #[.bool ov] 4)).alloc (.cells #[.slice none 0 0] bsT)).alloc (.cells #[.slice A 0 cap] 26)).alloc (.cells #[.int .i64 100] 3)) (w.heap.size + 4) 3 (.int .i64 100) := by
  have h := Boxed.new ((((w.alloc (.cells #[.string tg] 9)).alloc (.cells #[.bool ov] 4)).alloc (.cells #[.slice none 0 0] bsT)).alloc (.cells #[.slice A 0 cap] 26)) 3 (.int .i64 100)
  rw [World.size_alloc, World.size_alloc, World.size_alloc, World.size_alloc] at h
  exact h
 have hB0 : Below w.heap.size w (((((w.alloc (.cells #[.string tg] 9)).alloc (.cells #[.bool ov] 4)).alloc (.cells #[.slice none 0 0] bsT)).alloc (.cells #[.slice A 0 cap] 26)).alloc (.cells #[.int .i64 100] 3)) := (((((Below.refl _ w).alloc (Nat.le_refl _) _).alloc (by simp) _).alloc (by simp; omega) _).alloc (by simp; omega) _).alloc (by simp; omega) _
 have hsz : (((((w.alloc (.cells #[.string tg] 9)).alloc (.cells #[.bool ov] 4)).alloc (.cells #[.slice none 0 0] bsT)).alloc (.cells #[.slice A 0 cap] 26)).alloc (.cells #[.int .i64 100] 3)).heap.size = w.heap.size + 5 := by simp
 generalize ((((w.alloc (.cells #[.string tg] 9)).alloc (.cells #[.bool ov] 4)).alloc (.cells #[.slice none 0 0] bsT)).alloc (.cells #[.slice A 0 cap] 26)).alloc (.cells #[.int .i64 100] 3) = W0 at *
 refine wpIn_rangeFunc_ownF rfl (by omega) (gf := 63) (lb := #[.pointer (some ⟨w.heap.size + 3, 0, none⟩), .pointer (some ⟨w.heap.size + 4, 0, none⟩)]) rfl trivial (enters_of Try.func63 (by kernel_rfl) rfl)
  (chunk0_stops 4 (w.heap.size + 3) (w.heap.size + 4) w.heap.size cap A W0 (by omega) (by omega) bS.cell bN.cell) (fun h k => h.trans k) (KpB.b (by omega) (by omega) (by omega)) (Below.refl _ _) (fun _ => rfl)
  (fun _ W => Boxed W (w.heap.size + 2) bsT (.slice none 0 0) ∧ Below w.heap.size w W)
  (fun _ _ _ => False)
  (OwnFrom.and (Own.from (fun s X Y row hs hg hr => hs.kept hg (fun e => by obtain ⟨o, ho, hc⟩ := hr _ e.symm; rw [show X.heap[w.heap.size + 2]? = _ from hs] at ho; cases ho; cases hc)) _) (ownFrom_below (Nat.le_refl _) (by omega)))
  (fun _ _ _ _ _ hs _ _ => hs)
  ⟨bO, hB0⟩
  (fun _ => { tmps := #[.string tg, .slice A 0 cap, .bool ov, .pointer (some ⟨w.heap.size, 0, none⟩), undef, .pointer (some ⟨w.heap.size + 1, 0, none⟩), .slice none 0 0, .pointer (some ⟨w.heap.size + 2, 0, none⟩), .slice none 0 0, .slice A 0 cap, .func (.func 63) #[] #[.pointer (some ⟨w.heap.size + 3, 0, none⟩), .pointer (some ⟨w.heap.size + 4, 0, none⟩)], .slice none 0 0, undef, undef, undef, undef, undef, undef, undef], defers := [] }) ?assign ?body ?done ?stop
 case assign =>
  intro l x W K hK
  gi_wp2
  exact hK
 case body =>
  rintro l pre x W _ hlt
  exact absurd hlt (Nat.not_lt_zero _)
 case done =>
  rintro D ys W hD rfl ⟨hv, hB⟩ hK
  have hc := hv.cell
  gi_wp2
  refine ⟨by simp, .inl ⟨_, _, rfl, run_takeDeferred hK, ?_⟩⟩
  exact ⟨_, results_tmp rfl _ _ _, rfl, hB.trans (belowK_b (w := w) (Nat.le_refl _) W D _ _ (by omega) hK rfl rfl)⟩
 case stop =>
  rintro D c pre W _ _ h _
  exact h.elim
end Go.Proofs.Ytiiblflmfadmbaa
