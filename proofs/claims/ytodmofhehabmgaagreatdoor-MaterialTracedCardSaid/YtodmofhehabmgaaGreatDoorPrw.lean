/-
 Products, walked: the transfers turned round, by the batches from which they come; then as Sources.
-/
import Derived.Test.YtodmofhehabmgaaGreatDoorSrt
import Derived.Test.YtodmofhehabmgaaGreatDoorInf
namespace Go.Proofs.YtodmofhehabmgaaGreatDoor
open Go Go.RowKit Go.Ai Go.Proofs
set_option linter.unusedSimpArgs false
set_option linter.unusedVariables false
set_option maxHeartbeats 4000000
/-- A transfer, turned round. -/
def Trf.inv (x : Trf) : Trf := ⟨x.to, x.frm, 0⟩
theorem run_bld {P : Program} {ρ : Operand → Value} {o : Oper} {w : World} {t : TypeId} {parts : Array (Nat × Operand)} {cells : Array Value} (ho : o.op = .build t parts) (hb : P.built t (parts.toList.map fun p => (p.1, ρ p.2)) = some cells) :
  (execOp ρ o).run P w = .ok (.value (.agg cells)) w := by
 have hb : P.built t ((parts.map fun (i, x) => (i, ρ x)).toList) = some cells := by simpa using hb
 simp only [execOp, ho, Sem.run_bind, run_build w t _ cells hb, Result.andThen_ok]
 rfl
theorem built_tr (a b : ByteArray) : Tryz.prog.built 54 [(0, .string a), (1, .string b)] = some #[.string a, .string b, .int .i64 0] := by kernel_rfl
theorem trV_len (t : Trf) : (trV t).length = 3 := rfl
theorem flat3 : ∀ (ys : List Trf) (i : Nat) (t : Trf) (j : Nat) (u : Value), ys[i]? = some t → (trV t)[j]? = some u → ((ys.map trV).flatten)[i * 3 + j]? = some u
 | [], i, t, j, u, h, _ => by simp at h
 | y :: ys, 0, t, j, u, h, hu => by
  simp at h; subst h
  have hj := (List.getElem?_eq_some_iff.1 hu).1
  rw [List.map_cons, List.flatten_cons, Nat.zero_mul, Nat.zero_add, List.getElem?_append_left hj]; exact hu
 | y :: ys, i + 1, t, j, u, h, hu => by
  rw [List.map_cons, List.flatten_cons, List.getElem?_append_right (by rw [trV_len]; omega), trV_len, show (i + 1) * 3 + j - 3 = i * 3 + j by omega]
  exact flat3 ys i t j u (by simpa using h) hu
theorem own_hf {w : World} {B : Nat} {v : Value} {ys : List Trf} (h : w.ownsRow B trT 3 v ys.length (ys.map trV).flatten) :
  ∃ A c, v = .slice A ys.length c ∧ ∀ i t, ys[i]? = some t → ∃ b off, A = some ⟨b, off, none⟩ ∧ b < w.heap.size ∧ ∀ j u, (trV t)[j]? = some u → w.cell? ⟨b, off + i * 3 + j, none⟩ = some u := by
 rcases h.2 with ⟨rfl, h0⟩ | ⟨g, cap, cur, rfl, hb, hcell, _⟩
 ·refine ⟨none, 0, by rw [h0], fun i t ht => ?_⟩
  have := (List.getElem?_eq_some_iff.1 ht).1
  omega
 ·refine ⟨some ⟨g, 0, none⟩, cap, rfl, fun i t ht => ⟨g, 0, rfl, (Array.getElem?_eq_some_iff.1 hcell).1, fun j u hu => ?_⟩⟩
  have := h.cells (g := g) rfl (i * 3 + j) u (flat3 ys i t j u ht hu)
  rw [add_none] at this
  rw [Nat.add_assoc]; exact this
theorem Grp.lt {w : World} {B b : Nat} {D : List (ByteArray × List Trf)} (h : Grp w B b D) : b < w.heap.size := by
 obtain ⟨ms, clock, hb, _⟩ := h
 exact (Array.getElem?_eq_some_iff.1 hb).1
/-- All batches into which material of a batch went, in the order in which they are found. -/
def prdL (l : List Trf) (b : ByteArray) : List ByteArray := srcL (l.map Trf.inv) b
set_option maxRecDepth 100000 in
theorem products_any (A : Option Addr) (cap : Nat) (l : List Trf) (bt : ByteArray) {w0 w : World} {okA : Nat → Prop} (htab : TabB Tryz.prog w0 okA) (hg0 : w0.grownBy w none) (hreach : l.length ≤ 1000000) (hs : (prdL l bt).length ≤ 1000000)
  (hc : ∀ i t, l[i]? = some t → ∃ b off, A = some ⟨b, off, none⟩ ∧ b < w.heap.size ∧ ∀ j u, (trV t)[j]? = some u → w.cell? ⟨b, off + i * 3 + j, none⟩ = some u) :
  Calls Tryz.prog 47 #[.slice A l.length cap, .string bt] w fun e w' => ∃ v, e = .returned v ∧ w0.grownBy w' none ∧ w'.ownsRow w0.heap.size 9 1 v (prdL l bt).length ((srtS (prdL l bt)).map .string) := by
 have hmm := @run_makeMap Tryz.prog
 go_enter Tryz.func47, Tryz.ntmps47
 go_wp2
 go_loopw [11] (fun i wr => ∃ k : Nat, k ≤ l.length ∧ i = .int .i64 k ∧ Grp wr w.heap.size w.heap.size (grpAll ((l.map Trf.inv).take k)) ∧ w.grownBy wr none ∧ w.heap.size + 1 ≤ wr.heap.size)
  (fun i _ => l.length - (intOf i).toNat)
 case atStart => exact ⟨0, Nat.zero_le _, rfl, ⟨#[], 0, heap_alloc_new w _, rfl, by simp [grpAll], by simp, by simp⟩, World.grownBy_alloc w _ none, by simp⟩
 case round =>
  obtain ⟨k, hk, rfl, hown, hgr, hws⟩ := hrel
  by_cases hlt : k < l.length
  ·obtain ⟨b, off, rfl, hb, hcell⟩ := hc k l[k] (List.getElem?_eq_getElem hlt)
   generalize hx : l[k] = x at hcell
   have c0 : wr.cell? ⟨b, off + k * 3, none⟩ = some (.string x.frm) := (World.cell?_of_block (w := w) (hgr.block b hb (by simp))).trans (hcell 0 _ rfl)
   have c1 : wr.cell? ⟨b, off + k * 3 + 1, none⟩ = some (.string x.to) := (World.cell?_of_block (w := w) (hgr.block b hb (by simp))).trans (hcell 1 _ rfl)
   have c2 : wr.cell? ⟨b, off + k * 3 + 2, none⟩ = some (.int .i64 x.amt) := (World.cell?_of_block (w := w) (hgr.block b hb (by simp))).trans (hcell 2 _ rfl)
   obtain ⟨v, hlook, hownv, hvb⟩ := hown.look x.inv.to
   obtain ⟨i0, hi, hz0, hz1, hz2⟩ := info_parts (show (Tryz.prog.info? 54).map (fun i => (i.zero, i.size, i.bytes)) = some (some (.agg #[.string ByteArray.empty, .string ByteArray.empty, .int .i64 0]), 3, 40) by kernel_rfl)
   go_wp2
   rename_i Kx hKx
   refine wp_region_any (by kernel_rfl) ?_
   refine wpAny_inv (fun L a wc => ∃ (l0 l1 l2 l3 l4 l5 l6 l7 l8 l9 l10 l11 l12 l13 l14 : Bool) (v' : Value), L = #[l0, l1, l2, l3, l4, l5, l6, l7, l8, l9, l10, l11, l12, l13, l14] ∧
    a = ⟨#[.slice (some ⟨b, off, none⟩) l.length cap, .string bt, undef, undef, .slice none 0 0, .map (some w.heap.size), undef, .pointer (some ⟨wr.heap.size, 0, none⟩), .map (some w.heap.size), .slice (some ⟨b, off, none⟩) l.length cap, .int .i64 l.length, .int .i64 k, .bool true, .pointer (some ⟨b, off + k * 3, none⟩), .agg #[.string x.frm, .string x.to, .int .i64 x.amt],
     bif l0 then .map (some w.heap.size) else u15, bif l1 then .pointer (some ⟨wr.heap.size, 0, none⟩) else u16, bif l2 then .string x.frm else u17,
     bif l3 then .map (some w.heap.size) else u18, bif l4 then .pointer (some ⟨wr.heap.size, 0, none⟩) else u19, bif l5 then .string x.frm else u20,
     bif l6 then v else u21, bif l7 then .pointer (some ⟨wr.heap.size, 1, none⟩) else u22, bif l8 then .string x.to else u23, bif l9 then .pointer (some ⟨wr.heap.size, 0, none⟩) else u24, bif l10 then .string x.frm else u25,
     bif l11 then .agg (trV x.inv).toArray else u26, bif l12 then .slice (some ⟨wr.heap.size + 1, 0, none⟩) 1 1 else u27, bif l13 then v' else u28, u29, undef, undef, undef, undef], []⟩ ∧
    (l14 = true → l0 = true ∧ l2 = true ∧ l13 = true) ∧ (l13 = true → l6 = true ∧ l12 = true) ∧ (l12 = true → l11 = true) ∧ (l11 = true → l8 = true ∧ l10 = true) ∧ (l6 = true → l5 = true) ∧
    (l12 = false → Sm (wr.alloc (.cells (trV x).toArray trT)) wc) ∧ (l12 = true → l13 = false → Sl (wr.alloc (.cells (trV x).toArray trT)) x.inv wc) ∧
    (l13 = true → l14 = false → ∃ wb, Sl (wr.alloc (.cells (trV x).toArray trT)) x.inv wb ∧ wb.grownBy wc v.ownBlock ∧ wc.ownsRow w.heap.size trT 3 v' ((gat x.inv.to (grpAll ((l.map Trf.inv).take k))).length + 1) (((gat x.inv.to (grpAll ((l.map Trf.inv).take k))).map trV).flatten ++ trV x.inv) ∧ (v'.ownBlock = v.ownBlock ∨ v'.ownBlock = some wb.heap.size)) ∧
    (l14 = true → Grp wc w.heap.size w.heap.size (grpPut x.inv.to x.inv (grpAll ((l.map Trf.inv).take k))) ∧ w.grownBy wc none ∧ wr.heap.size ≤ wc.heap.size)) ?_ ?_ ?_ ?_ _ _ _ _ ?_ ?_
   ·intro i o ho
    have hlt := (Array.getElem?_eq_some_iff.1 ho).1
    match i, ho with
    | 0, ho => obtain rfl := Option.some.inj ho; exact ⟨rfl, by simp⟩
    | 1, ho => obtain rfl := Option.some.inj ho; exact ⟨rfl, by simp⟩
    | 2, ho => obtain rfl := Option.some.inj ho; exact ⟨rfl, by simp⟩
    | 3, ho => obtain rfl := Option.some.inj ho; exact ⟨rfl, by simp⟩
    | 4, ho => obtain rfl := Option.some.inj ho; exact ⟨rfl, by simp⟩
    | 5, ho => obtain rfl := Option.some.inj ho; exact ⟨rfl, by simp⟩
    | 6, ho => obtain rfl := Option.some.inj ho; exact ⟨rfl, by simp⟩
    | 7, ho => obtain rfl := Option.some.inj ho; exact ⟨rfl, by simp⟩
    | 8, ho => obtain rfl := Option.some.inj ho; exact ⟨rfl, by simp⟩
    | 9, ho => obtain rfl := Option.some.inj ho; exact ⟨rfl, by simp⟩
    | 10, ho => obtain rfl := Option.some.inj ho; exact ⟨rfl, by simp⟩
    | 11, ho => obtain rfl := Option.some.inj ho; exact ⟨rfl, by simp⟩
    | 12, ho => obtain rfl := Option.some.inj ho; exact ⟨rfl, by simp⟩
    | 13, ho => obtain rfl := Option.some.inj ho; exact ⟨rfl, by simp⟩
    | 14, ho => obtain rfl := Option.some.inj ho; exact ⟨rfl, by simp⟩
    | i + 15, ho => simp at hlt; omega
   ·rintro L a wc ⟨l0, l1, l2, l3, l4, l5, l6, l7, l8, l9, l10, l11, l12, l13, l14, v', rfl, _⟩; rfl
   ·intro i o ho L a wc hI hL hd
    have hlt := (Array.getElem?_eq_some_iff.1 ho).1
    obtain ⟨l0, l1, l2, l3, l4, l5, l6, l7, l8, l9, l10, l11, l12, l13, l14, v', rfl, rfl, h14, h13, h12, h11, h6, s0, s1, s2, s3⟩ := hI
    have hbx : l14 = false → ∀ j u, (trV x)[j]? = some u → wc.cell? ⟨wr.heap.size, 0 + j, none⟩ = some u := fun e14 j u hu => by
     have hA : ∀ W : World, (wr.alloc (.cells (trV x).toArray trT)).heap[wr.heap.size]? = W.heap[wr.heap.size]? → W.cell? ⟨wr.heap.size, 0 + j, none⟩ = some u := fun W hW => by
      rw [heap_alloc_new] at hW
      rw [cell_of_row W wr.heap.size (0 + j) (trV x).toArray trT (0, 0) hW.symm, Nat.zero_add]
      simpa using hu
     have hlt1 : wr.heap.size < (wr.alloc (.cells (trV x).toArray trT)).heap.size := by simp
     cases e12 : l12 with
     | false => exact hA wc ((s0 e12).1.block _ hlt1 (by simp)).symm
     | true =>
      cases e13 : l13 with
      | false => exact hA wc ((s1 e12 e13).1.block _ hlt1 (by simp)).symm
      | true =>
       obtain ⟨wb, h1, h2, _, _⟩ := s2 e13 e14
       refine hA wc ((h2.block _ (by have := h1.2.1; omega) fun e => ?_).trans (h1.1.block _ hlt1 (by simp))).symm
       have := hownv.lt _ e.symm
       omega
    match i, ho with
    | 0, ho =>
     obtain rfl := Option.some.inj ho
     obtain rfl : l0 = false := hL
     exact wp_value (run_mv _ rfl) ⟨true, l1, l2, l3, l4, l5, l6, l7, l8, l9, l10, l11, l12, l13, l14, v', rfl, rfl, fun e => absurd (h14 e).1 (by simp), h13, h12, h11, h6, s0, s1, s2, s3⟩
    | 1, ho =>
     obtain rfl := Option.some.inj ho
     obtain rfl : l1 = false := hL
     exact wp_value (run_fadr (off := 0) (sz := 1) (b := wr.heap.size) (n := 0) rfl (by kernel_rfl) (by decide) rfl) ⟨l0, true, l2, l3, l4, l5, l6, l7, l8, l9, l10, l11, l12, l13, l14, v', rfl, rfl, h14, h13, h12, h11, h6, s0, s1, s2, s3⟩
    | 2, ho =>
     obtain rfl := Option.some.inj ho
     obtain rfl : l2 = false := hL
     obtain rfl : l1 = true := hd ⟨1, .data⟩ (by simp) rfl
     have e14 : l14 = false := by cases l14 with | false => rfl | true => exact absurd (h14 rfl).2.1 (by simp)
     exact wp_value (run_load1 (A := ⟨wr.heap.size, 0, none⟩) (u := .string x.frm) Tryz.underlying9 rfl rfl rfl (by have := hbx e14 0 _ rfl; simpa using this)) ⟨l0, true, true, l3, l4, l5, l6, l7, l8, l9, l10, l11, l12, l13, l14, v', rfl, rfl, (fun e => by rw [e14] at e; cases e), h13, h12, h11, h6, s0, s1, s2, s3⟩
    | 3, ho =>
     obtain rfl := Option.some.inj ho
     obtain rfl : l3 = false := hL
     exact wp_value (run_mv _ rfl) ⟨l0, l1, l2, true, l4, l5, l6, l7, l8, l9, l10, l11, l12, l13, l14, v', rfl, rfl, h14, h13, h12, h11, h6, s0, s1, s2, s3⟩
    | 4, ho =>
     obtain rfl := Option.some.inj ho
     obtain rfl : l4 = false := hL
     exact wp_value (run_fadr (off := 0) (sz := 1) (b := wr.heap.size) (n := 0) rfl (by kernel_rfl) (by decide) rfl) ⟨l0, l1, l2, l3, true, l5, l6, l7, l8, l9, l10, l11, l12, l13, l14, v', rfl, rfl, h14, h13, h12, h11, h6, s0, s1, s2, s3⟩
    | 5, ho =>
     obtain rfl := Option.some.inj ho
     obtain rfl : l5 = false := hL
     obtain rfl : l4 = true := hd ⟨4, .data⟩ (by simp) rfl
     have e6 : l6 = false := by cases l6 with | false => rfl | true => exact absurd (h6 rfl) (by simp)
     have e13 : l13 = false := by cases l13 with | false => rfl | true => rw [(h13 rfl).1] at e6; cases e6
     have e14 : l14 = false := by cases l14 with | false => rfl | true => rw [(h14 rfl).2.2] at e13; cases e13
     exact wp_value (run_load1 (A := ⟨wr.heap.size, 0, none⟩) (u := .string x.frm) Tryz.underlying9 rfl rfl rfl (by have := hbx e14 0 _ rfl; simpa using this)) ⟨l0, l1, l2, l3, true, true, l6, l7, l8, l9, l10, l11, l12, l13, l14, v', rfl, rfl, h14, h13, h12, h11, fun _ => rfl, s0, s1, s2, s3⟩
    | 6, ho =>
     obtain rfl := Option.some.inj ho
     obtain rfl : l6 = false := hL
     obtain rfl : l3 = true := hd ⟨3, .data⟩ (by simp) rfl
     obtain rfl : l5 = true := hd ⟨5, .data⟩ (by simp) rfl
     have e13 : l13 = false := by cases l13 with | false => rfl | true => exact absurd (h13 rfl).1 (by simp)
     have e14 : l14 = false := by cases l14 with | false => rfl | true => rw [(h14 rfl).2.2] at e13; cases e13
     have hlb : w.heap.size < (wr.alloc (.cells (trV x).toArray trT)).heap.size := by simp; omega
     have hwb : wc.heap[w.heap.size]? = wr.heap[w.heap.size]? := by
      rw [show wr.heap[w.heap.size]? = (wr.alloc (.cells (trV x).toArray trT)).heap[w.heap.size]? from (RowKit.Below.heap_alloc wr _ _ (by omega)).symm]
      cases e12 : l12 with
      | false => exact (s0 e12).1.block _ hlb (by simp)
      | true => exact (s1 e12 e13).1.block _ hlb (by simp)
     have hrun := hlook wc hwb
     refine wp_value (v := v) (w' := wc) ?_ ⟨l0, l1, l2, true, l4, true, true, l7, l8, l9, l10, l11, l12, l13, l14, v', rfl, rfl, h14, fun e => ⟨rfl, (h13 e).2⟩, h12, h11, fun _ => rfl, s0, s1, s2, s3⟩
     exact run_lkp (t := mpT) (m := .tmp 18) (x := .tmp 20) rfl hrun
    | 7, ho =>
     obtain rfl := Option.some.inj ho
     obtain rfl : l7 = false := hL
     exact wp_value (run_fadr (off := 1) (sz := 1) (b := wr.heap.size) (n := 0) rfl (by kernel_rfl) (by decide) rfl) ⟨l0, l1, l2, l3, l4, l5, l6, true, l8, l9, l10, l11, l12, l13, l14, v', rfl, rfl, h14, h13, h12, h11, h6, s0, s1, s2, s3⟩
    | 8, ho =>
     obtain rfl := Option.some.inj ho
     obtain rfl : l8 = false := hL
     obtain rfl : l7 = true := hd ⟨7, .data⟩ (by simp) rfl
     have e11 : l11 = false := by cases l11 with | false => rfl | true => exact absurd (h11 rfl).1 (by simp)
     have e12 : l12 = false := by cases l12 with | false => rfl | true => rw [h12 rfl] at e11; cases e11
     have e13 : l13 = false := by cases l13 with | false => rfl | true => rw [(h13 rfl).2] at e12; cases e12
     have e14 : l14 = false := by cases l14 with | false => rfl | true => rw [(h14 rfl).2.2] at e13; cases e13
     exact wp_value (run_load1 (A := ⟨wr.heap.size, 1, none⟩) (u := .string x.to) Tryz.underlying9 rfl rfl rfl (by have := hbx e14 1 _ rfl; simpa using this)) ⟨l0, l1, l2, l3, l4, l5, l6, true, true, l9, l10, l11, l12, l13, l14, v', rfl, rfl, h14, h13, h12, fun e => ⟨rfl, (h11 e).2⟩, h6, s0, s1, s2, s3⟩
    | 9, ho =>
     obtain rfl := Option.some.inj ho
     obtain rfl : l9 = false := hL
     exact wp_value (run_fadr (off := 0) (sz := 1) (b := wr.heap.size) (n := 0) rfl (by kernel_rfl) (by decide) rfl) ⟨l0, l1, l2, l3, l4, l5, l6, l7, l8, true, l10, l11, l12, l13, l14, v', rfl, rfl, h14, h13, h12, h11, h6, s0, s1, s2, s3⟩
    | 10, ho =>
     obtain rfl := Option.some.inj ho
     obtain rfl : l10 = false := hL
     obtain rfl : l9 = true := hd ⟨9, .data⟩ (by simp) rfl
     have e11 : l11 = false := by cases l11 with | false => rfl | true => exact absurd (h11 rfl).2 (by simp)
     have e12 : l12 = false := by cases l12 with | false => rfl | true => rw [h12 rfl] at e11; cases e11
     have e13 : l13 = false := by cases l13 with | false => rfl | true => rw [(h13 rfl).2] at e12; cases e12
     have e14 : l14 = false := by cases l14 with | false => rfl | true => rw [(h14 rfl).2.2] at e13; cases e13
     exact wp_value (run_load1 (A := ⟨wr.heap.size, 0, none⟩) (u := .string x.frm) Tryz.underlying9 rfl rfl rfl (by have := hbx e14 0 _ rfl; simpa using this)) ⟨l0, l1, l2, l3, l4, l5, l6, l7, l8, true, true, l11, l12, l13, l14, v', rfl, rfl, h14, h13, h12, fun e => ⟨(h11 e).1, rfl⟩, h6, s0, s1, s2, s3⟩
    | 11, ho =>
     obtain rfl := Option.some.inj ho
     obtain rfl : l11 = false := hL
     obtain rfl : l8 = true := hd ⟨8, .data⟩ (by simp) rfl
     obtain rfl : l10 = true := hd ⟨10, .data⟩ (by simp) rfl
     have e12 : l12 = false := by cases l12 with | false => rfl | true => exact absurd (h12 rfl) (by simp)
     have e13 : l13 = false := by cases l13 with | false => rfl | true => rw [(h13 rfl).2] at e12; cases e12
     have e14 : l14 = false := by cases l14 with | false => rfl | true => rw [(h14 rfl).2.2] at e13; cases e13
     refine wp_value (v := .agg (trV x.inv).toArray) (w' := wc) ?_ ⟨l0, l1, l2, l3, l4, l5, l6, l7, true, l9, true, true, l12, l13, l14, v', rfl, rfl, h14, h13, fun _ => rfl, fun _ => ⟨rfl, rfl⟩, h6, s0, s1, s2, s3⟩
     exact run_bld rfl (built_tr x.to x.frm)
    | 12, ho =>
     obtain rfl := Option.some.inj ho
     obtain rfl : l12 = false := hL
     obtain rfl : l11 = true := hd ⟨11, .data⟩ (by simp) rfl
     have e13 : l13 = false := by cases l13 with | false => rfl | true => exact absurd (h13 rfl).2 (by simp)
     have e14 : l14 = false := by cases l14 with | false => rfl | true => rw [(h14 rfl).2.2] at e13; cases e13
     have hS := s0 rfl
     have hsz : wc.heap.size = wr.heap.size + 1 := by rw [hS.2]; simp
     refine wp_buildSlice _ _ 1 _ rfl (trV x.inv).toArray i0 _ Tryz.underlying26 hi hz0 (by rw [hz1]; decide) (by rw [hz1]; decide) ?_ ?_
     ·rw [hz1, Array.toList_map]
      show Instr.fill _ _ [(0, .agg (trV x.inv).toArray)] = _
      have := fill_row 3 [.agg (trV x.inv).toArray] 0 ((Array.range (1 * 3)).map (fun j => (Value.agg #[.string ByteArray.empty, .string ByteArray.empty, .int .i64 0]).cells[j % (Value.agg #[.string ByteArray.empty, .string ByteArray.empty, .int .i64 0]).cells.size]!)) (by simp [trV, Value.cells]) (by simp)
      simpa [Value.cells, List.range', trV] using this
     ·rw [hsz]
      exact ⟨l0, l1, l2, l3, l4, l5, l6, l7, l8, l9, l10, true, true, l13, l14, v', rfl, rfl, h14, fun e => ⟨(h13 e).1, rfl⟩, fun _ => rfl, h11, h6, (fun e => by cases e), fun _ _ => hS.alloc x.inv, (fun e => by rw [e13] at e; cases e), (fun e => by rw [e14] at e; cases e)⟩
    | 13, ho =>
     obtain rfl := Option.some.inj ho
     obtain rfl : l13 = false := hL
     obtain rfl : l6 = true := hd ⟨6, .data⟩ (by simp) rfl
     obtain rfl : l12 = true := hd ⟨12, .data⟩ (by simp) rfl
     have e14 : l14 = false := by cases l14 with | false => rfl | true => exact absurd (h14 rfl).2.2 (by simp)
     have hS := s1 rfl rfl
     have hgl : (gat x.inv.to (grpAll ((l.map Trf.inv).take k))).length ≤ 1000000 := by
      have h1 := gat_all x.inv.to ((l.map Trf.inv).take k)
      rw [h1]
      have h2 := List.length_filter_le (fun y : Trf => decide (y.to = x.inv.to)) ((l.map Trf.inv).take k)
      rw [List.length_take] at h2; omega
     have hownc : wc.ownsRow w.heap.size trT 3 v (gat x.inv.to (grpAll ((l.map Trf.inv).take k))).length ((gat x.inv.to (grpAll ((l.map Trf.inv).take k))).map trV).flatten := (hownv.alloc _).kept hS.1 (by cases v.ownBlock <;> simp)
     have hnew : ∀ j u, (trV x.inv)[j]? = some u → wc.cell? ((⟨wr.heap.size + 1, 0, none⟩ : Addr).add j) = some u := fun j u hu => by
      have h1 := hS.2.2
      rw [show (wr.alloc (.cells (trV x).toArray trT)).heap.size = wr.heap.size + 1 by simp] at h1
      rw [add_none, Nat.zero_add, cell_of_row wc (wr.heap.size + 1) j (trV x.inv).toArray trT (0, 0) h1]
      simpa using hu
     obtain ⟨v1, w1, hrun, ho1, hg1, _, hat1⟩ := run_append_own_at (P := Tryz.prog) wc w.heap.size 26 26 trT i0 _ 3 40 Tryz.underlying26 hi hz0 hz1 hz2 rfl (by decide) v _ _ hownc ⟨wr.heap.size + 1, 0, none⟩ 1 1 (trV x.inv) rfl hnew (by intro u hu; simp [trV] at hu; rcases hu with rfl | rfl | rfl <;> rfl) (by unfold maxLen; omega) (by omega) (by have := hS.2.1; simp at this; omega)
     refine wp_value (v := v1) (w' := w1) ?_ ⟨l0, l1, l2, l3, l4, l5, true, l7, l8, l9, l10, l11, true, true, l14, v1, rfl, rfl, (fun e => by rw [e14] at e; cases e), fun _ => ⟨rfl, rfl⟩, h12, h11, h6, (fun e => by cases e), (fun _ e => by cases e), fun _ _ => ⟨wc, hS, hg1, ho1, hat1⟩, (fun e => by rw [e14] at e; cases e)⟩
     exact run_app (x := .tmp 21) (y := .tmp 27) rfl hrun
    | 14, ho =>
     obtain rfl := Option.some.inj ho
     obtain rfl : l14 = false := hL
     obtain rfl : l0 = true := hd ⟨0, .data⟩ (by simp) rfl
     obtain rfl : l2 = true := hd ⟨2, .data⟩ (by simp) rfl
     obtain rfl : l13 = true := hd ⟨13, .data⟩ (by simp) rfl
     obtain ⟨wb, hSb, hgb, hob, hatb⟩ := s2 rfl rfl
     have hwb : wb.heap[w.heap.size]? = wr.heap[w.heap.size]? := by
      rw [show wr.heap[w.heap.size]? = (wr.alloc (.cells (trV x).toArray trT)).heap[w.heap.size]? from (RowKit.Below.heap_alloc wr _ _ (by omega)).symm]
      exact hSb.1.block _ (by simp; omega) (by simp)
     have hGb : Grp wb w.heap.size w.heap.size (grpAll ((l.map Trf.inv).take k)) := (hown.kept (World.grownBy_alloc wr (.cells (trV x).toArray trT) none) (by simp)).kept hSb.1 (by simp)
     obtain ⟨w4, hrun, hG4, hg4⟩ := hGb.store (k := x.inv.to) (x := x.inv) (v := v) (v' := v') (fun W hW => hlook W (hW.trans hwb)) hgb hob (hatb.imp id fun h => ⟨_, h, Nat.le_refl _⟩)
     have hall : wr.grownBy wb none := (World.grownBy_alloc wr _ none).trans hSb.1
     have hvs : ∀ j, v.ownBlock = some j → w.heap.size ≤ j := fun j h => (hownv.lt j h).1
     have hg1 : w.grownBy wb none := hgr.trans hall
     have hg2 : w.grownBy wc none := hg1.andThen hgb fun j h => .inl (hvs j h)
     have hg3 : w.grownBy w4 none := hg2.andThen hg4 fun j h => .inl (by injection h with h; omega)
     exact wp_skip_ (w' := w4) (run_mup (m := .tmp 15) (x := .tmp 17) (y := .tmp 28) rfl hrun) ⟨true, l1, true, l3, l4, l5, l6, l7, l8, l9, l10, l11, l12, true, true, v', rfl, rfl, fun _ => ⟨rfl, rfl, rfl⟩, h13, h12, h11, h6, (fun e => by have := (h13 rfl).2; rw [this] at e; cases e), (fun _ e => by cases e), (fun _ e => by cases e), fun _ => ⟨hG4, hg3, Nat.le_trans hall.size (Nat.le_trans hgb.size hg4.size)⟩⟩
    | i + 15, ho => simp at hlt; omega
   ·rintro L a wc ⟨l0, l1, l2, l3, l4, l5, l6, l7, l8, l9, l10, l11, l12, l13, l14, v', rfl, rfl, h14, h13, h12, h11, h6, s0, s1, s2, s3⟩ hall
    obtain rfl : l14 = true := hall 14 (by decide)
    obtain ⟨hG4, hg4, hs4⟩ := s3 rfl
    have hs4' : w.heap.size + 1 ≤ wc.heap.size := by omega
    have hG5 : Grp wc w.heap.size w.heap.size (grpAll ((l.map Trf.inv).take (k + 1))) := by
     rw [List.take_add_one, List.getElem?_map, List.getElem?_eq_getElem hlt, hx, Option.map_some, Option.toList_some, grpAll_snoc]; exact hG4
    refine hKx _ _ ?_
    go_wp2
    exact ⟨⟨k + 1, by omega, by simp, hG5, hg4, hs4'⟩, by simp [intOf]; omega⟩
   ·exact ⟨false, false, false, false, false, false, false, false, false, false, false, false, false, false, false, undef, rfl, rfl, by simp, by simp, by simp, by simp, by simp, fun _ => ⟨⟨rfl, rfl, rfl, Nat.le_refl _, fun _ _ _ => rfl⟩, rfl⟩, by simp, by simp, by simp⟩
   ·decide
  ·have : k = l.length := by omega
   subst this
   rw [show (l.map Trf.inv).take l.length = l.map Trf.inv from List.take_of_length_le (by simp)] at hown
   have hlt := hown.lt
   have hsrc : Calls Tryz.prog 44 #[.map (some w.heap.size), .string bt] wr fun e w3 => e = .returned (.map (some wr.heap.size)) ∧ Sts w3 wr.heap.size (prdL l bt) ∧ wr.grownBy w3 none := by
    have hgk : (fun k => gat k (grpAll (l.map Trf.inv))) = fun k => (l.map Trf.inv).filter (fun y => decide (y.to = k)) := funext fun k => gat_all k _
    refine Calls.mono (sources_any w.heap.size (fun k => gat k (grpAll (l.map Trf.inv))) ((l.map Trf.inv).map (·.frm)) bt wr hlt (by simpa using hreach) (fun k => by
     rw [gat_all]; have := List.length_filter_le (fun y : Trf => decide (y.to = k)) (l.map Trf.inv); simp at this ⊢; omega) (fun k y hy => by
     rw [gat_all] at hy
     exact List.mem_map.2 ⟨y, (List.mem_filter.1 hy).1, rfl⟩) (fun k => by
     obtain ⟨v, h1, h2, _⟩ := hown.look k
     obtain ⟨A, c, rfl, h3⟩ := own_hf h2
     exact ⟨A, c, h1, h3⟩)) ?_
    rintro e w' ⟨rfl, hS, hg⟩
    rw [List.length_map, hgk] at hS
    exact ⟨rfl, hS, hg⟩
   have hsor : ∀ w3, wr.grownBy w3 none → Sts w3 wr.heap.size (prdL l bt) → Calls Tryz.prog 46 #[.map (some wr.heap.size)] w3 fun e w' => ∃ v, e = .returned v ∧ w0.grownBy w' none ∧ w'.ownsRow w0.heap.size 9 1 v (prdL l bt).length ((srtS (prdL l bt)).map .string) :=
    fun w3 hg hS => sorted_any _ _ htab ((hg0.trans hgr).trans hg) hS hs
   go_wp2_with (first | (refine Calls.mono hsrc ?_; rintro e w3 ⟨rfl, hS3, hg3⟩) | (refine Calls.mono (hsor _ (by assumption) (by assumption)) ?_; rintro e w4 ⟨v4, rfl, hg4, ho4⟩) | go_in)
   go_ret
   exact ⟨_, rfl, hg4, ho4⟩
end Go.Proofs.YtodmofhehabmgaaGreatDoor
