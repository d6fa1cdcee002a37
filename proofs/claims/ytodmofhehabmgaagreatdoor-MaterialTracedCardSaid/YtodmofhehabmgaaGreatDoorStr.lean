/-
 strconv's and strings' functions, as contracts of the layer.
-/
import Derived.Test.YtodmofhehabmgaaGreatDoorLay
import Derived.Test.YtodmofhehabmgaaGreatDoorGdt
import Derived.Test.YtodmofhehabmgaaGreatDoorNum
import Derived.Test.YtodmofhehabmgaaGreatDoorKey
namespace Go.Proofs.YtodmofhehabmgaaGreatDoor
open Go Go.Ai Go.Proofs
set_option linter.unusedSimpArgs false
set_option linter.unusedVariables false
set_option maxHeartbeats 4000000
theorem var_kept {P : Program} {W w : World} {n : String} {x : Array Value} (h : W.var? P n = some x) (hb : ∀ b, b < W.heap.size → w.heap[b]? = W.heap[b]?) : w.var? P n = some x := by
 unfold World.var? at *
 cases hg : P.globalNamed n with
 | none => rw [hg] at h; cases h
 | some g =>
  rw [hg] at h
  simp only [Option.bind_some] at h ⊢
  have hlt : g < W.heap.size := by
   rcases Nat.lt_or_ge g W.heap.size with h1 | h1
   ·exact h1
   ·rw [Array.getElem?_eq_none h1] at h; cases h
  rw [hb g hlt]; exact h
theorem laid_of {P : Program} {w : World} {ok : Nat → Prop} (h : TabB P w ok) : LaidW P w := by
 obtain ⟨W, ⟨h1, h2⟩, _, h3⟩ := h
 have hb : ∀ b, b < W.heap.size → w.heap[b]? = W.heap[b]? := fun b hb => (h3 b hb).2
 exact ⟨fun g hg => var_kept (h1 g hg) hb, fun g n hn hg => (h2 g n hn hg).imp fun t h => h.imp fun p h => var_kept h hb⟩
/-- What a call does that takes plain values and hands back plain ones: its contract. -/
theorem fc_plain {P : Program} {f : FuncId} (us : List Value) {v : Value} {r : Val} (hb : hasBody P f) (hr : ∀ w ok base, VRel w ok base Env.none r v)
  (h : ∀ w, LaidW P w → Calls P f us.toArray w fun e w' => e = .returned v ∧ RowKit.Below w.heap.size w w') : FC P f none (us.map fun u => .one (.g u)) (fun _ x => x = r) := by
 refine ⟨hb, fun w okA g vs htab _ hlen hrel => ?_⟩
 have hus : vs = us := by
  apply List.ext_getElem (by simpa using hlen.symm)
  intro i h1 h2
  have := hrel i (.one (.g us[i])) vs[i] (by simp [h2]) (by simp [h1])
  exact one_g this rfl
 subst hus
 refine Calls.mono (h w (laid_of htab)) ?_
 rintro e w' ⟨rfl, hg⟩
 exact ⟨v, [], r, rfl, rfl, ⟨hg.os, hg.tape, hg.output, hg.size, fun k hk _ => hg.block k hk⟩, hr _ _ _, fun h => by cases h⟩
theorem below_grow (w : World) (k : Nat) (os : Array Obj) : RowKit.Below w.heap.size w (Sort.grow (w.drewN k) os) :=
 ⟨rfl, rfl, rfl, by simp [Sort.grow, World.drewN], fun j hj => by rw [Sort.heap_grow_old _ _ (by simpa [World.drewN] using hj)]; rfl⟩
def itoaB (n : Int) : ByteArray := ⟨(Lib.itoa n).toArray⟩
theorem itoa_fc (n : Int) (h : I64 n) : FC Tryz.prog 33 none [iv n] (fun _ r => r = sv (itoaB n)) :=
 fc_plain [.int .i64 n] (v := .string (itoaB n)) ⟨Tryz.f33, Tryz.func33, by kernel_rfl, by kernel_rfl⟩ (fun _ _ _ => .one ⟨rfl, rfl⟩) fun w hw =>
  (Any.strconv_Itoa LlaysM171 n h.1 h.2 w (hw.1 1 (by kernel_rfl))).mono (by
   rintro e w' ⟨rfl, k, os, rfl⟩
   exact ⟨rfl, below_grow w k os⟩)
theorem atoi_fc (s : ByteArray) (n : Int) (hl : s.size ≤ 18) (h : Lib.atoi s.data.toList = some n) : FC Tryz.prog 104 none [sv s] (fun _ r => r = .tu [iv n, .one (.g .nilIface)]) :=
 fc_plain [.string s] (v := .tuple #[.int .i64 n, .nilIface]) ⟨Tryz.f104, Tryz.func104, by kernel_rfl, by kernel_rfl⟩ (fun w ok base => .tu (us := [.int .i64 n, .nilIface]) rfl (fun i x u h1 h2 => by
   match i with
   | 0 => simp at h1 h2; subst h1; subst h2; exact .one ⟨rfl, rfl⟩
   | 1 => simp at h1 h2; subst h1; subst h2; exact .one ⟨rfl, rfl⟩
   | i + 2 => simp at h1)) fun w hw =>
  (Any.strconv_Atoi Llays172 s n hl h w).mono (by
   rintro e w' ⟨rfl, t, rfl⟩
   refine ⟨rfl, ?_⟩
   unfold Lib.bytesWorld
   refine Lib.below_freeze (B := w.heap.size) (p := ⟨w.heap.size, _, none⟩) ?_ (Nat.le_refl _) _
   exact (RowKit.Below.drew (RowKit.Below.refl _ w)).alloc (Nat.le_refl _) _)
def splL (c : UInt8) (s : ByteArray) : List ByteArray := Lib.splitB ⟨#[c]⟩ 0 (Lib.countB s ⟨#[c]⟩) s
theorem gsp_fc (s : ByteArray) (c : UInt8) (hs : s.size < 4294967281) : FC Tryz.prog 106 none [sv s, sv ⟨#[c]⟩, iv 0, iv (-1)] (fun _ r => r = strs true (splL c s)) := by
 refine ⟨⟨Tryz.f106, Tryz.func106, by kernel_rfl, by kernel_rfl⟩, fun w okA g vs htab _ hlen hrel => ?_⟩
 match vs, hlen with
 | [a, b, d, e], hl2 =>
  obtain rfl := one_g (hrel 0 _ _ rfl rfl) rfl
  obtain rfl := one_g (hrel 1 _ _ rfl rfl) rfl
  obtain rfl := one_g (hrel 2 _ _ rfl rfl) rfl
  obtain rfl := one_g (hrel 3 _ _ rfl rfl) rfl
  have h1 : 1 ≤ (ByteArray.mk #[c]).size := Nat.le_refl 1
  have hle := Lib.countB_le ⟨#[c]⟩ h1 s.size s (Nat.le_refl _)
  have hln := Lib.splitB_all ⟨#[c]⟩ h1 0 _ s rfl
  refine Calls.mono (Any.strings_genSplit_core Llays221 (by kernel_rfl) s ⟨#[c]⟩ 0 (-1) (Lib.countB s ⟨#[c]⟩ + 1) w hs h1 (Nat.zero_le _) (fun x cs hx => ?_) ?_ (by decide) (by decide) (by rw [if_pos (by decide)]; omega)) ?_
  ·rw [show Lib.indexB x ⟨#[c]⟩ = Lib.indexByte x.data.toList c from Lib.index_one _ _]
   exact Any.strings_Index_one { Llays221 with } x c _
  ·rw [show (Lib.countB s ⟨#[c]⟩ : Int) = Lib.countByte s.data.toList c from congrArg _ (Lib.count_one c s.data.toList)]
   exact Any.strings_Count_one { Llays221 with } s c w
  ·rintro e w' ⟨rfl, rfl⟩
   rw [Nat.add_sub_cancel, hln]
   have hfull : Lib.cellsOf (splL c s) (Lib.countB s ⟨#[c]⟩ + 1) = ((splL c s).map Value.string).toArray := by rw [← hln]; exact Lib.cellsOf_full _
   rw [show Lib.splitB ⟨#[c]⟩ 0 (Lib.countB s ⟨#[c]⟩) s = splL c s from rfl] at *
   rw [hfull]
   refine ⟨_, [], _, rfl, rfl, ⟨rfl, rfl, rfl, by simp, fun k hk _ => RowKit.Below.heap_alloc w _ k hk⟩, .one ?_, fun h => by cases h⟩
   refine DRel.sl (fun i _ => .string ((splL c s).getD i default)) (by simp [hln]) (Nat.le_refl _) ⟨Nat.le_refl _, .inl (Nat.le_refl _)⟩ (by simp) (fun e he => ?_) (fun i e j x he hx => ?_) (fun i e j x he hx => ?_)
   ·obtain ⟨y, _, rfl⟩ := List.mem_map.1 he; rfl
   ·obtain ⟨y, hy, rfl⟩ : ∃ y, (splL c s)[i]? = some y ∧ strC y = e := by simpa using he
    have hj : j = 0 := by
     cases j with
     | zero => rfl
     | succ j => simp [strC] at hx
    subst hj
    have hx : x = .g (.string y) := by simpa [strC] using hx.symm
    unfold World.cell?
    rw [heap_alloc_new]
    simp [hy, List.getD_eq_getElem?_getD]
   ·obtain ⟨y, hy, rfl⟩ : ∃ y, (splL c s)[i]? = some y ∧ strC y = e := by simpa using he
    have hj : j = 0 := by
     cases j with
     | zero => rfl
     | succ j => simp [strC] at hx
    subst hj
    simp only [strC, List.getElem?_cons_zero, Option.some.injEq] at hx; subst hx
    rw [List.getD_eq_getElem?_getD, hy]
    exact .g rfl
theorem splL_eq (c : UInt8) (s : ByteArray) : splL c s = (spl c s.data.toList).map bS := splitB_spl c _ s rfl
def C_split : AC := (.seq (.reg false [gI 4 (.mv (.v (.slice none 0 0)))] (kP [0,1] [] []))
 (.seq (.reg false [gM 5 0,gM 6 1,gI 7 (.call (.f 106) [(.t 5),(.t 6),(oI 0),(oI (-1))]),gM 4 7] (kP [4] [] []))
 .ret))
theorem fc_split : FcT Tryz.prog 76 Tryz.f76 C_split [.t 4] := fc_mk [aN [0,1] [] [],aN [4] [] []] Tryz.func76 (by kernel_rfl)
theorem split_fc (s : ByteArray) (c : UInt8) (hs : s.size < 4294967281) : FC Tryz.prog 76 none [sv s, sv ⟨#[c]⟩] (fun _ r => r = strs true (splL c s)) := by
 refine fc_split (by simp +arith) ?_
 unfold C_split
 simp (maxSteps := 1000000) (disch := omega) only [go_sem]
 refine CALL_det (gsp_fc s c hs) (.inl rfl) ?_
 simp (maxSteps := 1000000) (disch := omega) only [go_sem]
end Go.Proofs.YtodmofhehabmgaaGreatDoor
