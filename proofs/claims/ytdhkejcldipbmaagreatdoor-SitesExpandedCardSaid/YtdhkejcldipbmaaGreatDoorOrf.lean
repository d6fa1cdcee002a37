
/-
 Library functions that are known, as answers for runs: keys, bytes in strings, comparing, counting, numbers.
-/
import Derived.Test.YtdhkejcldipbmaaGreatDoorKey
import Derived.Test.YtdhkejcldipbmaaGreatDoorLaa
import Derived.Test.YtdhkejcldipbmaaGreatDoorAiX
import Derived.Lib.Bytealg
import Derived.Lib.UnsafeStr
namespace Go.Proofs.YtdhkejcldipbmaaGreatDoor
open Go Go.Ai Go.Proofs
set_option linter.unusedSimpArgs false
set_option linter.unusedVariables false
set_option maxHeartbeats 4000000
theorem var_kept {P : Program} {W w : World} {n : String} {x : Array Value} (h : W.var? P n = some x) (hb : ∀ b, b < W.heap.size → w.heap[b]? = W.heap[b]?) : w.var? P n = some x := by
 unfold World.var? at *
 cases hg : P.globalNamed n with
 | none => rw [hg] at h; cases h
 | some g =>
  rw [hg] at h
  simp only [Option.bind_some] at h ⊢
  have hlt : g < W.heap.size := by
   rcases Nat.lt_or_ge g W.heap.size with h1 | h1
   ·exact h1
   ·rw [Array.getElem?_eq_none h1] at h; cases h
  rw [hb g hlt]; exact h
theorem laid_of {P : Program} {w : World} {ok : Nat → Prop} (h : TabB P w ok) : LaidW P w := by
 obtain ⟨W, ⟨h1, h2⟩, _, h3⟩ := h
 have hb : ∀ b, b < W.heap.size → w.heap[b]? = W.heap[b]? := fun b hb => (h3 b hb).2
 exact ⟨fun g hg => var_kept (h1 g hg) hb, fun g n hn hg => (h2 g n hn hg).imp fun t h => h.imp fun p h => var_kept h hb⟩
/-- What a call does that takes plain values and hands back plain ones: its contract. -/
theorem fc_plain {P : Program} {f : FuncId} (us : List Value) {v : Value} {r : Val} (hb : hasBody P f) (hr : ∀ w ok base, VRel w ok base Env.none r v)
  (h : ∀ w, LaidW P w → Calls P f us.toArray w fun e w' => e = .returned v ∧ RowKit.Below w.heap.size w w') : FC P f none (us.map fun u => .one (.g u)) (fun _ x => x = r) := by
 refine ⟨hb, fun w okA g vs htab _ hlen hrel => ?_⟩
 have hus : vs = us := by
  apply List.ext_getElem (by simpa using hlen.symm)
  intro i h1 h2
  have := hrel i (.one (.g us[i])) vs[i] (by simp [h2]) (by simp [h1])
  exact one_g this rfl
 subst hus
 refine Calls.mono (h w (laid_of htab)) ?_
 rintro e w' ⟨rfl, hg⟩
 exact ⟨v, [], r, rfl, rfl, ⟨hg.os, hg.tape, hg.output, hg.size, fun k hk _ => hg.block k hk⟩, hr _ _ _, fun h => by cases h⟩
theorem atoi_fc (s : ByteArray) (n : Int) (hl : s.size ≤ 18) (h : Lib.atoi s.data.toList = some n) : FC Tryz.prog 242 none [sv s] (fun _ r => r = .tu [iv n, .one (.g .nilIface)]) :=
 fc_plain [.string s] (v := .tuple #[.int .i64 n, .nilIface]) ⟨Tryz.f242, Tryz.func242, by kernel_rfl, by kernel_rfl⟩ (fun w ok base => .tu (us := [.int .i64 n, .nilIface]) rfl (fun i x u h1 h2 => by
   match i with
   | 0 => simp at h1 h2; subst h1; subst h2; exact .one ⟨rfl, rfl⟩
   | 1 => simp at h1 h2; subst h1; subst h2; exact .one ⟨rfl, rfl⟩
   | i + 2 => simp at h1)) fun w hw =>
  (Any.strconv_Atoi Llays172 s n hl h w).mono (by
   rintro e w' ⟨rfl, t, rfl⟩
   refine ⟨rfl, ?_⟩
   unfold Lib.bytesWorld
   refine Lib.below_freeze (B := w.heap.size) (p := ⟨w.heap.size, _, none⟩) ?_ (Nat.le_refl _) _
   exact (RowKit.Below.drew (RowKit.Below.refl _ w)).alloc (Nat.le_refl _) _)
set_option maxRecDepth 100000 in
theorem bytealgCompare (a b : ByteArray) (w : World) :
  Calls Tryz.prog 109 #[.string a, .string b] w fun e w' => e = .returned (.int .i64 (Lib.compareBytes a.data.toList b.data.toList)) ∧ w' = w := by
 go_enter Tryz.func109, Tryz.ntmps109
 go_wp2
 rw [run_callFunc_extern Tryz.func160 (by kernel_rfl) (by kernel_rfl) (by kernel_rfl) (e := Extern.BytealgCompare.compare) (by kernel_rfl), Lib.run_compareString]
 simp only [Result.andThen]
 rw [Oper.upon_value]
 go_wp2
 go_ret
 exact ⟨rfl, rfl⟩
theorem stringsCompare (a b : ByteArray) (w : World) :
  Calls Tryz.prog 58 #[.string a, .string b] w fun e w' => e = .returned (.int .i64 (Lib.compareBytes a.data.toList b.data.toList)) ∧ w' = w := by
 go_enter Tryz.func58, Tryz.ntmps58
 go_wp2_with (go_at_call 109; refine (bytealgCompare _ _ _).mono ?_; rintro e w' ⟨rfl, rfl⟩)
 go_ret
 exact ⟨rfl, rfl⟩
theorem cmpS_fc (a b : ByteArray) : FC Tryz.prog 58 none [sv a, sv b] (fun _ r => r = iv (Lib.compareBytes a.data.toList b.data.toList)) :=
 fc_data [.string a, .string b] ⟨Tryz.f58, Tryz.func58, by kernel_rfl, by kernel_rfl⟩ rfl fun w => stringsCompare a b w
theorem slIndexByte_fc (s : ByteArray) (c : Int) : FC Tryz.prog 121 none [sv s, ki .u8 c] (fun _ r => r = iv (Lib.indexByte s.data.toList c.toNat.toUInt8)) :=
 fc_data [.string s, .int .u8 c] ⟨Tryz.f121, Tryz.func121, by kernel_rfl, by kernel_rfl⟩ rfl fun w => stringsliteIndexByte s c w
theorem count_fc (s : ByteArray) (c : UInt8) : FC Tryz.prog 186 none [sv s, sv ⟨#[c]⟩] (fun _ r => r = iv (Lib.countByte s.data.toList c)) :=
 fc_data [.string s, .string ⟨#[c]⟩] ⟨Tryz.f186, Tryz.func186, by kernel_rfl, by kernel_rfl⟩ rfl fun w => Any.strings_Count_one Llays138 s c w
/-- One string among the arguments; two; a string and a byte. -/
def a1S (g : ByteArray → Option Val) : List Val → Option Val
 | [.one (.g (.string a))] => g a
 | _ => none
def a2S (g : ByteArray → ByteArray → Option Val) : List Val → Option Val
 | [.one (.g (.string a)), .one (.g (.string b))] => g a b
 | _ => none
def aSB (g : ByteArray → Int → Option Val) : List Val → Option Val
 | [.one (.g (.string a)), .one (.g (.int .u8 c))] => g a c
 | _ => none
theorem a1S_ok {f : FuncId} {g : ByteArray → Option Val} (h : ∀ a r, g a = some r → FC Tryz.prog f none [sv a] (fun _ y => y = r)) : ∀ args r, a1S g args = some r → FC Tryz.prog f none args (fun _ y => y = r) := fun args r e => by
 unfold a1S at e; split at e
 ·exact h _ _ e
 ·cases e
theorem a2S_ok {f : FuncId} {g : ByteArray → ByteArray → Option Val} (h : ∀ a b r, g a b = some r → FC Tryz.prog f none [sv a, sv b] (fun _ y => y = r)) : ∀ args r, a2S g args = some r → FC Tryz.prog f none args (fun _ y => y = r) := fun args r e => by
 unfold a2S at e; split at e
 ·exact h _ _ _ e
 ·cases e
theorem aSB_ok {f : FuncId} {g : ByteArray → Int → Option Val} (h : ∀ a c r, g a c = some r → FC Tryz.prog f none [sv a, ki .u8 c] (fun _ y => y = r)) : ∀ args r, aSB g args = some r → FC Tryz.prog f none args (fun _ y => y = r) := fun args r e => by
 unfold aSB at e; split at e
 ·exact h _ _ _ e
 ·cases e
/-- What is so where a string is not too long. -/
def ifL (a : ByteArray) (n : Nat) (v : Val) : Option Val := if a.size ≤ n then some v else none
theorem ifL_ok {f : FuncId} {a : ByteArray} {n : Nat} {v r : Val} {args : List Val} (h : a.size ≤ n → FC Tryz.prog f none args (fun _ y => y = v)) (e : ifL a n v = some r) : FC Tryz.prog f none args (fun _ y => y = r) := by
 unfold ifL at e; split at e
 ·cases e; exact h (by assumption)
 ·cases e
def oKey : OF Tryz.prog := ⟨89, a1S fun a => ifL a 9223372036854775807 (bv (keyOk a)), a1S_ok fun a _ => ifL_ok (key_fc a)⟩
def oRKey : OF Tryz.prog := ⟨34, a1S fun a => ifL a 9223372036854775807 (bv (keyOk a)), a1S_ok fun a _ => ifL_ok (rkey_fc a)⟩
def oIdx : OF Tryz.prog := ⟨77, aSB fun s c => some (iv (Lib.indexByte s.data.toList c.toNat.toUInt8)), aSB_ok fun s c r e => by cases e; exact indexByte_fc s c⟩
def oIdx2 : OF Tryz.prog := ⟨121, aSB fun s c => some (iv (Lib.indexByte s.data.toList c.toNat.toUInt8)), aSB_ok fun s c r e => by cases e; exact slIndexByte_fc s c⟩
def oCmp : OF Tryz.prog := ⟨58, a2S fun a b => some (iv (Lib.compareBytes a.data.toList b.data.toList)), a2S_ok fun a b r e => by cases e; exact cmpS_fc a b⟩
def one1 : List UInt8 → Option UInt8
 | [c] => some c
 | _ => none
def oCnt : OF Tryz.prog := ⟨186, a2S fun s b => (one1 b.data.toList).map fun c => iv (Lib.countByte s.data.toList c), a2S_ok fun s b r e => by
 rw [Option.map_eq_some_iff] at e
 obtain ⟨c, hc, rfl⟩ := e
 have hb : b = ⟨#[c]⟩ := by
  obtain ⟨⟨l⟩⟩ := b
  simp only at hc
  unfold one1 at hc
  split at hc
  ·cases hc; rfl
  ·cases hc
 rw [hb]; exact count_fc s c⟩
def oAto : OF Tryz.prog := ⟨242, a1S fun s => if s.size ≤ 18 then (Lib.atoi s.data.toList).map fun n => .tu [iv n, .one (.g .nilIface)] else none, a1S_ok fun s r e => by
 split at e
 ·rw [Option.map_eq_some_iff] at e
  obtain ⟨n, hn, rfl⟩ := e
  exact atoi_fc s n (by assumption) hn
 ·cases e⟩
end Go.Proofs.YtdhkejcldipbmaaGreatDoor
