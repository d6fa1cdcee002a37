
/-
 strings.Builder: WriteString, String and Len as contracts of the layer.
-/
import Derived.Test.YtdhkejcldipbmaaGreatDoorBlw
import Derived.Test.YtdhkejcldipbmaaGreatDoorAiE
namespace Go.Proofs.YtdhkejcldipbmaaGreatDoor
open Go Go.Ai Go.Proofs
set_option linter.unusedSimpArgs false
set_option linter.unusedVariables false
set_option maxHeartbeats 4000000
def bldCk : Nat → List TypeInfo → Bool
 | _, [] => true
 | t, i :: l => (i.str != "strings.Builder" || t == bTy) && bldCk (t + 1) l
theorem bldCk_of : ∀ (l : List TypeInfo) (b : Nat), bldCk b l = true → ∀ j i, l[j]? = some i → i.str = "strings.Builder" → b + j = bTy
 | [], _, _, j, i, h, _ => by simp at h
 | a :: l, b, hc, j, i, h, hs => by
  rw [bldCk, Bool.and_eq_true] at hc
  match j with
  | 0 => simp at h; subst h; simpa [hs] using hc.1
  | j + 1 => have := bldCk_of l (b + 1) hc.2 j i (by simpa using h) hs; omega
theorem types_list {P : Program} {t : TypeId} {i : TypeInfo} (h : P.types[t]? = some i) : P.types.toList[t]? = some i := by rw [Array.getElem?_toList]; exact h
theorem bld_typ {t : TypeId} {i : TypeInfo} (hi : Tryz.prog.types[t]? = some i) (h : (i.str == "strings.Builder") = true) : t = bTy := by
 have h3 := bldCk_of Tryz.prog.types.toList 0 (by kernel_rfl) t i (types_list hi) (by simpa using h)
 rw [← h3, Nat.zero_add]
theorem bld_only {t : TypeId} (h : isBld Tryz.prog t = true) : t = bTy := by
 unfold isBld at h
 split at h
 ·rename_i i hi; exact bld_typ hi h
 ·cases h
abbrev bytC (x : UInt8) : List Cel := [.g (.int .u8 x.toNat)]
abbrev bRow (l : List UInt8) : Row := ⟨0, byTy, 1, l.map bytC⟩
theorem rrel_by {w : World} {ok : Nat → Prop} {base : Nat} : ∀ l : List UInt8, RRel w ok base (l.map bytC).flatten (Lib.byteCells l)
 | [] => .nil
 | x :: l => by
  have h : RRel w ok base [Cel.g (.int .u8 x.toNat)] [Value.int .u8 x.toNat] := ⟨rfl, fun i c u h1 h2 => by
   match i with
   | 0 => simp at h1 h2; subst h1; subst h2; exact ⟨rfl, rfl, rfl⟩
   | i + 1 => simp at h1⟩
  exact h.append (rrel_by l)
theorem rrel_by_eq {w : World} {ok : Nat → Prop} {base : Nat} : ∀ {l : List UInt8} {us : List Value}, RRel w ok base (l.map bytC).flatten us → us = Lib.byteCells l
 | [], us, h => List.eq_nil_of_length_eq_zero (by have := h.1; simpa using this.symm)
 | x :: l, us, h => by
  cases us with
  | nil => have := h.1; simp [bytC] at this
  | cons u us =>
   have h0 := h.2 0 (.g (.int .u8 x.toNat)) u rfl rfl
   have e : u = .int .u8 x.toNat := h0.2.1
   have h1 : RRel w ok base (l.map bytC).flatten us := by
    have := h.drop 1
    simpa [bytC] using this
   rw [rrel_by_eq h1, e]; rfl
abbrev bH (c : Cel) (d : Cel) (l : List UInt8) : Hp := ⟨[(1900001, [c, d])], [(1000002, bRow l)]⟩
theorem tabO_1b {α : Type} {k0 k : Nat} {x y : α} (h : tabO [(k0, x)] k = some y) : k = k0 ∧ y = x := by
 simp only [tabO] at h
 split at h
 ·rename_i e; injection h with h; exact ⟨e, h.symm⟩
 ·cases h
/-- A Builder's pointer to itself: laid (true) or not yet. -/
def bpC : Bool → Cel
 | false => .g (.pointer none)
 | true => .bx 1900001 0
def bpV (g : Nat) : Bool → Value
 | false => .pointer none
 | true => .pointer (some ⟨g, 0, none⟩)
/-- A method of the Builder, by what it does to its block and to its row. -/
theorem bld_fcm {f : FuncId} (q q' : Bool) (c1' : Cel) (l l' : List UInt8) (av : List Value) (rv : Val) (v : Value) (hb : hasBody Tryz.prog f)
  (hrv : ∀ w ok base E, VRel w ok base E rv v)
  (h1c : c1' = .ow 1000002 0 ∨ c1' = .any)
  (hC : ∀ (g : Nat) (w : World) (p u : Value), w.heap[g]? = some (.cells #[p, u] bTy (0, 0)) → p = bpV g q → w.ownsRow 0 byTy 1 u l.length (Lib.byteCells l) → u.ownBlock ≠ some g →
   Calls Tryz.prog f (.pointer (some ⟨g, 0, none⟩) :: av).toArray w fun e w' => e = .returned v ∧ ∃ p' u' u'', w'.heap[g]? = some (.cells #[p', u'] bTy (0, 0)) ∧ p' = bpV g q' ∧ u'.oneCell' = true ∧ (c1' = .ow 1000002 0 → u' = u'') ∧
    w'.ownsRow 0 byTy 1 u'' l'.length (Lib.byteCells l') ∧ (u''.ownBlock = none ∨ u''.ownBlock = u.ownBlock ∨ ∃ b, u''.ownBlock = some b ∧ w.heap.size ≤ b) ∧ w'.os = w.os ∧ w'.tape = w.tape ∧ w'.output = w.output ∧ w.heap.size ≤ w'.heap.size ∧ ∀ k, k < w.heap.size → k ≠ g → u.ownBlock ≠ some k → w'.heap[k]? = w.heap[k]?) :
  FCM Tryz.prog f (bH (bpC q) (.ow 1000002 0) l) (.one (.bx 1900001 0) :: av.map fun u => .one (.g u)) (fun H r => H = bH (bpC q') c1' l' ∧ r = rv) := by
 refine ⟨hb, fun w okA E vs htab hH hown hty hlen hrel => ?_⟩
 have hk1 : ∀ (c : Cel) (d : Cel) (k : Nat) (r : List Cel), tabO [(1900001, [c, d])] k = some r → k = 1900001 ∧ r = [c, d] := fun c d k r h => tabO_1b h
 have hk3 : ∀ (x : List Cel) (k : Nat), tabO [(1900001, x)] k = none → k ≠ 1900001 := fun x k h e => by subst e; simp [tabO] at h
 have hk2 : ∀ (r : Row) (k : Nat), tabO [(1000002, r)] k = none → k ≠ 1000002 := fun r k h e => by subst e; simp [tabO] at h
 obtain ⟨g, cur, ty, hg, hcur, hcs⟩ := hH.bx 1900001 [bpC q, .ow 1000002 0] (by simp [tabO])
 obtain ⟨_, hro, u, xs, hm, how, hxs⟩ := hH.rw 1000002 (bRow l) (by simp [tabO])
 simp only at hm how hxs
 have how := how.row (by omega)
 have hxe := rrel_by_eq hxs
 subst hxe
 rw [show (l.map bytC).length = l.length by simp] at how
 obtain ⟨cur0, T0, hh0, hT0⟩ := hty 1900001 g (by decide) hg
 have hT := bld_only hT0
 rw [hcur] at hh0
 injection hh0 with hh0; injection hh0 with _ hh0 _
 subst hh0; subst hT
 obtain ⟨p, u1, hpu⟩ : ∃ p u1, cur.toList = [p, u1] := by
  have := hcs.1
  match hc : cur.toList, this with
  | [p, u1], _ => exact ⟨p, u1, rfl⟩
 have hcu : cur = #[p, u1] := by apply Array.ext'; rw [hpu]
 subst hcu
 have hgm : ∀ k, k ≠ 1900001 → E.gm k = none := fun k hk => hH.bxn k (by simp [tabO, hk])
 have hrm : ∀ k, k ≠ 1000002 → E.rm k = none := fun k hk => hH.rwn k (by simp [tabO, hk])
 have hgv : ∀ {g1 k}, E.gm k = some g1 → k = 1900001 ∧ g1 = g := fun {g1 k} h => by
  by_cases e : k = 1900001
  ·subst e; rw [hg] at h; exact ⟨rfl, (Option.some.inj h).symm⟩
  ·rw [hgm k e] at h; cases h
 have hu1 : u1 = u := by
  obtain ⟨_, ver', z, u', hr, hle, hvu, hz⟩ := hcs.2 1 (.ow 1000002 0) u1 rfl rfl
  rw [hm] at hr
  simp only [Option.some.injEq, Prod.mk.injEq] at hr
  obtain ⟨rfl, rfl, rfl⟩ := hr
  exact hvu rfl
 subst hu1
 have hp : p = bpV g q := by
  have h0 := hcs.2 0 (bpC q) p rfl rfl
  cases q with
  | false => exact h0.1
  | true =>
   obtain ⟨g', hg', hp⟩ := h0
   rw [(hgv hg').2] at hp; exact hp
 have hne : u1.ownBlock ≠ some g := by rw [← row_blkV how]; exact hH.gr _ _ _ _ _ _ hg hm
 have hvs : vs = .pointer (some ⟨g, 0, none⟩) :: av := by
  apply List.ext_getElem (by simpa using hlen.symm)
  intro i h1 h2
  match i with
  | 0 =>
   have h0 := hrel 0 _ vs[0] rfl (by simp [h1])
   cases h0 with
   | one h3 =>
    obtain ⟨g', hg', hp'⟩ := h3
    rw [(hgv hg').2] at hp'; exact hp'
  | i + 1 =>
   have h2' : i < av.length := by simpa using h2
   have h0 := hrel (i + 1) (.one (.g av[i])) vs[i + 1] (by simp [h2']) (by simp [h1])
   exact one_g h0 rfl
 subst hvs
 have hglt : g < w.heap.size := (Array.getElem?_eq_some_iff.1 hcur).1
 refine Calls.mono (hC g w p u1 hcur hp how hne) ?_
 rintro e w' ⟨rfl, p', u', u'', hw', hp', hoc, huu, how', hat, hos, htp, hou, hsz, hfr⟩
 have hne2 : u''.ownBlock ≠ some g := by
  rcases hat with h | h | ⟨b, h, hlb⟩
  ·rw [h]; simp
  ·rw [h]; exact hne
  ·rw [h]; intro e; injection e with e; omega
 have hE : ∀ k, (upd E.rm 1000002 (some (0, 1, u''))) k = if k = 1000002 then some (0, 1, u'') else none := fun k => by
  by_cases e : k = 1000002
  ·subst e; simp [upd_same]
  ·rw [upd_ne _ _ e, hrm k e, if_neg e]
 refine ⟨v, _, rv, ⟨E.gm, upd E.rm 1000002 (some (0, 1, u''))⟩, rfl, ⟨rfl, rfl⟩, ?_, ?_, hrv _ _ _ _, ?_, ?_, ?_, ?_, ?_, ?_, ?_⟩
 ·exact ⟨hos, htp, hou, hsz, fun k hk hx => hfr k hk (fun e => hx (.inl ⟨1900001, by rw [hg, e]⟩)) (fun e => hx (.inr ⟨1000002, 0, 1, u1, hm, by rw [row_blkV how]; exact e⟩))⟩
 ·refine ⟨fun k cs h => ?_, fun k h => hgm k (hk3 _ _ h), fun k r0 h => ?_, fun k h => ?_, fun k k' g' h h' => by rw [(hgv h).1, (hgv h').1], fun k g' k' ver z u2 h h' => ?_, fun k ver z u2 k' ver' z' u' b h h' _ _ => ?_⟩
  ·obtain ⟨rfl, rfl⟩ := tabO_1b h
   refine ⟨g, #[p', u'], bTy, hg, hw', rfl, fun i c x h1 h2 => ?_⟩
   match i with
   | 0 =>
    simp at h1 h2; subst h1; subst h2
    subst hp'
    cases q' with
    | false => exact ⟨rfl, rfl⟩
    | true => exact ⟨g, hg, rfl⟩
   | 1 =>
    simp at h1 h2; subst h1; subst h2
    rcases h1c with rfl | rfl
    ·exact ⟨hoc, 0, 1, u'', by simp [upd_same], Nat.le_refl _, fun _ => huu rfl, by omega⟩
    ·exact hoc
   | i + 2 => simp at h1
  ·obtain ⟨rfl, rfl⟩ := tabO_1b h
   refine ⟨fun h => by simp at h, .of (show (0 : Nat) < 1 by omega) (fun e he => ?_), u'', Lib.byteCells l', by simp [upd_same], .inl ⟨show (0 : Nat) < 1 by omega, by simpa using how'⟩, rrel_by l'⟩
   obtain ⟨x, _, rfl⟩ := List.mem_map.1 he; rfl
  ·have := hk2 _ _ h
   simp only [hE, if_neg this]
  ·simp only [hE] at h'
   split at h'
   ·simp only [Option.some.injEq, Prod.mk.injEq] at h'
    obtain ⟨_, _, rfl⟩ := h'
    rw [(hgv h).2, row_blkV how']; exact hne2
   ·cases h'
  ·simp only [hE] at h h'
   split at h <;> split at h'
   ·omega
   ·cases h'
   ·cases h
   ·cases h
 ·intro k g1 g2 h h'; exact (hgv h).2.trans (hgv h').2.symm
 ·intro k g1 h; exact .inr h
 ·intro k ver z u2 b h hb2
  simp only [hE] at h
  split at h
  ·rename_i e; subst e
   simp only [Option.some.injEq, Prod.mk.injEq] at h
   obtain ⟨_, _, rfl⟩ := h
   rw [row_blkV how'] at hb2
   rcases hat with h | h | ⟨b', h, hlb⟩
   ·rw [h] at hb2; cases hb2
   ·exact .inr ⟨_, _, _, hm, by rw [row_blkV how, ← h]; exact hb2⟩
   ·rw [h] at hb2; injection hb2 with hb2; subst hb2; exact .inl hlb
  ·cases h
 ·intro k r0 h; obtain ⟨rfl, rfl⟩ := tabO_1b h; rfl
 ·intro k r0 r1 h h'
  obtain ⟨rfl, rfl⟩ := tabO_1b h
  obtain ⟨_, rfl⟩ := tabO_1b h'
  rfl
 ·intro k ver ver' z z' u2 u3 hk; cases hk
 ·intro k g1 _ h h'
  obtain ⟨rfl, rfl⟩ := hgv h
  exact ⟨_, _, hw', hT0⟩
theorem oneCell_own {w : World} {b z n : Nat} {e : TypeId} {v : Value} {xs : List Value} (h : w.ownsRow b e z v n xs) : v.oneCell' = true := by
 rcases h.2 with ⟨rfl, _⟩ | ⟨g, cap, cur, rfl, _⟩ <;> rfl
theorem ptr_or {g : Nat} {q : Bool} {p : Value} (h : p = bpV g q) : p = .pointer none ∨ p = .pointer (some ⟨g, 0, none⟩) := by
 cases q
 ·exact .inl h
 ·exact .inr h
theorem writeString_fcm (q : Bool) (l : List UInt8) (s : ByteArray) (hlen : l.length + s.size ≤ 140737488355328) :
  FCM Tryz.prog 188 (bH (bpC q) (.ow 1000002 0) l) [.one (.bx 1900001 0), sv s] (fun H r => H = bH (bpC true) (.ow 1000002 0) (l ++ s.data.toList) ∧ r = .tu [iv s.size, .one (.g .nilIface)]) :=
 bld_fcm q true _ l (l ++ s.data.toList) [.string s] _ (.tuple #[.int .i64 s.size, .nilIface]) ⟨Tryz.f188, Tryz.func188, by kernel_rfl, by kernel_rfl⟩
  (fun w ok base E => .tu (us := [.int .i64 s.size, .nilIface]) rfl (fun i x u h1 h2 => by
   match i with
   | 0 => simp at h1 h2; subst h1; subst h2; exact .one ⟨rfl, rfl⟩
   | 1 => simp at h1 h2; subst h1; subst h2; exact .one ⟨rfl, rfl⟩
   | i + 2 => simp at h1)) (.inl rfl) fun g w p u hb hp how hne => by
  refine (bld_write g w p u l.length (Lib.byteCells l) s hb (ptr_or hp) how hne hlen).mono ?_
  rintro e w' ⟨rfl, v', h1, h2, h3, h4, h5, h6, h7, h8⟩
  have hcs : Lib.byteCells l ++ Lib.strCells s = Lib.byteCells (l ++ s.data.toList) := by simp [Lib.byteCells, Lib.strCells]
  rw [hcs, show l.length + s.size = (l ++ s.data.toList).length by simp] at h2
  exact ⟨rfl, _, v', v', h1, rfl, oneCell_own h2, fun _ => rfl, h2, .inr h3, h4, h5, h6, h7, h8⟩
theorem string_fcm (q : Bool) (l : List UInt8) :
  FCM Tryz.prog 189 (bH (bpC q) (.ow 1000002 0) l) [.one (.bx 1900001 0)] (fun H r => H = bH (bpC q) .any [] ∧ r = sv ⟨l.toArray⟩) :=
 bld_fcm q q _ l [] [] _ (.string ⟨l.toArray⟩) ⟨Tryz.f189, Tryz.func189, by kernel_rfl, by kernel_rfl⟩
  (fun w ok base E => .one ⟨rfl, rfl⟩) (.inr rfl) fun g w p u hb hp how hne => by
  refine (bld_string g l w p u hb how).mono ?_
  rintro e w' ⟨rfl, hg⟩
  have hlt : g < w.heap.size := (Array.getElem?_eq_some_iff.1 hb).1
  refine ⟨rfl, p, u, .slice none 0 0, by rw [hg.block g hlt (fun e => hne e.symm)]; exact hb, hp, oneCell_own how, (fun h => by cases h), ⟨rfl, .inl ⟨rfl, rfl⟩⟩, .inl rfl, hg.os, hg.tape, hg.output, hg.size, fun k hk _ hkv => hg.block k hk (fun e => hkv e.symm)⟩
end Go.Proofs.YtdhkejcldipbmaaGreatDoor
