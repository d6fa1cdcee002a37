
/-
 What the generators of clocks hand back; SiteOf's contract.
-/
import Derived.Test.YtdhkejcldipbmaaGreatDoorClk
namespace Go.Proofs.YtdhkejcldipbmaaGreatDoor
open Go Go.Ai Go.Proofs
set_option linter.unusedSimpArgs false
set_option linter.unusedVariables false
set_option maxHeartbeats 4000000
theorem ok_fnum {c : Nat} (hc : 2 ≤ c) {f : FuncId} {args : List Val} {D : Int → Prop} {k : Int → Md} {n : Nat} (hn : n ≤ 2) (hg : Gen Tryz.prog f args n (fun r => ∃ x, D x ∧ r = iv x)) (hx : ∃ x, D x) (h : ∀ x, D x → okMd Tryz.prog c (k x)) : okMd Tryz.prog c (.int f args D k) :=
 ⟨genB_mono hg (by omega) (by obtain ⟨x, h⟩ := hx; exact ⟨_, x, h, rfl⟩) (fun r h => h), h⟩
theorem gen_r {f : FuncId} {args : List Val} {n : Nat} {R R' : Val → Prop} (h : Gen Tryz.prog f args n R) (hR : ∀ r, R r → R' r) : Gen Tryz.prog f args n R' := fun L p h1 h2 h3 h4 => by
 have h5 := h L p h1 h2 h3 h4
 refine ⟨h5.1, fun w okA g vs htab he hl hv => Calls.mono (h5.2 w okA g vs htab he hl hv) ?_⟩
 rintro e w' ⟨v, cs, r, h6, ⟨h7, h8⟩, h9⟩
 exact ⟨v, cs, r, h6, ⟨h7, hR r h8⟩, h9⟩
theorem gen_range (lo hi : Int) (h1 : lo ≤ hi) (h2 : -4611686018427387904 ≤ lo) (h3 : hi ≤ 4611686018427387902) : Gen Tryz.prog fRange [iv lo, iv hi] 1 (fun r => ∃ x, (lo ≤ x ∧ x ≤ hi) ∧ r = iv x) :=
 gen_r (range_fc lo hi h1 h2 h3) (by rintro r ⟨x, a, b, e⟩; exact ⟨x, ⟨a, b⟩, e⟩)
theorem ok_aclkZ {c : Nat} (hc : 2 ≤ c) (l : List (Int × Int)) : okMd Tryz.prog c (aclkZ l) := ok_flip (by omega) (by omega) (by omega) trivial trivial
theorem ok_aclkK {c : Nat} (hc : 2 ≤ c) (l : List (Int × Int)) (hl : l.length ≤ 4) : okMd Tryz.prog c (aclkK l) := by
 cases l with
 | nil => exact ok_aclkZ hc _
 | cons x r =>
  refine ok_flip (by omega) (by omega) (by omega) ⟨genB_mono (next_fc ((x :: r).length : Int) (by simp; omega) (by omega)) (by omega) ⟨iv 0, by simp [List.mem_map]⟩ ?_, fun v _ => ?_⟩ (ok_aclkZ hc _)
  ·rintro v ⟨y, h0, hy, rfl⟩
   exact List.mem_map.2 ⟨y.toNat, List.mem_range.2 (by omega), by rw [show Int.ofNat y.toNat = y from Int.toNat_of_nonneg h0]⟩
  ·exact ok_fnum hc (n := 2) (by omega) (odd_fc 0 50 (by omega) (by omega) (by omega)) ⟨0, by unfold I64; omega⟩ fun _ _ => ok_num (by omega) (by simp) (by simp) fun _ _ => ok_aclkZ hc _
theorem ok_aclkL {c : Nat} (hc : 2 ≤ c) : ∀ (n : Nat) (a s : Int) (acc : List (Int × Int)), acc.length + n ≤ 4 → okMd Tryz.prog c (aclkL n a s acc aclkK)
 | 0, a, s, acc, h => ok_aclkK hc acc (by omega)
 | n + 1, a, s, acc, h => ok_num (by omega) (by simp) (by simp) fun _ _ => ok_num (by omega) (by simp) (by simp) fun _ _ => ok_aclkL hc n _ _ _ (by simp; omega)
theorem ok_aclk : okMd Tryz.prog 2 aclkM :=
 ok_fnum (Nat.le_refl 2) (n := 1) (by omega) (gen_range 0 10 (by omega) (by omega) (by omega)) ⟨0, by omega, by omega⟩ fun _ _ => ok_fnum (Nat.le_refl 2) (n := 1) (by omega) (gen_range 0 20 (by omega) (by omega) (by omega)) ⟨0, by omega, by omega⟩ fun _ _ =>
  ⟨genB_mono (range_fc 0 4 (by omega) (by omega) (by omega)) (by omega) ⟨iv 0, by simp⟩ (by
   rintro r ⟨x, h0, h5, rfl⟩
   have : x = 0 ∨ x = 1 ∨ x = 2 ∨ x = 3 ∨ x = 4 := by omega
   rcases this with rfl | rfl | rfl | rfl | rfl <;> simp), fun v hv => by
   simp only [List.mem_cons, List.not_mem_nil, or_false] at hv
   rcases hv with rfl | rfl | rfl | rfl | rfl <;> exact ok_aclkL (Nat.le_refl 2) _ _ _ _ (by simp [vI])⟩
def goodC (l : List (Int × Int)) : Prop := l.length ≤ 100 ∧ ∀ x ∈ l, I64 x.1 ∧ I64 x.2
theorem ex_aclkZ {l : List (Int × Int)} {r : Val} (hl : goodC l) (h : exMd (aclkZ l) r) : ∃ l', goodC l' ∧ r = ckV l' := by
 rcases ex_flip h with h | h
 ·refine ⟨_, ⟨by simp, fun x hx => ?_⟩, h⟩
  simp only [List.mem_cons, List.not_mem_nil, or_false] at hx
  unfold I64
  rcases hx with rfl | rfl <;> simp
 ·exact ⟨_, hl, h⟩
theorem ex_aclkK {l : List (Int × Int)} {r : Val} (hl : goodC l) (h : exMd (aclkK l) r) : ∃ l', goodC l' ∧ r = ckV l' := by
 cases l with
 | nil => exact ex_aclkZ hl h
 | cons x t =>
  rcases ex_flip h with h | h
  ·obtain ⟨v, hv, x', hx', y, hy, h⟩ := h
   refine ex_aclkZ ⟨by simpa using hl.1, fun z hz => ?_⟩ h
   rcases List.mem_or_eq_of_mem_set hz with h1 | rfl
   ·exact hl.2 z h1
   ·refine ⟨hx', ?_⟩
    simp only [List.mem_cons, List.not_mem_nil, or_false] at hy
    unfold I64
    rcases hy with rfl | rfl | rfl | rfl | rfl <;> simp
  ·exact ex_aclkZ hl h
theorem ex_aclkL {r : Val} : ∀ (n : Nat) (a s : Int) (acc : List (Int × Int)), goodC acc → acc.length + n ≤ 100 → I64 a → I64 s → exMd (aclkL n a s acc aclkK) r → ∃ l', goodC l' ∧ r = ckV l'
 | 0, a, s, acc, hg, hn, ha, hs, h => ex_aclkK hg h
 | n + 1, a, s, acc, hg, hn, ha, hs, h => by
  obtain ⟨x, hx, y, hy, h⟩ := h
  refine ex_aclkL n _ _ _ ⟨by simp; omega, fun z hz => ?_⟩ (by simp; omega) (wrap_in _) (wrap_in _) h
  rcases List.mem_append.1 hz with h1 | h1
  ·exact hg.2 z h1
  ·rw [List.mem_singleton] at h1; subst h1; exact ⟨ha, hs⟩
theorem ex_aclk {r : Val} (h : exMd aclkM r) : ∃ x, DA x ∧ r = .one (.sl true 2 x) := by
 obtain ⟨a, ha, s, hs, v, hv, h⟩ := h
 have key : ∃ l', goodC l' ∧ r = ckV l' := by
  have hI : ∀ x : Int, 0 ≤ x ∧ x ≤ 20 → I64 x := fun x hx => by unfold I64; omega
  simp only [List.mem_cons, List.not_mem_nil, or_false] at hv
  rcases hv with rfl | rfl | rfl | rfl | rfl <;> exact ex_aclkL _ _ _ _ ⟨by simp, by simp⟩ (by simp [vI]) (hI _ ⟨ha.1, by omega⟩) (hI _ hs) h
 obtain ⟨l, hl, rfl⟩ := key
 exact ⟨_, ⟨l, hl.1, hl.2, rfl⟩, rfl⟩
theorem aclk_gen : Gen Tryz.prog fAclk [] (20 * 2) (fun r => ∃ x, DA x ∧ r = .one (.sl true 2 x)) :=
 gen_r (gen_md (e := e_aclk) (Nat.le_of_ble_eq_true (by kernel_rfl)) ok_aclk aclk_run) fun r h => ex_aclk h
/-- Clocks of nodes. -/
abbrev NC := ByteArray × List (Int × Int)
abbrev ncE (x : NC) : List Cel := [gS x.1, .sl true 2 (x.2.map ckE)]
def nm4 : List ByteArray := [(ByteArray.mk #[110, 97]), (ByteArray.mk #[110, 98]), (ByteArray.mk #[]), (ByteArray.mk #[122, 122])]
/-- The names of nodes. -/
def shapeN (ns : List ByteArray) : Prop := ns = [] ∨ ∃ n ∈ nm4, ns = [n] ∨ ns = [n, (ByteArray.mk #[110, 98])]
def DC (c : List (List Cel)) : Prop := ∃ l : List NC, shapeN (l.map (·.1)) ∧ (∀ x ∈ l, goodC x.2) ∧ c = l.map ncE
theorem ok_clkZ (l : List (ByteArray × List (List Cel))) : okMd Tryz.prog 40 (clkZ l) := by
 cases l with
 | nil => exact trivial
 | cons x r => exact ok_flip (by omega) (by omega) (by omega) (ok_some (by omega) (by simp) (by simp) fun _ _ => trivial) trivial
theorem ok_aclkG {k : List (List Cel) → Md} (h : ∀ x, DA x → okMd Tryz.prog 40 (k x)) : okMd Tryz.prog 40 (.clk fAclk [] DA k) :=
 ⟨genB_mono aclk_gen (by omega) ⟨_, [], ⟨[], by simp, by simp, rfl⟩, rfl⟩ (fun r h => h), h⟩
theorem ok_clk : okMd Tryz.prog 40 clkM :=
 have h2 : ∀ l, okMd Tryz.prog 40 (flipM 2 (.clk fAclk [] DA fun c => clkZ (l ++ [((ByteArray.mk #[110, 98]), c)])) (clkZ l)) := fun l => ok_flip (by omega) (by omega) (by omega) (ok_aclkG fun _ _ => ok_clkZ _) (ok_clkZ _)
 ok_flip (by omega) (by omega) (by omega) (ok_aclkG fun _ _ => h2 _) (h2 _)
def goodN (l : List (ByteArray × List (List Cel))) : Prop := shapeN (l.map (·.1)) ∧ ∀ x ∈ l, DA x.2
theorem goodN_DC : ∀ {l : List (ByteArray × List (List Cel))}, (∀ x ∈ l, DA x.2) → ∃ l' : List NC, l'.map (·.1) = l.map (·.1) ∧ (∀ x ∈ l', goodC x.2) ∧ (l.map fun x => [gS x.1, Cel.sl true 2 x.2]) = l'.map ncE
 | [], _ => ⟨[], rfl, by simp, rfl⟩
 | x :: l, h => by
  obtain ⟨l', h1, h2, h3⟩ := goodN_DC (l := l) fun y hy => h y (List.mem_cons_of_mem _ hy)
  obtain ⟨c, h5, h6, h7⟩ := h x List.mem_cons_self
  refine ⟨(x.1, c) :: l', by simp only [List.map_cons, h1], fun y hy => ?_, by simp only [List.map_cons, h3, h7]⟩
  rcases List.mem_cons.1 hy with rfl | hy
  ·exact ⟨h5, h6⟩
  ·exact h2 y hy
theorem ex_clkZ {l : List (ByteArray × List (List Cel))} {r : Val} (hl : goodN l) (h : exMd (clkZ l) r) : ∃ x, DC x ∧ r = .one (.sl true 2 x) := by
 have key : ∃ l', goodN l' ∧ r = clkV l' := by
  cases l with
  | nil => exact ⟨[], ⟨.inl rfl, by simp⟩, h⟩
  | cons x t =>
   rcases ex_flip h with h | h
   ·obtain ⟨nm, hn, h⟩ := h
    refine ⟨_, ⟨?_, fun y hy => ?_⟩, h⟩
    ·have hn' : nm ∈ nm4 := by
      simp only [List.mem_cons, List.not_mem_nil, or_false] at hn
      rcases hn with rfl | rfl | rfl <;> simp [nm4]
     refine .inr ⟨nm, hn', ?_⟩
     rcases hl.1 with h1 | ⟨m, _, h1 | h1⟩
     ·simp at h1
     ·simp only [List.map_cons, List.cons.injEq] at h1 ⊢
      exact .inl ⟨trivial, h1.2⟩
     ·simp only [List.map_cons, List.cons.injEq] at h1 ⊢
      exact .inr ⟨trivial, h1.2⟩
    ·rcases List.mem_cons.1 hy with rfl | hy
     ·exact hl.2 x List.mem_cons_self
     ·exact hl.2 y (List.mem_cons_of_mem _ hy)
   ·exact ⟨_, hl, h⟩
 obtain ⟨l', h1, rfl⟩ := key
 obtain ⟨l2, h2, h3, h4⟩ := goodN_DC h1.2
 exact ⟨_, ⟨l2, by rw [h2]; exact h1.1, h3, rfl⟩, by rw [clkV, h4]⟩
theorem ex_clk {r : Val} (h : exMd clkM r) : ∃ x, DC x ∧ r = .one (.sl true 2 x) := by
 rcases ex_flip h with h | h
 ·obtain ⟨c, hc, h⟩ := h
  rcases ex_flip h with h | h
  ·obtain ⟨c', hc', h⟩ := h
   refine ex_clkZ ⟨.inr ⟨(ByteArray.mk #[110, 97]), by simp [nm4], .inr rfl⟩, fun y hy => ?_⟩ h
   simp only [List.cons_append, List.nil_append, List.mem_cons, List.not_mem_nil, or_false] at hy
   rcases hy with rfl | rfl
   ·exact hc
   ·exact hc'
  ·refine ex_clkZ ⟨.inr ⟨(ByteArray.mk #[110, 97]), by simp [nm4], .inl rfl⟩, fun y hy => ?_⟩ h
   rw [List.mem_singleton] at hy; subst hy; exact hc
 ·rcases ex_flip h with h | h
  ·obtain ⟨c', hc', h⟩ := h
   refine ex_clkZ ⟨.inr ⟨(ByteArray.mk #[110, 98]), by simp [nm4], .inl rfl⟩, fun y hy => ?_⟩ h
   simp only [List.nil_append, List.mem_cons, List.not_mem_nil, or_false] at hy
   rcases hy with rfl
   exact hc'
  ·exact ex_clkZ ⟨.inl rfl, by simp⟩ h
theorem clk_gen : Gen Tryz.prog fClks [] (20 * 40) (fun r => ∃ x, DC x ∧ r = .one (.sl true 2 x)) :=
 gen_r (gen_md (e := e_clks) (Nat.le_of_ble_eq_true (by kernel_rfl)) ok_clk clk_run) fun r h => ex_clk h
theorem site_gen : Gen Tryz.prog 4 [] (24 * 800) (fun r => ∃ tags cc al ats cl, DC cl ∧ Dom tags cc al ats ∧ r = siteV tags cc al ats cl) :=
 gen_r (gen_md (c := 800) (e := e_siteof) (Nat.le_of_ble_eq_true (by kernel_rfl)) (ok_site (by omega) (genB_mono clk_gen (by omega) ⟨_, [], ⟨[], .inl rfl, by simp, rfl⟩, rfl⟩ fun r h => h) (genB_mono odd_gen (by omega) ⟨_, 0, by simp [oddL], rfl⟩ fun r h => h)) (site_run DC)) fun r h => ex_site h
end Go.Proofs.YtdhkejcldipbmaaGreatDoor
