
/-
 Sites, one part after the other: what is wrong with alarms.
-/
import Derived.Test.YtdhkejcldipbmaaGreatDoorStd
import Derived.Test.YtdhkejcldipbmaaGreatDoorErn
namespace Go.Proofs.YtdhkejcldipbmaaGreatDoor
open Go Go.Ai Go.Proofs
set_option linter.unusedSimpArgs false
set_option linter.unusedVariables false
set_option maxHeartbeats 4000000
set_option maxRecDepth 100000
abbrev fCl : FuncId := 96
abbrev fAl : FuncId := 39
/-- Two answers that are one number of an error. -/
def agree (a b : Option (List Cel × Val)) : Bool := match a, b with
 | some ([], .one (.g (.int .i64 n))), some ([], .one (.g (.int .i64 m))) => Nat.beq n.toNat m.toNat && (Int.decEq n (Int.ofNat n.toNat)).decide && (Int.decEq m (Int.ofNat m.toNat)).decide
 | _, _ => false
theorem agree_ok {a b : Option (List Cel × Val)} (h : agree a b = true) : ∃ e, errN e ∧ a = some ([], iv e) ∧ b = some ([], iv e) := by
 unfold agree at h
 split at h
 ·rename_i n m
  simp only [Bool.and_eq_true, decide_eq_true_eq, Nat.beq_eq_true_eq] at h
  obtain ⟨⟨h1, h2⟩, h3⟩ := h
  have e : n = m := h2.trans ((congrArg Int.ofNat (Nat.eq_of_beq_eq_true h1)).trans h3.symm)
  subst e
  have h4 := errN_nat n.toNat
  rw [← h2] at h4
  exact ⟨n, h4, rfl, rfl⟩
 ·cases h
theorem all_at {α : Type} {p : α → Bool} : ∀ {l : List α}, l.all p = true → ∀ x ∈ l, p x = true := fun {l} h x hx => List.all_eq_true.1 h x hx
abbrev alV (kd lim pr : Int) (lat : Bool) (k s : Nat) : Val := .one (.sl false 10 (alOf kd lim pr lat k s))
noncomputable def al0 (lat : Bool) (s : Nat) : Bool := [1, 2, 3].all fun k => nums0.all fun x => agree (R fCl [alV x.1 x.2 1 lat k s]) (R fAl [alV x.1 x.2 1 lat k s])
noncomputable def al4 (k s : Nat) : Bool := oddL.all fun kd => [(0 : Int), 1].all fun pr => agree (R fCl [alV kd 0 pr false k s]) (R fAl [alV kd 0 pr false k s])
theorem al_00 (lat : Bool) : al0 lat 0 = true := by kernel_rfl
theorem al_01 (lat : Bool) : al0 lat 1 = true := by kernel_rfl
theorem al_05 (lat : Bool) : al0 lat 5 = true := by kernel_rfl
theorem al_410 : al4 1 0 = true := by kernel_rfl
theorem al_411 : al4 1 1 = true := by kernel_rfl
theorem al_415 : al4 1 5 = true := by kernel_rfl
theorem al_440 : al4 4 0 = true := by kernel_rfl
theorem al_441 : al4 4 1 = true := by kernel_rfl
theorem al_445 : al4 4 5 = true := by kernel_rfl
theorem al_450 : al4 5 0 = true := by kernel_rfl
theorem al_451 : al4 5 1 = true := by kernel_rfl
theorem al_455 : al4 5 5 = true := by kernel_rfl
theorem al_nil : agree (R fCl [.one (.sl false 10 [])]) (R fAl [.one (.sl false 10 [])]) = true := by kernel_rfl
/-- Alarms of a template, as they are drawn. -/
inductive AlD : Int → Int → Int → Bool → Nat → Prop
 | none {kd lim pr lat} : AlD kd lim pr lat 0
 | right {x lat k} : x ∈ nums0 → k ∈ [1, 2, 3] → AlD x.1 x.2 1 lat k
 | wrong {kd pr k} : kd ∈ oddL → pr ∈ [(0 : Int), 1] → k ∈ [1, 4, 5] → AlD kd 0 pr false k
/-- As many assets of the first template. -/
def sq3 : Nat → Nat
 | 1 => 1
 | 3 => 1
 | 5 => 5
 | _ => 0
theorem alOf_sq (kd lim pr : Int) (lat : Bool) (k : Nat) (hk : k ∈ [0, 1, 2, 3, 4, 5]) (s : Nat) (hs : s ∈ [0, 1, 2, 3, 4, 5]) : alOf kd lim pr lat k s = alOf kd lim pr lat k (sq3 s) := by
 simp only [List.mem_cons, List.not_mem_nil, or_false] at hk hs
 rcases hk with rfl | rfl | rfl | rfl | rfl | rfl <;> rcases hs with rfl | rfl | rfl | rfl | rfl | rfl <;> first | rfl | kernel_rfl
theorem sq3_in {s : Nat} : sq3 s = 0 ∨ sq3 s = 1 ∨ sq3 s = 5 := by
 unfold sq3; split <;> simp
theorem al_both {kd lim pr : Int} {lat : Bool} {k : Nat} (h : AlD kd lim pr lat k) {s : Nat} (hs : s ∈ [0, 1, 2, 3, 4, 5]) : ∃ e, errN e ∧ R fCl [alV kd lim pr lat k s] = some ([], iv e) ∧ R fAl [alV kd lim pr lat k s] = some ([], iv e) := by
 apply agree_ok
 cases h with
 | none =>
  have e : alOf kd lim pr lat 0 s = [] := by
   simp only [List.mem_cons, List.not_mem_nil, or_false] at hs
   rcases hs with rfl | rfl | rfl | rfl | rfl | rfl <;> rfl
  show agree (R fCl [.one (.sl false 10 (alOf kd lim pr lat 0 s))]) (R fAl [.one (.sl false 10 (alOf kd lim pr lat 0 s))]) = true
  rw [e]; exact al_nil
 | right hx hk =>
  rename_i x
  have h6 : k ∈ [0, 1, 2, 3, 4, 5] := by simp only [List.mem_cons, List.not_mem_nil, or_false] at hk ⊢; omega
  show agree (R fCl [.one (.sl false 10 (alOf x.1 x.2 1 lat k s))]) (R fAl [.one (.sl false 10 (alOf x.1 x.2 1 lat k s))]) = true
  rw [alOf_sq _ _ _ _ k h6 s hs]
  have h0 : al0 lat (sq3 s) = true := by
   rcases @sq3_in s with h | h | h <;> rw [h]
   ·exact al_00 lat
   ·exact al_01 lat
   ·exact al_05 lat
  exact all_at (all_at h0 k hk) x hx
 | wrong hkd hpr hk =>
  have h6 : k ∈ [0, 1, 2, 3, 4, 5] := by simp only [List.mem_cons, List.not_mem_nil, or_false] at hk ⊢; omega
  show agree (R fCl [.one (.sl false 10 (alOf kd 0 pr false k s))]) (R fAl [.one (.sl false 10 (alOf kd 0 pr false k s))]) = true
  rw [alOf_sq _ _ _ _ k h6 s hs]
  have h0 : al4 k (sq3 s) = true := by
   simp only [List.mem_cons, List.not_mem_nil, or_false] at hk
   rcases hk with rfl | rfl | rfl <;> rcases @sq3_in s with h | h | h <;> rw [h]
   ·exact al_410
   ·exact al_411
   ·exact al_415
   ·exact al_440
   ·exact al_441
   ·exact al_445
   ·exact al_450
   ·exact al_451
   ·exact al_455
  exact all_at (all_at h0 kd hkd) pr hpr
end Go.Proofs.YtdhkejcldipbmaaGreatDoor
