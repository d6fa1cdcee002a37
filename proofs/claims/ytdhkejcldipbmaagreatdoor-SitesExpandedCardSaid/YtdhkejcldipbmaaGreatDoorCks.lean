
/-
 Both sides answer alike of the clocks of a site.
-/
import Derived.Test.YtdhkejcldipbmaaGreatDoorErn
import Derived.Test.YtdhkejcldipbmaaGreatDoorClg
import Derived.Test.YtdhkejcldipbmaaGreatDoorCkc
namespace Go.Proofs.YtdhkejcldipbmaaGreatDoor
open Go Go.Ai Go.Proofs
set_option linter.unusedSimpArgs false
set_option linter.unusedVariables false
set_option maxHeartbeats 4000000
set_option maxRecDepth 100000
abbrev fCk1 : FuncId := 97
abbrev fCk2 : FuncId := 88
def nmI : Nat → ByteArray
 | 0 => (ByteArray.mk #[110, 97])
 | 1 => (ByteArray.mk #[110, 98])
 | 2 => (ByteArray.mk #[])
 | _ => (ByteArray.mk #[122, 122])
abbrev ncI (i : Nat) (c : List (List Cel)) : List Cel := [gS (nmI i), .sl true 2 c]
def s1 (i : Nat) (v : Int) : Int := if i = 2 then 5 else v
def s2 (i : Nat) (v1 v2 : Int) : Int := if i = 2 then 5 else if v1 = 0 then (if i = 0 then v2 else 7) else v1
abbrev lgE (f : FuncId) (c : List (List Cel)) (v : Int) : FuncId × List Val × Val := (f, [.one (.sl false 2 c)], iv v)
def lg1 (f : FuncId) (i : Nat) (c : List (List Cel)) (v : Int) : Lg := if i = 2 then [] else [lgE f c v]
def lg2 (f : FuncId) (i : Nat) (c1 c2 : List (List Cel)) (v1 v2 : Int) : Lg := if i = 2 then [] else if v1 = 0 then (if i = 0 then [lgE f c1 v1, lgE f c2 v2] else [lgE f c1 v1]) else [lgE f c1 v1]
theorem k0 : W e_pcc [] [.one (.sl false 2 [])] = some (iv 0, []) ∧ W e_qclk [] [.one (.sl false 2 [])] = some (iv 0, []) := ⟨by kernel_rfl, by kernel_rfl⟩
theorem k1 (i : Nat) (hi : i ∈ [0, 1, 2, 3]) (v : Int) (hv : v ∈ [(0 : Int), 1, 7]) (c : List (List Cel)) :
  W e_pcc [(fCk1, iv v)] [.one (.sl false 2 [ncI i c])] = some (iv (s1 i v), lg1 fCk1 i c v) ∧ W e_qclk [(fCk2, iv v)] [.one (.sl false 2 [ncI i c])] = some (iv (s1 i v), lg1 fCk2 i c v) := by
 simp only [List.mem_cons, List.not_mem_nil, or_false] at hi hv
 rcases hi with rfl | rfl | rfl | rfl <;> rcases hv with rfl | rfl | rfl <;> exact ⟨by kernel_rfl, by kernel_rfl⟩
theorem k2 (i : Nat) (hi : i ∈ [0, 1, 2, 3]) (v1 : Int) (hv1 : v1 ∈ [(0 : Int), 1, 7]) (v2 : Int) (hv2 : v2 ∈ [(0 : Int), 1, 7]) (c1 c2 : List (List Cel)) :
  W e_pcc [(fCk1, iv v1), (fCk1, iv v2)] [.one (.sl false 2 [ncI i c1, ncI 1 c2])] = some (iv (s2 i v1 v2), lg2 fCk1 i c1 c2 v1 v2) ∧ W e_qclk [(fCk2, iv v1), (fCk2, iv v2)] [.one (.sl false 2 [ncI i c1, ncI 1 c2])] = some (iv (s2 i v1 v2), lg2 fCk2 i c1 c2 v1 v2) := by
 simp only [List.mem_cons, List.not_mem_nil, or_false] at hi hv1 hv2
 rcases hi with rfl | rfl | rfl | rfl <;> rcases hv1 with rfl | rfl | rfl <;> rcases hv2 with rfl | rfl | rfl <;> exact ⟨by kernel_rfl, by kernel_rfl⟩
theorem ckGo_in : ∀ (l : List CK) (p : Option CK), ckGo p l ∈ [(0 : Int), 1, 7]
 | [], p => by cases p <;> simp [ckGo]
 | x :: l, p => by
  have ih := ckGo_in l (some x)
  rw [ckGo.eq_def]
  simp only []
  by_cases h1 : ckFault x ≠ 0
  ·rw [if_pos h1]; simp
  ·rw [if_neg h1]
   cases p with
   | none => simpa using ih
   | some y =>
    simp only []
    split
    ·simp
    ·exact ih
theorem ckF_in {l : List CK} (h : l.length ≤ 100) : ckF l ∈ [(0 : Int), 1, 7] := by
 unfold ckF; rw [if_neg (by omega)]; exact ckGo_in l _
theorem nm4_i {n : ByteArray} (h : n ∈ nm4) : ∃ i ∈ [0, 1, 2, 3], n = nmI i := by
 simp only [nm4, List.mem_cons, List.not_mem_nil, or_false] at h
 rcases h with rfl | rfl | rfl | rfl
 ·exact ⟨0, by simp, rfl⟩
 ·exact ⟨1, by simp, rfl⟩
 ·exact ⟨2, by simp, rfl⟩
 ·exact ⟨3, by simp, rfl⟩
theorem s_err {v : Int} (h : v ∈ [(0 : Int), 1, 7]) : errN v := by
 simp only [List.mem_cons, List.not_mem_nil, or_false] at h
 rcases h with rfl | rfl | rfl
 ·exact .inl rfl
 ·exact .inr ⟨0, rfl⟩
 ·exact .inr ⟨6, rfl⟩
theorem clk_both {cl : List (List Cel)} (h : DC cl) : ∃ e, errN e ∧ FC Tryz.prog 44 none [.one (.sl false 2 cl)] (fun _ r => r = iv e) ∧ FC Tryz.prog 40 none [.one (.sl false 2 cl)] (fun _ r => r = iv e) := by
 obtain ⟨l, hs, hg, rfl⟩ := h
 have c1 : ∀ x : NC, goodC x.2 → FC Tryz.prog fCk1 none [.one (.sl false 2 (x.2.map ckE))] (fun _ r => r = iv (ckF x.2)) := fun x hx => cc1_fc x.2 (by have := hx.1; omega)
 have c2 : ∀ x : NC, goodC x.2 → FC Tryz.prog fCk2 none [.one (.sl false 2 (x.2.map ckE))] (fun _ r => r = iv (ckF x.2)) := fun x hx => cc2_fc x.2 (by have := hx.1; omega)
 rcases hs with hs | ⟨n, hn, hs | hs⟩
 ·have : l = [] := by simpa using hs
  subst this
  exact ⟨0, .inl rfl, W_fc k0.1 trivial, W_fc k0.2 trivial⟩
 ·obtain ⟨x, rfl⟩ : ∃ x, l = [x] := List.length_eq_one_iff.1 (by have := congrArg List.length hs; simpa using this)
  obtain ⟨i, hi, rfl⟩ := nm4_i hn
  have hx := hg x (by simp)
  have hin := ckF_in hx.1
  have h1 := k1 i hi _ hin (x.2.map ckE)
  have e : [x].map ncE = [ncI i (x.2.map ckE)] := by
   simp only [List.map_cons, List.map_nil, List.cons.injEq, and_true] at hs ⊢
   rw [hs]
  rw [e]
  refine ⟨s1 i (ckF x.2), ?_, W_fc h1.1 ?_, W_fc h1.2 ?_⟩
  ·unfold s1; split
   ·exact .inr ⟨4, rfl⟩
   ·exact s_err hin
  ·unfold lg1; split
   ·trivial
   ·exact ⟨c1 x hx, trivial⟩
  ·unfold lg1; split
   ·trivial
   ·exact ⟨c2 x hx, trivial⟩
 ·obtain ⟨x, y, rfl⟩ : ∃ x y, l = [x, y] := by
   match l, congrArg List.length hs with
   | [x, y], _ => exact ⟨x, y, rfl⟩
  obtain ⟨i, hi, rfl⟩ := nm4_i hn
  have hx := hg x (by simp)
  have hy := hg y (by simp)
  have hin := ckF_in hx.1
  have hin2 := ckF_in hy.1
  have h1 := k2 i hi _ hin _ hin2 (x.2.map ckE) (y.2.map ckE)
  have e : [x, y].map ncE = [ncI i (x.2.map ckE), ncI 1 (y.2.map ckE)] := by
   simp only [List.map_cons, List.map_nil, List.cons.injEq, and_true] at hs ⊢
   rw [hs.1, hs.2]; exact ⟨rfl, rfl⟩
  rw [e]
  refine ⟨s2 i (ckF x.2) (ckF y.2), ?_, W_fc h1.1 ?_, W_fc h1.2 ?_⟩
  ·unfold s2
   split
   ·exact .inr ⟨4, rfl⟩
   ·split
    ·split
     ·exact s_err hin2
     ·exact .inr ⟨6, rfl⟩
    ·exact s_err hin
  ·unfold lg2
   split
   ·trivial
   ·split
    ·split
     ·exact ⟨c1 x hx, c1 y hy, trivial⟩
     ·exact ⟨c1 x hx, trivial⟩
    ·exact ⟨c1 x hx, trivial⟩
  ·unfold lg2
   split
   ·trivial
   ·split
    ·split
     ·exact ⟨c2 x hx, c2 y hy, trivial⟩
     ·exact ⟨c2 x hx, trivial⟩
    ·exact ⟨c2 x hx, trivial⟩
end Go.Proofs.YtdhkejcldipbmaaGreatDoor
