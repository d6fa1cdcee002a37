
/-
 Sites, one part after the other: paths of assets, and what is under them. All sites that are drawn: what is wrong with them, and what they are expanded to.
-/
import Derived.Test.YtdhkejcldipbmaaGreatDoorOrd
import Derived.Test.YtdhkejcldipbmaaGreatDoorSti
namespace Go.Proofs.YtdhkejcldipbmaaGreatDoor
open Go Go.Ai Go.Proofs
set_option linter.unusedSimpArgs false
set_option linter.unusedVariables false
set_option maxHeartbeats 4000000
set_option maxRecDepth 100000
abbrev fPa : FuncId := 11
abbrev fUn : FuncId := 12
abbrev fPo : FuncId := 21
abbrev fUo : FuncId := 22
abbrev fNf : FuncId := 20
def eqL : List UInt8 → List UInt8 → Bool
 | [], [] => true
 | a :: l, b :: r => Nat.beq a.toNat b.toNat && eqL l r
 | _, _ => false
def eqB (a b : ByteArray) : Bool := eqL a.data.toList b.data.toList
def getP (key : ByteArray) : List (List Cel) → Option ByteArray
 | [.g (.string k), .g (.string p), _] :: l => if eqB k key = true then some p else getP key l
 | _ => none
def pthN : Nat → List (List Cel) → ByteArray → List ByteArray
 | 0, _, _ => []
 | n + 1, ats, key => match getP key ats with
  | none => []
  | some p => match p.data.toList with
   | [] => [key]
   | _ => pthN n ats p ++ [key]
def undN (ats : List (List Cel)) (key : ByteArray) : List (List Cel) → List ByteArray
 | [.g (.string k), _, _] :: l => if (pthN 3 ats k).any (eqB key) = true then k :: undN ats key l else undN ats key l
 | _ => []
def nms (l : List ByteArray) : List (List Cel) := l.map fun b => [gS b]
def asN : List ByteArray := [(ByteArray.mk #[112, 49]), (ByteArray.mk #[112, 50]), (ByteArray.mk #[112, 51]), (ByteArray.mk #[122, 122])]
def asI (t1 t2 t3 : ByteArray) : Nat → List (List Cel)
 | 0 => [asE (ByteArray.mk #[112, 49]) (ByteArray.mk #[]) t1]
 | 1 => [asE (ByteArray.mk #[112, 49]) (ByteArray.mk #[]) t1, asE (ByteArray.mk #[112, 50]) (ByteArray.mk #[]) t2]
 | 2 => [asE (ByteArray.mk #[112, 49]) (ByteArray.mk #[]) t1, asE (ByteArray.mk #[112, 50]) (ByteArray.mk #[112, 49]) t2]
 | 3 => [asE (ByteArray.mk #[112, 49]) (ByteArray.mk #[]) t1, asE (ByteArray.mk #[112, 50]) (ByteArray.mk #[]) t2, asE (ByteArray.mk #[112, 51]) (ByteArray.mk #[]) t3]
 | 4 => [asE (ByteArray.mk #[112, 49]) (ByteArray.mk #[]) t1, asE (ByteArray.mk #[112, 50]) (ByteArray.mk #[]) t2, asE (ByteArray.mk #[112, 51]) (ByteArray.mk #[112, 50]) t3]
 | 5 => [asE (ByteArray.mk #[112, 49]) (ByteArray.mk #[]) t1, asE (ByteArray.mk #[112, 50]) (ByteArray.mk #[]) t2, asE (ByteArray.mk #[112, 51]) (ByteArray.mk #[112, 49]) t3]
 | 6 => [asE (ByteArray.mk #[112, 49]) (ByteArray.mk #[]) t1, asE (ByteArray.mk #[112, 50]) (ByteArray.mk #[112, 49]) t2, asE (ByteArray.mk #[112, 51]) (ByteArray.mk #[]) t3]
 | 7 => [asE (ByteArray.mk #[112, 49]) (ByteArray.mk #[]) t1, asE (ByteArray.mk #[112, 50]) (ByteArray.mk #[112, 49]) t2, asE (ByteArray.mk #[112, 51]) (ByteArray.mk #[112, 50]) t3]
 | 8 => [asE (ByteArray.mk #[112, 49]) (ByteArray.mk #[]) t1, asE (ByteArray.mk #[112, 50]) (ByteArray.mk #[112, 49]) t2, asE (ByteArray.mk #[112, 51]) (ByteArray.mk #[112, 49]) t3]
 | _ => [asE (ByteArray.mk #[112, 57]) (ByteArray.mk #[]) t1]
def asR (key : ByteArray) (ats : List (List Cel)) : Int := match getP key ats with
 | none => 8
 | some _ => 0
def tuR (e : Int) (l : List ByteArray) : Val := if e = 0 then .tu [.one (.sl true 1 (nms l)), iv 0] else .tu [.one (.sl true 1 []), iv e]
/-- Both sides of an asset of a right site. -/
def PthR (T ats C : List (List Cel)) (key : ByteArray) : Prop :=
 R fNf [sA T ats C, sv key] = some ([], iv (asR key ats)) ∧
 W e_ppathX [(fCS, iv 0)] [sA T ats C, sv key] = some (tuR (asR key ats) (pthN 3 ats key), [(fCS, [sA T ats C], iv 0)]) ∧
 W e_punderX [(fCS, iv 0)] [sA T ats C, sv key] = some (tuR (asR key ats) (undN ats key ats), [(fCS, [sA T ats C], iv 0)])
def PthQ (T ats C : List (List Cel)) (key : ByteArray) : Prop :=
 R fPo [sA T ats C, sv key] = some ([], .one (.sl true 1 (nms (pthN 3 ats key)))) ∧
 R fUo [sA T ats C, sv key] = some ([], .one (.sl true 1 (nms (undN ats key ats))))
section
variable (T C : List (List Cel)) (t1 t2 t3 : ByteArray)
theorem pr_a (i : Nat) (hi : i ∈ [0, 1, 2, 3, 9]) (key : ByteArray) (hk : key ∈ asN) : PthR T (asI t1 t2 t3 i) C key := by
 simp only [asN, List.mem_cons, List.not_mem_nil, or_false] at hi hk
 rcases hi with rfl | rfl | rfl | rfl | rfl <;> rcases hk with rfl | rfl | rfl | rfl <;> exact ⟨by kernel_rfl, by kernel_rfl, by kernel_rfl⟩
theorem pr_b (i : Nat) (hi : i ∈ [4, 5, 6, 7, 8]) (key : ByteArray) (hk : key ∈ asN) : PthR T (asI t1 t2 t3 i) C key := by
 simp only [asN, List.mem_cons, List.not_mem_nil, or_false] at hi hk
 rcases hi with rfl | rfl | rfl | rfl | rfl <;> rcases hk with rfl | rfl | rfl | rfl <;> exact ⟨by kernel_rfl, by kernel_rfl, by kernel_rfl⟩
theorem pq_1 (i : Nat) (hi : i ∈ [0, 1, 2, 3, 4, 5, 6, 7, 8]) : PthQ T (asI t1 t2 t3 i) C (ByteArray.mk #[112, 49]) := by
 simp only [List.mem_cons, List.not_mem_nil, or_false] at hi
 rcases hi with rfl | rfl | rfl | rfl | rfl | rfl | rfl | rfl | rfl <;> exact ⟨by kernel_rfl, by kernel_rfl⟩
theorem pq_2 (i : Nat) (hi : i ∈ [1, 2, 3, 4, 5, 6, 7, 8]) : PthQ T (asI t1 t2 t3 i) C (ByteArray.mk #[112, 50]) := by
 simp only [List.mem_cons, List.not_mem_nil, or_false] at hi
 rcases hi with rfl | rfl | rfl | rfl | rfl | rfl | rfl | rfl <;> exact ⟨by kernel_rfl, by kernel_rfl⟩
theorem pq_3 (i : Nat) (hi : i ∈ [3, 4, 5, 6, 7, 8]) : PthQ T (asI t1 t2 t3 i) C (ByteArray.mk #[112, 51]) := by
 simp only [List.mem_cons, List.not_mem_nil, or_false] at hi
 rcases hi with rfl | rfl | rfl | rfl | rfl | rfl <;> exact ⟨by kernel_rfl, by kernel_rfl⟩
end
section
variable (T A C : List (List Cel))
/-- What a site answers that is wrong. -/
theorem bad_t (m : Nat) : W e_ptagsX [(fCS, evM m)] [sA T A C] = some (.tu [.one (.sl true 1 []), evM m], [(fCS, [sA T A C], evM m)]) := by kernel_rfl
theorem bad_c (m : Nat) : W e_pcalcsX [(fCS, evM m)] [sA T A C] = some (.tu [.one (.sl true 2 []), evM m], [(fCS, [sA T A C], evM m)]) := by kernel_rfl
theorem bad_l (m : Nat) : W e_palmsX [(fCS, evM m)] [sA T A C] = some (.tu [.one (.sl true 10 []), evM m], [(fCS, [sA T A C], evM m)]) := by kernel_rfl
theorem bad_p (m : Nat) (k : ByteArray) : W e_ppathX [(fCS, evM m)] [sA T A C, sv k] = some (.tu [.one (.sl true 1 []), evM m], [(fCS, [sA T A C], evM m)]) := by kernel_rfl
theorem bad_u (m : Nat) (k : ByteArray) : W e_punderX [(fCS, evM m)] [sA T A C, sv k] = some (.tu [.one (.sl true 1 []), evM m], [(fCS, [sA T A C], evM m)]) := by kernel_rfl
theorem good_t (l : List (List Cel)) : W e_ptagsX [(fCS, iv 0), (fTg, tgV l)] [sA T A C] = some (.tu [tgV l, iv 0], [(fCS, [sA T A C], iv 0), (fTg, [sA T A C], tgV l)]) := by kernel_rfl
theorem good_c (l : List (List Cel)) : W e_pcalcsX [(fCS, iv 0), (fCg, cgV l)] [sA T A C] = some (.tu [cgV l, iv 0], [(fCS, [sA T A C], iv 0), (fCg, [sA T A C], cgV l)]) := by kernel_rfl
theorem good_l (l : List (List Cel)) : W e_palmsX [(fCS, iv 0), (fAg, agV l)] [sA T A C] = some (.tu [agV l, iv 0], [(fCS, [sA T A C], iv 0), (fAg, [sA T A C], agV l)]) := by kernel_rfl
end
/-- A slice that is nil, told as one without elements. -/
def Wk (z : Nat) (c : Cel) (l : List (List Cel)) : Prop := c = .sl true z l ∨ (c = gN ∧ l = [])
theorem tplFB {i j k : Nat} (hi : i ∈ [0, 1, 2, 3]) (hj : j ∈ [0, 1, 2, 3, 4]) {kd lim pr : Int} {lat : Bool} (hk : k ∈ [0, 1, 2, 3, 4, 5]) :
  FB fCT fTF [.one (.sl false 4 (tplN (tgE (tgI i)) (cxJ j) (axJ kd lim pr lat k)))] (iv (tF i 0 0)) := by
 obtain ⟨e, b, hb, h1⟩ : ∃ e, ∃ b ∈ [0, 1], cxJ j = cxI e b := by
  simp only [List.mem_cons, List.not_mem_nil, or_false] at hj
  rcases hj with rfl | rfl | rfl | rfl | rfl
  ·exact ⟨(ByteArray.mk #[]), 0, by simp, rfl⟩
  ·exact ⟨exI 0, 1, by simp, rfl⟩
  ·exact ⟨exI 1, 1, by simp, rfl⟩
  ·exact ⟨exI 2, 1, by simp, rfl⟩
  ·exact ⟨exI 3, 1, by simp, rfl⟩
 obtain ⟨tag, par, c, hc, h2⟩ : ∃ tag par, ∃ c ∈ [0, 1], axJ kd lim pr lat k = axI tag kd lim pr lat par c := by
  simp only [List.mem_cons, List.not_mem_nil, or_false] at hk
  rcases hk with rfl | rfl | rfl | rfl | rfl | rfl
  ·exact ⟨(ByteArray.mk #[]), (ByteArray.mk #[]), 0, by simp, rfl⟩
  ·exact ⟨(ByteArray.mk #[37, 95, 116, 101, 109, 112]), (ByteArray.mk #[]), 1, by simp, rfl⟩
  ·exact ⟨(ByteArray.mk #[37, 95, 115, 117, 109]), (ByteArray.mk #[]), 1, by simp, rfl⟩
  ·exact ⟨(ByteArray.mk #[110, 111]), (ByteArray.mk #[]), 1, by simp, rfl⟩
  ·exact ⟨(ByteArray.mk #[37, 95, 116, 101, 109, 112]), (ByteArray.mk #[37, 95, 104, 111, 116]), 1, by simp, rfl⟩
  ·exact ⟨(ByteArray.mk #[37, 95, 116, 101, 109, 112]), (ByteArray.mk #[122, 122]), 1, by simp, rfl⟩
 rw [h1, h2]
 have ht : (i, b, c) ∈ trip := by
  simp only [List.mem_cons, List.not_mem_nil, or_false] at hi hb hc
  rcases hi with rfl | rfl | rfl | rfl <;> rcases hb with rfl | rfl <;> rcases hc with rfl | rfl <;> simp [trip]
 have h := fb_same (tpl_run (i, b, c) ht e tag kd lim pr lat par)
 have e1 : tF i b c = tF i 0 0 := by
  simp only [List.mem_cons, List.not_mem_nil, or_false] at hb hc
  unfold tF
  rcases hb with rfl | rfl <;> rcases hc with rfl | rfl <;> simp
 rw [← e1]; exact h
theorem tplFB2 {e : ByteArray} {b c : Nat} (h : (b, c) ∈ [(2, 0), (2, 1), (3, 0), (3, 1), (4, 0), (4, 1), (0, 2), (1, 2)]) (tag : ByteArray) (kd lim pr : Int) (lat : Bool) (par : ByteArray) :
  FB fCT fTF [.one (.sl false 4 (tplN (tgE tg0) (cxI e b) (axI tag kd lim pr lat par c)))] (iv (tF 0 b c)) := by
 have ht : (0, b, c) ∈ trip := by
  simp only [List.mem_cons, List.not_mem_nil, or_false, Prod.mk.injEq] at h
  rcases h with ⟨rfl, rfl⟩ | ⟨rfl, rfl⟩ | ⟨rfl, rfl⟩ | ⟨rfl, rfl⟩ | ⟨rfl, rfl⟩ | ⟨rfl, rfl⟩ | ⟨rfl, rfl⟩ | ⟨rfl, rfl⟩ <;> simp [trip]
 exact fb_same (tpl_run (0, b, c) ht e tag kd lim pr lat par)
theorem cc_j {cc : Cel} (h : cc ∈ CC0) : ∃ j ∈ [0, 1, 2, 3, 4], Wk 2 cc (cxJ j) := by
 simp only [CC0, exprs0, List.map_cons, List.map_nil, List.mem_cons, List.not_mem_nil, or_false] at h
 rcases h with rfl | rfl | rfl | rfl | rfl
 ·exact ⟨0, by simp, .inr ⟨rfl, rfl⟩⟩
 ·exact ⟨1, by simp, .inl rfl⟩
 ·exact ⟨2, by simp, .inl rfl⟩
 ·exact ⟨3, by simp, .inl rfl⟩
 ·exact ⟨4, by simp, .inl rfl⟩
theorem al_k {al : Cel} (h : AL0 al) : ∃ kd lim pr lat k, AlD kd lim pr lat k ∧ k ∈ [0, 1, 2, 3] ∧ Wk 10 al (axJ kd lim pr lat k) := by
 rcases h with rfl | ⟨tag, ht, x, hx, lat, rfl⟩
 ·exact ⟨0, 0, 0, false, 0, .none, by simp, .inr ⟨rfl, rfl⟩⟩
 ·simp only [tags0, List.mem_cons, List.not_mem_nil, or_false] at ht
  rcases ht with rfl | rfl | rfl
  ·exact ⟨_, _, _, lat, 1, .right hx (by simp), by simp, .inl rfl⟩
  ·exact ⟨_, _, _, lat, 2, .right hx (by simp), by simp, .inl rfl⟩
  ·exact ⟨_, _, _, lat, 3, .right hx (by simp), by simp, .inl rfl⟩
/-- Assets of a right site. -/
def RA (ats : List (List Cel)) : Prop := ∃ i ∈ [0, 1, 2, 3, 4, 5, 6, 7, 8, 9], ∃ t1 t2 t3, ats = asI t1 t2 t3 i
theorem ra_of {ats : List (List Cel)} (h : AS0 ats) : RA ats := by
 obtain ⟨t2, h2, a2, h3, a3, h4, h⟩ := h
 simp only [List.mem_cons, List.not_mem_nil, or_false] at h3 h4
 rcases h with rfl | rfl | rfl
 ·exact ⟨0, by simp, (ByteArray.mk #[112, 117, 109, 112]), t2, (ByteArray.mk #[116, 97, 110, 107]), rfl⟩
 ·rcases h3 with rfl | rfl
  ·exact ⟨1, by simp, (ByteArray.mk #[112, 117, 109, 112]), t2, (ByteArray.mk #[116, 97, 110, 107]), rfl⟩
  ·exact ⟨2, by simp, (ByteArray.mk #[112, 117, 109, 112]), t2, (ByteArray.mk #[116, 97, 110, 107]), rfl⟩
 ·rcases h3 with rfl | rfl <;> rcases h4 with rfl | rfl | rfl
  ·exact ⟨3, by simp, (ByteArray.mk #[112, 117, 109, 112]), t2, (ByteArray.mk #[116, 97, 110, 107]), rfl⟩
  ·exact ⟨4, by simp, (ByteArray.mk #[112, 117, 109, 112]), t2, (ByteArray.mk #[116, 97, 110, 107]), rfl⟩
  ·exact ⟨5, by simp, (ByteArray.mk #[112, 117, 109, 112]), t2, (ByteArray.mk #[116, 97, 110, 107]), rfl⟩
  ·exact ⟨6, by simp, (ByteArray.mk #[112, 117, 109, 112]), t2, (ByteArray.mk #[116, 97, 110, 107]), rfl⟩
  ·exact ⟨7, by simp, (ByteArray.mk #[112, 117, 109, 112]), t2, (ByteArray.mk #[116, 97, 110, 107]), rfl⟩
  ·exact ⟨8, by simp, (ByteArray.mk #[112, 117, 109, 112]), t2, (ByteArray.mk #[116, 97, 110, 107]), rfl⟩
def SiteR (T A C : List (List Cel)) : Prop := ∃ e, errN e ∧ FB fCS fSF [sA T A C] (iv e) ∧ (e = 0 → RA A ∧ Exp T A C)
theorem nat_err (n : Nat) : errN ((n : Nat) : Int) := errN_nat n
theorem join_a {T A C : List (List Cel)} {m : Nat} {e1 : Int} (hC : DC C) (h1 : FB fCT fTF [.one (.sl false 4 T)] (iv e1)) (he1 : errN e1) (h2 : FB fCA fAF [sA T A C] (iv ((m + 1 : Nat) : Int))) : SiteR T A C := by
 obtain ⟨e, he, h3, h4⟩ := site_join h1 he1 h2 (.inr ⟨m, rfl⟩) (fun _ h => by omega) (clk_both hC)
 exact ⟨e, he, h3, fun h => absurd (h4 h).1 (by omega)⟩
theorem join_t {T A C : List (List Cel)} {m : Nat} {e2 : Int} (hC : DC C) (h1 : FB fCT fTF [.one (.sl false 4 T)] (iv ((m + 1 : Nat) : Int))) (h2 : FB fCA fAF [sA T A C] (iv e2)) (he2 : errN e2) (hA : RA A) : SiteR T A C := by
 obtain ⟨e, he, h3, h4⟩ := site_join h1 (.inr ⟨m, rfl⟩) h2 he2 (fun h _ => by omega) (clk_both hC)
 exact ⟨e, he, h3, fun h => ⟨hA, (h4 h).2⟩⟩
theorem join_r {T A C : List (List Cel)} (hC : DC C) (h1 : FB fCT fTF [.one (.sl false 4 T)] (iv 0)) (h2 : FB fCA fAF [sA T A C] (iv 0)) (hA : RA A) (h3 : ExB T A C) : SiteR T A C := by
 obtain ⟨e, he, h3, h4⟩ := site_join h1 (.inl rfl) h2 (.inl rfl) (fun _ _ => h3) (clk_both hC)
 exact ⟨e, he, h3, fun h => ⟨hA, (h4 h).2⟩⟩
theorem k4_5 {k : Nat} (h : k ∈ [0, 1, 2, 3]) : k ∈ [0, 1, 2, 3, 4, 5] := by
 simp only [List.mem_cons, List.not_mem_nil, or_false] at h ⊢; omega
theorem ax_c (kd lim pr : Int) (lat : Bool) {k : Nat} (hk : k ∈ [0, 1, 2, 3]) : ∃ tag par, ∃ c ∈ [0, 1], axJ kd lim pr lat k = axI tag kd lim pr lat par c := by
 simp only [List.mem_cons, List.not_mem_nil, or_false] at hk
 rcases hk with rfl | rfl | rfl | rfl
 ·exact ⟨(ByteArray.mk #[]), (ByteArray.mk #[]), 0, by simp, rfl⟩
 ·exact ⟨(ByteArray.mk #[37, 95, 116, 101, 109, 112]), (ByteArray.mk #[]), 1, by simp, rfl⟩
 ·exact ⟨(ByteArray.mk #[37, 95, 115, 117, 109]), (ByteArray.mk #[]), 1, by simp, rfl⟩
 ·exact ⟨(ByteArray.mk #[110, 111]), (ByteArray.mk #[]), 1, by simp, rfl⟩
theorem cx_b {j : Nat} (hj : j ∈ [0, 1, 2, 3, 4]) : ∃ e, ∃ b ∈ [0, 1], cxJ j = cxI e b := by
 simp only [List.mem_cons, List.not_mem_nil, or_false] at hj
 rcases hj with rfl | rfl | rfl | rfl | rfl
 ·exact ⟨(ByteArray.mk #[]), 0, by simp, rfl⟩
 ·exact ⟨exI 0, 1, by simp, rfl⟩
 ·exact ⟨exI 1, 1, by simp, rfl⟩
 ·exact ⟨exI 2, 1, by simp, rfl⟩
 ·exact ⟨exI 3, 1, by simp, rfl⟩
theorem as_same {ats : List (List Cel)} (h : AS0 ats) : setKey (ByteArray.mk #[112, 49]) (ByteArray.mk #[112, 117, 109, 112]) ats = ats := by
 obtain ⟨t2, h2, a2, h3, a3, h4, h⟩ := h
 rcases h with rfl | rfl | rfl <;> rfl
theorem dom_site {tags : List ByteArray} {cc al : Cel} {ats : List (List Cel)} (h : Dom tags cc al ats) : ∃ cx ax, Wk 2 cc cx ∧ Wk 10 al ax ∧ ∀ C, DC C → SiteR (tplN (tgE tags) cx ax) ats C := by
 cases h with
 | base h1 h2 h3 =>
  obtain ⟨j, hj, hw⟩ := cc_j h1
  obtain ⟨kd, lim, pr, lat, k, hk, hk4, hw2⟩ := al_k h2
  refine ⟨_, _, hw, hw2, fun C hC => ?_⟩
  have ha := fb_same (as_base (tgE tg0) (cxJ j) (axJ kd lim pr lat k) C h3)
  have hr := ra_of h3
  obtain ⟨s, hs, a1, a2, a3, rfl⟩ := as_sq h3
  exact join_r hC (tplFB (i := 0) (by simp) hj (k4_5 hk4)) ha hr (exb_right hj (mem5 hs) hk)
 | tags h1 h2 h3 h4 =>
  obtain ⟨j, hj, hw⟩ := cc_j h1
  obtain ⟨kd, lim, pr, lat, k, hk, hk4, hw2⟩ := al_k h2
  refine ⟨_, _, hw, hw2, fun C hC => ?_⟩
  rename_i t
  have ha := fb_same (as_base (tgE (tg0 ++ [t])) (cxJ j) (axJ kd lim pr lat k) C h3)
  have hr := ra_of h3
  obtain ⟨s, hs, a1, a2, a3, rfl⟩ := as_sq h3
  simp only [List.mem_cons, List.not_mem_nil, or_false] at h4
  rcases h4 with rfl | rfl | rfl
  ·exact join_t (m := 2) hC (tplFB (i := 1) (by simp) hj (k4_5 hk4)) ha (.inl rfl) hr
  ·exact join_r hC (tplFB (i := 2) (by simp) hj (k4_5 hk4)) ha hr (exb_a hs (tgFB (i := 2) (by simp) hs) (cgFB hj (mem5 hs)))
  ·exact join_r hC (tplFB (i := 3) (by simp) hj (k4_5 hk4)) ha hr (exb_b hj hs (tgFB (i := 3) (by simp) hs) (cgFB hj (mem5 hs)))
 | par h1 h2 h3 h4 =>
  obtain ⟨j, hj, hw⟩ := cc_j h1
  obtain ⟨kd, lim, pr, lat, k, hk, hk4, hw2⟩ := al_k h2
  refine ⟨_, _, hw, hw2, fun C hC => ?_⟩
  simp only [List.mem_cons, List.not_mem_nil, or_false] at h4
  rcases h4 with rfl | rfl
  ·exact join_a (m := 13) hC (tplFB (i := 0) (by simp) hj (k4_5 hk4)) (.inl rfl) (fb_same (as_loop _ _ _ C h3))
  ·exact join_a (m := 7) hC (tplFB (i := 0) (by simp) hj (k4_5 hk4)) (.inl rfl) (fb_same (as_zz _ _ _ C h3))
 | key h1 h2 h3 h4 h5 =>
  obtain ⟨j, hj, hw⟩ := cc_j h1
  obtain ⟨kd, lim, pr, lat, k, hk, hk4, hw2⟩ := al_k h2
  refine ⟨_, _, hw, hw2, fun C hC => ?_⟩
  have ht : FB fCT fTF [.one (.sl false 4 (tplN (tgE tg0) (cxJ j) (axJ kd lim pr lat k)))] (iv 0) := tplFB (i := 0) (by simp) hj (k4_5 hk4)
  rename_i key tp
  by_cases hn : key ∈ [(ByteArray.mk #[112, 45, 49]), (ByteArray.mk #[])]
  ·exact join_a (m := 4) hC ht (.inl rfl) (fb_same (as_name _ _ _ C h3 tp key hn h5))
  ·have hk2 : key ∈ [(ByteArray.mk #[112, 57]), (ByteArray.mk #[112, 49])] := by
    simp only [List.mem_cons, List.not_mem_nil, or_false] at h4 hn ⊢
    rcases h4 with h | h | h | h
    ·exact absurd (.inl h) hn
    ·exact absurd (.inr h) hn
    ·exact .inl h
    ·exact .inr h
   simp only [List.mem_cons, List.not_mem_nil, or_false] at h5
   rcases h5 with rfl | rfl
   ·simp only [List.mem_cons, List.not_mem_nil, or_false] at hk2
    rcases hk2 with rfl | rfl
    ·rcases as_p9 (tgE tg0) (cxJ j) (axJ kd lim pr lat k) C h3 with ⟨rfl, h⟩ | h
     ·exact join_r hC ht (fb_same h) ⟨9, by simp, (ByteArray.mk #[112, 117, 109, 112]), (ByteArray.mk #[112, 117, 109, 112]), (ByteArray.mk #[112, 117, 109, 112]), rfl⟩ (exb_right (s := 5) (a1 := (ByteArray.mk #[])) (a2 := (ByteArray.mk #[])) (a3 := (ByteArray.mk #[])) hj (by simp) hk)
     ·exact join_a (m := 6) hC ht (.inl rfl) (fb_same h)
    ·have e : setKey (ByteArray.mk #[112, 49]) (ByteArray.mk #[112, 117, 109, 112]) _ = _ := as_same h3
     rw [e]
     have ha := fb_same (as_base (tgE tg0) (cxJ j) (axJ kd lim pr lat k) C h3)
     have hr := ra_of h3
     obtain ⟨s, hs, a1, a2, a3, rfl⟩ := as_sq h3
     exact join_r hC ht ha hr (exb_right hj (mem5 hs) hk)
   ·exact join_a (m := 7) hC ht (.inl rfl) (fb_same (as_none _ _ _ C h3 key hk2))
 | calcs h1 h2 h3 =>
  obtain ⟨kd, lim, pr, lat, k, hk, hk4, hw2⟩ := al_k h2
  obtain ⟨e, he, t, ht, rfl⟩ := h1
  obtain ⟨tag, par, c, hc, hax⟩ := ax_c kd lim pr lat hk4
  have hr := ra_of h3
  have key : ∀ j ∈ [5, 6, 7, 8, 9, 10], ∀ b, b ∈ [2, 3] → cxJ j = cxI e b → ∀ C, DC C → SiteR (tplN (tgE tg0) (cxJ j) (axJ kd lim pr lat k)) ats C := fun j hj b hb hcx C hC => by
   have ha := fb_same (as_base (tgE tg0) (cxJ j) (axJ kd lim pr lat k) C h3)
   obtain ⟨s, hs, a1, a2, a3, rfl⟩ := as_sq h3
   have h1 : FB fCT fTF [.one (.sl false 4 (tplN (tgE tg0) (cxJ j) (axJ kd lim pr lat k)))] (iv 0) := by
    rw [hcx, hax]
    have h := @tplFB2 e b c (by
     simp only [List.mem_cons, List.not_mem_nil, or_false] at hb hc
     rcases hb with rfl | rfl <;> rcases hc with rfl | rfl <;> simp) tag kd lim pr lat par
    have e1 : tF 0 b c = 0 := by
     simp only [List.mem_cons, List.not_mem_nil, or_false] at hb hc
     unfold tF
     rcases hb with rfl | rfl <;> rcases hc with rfl | rfl <;> simp
    rw [e1] at h; exact h
   exact join_r hC h1 ha hr (exb_calc hj hs)
  simp only [List.mem_cons, List.not_mem_nil, or_false] at he ht
  rcases ht with rfl | rfl | rfl
  ·rcases he with rfl | rfl | rfl
   ·exact ⟨cxJ 5, _, .inl rfl, hw2, key 5 (by simp) 2 (by simp) rfl⟩
   ·exact ⟨cxJ 6, _, .inl rfl, hw2, key 6 (by simp) 2 (by simp) rfl⟩
   ·exact ⟨cxJ 7, _, .inl rfl, hw2, key 7 (by simp) 2 (by simp) rfl⟩
  ·rcases he with rfl | rfl | rfl
   ·exact ⟨cxJ 8, _, .inl rfl, hw2, key 8 (by simp) 3 (by simp) rfl⟩
   ·exact ⟨cxJ 9, _, .inl rfl, hw2, key 9 (by simp) 3 (by simp) rfl⟩
   ·exact ⟨cxJ 10, _, .inl rfl, hw2, key 10 (by simp) 3 (by simp) rfl⟩
  ·refine ⟨cxI e 4, _, .inl rfl, hw2, fun C hC => ?_⟩
   have ha := fb_same (as_base (tgE tg0) (cxI e 4) (axJ kd lim pr lat k) C h3)
   refine join_t (m := 2) hC ?_ ha (.inl rfl) hr
   rw [hax]
   have h := @tplFB2 e 4 c (by
    simp only [List.mem_cons, List.not_mem_nil, or_false] at hc
    rcases hc with rfl | rfl <;> simp) tag kd lim pr lat par
   have e1 : tF 0 4 c = ((2 + 1 : Nat) : Int) := by unfold tF; simp
   rw [e1] at h; exact h
 | alarms h1 h2 h3 =>
  obtain ⟨j, hj, hw⟩ := cc_j h1
  obtain ⟨key, hk, kd, hkd, pr, hp, par, hpar, rfl⟩ := h2
  have hr := ra_of h3
  simp only [List.mem_cons, List.not_mem_nil, or_false] at hk
  rcases hk with rfl | rfl
  ·have right : ∀ k ∈ [1, 4, 5], ∀ C, DC C → SiteR (tplN (tgE tg0) (cxJ j) (axJ kd 0 pr false k)) ats C := fun k hk C hC => by
    have ha := fb_same (as_base (tgE tg0) (cxJ j) (axJ kd 0 pr false k) C h3)
    obtain ⟨s, hs, a1, a2, a3, rfl⟩ := as_sq h3
    exact join_r hC (tplFB (i := 0) (by simp) hj (by simp only [List.mem_cons, List.not_mem_nil, or_false] at hk ⊢; omega)) ha hr (exb_right hj (mem5 hs) (.wrong hkd hp hk))
   simp only [List.mem_cons, List.not_mem_nil, or_false] at hpar
   rcases hpar with rfl | rfl | rfl
   ·exact ⟨_, axJ kd 0 pr false 4, hw, .inl rfl, right 4 (by simp)⟩
   ·exact ⟨_, axJ kd 0 pr false 5, hw, .inl rfl, right 5 (by simp)⟩
   ·exact ⟨_, axJ kd 0 pr false 1, hw, .inl rfl, right 1 (by simp)⟩
  ·refine ⟨_, axI (ByteArray.mk #[37, 95, 116, 101, 109, 112]) kd 0 pr false par 2, hw, .inl rfl, fun C hC => ?_⟩
   have ha := fb_same (as_base (tgE tg0) (cxJ j) (axI (ByteArray.mk #[37, 95, 116, 101, 109, 112]) kd 0 pr false par 2) C h3)
   refine join_t (m := 2) hC ?_ ha (.inl rfl) hr
   obtain ⟨e, b, hb, hcx⟩ := cx_b hj
   rw [hcx]
   have h := @tplFB2 e b 2 (by
    simp only [List.mem_cons, List.not_mem_nil, or_false] at hb
    rcases hb with rfl | rfl <;> simp) (ByteArray.mk #[37, 95, 116, 101, 109, 112]) kd 0 pr false par
   have e1 : tF 0 b 2 = ((2 + 1 : Nat) : Int) := by unfold tF; simp
   rw [e1] at h; exact h
end Go.Proofs.YtdhkejcldipbmaaGreatDoor
