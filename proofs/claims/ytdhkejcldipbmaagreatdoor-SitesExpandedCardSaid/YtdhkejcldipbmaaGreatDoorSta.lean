
/-
 Sites, one part after the other: templates and assets.
-/
import Derived.Test.YtdhkejcldipbmaaGreatDoorTab
import Derived.Test.YtdhkejcldipbmaaGreatDoorSig
namespace Go.Proofs.YtdhkejcldipbmaaGreatDoor
open Go Go.Ai Go.Proofs
set_option linter.unusedSimpArgs false
set_option linter.unusedVariables false
set_option maxHeartbeats 4000000
set_option maxRecDepth 100000
abbrev fCT : FuncId := 41
abbrev fTF : FuncId := 30
abbrev fCA : FuncId := 42
abbrev fAF : FuncId := 31
abbrev sA (T A C : List (List Cel)) : Val := .ag [.sl false 4 T, .sl false 3 A, .sl false 2 C]
/-- Templates; what is nil stands as a slice without elements. -/
def tplN (tags cx ax : List (List Cel)) : List (List Cel) := [[gS (ByteArray.mk #[112, 117, 109, 112]), .sl true 1 tags, .sl true 2 cx, .sl true 10 ax], [gS (ByteArray.mk #[116, 97, 110, 107]), .sl true 1 [[gS (ByteArray.mk #[37, 95, 108, 101, 118, 101, 108])]], gN, gN]]
abbrev same1 (f g : FuncId) (x : Val) (e : Int) : Prop := R f [x] = some ([], iv e) ∧ R g [x] = some ([], iv e)
def tgE (l : List ByteArray) : List (List Cel) := l.map fun t => [gS t]
def tgI : Nat → List ByteArray
 | 0 => tg0
 | 1 => tg0 ++ [(ByteArray.mk #[112, 108, 97, 105, 110])]
 | 2 => tg0 ++ [(ByteArray.mk #[65, 37])]
 | _ => tg0 ++ [(ByteArray.mk #[37, 95, 116, 101, 109, 112])]
def cxI (e : ByteArray) : Nat → List (List Cel)
 | 0 => []
 | 1 => [[gS (ByteArray.mk #[37, 95, 115, 117, 109]), gS e]]
 | 2 => [[gS (ByteArray.mk #[37, 95, 115, 117, 109]), gS e], [gS (ByteArray.mk #[37, 95, 111, 116, 104, 101, 114]), gS (ByteArray.mk #[37, 95, 115, 117, 109])]]
 | 3 => [[gS (ByteArray.mk #[37, 95, 115, 117, 109]), gS e], [gS (ByteArray.mk #[37, 95, 102, 108, 111, 119]), gS (ByteArray.mk #[37, 95, 115, 117, 109])]]
 | _ => [[gS (ByteArray.mk #[37, 95, 115, 117, 109]), gS e], [gS (ByteArray.mk #[120]), gS (ByteArray.mk #[37, 95, 115, 117, 109])]]
def axI (tag : ByteArray) (kd lim pr : Int) (lat : Bool) (par : ByteArray) : Nat → List (List Cel)
 | 0 => []
 | 1 => [almE (ByteArray.mk #[37, 95, 104, 111, 116]) tag kd lim pr lat par]
 | _ => [almE (ByteArray.mk #[104, 111, 116]) tag kd lim pr lat par]
def tF (i j k : Nat) : Int := if i = 1 ∨ j = 4 ∨ k = 2 then 3 else 0
def trip : List (Nat × Nat × Nat) := [(0,0,0),(0,0,1),(0,1,0),(0,1,1),(1,0,0),(1,0,1),(1,1,0),(1,1,1),(2,0,0),(2,0,1),(2,1,0),(2,1,1),(3,0,0),(3,0,1),(3,1,0),(3,1,1),(0,2,0),(0,2,1),(0,3,0),(0,3,1),(0,4,0),(0,4,1),(0,0,2),(0,1,2)]
theorem tpl_run (x : Nat × Nat × Nat) (hx : x ∈ trip) (e tag : ByteArray) (kd lim pr : Int) (lat : Bool) (par : ByteArray) : same1 fCT fTF (.one (.sl false 4 (tplN (tgE (tgI x.1)) (cxI e x.2.1) (axI tag kd lim pr lat par x.2.2)))) (tF x.1 x.2.1 x.2.2) := by
 simp only [trip, List.mem_cons, List.not_mem_nil, or_false] at hx
 rcases hx with rfl | rfl | rfl | rfl | rfl | rfl | rfl | rfl | rfl | rfl | rfl | rfl | rfl | rfl | rfl | rfl | rfl | rfl | rfl | rfl | rfl | rfl | rfl | rfl <;> exact ⟨by kernel_rfl, by kernel_rfl⟩
section
variable (tg cx ax C : List (List Cel))
abbrev sameA (ats : List (List Cel)) (e : Int) : Prop := same1 fCA fAF (sA (tplN tg cx ax) ats C) e
theorem as_base {ats : List (List Cel)} (h : AS0 ats) : sameA tg cx ax C ats 0 := by
 obtain ⟨t2, h2, a2, h3, a3, h4, h⟩ := h
 simp only [List.mem_cons, List.not_mem_nil, or_false] at h2 h3 h4
 rcases h with rfl | rfl | rfl
 ·exact ⟨by kernel_rfl, by kernel_rfl⟩
 ·rcases h2 with rfl | rfl <;> rcases h3 with rfl | rfl <;> exact ⟨by kernel_rfl, by kernel_rfl⟩
 ·rcases h2 with rfl | rfl <;> rcases h3 with rfl | rfl <;> rcases h4 with rfl | rfl | rfl <;> exact ⟨by kernel_rfl, by kernel_rfl⟩
theorem as_loop {ats : List (List Cel)} (h : AS0 ats) : sameA tg cx ax C (setPar (ByteArray.mk #[112, 49]) ats) 14 := by
 obtain ⟨t2, h2, a2, h3, a3, h4, h⟩ := h
 simp only [List.mem_cons, List.not_mem_nil, or_false] at h2 h3 h4
 rcases h with rfl | rfl | rfl
 ·exact ⟨by kernel_rfl, by kernel_rfl⟩
 ·rcases h2 with rfl | rfl <;> rcases h3 with rfl | rfl <;> exact ⟨by kernel_rfl, by kernel_rfl⟩
 ·rcases h2 with rfl | rfl <;> rcases h3 with rfl | rfl <;> rcases h4 with rfl | rfl | rfl <;> exact ⟨by kernel_rfl, by kernel_rfl⟩
theorem as_zz {ats : List (List Cel)} (h : AS0 ats) : sameA tg cx ax C (setPar (ByteArray.mk #[122, 122]) ats) 8 := by
 obtain ⟨t2, h2, a2, h3, a3, h4, h⟩ := h
 simp only [List.mem_cons, List.not_mem_nil, or_false] at h2
 rcases h with rfl | rfl | rfl
 ·exact ⟨by kernel_rfl, by kernel_rfl⟩
 ·rcases h2 with rfl | rfl <;> exact ⟨by kernel_rfl, by kernel_rfl⟩
 ·rcases h2 with rfl | rfl <;> exact ⟨by kernel_rfl, by kernel_rfl⟩
theorem as_name {ats : List (List Cel)} (h : AS0 ats) (tp key : ByteArray) (hk : key ∈ [(ByteArray.mk #[112, 45, 49]), (ByteArray.mk #[])]) (htp : tp ∈ [(ByteArray.mk #[112, 117, 109, 112]), (ByteArray.mk #[122, 122])]) : sameA tg cx ax C (setKey key tp ats) 5 := by
 obtain ⟨t2, h2, a2, h3, a3, h4, h⟩ := h
 simp only [List.mem_cons, List.not_mem_nil, or_false] at hk htp
 rcases h with rfl | rfl | rfl <;> rcases hk with rfl | rfl <;> rcases htp with rfl | rfl <;> exact ⟨by kernel_rfl, by kernel_rfl⟩
theorem as_none {ats : List (List Cel)} (h : AS0 ats) (key : ByteArray) (hk : key ∈ [(ByteArray.mk #[112, 57]), (ByteArray.mk #[112, 49])]) : sameA tg cx ax C (setKey key (ByteArray.mk #[122, 122]) ats) 8 := by
 obtain ⟨t2, h2, a2, h3, a3, h4, h⟩ := h
 simp only [List.mem_cons, List.not_mem_nil, or_false] at hk
 rcases h with rfl | rfl | rfl <;> rcases hk with rfl | rfl <;> exact ⟨by kernel_rfl, by kernel_rfl⟩
theorem as_p9 {ats : List (List Cel)} (h : AS0 ats) : (ats = [asE (ByteArray.mk #[112, 49]) (ByteArray.mk #[]) (ByteArray.mk #[112, 117, 109, 112])] ∧ sameA tg cx ax C (setKey (ByteArray.mk #[112, 57]) (ByteArray.mk #[112, 117, 109, 112]) ats) 0) ∨ sameA tg cx ax C (setKey (ByteArray.mk #[112, 57]) (ByteArray.mk #[112, 117, 109, 112]) ats) 7 := by
 obtain ⟨t2, h2, a2, h3, a3, h4, h⟩ := h
 simp only [List.mem_cons, List.not_mem_nil, or_false] at h2
 rcases h with rfl | rfl | rfl
 ·exact .inl ⟨rfl, by kernel_rfl, by kernel_rfl⟩
 ·rcases h2 with rfl | rfl <;> exact .inr ⟨by kernel_rfl, by kernel_rfl⟩
 ·rcases h2 with rfl | rfl <;> exact .inr ⟨by kernel_rfl, by kernel_rfl⟩
end
end Go.Proofs.YtdhkejcldipbmaaGreatDoor
