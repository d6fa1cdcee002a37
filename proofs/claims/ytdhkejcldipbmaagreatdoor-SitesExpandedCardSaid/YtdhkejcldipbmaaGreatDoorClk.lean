
/-
 The other generators of a site: Odd, and the clocks.
-/
import Derived.Test.YtdhkejcldipbmaaGreatDoorSig
import Derived.Test.YtdhkejcldipbmaaGreatDoorTbf
namespace Go.Proofs.YtdhkejcldipbmaaGreatDoor
open Go Go.Ai Go.Proofs
set_option linter.unusedSimpArgs false
set_option linter.unusedVariables false
set_option maxHeartbeats 4000000
set_option maxRecDepth 100000
abbrev fAclk : FuncId := 65
def isAsk2 (f : FuncId) : Bool := isAsk f || f == fAclk
def oddM (lo hi : Int) (vs : List Int) : Md := flipM 12 (intsM [lo - 1, hi + 1, lo, hi, -1099511627776, 1099511627776] [lo - 1, hi + 1, lo, hi, -1099511627776, 1099511627776] fun x => .ret (iv x)) (.br fRange [iv lo, iv hi] (vs.map iv) fun v => .ret (iv (vI v)))
theorem odd_run (L : List Int) (ev : Ev) : chkL L e_odd.rs (strm L (ev.P 0)) 4 (xcK isAsk (tower (P := Tryz.prog) (mkO [] []) [] 0 0).1 (tower (P := Tryz.prog) (mkO [] []) [] 0 0).2 0 e_odd.ac (initSt (some (strm L (ev.P 0))) [iv 1, iv 3]) .leaf) (oddM 1 3 [1, 2, 3]) ev = some (chkR L (oddM 1 3 [1, 2, 3]) ev) := by
 kernel_rfl
theorem odd_gen : Gen Tryz.prog fOdd [iv 1, iv 3] (4 * 1) (fun r => ∃ x, x ∈ oddL ∧ r = iv x) := by
 have hok : okMd Tryz.prog 1 (oddM 1 3 [1, 2, 3]) := ok_flip (Nat.le_refl 1) (by omega) (by omega) (ok_ints (Nat.le_refl 1) (by simp) (by simp) (fun x h => h) fun _ _ => trivial)
  ⟨genB_mono (range_fc 1 3 (by omega) (by omega) (by omega)) (Nat.le_refl 1) ⟨iv 1, by simp⟩ (by
   rintro r ⟨x, h0, h5, rfl⟩
   have : x = 1 ∨ x = 2 ∨ x = 3 := by omega
   rcases this with rfl | rfl | rfl <;> simp), fun v _ => trivial⟩
 have h : Gen Tryz.prog fOdd [iv 1, iv 3] (4 * 1) (exMd (oddM 1 3 [1, 2, 3])) := gen_md (e := e_odd) (Nat.le_of_ble_eq_true (by kernel_rfl)) hok odd_run
 intro L p h1 h2 h3 h4
 have h5 := h L p h1 h2 h3 h4
 refine ⟨h5.1, fun w okA g vs htab he hl hv => Calls.mono (h5.2 w okA g vs htab he hl hv) ?_⟩
 rintro e w' ⟨v, cs, r, h6, ⟨h7, h8⟩, h9⟩
 refine ⟨v, cs, r, h6, ⟨h7, ?_⟩, h9⟩
 rcases ex_flip h8 with h | h
 ·obtain ⟨x, hx, h⟩ := ex_ints h
  simp only [List.mem_cons, List.not_mem_nil, or_false] at hx
  rcases hx with rfl | rfl | rfl | rfl | rfl | rfl <;> exact ⟨_, by decide, h⟩
 ·obtain ⟨x, hx, h⟩ := h
  simp only [List.map_cons, List.map_nil, List.mem_cons, List.not_mem_nil, or_false] at hx
  rcases hx with rfl | rfl | rfl <;> exact ⟨_, by decide, h⟩
abbrev ckE (x : Int × Int) : List Cel := [gI x.1, gI x.2]
def ckV (l : List (Int × Int)) : Val := .one (.sl true 2 (l.map ckE))
def aclkL : Nat → Int → Int → List (Int × Int) → (List (Int × Int) → Md) → Md
 | 0, _, _, acc, k => k acc
 | n + 1, a, s, acc, k => .int fPick [ints false [1, 7, 20]] (fun x => x ∈ [(1 : Int), 7, 20]) fun x => .int fPick [ints false [1, 6, 21]] (fun x => x ∈ [(1 : Int), 6, 21]) fun y =>
  aclkL n (IntKind.i64.wrap (a + x)) (IntKind.i64.wrap (s + y)) (acc ++ [(a, s)]) k
def aclkZ (l : List (Int × Int)) : Md := flipM 25 (.ret (ckV [(0, 3600000), (345686399999, 345683400000)])) (.ret (ckV l))
def aclkK (l : List (Int × Int)) : Md := match l with
 | [] => aclkZ []
 | x :: r => flipM 15 (.br fNext [iv (x :: r).length] ((List.range (x :: r).length).map fun i : Nat => iv (Int.ofNat i)) fun i => .int fOdd [iv 0, iv 50] I64 fun x' => .int fPick [ints false [0, 20, 3600000, 3600051, -1]] (fun x => x ∈ [(0 : Int), 20, 3600000, 3600051, -1]) fun y =>
   aclkZ ((x :: r).set (vI i).toNat (x', y))) (aclkZ (x :: r))
def aclkM : Md := .int fRange [iv 0, iv 10] (fun x => 0 ≤ x ∧ x ≤ 10) fun a => .int fRange [iv 0, iv 20] (fun x => 0 ≤ x ∧ x ≤ 20) fun s => .br fRange [iv 0, iv 4] [iv 0, iv 1, iv 2, iv 3, iv 4] fun n => aclkL (vI n).toNat a s [] aclkK
theorem aclk_run (L : List Int) (ev : Ev) : chkL L e_aclk.rs (strm L (ev.P 0)) 20 (xcK isAsk (tower (P := Tryz.prog) (mkO [] []) [] 8 0).1 (tower (P := Tryz.prog) (mkO [] []) [] 8 0).2 8 e_aclk.ac (initSt (some (strm L (ev.P 0))) []) .leaf) aclkM ev = some (chkR L aclkM ev) := by
 kernel_rfl
def DA (c : List (List Cel)) : Prop := ∃ l : List (Int × Int), l.length ≤ 100 ∧ (∀ x ∈ l, I64 x.1 ∧ I64 x.2) ∧ c = l.map ckE
def clkV (l : List (ByteArray × List (List Cel))) : Val := .one (.sl true 2 (l.map fun x => [gS x.1, .sl true 2 x.2]))
def clkZ (l : List (ByteArray × List (List Cel))) : Md := match l with
 | [] => .ret (clkV [])
 | x :: r => flipM 15 (someM [(ByteArray.mk #[]), (ByteArray.mk #[110, 98]), (ByteArray.mk #[122, 122])] fun nm => .ret (clkV ((nm, x.2) :: r))) (.ret (clkV (x :: r)))
def clkM : Md :=
 let k2 (l : List (ByteArray × List (List Cel))) : Md := flipM 2 (.clk fAclk [] DA fun c => clkZ (l ++ [((ByteArray.mk #[110, 98]), c)])) (clkZ l)
 flipM 2 (.clk fAclk [] DA fun c => k2 [((ByteArray.mk #[110, 97]), c)]) (k2 [])
theorem clk_run (L : List Int) (ev : Ev) : chkL L e_clks.rs (strm L (ev.P 0)) 20 (xcK isAsk2 (tower (P := Tryz.prog) (mkO [] []) [] 8 0).1 (tower (P := Tryz.prog) (mkO [] []) [] 8 0).2 8 e_clks.ac (initSt (some (strm L (ev.P 0))) []) .leaf) clkM ev = some (chkR L clkM ev) := by
 kernel_rfl
end Go.Proofs.YtdhkejcldipbmaaGreatDoor
