
/-
 The sites that are drawn.
-/
import Derived.Test.YtdhkejcldipbmaaGreatDoorChk
import Derived.Test.YtdhkejcldipbmaaGreatDoorGdt
import Derived.Test.YtdhkejcldipbmaaGreatDoorOrm
import Derived.Test.YtdhkejcldipbmaaGreatDoorTba
import Derived.Test.YtdhkejcldipbmaaGreatDoorTbb
import Derived.Test.YtdhkejcldipbmaaGreatDoorTbc
import Derived.Test.YtdhkejcldipbmaaGreatDoorTbd
namespace Go.Proofs.YtdhkejcldipbmaaGreatDoor
open Go Go.Ai Go.Proofs
set_option linter.unusedSimpArgs false
set_option linter.unusedVariables false
set_option maxHeartbeats 4000000
set_option maxRecDepth 100000
abbrev fSome : FuncId := 5
abbrev fPick : FuncId := 24
abbrev fFlip : FuncId := 23
abbrev fNext : FuncId := 27
abbrev fRange : FuncId := 25
abbrev fOdd : FuncId := 29
abbrev fClks : FuncId := 26
def isAsk (f : FuncId) : Bool := f == fSome || (f == fPick || (f == fFlip || (f == fNext || (f == fRange || (f == fOdd || f == fClks)))))
def vT : Val → Bool
 | .one (.g (.bool b)) => b
 | _ => false
def vI : Val → Int
 | .one (.g (.int _ n)) => n
 | _ => 0
abbrev gS (b : ByteArray) : Cel := .g (.string b)
abbrev gI (n : Int) : Cel := .g (.int .i64 n)
abbrev gB (n : Bool) : Cel := .g (.bool n)
abbrev gN : Cel := .g (.slice none 0 0)
def flipM (n : Int) (t e : Md) : Md := .br fFlip [iv n] [bv true, bv false] fun v => if vT v = true then t else e
def someM (l : List ByteArray) (k : ByteArray → Md) : Md := .str fSome [strs false l] l k
def intsM (l : List Int) (vs : List Int) (k : Int → Md) : Md := .br fPick [ints false l] (vs.map iv) fun v => k (vI v)
def calcC (l : List (List Cel)) : Cel := match l with | [] => gN | _ => .sl true 2 l
def almE (key tag : ByteArray) (kd lim pr : Int) (lat : Bool) (par : ByteArray) : List Cel := [gS key, gS tag, gI kd, gI lim, gI 0, gI 0, gI 0, gI pr, gB lat, gS par]
def asE (k a t : ByteArray) : List Cel := [gS k, gS a, gS t]
def tplC (tags : List ByteArray) (cc al : Cel) : Cel := .sl true 4 [[gS (ByteArray.mk #[112, 117, 109, 112]), .sl true 1 (tags.map fun t => [gS t]), cc, al], [gS (ByteArray.mk #[116, 97, 110, 107]), .sl true 1 [[gS (ByteArray.mk #[37, 95, 108, 101, 118, 101, 108])]], gN, gN]]
def siteV (tags : List ByteArray) (cc al : Cel) (ats cl : List (List Cel)) : Val := .ag [tplC tags cc al, .sl true 3 ats, .sl true 2 cl]
def calcsM (k : Cel → Md) : Md := flipM 2 (someM [(ByteArray.mk #[37, 95, 116, 101, 109, 112, 32, 43, 32, 37, 95, 102, 108, 111, 119]), (ByteArray.mk #[37, 95, 116, 101, 109, 112]), (ByteArray.mk #[37, 95, 116, 101, 109, 112, 64, 53]), (ByteArray.mk #[103, 111, 111, 100, 40, 37, 95, 102, 108, 111, 119, 41])] fun e => k (.sl true 2 [[gS (ByteArray.mk #[37, 95, 115, 117, 109]), gS e]])) (k gN)
def alarmsM (k : Cel → Md) : Md := flipM 2
 (someM [(ByteArray.mk #[37, 95, 116, 101, 109, 112]), (ByteArray.mk #[37, 95, 116, 101, 109, 112]), (ByteArray.mk #[37, 95, 115, 117, 109]), (ByteArray.mk #[110, 111])] fun tag => intsM [1, 1, 2, 3] [1, 2, 3] fun kd => .boo fFlip [iv 2] fun lat =>
  if kd = 3 then k (.sl true 10 [almE (ByteArray.mk #[37, 95, 104, 111, 116]) tag kd 0 1 lat (ByteArray.mk #[])])
  else .int fPick [ints false [2, 4]] (fun x => x ∈ [(2 : Int), 4]) fun lim => k (.sl true 10 [almE (ByteArray.mk #[37, 95, 104, 111, 116]) tag kd lim 1 lat (ByteArray.mk #[])])) (k gN)
def assetsM (k : List (List Cel) → Md) : Md := someM [(ByteArray.mk #[112, 117, 109, 112]), (ByteArray.mk #[116, 97, 110, 107])] fun t2 => someM [(ByteArray.mk #[]), (ByteArray.mk #[112, 49])] fun a2 => someM [(ByteArray.mk #[]), (ByteArray.mk #[112, 50]), (ByteArray.mk #[112, 49])] fun a3 =>
 .br fRange [iv 1, iv 3] [iv 1, iv 2, iv 3] fun n => k ([asE (ByteArray.mk #[112, 49]) (ByteArray.mk #[]) (ByteArray.mk #[112, 117, 109, 112]), asE (ByteArray.mk #[112, 50]) a2 t2, asE (ByteArray.mk #[112, 51]) a3 (ByteArray.mk #[116, 97, 110, 107])].take (vI n).toNat)
def setPar (a : ByteArray) : List (List Cel) → List (List Cel)
 | [k, _, t] :: r => [k, gS a, t] :: r
 | l => l
def setKey (key tp : ByteArray) : List (List Cel) → List (List Cel)
 | [_, a, _] :: r => [gS key, a, gS tp] :: r
 | l => l
def tg0 : List ByteArray := [(ByteArray.mk #[37, 95, 116, 101, 109, 112]), (ByteArray.mk #[37, 95, 102, 108, 111, 119])]
def oddL : List Int := [0, 4, 1, 3, -1099511627776, 1099511627776, 2]
def modM (cc al : Cel) (ats cl : List (List Cel)) : Md := flipM 12
 (.br fNext [iv 5] [iv 0, iv 1, iv 2, iv 3, iv 4] fun c =>
  if vI c = 0 then someM [(ByteArray.mk #[112, 108, 97, 105, 110]), (ByteArray.mk #[65, 37]), (ByteArray.mk #[37, 95, 116, 101, 109, 112])] fun t => .ret (siteV (tg0 ++ [t]) cc al ats cl)
  else if vI c = 1 then someM [(ByteArray.mk #[112, 49]), (ByteArray.mk #[122, 122])] fun a => .ret (siteV tg0 cc al (setPar a ats) cl)
  else if vI c = 2 then someM [(ByteArray.mk #[112, 45, 49]), (ByteArray.mk #[]), (ByteArray.mk #[112, 57]), (ByteArray.mk #[112, 49])] fun key => someM [(ByteArray.mk #[112, 117, 109, 112]), (ByteArray.mk #[122, 122])] fun tp => .ret (siteV tg0 cc al (setKey key tp ats) cl)
  else if vI c = 3 then someM [(ByteArray.mk #[37, 95, 115, 117, 109]), (ByteArray.mk #[40]), (ByteArray.mk #[37, 95, 111, 116, 104, 101, 114])] fun e => someM [(ByteArray.mk #[37, 95, 111, 116, 104, 101, 114]), (ByteArray.mk #[37, 95, 102, 108, 111, 119]), (ByteArray.mk #[120])] fun t => .ret (siteV tg0 (.sl true 2 [[gS (ByteArray.mk #[37, 95, 115, 117, 109]), gS e], [gS t, gS (ByteArray.mk #[37, 95, 115, 117, 109])]]) al ats cl)
  else someM [(ByteArray.mk #[37, 95, 104, 111, 116]), (ByteArray.mk #[104, 111, 116])] fun key => .int fOdd [iv 1, iv 3] (fun x => x ∈ oddL) fun kd => .int fPick [ints false [0, 1]] (fun x => x ∈ [(0 : Int), 1]) fun pr => someM [(ByteArray.mk #[37, 95, 104, 111, 116]), (ByteArray.mk #[122, 122]), (ByteArray.mk #[])] fun par =>
   .ret (siteV tg0 cc (.sl true 10 [almE key (ByteArray.mk #[37, 95, 116, 101, 109, 112]) kd 0 pr false par]) ats cl))
 (.ret (siteV tg0 cc al ats cl))
def siteM (D : List (List Cel) → Prop) : Md := calcsM fun cc => alarmsM fun al => assetsM fun ats => .clk fClks [] D fun cl => modM cc al ats cl
theorem site_run (D : List (List Cel) → Prop) (L : List Int) (ev : Ev) : chkL L e_siteof.rs (strm L (ev.P 0)) 24 (xcK isAsk (tower (mkO [] [oCln]) [] 0 0).1 (tower (mkO [] [oCln]) [] 0 0).2 0 e_siteof.ac (initSt (some (strm L (ev.P 0))) []) .leaf) (siteM D) ev = some (chkR L (siteM D) ev) := by
 kernel_rfl
end Go.Proofs.YtdhkejcldipbmaaGreatDoor
