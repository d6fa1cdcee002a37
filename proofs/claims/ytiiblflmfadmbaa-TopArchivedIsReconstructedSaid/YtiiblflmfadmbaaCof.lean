
/-
 The reference's compression of a whole series, and what a compressor does with a sample.
-/
import Derived.Test.YtiiblflmfadmbaaStp
import Derived.Test.YtiiblflmfadmbaaSta
namespace Go.Proofs.Ytiiblflmfadmbaa
open Go Go.Ai
set_option linter.unusedSimpArgs false
set_option linter.unusedVariables false
set_option maxHeartbeats 4000000
def C_eqSmp : AC := (.seq (.reg false [gI 4 (.mv (.v (.bool false)))] (kP [0,1] [] []))
 (.seq (.seq (.reg false [gM 6 0,gI 7 (.len (.t 6)),gM 8 1,gI 9 (.len (.t 8)),gI 10 (.bin .neq (.t 7) (.t 9))] (kP [0,1,10] [] []))
 (.cond (.t 10)
 (.seq (.reg false [gI 4 (.mv (.v (.bool false)))] (kP [4] [] []))
 .ret)
 .skip))
 (.seq (.seq (.reg false [gM 11 0,gI 12 (.len (.t 11)),gI 13 (.mv (oI 0))] (kP [0,1,12,13] [] []))
 (.block 0 (.loop (.seq (.reg false [gI 14 (.bin .lss (.t 13) (.t 12))] (kP [0,1,12,13,14] [] []))
 (.seq (.cond (.t 14)
 .skip
 (.exit 0))
 (.seq (.block 1 (.seq (.reg false [gM 15 13,gM 5 15] (kP [0,1,5,12,13] [] []))
 (.seq (.reg true [gM 16 0,gM 17 5,gI 18 (.iadr 3 (.t 16) (.t 17)),gI 19 (.load true 3 (.t 18)),gM 20 1,gM 21 5,gI 22 (.iadr 3 (.t 20) (.t 21)),gI 23 (.load true 3 (.t 22)),gI 24 (.eqs true true [.i .i64,.i .i64,.i .i64] (.t 19) (.t 23))] (kP [0,1,12,13,24] [] []))
 (.cond (.t 24)
 (.seq (.reg false [gI 4 (.mv (.v (.bool false)))] (kP [4] [] []))
 .ret)
 .skip))))
 (.reg false [gI 25 (.bin .add (.t 13) (oI 1)),gM 13 25] (kP [0,1,12,13] [] []))))))))
 (.seq (.reg false [gI 4 (.mv (.v (.bool true)))] (kP [4] [] []))
 .ret))))
theorem fc_eqSmp : FcT Try.prog 11 Try.f11 C_eqSmp [.t 4] := fc_mk [aN [0,1] [] [],aN [0,1,10] [] [],aN [4] [] [],aN [0,1,12,13] [] [],aN [0,1,12,13,14] [] [],aN [0,1,5,12,13] [] [],aN [0,1,12,13,24] [] [],aN [4] [] [],aN [0,1,12,13] [] [],aN [4] [] []] Try.func11 (by kernel_rfl)
def eqSSt (fr fr' : Bool) (l : List Smp) (i : Int) : AS := ⟨tabV [(0, smps fr l), (1, smps fr' l), (12, iv l.length), (13, iv i)], tabO [], tabO []⟩
theorem eqSmp_fc (fr fr' : Bool) (l : List Smp) (hl : l.length ≤ 4611686018427387904) : FC Try.prog 11 none [smps fr l, smps fr' l] (fun _ r => r = bv true) := by
 refine fc_eqSmp (by simp +arith) ?_
 unfold C_eqSmp
 simp (maxSteps := 1000000) (disch := omega) only [go_sem]
 refine ex_loop1 (eqSSt fr fr' l) (fun i => 0 ≤ i ∧ i ≤ l.length) (fun i => (l.length - i).toNat) 0 ⟨by omega, by omega⟩ rfl ?_
 rintro i ⟨g1, g2⟩
 unfold eqSSt
 by_cases hi : i < l.length
 ·simp (maxSteps := 1000000) (disch := omega) only [go_sem]
  exact ⟨_, rfl, ⟨by omega, by omega⟩, by omega⟩
 ·simp (maxSteps := 1000000) (disch := omega) only [go_sem]
/-- How far a line is from a sample. -/
def loV (a b s : Smp) : Int := (a.v - s.v) * (b.a - a.a) + (b.v - a.v) * (s.a - a.a)
theorem loV_bd {a b s : Smp} (ha : okSmp a) (hb : okSmp b) (hs : okSmp s) (h1 : a.a ≤ b.a) (h2 : a.a ≤ s.a) :
  (-900000000000000000 ≤ (a.v - s.v) * (b.a - a.a) ∧ (a.v - s.v) * (b.a - a.a) ≤ 900000000000000000) ∧ (-900000000000000000 ≤ (b.v - a.v) * (s.a - a.a) ∧ (b.v - a.v) * (s.a - a.a) ≤ 900000000000000000) := by
 unfold okSmp at *
 have m1 := Int.mul_le_mul_of_nonneg_right (show a.v - s.v ≤ 2000000 by omega) (show 0 ≤ b.a - a.a by omega)
 have m2 := Int.mul_le_mul_of_nonneg_right (show -2000000 ≤ a.v - s.v by omega) (show 0 ≤ b.a - a.a by omega)
 have m3 := Int.mul_le_mul_of_nonneg_right (show b.v - a.v ≤ 2000000 by omega) (show 0 ≤ s.a - a.a by omega)
 have m4 := Int.mul_le_mul_of_nonneg_right (show -2000000 ≤ b.v - a.v by omega) (show 0 ≤ s.a - a.a by omega)
 omega
/-- The line from p to b is near enough to s. -/
def nearB (d : Int) (p b s : Smp) : Bool := decide (max (loV p b s) (-loV p b s) ≤ d * (b.a - p.a))
def cvB (d : Int) (l : List Smp) (i k : Int) : Bool := ((l.take k.toNat).drop (i + 1).toNat).all (nearB d (l.getD i.toNat default) (l.getD k.toNat default))
def cvSt (dv mg : Int) (l : List Smp) (i k : Int) (m : List Smp) (j : Int) : AS := ⟨tabV [(1, smps false l), (2, iv i), (3, iv k), (4, .one (.bx 4 0)), (15, smps false m), (16, iv m.length), (17, iv j)], tabO [(4, [.g (.int .i64 dv), .g (.int .i64 mg)])], tabO []⟩
/-- The reference's closure: a number is archived, if it is not the last one. -/
def kpI (out : List Int) (i : Int) : List Int := if out.length = 0 ∨ out.getD ((out.length : Int) - 1).toNat default ≠ i then out ++ [i] else out
abbrev intRow (l : List Int) : Row := ⟨0, 3, 1, l.map intC⟩
def pB (k : Nat) : Nat := swp 5 1000001 (swp 6 1000002 k)
theorem pB_pB (k : Nat) : pB (pB k) = k := by unfold pB swp; (repeat' split) <;> omega
section
variable {Q : AX → AS → Prop} {s : AS} {k : List KI} {kp : Option Keep} {l : List GI}
end
/-- Where the reference is: what is archived, the pivot, the held one. -/
structure Rs where
 o : List Int
 p : Int
 h : Int
def rsK (x : Rs) (i : Int) : Rs := ⟨kpI x.o i, i, x.h⟩
def rsStep (dv mg : Int) (l : List Smp) (x : Rs) (i : Nat) : Rs :=
 let y : Rs :=
  if i = 0 then rsK x 0
  else if (l.getD i default).q ≠ (l.getD x.p.toNat default).q then rsK (rsK x x.h) i
  else if ((l.getD i default).q = 2 ∧ (l.getD i default).a - (l.getD x.p.toNat default).a > mg) ∨ ((l.getD i default).q ≠ 2 ∧ ((l.getD i default).a - (l.getD x.p.toNat default).a > mg ∨ cvB dv l x.p i = false)) then rsK x x.h
  else x
 ⟨y.o, y.p, i⟩
def rsRun (dv mg : Int) (l : List Smp) : Nat → Rs
 | 0 => ⟨[], 0, 0⟩
 | i + 1 => rsStep dv mg l (rsRun dv mg l i) i
def cofSp (dv mg : Int) (l : List Smp) : List Int := if 0 < l.length then kpI (rsRun dv mg l l.length).o (rsRun dv mg l l.length).h else (rsRun dv mg l l.length).o
theorem kpI_len (o : List Int) (i : Int) : (kpI o i).length ≤ o.length + 1 := by
 unfold kpI; split <;> simp
theorem rs_in (dv mg : Int) (l : List Smp) : ∀ i : Nat, (i ≤ l.length → (rsRun dv mg l i).o.length ≤ 2 * i ∧ 0 ≤ (rsRun dv mg l i).p ∧ 0 ≤ (rsRun dv mg l i).h ∧ (rsRun dv mg l i).p ≤ (rsRun dv mg l i).h ∧ (i = 0 → (rsRun dv mg l i).h = 0) ∧ (0 < i → (rsRun dv mg l i).h = i - 1))
 | 0, _ => by simp [rsRun]
 | i + 1, hi => by
  obtain ⟨h1, h2, h3, h4, h5, h6⟩ := rs_in dv mg l i (by omega)
  rw [rsRun]
  generalize rsRun dv mg l i = x at *
  have k1 := kpI_len x.o 0
  have k2 := kpI_len x.o x.h
  have k3 := kpI_len (kpI x.o x.h) i
  unfold rsStep
  simp only
  split
  ·simp only [rsK]; omega
  ·split
   ·simp only [rsK]; omega
   ·split
    ·simp only [rsK]; omega
    ·omega
end Go.Proofs.Ytiiblflmfadmbaa
