
/-
 A reader of bytes: numbers, bytes, samples; and a block's encoding.
-/
import Derived.Test.YtiiblflmfadmbaaBlv
namespace Go.Proofs.Ytiiblflmfadmbaa
open Go Go.Ai
set_option linter.unusedSimpArgs false
set_option linter.unusedVariables false
set_option maxHeartbeats 4000000
def C_number : AC := (.seq (.reg false [gI 2 (.mv (oI 0))] (kP [0] [0] []))
 (.seq (.seq (.reg false [gM 6 0,gI 7 (.nilchk (.t 6)),gI 8 (.fadr 2 (.t 7)),gI 9 (.load false 1 (.t 8))] (kP [0,9] [0] []))
 (.cond (.t 9)
 (.seq (.reg false [gI 2 (.mv (oI 0))] (kP [2] [0] []))
 .ret)
 .skip))
 (.seq (.reg true [gM 11 0,gI 12 (.nilchk (.t 11)),gI 13 (.fadr 0 (.t 12)),gI 14 (.load false 1 (.t 13)),gM 15 0,gI 16 (.nilchk (.t 15)),gI 17 (.fadr 1 (.t 16)),gI 18 (.load false 1 (.t 17)),gI 19 (.call (.f 89) [(.t 14),(.t 18)]),gM 10 19,gI 20 (.extr (.t 10) 0),gI 21 (.extr (.t 10) 1),gI 22 (.extr (.t 10) 2),gM 3 20,gM 4 21,gM 5 22] (kP [0,3,4,5] [0] []))
 (.seq (.reg false [gM 23 0,gM 24 0,gM 25 4,gM 26 5,gI 27 (.un .not (.t 26)),gI 28 (.nilchk (.t 23)),gI 29 (.fadr 1 (.t 28)),gN (.store 1 (.t 29) (.t 25)),gI 30 (.nilchk (.t 24)),gI 31 (.fadr 2 (.t 30)),gN (.store 1 (.t 31) (.t 27))] (kP [3] [0] []))
 (.seq (.reg false [gM 32 3,gM 2 32] (kP [2] [0] []))
 .ret)))))
theorem fc_number : FcT Try.prog 87 Try.f87 C_number [.t 2] := fc_mk [aN [0] [0] [],aN [0,9] [0] [],aN [2] [0] [],aN [0,3,4,5] [0] [],aN [3] [0] [],aN [2] [0] []] Try.func87 (by kernel_rfl)
def C_rbytes : AC := (.seq (.reg false [gI 4 (.mv (.v (.slice none 0 0)))] (kP [0,1] [0] []))
 (.seq (.seq (.reg true [gM 5 0,gI 6 (.nilchk (.t 5)),gI 7 (.fadr 2 (.t 6)),gI 8 (.load false 1 (.t 7)),gM 9 8,gG 10 9 false (.mv (.t 0)),gG 11 9 false (.nilchk (.t 10)),gG 12 9 false (.fadr 0 (.t 11)),gG 13 9 false (.load false 1 (.t 12)),gG 14 9 false (.len (.t 13)),gG 15 9 false (.mv (.t 0)),gG 16 9 false (.nilchk (.t 15)),gG 17 9 false (.fadr 1 (.t 16)),gG 18 9 false (.load false 1 (.t 17)),gG 19 9 false (.bin .sub (.t 14) (.t 18)),gG 20 9 false (.mv (.t 1)),gG 21 9 false (.bin .lss (.t 19) (.t 20)),gI 22 (.pick (.t 9) (.v (.bool true)) (.t 21))] (kP [0,1,22] [0] []))
 (.cond (.t 22)
 (.seq (.reg false [gM 23 0,gI 24 (.nilchk (.t 23)),gI 25 (.fadr 2 (.t 24)),gN (.store 1 (.t 25) (.v (.bool true)))] (kP [] [0] []))
 (.seq (.seq (.reg false [gI 4 (.mv (.v (.slice none 0 0)))] (kP [4] [0] []))
 (.ty 4 1))
 .ret))
 .skip))
 (.seq (.reg false [gM 26 0,gI 27 (.nilchk (.t 26)),gI 28 (.fadr 1 (.t 27)),gI 29 (.load false 1 (.t 28)),gM 30 1,gI 31 (.bin .add (.t 29) (.t 30)),gI 32 (.nilchk (.t 26)),gI 33 (.fadr 1 (.t 32)),gN (.store 1 (.t 33) (.t 31))] (kP [0,1] [0] []))
 (.seq (.reg true [gM 34 0,gI 35 (.nilchk (.t 34)),gI 36 (.fadr 0 (.t 35)),gI 37 (.load false 1 (.t 36)),gM 38 0,gI 39 (.nilchk (.t 38)),gI 40 (.fadr 1 (.t 39)),gI 41 (.load false 1 (.t 40)),gM 42 1,gI 43 (.bin .sub (.t 41) (.t 42)),gM 44 0,gI 45 (.nilchk (.t 44)),gI 46 (.fadr 1 (.t 45)),gI 47 (.load false 1 (.t 46)),gI 48 (.slc 1 (.t 37) (some (.t 43)) (some (.t 47))),gM 4 48] (kP [4] [0] []))
 .ret))))
theorem fc_rbytes : FcT Try.prog 79 Try.f79 C_rbytes [.t 4] := fc_mk [aN [0,1] [0] [],aN [0,1,22] [0] [],aN [] [0] [],⟨(kP [4] [0] []),[],[],[(4,1)],[]⟩,aN [0,1] [0] [],aN [4] [0] []] Try.func79 (by kernel_rfl)
def C_rwithin : AC := (.seq (.reg false [gI 6 (.mv (oI 0))] (kP [0,1,2] [0] []))
 (.seq (.reg false [gM 8 0,gI 9 (.callx (.f 87) [(.t 8)]),gM 7 9] (kP [0,1,2,7] [0] []))
 (.seq (.seq (.reg false [gM 10 7,gM 11 1,gM 12 2,gI 13 (.call (.f 37) [(.t 10),(.t 11),(.t 12)])] (kP [0,7,13] [0] []))
 (.cond (.t 13)
 (.seq (.reg false [gM 14 0,gI 15 (.nilchk (.t 14)),gI 16 (.fadr 2 (.t 15)),gN (.store 1 (.t 16) (.v (.bool true)))] (kP [] [0] []))
 (.seq (.reg false [gI 6 (.mv (oI 0))] (kP [6] [0] []))
 .ret))
 .skip))
 (.seq (.reg false [gM 17 7,gM 6 17] (kP [6] [0] []))
 .ret))))
theorem fc_rwithin : FcT Try.prog 80 Try.f80 C_rwithin [.t 6] := fc_mk [aN [0,1,2] [0] [],aN [0,1,2,7] [0] [],aN [0,7,13] [0] [],aN [] [0] [],aN [6] [0] [],aN [6] [0] []] Try.func80 (by kernel_rfl)
def C_rsamples : AC := (.seq (.reg false [gI 4 (.mv (.v (.slice none 0 0)))] (kP [0,1] [0] []))
 (.seq (.seq (.reg false [gI 5 (.mv (.v (.slice none 0 0)))] (kP [0,1,5] [0] []))
 (.own 5 45 3))
 (.seq (.reg false [gI 11 (.build [(.int .i64 (0)),(.int .i64 (0)),(.int .i64 (0))] []),gI 6 (.alloc [(.int .i64 (0)),(.int .i64 (0)),(.int .i64 (0))]),gN (.store 3 (.t 6) (.t 11))] (kP [0,1,5,6] [0,6] [5]))
 (.seq (.seq (.reg false [gM 12 1,gI 13 (.mv (oI 0))] (kP [0,5,6,12,13] [0,6] [5]))
 (.block 0 (.loop (.seq (.reg false [gI 14 (.bin .lss (.t 13) (.t 12))] (kP [0,5,6,12,13,14] [0,6] [5]))
 (.seq (.cond (.t 14)
 .skip
 (.exit 0))
 (.seq (.block 1 (.seq (.reg false [gM 15 0,gI 16 (.callx (.f 87) [(.t 15)]),gM 7 16] (kP [0,5,6,7,12,13] [0,6] [5]))
 (.seq (.reg false [gM 17 0,gI 18 (.callx (.f 87) [(.t 17)]),gM 8 18] (kP [0,5,6,7,8,12,13] [0,6] [5]))
 (.seq (.reg false [gM 19 0,gI 20 (.callx (.f 87) [(.t 19)]),gM 9 20] (kP [0,5,6,7,8,9,12,13] [0,6] [5]))
 (.seq (.reg false [gI 21 (.fadr 0 (.t 6)),gI 22 (.load false 1 (.t 21)),gM 23 7,gI 24 (.bin .add (.t 22) (.t 23)),gI 25 (.fadr 1 (.t 6)),gI 26 (.load false 1 (.t 25)),gM 27 8,gI 28 (.bin .add (.t 26) (.t 27)),gM 29 9,gI 30 (.build [(.int .i64 (0)),(.int .i64 (0)),(.int .i64 (0))] [(0,1,(.t 24)),(1,1,(.t 28)),(2,1,(.t 29))]),gI 10 (.alloc [(.int .i64 (0)),(.int .i64 (0)),(.int .i64 (0))]),gN (.store 3 (.t 10) (.t 30))] (kP [0,5,6,10,12,13] [0,6,10] [5]))
 (.seq (.seq (.reg false [gM 31 0,gI 32 (.nilchk (.t 31)),gI 33 (.fadr 2 (.t 32)),gI 34 (.load false 1 (.t 33))] (kP [0,5,6,10,12,13,34] [0,6,10] [5]))
 (.cond (.t 34)
 (.seq (.seq (.reg false [gI 4 (.mv (.v (.slice none 0 0)))] (kP [4] [0] []))
 (.ty 4 3))
 .ret)
 .skip))
 (.seq (.reg false [gM 35 5,gI 36 (.load true 3 (.t 10)),gI 37 (.bslice 3 1 [(.t 36)]),gI 38 (.append 45 3 24 (.t 35) (.t 37)),gM 5 38] (kP [0,5,6,10,12,13] [0,6,10] [5]))
 (.reg false [gI 39 (.load true 3 (.t 10)),gN (.store 3 (.t 6) (.t 39))] (kP [0,5,6,12,13] [0,6] [5])))))))))
 (.reg false [gI 40 (.bin .add (.t 13) (oI 1)),gM 13 40] (kP [0,5,6,12,13] [0,6] [5]))))))))
 (.seq (.reg false [gM 41 5,gM 4 41] (kP [4] [0] []))
 .ret)))))
theorem fc_rsamples : FcT Try.prog 81 Try.f81 C_rsamples [.t 4] := fc_mk [aN [0,1] [0] [],⟨(kP [0,1,5] [0] []),[(5,45,3)],[],[],[]⟩,aN [0,1,5,6] [0,6] [5],aN [0,5,6,12,13] [0,6] [5],aN [0,5,6,12,13,14] [0,6] [5],aN [0,5,6,7,12,13] [0,6] [5],aN [0,5,6,7,8,12,13] [0,6] [5],aN [0,5,6,7,8,9,12,13] [0,6] [5],aN [0,5,6,10,12,13] [0,6,10] [5],aN [0,5,6,10,12,13,34] [0,6,10] [5],⟨(kP [4] [0] []),[],[],[(4,3)],[]⟩,aN [0,5,6,10,12,13] [0,6,10] [5],aN [0,5,6,12,13] [0,6] [5],aN [0,5,6,12,13] [0,6] [5],aN [4] [0] []] Try.func81 (by kernel_rfl)
section
variable {P : Program} {s : AS} {k : List KI} {kp : Option Keep} {l : List GI} {Q : AX → AS → Prop}
theorem callx_det {f : FuncId} {key : Nat} {cs0 cs : List Cel} {vargs : List Val} {d : Option Nat} {r : Val} (hf : FC P f (some cs0) vargs (fun cs' x => cs' = cs ∧ x = r)) (hr : dataRV r = true) (hc : cs.all dataRC = true)
  (h : rg P l kp k Q ({ s with bx := upd s.bx key (some cs) }.put d r)) : CALLX P f key cs0 vargs d l kp k Q s :=
 ⟨_, hf, ⟨cs, r, rfl, rfl⟩, fun _ _ hx => by obtain ⟨rfl, rfl⟩ := hx; exact ⟨hr, hc, h⟩⟩
end
def rdB (B : List Int) (at_ : Int) (bad : Bool) : List Cel := [.sl false 1 (B.map u8C), .g (.int .i64 at_), .g (.bool bad)]
theorem rdB_eq (B : List Int) (at_ : Int) (bad : Bool) : rdB B at_ bad = [.sl false 1 (B.map u8C), .g (.int .i64 at_), .g (.bool bad)] := (rfl)
theorem number_fc (n : Int) (hn : -1000000000000 ≤ n ∧ n ≤ 1000000000000) (B : List Int) (hB : B.length ≤ 1000000) (at_ : Int) (h0 : 0 ≤ at_) (rest : List Int) (hd : B.drop at_.toNat = vI n ++ rest) :
  FC Try.prog 87 (some (rdB B at_ false)) [] (fun cs r => cs = rdB B (at_ + (vI n).length) false ∧ r = iv n) := by
 refine fc_number (by simp +arith) ?_
 have h := unvarint_fc n hn B hB at_ h0 rest hd
 generalize (vI n).length = L at *
 unfold C_number
 simp only [rdB_eq]
 simp (maxSteps := 1000000) (disch := (first | omega | assumption)) only [go_sem]
 refine CALL_det h (.inl rfl) ?_
 simp (maxSteps := 1000000) (disch := (first | omega | assumption)) only [go_sem]
theorem rbytes_fc (n : Int) (B : List Int) (hB : B.length ≤ 1000000) (at_ : Int) (h0 : 0 ≤ at_) (hn : 0 ≤ n) (hd : at_ + n ≤ B.length) :
  FC Try.prog 79 (some (rdB B at_ false)) [iv n] (fun cs r => cs = rdB B (at_ + n) false ∧ r = bysV false ((B.drop at_.toNat).take n.toNat)) := by
 refine fc_rbytes (by simp +arith) ?_
 unfold C_rbytes
 simp only [rdB_eq]
 simp (maxSteps := 1000000) (disch := (first | omega | assumption)) only [go_sem]
 rw [show at_ + n - n = at_ by omega, List.drop_take, ← List.map_drop, ← List.map_take, show (at_ + n).toNat - at_.toNat = n.toNat by omega]
theorem rwithin_fc (n lo hi : Int) (hn : -1000000000000 ≤ n ∧ n ≤ 1000000000000) (hb : lo ≤ n ∧ n ≤ hi) (B : List Int) (hB : B.length ≤ 1000000) (at_ : Int) (h0 : 0 ≤ at_) (rest : List Int) (hd : B.drop at_.toNat = vI n ++ rest) :
  FC Try.prog 80 (some (rdB B at_ false)) [iv lo, iv hi] (fun cs r => cs = rdB B (at_ + (vI n).length) false ∧ r = iv n) := by
 refine fc_rwithin (by simp +arith) ?_
 have h := number_fc n hn B hB at_ h0 rest hd
 generalize (vI n).length = L at *
 unfold C_rwithin
 simp only [rdB_eq] at *
 simp (maxSteps := 1000000) (disch := (first | omega | assumption)) only [go_sem]
 refine callx_det h rfl rfl ?_
 simp (maxSteps := 1000000) (disch := (first | omega | assumption)) only [go_sem]
 refine CALL_det (out_fc n lo hi) (.inl rfl) ?_
 simp (maxSteps := 1000000) (disch := (first | omega | assumption)) only [go_sem]
def rsSt (B : List Int) (m : Int) (l : List Smp) (i : Nat) (p : Int) (x : Smp) : AS := ⟨tabV [(0, .one (.bx 0 0)), (5, .one (.ow 5 0)), (6, .one (.bx 6 0)), (12, iv m), (13, iv i)], tabO [(0, rdB B p false), (6, smpC x)], tabO [(5, ⟨0, 45, 3, (l.take i).map smpC⟩)]⟩
theorem smB_drop (l : List Smp) (a v : Int) (i : Nat) (h : i < l.length) : smB a v (l.drop i) = vI ((l.getD i default).a - a) ++ vI ((l.getD i default).v - v) ++ vI (l.getD i default).q ++ smB (l.getD i default).a (l.getD i default).v (l.drop (i + 1)) := by
 rw [List.drop_eq_getElem_cons h, smB, List.getD_eq_getElem?_getD, List.getElem?_eq_getElem h]; rfl
theorem drop_more {B a r : List Int} {p : Int} (h0 : 0 ≤ p) (h : B.drop p.toNat = a ++ r) : B.drop (p + a.length).toNat = r := by
 rw [show (p + a.length).toNat = p.toNat + a.length by omega, ← List.drop_drop, h, List.drop_left]
theorem rsamples_fc (l : List Smp) (hk : ∀ x ∈ l, okSmp x) (B : List Int) (hB : B.length ≤ 1000000) (at_ : Int) (h0 : 0 ≤ at_) (hl : l.length ≤ 1000) (rest : List Int) (hd : B.drop at_.toNat = smB 0 0 l ++ rest) :
  FC Try.prog 81 (some (rdB B at_ false)) [iv l.length] (fun cs r => cs = rdB B (at_ + (smB 0 0 l).length) false ∧ r = smps true l) := by
 refine fc_rsamples (by simp +arith) ?_
 unfold C_rsamples
 simp only [rdB_eq]
 simp (maxSteps := 1000000) (disch := (first | omega | assumption)) only [go_sem]
 refine ex_loop3 (fun (i : Nat) p x => rsSt B l.length l i p x) (fun i p x => i ≤ l.length ∧ 0 ≤ p ∧ B.drop p.toNat = smB x.a x.v (l.drop i) ++ rest ∧ p + (smB x.a x.v (l.drop i)).length = at_ + (smB 0 0 l).length ∧ okSmp x) (fun i _ _ => l.length - i) 0 at_ ⟨0, 0, 0⟩ ⟨by omega, h0, hd, rfl, by simp [okSmp]⟩ ?_ ?_
 ·unfold rsSt
  simp only [AS.mk.injEq]
  exact ⟨rfl, rfl, rfl⟩
 rintro i p x ⟨g1, g2, g3, g4, g5⟩
 unfold rsSt
 by_cases hi : i < l.length
 ·have hX := hk _ (getD_mem l i hi)
  have e1 : (l.take (i + 1)).map smpC = (l.take i).map smpC ++ [smpC (l.getD i default)] := by
   rw [← List.take_append_getElem hi, List.map_append, List.getD_eq_getElem?_getD, List.getElem?_eq_getElem hi]; rfl
  rw [smB_drop l x.a x.v i hi] at g3 g4
  generalize l.getD i default = X at *
  have hX' := hX
  unfold okSmp at hX g5
  rw [List.append_assoc, List.append_assoc, List.append_assoc] at g3
  have h1 := number_fc (X.a - x.a) (by omega) B hB p g2 _ g3
  have g6 := drop_more g2 g3
  have h2 := number_fc (X.v - x.v) (by omega) B hB _ (by omega) _ g6
  have g7 := drop_more (by omega) g6
  have h3 := number_fc X.q (by omega) B hB _ (by omega) _ g7
  have g8 := drop_more (by omega) g7
  simp only [List.length_append] at g4
  generalize (vI (X.a - x.a)).length = L1 at *
  generalize (vI (X.v - x.v)).length = L2 at *
  generalize (vI X.q).length = L3 at *
  have ea : x.a + (X.a - x.a) = X.a := by omega
  have ev : x.v + (X.v - x.v) = X.v := by omega
  have hn : (l.take i).length = i := by rw [List.length_take]; omega
  clear g3 g6 g7 hd
  simp only [rdB_eq, smpC_eq] at *
  simp (maxSteps := 1000000) (disch := (first | omega | assumption)) only [go_sem]
  refine callx_det h1 rfl rfl ?_
  simp (maxSteps := 1000000) (disch := (first | omega | assumption)) only [go_sem]
  refine callx_det h2 rfl rfl ?_
  simp (maxSteps := 1000000) (disch := (first | omega | assumption)) only [go_sem]
  refine callx_det h3 rfl rfl ?_
  simp (maxSteps := 1000000) (disch := (first | omega | assumption)) only [go_sem]
  rw [ea, ev]
  exact ⟨i + 1, _, X, by rw [e1]; rfl, ⟨by omega, by omega, g8, by omega, hX'⟩, by omega⟩
 ·have hi' : i = l.length := by omega
  rw [List.drop_eq_nil_of_le (by omega), smB] at g4
  have ep : p = at_ + (smB 0 0 l).length := by simpa using g4
  have et : l.take i = l := List.take_of_length_le (by omega)
  generalize (smB 0 0 l).length = LL at *
  clear g3 hd
  simp only [rdB_eq, smpC_eq, et] at *
  simp (maxSteps := 1000000) (disch := (first | omega | assumption)) only [go_sem]
  rw [ep]
end Go.Proofs.Ytiiblflmfadmbaa
