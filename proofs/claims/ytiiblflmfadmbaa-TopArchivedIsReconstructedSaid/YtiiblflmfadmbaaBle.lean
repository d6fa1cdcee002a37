
/-
 A block's encoding and its decoding.
-/
import Derived.Test.YtiiblflmfadmbaaBlr
namespace Go.Proofs.Ytiiblflmfadmbaa
open Go Go.Ai
set_option linter.unusedSimpArgs false
set_option linter.unusedVariables false
set_option maxHeartbeats 4000000
def C_encode : AC := (.seq (.reg false [gI 6 (.mv (.v (.slice none 0 0)))] (kP [0,1,2] [] []))
 (.seq (.reg false [gI 12 (.bslr 5 1 2 [(.v (.int .u8 (167))),(.v (.int .u8 (0)))]),gM 7 12] (kP [0,1,2,7] [] [12]))
 (.seq (.seq (.reg false [gM 13 2] (kP [0,1,7,13] [] [12]))
 (.cond (.t 13)
 (.reg false [gM 14 7,gI 15 (.iadr 1 (.t 14) (oI 1)),gN (.store 1 (.t 15) (.v (.int .u8 (1))))] (kP [0,1,7] [] [12]))
 .skip))
 (.seq (.reg false [gM 16 7,gM 17 0,gI 18 (.slen (.t 17)),gI 19 (.call (.f 64) [(.t 18)]),gI 20 (.append 5 1 1 (.t 16) (.t 19)),gM 7 20] (kP [0,1,7] [] [12]))
 (.seq (.reg false [gM 21 7,gM 22 0,gI 23 (.append 5 1 1 (.t 21) (.b 22)),gM 7 23] (kP [1,7] [] [12]))
 (.seq (.reg false [gM 24 7,gM 25 1,gI 26 (.len (.t 25)),gI 27 (.call (.f 64) [(.t 26)]),gI 28 (.append 5 1 1 (.t 24) (.t 27)),gM 7 28] (kP [1,7] [] [12]))
 (.seq (.reg false [gI 29 (.build [(.int .i64 (0)),(.int .i64 (0)),(.int .i64 (0))] []),gI 8 (.alloc [(.int .i64 (0)),(.int .i64 (0)),(.int .i64 (0))]),gN (.store 3 (.t 8) (.t 29))] (kP [1,7,8] [8] [12]))
 (.seq (.seq (.reg false [gM 30 1,gI 31 (.len (.t 30)),gI 32 (.mv (oI 0))] (kP [7,8,30,31,32] [8] [12]))
 (.block 0 (.loop (.seq (.reg false [gI 33 (.bin .lss (.t 32) (.t 31))] (kP [7,8,30,31,32,33] [8] [12]))
 (.seq (.cond (.t 33)
 .skip
 (.exit 0))
 (.seq (.block 1 (.seq (.reg false [gI 34 (.iadr 3 (.t 30) (.t 32)),gI 35 (.load true 3 (.t 34)),gI 10 (.alloc [(.int .i64 (0)),(.int .i64 (0)),(.int .i64 (0))]),gN (.store 3 (.t 10) (.t 35))] (kP [7,8,10,30,31,32] [8,10] [12]))
 (.seq (.reg false [gM 36 7,gI 37 (.fadr 0 (.t 10)),gI 38 (.load false 1 (.t 37)),gI 39 (.fadr 0 (.t 8)),gI 40 (.load false 1 (.t 39)),gI 41 (.bin .sub (.t 38) (.t 40)),gI 42 (.call (.f 64) [(.t 41)]),gI 43 (.append 5 1 1 (.t 36) (.t 42)),gM 7 43] (kP [7,8,10,30,31,32] [8,10] [12]))
 (.seq (.reg false [gM 44 7,gI 45 (.fadr 1 (.t 10)),gI 46 (.load false 1 (.t 45)),gI 47 (.fadr 1 (.t 8)),gI 48 (.load false 1 (.t 47)),gI 49 (.bin .sub (.t 46) (.t 48)),gI 50 (.call (.f 64) [(.t 49)]),gI 51 (.append 5 1 1 (.t 44) (.t 50)),gM 7 51] (kP [7,8,10,30,31,32] [8,10] [12]))
 (.seq (.reg false [gM 52 7,gI 53 (.fadr 2 (.t 10)),gI 54 (.load false 1 (.t 53)),gI 55 (.call (.f 64) [(.t 54)]),gI 56 (.append 5 1 1 (.t 52) (.t 55)),gM 7 56] (kP [7,8,10,30,31,32] [8,10] [12]))
 (.reg false [gI 57 (.load true 3 (.t 10)),gN (.store 3 (.t 8) (.t 57))] (kP [7,8,30,31,32] [8] [12])))))))
 (.reg false [gI 58 (.bin .add (.t 32) (oI 1)),gM 32 58] (kP [7,8,30,31,32] [8] [12]))))))))
 (.seq (.reg false [gM 59 7,gI 60 (.call (.f 65) [(.t 59)]),gM 11 60] (kP [7,11] [] [12]))
 (.seq (.reg false [gM 61 7,gM 62 11,gI 63 (.bin .quo (.t 62) (oI 256)),gI 64 (.conv .u8 (.t 63)),gM 65 11,gI 66 (.bin .rem (.t 65) (oI 256)),gI 67 (.conv .u8 (.t 66)),gI 68 (.bslice 1 2 [(.t 64),(.t 67)]),gI 69 (.append 5 1 1 (.t 61) (.t 68)),gM 6 69] (kP [6] [] []))
 .ret))))))))))
theorem fc_encode : FcT Try.prog 49 Try.f49 C_encode [.t 6] := fc_mk [aN [0,1,2] [] [],⟨(kP [0,1,2,7] [] [12]),[],[],[],[(12,⟨[],[],[],[],[]⟩)]⟩,aN [0,1,7,13] [] [12],aN [0,1,7] [] [12],aN [0,1,7] [] [12],aN [1,7] [] [12],aN [1,7] [] [12],aN [1,7,8] [8] [12],aN [7,8,30,31,32] [8] [12],aN [7,8,30,31,32,33] [8] [12],aN [7,8,10,30,31,32] [8,10] [12],aN [7,8,10,30,31,32] [8,10] [12],aN [7,8,10,30,31,32] [8,10] [12],aN [7,8,10,30,31,32] [8,10] [12],aN [7,8,30,31,32] [8] [12],aN [7,8,30,31,32] [8] [12],aN [7,11] [] [12],aN [6] [] []] Try.func49 (by kernel_rfl)
attribute [local go_sem] Nat.zero_lt_one
def tgB : ByteArray := ByteArray.mk #[116, 97, 103]
def tgL : List Int := [116, 97, 103]
theorem tg_size : tgB.size = 3 := rfl
theorem tg_strE : strE tgB = tgL.map u8C := rfl
theorem map_app {α β : Type} (f : α → β) (l r : List α) : l.map f ++ r.map f = (l ++ r).map f := (List.map_append ..).symm
theorem tgL_len : tgL.length = 3 := rfl
attribute [local go_sem] tg_size tg_strE tgL_len List.length_append
def enSt (l : List Smp) (out : List Int) (x : Smp) (i : Nat) : AS := ⟨tabV [(7, .one (.ow 12 0)), (8, .one (.bx 8 0)), (30, smps false l), (31, iv l.length), (32, iv i)], tabO [(8, smpC x)], tabO [(12, byRow out)]⟩
theorem encode_fc (l : List Smp) (hk : ∀ x ∈ l, okSmp x) (hl : l.length ≤ 1000) :
  FC Try.prog 49 none [.one (.g (.string tgB)), smps false l, bv false] (fun _ r => r = bysV true (encS tgL false l)) := by
 refine fc_encode (by simp +arith) ?_
 have h3 := varint_fc 3 (by omega)
 have h4 := varint_fc l.length (by omega)
 have hbl := bodyS_len tgL false l
 have hbb := bodyS_byte tgL false l (by decide)
 have hbo : bodyS tgL false l = (167 :: 0 :: (vI 3 ++ tgL ++ vI l.length)) ++ smB 0 0 l := by
  unfold bodyS; simp [tgL]
 rw [show tgL.length = 3 from rfl] at hbl
 have hv3 := vI_len 3
 have hvl := vI_len l.length
 have hck := cksum_fc (bodyS tgL false l) (by omega) hbb
 have hcb := ckS_bd (bodyS tgL false l) 1 (by omega)
 unfold encS
 generalize bodyS tgL false l = BO at *
 generalize ckS 1 BO = CK at *
 unfold C_encode
 have e1 : IntKind.u8.wrap (IntKind.i64.wrap (CK.tdiv 256)) = CK / 256 := by
  rw [Int.tdiv_eq_ediv_of_nonneg (by omega), wrap_i64 _ (by omega) (by omega), wrap8 (by omega) (by omega)]
 have e2 : IntKind.u8.wrap (CK.tmod 256) = CK % 256 := by
  rw [Int.tmod_eq_emod_of_nonneg (by omega), wrap8 (by omega) (by omega)]
 simp (maxSteps := 1000000) (disch := (first | omega | assumption)) only [go_sem]
 refine CALL_det h3 (.inl rfl) ?_
 simp (maxSteps := 1000000) (disch := (first | omega | assumption)) only [go_sem]
 refine CALL_det h4 (.inl rfl) ?_
 simp (maxSteps := 1000000) (disch := (first | omega | assumption)) only [go_sem]
 refine ex_loop3 (fun out x i => enSt l out x i) (fun out x i => i ≤ l.length ∧ out ++ smB x.a x.v (l.drop i) = BO ∧ okSmp x) (fun _ _ i => l.length - i) _ ⟨0, 0, 0⟩ 0 ⟨by omega, hbo.symm, by simp [okSmp]⟩ ?_ ?_
 ·unfold enSt
  simp only [AS.mk.injEq]
  refine ⟨rfl, rfl, ?_⟩
  simp only [byRow, List.map_cons, List.map_append, u8C_eq]
 rintro out x i ⟨g1, g2, g3⟩
 unfold enSt
 have hol : out.length ≤ BO.length := by rw [← g2, List.length_append]; omega
 by_cases hi : i < l.length
 ·have hX : okSmp (l.getD (i : Int).toNat default) := hk _ (getD_mem l i hi)
  rw [smB_drop l x.a x.v i hi] at g2
  rw [show l.getD i default = (l.getD (i : Int).toNat default) from rfl] at g2
  have hX' := hX
  unfold okSmp at hX g3
  have h1 := varint_fc ((l.getD (i : Int).toNat default).a - x.a) (by omega)
  have h2 := varint_fc ((l.getD (i : Int).toNat default).v - x.v) (by omega)
  have h5 := varint_fc (l.getD (i : Int).toNat default).q (by omega)
  have k1 := vI_len ((l.getD (i : Int).toNat default).a - x.a)
  have k2 := vI_len ((l.getD (i : Int).toNat default).v - x.v)
  have k5 := vI_len (l.getD (i : Int).toNat default).q
  simp only [smpC_eq]
  simp (maxSteps := 1000000) (disch := (first | omega | assumption)) only [go_sem]
  refine CALL_det h1 (.inl rfl) ?_
  simp (maxSteps := 1000000) (disch := (first | omega | assumption)) only [go_sem]
  refine CALL_det h2 (.inl rfl) ?_
  simp (maxSteps := 1000000) (disch := (first | omega | assumption)) only [go_sem]
  refine CALL_det h5 (.inl rfl) ?_
  simp (maxSteps := 1000000) (disch := (first | omega | assumption)) only [go_sem]
  refine ⟨out ++ vI ((l.getD (i : Int).toNat default).a - x.a) ++ vI ((l.getD (i : Int).toNat default).v - x.v) ++ vI (l.getD (i : Int).toNat default).q, (l.getD (i : Int).toNat default), i + 1, ?_, ⟨by omega, by rw [← g2]; simp only [List.append_assoc], hX'⟩, by omega⟩
  simp only [byRow, List.map_append]
  rfl
 ·rw [List.drop_eq_nil_of_le (by omega), smB, List.append_nil] at g2
  subst g2
  simp (maxSteps := 1000000) (disch := (first | omega | assumption)) only [go_sem]
  refine CALL_det hck (.inl rfl) ?_
  simp (maxSteps := 1000000) (disch := (first | omega | assumption)) only [go_sem]
  rw [e1, e2]
  simp only [bysV, List.map_append, List.map_cons, List.map_nil, u8C_eq]
end Go.Proofs.Ytiiblflmfadmbaa
