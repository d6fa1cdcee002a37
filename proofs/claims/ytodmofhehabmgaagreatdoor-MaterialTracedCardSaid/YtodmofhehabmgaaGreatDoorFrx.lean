/-
 Maps from strings to fractions; slices.SortStableFunc and slices.DeleteFunc over strings, with functions that look into such a map.
-/
import Derived.Test.YtodmofhehabmgaaGreatDoorFlw
import Derived.Test.YtodmofhehabmgaaGreatDoorLnk
import Derived.Test.YtodmofhehabmgaaGreatDoorRsc
namespace Go.Proofs.YtodmofhehabmgaaGreatDoor
open Go Go.Ai
set_option linter.unusedSimpArgs false
set_option linter.unusedVariables false
set_option maxHeartbeats 4000000
def C_insQ : AC := (.seq (.reg false [gM 10 1,gI 11 (.bin .add (.t 10) (oI 1)),gM 8 11] (kP [0,1,2,3,8,1000001] [1000001] [1000000,1000002]))
 (.block 0 (.loop (.seq (.seq (.reg false [gM 12 8,gM 13 2,gI 14 (.bin .lss (.t 12) (.t 13))] (kP [0,1,2,3,8,14,1000001] [1000001] [1000000,1000002]))
 (.cond (.t 14)
 .skip
 (.exit 0)))
 (.seq (.block 1 (.seq (.reg false [gM 17 8,gM 9 17] (kP [0,1,2,3,8,9,1000001] [1000001] [1000000,1000002]))
 (.block 2 (.loop (.seq (.seq (.reg true [gM 18 9,gM 19 1,gI 20 (.bin .gtr (.t 18) (.t 19)),gM 21 20,gG 22 21 true (.mv (.t 3)),gG 23 21 true (.mv (.t 0)),gG 24 21 true (.mv (.t 9)),gG 25 21 true (.iadr 1 (.t 23) (.t 24)),gG 26 21 true (.load false 1 (.t 25)),gG 27 21 true (.mv (.t 0)),gG 28 21 true (.mv (.t 9)),gG 29 21 true (.bin .sub (.t 28) (oI 1)),gG 30 21 true (.iadr 1 (.t 27) (.t 29)),gG 31 21 true (.load false 1 (.t 30)),gG 32 21 true (.call (.t 22) [(.t 26),(.t 31)]),gG 33 21 true (.bin .lss (.t 32) (oI 0)),gI 34 (.pick (.t 21) (.t 33) (.v (.bool false)))] (kP [0,1,2,3,8,9,34,1000001] [1000001] [1000000,1000002]))
 (.cond (.t 34)
 .skip
 (.exit 2)))
 (.seq (.block 3 (.reg true [gM 37 0,gM 38 9,gM 39 0,gM 40 9,gI 41 (.bin .sub (.t 40) (oI 1)),gM 42 0,gM 43 9,gI 44 (.bin .sub (.t 43) (oI 1)),gI 45 (.iadr 1 (.t 42) (.t 44)),gI 46 (.load false 1 (.t 45)),gM 47 0,gM 48 9,gI 49 (.iadr 1 (.t 47) (.t 48)),gI 50 (.load false 1 (.t 49)),gI 51 (.iadr 1 (.t 37) (.t 38)),gN (.store 1 (.t 51) (.t 46)),gI 52 (.iadr 1 (.t 39) (.t 41)),gN (.store 1 (.t 52) (.t 50))] (kP [0,1,2,3,8,9,1000001] [1000001] [1000000,1000002])))
 (.reg false [gM 35 9,gI 36 (.bin .sub (.t 35) (oI 1)),gM 9 36] (kP [0,1,2,3,8,9,1000001] [1000001] [1000000,1000002]))))))))
 (.reg false [gM 15 8,gI 16 (.bin .add (.t 15) (oI 1)),gM 8 16] (kP [0,1,2,3,8,1000001] [1000001] [1000000,1000002])))))))
theorem fcms_insQ : FsT Tryz.prog 137 Tryz.f137 C_insQ [] := fcms_mk [aN [0,1,2,3,8,1000001] [1000001] [1000000,1000002],aN [0,1,2,3,8,14,1000001] [1000001] [1000000,1000002],aN [0,1,2,3,8,9,1000001] [1000001] [1000000,1000002],aN [0,1,2,3,8,9,34,1000001] [1000001] [1000000,1000002],aN [0,1,2,3,8,9,1000001] [1000001] [1000000,1000002],aN [0,1,2,3,8,9,1000001] [1000001] [1000000,1000002],aN [0,1,2,3,8,1000001] [1000001] [1000000,1000002]] Tryz.func137 (by kernel_rfl)
def C_stbQ : AC := (.seq (.reg false [gI 6 (.mv (oI 20))] (kP [0,1,2,6,1000001] [1000001] [1000000,1000002]))
 (.seq (.reg false [gM 10 6,gI 7 (.mv (oI 0)),gM 8 10] (kP [0,1,2,6,7,8,1000001] [1000001] [1000000,1000002]))
 (.seq (.block 0 (.loop (.seq (.seq (.reg false [gM 11 8,gM 12 1,gI 13 (.bin .leq (.t 11) (.t 12))] (kP [0,1,2,6,7,8,13,1000001] [1000001] [1000000,1000002]))
 (.cond (.t 13)
 .skip
 (.exit 0)))
 (.block 1 (.seq (.reg false [gM 14 0,gM 15 7,gM 16 8,gM 17 2,gI 18 (.callm (.f 137) [(.t 14),(.t 15),(.t 16),(.t 17)] ⟨[1000001],[1000000,1000002],[1000001],[1000000,1000002],[1000000,1000002]⟩)] (kP [0,1,2,6,8,1000001] [1000001] [1000000,1000002]))
 (.seq (.reg false [gM 19 8,gM 7 19] (kP [0,1,2,6,7,8,1000001] [1000001] [1000000,1000002]))
 (.reg false [gM 20 8,gM 21 6,gI 22 (.bin .add (.t 20) (.t 21)),gM 8 22] (kP [0,1,2,6,7,8,1000001] [1000001] [1000000,1000002]))))))))
 (.seq (.reg false [gM 23 0,gM 24 7,gM 25 1,gM 26 2,gI 27 (.callm (.f 137) [(.t 23),(.t 24),(.t 25),(.t 26)] ⟨[1000001],[1000000,1000002],[1000001],[1000000,1000002],[1000000,1000002]⟩)] (kP [0,1,2,6,1000001] [1000001] [1000000,1000002]))
 (.block 2 (.loop (.seq (.seq (.reg false [gM 28 6,gM 29 1,gI 30 (.bin .lss (.t 28) (.t 29))] (kP [0,1,2,6,30,1000001] [1000001] [1000000,1000002]))
 (.cond (.t 30)
 .skip
 (.exit 2)))
 (.block 3 (.seq (.reg false [gM 31 6,gI 32 (.bin .mul (oI 2) (.t 31)),gI 7 (.mv (oI 0)),gM 8 32] (kP [0,1,2,6,7,8,1000001] [1000001] [1000000,1000002]))
 (.seq (.block 4 (.loop (.seq (.seq (.reg false [gM 33 8,gM 34 1,gI 35 (.bin .leq (.t 33) (.t 34))] (kP [0,1,2,6,7,8,35,1000001] [1000001] [1000000,1000002]))
 (.cond (.t 35)
 .skip
 (.exit 4)))
 (.block 5 (.seq (.reg false [gM 36 0,gM 37 7,gM 38 7,gM 39 6,gI 40 (.bin .add (.t 38) (.t 39)),gM 41 8,gM 42 2,gI 43 (.call (.f 138) [(.t 36),(.t 37),(.t 40),(.t 41),(.t 42)])] (kP [0,1,2,6,8,1000001] [1000001] [1000000,1000002]))
 (.seq (.reg false [gM 44 8,gM 7 44] (kP [0,1,2,6,7,8,1000001] [1000001] [1000000,1000002]))
 (.reg false [gM 45 8,gM 46 6,gI 47 (.bin .mul (oI 2) (.t 46)),gI 48 (.bin .add (.t 45) (.t 47)),gM 8 48] (kP [0,1,2,6,7,8,1000001] [1000001] [1000000,1000002]))))))))
 (.seq (.seq (.reg false [gM 49 7,gM 50 6,gI 51 (.bin .add (.t 49) (.t 50)),gM 9 51] (kP [0,1,2,6,7,9,1000001] [1000001] [1000000,1000002]))
 (.seq (.reg false [gM 52 9,gM 53 1,gI 54 (.bin .lss (.t 52) (.t 53))] (kP [0,1,2,6,7,9,54,1000001] [1000001] [1000000,1000002]))
 (.cond (.t 54)
 (.reg false [gM 55 0,gM 56 7,gM 57 9,gM 58 1,gM 59 2,gI 60 (.call (.f 138) [(.t 55),(.t 56),(.t 57),(.t 58),(.t 59)])] (kP [0,1,2,6,1000001] [1000001] [1000000,1000002]))
 .skip)))
 (.reg false [gM 61 6,gI 62 (.bin .mul (.t 61) (oI 2)),gM 6 62] (kP [0,1,2,6,1000001] [1000001] [1000000,1000002])))))))))))))
theorem fcms_stbQ : FsT Tryz.prog 96 Tryz.f96 C_stbQ [] := fcms_mk [aN [0,1,2,6,1000001] [1000001] [1000000,1000002],aN [0,1,2,6,7,8,1000001] [1000001] [1000000,1000002],aN [0,1,2,6,7,8,13,1000001] [1000001] [1000000,1000002],⟨(kP [0,1,2,6,8,1000001] [1000001] [1000000,1000002]),[],[],[],[(18,⟨[1000001],[1000000,1000002],[1000001],[1000000,1000002],[1000000,1000002]⟩)]⟩,aN [0,1,2,6,7,8,1000001] [1000001] [1000000,1000002],aN [0,1,2,6,7,8,1000001] [1000001] [1000000,1000002],⟨(kP [0,1,2,6,1000001] [1000001] [1000000,1000002]),[],[],[],[(27,⟨[1000001],[1000000,1000002],[1000001],[1000000,1000002],[1000000,1000002]⟩)]⟩,aN [0,1,2,6,30,1000001] [1000001] [1000000,1000002],aN [0,1,2,6,7,8,1000001] [1000001] [1000000,1000002],aN [0,1,2,6,7,8,35,1000001] [1000001] [1000000,1000002],aN [0,1,2,6,8,1000001] [1000001] [1000000,1000002],aN [0,1,2,6,7,8,1000001] [1000001] [1000000,1000002],aN [0,1,2,6,7,8,1000001] [1000001] [1000000,1000002],aN [0,1,2,6,7,9,1000001] [1000001] [1000000,1000002],aN [0,1,2,6,7,9,54,1000001] [1000001] [1000000,1000002],aN [0,1,2,6,1000001] [1000001] [1000000,1000002],aN [0,1,2,6,1000001] [1000001] [1000000,1000002]] Tryz.func96 (by kernel_rfl)
def C_sstQ : AC := (.reg false [gM 4 0,gM 5 0,gI 6 (.len (.t 5)),gM 7 1,gI 8 (.callm (.f 96) [(.t 4),(.t 6),(.t 7)] ⟨[1000001],[1000000,1000002],[1000001],[1000000,1000002],[1000000,1000002]⟩)] (kP [] [1000001] [1000000,1000002]))
theorem fcms_sstQ : FsT Tryz.prog 52 Tryz.f52 C_sstQ [] := fcms_mk [⟨(kP [] [1000001] [1000000,1000002]),[],[],[],[(8,⟨[1000001],[1000000,1000002],[1000001],[1000000,1000002],[1000000,1000002]⟩)]⟩] Tryz.func52 (by kernel_rfl)
def C_delQ : AC := (.seq (.reg false [gI 4 (.mv (.v (.slice none 0 0)))] (kP [0,1,1000001] [1000001,1000003] [1000000,1000002]))
 (.seq (.reg false [gM 8 0,gM 9 1,gI 10 (.call (.f 99) [(.t 8),(.t 9)]),gM 5 10] (kP [0,1,5,1000001] [1000001,1000003] [1000000,1000002]))
 (.seq (.seq (.reg false [gM 11 5,gI 12 (.bin .eql (.t 11) (oI (-1)))] (kP [0,1,5,12,1000001] [1000001,1000003] [1000000,1000002]))
 (.cond (.t 12)
 (.seq (.reg false [gM 13 0,gM 4 13] (kP [4] [1000001,1000003] [1000000,1000002]))
 .ret)
 .skip))
 (.seq (.seq (.reg false [gM 14 5,gI 15 (.bin .add (.t 14) (oI 1)),gM 6 15] (kP [0,1,5,6,1000001] [1000001,1000003] [1000000,1000002]))
 (.block 0 (.loop (.seq (.seq (.reg false [gM 16 6,gM 17 0,gI 18 (.len (.t 17)),gI 19 (.bin .lss (.t 16) (.t 18))] (kP [0,1,5,6,19,1000001] [1000001,1000003] [1000000,1000002]))
 (.cond (.t 19)
 .skip
 (.exit 0)))
 (.seq (.block 1 (.seq (.reg false [gM 22 0,gM 23 6,gI 24 (.iadr 1 (.t 22) (.t 23)),gI 25 (.load false 1 (.t 24)),gM 7 25] (kP [0,1,5,6,7,1000001] [1000001,1000003] [1000000,1000002]))
 (.seq (.reg false [gM 26 1,gM 27 7,gI 28 (.call (.t 26) [(.t 27)]),gI 29 (.un .not (.t 28))] (kP [0,1,5,6,7,29,1000001] [1000001,1000003] [1000000,1000002]))
 (.cond (.t 29)
 (.seq (.reg false [gM 30 0,gM 31 5,gM 32 7,gI 33 (.iadr 1 (.t 30) (.t 31)),gN (.store 1 (.t 33) (.t 32))] (kP [0,1,5,6,1000001] [1000001,1000003] [1000000,1000002]))
 (.reg false [gM 34 5,gI 35 (.bin .add (.t 34) (oI 1)),gM 5 35] (kP [0,1,5,6,1000001] [1000001,1000003] [1000000,1000002])))
 .skip))))
 (.reg false [gM 20 6,gI 21 (.bin .add (.t 20) (oI 1)),gM 6 21] (kP [0,1,5,6,1000001] [1000001,1000003] [1000000,1000002])))))))
 (.seq (.reg false [gM 36 0,gM 37 5,gI 38 (.sfx 1 (.t 36) (.t 37)),gN (.clr 9 1 [(.string (ByteArray.mk #[]))] (.t 38))] (kP [0,5] [1000001,1000003] [1000000,1000002]))
 (.seq (.reg false [gM 39 0,gM 40 5,gI 41 (.trn 1 (.t 39) (.t 40)),gM 4 41] (kP [4] [1000001,1000003] [1000000,1000002]))
 .ret))))))
theorem fcms_delQ : FsT Tryz.prog 61 Tryz.f61 C_delQ [.t 4] := fcms_mk [aN [0,1,1000001] [1000001,1000003] [1000000,1000002],aN [0,1,5,1000001] [1000001,1000003] [1000000,1000002],aN [0,1,5,12,1000001] [1000001,1000003] [1000000,1000002],aN [4] [1000001,1000003] [1000000,1000002],aN [0,1,5,6,1000001] [1000001,1000003] [1000000,1000002],aN [0,1,5,6,19,1000001] [1000001,1000003] [1000000,1000002],aN [0,1,5,6,7,1000001] [1000001,1000003] [1000000,1000002],aN [0,1,5,6,7,29,1000001] [1000001,1000003] [1000000,1000002],aN [0,1,5,6,1000001] [1000001,1000003] [1000000,1000002],aN [0,1,5,6,1000001] [1000001,1000003] [1000000,1000002],aN [0,1,5,6,1000001] [1000001,1000003] [1000000,1000002],⟨(kP [0,5] [1000001,1000003] [1000000,1000002]),[],[],[],[(38,⟨[],[],[],[],[]⟩)]⟩,⟨(kP [4] [1000001,1000003] [1000000,1000002]),[],[],[],[(41,⟨[],[],[],[],[]⟩)]⟩] Tryz.func61 (by kernel_rfl)
def C_idxQ : AC := (.seq (.reg false [gI 4 (.mv (oI 0))] (kP [0,1] [] []))
 (.seq (.seq (.reg false [gM 6 0,gI 7 (.len (.t 6)),gI 8 (.mv (oI 0))] (kP [0,1,7,8] [] []))
 (.block 0 (.loop (.seq (.reg false [gI 9 (.bin .lss (.t 8) (.t 7))] (kP [0,1,7,8,9] [] []))
 (.seq (.cond (.t 9)
 .skip
 (.exit 0))
 (.seq (.block 1 (.seq (.reg false [gM 10 8,gM 5 10] (kP [0,1,5,7,8] [] []))
 (.seq (.reg false [gM 11 1,gM 12 0,gM 13 5,gI 14 (.iadr 1 (.t 12) (.t 13)),gI 15 (.load false 1 (.t 14)),gI 16 (.call (.t 11) [(.t 15)])] (kP [0,1,5,7,8,16] [] []))
 (.cond (.t 16)
 (.seq (.reg false [gM 17 5,gM 4 17] (kP [4] [] []))
 .ret)
 .skip))))
 (.reg false [gI 18 (.bin .add (.t 8) (oI 1)),gM 8 18] (kP [0,1,7,8] [] []))))))))
 (.seq (.reg false [gI 4 (.mv (oI (-1)))] (kP [4] [] []))
 .ret)))
theorem fc_idxQ : FcT Tryz.prog 99 Tryz.f99 C_idxQ [.t 4] := fc_mk [aN [0,1] [] [],aN [0,1,7,8] [] [],aN [0,1,7,8,9] [] [],aN [0,1,5,7,8] [] [],aN [0,1,5,7,8,16] [] [],aN [4] [] [],aN [0,1,7,8] [] [],aN [4] [] []] Tryz.func99 (by kernel_rfl)
/-! ### maps from strings to fractions -/
abbrev frV (a b : Int) : Value := .iface 0 (.agg #[.int .i64 a, .int .i64 b])
def mSF (l : List (ByteArray × (Int × Int))) : List (List Cel) := l.map fun p => [.g (.string p.1), .g (frV p.2.1 p.2.2)]
def fgt (k : ByteArray) : List (ByteArray × (Int × Int)) → Int × Int
 | [] => (0, 0)
 | p :: l => if (k == p.1) = true then p.2 else fgt k l
def fput (k : ByteArray) (v : Int × Int) : List (ByteArray × (Int × Int)) → List (ByteArray × (Int × Int))
 | [] => [(k, v)]
 | p :: l => if (k == p.1) = true then (k, v) :: l else p :: fput k v l
theorem mget_sf {k : ByteArray} : ∀ {l : List (ByteArray × (Int × Int))}, (mgetF (.string k) (mSF l)).getD (.g (frV 0 0)) = .g (frV (fgt k l).1 (fgt k l).2)
 | [] => rfl
 | p :: l => by
  have ih := mget_sf (k := k) (l := l)
  have e : mkey (.string k) [.g (.string p.1), .g (frV p.2.1 p.2.2)] = (k == p.1) := rfl
  have e1 : mSF (p :: l) = [.g (.string p.1), .g (frV p.2.1 p.2.2)] :: mSF l := rfl
  rw [e1, mgetF, fgt]
  by_cases h : (k == p.1) = true
  ·rw [if_pos (e.trans h), if_pos h]; rfl
  ·rw [if_neg (fun h' => h (e.symm.trans h')), if_neg h, ih]
theorem mput_sf {k : ByteArray} {a b : Int} : ∀ {l : List (ByteArray × (Int × Int))}, mput (.string k) (.g (frV a b)) (mSF l) = mSF (fput k (a, b) l)
 | [] => rfl
 | p :: l => by
  have ih := mput_sf (k := k) (a := a) (b := b) (l := l)
  have e : mkey (.string k) [.g (.string p.1), .g (frV p.2.1 p.2.2)] = (k == p.1) := rfl
  have e1 : mSF (p :: l) = [.g (.string p.1), .g (frV p.2.1 p.2.2)] :: mSF l := rfl
  rw [e1, mput, fput]
  by_cases h : (k == p.1) = true
  ·rw [if_pos (e.trans h), if_pos h]; rfl
  ·rw [if_neg (fun h' => h (e.symm.trans h')), if_neg h, ih]; rfl
theorem datE_sf (m : List (ByteArray × (Int × Int))) : datE (mSF m) = mSF m := datE_map (fun _ => rfl) m
attribute [go_sem] mget_sf mput_sf datE_sf
theorem fgt_put (k j : ByteArray) (v : Int × Int) : ∀ l, fgt j (fput k v l) = if j = k then v else fgt j l
 | [] => by
  by_cases h : j = k
  ·subst h; simp [fput, fgt]
  ·have : (j == k) = false := by simpa using h
   simp [fput, fgt, this, h]
 | p :: l => by
  have ih := fgt_put k j v l
  rw [fput]
  by_cases h : (k == p.1) = true
  ·have e : k = p.1 := by simpa using h
   rw [if_pos h, fgt, fgt]
   by_cases hj : j = k
   ·subst hj; simp
   ·have h1 : ¬((j == k) = true) := by simpa using hj
    have h2 : ¬((j == p.1) = true) := by rw [← e]; exact h1
    rw [if_neg h1, if_neg h2, if_neg hj]
  ·rw [if_neg h, fgt, fgt, ih]
   by_cases hj : j = k
   ·subst hj; rw [if_neg h, if_pos rfl, if_pos rfl]
   ·rw [if_neg hj, if_neg hj]
abbrev sfRow (m : List (ByteArray × (Int × Int))) : Row := ⟨0, 16, 0, mSF m⟩
/-! ### insertion sort, as it goes -/
def swD (l : List ByteArray) (j : Nat) : List ByteArray := (l.set j (l.getD (j - 1) default)).set (j - 1) (l.getD j default)
def sinJ (c : ByteArray → ByteArray → Int) : Nat → List ByteArray → List ByteArray
 | 0, l => l
 | j + 1, l => if c (l.getD (j + 1) default) (l.getD j default) < 0 then sinJ c j (swD l (j + 1)) else l
def sinI (c : ByteArray → ByteArray → Int) : Nat → Nat → List ByteArray → List ByteArray
 | 0, _, l => l
 | n + 1, i, l => sinI c n (i + 1) (sinJ c i l)
/-- The order in which slices.SortStableFunc leaves few strings. -/
def sstF (c : ByteArray → ByteArray → Int) (l : List ByteArray) : List ByteArray := sinI c (l.length - 1) 1 l
theorem swD_len (l : List ByteArray) (j : Nat) : (swD l j).length = l.length := by simp [swD]
theorem sinJ_len (c : ByteArray → ByteArray → Int) : ∀ (j : Nat) (l : List ByteArray), (sinJ c j l).length = l.length
 | 0, _ => rfl
 | j + 1, l => by
  rw [sinJ]
  split
  ·rw [sinJ_len c j, swD_len]
  ·rfl
theorem sinI_len (c : ByteArray → ByteArray → Int) : ∀ (n i : Nat) (l : List ByteArray), (sinI c n i l).length = l.length
 | 0, _, _ => rfl
 | n + 1, i, l => by rw [sinI, sinI_len c n, sinJ_len]
def inSt (cl : FuncId) (m : List (ByteArray × (Int × Int))) (n : Int) (i : Int) (cur : List ByteArray) : AS := ⟨tabV [(0, .one (.ow 1000000 0)), (1, iv 0), (2, iv n), (3, .one (.fn cl [.bx 1000001 0])), (8, iv i), (1000001, .any)], tabO [(1000001, [.mp 1000002])], tabO [(1000000, stRow 0 cur), (1000002, sfRow m)]⟩
def ijSt (cl : FuncId) (m : List (ByteArray × (Int × Int))) (n i : Int) (j : Int) (cur : List ByteArray) : AS := ⟨tabV [(0, .one (.ow 1000000 0)), (1, iv 0), (2, iv n), (3, .one (.fn cl [.bx 1000001 0])), (8, iv i), (9, iv j), (1000001, .any)], tabO [(1000001, [.mp 1000002])], tabO [(1000000, stRow 0 cur), (1000002, sfRow m)]⟩
theorem getE_strC (l : List ByteArray) (i : Nat) (h : i < l.length) : (l.map strC)[i]? = some (strC (l.getD i default)) := getE_map_in strC l i h
theorem getE_set_oth {l : List (List Cel)} {i j : Nat} {x : List Cel} (h : i ≠ j) : (l.set j x)[i]? = l[i]? := by rw [List.getElem?_set]; simp [h.symm]
theorem len_setC (l : List (List Cel)) (i : Nat) (x : List Cel) : (l.set i x).length = l.length := List.length_set
attribute [local go_sem] getE_set_oth len_setC
set_option maxHeartbeats 2000000 in
theorem insQ_fcm (cl : FuncId) (c : ByteArray → ByteArray → Int) (m : List (ByteArray × (Int × Int))) (hcl : ∀ x y, FC Tryz.prog cl none [sv x, sv y, .one (.ep [.fm 16 (mSF m)])] (fun _ r => r = iv (c x y))) (l : List ByteArray) (hl : l.length ≤ 1000000) :
  FCMS Tryz.prog 137 [1000000, 1000002] ⟨[(1000001, [.mp 1000002])], [(1000000, stRow 0 l), (1000002, sfRow m)]⟩ [.one (.ow 1000000 0), iv 0, iv l.length, .one (.fn cl [.bx 1000001 0])] (fun H r => H = ⟨[(1000001, [.mp 1000002])], [(1000000, stRow 0 (sstF c l)), (1000002, sfRow m)]⟩ ∧ r = .tu []) := by
 refine fcms_insQ (K := ⟨[], [1000001], [1000000, 1000002]⟩) (by simp +arith) (by simp [XK]) (by simp [XK]) ?_
 unfold C_insQ
 generalize hR : sstF c l = R
 have hRl : R.length = l.length := by rw [← hR]; exact sinI_len c _ _ _
 generalize hn : l.length = n at *
 simp (maxSteps := 1000000) (disch := omega) only [go_sem]
 refine ex_loop2 (inSt cl m n) (fun i cur => 1 ≤ i ∧ cur.length = n ∧ sinI c (n - i.toNat) i.toNat cur = R) (fun i _ => (n - i).toNat) 1 l ⟨by omega, hn, by rw [← hR]; unfold sstF; rw [hn]; rfl⟩ rfl ?_
 rintro i cur ⟨g1, g2, g3⟩
 unfold inSt
 by_cases hi : i < n
 ·have e2 : (i + 1).toNat = i.toNat + 1 := by omega
  obtain ⟨q, hq⟩ : ∃ q, n - i.toNat = q + 1 := ⟨n - i.toNat - 1, by omega⟩
  rw [hq, sinI, ← e2, show q = n - (i + 1).toNat by omega] at g3
  generalize hT : sinJ c i.toNat cur = T at g3
  have hTl : T.length = n := by rw [← hT, sinJ_len]; exact g2
  simp (maxSteps := 1000000) (disch := omega) only [go_sem]
  refine ex_loop2 (ijSt cl m n i) (fun j cur => 0 ≤ j ∧ j ≤ i ∧ cur.length = n ∧ sinJ c j.toNat cur = T) (fun j _ => j.toNat) i cur ⟨by omega, by omega, g2, hT⟩ rfl ?_
  rintro j cur ⟨k1, k2, k3, k4⟩
  unfold ijSt
  by_cases hj : 0 < j
  ·obtain ⟨w, hw⟩ : ∃ w, j.toNat = w + 1 := ⟨j.toNat - 1, by omega⟩
   have hw2 : (j - 1).toNat = w := by omega
   have em := getD_str cur j (by omega) (by omega)
   have em2 := getD_str cur (j - 1) (by omega) (by omega)
   have eo := getE_strC cur j.toNat (by omega)
   have eo2 := getE_strC cur (j - 1).toNat (by omega)
   rw [hw, sinJ, ← hw, ← hw2] at k4
   have hc := hcl (cur.getD j.toNat default) (cur.getD (j - 1).toNat default)
   by_cases c1 : c (cur.getD j.toNat default) (cur.getD (j - 1).toNat default) < 0
   ·rw [if_pos c1] at k4
    simp (maxSteps := 1000000) (disch := omega) only [go_sem]
    refine CALL_det hc (.inl rfl) ?_
    simp (maxSteps := 1000000) (disch := omega) only [go_sem]
    exact ⟨j - 1, swD cur j.toNat, by simp only [ijSt, swD, stRow, List.map_set, strC_eq, hw2, hw, Nat.add_sub_cancel], ⟨by omega, by omega, by rw [swD_len]; exact k3, k4⟩, by omega⟩
   ·rw [if_neg c1] at k4
    subst k4
    simp (maxSteps := 1000000) (disch := omega) only [go_sem]
    refine CALL_det hc (.inl rfl) ?_
    simp (maxSteps := 1000000) (disch := omega) only [go_sem]
    exact ⟨i + 1, cur, rfl, ⟨by omega, k3, g3⟩, by omega⟩
  ·have hj0 : j = 0 := by omega
   subst hj0
   have k5 : cur = T := k4
   subst k5
   simp (maxSteps := 1000000) (disch := omega) only [go_sem]
   exact ⟨i + 1, cur, rfl, ⟨by omega, k3, g3⟩, by omega⟩
 ·rw [show n - i.toNat = 0 by omega, sinI] at g3
  subst g3
  simp (maxSteps := 1000000) (disch := omega) only [go_sem]
theorem stbQ_fcm (cl : FuncId) (c : ByteArray → ByteArray → Int) (m : List (ByteArray × (Int × Int))) (hcl : ∀ x y, FC Tryz.prog cl none [sv x, sv y, .one (.ep [.fm 16 (mSF m)])] (fun _ r => r = iv (c x y))) (l : List ByteArray) (hl : l.length < 20) :
  FCMS Tryz.prog 96 [1000000, 1000002] ⟨[(1000001, [.mp 1000002])], [(1000000, stRow 0 l), (1000002, sfRow m)]⟩ [.one (.ow 1000000 0), iv l.length, .one (.fn cl [.bx 1000001 0])] (fun H r => H = ⟨[(1000001, [.mp 1000002])], [(1000000, stRow 0 (sstF c l)), (1000002, sfRow m)]⟩ ∧ r = .tu []) := by
 refine fcms_stbQ (K := ⟨[], [1000001], [1000000, 1000002]⟩) (by simp +arith) (by simp [XK]) (by simp [XK]) ?_
 unfold C_stbQ
 have hR : (sstF c l).length = l.length := sinI_len c _ _ _
 simp (maxSteps := 1000000) (disch := (first | omega | assumption)) only [go_sem]
 refine ex_rnd 1 ?_
 simp (maxSteps := 1000000) (disch := (first | omega | assumption)) only [go_sem]
 refine ⟨rfl, CALLM_R (insQ_fcm cl c m hcl l (by omega)) ⟨_, _, rfl, rfl⟩ ?_⟩
 rintro _ _ ⟨rfl, rfl⟩
 refine ⟨.inl ⟨rfl, rfl⟩, ?_⟩
 simp (maxSteps := 1000000) (disch := (first | omega | assumption)) only [go_sem]
 refine ex_rnd 1 ?_
 simp (maxSteps := 1000000) (disch := (first | omega | assumption)) only [go_sem]
theorem sstQ_fcm (cl : FuncId) (c : ByteArray → ByteArray → Int) (m : List (ByteArray × (Int × Int))) (hcl : ∀ x y, FC Tryz.prog cl none [sv x, sv y, .one (.ep [.fm 16 (mSF m)])] (fun _ r => r = iv (c x y))) (l : List ByteArray) (hl : l.length < 20) :
  FCMS Tryz.prog 52 [1000000, 1000002] ⟨[(1000001, [.mp 1000002])], [(1000000, stRow 0 l), (1000002, sfRow m)]⟩ [.one (.ow 1000000 0), .one (.fn cl [.bx 1000001 0])] (fun H r => H = ⟨[(1000001, [.mp 1000002])], [(1000000, stRow 0 (sstF c l)), (1000002, sfRow m)]⟩ ∧ r = .tu []) := by
 refine fcms_sstQ (K := ⟨[], [1000001], [1000000, 1000002]⟩) (by simp +arith) (by simp [XK]) (by simp [XK]) ?_
 unfold C_sstQ
 simp (maxSteps := 1000000) (disch := (first | omega | assumption)) only [go_sem]
 refine ⟨rfl, CALLM_R (stbQ_fcm cl c m hcl l hl) ⟨_, _, rfl, rfl⟩ ?_⟩
 rintro _ _ ⟨rfl, rfl⟩
 refine ⟨.inl ⟨rfl, rfl⟩, ?_⟩
 simp (maxSteps := 1000000) (disch := (first | omega | assumption)) only [go_sem]
/-! ### slices.DeleteFunc -/
def ixQSt (cl : FuncId) (C1 C2 : List Cel) (l : List ByteArray) (i : Int) : AS := ⟨tabV [(0, strs false l), (1, .one (.fn cl [.ep C1, .ep C2])), (7, iv l.length), (8, iv i)], tabO [], tabO []⟩
theorem idxQ_fc (cl : FuncId) (C1 C2 : List Cel) (p : ByteArray → Bool) (l : List ByteArray) (hl : l.length ≤ 1000000) (hcl : ∀ x, FC Tryz.prog cl none [sv x, .one (.ep C1), .one (.ep C2)] (fun _ r => r = bv (p x))) : FC Tryz.prog 99 none [strs false l, .one (.fn cl [.ep C1, .ep C2])] (fun _ r => r = iv (idxG p 0 l)) := by
 refine fc_idxQ (by simp +arith) ?_
 unfold C_idxQ
 simp (maxSteps := 1000000) (disch := omega) only [go_sem]
 refine ex_loop1 (ixQSt cl C1 C2 l) (fun i => 0 ≤ i ∧ i ≤ l.length ∧ idxG p i (l.drop i.toNat) = idxG p 0 l) (fun i => (l.length - i).toNat) 0 ⟨by omega, by omega, rfl⟩ rfl ?_
 rintro i ⟨g1, g2, g3⟩
 unfold ixQSt
 by_cases hi : i < l.length
 ·rw [drop_cons l i.toNat (by omega), idxG] at g3
  have e2 : (i + 1).toNat = i.toNat + 1 := by omega
  have em := getD_str l i g1 hi
  simp (maxSteps := 1000000) (disch := omega) only [go_sem]
  refine CALL_det (hcl _) (.inl rfl) ?_
  cases h : p (l.getD i.toNat default) with
  | true => rw [h, if_pos rfl] at g3; simp (maxSteps := 1000000) (disch := omega) only [go_sem]; rw [← g3]
  | false =>
   rw [h, if_neg (by simp)] at g3
   simp (maxSteps := 1000000) (disch := omega) only [go_sem]
   exact ⟨_, rfl, ⟨by omega, by omega, by rw [e2]; exact g3⟩, by omega⟩
 ·rw [List.drop_eq_nil_of_le (by omega), idxG] at g3
  simp (maxSteps := 1000000) (disch := omega) only [go_sem]
  rw [← g3]
abbrev lsB (ln ld : Int) : List Cel := [.g (.int .i64 ln), .g (.int .i64 ld)]
def dlQSt (cl : FuncId) (m : List (ByteArray × (Int × Int))) (ln ld : Int) (j k : Int) (cur : List ByteArray) : AS := ⟨tabV [(0, .one (.ow 1000000 0)), (1, .one (.fn cl [.bx 1000001 0, .bx 1000003 0])), (5, iv j), (6, iv k), (1000001, .any)], tabO [(1000001, [.mp 1000002]), (1000003, lsB ln ld)], tabO [(1000000, stRow 0 cur), (1000002, sfRow m)]⟩
theorem tofE_strC (l : List ByteArray) : tofE (l.map strC) = l.map strC := tofE_map (fun _ => rfl) l
attribute [local go_sem] tofE_strC
theorem delQ_fcm (cl : FuncId) (m : List (ByteArray × (Int × Int))) (ln ld : Int) (p : ByteArray → Bool) (l : List ByteArray) (hl : l.length ≤ 1000000) (hcl : ∀ x, FC Tryz.prog cl none [sv x, .one (.ep [.fm 16 (mSF m)]), .one (.ep (lsB ln ld))] (fun _ r => r = bv (p x))) :
  FCMS Tryz.prog 61 [1000002] ⟨[(1000001, [.mp 1000002]), (1000003, lsB ln ld)], [(1000000, stRow 0 l), (1000002, sfRow m)]⟩ [.one (.ow 1000000 0), .one (.fn cl [.bx 1000001 0, .bx 1000003 0])] (fun H r => H = ⟨[(1000001, [.mp 1000002]), (1000003, lsB ln ld)], [(1000000, stRow 0 (l.filter fun x => !p x)), (1000002, sfRow m)]⟩ ∧ r = .one (.ow 1000000 0)) := by
 refine fcms_delQ (K := ⟨[], [1000001, 1000003], [1000000, 1000002]⟩) (by simp +arith) (by simp [XK]) (by simp [XK]) ?_
 unfold C_delQ
 simp (maxSteps := 1000000) (disch := omega) only [go_sem]
 refine CALL_det (idxQ_fc cl [.fm 16 (mSF m)] (lsB ln ld) p l hl hcl) (.inl rfl) ?_
 rcases idxG_spec p l 0 (by omega) with ⟨h1, h2⟩ | ⟨h1, h2, h3, h4⟩
 ·rw [h1]
  rw [filter_none h2]
  simp (maxSteps := 1000000) (disch := omega) only [go_sem]
 ·generalize idxG p 0 l = i at *
  rw [show (i - 0).toNat = i.toNat by omega] at h3
  have h5 := DelI.start h1 (by omega) h3 (fun j hj => h4 j (by omega))
  simp (maxSteps := 1000000) (disch := omega) only [go_sem]
  refine ex_loop3 (dlQSt cl m ln ld) (DelI p l) (fun _ k _ => (l.length - k).toNat) i (i + 1) l h5 rfl ?_
  rintro j k cur hI
  have i1 := hI.j0
  have i2 := hI.jk
  have i3 := hI.kn
  have i4 := hI.len
  unfold dlQSt
  by_cases hk : k < l.length
  ·have eat := hI.at hk
   have ek := getD_str cur k (by omega) (by omega)
   have ej := getE_strC cur j.toNat (by omega)
   simp (maxSteps := 1000000) (disch := omega) only [go_sem]
   rw [eat]
   refine CALL_det (hcl _) (.inl rfl) ?_
   cases hp : p (l.getD k.toNat default) with
   | true =>
    simp (maxSteps := 1000000) (disch := omega) only [go_sem]
    exact ⟨_, _, _, rfl, hI.del hk hp, by omega⟩
   | false =>
    simp (maxSteps := 1000000) (disch := omega) only [go_sem]
    exact ⟨j + 1, k + 1, cur.set j.toNat (l.getD k.toNat default), by simp only [dlQSt, stRow, List.map_set, strC_eq], hI.put hk hp, by omega⟩
  ·have hf := hI.fin hk
   simp (maxSteps := 1000000) (disch := omega) only [go_sem]
   refine ⟨⟨by omega, by simp; omega, by simp; omega⟩, ?_⟩
   rw [List.take_left' (by simp; omega), ← List.map_take, hf]
end Go.Proofs.YtodmofhehabmgaaGreatDoor
