
/-
 What a key is, in the program and in the reference: strings.Trim at an ASCII cutset, strings.IndexByte.
-/
import Derived.Test.YtdhkejcldipbmaaGreatDoorBas
import Derived.Lib.Bytealg
import Derived.Lib.Strings
import Derived.Lib.Walk
namespace Go.Proofs.YtdhkejcldipbmaaGreatDoor
open Go Go.Ai
set_option linter.unusedSimpArgs false
set_option linter.unusedVariables false
set_option maxHeartbeats 4000000
def C_key : AC := (.seq (.reg false [gI 2 (.mv (.v (.bool false)))] (kP [0] [] []))
 (.seq (.seq (.reg false [gM 5 0,gI 6 (.bin .eql (.t 5) (.v (.string (ByteArray.mk #[])))),gM 7 6,gG 8 7 false (.mv (.t 0)),gG 9 7 false (.slen (.t 8)),gG 10 7 false (.bin .gtr (.t 9) (oI 40)),gI 11 (.pick (.t 7) (.v (.bool true)) (.t 10)),gM 12 11,gG 13 12 false (.mv (.t 0)),gG 14 12 false (.idx (.t 13) (oI 0)),gG 15 12 false (.bin .lss (.t 14) (.v (.int .u8 (97)))),gI 16 (.pick (.t 12) (.v (.bool true)) (.t 15)),gM 17 16,gG 18 17 false (.mv (.t 0)),gG 19 17 false (.idx (.t 18) (oI 0)),gG 20 17 false (.bin .gtr (.t 19) (.v (.int .u8 (122)))),gI 21 (.pick (.t 17) (.v (.bool true)) (.t 20))] (kP [0,21] [] []))
 (.cond (.t 21)
 (.seq (.reg false [gI 2 (.mv (.v (.bool false)))] (kP [2] [] []))
 .ret)
 .skip))
 (.seq (.seq (.reg false [gM 22 0,gI 23 (.slen (.t 22)),gI 24 (.mv (oI 0))] (kP [0,23,24] [] []))
 (.block 0 (.loop (.seq (.reg false [gI 25 (.bin .lss (.t 24) (.t 23))] (kP [0,23,24,25] [] []))
 (.seq (.cond (.t 25)
 .skip
 (.exit 0))
 (.seq (.block 1 (.seq (.reg false [gM 26 24,gM 3 26] (kP [0,3,23,24] [] []))
 (.seq (.reg false [gM 27 0,gM 28 3,gI 29 (.idx (.t 27) (.t 28)),gM 4 29] (kP [0,4,23,24] [] []))
 (.seq (.reg false [gM 30 4,gI 31 (.bin .geq (.t 30) (.v (.int .u8 (97)))),gM 32 31,gG 33 32 true (.mv (.t 4)),gG 34 32 true (.bin .leq (.t 33) (.v (.int .u8 (122)))),gI 35 (.pick (.t 32) (.t 34) (.v (.bool false))),gM 36 35,gG 37 36 false (.mv (.t 4)),gG 38 36 false (.bin .geq (.t 37) (.v (.int .u8 (48)))),gG 39 36 false (.mv (.t 38)),gG 40 39 true (.mv (.t 4)),gG 41 39 true (.bin .leq (.t 40) (.v (.int .u8 (57)))),gG 42 36 false (.pick (.t 39) (.t 41) (.v (.bool false))),gI 43 (.pick (.t 36) (.v (.bool true)) (.t 42)),gM 44 43,gG 45 44 false (.mv (.t 4)),gG 46 44 false (.bin .eql (.t 45) (.v (.int .u8 (45)))),gI 47 (.pick (.t 44) (.v (.bool true)) (.t 46)),gM 48 47,gG 49 48 false (.mv (.t 4)),gG 50 48 false (.bin .eql (.t 49) (.v (.int .u8 (95)))),gI 51 (.pick (.t 48) (.v (.bool true)) (.t 50)),gI 52 (.un .not (.t 51))] (kP [0,23,24,52] [] []))
 (.cond (.t 52)
 (.seq (.reg false [gI 2 (.mv (.v (.bool false)))] (kP [2] [] []))
 .ret)
 .skip)))))
 (.reg false [gI 53 (.bin .add (.t 24) (oI 1)),gM 24 53] (kP [0,23,24] [] []))))))))
 (.seq (.reg false [gI 2 (.mv (.v (.bool true)))] (kP [2] [] []))
 .ret))))
theorem fc_key : FcT Tryz.prog 89 Tryz.f89 C_key [.t 2] := fc_mk [aN [0] [] [],aN [0,21] [] [],aN [2] [] [],aN [0,23,24] [] [],aN [0,23,24,25] [] [],aN [0,3,23,24] [] [],aN [0,4,23,24] [] [],aN [0,23,24,52] [] [],aN [2] [] [],aN [0,23,24] [] [],aN [2] [] []] Tryz.func89 (by kernel_rfl)
def C_contains : AC := (.seq (.reg false [gI 4 (.mv (.v (.bool false)))] (kP [0,1,1000001] [1000001] []))
 (.seq (.reg false [gM 5 0,gM 6 1,gI 7 (.nilchk (.t 5)),gI 8 (.aadr 256 1 (.t 7) (.t 6)),gI 9 (.load false 1 (.t 8)),gM 4 9] (kP [4] [1000001] []))
 .ret))
theorem fcm_contains : FmT Tryz.prog 164 Tryz.f164 C_contains [.t 4] := fcm_mk [aN [0,1,1000001] [1000001] [],aN [4] [1000001] []] Tryz.func164 (by kernel_rfl)
def C_mkset : AC := (.seq (.reg false [gI 2 (.alloc (List.replicate 256 (.bool false))),gI 3 (.mv (.v (.bool false)))] (kP [0,2] [2] []))
 (.seq (.seq (.reg false [gI 4 (.mv (oI 0))] (kP [0,2,4] [2] []))
 (.block 0 (.loop (.seq (.seq (.reg false [gM 6 4,gM 7 0,gI 8 (.slen (.t 7)),gI 9 (.bin .lss (.t 6) (.t 8))] (kP [0,2,4,9] [2] []))
 (.cond (.t 9)
 .skip
 (.exit 0)))
 (.seq (.block 1 (.seq (.reg false [gM 12 0,gM 13 4,gI 14 (.idx (.t 12) (.t 13)),gM 5 14] (kP [0,2,4,5] [2] []))
 (.seq (.seq (.reg false [gM 15 5,gI 16 (.bin .geq (.t 15) (.v (.int .u8 (128))))] (kP [0,2,4,5,16] [2] []))
 (.cond (.t 16)
 (.seq (.reg false [gI 17 (.load true 256 (.t 2)),gN (.store 256 (.t 2) (.t 17)),gI 3 (.mv (.v (.bool false)))] (kP [2,3] [2] []))
 .ret)
 .skip))
 (.reg false [gM 18 5,gI 19 (.aadr 256 1 (.t 2) (.t 18)),gN (.store 1 (.t 19) (.v (.bool true)))] (kP [0,2,4] [2] [])))))
 (.reg false [gM 10 4,gI 11 (.bin .add (.t 10) (oI 1)),gM 4 11] (kP [0,2,4] [2] [])))))))
 (.seq (.reg false [gI 20 (.load true 256 (.t 2)),gN (.store 256 (.t 2) (.t 20)),gI 3 (.mv (.v (.bool true)))] (kP [2,3] [2] []))
 .ret)))
theorem fc_mkset : FcT Tryz.prog 116 Tryz.f116 C_mkset [.cell 2 true 256, .t 3] := fc_mk [aN [0,2] [2] [],aN [0,2,4] [2] [],aN [0,2,4,9] [2] [],aN [0,2,4,5] [2] [],aN [0,2,4,5,16] [2] [],aN [2,3] [2] [],aN [0,2,4] [2] [],aN [0,2,4] [2] [],aN [2,3] [2] []] Tryz.func116 (by kernel_rfl)
def C_trimL : AC := (.seq (.reg false [gI 4 (.mv (.v (.string (ByteArray.mk #[]))))] (kP [0,1,1000001] [1000001] []))
 (.seq (.block 0 (.loop (.seq (.seq (.reg false [gM 5 0,gI 6 (.slen (.t 5)),gI 7 (.bin .gtr (.t 6) (oI 0))] (kP [0,1,7,1000001] [1000001] []))
 (.cond (.t 7)
 .skip
 (.exit 0)))
 (.block 1 (.seq (.seq (.reg false [gM 8 1,gM 9 0,gI 10 (.idx (.t 9) (oI 0)),gI 11 (.callm (.f 164) [(.t 8),(.t 10)] ⟨[1000001],[],[1000001],[],[]⟩),gI 12 (.un .not (.t 11))] (kP [0,1,12,1000001] [1000001] []))
 (.cond (.t 12)
 (.exit 0)
 .skip))
 (.reg false [gM 13 0,gI 14 (.ssub (.t 13) (some (oI 1)) none),gM 0 14] (kP [0,1,1000001] [1000001] [])))))))
 (.seq (.reg false [gM 15 0,gM 4 15] (kP [4] [1000001] []))
 .ret)))
theorem fcm_trimL : FmT Tryz.prog 117 Tryz.f117 C_trimL [.t 4] := fcm_mk [aN [0,1,1000001] [1000001] [],aN [0,1,7,1000001] [1000001] [],⟨(kP [0,1,12,1000001] [1000001] []),[],[],[],[(11,⟨[1000001],[],[1000001],[],[]⟩)]⟩,aN [0,1,1000001] [1000001] [],aN [4] [1000001] []] Tryz.func117 (by kernel_rfl)
def C_trimR : AC := (.seq (.reg false [gI 4 (.mv (.v (.string (ByteArray.mk #[]))))] (kP [0,1,1000001] [1000001] []))
 (.seq (.block 0 (.loop (.seq (.seq (.reg false [gM 5 0,gI 6 (.slen (.t 5)),gI 7 (.bin .gtr (.t 6) (oI 0))] (kP [0,1,7,1000001] [1000001] []))
 (.cond (.t 7)
 .skip
 (.exit 0)))
 (.block 1 (.seq (.seq (.reg false [gM 8 1,gM 9 0,gM 10 0,gI 11 (.slen (.t 10)),gI 12 (.bin .sub (.t 11) (oI 1)),gI 13 (.idx (.t 9) (.t 12)),gI 14 (.callm (.f 164) [(.t 8),(.t 13)] ⟨[1000001],[],[1000001],[],[]⟩),gI 15 (.un .not (.t 14))] (kP [0,1,15,1000001] [1000001] []))
 (.cond (.t 15)
 (.exit 0)
 .skip))
 (.reg false [gM 16 0,gM 17 0,gI 18 (.slen (.t 17)),gI 19 (.bin .sub (.t 18) (oI 1)),gI 20 (.ssub (.t 16) none (some (.t 19))),gM 0 20] (kP [0,1,1000001] [1000001] [])))))))
 (.seq (.reg false [gM 21 0,gM 4 21] (kP [4] [1000001] []))
 .ret)))
theorem fcm_trimR : FmT Tryz.prog 118 Tryz.f118 C_trimR [.t 4] := fcm_mk [aN [0,1,1000001] [1000001] [],aN [0,1,7,1000001] [1000001] [],⟨(kP [0,1,15,1000001] [1000001] []),[],[],[],[(14,⟨[1000001],[],[1000001],[],[]⟩)]⟩,aN [0,1,1000001] [1000001] [],aN [4] [1000001] []] Tryz.func118 (by kernel_rfl)
def C_trim : AC := (.seq (.reg false [gI 4 (.mv (.v (.string (ByteArray.mk #[]))))] (kP [0,1,5] [5] []))
 (.seq (.seq (.reg false [gM 7 0,gI 8 (.bin .eql (.t 7) (.v (.string (ByteArray.mk #[])))),gM 9 8,gG 10 9 false (.mv (.t 1)),gG 11 9 false (.bin .eql (.t 10) (.v (.string (ByteArray.mk #[])))),gI 12 (.pick (.t 9) (.v (.bool true)) (.t 11))] (kP [0,1,5,12] [5] []))
 (.cond (.t 12)
 (.seq (.reg false [gM 13 0,gM 4 13] (kP [4,5] [5] []))
 .ret)
 .skip))
 (.seq (.seq (.reg false [gM 14 1,gI 15 (.slen (.t 14)),gI 16 (.bin .eql (.t 15) (oI 1)),gM 17 16,gG 18 17 true (.mv (.t 1)),gG 19 17 true (.idx (.t 18) (oI 0)),gG 20 17 true (.bin .lss (.t 19) (.v (.int .u8 (128)))),gI 21 (.pick (.t 17) (.t 20) (.v (.bool false)))] (kP [0,1,5,21] [5] []))
 (.cond (.t 21)
 (.seq (.reg true [gM 22 0,gM 23 1,gI 24 (.idx (.t 23) (oI 0)),gI 25 (.call (.f 115) [(.t 22),(.t 24)]),gM 26 1,gI 27 (.idx (.t 26) (oI 0)),gI 28 (.call (.f 114) [(.t 25),(.t 27)]),gM 4 28] (kP [4,5] [5] []))
 .ret)
 .skip))
 (.seq (.seq (.reg false [gM 30 1,gI 31 (.call (.f 116) [(.t 30)]),gM 29 31,gI 32 (.extr (.t 29) 0),gI 33 (.extr (.t 29) 1),gI 5 (.alloc (List.replicate 256 (.bool false))),gN (.store 256 (.t 5) (.t 32)),gM 6 33] (kP [0,1,5,6] [5] []))
 (.seq (.reg false [gM 34 6] (kP [0,1,5,34] [5] []))
 (.cond (.t 34)
 (.seq (.reg false [gM 35 0,gI 36 (.callm (.f 118) [(.t 35),(.t 5)] ⟨[5],[],[5],[],[]⟩),gI 37 (.callm (.f 117) [(.t 36),(.t 5)] ⟨[5],[],[5],[],[]⟩),gM 4 37] (kP [4,5] [5] []))
 .ret)
 .skip)))
 (.seq (.reg false [gM 38 0,gM 39 1,gI 40 (.call (.f 120) [(.t 38),(.t 39)]),gM 41 1,gI 42 (.call (.f 119) [(.t 40),(.t 41)]),gM 4 42] (kP [4,5] [5] []))
 .ret)))))
theorem fc_trim : FcT Tryz.prog 76 Tryz.f76 C_trim [.t 4] := fc_mk [aN [0,1,5] [5] [],aN [0,1,5,12] [5] [],aN [4,5] [5] [],aN [0,1,5,21] [5] [],aN [4,5] [5] [],aN [0,1,5,6] [5] [],aN [0,1,5,34] [5] [],⟨(kP [4,5] [5] []),[],[],[],[(36,⟨[5],[],[5],[],[]⟩),(37,⟨[5],[],[5],[],[]⟩)]⟩,aN [4,5] [5] []] Tryz.func76 (by kernel_rfl)
def C_rkey : AC := (.seq (.reg false [gI 2 (.mv (.v (.bool false)))] (kP [0] [] []))
 (.seq (.reg false [gM 3 0,gI 4 (.slen (.t 3)),gI 5 (.call (.f 75) [(.t 4),(oI 1),(oI 40)]),gM 6 5,gG 7 6 true (.mv (.t 0)),gG 8 6 true (.call (.f 76) [(.t 7),(.v (.string (ByteArray.mk #[97,98,99,100,101,102,103,104,105,106,107,108,109,110,111,112,113,114,115,116,117,118,119,120,121,122,48,49,50,51,52,53,54,55,56,57,45,95])))]),gG 9 6 true (.bin .eql (.t 8) (.v (.string (ByteArray.mk #[])))),gI 10 (.pick (.t 6) (.t 9) (.v (.bool false))),gM 11 10,gG 12 11 true (.mv (.t 0)),gG 13 11 true (.idx (.t 12) (oI 0)),gG 14 11 true (.call (.f 77) [(.v (.string (ByteArray.mk #[97,98,99,100,101,102,103,104,105,106,107,108,109,110,111,112,113,114,115,116,117,118,119,120,121,122]))),(.t 13)]),gG 15 11 true (.bin .geq (.t 14) (oI 0)),gI 16 (.pick (.t 11) (.t 15) (.v (.bool false))),gM 2 16] (kP [2] [] []))
 .ret))
theorem fc_rkey : FcT Tryz.prog 34 Tryz.f34 C_rkey [.t 2] := fc_mk [aN [0] [] [],aN [2] [] []] Tryz.func34 (by kernel_rfl)
/-- A byte of a string. -/
def byteN (b : ByteArray) (i : Nat) : Nat := (b.data.toList.getD i 0).toNat
def byteA (b : ByteArray) (i : Int) : Int := ((b.data.toList.getD i.toNat 0).toNat : Int)
/-- All bytes up to a place are so. -/
def allTo (p : Nat → Bool) (b : ByteArray) : Nat → Bool
 | 0 => true
 | n + 1 => allTo p b n && p (byteN b n)
def keyB (n : Nat) : Bool := decide (97 ≤ n ∧ n ≤ 122) || decide (48 ≤ n ∧ n ≤ 57) || decide (n = 45) || decide (n = 95)
def keyOk (b : ByteArray) : Bool := decide (1 ≤ b.size ∧ b.size ≤ 40) && decide (97 ≤ byteN b 0 ∧ byteN b 0 ≤ 122) && allTo keyB b b.size
theorem allTo_lt {p : Nat → Bool} {b : ByteArray} : ∀ {n : Nat}, allTo p b n = true ↔ ∀ i, i < n → p (byteN b i) = true
 | 0 => by simp [allTo]
 | n + 1 => by
  rw [allTo, Bool.and_eq_true, allTo_lt]
  constructor
  ·rintro ⟨h1, h2⟩ i hi
   by_cases e : i = n
   ·subst e; exact h2
   ·exact h1 i (by omega)
  ·exact fun h => ⟨fun i hi => h i (by omega), h n (by omega)⟩
theorem str_nil (b : ByteArray) : (b.toList == (ByteArray.mk #[]).toList) = decide (b.size = 0) := by
 rw [ByteArray.toList_eq, ByteArray.toList_eq]
 by_cases e : b.size = 0
 ·have : b = ByteArray.mk #[] := by
   cases b with | mk d => simp [ByteArray.size] at e; simp [e]
  subst this; rfl
 ·rw [decide_eq_false e]
  apply Bool.eq_false_iff.2
  intro h2
  have := beq_iff_eq.1 h2
  rw [Lib.size_eq, this] at e
  exact e rfl
theorem byte_lt (b : ByteArray) (i : Nat) : byteN b i < 256 := (b.data.toList.getD i 0).toNat_lt
theorem byte_ext {b : ByteArray} {l h i : Nat} (hi : i < h - l) (hh : h ≤ b.size) : byteN (b.extract l h) i = byteN b (l + i) := by
 unfold byteN
 rw [Lib.extract_data, List.getD_eq_getElem?_getD, List.getD_eq_getElem?_getD, List.getElem?_take_of_lt (by omega), List.getElem?_drop]
theorem size_ext {b : ByteArray} {l h : Nat} (hh : h ≤ b.size) : (b.extract l h).size = h - l := by
 rw [ByteArray.size_extract]; omega
theorem ext_ext {b : ByteArray} {l h l' h' : Nat} (hl : l ≤ h) (hh : h' ≤ h - l) : (b.extract l h).extract l' h' = b.extract (l + l') (l + h') := by
 rw [ByteArray.extract_extract]
 congr 1
 omega
/-- A table of truth values, one for each byte. -/
def tabC (p : Nat → Bool) : List Cel := (List.range 256).map fun c => .g (.bool (p c))
section
variable {s : AS} {p : Nat → Bool} {d : Option Nat}
theorem tab_map {f : Cel → Cel} (h : ∀ v, f (.g v) = .g v) : (tabC p).map f = tabC p := by
 unfold tabC; rw [List.map_map]
 exact List.map_congr_left fun c _ => h _
theorem tab_ren {K : Kp} : (tabC p).map (s.renC K) = tabC p := tab_map fun _ => rfl
theorem tab_pass {m : CAnn} : (tabC p).map (s.passC m) = tabC p := tab_map fun _ => rfl
theorem tab_back {m : CAnn} : (tabC p).map (s.backC m) = tabC p := tab_map fun _ => rfl
theorem tab_view : (tabC p).map s.viewC = tabC p := tab_map fun _ => rfl
theorem tab_fin : (tabC p).map s.finC = tabC p := tab_map fun _ => rfl
theorem tab_dat : (tabC p).map Cel.dat = tabC p := tab_map fun _ => rfl
theorem tab_rn {a b : Nat → Nat} : (tabC p).map (rnC a b) = tabC p := tab_map fun _ => rfl
theorem tab_all {f : Cel → Bool} (h : ∀ v, f (.g v) = true) : (tabC p).all f = true := by
 rw [List.all_eq_true]
 intro c hc
 obtain ⟨n, _, rfl⟩ := List.mem_map.1 hc
 exact h _
theorem tab_plain : (tabC p).all plainC = true := tab_all fun _ => rfl
theorem tab_data : (tabC p).all dataRC = true := tab_all fun _ => rfl
theorem tab_len : (tabC p).length = 256 := by simp [tabC]
theorem tab_drop : (tabC p).drop 256 = [] := List.drop_eq_nil_of_le (by rw [tab_len]; exact Nat.le_refl _)
theorem tab_take : (tabC p).take 256 = tabC p := List.take_of_length_le (by rw [tab_len]; exact Nat.le_refl _)
theorem tab_al : (List.replicate 256 (Value.bool false)).map Cel.g = tabC (fun _ => false) := by
 unfold tabC
 rw [List.map_replicate, List.map_const', List.length_range]
theorem tab_get {o : Nat} (h : o < 256) : (tabC p)[o]? = some (.g (.bool (p o))) := by
 unfold tabC
 rw [List.getElem?_map, List.getElem?_range h]; rfl
theorem tab_load {o n : Nat} (h : o < 256) : loadS s d false n ((tabC p).drop o) = .ok (s.put d (.one (.g (.bool (p o))))) := by
 have h1 : o < (tabC p).length := by rw [tab_len]; exact h
 have h2 := tab_get (p := p) h
 rw [List.getElem?_eq_getElem h1] at h2
 injection h2 with h2
 rw [List.drop_eq_getElem_cons h1, h2]; rfl
theorem tab_congr {q : Nat → Bool} (h : ∀ c, c < 256 → p c = q c) : tabC p = tabC q := List.map_congr_left fun c hc => by rw [h c (List.mem_range.1 hc)]
theorem tab_set {o : Nat} {v : Bool} (h : o < 256) : wr (tabC p) o [Cel.g (.bool v)] = tabC (fun c => if c = o then v else p c) := by
 apply List.ext_getElem?
 intro i
 unfold wr
 by_cases hi : i < 256
 ·rw [tab_get hi]
  by_cases h1 : i < o
  ·rw [List.append_assoc, List.getElem?_append_left (by rw [List.length_take, tab_len]; omega), List.getElem?_take_of_lt h1, tab_get hi, if_neg (by omega)]
  ·by_cases h2 : i = o
   ·subst h2
    rw [List.append_assoc, List.getElem?_append_right (by rw [List.length_take, tab_len]; omega), List.length_take, tab_len, show i - min i 256 = 0 by omega, if_pos rfl]; rfl
   ·rw [List.getElem?_append_right (by rw [List.length_append, List.length_take, tab_len]; simp; omega), List.length_append, List.length_take, tab_len, List.length_singleton, List.getElem?_drop, show o + 1 + (i - (min o 256 + 1)) = i by omega, tab_get hi, if_neg h2]
 ·rw [List.getElem?_eq_none (by rw [List.length_append, List.length_append, List.length_take, List.length_drop, tab_len]; simp; omega), List.getElem?_eq_none (by rw [tab_len]; omega)]
end
attribute [go_sem] tab_ren tab_pass tab_back tab_view tab_fin tab_dat tab_rn tab_plain tab_data tab_len tab_drop tab_take tab_al tab_load
attribute [go_sem high] tab_set
attribute [go_sem] Nat.mul_one Int.toNat_natCast
/-- A byte is among the first so many of a string. -/
def inTo (b : ByteArray) : Nat → Nat → Bool
 | 0, _ => false
 | n + 1, c => inTo b n c || decide (c = byteN b n)
theorem inTo_lt {b : ByteArray} {c : Nat} : ∀ {n : Nat}, inTo b n c = true ↔ ∃ i, i < n ∧ byteN b i = c
 | 0 => by simp [inTo]
 | n + 1 => by
  rw [inTo, Bool.or_eq_true, inTo_lt, decide_eq_true_eq]
  constructor
  ·rintro (⟨i, h1, h2⟩ | h)
   ·exact ⟨i, by omega, h2⟩
   ·exact ⟨n, by omega, h.symm⟩
  ·rintro ⟨i, h1, h2⟩
   by_cases e : i = n
   ·subst e; exact .inr h2.symm
   ·exact .inl ⟨i, by omega, h2⟩
section
variable {P : Program} {Q : AX → AS → Prop} {s : AS} {k : List KI} {kp : Option Keep} {l : List GI}
/-- A contract that speaks of other keys, with what comes of it spelled out. -/
theorem CALLM_rnX {f : FuncId} {H0 X0 H : Hp} {Y0 : Val} {args0 vargs : List Val} {bks rks obs ors : List Nat} {d : Option Nat} (X : Hp) (Y : Val) (p q : Nat → Nat) (hp : ∀ k, p (p k) = k) (hq : ∀ k, q (q k) = k) (hf : FCM P f H0 args0 (fun H' r' => H' = X0 ∧ r' = Y0)) (hna : ∀ x ∈ args0, ∀ xs, x ≠ .tu xs)
  (hH : H0.rn p q = H) (ha : args0.map (rnV p q) = vargs) (hX : X0.rn p q = X) (hY : rnV p q Y0 = Y) (hk : X.bs.map (·.1) = obs ∧ X.rs.map (·.1) = ors) (h : rg P l kp k Q ((s.after ⟨bks, rks, obs, ors, []⟩ X).put d (s.backV ⟨bks, rks, obs, ors, []⟩ Y))) (hb : H0.bs.all (fun x => bldK x.1 == bldK (p x.1)) = true := by rfl) : CALLM P f H vargs ⟨bks, rks, obs, ors, []⟩ d l kp k Q s := by
 subst hX; subst hY
 exact CALLM_rn p q hp hq hf hna hH ha hk h hb
end
theorem contains_fcm (p : Nat → Bool) (c : Nat) (hc : c < 256) : FCM Tryz.prog 164 ⟨[(1000001, tabC p)], []⟩ [.one (.bx 1000001 0), ki .u8 c] (fun H r => H = ⟨[(1000001, tabC p)], []⟩ ∧ r = bv (p c)) := by
 refine fcm_contains (K := ⟨[], [1000001], []⟩) (by simp +arith) (by simp [XK]) (by simp) ?_
 unfold C_contains
 simp (maxSteps := 1000000) (disch := omega) only [go_sem]
theorem mkset_fc (b : ByteArray) (hb : ∀ i, i < b.size → byteN b i < 128) (hsz : b.size ≤ 9223372036854775807) : FC Tryz.prog 116 none [sv b] (fun _ r => r = .tu [.ag (tabC (inTo b b.size)), bv true]) := by
 refine fc_mkset (by simp +arith) ?_
 unfold C_mkset
 simp (maxSteps := 1000000) (disch := omega) only [go_sem]
 refine ex_loop1 (fun i => ⟨tabV [(0, sv b), (2, .one (.bx 2 0)), (4, iv i)], tabO [(2, tabC (inTo b i.toNat))], tabO []⟩) (fun i => 0 ≤ i ∧ i ≤ b.size) (fun i => (b.size - i).toNat) 0 ⟨by omega, by omega⟩ rfl ?_
 rintro i ⟨h1, h2⟩
 by_cases hi : i < b.size
 ·have hlt := hb i.toNat (by omega)
  have e2 : (i + 1).toNat = i.toNat + 1 := by omega
  have e3 : tabC (inTo b (i + 1).toNat) = tabC (fun c => if c = byteN b i.toNat then true else inTo b i.toNat c) := tab_congr fun c _ => by
   rw [e2, inTo]
   by_cases h : c = byteN b i.toNat <;> simp [h]
  unfold byteN at e3 hlt
  simp (maxSteps := 1000000) (disch := omega) only [go_sem]
  exact ⟨i + 1, by simp only [e3], ⟨by omega, by omega⟩, by omega⟩
 ·simp (maxSteps := 1000000) (disch := omega) only [go_sem]
  rw [show i.toNat = b.size by omega]
/-- How much is left when such bytes at the end are cut off. -/
def trR (p : Nat → Bool) (b : ByteArray) : Nat → Nat
 | 0 => 0
 | n + 1 => if p (byteN b n) = true then trR p b n else n + 1
/-- How much is left when such bytes at the beginning are cut off. -/
def trL (p : Nat → Bool) (b : ByteArray) : Nat → Nat
 | 0 => 0
 | n + 1 => if p (byteN b (b.size - (n + 1))) = true then trL p b n else n + 1
theorem trR_le {p : Nat → Bool} {b : ByteArray} : ∀ n, trR p b n ≤ n
 | 0 => Nat.le_refl _
 | n + 1 => by rw [trR]; split; exact Nat.le_succ_of_le (trR_le n); exact Nat.le_refl _
theorem trL_le {p : Nat → Bool} {b : ByteArray} : ∀ n, trL p b n ≤ n
 | 0 => Nat.le_refl _
 | n + 1 => by rw [trL]; split; exact Nat.le_succ_of_le (trL_le n); exact Nat.le_refl _
theorem trimR_fcm (p : Nat → Bool) (b : ByteArray) (hsz : b.size ≤ 9223372036854775807) : FCM Tryz.prog 118 ⟨[(1000001, tabC p)], []⟩ [sv b, .one (.bx 1000001 0)] (fun H r => H = ⟨[(1000001, tabC p)], []⟩ ∧ r = sv (b.extract 0 (trR p b b.size))) := by
 refine fcm_trimR (K := ⟨[], [1000001], []⟩) (by simp +arith) (by simp [XK]) (by simp) ?_
 unfold C_trimR
 simp (maxSteps := 1000000) (disch := omega) only [go_sem]
 refine ex_loop1 (fun j : Nat => ⟨tabV [(0, sv (b.extract 0 j)), (1, .one (.bx 1000001 0)), (1000001, .any)], tabO [(1000001, tabC p)], tabO []⟩) (fun j => j ≤ b.size ∧ trR p b j = trR p b b.size) (fun j => j) b.size ⟨Nat.le_refl _, rfl⟩ (by simp only [ByteArray.extract_zero_size]) ?_
 rintro j ⟨h2, h3⟩
 have hs := size_ext (b := b) (l := 0) (h := j) (by omega)
 rw [Nat.sub_zero] at hs
 by_cases hj : 0 < j
 ·have hb := byte_ext (b := b) (l := 0) (h := j) (i := j - 1) (by omega) (by omega)
  have hlt := byte_lt b (j - 1)
  have hx := ext_ext (b := b) (l := 0) (h := j) (l' := 0) (h' := j - 1) (by omega) (by omega)
  rw [Nat.zero_add, Nat.zero_add] at hx
  rw [Nat.zero_add] at hb
  rw [← hb] at hlt
  have hc := contains_fcm p (byteN (b.extract 0 j) (j - 1)) hlt
  have e2 : j = (j - 1) + 1 := by omega
  rw [e2, trR, ← hb] at h3
  rw [← e2] at h3
  generalize hX : b.extract 0 j = X at *
  have e4 : ((X.size : Int) - 1).toNat = j - 1 := by omega
  unfold byteN at hlt hc h3
  rw [← e4] at hlt hc h3
  simp (maxSteps := 1000000) (disch := omega) only [go_sem]
  refine ⟨rfl, CALLM_det hc ⟨rfl, rfl⟩ ?_⟩
  cases hp : p (X.data.toList.getD ((X.size : Int) - 1).toNat 0).toNat with
  | true =>
   rw [hp, if_pos rfl] at h3
   rw [e4] at h3
   have e5 : (IntKind.i64.wrap ((X.size : Int) - 1)).toNat = j - 1 := by rw [wrap_i64 _ (by omega) (by omega)]; omega
   simp (maxSteps := 1000000) (disch := omega) only [go_sem]
   refine ⟨j - 1, ?_, ⟨by omega, h3⟩, by omega⟩
   simp only [e4, hx]
  | false =>
   rw [hp, if_neg (by simp)] at h3
   simp (maxSteps := 1000000) (disch := omega) only [go_sem]
   rw [← h3, hX]
 ·have e0 : j = 0 := by omega
  subst e0
  rw [trR] at h3
  rw [← h3]
  simp (maxSteps := 1000000) (disch := omega) only [go_sem]
theorem trimL_fcm (p : Nat → Bool) (b : ByteArray) (hsz : b.size ≤ 9223372036854775807) : FCM Tryz.prog 117 ⟨[(1000001, tabC p)], []⟩ [sv b, .one (.bx 1000001 0)] (fun H r => H = ⟨[(1000001, tabC p)], []⟩ ∧ r = sv (b.extract (b.size - trL p b b.size) b.size)) := by
 refine fcm_trimL (K := ⟨[], [1000001], []⟩) (by simp +arith) (by simp [XK]) (by simp) ?_
 unfold C_trimL
 simp (maxSteps := 1000000) (disch := omega) only [go_sem]
 refine ex_loop1 (fun j : Nat => ⟨tabV [(0, sv (b.extract (b.size - j) b.size)), (1, .one (.bx 1000001 0)), (1000001, .any)], tabO [(1000001, tabC p)], tabO []⟩) (fun j => j ≤ b.size ∧ trL p b j = trL p b b.size) (fun j => j) b.size ⟨Nat.le_refl _, rfl⟩ (by simp only [Nat.sub_self, ByteArray.extract_zero_size]) ?_
 rintro j ⟨h2, h3⟩
 have hs := size_ext (b := b) (l := b.size - j) (h := b.size) (by omega)
 rw [show b.size - (b.size - j) = j by omega] at hs
 by_cases hj : 0 < j
 ·have hb := byte_ext (b := b) (l := b.size - j) (h := b.size) (i := 0) (by omega) (by omega)
  have hlt := byte_lt b (b.size - j)
  have hx := ext_ext (b := b) (l := b.size - j) (h := b.size) (l' := 1) (h' := j) (by omega) (by omega)
  rw [show b.size - j + 1 = b.size - (j - 1) by omega, show b.size - j + j = b.size by omega] at hx
  rw [Nat.add_zero] at hb
  rw [← hb] at hlt
  have hc := contains_fcm p (byteN (b.extract (b.size - j) b.size) 0) hlt
  have e2 : j = (j - 1) + 1 := by omega
  rw [e2, trL, show b.size - (j - 1 + 1) = b.size - j by omega, ← hb] at h3
  rw [← e2] at h3
  generalize hX : b.extract (b.size - j) b.size = X at *
  unfold byteN at hlt hc h3
  simp (maxSteps := 1000000) (disch := omega) only [go_sem]
  refine ⟨rfl, CALLM_det hc ⟨rfl, rfl⟩ ?_⟩
  cases hp : p (X.data.toList.getD 0 0).toNat with
  | true =>
   rw [hp, if_pos rfl] at h3
   simp (maxSteps := 1000000) (disch := omega) only [go_sem]
   refine ⟨j - 1, ?_, ⟨by omega, h3⟩, by omega⟩
   rw [hs, show Int.toNat 1 = 1 from rfl, hx]
  | false =>
   rw [hp, if_neg (by simp)] at h3
   simp (maxSteps := 1000000) (disch := omega) only [go_sem]
   rw [← h3, hX]
 ·have e0 : j = 0 := by omega
  subst e0
  rw [trL] at h3
  rw [← h3]
  simp (maxSteps := 1000000) (disch := omega) only [go_sem]
/-- What is left between such bytes. -/
def trimS (p : Nat → Bool) (b : ByteArray) : ByteArray := (b.extract 0 (trR p b b.size)).extract ((b.extract 0 (trR p b b.size)).size - trL p (b.extract 0 (trR p b b.size)) (b.extract 0 (trR p b b.size)).size) (b.extract 0 (trR p b b.size)).size
theorem trim_fc (b cut : ByteArray) (hc : ∀ i, i < cut.size → byteN cut i < 128) (hsz : b.size ≤ 9223372036854775807) (hcz : cut.size ≤ 9223372036854775807) (h0 : b.size ≠ 0) (h1 : 2 ≤ cut.size) : FC Tryz.prog 76 none [sv b, sv cut] (fun _ r => r = sv (trimS (inTo cut cut.size) b)) := by
 refine fc_trim (by simp +arith) ?_
 unfold C_trim
 have e1 := str_nil b
 have e2 := str_nil cut
 rw [decide_eq_false h0] at e1
 rw [decide_eq_false (show cut.size ≠ 0 by omega)] at e2
 have hm := mkset_fc cut hc hcz
 have hr := trimR_fcm (inTo cut cut.size) b hsz
 have hz : (b.extract 0 (trR (inTo cut cut.size) b b.size)).size = trR (inTo cut cut.size) b b.size := by rw [size_ext (trR_le _), Nat.sub_zero]
 have hl := trimL_fcm (inTo cut cut.size) (b.extract 0 (trR (inTo cut cut.size) b b.size)) (by rw [hz]; have := trR_le (p := inTo cut cut.size) (b := b) b.size; omega)
 unfold trimS
 generalize b.extract 0 (trR (inTo cut cut.size) b b.size) = b1 at *
 generalize inTo cut cut.size = p at *
 simp (maxSteps := 1000000) (disch := omega) only [go_sem]
 simp only [e1, e2]
 simp (maxSteps := 1000000) (disch := omega) only [go_sem]
 refine CALL_det hm (.inl (by have h : (tabC p).all freshC = true := tab_all fun _ => rfl; simp only [freshV, List.all_cons, List.all_nil, h, Bool.true_and, Bool.and_true]; rfl)) ?_
 simp (maxSteps := 1000000) (disch := omega) only [go_sem]
 refine ⟨rfl, CALLM_rnX ⟨[(5, tabC p)], []⟩ (sv b1) (swp 5 1000001) (fun k => k) (swp_swp 5 1000001) (fun _ => rfl) hr (by simp) (by simp [Hp.rn, tab_rn, swp]) rfl (by simp [Hp.rn, tab_rn, swp]) rfl ⟨rfl, rfl⟩ ?_⟩
 simp (maxSteps := 1000000) (disch := omega) only [go_sem]
 refine ⟨rfl, CALLM_rnX ⟨[(5, tabC p)], []⟩ (sv (b1.extract (b1.size - trL p b1 b1.size) b1.size)) (swp 5 1000001) (fun k => k) (swp_swp 5 1000001) (fun _ => rfl) hl (by simp) (by simp [Hp.rn, tab_rn, swp]) rfl (by simp [Hp.rn, tab_rn, swp]) rfl ⟨rfl, rfl⟩ ?_⟩
 simp (maxSteps := 1000000) (disch := omega) only [go_sem]
/-- What a call does that leaves the world as it was and takes plain values: its contract. -/
theorem fc_data {P : Program} {f : FuncId} (us : List Value) {v : Value} (hb : hasBody P f) (hv : v.oneCell' = true) (h : ∀ w, Calls P f us.toArray w fun e w' => e = .returned v ∧ w' = w) : FC P f none (us.map fun u => .one (.g u)) (fun _ r => r = .one (.g v)) := by
 refine ⟨hb, fun w okA g vs _ _ hlen hrel => ?_⟩
 have hus : vs = us := by
  apply List.ext_getElem (by simpa using hlen.symm)
  intro i h1 h2
  have := hrel i (.one (.g us[i])) vs[i] (by simp [h2]) (by simp [h1])
  exact one_g this rfl
 subst hus
 refine Calls.mono (h w) ?_
 rintro e w' ⟨rfl, rfl⟩
 exact ⟨v, [], _, rfl, rfl, .refl _ _, .one ⟨rfl, hv⟩, fun h => by cases h⟩
set_option maxRecDepth 100000 in
theorem stringsliteIndexByte (s : ByteArray) (c : Int) (w : World) :
  Calls Tryz.prog 121 #[.string s, .int .u8 c] w fun e w' => e = .returned (.int .i64 (Lib.indexByte s.data.toList c.toNat.toUInt8)) ∧ w' = w := by
 go_enter Tryz.func121, Tryz.ntmps121
 go_wp2
 rw [run_callFunc_extern Tryz.func168 (by kernel_rfl) (by kernel_rfl) (by kernel_rfl) (e := Extern.BytealgIndexByte.indexByte) (by kernel_rfl), Lib.run_indexByteString]
 simp only [Result.andThen]
 rw [Oper.upon_value]
 go_wp2
 go_ret
 exact ⟨rfl, rfl⟩
theorem stringsIndexByte (s : ByteArray) (c : Int) (w : World) :
  Calls Tryz.prog 77 #[.string s, .int .u8 c] w fun e w' => e = .returned (.int .i64 (Lib.indexByte s.data.toList c.toNat.toUInt8)) ∧ w' = w := by
 go_enter Tryz.func77, Tryz.ntmps77
 go_wp2_with (go_at_call 121; refine (stringsliteIndexByte _ _ _).mono ?_; rintro e w' ⟨rfl, rfl⟩)
 go_ret
 exact ⟨rfl, rfl⟩
theorem indexByte_fc (s : ByteArray) (c : Int) : FC Tryz.prog 77 none [sv s, ki .u8 c] (fun _ r => r = iv (Lib.indexByte s.data.toList c.toNat.toUInt8)) :=
 fc_data [.string s, .int .u8 c] ⟨Tryz.f77, Tryz.func77, by kernel_rfl, by kernel_rfl⟩ rfl fun w => stringsIndexByte s c w
theorem key_fc (b : ByteArray) (hsz : b.size ≤ 9223372036854775807) : FC Tryz.prog 89 none [sv b] (fun _ r => r = bv (keyOk b)) := by
 refine fc_key (by simp +arith) ?_
 unfold C_key
 have e1 := str_nil b
 by_cases c1 : b.size = 0
 ·have ek : keyOk b = false := by unfold keyOk; rw [decide_eq_false (by omega)]; simp
  rw [decide_eq_true c1] at e1
  rw [ek]
  simp (maxSteps := 1000000) (disch := omega) only [go_sem]
  simp only [e1]
  simp (maxSteps := 1000000) (disch := omega) only [go_sem]
 rw [decide_eq_false c1] at e1
 by_cases c2 : b.size > 40
 ·have ek : keyOk b = false := by unfold keyOk; rw [decide_eq_false (by omega)]; simp
  rw [ek]
  simp (maxSteps := 1000000) (disch := omega) only [go_sem]
 by_cases c3 : byteN b 0 < 97 ∨ byteN b 0 > 122
 ·have ek : keyOk b = false := by unfold keyOk; rw [decide_eq_false (show ¬(97 ≤ byteN b 0 ∧ byteN b 0 ≤ 122) by omega)]; simp
  rw [ek]
  have c5 : (b.data.toList.getD (Int.toNat 0) 0).toNat < 97 ∨ (b.data.toList.getD (Int.toNat 0) 0).toNat > 122 := c3
  by_cases c4 : (b.data.toList.getD (Int.toNat 0) 0).toNat < 97
  ·simp (maxSteps := 1000000) (disch := omega) only [go_sem]
  ·simp (maxSteps := 1000000) (disch := omega) only [go_sem]
 have ek : keyOk b = allTo keyB b b.size := by unfold keyOk; rw [decide_eq_true (by omega), decide_eq_true (by omega)]; simp
 rw [ek]
 have c5 : ¬((b.data.toList.getD (Int.toNat 0) 0).toNat < 97 ∨ (b.data.toList.getD (Int.toNat 0) 0).toNat > 122) := c3
 simp (maxSteps := 1000000) (disch := omega) only [go_sem]
 simp only [e1]
 simp (maxSteps := 1000000) (disch := omega) only [go_sem]
 refine ex_loop1 (fun i => ⟨tabV [(0, sv b), (23, iv b.size), (24, iv i)], tabO [], tabO []⟩) (fun i => 0 ≤ i ∧ i ≤ b.size ∧ allTo keyB b i.toNat = true) (fun i => (b.size - i).toNat) 0 ⟨by omega, by omega, rfl⟩ rfl ?_
 rintro i ⟨h1, h2, h3⟩
 by_cases hi : i < b.size
 ·have hk : keyB (byteN b i.toNat) = (decide (97 ≤ byteN b i.toNat ∧ byteN b i.toNat ≤ 122) || decide (48 ≤ byteN b i.toNat ∧ byteN b i.toNat ≤ 57) || decide (byteN b i.toNat = 45) || decide (byteN b i.toNat = 95)) := rfl
  have e2 : (i + 1).toNat = i.toNat + 1 := by omega
  by_cases hb : keyB (byteN b i.toNat) = true
  ·have h4 : allTo keyB b (i + 1).toNat = true := by rw [e2, allTo, h3, hb]; rfl
   have hb2 := hb
   unfold keyB at hb
   simp only [Bool.or_eq_true, decide_eq_true_eq] at hb
   unfold byteN at hb
   simp (maxSteps := 1000000) (disch := omega) only [go_sem]
   (repeat' (first | apply And.intro | intro _)) <;> first | exact ⟨i + 1, rfl, ⟨by omega, by omega, h4⟩, by omega⟩ | (exfalso; omega)
  ·have h4 : allTo keyB b b.size = false := by
    apply Bool.eq_false_iff.2
    intro h
    exact hb (allTo_lt.1 h i.toNat (by omega))
   unfold keyB at hb
   simp only [Bool.or_eq_true, decide_eq_true_eq] at hb
   unfold byteN at hb
   rw [h4]
   simp (maxSteps := 1000000) (disch := omega) only [go_sem]
   (repeat' (first | apply And.intro | intro _)) <;> (exfalso; omega)
 ·rw [show i.toNat = b.size by omega] at h3
  rw [h3]
  simp (maxSteps := 1000000) (disch := omega) only [go_sem]
def cutB : ByteArray := ByteArray.mk #[97, 98, 99, 100, 101, 102, 103, 104, 105, 106, 107, 108, 109, 110, 111, 112, 113, 114, 115, 116, 117, 118, 119, 120, 121, 122, 48, 49, 50, 51, 52, 53, 54, 55, 56, 57, 45, 95]
def smallB : ByteArray := ByteArray.mk #[97, 98, 99, 100, 101, 102, 103, 104, 105, 106, 107, 108, 109, 110, 111, 112, 113, 114, 115, 116, 117, 118, 119, 120, 121, 122]
theorem cut_ok : ∀ i, i < cutB.size → byteN cutB i < 128 := fun i hi => by
 have h : (List.range 38).all (fun i => decide (byteN cutB i < 128)) = true := by kernel_rfl
 have hs : cutB.size = 38 := by kernel_rfl
 exact of_decide_eq_true (List.all_eq_true.1 h i (List.mem_range.2 (by omega)))
theorem cut_is (c : Nat) (hc : c < 256) : inTo cutB cutB.size c = keyB c := by
 have h : (List.range 256).all (fun c => inTo cutB cutB.size c == keyB c) = true := by kernel_rfl
 exact beq_iff_eq.1 (List.all_eq_true.1 h c (List.mem_range.2 hc))
theorem small_is (c : Nat) (hc : c < 256) : decide (Lib.indexByte smallB.data.toList ((c : Int).toNat.toUInt8) ≥ 0) = decide (97 ≤ c ∧ c ≤ 122) := by
 have h : (List.range 256).all (fun c => decide (Lib.indexByte smallB.data.toList (c.toUInt8) ≥ 0) == decide (97 ≤ c ∧ c ≤ 122)) = true := by kernel_rfl
 rw [Int.toNat_natCast]
 exact beq_iff_eq.1 (List.all_eq_true.1 h c (List.mem_range.2 hc))
theorem trR_0 {p : Nat → Bool} {b : ByteArray} : ∀ n, trR p b n = 0 ↔ allTo p b n = true
 | 0 => by simp [trR, allTo]
 | n + 1 => by
  rw [trR, allTo, Bool.and_eq_true, ← trR_0 n]
  split
  ·rename_i h; simp [h]
  ·rename_i h; simp [h]
theorem trR_last {p : Nat → Bool} {b : ByteArray} : ∀ n, trR p b n ≠ 0 → p (byteN b (trR p b n - 1)) = false
 | 0, h => absurd rfl h
 | n + 1, h => by
  rw [trR] at h ⊢
  by_cases c : p (byteN b n) = true
  ·rw [if_pos c] at h ⊢; exact trR_last n h
  ·rw [if_neg c]; simpa using c
theorem trL_0 {p : Nat → Bool} {b : ByteArray} : ∀ n, trL p b n = 0 → ∀ i, i < n → p (byteN b (b.size - (i + 1))) = true
 | 0, _, i, hi => by omega
 | n + 1, h, i, hi => by
  rw [trL] at h
  split at h
  ·rename_i hp
   by_cases e : i = n
   ·subst e; exact hp
   ·exact trL_0 n h i (by omega)
  ·omega
theorem trimS_0 {p : Nat → Bool} {b : ByteArray} : (trimS p b).size = 0 ↔ allTo p b b.size = true := by
 have h1 := trR_le (p := p) (b := b) b.size
 have h2 := size_ext (b := b) (l := 0) (h := trR p b b.size) h1
 rw [Nat.sub_zero] at h2
 rw [← trR_0]
 unfold trimS
 have h4 := byte_ext (b := b) (l := 0) (h := trR p b b.size) (i := trR p b b.size - 1)
 generalize hX : b.extract 0 (trR p b b.size) = X at *
 have h3 := trL_le (p := p) (b := X) X.size
 rw [size_ext (Nat.le_refl _), show X.size - (X.size - trL p X X.size) = trL p X X.size by omega]
 constructor
 ·intro h
  apply Classical.byContradiction
  intro hn
  have h5 := trR_last b.size hn
  have h6 := trL_0 X.size h 0 (by omega)
  rw [h2, show trR p b b.size - (0 + 1) = trR p b b.size - 1 by omega, h4 (by omega) h1, Nat.zero_add, h5] at h6
  cases h6
 ·intro h
  rw [show X.size = 0 by omega]; rfl
theorem allTo_congr {p q : Nat → Bool} {b : ByteArray} (h : ∀ c, c < 256 → p c = q c) : ∀ n, allTo p b n = allTo q b n
 | 0 => rfl
 | n + 1 => by rw [allTo, allTo, allTo_congr h n, h _ (byte_lt b n)]
theorem rkey_fc (b : ByteArray) (hsz : b.size ≤ 9223372036854775807) : FC Tryz.prog 34 none [sv b] (fun _ r => r = bv (keyOk b)) := by
 refine fc_rkey (by simp +arith) ?_
 unfold C_rkey
 simp (maxSteps := 1000000) (disch := omega) only [go_sem]
 refine CALL_det (rin1_fc _ _ _) (.inl rfl) ?_
 by_cases c1 : 1 ≤ (b.size : Int) ∧ (b.size : Int) ≤ 40
 ·rw [decide_eq_true c1]
  have ht := trim_fc b cutB cut_ok hsz (of_decide_eq_true (by kernel_rfl)) (by omega) (of_decide_eq_true (by kernel_rfl))
  have he := str_nil (trimS (inTo cutB cutB.size) b)
  have h0 := trimS_0 (p := inTo cutB cutB.size) (b := b)
  rw [allTo_congr cut_is b.size] at h0
  generalize trimS (inTo cutB cutB.size) b = T at *
  simp (maxSteps := 1000000) (disch := omega) only [go_sem]
  refine CALL_det ht (.inl rfl) ?_
  have hsm := small_is (byteN b 0) (byte_lt b 0)
  have hic := indexByte_fc smallB (((b.data.toList.getD (Int.toNat 0) 0).toNat : Nat) : Int)
  have ek : keyOk b = (decide (T.size = 0) && decide (97 ≤ byteN b 0 ∧ byteN b 0 ≤ 122)) := by
   unfold keyOk
   rw [decide_eq_true (show 1 ≤ b.size ∧ b.size ≤ 40 by omega), Bool.true_and, Bool.and_comm]
   congr 1
   by_cases h : T.size = 0
   ·rw [decide_eq_true h, h0.1 h]
   ·rw [decide_eq_false h]
    exact Bool.eq_false_iff.2 fun h2 => h (h0.2 h2)
  rw [ek, ← hsm]
  clear ek hsm
  by_cases ct : T.size = 0
  ·rw [decide_eq_true ct] at he ⊢
   simp (maxSteps := 1000000) (disch := omega) only [go_sem]
   simp only [he]
   simp (maxSteps := 1000000) (disch := omega) only [go_sem]
   refine CALL_det hic (.inl rfl) ?_
   simp (maxSteps := 1000000) (disch := omega) only [go_sem]
   rfl
  ·rw [decide_eq_false ct] at he ⊢
   simp (maxSteps := 1000000) (disch := omega) only [go_sem]
   simp only [he]
   simp (maxSteps := 1000000) (disch := omega) only [go_sem]
   rfl
 ·rw [decide_eq_false c1]
  have ek : keyOk b = false := by unfold keyOk; rw [decide_eq_false (by omega)]; simp
  rw [ek]
  simp (maxSteps := 1000000) (disch := omega) only [go_sem]
end Go.Proofs.YtdhkejcldipbmaaGreatDoor
