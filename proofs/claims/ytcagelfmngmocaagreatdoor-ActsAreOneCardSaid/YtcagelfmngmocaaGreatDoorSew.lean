
/-
 slices.SortStableFunc over events: merging in place.
 slices.SortStableFunc over events: the stable order.
-/
import Derived.Test.YtcagelfmngmocaaGreatDoorSev
namespace Go.Proofs.YtcagelfmngmocaaGreatDoor
open Go Go.Ai
set_option linter.unusedSimpArgs false
set_option linter.unusedVariables false
set_option maxHeartbeats 4000000
def C_symE : AC := (.seq (.seq (.reg false [gM 25 2,gM 26 1,gI 27 (.bin .sub (.t 25) (.t 26)),gI 28 (.bin .eql (.t 27) (oI 1))] (kP [0,1,2,3,4,28,1000001] [1000001] [1000000]))
 (.cond (.t 28)
 (.seq (.reg false [gM 29 2,gM 10 29] (kP [0,1,3,4,10,1000001] [1000001] [1000000]))
 (.seq (.reg false [gM 30 3,gM 11 30] (kP [0,1,4,10,11,1000001] [1000001] [1000000]))
 (.seq (.block 0 (.loop (.seq (.seq (.reg false [gM 31 10,gM 32 11,gI 33 (.bin .lss (.t 31) (.t 32))] (kP [0,1,4,10,11,33,1000001] [1000001] [1000000]))
 (.cond (.t 33)
 .skip
 (.exit 0)))
 (.block 1 (.seq (.reg false [gM 34 10,gM 35 11,gI 36 (.bin .add (.t 34) (.t 35)),gI 37 (.conv .u64 (.t 36)),gI 38 (.bin .shr (.t 37) (.v (.int .u64 (1)))),gI 39 (.conv .i64 (.t 38)),gM 12 39] (kP [0,1,4,10,11,12,1000001] [1000001] [1000000]))
 (.seq (.reg true [gM 40 4,gM 41 0,gM 42 12,gI 43 (.iadr 5 (.t 41) (.t 42)),gI 44 (.load true 5 (.t 43)),gM 45 0,gM 46 1,gI 47 (.iadr 5 (.t 45) (.t 46)),gI 48 (.load true 5 (.t 47)),gI 49 (.call (.t 40) [(.t 44),(.t 48)]),gI 50 (.bin .lss (.t 49) (oI 0))] (kP [0,1,4,10,11,12,50,1000001] [1000001] [1000000]))
 (.cond (.t 50)
 (.reg false [gM 51 12,gI 52 (.bin .add (.t 51) (oI 1)),gM 10 52] (kP [0,1,4,10,11,1000001] [1000001] [1000000]))
 (.reg false [gM 53 12,gM 11 53] (kP [0,1,4,10,11,1000001] [1000001] [1000000])))))))))
 (.seq (.seq (.reg false [gM 54 1,gM 13 54] (kP [0,10,13] [1000001] [1000000]))
 (.block 2 (.loop (.seq (.seq (.reg false [gM 55 13,gM 56 10,gI 57 (.bin .sub (.t 56) (oI 1)),gI 58 (.bin .lss (.t 55) (.t 57))] (kP [0,10,13,58] [1000001] [1000000]))
 (.cond (.t 58)
 .skip
 (.exit 2)))
 (.seq (.block 3 (.reg true [gM 61 0,gM 62 13,gM 63 0,gM 64 13,gI 65 (.bin .add (.t 64) (oI 1)),gM 66 0,gM 67 13,gI 68 (.bin .add (.t 67) (oI 1)),gI 69 (.iadr 5 (.t 66) (.t 68)),gI 70 (.load true 5 (.t 69)),gM 71 0,gM 72 13,gI 73 (.iadr 5 (.t 71) (.t 72)),gI 74 (.load true 5 (.t 73)),gI 75 (.iadr 5 (.t 61) (.t 62)),gN (.store 5 (.t 75) (.t 70)),gI 76 (.iadr 5 (.t 63) (.t 65)),gN (.store 5 (.t 76) (.t 74))] (kP [0,10,13] [1000001] [1000000])))
 (.reg false [gM 59 13,gI 60 (.bin .add (.t 59) (oI 1)),gM 13 60] (kP [0,10,13] [1000001] [1000000])))))))
 .ret))))
 .skip))
 (.seq (.seq (.reg false [gM 77 3,gM 78 2,gI 79 (.bin .sub (.t 77) (.t 78)),gI 80 (.bin .eql (.t 79) (oI 1))] (kP [0,1,2,3,4,80,1000001] [1000001] [1000000]))
 (.cond (.t 80)
 (.seq (.reg false [gM 81 1,gM 14 81] (kP [0,2,4,14,1000001] [1000001] [1000000]))
 (.seq (.reg false [gM 82 2,gM 15 82] (kP [0,2,4,14,15,1000001] [1000001] [1000000]))
 (.seq (.block 4 (.loop (.seq (.seq (.reg false [gM 83 14,gM 84 15,gI 85 (.bin .lss (.t 83) (.t 84))] (kP [0,2,4,14,15,85,1000001] [1000001] [1000000]))
 (.cond (.t 85)
 .skip
 (.exit 4)))
 (.block 5 (.seq (.reg false [gM 86 14,gM 87 15,gI 88 (.bin .add (.t 86) (.t 87)),gI 89 (.conv .u64 (.t 88)),gI 90 (.bin .shr (.t 89) (.v (.int .u64 (1)))),gI 91 (.conv .i64 (.t 90)),gM 16 91] (kP [0,2,4,14,15,16,1000001] [1000001] [1000000]))
 (.seq (.reg true [gM 92 4,gM 93 0,gM 94 2,gI 95 (.iadr 5 (.t 93) (.t 94)),gI 96 (.load true 5 (.t 95)),gM 97 0,gM 98 16,gI 99 (.iadr 5 (.t 97) (.t 98)),gI 100 (.load true 5 (.t 99)),gI 101 (.call (.t 92) [(.t 96),(.t 100)]),gI 102 (.bin .lss (.t 101) (oI 0)),gI 103 (.un .not (.t 102))] (kP [0,2,4,14,15,16,103,1000001] [1000001] [1000000]))
 (.cond (.t 103)
 (.reg false [gM 104 16,gI 105 (.bin .add (.t 104) (oI 1)),gM 14 105] (kP [0,2,4,14,15,1000001] [1000001] [1000000]))
 (.reg false [gM 106 16,gM 15 106] (kP [0,2,4,14,15,1000001] [1000001] [1000000])))))))))
 (.seq (.seq (.reg false [gM 107 2,gM 17 107] (kP [0,14,17] [1000001] [1000000]))
 (.block 6 (.loop (.seq (.seq (.reg false [gM 108 17,gM 109 14,gI 110 (.bin .gtr (.t 108) (.t 109))] (kP [0,14,17,110] [1000001] [1000000]))
 (.cond (.t 110)
 .skip
 (.exit 6)))
 (.seq (.block 7 (.reg true [gM 113 0,gM 114 17,gM 115 0,gM 116 17,gI 117 (.bin .sub (.t 116) (oI 1)),gM 118 0,gM 119 17,gI 120 (.bin .sub (.t 119) (oI 1)),gI 121 (.iadr 5 (.t 118) (.t 120)),gI 122 (.load true 5 (.t 121)),gM 123 0,gM 124 17,gI 125 (.iadr 5 (.t 123) (.t 124)),gI 126 (.load true 5 (.t 125)),gI 127 (.iadr 5 (.t 113) (.t 114)),gN (.store 5 (.t 127) (.t 122)),gI 128 (.iadr 5 (.t 115) (.t 117)),gN (.store 5 (.t 128) (.t 126))] (kP [0,14,17] [1000001] [1000000])))
 (.reg false [gM 111 17,gI 112 (.bin .sub (.t 111) (oI 1)),gM 17 112] (kP [0,14,17] [1000001] [1000000])))))))
 .ret))))
 .skip))
 (.seq (.reg false [gM 129 1,gM 130 3,gI 131 (.bin .add (.t 129) (.t 130)),gI 132 (.conv .u64 (.t 131)),gI 133 (.bin .shr (.t 132) (.v (.int .u64 (1)))),gI 134 (.conv .i64 (.t 133)),gM 18 134] (kP [0,1,2,3,4,18,1000001] [1000001] [1000000]))
 (.seq (.reg false [gM 135 18,gM 136 2,gI 137 (.bin .add (.t 135) (.t 136)),gM 19 137] (kP [0,1,2,3,4,18,19,1000001] [1000001] [1000000]))
 (.seq (.reg false [gI 20 (.mv (oI 0)),gI 21 (.mv (oI 0))] (kP [0,1,2,3,4,18,19,1000001] [1000001] [1000000]))
 (.seq (.seq (.reg false [gM 138 2,gM 139 18,gI 140 (.bin .gtr (.t 138) (.t 139))] (kP [0,1,2,3,4,18,19,140,1000001] [1000001] [1000000]))
 (.cond (.t 140)
 (.seq (.reg false [gM 141 19,gM 142 3,gI 143 (.bin .sub (.t 141) (.t 142)),gM 20 143] (kP [0,1,2,3,4,18,19,20,1000001] [1000001] [1000000]))
 (.reg false [gM 144 18,gM 21 144] (kP [0,1,2,3,4,18,19,20,21,1000001] [1000001] [1000000])))
 (.seq (.reg false [gM 145 1,gM 20 145] (kP [0,1,2,3,4,18,19,20,1000001] [1000001] [1000000]))
 (.reg false [gM 146 2,gM 21 146] (kP [0,1,2,3,4,18,19,20,21,1000001] [1000001] [1000000])))))
 (.seq (.reg false [gM 147 19,gI 148 (.bin .sub (.t 147) (oI 1)),gM 22 148] (kP [0,1,2,3,4,18,19,20,21,22,1000001] [1000001] [1000000]))
 (.seq (.block 8 (.loop (.seq (.seq (.reg false [gM 149 20,gM 150 21,gI 151 (.bin .lss (.t 149) (.t 150))] (kP [0,1,2,3,4,18,19,20,21,22,151,1000001] [1000001] [1000000]))
 (.cond (.t 151)
 .skip
 (.exit 8)))
 (.block 9 (.seq (.reg false [gM 152 20,gM 153 21,gI 154 (.bin .add (.t 152) (.t 153)),gI 155 (.conv .u64 (.t 154)),gI 156 (.bin .shr (.t 155) (.v (.int .u64 (1)))),gI 157 (.conv .i64 (.t 156)),gM 23 157] (kP [0,1,2,3,4,18,19,20,21,22,23,1000001] [1000001] [1000000]))
 (.seq (.reg true [gM 158 4,gM 159 0,gM 160 22,gM 161 23,gI 162 (.bin .sub (.t 160) (.t 161)),gI 163 (.iadr 5 (.t 159) (.t 162)),gI 164 (.load true 5 (.t 163)),gM 165 0,gM 166 23,gI 167 (.iadr 5 (.t 165) (.t 166)),gI 168 (.load true 5 (.t 167)),gI 169 (.call (.t 158) [(.t 164),(.t 168)]),gI 170 (.bin .lss (.t 169) (oI 0)),gI 171 (.un .not (.t 170))] (kP [0,1,2,3,4,18,19,20,21,22,23,171,1000001] [1000001] [1000000]))
 (.cond (.t 171)
 (.reg false [gM 172 23,gI 173 (.bin .add (.t 172) (oI 1)),gM 20 173] (kP [0,1,2,3,4,18,19,20,21,22,1000001] [1000001] [1000000]))
 (.reg false [gM 174 23,gM 21 174] (kP [0,1,2,3,4,18,19,20,21,22,1000001] [1000001] [1000000])))))))))
 (.seq (.reg false [gM 175 19,gM 176 20,gI 177 (.bin .sub (.t 175) (.t 176)),gM 24 177] (kP [0,1,2,3,4,18,20,24,1000001] [1000001] [1000000]))
 (.seq (.seq (.reg false [gM 178 20,gM 179 2,gI 180 (.bin .lss (.t 178) (.t 179)),gM 181 180,gG 182 181 true (.mv (.t 2)),gG 183 181 true (.mv (.t 24)),gG 184 181 true (.bin .lss (.t 182) (.t 183)),gI 185 (.pick (.t 181) (.t 184) (.v (.bool false)))] (kP [0,1,2,3,4,18,20,24,185,1000001] [1000001] [1000000]))
 (.cond (.t 185)
 (.reg false [gM 186 0,gM 187 20,gM 188 2,gM 189 24,gM 190 4,gI 191 (.callm (.f 210) [(.t 186),(.t 187),(.t 188),(.t 189),(.t 190)] ⟨[],[1000000],[],[1000000],[1000000]⟩)] (kP [0,1,3,4,18,20,24,1000001] [1000001] [1000000]))
 .skip))
 (.seq (.seq (.reg false [gM 192 1,gM 193 20,gI 194 (.bin .lss (.t 192) (.t 193)),gM 195 194,gG 196 195 true (.mv (.t 20)),gG 197 195 true (.mv (.t 18)),gG 198 195 true (.bin .lss (.t 196) (.t 197)),gI 199 (.pick (.t 195) (.t 198) (.v (.bool false)))] (kP [0,1,3,4,18,20,24,199,1000001] [1000001] [1000000]))
 (.cond (.t 199)
 (.reg false [gM 200 0,gM 201 1,gM 202 20,gM 203 18,gM 204 4,gI 205 (.callm (.f 189) [(.t 200),(.t 201),(.t 202),(.t 203),(.t 204)] ⟨[1000001],[1000000],[1000001],[1000000],[1000000]⟩)] (kP [0,3,4,18,24,1000001] [1000001] [1000000]))
 .skip))
 (.seq (.reg false [gM 206 18,gM 207 24,gI 208 (.bin .lss (.t 206) (.t 207)),gM 209 208,gG 210 209 true (.mv (.t 24)),gG 211 209 true (.mv (.t 3)),gG 212 209 true (.bin .lss (.t 210) (.t 211)),gI 213 (.pick (.t 209) (.t 212) (.v (.bool false)))] (kP [0,3,4,18,24,213,1000001] [1000001] [1000000]))
 (.cond (.t 213)
 (.reg false [gM 214 0,gM 215 18,gM 216 24,gM 217 3,gM 218 4,gI 219 (.callm (.f 189) [(.t 214),(.t 215),(.t 216),(.t 217),(.t 218)] ⟨[1000001],[1000000],[1000001],[1000000],[1000000]⟩)] (kP [] [1000001] [1000000]))
 .skip)))))))))))))
theorem fcms_symE : FsT Tryz.prog 189 Tryz.f189 C_symE [] := fcms_mk [aN [0,1,2,3,4,28,1000001] [1000001] [1000000],aN [0,1,3,4,10,1000001] [1000001] [1000000],aN [0,1,4,10,11,1000001] [1000001] [1000000],aN [0,1,4,10,11,33,1000001] [1000001] [1000000],aN [0,1,4,10,11,12,1000001] [1000001] [1000000],aN [0,1,4,10,11,12,50,1000001] [1000001] [1000000],aN [0,1,4,10,11,1000001] [1000001] [1000000],aN [0,1,4,10,11,1000001] [1000001] [1000000],aN [0,10,13] [1000001] [1000000],aN [0,10,13,58] [1000001] [1000000],aN [0,10,13] [1000001] [1000000],aN [0,10,13] [1000001] [1000000],aN [0,1,2,3,4,80,1000001] [1000001] [1000000],aN [0,2,4,14,1000001] [1000001] [1000000],aN [0,2,4,14,15,1000001] [1000001] [1000000],aN [0,2,4,14,15,85,1000001] [1000001] [1000000],aN [0,2,4,14,15,16,1000001] [1000001] [1000000],aN [0,2,4,14,15,16,103,1000001] [1000001] [1000000],aN [0,2,4,14,15,1000001] [1000001] [1000000],aN [0,2,4,14,15,1000001] [1000001] [1000000],aN [0,14,17] [1000001] [1000000],aN [0,14,17,110] [1000001] [1000000],aN [0,14,17] [1000001] [1000000],aN [0,14,17] [1000001] [1000000],aN [0,1,2,3,4,18,1000001] [1000001] [1000000],aN [0,1,2,3,4,18,19,1000001] [1000001] [1000000],aN [0,1,2,3,4,18,19,1000001] [1000001] [1000000],aN [0,1,2,3,4,18,19,140,1000001] [1000001] [1000000],aN [0,1,2,3,4,18,19,20,1000001] [1000001] [1000000],aN [0,1,2,3,4,18,19,20,21,1000001] [1000001] [1000000],aN [0,1,2,3,4,18,19,20,1000001] [1000001] [1000000],aN [0,1,2,3,4,18,19,20,21,1000001] [1000001] [1000000],aN [0,1,2,3,4,18,19,20,21,22,1000001] [1000001] [1000000],aN [0,1,2,3,4,18,19,20,21,22,151,1000001] [1000001] [1000000],aN [0,1,2,3,4,18,19,20,21,22,23,1000001] [1000001] [1000000],aN [0,1,2,3,4,18,19,20,21,22,23,171,1000001] [1000001] [1000000],aN [0,1,2,3,4,18,19,20,21,22,1000001] [1000001] [1000000],aN [0,1,2,3,4,18,19,20,21,22,1000001] [1000001] [1000000],aN [0,1,2,3,4,18,20,24,1000001] [1000001] [1000000],aN [0,1,2,3,4,18,20,24,185,1000001] [1000001] [1000000],⟨(kP [0,1,3,4,18,20,24,1000001] [1000001] [1000000]),[],[],[],[(191,⟨[],[1000000],[],[1000000],[1000000]⟩)]⟩,aN [0,1,3,4,18,20,24,199,1000001] [1000001] [1000000],⟨(kP [0,3,4,18,24,1000001] [1000001] [1000000]),[],[],[],[(205,⟨[1000001],[1000000],[1000001],[1000000],[1000000]⟩)]⟩,aN [0,3,4,18,24,213,1000001] [1000001] [1000000],⟨(kP [] [1000001] [1000000]),[],[],[],[(219,⟨[1000001],[1000000],[1000001],[1000000],[1000000]⟩)]⟩] Tryz.func189 (by kernel_rfl)
section
variable {α : Type} [Inhabited α]
theorem ord_low {p : α → Prop} {c : α → α → Int} (hS : Swo p c) {V : List α} (pv : ∀ x ∈ V, p x) (ov : Ord c V) {x : α} (px : p x) {h : Nat} (hh : h < V.length) (hc : c (V.getD h default) x < 0) : ∀ k, k ≤ h → c (V.getD k default) x < 0 := fun k hk => by
 by_cases e : k = h
 ·rw [e]; exact hc
 ·have h1 := ord_at ov (show k < h by omega) hh
  by_cases h2 : c (V.getD k default) x < 0
  ·exact h2
  ·exact absurd hc (hS.ntr _ _ _ (pv _ (mem_at hh)) (pv _ (mem_at (by omega))) px h1 h2)
theorem ord_high {p : α → Prop} {c : α → α → Int} (hS : Swo p c) {V : List α} (pv : ∀ x ∈ V, p x) (ov : Ord c V) {x : α} (px : p x) {h : Nat} (hh : h < V.length) (hc : ¬c (V.getD h default) x < 0) : ∀ k, h ≤ k → k < V.length → ¬c (V.getD k default) x < 0 := fun k hk hk2 => by
 by_cases e : k = h
 ·rw [e]; exact hc
 ·exact hS.ntr _ _ _ (pv _ (mem_at hk2)) (pv _ (mem_at hh)) px (ord_at ov (show h < k by omega) hk2) hc
theorem ord_low' {p : α → Prop} {c : α → α → Int} (hS : Swo p c) {V : List α} (pv : ∀ x ∈ V, p x) (ov : Ord c V) {x : α} (px : p x) {h : Nat} (hh : h < V.length) (hc : ¬c x (V.getD h default) < 0) : ∀ k, k ≤ h → ¬c x (V.getD k default) < 0 := fun k hk => by
 by_cases e : k = h
 ·rw [e]; exact hc
 ·exact hS.ntr _ _ _ px (pv _ (mem_at hh)) (pv _ (mem_at (by omega))) hc (ord_at ov (show k < h by omega) hh)
theorem ord_high' {p : α → Prop} {c : α → α → Int} (hS : Swo p c) {V : List α} (pv : ∀ x ∈ V, p x) (ov : Ord c V) {x : α} (px : p x) {h : Nat} (hh : h < V.length) (hc : c x (V.getD h default) < 0) : ∀ k, h ≤ k → k < V.length → c x (V.getD k default) < 0 := fun k hk hk2 => by
 by_cases e : k = h
 ·rw [e]; exact hc
 ·have h1 := ord_at ov (show h < k by omega) hk2
  by_cases h2 : c x (V.getD k default) < 0
  ·exact h2
  ·exact absurd hc (hS.ntr _ _ _ px (pv _ (mem_at hk2)) (pv _ (mem_at hh)) h2 h1)
theorem getD_left {P U Z : List α} {i : Nat} {k : Nat} (hk : k = P.length + i) (hi : i < U.length) : (P ++ (U ++ Z)).getD k default = U.getD i default := by
 subst hk
 rw [List.getD_eq_getElem?_getD, List.getElem?_append_right (by omega), List.getElem?_append_left (by omega), List.getD_eq_getElem?_getD, show P.length + i - P.length = i by omega]
theorem getD_right {P U V Y : List α} {i : Nat} {k : Nat} (hk : k = P.length + U.length + i) (hi : i < V.length) : (P ++ (U ++ (V ++ Y))).getD k default = V.getD i default := by
 rw [← List.append_assoc]
 exact getD_left (P := P ++ U) (by simp; omega) hi
/-- One step up of the first element. -/
theorem up_step {P V Y : List α} {x : α} {q k : Nat} (hq : q < V.length) (hk : k = P.length + q) : swx (P ++ (V.take q ++ x :: (V.drop q ++ Y))) k (k + 1) = P ++ (V.take (q + 1) ++ x :: (V.drop (q + 1) ++ Y)) := by
 have e : P ++ (V.take q ++ x :: (V.drop q ++ Y)) = (P ++ V.take q) ++ x :: ([] ++ V.getD q default :: (V.drop (q + 1) ++ Y)) := by
  rw [drop_here hq]; simp
 rw [e, swx_split (by simp; omega) (by simp; omega), take_snoc hq]; simp
theorem mrg_all_first {c : α → α → Int} {V : List α} {x : α} {t : Nat} (ht : t ≤ V.length) (h1 : ∀ k, k < t → c (V.getD k default) x < 0) (h2 : ∀ k, t ≤ k → k < V.length → ¬c (V.getD k default) x < 0) : mrg c [x] V = V.take t ++ x :: V.drop t := by
 conv => lhs; rw [← List.take_append_drop t V]
 refine mrg_first (fun y hy => ?_) (fun y hy => ?_)
 ·obtain ⟨k, hk, rfl⟩ := at_mem hy
  rw [List.length_take] at hk
  rw [getD_take' (by omega)]; exact h1 k (by omega)
 ·obtain ⟨k, hk, rfl⟩ := at_mem hy
  rw [List.length_drop] at hk
  rw [getD_drop']; exact h2 _ (by omega) (by omega)
theorem mrg_all_last {c : α → α → Int} {U : List α} {y : α} {t : Nat} (ht : t ≤ U.length) (h1 : ∀ k, k < t → ¬c y (U.getD k default) < 0) (h2 : ∀ k, t ≤ k → k < U.length → c y (U.getD k default) < 0) : mrg c U [y] = U.take t ++ y :: U.drop t := by
 conv => lhs; rw [← List.take_append_drop t U]
 refine mrg_last (fun x hx => ?_) (fun x hx => ?_)
 ·obtain ⟨k, hk, rfl⟩ := at_mem hx
  rw [List.length_take] at hk
  rw [getD_take' (by omega)]; exact h1 k (by omega)
 ·obtain ⟨k, hk, rfl⟩ := at_mem hx
  rw [List.length_drop] at hk
  rw [getD_drop']; exact h2 _ (by omega) (by omega)
end
def sy1St (cl : FuncId) (z : Nat) (es : List (List Cel)) (a i j : Int) (cur : List Ev) : AS := ⟨tabV [(0, .one (.ow 1000000 0)), (1, iv a), (4, .one (.fn cl [.bx 1000001 0])), (10, iv i), (11, iv j), (1000001, .any)], tabO [(1000001, [.sl false z es])], tabO [(1000000, evRow cur)]⟩
def sy2St (z : Nat) (es : List (List Cel)) (i k : Int) (cur : List Ev) : AS := ⟨tabV [(0, .one (.ow 1000000 0)), (10, iv i), (13, iv k)], tabO [(1000001, [.sl false z es])], tabO [(1000000, evRow cur)]⟩
def sy3St (cl : FuncId) (z : Nat) (es : List (List Cel)) (m i j : Int) (cur : List Ev) : AS := ⟨tabV [(0, .one (.ow 1000000 0)), (2, iv m), (4, .one (.fn cl [.bx 1000001 0])), (14, iv i), (15, iv j), (1000001, .any)], tabO [(1000001, [.sl false z es])], tabO [(1000000, evRow cur)]⟩
def sy4St (z : Nat) (es : List (List Cel)) (i k : Int) (cur : List Ev) : AS := ⟨tabV [(0, .one (.ow 1000000 0)), (14, iv i), (17, iv k)], tabO [(1000001, [.sl false z es])], tabO [(1000000, evRow cur)]⟩
def sy5St (cl : FuncId) (z : Nat) (es : List (List Cel)) (a m b mid n p : Int) (cur : List Ev) (s r : Int) : AS := ⟨tabV [(0, .one (.ow 1000000 0)), (1, iv a), (2, iv m), (3, iv b), (4, .one (.fn cl [.bx 1000001 0])), (18, iv mid), (19, iv n), (20, iv s), (21, iv r), (22, iv p), (1000001, .any)], tabO [(1000001, [.sl false z es])], tabO [(1000000, evRow cur)]⟩
theorem half_eq {x : Int} (h0 : 0 ≤ x) (h1 : x ≤ 9223372036854775807) : IntKind.i64.wrap (x.fdiv (2 ^ min (Int.toNat 1) 64)) = x / 2 := by
 have : x.fdiv (2 ^ min (Int.toNat 1) 64) = x / 2 := Int.fdiv_eq_ediv_of_nonneg _ (by decide)
 rw [this, wrap_i64 _ (by omega) (by omega)]
set_option maxHeartbeats 4000000 in
theorem symE_fcm (cl : FuncId) {c : Ev → Ev → Int} {p : Ev → Prop} (hS : Swo p c) (z : Nat) (es : List (List Cel)) (hcl : ∀ x y, p x → p y → FC Tryz.prog cl none [.ag (evS x), .ag (evS y), .one (.ep [.sl false z es])] (fun _ r => r = iv (c x y))) (n : Nat) :
  ∀ (P U V Y cur0 : List Ev) (a m b : Int), U.length + V.length = n → cur0 = P ++ (U ++ (V ++ Y)) → 0 < U.length → 0 < V.length → (∀ x ∈ U, p x) → (∀ x ∈ V, p x) → Ord c U → Ord c V → cur0.length ≤ 1000000 → a = P.length → m = P.length + U.length → b = P.length + U.length + V.length →
  FCMS Tryz.prog 189 [1000000] ⟨[(1000001, [.sl false z es])], [(1000000, evRow cur0)]⟩ [.one (.ow 1000000 0), iv a, iv m, iv b, .one (.fn cl [.bx 1000001 0])] (fun H r => H = ⟨[(1000001, [.sl false z es])], [(1000000, evRow (P ++ (mrg c U V ++ Y)))]⟩ ∧ r = .tu []) := by
 induction n using Nat.strongRecOn with
 | _ n ih =>
 intro P U V Y cur0 a m b hn hc hU hV pU pV oU oV hlen ha hm hb
 refine fcms_symE (K := ⟨[], [1000001], [1000000]⟩) (by simp +arith) (by simp [XK]) (by simp [XK]) ?_
 have hl0 : P.length + U.length + V.length + Y.length = cur0.length := by rw [hc]; simp; omega
 have hgl : ∀ i : Int, a ≤ i → i < m → cur0.getD i.toNat default = U.getD (i - a).toNat default := fun i h1 h2 => by rw [hc]; exact getD_left (by omega) (by omega)
 have hgr : ∀ i : Int, m ≤ i → i < b → cur0.getD i.toNat default = V.getD (i - m).toNat default := fun i h1 h2 => by rw [hc]; exact getD_right (by omega) (by omega)
 have ppl : ∀ i : Int, a ≤ i → i < m → p (cur0.getD i.toNat default) := fun i h1 h2 => by rw [hgl i h1 h2]; exact pU _ (mem_at (by omega))
 have ppr : ∀ i : Int, m ≤ i → i < b → p (cur0.getD i.toNat default) := fun i h1 h2 => by rw [hgr i h1 h2]; exact pV _ (mem_at (by omega))
 unfold C_symE
 by_cases u1 : U.length = 1
 ·obtain ⟨x, hx⟩ : ∃ x, U = [x] := List.length_eq_one_iff.1 u1
  have ex0 : cur0.getD a.toNat default = x := by rw [hgl a (by omega) (by omega), hx, show (a - a).toNat = 0 by omega]; rfl
  simp (maxSteps := 1000000) (disch := omega) only [go_sem]
  refine ex_loop2 (fun i j => sy1St cl z es a i j cur0) (fun i j => m ≤ i ∧ i ≤ j ∧ j ≤ b ∧ (∀ k : Nat, k < (i - m).toNat → c (V.getD k default) x < 0) ∧ (∀ k : Nat, (j - m).toNat ≤ k → k < V.length → ¬c (V.getD k default) x < 0)) (fun i j => (j - i).toNat) m b ⟨by omega, by omega, by omega, fun k hk => by omega, fun k h1 h2 => by omega⟩ rfl ?_
  rintro i j ⟨g1, g2, g3, g4, g5⟩
  unfold sy1St
  by_cases hij : i < j
  ·have eh : IntKind.i64.wrap ((i + j).fdiv (2 ^ min (Int.toNat 1) 64)) = (i + j) / 2 := half_eq (by omega) (by omega)
   have hcc := hcl _ _ (ppr ((i + j) / 2) (by omega) (by omega)) (ppl a (by omega) (by omega))
   rw [evS_eq, evS_eq] at hcc
   simp (maxSteps := 1000000) (disch := omega) only [go_sem]
   simp only [eh]
   refine CALL_det hcc (.inl rfl) ?_
   have ev := hgr ((i + j) / 2) (by omega) (by omega)
   rw [ex0]
   by_cases hlt : c (cur0.getD ((i + j) / 2).toNat default) x < 0
   ·simp (maxSteps := 1000000) (disch := omega) only [go_sem]
    rw [ev] at hlt
    exact ⟨(i + j) / 2 + 1, j, rfl, ⟨by omega, by omega, by omega, fun k hk => ord_low hS pV oV (pU x (by rw [hx]; simp)) (by omega) hlt k (by omega), g5⟩, by omega⟩
   ·simp (maxSteps := 1000000) (disch := omega) only [go_sem]
    rw [ev] at hlt
    exact ⟨i, (i + j) / 2, rfl, ⟨by omega, by omega, by omega, g4, fun k hk hk2 => ord_high hS pV oV (pU x (by rw [hx]; simp)) (by omega) hlt k (by omega) hk2⟩, by omega⟩
  ·have eij : j = i := by omega
   subst eij
   have hmr := mrg_all_first (c := c) (V := V) (x := x) (t := (j - m).toNat) (by omega) g4 g5
   simp (maxSteps := 1000000) (disch := omega) only [go_sem]
   refine ex_loop1 (fun k => sy2St z es j k (P ++ (V.take (k - a).toNat ++ x :: (V.drop (k - a).toNat ++ Y)))) (fun k => a ≤ k ∧ k ≤ j - 1) (fun k => (j - k).toNat) a ⟨by omega, by omega⟩ (by rw [show (a - a).toNat = 0 by omega, hc, hx]; rfl) ?_
   rintro k ⟨k1, k2⟩
   have hl2 : (P ++ (V.take (k - a).toNat ++ x :: (V.drop (k - a).toNat ++ Y))).length = cur0.length := by simp; omega
   have hus := up_step (P := P) (V := V) (Y := Y) (x := x) (q := (k - a).toNat) (k := k.toNat)
   rw [show (k - a).toNat + 1 = (k + 1 - a).toNat by omega, show k.toNat + 1 = (k + 1).toNat by omega] at hus
   unfold sy2St
   by_cases hk : k < j - 1
   ·have hus := hus (by omega) (by omega)
    generalize P ++ (V.take (k - a).toNat ++ x :: (V.drop (k - a).toNat ++ Y)) = cur at *
    have el : ((cur.map evS).set k.toNat (evS (cur.getD (k + 1).toNat default))).length = cur.length := by simp
    have eo := setE_other (cur.map evS) (evS (cur.getD (k + 1).toNat default)) (show (k + 1).toNat ≠ k.toNat by omega)
    rw [getE_map_in evS cur (k + 1).toNat (by omega)] at eo
    simp only [evS_eq] at el eo
    simp (maxSteps := 1000000) (disch := omega) only [go_sem]
    rw [eo]
    simp (maxSteps := 1000000) (disch := omega) only [go_sem]
    refine ⟨k + 1, ?_, ⟨by omega, by omega⟩, by omega⟩
    rw [← hus]
    simp only [swx, evRow, List.map_set, evS_eq]
   ·have ek : (k - a).toNat = (j - m).toNat := by omega
    simp (maxSteps := 1000000) (disch := omega) only [go_sem]
    rw [hx, hmr, ek]
    simp
 by_cases v1 : V.length = 1
 ·obtain ⟨y, hy⟩ : ∃ y, V = [y] := List.length_eq_one_iff.1 v1
  have ex0 : cur0.getD m.toNat default = y := by rw [hgr m (by omega) (by omega), hy, show (m - m).toNat = 0 by omega]; rfl
  simp (maxSteps := 1000000) (disch := omega) only [go_sem]
  refine ex_loop2 (fun i j => sy3St cl z es m i j cur0) (fun i j => a ≤ i ∧ i ≤ j ∧ j ≤ m ∧ (∀ k : Nat, k < (i - a).toNat → ¬c y (U.getD k default) < 0) ∧ (∀ k : Nat, (j - a).toNat ≤ k → k < U.length → c y (U.getD k default) < 0)) (fun i j => (j - i).toNat) a m ⟨by omega, by omega, by omega, fun k hk => by omega, fun k h1 h2 => by omega⟩ rfl ?_
  rintro i j ⟨g1, g2, g3, g4, g5⟩
  unfold sy3St
  by_cases hij : i < j
  ·have eh : IntKind.i64.wrap ((i + j).fdiv (2 ^ min (Int.toNat 1) 64)) = (i + j) / 2 := half_eq (by omega) (by omega)
   have hcc := hcl _ _ (ppr m (by omega) (by omega)) (ppl ((i + j) / 2) (by omega) (by omega))
   rw [evS_eq, evS_eq] at hcc
   simp (maxSteps := 1000000) (disch := omega) only [go_sem]
   simp only [eh]
   refine CALL_det hcc (.inl rfl) ?_
   have ev := hgl ((i + j) / 2) (by omega) (by omega)
   rw [ex0]
   by_cases hlt : c y (cur0.getD ((i + j) / 2).toNat default) < 0
   ·simp (maxSteps := 1000000) (disch := omega) only [go_sem]
    rw [ev] at hlt
    exact ⟨i, (i + j) / 2, rfl, ⟨by omega, by omega, by omega, g4, fun k hk hk2 => ord_high' hS pU oU (pV y (by rw [hy]; simp)) (by omega) hlt k (by omega) hk2⟩, by omega⟩
   ·simp (maxSteps := 1000000) (disch := omega) only [go_sem]
    rw [ev] at hlt
    exact ⟨(i + j) / 2 + 1, j, rfl, ⟨by omega, by omega, by omega, fun k hk => ord_low' hS pU oU (pV y (by rw [hy]; simp)) (by omega) hlt k (by omega), g5⟩, by omega⟩
  ·have eij : j = i := by omega
   subst eij
   have hmr := mrg_all_last (c := c) (U := U) (y := y) (t := (j - a).toNat) (by omega) g4 g5
   simp (maxSteps := 1000000) (disch := omega) only [go_sem]
   refine ex_loop1 (fun k => sy4St z es j k (P ++ (U.take (k - a).toNat ++ y :: (U.drop (k - a).toNat ++ Y)))) (fun k => j ≤ k ∧ k ≤ m) (fun k => (k - j).toNat) m ⟨by omega, by omega⟩ (by rw [List.take_of_length_le (by omega), List.drop_eq_nil_of_le (by omega), hc, hy]; rfl) ?_
   rintro k ⟨k1, k2⟩
   have hl2 : (P ++ (U.take (k - a).toNat ++ y :: (U.drop (k - a).toNat ++ Y))).length = cur0.length := by simp; omega
   unfold sy4St
   by_cases hk : j < k
   ·have hus := up_step (P := P) (V := U) (Y := Y) (x := y) (q := (k - 1 - a).toNat) (k := (k - 1).toNat) (by omega) (by omega)
    rw [show (k - 1 - a).toNat + 1 = (k - a).toNat by omega, show (k - 1).toNat + 1 = k.toNat by omega] at hus
    have hus2 : swx (P ++ (U.take (k - a).toNat ++ y :: (U.drop (k - a).toNat ++ Y))) k.toNat (k - 1).toNat = P ++ (U.take (k - 1 - a).toNat ++ y :: (U.drop (k - 1 - a).toNat ++ Y)) := by
     rw [← hus, swx_comm _ _ _ (by omega), swx_swp _ _ _ (by omega) (by simp; omega) (by simp; omega)]
    clear hus
    generalize P ++ (U.take (k - a).toNat ++ y :: (U.drop (k - a).toNat ++ Y)) = cur at *
    have el : ((cur.map evS).set k.toNat (evS (cur.getD (k - 1).toNat default))).length = cur.length := by simp
    have eo := setE_other (cur.map evS) (evS (cur.getD (k - 1).toNat default)) (show (k - 1).toNat ≠ k.toNat by omega)
    rw [getE_map_in evS cur (k - 1).toNat (by omega)] at eo
    simp only [evS_eq] at el eo
    simp (maxSteps := 1000000) (disch := omega) only [go_sem]
    rw [eo]
    simp (maxSteps := 1000000) (disch := omega) only [go_sem]
    refine ⟨k - 1, ?_, ⟨by omega, by omega⟩, by omega⟩
    rw [← hus2]
    simp only [swx, evRow, List.map_set, evS_eq]
   ·have ek : k = j := by omega
    subst ek
    simp (maxSteps := 1000000) (disch := omega) only [go_sem]
    rw [hy, hmr]
    simp
 have eh : IntKind.i64.wrap ((a + b).fdiv (2 ^ min (Int.toNat 1) 64)) = (a + b) / 2 := half_eq (by omega) (by omega)
 have md1 : 2 * ((a + b) / 2) ≤ a + b := by omega
 have md2 : a + b ≤ 2 * ((a + b) / 2) + 1 := by omega
 generalize hmid : (a + b) / 2 = mid at *
 obtain ⟨lo, hi, hcase⟩ : ∃ lo hi : Int, (mid < m ∧ lo = mid + m - b ∧ hi = mid) ∨ (m ≤ mid ∧ lo = a ∧ hi = m) := by
  by_cases h : mid < m
  ·exact ⟨_, _, .inl ⟨h, rfl, rfl⟩⟩
  ·exact ⟨_, _, .inr ⟨by omega, rfl, rfl⟩⟩
 by_cases hmm : mid < m
 all_goals
  simp (maxSteps := 1000000) (disch := omega) only [go_sem]
  simp only [eh]
  refine ex_loop2 (fun s r => sy5St cl z es a m b mid (mid + m) (mid + m - 1) cur0 s r) (fun s r => lo ≤ s ∧ s ≤ r ∧ r ≤ hi ∧ (s = lo ∨ ¬c (cur0.getD (mid + m - s).toNat default) (cur0.getD (s - 1).toNat default) < 0) ∧ (r = hi ∨ c (cur0.getD (mid + m - 1 - r).toNat default) (cur0.getD r.toNat default) < 0)) (fun s r => (r - s).toNat) _ _ ⟨by omega, by omega, by omega, .inl (by omega), .inl (by omega)⟩ rfl ?_
  rintro s r ⟨g1, g2, g3, g4, g5⟩
  unfold sy5St
  by_cases hsr : s < r
  ·have eh2 : IntKind.i64.wrap ((s + r).fdiv (2 ^ min (Int.toNat 1) 64)) = (s + r) / 2 := half_eq (by omega) (by omega)
   have hcc := hcl _ _ (ppr (mid + m - 1 - (s + r) / 2) (by omega) (by omega)) (ppl ((s + r) / 2) (by omega) (by omega))
   rw [evS_eq, evS_eq] at hcc
   by_cases hlt : c (cur0.getD (mid + m - 1 - (s + r) / 2).toNat default) (cur0.getD ((s + r) / 2).toNat default) < 0
   ·simp (maxSteps := 1000000) (disch := omega) only [go_sem]
    simp only [eh2]
    refine CALL_det hcc (.inl rfl) ?_
    simp (maxSteps := 1000000) (disch := omega) only [go_sem]
    exact ⟨s, (s + r) / 2, rfl, ⟨by omega, by omega, by omega, g4, .inr hlt⟩, by omega⟩
   ·simp (maxSteps := 1000000) (disch := omega) only [go_sem]
    simp only [eh2]
    refine CALL_det hcc (.inl rfl) ?_
    simp (maxSteps := 1000000) (disch := omega) only [go_sem]
    exact ⟨(s + r) / 2 + 1, r, rfl, ⟨by omega, by omega, by omega, .inr (by rw [show mid + m - ((s + r) / 2 + 1) = mid + m - 1 - (s + r) / 2 by omega, show (s + r) / 2 + 1 - 1 = (s + r) / 2 by omega]; exact hlt), g5⟩, by omega⟩
  ·have esr : r = s := by omega
   subst esr
   have hcut := sym_cut hS pU pV oU oV (i := (r - a).toNat) (j := (mid - r).toNat) (by omega) (by omega) (by
    by_cases q1 : r = a
    ·exact .inl (by omega)
    by_cases q2 : (mid - r).toNat = V.length
    ·exact .inr (.inl q2)
    rcases g4 with g4 | g4
    ·omega
    rw [hgr _ (by omega) (by omega), hgl _ (by omega) (by omega), show (mid + m - r - m).toNat = (mid - r).toNat by omega, show (r - 1 - a).toNat = (r - a).toNat - 1 by omega] at g4
    exact .inr (.inr g4)) (by
    by_cases q1 : r = m
    ·exact .inl (by omega)
    by_cases q2 : r = mid
    ·exact .inr (.inl (by omega))
    rcases g5 with g5 | g5
    ·omega
    rw [hgr _ (by omega) (by omega), hgl _ (by omega) (by omega), show (mid + m - 1 - r - m).toNat = (mid - r).toNat - 1 by omega] at g5
    exact .inr (.inr g5))
   have l1 : (U.take (r - a).toNat).length = (r - a).toNat := by rw [List.length_take]; omega
   have l2 : (U.drop (r - a).toNat).length = (m - r).toNat := by rw [List.length_drop]; omega
   have l3 : (V.take (mid - r).toNat).length = (mid - r).toNat := by rw [List.length_take]; omega
   have l4 : (V.drop (mid - r).toNat).length = (b - m - (mid - r)).toNat := by rw [List.length_drop]; omega
   have p1 : ∀ x ∈ U.take (r - a).toNat, p x := fun x hx => pU x (List.mem_of_mem_take hx)
   have p2 : ∀ x ∈ U.drop (r - a).toNat, p x := fun x hx => pU x (List.mem_of_mem_drop hx)
   have p3 : ∀ x ∈ V.take (mid - r).toNat, p x := fun x hx => pV x (List.mem_of_mem_take hx)
   have p4 : ∀ x ∈ V.drop (mid - r).toNat, p x := fun x hx => pV x (List.mem_of_mem_drop hx)
   have o1 : Ord c (U.take (r - a).toNat) := List.Pairwise.sublist (List.take_sublist _ _) oU
   have o2 : Ord c (U.drop (r - a).toNat) := List.Pairwise.sublist (List.drop_sublist _ _) oU
   have o3 : Ord c (V.take (mid - r).toNat) := List.Pairwise.sublist (List.take_sublist _ _) oV
   have o4 : Ord c (V.drop (mid - r).toNat) := List.Pairwise.sublist (List.drop_sublist _ _) oV
   have hc0 : cur0 = (P ++ U.take (r - a).toNat) ++ (U.drop (r - a).toNat ++ (V.take (mid - r).toNat ++ (V.drop (mid - r).toNat ++ Y))) := by
    rw [hc]; simp [td]
   rw [hcut]
   generalize U.take (r - a).toNat = U1 at *
   generalize U.drop (r - a).toNat = U2 at *
   generalize V.take (mid - r).toNat = V1 at *
   generalize V.drop (mid - r).toNat = V2 at *
   have hl5 : cur0.length = P.length + U1.length + U2.length + V1.length + V2.length + Y.length := by rw [hc0]; simp; omega
   by_cases w0 : r < m
   ·
    by_cases w1 : r < mid
    ·
     by_cases w2 : a < r
     ·
      by_cases w3 : mid + m - r < b
      ·
       first
        | exfalso; omega
        |skip
         simp (maxSteps := 1000000) (disch := omega) only [go_sem]
         refine ⟨rfl, CALLM_det (rotE_fcm cl (P ++ U1) U2 V1 (V2 ++ Y) cur0 hc0 (by omega) (by omega) (by omega) r m (mid + m - r) (by simp; omega) (by simp; omega) (by simp; omega)) ⟨rfl, rfl⟩ ?_⟩
         simp (maxSteps := 1000000) (disch := omega) only [go_sem]
         refine ⟨rfl, CALLM_det (ih (U1.length + V1.length) (by omega) P U1 V1 (U2 ++ (V2 ++ Y)) _ a r mid rfl (by simp) (by omega) (by omega) p1 p3 o1 o3 (by first | omega | (simp; omega)) (by omega) (by omega) (by omega)) ⟨rfl, rfl⟩ ?_⟩
         simp (maxSteps := 1000000) (disch := omega) only [go_sem]
         have hml := mrg_length c U1 V1
         refine ⟨rfl, CALLM_det (ih (U2.length + V2.length) (by omega) (P ++ mrg c U1 V1) U2 V2 Y _ mid (mid + m - r) b rfl (by simp) (by omega) (by omega) p2 p4 o2 o4 (by first | omega | (simp [hml]; omega)) (by first | omega | (simp [hml]; omega)) (by first | omega | (simp [hml]; omega)) (by first | omega | (simp [hml]; omega))) ⟨rfl, rfl⟩ ?_⟩
         simp (maxSteps := 1000000) (disch := omega) only [go_sem]
         simp
      ·
       first
        | exfalso; omega
        |skip
         have zV2 : V2 = [] := List.length_eq_zero_iff.1 (by omega)
         subst zV2
         simp (maxSteps := 1000000) (disch := omega) only [go_sem]
         refine ⟨rfl, CALLM_det (rotE_fcm cl (P ++ U1) U2 V1 ([] ++ Y) cur0 hc0 (by omega) (by omega) (by omega) r m (mid + m - r) (by simp; omega) (by simp; omega) (by simp; omega)) ⟨rfl, rfl⟩ ?_⟩
         simp (maxSteps := 1000000) (disch := omega) only [go_sem]
         refine ⟨rfl, CALLM_det (ih (U1.length + V1.length) (by omega) P U1 V1 (U2 ++ ([] ++ Y)) _ a r mid rfl (by simp) (by omega) (by omega) p1 p3 o1 o3 (by first | omega | (simp; omega)) (by omega) (by omega) (by omega)) ⟨rfl, rfl⟩ ?_⟩
         simp (maxSteps := 1000000) (disch := omega) only [go_sem]
         simp [mrg_nil, mrg_nil']
     ·
      by_cases w3 : mid + m - r < b
      ·
       first
        | exfalso; omega
        |skip
         have zU1 : U1 = [] := List.length_eq_zero_iff.1 (by omega)
         subst zU1
         simp (maxSteps := 1000000) (disch := omega) only [go_sem]
         refine ⟨rfl, CALLM_det (rotE_fcm cl (P ++ []) U2 V1 (V2 ++ Y) cur0 hc0 (by omega) (by omega) (by omega) r m (mid + m - r) (by simp; omega) (by simp; omega) (by simp; omega)) ⟨rfl, rfl⟩ ?_⟩
         simp (maxSteps := 1000000) (disch := omega) only [go_sem]
         have hml := mrg_length c [] V1
         refine ⟨rfl, CALLM_det (ih (U2.length + V2.length) (by omega) (P ++ mrg c [] V1) U2 V2 Y _ mid (mid + m - r) b rfl (by simp [mrg_nil, mrg_nil']) (by omega) (by omega) p2 p4 o2 o4 (by first | omega | (simp [hml]; omega)) (by first | omega | (simp [hml]; omega)) (by first | omega | (simp [hml]; omega)) (by first | omega | (simp [hml]; omega))) ⟨rfl, rfl⟩ ?_⟩
         simp (maxSteps := 1000000) (disch := omega) only [go_sem]
         simp
      ·
       first
        | exfalso; omega
        |skip
         have zU1 : U1 = [] := List.length_eq_zero_iff.1 (by omega)
         have zV2 : V2 = [] := List.length_eq_zero_iff.1 (by omega)
         subst zU1 zV2
         simp (maxSteps := 1000000) (disch := omega) only [go_sem]
         refine ⟨rfl, CALLM_det (rotE_fcm cl (P ++ []) U2 V1 ([] ++ Y) cur0 hc0 (by omega) (by omega) (by omega) r m (mid + m - r) (by simp; omega) (by simp; omega) (by simp; omega)) ⟨rfl, rfl⟩ ?_⟩
         simp (maxSteps := 1000000) (disch := omega) only [go_sem]
         simp [mrg_nil, mrg_nil']
    ·
     by_cases w2 : a < r
     ·
      by_cases w3 : mid + m - r < b
      ·
       first
        | exfalso; omega
        |skip
         have zV1 : V1 = [] := List.length_eq_zero_iff.1 (by omega)
         subst zV1
         have hc1 : cur0 = (P ++ U1) ++ ([] ++ (U2 ++ (V2 ++ Y))) := by simp only [hc0, List.append_nil, List.nil_append, List.append_assoc]
         simp (maxSteps := 1000000) (disch := omega) only [go_sem]
         have hml := mrg_length c U1 []
         refine ⟨rfl, CALLM_det (ih (U2.length + V2.length) (by omega) (P ++ mrg c U1 []) U2 V2 Y cur0 mid (mid + m - r) b rfl (by rw [hc1]; simp [mrg_nil, mrg_nil']) (by omega) (by omega) p2 p4 o2 o4 (by first | omega | (simp [hml]; omega)) (by first | omega | (simp [hml]; omega)) (by first | omega | (simp [hml]; omega)) (by first | omega | (simp [hml]; omega))) ⟨rfl, rfl⟩ ?_⟩
         simp (maxSteps := 1000000) (disch := omega) only [go_sem]
         simp
      ·
       first
        | exfalso; omega
        |skip
         have zV1 : V1 = [] := List.length_eq_zero_iff.1 (by omega)
         have zV2 : V2 = [] := List.length_eq_zero_iff.1 (by omega)
         subst zV1 zV2
         have hc1 : cur0 = (P ++ U1) ++ ([] ++ (U2 ++ ([] ++ Y))) := by simp only [hc0, List.append_nil, List.nil_append, List.append_assoc]
         simp (maxSteps := 1000000) (disch := omega) only [go_sem]
         rw [hc1]; simp [mrg_nil, mrg_nil']
     ·
      by_cases w3 : mid + m - r < b
      ·omega
      ·
       first
        | exfalso; omega
        |skip
         have zV1 : V1 = [] := List.length_eq_zero_iff.1 (by omega)
         have zU1 : U1 = [] := List.length_eq_zero_iff.1 (by omega)
         have zV2 : V2 = [] := List.length_eq_zero_iff.1 (by omega)
         subst zV1 zU1 zV2
         have hc1 : cur0 = (P ++ []) ++ ([] ++ (U2 ++ ([] ++ Y))) := by simp only [hc0, List.append_nil, List.nil_append, List.append_assoc]
         simp (maxSteps := 1000000) (disch := omega) only [go_sem]
         rw [hc1]; simp [mrg_nil, mrg_nil']
   ·
    by_cases w1 : r < mid
    ·
     by_cases w2 : a < r
     ·
      by_cases w3 : mid + m - r < b
      ·
       first
        | exfalso; omega
        |skip
         have zU2 : U2 = [] := List.length_eq_zero_iff.1 (by omega)
         subst zU2
         have hc1 : cur0 = (P ++ U1) ++ (V1 ++ ([] ++ (V2 ++ Y))) := by simp only [hc0, List.append_nil, List.nil_append, List.append_assoc]
         simp (maxSteps := 1000000) (disch := omega) only [go_sem]
         refine ⟨rfl, CALLM_det (ih (U1.length + V1.length) (by omega) P U1 V1 ([] ++ (V2 ++ Y)) cur0 a r mid rfl (by rw [hc1]; simp) (by omega) (by omega) p1 p3 o1 o3 (by first | omega | (simp; omega)) (by omega) (by omega) (by omega)) ⟨rfl, rfl⟩ ?_⟩
         simp (maxSteps := 1000000) (disch := omega) only [go_sem]
         simp [mrg_nil, mrg_nil']
      ·omega
     ·omega
    ·
     by_cases w2 : a < r
     ·
      by_cases w3 : mid + m - r < b
      ·
       first
        | exfalso; omega
        |skip
         have zU2 : U2 = [] := List.length_eq_zero_iff.1 (by omega)
         have zV1 : V1 = [] := List.length_eq_zero_iff.1 (by omega)
         subst zU2 zV1
         have hc1 : cur0 = (P ++ U1) ++ ([] ++ ([] ++ (V2 ++ Y))) := by simp only [hc0, List.append_nil, List.nil_append, List.append_assoc]
         simp (maxSteps := 1000000) (disch := omega) only [go_sem]
         rw [hc1]; simp [mrg_nil, mrg_nil']
      ·omega
     ·omega
end Go.Proofs.YtcagelfmngmocaaGreatDoor
namespace Go.Proofs.YtcagelfmngmocaaGreatDoor
open Go Go.Ai
set_option linter.unusedSimpArgs false
set_option linter.unusedVariables false
set_option maxHeartbeats 4000000
def C_stbE : AC := (.seq (.reg false [gI 6 (.mv (oI 20))] (kP [0,1,2,6,1000001] [1000001] [1000000]))
 (.seq (.reg false [gM 10 6,gI 7 (.mv (oI 0)),gM 8 10] (kP [0,1,2,6,7,8,1000001] [1000001] [1000000]))
 (.seq (.block 0 (.loop (.seq (.seq (.reg false [gM 11 8,gM 12 1,gI 13 (.bin .leq (.t 11) (.t 12))] (kP [0,1,2,6,7,8,13,1000001] [1000001] [1000000]))
 (.cond (.t 13)
 .skip
 (.exit 0)))
 (.block 1 (.seq (.reg false [gM 14 0,gM 15 7,gM 16 8,gM 17 2,gI 18 (.callm (.f 188) [(.t 14),(.t 15),(.t 16),(.t 17)] ⟨[1000001],[1000000],[1000001],[1000000],[1000000]⟩)] (kP [0,1,2,6,8,1000001] [1000001] [1000000]))
 (.seq (.reg false [gM 19 8,gM 7 19] (kP [0,1,2,6,7,8,1000001] [1000001] [1000000]))
 (.reg false [gM 20 8,gM 21 6,gI 22 (.bin .add (.t 20) (.t 21)),gM 8 22] (kP [0,1,2,6,7,8,1000001] [1000001] [1000000]))))))))
 (.seq (.reg false [gM 23 0,gM 24 7,gM 25 1,gM 26 2,gI 27 (.callm (.f 188) [(.t 23),(.t 24),(.t 25),(.t 26)] ⟨[1000001],[1000000],[1000001],[1000000],[1000000]⟩)] (kP [0,1,2,6,1000001] [1000001] [1000000]))
 (.block 2 (.loop (.seq (.seq (.reg false [gM 28 6,gM 29 1,gI 30 (.bin .lss (.t 28) (.t 29))] (kP [0,1,2,6,30,1000001] [1000001] [1000000]))
 (.cond (.t 30)
 .skip
 (.exit 2)))
 (.block 3 (.seq (.reg false [gM 31 6,gI 32 (.bin .mul (oI 2) (.t 31)),gI 7 (.mv (oI 0)),gM 8 32] (kP [0,1,2,6,7,8,1000001] [1000001] [1000000]))
 (.seq (.block 4 (.loop (.seq (.seq (.reg false [gM 33 8,gM 34 1,gI 35 (.bin .leq (.t 33) (.t 34))] (kP [0,1,2,6,7,8,35,1000001] [1000001] [1000000]))
 (.cond (.t 35)
 .skip
 (.exit 4)))
 (.block 5 (.seq (.reg false [gM 36 0,gM 37 7,gM 38 7,gM 39 6,gI 40 (.bin .add (.t 38) (.t 39)),gM 41 8,gM 42 2,gI 43 (.callm (.f 189) [(.t 36),(.t 37),(.t 40),(.t 41),(.t 42)] ⟨[1000001],[1000000],[1000001],[1000000],[1000000]⟩)] (kP [0,1,2,6,8,1000001] [1000001] [1000000]))
 (.seq (.reg false [gM 44 8,gM 7 44] (kP [0,1,2,6,7,8,1000001] [1000001] [1000000]))
 (.reg false [gM 45 8,gM 46 6,gI 47 (.bin .mul (oI 2) (.t 46)),gI 48 (.bin .add (.t 45) (.t 47)),gM 8 48] (kP [0,1,2,6,7,8,1000001] [1000001] [1000000]))))))))
 (.seq (.seq (.reg false [gM 49 7,gM 50 6,gI 51 (.bin .add (.t 49) (.t 50)),gM 9 51] (kP [0,1,2,6,7,9,1000001] [1000001] [1000000]))
 (.seq (.reg false [gM 52 9,gM 53 1,gI 54 (.bin .lss (.t 52) (.t 53))] (kP [0,1,2,6,7,9,54,1000001] [1000001] [1000000]))
 (.cond (.t 54)
 (.reg false [gM 55 0,gM 56 7,gM 57 9,gM 58 1,gM 59 2,gI 60 (.callm (.f 189) [(.t 55),(.t 56),(.t 57),(.t 58),(.t 59)] ⟨[1000001],[1000000],[1000001],[1000000],[1000000]⟩)] (kP [0,1,2,6,1000001] [1000001] [1000000]))
 .skip)))
 (.reg false [gM 61 6,gI 62 (.bin .mul (.t 61) (oI 2)),gM 6 62] (kP [0,1,2,6,1000001] [1000001] [1000000])))))))))))))
theorem fcms_stbE : FsT Tryz.prog 140 Tryz.f140 C_stbE [] := fcms_mk [aN [0,1,2,6,1000001] [1000001] [1000000],aN [0,1,2,6,7,8,1000001] [1000001] [1000000],aN [0,1,2,6,7,8,13,1000001] [1000001] [1000000],⟨(kP [0,1,2,6,8,1000001] [1000001] [1000000]),[],[],[],[(18,⟨[1000001],[1000000],[1000001],[1000000],[1000000]⟩)]⟩,aN [0,1,2,6,7,8,1000001] [1000001] [1000000],aN [0,1,2,6,7,8,1000001] [1000001] [1000000],⟨(kP [0,1,2,6,1000001] [1000001] [1000000]),[],[],[],[(27,⟨[1000001],[1000000],[1000001],[1000000],[1000000]⟩)]⟩,aN [0,1,2,6,30,1000001] [1000001] [1000000],aN [0,1,2,6,7,8,1000001] [1000001] [1000000],aN [0,1,2,6,7,8,35,1000001] [1000001] [1000000],⟨(kP [0,1,2,6,8,1000001] [1000001] [1000000]),[],[],[],[(43,⟨[1000001],[1000000],[1000001],[1000000],[1000000]⟩)]⟩,aN [0,1,2,6,7,8,1000001] [1000001] [1000000],aN [0,1,2,6,7,8,1000001] [1000001] [1000000],aN [0,1,2,6,7,9,1000001] [1000001] [1000000],aN [0,1,2,6,7,9,54,1000001] [1000001] [1000000],⟨(kP [0,1,2,6,1000001] [1000001] [1000000]),[],[],[],[(60,⟨[1000001],[1000000],[1000001],[1000000],[1000000]⟩)]⟩,aN [0,1,2,6,1000001] [1000001] [1000000]] Tryz.func140 (by kernel_rfl)
def C_ssfE : AC := (.reg false [gM 4 0,gM 5 0,gI 6 (.len (.t 5)),gM 7 1,gI 8 (.callm (.f 140) [(.t 4),(.t 6),(.t 7)] ⟨[1000001],[1000000],[1000001],[1000000],[1000000]⟩)] (kP [] [1000001] [1000000]))
theorem fcms_ssfE : FsT Tryz.prog 96 Tryz.f96 C_ssfE [] := fcms_mk [⟨(kP [] [1000001] [1000000]),[],[],[],[(8,⟨[1000001],[1000000],[1000001],[1000000],[1000000]⟩)]⟩] Tryz.func96 (by kernel_rfl)
def sb1St (cl : FuncId) (z : Nat) (es : List (List Cel)) (n bs a b : Int) (cur : List Ev) : AS := ⟨tabV [(0, .one (.ow 1000000 0)), (1, iv n), (2, .one (.fn cl [.bx 1000001 0])), (6, iv bs), (7, iv a), (8, iv b), (1000001, .any)], tabO [(1000001, [.sl false z es])], tabO [(1000000, evRow cur)]⟩
def sb2St (cl : FuncId) (z : Nat) (es : List (List Cel)) (n bs : Int) (cur : List Ev) : AS := ⟨tabV [(0, .one (.ow 1000000 0)), (1, iv n), (2, .one (.fn cl [.bx 1000001 0])), (6, iv bs), (1000001, .any)], tabO [(1000001, [.sl false z es])], tabO [(1000000, evRow cur)]⟩
/-- Where the first pass stands: what is done, and what is to do. -/
structure StI (c : Ev → Ev → Int) (bs : Nat) (d : List Ev) (a : Int) (cur d1 s1 d2 : List Ev) : Prop where
 d : d = d1 ++ d2
 cu : cur = s1 ++ d2
 l1 : a = d1.length
 l2 : s1.length = d1.length
 grow : ∀ x y, Bk c bs x y → Bk c bs (d1 ++ x) (s1 ++ y)
/-- Where a pass stands that doubles the blocks. -/
structure StJ (c : Ev → Ev → Int) (bs : Nat) (d : List Ev) (a : Int) (cur d1 s1 d2 s2 : List Ev) : Prop where
 d : d = d1 ++ d2
 cu : cur = s1 ++ s2
 l1 : a = d1.length
 l2 : s1.length = d1.length
 grow : ∀ x y, Bk c (2 * bs) x y → Bk c (2 * bs) (d1 ++ x) (s1 ++ y)
 bk : Bk c bs d2 s2
set_option maxHeartbeats 4000000 in
theorem stbE_fcm (cl : FuncId) {c : Ev → Ev → Int} {p : Ev → Prop} (hS : Swo p c) (z : Nat) (es : List (List Cel)) (hcl : ∀ x y, p x → p y → FC Tryz.prog cl none [.ag (evS x), .ag (evS y), .one (.ep [.sl false z es])] (fun _ r => r = iv (c x y)))
  (d : List Ev) (hp : ∀ x ∈ d, p x) (hlen : d.length ≤ 1000000) :
  FCMS Tryz.prog 140 [1000000] ⟨[(1000001, [.sl false z es])], [(1000000, evRow d)]⟩ [.one (.ow 1000000 0), iv d.length, .one (.fn cl [.bx 1000001 0])] (fun H r => H = ⟨[(1000001, [.sl false z es])], [(1000000, evRow (ssort c d))]⟩ ∧ r = .tu []) := by
 refine fcms_stbE (K := ⟨[], [1000001], [1000000]⟩) (by simp +arith) (by simp [XK]) (by simp [XK]) ?_
 unfold C_stbE
 simp (maxSteps := 1000000) (disch := omega) only [go_sem]
 refine ex_loop3 (fun a b cur => sb1St cl z es d.length 20 a b cur) (fun a b cur => b = a + 20 ∧ ∃ d1 s1 d2, StI c 20 d a cur d1 s1 d2) (fun a _ _ => (d.length - a).toNat) 0 20 d ⟨by omega, [], [], d, ⟨rfl, rfl, rfl, rfl, fun x y h => h⟩⟩ rfl ?_
 rintro a b cur ⟨rfl, d1, s1, d2, hI⟩
 obtain ⟨i1, i2, i3, i4, i5⟩ := id hI
 have hl : d1.length + d2.length = d.length := by rw [i1]; simp
 have hl2 : cur.length = d.length := by rw [i2, i1]; simp [i4]
 have hp2 : ∀ x ∈ d2, p x := fun x hx => hp x (by rw [i1]; simp [hx])
 unfold sb1St
 by_cases ha : a + 20 ≤ d.length
 ·have hins := insE_fcm cl hS z es hcl s1 (d2.take 20) (d2.drop 20) cur (by rw [i2, List.take_append_drop]) (fun x hx => hp2 x (List.mem_of_mem_take hx)) (by omega) a (a + 20) (by omega) (by rw [List.length_take]; omega)
  simp (maxSteps := 1000000) (disch := omega) only [go_sem]
  refine ⟨rfl, CALLM_det hins ⟨rfl, rfl⟩ ?_⟩
  simp (maxSteps := 1000000) (disch := omega) only [go_sem]
  refine ⟨a + 20, a + 20 + 20, _, rfl, ⟨rfl, d1 ++ d2.take 20, s1 ++ ssort c (d2.take 20), d2.drop 20, ⟨?_, ?_, ?_, ?_, ?_⟩⟩, by omega⟩
  ·rw [i1]; simp
  ·simp
  ·rw [List.length_append, List.length_take]; omega
  ·simp [i4, ssort_length]
  ·intro x y h
   have := i5 _ _ (Bk.cons (d2.take 20) x y (by rw [List.length_take]; omega) h)
   simpa using this
 ·have hins := insE_fcm cl hS z es hcl s1 d2 [] cur (by rw [i2]; simp) hp2 (by omega) a d.length (by omega) (by omega)
  rw [List.append_nil] at hins
  simp (maxSteps := 1000000) (disch := omega) only [go_sem]
  refine ⟨rfl, CALLM_det hins ⟨rfl, rfl⟩ ?_⟩
  simp (maxSteps := 1000000) (disch := omega) only [go_sem]
  have hb20 := i5 _ _ (Bk.last d2 (by omega))
  rw [← i1] at hb20
  clear hins hI i2 i5 hl2 hp2
  refine ex_loop2 (fun bs cur => sb2St cl z es d.length bs cur) (fun bs cur => 20 ≤ bs ∧ bs ≤ 2000020 ∧ Bk c bs.toNat d cur) (fun bs _ => (2000020 - bs).toNat) 20 (s1 ++ ssort c d2) ⟨by omega, by omega, hb20⟩ rfl ?_
  rintro bs cur ⟨g1, g2, g3⟩
  have g4 := g3.len
  unfold sb2St
  by_cases hb : bs < d.length
  ·simp (maxSteps := 1000000) (disch := omega) only [go_sem]
   refine ex_loop3 (fun a b cur => sb1St cl z es d.length bs a b cur) (fun a b cur => b = a + 2 * bs ∧ ∃ d1 s1 d2 s2, StJ c bs.toNat d a cur d1 s1 d2 s2) (fun a _ _ => (d.length - a).toNat) 0 (2 * bs) cur ⟨by omega, [], [], d, cur, ⟨rfl, rfl, rfl, rfl, fun x y h => h, g3⟩⟩ rfl ?_
   clear g3 g4 hb20
   rintro a b cur ⟨rfl, d1, s1, d2, s2, hJ⟩
   obtain ⟨i1, i2, i3, i4, i5, i6⟩ := id hJ
   have hl : d1.length + d2.length = d.length := by rw [i1]; simp
   have hl3 := i6.len
   have hl2 : cur.length = d.length := by rw [i2, i1]; simp [i4, hl3]
   have hp2 : ∀ x ∈ d2, p x := fun x hx => hp x (by rw [i1]; simp [hx])
   unfold sb1St
   by_cases ha : a + 2 * bs ≤ d.length
   ·obtain ⟨b1, l1, t1, e1, e2, e3, e4⟩ := i6.take (by omega)
    have hl4 : b1.length + l1.length = d2.length := by rw [e1]; simp
    obtain ⟨b2, l2, t2, f1, f2, f3, f4⟩ := e4.take (by omega)
    have hp3 : ∀ x ∈ b1, p x := fun x hx => hp2 x (by rw [e1]; simp [hx])
    have hp4 : ∀ x ∈ b2, p x := fun x hx => hp2 x (by rw [e1, f1]; simp [hx])
    have hsym := symE_fcm cl hS z es hcl _ s1 (ssort c b1) (ssort c b2) t2 cur a (a + bs) (a + 2 * bs) rfl (by rw [i2, e2, f2]) (by rw [ssort_length]; omega) (by rw [ssort_length]; omega) (fun x hx => hp3 x (ssort_mem.1 hx)) (fun x hx => hp4 x (ssort_mem.1 hx)) (ssort_ord hS hp3) (ssort_ord hS hp4) (by omega) (by omega) (by rw [ssort_length]; omega) (by rw [ssort_length, ssort_length]; omega)
    rw [← ssort_append hS hp3 hp4] at hsym
    simp (maxSteps := 1000000) (disch := omega) only [go_sem]
    refine ⟨rfl, CALLM_det hsym ⟨rfl, rfl⟩ ?_⟩
    simp (maxSteps := 1000000) (disch := omega) only [go_sem]
    refine ⟨a + 2 * bs, a + 2 * bs + 2 * bs, _, rfl, ⟨rfl, d1 ++ (b1 ++ b2), s1 ++ ssort c (b1 ++ b2), l2, t2, ⟨?_, ?_, ?_, ?_, ?_, f4⟩⟩, by omega⟩
    ·rw [i1, e1, f1]; simp
    ·simp
    ·rw [List.length_append, List.length_append]; omega
    ·simp [i4, ssort_length]
    ·intro x y h
     have := i5 _ _ (Bk.cons (b1 ++ b2) x y (by rw [List.length_append]; omega) h)
     simpa using this
   ·by_cases hm : a + bs < d.length
    ·obtain ⟨b1, l1, t1, e1, e2, e3, e4⟩ := i6.take (by omega)
     have hl4 : b1.length + l1.length = d2.length := by rw [e1]; simp
     have e5 := e4.one (by omega) (by omega)
     have hp3 : ∀ x ∈ b1, p x := fun x hx => hp2 x (by rw [e1]; simp [hx])
     have hp4 : ∀ x ∈ l1, p x := fun x hx => hp2 x (by rw [e1]; simp [hx])
     have hsym := symE_fcm cl hS z es hcl _ s1 (ssort c b1) (ssort c l1) [] cur a (a + bs) d.length rfl (by rw [i2, e2, e5]; simp) (by rw [ssort_length]; omega) (by rw [ssort_length]; omega) (fun x hx => hp3 x (ssort_mem.1 hx)) (fun x hx => hp4 x (ssort_mem.1 hx)) (ssort_ord hS hp3) (ssort_ord hS hp4) (by omega) (by omega) (by rw [ssort_length]; omega) (by rw [ssort_length, ssort_length]; omega)
     rw [← ssort_append hS hp3 hp4, ← e1, List.append_nil] at hsym
     simp (maxSteps := 1000000) (disch := omega) only [go_sem]
     refine ⟨rfl, CALLM_det hsym ⟨rfl, rfl⟩ ?_⟩
     simp (maxSteps := 1000000) (disch := omega) only [go_sem]
     have hk := i5 _ _ (Bk.last d2 (by omega))
     rw [← i1] at hk
     exact ⟨bs * 2, _, rfl, ⟨by omega, by omega, by rw [show (bs * 2).toNat = 2 * bs.toNat by omega]; exact hk⟩, by omega⟩
    ·have e5 := i6.one (by omega) (by omega)
     have hk := i5 _ _ (Bk.last d2 (by omega))
     rw [← i1, ← e5, ← i2] at hk
     simp (maxSteps := 1000000) (disch := omega) only [go_sem]
     exact ⟨bs * 2, _, rfl, ⟨by omega, by omega, by rw [show (bs * 2).toNat = 2 * bs.toNat by omega]; exact hk⟩, by omega⟩
  ·have e5 := g3.one (by omega) (by omega)
   rw [e5]
   simp (maxSteps := 1000000) (disch := omega) only [go_sem]
theorem ssfE_fcm (cl : FuncId) {c : Ev → Ev → Int} {p : Ev → Prop} (hS : Swo p c) (z : Nat) (es : List (List Cel)) (hcl : ∀ x y, p x → p y → FC Tryz.prog cl none [.ag (evS x), .ag (evS y), .one (.ep [.sl false z es])] (fun _ r => r = iv (c x y)))
  (d : List Ev) (hp : ∀ x ∈ d, p x) (hlen : d.length ≤ 1000000) :
  FCMS Tryz.prog 96 [1000000] ⟨[(1000001, [.sl false z es])], [(1000000, evRow d)]⟩ [.one (.ow 1000000 0), .one (.fn cl [.bx 1000001 0])] (fun H r => H = ⟨[(1000001, [.sl false z es])], [(1000000, evRow (ssort c d))]⟩ ∧ r = .tu []) := by
 refine fcms_ssfE (K := ⟨[], [1000001], [1000000]⟩) (by simp +arith) (by simp [XK]) (by simp [XK]) ?_
 unfold C_ssfE
 simp (maxSteps := 1000000) (disch := omega) only [go_sem]
 refine ⟨rfl, CALLM_det (stbE_fcm cl hS z es hcl d hp hlen) ⟨rfl, rfl⟩ ?_⟩
 simp (maxSteps := 1000000) (disch := omega) only [go_sem]
end Go.Proofs.YtcagelfmngmocaaGreatDoor
