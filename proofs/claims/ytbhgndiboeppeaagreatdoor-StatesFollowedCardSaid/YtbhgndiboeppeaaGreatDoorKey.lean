/- What a key is, in the program and in the reference: strings.Trim at an ASCII cutset, strings.IndexByte. -/
import Derived.Test.YtbhgndiboeppeaaGreatDoorBas
import Derived.Lib.Bytealg
import Derived.Lib.Strings
import Derived.Lib.Walk
set_option linter.all false
set_option maxHeartbeats 4000000
set_option maxRecDepth 100000
namespace Go.Proofs.YtbhgndiboeppeaaGreatDoor
open Go Go.Ai
def v8 (b : ByteArray) (i : Nat) : Nat := (b.data.toList.getD i 0).toNat
def P8 (p : Nat → Bool) (b : ByteArray) : Nat → Bool
 | 0 => true
 | n + 1 => P8 p b n && p (v8 b n)
def b0B (n : Nat) : Bool := decide (97 ≤ n ∧ n ≤ 122) || decide (48 ≤ n ∧ n ≤ 57) || decide (n = 45) || decide (n = 95)
def m5 (b : ByteArray) : Bool := decide (1 ≤ b.size ∧ b.size ≤ 40) && decide (97 ≤ v8 b 0 ∧ v8 b 0 ≤ 122) && P8 b0B b b.size
theorem allTo_lt {p : Nat → Bool} {b : ByteArray} : ∀ {n : Nat}, P8 p b n = true ↔ ∀ i, i < n → p (v8 b i) = true
 | 0 => by simp [P8]
 | n + 1 => by
  rw [P8, Bool.and_eq_true, allTo_lt]
  all_goals grind
theorem a4c (b : ByteArray) : (b.toList == (ByteArray.mk #[]).toList) = decide (b.size = 0) := by
 rw [ByteArray.toList_eq, ByteArray.toList_eq]
 by_cases e : b.size = 0
 ·have : b = ByteArray.mk #[] := by
   cases b with | mk d => simp [ByteArray.size] at e; simp [e]
  subst this; rfl
 ·rw [decide_eq_false e]
  apply Bool.eq_false_iff.2
  intro h2
  have := beq_iff_eq.1 h2
  rw [Lib.size_eq, this] at e
  exact e rfl
theorem a3d (b : ByteArray) (i : Nat) : v8 b i < 256 := (b.data.toList.getD i 0).toNat_lt
theorem a3K {b : ByteArray} {l h i : Nat} (hi : i < h - l) (hh : h ≤ b.size) : v8 (b.extract l h) i = v8 b (l + i) := by
 unfold v8
 rw [Lib.extract_data, List.getD_eq_getElem?_getD, List.getD_eq_getElem?_getD, List.getElem?_take_of_lt (by omega), List.getElem?_drop]
theorem Z0 {b : ByteArray} {l h : Nat} (hh : h ≤ b.size) : (b.extract l h).size = h - l := by
 rw [ByteArray.size_extract]; omega
theorem b3Y {b : ByteArray} {l h l' h' : Nat} (hl : l ≤ h) (hh : h' ≤ h - l) : (b.extract l h).extract l' h' = b.extract (l + l') (l + h') := by
 rw [ByteArray.extract_extract]
 congr 1
 omega
def G6 (p : Nat → Bool) : List Cel := (List.range 256).map fun c => .g (.bool (p c))
section
variable {s : AS} {p : Nat → Bool} {d : Option Nat}
theorem V7 {f : Cel → Cel} (h : ∀ v, f (.g v) = .g v) : (G6 p).map f = G6 p := by
 unfold G6; rw [List.map_map]
 exact List.map_congr_left fun c _ => h _
theorem c3A {K : Kp} : (G6 p).map (s.renC K) = G6 p := V7 fun _ => rfl
theorem b5Y {m : CAnn} : (G6 p).map (s.passC m) = G6 p := V7 fun _ => rfl
theorem b5o {m : CAnn} : (G6 p).map (s.backC m) = G6 p := V7 fun _ => rfl
theorem b5S : (G6 p).map s.viewC = G6 p := V7 fun _ => rfl
theorem c1y : (G6 p).map s.finC = G6 p := V7 fun _ => rfl
theorem c3E : (G6 p).map Cel.dat = G6 p := V7 fun _ => rfl
theorem a4I {a b : Nat → Nat} : (G6 p).map (rnC a b) = G6 p := V7 fun _ => rfl
theorem a6A {f : Cel → Bool} (h : ∀ v, f (.g v) = true) : (G6 p).all f = true := by
 rw [List.all_eq_true]
 intro c hc
 obtain ⟨n, _, rfl⟩ := List.mem_map.1 hc
 exact h _
theorem b3L : (G6 p).all C6 = true := a6A fun _ => rfl
theorem b9n : (G6 p).all C8 = true := a6A fun _ => rfl
theorem J0 : (G6 p).length = 256 := by simp [G6]
theorem b8R : (G6 p).drop 256 = [] := List.drop_eq_nil_of_le (by rw [J0]; exact Nat.le_refl _)
theorem b6u : (G6 p).take 256 = G6 p := List.take_of_length_le (by rw [J0]; exact Nat.le_refl _)
theorem c8P : (List.replicate 256 (Value.bool false)).map Cel.g = G6 (fun _ => false) := by
 unfold G6
 rw [List.map_replicate, List.map_const', List.length_range]
theorem a3e {o : Nat} (h : o < 256) : (G6 p)[o]? = some (.g (.bool (p o))) := by
 unfold G6
 grind
theorem b5q {o n : Nat} (h : o < 256) : Q1 s d false n ((G6 p).drop o) = .ok (s.put d (.one (.g (.bool (p o))))) := by
 have h1 : o < (G6 p).length := by rw [J0]; exact h
 have h2 := a3e (p := p) h
 rw [List.getElem?_eq_getElem h1] at h2
 injection h2 with h2
 rw [List.drop_eq_getElem_cons h1, h2]; rfl
theorem b1L {q : Nat → Bool} (h : ∀ c, c < 256 → p c = q c) : G6 p = G6 q := List.map_congr_left fun c hc => by rw [h c (List.mem_range.1 hc)]
theorem c0R {o : Nat} {v : Bool} (h : o < 256) : wr (G6 p) o [Cel.g (.bool v)] = G6 (fun c => if c = o then v else p c) := by
 apply List.ext_getElem?
 intro i
 unfold wr
 by_cases hi : i < 256
 ·rw [a3e hi]
  by_cases h1 : i < o
  ·rw [List.append_assoc, List.getElem?_append_left (by rw [List.length_take, J0]; omega), List.getElem?_take_of_lt h1, a3e hi, if_neg (by omega)]
  ·by_cases h2 : i = o
   ·subst h2
    rw [List.append_assoc, List.getElem?_append_right (by rw [List.length_take, J0]; omega), List.length_take, J0, show i - min i 256 = 0 by omega, if_pos rfl]; rfl
   ·rw [List.getElem?_append_right (by rw [List.length_append, List.length_take, J0]; simp; omega), List.length_append, List.length_take, J0, List.length_singleton, List.getElem?_drop, show o + 1 + (i - (min o 256 + 1)) = i by omega, a3e hi, if_neg h2]
 ·rw [List.getElem?_eq_none (by rw [List.length_append, List.length_append, List.length_take, List.length_drop, J0]; simp; omega), List.getElem?_eq_none (by rw [J0]; omega)]
end
attribute [go_sem] c3A b5Y b5o b5S c1y c3E a4I b3L b9n J0 b8R b6u c8P b5q
attribute [go_sem high] c0R
attribute [go_sem] Nat.mul_one Int.toNat_natCast
def a2G (b : ByteArray) : Nat → Nat → Bool
 | 0, _ => false
 | n + 1, c => a2G b n c || decide (c = v8 b n)
section
variable {P : Program} {Q : AX → AS → Prop} {s : AS} {k : List KI} {kp : Option Keep} {l : List GI}
theorem a5p {f : FuncId} {H0 X0 H : Hp} {Y0 : Val} {args0 vargs : List Val} {bks rks obs ors : List Nat} {d : Option Nat} (X : Hp) (Y : Val) (p q : Nat → Nat) (hp : ∀ k, p (p k) = k) (hq : ∀ k, q (q k) = k) (hf : FCM P f H0 args0 (fun H' r' => H' = X0 ∧ r' = Y0)) (hna : ∀ x ∈ args0, ∀ xs, x ≠ .tu xs)
  (hH : H0.rn p q = H) (ha : args0.map (rnV p q) = vargs) (hX : X0.rn p q = X) (hY : rnV p q Y0 = Y) (hk : X.bs.map (·.1) = obs ∧ X.rs.map (·.1) = ors) (h : rg P l kp k Q ((s.after ⟨bks, rks, obs, ors, []⟩ X).put d (s.backV ⟨bks, rks, obs, ors, []⟩ Y))) (hb : H0.bs.all (fun x => W3 x.1 == W3 (p x.1)) = true := by rfl) : a6N P f H vargs ⟨bks, rks, obs, ors, []⟩ d l kp k Q s := by
 subst hX; subst hY
 exact a8M p q hp hq hf hna hH ha hk h hb
end
theorem a0w (p : Nat → Bool) (c : Nat) (hc : c < 256) : FCM Tryz.prog 157 ⟨[(1000001, G6 p)], []⟩ [.one (.bx 1000001 0), ki .u8 c] (fun H r => H = ⟨[(1000001, G6 p)], []⟩ ∧ r = bv (p c)) := by
 refine fmE Tryz.func157 (aM [1000001] [] [[0,1,1000001],[4]]) ⟨[], [1000001], []⟩ ?_
 exact qt
theorem b8J (b : ByteArray) (hb : ∀ i, i < b.size → v8 b i < 128) (hsz : b.size ≤ 9223372036854775807) : FC Tryz.prog 106 none [sv b] (fun _ r => r = .tu [.ag (G6 (a2G b b.size)), bv true]) := by
 refine fcE Tryz.func106 (aM [2] [] [[0,2],[0,2,4],[0,2,4,9],[0,2,4,5],[0,2,4,5,16],[2,3],[0,2,4],[0,2,4],[2,3]]) ?_
 refine qv ?_
 refine j9 (fun i => ⟨m9 [(0, sv b), (2, .one (.bx 2 0)), (4, iv i)], f9 [(2, G6 (a2G b i.toNat))], f9 []⟩) (fun i => 0 ≤ i ∧ i ≤ b.size) (fun i => (b.size - i).toNat) 0 ⟨by omega, by omega⟩ rfl ?_
 rintro i ⟨h1, h2⟩
 by_cases hi : i < b.size
 ·have hlt := hb i.toNat (by omega)
  have e2 : (i + 1).toNat = i.toNat + 1 := by omega
  have e3 : G6 (a2G b (i + 1).toNat) = G6 (fun c => if c = v8 b i.toNat then true else a2G b i.toNat c) := b1L fun c _ => by
   rw [e2, a2G]
   grind
  unfold v8 at e3 hlt
  refine qv ?_
  grind
 ·refine qv ?_
  grind
def trR (p : Nat → Bool) (b : ByteArray) : Nat → Nat
 | 0 => 0
 | n + 1 => if p (v8 b n) = true then trR p b n else n + 1
def trL (p : Nat → Bool) (b : ByteArray) : Nat → Nat
 | 0 => 0
 | n + 1 => if p (v8 b (b.size - (n + 1))) = true then trL p b n else n + 1
theorem a7M {p : Nat → Bool} {b : ByteArray} : ∀ n, trR p b n ≤ n
 | 0 => Nat.le_refl _
 | n + 1 => by rw [trR]; split; exact Nat.le_succ_of_le (a7M n); exact Nat.le_refl _
theorem b9X {p : Nat → Bool} {b : ByteArray} : ∀ n, trL p b n ≤ n
 | 0 => Nat.le_refl _
 | n + 1 => by rw [trL]; split; exact Nat.le_succ_of_le (b9X n); exact Nat.le_refl _
theorem b1Y (p : Nat → Bool) (b : ByteArray) (hsz : b.size ≤ 9223372036854775807) : FCM Tryz.prog 108 ⟨[(1000001, G6 p)], []⟩ [sv b, .one (.bx 1000001 0)] (fun H r => H = ⟨[(1000001, G6 p)], []⟩ ∧ r = sv (b.extract 0 (trR p b b.size))) := by
 refine fmE Tryz.func108 (aM [1000001] [] [[0,1,1000001],[0,1,7,1000001]] ++ [⟨(kP [0,1,15,1000001] [1000001] []),[],[],[],[(14,⟨[1000001],[],[1000001],[],[]⟩)]⟩] ++ aM [1000001] [] [[0,1,1000001],[4]]) ⟨[], [1000001], []⟩ ?_
 refine qv ?_
 refine j9 (fun j : Nat => ⟨m9 [(0, sv (b.extract 0 j)), (1, .one (.bx 1000001 0)), (1000001, .any)], f9 [(1000001, G6 p)], f9 []⟩) (fun j => j ≤ b.size ∧ trR p b j = trR p b b.size) (fun j => j) b.size ⟨Nat.le_refl _, rfl⟩ (by simp only [ByteArray.extract_zero_size]) ?_
 rintro j ⟨h2, h3⟩
 have hs := Z0 (b := b) (l := 0) (h := j) (by omega)
 rw [Nat.sub_zero] at hs
 by_cases hj : 0 < j
 ·have hb := a3K (b := b) (l := 0) (h := j) (i := j - 1) (by omega) (by omega)
  have hlt := a3d b (j - 1)
  have hx := b3Y (b := b) (l := 0) (h := j) (l' := 0) (h' := j - 1) (by omega) (by omega)
  rw [Nat.zero_add, Nat.zero_add] at hx
  rw [Nat.zero_add] at hb
  rw [← hb] at hlt
  have hc := a0w p (v8 (b.extract 0 j) (j - 1)) hlt
  have e2 : j = (j - 1) + 1 := by omega
  rw [e2, trR, ← hb] at h3
  rw [← e2] at h3
  generalize hX : b.extract 0 j = X at *
  have e4 : ((X.size : Int) - 1).toNat = j - 1 := by omega
  unfold v8 at hlt hc h3
  rw [← e4] at hlt hc h3
  refine qv ?_
  refine ⟨rfl, f7 hc ⟨rfl, rfl⟩ ?_⟩
  cases hp : p (X.data.toList.getD ((X.size : Int) - 1).toNat 0).toNat with
  | true =>
   rw [hp, if_pos rfl] at h3
   rw [e4] at h3
   have e5 : (IntKind.i64.wrap ((X.size : Int) - 1)).toNat = j - 1 := by rw [wrap_i64 _ (by omega) (by omega)]; omega
   refine qv ?_
   grind
  | false =>
   rw [hp, if_neg (by simp)] at h3
   refine qv ?_
   rw [← h3, hX]
 ·have e0 : j = 0 := by omega
  subst e0
  rw [trR] at h3
  rw [← h3]
  exact qt
theorem b3B (p : Nat → Bool) (b : ByteArray) (hsz : b.size ≤ 9223372036854775807) : FCM Tryz.prog 107 ⟨[(1000001, G6 p)], []⟩ [sv b, .one (.bx 1000001 0)] (fun H r => H = ⟨[(1000001, G6 p)], []⟩ ∧ r = sv (b.extract (b.size - trL p b b.size) b.size)) := by
 refine fmE Tryz.func107 (aM [1000001] [] [[0,1,1000001],[0,1,7,1000001]] ++ [⟨(kP [0,1,12,1000001] [1000001] []),[],[],[],[(11,⟨[1000001],[],[1000001],[],[]⟩)]⟩] ++ aM [1000001] [] [[0,1,1000001],[4]]) ⟨[], [1000001], []⟩ ?_
 refine qv ?_
 refine j9 (fun j : Nat => ⟨m9 [(0, sv (b.extract (b.size - j) b.size)), (1, .one (.bx 1000001 0)), (1000001, .any)], f9 [(1000001, G6 p)], f9 []⟩) (fun j => j ≤ b.size ∧ trL p b j = trL p b b.size) (fun j => j) b.size ⟨Nat.le_refl _, rfl⟩ (by simp only [Nat.sub_self, ByteArray.extract_zero_size]) ?_
 rintro j ⟨h2, h3⟩
 have hs := Z0 (b := b) (l := b.size - j) (h := b.size) (by omega)
 rw [show b.size - (b.size - j) = j by omega] at hs
 by_cases hj : 0 < j
 ·have hb := a3K (b := b) (l := b.size - j) (h := b.size) (i := 0) (by omega) (by omega)
  have hlt := a3d b (b.size - j)
  have hx := b3Y (b := b) (l := b.size - j) (h := b.size) (l' := 1) (h' := j) (by omega) (by omega)
  rw [show b.size - j + 1 = b.size - (j - 1) by omega, show b.size - j + j = b.size by omega] at hx
  rw [Nat.add_zero] at hb
  rw [← hb] at hlt
  have hc := a0w p (v8 (b.extract (b.size - j) b.size) 0) hlt
  have e2 : j = (j - 1) + 1 := by omega
  rw [e2, trL, show b.size - (j - 1 + 1) = b.size - j by omega, ← hb] at h3
  rw [← e2] at h3
  generalize hX : b.extract (b.size - j) b.size = X at *
  unfold v8 at hlt hc h3
  refine qv ?_
  refine ⟨rfl, f7 hc ⟨rfl, rfl⟩ ?_⟩
  cases hp : p (X.data.toList.getD 0 0).toNat with
  | true =>
   rw [hp, if_pos rfl] at h3
   refine qv ?_
   grind
  | false =>
   rw [hp, if_neg (by simp)] at h3
   refine qv ?_
   rw [← h3, hX]
 ·have e0 : j = 0 := by omega
  subst e0
  rw [trL] at h3
  rw [← h3]
  exact qt
def b0i (p : Nat → Bool) (b : ByteArray) : ByteArray := (b.extract 0 (trR p b b.size)).extract ((b.extract 0 (trR p b b.size)).size - trL p (b.extract 0 (trR p b b.size)) (b.extract 0 (trR p b b.size)).size) (b.extract 0 (trR p b b.size)).size
theorem c3T (b cut : ByteArray) (hc : ∀ i, i < cut.size → v8 cut i < 128) (hsz : b.size ≤ 9223372036854775807) (hcz : cut.size ≤ 9223372036854775807) (h0 : b.size ≠ 0) (h1 : 2 ≤ cut.size) : FC Tryz.prog 74 none [sv b, sv cut] (fun _ r => r = sv (b0i (a2G cut cut.size) b)) := by
 refine fcE Tryz.func74 (aM [5] [] [[0,1,5],[0,1,5,12],[4,5],[0,1,5,21],[4,5],[0,1,5,6],[0,1,5,34]] ++ [⟨(kP [4,5] [5] []),[],[],[],[(36,⟨[5],[],[5],[],[]⟩),(37,⟨[5],[],[5],[],[]⟩)]⟩,aN [4,5] [5] []]) ?_
 have e1 := a4c b
 have e2 := a4c cut
 rw [decide_eq_false h0] at e1
 rw [decide_eq_false (show cut.size ≠ 0 by omega)] at e2
 have hm := b8J cut hc hcz
 have hr := b1Y (a2G cut cut.size) b hsz
 have hz : (b.extract 0 (trR (a2G cut cut.size) b b.size)).size = trR (a2G cut cut.size) b b.size := by rw [Z0 (a7M _), Nat.sub_zero]
 have hl := b3B (a2G cut cut.size) (b.extract 0 (trR (a2G cut cut.size) b b.size)) (by rw [hz]; have := a7M (p := a2G cut cut.size) (b := b) b.size; omega)
 unfold b0i
 generalize b.extract 0 (trR (a2G cut cut.size) b b.size) = b1 at *
 generalize a2G cut cut.size = p at *
 refine qv ?_
 simp only [e1, e2]
 refine qv ?_
 refine n6 hm (.inl (by have h : (G6 p).all p9 = true := a6A fun _ => rfl; simp only [Q5, List.all_cons, List.all_nil, h, Bool.true_and, Bool.and_true]; rfl)) ?_
 refine qv ?_
 refine ⟨rfl, a5p ⟨[(5, G6 p)], []⟩ (sv b1) (swp 5 1000001) (fun k => k) (s8 5 1000001) (fun _ => rfl) hr (by simp) (by simp [Hp.rn, a4I, swp]) rfl (by simp [Hp.rn, a4I, swp]) rfl ⟨rfl, rfl⟩ ?_⟩
 refine qv ?_
 refine ⟨rfl, a5p ⟨[(5, G6 p)], []⟩ (sv (b1.extract (b1.size - trL p b1 b1.size) b1.size)) (swp 5 1000001) (fun k => k) (s8 5 1000001) (fun _ => rfl) hl (by simp) (by simp [Hp.rn, a4I, swp]) rfl (by simp [Hp.rn, a4I, swp]) rfl ⟨rfl, rfl⟩ ?_⟩
 exact qt
theorem b2f {P : Program} {f : FuncId} (us : List Value) {v : Value} (hb : a0b P f) (hv : v.oneCell' = true) (h : ∀ w, Calls P f us.toArray w fun e w' => e = .returned v ∧ w' = w) : FC P f none (us.map fun u => .one (.g u)) (fun _ r => r = .one (.g v)) := by
 refine ⟨hb, fun w okA g vs _ _ hlen hrel => ?_⟩
 have hus : vs = us := by
  apply List.ext_getElem (by simpa using hlen.symm)
  intro i h1 h2
  have := hrel i (.one (.g us[i])) vs[i] (by simp [h2]) (by simp [h1])
  exact s9 this rfl
 subst hus
 refine Calls.mono (h w) ?_
 rintro e w' ⟨rfl, rfl⟩
 exact ⟨v, [], _, rfl, rfl, .refl _ _, .one ⟨rfl, hv⟩, fun h => by cases h⟩
set_option maxRecDepth 100000 in
theorem T9 (s : ByteArray) (c : Int) (w : World) :
  Calls Tryz.prog 111 #[.string s, .int .u8 c] w fun e w' => e = .returned (.int .i64 (Lib.indexByte s.data.toList c.toNat.toUInt8)) ∧ w' = w := by
 go_enter Tryz.func111, Tryz.ntmps111
 go_wp2
 rw [run_callFunc_extern Tryz.func161 (by kernel_rfl) (by kernel_rfl) (by kernel_rfl) (e := Extern.BytealgIndexByte.indexByte) (by kernel_rfl), Lib.run_indexByteString]
 simp only [Result.andThen]
 rw [Oper.upon_value]
 go_wp2
 go_ret
 exact ⟨rfl, rfl⟩
theorem a0I (s : ByteArray) (c : Int) (w : World) :
  Calls Tryz.prog 75 #[.string s, .int .u8 c] w fun e w' => e = .returned (.int .i64 (Lib.indexByte s.data.toList c.toNat.toUInt8)) ∧ w' = w := by
 go_enter Tryz.func75, Tryz.ntmps75
 go_wp2_with (go_at_call 111; refine (T9 _ _ _).mono ?_; rintro e w' ⟨rfl, rfl⟩)
 go_ret
 exact ⟨rfl, rfl⟩
theorem a4z (s : ByteArray) (c : Int) : FC Tryz.prog 75 none [sv s, ki .u8 c] (fun _ r => r = iv (Lib.indexByte s.data.toList c.toNat.toUInt8)) :=
 b2f [.string s, .int .u8 c] ⟨Tryz.f75, Tryz.func75, by kernel_rfl, by kernel_rfl⟩ rfl fun w => a0I s c w
theorem a5u (b : ByteArray) (hsz : b.size ≤ 9223372036854775807) : FC Tryz.prog 114 none [sv b] (fun _ r => r = bv (m5 b)) := by
 refine fcE Tryz.func114 (aL [[0],[0,21],[2],[0,23,24],[0,23,24,25],[0,3,23,24],[0,4,23,24],[0,23,24,52],[2],[0,23,24],[2]]) ?_
 have e1 := a4c b
 by_cases c1 : b.size = 0
 ·have ek : m5 b = false := by unfold m5; rw [decide_eq_false (by omega)]; simp
  rw [decide_eq_true c1] at e1
  rw [ek]
  refine qv ?_
  simp only [e1]
  exact qt
 rw [decide_eq_false c1] at e1
 by_cases c2 : b.size > 40
 ·have ek : m5 b = false := by unfold m5; rw [decide_eq_false (by omega)]; simp
  rw [ek]
  exact qt
 by_cases c3 : v8 b 0 < 97 ∨ v8 b 0 > 122
 ·have ek : m5 b = false := by unfold m5; rw [decide_eq_false (show ¬(97 ≤ v8 b 0 ∧ v8 b 0 ≤ 122) by omega)]; simp
  rw [ek]
  have c5 : (b.data.toList.getD (Int.toNat 0) 0).toNat < 97 ∨ (b.data.toList.getD (Int.toNat 0) 0).toNat > 122 := c3
  by_cases c4 : (b.data.toList.getD (Int.toNat 0) 0).toNat < 97
  ·exact qt
  ·exact qt
 have ek : m5 b = P8 b0B b b.size := by unfold m5; rw [decide_eq_true (by omega), decide_eq_true (by omega)]; simp
 rw [ek]
 have c5 : ¬((b.data.toList.getD (Int.toNat 0) 0).toNat < 97 ∨ (b.data.toList.getD (Int.toNat 0) 0).toNat > 122) := c3
 refine qv ?_
 simp only [e1]
 refine qv ?_
 refine j9 (fun i => ⟨m9 [(0, sv b), (23, iv b.size), (24, iv i)], f9 [], f9 []⟩) (fun i => 0 ≤ i ∧ i ≤ b.size ∧ P8 b0B b i.toNat = true) (fun i => (b.size - i).toNat) 0 ⟨by omega, by omega, rfl⟩ rfl ?_
 rintro i ⟨h1, h2, h3⟩
 by_cases hi : i < b.size
 ·have hk : b0B (v8 b i.toNat) = (decide (97 ≤ v8 b i.toNat ∧ v8 b i.toNat ≤ 122) || decide (48 ≤ v8 b i.toNat ∧ v8 b i.toNat ≤ 57) || decide (v8 b i.toNat = 45) || decide (v8 b i.toNat = 95)) := rfl
  have e2 : (i + 1).toNat = i.toNat + 1 := by omega
  by_cases hb : b0B (v8 b i.toNat) = true
  ·have h4 : P8 b0B b (i + 1).toNat = true := by rw [e2, P8, h3, hb]; rfl
   have hb2 := hb
   unfold b0B at hb
   simp only [Bool.or_eq_true, decide_eq_true_eq] at hb
   unfold v8 at hb
   refine qv ?_
   grind
  ·have h4 : P8 b0B b b.size = false := by
    apply Bool.eq_false_iff.2
    intro h
    exact hb (allTo_lt.1 h i.toNat (by omega))
   unfold b0B at hb
   simp only [Bool.or_eq_true, decide_eq_true_eq] at hb
   unfold v8 at hb
   rw [h4]
   refine qv ?_
   grind
 ·rw [show i.toNat = b.size by omega] at h3
  rw [h3]
  exact qt
def cutB : ByteArray := ByteArray.mk #[97, 98, 99, 100, 101, 102, 103, 104, 105, 106, 107, 108, 109, 110, 111, 112, 113, 114, 115, 116, 117, 118, 119, 120, 121, 122, 48, 49, 50, 51, 52, 53, 54, 55, 56, 57, 45, 95]
def smallB : ByteArray := ByteArray.mk #[97, 98, 99, 100, 101, 102, 103, 104, 105, 106, 107, 108, 109, 110, 111, 112, 113, 114, 115, 116, 117, 118, 119, 120, 121, 122]
theorem d1p : ∀ i, i < cutB.size → v8 cutB i < 128 := fun i hi => by
 have h : (List.range 38).all (fun i => decide (v8 cutB i < 128)) = true := by kernel_rfl
 have hs : cutB.size = 38 := by kernel_rfl
 grind
theorem c7f (c : Nat) (hc : c < 256) : a2G cutB cutB.size c = b0B c := by
 have h : (List.range 256).all (fun c => a2G cutB cutB.size c == b0B c) = true := by kernel_rfl
 grind
theorem b4L (c : Nat) (hc : c < 256) : decide (Lib.indexByte smallB.data.toList ((c : Int).toNat.toUInt8) ≥ 0) = decide (97 ≤ c ∧ c ≤ 122) := by
 have h : (List.range 256).all (fun c => decide (Lib.indexByte smallB.data.toList (c.toUInt8) ≥ 0) == decide (97 ≤ c ∧ c ≤ 122)) = true := by kernel_rfl
 grind
theorem c7T {p : Nat → Bool} {b : ByteArray} : ∀ n, trR p b n = 0 ↔ P8 p b n = true
 | 0 => by simp [trR, P8]
 | n + 1 => by
  rw [trR, P8, Bool.and_eq_true, ← c7T n]
  all_goals grind
theorem a8r {p : Nat → Bool} {b : ByteArray} : ∀ n, trR p b n ≠ 0 → p (v8 b (trR p b n - 1)) = false
 | 0, h => absurd rfl h
 | n + 1, h => by
  rw [trR] at h ⊢
  by_cases c : p (v8 b n) = true
  ·rw [if_pos c] at h ⊢; exact a8r n h
  ·rw [if_neg c]; simpa using c
theorem c7z {p : Nat → Bool} {b : ByteArray} : ∀ n, trL p b n = 0 → ∀ i, i < n → p (v8 b (b.size - (i + 1))) = true
 | 0, _, i, hi => by omega
 | n + 1, h, i, hi => by
  rw [trL] at h
  split at h
  ·rename_i hp
   by_cases e : i = n
   ·subst e; exact hp
   ·exact c7z n h i (by omega)
  ·omega
theorem c2n {p : Nat → Bool} {b : ByteArray} : (b0i p b).size = 0 ↔ P8 p b b.size = true := by
 have h1 := a7M (p := p) (b := b) b.size
 have h2 := Z0 (b := b) (l := 0) (h := trR p b b.size) h1
 rw [Nat.sub_zero] at h2
 rw [← c7T]
 unfold b0i
 have h4 := a3K (b := b) (l := 0) (h := trR p b b.size) (i := trR p b b.size - 1)
 generalize hX : b.extract 0 (trR p b b.size) = X at *
 have h3 := b9X (p := p) (b := X) X.size
 rw [Z0 (Nat.le_refl _), show X.size - (X.size - trL p X X.size) = trL p X X.size by omega]
 constructor
 ·intro h
  apply Classical.byContradiction
  intro hn
  have h5 := a8r b.size hn
  have h6 := c7z X.size h 0 (by omega)
  grind
 ·grind
theorem a1C {p q : Nat → Bool} {b : ByteArray} (h : ∀ c, c < 256 → p c = q c) : ∀ n, P8 p b n = P8 q b n
 | 0 => rfl
 | n + 1 => by rw [P8, P8, a1C h n, h _ (a3d b n)]
theorem a1y (b : ByteArray) (hsz : b.size ≤ 9223372036854775807) : FC Tryz.prog 38 none [sv b] (fun _ r => r = bv (m5 b)) := by
 refine fcE Tryz.func38 (aL [[0],[2]]) ?_
 refine qc (J5 _ _ _) ?_
 by_cases c1 : 1 ≤ (b.size : Int) ∧ (b.size : Int) ≤ 40
 ·rw [decide_eq_true c1]
  have ht := c3T b cutB d1p hsz (of_decide_eq_true (by kernel_rfl)) (by omega) (of_decide_eq_true (by kernel_rfl))
  have he := a4c (b0i (a2G cutB cutB.size) b)
  have h0 := c2n (p := a2G cutB cutB.size) (b := b)
  rw [a1C c7f b.size] at h0
  generalize b0i (a2G cutB cutB.size) b = T at *
  refine qc ht ?_
  have hsm := b4L (v8 b 0) (a3d b 0)
  have hic := a4z smallB (((b.data.toList.getD (Int.toNat 0) 0).toNat : Nat) : Int)
  have ek : m5 b = (decide (T.size = 0) && decide (97 ≤ v8 b 0 ∧ v8 b 0 ≤ 122)) := by
   unfold m5
   all_goals grind
  rw [ek, ← hsm]
  clear ek hsm
  by_cases ct : T.size = 0
  ·rw [decide_eq_true ct] at he ⊢
   refine qv ?_
   simp only [he]
   refine qc hic ?_
   refine qv ?_
   rfl
  ·rw [decide_eq_false ct] at he ⊢
   refine qv ?_
   simp only [he]
   refine qv ?_
   rfl
 ·rw [decide_eq_false c1]
  have ek : m5 b = false := by unfold m5; rw [decide_eq_false (by omega)]; simp
  rw [ek]
  exact qt
end Go.Proofs.YtbhgndiboeppeaaGreatDoor
