/- Alarms. -/
import Derived.Lib.Bytealg
import Derived.Lib.Strings
import Derived.Lib.Walk
import Derived.Test.YtnlafmigfjlnnaaGreatDoorBas
set_option linter.all false
set_option maxHeartbeats 0
set_option maxRecDepth 100000
namespace Go.Proofs.YtnlafmigfjlnnaaGreatDoor
open Go Go.Ai
def u4 (b : ByteArray) (i : Nat) : Nat := (b.data.toList.getD i 0).toNat
def O5 (p : Nat -> Bool) (b : ByteArray) : Nat -> Bool
 | 0 => true
 | n + 1 => O5 p b n && p (u4 b n)
def b3b (n : Nat) : Bool := decide (97 <= n ∧ n <= 122) || decide (48 <= n ∧ n <= 57) || decide (n = 45) || decide (n = 95)
def l8 (b : ByteArray) : Bool := decide (1 <= b.size ∧ b.size <= 40) && decide (97 <= u4 b 0 ∧ u4 b 0 <= 122) && O5 b3b b b.size
theorem allTo_lt {p : Nat -> Bool} {b : ByteArray} : ∀ {n : Nat}, O5 p b n = true ↔ ∀ i, i < n -> p (u4 b i) = true
 | 0 => by simp [O5]
 | n + 1 => by
  rw [O5, Bool.and_eq_true, allTo_lt]
  all_goals grind
theorem a3f (b : ByteArray) : (b.toList == (ByteArray.mk #[]).toList) = decide (b.size = 0) := by
 rw [ByteArray.toList_eq, ByteArray.toList_eq]
 by_cases e : b.size = 0
 ·have : b = ByteArray.mk #[] := by
   cases b with | mk d => simp [ByteArray.size] at e; simp [e]
  subst this; rfl
 ·rw [decide_eq_false e]
  apply Bool.eq_false_iff.2
  intro h2
  have := beq_iff_eq.1 h2
  rw [Lib.size_eq, this] at e
  exact e rfl
theorem a3k (b : ByteArray) (i : Nat) : u4 b i < 256 := (b.data.toList.getD i 0).toNat_lt
theorem a3I {b : ByteArray} {l h i : Nat} (hi : i < h - l) (hh : h <= b.size) : u4 (b.extract l h) i = u4 b (l + i) := by
 unfold u4
 rw [Lib.extract_data, List.getD_eq_getElem?_getD, List.getD_eq_getElem?_getD, List.getElem?_take_of_lt (by omega), List.getElem?_drop]
theorem Z2 {b : ByteArray} {l h : Nat} (hh : h <= b.size) : (b.extract l h).size = h - l := by
 rw [ByteArray.size_extract]; omega
theorem b3p {b : ByteArray} {l h l' h' : Nat} (hl : l <= h) (hh : h' <= h - l) : (b.extract l h).extract l' h' = b.extract (l + l') (l + h') := by
 rw [ByteArray.extract_extract]
 congr 1
 omega
def G4 (p : Nat -> Bool) : List Cel := (List.range 256).map fun c => .g (.bool (p c))
section
variable {s : AS} {p : Nat -> Bool} {d : Option Nat}
theorem U8 {f : Cel -> Cel} (h : ∀ v, f (.g v) = .g v) : (G4 p).map f = G4 p := by
 unfold G4; rw [List.map_map]
 exact List.map_congr_left fun c _ => h _
theorem c6A {K : Kp} : (G4 p).map (s.renC K) = G4 p := U8 fun _ => rfl
theorem b8e {m : CAnn} : (G4 p).map (s.passC m) = G4 p := U8 fun _ => rfl
theorem b7l {m : CAnn} : (G4 p).map (s.backC m) = G4 p := U8 fun _ => rfl
theorem b6w : (G4 p).map s.viewC = G4 p := U8 fun _ => rfl
theorem c4z : (G4 p).map s.finC = G4 p := U8 fun _ => rfl
theorem c5j : (G4 p).map Cel.dat = G4 p := U8 fun _ => rfl
theorem a4v {a b : Nat -> Nat} : (G4 p).map (rnC a b) = G4 p := U8 fun _ => rfl
theorem a7r {f : Cel -> Bool} (h : ∀ v, f (.g v) = true) : (G4 p).all f = true := by
 rw [List.all_eq_true]
 intro c hc
 obtain ⟨n, _, rfl⟩ := List.mem_map.1 hc
 exact h _
theorem b1n : (G4 p).all C8 = true := a7r fun _ => rfl
theorem b9A : (G4 p).all C7 = true := a7r fun _ => rfl
theorem H9 : (G4 p).length = 256 := by simp [G4]
theorem b8g : (G4 p).drop 256 = [] := List.drop_eq_nil_of_le (by rw [H9]; exact Nat.le_refl _)
theorem b6E : (G4 p).take 256 = G4 p := List.take_of_length_le (by rw [H9]; exact Nat.le_refl _)
theorem c7x : (List.replicate 256 (Value.bool false)).map Cel.g = G4 (fun _ => false) := by
 unfold G4
 rw [List.map_replicate, List.map_const', List.length_range]
theorem a3D {o : Nat} (h : o < 256) : (G4 p)[o]? = some (.g (.bool (p o))) := by
 unfold G4
 grind
theorem b7f {o n : Nat} (h : o < 256) : Q0 s d false n ((G4 p).drop o) = .ok (s.put d (.one (.g (.bool (p o))))) := by
 have h1 : o < (G4 p).length := by rw [H9]; exact h
 have h2 := a3D (p := p) h
 rw [List.getElem?_eq_getElem h1] at h2
 injection h2 with h2
 rw [List.drop_eq_getElem_cons h1, h2]; rfl
theorem b2P {q : Nat -> Bool} (h : ∀ c, c < 256 -> p c = q c) : G4 p = G4 q := List.map_congr_left fun c hc => by rw [h c (List.mem_range.1 hc)]
theorem c5w {o : Nat} {v : Bool} (h : o < 256) : wr (G4 p) o [Cel.g (.bool v)] = G4 (fun c => if c = o then v else p c) := by
 apply List.ext_getElem?
 intro i
 unfold wr
 by_cases hi : i < 256
 ·rw [a3D hi]
  by_cases h1 : i < o
  ·rw [List.append_assoc, List.getElem?_append_left (by rw [List.length_take, H9]; omega), List.getElem?_take_of_lt h1, a3D hi, if_neg (by omega)]
  ·by_cases h2 : i = o
   ·subst h2
    rw [List.append_assoc, List.getElem?_append_right (by rw [List.length_take, H9]; omega), List.length_take, H9, show i - min i 256 = 0 by omega, if_pos rfl]; rfl
   ·rw [List.getElem?_append_right (by rw [List.length_append, List.length_take, H9]; simp; omega), List.length_append, List.length_take, H9, List.length_singleton, List.getElem?_drop, show o + 1 + (i - (min o 256 + 1)) = i by omega, a3D hi, if_neg h2]
 ·rw [List.getElem?_eq_none (by rw [List.length_append, List.length_append, List.length_take, List.length_drop, H9]; simp; omega), List.getElem?_eq_none (by rw [H9]; omega)]
end
attribute [go_sem] c6A b8e b7l b6w c4z c5j a4v b1n b9A H9 b8g b6E c7x b7f
attribute [go_sem high] c5w
attribute [go_sem] Nat.mul_one Int.toNat_natCast
def a2z (b : ByteArray) : Nat -> Nat -> Bool
 | 0, _ => false
 | n + 1, c => a2z b n c || decide (c = u4 b n)
section
variable {P : Program} {Q : AX -> AS -> Prop} {s : AS} {k : List KI} {kp : Option Keep} {l : List GI}
theorem a5d {f : FuncId} {H0 X0 H : Hp} {Y0 : Val} {args0 vargs : List Val} {bks rks obs ors : List Nat} {d : Option Nat} (X : Hp) (Y : Val) (p q : Nat -> Nat) (hp : ∀ k, p (p k) = k) (hq : ∀ k, q (q k) = k) (hf : FCM P f H0 args0 (fun H' r' => H' = X0 ∧ r' = Y0)) (hna : ∀ x ∈ args0, ∀ xs, x ≠ .tu xs)
  (hH : H0.rn p q = H) (ha : args0.map (rnV p q) = vargs) (hX : X0.rn p q = X) (hY : rnV p q Y0 = Y) (hk : X.bs.map (·.1) = obs ∧ X.rs.map (·.1) = ors) (h : rg P l kp k Q ((s.after ⟨bks, rks, obs, ors, []⟩ X).put d (s.backV ⟨bks, rks, obs, ors, []⟩ Y))) (hb : H0.bs.all (fun x => W1 x.1 == W1 (p x.1)) = true := by rfl) : a6D P f H vargs ⟨bks, rks, obs, ors, []⟩ d l kp k Q s := by
 subst hX; subst hY
 exact a7K p q hp hq hf hna hH ha hk h hb
end
theorem a0t (p : Nat -> Bool) (c : Nat) (hc : c < 256) : FCM Tryz.prog 152 ⟨[(1000001, G4 p)], []⟩ [.one (.bx 1000001 0), ki .u8 c] (fun H r => H = ⟨[(1000001, G4 p)], []⟩ ∧ r = bv (p c)) := by
 refine fmE Tryz.func152 (aM [1000001] [] [[0,1,1000001],[4]]) ⟨[], [1000001], []⟩ ?_
 exact qt
theorem b8Z (b : ByteArray) (hb : ∀ i, i < b.size -> u4 b i < 128) (hsz : b.size <= 9223372036854775807) : FC Tryz.prog 111 none [sv b] (fun _ r => r = .tu [.ag (G4 (a2z b b.size)), bv true]) := by
 refine fcE Tryz.func111 (aM [2] [] [[0,2],[0,2,4],[0,2,4,9],[0,2,4,5],[0,2,4,5,16],[2,3],[0,2,4],[0,2,4],[2,3]]) ?_
 refine qv ?_
 refine l0 (fun i => ⟨m7 [(0, sv b), (2, .one (.bx 2 0)), (4, iv i)], f7 [(2, G4 (a2z b i.toNat))], f7 []⟩) (fun i => 0 <= i ∧ i <= b.size) (fun i => (b.size - i).toNat) 0 ⟨by omega, by omega⟩ rfl ?_
 rintro i ⟨h1, h2⟩
 by_cases hi : i < b.size
 ·have hlt := hb i.toNat (by omega)
  have e2 : (i + 1).toNat = i.toNat + 1 := by omega
  have e3 : G4 (a2z b (i + 1).toNat) = G4 (fun c => if c = u4 b i.toNat then true else a2z b i.toNat c) := b2P fun c _ => by
   rw [e2, a2z]
   grind
  unfold u4 at e3 hlt
  refine qv ?_
  grind
 ·refine qv ?_
  grind
def trR (p : Nat -> Bool) (b : ByteArray) : Nat -> Nat
 | 0 => 0
 | n + 1 => if p (u4 b n) = true then trR p b n else n + 1
def trL (p : Nat -> Bool) (b : ByteArray) : Nat -> Nat
 | 0 => 0
 | n + 1 => if p (u4 b (b.size - (n + 1))) = true then trL p b n else n + 1
theorem a8e {p : Nat -> Bool} {b : ByteArray} : ∀ n, trR p b n <= n
 | 0 => Nat.le_refl _
 | n + 1 => by rw [trR]; split; exact Nat.le_succ_of_le (a8e n); exact Nat.le_refl _
theorem c0L {p : Nat -> Bool} {b : ByteArray} : ∀ n, trL p b n <= n
 | 0 => Nat.le_refl _
 | n + 1 => by rw [trL]; split; exact Nat.le_succ_of_le (c0L n); exact Nat.le_refl _
theorem b2z (p : Nat -> Bool) (b : ByteArray) (hsz : b.size <= 9223372036854775807) : FCM Tryz.prog 113 ⟨[(1000001, G4 p)], []⟩ [sv b, .one (.bx 1000001 0)] (fun H r => H = ⟨[(1000001, G4 p)], []⟩ ∧ r = sv (b.extract 0 (trR p b b.size))) := by
 refine fmE Tryz.func113 (aM [1000001] [] [[0,1,1000001],[0,1,7,1000001]] ++ [⟨(kP [0,1,15,1000001] [1000001] []),[],[],[],[(14,⟨[1000001],[],[1000001],[],[]⟩)]⟩] ++ aM [1000001] [] [[0,1,1000001],[4]]) ⟨[], [1000001], []⟩ ?_
 refine qv ?_
 refine l0 (fun j : Nat => ⟨m7 [(0, sv (b.extract 0 j)), (1, .one (.bx 1000001 0)), (1000001, .any)], f7 [(1000001, G4 p)], f7 []⟩) (fun j => j <= b.size ∧ trR p b j = trR p b b.size) (fun j => j) b.size ⟨Nat.le_refl _, rfl⟩ (by simp only [ByteArray.extract_zero_size]) ?_
 rintro j ⟨h2, h3⟩
 have hs := Z2 (b := b) (l := 0) (h := j) (by omega)
 rw [Nat.sub_zero] at hs
 by_cases hj : 0 < j
 ·have hb := a3I (b := b) (l := 0) (h := j) (i := j - 1) (by omega) (by omega)
  have hlt := a3k b (j - 1)
  have hx := b3p (b := b) (l := 0) (h := j) (l' := 0) (h' := j - 1) (by omega) (by omega)
  rw [Nat.zero_add, Nat.zero_add] at hx
  rw [Nat.zero_add] at hb
  rw [<- hb] at hlt
  have hc := a0t p (u4 (b.extract 0 j) (j - 1)) hlt
  have e2 : j = (j - 1) + 1 := by omega
  rw [e2, trR, <- hb] at h3
  rw [<- e2] at h3
  generalize hX : b.extract 0 j = X at *
  have e4 : ((X.size : Int) - 1).toNat = j - 1 := by omega
  unfold u4 at hlt hc h3
  rw [<- e4] at hlt hc h3
  refine qv ?_
  refine ⟨rfl, e7 hc ⟨rfl, rfl⟩ ?_⟩
  cases hp : p (X.data.toList.getD ((X.size : Int) - 1).toNat 0).toNat with
  | true =>
   rw [hp, if_pos rfl] at h3
   rw [e4] at h3
   have e5 : (IntKind.i64.wrap ((X.size : Int) - 1)).toNat = j - 1 := by rw [wrap_i64 _ (by omega) (by omega)]; omega
   refine qv ?_
   grind
  | false =>
   rw [hp, if_neg (by simp)] at h3
   refine qv ?_
   rw [<- h3, hX]
 ·have e0 : j = 0 := by omega
  subst e0
  rw [trR] at h3
  rw [<- h3]
  exact qt
theorem b3B (p : Nat -> Bool) (b : ByteArray) (hsz : b.size <= 9223372036854775807) : FCM Tryz.prog 112 ⟨[(1000001, G4 p)], []⟩ [sv b, .one (.bx 1000001 0)] (fun H r => H = ⟨[(1000001, G4 p)], []⟩ ∧ r = sv (b.extract (b.size - trL p b b.size) b.size)) := by
 refine fmE Tryz.func112 (aM [1000001] [] [[0,1,1000001],[0,1,7,1000001]] ++ [⟨(kP [0,1,12,1000001] [1000001] []),[],[],[],[(11,⟨[1000001],[],[1000001],[],[]⟩)]⟩] ++ aM [1000001] [] [[0,1,1000001],[4]]) ⟨[], [1000001], []⟩ ?_
 refine qv ?_
 refine l0 (fun j : Nat => ⟨m7 [(0, sv (b.extract (b.size - j) b.size)), (1, .one (.bx 1000001 0)), (1000001, .any)], f7 [(1000001, G4 p)], f7 []⟩) (fun j => j <= b.size ∧ trL p b j = trL p b b.size) (fun j => j) b.size ⟨Nat.le_refl _, rfl⟩ (by simp only [Nat.sub_self, ByteArray.extract_zero_size]) ?_
 rintro j ⟨h2, h3⟩
 have hs := Z2 (b := b) (l := b.size - j) (h := b.size) (by omega)
 rw [show b.size - (b.size - j) = j by omega] at hs
 by_cases hj : 0 < j
 ·have hb := a3I (b := b) (l := b.size - j) (h := b.size) (i := 0) (by omega) (by omega)
  have hlt := a3k b (b.size - j)
  have hx := b3p (b := b) (l := b.size - j) (h := b.size) (l' := 1) (h' := j) (by omega) (by omega)
  rw [show b.size - j + 1 = b.size - (j - 1) by omega, show b.size - j + j = b.size by omega] at hx
  rw [Nat.add_zero] at hb
  rw [<- hb] at hlt
  have hc := a0t p (u4 (b.extract (b.size - j) b.size) 0) hlt
  have e2 : j = (j - 1) + 1 := by omega
  rw [e2, trL, show b.size - (j - 1 + 1) = b.size - j by omega, <- hb] at h3
  rw [<- e2] at h3
  generalize hX : b.extract (b.size - j) b.size = X at *
  unfold u4 at hlt hc h3
  refine qv ?_
  refine ⟨rfl, e7 hc ⟨rfl, rfl⟩ ?_⟩
  cases hp : p (X.data.toList.getD 0 0).toNat with
  | true =>
   rw [hp, if_pos rfl] at h3
   refine qv ?_
   grind
  | false =>
   rw [hp, if_neg (by simp)] at h3
   refine qv ?_
   rw [<- h3, hX]
 ·have e0 : j = 0 := by omega
  subst e0
  rw [trL] at h3
  rw [<- h3]
  exact qt
def b0d (p : Nat -> Bool) (b : ByteArray) : ByteArray := (b.extract 0 (trR p b b.size)).extract ((b.extract 0 (trR p b b.size)).size - trL p (b.extract 0 (trR p b b.size)) (b.extract 0 (trR p b b.size)).size) (b.extract 0 (trR p b b.size)).size
theorem c4X (b cut : ByteArray) (hc : ∀ i, i < cut.size -> u4 cut i < 128) (hsz : b.size <= 9223372036854775807) (hcz : cut.size <= 9223372036854775807) (h0 : b.size ≠ 0) (h1 : 2 <= cut.size) : FC Tryz.prog 74 none [sv b, sv cut] (fun _ r => r = sv (b0d (a2z cut cut.size) b)) := by
 refine fcE Tryz.func74 (aM [5] [] [[0,1,5],[0,1,5,12],[4,5],[0,1,5,21],[4,5],[0,1,5,6],[0,1,5,34]] ++ [⟨(kP [4,5] [5] []),[],[],[],[(36,⟨[5],[],[5],[],[]⟩),(37,⟨[5],[],[5],[],[]⟩)]⟩,aN [4,5] [5] []]) ?_
 have e1 := a3f b
 have e2 := a3f cut
 rw [decide_eq_false h0] at e1
 rw [decide_eq_false (show cut.size ≠ 0 by omega)] at e2
 have hm := b8Z cut hc hcz
 have hr := b2z (a2z cut cut.size) b hsz
 have hz : (b.extract 0 (trR (a2z cut cut.size) b b.size)).size = trR (a2z cut cut.size) b b.size := by rw [Z2 (a8e _), Nat.sub_zero]
 have hl := b3B (a2z cut cut.size) (b.extract 0 (trR (a2z cut cut.size) b b.size)) (by rw [hz]; have := a8e (p := a2z cut cut.size) (b := b) b.size; omega)
 unfold b0d
 generalize b.extract 0 (trR (a2z cut cut.size) b b.size) = b1 at *
 generalize a2z cut cut.size = p at *
 refine qv ?_
 simp only [e1, e2]
 refine qv ?_
 refine m9 hm (.inl (by have h : (G4 p).all o6 = true := a7r fun _ => rfl; simp only [P2, List.all_cons, List.all_nil, h, Bool.true_and, Bool.and_true]; rfl)) ?_
 refine qv ?_
 refine ⟨rfl, a5d ⟨[(5, G4 p)], []⟩ (sv b1) (swp 5 1000001) (fun k => k) (s8 5 1000001) (fun _ => rfl) hr (by simp) (by simp [Hp.rn, a4v, swp]) rfl (by simp [Hp.rn, a4v, swp]) rfl ⟨rfl, rfl⟩ ?_⟩
 refine qv ?_
 refine ⟨rfl, a5d ⟨[(5, G4 p)], []⟩ (sv (b1.extract (b1.size - trL p b1 b1.size) b1.size)) (swp 5 1000001) (fun k => k) (s8 5 1000001) (fun _ => rfl) hl (by simp) (by simp [Hp.rn, a4v, swp]) rfl (by simp [Hp.rn, a4v, swp]) rfl ⟨rfl, rfl⟩ ?_⟩
 exact qt
theorem b4p {P : Program} {f : FuncId} (us : List Value) {v : Value} (hb : U5 P f) (hv : v.oneCell' = true) (h : ∀ w, Calls P f us.toArray w fun e w' => e = .returned v ∧ w' = w) : FC P f none (us.map fun u => .one (.g u)) (fun _ r => r = .one (.g v)) := by
 refine ⟨hb, fun w okA g vs _ _ hlen hrel => ?_⟩
 have hus : vs = us := by
  apply List.ext_getElem (by simpa using hlen.symm)
  intro i h1 h2
  have := hrel i (.one (.g us[i])) vs[i] (by simp [h2]) (by simp [h1])
  exact q9 this rfl
 subst hus
 refine Calls.mono (h w) ?_
 rintro e w' ⟨rfl, rfl⟩
 exact ⟨v, [], _, rfl, rfl, .refl _ _, .one ⟨rfl, hv⟩, fun h => by cases h⟩
theorem S7 (s : ByteArray) (c : Int) (w : World) :
  Calls Tryz.prog 116 #[.string s, .int .u8 c] w fun e w' => e = .returned (.int .i64 (Lib.indexByte s.data.toList c.toNat.toUInt8)) ∧ w' = w := by
 go_enter Tryz.func116, Tryz.ntmps116
 go_wp2
 rw [run_callFunc_extern Tryz.func156 (by kernel_rfl) (by kernel_rfl) (by kernel_rfl) (e := Extern.BytealgIndexByte.indexByte) (by kernel_rfl), Lib.run_indexByteString]
 simp only [Result.andThen]
 rw [Oper.upon_value]
 go_wp2
 go_ret
 exact ⟨rfl, rfl⟩
theorem a0E (s : ByteArray) (c : Int) (w : World) :
  Calls Tryz.prog 75 #[.string s, .int .u8 c] w fun e w' => e = .returned (.int .i64 (Lib.indexByte s.data.toList c.toNat.toUInt8)) ∧ w' = w := by
 go_enter Tryz.func75, Tryz.ntmps75
 go_wp2_with (go_at_call 116; refine (S7 _ _ _).mono ?_; rintro e w' ⟨rfl, rfl⟩)
 go_ret
 exact ⟨rfl, rfl⟩
theorem a5J (s : ByteArray) (c : Int) : FC Tryz.prog 75 none [sv s, ki .u8 c] (fun _ r => r = iv (Lib.indexByte s.data.toList c.toNat.toUInt8)) :=
 b4p [.string s, .int .u8 c] ⟨Tryz.f75, Tryz.func75, by kernel_rfl, by kernel_rfl⟩ rfl fun w => a0E s c w
theorem a5r (b : ByteArray) (hsz : b.size <= 9223372036854775807) : FC Tryz.prog 130 none [sv b] (fun _ r => r = bv (l8 b)) := by
 refine fcE Tryz.func130 (aL [[0],[0,21],[2],[0,23,24],[0,23,24,25],[0,3,23,24],[0,4,23,24],[0,23,24,52],[2],[0,23,24],[2]]) ?_
 have e1 := a3f b
 by_cases c1 : b.size = 0
 ·have ek : l8 b = false := by unfold l8; rw [decide_eq_false (by omega)]; simp
  rw [decide_eq_true c1] at e1
  rw [ek]
  refine qv ?_
  simp only [e1]
  exact qt
 rw [decide_eq_false c1] at e1
 by_cases c2 : b.size > 40
 ·have ek : l8 b = false := by unfold l8; rw [decide_eq_false (by omega)]; simp
  rw [ek]
  exact qt
 by_cases c3 : u4 b 0 < 97 ∨ u4 b 0 > 122
 ·have ek : l8 b = false := by unfold l8; rw [decide_eq_false (show ¬(97 <= u4 b 0 ∧ u4 b 0 <= 122) by omega)]; simp
  rw [ek]
  have c5 : (b.data.toList.getD (Int.toNat 0) 0).toNat < 97 ∨ (b.data.toList.getD (Int.toNat 0) 0).toNat > 122 := c3
  by_cases c4 : (b.data.toList.getD (Int.toNat 0) 0).toNat < 97
  ·exact qt
  ·exact qt
 have ek : l8 b = O5 b3b b b.size := by unfold l8; rw [decide_eq_true (by omega), decide_eq_true (by omega)]; simp
 rw [ek]
 have c5 : ¬((b.data.toList.getD (Int.toNat 0) 0).toNat < 97 ∨ (b.data.toList.getD (Int.toNat 0) 0).toNat > 122) := c3
 refine qv ?_
 simp only [e1]
 refine qv ?_
 refine l0 (fun i => ⟨m7 [(0, sv b), (23, iv b.size), (24, iv i)], f7 [], f7 []⟩) (fun i => 0 <= i ∧ i <= b.size ∧ O5 b3b b i.toNat = true) (fun i => (b.size - i).toNat) 0 ⟨by omega, by omega, rfl⟩ rfl ?_
 rintro i ⟨h1, h2, h3⟩
 by_cases hi : i < b.size
 ·have hk : b3b (u4 b i.toNat) = (decide (97 <= u4 b i.toNat ∧ u4 b i.toNat <= 122) || decide (48 <= u4 b i.toNat ∧ u4 b i.toNat <= 57) || decide (u4 b i.toNat = 45) || decide (u4 b i.toNat = 95)) := rfl
  have e2 : (i + 1).toNat = i.toNat + 1 := by omega
  by_cases hb : b3b (u4 b i.toNat) = true
  ·have h4 : O5 b3b b (i + 1).toNat = true := by rw [e2, O5, h3, hb]; rfl
   have hb2 := hb
   unfold b3b at hb
   simp only [Bool.or_eq_true, decide_eq_true_eq] at hb
   unfold u4 at hb
   refine qv ?_
   grind
  ·have h4 : O5 b3b b b.size = false := by
    apply Bool.eq_false_iff.2
    intro h
    exact hb (allTo_lt.1 h i.toNat (by omega))
   unfold b3b at hb
   simp only [Bool.or_eq_true, decide_eq_true_eq] at hb
   unfold u4 at hb
   rw [h4]
   refine qv ?_
   grind
 ·rw [show i.toNat = b.size by omega] at h3
  rw [h3]
  exact qt
def cutB : ByteArray := ByteArray.mk #[97, 98, 99, 100, 101, 102, 103, 104, 105, 106, 107, 108, 109, 110, 111, 112, 113, 114, 115, 116, 117, 118, 119, 120, 121, 122, 48, 49, 50, 51, 52, 53, 54, 55, 56, 57, 45, 95]
def smallB : ByteArray := ByteArray.mk #[97, 98, 99, 100, 101, 102, 103, 104, 105, 106, 107, 108, 109, 110, 111, 112, 113, 114, 115, 116, 117, 118, 119, 120, 121, 122]
theorem c9n : ∀ i, i < cutB.size -> u4 cutB i < 128 := fun i hi => by
 have h : (List.range 38).all (fun i => decide (u4 cutB i < 128)) = true := by kernel_rfl
 have hs : cutB.size = 38 := by kernel_rfl
 grind
theorem d2j (c : Nat) (hc : c < 256) : a2z cutB cutB.size c = b3b c := by
 have h : (List.range 256).all (fun c => a2z cutB cutB.size c == b3b c) = true := by kernel_rfl
 grind
theorem b9K (c : Nat) (hc : c < 256) : decide (Lib.indexByte smallB.data.toList ((c : Int).toNat.toUInt8) >= 0) = decide (97 <= c ∧ c <= 122) := by
 have h : (List.range 256).all (fun c => decide (Lib.indexByte smallB.data.toList (c.toUInt8) >= 0) == decide (97 <= c ∧ c <= 122)) = true := by kernel_rfl
 grind
theorem c8Z {p : Nat -> Bool} {b : ByteArray} : ∀ n, trR p b n = 0 ↔ O5 p b n = true
 | 0 => by simp [trR, O5]
 | n + 1 => by
  rw [trR, O5, Bool.and_eq_true, <- c8Z n]
  all_goals grind
theorem a8d {p : Nat -> Bool} {b : ByteArray} : ∀ n, trR p b n ≠ 0 -> p (u4 b (trR p b n - 1)) = false
 | 0, h => absurd rfl h
 | n + 1, h => by
  rw [trR] at h ⊢
  by_cases c : p (u4 b n) = true
  ·rw [if_pos c] at h ⊢; exact a8d n h
  ·rw [if_neg c]; simpa using c
theorem c8V {p : Nat -> Bool} {b : ByteArray} : ∀ n, trL p b n = 0 -> ∀ i, i < n -> p (u4 b (b.size - (i + 1))) = true
 | 0, _, i, hi => by omega
 | n + 1, h, i, hi => by
  rw [trL] at h
  split at h
  ·rename_i hp
   by_cases e : i = n
   ·subst e; exact hp
   ·exact c8V n h i (by omega)
  ·omega
theorem c5r {p : Nat -> Bool} {b : ByteArray} : (b0d p b).size = 0 ↔ O5 p b b.size = true := by
 have h1 := a8e (p := p) (b := b) b.size
 have h2 := Z2 (b := b) (l := 0) (h := trR p b b.size) h1
 rw [Nat.sub_zero] at h2
 rw [<- c8Z]
 unfold b0d
 have h4 := a3I (b := b) (l := 0) (h := trR p b b.size) (i := trR p b b.size - 1)
 generalize hX : b.extract 0 (trR p b b.size) = X at *
 have h3 := c0L (p := p) (b := X) X.size
 rw [Z2 (Nat.le_refl _), show X.size - (X.size - trL p X X.size) = trL p X X.size by omega]
 constructor
 ·intro h
  apply Classical.byContradiction
  intro hn
  have h5 := a8d b.size hn
  have h6 := c8V X.size h 0 (by omega)
  grind
 ·grind
theorem a1q {p q : Nat -> Bool} {b : ByteArray} (h : ∀ c, c < 256 -> p c = q c) : ∀ n, O5 p b n = O5 q b n
 | 0 => rfl
 | n + 1 => by rw [O5, O5, a1q h n, h _ (a3k b n)]
theorem a1t (b : ByteArray) (hsz : b.size <= 9223372036854775807) : FC Tryz.prog 38 none [sv b] (fun _ r => r = bv (l8 b)) := by
 refine fcE Tryz.func38 (aL [[0],[2]]) ?_
 refine qc (G0 _ _ _) ?_
 by_cases c1 : 1 <= (b.size : Int) ∧ (b.size : Int) <= 40
 ·rw [decide_eq_true c1]
  have ht := c4X b cutB c9n hsz (of_decide_eq_true (by kernel_rfl)) (by omega) (of_decide_eq_true (by kernel_rfl))
  have he := a3f (b0d (a2z cutB cutB.size) b)
  have h0 := c5r (p := a2z cutB cutB.size) (b := b)
  rw [a1q d2j b.size] at h0
  generalize b0d (a2z cutB cutB.size) b = T at *
  refine qc ht ?_
  have hsm := b9K (u4 b 0) (a3k b 0)
  have hic := a5J smallB (((b.data.toList.getD (Int.toNat 0) 0).toNat : Nat) : Int)
  have ek : l8 b = (decide (T.size = 0) && decide (97 <= u4 b 0 ∧ u4 b 0 <= 122)) := by
   unfold l8
   all_goals grind
  rw [ek, <- hsm]
  clear ek hsm
  by_cases ct : T.size = 0
  ·rw [decide_eq_true ct] at he ⊢
   refine qv ?_
   simp only [he]
   refine qc hic ?_
   refine qv ?_
   rfl
  ·rw [decide_eq_false ct] at he ⊢
   refine qv ?_
   simp only [he]
   refine qv ?_
   rfl
 ·rw [decide_eq_false c1]
  have ek : l8 b = false := by unfold l8; rw [decide_eq_false (by omega)]; simp
  rw [ek]
  exact qt
def sd (L v : Int) : Int := if v < L then -1 else if v > L then 1 else 0
theorem X9 (L v : Int) : (v < L ∧ sd L v = -1) ∨ (v > L ∧ sd L v = 1) ∨ (v = L ∧ sd L v = 0) := by
 unfold sd; split
 ·left; exact ⟨by omega, rfl⟩
 ·split
  ·right; left; exact ⟨by omega, rfl⟩
  ·right; right; exact ⟨by omega, rfl⟩
theorem a8V (n : Int) : FC Tryz.prog 97 none [iv n] (fun _ r => r = bv false) := by
 refine fcE Tryz.func97 (aL [[0],[2]]) ?_
 refine qv ?_
 rw [decide_eq_false (by simp)]
theorem s6 (a b : Int) : FC Tryz.prog 55 none [iv a, iv b] (fun _ r => r = iv (sd b a)) := by
 refine fcE Tryz.func55 (aL [[0,1],[0,1,5],[0,1,5,6],[0,1,6,11],[12],[4],[4],[0,1,13],[4],[0,1,16],[4],[19],[4],[4]]) ?_
 refine qc (a8V _) ?_
 refine qc (a8V _) ?_
 refine qv ?_
 (repeat' (first | apply And.intro | intro _)) <;> first | rfl | omega | exact j8 (by first | omega | ((try simp only [sd]); (repeat' split) <;> (first | omega | (simp_all; done) | (simp_all; omega)))) | exact J7 (by first | omega | ((try simp only [sd]); (repeat' split) <;> omega)) | exact a0e (by first | omega | ((try simp only [sd]); (repeat' split) <;> omega)) | exact c7q (by first | omega | ((try simp only [sd]); (repeat' split) <;> omega)) | exact c7p (by first | omega | ((try simp only [sd]); (repeat' split) <;> omega))
def frC (x : Int × Int) : List Cel := [.g (.int .i64 x.1), .g (.int .i64 x.2)]
theorem T0 (x : Int × Int) : frC x = [.g (.int .i64 x.1), .g (.int .i64 x.2)] := (rfl)
theorem c7I (l : List (Int × Int)) : frE (l.map frC) = true := a1h (fun _ => rfl) l
theorem b4M (l : List (Int × Int)) : F8 (l.map frC) = l.map frC := X6 (fun _ => rfl) l
theorem c3q (l : List (Int × Int)) : a0k (l.map frC) = l.map frC := X3 (fun _ => rfl) l
attribute [go_sem] T0 c7I b4M c3q
abbrev a0C (fr : Bool) (l : List (Int × Int)) : Val := .one (.sl fr 2 (l.map frC))
def C3 : List Int -> Int
 | [] => 0
 | x :: l => if x ≠ 0 then x else C3 l
def d5L (fr : Bool) (l : List Int) (i : Int) : AS := ⟨m7 [(3, iv 0), (6, W0 fr l), (7, iv l.length), (8, iv i)], f7 [], f7 []⟩
theorem a5z (fr : Bool) (l : List Int) (hl : l.length <= 4611686018427387904) : FC Tryz.prog 10 none [W0 fr l] (fun _ r => r = iv (C3 l)) := by
 refine fcE Tryz.func10 (aL [[0],[0,3],[3,6,7,8],[3,6,7,8,9],[3,5,6,7,8],[3,5,6,7,8,14],[2],[3,6,7,8],[2]]) ?_
 refine qv ?_
 refine a0S (d5L fr l) (fun i => 0 <= i ∧ i <= l.length ∧ C3 (l.drop i.toNat) = C3 l) (fun i => (l.length - i).toNat) 0 ⟨by omega, by omega, rfl⟩ rfl ?_
 rintro i ⟨g1, g2, g3⟩
 unfold d5L
 by_cases hi : i < l.length
 ·rw [m5 l i.toNat (by omega), C3] at g3
  have e2 : (i + 1).toNat = i.toNat + 1 := by omega
  refine qv ?_
  refine ⟨fun h => ?_, fun h => ⟨i + 1, ⟨by omega, by omega, ?_⟩, rfl, by omega⟩⟩
  ·rw [if_pos h] at g3; rw [g3]
  ·rw [if_neg h] at g3; rw [e2]; exact g3
 ·refine qv ?_
  rw [<- g3, List.drop_eq_nil_of_le (by omega)]
  rfl
theorem e8 {α β : Type} [Inhabited α] (C : α -> β) (l : List α) (i : Int) (d : β) (h0 : 0 <= i) (h : i < l.length) : (l.map C).getD i.toNat d = C (l.getD i.toNat default) := t7 C l i.toNat d (by omega)
def c6E (L : Int) : Int := if -1000000 <= L ∧ L <= 1000000 then 0 else 1
theorem a3m (L : Int) : FC Tryz.prog 71 none [iv L] (fun _ r => r = iv (c6E L)) := by
 refine fcE Tryz.func71 (aL [[0],[2]]) ?_
 refine qc (D5 _ _ _) ?_
 refine qv ?_
 (repeat' (first | apply And.intro | intro _)) <;> first | rfl | omega | exact j8 (by first | omega | ((try simp only [c6E]); (repeat' split) <;> (first | omega | (simp_all; done) | (simp_all; omega)))) | exact J7 (by first | omega | ((try simp only [c6E]); (repeat' split) <;> omega)) | exact a0e (by first | omega | ((try simp only [c6E]); (repeat' split) <;> omega)) | exact c7q (by first | omega | ((try simp only [c6E]); (repeat' split) <;> omega)) | exact c7p (by first | omega | ((try simp only [c6E]); (repeat' split) <;> omega))
section
variable {P : Program} {Q : AX -> AS -> Prop} {s : AS} {k : List KI} {kp : Option Keep} {l : List GI}
theorem a4z {f : FuncId} {H0 X0 H : Hp} {Y0 : Val} {args0 vargs : List Val} {bks rks obs ors : List Nat} {d : Option Nat} (X : Hp) (Y : Val) (p q : Nat -> Nat) (hp : ∀ k, p (p k) = k) (hq : ∀ k, q (q k) = k) (hf : FCM P f H0 args0 (fun H' r' => H' = X0 ∧ r' = Y0)) (hna : ∀ x ∈ args0, ∀ xs, x ≠ .tu xs)
  (hH : H0.rn p q = H) (ha : args0.map (rnV p q) = vargs) (hX : X0.rn p q = X) (hY : rnV p q Y0 = Y) (hk : X.bs.map (·.1) = obs ∧ X.rs.map (·.1) = ors) (h : rg P l kp k Q ((s.after ⟨bks, rks, obs, ors, []⟩ X).put d (s.backV ⟨bks, rks, obs, ors, []⟩ Y))) (hb : H0.bs.all (fun x => W1 x.1 == W1 (p x.1)) = true := by rfl) : a6D P f H vargs ⟨bks, rks, obs, ors, []⟩ d l kp k Q s := by
 subst hX; subst hY
 exact a7K p q hp hq hf hna hH ha hk h hb
theorem C5 {f : FuncId} {S0 : List Nat} {H0 X0 H : Hp} {Y0 : Val} {args0 vargs : List Val} {m : CAnn} {d : Option Nat} (X : Hp) (Y : Val) (p q : Nat -> Nat) (hp : ∀ k, p (p k) = k) (hq : ∀ k, q (q k) = k) (hf : F9 P f S0 H0 args0 (fun H' r' => H' = X0 ∧ r' = Y0)) (hna : ∀ x ∈ args0, ∀ xs, x ≠ .tu xs)
  (hS : S0.map q = m.sts) (hH : H0.rn p q = H) (ha : args0.map (rnV p q) = vargs) (hX : X0.rn p q = X) (hY : rnV p q Y0 = Y) (hk : X.bs.map (·.1) = m.obs ∧ X.rs.map (·.1) = m.ors) (h : rg P l kp k Q ((s.after m X).put d (s.backV m Y))) (hb : H0.bs.all (fun x => W1 x.1 == W1 (p x.1)) = true := by rfl) : a6D P f H vargs m d l kp k Q s := by
 subst hX; subst hY
 exact a4F p q hp hq hf hna hS hH ha hk h hb
end
def D3 {α : Type} (p : α -> Bool) : Int -> List α -> Int
 | _, [] => -1
 | i, x :: l => if p x = true then i else D3 p (i + 1) l
theorem X8 {α : Type} [Inhabited α] (p : α -> Bool) : ∀ (l : List α) (i : Int), 0 <= i -> (D3 p i l = -1 ∧ ∀ x ∈ l, p x = false) ∨ (i <= D3 p i l ∧ D3 p i l < i + l.length ∧ p (l.getD (D3 p i l - i).toNat default) = true ∧ ∀ j : Nat, (j : Int) < D3 p i l - i -> p (l.getD j default) = false)
 | [], i, h => .inl ⟨rfl, by simp⟩
 | x :: l, i, h => by
  rw [D3]
  cases hx : p x with
  | true => rw [if_pos rfl]; exact .inr ⟨by omega, by simp; omega, by simp [hx], fun j hj => by omega⟩
  | false =>
   rw [if_neg (by simp)]
   rcases X8 p l (i + 1) (by omega) with ⟨h1, h2⟩ | ⟨h1, h2, h3, h4⟩
   ·exact .inl ⟨h1, fun y hy => by simp only [List.mem_cons] at hy; rcases hy with rfl | hy; exact hx; exact h2 y hy⟩
   ·have e : (D3 p (i + 1) l - i).toNat = (D3 p (i + 1) l - (i + 1)).toNat + 1 := by omega
    refine .inr ⟨by omega, by rw [List.length_cons]; omega, by rw [e, List.getD_cons_succ]; exact h3, fun j hj => ?_⟩
    cases j with
    | zero => simpa using hx
    | succ j => rw [List.getD_cons_succ]; exact h4 j (by omega)
theorem a7a {α : Type} {p : α -> Bool} {l : List α} (h : ∀ x ∈ l, p x = false) : l.filter (fun x => !p x) = l := List.filter_eq_self.2 (fun x hx => by rw [h x hx]; rfl)
structure DelI {α : Type} (p : α -> Bool) (l : List α) (j k : Int) (cur : List α) : Prop where
 j0 : 0 <= j
 jk : j < k
 kn : k <= l.length
 len : cur.length = l.length
 tk : cur.take j.toNat = (l.take k.toNat).filter fun x => !p x
 dr : cur.drop k.toNat = l.drop k.toNat
theorem R8 {α : Type} [Inhabited α] (l : List α) (k : Nat) (h : k < l.length) : l.take (k + 1) = l.take k ++ [l.getD k default] := by
 rw [List.take_succ_eq_append_getElem h]; simp [List.getD_eq_getElem?_getD, h]
theorem DelI.start {α : Type} [Inhabited α] {p : α -> Bool} {l : List α} {i : Int} (h0 : 0 <= i) (h1 : i < l.length) (h2 : p (l.getD i.toNat default) = true) (h3 : ∀ j : Nat, (j : Int) < i -> p (l.getD j default) = false) : DelI p l i (i + 1) l := by
 refine ⟨h0, by omega, by omega, rfl, ?_, rfl⟩
 have e : (i + 1).toNat = i.toNat + 1 := by omega
 rw [e, R8 l _ (by omega), List.filter_append]
 have h4 : (l.take i.toNat).filter (fun x => !p x) = l.take i.toNat := a7a (fun x hx => by
  obtain ⟨j, hj, rfl⟩ := List.mem_iff_getElem.1 hx
  rw [List.length_take] at hj
  have := h3 j (by omega)
  rw [List.getElem_take]
  simpa [List.getD_eq_getElem?_getD, show j < l.length by omega] using this)
 rw [h4, List.filter_cons, if_neg (by rw [h2]; simp), List.filter_nil, List.append_nil]
theorem DelI.at {α : Type} [Inhabited α] {p : α -> Bool} {l cur : List α} {j k : Int} (h : DelI p l j k cur) (hk : k < l.length) : cur.getD k.toNat default = l.getD k.toNat default := by
 have h1 := h.dr
 have h2 := h.len
 have h3 := h.j0
 have h4 := h.jk
 rw [List.drop_eq_getElem_cons (show k.toNat < cur.length by omega), List.drop_eq_getElem_cons (show k.toNat < l.length by omega)] at h1
 injection h1 with h1 _
 simp [List.getD_eq_getElem?_getD, show k.toNat < cur.length by omega, show k.toNat < l.length by omega, h1]
theorem DelI.drop1 {α : Type} {p : α -> Bool} {l cur : List α} {j k : Int} (h : DelI p l j k cur) : cur.drop (k + 1).toNat = l.drop (k + 1).toNat := by
 have h3 := h.j0
 have h4 := h.jk
 have e : (k + 1).toNat = k.toNat + 1 := by omega
 rw [e, <- List.drop_drop, <- List.drop_drop, h.dr]
theorem DelI.del {α : Type} [Inhabited α] {p : α -> Bool} {l cur : List α} {j k : Int} (h : DelI p l j k cur) (hk : k < l.length) (hp : p (l.getD k.toNat default) = true) : DelI p l j (k + 1) cur := by
 have h3 := h.j0
 have h4 := h.jk
 refine ⟨h3, by omega, by omega, h.len, ?_, h.drop1⟩
 have e : (k + 1).toNat = k.toNat + 1 := by omega
 rw [e, R8 l _ (by omega), List.filter_append, h.tk, List.filter_cons, if_neg (by rw [hp]; simp), List.filter_nil, List.append_nil]
theorem DelI.put {α : Type} [Inhabited α] {p : α -> Bool} {l cur : List α} {j k : Int} (h : DelI p l j k cur) (hk : k < l.length) (hp : p (l.getD k.toNat default) = false) : DelI p l (j + 1) (k + 1) (cur.set j.toNat (l.getD k.toNat default)) := by
 have h2 := h.len
 have h3 := h.j0
 have h4 := h.jk
 refine ⟨by omega, by omega, by omega, by rw [List.length_set]; exact h2, ?_, ?_⟩
 ·have e : (k + 1).toNat = k.toNat + 1 := by omega
  have e2 : (j + 1).toNat = j.toNat + 1 := by omega
  have e3 : (cur.set j.toNat (l.getD k.toNat default)).getD j.toNat default = l.getD k.toNat default := by
   generalize l.getD k.toNat default = x
   simp [List.getD_eq_getElem?_getD, show j.toNat < cur.length by omega]
  rw [e, e2, R8 l _ (by omega), List.filter_append, R8 _ _ (by rw [List.length_set]; omega), List.take_set_of_le (Nat.le_refl _), h.tk, e3, List.filter_cons, if_pos (by rw [hp]; rfl), List.filter_nil]
 ·rw [List.drop_set_of_lt (by omega)]; exact h.drop1
theorem DelI.fin {α : Type} {p : α -> Bool} {l cur : List α} {j k : Int} (h : DelI p l j k cur) (hk : ¬ k < l.length) : cur.take j.toNat = l.filter fun x => !p x := by
 have h5 := h.kn
 rw [h.tk, List.take_of_length_le (by omega)]
structure Pc where
 f : Int
 t : Int
 v : Int
 q : Int
 deriving Inhabited
def pcC (x : Pc) : List Cel := [.g (.int .i64 x.f), .g (.int .i64 x.t), .g (.int .i64 x.v), .g (.int .i64 x.q)]
theorem c8O (x : Pc) : pcC x = [.g (.int .i64 x.f), .g (.int .i64 x.t), .g (.int .i64 x.v), .g (.int .i64 x.q)] := (rfl)
theorem c9f (l : List Pc) : frE (l.map pcC) = true := a1h (fun _ => rfl) l
theorem c4p (l : List Pc) : F8 (l.map pcC) = l.map pcC := X6 (fun _ => rfl) l
theorem c6L (l : List Pc) : a0k (l.map pcC) = l.map pcC := X3 (fun _ => rfl) l
attribute [go_sem] c8O c9f c4p c6L
def d0A (fr : Bool) (l : List Int) (i : Int) : AS := ⟨m7 [(5, W0 fr l), (6, iv l.length), (7, iv i)], f7 [], f7 []⟩
theorem R1 (fr : Bool) (l : List Int) (hl : l.length <= 4611686018427387904) : FC Tryz.prog 40 none [W0 fr l] (fun _ r => r = iv (C3 l)) := by
 refine fcE Tryz.func40 (aL [[0],[5,6,7],[5,6,7,8],[4,5,6,7],[4,5,6,7,12],[2],[5,6,7],[2]]) ?_
 refine qv ?_
 refine l0 (d0A fr l) (fun i => 0 <= i ∧ i <= l.length ∧ C3 (l.drop i.toNat) = C3 l) (fun i => (l.length - i).toNat) 0 ⟨by omega, by omega, rfl⟩ rfl ?_
 rintro i ⟨g1, g2, g3⟩
 unfold d0A
 by_cases hi : i < l.length
 ·rw [m5 l i.toNat (by omega), C3] at g3
  have e2 : (i + 1).toNat = i.toNat + 1 := by omega
  refine qv ?_
  refine ⟨fun h => ?_, fun h => ⟨i + 1, rfl, ⟨by omega, by omega, ?_⟩, by omega⟩⟩
  ·rw [if_pos h] at g3; rw [g3]
  ·rw [if_neg h] at g3; rw [e2]; exact g3
 ·refine qv ?_
  rw [<- g3, List.drop_eq_nil_of_le (by omega)]
  rfl
def d1Z (cl : FuncId) (cs : List Cel) (l : List (Int × Int)) (i : Int) : AS := ⟨m7 [(0, a0C false l), (1, .one (.fn cl [.ep cs])), (7, iv l.length), (8, iv i)], f7 [], f7 []⟩
theorem c2l (cl : FuncId) (cs : List Cel) (p : Int × Int -> Bool) (l : List (Int × Int)) (hl : l.length <= 1000000) (hcl : ∀ x ∈ l, FC Tryz.prog cl none [.ag (frC x), .one (.ep cs)] (fun _ r => r = bv (p x))) : FC Tryz.prog 187 none [a0C false l, .one (.fn cl [.ep cs])] (fun _ r => r = iv (D3 p 0 l)) := by
 refine fcE Tryz.func187 (aL [[0,1],[0,1,7,8],[0,1,7,8,9],[0,1,5,7,8],[0,1,5,7,8,16],[4],[0,1,7,8],[4]]) ?_
 refine qv ?_
 refine l0 (d1Z cl cs l) (fun i => 0 <= i ∧ i <= l.length ∧ D3 p i (l.drop i.toNat) = D3 p 0 l) (fun i => (l.length - i).toNat) 0 ⟨by omega, by omega, rfl⟩ rfl ?_
 rintro i ⟨g1, g2, g3⟩
 unfold d1Z
 by_cases hi : i < l.length
 ·rw [m5 l i.toNat (by omega), D3] at g3
  have e2 : (i + 1).toNat = i.toNat + 1 := by omega
  refine qv ?_
  refine m9 (hcl _ (f8 _ _ (by omega))) (.inl rfl) ?_
  cases h : p (l.getD i.toNat default) with
  | true => rw [h, if_pos rfl] at g3; refine qv ?_; rw [<- g3]
  | false =>
   rw [h, if_neg (by simp)] at g3
   refine qv ?_
   exact ⟨_, rfl, ⟨by omega, by omega, by rw [e2]; exact g3⟩, by omega⟩
 ·rw [List.drop_eq_nil_of_le (by omega), D3] at g3
  refine qv ?_
  rw [<- g3]
abbrev B4 (l : List (Int × Int)) : Row := ⟨0, 34, 2, l.map frC⟩
def O0 (out : List (Int × Int)) (t : Int) : List (Int × Int) := out.set ((out.length : Int) - 1).toNat ((out.getD ((out.length : Int) - 1).toNat default).1, t)
theorem B2 (out : List (Int × Int)) (t : Int) : (O0 out t).length = out.length := by unfold O0; rw [List.length_set]
theorem I0 (out : List (Int × Int)) (t : Int) : (O0 out t).map frC = (out.map frC).set ((out.length : Int) - 1).toNat [.g (.int .i64 (out.getD ((out.length : Int) - 1).toNat default).1), .g (.int .i64 t)] := by
 unfold O0; rw [List.map_set]; rfl
theorem Good.all {l : List Smp} (h : Good l) : ∀ s ∈ l, S8 s := fun s hs => by
 obtain ⟨j, hj, rfl⟩ := List.mem_iff_getElem.1 hs
 have := h.ok j hj
 simpa [List.getD_eq_getElem?_getD, hj] using this
def a1G : List Ann := (aM [3] [] [[1,2,3]] ++ [⟨(kP [1,2,3,7] [3] []),[(7,34,2)],[],[],[]⟩] ++ aM [3] [7] [[1,2,3,7,8],[1,2,3,7,8,9,10],[1,2,3,7,8,9,10,11,12],[1,2,3,7,8,9,10,11,12,20,21,22],[1,2,3,7,8,9,10,11,12,20,21,22,23]] ++ aM [3,14] [7] [[1,2,3,7,8,9,10,11,12,13,14,20,21,22],[1,2,3,7,8,9,10,11,12,13,14,15,20,21,22],[1,2,3,7,8,9,10,11,12,13,14,15,20,21,22,31],[1,2,3,7,8,9,10,11,12,14,15,20,21,22],[1,2,3,7,8,9,10,11,12,14,15,16,17,20,21,22],[1,2,3,7,8,9,10,12,14,15,16,17,20,21,22,48],[1,2,3,7,8,9,10,12,14,15,16,17,20,21,22],[1,2,3,7,8,9,10,14,15,16,17,20,21,22,55],[1,2,3,7,8,9,10,14,15,16,17,20,21,22],[1,2,3,7,8,9,10,11,12,14,15,16,17,20,21,22],[1,2,3,7,8,9,10,11,12,14,15,16,17,18,20,21,22],[1,2,3,7,8,9,10,11,12,14,15,17,18,20,21,22,81],[1,2,3,7,8,9,10,11,12,14,15,17,18,20,21,22],[1,2,3,7,8,9,10,11,12,14,15,17,20,21,22]] ++ aM [3] [7] [[1,2,3,7,8,9,10,11,12,15,17,19,20,21,22],[1,2,3,7,8,9,10,11,12,19,20,21,22,108],[1,2,3,7,8,9,10,11,12,19,20,21,22],[1,2,3,7,8,9,10,11,12,20,21,22],[1,2,3,7,8,9,10,11,12,20,21,22]] ++ aL [[6]])
def a5e : List Ann := (aM [3] [] [[1,2,3],[1,2,3,8],[1,2,3,8,14]] ++ [⟨(kP [6,7] [] []),[],[],[(6,2)],[]⟩] ++ aL [[6,7]])
abbrev b0R (kb tb pb : ByteArray) (lt : Bool) (kd lim db on off pr : Int) : List Cel := [.g (.string kb), .g (.string tb), .g (.int .i64 kd), .g (.int .i64 lim), .g (.int .i64 db), .g (.int .i64 on), .g (.int .i64 off), .g (.int .i64 pr), .g (.bool lt), .g (.string pb)]
abbrev b6K (kb tb pb : ByteArray) (lt : Bool) (kd lim db on off pr : Int) : Val := .ag [.g (.string kb), .g (.string tb), .g (.int .i64 kd), .g (.int .i64 lim), .g (.int .i64 db), .g (.int .i64 on), .g (.int .i64 off), .g (.int .i64 pr), .g (.bool lt), .g (.string pb)]
def a1W (kd lim db on off pr : Int) : Int := if kd < 1 ∨ kd > 3 then 4 else if ¬((-1000000 <= lim ∧ lim <= 1000000) ∧ (0 <= db ∧ db <= 2000000) ∧ (0 <= on ∧ on <= 86400000) ∧ (0 <= off ∧ off <= 86400000) ∧ (1 <= pr ∧ pr <= 1000)) then 1 else if kd = 3 ∧ (lim ≠ 0 ∨ db ≠ 0) then 3 else 0
def a4l (kk : Bool) (kd lim db on off pr : Int) : Int := if kk = false then 5 else a1W kd lim db on off pr
theorem X2 (kb tb pb : ByteArray) (lt : Bool) (hkb : kb.size <= 9223372036854775807) (htb : tb.size <= 9223372036854775807) (kd lim db on off pr : Int) : FC Tryz.prog 129 none [b6K kb tb pb lt kd lim db on off pr] (fun _ r => r = iv (a4l (l8 kb && l8 tb) kd lim db on off pr)) := by
 refine fcE Tryz.func129 (aM [1] [] [[1],[1,3]] ++ aL [[2]] ++ aM [1] [] [[1,14]] ++ aL [[2]] ++ aM [1] [] [[1,18]] ++ aL [[2],[42],[2],[2]]) ?_
 refine qc (a5r kb hkb) ?_
 cases hk1 : l8 kb with
 | false =>
  rw [Bool.false_and]
  refine qv ?_
  exact j8 (by unfold a4l; rw [if_pos rfl])
 | true =>
 rw [Bool.true_and]
 refine qc (a5r tb htb) ?_
 cases hk2 : l8 tb with
 | false =>
  refine qv ?_
  exact j8 (by unfold a4l; rw [if_pos rfl])
 | true =>
 have eg : a4l true kd lim db on off pr = a1W kd lim db on off pr := by unfold a4l; rw [if_neg (by simp)]
 rw [eg]
 refine qc (D4 _ _ _) ?_
 by_cases h0 : kd < 1 ∨ kd > 3
 ·rw [decide_eq_true h0]
  refine qv ?_
  exact j8 (by unfold a1W; rw [if_pos h0])
 rw [decide_eq_false h0]
 refine qc (D4 _ _ _) ?_
 by_cases h1 : lim < -1000000 ∨ lim > 1000000
 ·rw [decide_eq_true h1]
  refine qv ?_
  exact j8 (by unfold a1W; rw [if_neg h0, if_pos (by omega)])
 rw [decide_eq_false h1]
 refine qc (D4 _ _ _) ?_
 by_cases h2 : db < 0 ∨ db > 2000000
 ·rw [decide_eq_true h2]
  refine qv ?_
  exact j8 (by unfold a1W; rw [if_neg h0, if_pos (by omega)])
 rw [decide_eq_false h2]
 refine qc (D4 _ _ _) ?_
 by_cases h3 : on < 0 ∨ on > 86400000
 ·rw [decide_eq_true h3]
  refine qv ?_
  exact j8 (by unfold a1W; rw [if_neg h0, if_pos (by omega)])
 rw [decide_eq_false h3]
 refine qc (D4 _ _ _) ?_
 by_cases h4 : off < 0 ∨ off > 86400000
 ·rw [decide_eq_true h4]
  refine qv ?_
  exact j8 (by unfold a1W; rw [if_neg h0, if_pos (by omega)])
 rw [decide_eq_false h4]
 refine qc (D4 _ _ _) ?_
 by_cases h5 : pr < 1 ∨ pr > 1000
 ·rw [decide_eq_true h5]
  refine qv ?_
  exact j8 (by unfold a1W; rw [if_neg h0, if_pos (by omega)])
 rw [decide_eq_false h5]
 have e : a1W kd lim db on off pr = if kd = 3 ∧ (lim ≠ 0 ∨ db ≠ 0) then 3 else 0 := by unfold a1W; rw [if_neg h0, if_neg (by omega)]
 rw [e]
 by_cases h6 : kd = 3
 ·by_cases h7 : lim = 0
  ·by_cases h8 : db = 0
   ·rw [if_neg (by omega)]
    exact qt
   ·rw [if_pos (by omega)]
    exact qt
  ·rw [if_pos (by omega)]
   exact qt
 ·rw [if_neg (by omega)]
  exact qt
def unF (kk : Bool) (kd lim db on off pr : Int) (l : List Smp) (un : Int) : Int := if C3 [a4l kk kd lim db on off pr, n6 l] = 0 ∧ (un < 0 ∨ un > 345686400000) then 1 else C3 [a4l kk kd lim db on off pr, n6 l]
theorem a4o (kb tb pb : ByteArray) (lt : Bool) (hkb : kb.size <= 9223372036854775807) (htb : tb.size <= 9223372036854775807) (kd lim db on off pr : Int) (l : List Smp) (hl : l.length <= 4611686018427387904) (un : Int) : FC Tryz.prog 108 none [b6K kb tb pb lt kd lim db on off pr, Z4 false l, iv un] (fun _ r => r = iv (unF (l8 kb && l8 tb) kd lim db on off pr l un)) := by
 refine fcE Tryz.func108 (aM [3] [] [[1,2,3]] ++ aL [[2,7],[7,19],[7],[6]]) ?_
 have hca := X2 kb tb pb lt hkb htb kd lim db on off pr
 generalize (l8 kb && l8 tb) = kk at *
 refine qc hca ?_
 refine qc (U0 l hl) ?_
 refine qv ?_
 refine m9 (R1 false [a4l kk kd lim db on off pr, n6 l] (by simp)) (.inl rfl) ?_
 unfold unF
 generalize C3 [a4l kk kd lim db on off pr, n6 l] = e
 by_cases h1 : e = 0
 ·refine qc (D4 _ _ _) ?_
  by_cases h2 : un < 0 ∨ un > 345686400000
  ·rw [decide_eq_true h2, if_pos ⟨h1, h2⟩]
   exact qt
  ·rw [decide_eq_false h2, if_neg (fun h => h2 h.2)]
   exact qt
 ·rw [if_neg (fun h => h1 h.1)]
  exact qt
def q7 (kd lim db : Int) (s : Smp) : Bool × Bool :=
 if kd = 1 then (decide (¬s.q = 2 ∧ s.v > lim), decide (¬s.q = 2 ∧ s.v <= lim - db)) else if kd = 2 then (decide (¬s.q = 2 ∧ s.v < lim), decide (¬s.q = 2 ∧ s.v >= lim + db)) else (decide (s.q = 2), decide (¬s.q = 2))
theorem a6f (kb tb pb : ByteArray) (lt : Bool) (kd lim db on off pr : Int) (s : Smp) (hs : S8 s) (h1 : -1000000 <= lim ∧ lim <= 1000000) (h2 : 0 <= db ∧ db <= 2000000) : FC Tryz.prog 92 none [b6K kb tb pb lt kd lim db on off pr, c6W s] (fun _ r => r = .tu [bv (q7 kd lim db s).1, bv (q7 kd lim db s).2]) := by
 refine fcE Tryz.func92 (aM [2,3] [] [[2,3],[2,3,6],[2,3,6,11],[2,3,6,11,12]] ++ aL [[4,5]] ++ aM [2,3] [] [[2,3,6,35]] ++ aL [[4,5],[4,5]]) ?_
 unfold q7
 by_cases c1 : kd = 1
 ·rw [if_pos c1]
  by_cases c2 : s.q = 2
  ·rw [decide_eq_false (fun h => h.1 c2), decide_eq_false (fun h => h.1 c2)]
   exact qt
  ·refine qv ?_
   exact X5 (J7 (by simp [c2])) (J7 (by simp [c2]))
 rw [if_neg c1]
 by_cases c3 : kd = 2
 ·rw [if_pos c3]
  by_cases c2 : s.q = 2
  ·rw [decide_eq_false (fun h => h.1 c2), decide_eq_false (fun h => h.1 c2)]
   exact qt
  ·refine qv ?_
   exact X5 (J7 (by simp [c2])) (J7 (by simp [c2]))
 rw [if_neg c3]
 exact qt
structure N1 where
 out : List (Int × Int)
 act : Bool
 t1 : Int
 t2 : Int
 h1 : Bool
 h2 : Bool
def x8 (on off un nx : Int) (a : Int) (x y : Bool) (s : N1) : N1 :=
 let t1 := if x = true ∧ s.h1 = false then a else s.t1
 let t2 := if y = true ∧ s.h2 = false then a else s.t2
 let up := x = true ∧ s.act = false ∧ max a (t1 + on) < nx ∧ max a (t1 + on) < un
 let act1 := if up then true else s.act
 let out1 := if up then s.out ++ [(max a (t1 + on), un)] else s.out
 let dn := y = true ∧ act1 = true ∧ max a (t2 + off) < nx ∧ max a (t2 + off) < un
 ⟨if dn then O0 out1 (max a (t2 + off)) else out1, if dn then false else act1, t1, t2, x, y⟩
def L1 (kd lim db on off un : Int) : List Smp -> N1 -> N1
 | [], s => s
 | [x], s => x8 on off un 345686400000 x.a (q7 kd lim db x).1 (q7 kd lim db x).2 s
 | x :: y :: r, s => L1 kd lim db on off un (y :: r) (x8 on off un y.a x.a (q7 kd lim db x).1 (q7 kd lim db x).2 s)
def nxA (l : List Smp) (i : Nat) : Int := if i + 1 < l.length then (l.getD (i + 1) default).a else 345686400000
theorem a9F (kd lim db on off un : Int) (l : List Smp) (i : Nat) (h : i < l.length) (s : N1) : L1 kd lim db on off un (l.drop i) s = L1 kd lim db on off un (l.drop (i + 1)) (x8 on off un (nxA l i) (l.getD i default).a (q7 kd lim db (l.getD i default)).1 (q7 kd lim db (l.getD i default)).2 s) := by
 unfold nxA
 rw [m5 l i h]
 by_cases h2 : i + 1 < l.length
 ·rw [m5 l (i + 1) h2, L1, if_pos h2]
 ·rw [List.drop_eq_nil_of_le (by omega), L1, if_neg h2, L1]
def b0z (kd lim db on off un : Int) (l : List Smp) : List (Int × Int) := (L1 kd lim db on off un l ⟨[], false, 0, 0, false, false⟩).out
def a2m (kb tb pb : ByteArray) (lt : Bool) (kd lim db on off pr un : Int) (l : List Smp) (i : Int) (x : N1) : AS := ⟨m7 [(1, Z4 false l), (2, iv un), (3, .one (.bx 3 0)), (7, .one (.ow 7 0)), (8, bv x.act), (9, iv x.t1), (10, iv x.t2), (11, bv x.h1), (12, bv x.h2), (20, Z4 false l), (21, iv l.length), (22, iv i)], f7 [(3, [.g (.string kb), .g (.string tb), .g (.int .i64 kd), .g (.int .i64 lim), .g (.int .i64 db), .g (.int .i64 on), .g (.int .i64 off), .g (.int .i64 pr), .g (.bool lt), .g (.string pb)])], f7 [(7, B4 x.out)]⟩
structure ActI (kd lim db on off un : Int) (l : List Smp) (i : Int) (x : N1) : Prop where
 a : 0 <= i
 b : i <= l.length
 c : x.out.length <= i
 d : x.act = true -> 1 <= x.out.length
 e : 0 <= x.t1 ∧ x.t1 <= 345686400000
 f : 0 <= x.t2 ∧ x.t2 <= 345686400000
 g : L1 kd lim db on off un (l.drop i.toNat) x = L1 kd lim db on off un l ⟨[], false, 0, 0, false, false⟩
theorem ActI.next {kd lim db on off un : Int} {l : List Smp} {i : Int} {x y : N1} (h : ActI kd lim db on off un l i x) (hi : i < l.length) (ha : 0 <= (l.getD i.toNat default).a ∧ (l.getD i.toNat default).a <= 345686400000) (hy : y = x8 on off un (nxA l i.toNat) (l.getD i.toNat default).a (q7 kd lim db (l.getD i.toNat default)).1 (q7 kd lim db (l.getD i.toNat default)).2 x) : ActI kd lim db on off un l (i + 1) y := by
 have h1 := h.a
 have h2 := h.c
 have h3 := h.d
 have h4 := h.e
 have h5 := h.f
 have h6 := h.g
 have e2 : (i + 1).toNat = i.toNat + 1 := by omega
 rw [a9F kd lim db on off un l i.toNat (by omega), <- hy, <- e2] at h6
 refine ⟨by omega, by omega, ?_, ?_, ?_, ?_, h6⟩
 ·rw [hy]; unfold x8; simp only []
  (repeat' split) <;> (first | omega | (simp only [B2, List.length_append, List.length_singleton]; omega))
 ·rw [hy]; unfold x8; simp only []
  (repeat' split) <;> intro h <;> (first | (cases h; done) | (simp only [B2, List.length_append, List.length_singleton]; omega) | (have := h3 h; omega) | (have := h3 h; simp only [B2, List.length_append, List.length_singleton]; omega))
 ·rw [hy]; unfold x8; simp only []; split
  ·exact ha
  ·exact h4
 ·rw [hy]; unfold x8; simp only []; split
  ·exact ha
  ·exact h5
end Go.Proofs.YtnlafmigfjlnnaaGreatDoor
