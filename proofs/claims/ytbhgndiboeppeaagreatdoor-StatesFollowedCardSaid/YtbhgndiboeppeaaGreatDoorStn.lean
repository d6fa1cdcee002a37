/- The alarms that operators look at. -/
import Derived.Test.YtbhgndiboeppeaaGreatDoorSns
set_option linter.all false
set_option maxHeartbeats 4000000
set_option maxRecDepth 100000
namespace Go.Proofs.YtbhgndiboeppeaaGreatDoor
open Go Go.Ai
def O3 : List Ann := (aM [4] [] [[1,2,3,4,9021],[1,2,3,4,10,9021],[1,2,3,4,10,20,9021]] ++ [⟨(kP [8,9] [] []),[],[],[(8,3)],[]⟩] ++ aM [4] [] [[1,2,3,4,24,9021]] ++ [⟨(kP [8,9] [] []),[],[],[(8,3)],[]⟩,⟨(kP [3,4,11,9021] [4,9021] [9019,500021,600021]),[],[],[],[(28,⟨[],[],[9021],[9019,500021,600021],[]⟩)]⟩,⟨(kP [4,11,9021] [4,9021] []),[],[],[],[(31,⟨[9021],[9019,500021,600021],[9021],[9019,500021,600021],[9019,500021]⟩)]⟩,⟨(kP [4,11,12,9021] [4,9021] []),[(12,43,3)],[],[],[]⟩] ++ aM [4] [12] [[4,12,35,36,37],[4,12,35,36,37,38]] ++ aM [4,14] [12] [[4,12,14,35,36,37],[4,12,14,35,36,37,44]] ++ aM [4] [12] [[4,12,35,36,37],[4,12,35,36,37]] ++ [⟨(kP [12] [] []),[],[],[],[(52,⟨[4],[12],[4],[12],[12]⟩)]⟩] ++ aL [[8,9]])
theorem b8c (l : List Std) (i j : Nat) (hij : i ≠ j) : swx l i j = swx l j i := by
 rw [a3U l i j hij]; rfl
theorem b0g (c : Std → Std → Int) (U : List Std) : l7 c (U.take 1) ++ U.drop 1 = U := by
 cases U with
 | nil => rfl
 | cons x U =>
  show mrg c [] [x] ++ U = _
  rw [n5]; rfl
def b9L (cl : FuncId) (z : Nat) (es : List (List Cel)) (a b : Int) (i : Int) (cur : List Std) : AS := ⟨m9 [(0, .one (.ow 1000000 0)), (1, iv a), (2, iv b), (3, .one (.fn cl [.bx 1000001 0])), (8, iv i), (1000001, .any)], f9 [(1000001, [.sl false z es])], f9 [(1000000, l9 cur)]⟩
def b0D (cl : FuncId) (z : Nat) (es : List (List Cel)) (a b i : Int) (j : Int) (cur : List Std) : AS := ⟨m9 [(0, .one (.ow 1000000 0)), (1, iv a), (2, iv b), (3, .one (.fn cl [.bx 1000001 0])), (8, iv i), (9, iv j), (1000001, .any)], f9 [(1000001, [.sl false z es])], f9 [(1000000, l9 cur)]⟩
structure d1O (c : Std → Std → Int) (P U Y : List Std) (k : Nat) (j : Int) (cur : List Std) (s1 s2 : List Std) : Prop where
 srt : l7 c (U.take k) = s1 ++ s2
 cur : cur = P ++ (s1 ++ (U.getD k default :: (s2 ++ (U.drop (k + 1) ++ Y))))
 j : j = P.length + s1.length
 lt : ∀ w ∈ s2, c (U.getD k default) w < 0
def d4K (c : Std → Std → Int) (P U Y : List Std) (k : Nat) (j : Int) (cur : List Std) : Prop := ∃ s1 s2, d1O c P U Y k j cur s1 s2
def b0s (c : Std → Std → Int) (P U Y : List Std) (k : Nat) : List Std := P ++ (l7 c (U.take k) ++ (U.drop k ++ Y))
theorem b7s (c : Std → Std → Int) (P U Y : List Std) (k : Nat) : (b0s c P U Y k).length = P.length + U.length + Y.length := by
 simp [b0s, f0]; omega
theorem b2I {c : Std → Std → Int} {P U Y : List Std} {k : Nat} (hk : k < U.length) : d4K c P U Y k (P.length + k) (b0s c P U Y k) := by
 refine ⟨l7 c (U.take k), [], by simp, ?_, ?_, by simp⟩
 ·unfold b0s; rw [D3 hk]; simp
 ·rw [f0, List.length_take]; omega
theorem b2j {p : Std → Prop} {c : Std → Std → Int} (h : Swo p c) {P U Y : List Std} {k : Nat} {j : Int} {cur s1 s2 : List Std} (hp : ∀ x ∈ U, p x) (hk : k < U.length) (hI : d1O c P U Y k j cur s1 s2) (hs : ∀ x ∈ s1, ¬c (U.getD k default) x < 0) : cur = b0s c P U Y (k + 1) := by
 unfold b0s
 rw [B0 hk, M8, hI.srt, a0J hs hI.lt, hI.cur]; simp
theorem d1t {p : Std → Prop} {c : Std → Std → Int} (h : Swo p c) {P U Y : List Std} {k : Nat} {j : Int} {cur s2 s : List Std} {w : Std} (hp : ∀ x ∈ U, p x) (hk : k < U.length) (hI : d1O c P U Y k j cur (s ++ [w]) s2) (hw : ¬c (U.getD k default) w < 0) : ∀ x ∈ s ++ [w], ¬c (U.getD k default) x < 0 := by
 intro x hx
 have po : ∀ x ∈ U.take k, p x := fun x hx => hp x (List.mem_of_mem_take hx)
 have ho := v6 h po
 rw [hI.srt] at ho
 have hm : ∀ y, y ∈ s ++ [w] → p y := fun y hy => po y (ssort_mem.1 (hI.srt ▸ List.mem_append_left _ hy))
 rcases List.mem_append.1 hx with hx | hx
 ·have h1 := (List.pairwise_append.1 (List.pairwise_append.1 ho).1).2.2 x hx w (by simp)
  exact h.ntr _ _ _ (hp _ (x6 hk)) (hm w (by simp)) (hm x (by simp [hx])) hw h1
 ·simp at hx; subst hx; exact hw
theorem c9C {c : Std → Std → Int} {P U Y : List Std} {k : Nat} {j : Int} {cur s2 s : List Std} {w : Std} (hI : d1O c P U Y k j cur (s ++ [w]) s2) :
  cur.getD j.toNat default = U.getD k default ∧ cur.getD (j - 1).toNat default = w ∧ P.length + 1 ≤ j ∧ (cur.set j.toNat (cur.getD (j - 1).toNat default)).set (j - 1).toNat (cur.getD j.toNat default) = P ++ (s ++ (U.getD k default :: ((w :: s2) ++ (U.drop (k + 1) ++ Y)))) := by
 have hj := hI.j
 rw [List.length_append, List.length_singleton] at hj
 have e1 : cur = (P ++ s) ++ w :: ([] ++ U.getD k default :: (s2 ++ (U.drop (k + 1) ++ Y))) := by rw [hI.cur]; simp
 have e2 : cur = (P ++ s ++ [w]) ++ U.getD k default :: (s2 ++ (U.drop (k + 1) ++ Y)) := by rw [hI.cur]; simp
 have e3 : j.toNat = (P ++ s ++ [w]).length := by simp; omega
 have e4 : (j - 1).toNat = (P ++ s).length := by simp; omega
 refine ⟨by rw [e2, e3, T5], by rw [e1, e4, T5], by omega, ?_⟩
 show swx cur j.toNat (j - 1).toNat = _
 rw [b8c _ _ _ (by omega), e1, R8 e4 (by simp; omega)]
 simp
set_option maxHeartbeats 2000000 in
theorem a7w (cl : FuncId) {c : Std → Std → Int} {p : Std → Prop} (hS : Swo p c) (z : Nat) (es : List (List Cel)) (hcl : ∀ x y, p x → p y → FC Tryz.prog cl none [.ag (u7 x), .ag (u7 y), .one (.ep [.sl false z es])] (fun _ r => r = iv (c x y)))
  (P U Y cur0 : List Std) (hc : cur0 = P ++ (U ++ Y)) (hp : ∀ x ∈ U, p x) (hlen : cur0.length ≤ 1000000) (a b : Int) (ha : a = P.length) (hb : b = P.length + U.length) :
  G9 Tryz.prog 122 [1000000] ⟨[(1000001, [.sl false z es])], [(1000000, l9 cur0)]⟩ [.one (.ow 1000000 0), iv a, iv b, .one (.fn cl [.bx 1000001 0])] (fun H r => H = ⟨[(1000001, [.sl false z es])], [(1000000, l9 (P ++ (l7 c U ++ Y)))]⟩ ∧ r = .tu []) := by
 refine fsE Tryz.func122 (aM [1000001] [1000000] [[0,1,2,3,8,1000001],[0,1,2,3,8,14,1000001],[0,1,2,3,8,9,1000001],[0,1,2,3,8,9,34,1000001],[0,1,2,3,8,9,1000001],[0,1,2,3,8,9,1000001],[0,1,2,3,8,1000001]]) ⟨[], [1000001], [1000000]⟩ ?_
 have h0 : cur0 = b0s c P U Y 1 := by
  rw [hc]; unfold b0s
  rw [← List.append_assoc (l7 c _), b0g]
 have hl0 : P.length + U.length + Y.length ≤ 1000000 := by rw [h0, b7s] at hlen; exact hlen
 refine qv ?_
 refine j9 (fun i => b9L cl z es a b i (b0s c P U Y (i - a).toNat)) (fun i => a + 1 ≤ i ∧ (1 ≤ U.length → i ≤ b)) (fun i => (b - i).toNat) (a + 1) ⟨by omega, by omega⟩ (by rw [show (a + 1 - a).toNat = 1 by omega, ← h0]; rfl) ?_
 rintro i ⟨g1, g2⟩
 unfold b9L
 by_cases hi : i < b
 ·have hk : (i - a).toNat < U.length := by omega
  refine qv ?_
  refine n8 (b0D cl z es a b i) (fun j cur => d4K c P U Y (i - a).toNat j cur) (fun j _ => j.toNat) i (b0s c P U Y (i - a).toNat) (by have := b2I (c := c) (P := P) (Y := Y) hk; rw [show (P.length : Int) + ((i - a).toNat : Int) = i by omega] at this; exact this) rfl ?_
  rintro j cur ⟨s1, s2, hI⟩
  have hjj := hI.j
  have hcl2 : cur.length = P.length + U.length + Y.length := by
   have h5 : (l7 c (U.take (i - a).toNat)).length = s1.length + s2.length := by rw [hI.srt]; simp
   rw [f0, List.length_take] at h5
   rw [hI.cur]; simp; omega
  have hss : s1.length ≤ (i - a).toNat := by
   have h5 : (l7 c (U.take (i - a).toNat)).length = s1.length + s2.length := by rw [hI.srt]; simp
   rw [f0, List.length_take] at h5; omega
  unfold b0D
  by_cases hj : a < j
  ·have hne : s1 ≠ [] := fun he => by subst he; simp at hjj; omega
   obtain ⟨s, w, rfl⟩ : ∃ s w, s1 = s ++ [w] := ⟨s1.dropLast, s1.getLast hne, (List.dropLast_concat_getLast hne).symm⟩
   obtain ⟨i1, i2, i3, i4⟩ := c9C hI
   have ej := e8 u7 cur j [] (by omega) (by omega)
   have ek := e8 u7 cur (j - 1) [] (by omega) (by omega)
   have hmw : w ∈ U.take (i - a).toNat := (ssort_mem (c := c)).1 (by rw [hI.srt]; simp)
   have hcc := hcl _ _ (hp _ (x6 hk)) (hp w (List.mem_of_mem_take hmw))
   rw [← i1, ← i2, F4, F4] at hcc
   refine qc hcc ?_
   by_cases hlt : c (cur.getD j.toNat default) (cur.getD (j - 1).toNat default) < 0
   ·have el : ((cur.map u7).set j.toNat (u7 (cur.getD (j - 1).toNat default))).length = cur.length := by simp
    have eo := y7 (cur.map u7) (u7 (cur.getD (j - 1).toNat default)) (show (j - 1).toNat ≠ j.toNat by omega)
    rw [l0 u7 cur (j - 1).toNat (by omega)] at eo
    simp only [F4] at el eo
    refine qv ?_
    rw [eo]
    refine qv ?_
    refine ⟨j - 1, (cur.set j.toNat (cur.getD (j - 1).toNat default)).set (j - 1).toNat (cur.getD j.toNat default), by simp only [b0D, l9, List.map_set, F4], ⟨s, w :: s2, ?_, ?_, ?_, ?_⟩, by omega⟩
    ·rw [hI.srt]; simp
    ·rw [i4]
    ·rw [List.length_append, List.length_singleton] at hjj; omega
    ·intro x hx
     rcases List.mem_cons.1 hx with rfl | hx
     ·rw [i1, i2] at hlt; exact hlt
     ·exact hI.lt x hx
   ·refine qv ?_
    rw [i1, i2] at hlt
    have he := b2j hS hp hk hI (d1t hS hp hk hI hlt)
    exact ⟨i + 1, by rw [show (i + 1 - a).toNat = (i - a).toNat + 1 by omega, ← he], ⟨by omega, by omega⟩, by omega⟩
  ·have hs0 : s1 = [] := List.length_eq_zero_iff.1 (by omega)
   subst hs0
   refine qv ?_
   have he := b2j hS hp hk hI (by simp)
   exact ⟨i + 1, by rw [show (i + 1 - a).toNat = (i - a).toNat + 1 by omega, ← he], ⟨by omega, by omega⟩, by omega⟩
 ·have he : b0s c P U Y (i - a).toNat = P ++ (l7 c U ++ Y) := by
   unfold b0s
   rw [List.take_of_length_le (by omega), List.drop_eq_nil_of_le (by omega)]; simp
  rw [he]
  exact qt
set_option maxRecDepth 20000 in
theorem a3G (n : Int) (h : 0 ≤ n ∧ n ≤ 12) : ∃ v : Int, FC Tryz.prog 131 none [.one (.g (.int .u64 n))] (fun _ r => r = iv v) := by
 obtain ⟨h1, h2⟩ := h
 refine Exists.imp (fun v h => fcE Tryz.func131 (aL [[0,2],[0,2,4],[0],[0,2],[0,2,8],[0,2],[0,2],[0,2,14],[0,2],[0,2],[2]]) h) ?_
 generalize hb : ByteArray.mk _ = tab
 have hs : tab.size = 256 := by subst hb; rfl
 clear hb
 apply Exists.intro
 refine qv ?_
 rw [IntWalk.u8_in n ⟨h1, by omega⟩, hs]
 exact ⟨by omega, rfl⟩
theorem a6T (n : Int) (h : 0 ≤ n ∧ n ≤ 12) : ∃ v : Int, FC Tryz.prog 92 none [.one (.g (.int .u64 n))] (fun _ r => r = iv v) := by
 obtain ⟨v, hv⟩ := a3G n h
 refine ⟨v, fcE Tryz.func92 (aL [[0],[2],[2]]) ?_⟩
 refine qc hv ?_
 exact qt
theorem b6q (cl : FuncId) {c : Std → Std → Int} {p : Std → Prop} (hS : Swo p c) (z : Nat) (es : List (List Cel)) (hcl : ∀ x y, p x → p y → FC Tryz.prog cl none [.ag (u7 x), .ag (u7 y), .one (.ep [.sl false z es])] (fun _ r => r = iv (c x y))) (d : List Std) (hp : ∀ x ∈ d, p x) (hlen : d.length ≤ 12) (w : Val) :
  G9 Tryz.prog 91 [1000000] ⟨[(1000001, [.sl false z es])], [(1000000, l9 d)]⟩ [.one (.ow 1000000 0), iv 0, iv d.length, w, .one (.fn cl [.bx 1000001 0])] (fun H r => H = ⟨[(1000001, [.sl false z es])], [(1000000, l9 (l7 c d))]⟩ ∧ r = .tu []) := by
 refine fsE Tryz.func91 (aM [1000001] [1000000] [[0,1,2,3,4,10,1000001],[0,1,2,3,4,10,11,1000001],[0,1,2,3,4,10,11,12,1000001],[0,1,2,3,4,10,11,12,25,1000001]] ++ [⟨(kP [] [1000001] [1000000]),[],[],[],[(30,⟨[1000001],[1000000],[1000001],[1000000],[1000000]⟩)]⟩] ++ aM [1000001] [1000000] [[0,1,2,3,4,10,11,12,32,1000001],[],[0,1,2,3,4,10,11,12,39,1000001],[0,1,2,3,4,10,11,12,1000001],[0,1,2,3,4,10,11,12,1000001],[0,1,2,3,4,10,11,12,13,14,1000001],[0,1,2,3,4,10,11,12,13,14,56,1000001],[0,1,2,3,4,10,11,12,13,1000001],[0,1,2,3,4,10,11,12,13,1000001],[0,1,2,3,4,10,11,12,13,14,1000001],[0,1,2,3,4,10,11,12,13,75,1000001],[0,1,2,3,4,10,11,12,13,80,1000001],[0,1,2,3,4,10,11,12,13,97,1000001],[0,2,3,4,10,11,15,1000001],[0,1,2,3,4,10,11,1000001],[0,1,2,3,4,12,16,17,1000001],[0,1,2,3,4,11,12,16,1000001],[0,1,2,3,4,11,12,16,18,19,1000001],[0,1,2,3,4,11,16,18,19,20,1000001],[0,1,2,3,4,11,16,18,19,20,125,1000001],[0,1,2,3,4,10,11,16,1000001],[0,2,3,4,10,11,16,1000001],[0,1,2,3,4,10,11,1000001],[0,1,2,3,4,10,11,16,1000001],[0,1,3,4,10,11,16,1000001],[0,1,2,3,4,10,11,1000001]]) ⟨[], [1000001], [1000000]⟩ ?_
 have hi := a7w cl hS z es hcl [] d [] d (by simp) hp (by omega) 0 d.length (by simp) (by simp)
 rw [List.nil_append, List.append_nil] at hi
 refine qv ?_
 refine X7 1 ?_
 refine qv ?_
 refine ⟨rfl, f7 hi ⟨rfl, rfl⟩ ?_⟩
 exact qt
theorem b8z (cl : FuncId) {c : Std → Std → Int} {p : Std → Prop} (hS : Swo p c) (z : Nat) (es : List (List Cel)) (hcl : ∀ x y, p x → p y → FC Tryz.prog cl none [.ag (u7 x), .ag (u7 y), .one (.ep [.sl false z es])] (fun _ r => r = iv (c x y))) (d : List Std) (hp : ∀ x ∈ d, p x) (hlen : d.length ≤ 12) :
  G9 Tryz.prog 50 [1000000] ⟨[(1000001, [.sl false z es])], [(1000000, l9 d)]⟩ [.one (.ow 1000000 0), .one (.fn cl [.bx 1000001 0])] (fun H r => H = ⟨[(1000001, [.sl false z es])], [(1000000, l9 (l7 c d))]⟩ ∧ r = .tu []) := by
 refine fsE Tryz.func50 [aN [0,1,4,1000001] [1000001] [1000000],⟨(kP [] [1000001] [1000000]),[],[],[],[(13,⟨[1000001],[1000000],[1000001],[1000000],[1000000]⟩)]⟩] ⟨[], [1000001], [1000000]⟩ ?_
 obtain ⟨v, hv⟩ := a6T d.length (by omega)
 refine qc hv ?_
 refine qv ?_
 refine ⟨rfl, f7 (b6q cl hS z es hcl d hp hlen (iv v)) ⟨rfl, rfl⟩ ?_⟩
 exact qt
def T4 (l : List Alm) (key : ByteArray) : Int := (l.getD (q8 l key).toNat default).pr
def c5y (l : List Alm) (x y : Std) : Int := C2 [sd (T4 l y.al) (T4 l x.al), sd y.si x.si, X3 x.al y.al]
def ltZ (l : List Alm) (x y : Std) : Prop := T4 l x.al < T4 l y.al ∨ (T4 l x.al = T4 l y.al ∧ (x.si < y.si ∨ (x.si = y.si ∧ ltS x.al y.al)))
theorem c6u (x y z : Int) : C2 [x, y, z] = if x ≠ 0 then x else if y ≠ 0 then y else z := by
 unfold C2 C2 C2 C2
 split
 ·rfl
 ·split
  ·rfl
  ·split <;> omega
theorem Q3 (l : List Alm) (x y : Std) : c5y l x y < 0 ↔ ltZ l x y := by
 unfold c5y ltZ
 rw [c6u]
 rcases O5 (T4 l y.al) (T4 l x.al) with ⟨h1, h2⟩ | ⟨h1, h2⟩ | ⟨h1, h2⟩ <;> rw [h2]
 ·rw [if_pos (by omega)]; exact ⟨fun _ => .inl h1, fun _ => by omega⟩
 ·rw [if_pos (by omega)]; exact ⟨fun h => by omega, fun h => by rcases h with h | h <;> omega⟩
 ·rw [if_neg (by omega)]
  rcases O5 y.si x.si with ⟨h3, h4⟩ | ⟨h3, h4⟩ | ⟨h3, h4⟩ <;> rw [h4]
  ·rw [if_pos (by omega)]; exact ⟨fun _ => .inr ⟨h1, .inl h3⟩, fun _ => by omega⟩
  ·rw [if_pos (by omega)]; exact ⟨fun h => by omega, fun h => by rcases h with h | ⟨_, h | h⟩ <;> omega⟩
  ·rw [if_neg (by omega)]
   rcases I0 x.al y.al with ⟨h5, h6⟩ | ⟨h5, h6⟩ | ⟨h5, h6⟩ <;> rw [h5]
   ·refine ⟨fun h => by omega, fun h => ?_⟩
    rcases h with h | ⟨_, h | h⟩
    ·omega
    ·omega
    ·rw [h6] at h; exact absurd h.2 (r8 _)
   ·exact ⟨fun _ => .inr ⟨h1, .inr ⟨h3, h6⟩⟩, fun _ => by omega⟩
   ·refine ⟨fun h => by omega, fun h => ?_⟩
    rcases h with h | ⟨_, h | h⟩
    ·omega
    ·omega
    ·exact absurd h6 (F9 h.2)
theorem c7k {l : List Alm} {x y z : Std} (h1 : ltZ l x y) (h2 : ltZ l y z) : ltZ l x z := by
 unfold ltZ at *
 rcases h1 with h1 | ⟨h1, h3⟩ <;> rcases h2 with h2 | ⟨h2, h4⟩
 ·exact .inl (by omega)
 ·exact .inl (by omega)
 ·exact .inl (by omega)
 ·refine .inr ⟨by omega, ?_⟩
  rcases h3 with h3 | ⟨h3, h5⟩ <;> rcases h4 with h4 | ⟨h4, h6⟩
  ·exact .inl (by omega)
  ·exact .inl (by omega)
  ·exact .inl (by omega)
  ·exact .inr ⟨by omega, H7 h5 h6⟩
theorem c6J {l : List Alm} {x z : Std} (y : Std) (h : ltZ l x z) : ltZ l x y ∨ ltZ l y z := by
 unfold ltZ at *
 rcases (show T4 l x.al < T4 l y.al ∨ T4 l y.al < T4 l x.al ∨ T4 l x.al = T4 l y.al by omega) with h1 | h1 | h1
 ·exact .inl (.inl h1)
 ·exact .inr (.inl (by rcases h with h | h <;> omega))
 ·rcases h with h | ⟨h, h'⟩
  ·exact .inr (.inl (by omega))
  ·rcases (show x.si < y.si ∨ y.si < x.si ∨ x.si = y.si by omega) with h2 | h2 | h2
   ·exact .inl (.inr ⟨h1, .inl h2⟩)
   ·exact .inr (.inr ⟨by omega, .inl (by rcases h' with h' | h' <;> omega)⟩)
   ·rcases h' with h' | ⟨h3, h'⟩
    ·exact .inr (.inr ⟨by omega, .inl (by omega)⟩)
    ·rcases b3K x.al y.al with h4 | h4 | h4
     ·exact .inl (.inr ⟨h1, .inr ⟨h2, h4⟩⟩)
     ·exact .inr (.inr ⟨by omega, .inr ⟨by omega, h4 ▸ h'⟩⟩)
     ·exact .inr (.inr ⟨by omega, .inr ⟨by omega, H7 h4 h'⟩⟩)
theorem d5w (l : List Alm) (p : Std → Prop) : Swo p (c5y l) where
 irr x _ h := by
  rcases (Q3 l x x).1 h with h | ⟨_, h | h⟩
  ·omega
  ·omega
  ·exact r8 _ h.2
 tr x y z _ _ _ h1 h2 := (Q3 l x z).2 (c7k ((Q3 l x y).1 h1) ((Q3 l y z).1 h2))
 ntr x y z _ _ _ h1 h2 h3 := by
  rcases c6J y ((Q3 l x z).1 h3) with h | h
  ·exact h1 ((Q3 l x y).2 h)
  ·exact h2 ((Q3 l y z).2 h)
theorem c1c (x : Std) : FC Tryz.prog 48 none [.ag (u7 x)] (fun _ r => r = .tu []) := by
 refine fcE Tryz.func48 (aL [[]]) ?_
 exact qt
theorem c1E (l : List Alm) (hl : l.length ≤ 1000000) (ha : a0h Alm.k l) (x y : Std) (hx : 0 ≤ q8 l x.al) (hy : 0 ≤ q8 l y.al) : FC Tryz.prog 51 none [.ag (u7 x), .ag (u7 y), .one (.ep [.sl false 10 (l.map z7)])] (fun _ r => r = iv (c5y l x y)) := by
 refine fcE Tryz.func51 (aM [3,4] [] [[2,3,4],[3,4,6,7]] ++ aL [[5]]) ?_
 have h1 := O8 x.al l hl ha
 have h2 := O8 y.al l hl ha
 have r1 := D5 l x.al
 have r2 := D5 l y.al
 have e1 := e8 z7 l (q8 l x.al) [] hx (by omega)
 have e2 := e8 z7 l (q8 l y.al) [] hy (by omega)
 have ho := a1v [sd (T4 l y.al) (T4 l x.al), sd y.si x.si, X3 x.al y.al] (by simp)
 rw [show C2 [sd (T4 l y.al) (T4 l x.al), sd y.si x.si, X3 x.al y.al] = c5y l x y from rfl] at ho
 unfold T4 at ho
 refine qc h1 ?_
 refine qc h2 ?_
 refine qc (r9 _ _) ?_
 refine qc (r9 _ _) ?_
 refine qc (a0n _ _) ?_
 refine qc ho ?_
 exact qt
def a4u (z : Std) : Bool := decide (2 ≤ z.st ∧ z.st ≤ 4)
def b9Y (l : List Alm) (td : List Std) : List Std := l7 (c5y l) (td.filter a4u)
def d4H (l : List Alm) (td : List Std) (i : Int) (out : List Std) : AS := ⟨m9 [(4, .one (.bx 4 0)), (12, .one (.ow 12 0)), (35, .one (.sl true 3 (td.map u7))), (36, iv td.length), (37, iv i)], f9 [(4, [.sl false 10 (l.map z7)])], f9 [(12, l9 out)]⟩
theorem a6k (l : List Alm) (s : List Ser) (a : List Opr) (h : AllOk l s a) (at_ : Int) (h12 : l.length ≤ 12) (hat : 0 ≤ at_ ∧ at_ ≤ 345686399999) (hal : ∀ z ∈ (J7 l s a at_).td, 0 ≤ q8 l z.al) :
  FC Tryz.prog 15 none [r6 false l, B3 false s, u9 false a, iv at_] (fun _ r => r = .tu [.one (.sl true 3 ((b9Y l (J7 l s a at_).td).map u7)), iv 0]) := by
 refine fcE Tryz.func15 O3 ?_
 have hl := h.al.len
 have hf := h.fault
 have hm := N5 at_
 rw [decide_eq_true hat] at hm
 have hns := P2 l s a h.al h.se h.ac (by have := h.ev; omega)
 have hrun := a5K 48 c1c l a (evs l s a) at_ (O6 l) (by omega) (by have := h.ac.len; omega) (fun x hx => a1t h.al _ x hx) h.run
 rw [show U9 l a at_ (evs l s a) (O6 l) = J7 l s a at_ from rfl] at hrun
 have htl : (J7 l s a at_).td.length = l.length := by unfold J7; rw [a5J]; simp [O6]
 generalize J7 l s a at_ = T at *
 refine qc hf ?_
 refine qc hm ?_
 refine qv ?_
 refine ⟨rfl, N4 ⟨[(9021, siN 0 l a (evs l s a) (upA l) true)], siR (O6 l)⟩ (.one (.bx 9021 0)) p21 q19 b8n b9q hns (by simp) rfl rfl rfl rfl ⟨rfl, rfl⟩ ?_⟩
 refine qv ?_
 refine ⟨rfl, y6 ⟨[(9021, siN 0 l a (U7 at_ (evs l s a)) (upA l) false)], siR T⟩ (.tu []) c5X c5Q b1c b3e hrun (by simp) rfl rfl rfl rfl rfl ⟨rfl, rfl⟩ ?_⟩
 refine qv ?_
 refine n8 (d4H l T.td) (fun i out => 0 ≤ i ∧ i ≤ T.td.length ∧ out = (T.td.take i.toNat).filter a4u) (fun i _ => (T.td.length - i).toNat) 0 [] ⟨by omega, by omega, by simp⟩ rfl ?_
 rintro i out ⟨g1, g2, g3⟩
 unfold d4H
 have hol : out.length ≤ T.td.length := by rw [g3]; exact Nat.le_trans (List.length_filter_le _ _) (by rw [List.length_take]; omega)
 by_cases hi : i < T.td.length
 ·have em := e8 u7 T.td i [] g1 hi
  have ho := J2 (T.td.getD i.toNat default).st 2 4
  have hsn := C7 T.td i g1 hi
  have hl1 : a4u (T.td.getD i.toNat default) = !decide ((T.td.getD i.toNat default).st < 2 ∨ (T.td.getD i.toNat default).st > 4) := by
   unfold a4u
   rw [← decide_not, decide_eq_decide]; omega
  by_cases hc : (T.td.getD i.toNat default).st < 2 ∨ (T.td.getD i.toNat default).st > 4
  ·rw [decide_eq_true hc] at ho hl1
   refine qc ho ?_
   refine qv ?_
   refine ⟨i + 1, out, rfl, ⟨by omega, by omega, ?_⟩, by omega⟩
   rw [hsn, List.filter_append, ← g3, List.filter_cons, hl1]; simp
  ·rw [decide_eq_false hc] at ho hl1
   refine qc ho ?_
   refine qv ?_
   refine ⟨i + 1, out ++ [T.td.getD i.toNat default], ?_, ⟨by omega, by omega, ?_⟩, by omega⟩
   ·simp only [l9, List.map_append, List.map_cons, List.map_nil, F4]
   ·rw [hsn, List.filter_append, ← g3, List.filter_cons, hl1]; simp
 ·rw [List.take_of_length_le (by omega)] at g3
  have hso := b8z 51 (d5w l (fun z => 0 ≤ q8 l z.al)) 10 (l.map z7) (fun x y hx hy => c1E l (by omega) h.al.up x y hx hy) out (fun z hz => hal z (by rw [g3] at hz; exact (List.mem_filter.1 hz).1)) (by omega)
  rw [g3, show l7 (c5y l) (T.td.filter a4u) = b9Y l T.td from rfl] at hso
  rw [g3]
  refine qv ?_
  refine ⟨rfl, y6 ⟨[(4, [.sl false 10 (l.map z7)])], [(12, l9 (b9Y l T.td))]⟩ (.tu []) (Go.Ai.swp 4 1000001) (Go.Ai.swp 12 1000000) (Go.Ai.s8 4 1000001) (Go.Ai.s8 12 1000000) hso (by simp) rfl rfl rfl rfl rfl ⟨rfl, rfl⟩ ?_⟩
  exact qt
end Go.Proofs.YtbhgndiboeppeaaGreatDoor
