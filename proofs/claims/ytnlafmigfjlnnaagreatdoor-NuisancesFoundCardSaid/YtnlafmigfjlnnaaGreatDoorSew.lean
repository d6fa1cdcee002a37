/- slices.SortStableFunc over events. -/
import Derived.Test.YtnlafmigfjlnnaaGreatDoorEvs
set_option linter.all false
set_option maxHeartbeats 0
set_option maxRecDepth 100000
namespace Go.Proofs.YtnlafmigfjlnnaaGreatDoor
open Go Go.Ai
abbrev y6 (l : List Ev) : Row := ⟨0, 143, 5, l.map evS⟩
theorem z6 (l : List (List Cel)) (x : List Cel) {i j : Nat} (h : i ≠ j) : (l.set j x)[i]? = l[i]? := by rw [List.getElem?_set]; simp [h.symm]
theorem a8L (l : List Ev) (i j : Nat) (hij : i ≠ j) : swx l i j = swx l j i := by
 rw [a9n l i j hij]; rfl
theorem b2e (c : Ev -> Ev -> Int) (U : List Ev) : n5 c (U.take 1) ++ U.drop 1 = U := by
 cases U with
 | nil => rfl
 | cons x U =>
  show mrg c [] [x] ++ U = _
  rw [n3]; rfl
def c0Y (cl : FuncId) (z : Nat) (es : List (List Cel)) (a b : Int) (i : Int) (cur : List Ev) : AS := ⟨m7 [(0, .one (.ow 1000000 0)), (1, iv a), (2, iv b), (3, .one (.fn cl [.bx 1000001 0])), (8, iv i), (1000001, .any)], f7 [(1000001, [.sl false z es])], f7 [(1000000, y6 cur)]⟩
def b4Q (cl : FuncId) (z : Nat) (es : List (List Cel)) (a b i : Int) (j : Int) (cur : List Ev) : AS := ⟨m7 [(0, .one (.ow 1000000 0)), (1, iv a), (2, iv b), (3, .one (.fn cl [.bx 1000001 0])), (8, iv i), (9, iv j), (1000001, .any)], f7 [(1000001, [.sl false z es])], f7 [(1000000, y6 cur)]⟩
structure d2z (c : Ev -> Ev -> Int) (P U Y : List Ev) (k : Nat) (j : Int) (cur : List Ev) (s1 s2 : List Ev) : Prop where
 srt : n5 c (U.take k) = s1 ++ s2
 cur : cur = P ++ (s1 ++ (U.getD k default :: (s2 ++ (U.drop (k + 1) ++ Y))))
 j : j = P.length + s1.length
 lt : ∀ w ∈ s2, c (U.getD k default) w < 0
def d5J (c : Ev -> Ev -> Int) (P U Y : List Ev) (k : Nat) (j : Int) (cur : List Ev) : Prop := ∃ s1 s2, d2z c P U Y k j cur s1 s2
def b0Q (c : Ev -> Ev -> Int) (P U Y : List Ev) (k : Nat) : List Ev := P ++ (n5 c (U.take k) ++ (U.drop k ++ Y))
theorem b9E (c : Ev -> Ev -> Int) (P U Y : List Ev) (k : Nat) : (b0Q c P U Y k).length = P.length + U.length + Y.length := by
 simp [b0Q, e6]; omega
theorem b2k {c : Ev -> Ev -> Int} {P U Y : List Ev} {k : Nat} (hk : k < U.length) : d5J c P U Y k (P.length + k) (b0Q c P U Y k) := by
 refine ⟨n5 c (U.take k), [], by simp, ?_, ?_, by simp⟩
 ·unfold b0Q; rw [F6 hk]; simp
 ·rw [e6, List.length_take]; omega
theorem b4h {p : Ev -> Prop} {c : Ev -> Ev -> Int} (h : Swo p c) {P U Y : List Ev} {k : Nat} {j : Int} {cur s1 s2 : List Ev} (hp : ∀ x ∈ U, p x) (hk : k < U.length) (hI : d2z c P U Y k j cur s1 s2) (hs : ∀ x ∈ s1, ¬c (U.getD k default) x < 0) : cur = b0Q c P U Y (k + 1) := by
 unfold b0Q
 rw [B7 hk, R6, hI.srt, a3Q hs hI.lt, hI.cur]; simp
theorem c8b {p : Ev -> Prop} {c : Ev -> Ev -> Int} (h : Swo p c) {P U Y : List Ev} {k : Nat} {j : Int} {cur s2 s : List Ev} {w : Ev} (hp : ∀ x ∈ U, p x) (hk : k < U.length) (hI : d2z c P U Y k j cur (s ++ [w]) s2) (hw : ¬c (U.getD k default) w < 0) : ∀ x ∈ s ++ [w], ¬c (U.getD k default) x < 0 := by
 intro x hx
 have po : ∀ x ∈ U.take k, p x := fun x hx => hp x (List.mem_of_mem_take hx)
 have ho := x6 h po
 rw [hI.srt] at ho
 have hm : ∀ y, y ∈ s ++ [w] -> p y := fun y hy => po y (ssort_mem.1 (hI.srt ▸ List.mem_append_left _ hy))
 rcases List.mem_append.1 hx with hx | hx
 ·have h1 := (List.pairwise_append.1 (List.pairwise_append.1 ho).1).2.2 x hx w (by simp)
  exact h.ntr _ _ _ (hp _ (y5 hk)) (hm w (by simp)) (hm x (by simp [hx])) hw h1
 ·simp at hx; subst hx; exact hw
theorem d1c {c : Ev -> Ev -> Int} {P U Y : List Ev} {k : Nat} {j : Int} {cur s2 s : List Ev} {w : Ev} (hI : d2z c P U Y k j cur (s ++ [w]) s2) :
  cur.getD j.toNat default = U.getD k default ∧ cur.getD (j - 1).toNat default = w ∧ P.length + 1 <= j ∧ (cur.set j.toNat (cur.getD (j - 1).toNat default)).set (j - 1).toNat (cur.getD j.toNat default) = P ++ (s ++ (U.getD k default :: ((w :: s2) ++ (U.drop (k + 1) ++ Y)))) := by
 have hj := hI.j
 rw [List.length_append, List.length_singleton] at hj
 have e1 : cur = (P ++ s) ++ w :: ([] ++ U.getD k default :: (s2 ++ (U.drop (k + 1) ++ Y))) := by rw [hI.cur]; simp
 have e2 : cur = (P ++ s ++ [w]) ++ U.getD k default :: (s2 ++ (U.drop (k + 1) ++ Y)) := by rw [hI.cur]; simp
 have e3 : j.toNat = (P ++ s ++ [w]).length := by simp; omega
 have e4 : (j - 1).toNat = (P ++ s).length := by simp; omega
 refine ⟨by rw [e2, e3, a0T], by rw [e1, e4, a0T], by omega, ?_⟩
 show swx cur j.toNat (j - 1).toNat = _
 rw [a8L _ _ _ (by omega), e1, W3 e4 (by simp; omega)]
 simp
theorem a8T (cl : FuncId) {c : Ev -> Ev -> Int} {p : Ev -> Prop} (hS : Swo p c) (z : Nat) (es : List (List Cel)) (hcl : ∀ x y, p x -> p y -> FC Tryz.prog cl none [.ag (evS x), .ag (evS y), .one (.ep [.sl false z es])] (fun _ r => r = iv (c x y)))
  (P U Y cur0 : List Ev) (hc : cur0 = P ++ (U ++ Y)) (hp : ∀ x ∈ U, p x) (hlen : cur0.length <= 1000000) (a b : Int) (ha : a = P.length) (hb : b = P.length + U.length) :
  F9 Tryz.prog 163 [1000000] ⟨[(1000001, [.sl false z es])], [(1000000, y6 cur0)]⟩ [.one (.ow 1000000 0), iv a, iv b, .one (.fn cl [.bx 1000001 0])] (fun H r => H = ⟨[(1000001, [.sl false z es])], [(1000000, y6 (P ++ (n5 c U ++ Y)))]⟩ ∧ r = .tu []) := by
 refine fsE Tryz.func163 (aM [1000001] [1000000] [[0,1,2,3,8,1000001],[0,1,2,3,8,14,1000001],[0,1,2,3,8,9,1000001],[0,1,2,3,8,9,34,1000001],[0,1,2,3,8,9,1000001],[0,1,2,3,8,9,1000001],[0,1,2,3,8,1000001]]) ⟨[], [1000001], [1000000]⟩ ?_
 have h0 : cur0 = b0Q c P U Y 1 := by
  rw [hc]; unfold b0Q
  rw [<- List.append_assoc (n5 c _), b2e]
 have hl0 : P.length + U.length + Y.length <= 1000000 := by rw [h0, b9E] at hlen; exact hlen
 refine qv ?_
 refine l0 (fun i => c0Y cl z es a b i (b0Q c P U Y (i - a).toNat)) (fun i => a + 1 <= i ∧ (1 <= U.length -> i <= b)) (fun i => (b - i).toNat) (a + 1) ⟨by omega, by omega⟩ (by rw [show (a + 1 - a).toNat = 1 by omega, <- h0]; rfl) ?_
 rintro i ⟨g1, g2⟩
 unfold c0Y
 by_cases hi : i < b
 ·have hk : (i - a).toNat < U.length := by omega
  refine qv ?_
  refine j7 (b4Q cl z es a b i) (fun j cur => d5J c P U Y (i - a).toNat j cur) (fun j _ => j.toNat) i (b0Q c P U Y (i - a).toNat) (by have := b2k (c := c) (P := P) (Y := Y) hk; rw [show (P.length : Int) + ((i - a).toNat : Int) = i by omega] at this; exact this) rfl ?_
  rintro j cur ⟨s1, s2, hI⟩
  have hjj := hI.j
  have hcl2 : cur.length = P.length + U.length + Y.length := by
   have h5 : (n5 c (U.take (i - a).toNat)).length = s1.length + s2.length := by rw [hI.srt]; simp
   rw [e6, List.length_take] at h5
   rw [hI.cur]; simp; omega
  have hss : s1.length <= (i - a).toNat := by
   have h5 : (n5 c (U.take (i - a).toNat)).length = s1.length + s2.length := by rw [hI.srt]; simp
   rw [e6, List.length_take] at h5; omega
  unfold b4Q
  by_cases hj : a < j
  ·have hne : s1 ≠ [] := fun he => by subst he; simp at hjj; omega
   obtain ⟨s, w, rfl⟩ : ∃ s w, s1 = s ++ [w] := ⟨s1.dropLast, s1.getLast hne, (List.dropLast_concat_getLast hne).symm⟩
   obtain ⟨i1, i2, i3, i4⟩ := d1c hI
   have hmw : w ∈ U.take (i - a).toNat := (ssort_mem (c := c)).1 (by rw [hI.srt]; simp)
   have hcc := hcl _ _ (hp _ (y5 hk)) (hp w (List.mem_of_mem_take hmw))
   rw [<- i1, <- i2, A0, A0] at hcc
   refine qc hcc ?_
   by_cases hlt : c (cur.getD j.toNat default) (cur.getD (j - 1).toNat default) < 0
   ·have el : ((cur.map evS).set j.toNat (evS (cur.getD (j - 1).toNat default))).length = cur.length := by simp
    have eo := z6 (cur.map evS) (evS (cur.getD (j - 1).toNat default)) (show (j - 1).toNat ≠ j.toNat by omega)
    rw [o8 evS cur (j - 1).toNat (by omega)] at eo
    simp only [A0] at el eo
    refine qv ?_
    rw [eo]
    refine qv ?_
    refine ⟨j - 1, (cur.set j.toNat (cur.getD (j - 1).toNat default)).set (j - 1).toNat (cur.getD j.toNat default), by simp only [b4Q, y6, List.map_set, A0], ⟨s, w :: s2, ?_, ?_, ?_, ?_⟩, by omega⟩
    ·rw [hI.srt]; simp
    ·rw [i4]
    ·rw [List.length_append, List.length_singleton] at hjj; omega
    ·intro x hx
     rcases List.mem_cons.1 hx with rfl | hx
     ·rw [i1, i2] at hlt; exact hlt
     ·exact hI.lt x hx
   ·refine qv ?_
    rw [i1, i2] at hlt
    have he := b4h hS hp hk hI (c8b hS hp hk hI hlt)
    exact ⟨i + 1, by rw [show (i + 1 - a).toNat = (i - a).toNat + 1 by omega, <- he], ⟨by omega, by omega⟩, by omega⟩
  ·have hs0 : s1 = [] := List.length_eq_zero_iff.1 (by omega)
   subst hs0
   refine qv ?_
   have he := b4h hS hp hk hI (by simp)
   exact ⟨i + 1, by rw [show (i + 1 - a).toNat = (i - a).toNat + 1 by omega, <- he], ⟨by omega, by omega⟩, by omega⟩
 ·have he : b0Q c P U Y (i - a).toNat = P ++ (n5 c U ++ Y) := by
   unfold b0Q
   rw [List.take_of_length_le (by omega), List.drop_eq_nil_of_le (by omega)]; simp
  rw [he]
  exact qt
def c0S (w : Val) (a b n : Int) (i : Int) (cur : List Ev) : AS := ⟨m7 [(0, .one (.ow 1000000 0)), (1, iv a), (2, iv b), (3, iv n), (10, iv i)], f7 [], f7 [(1000000, y6 cur)]⟩
theorem a3K (w : Val) (P U Q V Y cur0 : List Ev) (hc : cur0 = P ++ (U ++ (Q ++ (V ++ Y)))) (hlen : cur0.length <= 1000000) (hUV : U.length = V.length) (a b n : Int) (ha : a = P.length) (hb : b = P.length + U.length + Q.length) (hn : n = U.length) :
  F9 Tryz.prog 192 [1000000] ⟨[], [(1000000, y6 cur0)]⟩ [.one (.ow 1000000 0), iv a, iv b, iv n, w] (fun H r => H = ⟨[], [(1000000, y6 (P ++ (V ++ (Q ++ (U ++ Y)))))]⟩ ∧ r = .tu []) := by
 refine fsE Tryz.func192 (aM [] [1000000] [[0,1,2,3,10],[0,1,2,3,10,13],[0,1,2,3,10],[0,1,2,3,10]]) ⟨[], [], [1000000]⟩ ?_
 have hl0 : P.length + U.length + Q.length + V.length + Y.length <= 1000000 := by rw [hc] at hlen; simp at hlen; omega
 rw [<- a8z] at hc
 refine qv ?_
 refine l0 (fun i => c0S w a b n i (swr P U Q V Y i.toNat)) (fun i => 0 <= i ∧ i <= n) (fun i => (n - i).toNat) 0 ⟨by omega, by omega⟩ (by rw [show (0 : Int).toNat = 0 from rfl, <- hc]; rfl) ?_
 rintro i ⟨g1, g2⟩
 have hcl := b3m P U Q V Y i.toNat hUV
 have hst := a8Z (p := P) (q := Q) (s := Y) (i := i.toNat) (a := (a + i).toNat) (b := (b + i).toNat) hUV
 rw [show i.toNat + 1 = (i + 1).toNat by omega] at hst
 generalize hcu : swr P U Q V Y i.toNat = cur at *
 unfold c0S
 by_cases hi : i < n
 ·have hst := hst (by omega) (by omega) (by omega)
  have el : ((cur.map evS).set (a + i).toNat (evS (cur.getD (b + i).toNat default))).length = cur.length := by simp
  have hq : 0 < U.length := by omega
  have eo := z6 (cur.map evS) (evS (cur.getD (b + i).toNat default)) (show (b + i).toNat ≠ (a + i).toNat by omega)
  rw [o8 evS cur (b + i).toNat (by omega)] at eo
  simp only [A0] at el eo
  refine qv ?_
  rw [eo]
  refine qv ?_
  refine ⟨i + 1, ?_, ⟨by omega, by omega⟩, by omega⟩
  rw [<- hst]
  simp only [swx, y6, List.map_set, A0]
 ·have he : cur = P ++ (V ++ (Q ++ (U ++ Y))) := by
   rw [<- hcu, show i.toNat = U.length by omega]
   exact b3g P U Q V Y rfl hUV.symm
  rw [he]
  exact qt
theorem c3D (l : List Ev) : F8 (l.map evS) = l.map evS := by
 unfold F8
 rw [List.map_map]
 refine List.map_congr_left fun x _ => ?_
 rfl
theorem d0r (l : List Ev) : frE (l.map evS) = true := by
 unfold frE
 rw [List.all_eq_true]
 intro e he
 obtain ⟨x, _, rfl⟩ := List.mem_map.1 he
 rfl
attribute [go_sem] c3D d0r
theorem td (U Z : List Ev) (n : Nat) : U.take n ++ (U.drop n ++ Z) = U ++ Z := by rw [<- List.append_assoc, List.take_append_drop]
def c1z (m : Int) (i j : Int) (cur : List Ev) : AS := ⟨m7 [(0, .one (.ow 1000000 0)), (2, iv m), (4, .one .any), (10, iv i), (11, iv j)], f7 [], f7 [(1000000, y6 cur)]⟩
structure RotI (T : List Ev) (n : Nat) (m i j : Int) (cur P U V Y : List Ev) : Prop where
 cu : cur = P ++ (U ++ (V ++ Y))
 tgt : T = P ++ (V ++ (U ++ Y))
 ui : i = U.length
 vj : j = V.length
 pm : m = P.length + U.length
 i0 : 0 < i
 j0 : 0 < j
 len : cur.length = n
theorem RotI.gt {T : List Ev} {n : Nat} {m i j : Int} {cur P U V Y : List Ev} (h : RotI T n m i j cur P U V Y) (hij : j < i) :
  RotI T n m (i - j) j (P ++ (V ++ (U.drop V.length ++ (U.take V.length ++ Y)))) (P ++ V) (U.drop V.length) (U.take V.length) Y := by
 obtain ⟨h1, h2, h3, h4, h5, h6, h7, h8⟩ := h
 refine ⟨by simp, ?_, by rw [List.length_drop]; omega, by rw [List.length_take]; omega, by rw [List.length_append, List.length_drop]; omega, by omega, by omega, ?_⟩
 ·rw [h2]; simp [td]
 ·rw [h1] at h8
  simp only [List.length_append, List.length_drop, List.length_take] at h8 ⊢
  omega
theorem RotI.lt {T : List Ev} {n : Nat} {m i j : Int} {cur P U V Y : List Ev} (h : RotI T n m i j cur P U V Y) (hij : i < j) :
  RotI T n m i (j - i) (P ++ (V.drop (V.length - U.length) ++ (V.take (V.length - U.length) ++ (U ++ Y)))) P (V.drop (V.length - U.length)) (V.take (V.length - U.length)) (U ++ Y) := by
 obtain ⟨h1, h2, h3, h4, h5, h6, h7, h8⟩ := h
 refine ⟨rfl, ?_, by rw [List.length_drop]; omega, by rw [List.length_take]; omega, by rw [List.length_drop]; omega, by omega, by omega, ?_⟩
 ·rw [h2]; simp [td]
 ·rw [h1] at h8
  simp only [List.length_append, List.length_drop, List.length_take] at h8 ⊢
  omega
def d6U (T : List Ev) (n : Nat) (m i j : Int) (cur : List Ev) : Prop := ∃ P U V Y, RotI T n m i j cur P U V Y
theorem a0I (cl : FuncId) (P U V Y cur0 : List Ev) (hc : cur0 = P ++ (U ++ (V ++ Y))) (hlen : cur0.length <= 1000000) (hU : 0 < U.length) (hV : 0 < V.length) (a m b : Int) (ha : a = P.length) (hm : m = P.length + U.length) (hb : b = P.length + U.length + V.length) :
  F9 Tryz.prog 179 [1000000] ⟨[], [(1000000, y6 cur0)]⟩ [.one (.ow 1000000 0), iv a, iv m, iv b, .one (.fn cl [.any])] (fun H r => H = ⟨[], [(1000000, y6 (P ++ (V ++ (U ++ Y))))]⟩ ∧ r = .tu []) := by
 refine fsE Tryz.func179 (aM [] [1000000] [[0,2,3,4,10],[0,2,4,10,11],[0,2,4,10,11,20],[0,2,4,10,11,23]] ++ [⟨(kP [0,2,4,10,11] [] [1000000]),[],[],[],[(31,⟨[],[1000000],[],[1000000],[1000000]⟩)]⟩,aN [0,2,4,10,11] [] [1000000],⟨(kP [0,2,4,10,11] [] [1000000]),[],[],[],[(46,⟨[],[1000000],[],[1000000],[1000000]⟩)]⟩,aN [0,2,4,10,11] [] [1000000],⟨(kP [] [] [1000000]),[],[],[],[(57,⟨[],[1000000],[],[1000000],[1000000]⟩)]⟩]) ⟨[], [], [1000000]⟩ ?_
 generalize hT : P ++ (V ++ (U ++ Y)) = T
 have hst : RotI T cur0.length m U.length V.length cur0 P U V Y := ⟨hc, hT.symm, rfl, rfl, hm, by omega, by omega, rfl⟩
 have e1 : m - a = U.length := by omega
 have e2 : b - m = V.length := by omega
 have hl0 : P.length + U.length + V.length + Y.length <= 1000000 := by rw [hc] at hlen; simp at hlen; omega
 refine qv ?_
 refine F4 (fun i j cur => c1z m i j cur) (fun i j cur => d6U T cur0.length m i j cur) (fun i j _ => (i + j).toNat) (m - a) (b - m) cur0 (by rw [e1, e2]; exact ⟨_, _, _, _, hst⟩) rfl ?_
 rintro i j cur ⟨P, U, V, Y, hI⟩
 obtain ⟨h1, h2, h3, h4, h5, h6, h7, h8⟩ := id hI
 have hl1 : P.length + U.length + V.length + Y.length = cur0.length := by rw [h1] at h8; simp at h8; omega
 unfold c1z
 by_cases hij : i = j
 ·have hs := a3K (.one .any) P U [] V Y cur (by rw [h1]; rfl) (by omega) (by omega) (m - i) m i (by omega) (by simp; omega) (by omega)
  rw [List.nil_append, <- h2] at hs
  refine qv ?_
  refine ⟨rfl, e7 hs ⟨rfl, rfl⟩ ?_⟩
  exact qt
 ·by_cases hgt : j < i
  ·have hs := a3K (.one .any) P (U.take V.length) (U.drop V.length) V Y cur (by rw [h1, td]) (by omega) (by rw [List.length_take]; omega) (m - i) m j (by omega) (by rw [List.length_take, List.length_drop]; omega) (by rw [List.length_take]; omega)
   refine qv ?_
   refine ⟨rfl, e7 hs ⟨rfl, rfl⟩ ?_⟩
   refine qv ?_
   exact ⟨i - j, j, _, rfl, ⟨_, _, _, _, hI.gt hgt⟩, by omega⟩
  ·have hs := a3K (.one .any) P U (V.take (V.length - U.length)) (V.drop (V.length - U.length)) Y cur (by rw [h1, td]) (by omega) (by rw [List.length_drop]; omega) (m - i) (m + j - i) i (by omega) (by rw [List.length_take]; omega) (by omega)
   refine qv ?_
   refine ⟨rfl, e7 hs ⟨rfl, rfl⟩ ?_⟩
   refine qv ?_
   exact ⟨i, j - i, _, rfl, ⟨_, _, _, _, hI.lt (by omega)⟩, by omega⟩
section
variable {α : Type} [Inhabited α]
theorem b3A {p : α -> Prop} {c : α -> α -> Int} (hS : Swo p c) {V : List α} (pv : ∀ x ∈ V, p x) (ov : Ord c V) {x : α} (px : p x) {h : Nat} (hh : h < V.length) (hc : c (V.getD h default) x < 0) : ∀ k, k <= h -> c (V.getD k default) x < 0 := fun k hk => by
 by_cases e : k = h
 ·rw [e]; exact hc
 ·have h1 := a0s ov (show k < h by omega) hh
  by_cases h2 : c (V.getD k default) x < 0
  ·exact h2
  ·exact absurd hc (hS.ntr _ _ _ (pv _ (y5 hh)) (pv _ (y5 (by omega))) px h1 h2)
theorem a8O {p : α -> Prop} {c : α -> α -> Int} (hS : Swo p c) {V : List α} (pv : ∀ x ∈ V, p x) (ov : Ord c V) {x : α} (px : p x) {h : Nat} (hh : h < V.length) (hc : ¬c (V.getD h default) x < 0) : ∀ k, h <= k -> k < V.length -> ¬c (V.getD k default) x < 0 := fun k hk hk2 => by
 by_cases e : k = h
 ·rw [e]; exact hc
 ·exact hS.ntr _ _ _ (pv _ (y5 hk2)) (pv _ (y5 hh)) px (a0s ov (show h < k by omega) hk2) hc
theorem a9m {p : α -> Prop} {c : α -> α -> Int} (hS : Swo p c) {V : List α} (pv : ∀ x ∈ V, p x) (ov : Ord c V) {x : α} (px : p x) {h : Nat} (hh : h < V.length) (hc : ¬c x (V.getD h default) < 0) : ∀ k, k <= h -> ¬c x (V.getD k default) < 0 := fun k hk => by
 by_cases e : k = h
 ·rw [e]; exact hc
 ·exact hS.ntr _ _ _ px (pv _ (y5 hh)) (pv _ (y5 (by omega))) hc (a0s ov (show k < h by omega) hh)
theorem a4O {p : α -> Prop} {c : α -> α -> Int} (hS : Swo p c) {V : List α} (pv : ∀ x ∈ V, p x) (ov : Ord c V) {x : α} (px : p x) {h : Nat} (hh : h < V.length) (hc : c x (V.getD h default) < 0) : ∀ k, h <= k -> k < V.length -> c x (V.getD k default) < 0 := fun k hk hk2 => by
 by_cases e : k = h
 ·rw [e]; exact hc
 ·have h1 := a0s ov (show h < k by omega) hk2
  by_cases h2 : c x (V.getD k default) < 0
  ·exact h2
  ·exact absurd hc (hS.ntr _ _ _ px (pv _ (y5 hk2)) (pv _ (y5 hh)) h2 h1)
theorem a1s {P U Z : List α} {i : Nat} {k : Nat} (hk : k = P.length + i) (hi : i < U.length) : (P ++ (U ++ Z)).getD k default = U.getD i default := by
 subst hk
 rw [List.getD_eq_getElem?_getD, List.getElem?_append_right (by omega), List.getElem?_append_left (by omega), List.getD_eq_getElem?_getD, show P.length + i - P.length = i by omega]
theorem a2y {P U V Y : List α} {i : Nat} {k : Nat} (hk : k = P.length + U.length + i) (hi : i < V.length) : (P ++ (U ++ (V ++ Y))).getD k default = V.getD i default := by
 rw [<- List.append_assoc]
 exact a1s (P := P ++ U) (by simp; omega) hi
theorem a3Y {P V Y : List α} {x : α} {q k : Nat} (hq : q < V.length) (hk : k = P.length + q) : swx (P ++ (V.take q ++ x :: (V.drop q ++ Y))) k (k + 1) = P ++ (V.take (q + 1) ++ x :: (V.drop (q + 1) ++ Y)) := by
 have e : P ++ (V.take q ++ x :: (V.drop q ++ Y)) = (P ++ V.take q) ++ x :: ([] ++ V.getD q default :: (V.drop (q + 1) ++ Y)) := by
  rw [F6 hq]; simp
 rw [e, W3 (by simp; omega) (by simp; omega), B7 hq]; simp
theorem W6 {c : α -> α -> Int} {V : List α} {x : α} {t : Nat} (ht : t <= V.length) (h1 : ∀ k, k < t -> c (V.getD k default) x < 0) (h2 : ∀ k, t <= k -> k < V.length -> ¬c (V.getD k default) x < 0) : mrg c [x] V = V.take t ++ x :: V.drop t := by
 conv => lhs; rw [<- List.take_append_drop t V]
 refine b4W (fun y hy => ?_) (fun y hy => ?_)
 ·obtain ⟨k, hk, rfl⟩ := G8 hy
  rw [List.length_take] at hk
  rw [R4 (by omega)]; exact h1 k (by omega)
 ·obtain ⟨k, hk, rfl⟩ := G8 hy
  rw [List.length_drop] at hk
  rw [S1]; exact h2 _ (by omega) (by omega)
theorem a0p {c : α -> α -> Int} {U : List α} {y : α} {t : Nat} (ht : t <= U.length) (h1 : ∀ k, k < t -> ¬c y (U.getD k default) < 0) (h2 : ∀ k, t <= k -> k < U.length -> c y (U.getD k default) < 0) : mrg c U [y] = U.take t ++ y :: U.drop t := by
 conv => lhs; rw [<- List.take_append_drop t U]
 refine a3Q (fun x hx => ?_) (fun x hx => ?_)
 ·obtain ⟨k, hk, rfl⟩ := G8 hx
  rw [List.length_take] at hk
  rw [R4 (by omega)]; exact h1 k (by omega)
 ·obtain ⟨k, hk, rfl⟩ := G8 hx
  rw [List.length_drop] at hk
  rw [S1]; exact h2 _ (by omega) (by omega)
end
def c7A (cl : FuncId) (z : Nat) (es : List (List Cel)) (a i j : Int) (cur : List Ev) : AS := ⟨m7 [(0, .one (.ow 1000000 0)), (1, iv a), (4, .one (.fn cl [.bx 1000001 0])), (10, iv i), (11, iv j), (1000001, .any)], f7 [(1000001, [.sl false z es])], f7 [(1000000, y6 cur)]⟩
def d1Y (z : Nat) (es : List (List Cel)) (i k : Int) (cur : List Ev) : AS := ⟨m7 [(0, .one (.ow 1000000 0)), (10, iv i), (13, iv k)], f7 [(1000001, [.sl false z es])], f7 [(1000000, y6 cur)]⟩
def c9H (cl : FuncId) (z : Nat) (es : List (List Cel)) (m i j : Int) (cur : List Ev) : AS := ⟨m7 [(0, .one (.ow 1000000 0)), (2, iv m), (4, .one (.fn cl [.bx 1000001 0])), (14, iv i), (15, iv j), (1000001, .any)], f7 [(1000001, [.sl false z es])], f7 [(1000000, y6 cur)]⟩
def c8T (z : Nat) (es : List (List Cel)) (i k : Int) (cur : List Ev) : AS := ⟨m7 [(0, .one (.ow 1000000 0)), (14, iv i), (17, iv k)], f7 [(1000001, [.sl false z es])], f7 [(1000000, y6 cur)]⟩
def d2d (cl : FuncId) (z : Nat) (es : List (List Cel)) (a m b mid n p : Int) (cur : List Ev) (s r : Int) : AS := ⟨m7 [(0, .one (.ow 1000000 0)), (1, iv a), (2, iv m), (3, iv b), (4, .one (.fn cl [.bx 1000001 0])), (18, iv mid), (19, iv n), (20, iv s), (21, iv r), (22, iv p), (1000001, .any)], f7 [(1000001, [.sl false z es])], f7 [(1000000, y6 cur)]⟩
theorem R0 {x : Int} (h0 : 0 <= x) (h1 : x <= 9223372036854775807) : IntKind.i64.wrap (x.fdiv (2 ^ min (Int.toNat 1) 64)) = x / 2 := by
 have : x.fdiv (2 ^ min (Int.toNat 1) 64) = x / 2 := Int.fdiv_eq_ediv_of_nonneg _ (by decide)
 rw [this, wrap_i64 _ (by omega) (by omega)]
theorem a7O (cl : FuncId) {c : Ev -> Ev -> Int} {p : Ev -> Prop} (hS : Swo p c) (z : Nat) (es : List (List Cel)) (hcl : ∀ x y, p x -> p y -> FC Tryz.prog cl none [.ag (evS x), .ag (evS y), .one (.ep [.sl false z es])] (fun _ r => r = iv (c x y))) (n : Nat) :
  ∀ (P U V Y cur0 : List Ev) (a m b : Int), U.length + V.length = n -> cur0 = P ++ (U ++ (V ++ Y)) -> 0 < U.length -> 0 < V.length -> (∀ x ∈ U, p x) -> (∀ x ∈ V, p x) -> Ord c U -> Ord c V -> cur0.length <= 1000000 -> a = P.length -> m = P.length + U.length -> b = P.length + U.length + V.length ->
  F9 Tryz.prog 164 [1000000] ⟨[(1000001, [.sl false z es])], [(1000000, y6 cur0)]⟩ [.one (.ow 1000000 0), iv a, iv m, iv b, .one (.fn cl [.bx 1000001 0])] (fun H r => H = ⟨[(1000001, [.sl false z es])], [(1000000, y6 (P ++ (mrg c U V ++ Y)))]⟩ ∧ r = .tu []) := by
 induction n using Nat.strongRecOn with
 | _ n ih =>
 intro P U V Y cur0 a m b hn hc hU hV pU pV oU oV hlen ha hm hb
 refine fsE Tryz.func164 (aM [1000001] [1000000] [[0,1,2,3,4,28,1000001],[0,1,3,4,10,1000001],[0,1,4,10,11,1000001],[0,1,4,10,11,33,1000001],[0,1,4,10,11,12,1000001],[0,1,4,10,11,12,50,1000001],[0,1,4,10,11,1000001],[0,1,4,10,11,1000001],[0,10,13],[0,10,13,58],[0,10,13],[0,10,13],[0,1,2,3,4,80,1000001],[0,2,4,14,1000001],[0,2,4,14,15,1000001],[0,2,4,14,15,85,1000001],[0,2,4,14,15,16,1000001],[0,2,4,14,15,16,103,1000001],[0,2,4,14,15,1000001],[0,2,4,14,15,1000001],[0,14,17],[0,14,17,110],[0,14,17],[0,14,17],[0,1,2,3,4,18,1000001],[0,1,2,3,4,18,19,1000001],[0,1,2,3,4,18,19,1000001],[0,1,2,3,4,18,19,140,1000001],[0,1,2,3,4,18,19,20,1000001],[0,1,2,3,4,18,19,20,21,1000001],[0,1,2,3,4,18,19,20,1000001],[0,1,2,3,4,18,19,20,21,1000001],[0,1,2,3,4,18,19,20,21,22,1000001],[0,1,2,3,4,18,19,20,21,22,151,1000001],[0,1,2,3,4,18,19,20,21,22,23,1000001],[0,1,2,3,4,18,19,20,21,22,23,171,1000001],[0,1,2,3,4,18,19,20,21,22,1000001],[0,1,2,3,4,18,19,20,21,22,1000001],[0,1,2,3,4,18,20,24,1000001],[0,1,2,3,4,18,20,24,185,1000001]] ++ [⟨(kP [0,1,3,4,18,20,24,1000001] [1000001] [1000000]),[],[],[],[(191,⟨[],[1000000],[],[1000000],[1000000]⟩)]⟩,aN [0,1,3,4,18,20,24,199,1000001] [1000001] [1000000],⟨(kP [0,3,4,18,24,1000001] [1000001] [1000000]),[],[],[],[(205,⟨[1000001],[1000000],[1000001],[1000000],[1000000]⟩)]⟩,aN [0,3,4,18,24,213,1000001] [1000001] [1000000],⟨(kP [] [1000001] [1000000]),[],[],[],[(219,⟨[1000001],[1000000],[1000001],[1000000],[1000000]⟩)]⟩]) ⟨[], [1000001], [1000000]⟩ ?_
 have hl0 : P.length + U.length + V.length + Y.length = cur0.length := by rw [hc]; simp; omega
 have hgl : ∀ i : Int, a <= i -> i < m -> cur0.getD i.toNat default = U.getD (i - a).toNat default := fun i h1 h2 => by rw [hc]; exact a1s (by omega) (by omega)
 have hgr : ∀ i : Int, m <= i -> i < b -> cur0.getD i.toNat default = V.getD (i - m).toNat default := fun i h1 h2 => by rw [hc]; exact a2y (by omega) (by omega)
 have ppl : ∀ i : Int, a <= i -> i < m -> p (cur0.getD i.toNat default) := fun i h1 h2 => by rw [hgl i h1 h2]; exact pU _ (y5 (by omega))
 have ppr : ∀ i : Int, m <= i -> i < b -> p (cur0.getD i.toNat default) := fun i h1 h2 => by rw [hgr i h1 h2]; exact pV _ (y5 (by omega))
 by_cases u1 : U.length = 1
 ·obtain ⟨x, hx⟩ : ∃ x, U = [x] := List.length_eq_one_iff.1 u1
  have ex0 : cur0.getD a.toNat default = x := by rw [hgl a (by omega) (by omega), hx, show (a - a).toNat = 0 by omega]; rfl
  refine qv ?_
  refine j7 (fun i j => c7A cl z es a i j cur0) (fun i j => m <= i ∧ i <= j ∧ j <= b ∧ (∀ k : Nat, k < (i - m).toNat -> c (V.getD k default) x < 0) ∧ (∀ k : Nat, (j - m).toNat <= k -> k < V.length -> ¬c (V.getD k default) x < 0)) (fun i j => (j - i).toNat) m b ⟨by omega, by omega, by omega, fun k hk => by omega, fun k h1 h2 => by omega⟩ rfl ?_
  rintro i j ⟨g1, g2, g3, g4, g5⟩
  unfold c7A
  by_cases hij : i < j
  ·have eh : IntKind.i64.wrap ((i + j).fdiv (2 ^ min (Int.toNat 1) 64)) = (i + j) / 2 := R0 (by omega) (by omega)
   have hcc := hcl _ _ (ppr ((i + j) / 2) (by omega) (by omega)) (ppl a (by omega) (by omega))
   rw [A0, A0] at hcc
   refine qv ?_
   simp only [eh]
   refine m9 hcc (.inl rfl) ?_
   have ev := hgr ((i + j) / 2) (by omega) (by omega)
   rw [ex0]
   by_cases hlt : c (cur0.getD ((i + j) / 2).toNat default) x < 0
   ·refine qv ?_
    rw [ev] at hlt
    exact ⟨(i + j) / 2 + 1, j, rfl, ⟨by omega, by omega, by omega, fun k hk => b3A hS pV oV (pU x (by rw [hx]; simp)) (by omega) hlt k (by omega), g5⟩, by omega⟩
   ·refine qv ?_
    rw [ev] at hlt
    exact ⟨i, (i + j) / 2, rfl, ⟨by omega, by omega, by omega, g4, fun k hk hk2 => a8O hS pV oV (pU x (by rw [hx]; simp)) (by omega) hlt k (by omega) hk2⟩, by omega⟩
  ·have eij : j = i := by omega
   subst eij
   have hmr := W6 (c := c) (V := V) (x := x) (t := (j - m).toNat) (by omega) g4 g5
   refine qv ?_
   refine l0 (fun k => d1Y z es j k (P ++ (V.take (k - a).toNat ++ x :: (V.drop (k - a).toNat ++ Y)))) (fun k => a <= k ∧ k <= j - 1) (fun k => (j - k).toNat) a ⟨by omega, by omega⟩ (by rw [show (a - a).toNat = 0 by omega, hc, hx]; rfl) ?_
   rintro k ⟨k1, k2⟩
   have hl2 : (P ++ (V.take (k - a).toNat ++ x :: (V.drop (k - a).toNat ++ Y))).length = cur0.length := by simp; omega
   have hus := a3Y (P := P) (V := V) (Y := Y) (x := x) (q := (k - a).toNat) (k := k.toNat)
   rw [show (k - a).toNat + 1 = (k + 1 - a).toNat by omega, show k.toNat + 1 = (k + 1).toNat by omega] at hus
   unfold d1Y
   by_cases hk : k < j - 1
   ·have hus := hus (by omega) (by omega)
    generalize P ++ (V.take (k - a).toNat ++ x :: (V.drop (k - a).toNat ++ Y)) = cur at *
    have el : ((cur.map evS).set k.toNat (evS (cur.getD (k + 1).toNat default))).length = cur.length := by simp
    have eo := z6 (cur.map evS) (evS (cur.getD (k + 1).toNat default)) (show (k + 1).toNat ≠ k.toNat by omega)
    rw [o8 evS cur (k + 1).toNat (by omega)] at eo
    simp only [A0] at el eo
    refine qv ?_
    rw [eo]
    refine qv ?_
    refine ⟨k + 1, ?_, ⟨by omega, by omega⟩, by omega⟩
    rw [<- hus]
    simp only [swx, y6, List.map_set, A0]
   ·have ek : (k - a).toNat = (j - m).toNat := by omega
    refine qv ?_
    rw [hx, hmr, ek]
    simp
 by_cases v1 : V.length = 1
 ·obtain ⟨y, hy⟩ : ∃ y, V = [y] := List.length_eq_one_iff.1 v1
  have ex0 : cur0.getD m.toNat default = y := by rw [hgr m (by omega) (by omega), hy, show (m - m).toNat = 0 by omega]; rfl
  refine qv ?_
  refine j7 (fun i j => c9H cl z es m i j cur0) (fun i j => a <= i ∧ i <= j ∧ j <= m ∧ (∀ k : Nat, k < (i - a).toNat -> ¬c y (U.getD k default) < 0) ∧ (∀ k : Nat, (j - a).toNat <= k -> k < U.length -> c y (U.getD k default) < 0)) (fun i j => (j - i).toNat) a m ⟨by omega, by omega, by omega, fun k hk => by omega, fun k h1 h2 => by omega⟩ rfl ?_
  rintro i j ⟨g1, g2, g3, g4, g5⟩
  unfold c9H
  by_cases hij : i < j
  ·have eh : IntKind.i64.wrap ((i + j).fdiv (2 ^ min (Int.toNat 1) 64)) = (i + j) / 2 := R0 (by omega) (by omega)
   have hcc := hcl _ _ (ppr m (by omega) (by omega)) (ppl ((i + j) / 2) (by omega) (by omega))
   rw [A0, A0] at hcc
   refine qv ?_
   simp only [eh]
   refine m9 hcc (.inl rfl) ?_
   have ev := hgl ((i + j) / 2) (by omega) (by omega)
   rw [ex0]
   by_cases hlt : c y (cur0.getD ((i + j) / 2).toNat default) < 0
   ·refine qv ?_
    rw [ev] at hlt
    exact ⟨i, (i + j) / 2, rfl, ⟨by omega, by omega, by omega, g4, fun k hk hk2 => a4O hS pU oU (pV y (by rw [hy]; simp)) (by omega) hlt k (by omega) hk2⟩, by omega⟩
   ·refine qv ?_
    rw [ev] at hlt
    exact ⟨(i + j) / 2 + 1, j, rfl, ⟨by omega, by omega, by omega, fun k hk => a9m hS pU oU (pV y (by rw [hy]; simp)) (by omega) hlt k (by omega), g5⟩, by omega⟩
  ·have eij : j = i := by omega
   subst eij
   have hmr := a0p (c := c) (U := U) (y := y) (t := (j - a).toNat) (by omega) g4 g5
   refine qv ?_
   refine l0 (fun k => c8T z es j k (P ++ (U.take (k - a).toNat ++ y :: (U.drop (k - a).toNat ++ Y)))) (fun k => j <= k ∧ k <= m) (fun k => (k - j).toNat) m ⟨by omega, by omega⟩ (by rw [List.take_of_length_le (by omega), List.drop_eq_nil_of_le (by omega), hc, hy]; rfl) ?_
   rintro k ⟨k1, k2⟩
   have hl2 : (P ++ (U.take (k - a).toNat ++ y :: (U.drop (k - a).toNat ++ Y))).length = cur0.length := by simp; omega
   unfold c8T
   by_cases hk : j < k
   ·have hus := a3Y (P := P) (V := U) (Y := Y) (x := y) (q := (k - 1 - a).toNat) (k := (k - 1).toNat) (by omega) (by omega)
    rw [show (k - 1 - a).toNat + 1 = (k - a).toNat by omega, show (k - 1).toNat + 1 = k.toNat by omega] at hus
    have hus2 : swx (P ++ (U.take (k - a).toNat ++ y :: (U.drop (k - a).toNat ++ Y))) k.toNat (k - 1).toNat = P ++ (U.take (k - 1 - a).toNat ++ y :: (U.drop (k - 1 - a).toNat ++ Y)) := by
     rw [<- hus, a8L _ _ _ (by omega), b4z _ _ _ (by omega) (by simp; omega) (by simp; omega)]
    clear hus
    generalize P ++ (U.take (k - a).toNat ++ y :: (U.drop (k - a).toNat ++ Y)) = cur at *
    have el : ((cur.map evS).set k.toNat (evS (cur.getD (k - 1).toNat default))).length = cur.length := by simp
    have eo := z6 (cur.map evS) (evS (cur.getD (k - 1).toNat default)) (show (k - 1).toNat ≠ k.toNat by omega)
    rw [o8 evS cur (k - 1).toNat (by omega)] at eo
    simp only [A0] at el eo
    refine qv ?_
    rw [eo]
    refine qv ?_
    refine ⟨k - 1, ?_, ⟨by omega, by omega⟩, by omega⟩
    rw [<- hus2]
    simp only [swx, y6, List.map_set, A0]
   ·have ek : k = j := by omega
    subst ek
    refine qv ?_
    rw [hy, hmr]
    simp
 have eh : IntKind.i64.wrap ((a + b).fdiv (2 ^ min (Int.toNat 1) 64)) = (a + b) / 2 := R0 (by omega) (by omega)
 have md1 : 2 * ((a + b) / 2) <= a + b := by omega
 have md2 : a + b <= 2 * ((a + b) / 2) + 1 := by omega
 generalize hmid : (a + b) / 2 = mid at *
 obtain ⟨lo, hi, hcase⟩ : ∃ lo hi : Int, (mid < m ∧ lo = mid + m - b ∧ hi = mid) ∨ (m <= mid ∧ lo = a ∧ hi = m) := by
  by_cases h : mid < m
  ·exact ⟨_, _, .inl ⟨h, rfl, rfl⟩⟩
  ·exact ⟨_, _, .inr ⟨by omega, rfl, rfl⟩⟩
 by_cases hmm : mid < m
 all_goals
  refine qv ?_
  simp only [eh]
  refine j7 (fun s r => d2d cl z es a m b mid (mid + m) (mid + m - 1) cur0 s r) (fun s r => lo <= s ∧ s <= r ∧ r <= hi ∧ (s = lo ∨ ¬c (cur0.getD (mid + m - s).toNat default) (cur0.getD (s - 1).toNat default) < 0) ∧ (r = hi ∨ c (cur0.getD (mid + m - 1 - r).toNat default) (cur0.getD r.toNat default) < 0)) (fun s r => (r - s).toNat) _ _ ⟨by omega, by omega, by omega, .inl (by omega), .inl (by omega)⟩ rfl ?_
  rintro s r ⟨g1, g2, g3, g4, g5⟩
  unfold d2d
  by_cases hsr : s < r
  ·have eh2 : IntKind.i64.wrap ((s + r).fdiv (2 ^ min (Int.toNat 1) 64)) = (s + r) / 2 := R0 (by omega) (by omega)
   have hcc := hcl _ _ (ppr (mid + m - 1 - (s + r) / 2) (by omega) (by omega)) (ppl ((s + r) / 2) (by omega) (by omega))
   rw [A0, A0] at hcc
   by_cases hlt : c (cur0.getD (mid + m - 1 - (s + r) / 2).toNat default) (cur0.getD ((s + r) / 2).toNat default) < 0
   ·refine qv ?_
    simp only [eh2]
    refine m9 hcc (.inl rfl) ?_
    refine qv ?_
    exact ⟨s, (s + r) / 2, rfl, ⟨by omega, by omega, by omega, g4, .inr hlt⟩, by omega⟩
   ·refine qv ?_
    simp only [eh2]
    refine m9 hcc (.inl rfl) ?_
    refine qv ?_
    exact ⟨(s + r) / 2 + 1, r, rfl, ⟨by omega, by omega, by omega, .inr (by rw [show mid + m - ((s + r) / 2 + 1) = mid + m - 1 - (s + r) / 2 by omega, show (s + r) / 2 + 1 - 1 = (s + r) / 2 by omega]; exact hlt), g5⟩, by omega⟩
  ·have esr : r = s := by omega
   subst esr
   have hcut := b4T hS pU pV oU oV (i := (r - a).toNat) (j := (mid - r).toNat) (by omega) (by omega) (by
    by_cases q1 : r = a
    ·exact .inl (by omega)
    by_cases q2 : (mid - r).toNat = V.length
    ·exact .inr (.inl q2)
    rcases g4 with g4 | g4
    ·omega
    rw [hgr _ (by omega) (by omega), hgl _ (by omega) (by omega), show (mid + m - r - m).toNat = (mid - r).toNat by omega, show (r - 1 - a).toNat = (r - a).toNat - 1 by omega] at g4
    exact .inr (.inr g4)) (by
    by_cases q1 : r = m
    ·exact .inl (by omega)
    by_cases q2 : r = mid
    ·exact .inr (.inl (by omega))
    rcases g5 with g5 | g5
    ·omega
    rw [hgr _ (by omega) (by omega), hgl _ (by omega) (by omega), show (mid + m - 1 - r - m).toNat = (mid - r).toNat - 1 by omega] at g5
    exact .inr (.inr g5))
   have l1 : (U.take (r - a).toNat).length = (r - a).toNat := by rw [List.length_take]; omega
   have l2 : (U.drop (r - a).toNat).length = (m - r).toNat := by rw [List.length_drop]; omega
   have l3 : (V.take (mid - r).toNat).length = (mid - r).toNat := by rw [List.length_take]; omega
   have l4 : (V.drop (mid - r).toNat).length = (b - m - (mid - r)).toNat := by rw [List.length_drop]; omega
   have p1 : ∀ x ∈ U.take (r - a).toNat, p x := fun x hx => pU x (List.mem_of_mem_take hx)
   have p2 : ∀ x ∈ U.drop (r - a).toNat, p x := fun x hx => pU x (List.mem_of_mem_drop hx)
   have p3 : ∀ x ∈ V.take (mid - r).toNat, p x := fun x hx => pV x (List.mem_of_mem_take hx)
   have p4 : ∀ x ∈ V.drop (mid - r).toNat, p x := fun x hx => pV x (List.mem_of_mem_drop hx)
   have o1 : Ord c (U.take (r - a).toNat) := List.Pairwise.sublist (List.take_sublist _ _) oU
   have o2 : Ord c (U.drop (r - a).toNat) := List.Pairwise.sublist (List.drop_sublist _ _) oU
   have o3 : Ord c (V.take (mid - r).toNat) := List.Pairwise.sublist (List.take_sublist _ _) oV
   have o4 : Ord c (V.drop (mid - r).toNat) := List.Pairwise.sublist (List.drop_sublist _ _) oV
   have hc0 : cur0 = (P ++ U.take (r - a).toNat) ++ (U.drop (r - a).toNat ++ (V.take (mid - r).toNat ++ (V.drop (mid - r).toNat ++ Y))) := by
    rw [hc]; simp [td]
   rw [hcut]
   generalize U.take (r - a).toNat = U1 at *
   generalize U.drop (r - a).toNat = U2 at *
   generalize V.take (mid - r).toNat = V1 at *
   generalize V.drop (mid - r).toNat = V2 at *
   have hl5 : cur0.length = P.length + U1.length + U2.length + V1.length + V2.length + Y.length := by rw [hc0]; simp; omega
   by_cases w0 : r < m
   ·
    by_cases w1 : r < mid
    ·
     by_cases w2 : a < r
     ·
      by_cases w3 : mid + m - r < b
      ·
       first
        | exfalso; omega
        |skip
         refine qv ?_
         refine ⟨rfl, e7 (a0I cl (P ++ U1) U2 V1 (V2 ++ Y) cur0 hc0 (by omega) (by omega) (by omega) r m (mid + m - r) (by simp; omega) (by simp; omega) (by simp; omega)) ⟨rfl, rfl⟩ ?_⟩
         refine qv ?_
         refine ⟨rfl, e7 (ih (U1.length + V1.length) (by omega) P U1 V1 (U2 ++ (V2 ++ Y)) _ a r mid rfl (by simp) (by omega) (by omega) p1 p3 o1 o3 (by first | omega | (simp; omega)) (by omega) (by omega) (by omega)) ⟨rfl, rfl⟩ ?_⟩
         refine qv ?_
         have hml := D8 c U1 V1
         refine ⟨rfl, e7 (ih (U2.length + V2.length) (by omega) (P ++ mrg c U1 V1) U2 V2 Y _ mid (mid + m - r) b rfl (by simp) (by omega) (by omega) p2 p4 o2 o4 (by first | omega | (simp [hml]; omega)) (by first | omega | (simp [hml]; omega)) (by first | omega | (simp [hml]; omega)) (by first | omega | (simp [hml]; omega))) ⟨rfl, rfl⟩ ?_⟩
         refine qv ?_
         simp
      ·
       first
        | exfalso; omega
        |skip
         have zV2 : V2 = [] := List.length_eq_zero_iff.1 (by omega)
         subst zV2
         refine qv ?_
         refine ⟨rfl, e7 (a0I cl (P ++ U1) U2 V1 ([] ++ Y) cur0 hc0 (by omega) (by omega) (by omega) r m (mid + m - r) (by simp; omega) (by simp; omega) (by simp; omega)) ⟨rfl, rfl⟩ ?_⟩
         refine qv ?_
         refine ⟨rfl, e7 (ih (U1.length + V1.length) (by omega) P U1 V1 (U2 ++ ([] ++ Y)) _ a r mid rfl (by simp) (by omega) (by omega) p1 p3 o1 o3 (by first | omega | (simp; omega)) (by omega) (by omega) (by omega)) ⟨rfl, rfl⟩ ?_⟩
         refine qv ?_
         simp [n3, l9]
     ·
      by_cases w3 : mid + m - r < b
      ·
       first
        | exfalso; omega
        |skip
         have zU1 : U1 = [] := List.length_eq_zero_iff.1 (by omega)
         subst zU1
         refine qv ?_
         refine ⟨rfl, e7 (a0I cl (P ++ []) U2 V1 (V2 ++ Y) cur0 hc0 (by omega) (by omega) (by omega) r m (mid + m - r) (by simp; omega) (by simp; omega) (by simp; omega)) ⟨rfl, rfl⟩ ?_⟩
         refine qv ?_
         have hml := D8 c [] V1
         refine ⟨rfl, e7 (ih (U2.length + V2.length) (by omega) (P ++ mrg c [] V1) U2 V2 Y _ mid (mid + m - r) b rfl (by simp [n3, l9]) (by omega) (by omega) p2 p4 o2 o4 (by first | omega | (simp [hml]; omega)) (by first | omega | (simp [hml]; omega)) (by first | omega | (simp [hml]; omega)) (by first | omega | (simp [hml]; omega))) ⟨rfl, rfl⟩ ?_⟩
         refine qv ?_
         simp
      ·
       first
        | exfalso; omega
        |skip
         have zU1 : U1 = [] := List.length_eq_zero_iff.1 (by omega)
         have zV2 : V2 = [] := List.length_eq_zero_iff.1 (by omega)
         subst zU1 zV2
         refine qv ?_
         refine ⟨rfl, e7 (a0I cl (P ++ []) U2 V1 ([] ++ Y) cur0 hc0 (by omega) (by omega) (by omega) r m (mid + m - r) (by simp; omega) (by simp; omega) (by simp; omega)) ⟨rfl, rfl⟩ ?_⟩
         refine qv ?_
         simp [n3, l9]
    ·
     by_cases w2 : a < r
     ·
      by_cases w3 : mid + m - r < b
      ·
       first
        | exfalso; omega
        |skip
         have zV1 : V1 = [] := List.length_eq_zero_iff.1 (by omega)
         subst zV1
         have hc1 : cur0 = (P ++ U1) ++ ([] ++ (U2 ++ (V2 ++ Y))) := by simp only [hc0, List.append_nil, List.nil_append, List.append_assoc]
         refine qv ?_
         have hml := D8 c U1 []
         refine ⟨rfl, e7 (ih (U2.length + V2.length) (by omega) (P ++ mrg c U1 []) U2 V2 Y cur0 mid (mid + m - r) b rfl (by rw [hc1]; simp [n3, l9]) (by omega) (by omega) p2 p4 o2 o4 (by first | omega | (simp [hml]; omega)) (by first | omega | (simp [hml]; omega)) (by first | omega | (simp [hml]; omega)) (by first | omega | (simp [hml]; omega))) ⟨rfl, rfl⟩ ?_⟩
         refine qv ?_
         simp
      ·
       first
        | exfalso; omega
        |skip
         have zV1 : V1 = [] := List.length_eq_zero_iff.1 (by omega)
         have zV2 : V2 = [] := List.length_eq_zero_iff.1 (by omega)
         subst zV1 zV2
         have hc1 : cur0 = (P ++ U1) ++ ([] ++ (U2 ++ ([] ++ Y))) := by simp only [hc0, List.append_nil, List.nil_append, List.append_assoc]
         refine qv ?_
         rw [hc1]; simp [n3, l9]
     ·
      by_cases w3 : mid + m - r < b
      ·omega
      ·
       first
        | exfalso; omega
        |skip
         have zV1 : V1 = [] := List.length_eq_zero_iff.1 (by omega)
         have zU1 : U1 = [] := List.length_eq_zero_iff.1 (by omega)
         have zV2 : V2 = [] := List.length_eq_zero_iff.1 (by omega)
         subst zV1 zU1 zV2
         have hc1 : cur0 = (P ++ []) ++ ([] ++ (U2 ++ ([] ++ Y))) := by simp only [hc0, List.append_nil, List.nil_append, List.append_assoc]
         refine qv ?_
         rw [hc1]; simp [n3, l9]
   ·
    by_cases w1 : r < mid
    ·
     by_cases w2 : a < r
     ·
      by_cases w3 : mid + m - r < b
      ·
       first
        | exfalso; omega
        |skip
         have zU2 : U2 = [] := List.length_eq_zero_iff.1 (by omega)
         subst zU2
         have hc1 : cur0 = (P ++ U1) ++ (V1 ++ ([] ++ (V2 ++ Y))) := by simp only [hc0, List.append_nil, List.nil_append, List.append_assoc]
         refine qv ?_
         refine ⟨rfl, e7 (ih (U1.length + V1.length) (by omega) P U1 V1 ([] ++ (V2 ++ Y)) cur0 a r mid rfl (by rw [hc1]; simp) (by omega) (by omega) p1 p3 o1 o3 (by first | omega | (simp; omega)) (by omega) (by omega) (by omega)) ⟨rfl, rfl⟩ ?_⟩
         refine qv ?_
         simp [n3, l9]
      ·omega
     ·omega
    ·
     by_cases w2 : a < r
     ·
      by_cases w3 : mid + m - r < b
      ·
       first
        | exfalso; omega
        |skip
         have zU2 : U2 = [] := List.length_eq_zero_iff.1 (by omega)
         have zV1 : V1 = [] := List.length_eq_zero_iff.1 (by omega)
         subst zU2 zV1
         have hc1 : cur0 = (P ++ U1) ++ ([] ++ ([] ++ (V2 ++ Y))) := by simp only [hc0, List.append_nil, List.nil_append, List.append_assoc]
         refine qv ?_
         rw [hc1]; simp [n3, l9]
      ·omega
     ·omega
def b6T (cl : FuncId) (z : Nat) (es : List (List Cel)) (n bs a b : Int) (cur : List Ev) : AS := ⟨m7 [(0, .one (.ow 1000000 0)), (1, iv n), (2, .one (.fn cl [.bx 1000001 0])), (6, iv bs), (7, iv a), (8, iv b), (1000001, .any)], f7 [(1000001, [.sl false z es])], f7 [(1000000, y6 cur)]⟩
def d2y (cl : FuncId) (z : Nat) (es : List (List Cel)) (n bs : Int) (cur : List Ev) : AS := ⟨m7 [(0, .one (.ow 1000000 0)), (1, iv n), (2, .one (.fn cl [.bx 1000001 0])), (6, iv bs), (1000001, .any)], f7 [(1000001, [.sl false z es])], f7 [(1000000, y6 cur)]⟩
structure StI (c : Ev -> Ev -> Int) (bs : Nat) (d : List Ev) (a : Int) (cur d1 s1 d2 : List Ev) : Prop where
 d : d = d1 ++ d2
 cu : cur = s1 ++ d2
 l1 : a = d1.length
 l2 : s1.length = d1.length
 grow : ∀ x y, Bk c bs x y -> Bk c bs (d1 ++ x) (s1 ++ y)
structure StJ (c : Ev -> Ev -> Int) (bs : Nat) (d : List Ev) (a : Int) (cur d1 s1 d2 s2 : List Ev) : Prop where
 d : d = d1 ++ d2
 cu : cur = s1 ++ s2
 l1 : a = d1.length
 l2 : s1.length = d1.length
 grow : ∀ x y, Bk c (2 * bs) x y -> Bk c (2 * bs) (d1 ++ x) (s1 ++ y)
 bk : Bk c bs d2 s2
theorem c0e (cl : FuncId) {c : Ev -> Ev -> Int} {p : Ev -> Prop} (hS : Swo p c) (z : Nat) (es : List (List Cel)) (hcl : ∀ x y, p x -> p y -> FC Tryz.prog cl none [.ag (evS x), .ag (evS y), .one (.ep [.sl false z es])] (fun _ r => r = iv (c x y)))
  (d : List Ev) (hp : ∀ x ∈ d, p x) (hlen : d.length <= 1000000) :
  F9 Tryz.prog 135 [1000000] ⟨[(1000001, [.sl false z es])], [(1000000, y6 d)]⟩ [.one (.ow 1000000 0), iv d.length, .one (.fn cl [.bx 1000001 0])] (fun H r => H = ⟨[(1000001, [.sl false z es])], [(1000000, y6 (n5 c d))]⟩ ∧ r = .tu []) := by
 refine fsE Tryz.func135 (aM [1000001] [1000000] [[0,1,2,6,1000001],[0,1,2,6,7,8,1000001],[0,1,2,6,7,8,13,1000001]] ++ [⟨(kP [0,1,2,6,8,1000001] [1000001] [1000000]),[],[],[],[(18,⟨[1000001],[1000000],[1000001],[1000000],[1000000]⟩)]⟩] ++ aM [1000001] [1000000] [[0,1,2,6,7,8,1000001],[0,1,2,6,7,8,1000001]] ++ [⟨(kP [0,1,2,6,1000001] [1000001] [1000000]),[],[],[],[(27,⟨[1000001],[1000000],[1000001],[1000000],[1000000]⟩)]⟩] ++ aM [1000001] [1000000] [[0,1,2,6,30,1000001],[0,1,2,6,7,8,1000001],[0,1,2,6,7,8,35,1000001]] ++ [⟨(kP [0,1,2,6,8,1000001] [1000001] [1000000]),[],[],[],[(43,⟨[1000001],[1000000],[1000001],[1000000],[1000000]⟩)]⟩] ++ aM [1000001] [1000000] [[0,1,2,6,7,8,1000001],[0,1,2,6,7,8,1000001],[0,1,2,6,7,9,1000001],[0,1,2,6,7,9,54,1000001]] ++ [⟨(kP [0,1,2,6,1000001] [1000001] [1000000]),[],[],[],[(60,⟨[1000001],[1000000],[1000001],[1000000],[1000000]⟩)]⟩,aN [0,1,2,6,1000001] [1000001] [1000000]]) ⟨[], [1000001], [1000000]⟩ ?_
 refine qv ?_
 refine F4 (fun a b cur => b6T cl z es d.length 20 a b cur) (fun a b cur => b = a + 20 ∧ ∃ d1 s1 d2, StI c 20 d a cur d1 s1 d2) (fun a _ _ => (d.length - a).toNat) 0 20 d ⟨by omega, [], [], d, ⟨rfl, rfl, rfl, rfl, fun x y h => h⟩⟩ rfl ?_
 rintro a b cur ⟨rfl, d1, s1, d2, hI⟩
 obtain ⟨i1, i2, i3, i4, i5⟩ := id hI
 have hl : d1.length + d2.length = d.length := by rw [i1]; simp
 have hl2 : cur.length = d.length := by rw [i2, i1]; simp [i4]
 have hp2 : ∀ x ∈ d2, p x := fun x hx => hp x (by rw [i1]; simp [hx])
 unfold b6T
 by_cases ha : a + 20 <= d.length
 ·have hins := a8T cl hS z es hcl s1 (d2.take 20) (d2.drop 20) cur (by rw [i2, List.take_append_drop]) (fun x hx => hp2 x (List.mem_of_mem_take hx)) (by omega) a (a + 20) (by omega) (by rw [List.length_take]; omega)
  refine qv ?_
  refine ⟨rfl, e7 hins ⟨rfl, rfl⟩ ?_⟩
  refine qv ?_
  refine ⟨a + 20, a + 20 + 20, _, rfl, ⟨rfl, d1 ++ d2.take 20, s1 ++ n5 c (d2.take 20), d2.drop 20, ⟨?_, ?_, ?_, ?_, ?_⟩⟩, by omega⟩
  ·rw [i1]; simp
  ·simp
  ·rw [List.length_append, List.length_take]; omega
  ·simp [i4, e6]
  ·intro x y h
   have := i5 _ _ (Bk.cons (d2.take 20) x y (by rw [List.length_take]; omega) h)
   simpa using this
 ·have hins := a8T cl hS z es hcl s1 d2 [] cur (by rw [i2]; simp) hp2 (by omega) a d.length (by omega) (by omega)
  rw [List.append_nil] at hins
  refine qv ?_
  refine ⟨rfl, e7 hins ⟨rfl, rfl⟩ ?_⟩
  refine qv ?_
  have hb20 := i5 _ _ (Bk.last d2 (by omega))
  rw [<- i1] at hb20
  clear hins hI i2 i5 hl2 hp2
  refine j7 (fun bs cur => d2y cl z es d.length bs cur) (fun bs cur => 20 <= bs ∧ bs <= 2000020 ∧ Bk c bs.toNat d cur) (fun bs _ => (2000020 - bs).toNat) 20 (s1 ++ n5 c d2) ⟨by omega, by omega, hb20⟩ rfl ?_
  rintro bs cur ⟨g1, g2, g3⟩
  have g4 := g3.len
  unfold d2y
  by_cases hb : bs < d.length
  ·refine qv ?_
   refine F4 (fun a b cur => b6T cl z es d.length bs a b cur) (fun a b cur => b = a + 2 * bs ∧ ∃ d1 s1 d2 s2, StJ c bs.toNat d a cur d1 s1 d2 s2) (fun a _ _ => (d.length - a).toNat) 0 (2 * bs) cur ⟨by omega, [], [], d, cur, ⟨rfl, rfl, rfl, rfl, fun x y h => h, g3⟩⟩ rfl ?_
   clear g3 g4 hb20
   rintro a b cur ⟨rfl, d1, s1, d2, s2, hJ⟩
   obtain ⟨i1, i2, i3, i4, i5, i6⟩ := id hJ
   have hl : d1.length + d2.length = d.length := by rw [i1]; simp
   have hl3 := i6.len
   have hl2 : cur.length = d.length := by rw [i2, i1]; simp [i4, hl3]
   have hp2 : ∀ x ∈ d2, p x := fun x hx => hp x (by rw [i1]; simp [hx])
   unfold b6T
   by_cases ha : a + 2 * bs <= d.length
   ·obtain ⟨b1, l1, t1, e1, e2, e3, e4⟩ := i6.take (by omega)
    have hl4 : b1.length + l1.length = d2.length := by rw [e1]; simp
    obtain ⟨b2, l2, t2, f1, f2, f3, f4⟩ := e4.take (by omega)
    have hp3 : ∀ x ∈ b1, p x := fun x hx => hp2 x (by rw [e1]; simp [hx])
    have hp4 : ∀ x ∈ b2, p x := fun x hx => hp2 x (by rw [e1, f1]; simp [hx])
    have hsym := a7O cl hS z es hcl _ s1 (n5 c b1) (n5 c b2) t2 cur a (a + bs) (a + 2 * bs) rfl (by rw [i2, e2, f2]) (by rw [e6]; omega) (by rw [e6]; omega) (fun x hx => hp3 x (ssort_mem.1 hx)) (fun x hx => hp4 x (ssort_mem.1 hx)) (x6 hS hp3) (x6 hS hp4) (by omega) (by omega) (by rw [e6]; omega) (by rw [e6, e6]; omega)
    rw [<- K8 hS hp3 hp4] at hsym
    refine qv ?_
    refine ⟨rfl, e7 hsym ⟨rfl, rfl⟩ ?_⟩
    refine qv ?_
    refine ⟨a + 2 * bs, a + 2 * bs + 2 * bs, _, rfl, ⟨rfl, d1 ++ (b1 ++ b2), s1 ++ n5 c (b1 ++ b2), l2, t2, ⟨?_, ?_, ?_, ?_, ?_, f4⟩⟩, by omega⟩
    ·rw [i1, e1, f1]; simp
    ·simp
    ·rw [List.length_append, List.length_append]; omega
    ·simp [i4, e6]
    ·intro x y h
     have := i5 _ _ (Bk.cons (b1 ++ b2) x y (by rw [List.length_append]; omega) h)
     simpa using this
   ·by_cases hm : a + bs < d.length
    ·obtain ⟨b1, l1, t1, e1, e2, e3, e4⟩ := i6.take (by omega)
     have hl4 : b1.length + l1.length = d2.length := by rw [e1]; simp
     have e5 := e4.one (by omega) (by omega)
     have hp3 : ∀ x ∈ b1, p x := fun x hx => hp2 x (by rw [e1]; simp [hx])
     have hp4 : ∀ x ∈ l1, p x := fun x hx => hp2 x (by rw [e1]; simp [hx])
     have hsym := a7O cl hS z es hcl _ s1 (n5 c b1) (n5 c l1) [] cur a (a + bs) d.length rfl (by rw [i2, e2, e5]; simp) (by rw [e6]; omega) (by rw [e6]; omega) (fun x hx => hp3 x (ssort_mem.1 hx)) (fun x hx => hp4 x (ssort_mem.1 hx)) (x6 hS hp3) (x6 hS hp4) (by omega) (by omega) (by rw [e6]; omega) (by rw [e6, e6]; omega)
     rw [<- K8 hS hp3 hp4, <- e1, List.append_nil] at hsym
     refine qv ?_
     refine ⟨rfl, e7 hsym ⟨rfl, rfl⟩ ?_⟩
     refine qv ?_
     have hk := i5 _ _ (Bk.last d2 (by omega))
     rw [<- i1] at hk
     exact ⟨bs * 2, _, rfl, ⟨by omega, by omega, by rw [show (bs * 2).toNat = 2 * bs.toNat by omega]; exact hk⟩, by omega⟩
    ·have e5 := i6.one (by omega) (by omega)
     have hk := i5 _ _ (Bk.last d2 (by omega))
     rw [<- i1, <- e5, <- i2] at hk
     refine qv ?_
     exact ⟨bs * 2, _, rfl, ⟨by omega, by omega, by rw [show (bs * 2).toNat = 2 * bs.toNat by omega]; exact hk⟩, by omega⟩
  ·have e5 := g3.one (by omega) (by omega)
   rw [e5]
   exact qt
theorem c0o (cl : FuncId) {c : Ev -> Ev -> Int} {p : Ev -> Prop} (hS : Swo p c) (z : Nat) (es : List (List Cel)) (hcl : ∀ x y, p x -> p y -> FC Tryz.prog cl none [.ag (evS x), .ag (evS y), .one (.ep [.sl false z es])] (fun _ r => r = iv (c x y)))
  (d : List Ev) (hp : ∀ x ∈ d, p x) (hlen : d.length <= 1000000) :
  F9 Tryz.prog 86 [1000000] ⟨[(1000001, [.sl false z es])], [(1000000, y6 d)]⟩ [.one (.ow 1000000 0), .one (.fn cl [.bx 1000001 0])] (fun H r => H = ⟨[(1000001, [.sl false z es])], [(1000000, y6 (n5 c d))]⟩ ∧ r = .tu []) := by
 refine fsE Tryz.func86 [⟨(kP [] [1000001] [1000000]),[],[],[],[(8,⟨[1000001],[1000000],[1000001],[1000000],[1000000]⟩)]⟩] ⟨[], [1000001], [1000000]⟩ ?_
 refine qv ?_
 refine ⟨rfl, e7 (c0e cl hS z es hcl d hp hlen) ⟨rfl, rfl⟩ ?_⟩
 exact qt
end Go.Proofs.YtnlafmigfjlnnaaGreatDoor
