/- slices.SortStableFunc over events: the stable order. -/
import Derived.Test.YtbhgndiboeppeaaGreatDoorEvs
set_option linter.all false
set_option maxHeartbeats 4000000
set_option maxRecDepth 100000
namespace Go.Proofs.YtbhgndiboeppeaaGreatDoor
open Go Go.Ai
abbrev z6 (l : List Ev) : Row := ⟨0, 129, 5, l.map evS⟩
theorem y7 (l : List (List Cel)) (x : List Cel) {i j : Nat} (h : i ≠ j) : (l.set j x)[i]? = l[i]? := by rw [List.getElem?_set]; simp [h.symm]
theorem a8C (l : List Ev) (i j : Nat) (hij : i ≠ j) : swx l i j = swx l j i := by
 rw [a3U l i j hij]; rfl
theorem b1P (c : Ev → Ev → Int) (U : List Ev) : l7 c (U.take 1) ++ U.drop 1 = U := by
 cases U with
 | nil => rfl
 | cons x U =>
  show mrg c [] [x] ++ U = _
  rw [n5]; rfl
def b9V (cl : FuncId) (z : Nat) (es : List (List Cel)) (a b : Int) (i : Int) (cur : List Ev) : AS := ⟨m9 [(0, .one (.ow 1000000 0)), (1, iv a), (2, iv b), (3, .one (.fn cl [.bx 1000001 0])), (8, iv i), (1000001, .any)], f9 [(1000001, [.sl false z es])], f9 [(1000000, z6 cur)]⟩
def b0J (cl : FuncId) (z : Nat) (es : List (List Cel)) (a b i : Int) (j : Int) (cur : List Ev) : AS := ⟨m9 [(0, .one (.ow 1000000 0)), (1, iv a), (2, iv b), (3, .one (.fn cl [.bx 1000001 0])), (8, iv i), (9, iv j), (1000001, .any)], f9 [(1000001, [.sl false z es])], f9 [(1000000, z6 cur)]⟩
structure d1J (c : Ev → Ev → Int) (P U Y : List Ev) (k : Nat) (j : Int) (cur : List Ev) (s1 s2 : List Ev) : Prop where
 srt : l7 c (U.take k) = s1 ++ s2
 cur : cur = P ++ (s1 ++ (U.getD k default :: (s2 ++ (U.drop (k + 1) ++ Y))))
 j : j = P.length + s1.length
 lt : ∀ w ∈ s2, c (U.getD k default) w < 0
def d4B (c : Ev → Ev → Int) (P U Y : List Ev) (k : Nat) (j : Int) (cur : List Ev) : Prop := ∃ s1 s2, d1J c P U Y k j cur s1 s2
def b0o (c : Ev → Ev → Int) (P U Y : List Ev) (k : Nat) : List Ev := P ++ (l7 c (U.take k) ++ (U.drop k ++ Y))
theorem b5L (c : Ev → Ev → Int) (P U Y : List Ev) (k : Nat) : (b0o c P U Y k).length = P.length + U.length + Y.length := by
 simp [b0o, f0]; omega
theorem b3u {c : Ev → Ev → Int} {P U Y : List Ev} {k : Nat} (hk : k < U.length) : d4B c P U Y k (P.length + k) (b0o c P U Y k) := by
 refine ⟨l7 c (U.take k), [], by simp, ?_, ?_, by simp⟩
 ·unfold b0o; rw [D3 hk]; simp
 ·rw [f0, List.length_take]; omega
theorem b4f {p : Ev → Prop} {c : Ev → Ev → Int} (h : Swo p c) {P U Y : List Ev} {k : Nat} {j : Int} {cur s1 s2 : List Ev} (hp : ∀ x ∈ U, p x) (hk : k < U.length) (hI : d1J c P U Y k j cur s1 s2) (hs : ∀ x ∈ s1, ¬c (U.getD k default) x < 0) : cur = b0o c P U Y (k + 1) := by
 unfold b0o
 rw [B0 hk, M8, hI.srt, a0J hs hI.lt, hI.cur]; simp
theorem c9T {p : Ev → Prop} {c : Ev → Ev → Int} (h : Swo p c) {P U Y : List Ev} {k : Nat} {j : Int} {cur s2 s : List Ev} {w : Ev} (hp : ∀ x ∈ U, p x) (hk : k < U.length) (hI : d1J c P U Y k j cur (s ++ [w]) s2) (hw : ¬c (U.getD k default) w < 0) : ∀ x ∈ s ++ [w], ¬c (U.getD k default) x < 0 := by
 intro x hx
 have po : ∀ x ∈ U.take k, p x := fun x hx => hp x (List.mem_of_mem_take hx)
 have ho := v6 h po
 rw [hI.srt] at ho
 have hm : ∀ y, y ∈ s ++ [w] → p y := fun y hy => po y (ssort_mem.1 (hI.srt ▸ List.mem_append_left _ hy))
 rcases List.mem_append.1 hx with hx | hx
 ·have h1 := (List.pairwise_append.1 (List.pairwise_append.1 ho).1).2.2 x hx w (by simp)
  exact h.ntr _ _ _ (hp _ (x6 hk)) (hm w (by simp)) (hm x (by simp [hx])) hw h1
 ·simp at hx; subst hx; exact hw
theorem c7Y {c : Ev → Ev → Int} {P U Y : List Ev} {k : Nat} {j : Int} {cur s2 s : List Ev} {w : Ev} (hI : d1J c P U Y k j cur (s ++ [w]) s2) :
  cur.getD j.toNat default = U.getD k default ∧ cur.getD (j - 1).toNat default = w ∧ P.length + 1 ≤ j ∧ (cur.set j.toNat (cur.getD (j - 1).toNat default)).set (j - 1).toNat (cur.getD j.toNat default) = P ++ (s ++ (U.getD k default :: ((w :: s2) ++ (U.drop (k + 1) ++ Y)))) := by
 have hj := hI.j
 rw [List.length_append, List.length_singleton] at hj
 have e1 : cur = (P ++ s) ++ w :: ([] ++ U.getD k default :: (s2 ++ (U.drop (k + 1) ++ Y))) := by rw [hI.cur]; simp
 have e2 : cur = (P ++ s ++ [w]) ++ U.getD k default :: (s2 ++ (U.drop (k + 1) ++ Y)) := by rw [hI.cur]; simp
 have e3 : j.toNat = (P ++ s ++ [w]).length := by simp; omega
 have e4 : (j - 1).toNat = (P ++ s).length := by simp; omega
 refine ⟨by rw [e2, e3, T5], by rw [e1, e4, T5], by omega, ?_⟩
 show swx cur j.toNat (j - 1).toNat = _
 rw [a8C _ _ _ (by omega), e1, R8 e4 (by simp; omega)]
 simp
set_option maxHeartbeats 2000000 in
theorem a7x (cl : FuncId) {c : Ev → Ev → Int} {p : Ev → Prop} (hS : Swo p c) (z : Nat) (es : List (List Cel)) (hcl : ∀ x y, p x → p y → FC Tryz.prog cl none [.ag (evS x), .ag (evS y), .one (.ep [.sl false z es])] (fun _ r => r = iv (c x y)))
  (P U Y cur0 : List Ev) (hc : cur0 = P ++ (U ++ Y)) (hp : ∀ x ∈ U, p x) (hlen : cur0.length ≤ 1000000) (a b : Int) (ha : a = P.length) (hb : b = P.length + U.length) :
  G9 Tryz.prog 163 [1000000] ⟨[(1000001, [.sl false z es])], [(1000000, z6 cur0)]⟩ [.one (.ow 1000000 0), iv a, iv b, .one (.fn cl [.bx 1000001 0])] (fun H r => H = ⟨[(1000001, [.sl false z es])], [(1000000, z6 (P ++ (l7 c U ++ Y)))]⟩ ∧ r = .tu []) := by
 refine fsE Tryz.func163 (aM [1000001] [1000000] [[0,1,2,3,8,1000001],[0,1,2,3,8,14,1000001],[0,1,2,3,8,9,1000001],[0,1,2,3,8,9,34,1000001],[0,1,2,3,8,9,1000001],[0,1,2,3,8,9,1000001],[0,1,2,3,8,1000001]]) ⟨[], [1000001], [1000000]⟩ ?_
 have h0 : cur0 = b0o c P U Y 1 := by
  rw [hc]; unfold b0o
  rw [← List.append_assoc (l7 c _), b1P]
 have hl0 : P.length + U.length + Y.length ≤ 1000000 := by rw [h0, b5L] at hlen; exact hlen
 refine qv ?_
 refine j9 (fun i => b9V cl z es a b i (b0o c P U Y (i - a).toNat)) (fun i => a + 1 ≤ i ∧ (1 ≤ U.length → i ≤ b)) (fun i => (b - i).toNat) (a + 1) ⟨by omega, by omega⟩ (by rw [show (a + 1 - a).toNat = 1 by omega, ← h0]; rfl) ?_
 rintro i ⟨g1, g2⟩
 unfold b9V
 by_cases hi : i < b
 ·have hk : (i - a).toNat < U.length := by omega
  refine qv ?_
  refine n8 (b0J cl z es a b i) (fun j cur => d4B c P U Y (i - a).toNat j cur) (fun j _ => j.toNat) i (b0o c P U Y (i - a).toNat) (by have := b3u (c := c) (P := P) (Y := Y) hk; rw [show (P.length : Int) + ((i - a).toNat : Int) = i by omega] at this; exact this) rfl ?_
  rintro j cur ⟨s1, s2, hI⟩
  have hjj := hI.j
  have hcl2 : cur.length = P.length + U.length + Y.length := by
   have h5 : (l7 c (U.take (i - a).toNat)).length = s1.length + s2.length := by rw [hI.srt]; simp
   rw [f0, List.length_take] at h5
   rw [hI.cur]; simp; omega
  have hss : s1.length ≤ (i - a).toNat := by
   have h5 : (l7 c (U.take (i - a).toNat)).length = s1.length + s2.length := by rw [hI.srt]; simp
   rw [f0, List.length_take] at h5; omega
  unfold b0J
  by_cases hj : a < j
  ·have hne : s1 ≠ [] := fun he => by subst he; simp at hjj; omega
   obtain ⟨s, w, rfl⟩ : ∃ s w, s1 = s ++ [w] := ⟨s1.dropLast, s1.getLast hne, (List.dropLast_concat_getLast hne).symm⟩
   obtain ⟨i1, i2, i3, i4⟩ := c7Y hI
   have ej := e8 evS cur j [] (by omega) (by omega)
   have ek := e8 evS cur (j - 1) [] (by omega) (by omega)
   have hmw : w ∈ U.take (i - a).toNat := (ssort_mem (c := c)).1 (by rw [hI.srt]; simp)
   have hcc := hcl _ _ (hp _ (x6 hk)) (hp w (List.mem_of_mem_take hmw))
   rw [← i1, ← i2, B2, B2] at hcc
   refine qc hcc ?_
   by_cases hlt : c (cur.getD j.toNat default) (cur.getD (j - 1).toNat default) < 0
   ·have el : ((cur.map evS).set j.toNat (evS (cur.getD (j - 1).toNat default))).length = cur.length := by simp
    have eo := y7 (cur.map evS) (evS (cur.getD (j - 1).toNat default)) (show (j - 1).toNat ≠ j.toNat by omega)
    rw [l0 evS cur (j - 1).toNat (by omega)] at eo
    simp only [B2] at el eo
    refine qv ?_
    rw [eo]
    refine qv ?_
    refine ⟨j - 1, (cur.set j.toNat (cur.getD (j - 1).toNat default)).set (j - 1).toNat (cur.getD j.toNat default), by simp only [b0J, z6, List.map_set, B2], ⟨s, w :: s2, ?_, ?_, ?_, ?_⟩, by omega⟩
    ·rw [hI.srt]; simp
    ·rw [i4]
    ·rw [List.length_append, List.length_singleton] at hjj; omega
    ·intro x hx
     rcases List.mem_cons.1 hx with rfl | hx
     ·rw [i1, i2] at hlt; exact hlt
     ·exact hI.lt x hx
   ·refine qv ?_
    rw [i1, i2] at hlt
    have he := b4f hS hp hk hI (c9T hS hp hk hI hlt)
    exact ⟨i + 1, by rw [show (i + 1 - a).toNat = (i - a).toNat + 1 by omega, ← he], ⟨by omega, by omega⟩, by omega⟩
  ·have hs0 : s1 = [] := List.length_eq_zero_iff.1 (by omega)
   subst hs0
   refine qv ?_
   have he := b4f hS hp hk hI (by simp)
   exact ⟨i + 1, by rw [show (i + 1 - a).toNat = (i - a).toNat + 1 by omega, ← he], ⟨by omega, by omega⟩, by omega⟩
 ·have he : b0o c P U Y (i - a).toNat = P ++ (l7 c U ++ Y) := by
   unfold b0o
   rw [List.take_of_length_le (by omega), List.drop_eq_nil_of_le (by omega)]; simp
  rw [he]
  exact qt
def b9J (w : Val) (a b n : Int) (i : Int) (cur : List Ev) : AS := ⟨m9 [(0, .one (.ow 1000000 0)), (1, iv a), (2, iv b), (3, iv n), (10, iv i)], f9 [], f9 [(1000000, z6 cur)]⟩
theorem a3r (w : Val) (P U Q V Y cur0 : List Ev) (hc : cur0 = P ++ (U ++ (Q ++ (V ++ Y)))) (hlen : cur0.length ≤ 1000000) (hUV : U.length = V.length) (a b n : Int) (ha : a = P.length) (hb : b = P.length + U.length + Q.length) (hn : n = U.length) :
  G9 Tryz.prog 190 [1000000] ⟨[], [(1000000, z6 cur0)]⟩ [.one (.ow 1000000 0), iv a, iv b, iv n, w] (fun H r => H = ⟨[], [(1000000, z6 (P ++ (V ++ (Q ++ (U ++ Y)))))]⟩ ∧ r = .tu []) := by
 refine fsE Tryz.func190 (aM [] [1000000] [[0,1,2,3,10],[0,1,2,3,10,13],[0,1,2,3,10],[0,1,2,3,10]]) ⟨[], [], [1000000]⟩ ?_
 have hl0 : P.length + U.length + Q.length + V.length + Y.length ≤ 1000000 := by rw [hc] at hlen; simp at hlen; omega
 rw [← a8H] at hc
 refine qv ?_
 refine j9 (fun i => b9J w a b n i (swr P U Q V Y i.toNat)) (fun i => 0 ≤ i ∧ i ≤ n) (fun i => (n - i).toNat) 0 ⟨by omega, by omega⟩ (by rw [show (0 : Int).toNat = 0 from rfl, ← hc]; rfl) ?_
 rintro i ⟨g1, g2⟩
 have hcl := b3n P U Q V Y i.toNat hUV
 have hst := a7k (p := P) (q := Q) (s := Y) (i := i.toNat) (a := (a + i).toNat) (b := (b + i).toNat) hUV
 rw [show i.toNat + 1 = (i + 1).toNat by omega] at hst
 generalize hcu : swr P U Q V Y i.toNat = cur at *
 unfold b9J
 by_cases hi : i < n
 ·have hst := hst (by omega) (by omega) (by omega)
  have el : ((cur.map evS).set (a + i).toNat (evS (cur.getD (b + i).toNat default))).length = cur.length := by simp
  have hq : 0 < U.length := by omega
  have eo := y7 (cur.map evS) (evS (cur.getD (b + i).toNat default)) (show (b + i).toNat ≠ (a + i).toNat by omega)
  rw [l0 evS cur (b + i).toNat (by omega)] at eo
  simp only [B2] at el eo
  refine qv ?_
  rw [eo]
  refine qv ?_
  refine ⟨i + 1, ?_, ⟨by omega, by omega⟩, by omega⟩
  rw [← hst]
  simp only [swx, z6, List.map_set, B2]
 ·have he : cur = P ++ (V ++ (Q ++ (U ++ Y))) := by
   rw [← hcu, show i.toNat = U.length by omega]
   exact b2i P U Q V Y rfl hUV.symm
  rw [he]
  exact qt
theorem c3R (l : List Ev) : H4 (l.map evS) = l.map evS := by
 unfold H4
 rw [List.map_map]
 refine List.map_congr_left fun x _ => ?_
 rfl
theorem c9b (l : List Ev) : frE (l.map evS) = true := by
 unfold frE
 rw [List.all_eq_true]
 intro e he
 obtain ⟨x, _, rfl⟩ := List.mem_map.1 he
 rfl
attribute [go_sem] c3R c9b
theorem td (U Z : List Ev) (n : Nat) : U.take n ++ (U.drop n ++ Z) = U ++ Z := by rw [← List.append_assoc, List.take_append_drop]
def b9T (m : Int) (i j : Int) (cur : List Ev) : AS := ⟨m9 [(0, .one (.ow 1000000 0)), (2, iv m), (4, .one .any), (10, iv i), (11, iv j)], f9 [], f9 [(1000000, z6 cur)]⟩
structure RotI (T : List Ev) (n : Nat) (m i j : Int) (cur P U V Y : List Ev) : Prop where
 cu : cur = P ++ (U ++ (V ++ Y))
 tgt : T = P ++ (V ++ (U ++ Y))
 ui : i = U.length
 vj : j = V.length
 pm : m = P.length + U.length
 i0 : 0 < i
 j0 : 0 < j
 len : cur.length = n
theorem RotI.gt {T : List Ev} {n : Nat} {m i j : Int} {cur P U V Y : List Ev} (h : RotI T n m i j cur P U V Y) (hij : j < i) :
  RotI T n m (i - j) j (P ++ (V ++ (U.drop V.length ++ (U.take V.length ++ Y)))) (P ++ V) (U.drop V.length) (U.take V.length) Y := by
 obtain ⟨h1, h2, h3, h4, h5, h6, h7, h8⟩ := h
 refine ⟨by simp, ?_, by rw [List.length_drop]; omega, by rw [List.length_take]; omega, by rw [List.length_append, List.length_drop]; omega, by omega, by omega, ?_⟩
 ·rw [h2]; simp [td]
 ·rw [h1] at h8
  simp only [List.length_append, List.length_drop, List.length_take] at h8 ⊢
  omega
theorem RotI.lt {T : List Ev} {n : Nat} {m i j : Int} {cur P U V Y : List Ev} (h : RotI T n m i j cur P U V Y) (hij : i < j) :
  RotI T n m i (j - i) (P ++ (V.drop (V.length - U.length) ++ (V.take (V.length - U.length) ++ (U ++ Y)))) P (V.drop (V.length - U.length)) (V.take (V.length - U.length)) (U ++ Y) := by
 obtain ⟨h1, h2, h3, h4, h5, h6, h7, h8⟩ := h
 refine ⟨rfl, ?_, by rw [List.length_drop]; omega, by rw [List.length_take]; omega, by rw [List.length_drop]; omega, by omega, by omega, ?_⟩
 ·rw [h2]; simp [td]
 ·rw [h1] at h8
  simp only [List.length_append, List.length_drop, List.length_take] at h8 ⊢
  omega
def d5s (T : List Ev) (n : Nat) (m i j : Int) (cur : List Ev) : Prop := ∃ P U V Y, RotI T n m i j cur P U V Y
theorem a0K (cl : FuncId) (P U V Y cur0 : List Ev) (hc : cur0 = P ++ (U ++ (V ++ Y))) (hlen : cur0.length ≤ 1000000) (hU : 0 < U.length) (hV : 0 < V.length) (a m b : Int) (ha : a = P.length) (hm : m = P.length + U.length) (hb : b = P.length + U.length + V.length) :
  G9 Tryz.prog 180 [1000000] ⟨[], [(1000000, z6 cur0)]⟩ [.one (.ow 1000000 0), iv a, iv m, iv b, .one (.fn cl [.any])] (fun H r => H = ⟨[], [(1000000, z6 (P ++ (V ++ (U ++ Y))))]⟩ ∧ r = .tu []) := by
 refine fsE Tryz.func180 (aM [] [1000000] [[0,2,3,4,10],[0,2,4,10,11],[0,2,4,10,11,20],[0,2,4,10,11,23]] ++ [⟨(kP [0,2,4,10,11] [] [1000000]),[],[],[],[(31,⟨[],[1000000],[],[1000000],[1000000]⟩)]⟩,aN [0,2,4,10,11] [] [1000000],⟨(kP [0,2,4,10,11] [] [1000000]),[],[],[],[(46,⟨[],[1000000],[],[1000000],[1000000]⟩)]⟩,aN [0,2,4,10,11] [] [1000000],⟨(kP [] [] [1000000]),[],[],[],[(57,⟨[],[1000000],[],[1000000],[1000000]⟩)]⟩]) ⟨[], [], [1000000]⟩ ?_
 generalize hT : P ++ (V ++ (U ++ Y)) = T
 have hst : RotI T cur0.length m U.length V.length cur0 P U V Y := ⟨hc, hT.symm, rfl, rfl, hm, by omega, by omega, rfl⟩
 have e1 : m - a = U.length := by omega
 have e2 : b - m = V.length := by omega
 have hl0 : P.length + U.length + V.length + Y.length ≤ 1000000 := by rw [hc] at hlen; simp at hlen; omega
 refine qv ?_
 refine D8 (fun i j cur => b9T m i j cur) (fun i j cur => d5s T cur0.length m i j cur) (fun i j _ => (i + j).toNat) (m - a) (b - m) cur0 (by rw [e1, e2]; exact ⟨_, _, _, _, hst⟩) rfl ?_
 rintro i j cur ⟨P, U, V, Y, hI⟩
 obtain ⟨h1, h2, h3, h4, h5, h6, h7, h8⟩ := id hI
 have hl1 : P.length + U.length + V.length + Y.length = cur0.length := by rw [h1] at h8; simp at h8; omega
 unfold b9T
 by_cases hij : i = j
 ·have hs := a3r (.one .any) P U [] V Y cur (by rw [h1]; rfl) (by omega) (by omega) (m - i) m i (by omega) (by simp; omega) (by omega)
  rw [List.nil_append, ← h2] at hs
  refine qv ?_
  refine ⟨rfl, f7 hs ⟨rfl, rfl⟩ ?_⟩
  exact qt
 ·by_cases hgt : j < i
  ·have hs := a3r (.one .any) P (U.take V.length) (U.drop V.length) V Y cur (by rw [h1, td]) (by omega) (by rw [List.length_take]; omega) (m - i) m j (by omega) (by rw [List.length_take, List.length_drop]; omega) (by rw [List.length_take]; omega)
   refine qv ?_
   refine ⟨rfl, f7 hs ⟨rfl, rfl⟩ ?_⟩
   refine qv ?_
   exact ⟨i - j, j, _, rfl, ⟨_, _, _, _, hI.gt hgt⟩, by omega⟩
  ·have hs := a3r (.one .any) P U (V.take (V.length - U.length)) (V.drop (V.length - U.length)) Y cur (by rw [h1, td]) (by omega) (by rw [List.length_drop]; omega) (m - i) (m + j - i) i (by omega) (by rw [List.length_take]; omega) (by omega)
   refine qv ?_
   refine ⟨rfl, f7 hs ⟨rfl, rfl⟩ ?_⟩
   refine qv ?_
   exact ⟨i, j - i, _, rfl, ⟨_, _, _, _, hI.lt (by omega)⟩, by omega⟩
end Go.Proofs.YtbhgndiboeppeaaGreatDoor
