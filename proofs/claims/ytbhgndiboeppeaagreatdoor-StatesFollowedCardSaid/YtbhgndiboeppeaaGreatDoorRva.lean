/- slices.SortStableFunc over the reference's events: its inner functions. -/
import Derived.Test.YtbhgndiboeppeaaGreatDoorSev
import Derived.Test.YtbhgndiboeppeaaGreatDoorRlt
set_option linter.all false
set_option maxHeartbeats 4000000
set_option maxRecDepth 100000
namespace Go.Proofs.YtbhgndiboeppeaaGreatDoor
open Go Go.Ai
structure Rvp where
 r : Rev
 f : Value
instance : Inhabited Rvp := ⟨⟨default, .nilFunc⟩⟩
def rvS (x : Rvp) : List Cel := [.g (.int .i64 x.r.a), .g (.int .i64 x.r.o), .g (.string x.r.b), .g (.int .i64 x.r.no), .g x.f]
theorem x9 (x : Rvp) : rvS x = [.g (.int .i64 x.r.a), .g (.int .i64 x.r.o), .g (.string x.r.b), .g (.int .i64 x.r.no), .g x.f] := rfl
attribute [go_sem] x9
abbrev B1 (l : List Rvp) : Row := ⟨0, 146, 5, l.map rvS⟩
theorem a4y (l : List Rvp) (i j : Nat) (hij : i ≠ j) : swx l i j = swx l j i := by
 rw [a3U l i j hij]; rfl
theorem a8S (c : Rvp → Rvp → Int) (U : List Rvp) : l7 c (U.take 1) ++ U.drop 1 = U := by
 cases U with
 | nil => rfl
 | cons x U =>
  show mrg c [] [x] ++ U = _
  rw [n5]; rfl
def b4w (cl : FuncId) (a b : Int) (i : Int) (cur : List Rvp) : AS := ⟨m9 [(0, .one (.ow 1000000 0)), (1, iv a), (2, iv b), (3, .one (.fn cl [])), (8, iv i)], f9 [], f9 [(1000000, B1 cur)]⟩
def a5H (cl : FuncId) (a b i : Int) (j : Int) (cur : List Rvp) : AS := ⟨m9 [(0, .one (.ow 1000000 0)), (1, iv a), (2, iv b), (3, .one (.fn cl [])), (8, iv i), (9, iv j)], f9 [], f9 [(1000000, B1 cur)]⟩
structure b4K (c : Rvp → Rvp → Int) (P U Y : List Rvp) (k : Nat) (j : Int) (cur : List Rvp) (s1 s2 : List Rvp) : Prop where
 srt : l7 c (U.take k) = s1 ++ s2
 cur : cur = P ++ (s1 ++ (U.getD k default :: (s2 ++ (U.drop (k + 1) ++ Y))))
 j : j = P.length + s1.length
 lt : ∀ w ∈ s2, c (U.getD k default) w < 0
def c7C (c : Rvp → Rvp → Int) (P U Y : List Rvp) (k : Nat) (j : Int) (cur : List Rvp) : Prop := ∃ s1 s2, b4K c P U Y k j cur s1 s2
def a0G (c : Rvp → Rvp → Int) (P U Y : List Rvp) (k : Nat) : List Rvp := P ++ (l7 c (U.take k) ++ (U.drop k ++ Y))
theorem b4s (c : Rvp → Rvp → Int) (P U Y : List Rvp) (k : Nat) : (a0G c P U Y k).length = P.length + U.length + Y.length := by
 simp [a0G, f0]; omega
theorem a9N {c : Rvp → Rvp → Int} {P U Y : List Rvp} {k : Nat} (hk : k < U.length) : c7C c P U Y k (P.length + k) (a0G c P U Y k) := by
 refine ⟨l7 c (U.take k), [], by simp, ?_, ?_, by simp⟩
 ·unfold a0G; rw [D3 hk]; simp
 ·rw [f0, List.length_take]; omega
theorem a8g {p : Rvp → Prop} {c : Rvp → Rvp → Int} (h : Swo p c) {P U Y : List Rvp} {k : Nat} {j : Int} {cur s1 s2 : List Rvp} (hp : ∀ x ∈ U, p x) (hk : k < U.length) (hI : b4K c P U Y k j cur s1 s2) (hs : ∀ x ∈ s1, ¬c (U.getD k default) x < 0) : cur = a0G c P U Y (k + 1) := by
 unfold a0G
 rw [B0 hk, M8, hI.srt, a0J hs hI.lt, hI.cur]; simp
theorem c1Z {p : Rvp → Prop} {c : Rvp → Rvp → Int} (h : Swo p c) {P U Y : List Rvp} {k : Nat} {j : Int} {cur s2 s : List Rvp} {w : Rvp} (hp : ∀ x ∈ U, p x) (hk : k < U.length) (hI : b4K c P U Y k j cur (s ++ [w]) s2) (hw : ¬c (U.getD k default) w < 0) : ∀ x ∈ s ++ [w], ¬c (U.getD k default) x < 0 := by
 intro x hx
 have po : ∀ x ∈ U.take k, p x := fun x hx => hp x (List.mem_of_mem_take hx)
 have ho := v6 h po
 rw [hI.srt] at ho
 have hm : ∀ y, y ∈ s ++ [w] → p y := fun y hy => po y (ssort_mem.1 (hI.srt ▸ List.mem_append_left _ hy))
 rcases List.mem_append.1 hx with hx | hx
 ·have h1 := (List.pairwise_append.1 (List.pairwise_append.1 ho).1).2.2 x hx w (by simp)
  exact h.ntr _ _ _ (hp _ (x6 hk)) (hm w (by simp)) (hm x (by simp [hx])) hw h1
 ·simp at hx; subst hx; exact hw
theorem c3h {c : Rvp → Rvp → Int} {P U Y : List Rvp} {k : Nat} {j : Int} {cur s2 s : List Rvp} {w : Rvp} (hI : b4K c P U Y k j cur (s ++ [w]) s2) :
  cur.getD j.toNat default = U.getD k default ∧ cur.getD (j - 1).toNat default = w ∧ P.length + 1 ≤ j ∧ (cur.set j.toNat (cur.getD (j - 1).toNat default)).set (j - 1).toNat (cur.getD j.toNat default) = P ++ (s ++ (U.getD k default :: ((w :: s2) ++ (U.drop (k + 1) ++ Y)))) := by
 have hj := hI.j
 rw [List.length_append, List.length_singleton] at hj
 have e1 : cur = (P ++ s) ++ w :: ([] ++ U.getD k default :: (s2 ++ (U.drop (k + 1) ++ Y))) := by rw [hI.cur]; simp
 have e2 : cur = (P ++ s ++ [w]) ++ U.getD k default :: (s2 ++ (U.drop (k + 1) ++ Y)) := by rw [hI.cur]; simp
 have e3 : j.toNat = (P ++ s ++ [w]).length := by simp; omega
 have e4 : (j - 1).toNat = (P ++ s).length := by simp; omega
 refine ⟨by rw [e2, e3, T5], by rw [e1, e4, T5], by omega, ?_⟩
 show swx cur j.toNat (j - 1).toNat = _
 rw [a4y _ _ _ (by omega), e1, R8 e4 (by simp; omega)]
 simp
set_option maxHeartbeats 2000000 in
theorem a8G (cl : FuncId) {c : Rvp → Rvp → Int} {p : Rvp → Prop} (hS : Swo p c) (hcl : ∀ x y, p x → p y → FC Tryz.prog cl none [.ag (rvS x), .ag (rvS y)] (fun _ r => r = iv (c x y)))
  (P U Y cur0 : List Rvp) (hc : cur0 = P ++ (U ++ Y)) (hp : ∀ x ∈ U, p x) (hlen : cur0.length ≤ 1000000) (a b : Int) (ha : a = P.length) (hb : b = P.length + U.length) :
  G9 Tryz.prog 183 [1000000] ⟨[], [(1000000, B1 cur0)]⟩ [.one (.ow 1000000 0), iv a, iv b, .one (.fn cl [])] (fun H r => H = ⟨[], [(1000000, B1 (P ++ (l7 c U ++ Y)))]⟩ ∧ r = .tu []) := by
 refine fsE Tryz.func183 (aM [] [1000000] [[0,1,2,3,8],[0,1,2,3,8,14],[0,1,2,3,8,9],[0,1,2,3,8,9,34],[0,1,2,3,8,9],[0,1,2,3,8,9],[0,1,2,3,8]]) ⟨[], [], [1000000]⟩ ?_
 have h0 : cur0 = a0G c P U Y 1 := by
  rw [hc]; unfold a0G
  rw [← List.append_assoc (l7 c _), a8S]
 have hl0 : P.length + U.length + Y.length ≤ 1000000 := by rw [h0, b4s] at hlen; exact hlen
 refine qv ?_
 refine j9 (fun i => b4w cl a b i (a0G c P U Y (i - a).toNat)) (fun i => a + 1 ≤ i ∧ (1 ≤ U.length → i ≤ b)) (fun i => (b - i).toNat) (a + 1) ⟨by omega, by omega⟩ (by rw [show (a + 1 - a).toNat = 1 by omega, ← h0]; rfl) ?_
 rintro i ⟨g1, g2⟩
 unfold b4w
 by_cases hi : i < b
 ·have hk : (i - a).toNat < U.length := by omega
  refine qv ?_
  refine n8 (a5H cl a b i) (fun j cur => c7C c P U Y (i - a).toNat j cur) (fun j _ => j.toNat) i (a0G c P U Y (i - a).toNat) (by have := a9N (c := c) (P := P) (Y := Y) hk; rw [show (P.length : Int) + ((i - a).toNat : Int) = i by omega] at this; exact this) rfl ?_
  rintro j cur ⟨s1, s2, hI⟩
  have hjj := hI.j
  have hcl2 : cur.length = P.length + U.length + Y.length := by
   have h5 : (l7 c (U.take (i - a).toNat)).length = s1.length + s2.length := by rw [hI.srt]; simp
   rw [f0, List.length_take] at h5
   rw [hI.cur]; simp; omega
  have hss : s1.length ≤ (i - a).toNat := by
   have h5 : (l7 c (U.take (i - a).toNat)).length = s1.length + s2.length := by rw [hI.srt]; simp
   rw [f0, List.length_take] at h5; omega
  unfold a5H
  by_cases hj : a < j
  ·have hne : s1 ≠ [] := fun he => by subst he; simp at hjj; omega
   obtain ⟨s, w, rfl⟩ : ∃ s w, s1 = s ++ [w] := ⟨s1.dropLast, s1.getLast hne, (List.dropLast_concat_getLast hne).symm⟩
   obtain ⟨i1, i2, i3, i4⟩ := c3h hI
   have ej := e8 rvS cur j [] (by omega) (by omega)
   have ek := e8 rvS cur (j - 1) [] (by omega) (by omega)
   have hmw : w ∈ U.take (i - a).toNat := (ssort_mem (c := c)).1 (by rw [hI.srt]; simp)
   have hcc := hcl _ _ (hp _ (x6 hk)) (hp w (List.mem_of_mem_take hmw))
   rw [← i1, ← i2, x9, x9] at hcc
   refine qc hcc ?_
   by_cases hlt : c (cur.getD j.toNat default) (cur.getD (j - 1).toNat default) < 0
   ·have el : ((cur.map rvS).set j.toNat (rvS (cur.getD (j - 1).toNat default))).length = cur.length := by simp
    have eo := y7 (cur.map rvS) (rvS (cur.getD (j - 1).toNat default)) (show (j - 1).toNat ≠ j.toNat by omega)
    rw [l0 rvS cur (j - 1).toNat (by omega)] at eo
    simp only [x9] at el eo
    refine qv ?_
    rw [eo]
    refine qv ?_
    refine ⟨j - 1, (cur.set j.toNat (cur.getD (j - 1).toNat default)).set (j - 1).toNat (cur.getD j.toNat default), by simp only [a5H, B1, List.map_set, x9], ⟨s, w :: s2, ?_, ?_, ?_, ?_⟩, by omega⟩
    ·rw [hI.srt]; simp
    ·rw [i4]
    ·rw [List.length_append, List.length_singleton] at hjj; omega
    ·intro x hx
     rcases List.mem_cons.1 hx with rfl | hx
     ·rw [i1, i2] at hlt; exact hlt
     ·exact hI.lt x hx
   ·refine qv ?_
    rw [i1, i2] at hlt
    have he := a8g hS hp hk hI (c1Z hS hp hk hI hlt)
    exact ⟨i + 1, by rw [show (i + 1 - a).toNat = (i - a).toNat + 1 by omega, ← he], ⟨by omega, by omega⟩, by omega⟩
  ·have hs0 : s1 = [] := List.length_eq_zero_iff.1 (by omega)
   subst hs0
   refine qv ?_
   have he := a8g hS hp hk hI (by simp)
   exact ⟨i + 1, by rw [show (i + 1 - a).toNat = (i - a).toNat + 1 by omega, ← he], ⟨by omega, by omega⟩, by omega⟩
 ·have he : a0G c P U Y (i - a).toNat = P ++ (l7 c U ++ Y) := by
   unfold a0G
   rw [List.take_of_length_le (by omega), List.drop_eq_nil_of_le (by omega)]; simp
  rw [he]
  exact qt
def b1h (w : Val) (a b n : Int) (i : Int) (cur : List Rvp) : AS := ⟨m9 [(0, .one (.ow 1000000 0)), (1, iv a), (2, iv b), (3, iv n), (10, iv i)], f9 [], f9 [(1000000, B1 cur)]⟩
theorem a3q (w : Val) (P U Q V Y cur0 : List Rvp) (hc : cur0 = P ++ (U ++ (Q ++ (V ++ Y)))) (hlen : cur0.length ≤ 1000000) (hUV : U.length = V.length) (a b n : Int) (ha : a = P.length) (hb : b = P.length + U.length + Q.length) (hn : n = U.length) :
  G9 Tryz.prog 192 [1000000] ⟨[], [(1000000, B1 cur0)]⟩ [.one (.ow 1000000 0), iv a, iv b, iv n, w] (fun H r => H = ⟨[], [(1000000, B1 (P ++ (V ++ (Q ++ (U ++ Y)))))]⟩ ∧ r = .tu []) := by
 refine fsE Tryz.func192 (aM [] [1000000] [[0,1,2,3,10],[0,1,2,3,10,13],[0,1,2,3,10],[0,1,2,3,10]]) ⟨[], [], [1000000]⟩ ?_
 have hl0 : P.length + U.length + Q.length + V.length + Y.length ≤ 1000000 := by rw [hc] at hlen; simp at hlen; omega
 rw [← a8H] at hc
 refine qv ?_
 refine j9 (fun i => b1h w a b n i (swr P U Q V Y i.toNat)) (fun i => 0 ≤ i ∧ i ≤ n) (fun i => (n - i).toNat) 0 ⟨by omega, by omega⟩ (by rw [show (0 : Int).toNat = 0 from rfl, ← hc]; rfl) ?_
 rintro i ⟨g1, g2⟩
 have hcl := b3n P U Q V Y i.toNat hUV
 have hst := a7k (p := P) (q := Q) (s := Y) (i := i.toNat) (a := (a + i).toNat) (b := (b + i).toNat) hUV
 rw [show i.toNat + 1 = (i + 1).toNat by omega] at hst
 generalize hcu : swr P U Q V Y i.toNat = cur at *
 unfold b1h
 by_cases hi : i < n
 ·have hst := hst (by omega) (by omega) (by omega)
  have el : ((cur.map rvS).set (a + i).toNat (rvS (cur.getD (b + i).toNat default))).length = cur.length := by simp
  have hq : 0 < U.length := by omega
  have eo := y7 (cur.map rvS) (rvS (cur.getD (b + i).toNat default)) (show (b + i).toNat ≠ (a + i).toNat by omega)
  rw [l0 rvS cur (b + i).toNat (by omega)] at eo
  simp only [x9] at el eo
  refine qv ?_
  rw [eo]
  refine qv ?_
  refine ⟨i + 1, ?_, ⟨by omega, by omega⟩, by omega⟩
  rw [← hst]
  simp only [swx, B1, List.map_set, x9]
 ·have he : cur = P ++ (V ++ (Q ++ (U ++ Y))) := by
   rw [← hcu, show i.toNat = U.length by omega]
   exact b2i P U Q V Y rfl hUV.symm
  rw [he]
  exact qt
theorem b9h (l : List Rvp) : H4 (l.map rvS) = l.map rvS := by
 unfold H4
 rw [List.map_map]
 refine List.map_congr_left fun x _ => ?_
 rfl
theorem c5u (l : List Rvp) : frE (l.map rvS) = true := by
 unfold frE
 rw [List.all_eq_true]
 intro e he
 obtain ⟨x, _, rfl⟩ := List.mem_map.1 he
 rfl
attribute [go_sem] b9h c5u
theorem tdv (U Z : List Rvp) (n : Nat) : U.take n ++ (U.drop n ++ Z) = U ++ Z := by rw [← List.append_assoc, List.take_append_drop]
def b4t (cl : FuncId) (m : Int) (i j : Int) (cur : List Rvp) : AS := ⟨m9 [(0, .one (.ow 1000000 0)), (2, iv m), (4, .one (.fn cl [])), (10, iv i), (11, iv j)], f9 [], f9 [(1000000, B1 cur)]⟩
structure RotIv (T : List Rvp) (n : Nat) (m i j : Int) (cur P U V Y : List Rvp) : Prop where
 cu : cur = P ++ (U ++ (V ++ Y))
 tgt : T = P ++ (V ++ (U ++ Y))
 ui : i = U.length
 vj : j = V.length
 pm : m = P.length + U.length
 i0 : 0 < i
 j0 : 0 < j
 len : cur.length = n
theorem RotIv.gt {T : List Rvp} {n : Nat} {m i j : Int} {cur P U V Y : List Rvp} (h : RotIv T n m i j cur P U V Y) (hij : j < i) :
  RotIv T n m (i - j) j (P ++ (V ++ (U.drop V.length ++ (U.take V.length ++ Y)))) (P ++ V) (U.drop V.length) (U.take V.length) Y := by
 obtain ⟨h1, h2, h3, h4, h5, h6, h7, h8⟩ := h
 refine ⟨by simp, ?_, by rw [List.length_drop]; omega, by rw [List.length_take]; omega, by rw [List.length_append, List.length_drop]; omega, by omega, by omega, ?_⟩
 ·rw [h2]; simp [tdv]
 ·rw [h1] at h8
  simp only [List.length_append, List.length_drop, List.length_take] at h8 ⊢
  omega
theorem RotIv.lt {T : List Rvp} {n : Nat} {m i j : Int} {cur P U V Y : List Rvp} (h : RotIv T n m i j cur P U V Y) (hij : i < j) :
  RotIv T n m i (j - i) (P ++ (V.drop (V.length - U.length) ++ (V.take (V.length - U.length) ++ (U ++ Y)))) P (V.drop (V.length - U.length)) (V.take (V.length - U.length)) (U ++ Y) := by
 obtain ⟨h1, h2, h3, h4, h5, h6, h7, h8⟩ := h
 refine ⟨rfl, ?_, by rw [List.length_drop]; omega, by rw [List.length_take]; omega, by rw [List.length_drop]; omega, by omega, by omega, ?_⟩
 ·rw [h2]; simp [tdv]
 ·rw [h1] at h8
  simp only [List.length_append, List.length_drop, List.length_take] at h8 ⊢
  omega
def d1Y (T : List Rvp) (n : Nat) (m i j : Int) (cur : List Rvp) : Prop := ∃ P U V Y, RotIv T n m i j cur P U V Y
theorem a0V (cl : FuncId) (P U V Y cur0 : List Rvp) (hc : cur0 = P ++ (U ++ (V ++ Y))) (hlen : cur0.length ≤ 1000000) (hU : 0 < U.length) (hV : 0 < V.length) (a m b : Int) (ha : a = P.length) (hm : m = P.length + U.length) (hb : b = P.length + U.length + V.length) :
  G9 Tryz.prog 191 [1000000] ⟨[], [(1000000, B1 cur0)]⟩ [.one (.ow 1000000 0), iv a, iv m, iv b, .one (.fn cl [])] (fun H r => H = ⟨[], [(1000000, B1 (P ++ (V ++ (U ++ Y))))]⟩ ∧ r = .tu []) := by
 refine fsE Tryz.func191 (aM [] [1000000] [[0,2,3,4,10],[0,2,4,10,11],[0,2,4,10,11,20],[0,2,4,10,11,23]] ++ [⟨(kP [0,2,4,10,11] [] [1000000]),[],[],[],[(31,⟨[],[1000000],[],[1000000],[1000000]⟩)]⟩,aN [0,2,4,10,11] [] [1000000],⟨(kP [0,2,4,10,11] [] [1000000]),[],[],[],[(46,⟨[],[1000000],[],[1000000],[1000000]⟩)]⟩,aN [0,2,4,10,11] [] [1000000],⟨(kP [] [] [1000000]),[],[],[],[(57,⟨[],[1000000],[],[1000000],[1000000]⟩)]⟩]) ⟨[], [], [1000000]⟩ ?_
 generalize hT : P ++ (V ++ (U ++ Y)) = T
 have hst : RotIv T cur0.length m U.length V.length cur0 P U V Y := ⟨hc, hT.symm, rfl, rfl, hm, by omega, by omega, rfl⟩
 have e1 : m - a = U.length := by omega
 have e2 : b - m = V.length := by omega
 have hl0 : P.length + U.length + V.length + Y.length ≤ 1000000 := by rw [hc] at hlen; simp at hlen; omega
 refine qv ?_
 refine D8 (fun i j cur => b4t cl m i j cur) (fun i j cur => d1Y T cur0.length m i j cur) (fun i j _ => (i + j).toNat) (m - a) (b - m) cur0 (by rw [e1, e2]; exact ⟨_, _, _, _, hst⟩) rfl ?_
 rintro i j cur ⟨P, U, V, Y, hI⟩
 obtain ⟨h1, h2, h3, h4, h5, h6, h7, h8⟩ := id hI
 have hl1 : P.length + U.length + V.length + Y.length = cur0.length := by rw [h1] at h8; simp at h8; omega
 unfold b4t
 by_cases hij : i = j
 ·have hs := a3q (.one (.fn cl [])) P U [] V Y cur (by rw [h1]; rfl) (by omega) (by omega) (m - i) m i (by omega) (by simp; omega) (by omega)
  rw [List.nil_append, ← h2] at hs
  refine qv ?_
  refine ⟨rfl, f7 hs ⟨rfl, rfl⟩ ?_⟩
  exact qt
 ·by_cases hgt : j < i
  ·have hs := a3q (.one (.fn cl [])) P (U.take V.length) (U.drop V.length) V Y cur (by rw [h1, tdv]) (by omega) (by rw [List.length_take]; omega) (m - i) m j (by omega) (by rw [List.length_take, List.length_drop]; omega) (by rw [List.length_take]; omega)
   refine qv ?_
   refine ⟨rfl, f7 hs ⟨rfl, rfl⟩ ?_⟩
   refine qv ?_
   exact ⟨i - j, j, _, rfl, ⟨_, _, _, _, hI.gt hgt⟩, by omega⟩
  ·have hs := a3q (.one (.fn cl [])) P U (V.take (V.length - U.length)) (V.drop (V.length - U.length)) Y cur (by rw [h1, tdv]) (by omega) (by rw [List.length_drop]; omega) (m - i) (m + j - i) i (by omega) (by rw [List.length_take]; omega) (by omega)
   refine qv ?_
   refine ⟨rfl, f7 hs ⟨rfl, rfl⟩ ?_⟩
   refine qv ?_
   exact ⟨i, j - i, _, rfl, ⟨_, _, _, _, hI.lt (by omega)⟩, by omega⟩
end Go.Proofs.YtbhgndiboeppeaaGreatDoor
