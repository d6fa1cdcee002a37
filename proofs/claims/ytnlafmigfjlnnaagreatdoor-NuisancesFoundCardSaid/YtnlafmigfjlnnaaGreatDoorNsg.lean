/- strconv.Itoa. -/
import Derived.Shelf.LaysM
import Derived.Shelf.Strconv.Itoa3
import Derived.Test.YtnlafmigfjlnnaaGreatDoorNsb
set_option linter.all false
set_option maxHeartbeats 0
set_option maxRecDepth 100000
namespace Go.Proofs.YtnlafmigfjlnnaaGreatDoor
open Go Go.Ai Go.Proofs
def a4j : Go.Shelf.Ren := ⟨fun | 171 => 56 | 243 => 98 | 246 => 140 | 283 => 167 | 284 => 168 | 285 => 169 | 286 => 170 | 129 => 128 | 317 => 181 | 318 => 182 | 319 => 183 | 320 => 184 | 337 => 193 | 338 => 194 | n => n, fun | 3 => 3 | 9 => 9 | 2 => 2 | 4 => 4 | 171 => 213 | 0 => 0 | 53 => 186 | 37 => 215 | 5 => 5 | 173 => 216 | 212 => 225 | 51 => 184 | 20 => 20 | 213 => 226 | 46 => 133 | 232 => 235 | 233 => 236 | n => n, fun | 17 => 1 | 18 => 4 | 19 => 5 | n => n⟩
theorem b2m : Go.Proofs.LaysM.n171 Tryz.prog a4j := {
mixed := by kernel_rfl
f129 := Tryz.func128.trans (congrArg some (by kernel_rfl))
f171 := Tryz.func56.trans (congrArg some (by kernel_rfl))
f243 := Tryz.func98.trans (congrArg some (by kernel_rfl))
f246 := Tryz.func140.trans (congrArg some (by kernel_rfl))
f283 := Tryz.func167.trans (congrArg some (by kernel_rfl))
f284 := Tryz.func168.trans (congrArg some (by kernel_rfl))
f285 := Tryz.func169.trans (congrArg some (by kernel_rfl))
f286 := Tryz.func170.trans (congrArg some (by kernel_rfl))
f317 := Tryz.func181.trans (congrArg some (by kernel_rfl))
f318 := Tryz.func182.trans (congrArg some (by kernel_rfl))
f319 := Tryz.func183.trans (congrArg some (by kernel_rfl))
f320 := Tryz.func184.trans (congrArg some (by kernel_rfl))
f337 := Tryz.func193.trans (congrArg some (by kernel_rfl))
f338 := Tryz.func194.trans (congrArg some (by kernel_rfl))
t0 := Tryz.underlying0
a0 := Tryz.isAgg0
z0 := Tryz.sizeOf0
v0 := Tryz.zeroValue0
t2 := Tryz.underlying2
a2 := Tryz.isAgg2
z2 := Tryz.sizeOf2
v2 := Tryz.zeroValue2
t3 := Tryz.underlying3
a3 := Tryz.isAgg3
z3 := Tryz.sizeOf3
v3 := Tryz.zeroValue3
t4 := Tryz.underlying4
a4 := Tryz.isAgg4
z4 := Tryz.sizeOf4
v4 := Tryz.zeroValue4
t5 := Tryz.underlying5
a5 := Tryz.isAgg5
z5 := Tryz.sizeOf5
v5 := Tryz.zeroValue5
t9 := Tryz.underlying9
a9 := Tryz.isAgg9
z9 := Tryz.sizeOf9
v9 := Tryz.zeroValue9
t20 := Tryz.underlying20
a20 := Tryz.isAgg20
z20 := Tryz.sizeOf20
v20 := Tryz.zeroValue20
t37 := Tryz.underlying215
a37 := Tryz.isAgg215
z37 := Tryz.sizeOf215
v37 := Tryz.zeroValue215
t46 := Tryz.underlying133
a46 := Tryz.isAgg133
z46 := Tryz.sizeOf133
v46 := Tryz.zeroValue133
t51 := Tryz.underlying184
a51 := Tryz.isAgg184
z51 := Tryz.sizeOf184
v51 := Tryz.zeroValue184
t53 := Tryz.underlying186
a53 := Tryz.isAgg186
z53 := Tryz.sizeOf186
v53 := Tryz.zeroValue186
t171 := Tryz.underlying213
a171 := Tryz.isAgg213
z171 := Tryz.sizeOf213
v171 := Tryz.zeroValue213
t173 := Tryz.underlying216
a173 := Tryz.isAgg216
z173 := Tryz.sizeOf216
v173 := Tryz.zeroValue216
t212 := Tryz.underlying225
a212 := Tryz.isAgg225
z212 := Tryz.sizeOf225
v212 := Tryz.zeroValue225
t213 := Tryz.underlying226
a213 := Tryz.isAgg226
z213 := Tryz.sizeOf226
t232 := Tryz.underlying235
a232 := Tryz.isAgg235
z232 := Tryz.sizeOf235
v232 := Tryz.zeroValue235
t233 := Tryz.underlying236
a233 := Tryz.isAgg236
z233 := Tryz.sizeOf236
v233 := Tryz.zeroValue236
g17 := by kernel_rfl
g18 := by kernel_rfl
g19 := by kernel_rfl
i0 := by kernel_rfl
i2 := by kernel_rfl
i3 := by kernel_rfl
i4 := by kernel_rfl
i5 := by kernel_rfl
i9 := by kernel_rfl
i20 := by kernel_rfl
i37 := by kernel_rfl
i46 := by kernel_rfl
i51 := by kernel_rfl
i53 := by kernel_rfl
i171 := by kernel_rfl
i173 := by kernel_rfl
i212 := by kernel_rfl
i232 := by kernel_rfl
i233 := by kernel_rfl
m17 := by kernel_rfl
m18 := by kernel_rfl
m19 := by kernel_rfl }
theorem a9q {P : Program} {W w : World} {n : String} {x : Array Value} (h : W.var? P n = some x) (hb : ∀ b, b < W.heap.size -> w.heap[b]? = W.heap[b]?) : w.var? P n = some x := by
 unfold World.var? at *
 cases hg : P.globalNamed n with
 | none => rw [hg] at h; cases h
 | some g =>
  rw [hg] at h
  simp only [Option.bind_some] at h ⊢
  have hlt : g < W.heap.size := by
   rcases Nat.lt_or_ge g W.heap.size with h1 | h1
   ·exact h1
   ·rw [Array.getElem?_eq_none h1] at h; cases h
  rw [hb g hlt]; exact h
theorem c2c {P : Program} {w : World} {ok : Nat -> Prop} (h : c5D P w ok) : b1B P w := by
 obtain ⟨W, ⟨h1, h2⟩, _, h3⟩ := h
 have hb : ∀ b, b < W.heap.size -> w.heap[b]? = W.heap[b]? := fun b hb => (h3 b hb).2
 exact ⟨fun g hg => a9q (h1 g hg) hb, fun g n hn hg => (h2 g n hn hg).imp fun t h => h.imp fun p h => a9q h hb⟩
theorem b9B {P : Program} {f : FuncId} (us : List Value) {v : Value} {r : Val} (hb : U5 P f) (hr : ∀ w ok base, VRel w ok base Env.none r v)
  (h : ∀ w, b1B P w -> Calls P f us.toArray w fun e w' => e = .returned v ∧ RowKit.Below w.heap.size w w') : FC P f none (us.map fun u => .one (.g u)) (fun _ x => x = r) := by
 refine ⟨hb, fun w okA g vs htab _ hlen hrel => ?_⟩
 have hus : vs = us := by
  apply List.ext_getElem (by simpa using hlen.symm)
  intro i h1 h2
  have := hrel i (.one (.g us[i])) vs[i] (by simp [h2]) (by simp [h1])
  exact q9 this rfl
 subst hus
 refine Calls.mono (h w (c2c htab)) ?_
 rintro e w' ⟨rfl, hg⟩
 exact ⟨v, [], r, rfl, rfl, ⟨hg.os, hg.tape, hg.output, hg.size, fun k hk _ => hg.block k hk⟩, hr _ _ _, fun h => by cases h⟩
theorem b0j (w : World) (k : Nat) (os : Array Obj) : RowKit.Below w.heap.size w (Sort.grow (w.drewN k) os) :=
 ⟨rfl, rfl, rfl, by simp [Sort.grow, World.drewN], fun j hj => by rw [Sort.heap_grow_old _ _ (by simpa [World.drewN] using hj)]; rfl⟩
def c2N (n : Int) : ByteArray := ⟨(Lib.itoa n).toArray⟩
theorem b1Y (n : Int) (h : I64 n) : FC Tryz.prog 56 none [iv n] (fun _ r => r = sv (c2N n)) :=
 b9B [.int .i64 n] (v := .string (c2N n)) ⟨Tryz.f56, Tryz.func56, by kernel_rfl, by kernel_rfl⟩ (fun _ _ _ => .one ⟨rfl, rfl⟩) fun w hw =>
  (Any.strconv_Itoa b2m n h.1 h.2 w (hw.1 1 (by kernel_rfl))).mono (by
   rintro e w' ⟨rfl, k, os, rfl⟩
   exact ⟨rfl, b0j w k os⟩)
abbrev Dut := ByteArray × Int
def a0f (d : Dut) : List Cel := [.g (.string d.1), .g (.int .i64 d.2)]
theorem K9 (d : Dut) : a0f d = [Cel.g (.string d.1), Cel.g (.int .i64 d.2)] := rfl
def swD (l : List Dut) (j : Nat) : List Dut := (l.set j (l.getD (j - 1) default)).set (j - 1) (l.getD j default)
def b0S (c : Dut -> Dut -> Int) : Nat -> List Dut -> List Dut
 | 0, l => l
 | j + 1, l => if c (l.getD (j + 1) default) (l.getD j default) < 0 then b0S c j (swD l (j + 1)) else l
def b0V (c : Dut -> Dut -> Int) : Nat -> Nat -> List Dut -> List Dut
 | 0, _, l => l
 | n + 1, i, l => b0V c n (i + 1) (b0S c i l)
def a1H (c : Dut -> Dut -> Int) (l : List Dut) : List Dut := b0V c (l.length - 1) 1 l
theorem a3v (l : List Dut) (j : Nat) : (swD l j).length = l.length := by simp [swD]
theorem Y4 (c : Dut -> Dut -> Int) : ∀ (j : Nat) (l : List Dut), (b0S c j l).length = l.length
 | 0, _ => rfl
 | j + 1, l => by
  rw [b0S]
  split
  ·rw [Y4 c j, a3v]
  ·rfl
theorem K0 (c : Dut -> Dut -> Int) : ∀ (n i : Nat) (l : List Dut), (b0V c n i l).length = l.length
 | 0, _, _ => rfl
 | n + 1, i, l => by rw [b0V, K0 c n, Y4]
theorem c4G (l : List Dut) : frE (l.map a0f) = true := a0o (fun _ => rfl) l
theorem b9a (l : List Dut) : a0k (l.map a0f) = l.map a0f := V7 (fun _ => rfl) l
theorem b6k (l : List Dut) : F8 (l.map a0f) = l.map a0f := U7 (fun _ => rfl) l
attribute [go_sem] K9 c4G b9a b6k
theorem a5t {l : List (List Cel)} {i j : Nat} {x : List Cel} (h : i ≠ j) : (l.set j x)[i]? = l[i]? := by rw [List.getElem?_set]; simp [h.symm]
theorem b9s (l : List (List Cel)) (i : Nat) (x : List Cel) : (l.set i x).length = l.length := List.length_set
attribute [local go_sem] a5t b9s
abbrev M0 (l : List Dut) : Row := ⟨0, 103, 2, l.map a0f⟩
def c0Z (cl : FuncId) (n : Int) (i : Int) (cur : List Dut) : AS := ⟨m7 [(0, .one (.ow 1000000 0)), (1, iv 0), (2, iv n), (3, .one (.fn cl [])), (8, iv i)], f7 [], f7 [(1000000, M0 cur)]⟩
def b3t (cl : FuncId) (n i : Int) (j : Int) (cur : List Dut) : AS := ⟨m7 [(0, .one (.ow 1000000 0)), (1, iv 0), (2, iv n), (3, .one (.fn cl [])), (8, iv i), (9, iv j)], f7 [], f7 [(1000000, M0 cur)]⟩
theorem c0a (cl : FuncId) (c : Dut -> Dut -> Int) (hcl : ∀ x y, FC Tryz.prog cl none [.ag (a0f x), .ag (a0f y)] (fun _ r => r = iv (c x y))) (l : List Dut) (hl : l.length <= 1000000) :
  F9 Tryz.prog 138 [1000000] ⟨[], [(1000000, M0 l)]⟩ [.one (.ow 1000000 0), iv 0, iv l.length, .one (.fn cl [])] (fun H r => H = ⟨[], [(1000000, M0 (a1H c l))]⟩ ∧ r = .tu []) := by
 refine fsE Tryz.func138 (aM [] [1000000] [[0,1,2,3,8],[0,1,2,3,8,14],[0,1,2,3,8,9],[0,1,2,3,8,9,34],[0,1,2,3,8,9],[0,1,2,3,8,9],[0,1,2,3,8]]) ⟨[], [], [1000000]⟩ ?_
 generalize hR : a1H c l = R
 have hRl : R.length = l.length := by rw [<- hR]; exact K0 c _ _ _
 generalize hn : l.length = n at *
 refine qv ?_
 refine j7 (c0Z cl n) (fun i cur => 1 <= i ∧ cur.length = n ∧ b0V c (n - i.toNat) i.toNat cur = R) (fun i _ => (n - i).toNat) 1 l ⟨by omega, hn, by rw [<- hR]; unfold a1H; rw [hn]; rfl⟩ rfl ?_
 rintro i cur ⟨g1, g2, g3⟩
 unfold c0Z
 by_cases hi : i < n
 ·have e2 : (i + 1).toNat = i.toNat + 1 := by omega
  obtain ⟨q, hq⟩ : ∃ q, n - i.toNat = q + 1 := ⟨n - i.toNat - 1, by omega⟩
  rw [hq, b0V, <- e2, show q = n - (i + 1).toNat by omega] at g3
  generalize hT : b0S c i.toNat cur = T at g3
  have hTl : T.length = n := by rw [<- hT, Y4]; exact g2
  refine qv ?_
  refine j7 (b3t cl n i) (fun j cur => 0 <= j ∧ j <= i ∧ cur.length = n ∧ b0S c j.toNat cur = T) (fun j _ => j.toNat) i cur ⟨by omega, by omega, g2, hT⟩ rfl ?_
  rintro j cur ⟨k1, k2, k3, k4⟩
  unfold b3t
  by_cases hj : 0 < j
  ·obtain ⟨w, hw⟩ : ∃ w, j.toNat = w + 1 := ⟨j.toNat - 1, by omega⟩
   have hw2 : (j - 1).toNat = w := by omega
   rw [hw, b0S, <- hw, <- hw2] at k4
   have hc := hcl (cur.getD j.toNat default) (cur.getD (j - 1).toNat default)
   rw [K9, K9] at hc
   by_cases c1 : c (cur.getD j.toNat default) (cur.getD (j - 1).toNat default) < 0
   ·rw [if_pos c1] at k4
    refine qc hc ?_
    refine qv ?_
    exact ⟨j - 1, swD cur j.toNat, by simp only [b3t, swD, M0, List.map_set, K9, hw2, hw, Nat.add_sub_cancel], ⟨by omega, by omega, by rw [a3v]; exact k3, k4⟩, by omega⟩
   ·rw [if_neg c1] at k4
    subst k4
    refine qc hc ?_
    refine qv ?_
    exact ⟨i + 1, cur, rfl, ⟨by omega, k3, g3⟩, by omega⟩
  ·have hj0 : j = 0 := by omega
   subst hj0
   have k5 : cur = T := k4
   subst k5
   refine qv ?_
   exact ⟨i + 1, cur, rfl, ⟨by omega, k3, g3⟩, by omega⟩
 ·rw [show n - i.toNat = 0 by omega, b0V] at g3
  subst g3
  exact qt
theorem b8u (cl : FuncId) (c : Dut -> Dut -> Int) (hcl : ∀ x y, FC Tryz.prog cl none [.ag (a0f x), .ag (a0f y)] (fun _ r => r = iv (c x y))) (l : List Dut) (hl : l.length < 20) :
  F9 Tryz.prog 53 [1000000] ⟨[], [(1000000, M0 l)]⟩ [.one (.ow 1000000 0), .one (.fn cl [])] (fun H r => H = ⟨[], [(1000000, M0 (a1H c l))]⟩ ∧ r = .tu []) := by
 have hR : (a1H c l).length = l.length := K0 c _ _ _
 have hB : F9 Tryz.prog 96 [1000000] ⟨[], [(1000000, M0 l)]⟩ [.one (.ow 1000000 0), iv l.length, .one (.fn cl [])] (fun H r => H = ⟨[], [(1000000, M0 (a1H c l))]⟩ ∧ r = .tu []) := by
  refine fsE Tryz.func96 (aM [] [1000000] [[0,1,2,6],[0,1,2,6,7,8],[0,1,2,6,7,8,13]] ++ [⟨(kP [0,1,2,6,8] [] [1000000]),[],[],[],[(18,⟨[],[1000000],[],[1000000],[1000000]⟩)]⟩] ++ aM [] [1000000] [[0,1,2,6,7,8],[0,1,2,6,7,8]] ++ [⟨(kP [0,1,2,6] [] [1000000]),[],[],[],[(27,⟨[],[1000000],[],[1000000],[1000000]⟩)]⟩] ++ aM [] [1000000] [[0,1,2,6,30],[0,1,2,6,7,8],[0,1,2,6,7,8,35]] ++ [⟨(kP [0,1,2,6,8] [] [1000000]),[],[],[],[(43,⟨[],[1000000],[],[1000000],[1000000]⟩)]⟩] ++ aM [] [1000000] [[0,1,2,6,7,8],[0,1,2,6,7,8],[0,1,2,6,7,9],[0,1,2,6,7,9,54]] ++ [⟨(kP [0,1,2,6] [] [1000000]),[],[],[],[(60,⟨[],[1000000],[],[1000000],[1000000]⟩)]⟩] ++ aM [] [1000000] [[0,1,2,6]]) ⟨[], [], [1000000]⟩ ?_
  refine qvs ?_
  refine T6 1 ?_
  refine qvs ?_
  refine ⟨rfl, e7 (c0a cl c hcl l (by omega)) ⟨rfl, rfl⟩ ?_⟩
  refine qvs ?_
  refine T6 1 ?_
  exact qts
 refine fsE Tryz.func53 [⟨(kP [] [] [1000000]),[],[],[],[(8,⟨[],[1000000],[],[1000000],[1000000]⟩)]⟩] ⟨[], [], [1000000]⟩ ?_
 refine qvs ?_
 refine ⟨rfl, e7 hB ⟨rfl, rfl⟩ ?_⟩
 exact qts
abbrev M4 (l : List Dut) : Row := ⟨0, 117, 2, l.map a0f⟩
def c0W (cl : FuncId) (n : Int) (i : Int) (cur : List Dut) : AS := ⟨m7 [(0, .one (.ow 1000000 0)), (1, iv 0), (2, iv n), (3, .one (.fn cl [])), (8, iv i)], f7 [], f7 [(1000000, M4 cur)]⟩
def b1e (cl : FuncId) (n i : Int) (j : Int) (cur : List Dut) : AS := ⟨m7 [(0, .one (.ow 1000000 0)), (1, iv 0), (2, iv n), (3, .one (.fn cl [])), (8, iv i), (9, iv j)], f7 [], f7 [(1000000, M4 cur)]⟩
theorem b7B (cl : FuncId) (c : Dut -> Dut -> Int) (hcl : ∀ x y, FC Tryz.prog cl none [.ag (a0f x), .ag (a0f y)] (fun _ r => r = iv (c x y))) (l : List Dut) (hl : l.length <= 1000000) :
  F9 Tryz.prog 150 [1000000] ⟨[], [(1000000, M4 l)]⟩ [.one (.ow 1000000 0), iv 0, iv l.length, .one (.fn cl [])] (fun H r => H = ⟨[], [(1000000, M4 (a1H c l))]⟩ ∧ r = .tu []) := by
 refine fsE Tryz.func150 (aM [] [1000000] [[0,1,2,3,8],[0,1,2,3,8,14],[0,1,2,3,8,9],[0,1,2,3,8,9,34],[0,1,2,3,8,9],[0,1,2,3,8,9],[0,1,2,3,8]]) ⟨[], [], [1000000]⟩ ?_
 generalize hR : a1H c l = R
 have hRl : R.length = l.length := by rw [<- hR]; exact K0 c _ _ _
 generalize hn : l.length = n at *
 refine qv ?_
 refine j7 (c0W cl n) (fun i cur => 1 <= i ∧ cur.length = n ∧ b0V c (n - i.toNat) i.toNat cur = R) (fun i _ => (n - i).toNat) 1 l ⟨by omega, hn, by rw [<- hR]; unfold a1H; rw [hn]; rfl⟩ rfl ?_
 rintro i cur ⟨g1, g2, g3⟩
 unfold c0W
 by_cases hi : i < n
 ·have e2 : (i + 1).toNat = i.toNat + 1 := by omega
  obtain ⟨q, hq⟩ : ∃ q, n - i.toNat = q + 1 := ⟨n - i.toNat - 1, by omega⟩
  rw [hq, b0V, <- e2, show q = n - (i + 1).toNat by omega] at g3
  generalize hT : b0S c i.toNat cur = T at g3
  have hTl : T.length = n := by rw [<- hT, Y4]; exact g2
  refine qv ?_
  refine j7 (b1e cl n i) (fun j cur => 0 <= j ∧ j <= i ∧ cur.length = n ∧ b0S c j.toNat cur = T) (fun j _ => j.toNat) i cur ⟨by omega, by omega, g2, hT⟩ rfl ?_
  rintro j cur ⟨k1, k2, k3, k4⟩
  unfold b1e
  by_cases hj : 0 < j
  ·obtain ⟨w, hw⟩ : ∃ w, j.toNat = w + 1 := ⟨j.toNat - 1, by omega⟩
   have hw2 : (j - 1).toNat = w := by omega
   rw [hw, b0S, <- hw, <- hw2] at k4
   have hc := hcl (cur.getD j.toNat default) (cur.getD (j - 1).toNat default)
   rw [K9, K9] at hc
   by_cases c1 : c (cur.getD j.toNat default) (cur.getD (j - 1).toNat default) < 0
   ·rw [if_pos c1] at k4
    refine qc hc ?_
    refine qv ?_
    exact ⟨j - 1, swD cur j.toNat, by simp only [b1e, swD, M4, List.map_set, K9, hw2, hw, Nat.add_sub_cancel], ⟨by omega, by omega, by rw [a3v]; exact k3, k4⟩, by omega⟩
   ·rw [if_neg c1] at k4
    subst k4
    refine qc hc ?_
    refine qv ?_
    exact ⟨i + 1, cur, rfl, ⟨by omega, k3, g3⟩, by omega⟩
  ·have hj0 : j = 0 := by omega
   subst hj0
   have k5 : cur = T := k4
   subst k5
   refine qv ?_
   exact ⟨i + 1, cur, rfl, ⟨by omega, k3, g3⟩, by omega⟩
 ·rw [show n - i.toNat = 0 by omega, b0V] at g3
  subst g3
  exact qt
theorem b6Q (cl : FuncId) (c : Dut -> Dut -> Int) (hcl : ∀ x y, FC Tryz.prog cl none [.ag (a0f x), .ag (a0f y)] (fun _ r => r = iv (c x y))) (l : List Dut) (hl : l.length < 20) :
  F9 Tryz.prog 67 [1000000] ⟨[], [(1000000, M4 l)]⟩ [.one (.ow 1000000 0), .one (.fn cl [])] (fun H r => H = ⟨[], [(1000000, M4 (a1H c l))]⟩ ∧ r = .tu []) := by
 have hR : (a1H c l).length = l.length := K0 c _ _ _
 have hB : F9 Tryz.prog 107 [1000000] ⟨[], [(1000000, M4 l)]⟩ [.one (.ow 1000000 0), iv l.length, .one (.fn cl [])] (fun H r => H = ⟨[], [(1000000, M4 (a1H c l))]⟩ ∧ r = .tu []) := by
  refine fsE Tryz.func107 (aM [] [1000000] [[0,1,2,6],[0,1,2,6,7,8],[0,1,2,6,7,8,13]] ++ [⟨(kP [0,1,2,6,8] [] [1000000]),[],[],[],[(18,⟨[],[1000000],[],[1000000],[1000000]⟩)]⟩] ++ aM [] [1000000] [[0,1,2,6,7,8],[0,1,2,6,7,8]] ++ [⟨(kP [0,1,2,6] [] [1000000]),[],[],[],[(27,⟨[],[1000000],[],[1000000],[1000000]⟩)]⟩] ++ aM [] [1000000] [[0,1,2,6,30],[0,1,2,6,7,8],[0,1,2,6,7,8,35]] ++ [⟨(kP [0,1,2,6,8] [] [1000000]),[],[],[],[(43,⟨[],[1000000],[],[1000000],[1000000]⟩)]⟩] ++ aM [] [1000000] [[0,1,2,6,7,8],[0,1,2,6,7,8],[0,1,2,6,7,9],[0,1,2,6,7,9,54]] ++ [⟨(kP [0,1,2,6] [] [1000000]),[],[],[],[(60,⟨[],[1000000],[],[1000000],[1000000]⟩)]⟩] ++ aM [] [1000000] [[0,1,2,6]]) ⟨[], [], [1000000]⟩ ?_
  refine qvs ?_
  refine T6 1 ?_
  refine qvs ?_
  refine ⟨rfl, e7 (b7B cl c hcl l (by omega)) ⟨rfl, rfl⟩ ?_⟩
  refine qvs ?_
  refine T6 1 ?_
  exact qts
 refine fsE Tryz.func67 [⟨(kP [] [] [1000000]),[],[],[],[(8,⟨[],[1000000],[],[1000000],[1000000]⟩)]⟩] ⟨[], [], [1000000]⟩ ?_
 refine qvs ?_
 refine ⟨rfl, e7 hB ⟨rfl, rfl⟩ ?_⟩
 exact qts
def a5M : List Ann := (aM [5] [] [[0,1,5],[0,1,5,8],[0,1,5,8,23]] ++ [⟨(kP [6,7] [] []),[],[],[(6,2)],[]⟩,⟨(kP [0,1,5,9] [5] []),[(9,103,2)],[],[],[]⟩] ++ aM [5] [9] [[1,5,9,25,26,27],[1,5,9,25,26,27,28]] ++ aM [5,11] [9] [[1,5,9,11,25,26,27],[1,5,9,11,12,25,26,27],[1,5,9,11,12,25,26,27,36,37,38],[1,5,9,11,12,25,26,27,36,37,38,39]] ++ aM [5,11,14] [9] [[1,5,9,11,12,14,25,26,27,36,37,38]] ++ aM [5,11] [9] [[1,5,9,11,12,25,26,27,36,37,38],[1,5,9,11,12,25,26,27,36,37,38],[1,5,9,11,12,25,26,27,58]] ++ aM [5] [9] [[1,5,9,25,26,27],[1,5,9,25,26,27]] ++ [⟨(kP [9] [] []),[],[],[],[(68,⟨[],[9],[],[9],[9]⟩)]⟩,⟨(kP [9,15] [] []),[(15,64,2)],[],[],[]⟩] ++ aM [] [15] [[15,69,70,71],[15,69,70,71,72]] ++ aM [17] [15] [[15,17,69,70,71]] ++ aM [] [15] [[15,69,70,71],[15,69,70,71]] ++ aL [[6,7]])
def du1 (f t : Int) (v : Int × Int) : Int := max 0 (min v.2 t - max v.1 f)
def duN (f t : Int) (W : List (Int × Int)) : Int := W.foldl (fun n v => n + du1 f t v) 0
theorem a4n (f t : Int) (W : List (Int × Int)) (v : Int × Int) : duN f t (W ++ [v]) = duN f t W + du1 f t v := by simp [duN, List.foldl_append]
theorem a6H {f t : Int} {v : Int × Int} (hw : 0 <= f ∧ f <= t ∧ t <= 345686400000) (hv : 0 <= v.1 ∧ v.1 <= v.2 ∧ v.2 <= 345686400000) : 0 <= du1 f t v ∧ du1 f t v <= 345686400000 := by
 unfold du1; omega
theorem a4d {f t : Int} (hw : 0 <= f ∧ f <= t ∧ t <= 345686400000) {W : List (Int × Int)} (h : ∀ v ∈ W, 0 <= v.1 ∧ v.1 <= v.2 ∧ v.2 <= 345686400000) : 0 <= duN f t W ∧ duN f t W <= 345686400000 * W.length := by
 induction W using a6K with
 | h0 => simp [duN]
 | h1 W v ih =>
  have h1 := ih fun x hx => h x (by simp [hx])
  have h2 := a6H hw (h v (by simp))
  rw [a4n, List.length_append, List.length_singleton]
  omega
def dtL (s : List Ser) (f t : Int) : List Alm -> List Dut
 | [] => []
 | x :: r => (if duN f t (m8 s x) > 0 then [(x.k, duN f t (m8 s x))] else []) ++ dtL s f t r
theorem a4f (s : List Ser) (f t : Int) (x : Alm) : ∀ l : List Alm, dtL s f t (l ++ [x]) = dtL s f t l ++ (if duN f t (m8 s x) > 0 then [(x.k, duN f t (m8 s x))] else [])
 | [] => by simp [dtL]
 | y :: l => by rw [List.cons_append, dtL, a4f s f t x l, dtL, List.append_assoc]
theorem a3n (s : List Ser) (f t : Int) : ∀ l : List Alm, (dtL s f t l).length <= l.length
 | [] => by simp [dtL]
 | y :: l => by
  rw [dtL, List.length_append, List.length_cons]
  have := a3n s f t l
  split <;> simp <;> omega
theorem a6o {s : List Ser} {f t : Int} {d : Dut} : ∀ {l : List Alm}, d ∈ dtL s f t l -> ∃ x ∈ l, d.2 = duN f t (m8 s x)
 | [], h => by simp [dtL] at h
 | y :: l, h => by
  rw [dtL, List.mem_append] at h
  rcases h with h | h
  ·split at h
   ·simp at h; subst h; exact ⟨y, by simp, rfl⟩
   ·simp at h
  ·obtain ⟨x, hx, h⟩ := a6o h
   exact ⟨x, by simp [hx], h⟩
def a6R (x y : Dut) : Int := sd x.2 y.2
theorem c2d {l : List Dut} {j : Nat} {d : Dut} (hj : j < l.length) (h : d ∈ swD l j) : d ∈ l := by
 unfold swD at h
 rcases List.mem_or_eq_of_mem_set h with h | rfl
 ·rcases List.mem_or_eq_of_mem_set h with h | rfl
  ·exact h
  ·exact f8 l _ (by omega)
 ·exact f8 l _ hj
theorem a8a {c : Dut -> Dut -> Int} {d : Dut} : ∀ {j : Nat} {l : List Dut}, j < l.length -> d ∈ b0S c j l -> d ∈ l
 | 0, _, _, h => h
 | j + 1, l, hj, h => by
  rw [b0S] at h
  split at h
  ·exact c2d hj (a8a (by rw [a3v]; omega) h)
  ·exact h
theorem a7R {c : Dut -> Dut -> Int} {d : Dut} : ∀ {n i : Nat} {l : List Dut}, i + n <= l.length -> d ∈ b0V c n i l -> d ∈ l
 | 0, _, _, _, h => h
 | n + 1, i, l, hn, h => by
  rw [b0V] at h
  exact a8a (by omega) (a7R (by rw [Y4]; omega) h)
theorem a8A {c : Dut -> Dut -> Int} {l : List Dut} {d : Dut} (h : d ∈ a1H c l) : d ∈ l := by
 unfold a1H at h
 rcases Nat.eq_zero_or_pos l.length with h0 | h0
 ·rw [h0] at h; exact h
 ·exact a7R (by omega) h
theorem c5M (x y : Dut) : FC Tryz.prog 54 none [.ag (a0f x), .ag (a0f y)] (fun _ r => r = iv (a6R x y)) := by
 refine fcE Tryz.func54 [aN [2,3] [2,3] [],aN [4] [] []] ?_
 unfold a0f a6R
 refine qc (s6 _ _) ?_
 exact qt
theorem c6P (x y : Dut) : FC Tryz.prog 68 none [.ag (a0f x), .ag (a0f y)] (fun _ r => r = iv (a6R x y)) := by
 refine fcE Tryz.func68 [aN [2,3] [2,3] [],aN [4] [] []] ?_
 unfold a0f a6R
 refine qc (s6 _ _) ?_
 exact qt
def prD (d : Dut) : ByteArray × ByteArray := (d.1, c2N d.2)
def prC (p : ByteArray × ByteArray) : List Cel := [.g (.string p.1), .g (.string p.2)]
theorem b3U (p : ByteArray × ByteArray) : prC p = [Cel.g (.string p.1), Cel.g (.string p.2)] := rfl
theorem d0I (l : List (ByteArray × ByteArray)) : frE (l.map prC) = true := a0o (fun _ => rfl) l
theorem c5X (l : List (ByteArray × ByteArray)) : a0k (l.map prC) = l.map prC := V7 (fun _ => rfl) l
theorem c1Z (l : List (ByteArray × ByteArray)) : F8 (l.map prC) = l.map prC := U7 (fun _ => rfl) l
attribute [go_sem] b3U d0I c5X c1Z
abbrev b8d (l : List (ByteArray × ByteArray)) : Row := ⟨0, 64, 2, l.map prC⟩
abbrev prV (l : List (ByteArray × ByteArray)) : Val := .one (.sl true 2 (l.map prC))
def dtS (s : List Ser) (f t : Int) (l : List Alm) : List (ByteArray × ByteArray) := (a1H a6R (dtL s f t l)).map prD
def b2x (l : List Alm) (s : List Ser) (f t i : Int) (out : List Dut) : AS := ⟨m7 [(1, B1 false s), (5, .one (.bx 5 0)), (9, .one (.ow 9 0)), (25, r6 false l), (26, iv l.length), (27, iv i)], f7 [(5, [.g (.int .i64 f), .g (.int .i64 t)])], f7 [(9, M0 out)]⟩
def a8H (l : List Alm) (s : List Ser) (f t i : Int) (out : List Dut) (x : Alm) (W : List (Int × Int)) (j n : Int) : AS := ⟨m7 [(1, B1 false s), (5, .one (.bx 5 0)), (9, .one (.ow 9 0)), (11, .one (.bx 11 0)), (12, iv n), (25, r6 false l), (26, iv l.length), (27, iv i), (36, a0C true W), (37, iv W.length), (38, iv j)], f7 [(5, [.g (.int .i64 f), .g (.int .i64 t)]), (11, D0 x)], f7 [(9, M0 out)]⟩
def b1L (D : List Dut) (i : Int) (out : List (ByteArray × ByteArray)) : AS := ⟨m7 [(15, .one (.ow 15 0)), (69, .one (.sl true 2 (D.map a0f))), (70, iv D.length), (71, iv i)], f7 [], f7 [(15, b8d out)]⟩
theorem b1J (l : List Alm) (s : List Ser) (hl : l.length <= 12) (h : ∀ i : Nat, i < l.length -> AlR s (l.getD i default)) (f t : Int) (hw : 0 <= f ∧ f <= t ∧ t <= 345686400000)
  (hwf : FC Tryz.prog 41 none [r6 false l, B1 false s, .one (.g (.slice none 0 0)), wV f t] (fun _ r => r = iv 0)) :
  FC Tryz.prog 16 none [r6 false l, B1 false s, wV f t] (fun _ r => r = .tu [prV (dtS s f t l), iv 0]) := by
 refine fcE Tryz.func16 a5M ?_
 have h' : ∀ x ∈ l, AlR s x := fun x hx => by obtain ⟨j, hj, rfl⟩ := G8 hx; exact h j hj
 refine qc hwf ?_
 refine qv ?_
 refine j7 (b2x l s f t) (fun i out => 0 <= i ∧ i <= l.length ∧ out = dtL s f t (l.take i.toNat)) (fun i _ => (l.length - i).toNat) 0 [] ⟨by omega, by omega, by simp [dtL]⟩ rfl ?_
 rintro i out ⟨i0, i1, i2⟩
 unfold b2x
 have hol : out.length <= l.length := by rw [i2]; refine Nat.le_trans (a3n _ _ _ _) ?_; rw [List.length_take]; omega
 by_cases hi : i < l.length
 ·have ei := e8 D0 l i [] i0 hi
  have hal := h i.toNat (by omega)
  obtain ⟨fr, hsa⟩ := hal.sam
  have hac := hal.act
  have hsn := a4f s f t (l.getD i.toNat default) (l.take i.toNat)
  rw [<- n4 l i i0 hi, <- i2] at hsn
  have hwl := hal.w
  have hwb := hal.b
  generalize m8 s (l.getD i.toNat default) = W at *
  rw [j9] at hac
  refine qv ?_
  refine m9 hsa (.inr ⟨rfl, rfl⟩) ?_
  refine qc hac ?_
  refine qv ?_
  refine j7 (a8H l s f t i out (l.getD i.toNat default) W) (fun j n => 0 <= j ∧ j <= W.length ∧ n = duN f t (W.take j.toNat)) (fun j _ => (W.length - j).toNat) 0 0 ⟨by omega, by omega, by simp [duN]⟩ (by simp only [a8H, j9]) ?_
  rintro j n ⟨j0, j1, j2⟩
  unfold a8H
  simp only [j9]
  have hn := a4d hw (W := W.take j.toNat) fun v hv => hwb v (List.mem_of_mem_take hv)
  rw [<- j2, List.length_take] at hn
  by_cases hj : j < W.length
  ·have ej := e8 frC W j [] j0 hj
   have hv := hwb _ (f8 W j.toNat (by omega))
   have h1 := a6H hw hv
   have hsj := a4n f t (W.take j.toNat) (W.getD j.toNat default)
   rw [<- n4 W j j0 hj, <- j2] at hsj
   refine qv ?_
   refine ⟨j + 1, n + du1 f t (W.getD j.toNat default), ?_, ⟨by omega, by omega, hsj.symm⟩, by omega⟩
   simp only [a8H, j9, du1]
  ·rw [List.take_of_length_le (by omega)] at j2
   rw [<- j2] at hsn
   by_cases hp : n > 0
   ·rw [if_pos hp] at hsn
    refine qv ?_
    exact ⟨i + 1, out ++ [((l.getD i.toNat default).k, n)], by simp only [b2x, M0, List.map_append, List.map_cons, List.map_nil]; rfl, ⟨by omega, by omega, hsn.symm⟩, by omega⟩
   ·rw [if_neg hp, List.append_nil] at hsn
    refine qv ?_
    exact ⟨i + 1, out, rfl, ⟨by omega, by omega, hsn.symm⟩, by omega⟩
 rw [List.take_of_length_le (by omega)] at i2
 have hso := b8u 54 a6R c5M out (by omega)
 have hsl : (a1H a6R out).length = out.length := K0 _ _ _ _
 have hDr : ∀ d ∈ a1H a6R out, I64 d.2 := fun d hd => by
  obtain ⟨x, hx, hx2⟩ := a6o (i2 ▸ (a8A hd))
  have := a4d hw (h := (h' x hx).b)
  have := (h' x hx).w
  unfold I64; omega
 unfold dtS
 rw [<- i2]
 refine qv ?_
 refine ⟨rfl, C5 ⟨[], [(9, M0 (a1H a6R out))]⟩ (.tu []) (fun k => k) (swp 9 1000000) (fun _ => rfl) (s8 9 1000000) hso (by simp) rfl rfl rfl rfl rfl ⟨rfl, rfl⟩ ?_⟩
 generalize a1H a6R out = D at *
 refine qv ?_
 refine j7 (b1L D) (fun i out => 0 <= i ∧ i <= D.length ∧ out = (D.take i.toNat).map prD) (fun i _ => (D.length - i).toNat) 0 [] ⟨by omega, by omega, by simp⟩ rfl ?_
 rintro i out ⟨i0, i1, i2⟩
 unfold b1L
 have hol : out.length <= D.length := by rw [i2, List.length_map, List.length_take]; omega
 by_cases hi : i < D.length
 ·have ei := e8 a0f D i [] i0 hi
  have hit := b1Y (D.getD i.toNat default).2 (hDr _ (f8 D i.toNat (by omega)))
  refine qc hit ?_
  refine qv ?_
  refine ⟨i + 1, out ++ [prD (D.getD i.toNat default)], by simp only [b1L, b8d, List.map_append, List.map_cons, List.map_nil, b3U]; rfl, ⟨by omega, by omega, ?_⟩, by omega⟩
  rw [n4 D i i0 hi, List.map_append, <- i2]; rfl
 ·rw [List.take_of_length_le (by omega)] at i2
  subst i2
  exact qt
def b2g (l : List Alm) (s : List Ser) (f t i : Int) (out : List Dut) : AS := ⟨m7 [(1, B1 false s), (5, .one (.bx 5 0)), (7, .one (.ow 7 0)), (16, r6 false l), (17, iv l.length), (18, iv i)], f7 [(5, [.g (.int .i64 f), .g (.int .i64 t)])], f7 [(7, M4 out)]⟩
def a9j (l : List Alm) (s : List Ser) (f t i : Int) (out : List Dut) (x : Alm) (W : List (Int × Int)) (j n : Int) : AS := ⟨m7 [(1, B1 false s), (5, .one (.bx 5 0)), (7, .one (.ow 7 0)), (10, .one (.bx 10 0)), (16, r6 false l), (17, iv l.length), (18, iv i), (30, a0C true W), (31, iv W.length), (32, iv j)], f7 [(5, [.g (.int .i64 f), .g (.int .i64 t)]), (10, a0f (x.k, n))], f7 [(7, M4 out)]⟩
def b5b (D : List Dut) (i : Int) (out : List (ByteArray × ByteArray)) : AS := ⟨m7 [(13, .one (.ow 13 0)), (63, .one (.sl true 2 (D.map a0f))), (64, iv D.length), (65, iv i)], f7 [], f7 [(13, b8d out)]⟩
theorem a6A (l : List Alm) (s : List Ser) (hl : l.length <= 12) (h : ∀ i : Nat, i < l.length -> AlR s (l.getD i default)) (f t : Int) (hw : 0 <= f ∧ f <= t ∧ t <= 345686400000) :
  FC Tryz.prog 25 none [r6 false l, B1 false s, wV f t] (fun _ r => r = prV (dtS s f t l)) := by
 refine fcE Tryz.func25 (aM [5] [] [[0,1,5]] ++ [⟨(kP [0,1,5,7] [5] []),[(7,117,2)],[],[],[]⟩] ++ aM [5] [7] [[1,5,7,16,17,18],[1,5,7,16,17,18,19]] ++ aM [5,9] [7] [[1,5,7,9,16,17,18]] ++ aM [5,9,10] [7] [[1,5,7,9,10,16,17,18]] ++ aM [5,10] [7] [[1,5,7,10,16,17,18,30,31,32],[1,5,7,10,16,17,18,30,31,32,33]] ++ aM [5,10,12] [7] [[1,5,7,10,12,16,17,18,30,31,32]] ++ aM [5,10] [7] [[1,5,7,10,16,17,18,30,31,32],[1,5,7,10,16,17,18,30,31,32],[1,5,7,10,16,17,18,55]] ++ aM [5] [7] [[1,5,7,16,17,18],[1,5,7,16,17,18]] ++ [⟨(kP [7] [] []),[],[],[],[(62,⟨[],[7],[],[7],[7]⟩)]⟩,⟨(kP [7,13] [] []),[(13,64,2)],[],[],[]⟩] ++ aM [] [13] [[13,63,64,65],[13,63,64,65,66]] ++ aM [15] [13] [[13,15,63,64,65]] ++ aM [] [13] [[13,63,64,65],[13,63,64,65]] ++ aL [[6]]) ?_
 have h' : ∀ x ∈ l, AlR s x := fun x hx => by obtain ⟨j, hj, rfl⟩ := G8 hx; exact h j hj
 refine qv ?_
 refine j7 (b2g l s f t) (fun i out => 0 <= i ∧ i <= l.length ∧ out = dtL s f t (l.take i.toNat)) (fun i _ => (l.length - i).toNat) 0 [] ⟨by omega, by omega, by simp [dtL]⟩ rfl ?_
 rintro i out ⟨i0, i1, i2⟩
 unfold b2g
 have hol : out.length <= l.length := by rw [i2]; refine Nat.le_trans (a3n _ _ _ _) ?_; rw [List.length_take]; omega
 by_cases hi : i < l.length
 ·have ei := e8 D0 l i [] i0 hi
  have hal := h i.toNat (by omega)
  have hsl0 := hal.so.len
  have hsa := a3J s (l.getD i.toNat default).t (by omega)
  have hac := hal.actR
  have hsn := a4f s f t (l.getD i.toNat default) (l.take i.toNat)
  rw [<- n4 l i i0 hi, <- i2] at hsn
  have hwl := hal.w
  have hwb := hal.b
  generalize m8 s (l.getD i.toNat default) = W at *
  rw [j9] at hac
  refine qv ?_
  refine ⟨_, hsa, ⟨[], _, true, rfl⟩, ?_⟩
  rintro cs r ⟨fr, rfl⟩
  refine ⟨.inr ⟨rfl, rfl⟩, ?_⟩
  refine qc hac ?_
  refine qv ?_
  refine j7 (a9j l s f t i out (l.getD i.toNat default) W) (fun j n => 0 <= j ∧ j <= W.length ∧ n = duN f t (W.take j.toNat)) (fun j _ => (W.length - j).toNat) 0 0 ⟨by omega, by omega, by simp [duN]⟩ (by simp only [a9j, K9]) ?_
  rintro j n ⟨j0, j1, j2⟩
  unfold a9j
  simp only [K9]
  have hn := a4d hw (W := W.take j.toNat) fun v hv => hwb v (List.mem_of_mem_take hv)
  rw [<- j2, List.length_take] at hn
  by_cases hj : j < W.length
  ·have ej := e8 frC W j [] j0 hj
   have hv := hwb _ (f8 W j.toNat (by omega))
   have h1 := a6H hw hv
   have hsj := a4n f t (W.take j.toNat) (W.getD j.toNat default)
   rw [<- n4 W j j0 hj, <- j2] at hsj
   refine qv ?_
   refine ⟨j + 1, n + du1 f t (W.getD j.toNat default), ?_, ⟨by omega, by omega, hsj.symm⟩, by omega⟩
   simp only [a9j, K9, du1]
  ·rw [List.take_of_length_le (by omega)] at j2
   rw [<- j2] at hsn
   by_cases hp : n > 0
   ·rw [if_pos hp] at hsn
    refine qv ?_
    exact ⟨i + 1, out ++ [((l.getD i.toNat default).k, n)], by simp only [b2g, M4, List.map_append, List.map_cons, List.map_nil]; rfl, ⟨by omega, by omega, hsn.symm⟩, by omega⟩
   ·rw [if_neg hp, List.append_nil] at hsn
    refine qv ?_
    exact ⟨i + 1, out, rfl, ⟨by omega, by omega, hsn.symm⟩, by omega⟩
 rw [List.take_of_length_le (by omega)] at i2
 have hso := b6Q 68 a6R c6P out (by omega)
 have hsl : (a1H a6R out).length = out.length := K0 _ _ _ _
 have hDr : ∀ d ∈ a1H a6R out, I64 d.2 := fun d hd => by
  obtain ⟨x, hx, hx2⟩ := a6o (i2 ▸ (a8A hd))
  have := a4d hw (h := (h' x hx).b)
  have := (h' x hx).w
  unfold I64; omega
 unfold dtS
 rw [<- i2]
 refine qv ?_
 refine ⟨rfl, C5 ⟨[], [(7, M4 (a1H a6R out))]⟩ (.tu []) (fun k => k) (swp 7 1000000) (fun _ => rfl) (s8 7 1000000) hso (by simp) rfl rfl rfl rfl rfl ⟨rfl, rfl⟩ ?_⟩
 generalize a1H a6R out = D at *
 refine qv ?_
 refine j7 (b5b D) (fun i out => 0 <= i ∧ i <= D.length ∧ out = (D.take i.toNat).map prD) (fun i _ => (D.length - i).toNat) 0 [] ⟨by omega, by omega, by simp⟩ rfl ?_
 rintro i out ⟨i0, i1, i2⟩
 unfold b5b
 have hol : out.length <= D.length := by rw [i2, List.length_map, List.length_take]; omega
 by_cases hi : i < D.length
 ·have ei := e8 a0f D i [] i0 hi
  have hit := b1Y (D.getD i.toNat default).2 (hDr _ (f8 D i.toNat (by omega)))
  refine qc hit ?_
  refine qv ?_
  refine ⟨i + 1, out ++ [prD (D.getD i.toNat default)], by simp only [b5b, b8d, List.map_append, List.map_cons, List.map_nil, b3U]; rfl, ⟨by omega, by omega, ?_⟩, by omega⟩
  rw [n4 D i i0 hi, List.map_append, <- i2]; rfl
 ·rw [List.take_of_length_le (by omega)] at i2
  subst i2
  exact qt
end Go.Proofs.YtnlafmigfjlnnaaGreatDoor
