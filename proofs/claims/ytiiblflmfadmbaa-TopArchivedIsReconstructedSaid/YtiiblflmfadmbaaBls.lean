
/-
 slices.SortFunc of samples by their moments.
-/
import Derived.Test.YtiiblflmfadmbaaBlm
import Derived.Test.YtiiblflmfadmbaaLsm
import Derived.Sort.OwnSorted
import Derived.Shelf.SlSortCmp.WholeK
namespace Go.Proofs.Ytiiblflmfadmbaa
open Go Go.Ai Go.Sort Go.Proofs
set_option linter.unusedSimpArgs false
set_option linter.unusedVariables false
set_option maxHeartbeats 4000000
/-- Samples whose moments are right. -/
def SmO := { x : Smp // 0 ≤ x.a ∧ x.a ≤ 345686400000 }
instance : Inhabited SmO := ⟨⟨⟨0, 0, 0⟩, by decide⟩⟩
def smoV (x : SmO) : List Value := smV x.1
def cmpM (x y : SmO) : Int := x.1.a - y.1.a
theorem swoM : SWO (ltOf cmpM) where
 irrefl x := decide_eq_false (by unfold cmpM; omega)
 trans x y z h1 h2 := by
  have h1 := of_decide_eq_true h1
  have h2 := of_decide_eq_true h2
  unfold cmpM at h1 h2
  exact decide_eq_true (by unfold cmpM; omega)
 ntrans x y z h1 h2 := by
  have h1 := of_decide_eq_false h1
  have h2 := of_decide_eq_false h2
  unfold cmpM at h1 h2
  exact decide_eq_false (by unfold cmpM; omega)
theorem cmpW (a1 v1 q1 a2 v2 q2 : Int) (h1 : 0 ≤ a1 ∧ a1 ≤ 345686400000) (h2 : 0 ≤ a2 ∧ a2 ≤ 345686400000) (w : World) :
  Calls Try.prog 52 #[.agg #[.int .i64 a1, .int .i64 v1, .int .i64 q1], .agg #[.int .i64 a2, .int .i64 v2, .int .i64 q2]] w fun e w' => e = .returned (.int .i64 (a1 - a2)) ∧ ∃ q os', w' = grow (w.drewN q) os' := by
 have hw : IntKind.i64.wrap (a1 - a2) = a1 - a2 := wrap_i64 _ (by omega) (by omega)
 go_enter Try.func52, Try.ntmps52
 go_wp2
 go_ret
 exact ⟨rfl, 0, #[.cells #[.int .i64 a1, .int .i64 v1, .int .i64 q1] smT, .cells #[.int .i64 a2, .int .i64 v2, .int .i64 q2] smT], by
  show _ = grow w _
  unfold grow World.alloc
  simp only [World.mk.injEq, true_and, and_true]
  rw [← Array.toList_inj]; simp⟩
theorem flatO_len : ∀ m : List SmO, ((m.map smoV).flatten).length = m.length * 3
 | [] => rfl
 | x :: m => by rw [List.map_cons, List.flatten_cons, List.length_append, flatO_len m, List.length_cons]; simp [smoV, smV]; omega
theorem flat3 : ∀ (ys : List SmO) (i : Nat) (t : SmO) (j : Nat) (u : Value), ys[i]? = some t → (smoV t)[j]? = some u → ((ys.map smoV).flatten)[i * 3 + j]? = some u
 | [], i, t, j, u, h, _ => by simp at h
 | y :: ys, 0, t, j, u, h, hu => by
  simp at h; subst h
  have hj : j < 3 := (List.getElem?_eq_some_iff.1 hu).1
  rw [List.map_cons, List.flatten_cons, List.getElem?_append_left (by show _ < 3; omega), Nat.zero_mul, Nat.zero_add]
  exact hu
 | y :: ys, i + 1, t, j, u, h, hu => by
  rw [List.map_cons, List.flatten_cons, List.getElem?_append_right (by show 3 ≤ _; omega)]
  rw [show (i + 1) * 3 + j - (smoV y).length = i * 3 + j by show _ - 3 = _; omega]
  exact flat3 ys i t j u (by simpa using h) hu
theorem flatK_smo (l : List SmO) : flatK smoV 3 l.toArray = ((l.map smoV).flatten).toArray := by
 refine ext_get! (by rw [size_flatK]; simp only [List.size_toArray]; rw [flatO_len]) fun t ht => ?_
 rw [size_flatK] at ht
 rw [get_flatK _ _ _ t ht]
 have ht2 : t / 3 < l.length := by simp only [List.size_toArray] at ht; omega
 have h1 : l[t / 3]? = some l[t / 3] := List.getElem?_eq_getElem ht2
 have hm : t % 3 < 3 := Nat.mod_lt _ (by omega)
 have hl6 : (smoV l[t / 3]).length = 3 := rfl
 have h2 : (smoV l[t / 3])[t % 3]? = some (smoV l[t / 3])[t % 3] := List.getElem?_eq_getElem (by omega)
 have h3 := flat3 l (t / 3) _ (t % 3) _ h1 h2
 rw [show t / 3 * 3 + t % 3 = t by omega] at h3
 have e1 : (l.toArray)[t / 3]! = l[t / 3] := by simp [ht2]
 rw [e1]
 have e2 : (smoV l[t / 3])[t % 3]! = (smoV l[t / 3])[t % 3] := getElem!_pos _ _ (by omega)
 rw [e2]
 obtain ⟨h5, h6⟩ := List.getElem?_eq_some_iff.1 h3
 rw [getElem!_pos _ _ (by simpa using h5)]
 simp [h6]
theorem holds_blockM {w : World} {g : Nat} {cur : Array Value} {e : TypeId} {ss : List Value} (hb : w.heap[g]? = some (.cells cur e (0, 0))) (ht : cur.toList.take ss.length = ss) : Holds id w g 0 ss.toArray := by
 intro j hj
 have hj' : j < ss.length := by simpa using hj
 refine ⟨?_, by simp [World.frozen?, hb]⟩
 have h1 : (cur.toList.take ss.length)[j]? = ss[j]? := by rw [ht]
 rw [List.getElem?_take_of_lt hj'] at h1
 simp only [World.cell?, hb, Nat.zero_add]
 simp only [Option.isSome_none, Bool.false_eq_true, if_false]
 rw [← Array.getElem?_toList, h1]
 simp [hj']
theorem heap_sortedM {w : World} {g n : Nat} {os : Array Obj} {cur : Array Value} {e : TypeId} {fr : Nat × Nat} (d : Array Value) (hb : w.heap[g]? = some (.cells cur e fr)) :
  (grow (putRow id (Sort.ahead w n) g 0 d) os).heap[g]? = some (.cells (putCells id 0 d cur) e fr) := by
 have hg : g < w.heap.size := (Array.getElem?_eq_some_iff.1 hb).1
 rw [heap_grow_old _ _ (by simpa using hg)]
 simp [putRow, mapBlock, Sort.ahead, Array.getElem?_modify, hb, onCells]
theorem grownBy_sortedM {w : World} {g n : Nat} {os : Array Obj} (d : Array Value) : w.grownBy (grow (putRow id (Sort.ahead w n) g 0 d) os) (some g) := by
 refine ⟨rfl, rfl, rfl, by simp, fun k hk hne => ?_⟩
 rw [heap_grow_old _ _ (by simpa using hk)]
 have : g ≠ k := fun e => hne (by rw [e])
 simp [putRow, mapBlock, Sort.ahead, Array.getElem?_modify, this]
theorem take_putCellsM (cur : Array Value) (ts : List Value) (h : ts.length ≤ cur.size) : (putCells id 0 ts.toArray cur).toList.take ts.length = ts := by
 apply List.ext_getElem?
 intro j
 by_cases hj : j < ts.length
 ·rw [List.getElem?_take_of_lt hj, Array.getElem?_toList]
  simp [putCells, hj, show j < cur.size by omega]
 ·rw [List.getElem?_take_eq_none (by omega), List.getElem?_eq_none (by omega)]
theorem layM (blk off size : Nat) (w : World) : CmpLays Try.prog 52 #[] smoV 3 cmpM blk off size w := fun m os dk _ x y =>
 cmpW x.1.a x.1.v x.1.q y.1.a y.1.v y.1.q x.2 y.2 (sortWorldK smoV 3 w blk off m dk os)
theorem perm_of {α : Type} [Inhabited α] {d d' : Array α} (h : PermIn 0 d.size d d') : d'.toList.Perm d.toList := by
 obtain ⟨h1, _, h3⟩ := h
 have e1 : d'.extract 0 d.size = d' := by rw [← h1]; exact Array.extract_size
 have e2 : d.extract 0 d.size = d := Array.extract_size
 rwa [e1, e2] at h3
theorem ordM {d : Array SmO} (h : SortedIn (ltOf cmpM) 0 d.size d) : (d.toList.map (·.1)).Pairwise fun x y => x.a ≤ y.a := by
 rw [List.pairwise_map, List.pairwise_iff_getElem]
 intro i j hi hj hij
 have := h i j (Nat.zero_le _) hij (by simpa using hj)
 have := of_decide_eq_false this
 rw [getElem!_pos d i (by simpa using hi), getElem!_pos d j (by simpa using hj)] at this
 unfold cmpM at this
 simp only [Array.getElem_toList]
 omega
theorem sort_smp (l : List Smp) (h1 : 1 ≤ l.length) (hl : l.length ≤ 1000) (hok : ∀ x ∈ l, 0 ≤ x.a ∧ x.a < 345686400000) (hnd : l.Pairwise fun x y => x.a < y.a) (W : World) (v : Value) (ss : List Smp) {B : Nat} (hP : l.Perm ss) (hO : W.ownsRow B smT 3 v ss.length (ss.map smV).flatten) :
  Calls Try.prog 51 #[v, .func (.func 52) #[] #[]] W fun e w' => e = .returned (.tuple #[]) ∧ W.grownBy w' v.ownBlock ∧ w'.ownsRow B smT 3 v l.length (l.map smV).flatten := by
 have hlen := hP.length_eq
 have hoks : ∀ x ∈ ss, 0 ≤ x.a ∧ x.a ≤ 345686400000 := fun x hx => by have := hok x (hP.mem_iff.2 hx); omega
 obtain ⟨so, hso⟩ : ∃ so : List SmO, so.map (·.1) = ss := ⟨ss.attachWith _ hoks, List.attachWith_map_subtype_val hoks⟩
 have hsv : (so.map smoV) = ss.map smV := by rw [← hso, List.map_map]; rfl
 have hsl : so.length = ss.length := by rw [← hso, List.length_map]
 rcases hO.2 with ⟨_, hn⟩ | ⟨g, cap, cur, hve, hB, hcell, hnc, hcm, hcs, htake⟩
 ·omega
 ·subst hve
  have hglt : g < W.heap.size := (Array.getElem?_eq_some_iff.1 hcell).1
  have hHK : HoldsK smoV 3 W g 0 so.toArray := by
   unfold HoldsK
   rw [flatK_smo, hsv]
   exact holds_blockM hcell (by rw [hO.1]; exact htake)
  have eg : ∀ args w, (callFunc 52 args).run Try.prog w = .ok (.enter 52 args) w := enters_of Try.func52 (by kernel_rfl) rfl
  have hcon := AnyQ.slices_SortFunc LlaysSF94 3 Try.isAgg45 Try.sizeOf45 smoV (fun _ => rfl) (fun x v hv => by simp [smoV, smV] at hv; rcases hv with rfl | rfl | rfl <;> rfl) cmpM swoM 52 #[] g 0 cap so.toArray W eg (layM g 0 _ W) hHK hglt (by simp; omega)
  rw [List.size_toArray, hsl] at hcon
  refine Calls.mono hcon ?_
  rintro e w' ⟨rfl, d', n, os, hPd, hSd, rfl⟩
  have hd : d'.toList.map (·.1) = l := by
   have hp1 := (perm_of (by rw [List.size_toArray, hsl]; exact hPd)).map (fun x : SmO => x.1)
   rw [show (so.toArray.toList) = so from rfl, hso] at hp1
   have hp2 := hp1.trans hP.symm
   have hs1 := ordM (d := d') (by rw [hPd.1]; simpa [hsl] using hSd)
   refine List.Perm.eq_of_pairwise (le := fun x y => x.a ≤ y.a) (fun a b ha hb h1 h2 => ?_) hs1 (hnd.imp fun h => by omega) hp2
   have ha' := hp2.mem_iff.1 ha
   obtain ⟨i, hi, rfl⟩ := List.getElem_of_mem ha'
   obtain ⟨j, hj, rfl⟩ := List.getElem_of_mem hb
   have hij : i = j := by
    rcases Nat.lt_trichotomy i j with h | h | h
    ·have := List.pairwise_iff_getElem.1 hnd i j hi hj h; omega
    ·exact h
    ·have := List.pairwise_iff_getElem.1 hnd j i hj hi h; omega
   subst hij; rfl
  have hdv : d'.toList.map smoV = l.map smV := by rw [← hd, List.map_map]; rfl
  unfold sortWorldK putRowK
  rw [show d' = d'.toList.toArray from rfl, flatK_smo, hdv]
  have hfl : ((l.map smV).flatten).length = l.length * 3 := by rw [← hdv, flatO_len, ← hd, List.length_map]
  refine ⟨rfl, grownBy_sortedM _, hfl, .inr ⟨g, cap, _, by rw [hlen], hB, heap_sortedM _ hcell, by omega, hcm, by simp [putCells, hcs], ?_⟩⟩
  rw [← hfl]
  exact take_putCellsM cur _ (by rw [hfl]; omega)
end Go.Proofs.Ytiiblflmfadmbaa
