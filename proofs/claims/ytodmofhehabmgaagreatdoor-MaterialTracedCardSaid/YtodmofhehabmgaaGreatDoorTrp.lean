/-
 Transfers: what is wrong with them; what leads to what; how they are written and read. Plain Lean.
-/
import Derived.Test.YtodmofhehabmgaaGreatDoorInf
import Derived.Test.YtodmofhehabmgaaGreatDoorTxt
namespace Go.Proofs.YtodmofhehabmgaaGreatDoor
open Go Go.Ai
set_option linter.unusedSimpArgs false
set_option linter.unusedVariables false
set_option maxHeartbeats 4000000
instance : Inhabited Trf := ⟨⟨emp, emp, 0⟩⟩
theorem trC_eq (x : Trf) : trC x = [.g (.string x.frm), .g (.string x.to), .g (.int .i64 x.amt)] := (rfl)
attribute [go_sem] trC_eq
/-! ### what leads to what -/
/-- What is reached by steps from a place. -/
inductive Reach (st : ByteArray → List ByteArray) (b : ByteArray) : ByteArray → Prop
 | one {y : ByteArray} : y ∈ st b → Reach st b y
 | more {x y : ByteArray} : Reach st b x → y ∈ st x → Reach st b y
theorem Reach.pre {st : ByteArray → List ByteArray} {a b y : ByteArray} (h : a ∈ st b) (h2 : Reach st a y) : Reach st b y := by
 induction h2 with
 | one h3 => exact .more (.one h) h3
 | more _ h3 ih => exact .more ih h3
theorem Reach.last {st : ByteArray → List ByteArray} {b y : ByteArray} (h : Reach st b y) : ∃ x, (x = b ∨ Reach st b x) ∧ y ∈ st x := by
 cases h with
 | one h => exact ⟨b, .inl rfl, h⟩
 | more h1 h2 => exact ⟨_, .inr h1, h2⟩
def inB (p : List ByteArray × List ByteArray) (y : ByteArray) : List ByteArray × List ByteArray := if y ∈ p.1 then p else (p.1 ++ [y], p.2 ++ [y])
theorem inB_fold : ∀ (l : List ByteArray) (p : List ByteArray × List ByteArray), p.1.Nodup → ∃ nw : List ByteArray, l.foldl inB p = (p.1 ++ nw, p.2 ++ nw) ∧ (∀ y ∈ nw, y ∈ l) ∧ (p.1 ++ nw).Nodup ∧ ∀ y ∈ l, y ∈ p.1 ++ nw
 | [], p, h => ⟨[], by simp, by simp, by simpa using h, by simp⟩
 | x :: l, p, h => by
  rw [List.foldl_cons]
  by_cases hx : x ∈ p.1
  ·have e : inB p x = p := by unfold inB; rw [if_pos hx]
   rw [e]
   obtain ⟨nw, h1, h2, h3, h4⟩ := inB_fold l p h
   refine ⟨nw, h1, fun y hy => by simp [h2 y hy], h3, fun y hy => ?_⟩
   rcases List.mem_cons.1 hy with rfl | hy
   ·simp [hx]
   ·exact h4 y hy
  ·have e : inB p x = (p.1 ++ [x], p.2 ++ [x]) := by unfold inB; rw [if_neg hx]
   rw [e]
   obtain ⟨nw, h1, h2, h3, h4⟩ := inB_fold l (p.1 ++ [x], p.2 ++ [x]) (by
    rw [List.nodup_append]
    exact ⟨h, by simp, fun a ha b hb => by simp at hb; subst hb; rintro rfl; exact hx ha⟩)
   refine ⟨x :: nw, by rw [h1]; simp, fun y hy => ?_, by simpa using h3, fun y hy => ?_⟩
   ·rcases List.mem_cons.1 hy with rfl | hy
    ·simp
    ·simp [h2 y hy]
   ·rcases List.mem_cons.1 hy with rfl | hy
    ·simp
    ·have := h4 y hy; simpa using this
/-- What is found so far: out; row: what is to be asked yet. -/
structure Clo (st : ByteArray → List ByteArray) (b : ByteArray) (out row : List ByteArray) : Prop where
 nd : out.Nodup
 re : ∀ s ∈ out, Reach st b s
 ro : ∀ t ∈ row, t = b ∨ t ∈ out
 cl : ∀ z, (z = b ∨ z ∈ out) → z ∉ row → ∀ y ∈ st z, y ∈ out
theorem Clo.fin {st : ByteArray → List ByteArray} {b : ByteArray} {out : List ByteArray} (h : Clo st b out []) (s : ByteArray) : s ∈ out ↔ Reach st b s := by
 refine ⟨h.re s, fun hr => ?_⟩
 induction hr with
 | one hy => exact h.cl b (.inl rfl) (by simp) _ hy
 | more _ hy ih => exact h.cl _ (.inr ih) (by simp) _ hy
/-- One place is asked. -/
theorem Clo.ask {st : ByteArray → List ByteArray} {b x : ByteArray} {out T : List ByteArray} (h : Clo st b out (x :: T)) (N : List ByteArray) (hN : ∀ y ∈ st x, y ∈ N) (hout : ∀ s ∈ out, s ∈ N) :
  ∃ nw, (st x).foldl inB (out, T) = (out ++ nw, T ++ nw) ∧ Clo st b (out ++ nw) (T ++ nw) ∧ ∀ s ∈ out ++ nw, s ∈ N := by
 obtain ⟨nw, h1, h2, h3, h4⟩ := inB_fold (st x) (out, T) h.nd
 have hx : x = b ∨ Reach st b x := (h.ro x (by simp)).imp id (h.re x)
 have hnw : ∀ s ∈ nw, Reach st b s := fun s hs => by
  rcases hx with rfl | hx
  ·exact .one (h2 s hs)
  ·exact .more hx (h2 s hs)
 refine ⟨nw, h1, ⟨h3, fun s hs => ?_, fun t ht => ?_, fun z hz hzt y hy => ?_⟩, fun s hs => ?_⟩
 ·rcases List.mem_append.1 hs with hs | hs
  ·exact h.re s hs
  ·exact hnw s hs
 ·rcases List.mem_append.1 ht with ht | ht
  ·exact (h.ro t (by simp [ht])).imp id (fun h => List.mem_append_left _ h)
  ·exact .inr (List.mem_append_right _ ht)
 ·simp only [List.mem_append, not_or] at hzt
  have hz' : z = b ∨ z ∈ out := hz.imp id fun hz => (List.mem_append.1 hz).resolve_right hzt.2
  by_cases e : z = x
  ·subst e; exact h4 y hy
  ·exact List.mem_append_left _ (h.cl z hz' (by simp [e, hzt.1]) y hy)
 ·rcases List.mem_append.1 hs with hs | hs
  ·exact hout s hs
  ·exact hN s (h2 s hs)
theorem inn_fold (l : List Trf) (p : List ByteArray × List ByteArray) : l.foldl innT p = (l.map (·.frm)).foldl inB p := by
 rw [List.foldl_map]; rfl
/-- The batches from which material went into one at once. -/
def stI (l : List Trf) (x : ByteArray) : List ByteArray := (l.filter fun y => decide (y.to = x)).map (·.frm)
theorem srcF_clo {gk : ByteArray → List Trf} {names : List ByteArray} (b : ByteArray) (hN : ∀ k, ∀ y ∈ (gk k).map (·.frm), y ∈ names) : ∀ (n : Nat) (S T : List ByteArray), Clo (fun k => (gk k).map (·.frm)) b S T → (∀ s ∈ S, s ∈ names) → T.length + names.length ≤ n + S.length → Clo (fun k => (gk k).map (·.frm)) b (srcF gk n S T) []
 | 0, S, T, h, hs, hl => by
  have := nodup_le S names h.nd hs
  have hT : T = [] := List.eq_nil_of_length_eq_zero (by omega)
  subst hT; exact h
 | n + 1, S, [], h, _, _ => h
 | n + 1, S, x :: T, h, hs, hl => by
  obtain ⟨nw, h1, h2, h3⟩ := h.ask names (hN x) hs
  rw [srcF, inn_fold, h1]
  refine srcF_clo b hN n _ _ h2 h3 ?_
  simp only [List.length_cons, List.length_append] at hl ⊢
  omega
theorem clo_beg (st : ByteArray → List ByteArray) (b : ByteArray) : Clo st b [] [b] := ⟨by simp, by simp, by simp, fun z hz hn => by simp at hz hn; exact absurd hz hn⟩
theorem srcL_clo (l : List Trf) (b : ByteArray) : Clo (stI l) b (srcL l b) [] :=
 srcF_clo (gk := fun k => l.filter fun y => decide (y.to = k)) (names := l.map (·.frm)) b (fun k y hy => by
  obtain ⟨t, ht, rfl⟩ := List.mem_map.1 hy
  exact List.mem_map.2 ⟨t, (List.mem_filter.1 ht).1, rfl⟩) _ _ _ (clo_beg _ _) (by simp) (by simp; omega)
theorem srcL_mem (l : List Trf) (b s : ByteArray) : s ∈ srcL l b ↔ Reach (stI l) b s := (srcL_clo l b).fin s
/-! ### the reference's way: row after row -/
def rowF (st : ByteArray → List ByteArray) (row : List ByteArray) (p : List ByteArray × List ByteArray) : List ByteArray × List ByteArray := row.foldl (fun p x => (st x).foldl inB p) p
def lnkF (st : ByteArray → List ByteArray) : Nat → List ByteArray → List ByteArray → List ByteArray
 | 0, out, _ => out
 | _ + 1, out, [] => out
 | n + 1, out, x :: r => lnkF st n (rowF st (x :: r) (out, [])).1 (rowF st (x :: r) (out, [])).2
/-- In a row: those to be asked yet are the rest and the next ones. -/
theorem rowF_clo {st : ByteArray → List ByteArray} {b : ByteArray} (N : List ByteArray) (hN : ∀ k, ∀ y ∈ st k, y ∈ N) : ∀ (r out nx : List ByteArray), Clo st b out (r ++ nx) → (∀ s ∈ out, s ∈ N) →
  ∃ nw, rowF st r (out, nx) = (out ++ nw, nx ++ nw) ∧ Clo st b (out ++ nw) (nx ++ nw) ∧ ∀ s ∈ out ++ nw, s ∈ N
 | [], out, nx, h, hs => ⟨[], by simp [rowF], by simpa using h, by simpa using hs⟩
 | x :: r, out, nx, h, hs => by
  obtain ⟨nw, h1, h2, h3⟩ := h.ask N (hN x) hs
  obtain ⟨nw', k1, _, _⟩ := inB_fold (st x) (out, nx) h.nd
  have e : nw' = nw := by
   obtain ⟨q, q1, _⟩ := inB_fold (st x) (out, nx) h.nd
   have a1 : ((st x).foldl inB (out, nx)).1 = ((st x).foldl inB (out, r ++ nx)).1 := by
    have key : ∀ (l : List ByteArray) (o m m' : List ByteArray), (l.foldl inB (o, m)).1 = (l.foldl inB (o, m')).1 := fun l => by
     induction l with
     | nil => intro o m m'; rfl
     | cons y l ih =>
      intro o m m'
      rw [List.foldl_cons, List.foldl_cons]
      unfold inB
      by_cases hy : y ∈ o
      ·simp only [hy, if_true]; exact ih _ _ _
      ·simp only [hy, if_false]; exact ih _ _ _
    exact key _ _ _ _
   have h1' : (st x).foldl inB (out, r ++ nx) = (out ++ nw, r ++ nx ++ nw) := h1
   rw [k1, h1'] at a1
   exact List.append_cancel_left a1
  subst e
  obtain ⟨nv, v1, v2, v3⟩ := rowF_clo N hN r (out ++ nw') (nx ++ nw') (by rw [← List.append_assoc]; exact h2) h3
  refine ⟨nw' ++ nv, ?_, ?_, ?_⟩
  ·show rowF st r ((st x).foldl inB (out, nx)) = _
   rw [k1]
   show rowF st r (out ++ nw', nx ++ nw') = _
   rw [v1]; simp
  ·simpa using v2
  ·simpa using v3
theorem lnkF_clo {st : ByteArray → List ByteArray} {b : ByteArray} (N : List ByteArray) (hN : ∀ k, ∀ y ∈ st k, y ∈ N) : ∀ (n : Nat) (out row : List ByteArray), Clo st b out row → (∀ s ∈ out, s ∈ N) → (row ≠ [] → N.length + 1 ≤ n + out.length) → Clo st b (lnkF st n out row) []
 | 0, out, row, h, hs, hl => by
  have := nodup_le out N h.nd hs
  have hr : row = [] := Classical.byContradiction fun hne => by have := hl hne; omega
  subst hr; exact h
 | n + 1, out, [], h, _, _ => h
 | n + 1, out, x :: r, h, hs, hl => by
  obtain ⟨nw, h1, h2, h3⟩ := rowF_clo N hN (x :: r) out [] (by simpa using h) hs
  rw [lnkF, h1]
  refine lnkF_clo N hN n _ _ (by simpa using h2) h3 fun hne => ?_
  have h4 := hl (by simp)
  have h5 : 0 < nw.length := List.length_pos_iff.2 (by simpa using hne)
  simp only [List.length_append]; omega
/-- What the reference finds, before it is put in order. -/
def lnkL (l : List Trf) (b : ByteArray) : List ByteArray := lnkF (stI l) (l.length + 1) [] [b]
theorem stI_sub (l : List Trf) (k y : ByteArray) (h : y ∈ stI l k) : y ∈ l.map (·.frm) := by
 obtain ⟨t, ht, rfl⟩ := List.mem_map.1 h
 exact List.mem_map.2 ⟨t, (List.mem_filter.1 ht).1, rfl⟩
theorem lnkL_clo (l : List Trf) (b : ByteArray) : Clo (stI l) b (lnkL l b) [] :=
 lnkF_clo (l.map (·.frm)) (fun k y hy => stI_sub l k y hy) _ _ _ (clo_beg _ _) (by simp) (fun _ => by simp)
theorem lnkL_mem (l : List Trf) (b s : ByteArray) : s ∈ lnkL l b ↔ Reach (stI l) b s := (lnkL_clo l b).fin s
/-! ### what is wrong with transfers -/
def ltT (a b : Trf) : Prop := ltS a.frm b.frm ∨ (a.frm = b.frm ∧ ltS a.to b.to)
instance (a b : Trf) : Decidable (ltT a b) := inferInstanceAs (Decidable (ltS a.frm b.frm ∨ (a.frm = b.frm ∧ ltS a.to b.to)))
def cmpT (a b : Trf) : Int := if cmpS a.frm b.frm ≠ 0 then cmpS a.frm b.frm else cmpS a.to b.to
theorem cmpT_lt {a b : Trf} : cmpT a b < 0 ↔ ltT a b := by
 unfold cmpT ltT
 rcases cmpS_is a.frm b.frm with ⟨h1, h2⟩ | ⟨h1, h2⟩ | ⟨h1, h2⟩
 ·rw [if_neg (by omega)]
  rcases cmpS_is a.to b.to with ⟨h3, h4⟩ | ⟨h3, h4⟩ | ⟨h3, h4⟩
  ·rw [h3, h2, h4]
   exact ⟨fun h => by omega, fun h => by rcases h with h | ⟨_, h⟩ <;> exact absurd h (ltS_irr _)⟩
  ·rw [h3]; exact ⟨fun _ => .inr ⟨h2, h4⟩, fun _ => by omega⟩
  ·rw [h3]
   refine ⟨fun h => by omega, fun h => ?_⟩
   rcases h with h | ⟨_, h⟩
   ·rw [h2] at h; exact absurd h (ltS_irr _)
   ·exact absurd h (ltS_asymm h4)
 ·rw [if_pos (by omega), h1]; exact ⟨fun _ => .inl h2, fun _ => by omega⟩
 ·rw [if_pos (by omega), h1]
  refine ⟨fun h => by omega, fun h => ?_⟩
  rcases h with h | ⟨h, _⟩
  ·exact absurd h (ltS_asymm h2)
  ·rw [h] at h2; exact absurd h2 (ltS_irr _)
theorem cmpT_gt {a b : Trf} : 0 < cmpT a b ↔ ltT b a := by
 unfold cmpT ltT
 rcases cmpS_is a.frm b.frm with ⟨h1, h2⟩ | ⟨h1, h2⟩ | ⟨h1, h2⟩
 ·rw [if_neg (by omega)]
  rcases cmpS_is a.to b.to with ⟨h3, h4⟩ | ⟨h3, h4⟩ | ⟨h3, h4⟩
  ·rw [h3, h2, h4]
   exact ⟨fun h => by omega, fun h => by rcases h with h | ⟨_, h⟩ <;> exact absurd h (ltS_irr _)⟩
  ·rw [h3]
   refine ⟨fun h => by omega, fun h => ?_⟩
   rcases h with h | ⟨_, h⟩
   ·rw [h2] at h; exact absurd h (ltS_irr _)
   ·exact absurd h (ltS_asymm h4)
  ·rw [h3]; exact ⟨fun _ => .inr ⟨h2.symm, h4⟩, fun _ => by omega⟩
 ·rw [if_pos (by omega), h1]
  refine ⟨fun h => by omega, fun h => ?_⟩
  rcases h with h | ⟨h, _⟩
  ·exact absurd h (ltS_asymm h2)
  ·rw [h] at h2; exact absurd h2 (ltS_irr _)
 ·rw [if_pos (by omega), h1]; exact ⟨fun _ => .inl h2, fun _ => by omega⟩
def tfl (x : Trf) : Int := if (keyOk x.frm && keyOk x.to) = false then 5 else if x.frm = x.to then 3 else if x.amt < 1 ∨ 1000000 < x.amt then 1 else 0
def ordT : Option Trf → Trf → Bool
 | none, _ => false
 | some p, x => decide (¬ltT p x)
def tgGo : Option Trf → List Trf → Int
 | _, [] => 0
 | pv, x :: r => if tfl x ≠ 0 then tfl x else if ordT pv x = true then 7 else tgGo (some x) r
/-- What the program says of transfers; what the reference says. -/
def ctF (l : List Trf) : Int := if l.length > 500 then 2 else if tgGo none l ≠ 0 then tgGo none l else if (l.any fun x => decide (x.to ∈ srcL l x.to)) = true then 14 else 0
def tfF (l : List Trf) : Int := if l.length > 500 then 2 else if tgGo none l ≠ 0 then tgGo none l else if (l.any fun x => decide (x.frm ∈ lnkL l x.frm)) = true then 14 else 0
theorem loop_same (l : List Trf) : (l.any fun x => decide (x.to ∈ srcL l x.to)) = l.any fun x => decide (x.frm ∈ lnkL l x.frm) := by
 rw [Bool.eq_iff_iff, List.any_eq_true, List.any_eq_true]
 constructor
 ·rintro ⟨x, hx, h⟩
  have h := (srcL_mem _ _ _).1 (of_decide_eq_true h)
  -- the last step into x.to is made by a transfer whose From is x.to
  obtain ⟨z, hz, hy⟩ := h.last
  obtain ⟨t, ht, hte⟩ := List.mem_map.1 hy
  refine ⟨t, (List.mem_filter.1 ht).1, decide_eq_true ((lnkL_mem _ _ _).2 ?_)⟩
  rw [hte]; exact h
 ·rintro ⟨x, hx, h⟩
  have h := (lnkL_mem _ _ _).1 (of_decide_eq_true h)
  -- the first step from x.frm is made by a transfer whose To is x.frm
  have key : ∀ {b y : ByteArray}, Reach (stI l) b y → ∃ t ∈ l, t.to = b := fun {b y} h => by
   induction h with
   | one hy => obtain ⟨t, ht, _⟩ := List.mem_map.1 hy; exact ⟨t, (List.mem_filter.1 ht).1, of_decide_eq_true (List.mem_filter.1 ht).2⟩
   | more _ _ ih => exact ih
  obtain ⟨t, ht, hte⟩ := key h
  exact ⟨t, ht, decide_eq_true ((srcL_mem _ _ _).2 (by rw [hte]; exact h))⟩
theorem ct_tf (l : List Trf) : ctF l = tfF l := by unfold ctF tfF; rw [loop_same]
/-- Right transfers. -/
structure TrfOk (l : List Trf) : Prop where
 len : l.length ≤ 500
 key : ∀ x ∈ l, keyOk x.frm = true ∧ keyOk x.to = true ∧ 1 ≤ x.amt ∧ x.amt ≤ 1000000
theorem tgGo_ok : ∀ (l : List Trf) (pv : Option Trf), tgGo pv l = 0 → ∀ x ∈ l, tfl x = 0
 | [], _, _, x, hx => by simp at hx
 | y :: r, pv, h, x, hx => by
  rw [tgGo] at h
  by_cases c1 : tfl y ≠ 0
  ·rw [if_pos c1] at h; exact absurd h c1
  ·rw [if_neg c1] at h
   by_cases c2 : ordT pv y = true
   ·rw [if_pos c2] at h; omega
   ·rw [if_neg c2] at h
    rcases List.mem_cons.1 hx with rfl | hx
    ·omega
    ·exact tgGo_ok r _ h x hx
theorem trfOk_of {l : List Trf} (h : ctF l = 0) : TrfOk l := by
 unfold ctF at h
 by_cases c1 : l.length > 500
 ·rw [if_pos c1] at h; omega
 rw [if_neg c1] at h
 by_cases c2 : tgGo none l ≠ 0
 ·rw [if_pos c2] at h; exact absurd h c2
 refine ⟨by omega, fun x hx => ?_⟩
 have h3 := tgGo_ok l none (by omega) x hx
 unfold tfl at h3
 by_cases d1 : (keyOk x.frm && keyOk x.to) = false
 ·rw [if_pos d1] at h3; omega
 rw [if_neg d1] at h3
 simp only [Bool.not_eq_false, Bool.and_eq_true] at d1
 by_cases d2 : x.frm = x.to
 ·rw [if_pos d2] at h3; omega
 rw [if_neg d2] at h3
 by_cases d3 : x.amt < 1 ∨ 1000000 < x.amt
 ·rw [if_pos d3] at h3; omega
 exact ⟨d1.1, d1.2, by omega, by omega⟩
/-! ### written and read -/
def fldT (x : Trf) : List ByteArray := [x.frm, x.to, itB x.amt]
def fldsT (x : Trf) : List (List UInt8) := (fldT x).map (·.data.toList)
def lineT (x : Trf) : List UInt8 := jn 32 (fldsT x)
def textT (l : List Trf) : List UInt8 := (l.map fun x => lineT x ++ [10]).flatten
def wd3 (w : List ByteArray) : Bool := decide (w.length = 3) && w.all fun s => decide (s ≠ emp)
def rdW (w : List ByteArray) : Trf := ⟨w.getD 0 emp, w.getD 1 emp, if noB (w.getD 2 emp) = true then atN (w.getD 2 emp) else 0⟩
def tlL (s : ByteArray) : Option Trf × Bool := if wd3 (wds s) = true then (some (rdW (wds s)), noB ((wds s).getD 2 emp)) else (none, false)
def eachT (ends : Bool) : List ByteArray → Int → List Trf → List Trf × Int × Bool
 | [], _, out => (out, 0, true)
 | s :: r, i, out => if (!ends && decide (r.length = 0)) = true then (out, i, false) else if (tlL s).2 = true then eachT ends r (i + 1) (out ++ (tlL s).1.toList) else (out ++ (tlL s).1.toList, i, false)
def ttT (t : List UInt8) : List Trf × Int × Bool := eachT (linesA t).2 (linesA t).1 0 []
def ttF (t : List UInt8) : List Trf × Int × Int := if t.length > 200000 then ([], 0, 2) else if (ttT t).2.2 = false then ([], (ttT t).2.1, 9) else if ctF (ttT t).1 ≠ 0 then ([], 0, ctF (ttT t).1) else ((ttT t).1, 0, 0)
theorem textT_cons (x : Trf) (l : List Trf) : textT (x :: l) = lineT x ++ [10] ++ textT l := by simp [textT]
structure TrfW (x : Trf) : Prop where
 f : wdOk x.frm ∧ x.frm.size ≤ 40
 t : wdOk x.to ∧ x.to.size ≤ 40
 n : -big15 < x.amt ∧ x.amt < big15
theorem fldT_wd {x : Trf} (h : TrfW x) : ∀ w ∈ fldT x, wdOk w ∧ w.size ≤ 40 := by
 intro w hw
 simp only [fldT, List.mem_cons, List.not_mem_nil, or_false] at hw
 rcases hw with rfl | rfl | rfl
 ·exact h.f
 ·exact h.t
 ·exact ⟨(itB_wd h.n).1, Nat.le_trans (itB_wd h.n).2.2.2 (by omega)⟩
theorem lineT_len {x : Trf} (h : TrfW x) : (lineT x).length ≤ 123 := by
 have h1 := jnT_len 32 40 (fldsT x) fun w hw => by
  obtain ⟨b, hb, rfl⟩ := List.mem_map.1 hw
  rw [← szL]; exact ((fldT_wd h) b hb).2
 rw [show (fldsT x).length = 3 from rfl] at h1
 unfold lineT; omega
theorem textT_len : ∀ (l : List Trf), (∀ x ∈ l, TrfW x) → (textT l).length ≤ 124 * l.length
 | [], _ => by simp [textT]
 | x :: l, h => by
  have h1 := lineT_len (h x (by simp))
  have h2 := textT_len l (fun y hy => h y (by simp [hy]))
  rw [textT_cons]
  simp only [List.length_append, List.length_cons, List.length_nil]
  omega
theorem trfW_of {l : List Trf} (h : TrfOk l) : ∀ x ∈ l, TrfW x := fun x hx => by
 obtain ⟨h1, h2, h3, h4⟩ := h.key x hx
 have k1 := keyOk_wd h1
 have k2 := keyOk_wd h2
 have hb : big15 = 1000000000000000 := rfl
 exact ⟨⟨k1.1, k1.2.2⟩, ⟨k2.1, k2.2.2⟩, by omega, by omega⟩
/-! ### the law -/
end Go.Proofs.YtodmofhehabmgaaGreatDoor
