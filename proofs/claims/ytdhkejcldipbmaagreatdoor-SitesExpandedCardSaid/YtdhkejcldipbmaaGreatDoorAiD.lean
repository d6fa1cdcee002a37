/-
 The abstract layer: a region that draws its order, served by its one walk in the text's order.
-/
import Derived.Test.YtdhkejcldipbmaaGreatDoorAiC
import Derived.Orders
namespace Go.Ai
open Go
set_option linter.unusedSimpArgs false
set_option linter.unusedVariables false
def Opd.slot : Opd → List Nat
 | .t n => [n]
 | .b n => [n]
 | .s n => [n]
 | _ => []
def Ins.reads : Ins → List Nat
 | .mv x => x.slot
 | .box x => x.slot
 | .load _ _ x => x.slot
 | .nilchk x => x.slot
 | .un _ x => x.slot
 | .conv _ x => x.slot
 | .chr x => x.slot
 | .fadr _ x => x.slot
 | .fld _ _ _ x => x.slot
 | .extr x _ => x.slot
 | .len x => x.slot
 | .slen x => x.slot
 | .pick a b c => a.slot ++ (b.slot ++ c.slot)
 | .alloc _ => []
 | .bld _ => []
 | .build _ ps => ps.flatMap fun p => p.2.2.slot
 | .bslice _ _ ps => ps.flatMap Opd.slot
 | .store _ a b => a.slot ++ b.slot
 | .bin _ a b => a.slot ++ b.slot
 | .eqs _ _ _ a b => a.slot ++ b.slot
 | .iadr _ a b => a.slot ++ b.slot
 | .idx a b => a.slot ++ b.slot
 | .mnx _ a b => a.slot ++ b.slot
 | .append _ _ _ a b => a.slot ++ b.slot
 | .mkfn _ cs => cs.flatMap Opd.slot
 | .slc _ x l h => x.slot ++ ((l.map Opd.slot).getD [] ++ (h.map Opd.slot).getD [])
 | .call f xs => f.slot ++ xs.flatMap Opd.slot
 | .callx f xs => f.slot ++ xs.flatMap Opd.slot
 | .callm f xs _ => f.slot ++ xs.flatMap Opd.slot
 | .sfx _ a b => a.slot ++ b.slot
 | .trn _ a b => a.slot ++ b.slot
 | .clr _ _ _ a => a.slot
 | .mkr _ _ _ _ a b => a.slot ++ b.slot
 | .bslr _ _ _ ps => ps.flatMap Opd.slot
 | .mkm _ => []
 | .mup _ a b c => a.slot ++ (b.slot ++ c.slot)
 | .mlk _ _ _ _ a b => a.slot ++ b.slot
 | .mdl _ a b => a.slot ++ b.slot
 | .aadr _ _ a b => a.slot ++ b.slot
 | .ssub x l h => x.slot ++ ((l.map Opd.slot).getD [] ++ (h.map Opd.slot).getD [])
 | .chk x _ => x.slot
/-- It only yields a value. -/
def Ins.vl : Ins → Bool
 | .alloc _ => false
 | .bld _ => false
 | .box _ => false
 | .store _ _ _ => false
 | .append _ _ _ _ _ => false
 | .call _ _ => false
 | .callx _ _ => false
 | .callm _ _ _ => false
 | .trn _ _ _ => false
 | .clr _ _ _ _ => false
 | .mkr _ _ _ _ _ _ => false
 | .bslr _ _ _ _ => false
 | .mkm _ => false
 | .mup _ _ _ _ => false
 | .mdl _ _ _ => false
 | _ => true
/-- It looks at boxes or rows. -/
def Ins.rds : Ins → Bool
 | .bld _ => true
 | .load _ _ _ => true
 | .len _ => true
 | .iadr _ _ _ => true
 | .fadr _ _ => true
 | .nilchk _ => true
 | .append _ _ _ _ _ => true
 | .store _ _ _ => true
 | .alloc _ => true
 | .box _ => true
 | .call _ _ => true
 | .callx _ _ => true
 | .callm _ _ _ => true
 | .slc _ _ (some _) (some _) => true
 | .sfx _ _ _ => true
 | .trn _ _ _ => true
 | .clr _ _ _ _ => true
 | .mkr _ _ _ _ _ _ => true
 | .bslr _ _ _ _ => true
 | .mkm _ => true
 | .mup _ _ _ _ => true
 | .mdl _ _ _ => true
 | .mlk _ _ _ _ _ _ => true
 | _ => false
/-- It changes boxes or rows. -/
def Ins.eff : Ins → Bool
 | .bld _ => true
 | .alloc _ => true
 | .box _ => true
 | .store _ _ _ => true
 | .append _ _ _ _ _ => true
 | .callx _ _ => true
 | .callm _ _ _ => true
 | .trn _ _ _ => true
 | .clr _ _ _ _ => true
 | .mkr _ _ _ _ _ _ => true
 | .bslr _ _ _ _ => true
 | .mkm _ => true
 | .mup _ _ _ _ => true
 | .mdl _ _ _ => true
 | _ => false
def SRes.map (f : AS → AS) : SRes → SRes
 | .ok s => .ok (f s)
 | @SRes.need p d s => @SRes.need p d (f s)
 | .bad => .bad
def rebase (d : Option Nat) (e : Bool) (s' r : AS) : AS := ⟨fun t => if d = some t then r.tm t else s'.tm t, if e then r.bx else s'.bx, if e then r.rw else s'.rw⟩
section
variable {P : Program} {s s' : AS} {d : Option Nat}
theorem ev_agree {x : Opd} (h : ∀ t ∈ x.slot, s'.tm t = s.tm t) : s'.ev x = s.ev x := by
 cases x with
 | t n => exact h n (by simp [Opd.slot])
 | b n => simp only [AS.ev]; rw [h n (by simp [Opd.slot])]
 | s n => simp only [AS.ev]; rw [h n (by simp [Opd.slot])]
 | v x => rfl
 | f n => rfl
theorem foldl_same {α β : Type} {f g : β → α → β} : ∀ {l : List α} {b : β}, (∀ b, ∀ a ∈ l, f b a = g b a) → l.foldl f b = l.foldl g b
 | [], b, _ => rfl
 | a :: l, b, h => by simp only [List.foldl_cons]; rw [h b a (by simp)]; exact foldl_same fun b a ha => h b a (by simp [ha])
theorem mapM_same {α β : Type} {f g : α → Option β} : ∀ {l : List α}, (∀ a ∈ l, f a = g a) → l.mapM f = l.mapM g
 | [], _ => rfl
 | a :: l, h => by simp only [List.mapM_cons]; rw [h a (by simp), mapM_same fun a ha => h a (by simp [ha])]
theorem map_same {α β : Type} {f g : α → β} {l : List α} (h : ∀ a ∈ l, f a = g a) : l.map f = l.map g := List.map_congr_left h
theorem rebase_put {e : Bool} {v : Val} (he : e = false) : rebase d e s' (s.put d v) = s'.put d v := by
 subst he
 cases d with
 | none => simp [rebase, AS.put]
 | some k =>
  simp only [rebase, AS.put, Bool.false_eq_true, if_false, AS.mk.injEq, and_true]
  funext t
  simp only [upd, Option.some.injEq]
  by_cases e : k = t
  ·subst e; simp
  ·rw [if_neg e, if_neg (fun h => e h.symm)]
theorem view_agree (hb : s'.bx = s.bx) (hr : s'.rw = s.rw) : s'.view = s.view := by
 cases s; cases s'; simp only at hb hr; subst hb; subst hr
 funext x
 cases x <;> rfl
theorem binS_agree {op : BinOp} {x y : Val} : binS s' d op x y = (binS s d op x y).map (rebase d false s') := by
 unfold binS
 split
 ·split <;> (try split) <;> simp only [SRes.map, rebase_put]
 ·split <;> simp only [SRes.map, rebase_put]
 ·rfl
theorem loadS_agree {agg : Bool} {n : Nat} {cs : List Cel} : loadS s' d agg n cs = (loadS s d agg n cs).map (rebase d false s') := by
 unfold loadS
 split
 ·simp only [SRes.map, rebase_put]
 ·cases cs <;> simp only [SRes.map, rebase_put]
theorem estep_agree {i : Ins} (hv : i.vl = true) (ht : ∀ t ∈ i.reads, s'.tm t = s.tm t) (hb : i.rds = true → s'.bx = s.bx ∧ s'.rw = s.rw) : estep d i s' = (estep d i s).map (rebase d false s') := by
 cases i with
 | mv x => simp only [estep, ev_agree (x := x) ht, SRes.map, rebase_put]
 | pick a b c => rfl
 | alloc z => cases hv
 | bld z => cases hv
 | box x => cases hv
 | store n a b => cases hv
 | append E z b x y => cases hv
 | call f xs => cases hv
 | callx f xs => cases hv
 | callm f xs m => cases hv
 | trn z x y => cases hv
 | clr E z zero x => cases hv
 | mkr E z b zero n c => cases hv
 | bslr E z n ps => cases hv
 | mkm kc => cases hv
 | mup kc x y z => cases hv
 | mdl kc x y => cases hv
 | mlk kc zero ok zn x y =>
  have h1 := ev_agree (x := x) (s := s) (s' := s') fun t h => ht t (by simp [Ins.reads, h])
  have h2 := ev_agree (x := y) (s := s) (s' := s') fun t h => ht t (by simp [Ins.reads, h])
  obtain ⟨h3, h4⟩ := hb rfl
  simp only [estep, h1, h2, h3, h4]
  split
  ·split
   ·split <;> simp only [SRes.map, rebase_put]
   ·rfl
  ·split <;> simp only [SRes.map, rebase_put]
  ·rfl
 | sfx z x y =>
  have h1 := ev_agree (x := x) (s := s) (s' := s') fun t h => ht t (by simp [Ins.reads, h])
  have h2 := ev_agree (x := y) (s := s) (s' := s') fun t h => ht t (by simp [Ins.reads, h])
  obtain ⟨h3, h4⟩ := hb rfl
  simp only [estep, h1, h2, h3, h4]
  split
  ·split
   ·split <;> simp only [SRes.map, rebase_put]
   ·rfl
  ·rfl
 | build zero ps =>
  have h1 : ∀ p ∈ ps, s'.ev p.2.2 = s.ev p.2.2 := fun p hp => ev_agree fun t h => ht t (List.mem_flatMap.2 ⟨p, hp, h⟩)
  simp only [estep]
  rw [foldl_same (fun b a ha => by rw [h1 a ha])]
  generalize ps.foldl _ _ = r
  cases r <;> simp only [SRes.map, rebase_put]
 | bslice z n ps =>
  have h1 : ∀ p ∈ ps, s'.ev p = s.ev p := fun p hp => ev_agree fun t h => ht t (List.mem_flatMap.2 ⟨p, hp, h⟩)
  simp only [estep]
  rw [mapM_same (fun a ha => by rw [h1 a ha])]
  generalize (ps.mapM fun p => vcells (s.ev p)) = r
  cases r with
  | none => rfl
  | some es => simp only []; split <;> simp only [SRes.map, rebase_put]
 | load a n x =>
  have h1 := ev_agree (x := x) ht
  obtain ⟨h2, h3⟩ := hb rfl
  simp only [estep, h1, h2, h3]
  split
  ·split
   ·exact loadS_agree
   ·rfl
  ·exact loadS_agree
  ·split
   ·split
    ·split
     ·exact loadS_agree
     ·rfl
    ·rfl
   ·rfl
  ·rfl
 | nilchk x =>
  have h1 := ev_agree (x := x) ht
  obtain ⟨h2, h3⟩ := hb rfl
  simp only [estep, h1, h2, h3]
  split
  ·simp only [SRes.map, rebase_put]
  ·simp only [SRes.map, rebase_put]
  ·split
   ·split <;> simp only [SRes.map, rebase_put]
   ·rfl
  ·rfl
 | bin op x y =>
  have h1 := ev_agree (x := x) (s := s) (s' := s') fun t h => ht t (by simp [Ins.reads, h])
  have h2 := ev_agree (x := y) (s := s) (s' := s') fun t h => ht t (by simp [Ins.reads, h])
  simp only [estep, h1, h2]
  exact binS_agree
 | eqs b g ks x y =>
  have h1 := ev_agree (x := x) (s := s) (s' := s') fun t h => ht t (by simp [Ins.reads, h])
  have h2 := ev_agree (x := y) (s := s) (s' := s') fun t h => ht t (by simp [Ins.reads, h])
  simp only [estep, h1, h2]
  split <;> simp only [SRes.map, rebase_put]
 | un op x =>
  have h1 := ev_agree (x := x) ht
  simp only [estep, h1]
  split <;> simp only [SRes.map, rebase_put]
 | chr x =>
  have h1 := ev_agree (x := x) ht
  simp only [estep, h1]
  split <;> simp only [SRes.map, rebase_put]
 | conv k x =>
  have h1 := ev_agree (x := x) ht
  simp only [estep, h1]
  split <;> simp only [SRes.map, rebase_put]
 | mkfn f cs =>
  have h1 : ∀ p ∈ cs, s'.ev p = s.ev p := fun p hp => ev_agree fun t h => ht t (List.mem_flatMap.2 ⟨p, hp, h⟩)
  simp only [estep]
  rw [mapM_same (fun a ha => by rw [h1 a ha])]
  generalize (cs.mapM fun p => match s.ev p with | .one (.bx k off) => some (Cel.bx k off) | .one (.g v) => some (Cel.g v) | .one (.ep cs) => some (Cel.ep cs) | _ => none) = r
  cases r <;> simp only [SRes.map, rebase_put]
 | slc z x lo hi =>
  have h1 := ev_agree (x := x) (s := s) (s' := s') fun t h => ht t (by simp [Ins.reads, h])
  have h2 : lo.map s'.ev = lo.map s.ev := by
   cases lo with
   | none => rfl
   | some l => simp only [Option.map_some]; rw [ev_agree (x := l) (s := s) (s' := s') fun t h => ht t (by simp [Ins.reads, h])]
  have h3 : hi.map s'.ev = hi.map s.ev := by
   cases hi with
   | none => rfl
   | some l => simp only [Option.map_some]; rw [ev_agree (x := l) (s := s) (s' := s') fun t h => ht t (by simp [Ins.reads, h])]
  cases lo with
  | none =>
   simp only [estep, h1, h2, h3]
   simp only [Option.map_none]
   split <;> (try split) <;> first | contradiction | simp only [SRes.map, rebase_put]
  | some l =>
   cases hi with
   | none =>
    simp only [estep, h1, h2, h3]
    simp only [Option.map_none, Option.map_some]
    split <;> (try split) <;> first | contradiction | simp only [SRes.map, rebase_put]
   | some m =>
    obtain ⟨h4, h5⟩ := hb rfl
    simp only [estep, h1, h2, h3, h5]
    split <;> (try split) <;> (try split) <;> simp only [SRes.map, rebase_put]
 | ssub x lo hi =>
  have h1 := ev_agree (x := x) (s := s) (s' := s') fun t h => ht t (by simp [Ins.reads, h])
  have h2 : lo.map s'.ev = lo.map s.ev := by
   cases lo with
   | none => rfl
   | some l => simp only [Option.map_some]; rw [ev_agree (x := l) (s := s) (s' := s') fun t h => ht t (by simp [Ins.reads, h])]
  have h3 : hi.map s'.ev = hi.map s.ev := by
   cases hi with
   | none => rfl
   | some l => simp only [Option.map_some]; rw [ev_agree (x := l) (s := s) (s' := s') fun t h => ht t (by simp [Ins.reads, h])]
  simp only [estep, h1, h2, h3]
  split <;> simp only [SRes.map, rebase_put]
 | aadr n z x i =>
  have h1 := ev_agree (x := x) (s := s) (s' := s') fun t h => ht t (by simp [Ins.reads, h])
  have h2 := ev_agree (x := i) (s := s) (s' := s') fun t h => ht t (by simp [Ins.reads, h])
  simp only [estep, h1, h2]
  split <;> simp only [SRes.map, rebase_put]
 | fadr o x =>
  have h1 := ev_agree (x := x) ht
  obtain ⟨h2, h3⟩ := hb rfl
  simp only [estep, h1, h2, h3]
  split
  ·simp only [SRes.map, rebase_put]
  ·simp only [SRes.map, rebase_put]
  ·split
   ·split <;> simp only [SRes.map, rebase_put]
   ·rfl
  ·rfl
 | fld o a n x =>
  have h1 := ev_agree (x := x) ht
  simp only [estep, h1]
  split
  ·split
   ·simp only [SRes.map, rebase_put]
   ·split <;> simp only [SRes.map, rebase_put]
  ·rfl
 | iadr z x i =>
  have h1 := ev_agree (x := x) (s := s) (s' := s') fun t h => ht t (by simp [Ins.reads, h])
  have h2 := ev_agree (x := i) (s := s) (s' := s') fun t h => ht t (by simp [Ins.reads, h])
  obtain ⟨h3, h4⟩ := hb rfl
  simp only [estep, h1, h2, h3, h4]
  split
  ·split <;> simp only [SRes.map, rebase_put]
  ·split
   ·split <;> simp only [SRes.map, rebase_put]
   ·rfl
  ·split
   ·split <;> simp only [SRes.map, rebase_put]
   ·rfl
  ·rfl
 | idx x i =>
  have h1 := ev_agree (x := x) (s := s) (s' := s') fun t h => ht t (by simp [Ins.reads, h])
  have h2 := ev_agree (x := i) (s := s) (s' := s') fun t h => ht t (by simp [Ins.reads, h])
  simp only [estep, h1, h2]
  split <;> simp only [SRes.map, rebase_put]
 | extr x n =>
  have h1 := ev_agree (x := x) ht
  simp only [estep, h1]
  split
  ·split <;> simp only [SRes.map, rebase_put]
  ·rfl
 | chk x key =>
  have h1 := ev_agree (x := x) ht
  cases key with
  | none => simp only [estep, h1]; split <;> simp only [SRes.map, rebase_put]
  | some k => simp only [estep, h1]; split <;> (try split) <;> simp only [SRes.map, rebase_put]
 | len x =>
  have h1 := ev_agree (x := x) ht
  obtain ⟨h2, h3⟩ := hb rfl
  simp only [estep, h1, h2, h3]
  split
  ·simp only [SRes.map, rebase_put]
  ·simp only [SRes.map, rebase_put]
  ·split
   ·split <;> simp only [SRes.map, rebase_put]
   ·rfl
  ·split
   ·split <;> simp only [SRes.map, rebase_put]
   ·rfl
  ·rfl
 | slen x =>
  have h1 := ev_agree (x := x) ht
  simp only [estep, h1]
  split <;> simp only [SRes.map, rebase_put]
 | mnx b x y =>
  have h1 := ev_agree (x := x) (s := s) (s' := s') fun t h => ht t (by simp [Ins.reads, h])
  have h2 := ev_agree (x := y) (s := s) (s' := s') fun t h => ht t (by simp [Ins.reads, h])
  simp only [estep, h1, h2]
  split <;> simp only [SRes.map, rebase_put]
theorem map_ok {r : SRes} {f : AS → AS} {T : AS → Prop} : SGood (r.map f) T ↔ SGood r (fun s => T (f s)) := by
 cases r <;> exact Iff.rfl
theorem estep_val {i : Ins} (hv : i.vl = true) : estep d i s = (estep d i s).map (rebase d false s) := estep_agree hv (fun _ _ => rfl) (fun _ => ⟨rfl, rfl⟩)
theorem put_comm {k : Nat} {v u : Val} (h : d ≠ some k) : (s.put (some k) v).put d u = (s.put d u).put (some k) v := by
 cases d with
 | none => rfl
 | some j =>
  have hj : j ≠ k := fun e => h (by rw [e])
  simp only [AS.put, AS.mk.injEq, and_true]
  funext t
  simp only [upd]
  by_cases e : t = j
  ·rw [if_pos e, if_neg (by rw [e]; exact hj), if_pos e]
  ·simp only [if_neg e]
theorem ev_put {k : Nat} {v : Val} {x : Opd} (h : k ∉ x.slot) : (s.put (some k) v).ev x = s.ev x := ev_agree fun t ht => upd_ne s.tm v fun e => h (by subst e; exact ht)
theorem put_bx {k : Nat} {v : Val} : (s.put (some k) v).bx = s.bx := rfl
theorem put_rw {k : Nat} {v : Val} : (s.put (some k) v).rw = s.rw := rfl
theorem src_put {k z : Nat} {v : Val} : (s.put (some k) v).src z = s.src z := by
 funext x; rfl
theorem view_put {k : Nat} {v : Val} : (s.put (some k) v).view = s.view := view_agree rfl rfl
theorem upd_comm {α : Type} {f : Nat → α} {k j : Nat} {v u : α} (h : j ≠ k) : upd (upd f k v) j u = upd (upd f j u) k v := by
 funext t
 simp only [upd]
 by_cases e : t = j
 ·rw [if_pos e, if_neg (by rw [e]; exact h), if_pos e]
 ·simp only [if_neg e]
theorem mvR_put {d : Option Nat} {v : Val} {cs : List Cel} : (s.put d v).mvR cs = s.mvR cs := by cases d <;> rfl
theorem mvS_put {d : Option Nat} {v : Val} {j : Nat} {q : Row} : (s.put d v).mvS j q = (s.mvS j q).put d v := by cases d <;> rfl
theorem stRow_put {k n k' ver i off : Nat} {v : Val} {news : List Cel} {r : Row} (hd : d ≠ some k) : stRow (s.put (some k) v) d n k' ver i off news r = (stRow s d n k' ver i off news r).map (fun x => x.put (some k) v) := by
 have hput : ∀ (rw : Nat → Option Row), ({ s.put (some k) v with rw := rw } : AS).put d .any = (({ s with rw := rw } : AS).put d .any).put (some k) v := fun rw => put_comm (s := { s with rw := rw }) hd
 unfold stRow
 split
 ·split
  ·simp only [SRes.map, SRes.need.injEq, true_and, heq_eq_eq, put_rw]; exact hput _
  ·rfl
 ·rfl
theorem bslRow_put {k j z len n : Nat} {E : TypeId} {v : Val} {es : List (List Cel)} (hj : j ≠ k) : bslRow (s.put (some k) v) j E z len n es = (bslRow s j E z len n es).map (fun x => x.put (some k) v) := by
 unfold bslRow
 split
 ·simp only [SRes.map, AS.put, upd_comm hj]
 ·rfl
theorem estep_put {i : Ins} {k : Nat} {v : Val} (hk : k ∉ i.reads) (hd : d ≠ some k) : estep d i (s.put (some k) v) = (estep d i s).map (·.put (some k) v) := by
 by_cases hv : i.vl = true
 ·rw [estep_agree hv (s := s) (s' := s.put (some k) v) (fun t ht => upd_ne s.tm v (k := k) (j := t) fun e => hk (by subst e; exact ht)) (fun _ => ⟨rfl, rfl⟩)]
  have h1 : estep d i s = _ := estep_val (s := s) (d := d) hv
  have key : ∀ r, rebase d false (s.put (some k) v) (rebase d false s r) = (rebase d false s r).put (some k) v := by
   intro r
   simp only [rebase, AS.put, Bool.false_eq_true, if_false, AS.mk.injEq, and_true]
   funext t
   simp only [upd]
   by_cases e : d = some t
   ·have : t ≠ k := fun e' => hd (by rw [e, e'])
    rw [if_pos e, if_pos e, if_neg this]
   ·rw [if_neg e, if_neg e]
  revert h1
  generalize estep d i s = r
  intro h1
  cases r with
  | bad => rfl
  | ok r => simp only [SRes.map, SRes.ok.injEq] at h1 ⊢; rw [h1]; exact key _
  | need p r => simp only [SRes.map, SRes.need.injEq, true_and, heq_eq_eq] at h1 ⊢; rw [h1]; exact key _
 ·cases i with
  | alloc z =>
   simp only [estep, put_bx]
   cases d with
   | none => rfl
   | some j =>
    have hj : j ≠ k := fun e => hd (by rw [e])
    simp only []
    split
    ·split
     ·rfl
     ·simp only [SRes.map, AS.put, upd_comm hj]
    ·rfl
  | box x =>
   simp only [estep, put_bx, ev_put (x := x) hk]
   cases d with
   | none => rfl
   | some j =>
    have hj : j ≠ k := fun e => hd (by rw [e])
    cases vcells (s.ev x) with
    | none => rfl
    | some cs =>
     simp only []
     split
     ·split
      ·rfl
      ·simp only [SRes.map, AS.put, upd_comm hj]
     ·rfl
  | store n a b =>
   have ha : k ∉ a.slot := fun h => hk (by simp [Ins.reads, h])
   have hb : k ∉ b.slot := fun h => hk (by simp [Ins.reads, h])
   have hput : ∀ (bx : Nat → Option (List Cel)) (rw : Nat → Option Row), ({ s.put (some k) v with bx := bx, rw := rw } : AS).put d .any = (({ s with bx := bx, rw := rw } : AS).put d .any).put (some k) v := fun bx rw => put_comm (s := { s with bx := bx, rw := rw }) hd
   simp only [estep, put_bx, put_rw, ev_put ha, ev_put hb]
   split
   ·split
    ·split
     ·simp only [SRes.map, SRes.need.injEq, true_and, heq_eq_eq]; exact hput _ _
     ·rfl
    ·rfl
   ·split
    ·split
     ·split
      ·simp only [SRes.map, SRes.need.injEq, true_and, heq_eq_eq]; exact hput _ _
      ·rfl
     ·rw [mvR_put]
      split
      ·split
       ·rw [mvS_put]; exact stRow_put hd
       ·rfl
      ·rfl
    ·rfl
   ·rfl
  | append E z b x y =>
   have ha : k ∉ x.slot := fun h => hk (by simp [Ins.reads, h])
   have hb : k ∉ y.slot := fun h => hk (by simp [Ins.reads, h])
   have hput : ∀ (bx : Nat → Option (List Cel)) (rw : Nat → Option Row) (u : Val), ({ s.put (some k) v with bx := bx, rw := rw } : AS).put d u = (({ s with bx := bx, rw := rw } : AS).put d u).put (some k) v := fun bx rw u => put_comm (s := { s with bx := bx, rw := rw }) hd
   simp only [estep, put_bx, put_rw, ev_put ha, ev_put hb, src_put]
   split
   ·split
    ·split
     ·simp only [SRes.map, SRes.need.injEq, true_and, heq_eq_eq]; exact hput _ _ _
     ·rfl
    ·rfl
   ·rfl
  | call f xs => rfl
  | callx f xs => rfl
  | callm f xs m => rfl
  | trn z x y =>
   have ha : k ∉ x.slot := fun h => hk (by simp [Ins.reads, h])
   have hb : k ∉ y.slot := fun h => hk (by simp [Ins.reads, h])
   have hput : ∀ (bx : Nat → Option (List Cel)) (rw : Nat → Option Row) (u : Val), ({ s.put (some k) v with bx := bx, rw := rw } : AS).put d u = (({ s with bx := bx, rw := rw } : AS).put d u).put (some k) v := fun bx rw u => put_comm (s := { s with bx := bx, rw := rw }) hd
   simp only [estep, put_bx, put_rw, ev_put ha, ev_put hb]
   split
   ·split
    ·split
     ·simp only [SRes.map, SRes.need.injEq, true_and, heq_eq_eq]; exact hput _ _ _
     ·rfl
    ·rfl
   ·rfl
  | clr E z zero x =>
   have ha : k ∉ x.slot := fun h => hk h
   have hput : ∀ (bx : Nat → Option (List Cel)) (rw : Nat → Option Row) (u : Val), ({ s.put (some k) v with bx := bx, rw := rw } : AS).put d u = (({ s with bx := bx, rw := rw } : AS).put d u).put (some k) v := fun bx rw u => put_comm (s := { s with bx := bx, rw := rw }) hd
   simp only [estep, put_bx, put_rw, ev_put ha]
   split
   ·split
    ·split
     ·simp only [SRes.map, SRes.ok.injEq]; exact hput _ _ _
     ·rfl
    ·rfl
   ·rfl
  | bslr E z n ps =>
   have h1 : ∀ p ∈ ps, (s.put (some k) v).ev p = s.ev p := fun p hp => ev_put fun h => hk (List.mem_flatMap.2 ⟨p, hp, h⟩)
   simp only [estep, put_bx, put_rw]
   rw [mapM_same (fun a ha => by rw [h1 a ha])]
   generalize (ps.mapM fun p => vcells (s.ev p)) = r
   cases d with
   | none => rfl
   | some j =>
    have hj : j ≠ k := fun e => hd (by rw [e])
    cases r with
    | none => rfl
    | some es =>
     simp only []
     split
     ·split
      ·simp only [SRes.map, AS.put, upd_comm hj]
      ·rw [mvR_put]
       split
       ·split
        ·rw [mvS_put]; exact bslRow_put hj
        ·rfl
       ·rfl
     ·rfl
  | bld z =>
   simp only [estep, put_bx]
   cases d with
   | none => rfl
   | some j =>
    have hj : j ≠ k := fun e => hd (by rw [e])
    simp only []
    split
    ·split
     ·simp only [SRes.map, AS.put, upd_comm hj]
     ·rfl
    ·rfl
  | mkm kc =>
   simp only [estep, put_bx, put_rw]
   cases d with
   | none => rfl
   | some j =>
    have hj : j ≠ k := fun e => hd (by rw [e])
    simp only []
    split
    ·split
     ·simp only [SRes.map, AS.put, upd_comm hj]
     ·rfl
    ·rfl
  | mdl kc x y =>
   have ha : k ∉ x.slot := fun h => hk (by simp [Ins.reads, h])
   have hb : k ∉ y.slot := fun h => hk (by simp [Ins.reads, h])
   have hput : ∀ (bx : Nat → Option (List Cel)) (rw : Nat → Option Row) (u : Val), ({ s.put (some k) v with bx := bx, rw := rw } : AS).put d u = (({ s with bx := bx, rw := rw } : AS).put d u).put (some k) v := fun bx rw u => put_comm (s := { s with bx := bx, rw := rw }) hd
   simp only [estep, put_bx, put_rw, ev_put ha, ev_put hb]
   split
   ·split
    ·split
     ·simp only [SRes.map, SRes.ok.injEq]; exact hput _ _ _
     ·rfl
    ·rfl
   ·rfl
  | mup kc x y z =>
   have ha : k ∉ x.slot := fun h => hk (by simp [Ins.reads, h])
   have hb : k ∉ y.slot := fun h => hk (by simp [Ins.reads, h])
   have hc : k ∉ z.slot := fun h => hk (by simp [Ins.reads, h])
   have hput : ∀ (bx : Nat → Option (List Cel)) (rw : Nat → Option Row) (u : Val), ({ s.put (some k) v with bx := bx, rw := rw } : AS).put d u = (({ s with bx := bx, rw := rw } : AS).put d u).put (some k) v := fun bx rw u => put_comm (s := { s with bx := bx, rw := rw }) hd
   simp only [estep, put_bx, put_rw, ev_put ha, ev_put hb, ev_put hc]
   split
   ·split
    ·split
     ·simp only [SRes.map, SRes.ok.injEq]; exact hput _ _ _
     ·rfl
    ·rfl
   ·rfl
  | mkr E z b zero n c =>
   have ha : k ∉ n.slot := fun h => hk (by simp [Ins.reads, h])
   have hb : k ∉ c.slot := fun h => hk (by simp [Ins.reads, h])
   simp only [estep, put_bx, put_rw, ev_put ha, ev_put hb]
   cases d with
   | none => rfl
   | some j =>
    have hj : j ≠ k := fun e => hd (by rw [e])
    split
    ·split
     ·split
      ·rename_i e _ _ _ _ _
       injection e with e
       subst e
       simp only [SRes.map, AS.put, upd_comm hj]
      ·rfl
     ·rfl
    ·rfl
  | _ => exact absurd rfl hv
theorem evs_put {k : Nat} {v : Val} {xs : List Opd} (h : k ∉ xs.flatMap Opd.slot) : xs.map (s.put (some k) v).ev = xs.map s.ev :=
 map_same fun x hx => ev_put fun hk => h (List.mem_flatMap.2 ⟨x, hx, hk⟩)
theorem istep_put {i : GI} {k : Nat} {v : Val} (hk : k ∉ i.ins.reads) (hd : i.dst ≠ some k) {T : AS → Prop} : istep P (s.put (some k) v) i T ↔ istep P s i (fun s1 => T (s1.put (some k) v)) := by
 obtain ⟨d, gd, ins⟩ := i
 simp only at hk hd
 have gen : SGood (estep d ins (s.put (some k) v)) T ↔ SGood (estep d ins s) (fun s1 => T (s1.put (some k) v)) := by
  rw [estep_put hk hd, map_ok]
 cases ins with
 | pick c x y =>
  have h1 : k ∉ c.slot := fun h => hk (by simp [Ins.reads, h])
  have h2 : k ∉ x.slot := fun h => hk (by simp [Ins.reads, h])
  have h3 : k ∉ y.slot := fun h => hk (by simp [Ins.reads, h])
  simp only [istep, ev_put h1, ev_put h2, ev_put h3]
  split
  ·split <;> rw [put_comm hd]
  ·exact Iff.rfl
 | call f xs =>
  have h1 : k ∉ f.slot := fun h => hk (by simp [Ins.reads, h])
  have h2 : k ∉ xs.flatMap Opd.slot := fun h => hk (List.mem_append_right _ h)
  simp only [istep, ev_put h1, evs_put h2]
  unfold callP
  split
  ·rw [view_put]
   simp only [put_comm hd]
  ·exact Iff.rfl
 | callx f xs =>
  have h1 : k ∉ f.slot := fun h => hk (by simp [Ins.reads, h])
  have h2 : k ∉ xs.flatMap Opd.slot := fun h => hk (List.mem_append_right _ h)
  have hput : ∀ (bx : Nat → Option (List Cel)) (u : Val), ({ s.put (some k) v with bx := bx } : AS).put d u = (({ s with bx := bx } : AS).put d u).put (some k) v := fun bx u => put_comm (s := { s with bx := bx }) hd
  simp only [istep, ev_put h1, evs_put h2]
  unfold callXS
  split
  ·unfold callX
   simp only [put_bx]
   split
   ·have hvc : (s.put (some k) v).viewC = s.viewC := by funext c; cases c <;> rfl
    rw [view_put, hvc]
    simp only [hput]
   ·exact Iff.rfl
  ·exact Iff.rfl
 | callm f xs m =>
  have h1 : k ∉ f.slot := fun h => hk (by simp [Ins.reads, h])
  have h2 : k ∉ xs.flatMap Opd.slot := fun h => hk (List.mem_append_right _ h)
  simp only [istep, ev_put h1, evs_put h2]
  unfold callM
  split
  ·have e1 : okM (s.put (some k) v) m = okM s m := rfl
   have e2 : (s.put (some k) v).hp m = s.hp m := by
    have : (s.put (some k) v).passC m = s.passC m := by funext c; cases c <;> rfl
    simp only [AS.hp, this, put_bx, put_rw]
   have e3 : (s.put (some k) v).passV m = s.passV m := by
    have : (s.put (some k) v).passC m = s.passC m := by funext c; cases c <;> rfl
    funext x; cases x <;> simp only [AS.passV, this]
   have e4 : ∀ H r, ((s.put (some k) v).after m H).put d ((s.put (some k) v).backV m r) = (((s.after m H).put d (s.backV m r)).put (some k) v) := fun H r => by
    have hb : (s.put (some k) v).backC m = s.backC m := by funext c; cases c <;> rfl
    have hb2 : (s.put (some k) v).backV m = s.backV m := by funext x; cases x <;> simp only [AS.backV, hb]
    have h3 : (s.put (some k) v).after m H = (s.after m H).put (some k) v := by
     have p1 : ∀ l b, putB (s.put (some k) v) m l b = putB s m l b := by
      intro l; induction l with
      | nil => intro b; rfl
      | cons p l ih => intro b; obtain ⟨j, cs⟩ := p; simp only [putB, ih, hb]
     have p2 : ∀ l b, putR (s.put (some k) v) m l b = putR s m l b := by
      intro l; induction l with
      | nil => intro b; rfl
      | cons p l ih => intro b; obtain ⟨j, cs⟩ := p; simp only [putR, ih]; rfl
     simp only [AS.after, p1, p2, put_bx, put_rw]; rfl
    rw [hb2, h3, put_comm hd]
   rw [e1, e2, e3]
   simp only [e4]
  ·exact Iff.rfl
 | _ => exact gen
theorem fix_id {g : Nat} {b : Bool} (h : s.tm g = .one (.g (.bool b))) : s.fix g b = s := by
 have : upd s.tm g (bv b) = s.tm := by
  funext t
  by_cases e : t = g
  ·rw [e, upd_same, h]
  ·rw [upd_ne _ _ e]
 unfold AS.fix
 rw [this]
theorem gstep_iff {i : GI} {T : AS → Prop} : gstep P s i T ↔ (i.gd = none ∧ istep P s i T) ∨ ∃ g want b, i.gd = some (g, want) ∧ gval (s.tm g) = some b ∧ ((b = some want ∧ istep P s i T) ∨ (b ≠ some want ∧ T (s.put i.dst (.tu [])))) := by
 unfold gstep
 cases hg : i.gd with
 | none => simp
 | some p =>
  obtain ⟨g, want⟩ := p
  simp only [reduceCtorEq, false_and, false_or]
  constructor
  ·intro h
   split at h
   ·rename_i b hb
    refine ⟨g, want, some b, rfl, by rw [hb]; rfl, ?_⟩
    have e1 := fix_id (s := s) (g := g) (b := b) hb
    cases b <;> cases want <;> simp only [] at h <;> rw [e1] at h <;> first | exact .inl ⟨rfl, h⟩ | exact .inr ⟨by simp, h⟩
   ·rename_i hb
    exact ⟨g, want, none, rfl, by rw [hb]; rfl, .inr ⟨by simp, h⟩⟩
   ·exact h.elim
  ·rintro ⟨g', want', b, he, hb, h⟩
   simp only [Option.some.injEq, Prod.mk.injEq] at he
   obtain ⟨rfl, rfl⟩ := he
   unfold gval at hb
   split at hb
   ·rename_i b' hb'
    simp only [Option.some.injEq] at hb; subst hb
    have e1 := fix_id (s := s) (g := g) (b := b') hb'
    cases b' <;> cases want <;> simp only [] <;> rw [e1] <;> simp at h <;> exact h
   ·rename_i hb'
    simp only [Option.some.injEq] at hb; subst hb
    rcases h with ⟨h, _⟩ | ⟨_, h⟩
    ·cases h
    ·exact h
   ·cases hb
def GI.reads (g : GI) : List Nat := g.ins.reads ++ (match g.gd with | some (k, _) => [k] | none => [])
theorem gstep_put {i : GI} {k : Nat} {v : Val} (hk : k ∉ i.reads) (hd : i.dst ≠ some k) {T : AS → Prop} : gstep P (s.put (some k) v) i T ↔ gstep P s i (fun s1 => T (s1.put (some k) v)) := by
 have h1 : k ∉ i.ins.reads := fun h => hk (List.mem_append_left _ h)
 rw [gstep_iff, gstep_iff, istep_put h1 hd]
 refine or_congr Iff.rfl ?_
 constructor
 ·rintro ⟨g, want, b, hg, hb, h⟩
  have hne : g ≠ k := fun e => hk (by simp [GI.reads, hg, e])
  refine ⟨g, want, b, hg, ?_, ?_⟩
  ·rw [← hb]; exact congrArg gval (upd_ne _ _ hne).symm
  ·rwa [put_comm hd] at h
 ·rintro ⟨g, want, b, hg, hb, h⟩
  have hne : g ≠ k := fun e => hk (by simp [GI.reads, hg, e])
  refine ⟨g, want, b, hg, ?_, ?_⟩
  ·rw [← hb]; exact congrArg gval (upd_ne _ _ hne)
  ·rwa [put_comm hd]
/-- Which part of boxes and rows: none of it; all of it (some none); one box, perhaps with all rows. -/
abbrev Part := Option (Option (Nat × Bool))
def Part.apart : Part → Part → Bool
 | none, _ => true
 | _, none => true
 | some (some a), some (some b) => decide (a.1 ≠ b.1) && (!a.2 || decide (b.1 ≠ RWK))
 | _, _ => false
/-- What stays where this part is written. -/
def Stay (w : Part) (s s1 : AS) : Prop :=
 match w with
 | none => s1.bx = s.bx ∧ s1.rw = s.rw
 | some none => True
 | some (some k) => (∀ j, j ≠ k.1 → s1.bx j = s.bx j) ∧ (k.1 ≠ RWK → k.2 = false → s1.rw = s.rw)
def Alike (r : Part) (s s1 : AS) : Prop :=
 match r with
 | none => True
 | some none => s1.bx = s.bx ∧ s1.rw = s.rw
 | some (some k) => s1.bx k.1 = s.bx k.1 ∧ (k.1 = RWK → s1.rw = s.rw)
theorem Stay.alike {w r : Part} {s1 : AS} (h : Stay w s s1) (ha : w.apart r = true) : Alike r s s1 := by
 cases r with
 | none => trivial
 | some r =>
  cases w with
  | none => cases r with
   | none => exact h
   | some k => exact ⟨congrFun h.1 k.1, fun _ => h.2⟩
  | some w =>
   cases w with
   | none => cases r <;> cases ha
   | some a => cases r with
    | none => cases ha
    | some b =>
     simp only [Part.apart, Bool.and_eq_true, decide_eq_true_eq, Bool.or_eq_true, Bool.not_eq_true'] at ha
     obtain ⟨hab, hr⟩ := ha
     exact ⟨h.1 b.1 (fun e => hab e.symm), fun e => h.2 (fun e2 => hab (e2.trans e.symm)) (hr.resolve_right fun h2 => h2 e)⟩
theorem Alike.symm {r : Part} {s1 : AS} (h : Alike r s s1) : Alike r s1 s := by
 cases r with
 | none => trivial
 | some r => cases r with
  | none => exact ⟨h.1.symm, h.2.symm⟩
  | some k => exact ⟨h.1.symm, fun e => (h.2 e).symm⟩
/-- What the operand that an address comes by must hold. -/
def Ins.adr : Ins → Option Opd
 | .load _ _ x => some x
 | .fadr _ x => some x
 | .nilchk x => some x
 | .mlk _ _ _ _ x _ => some x
 | .iadr _ x _ => some x
 | .len x => some x
 | .store _ x _ => some x
 | .callx _ (x :: _) => some x
 | _ => none
def chkV : Option Nat → Val → Prop
 | none, .one (.os _ _ _) => False
 | none, .one (.ws _ _ _ _) => False
 | none, .one (.bx _ _) => False
 | none, .one (.ow _ _) => False
 | none, .one (.op _ _ _ _) => False
 | none, .one (.mp _) => False
 | none, _ => True
 | some k, .one (.bx j _) => j = k
 | some k, .one (.op _ _ _ _) => k = RWK
 | some _, _ => False
/-- The limit that an operation is held to. -/
abbrev Lim := Option (Option Nat)
def limOk (s : AS) (i : Ins) : Lim → Prop
 | none => True
 | some l => match i.adr with
  | some x => chkV l (s.ev x)
  | none => False
def rdP (d : Option Nat) (i : Ins) (l : Lim) : Part :=
 match i with
 | .alloc _ => some (d.map fun k => (k, false))
 | .box _ => some (d.map fun k => (k, false))
 | i => if i.rds then (match l with | none => some none | some none => none | some (some k) => some (some (k, false))) else none
def wrP (d : Option Nat) (i : Ins) (l : Lim) : Part :=
 match i with
 | .alloc _ => some (d.map fun k => (k, false))
 | .box _ => some (d.map fun k => (k, false))
 | .store _ _ _ => (match l with | some (some k) => some (some (k, false)) | _ => some none)
 | .callx _ _ => (match l with | some (some k) => some (some (k, false)) | _ => some none)
 | .append _ _ _ _ _ => some (some (RWK, false))
 | .callm _ _ m => (match m.obs with | [] => some (some (RWK, false)) | [k] => some (some (k, true)) | _ => some none)
 | .trn _ _ _ => some none
 | .clr _ _ _ _ => some none
 | .mkr _ _ _ _ _ _ => some (some (RWK, false))
 | .bslr _ _ _ _ => some none
 | .mkm _ => some none
 | .bld _ => some none
 | .mup _ _ _ _ => some none
 | .mdl _ _ _ => some none
 | _ => none
theorem limOk_agree {i : Ins} {l : Lim} (ht : ∀ t ∈ i.reads, s'.tm t = s.tm t) : limOk s' i l ↔ limOk s i l := by
 cases l with
 | none => exact Iff.rfl
 | some l =>
  unfold limOk
  cases hx : i.adr with
  | none => exact Iff.rfl
  | some x =>
   have : s'.ev x = s.ev x := ev_agree fun t h => ht t (by
    cases i <;> simp only [Ins.adr, Option.some.injEq, reduceCtorEq] at hx <;> (try subst hx) <;> simp only [Ins.reads, List.mem_append] <;> (try exact h) <;> (try exact .inl h)
    rename_i f xs
    cases xs with
    | nil => cases hx
    | cons y xs => simp only [Option.some.injEq] at hx; subst hx; exact .inr (by simp [h]))
   simp only [this]
/-- estep_agree under a limit. -/
theorem estep_agreeL {i : Ins} {l : Lim} (hv : i.vl = true) (hl : limOk s i l) (ht : ∀ t ∈ i.reads, s'.tm t = s.tm t) (hb : Alike (rdP d i l) s s') : estep d i s' = (estep d i s).map (rebase d false s') := by
 by_cases hr : i.rds = true
 ·cases l with
  | none =>
   refine estep_agree hv ht fun _ => ?_
   cases i with
   | slc z x lo hi => cases lo <;> cases hi <;> first | exact hb | (cases hr; done)
   | _ => first | (cases hv; done) | exact hb | (cases hr; done)
  | some l =>
   cases i with
   | load ag n x =>
    have h1 := ev_agree (x := x) ht
    simp only [limOk, Ins.adr] at hl
    simp only [estep, h1]
    generalize s.ev x = v at hl
    cases v with
    | one c =>
     cases c with
     | bx k off => cases l with
      | none => exact hl.elim
      | some j =>
       have hj : k = j := hl
       subst hj
       have hb' : s'.bx k = s.bx k := hb.1
       simp only [hb']
       split
       ·exact loadS_agree
       ·rfl
     | ep cs => exact loadS_agree
     | op k ver i off => cases l with
      | none => exact hl.elim
      | some j =>
       have hj : j = RWK := hl
       have hb' : s'.rw = s.rw := hb.2 hj
       simp only [hb']
       split
       ·split
        ·split
         ·exact loadS_agree
         ·rfl
        ·rfl
       ·rfl
     | _ => rfl
    | _ => rfl
   | nilchk x =>
    have h1 := ev_agree (x := x) ht
    simp only [limOk, Ins.adr] at hl
    simp only [estep, h1]
    generalize s.ev x = v at hl
    cases v with
    | one c =>
     cases c with
     | op k ver i off => cases l with
      | none => exact hl.elim
      | some j =>
       have hj : j = RWK := hl
       have hb' : s'.rw = s.rw := hb.2 hj
       simp only [hb']
       split
       ·split
        ·simp only [SRes.map, rebase_put]
        ·rfl
       ·rfl
     | bx k off => simp only [SRes.map, rebase_put]
     | ep cs => simp only [SRes.map, rebase_put]
     | _ => rfl
    | _ => rfl
   | fadr o x =>
    have h1 := ev_agree (x := x) ht
    simp only [limOk, Ins.adr] at hl
    simp only [estep, h1]
    generalize s.ev x = v at hl
    cases v with
    | one c =>
     cases c with
     | op k ver i off => cases l with
      | none => exact hl.elim
      | some j =>
       have hj : j = RWK := hl
       have hb' : s'.rw = s.rw := hb.2 hj
       simp only [hb']
       split
       ·split
        ·simp only [SRes.map, rebase_put]
        ·rfl
       ·rfl
     | bx k off => simp only [SRes.map, rebase_put]
     | ep cs => simp only [SRes.map, rebase_put]
     | _ => rfl
    | _ => rfl
   | iadr z x i =>
    have h1 := ev_agree (x := x) (s := s) (s' := s') fun t h => ht t (by simp [Ins.reads, h])
    have h2 := ev_agree (x := i) (s := s) (s' := s') fun t h => ht t (by simp [Ins.reads, h])
    simp only [limOk, Ins.adr] at hl
    simp only [estep, h1, h2]
    generalize s.ev x = v at hl
    cases v with
    | one c =>
     cases c with
     | ow k ver => cases l <;> exact hl.elim
     | os k ver lo => cases l <;> exact hl.elim
     | ws k ver lo hi => cases l <;> exact hl.elim
     | sl fr z' es =>
      generalize s.ev i = u
      split
      ·split <;> simp only [SRes.map, rebase_put]
      ·rename_i heq; cases heq
      ·rename_i heq; cases heq
      ·rfl
     | _ => rfl
    | _ => rfl
   | len x =>
    have h1 := ev_agree (x := x) ht
    simp only [limOk, Ins.adr] at hl
    simp only [estep, h1]
    generalize s.ev x = v at hl
    cases v with
    | one c =>
     cases c with
     | ow k ver => cases l <;> exact hl.elim
     | os k ver lo => cases l <;> exact hl.elim
     | ws k ver lo hi => cases l <;> exact hl.elim
     | sl fr z' es => simp only [SRes.map, rebase_put]
     | g v => cases v <;> simp only [SRes.map, rebase_put]
     | _ => rfl
    | _ => rfl
   | sfx z x y => exact hl.elim
   | mlk kc zero ok zn x y =>
    have h1 := ev_agree (x := x) (s := s) (s' := s') fun t h => ht t (by simp [Ins.reads, h])
    have h2 := ev_agree (x := y) (s := s) (s' := s') fun t h => ht t (by simp [Ins.reads, h])
    simp only [limOk, Ins.adr] at hl
    simp only [estep, h1, h2]
    split
    ·rename_i k kv hx hy; rw [hx] at hl; cases l <;> exact hl.elim
    ·split <;> simp only [SRes.map, rebase_put]
    ·rfl
   | slc z x lo hi => cases lo <;> cases hi <;> first | exact hl.elim | (cases hr; done)
   | _ => first | (cases hv; done) | (cases hr; done)
 ·exact estep_agree hv ht fun h => absurd h hr
/-- What a step leaves as it was. -/
def Fr (d : Option Nat) (w : Part) (s s1 : AS) : Prop := (∀ t, d ≠ some t → s1.tm t = s.tm t) ∧ Stay w s s1
theorem stay_refl {w : Part} : Stay w s s := by
 cases w with
 | none => exact ⟨rfl, rfl⟩
 | some w => cases w with
  | none => trivial
  | some k => exact ⟨fun _ _ => rfl, fun _ _ => rfl⟩
theorem put_tm {v : Val} : ∀ t, d ≠ some t → (s.put d v).tm t = s.tm t := fun t ht => by
 cases d with
 | none => rfl
 | some k => exact upd_ne _ _ fun e => ht (by rw [e])
theorem fr_put {w : Part} {v : Val} : Fr d w s (s.put d v) := by
 refine ⟨put_tm, ?_⟩
 cases d with
 | none => exact stay_refl
 | some k =>
  cases w with
  | none => exact ⟨rfl, rfl⟩
  | some w => cases w with
   | none => trivial
   | some k => exact ⟨fun _ _ => rfl, fun _ _ => rfl⟩
theorem fr_rows {rw : Nat → Option Row} {v : Val} : Fr d (some (some (RWK, false))) s (({ s with rw := rw } : AS).put d v) := by
 refine ⟨put_tm (s := { s with rw := rw }), ?_⟩
 cases d <;> exact ⟨fun _ _ => rfl, fun h => absurd rfl h⟩
theorem fr_all {bx : Nat → Option (List Cel)} {rw : Nat → Option Row} {v : Val} : Fr d (some none) s (({ s with bx := bx, rw := rw } : AS).put d v) :=
 ⟨put_tm (s := { s with bx := bx, rw := rw }), trivial⟩
theorem fr_key {k : Nat} {cs : Option (List Cel)} {v : Val} : Fr d (some (some (k, false))) s (({ s with bx := upd s.bx k cs } : AS).put d v) := by
 refine ⟨put_tm (s := { s with bx := upd s.bx k cs }), ?_⟩
 cases d <;> exact ⟨fun j hj => upd_ne _ _ hj, fun _ _ => rfl⟩
def SAll : SRes → (AS → Prop) → Prop
 | .ok s, F => F s
 | @SRes.need _ _ s, F => F s
 | .bad, _ => True
theorem stRow_fr {n k ver i off j : Nat} {news : List Cel} {r q : Row} {w : Part} (hw : w = some none ∨ w = some (some (RWK, false))) : SAll (stRow (s.mvS j q) d n k ver i off news r) (Fr d w s) := by
 unfold stRow
 split
 ·split
  ·rcases hw with rfl | rfl
   ·exact fr_all (s := s) (bx := s.bx)
   ·exact fr_rows (s := s)
  ·trivial
 ·trivial
theorem bslRow_fr {j key z len n : Nat} {E : TypeId} {es : List (List Cel)} {q : Row} : SAll (bslRow (s.mvS j q) key E z len n es) (Fr (some key) (some none) s) := by
 unfold bslRow
 split
 ·exact fr_all (s := s) (d := some key) (bx := s.bx) (v := .one (.ow key 0))
 ·trivial
theorem and_all {r : SRes} {F T : AS → Prop} (hf : SAll r F) (h : SGood r T) : SGood r (fun s => T s ∧ F s) := by
 cases r with
 | bad => exact h
 | ok s => exact ⟨h, hf⟩
 | need p s => exact ⟨h.1, h.2, hf⟩
theorem and_good {r : SRes} {f : AS → AS} {T : AS → Prop} {F : AS → Prop} (hr : r = r.map f) (hf : ∀ s, F (f s)) (h : SGood r T) : SGood r (fun s => T s ∧ F s) := by
 cases r with
 | bad => exact h
 | ok s => simp only [SRes.map, SRes.ok.injEq] at hr; exact ⟨h, by rw [hr]; exact hf s⟩
 | need p s => simp only [SRes.map, SRes.need.injEq, true_and, heq_eq_eq] at hr; exact ⟨h.1, h.2, by rw [hr]; exact hf s⟩
theorem istep_fr {i : GI} {l : Lim} {T : AS → Prop} (hl : limOk s i.ins l) (h : istep P s i T) : istep P s i (fun s1 => T s1 ∧ Fr i.dst (wrP i.dst i.ins l) s s1) := by
 obtain ⟨d, gd, ins⟩ := i
 simp only at hl
 by_cases hv : ins.vl = true
 ·have gen : SGood (estep d ins s) T → SGood (estep d ins s) (fun s1 => T s1 ∧ Fr d (wrP d ins l) s s1) := fun h => by
   refine and_good (estep_val hv) (fun r => ?_) h
   obtain ⟨v, hv⟩ := (show ∃ v, rebase d false s r = s.put d v from by
    cases d with
    | none => exact ⟨.any, by simp [rebase, AS.put]⟩
    | some k =>
     refine ⟨r.tm k, ?_⟩
     simp only [rebase, AS.put, Bool.false_eq_true, if_false, AS.mk.injEq, and_true]
     funext t
     simp only [upd, Option.some.injEq]
     by_cases e : t = k
     ·rw [if_pos e, if_pos e.symm, e]
     ·rw [if_neg e, if_neg (fun h => e h.symm)])
   rw [hv]; exact fr_put
  cases ins with
  | pick c x y =>
   simp only [istep] at h ⊢
   split at h
   ·split at h <;> exact ⟨h, fr_put⟩
   ·exact h
  | call f xs => cases hv
  | callx f xs => cases hv
  | callm f xs m => cases hv
  | trn z x y => cases hv
  | clr E z zero x => cases hv
  | mkr E z b zero n c => cases hv
  | bslr E z n ps => cases hv
  | mkm kc => cases hv
  | bld z => cases hv
  | mup kc x y z => cases hv
  | mdl kc x y => cases hv
  | _ => exact gen h
 ·have gen : ∀ w, SAll (estep d ins s) (Fr d w s) → SGood (estep d ins s) T → SGood (estep d ins s) (fun s1 => T s1 ∧ Fr d w s s1) := fun w => and_all
  cases ins with
  | alloc z =>
   refine gen (some (d.map fun k => (k, false))) ?_ h
   simp only [estep]
   cases d with
   | none => trivial
   | some k =>
    simp only []
    split
    ·split
     ·trivial
     ·exact fr_key (s := s) (d := some k) (k := k) (v := .one (.bx k 0))
    ·trivial
  | box x =>
   refine gen (some (d.map fun k => (k, false))) ?_ h
   simp only [estep]
   cases d with
   | none => trivial
   | some k =>
    cases hc : vcells (s.ev x) with
    | none => trivial
    | some cs =>
     simp only []
     split
     ·split
      ·trivial
      ·exact fr_key (s := s) (d := some k) (k := k) (v := .one (.bx k 0))
     ·trivial
  | store n a b =>
   refine gen (wrP d (.store n a b) l) ?_ h
   simp only [limOk, Ins.adr] at hl
   simp only [estep]
   cases l with
   | none =>
    simp only [wrP]
    split
    ·split
     ·split
      ·exact fr_all
      ·trivial
     ·trivial
    ·split
     ·split
      ·split
       ·exact fr_all
       ·trivial
      ·split
       ·split
        ·exact stRow_fr (.inl rfl)
        ·trivial
       ·trivial
     ·trivial
    ·trivial
   | some l =>
    cases l with
    | none =>
     simp only [wrP]
     split
     ·split
      ·split
       ·exact fr_all
       ·trivial
      ·trivial
     ·split
      ·split
       ·split
        ·exact fr_all
        ·trivial
       ·split
        ·split
         ·exact stRow_fr (.inl rfl)
         ·trivial
        ·trivial
      ·trivial
     ·trivial
    | some key =>
     simp only [wrP]
     split
     ·rename_i hx _
      rw [hx] at hl
      have hk : _ = key := hl
      subst hk
      split
      ·split
       ·exact fr_key
       ·trivial
      ·trivial
     ·rename_i hx _
      rw [hx] at hl
      have hk : key = RWK := hl
      subst hk
      split
      ·split
       ·split
        ·exact fr_rows
        ·trivial
       ·split
        ·split
         ·exact stRow_fr (.inr rfl)
         ·trivial
        ·trivial
      ·trivial
     ·trivial
  | append E z b x y =>
   refine gen (some (some (RWK, false))) ?_ h
   simp only [estep]
   split
   ·split
    ·split
     ·exact fr_rows
     ·trivial
    ·trivial
   ·trivial
  | call f xs =>
   simp only [istep] at h ⊢
   unfold callP at h ⊢
   split at h
   ·obtain ⟨R, h1, h2, h3⟩ := h
    exact ⟨R, h1, h2, fun cs r hr => ⟨(h3 cs r hr).1, (h3 cs r hr).2, fr_put⟩⟩
   ·exact h
  | callx f xs =>
   simp only [istep] at h ⊢
   unfold callXS at h ⊢
   split at h
   ·rename_i k rest hargs
    have hfr : ∀ (cs : List Cel) (r : Val), Fr d (wrP d (.callx f xs) l) s (({ s with bx := upd s.bx k (some cs) } : AS).put d r) := fun cs r => by
     cases l with
     | none => exact fr_all
     | some l => cases l with
      | none => exact fr_all
      | some key =>
       cases xs with
       | nil => cases hargs
       | cons x xs =>
        simp only [limOk, Ins.adr] at hl
        simp only [List.map_cons, List.cons.injEq] at hargs
        rw [hargs.1] at hl
        have hk : k = key := hl
        subst hk
        exact fr_key
    unfold callX at h ⊢
    split at h
    ·obtain ⟨hb, h0, h0', R, h1, h2, h3⟩ := h
     exact ⟨hb, h0, h0', R, h1, h2, fun cs r hr => ⟨(h3 cs r hr).1, (h3 cs r hr).2.1, (h3 cs r hr).2.2, hfr cs r⟩⟩
    ·exact h
   ·exact h
  | trn z x y =>
   refine gen (some none) ?_ h
   simp only [estep]
   split
   ·split
    ·split
     ·exact fr_all
     ·trivial
    ·trivial
   ·trivial
  | clr E z zero x =>
   refine gen (some none) ?_ h
   simp only [estep]
   split
   ·split
    ·split
     ·exact fr_all
     ·trivial
    ·trivial
   ·trivial
  | bslr E z n ps =>
   refine gen (some none) ?_ h
   simp only [estep]
   split
   ·rename_i key _ _
    split
    ·split
     ·exact fr_all (s := s) (d := some key) (bx := s.bx) (v := .one (.ow key 0))
     ·split
      ·split
       ·exact bslRow_fr
       ·trivial
      ·trivial
    ·trivial
   ·trivial
  | bld z =>
   refine gen (some none) ?_ h
   simp only [estep]
   cases d with
   | none => trivial
   | some key =>
    simp only []
    split
    ·split
     ·exact fr_all (s := s) (d := some key) (rw := s.rw) (v := .one (.bx (900000 + key) 0))
     ·trivial
    ·trivial
  | mkm kc =>
   refine gen (some none) ?_ h
   simp only [estep]
   cases d with
   | none => trivial
   | some key =>
    simp only []
    split
    ·split
     ·exact fr_all (s := s) (d := some key) (bx := s.bx) (v := .one (.mp key))
     ·trivial
    ·trivial
  | mdl kc x y =>
   refine gen (some none) ?_ h
   simp only [estep]
   split
   ·split
    ·split
     ·exact fr_all
     ·trivial
    ·trivial
   ·trivial
  | mup kc x y z =>
   refine gen (some none) ?_ h
   simp only [estep]
   split
   ·split
    ·split
     ·exact fr_all
     ·trivial
    ·trivial
   ·trivial
  | mkr E z b zero n c =>
   refine gen (some (some (RWK, false))) ?_ h
   simp only [estep]
   split
   ·rename_i key _ _ _ _ _ _
    split
    ·split
     ·exact fr_rows (s := s) (d := some key) (rw := upd s.rw key _) (v := .one (.ow key 0))
     ·trivial
    ·trivial
   ·trivial
  | callm f xs m =>
   simp only [istep] at h ⊢
   unfold callM at h ⊢
   split at h
   ·obtain ⟨h0, R, h1, h2, h3⟩ := h
    refine ⟨h0, R, h1, h2, fun H r hr => ⟨(h3 H r hr).1, (h3 H r hr).2, ?_⟩⟩
    have hall : Fr d (some none) s (({ s with bx := putB s m H.bs s.bx, rw := putR s m H.rs s.rw } : AS).put d (s.backV m r)) := fr_all
    simp only [wrP]
    split
    ·rename_i ho
     refine ⟨hall.1, ?_⟩
     have hk : ∀ j, putB s m H.bs s.bx j = s.bx j := fun j => by
      rw [putB_at, if_neg]
      intro hm
      have : j ∈ m.obs := by
       rcases (h3 H r hr).1 with ⟨e, _⟩ | e
       ·rw [← e]; exact hm
       ·simp only [hkB, Bool.and_eq_true, List.all_eq_true] at e
        simpa using e.1.1.1 j hm
      rw [ho] at this
      cases this
     cases d with
     | none => exact ⟨fun j _ => hk j, fun h => absurd rfl h⟩
     | some _ => exact ⟨fun j _ => hk j, fun h => absurd rfl h⟩
    ·rename_i k ho
     refine ⟨hall.1, ?_⟩
     have hk : ∀ j, j ≠ k → putB s m H.bs s.bx j = s.bx j := fun j hj => by
      rw [putB_at, if_neg]
      intro hm
      have : j ∈ m.obs := by
       rcases (h3 H r hr).1 with ⟨e, _⟩ | e
       ·rw [← e]; exact hm
       ·simp only [hkB, Bool.and_eq_true, List.all_eq_true] at e
        simpa using e.1.1.1 j hm
      rw [ho] at this
      simp at this
      exact hj this
     cases d with
     | none => exact ⟨hk, fun _ h => by cases h⟩
     | some _ => exact ⟨hk, fun _ h => by cases h⟩
    ·exact hall
   ·exact h
  | _ => exact absurd rfl hv
theorem istep_some {i : GI} {T : AS → Prop} (h : istep P s i T) : ∃ s1, T s1 := by
 unfold istep at h
 split at h
 ·split at h
  ·split at h <;> exact ⟨_, h⟩
  ·exact h.elim
 ·unfold callP at h
  split at h
  ·obtain ⟨R, _, ⟨cs, r, hr⟩, h3⟩ := h; exact ⟨_, (h3 cs r hr).2⟩
  ·exact h.elim
 ·unfold callXS at h
  split at h
  ·unfold callX at h
   split at h
   ·obtain ⟨_, _, _, R, _, ⟨cs, r, hr⟩, h3⟩ := h; exact ⟨_, (h3 cs r hr).2.2⟩
   ·exact h.elim
  ·exact h.elim
 ·unfold callM at h
  split at h
  ·obtain ⟨_, R, _, ⟨H, r, hr⟩, h3⟩ := h; exact ⟨_, (h3 H r hr).2⟩
  ·exact h.elim
 ·generalize estep i.dst _ s = r at h
  cases r with
  | ok s => exact ⟨s, h⟩
  | need p s => exact ⟨s, h.2⟩
  | bad => exact h.elim
theorem rebase_self {r : AS} : ∃ v, rebase d false s r = s.put d v := by
 cases d with
 | none => exact ⟨.any, by simp [rebase, AS.put]⟩
 | some k =>
  refine ⟨r.tm k, ?_⟩
  simp only [rebase, AS.put, Bool.false_eq_true, if_false, AS.mk.injEq, and_true]
  funext t
  simp only [upd, Option.some.injEq]
  by_cases e : t = k
  ·rw [if_pos e, if_pos e.symm, e]
  ·rw [if_neg e, if_neg (fun h => e h.symm)]
theorem istep_det {i : GI} (hv : i.ins.vl = true) {T : AS → Prop} (h : istep P s i T) : ∃ v, T (s.put i.dst v) ∧ ∀ T', istep P s i T' ↔ T' (s.put i.dst v) := by
 obtain ⟨d, gd, ins⟩ := i
 have gen : SGood (estep d ins s) T → ∃ v, T (s.put d v) ∧ ∀ T', SGood (estep d ins s) T' ↔ T' (s.put d v) := fun h => by
  have h1 : estep d ins s = _ := estep_val (s := s) (d := d) hv
  revert h h1
  generalize estep d ins s = r
  intro h h1
  cases r with
  | bad => exact h.elim
  | ok r =>
   simp only [SRes.map, SRes.ok.injEq] at h1
   obtain ⟨v, hv⟩ := rebase_self (s := s) (d := d) (r := r)
   rw [hv] at h1; subst h1
   exact ⟨v, h, fun T' => Iff.rfl⟩
  | need p r =>
   simp only [SRes.map, SRes.need.injEq, true_and, heq_eq_eq] at h1
   obtain ⟨v, hv⟩ := rebase_self (s := s) (d := d) (r := r)
   rw [hv] at h1; subst h1
   exact ⟨v, h.2, fun T' => ⟨fun h' => h'.2, fun h' => ⟨h.1, h'⟩⟩⟩
 cases ins with
 | pick c x y =>
  simp only [istep] at h ⊢
  split at h
  ·rename_i b hb
   split at h
   ·exact ⟨_, h, fun T' => Iff.rfl⟩
   ·exact ⟨_, h, fun T' => Iff.rfl⟩
  ·exact h.elim
 | call f xs => cases hv
 | callx f xs => cases hv
 | callm f xs m => cases hv
 | _ => exact gen h
theorem istep_gv {i : GI} {l : Lim} {v : Val} (hv : i.ins.vl = true) (hl : limOk s i.ins l) (ht : ∀ t ∈ i.ins.reads, s'.tm t = s.tm t) (hb : Alike (rdP i.dst i.ins l) s s') (h : istep P s i (fun r => r = s.put i.dst v)) : istep P s' i (fun r => r = s'.put i.dst v) := by
 obtain ⟨d, gd, ins⟩ := i
 simp only at hv ht hb h hl ⊢
 have gen : SGood (estep d ins s) (fun r => r = s.put d v) → SGood (estep d ins s') (fun r => r = s'.put d v) := fun h => by
  rw [estep_agreeL hv hl ht hb, map_ok]
  have : ∀ r, r = s.put d v → rebase d false s' r = s'.put d v := fun r hr => by rw [hr]; exact rebase_put rfl
  revert h
  generalize estep d ins s = r
  intro h
  cases r with
  | bad => exact h
  | ok r => exact this r h
  | need p r => exact ⟨h.1, this r h.2⟩
 have hput : ∀ u, s.put d u = s.put d v → s'.put d u = s'.put d v := fun u hu => by
  cases d with
  | none => rfl
  | some k =>
   have h1 := congrArg (fun s => s.tm k) hu
   simp only [AS.put, upd_same] at h1
   rw [h1]
 cases ins with
 | pick c x y =>
  have h1 := ev_agree (x := c) (s := s) (s' := s') fun t h => ht t (by simp [Ins.reads, h])
  have h2 := ev_agree (x := x) (s := s) (s' := s') fun t h => ht t (by simp [Ins.reads, h])
  have h3 := ev_agree (x := y) (s := s) (s' := s') fun t h => ht t (by simp [Ins.reads, h])
  simp only [istep, h1, h2, h3] at h ⊢
  split at h
  ·split at h <;> exact hput _ h
  ·exact h
 | call f xs => cases hv
 | callx f xs => cases hv
 | callm f xs m => cases hv
 | _ => exact gen h
/-- A step that is held to its limit. -/
structure DI where
 g : GI
 l : Lim
def dstep (P : Program) (s : AS) (i : DI) (T : AS → Prop) : Prop :=
 (i.g.gd = none ∧ limOk s i.g.ins i.l ∧ istep P s i.g T) ∨
 ∃ g want b, i.g.gd = some (g, want) ∧ gval (s.tm g) = some b ∧ ((b = some want ∧ limOk s i.g.ins i.l ∧ istep P s i.g T) ∨ (b ≠ some want ∧ T (s.put i.g.dst (.tu []))))
theorem dstep_gstep {i : DI} {T : AS → Prop} (h : dstep P s i T) : gstep P s i.g T := by
 rw [gstep_iff]
 rcases h with ⟨h1, _, h2⟩ | ⟨g, want, b, h1, h2, ⟨h3, _, h4⟩ | ⟨h3, h4⟩⟩
 ·exact .inl ⟨h1, h2⟩
 ·exact .inr ⟨g, want, b, h1, h2, .inl ⟨h3, h4⟩⟩
 ·exact .inr ⟨g, want, b, h1, h2, .inr ⟨h3, h4⟩⟩
theorem dstep_mono {i : DI} {T T' : AS → Prop} (hT : ∀ s, T s → T' s) (h : dstep P s i T) : dstep P s i T' := by
 rcases h with ⟨h1, h0, h2⟩ | ⟨g, want, b, h1, h2, ⟨h3, h0, h4⟩ | ⟨h3, h4⟩⟩
 ·exact .inl ⟨h1, h0, istep_mono hT h2⟩
 ·exact .inr ⟨g, want, b, h1, h2, .inl ⟨h3, h0, istep_mono hT h4⟩⟩
 ·exact .inr ⟨g, want, b, h1, h2, .inr ⟨h3, hT _ h4⟩⟩
theorem dstep_put {i : DI} {k : Nat} {v : Val} (hk : k ∉ i.g.reads) (hd : i.g.dst ≠ some k) {T : AS → Prop} : dstep P (s.put (some k) v) i T ↔ dstep P s i (fun s1 => T (s1.put (some k) v)) := by
 have h1 : k ∉ i.g.ins.reads := fun h => hk (List.mem_append_left _ h)
 have h0 : limOk (s.put (some k) v) i.g.ins i.l ↔ limOk s i.g.ins i.l := limOk_agree fun t ht => upd_ne s.tm v (k := k) (j := t) fun e => h1 (by subst e; exact ht)
 unfold dstep
 rw [istep_put h1 hd, h0]
 refine or_congr Iff.rfl ?_
 constructor
 ·rintro ⟨g, want, b, hg, hb, h⟩
  have hne : g ≠ k := fun e => hk (by simp [GI.reads, hg, e])
  refine ⟨g, want, b, hg, ?_, ?_⟩
  ·rw [← hb]; exact congrArg gval (upd_ne _ _ hne).symm
  ·rwa [put_comm hd] at h
 ·rintro ⟨g, want, b, hg, hb, h⟩
  have hne : g ≠ k := fun e => hk (by simp [GI.reads, hg, e])
  refine ⟨g, want, b, hg, ?_, ?_⟩
  ·rw [← hb]; exact congrArg gval (upd_ne _ _ hne)
  ·rwa [put_comm hd]
def DI.wr (i : DI) : Part := wrP i.g.dst i.g.ins i.l
def DI.rd (i : DI) : Part := rdP i.g.dst i.g.ins i.l
theorem dstep_fr {i : DI} {T : AS → Prop} (h : dstep P s i T) : dstep P s i (fun s1 => T s1 ∧ Fr i.g.dst i.wr s s1) := by
 rcases h with ⟨h1, h0, h2⟩ | ⟨g, want, b, h1, h2, ⟨h3, h0, h4⟩ | ⟨h3, h4⟩⟩
 ·exact .inl ⟨h1, h0, istep_fr h0 h2⟩
 ·exact .inr ⟨g, want, b, h1, h2, .inl ⟨h3, h0, istep_fr h0 h4⟩⟩
 ·exact .inr ⟨g, want, b, h1, h2, .inr ⟨h3, h4, fr_put⟩⟩
theorem dstep_some {i : DI} {T : AS → Prop} (h : dstep P s i T) : ∃ s1, T s1 := by
 rcases h with ⟨_, _, h⟩ | ⟨_, _, _, _, _, ⟨_, _, h⟩ | ⟨_, h⟩⟩
 ·exact istep_some h
 ·exact istep_some h
 ·exact ⟨_, h⟩
/-- It yields this. -/
def gv (P : Program) (s : AS) (i : DI) (v : Val) : Prop := dstep P s i (fun r => r = s.put i.g.dst v)
theorem dstep_gd {i : DI} {T : AS → Prop} {g : Nat} {want : Bool} {b : Option Bool} (h1 : i.g.gd = some (g, want)) (h2 : gval (s.tm g) = some b) : dstep P s i T ↔ (b = some want ∧ limOk s i.g.ins i.l ∧ istep P s i.g T) ∨ (b ≠ some want ∧ T (s.put i.g.dst (.tu []))) := by
 unfold dstep
 constructor
 ·rintro (⟨h, _⟩ | ⟨g', want', b', h3, h4, h5⟩)
  ·rw [h1] at h; cases h
  ·rw [h1] at h3; simp only [Option.some.injEq, Prod.mk.injEq] at h3
   obtain ⟨rfl, rfl⟩ := h3
   rw [h2] at h4; simp only [Option.some.injEq] at h4
   subst h4; exact h5
 ·intro h; exact .inr ⟨g, want, b, h1, h2, h⟩
theorem dstep_det {i : DI} (hv : i.g.ins.vl = true) {T : AS → Prop} (h : dstep P s i T) : ∃ v, T (s.put i.g.dst v) ∧ ∀ T', dstep P s i T' ↔ T' (s.put i.g.dst v) := by
 rcases h with ⟨h1, h0, h2⟩ | ⟨g, want, b, h1, h2, ⟨h3, h0, h4⟩ | ⟨h3, h4⟩⟩
 ·obtain ⟨v, hv1, hv2⟩ := istep_det hv h2
  refine ⟨v, hv1, fun T' => ?_⟩
  unfold dstep
  rw [h1, hv2]
  simp [h0]
 ·obtain ⟨v, hv1, hv2⟩ := istep_det hv h4
  refine ⟨v, hv1, fun T' => ?_⟩
  rw [dstep_gd h1 h2, hv2]
  simp [h3, h0]
 ·refine ⟨.tu [], h4, fun T' => ?_⟩
  rw [dstep_gd h1 h2]
  simp [h3]
theorem dstep_gv {i : DI} {v : Val} (hv : i.g.ins.vl = true) (ht : ∀ t ∈ i.g.reads, s'.tm t = s.tm t) (hb : Alike i.rd s s') (h : gv P s i v) : gv P s' i v := by
 unfold gv at *
 have h0 : ∀ t ∈ i.g.ins.reads, s'.tm t = s.tm t := fun t h => ht t (List.mem_append_left _ h)
 rcases h with ⟨h1, hl, h2⟩ | ⟨g, want, b, h1, h2, h3⟩
 ·exact .inl ⟨h1, (limOk_agree h0).2 hl, istep_gv hv hl h0 hb h2⟩
 ·refine .inr ⟨g, want, b, h1, by rw [ht g (by simp [GI.reads, h1])]; exact h2, ?_⟩
  rcases h3 with ⟨h3, hl, h4⟩ | ⟨h3, h4⟩
  ·exact .inl ⟨h3, (limOk_agree h0).2 hl, istep_gv hv hl h0 hb h4⟩
  ·refine .inr ⟨h3, ?_⟩
   cases hd : i.g.dst with
   | none => rfl
   | some k =>
    rw [hd] at h4
    have h5 := congrArg (fun s => s.tm k) h4
    simp only [AS.put, upd_same] at h5
    rw [← h5]
/-- Two boxes laid one behind the other. -/
def allocs (x y : DI) : Bool :=
 match x, y with
 | ⟨⟨some k, none, .alloc _⟩, none⟩, ⟨⟨some j, none, .alloc _⟩, none⟩ => decide (k ≠ j)
 | _, _ => false
theorem alloc_iff {k : Nat} {z : List Value} {T : AS → Prop} : dstep P s ⟨⟨some k, none, .alloc z⟩, none⟩ T ↔ s.bx k = none ∧ k ≠ 0 ∧ T { s with tm := upd s.tm k (.one (.bx k 0)), bx := upd s.bx k (some (z.map .g)) } := by
 unfold dstep
 simp only [istep, estep, limOk, true_and, reduceCtorEq, false_and, exists_const, exists_false, or_false]
 cases s.bx k with
 | none =>
  simp only [true_and]
  by_cases e : k = 0
  ·simp [e, SGood]
  ·simp [e, SGood]
 | some cs => simp [SGood]
theorem swap_allocs {x y : DI} (hi : allocs x y = true) {T : AS → Prop} (h : dstep P s x (dstep P · y T)) : dstep P s y (dstep P · x T) := by
 unfold allocs at hi
 split at hi
 ·rename_i k zx j zy
  have hne : k ≠ j := by simpa using hi
  rw [alloc_iff] at h ⊢
  obtain ⟨h1, h2, h3⟩ := h
  rw [alloc_iff] at h3
  obtain ⟨h4, h5, h6⟩ := h3
  simp only [upd_ne _ _ (Ne.symm hne)] at h4
  refine ⟨h4, h5, ?_⟩
  rw [alloc_iff]
  refine ⟨by simp only [upd_ne _ _ hne]; exact h1, h2, ?_⟩
  rw [upd_comm hne, upd_comm hne]
  exact h6
 ·cases hi
/-- A call that is handed nothing, and a box laid: they may change places. -/
def mNil : CAnn := ⟨[], [], [], [], []⟩
def calm (x y : DI) : Bool :=
 match x, y with
 | ⟨⟨some k, none, .callm f as ⟨[], [], [], [], []⟩⟩, none⟩, ⟨⟨some j, none, .alloc _⟩, none⟩ => decide (k ≠ j) && (decide (j ∉ f.slot) && as.all fun a => decide (j ∉ a.slot))
 | _, _ => false
theorem hk_nil {H : Hp} (h : hkOk mNil H) : H.bs = [] ∧ H.rs = [] := by
 rcases h with ⟨h1, h2⟩ | h
 ·exact ⟨List.map_eq_nil_iff.1 h1, List.map_eq_nil_iff.1 h2⟩
 ·unfold hkB mNil at h
  simp only [Bool.and_eq_true, List.all_eq_true] at h
  obtain ⟨⟨⟨h1, _⟩, h2⟩, _⟩ := h
  have e : ∀ {α : Type} (l : List (Nat × α)), (∀ x ∈ l.map (·.1), ([] : List Nat).contains x = true) → l = [] := fun l h => by
   cases l with
   | nil => rfl
   | cons p l => have := h p.1 (by simp); simp at this
  exact ⟨e _ h1, e _ h2⟩
theorem calm_iff {k : Nat} {f : Opd} {as : List Opd} {T : AS → Prop} : dstep P s ⟨⟨some k, none, .callm f as ⟨[], [], [], [], []⟩⟩, none⟩ T ↔ ∃ g bs R, calleeV (s.ev f) (as.map s.ev) = some (g, bs) ∧ FCMS P g [] ⟨[], []⟩ (bs.map (s.passV mNil)) R ∧ (∃ H r, R H r) ∧ ∀ H r, R H r → (H.bs = [] ∧ H.rs = []) ∧ T (s.put (some k) (s.backV mNil r)) := by
 unfold dstep
 simp only [istep, limOk, true_and, reduceCtorEq, false_and, exists_const, exists_false, or_false]
 constructor
 ·intro h
  unfold callM at h
  split at h
  ·rename_i g bs' hf
   obtain ⟨_, R, h1, h2, h3⟩ := h
   refine ⟨g, bs', R, hf, h1, h2, fun H r hr => ?_⟩
   obtain ⟨h4, h5⟩ := h3 H r hr
   have h6 := hk_nil h4
   refine ⟨h6, ?_⟩
   obtain ⟨bs, rs⟩ := H
   obtain ⟨rfl, rfl⟩ := h6
   exact h5
  ·exact h.elim
 ·rintro ⟨g, bs', R, hf, h1, h2, h3⟩
  unfold callM
  rw [hf]
  refine ⟨rfl, R, h1, h2, fun H r hr => ?_⟩
  obtain ⟨h6, h5⟩ := h3 H r hr
  obtain ⟨bs, rs⟩ := H
  obtain ⟨rfl, rfl⟩ := h6
  exact ⟨.inl ⟨rfl, rfl⟩, h5⟩
theorem calm_ev {f : Opd} {as : List Opd} {j : Nat} {v : Val} {b : Nat → Option (List Cel)} (h1 : j ∉ f.slot) (h2 : ∀ a ∈ as, j ∉ a.slot) : ({ s with tm := upd s.tm j v, bx := b } : AS).ev f = s.ev f ∧ as.map ({ s with tm := upd s.tm j v, bx := b } : AS).ev = as.map s.ev :=
 ⟨ev_agree fun t ht => upd_ne s.tm v fun e => h1 (by subst e; exact ht), List.map_congr_left fun a ha => ev_agree fun t ht => upd_ne s.tm v fun e => h2 a ha (by subst e; exact ht)⟩
theorem swap_calm {x y : DI} (hi : calm x y = true) {T : AS → Prop} (h : dstep P s x (dstep P · y T)) : dstep P s y (dstep P · x T) := by
 unfold calm at hi
 split at hi
 ·rename_i k f as j z
  simp only [Bool.and_eq_true, decide_eq_true_eq, List.all_eq_true] at hi
  obtain ⟨hne, h1, h2⟩ := hi
  rw [calm_iff] at h
  obtain ⟨g, caps, R, hf, hR, ⟨H0, r0, hr0⟩, h3⟩ := h
  obtain ⟨_, h4⟩ := h3 H0 r0 hr0
  rw [alloc_iff] at h4
  rw [alloc_iff]
  refine ⟨h4.1, h4.2.1, ?_⟩
  rw [calm_iff]
  obtain ⟨e1, e2⟩ := calm_ev (s := s) (v := .one (.bx j 0)) (b := upd s.bx j (some (z.map .g))) h1 h2
  refine ⟨g, caps, R, by rw [e1, e2]; exact hf, hR, ⟨H0, r0, hr0⟩, fun H r hr => ?_⟩
  obtain ⟨h5, h6⟩ := h3 H r hr
  rw [alloc_iff] at h6
  refine ⟨h5, ?_⟩
  have h7 := h6.2.2
  simp only [AS.put] at h7 ⊢
  rw [upd_comm hne]
  exact h7
 ·cases hi
theorem swap_calm' {x y : DI} (hi : calm y x = true) {T : AS → Prop} (h : dstep P s x (dstep P · y T)) : dstep P s y (dstep P · x T) := by
 unfold calm at hi
 split at hi
 ·rename_i k f as j z
  simp only [Bool.and_eq_true, decide_eq_true_eq, List.all_eq_true] at hi
  obtain ⟨hne, h1, h2⟩ := hi
  rw [alloc_iff] at h
  obtain ⟨h4, h5, h6⟩ := h
  rw [calm_iff] at h6
  obtain ⟨g, caps, R, hf, hR, hex, h3⟩ := h6
  obtain ⟨e1, e2⟩ := calm_ev (s := s) (v := .one (.bx j 0)) (b := upd s.bx j (some (z.map .g))) h1 h2
  rw [e1, e2] at hf
  rw [calm_iff]
  refine ⟨g, caps, R, hf, hR, hex, fun H r hr => ?_⟩
  obtain ⟨h7, h8⟩ := h3 H r hr
  refine ⟨h7, ?_⟩
  rw [alloc_iff]
  refine ⟨h4, h5, ?_⟩
  simp only [AS.put] at h8 ⊢
  rw [upd_comm hne] at h8
  exact h8
 ·cases hi
/-- Two operations that may change places. -/
def indep (x y : DI) : Bool :=
 allocs x y || (calm x y || calm y x) || ((match x.g.dst with | some k => decide (k ∉ y.g.reads) | none => true) && (match y.g.dst with | some k => decide (k ∉ x.g.reads) | none => true) &&
 (match x.g.dst, y.g.dst with | some k, some j => decide (k ≠ j) | _, _ => true) &&
 ((y.g.ins.vl && x.wr.apart y.rd) || (x.g.ins.vl && y.wr.apart x.rd)))
theorem swap {x y : DI} (hi : indep x y = true) {T : AS → Prop} (h : dstep P s x (dstep P · y T)) : dstep P s y (dstep P · x T) := by
 unfold indep at hi
 simp only [Bool.and_eq_true, Bool.or_eq_true] at hi
 rcases hi with (hi | hi | hi) | hi
 ·exact swap_allocs hi h
 ·exact swap_calm hi h
 ·exact swap_calm' hi h
 obtain ⟨⟨⟨h1, h2⟩, h3⟩, h4⟩ := hi
 have r1 : ∀ k, x.g.dst = some k → k ∉ y.g.reads := fun k hk => by rw [hk] at h1; simpa using h1
 have r2 : ∀ k, y.g.dst = some k → k ∉ x.g.reads := fun k hk => by rw [hk] at h2; simpa using h2
 have r3 : ∀ k, x.g.dst = some k → y.g.dst ≠ some k := fun k hk hy => by rw [hk, hy] at h3; simp at h3
 rcases h4 with ⟨hy, hr⟩ | ⟨hx, hr⟩
 ·have hfr := dstep_fr h
  have key : ∀ s1, Fr x.g.dst x.wr s s1 → ∀ v, gv P s1 y v → gv P s y v := fun s1 hf v hv =>
   dstep_gv hy (fun t ht => (hf.1 t fun e => r1 t e ht).symm) (hf.2.alike hr).symm hv
  obtain ⟨s1, hs1, hf1⟩ := dstep_some hfr
  obtain ⟨v1, _, hv1⟩ := dstep_det hy hs1
  have hg1 := key s1 hf1 v1 ((hv1 _).2 rfl)
  obtain ⟨v, hvs, hdet⟩ := dstep_det (T := fun _ => True) hy (dstep_mono (fun _ _ => trivial) hg1)
  rw [hdet]
  have hall : dstep P s x (fun s2 => T (s2.put y.g.dst v)) := dstep_mono (fun s2 ⟨hT, hf⟩ => by
   obtain ⟨v2, hT2, hd2⟩ := dstep_det hy hT
   have h5 := key s2 hf v2 ((hd2 _).2 rfl)
   unfold gv at h5
   rw [hdet] at h5
   have h6 : s2.put y.g.dst v = s2.put y.g.dst v2 := by
    cases hd : y.g.dst with
    | none => rfl
    | some k =>
     rw [hd] at h5
     have h7 := congrArg (fun s => s.tm k) h5
     simp only [AS.put, upd_same] at h7
     rw [h7]
   rw [h6]; exact hT2) hfr
  cases hd : y.g.dst with
  | none => rw [hd] at hall; exact hall
  | some k =>
   rw [hd] at hall
   exact (dstep_put (r2 k hd) (fun e => r3 k e hd)).2 hall
 ·obtain ⟨v, hT, hdet⟩ := dstep_det hx h
  have h5 : dstep P s y (fun s1 => T (s1.put x.g.dst v)) := by
   cases hd : x.g.dst with
   | none => rw [hd] at hT; exact hT
   | some k =>
    rw [hd] at hT
    exact (dstep_put (r1 k hd) (r3 k hd)).1 hT
  refine dstep_mono (fun s1 ⟨hT1, hf⟩ => ?_) (dstep_fr h5)
  have hg : gv P s1 x v := dstep_gv hx (fun t ht => hf.1 t fun e => r2 t e ht) (hf.2.alike hr) ((hdet _).2 rfl)
  exact dstep_mono (fun r hr => by rw [hr]; exact hT1) hg
/-! ### all orders -/
def gAt (P : Program) (gs : List DI) (i : Nat) (T : AS → Prop) (s : AS) : Prop :=
 match gs[i]? with
 | some g => dstep P s g T
 | none => T s
def aopsL (P : Program) (gs : List DI) : List Nat → (AS → Prop) → AS → Prop
 | [], T => T
 | i :: L, T => gAt P gs i (aopsL P gs L T)
def indepAt (gs : List DI) (j i : Nat) : Bool :=
 match gs[j]?, gs[i]? with
 | some x, some y => indep x y
 | _, _ => true
variable {gs : List DI}
def dops (P : Program) : List DI → (AS → Prop) → AS → Prop
 | [], T, s => T s
 | i :: l, T, s => dstep P s i (dops P l T)
/-- The operations held to limits: a list of index and limit. -/
def limit (ls : List (Nat × Option Nat)) : Nat → List GI → List DI
 | _, [] => []
 | i, g :: l => ⟨g, (ls.find? (·.1 == i)).map (·.2)⟩ :: limit ls (i + 1) l
theorem limit_map {ls : List (Nat × Option Nat)} : ∀ {i : Nat} {l : List GI}, (limit ls i l).map DI.g = l
 | _, [] => rfl
 | i, g :: l => by simp only [limit, List.map_cons, limit_map]
theorem gAt_mono {i : Nat} {T T' : AS → Prop} (hT : ∀ s, T s → T' s) (h : gAt P gs i T s) : gAt P gs i T' s := by
 unfold gAt at *
 split
 ·rename_i g hg; rw [hg] at h; exact dstep_mono hT h
 ·rename_i hg; rw [hg] at h; exact hT _ h
theorem swapAt {j i : Nat} (hi : indepAt gs j i = true) {T : AS → Prop} (h : gAt P gs j (gAt P gs i T) s) : gAt P gs i (gAt P gs j T) s := by
 unfold indepAt at hi
 cases hj : gs[j]? with
 | none =>
  have e : ∀ T s, gAt P gs j T s = T s := fun T s => by simp [gAt, hj]
  rw [e] at h
  exact gAt_mono (fun s h => by rw [e]; exact h) h
 | some x =>
  cases hk : gs[i]? with
  | none =>
   have e : ∀ T s, gAt P gs i T s = T s := fun T s => by simp [gAt, hk]
   rw [e]
   exact gAt_mono (fun s h => by rw [e] at h; exact h) h
  | some y =>
   rw [hj, hk] at hi
   have e1 : ∀ T s, gAt P gs j T s = dstep P s x T := fun T s => by simp [gAt, hj]
   have e2 : ∀ T s, gAt P gs i T s = dstep P s y T := fun T s => by simp [gAt, hk]
   rw [e1] at h; rw [e2]
   refine dstep_mono (fun s h => by rw [e1]; exact h) (swap hi (dstep_mono (fun s h => by rw [e2] at h; exact h) h))
theorem toFront {i : Nat} {B : List Nat} {T : AS → Prop} : ∀ {A : List Nat} {s : AS}, (∀ j ∈ A, indepAt gs j i = true) → aopsL P gs (A ++ i :: B) T s → gAt P gs i (aopsL P gs (A ++ B) T) s
 | [], s, _, h => h
 | j :: A, s, hA, h => by
  have h1 : gAt P gs j (aopsL P gs (A ++ i :: B) T) s := h
  exact swapAt (hA j (by simp)) (gAt_mono (fun s h => toFront (fun k hk => hA k (by simp [hk])) h) h1)
/-- What an operation waits for, by way of others as well (a list for each operation; only what ancOk tells of it is used). -/
def ancs (ops : List Oper) : List (List Nat) :=
 (ops.foldl (fun (acc : List (List Nat)) o => (((o.after.toList.filter (Region.binds .any)).map Edge.on).foldl (fun l j => (j :: (acc.reverse.getD j [])) ++ l) [] |>.eraseDups) :: acc) []).reverse
def ancOk (ops : List Oper) (an : List (List Nat)) : Bool :=
 (List.range ops.length).all fun i => match ops[i]? with
  | some o => (o.after.toList.all fun e => !Region.binds .any e || decide (e.on < i)) &&
   (an.getD i []).all fun j => o.after.toList.any fun e => Region.binds .any e && (e.on == j || (an.getD e.on []).contains j)
  | none => true
def pairsOk (gs : List DI) (an : List (List Nat)) : Bool :=
 (List.range gs.length).all fun i => (List.range i).all fun j => (an.getD i []).contains j || indepAt gs j i
def inter : List DI → List GI
 | [] => []
 | ⟨g, none⟩ :: l => g :: inter l
 | ⟨g, some key⟩ :: l => (match g.ins.adr with | some x => ⟨none, g.gd, .chk x key⟩ | none => ⟨none, g.gd, .un .neg (.f 0)⟩) :: g :: inter l
theorem istep_chk {x : Opd} {key : Option Nat} {gd : Option (Nat × Bool)} {T : AS → Prop} (h : istep P s ⟨none, gd, .chk x key⟩ T) : chkV key (s.ev x) ∧ T s := by
 cases key with
 | none =>
  simp only [istep, estep] at h
  split at h
  ·exact h.elim
  ·exact h.elim
  ·exact h.elim
  ·exact h.elim
  ·exact h.elim
  ·exact h.elim
  ·rename_i h8 h0 h9 h1 h2 h3
   refine ⟨?_, h⟩
   generalize s.ev x = v at h8 h0 h9 h1 h2 h3
   cases v with
   | one c => cases c with
    | mp k => exact absurd rfl (h8 k)
    | os k v lo => exact absurd rfl (h0 k v lo)
    | ws k v lo hi => exact absurd rfl (h9 k v lo hi)
    | bx k o => exact absurd rfl (h1 k o)
    | ow k v => exact absurd rfl (h2 k v)
    | op k v i o => exact absurd rfl (h3 k v i o)
    | _ => trivial
   | _ => trivial
 | some k =>
  simp only [istep, estep] at h
  split at h
  ·rename_i hv
   rw [hv]
   split at h
   ·rename_i e; exact ⟨e, h⟩
   ·exact h.elim
  ·rename_i hv
   rw [hv]
   split at h
   ·rename_i e; exact ⟨e, h⟩
   ·exact h.elim
  ·exact h.elim
theorem dstep_of {g : GI} {key : Option Nat} {T : AS → Prop} {c : GI} (hc : c = (match g.ins.adr with | some x => ⟨none, g.gd, .chk x key⟩ | none => ⟨none, g.gd, .un .neg (.f 0)⟩)) (h : gstep P s c (fun s1 => gstep P s1 g T)) : dstep P s ⟨g, some key⟩ T := by
 have key1 : ∀ T, c.dst = none ∧ c.gd = g.gd ∧ (istep P s c T → limOk s g.ins (some key) ∧ T s) := fun T => by
  subst hc
  unfold limOk
  split
  ·exact ⟨rfl, rfl, fun h => istep_chk h⟩
  ·exact ⟨rfl, rfl, fun h => h.elim⟩
 rw [gstep_iff] at h
 rcases h with ⟨h1, h2⟩ | ⟨g', want, b, h1, h2, h3⟩
 ·obtain ⟨e1, e2, e3⟩ := key1 (fun s1 => gstep P s1 g T)
  obtain ⟨h4, h5⟩ := e3 h2
  rw [e2] at h1
  rw [gstep_iff] at h5
  rcases h5 with ⟨_, h5⟩ | ⟨_, _, _, h6, _⟩
  ·exact .inl ⟨h1, h4, h5⟩
  ·rw [h1] at h6; cases h6
 ·obtain ⟨e1, e2, e3⟩ := key1 (fun s1 => gstep P s1 g T)
  rw [e2] at h1
  have gd : ∀ T, gstep P s g T → (b = some want ∧ istep P s g T) ∨ (b ≠ some want ∧ T (s.put g.dst (.tu []))) := fun T h => by
   rw [gstep_iff] at h
   rcases h with ⟨h, _⟩ | ⟨g'', want', b', h3, h4, h5⟩
   ·rw [h1] at h; cases h
   ·rw [h1] at h3; simp only [Option.some.injEq, Prod.mk.injEq] at h3
    obtain ⟨rfl, rfl⟩ := h3
    rw [h2] at h4; simp only [Option.some.injEq] at h4
    subst h4; exact h5
  refine .inr ⟨g', want, b, h1, h2, ?_⟩
  rcases h3 with ⟨h3, h4⟩ | ⟨h3, h4⟩
  ·obtain ⟨h5, h6⟩ := e3 h4
   rcases gd T h6 with ⟨_, h7⟩ | ⟨h7, _⟩
   ·exact .inl ⟨h3, h5, h7⟩
   ·exact absurd h3 h7
  ·rw [e1] at h4
   rcases gd T h4 with ⟨h7, _⟩ | ⟨_, h7⟩
   ·exact absurd h7 h3
   ·exact .inr ⟨h3, h7⟩
theorem dstep_of_none {g : GI} {T : AS → Prop} (h : gstep P s g T) : dstep P s ⟨g, none⟩ T := by
 rw [gstep_iff] at h
 rcases h with ⟨h1, h2⟩ | ⟨g', want, b, h1, h2, ⟨h3, h4⟩ | ⟨h3, h4⟩⟩
 ·exact .inl ⟨h1, trivial, h2⟩
 ·exact .inr ⟨g', want, b, h1, h2, .inl ⟨h3, trivial, h4⟩⟩
 ·exact .inr ⟨g', want, b, h1, h2, .inr ⟨h3, h4⟩⟩
theorem dops_of {T : AS → Prop} : ∀ (ds : List DI) (s : AS), aops P (inter ds) T s → dops P ds T s
 | [], _, h => h
 | ⟨g, none⟩ :: l, s, h => dstep_mono (fun s h => dops_of l s h) (dstep_of_none h)
 | ⟨g, some key⟩ :: l, s, h => dstep_mono (fun s h => dops_of l s h) (dstep_of rfl h)
def drawOk (ops : List Oper) (gs : List DI) : Bool := ancOk ops (ancs ops) && pairsOk gs (ancs ops)
theorem anc_listed {ops : Array Oper} {an : List (List Nat)} (hok : ancOk ops.toList an = true) {listed : Array Bool} (closed : ∀ j oj, ops[j]? = some oj → listed.getD j false = true → ∀ e ∈ oj.after, Region.binds .any e = true → listed.getD e.on false = true) :
  ∀ (i : Nat) (o : Oper), ops[i]? = some o → (∀ e ∈ o.after, Region.binds .any e = true → listed.getD e.on false = true) → ∀ j ∈ an.getD i [], listed.getD j false = true := by
 intro i
 induction i using Nat.strongRecOn with
 | _ i ih =>
  intro o ho hall j hj
  have hlt : i < ops.size := (Array.getElem?_eq_some_iff.1 ho).1
  have h1 := List.all_eq_true.1 hok i (List.mem_range.2 (by simpa using hlt))
  have ho' : ops.toList[i]? = some o := by simpa using ho
  rw [ho'] at h1
  simp only [Bool.and_eq_true] at h1
  obtain ⟨e, he, h2⟩ := List.any_eq_true.1 (List.all_eq_true.1 h1.2 j hj)
  simp only [Bool.and_eq_true, Bool.or_eq_true, beq_iff_eq, List.contains_eq_mem, decide_eq_true_eq] at h2
  have he' : e ∈ o.after := by simpa using he
  have h3 := hall e he' h2.1
  have hlow : e.on < i := by
   have := List.all_eq_true.1 h1.1 e he
   simp only [h2.1, Bool.not_true, Bool.false_or, decide_eq_true_eq] at this
   exact this
  rcases h2.2 with h4 | h4
  ·rw [← h4]; exact h3
  ·cases hoe : ops[e.on]? with
   | none => have := Array.getElem?_eq_none_iff.1 hoe; omega
   | some oe => exact ih e.on hlow oe hoe (closed e.on oe hoe h3) j h4
variable {w0 w : World} {okA : Nat → Prop} {ext : Ext} {N : Nat} {a : Act} {E : Env} {Q : Exit → Act → World → Prop} {ops : Array Oper} [hT : Tabs P w0 okA ext]
def unl (n : Nat) (listed : Array Bool) : List Nat := (List.range n).filter fun i => !listed.getD i true
theorem mem_unl {n i : Nat} {listed : Array Bool} : i ∈ unl n listed ↔ i < n ∧ listed.getD i true = false := by
 unfold unl; rw [List.mem_filter, List.mem_range]; simp
theorem unl_split {n i : Nat} {listed : Array Bool} (hn : listed.size = n) (hi : i ∈ unl n listed) : ∃ A B, unl n listed = A ++ i :: B ∧ unl n (listed.setIfInBounds i true) = A ++ B ∧ ∀ j ∈ A, j < i := by
 obtain ⟨hlt, hu⟩ := mem_unl.1 hi
 have hr : List.range n = List.range i ++ i :: (List.range (n - (i + 1))).map (· + (i + 1)) := by
  have h1 : n = i + (1 + (n - (i + 1))) := by omega
  conv => lhs; rw [h1]
  rw [List.range_add, List.range_add]
  simp [List.map_map, Function.comp_def, List.range_succ, Nat.add_assoc, Nat.add_comm, Nat.add_left_comm]
 refine ⟨(List.range i).filter fun j => !listed.getD j true, ((List.range (n - (i + 1))).map (· + (i + 1))).filter fun j => !listed.getD j true, ?_, ?_, fun j hj => List.mem_range.1 (List.mem_filter.1 hj).1⟩
 ·unfold unl
  rw [hr, List.filter_append, List.filter_cons]
  simp [hu]
 ·unfold unl
  rw [hr, List.filter_append, List.filter_cons]
  have hi2 : (listed.setIfInBounds i true).getD i true = true := by
   rw [Array.getD_eq_getD_getElem?, Array.getElem?_setIfInBounds]; simp; split <;> rfl
  rw [hi2]
  simp only [Bool.not_true, Bool.false_eq_true, if_false]
  congr 1
  ·refine List.filter_congr fun j hj => ?_
   rw [getD_set_ne true (by have := List.mem_range.1 hj; omega)]
  ·refine List.filter_congr fun j hj => ?_
   obtain ⟨k, _, rfl⟩ := List.mem_map.1 hj
   rw [getD_set_ne true (by omega)]
theorem listed_of {n i : Nat} {listed : Array Bool} (hn : listed.size = n) (hlt : i < n) (h : i ∉ unl n listed) : listed.getD i false = true := by
 have h1 : listed.getD i true ≠ false := fun e => h (mem_unl.2 ⟨hlt, e⟩)
 have hs : i < listed.size := by omega
 simp [hs] at h1 ⊢
 exact h1
theorem any_sound {ca : List (Nat × CAnn)} {T : AS → Prop} (hgs : ops.toList.mapM (compileGI P N ca ops) = some (gs.map DI.g)) {an : List (List Nat)} (hok : ancOk ops.toList an = true) (hp : pairsOk gs an = true)
  (hT : ∀ s a w E, St w0 okA ext N s a w E → T s → Q .normal a w) : ∀ (fuel : Nat) (listed : Array Bool) (s : AS) (a : Act) (w : World) (E : Env), listed.size = ops.size → (unl ops.size listed).length = fuel →
  (∀ j oj, ops[j]? = some oj → listed.getD j false = true → ∀ e ∈ oj.after, Region.binds .any e = true → listed.getD e.on false = true) →
  St w0 okA ext N s a w E → aopsL P gs (unl ops.size listed) T s → wpAny P .any ops Q fuel listed a w := by
 intro fuel
 induction fuel with
 | zero =>
  intro listed s a w E hn hl hc hst h
  have hnil : unl ops.size listed = [] := List.eq_nil_of_length_eq_zero hl
  rw [hnil] at h
  refine ⟨?_, hT s a w E hst h⟩
  cases hr : Region.ready .any ops listed with
  | nil => rfl
  | cons i l =>
   have hi : i ∈ Region.ready .any ops listed := by rw [hr]; simp
   obtain ⟨h0, o, ho, _⟩ := mem_ready.1 hi
   have : i ∈ unl ops.size listed := mem_unl.2 ⟨(Array.getElem?_eq_some_iff.1 ho).1, h0⟩
   rw [hnil] at this; cases this
 | succ fuel ih =>
  intro listed s a w E hn hl hc hst h
  refine ⟨fun hr => ?_, fun i hi => ?_⟩
  ·exfalso
   obtain ⟨i, L, hL⟩ : ∃ i L, unl ops.size listed = i :: L := by cases hu : unl ops.size listed with | nil => rw [hu] at hl; cases hl | cons i L => exact ⟨i, L, rfl⟩
   have hi : i ∈ unl ops.size listed := by rw [hL]; simp
   obtain ⟨A, B, hA, _, hlow⟩ := unl_split hn hi
   obtain ⟨hlt, hu⟩ := mem_unl.1 hi
   have hAn : A = [] := by
    cases A with
    | nil => rfl
    | cons k A =>
     rw [hL] at hA; simp only [List.cons_append, List.cons.injEq] at hA
     have := hlow k (by simp); omega
   have hready : i ∈ Region.ready .any ops listed := by
    refine mem_ready.2 ⟨hu, ops[i], Array.getElem?_eq_getElem hlt, fun e he hb => ?_⟩
    have h1 := List.all_eq_true.1 hok i (List.mem_range.2 (by simpa using hlt))
    have ho' : ops.toList[i]? = some ops[i] := by simp [hlt]
    rw [ho'] at h1
    simp only [Bool.and_eq_true] at h1
    have h2 := List.all_eq_true.1 h1.1 e (by simpa using he)
    simp only [hb, Bool.not_true, Bool.false_or, decide_eq_true_eq] at h2
    refine listed_of hn (by omega) fun hm => ?_
    rw [hA, hAn] at hm
    simp only [List.nil_append, List.mem_cons] at hm
    rcases hm with hm | hm
    ·omega
    ·have hs : (unl ops.size listed).Pairwise (· < ·) := List.Pairwise.filter _ List.pairwise_lt_range
     rw [hA, hAn] at hs
     have := (List.pairwise_cons.1 hs).1 e.on hm
     omega
   rw [hr] at hready; cases hready
  ·obtain ⟨h0, o, ho, hall⟩ := mem_ready.1 hi
   have hlt : i < ops.size := (Array.getElem?_eq_some_iff.1 ho).1
   have hm : i ∈ unl ops.size listed := mem_unl.2 ⟨hlt, h0⟩
   obtain ⟨A, B, hA, hA2, hlow⟩ := unl_split hn hm
   rw [hA] at h
   have hglen : gs.length = ops.size := by have := mapM_len hgs; simpa using this
   have hind : ∀ j ∈ A, indepAt gs j i = true := fun j hj => by
    have h1 := List.all_eq_true.1 (List.all_eq_true.1 hp i (List.mem_range.2 (by omega))) j (List.mem_range.2 (hlow j hj))
    simp only [Bool.or_eq_true, List.contains_eq_mem, decide_eq_true_eq] at h1
    rcases h1 with h1 | h1
    ·have h2 := anc_listed hok hc i o ho hall j h1
     have h3 : j ∈ unl ops.size listed := by rw [hA]; simp [hj]
     have h4 := (mem_unl.1 h3)
     have hs : j < listed.size := by omega
     simp [hs] at h2 h4
     rw [h2] at h4; simp at h4
    ·exact h1
   have h5 := toFront hind h
   obtain ⟨g, hg⟩ : ∃ g, gs[i]? = some g := ⟨gs[i]'(by omega), List.getElem?_eq_getElem _⟩
   have hcg : compileGI P N ca ops o = some g.g := by
    have := mapM_at hgs (i := i) (x := o) (by simpa using ho)
    rw [List.getElem?_map, hg] at this; exact this.symm
   simp only [gAt, hg] at h5
   have hclosed : ∀ j oj, ops[j]? = some oj → (listed.setIfInBounds i true).getD j false = true → ∀ e ∈ oj.after, Region.binds .any e = true → (listed.setIfInBounds i true).getD e.on false = true := fun j oj hj hl' e he hb => by
    by_cases hij : i = j
    ·subst hij
     have : oj = o := Option.some.inj (hj.symm.trans ho)
     subst this
     exact getD_set_true (hall e he hb)
    ·rw [getD_set_ne false hij] at hl'
     exact getD_set_true (hc j oj hj hl' e he hb)
   have hlen : (unl ops.size (listed.setIfInBounds i true)).length = fuel := by
    rw [hA2]; rw [hA] at hl; simp only [List.length_append, List.length_cons] at hl ⊢; omega
   have h6 := gstep_sound (Q := Q) (K := wpAny P .any ops Q fuel (listed.setIfInBounds i true)) hst hcg (gstep_mono (fun s1 hs1 a' w' E' hst' => ih (listed.setIfInBounds i true) s1 a' w' E' (by simpa using hn) hlen hclosed hst' (by rw [hA2]; exact hs1)) (dstep_gstep h5))
   unfold wpOp
   rw [ho]
   simp only []
   split
   ·rename_i hw; rw [if_pos hw] at h6; exact .inl h6
   ·rename_i hw; rw [if_neg hw] at h6; exact h6
theorem aopsL_all {T : AS → Prop} : ∀ (l : List DI) (k : Nat) (s : AS), (∀ j, l[j]? = gs[k + j]?) → dops P l T s → aopsL P gs ((List.range l.length).map (k + ·)) T s
 | [], k, s, _, h => h
 | g :: l, k, s, hl, h => by
  have hk : gs[k]? = some g := by simpa using (hl 0).symm
  rw [List.length_cons, List.range_succ_eq_map, List.map_cons]
  simp only [aopsL, gAt, Nat.add_zero, hk]
  refine dstep_mono (fun s1 h1 => ?_) h
  have := aopsL_all l (k + 1) s1 (fun j => by have := hl (j + 1); simpa [Nat.add_assoc, Nat.add_comm 1 j] using this) h1
  have e : List.map (k + ·) (List.map Nat.succ (List.range l.length)) = (List.range l.length).map (k + 1 + ·) := by
   rw [List.map_map]; refine List.map_congr_left fun j _ => ?_; simp; omega
  rw [e]; exact this
/-- One walk in the text's order serves a region that draws its order. -/
theorem draw_sound {ca : List (Nat × CAnn)} {id : Nat} (hm : P.follows .mixedOrders = true) (hgs : ops.toList.mapM (compileGI P N ca ops) = some (gs.map DI.g)) (hok : drawOk ops.toList gs = true) {T : AS → Prop} (h : St w0 okA ext N s a w E)
  (hT : ∀ s a w E, St w0 okA ext N s a w E → T s → Q .normal a w) (ha : aops P (inter gs) T s) : (Code.region id ops true).wp P Q a w := by
 simp only [drawOk, Bool.and_eq_true] at hok
 have hglen : gs.length = ops.size := by have := mapM_len hgs; simpa using this
 refine wp_region_any hm ?_
 have hst : St w0 okA ext N s a { w with drawn := w.drawn + 1 } E := h.grown ⟨rfl, rfl, rfl, Nat.le_refl _, fun _ _ _ => rfl⟩
 have hunl : unl ops.size (Array.replicate ops.size false) = List.range ops.size := by
  unfold unl
  rw [List.filter_eq_self]
  intro i hi
  have := List.mem_range.1 hi
  simp [this]
 refine any_sound hgs hok.1 hok.2 hT ops.size _ s a _ E (by simp) (by rw [hunl]; simp) (fun j oj _ hl => ?_) hst ?_
 ·exfalso
  rcases Nat.lt_or_ge j ops.size with h' | h'
  ·simp [h'] at hl
  ·simp [h'] at hl
 ·rw [hunl]
  have := aopsL_all (P := P) (gs := gs) (T := T) gs 0 s (by simp) (dops_of gs s ha)
  rw [hglen] at this
  simpa using this
end
end Go.Ai
