/- The abstract layer: a region that draws its order, served by its one walk in the text's order. -/
import Derived.Test.YtbhgndiboeppeaaGreatDoorAiC
import Derived.Orders
set_option linter.all false
namespace Go.Ai
open Go
def Opd.slot : Opd → List Nat
 | .t n => [n]
 | .b n => [n]
 | .s n => [n]
 | _ => []
def Ins.reads : Ins → List Nat
 | .mv x => x.slot
 | .box x => x.slot
 | .load _ _ x => x.slot
 | .nilchk x => x.slot
 | .un _ x => x.slot
 | .conv _ x => x.slot
 | .fadr _ x => x.slot
 | .extr x _ => x.slot
 | .len x => x.slot
 | .slen x => x.slot
 | .pick a b c => a.slot ++ (b.slot ++ c.slot)
 | .alloc _ => []
 | .build _ ps => ps.flatMap fun p => p.2.2.slot
 | .bslice _ _ ps => ps.flatMap Opd.slot
 | .store _ a b => a.slot ++ b.slot
 | .bin _ a b => a.slot ++ b.slot
 | .eqs _ _ _ a b => a.slot ++ b.slot
 | .iadr _ a b => a.slot ++ b.slot
 | .idx a b => a.slot ++ b.slot
 | .mnx _ a b => a.slot ++ b.slot
 | .append _ _ _ a b => a.slot ++ b.slot
 | .mkfn _ cs => cs.flatMap Opd.slot
 | .slc _ x l h => x.slot ++ ((l.map Opd.slot).getD [] ++ (h.map Opd.slot).getD [])
 | .call f xs => f.slot ++ xs.flatMap Opd.slot
 | .callx f xs => f.slot ++ xs.flatMap Opd.slot
 | .callm f xs _ => f.slot ++ xs.flatMap Opd.slot
 | .sfx _ a b => a.slot ++ b.slot
 | .trn _ a b => a.slot ++ b.slot
 | .clr _ _ _ a => a.slot
 | .mkr _ _ _ _ a b => a.slot ++ b.slot
 | .mkm _ => []
 | .mup _ a b c => a.slot ++ (b.slot ++ c.slot)
 | .mlk _ _ _ _ a b => a.slot ++ b.slot
 | .aadr _ _ a b => a.slot ++ b.slot
 | .ssub x l h => x.slot ++ ((l.map Opd.slot).getD [] ++ (h.map Opd.slot).getD [])
 | .chk x _ => x.slot
def Ins.vl : Ins → Bool
 | .alloc _ => false
 | .box _ => false
 | .store _ _ _ => false
 | .append _ _ _ _ _ => false
 | .call _ _ => false
 | .callx _ _ => false
 | .callm _ _ _ => false
 | .trn _ _ _ => false
 | .clr _ _ _ _ => false
 | .mkr _ _ _ _ _ _ => false
 | .mkm _ => false
 | .mup _ _ _ _ => false
 | _ => true
def Ins.rds : Ins → Bool
 | .load _ _ _ => true
 | .len _ => true
 | .iadr _ _ _ => true
 | .fadr _ _ => true
 | .nilchk _ => true
 | .append _ _ _ _ _ => true
 | .store _ _ _ => true
 | .alloc _ => true
 | .box _ => true
 | .call _ _ => true
 | .callx _ _ => true
 | .callm _ _ _ => true
 | .slc _ _ (some _) (some _) => true
 | .sfx _ _ _ => true
 | .trn _ _ _ => true
 | .clr _ _ _ _ => true
 | .mkr _ _ _ _ _ _ => true
 | .mkm _ => true
 | .mup _ _ _ _ => true
 | .mlk _ _ _ _ _ _ => true
 | _ => false
def SRes.map (f : AS → AS) : SRes → SRes
 | .ok s => .ok (f s)
 | .need p s => .need p (f s)
 | .bad => .bad
def D6 (d : Option Nat) (e : Bool) (s' r : AS) : AS := ⟨fun t => if d = some t then r.tm t else s'.tm t, if e then r.bx else s'.bx, if e then r.rw else s'.rw⟩
section
variable {P : Program} {s s' : AS} {d : Option Nat}
theorem j6 {x : Opd} (h : ∀ t ∈ x.slot, s'.tm t = s.tm t) : s'.ev x = s.ev x := by
 cases x with
 | t n => exact h n (by simp [Opd.slot])
 | b n => simp only [AS.ev]; rw [h n (by simp [Opd.slot])]
 | s n => simp only [AS.ev]; rw [h n (by simp [Opd.slot])]
 | v x => rfl
 | f n => rfl
theorem a2D {α β : Type} {f g : β → α → β} : ∀ {l : List α} {b : β}, (∀ b, ∀ a ∈ l, f b a = g b a) → l.foldl f b = l.foldl g b
 | [], b, _ => rfl
 | a :: l, b, h => by simp only [List.foldl_cons]; rw [h b a (by simp)]; exact a2D fun b a ha => h b a (by simp [ha])
theorem a2a {α β : Type} {f g : α → Option β} : ∀ {l : List α}, (∀ a ∈ l, f a = g a) → l.mapM f = l.mapM g
 | [], _ => rfl
 | a :: l, h => by simp only [List.mapM_cons]; rw [h a (by simp), a2a fun a ha => h a (by simp [ha])]
theorem b5N {α β : Type} {f g : α → β} {l : List α} (h : ∀ a ∈ l, f a = g a) : l.map f = l.map g := List.map_congr_left h
theorem f8 {e : Bool} {v : Val} (he : e = false) : D6 d e s' (s.put d v) = s'.put d v := by
 subst he
 cases d with
 | none => simp [D6, AS.put]
 | some k =>
  simp only [D6, AS.put, Bool.false_eq_true, if_false, AS.mk.injEq, and_true]
  funext t
  simp only [upd, Option.some.injEq]
  all_goals grind
theorem a9v (hb : s'.bx = s.bx) (hr : s'.rw = s.rw) : s'.view = s.view := by
 cases s; cases s'; simp only at hb hr; subst hb; subst hr
 funext x
 cases x <;> rfl
theorem a9j {op : BinOp} {x y : Val} : M4 s' d op x y = (M4 s d op x y).map (D6 d false s') := by
 unfold M4
 split
 ·split <;> (try split) <;> simp only [SRes.map, f8]
 ·split <;> simp only [SRes.map, f8]
 ·rfl
theorem F2 {agg : Bool} {n : Nat} {cs : List Cel} : Q1 s' d agg n cs = (Q1 s d agg n cs).map (D6 d false s') := by
 unfold Q1
 split
 ·simp only [SRes.map, f8]
 ·cases cs <;> simp only [SRes.map, f8]
theorem P0 {i : Ins} (hv : i.vl = true) (ht : ∀ t ∈ i.reads, s'.tm t = s.tm t) (hb : i.rds = true → s'.bx = s.bx ∧ s'.rw = s.rw) : c9 d i s' = (c9 d i s).map (D6 d false s') := by
 cases i with
 | mv x => simp only [c9, j6 (x := x) ht, SRes.map, f8]
 | pick a b c => rfl
 | alloc z => cases hv
 | box x => cases hv
 | store n a b => cases hv
 | append E z b x y => cases hv
 | call f xs => cases hv
 | callx f xs => cases hv
 | callm f xs m => cases hv
 | trn z x y => cases hv
 | clr E z zero x => cases hv
 | mkr E z b zero n c => cases hv
 | mkm kc => cases hv
 | mup kc x y z => cases hv
 | mlk kc zero ok zn x y =>
  have h1 := j6 (x := x) (s := s) (s' := s') fun t h => ht t (by simp [Ins.reads, h])
  have h2 := j6 (x := y) (s := s) (s' := s') fun t h => ht t (by simp [Ins.reads, h])
  obtain ⟨h3, h4⟩ := hb rfl
  simp only [c9, h1, h2, h3, h4]
  split
  ·split
   ·split <;> simp only [SRes.map, f8]
   ·rfl
  ·split <;> simp only [SRes.map, f8]
  ·rfl
 | sfx z x y =>
  have h1 := j6 (x := x) (s := s) (s' := s') fun t h => ht t (by simp [Ins.reads, h])
  have h2 := j6 (x := y) (s := s) (s' := s') fun t h => ht t (by simp [Ins.reads, h])
  obtain ⟨h3, h4⟩ := hb rfl
  simp only [c9, h1, h2, h3, h4]
  split
  ·split
   ·split <;> simp only [SRes.map, f8]
   ·rfl
  ·rfl
 | build zero ps =>
  have h1 : ∀ p ∈ ps, s'.ev p.2.2 = s.ev p.2.2 := fun p hp => j6 fun t h => ht t (List.mem_flatMap.2 ⟨p, hp, h⟩)
  simp only [c9]
  rw [a2D (fun b a ha => by rw [h1 a ha])]
  generalize ps.foldl _ _ = r
  cases r <;> simp only [SRes.map, f8]
 | bslice z n ps =>
  have h1 : ∀ p ∈ ps, s'.ev p = s.ev p := fun p hp => j6 fun t h => ht t (List.mem_flatMap.2 ⟨p, hp, h⟩)
  simp only [c9]
  rw [a2a (fun a ha => by rw [h1 a ha])]
  generalize (ps.mapM fun p => u4 (s.ev p)) = r
  cases r with
  | none => rfl
  | some es => simp only []; split <;> simp only [SRes.map, f8]
 | load a n x =>
  have h1 := j6 (x := x) ht
  obtain ⟨h2, h3⟩ := hb rfl
  simp only [c9, h1, h2, h3]
  split
  ·split
   ·exact F2
   ·rfl
  ·exact F2
  ·split
   ·split
    ·split
     ·exact F2
     ·rfl
    ·rfl
   ·rfl
  ·rfl
 | nilchk x =>
  have h1 := j6 (x := x) ht
  obtain ⟨h2, h3⟩ := hb rfl
  simp only [c9, h1, h2, h3]
  split
  ·simp only [SRes.map, f8]
  ·simp only [SRes.map, f8]
  ·split
   ·split <;> simp only [SRes.map, f8]
   ·rfl
  ·rfl
 | bin op x y =>
  have h1 := j6 (x := x) (s := s) (s' := s') fun t h => ht t (by simp [Ins.reads, h])
  have h2 := j6 (x := y) (s := s) (s' := s') fun t h => ht t (by simp [Ins.reads, h])
  simp only [c9, h1, h2]
  exact a9j
 | eqs b g ks x y =>
  have h1 := j6 (x := x) (s := s) (s' := s') fun t h => ht t (by simp [Ins.reads, h])
  have h2 := j6 (x := y) (s := s) (s' := s') fun t h => ht t (by simp [Ins.reads, h])
  simp only [c9, h1, h2]
  split <;> simp only [SRes.map, f8]
 | un op x =>
  have h1 := j6 (x := x) ht
  simp only [c9, h1]
  split <;> simp only [SRes.map, f8]
 | conv k x =>
  have h1 := j6 (x := x) ht
  simp only [c9, h1]
  split <;> simp only [SRes.map, f8]
 | mkfn f cs =>
  have h1 : ∀ p ∈ cs, s'.ev p = s.ev p := fun p hp => j6 fun t h => ht t (List.mem_flatMap.2 ⟨p, hp, h⟩)
  simp only [c9]
  rw [a2a (fun a ha => by rw [h1 a ha])]
  generalize (cs.mapM fun p => match s.ev p with | .one (.bx k off) => some (Cel.bx k off) | .one (.g v) => some (Cel.g v) | _ => none) = r
  cases r <;> simp only [SRes.map, f8]
 | slc z x lo hi =>
  have h1 := j6 (x := x) (s := s) (s' := s') fun t h => ht t (by simp [Ins.reads, h])
  have h2 : lo.map s'.ev = lo.map s.ev := by
   cases lo with
   | none => rfl
   | some l => simp only [Option.map_some]; rw [j6 (x := l) (s := s) (s' := s') fun t h => ht t (by simp [Ins.reads, h])]
  have h3 : hi.map s'.ev = hi.map s.ev := by
   cases hi with
   | none => rfl
   | some l => simp only [Option.map_some]; rw [j6 (x := l) (s := s) (s' := s') fun t h => ht t (by simp [Ins.reads, h])]
  cases lo with
  | none =>
   simp only [c9, h1, h2, h3]
   simp only [Option.map_none]
   split <;> (try split) <;> first | contradiction | simp only [SRes.map, f8]
  | some l =>
   cases hi with
   | none =>
    simp only [c9, h1, h2, h3]
    simp only [Option.map_none, Option.map_some]
    split <;> (try split) <;> first | contradiction | simp only [SRes.map, f8]
   | some m =>
    obtain ⟨h4, h5⟩ := hb rfl
    simp only [c9, h1, h2, h3, h5]
    split <;> (try split) <;> (try split) <;> simp only [SRes.map, f8]
 | ssub x lo hi =>
  have h1 := j6 (x := x) (s := s) (s' := s') fun t h => ht t (by simp [Ins.reads, h])
  have h2 : lo.map s'.ev = lo.map s.ev := by
   cases lo with
   | none => rfl
   | some l => simp only [Option.map_some]; rw [j6 (x := l) (s := s) (s' := s') fun t h => ht t (by simp [Ins.reads, h])]
  have h3 : hi.map s'.ev = hi.map s.ev := by
   cases hi with
   | none => rfl
   | some l => simp only [Option.map_some]; rw [j6 (x := l) (s := s) (s' := s') fun t h => ht t (by simp [Ins.reads, h])]
  simp only [c9, h1, h2, h3]
  split <;> simp only [SRes.map, f8]
 | aadr n z x i =>
  have h1 := j6 (x := x) (s := s) (s' := s') fun t h => ht t (by simp [Ins.reads, h])
  have h2 := j6 (x := i) (s := s) (s' := s') fun t h => ht t (by simp [Ins.reads, h])
  simp only [c9, h1, h2]
  split <;> simp only [SRes.map, f8]
 | fadr o x =>
  have h1 := j6 (x := x) ht
  obtain ⟨h2, h3⟩ := hb rfl
  simp only [c9, h1, h2, h3]
  split
  ·simp only [SRes.map, f8]
  ·simp only [SRes.map, f8]
  ·split
   ·split <;> simp only [SRes.map, f8]
   ·rfl
  ·rfl
 | iadr z x i =>
  have h1 := j6 (x := x) (s := s) (s' := s') fun t h => ht t (by simp [Ins.reads, h])
  have h2 := j6 (x := i) (s := s) (s' := s') fun t h => ht t (by simp [Ins.reads, h])
  obtain ⟨h3, h4⟩ := hb rfl
  simp only [c9, h1, h2, h3, h4]
  split
  ·split <;> simp only [SRes.map, f8]
  ·split
   ·split <;> simp only [SRes.map, f8]
   ·rfl
  ·split
   ·split <;> simp only [SRes.map, f8]
   ·rfl
  ·rfl
 | idx x i =>
  have h1 := j6 (x := x) (s := s) (s' := s') fun t h => ht t (by simp [Ins.reads, h])
  have h2 := j6 (x := i) (s := s) (s' := s') fun t h => ht t (by simp [Ins.reads, h])
  simp only [c9, h1, h2]
  split <;> simp only [SRes.map, f8]
 | extr x n =>
  have h1 := j6 (x := x) ht
  simp only [c9, h1]
  split
  ·split <;> simp only [SRes.map, f8]
  ·rfl
 | chk x key =>
  have h1 := j6 (x := x) ht
  cases key with
  | none => simp only [c9, h1]; split <;> simp only [SRes.map, f8]
  | some k => simp only [c9, h1]; split <;> (try split) <;> simp only [SRes.map, f8]
 | len x =>
  have h1 := j6 (x := x) ht
  obtain ⟨h2, h3⟩ := hb rfl
  simp only [c9, h1, h2, h3]
  split
  ·simp only [SRes.map, f8]
  ·simp only [SRes.map, f8]
  ·split
   ·split <;> simp only [SRes.map, f8]
   ·rfl
  ·split
   ·split <;> simp only [SRes.map, f8]
   ·rfl
  ·rfl
 | slen x =>
  have h1 := j6 (x := x) ht
  simp only [c9, h1]
  split <;> simp only [SRes.map, f8]
 | mnx b x y =>
  have h1 := j6 (x := x) (s := s) (s' := s') fun t h => ht t (by simp [Ins.reads, h])
  have h2 := j6 (x := y) (s := s) (s' := s') fun t h => ht t (by simp [Ins.reads, h])
  simp only [c9, h1, h2]
  split <;> simp only [SRes.map, f8]
theorem b9E {r : SRes} {f : AS → AS} {T : AS → Prop} : q9 (r.map f) T ↔ q9 r (fun s => T (f s)) := by
 cases r <;> exact Iff.rfl
theorem a1W {i : Ins} (hv : i.vl = true) : c9 d i s = (c9 d i s).map (D6 d false s) := P0 hv (fun _ _ => rfl) (fun _ => ⟨rfl, rfl⟩)
theorem D7 {k : Nat} {v u : Val} (h : d ≠ some k) : (s.put (some k) v).put d u = (s.put d u).put (some k) v := by
 cases d with
 | none => rfl
 | some j =>
  have hj : j ≠ k := fun e => h (by rw [e])
  simp only [AS.put, AS.mk.injEq, and_true]
  funext t
  simp only [upd]
  all_goals grind
theorem C5 {k : Nat} {v : Val} {x : Opd} (h : k ∉ x.slot) : (s.put (some k) v).ev x = s.ev x := j6 fun t ht => l5 s.tm v fun e => h (by subst e; exact ht)
theorem P3 {k : Nat} {v : Val} : (s.put (some k) v).bx = s.bx := rfl
theorem Y3 {k : Nat} {v : Val} : (s.put (some k) v).rw = s.rw := rfl
theorem c4t {k z : Nat} {v : Val} : (s.put (some k) v).src z = s.src z := by
 funext x; rfl
theorem a6Y {k : Nat} {v : Val} : (s.put (some k) v).view = s.view := a9v rfl rfl
theorem K6 {α : Type} {f : Nat → α} {k j : Nat} {v u : α} (h : j ≠ k) : upd (upd f k v) j u = upd (upd f j u) k v := by
 funext t
 simp only [upd]
 all_goals grind
theorem b1p {i : Ins} {k : Nat} {v : Val} (hk : k ∉ i.reads) (hd : d ≠ some k) : c9 d i (s.put (some k) v) = (c9 d i s).map (·.put (some k) v) := by
 by_cases hv : i.vl = true
 ·rw [P0 hv (s := s) (s' := s.put (some k) v) (fun t ht => l5 s.tm v (k := k) (j := t) fun e => hk (by subst e; exact ht)) (fun _ => ⟨rfl, rfl⟩)]
  have h1 : c9 d i s = _ := a1W (s := s) (d := d) hv
  have key : ∀ r, D6 d false (s.put (some k) v) (D6 d false s r) = (D6 d false s r).put (some k) v := by
   intro r
   simp only [D6, AS.put, Bool.false_eq_true, if_false, AS.mk.injEq, and_true]
   funext t
   simp only [upd]
   all_goals grind
  revert h1
  generalize c9 d i s = r
  intro h1
  cases r with
  | bad => rfl
  | ok r => simp only [SRes.map, SRes.ok.injEq] at h1 ⊢; rw [h1]; exact key _
  | need p r => simp only [SRes.map, SRes.need.injEq, true_and] at h1 ⊢; rw [h1]; exact key _
 ·cases i with
  | alloc z =>
   simp only [c9, P3]
   cases d with
   | none => rfl
   | some j =>
    have hj : j ≠ k := fun e => hd (by rw [e])
    simp only []
    split
    ·split
     ·rfl
     ·simp only [SRes.map, AS.put, K6 hj]
    ·rfl
  | box x =>
   simp only [c9, P3, C5 (x := x) hk]
   cases d with
   | none => rfl
   | some j =>
    have hj : j ≠ k := fun e => hd (by rw [e])
    cases u4 (s.ev x) with
    | none => rfl
    | some cs =>
     simp only []
     split
     ·split
      ·rfl
      ·simp only [SRes.map, AS.put, K6 hj]
     ·rfl
  | store n a b =>
   have ha : k ∉ a.slot := fun h => hk (by simp [Ins.reads, h])
   have hb : k ∉ b.slot := fun h => hk (by simp [Ins.reads, h])
   have hput : ∀ (bx : Nat → Option (List Cel)) (rw : Nat → Option Row), ({ s.put (some k) v with bx := bx, rw := rw } : AS).put d .any = (({ s with bx := bx, rw := rw } : AS).put d .any).put (some k) v := fun bx rw => D7 (s := { s with bx := bx, rw := rw }) hd
   simp only [c9, P3, Y3, C5 ha, C5 hb]
   split
   ·split
    ·split
     ·simp only [SRes.map, SRes.need.injEq, true_and]; exact hput _ _
     ·rfl
    ·rfl
   ·split
    ·split
     ·split
      ·simp only [SRes.map, SRes.need.injEq, true_and]; exact hput _ _
      ·rfl
     ·rfl
    ·rfl
   ·rfl
  | append E z b x y =>
   have ha : k ∉ x.slot := fun h => hk (by simp [Ins.reads, h])
   have hb : k ∉ y.slot := fun h => hk (by simp [Ins.reads, h])
   have hput : ∀ (bx : Nat → Option (List Cel)) (rw : Nat → Option Row) (u : Val), ({ s.put (some k) v with bx := bx, rw := rw } : AS).put d u = (({ s with bx := bx, rw := rw } : AS).put d u).put (some k) v := fun bx rw u => D7 (s := { s with bx := bx, rw := rw }) hd
   simp only [c9, P3, Y3, C5 ha, C5 hb, c4t]
   split
   ·split
    ·split
     ·simp only [SRes.map, SRes.need.injEq, true_and]; exact hput _ _ _
     ·rfl
    ·rfl
   ·rfl
  | call f xs => rfl
  | callx f xs => rfl
  | callm f xs m => rfl
  | trn z x y =>
   have ha : k ∉ x.slot := fun h => hk (by simp [Ins.reads, h])
   have hb : k ∉ y.slot := fun h => hk (by simp [Ins.reads, h])
   have hput : ∀ (bx : Nat → Option (List Cel)) (rw : Nat → Option Row) (u : Val), ({ s.put (some k) v with bx := bx, rw := rw } : AS).put d u = (({ s with bx := bx, rw := rw } : AS).put d u).put (some k) v := fun bx rw u => D7 (s := { s with bx := bx, rw := rw }) hd
   simp only [c9, P3, Y3, C5 ha, C5 hb]
   split
   ·split
    ·split
     ·simp only [SRes.map, SRes.need.injEq, true_and]; exact hput _ _ _
     ·rfl
    ·rfl
   ·rfl
  | clr E z zero x =>
   have ha : k ∉ x.slot := fun h => hk h
   have hput : ∀ (bx : Nat → Option (List Cel)) (rw : Nat → Option Row) (u : Val), ({ s.put (some k) v with bx := bx, rw := rw } : AS).put d u = (({ s with bx := bx, rw := rw } : AS).put d u).put (some k) v := fun bx rw u => D7 (s := { s with bx := bx, rw := rw }) hd
   simp only [c9, P3, Y3, C5 ha]
   split
   ·split
    ·split
     ·simp only [SRes.map, SRes.ok.injEq]; exact hput _ _ _
     ·rfl
    ·rfl
   ·rfl
  | mkm kc =>
   simp only [c9, P3, Y3]
   cases d with
   | none => rfl
   | some j =>
    have hj : j ≠ k := fun e => hd (by rw [e])
    simp only []
    split
    ·split
     ·simp only [SRes.map, AS.put, K6 hj]
     ·rfl
    ·rfl
  | mup kc x y z =>
   have ha : k ∉ x.slot := fun h => hk (by simp [Ins.reads, h])
   have hb : k ∉ y.slot := fun h => hk (by simp [Ins.reads, h])
   have hc : k ∉ z.slot := fun h => hk (by simp [Ins.reads, h])
   have hput : ∀ (bx : Nat → Option (List Cel)) (rw : Nat → Option Row) (u : Val), ({ s.put (some k) v with bx := bx, rw := rw } : AS).put d u = (({ s with bx := bx, rw := rw } : AS).put d u).put (some k) v := fun bx rw u => D7 (s := { s with bx := bx, rw := rw }) hd
   simp only [c9, P3, Y3, C5 ha, C5 hb, C5 hc]
   split
   ·split
    ·split
     ·simp only [SRes.map, SRes.ok.injEq]; exact hput _ _ _
     ·rfl
    ·rfl
   ·rfl
  | mkr E z b zero n c =>
   have ha : k ∉ n.slot := fun h => hk (by simp [Ins.reads, h])
   have hb : k ∉ c.slot := fun h => hk (by simp [Ins.reads, h])
   simp only [c9, P3, Y3, C5 ha, C5 hb]
   cases d with
   | none => rfl
   | some j =>
    have hj : j ≠ k := fun e => hd (by rw [e])
    split
    ·split
     ·split
      ·rename_i e _ _ _ _ _
       injection e with e
       subst e
       simp only [SRes.map, AS.put, K6 hj]
      ·rfl
     ·rfl
    ·rfl
  | _ => exact absurd rfl hv
theorem a5L {k : Nat} {v : Val} {xs : List Opd} (h : k ∉ xs.flatMap Opd.slot) : xs.map (s.put (some k) v).ev = xs.map s.ev :=
 b5N fun x hx => C5 fun hk => h (List.mem_flatMap.2 ⟨x, hx, hk⟩)
theorem b0K {i : GI} {k : Nat} {v : Val} (hk : k ∉ i.ins.reads) (hd : i.dst ≠ some k) {T : AS → Prop} : t8 P (s.put (some k) v) i T ↔ t8 P s i (fun s1 => T (s1.put (some k) v)) := by
 obtain ⟨d, gd, ins⟩ := i
 simp only at hk hd
 have gen : q9 (c9 d ins (s.put (some k) v)) T ↔ q9 (c9 d ins s) (fun s1 => T (s1.put (some k) v)) := by
  rw [b1p hk hd, b9E]
 cases ins with
 | pick c x y =>
  have h1 : k ∉ c.slot := fun h => hk (by simp [Ins.reads, h])
  have h2 : k ∉ x.slot := fun h => hk (by simp [Ins.reads, h])
  have h3 : k ∉ y.slot := fun h => hk (by simp [Ins.reads, h])
  simp only [t8, C5 h1, C5 h2, C5 h3]
  split
  ·split <;> rw [D7 hd]
  ·exact Iff.rfl
 | call f xs =>
  have h1 : k ∉ f.slot := fun h => hk (by simp [Ins.reads, h])
  have h2 : k ∉ xs.flatMap Opd.slot := fun h => hk (List.mem_append_right _ h)
  simp only [t8, C5 h1, a5L h2]
  unfold a4T
  split
  ·rw [a6Y]
   simp only [D7 hd]
  ·exact Iff.rfl
 | callx f xs =>
  have h1 : k ∉ f.slot := fun h => hk (by simp [Ins.reads, h])
  have h2 : k ∉ xs.flatMap Opd.slot := fun h => hk (List.mem_append_right _ h)
  have hput : ∀ (bx : Nat → Option (List Cel)) (u : Val), ({ s.put (some k) v with bx := bx } : AS).put d u = (({ s with bx := bx } : AS).put d u).put (some k) v := fun bx u => D7 (s := { s with bx := bx }) hd
  simp only [t8, C5 h1, a5L h2]
  unfold W9
  split
  ·unfold a6g
   simp only [P3]
   split
   ·have hvc : (s.put (some k) v).viewC = s.viewC := by funext c; cases c <;> rfl
    rw [a6Y, hvc]
    simp only [hput]
   ·exact Iff.rfl
  ·exact Iff.rfl
 | callm f xs m =>
  have h1 : k ∉ f.slot := fun h => hk (by simp [Ins.reads, h])
  have h2 : k ∉ xs.flatMap Opd.slot := fun h => hk (List.mem_append_right _ h)
  simp only [t8, C5 h1, a5L h2]
  unfold a2r
  split
  ·have e1 : okM (s.put (some k) v) m = okM s m := rfl
   have e2 : (s.put (some k) v).hp m = s.hp m := by
    have : (s.put (some k) v).passC m = s.passC m := by funext c; cases c <;> rfl
    simp only [AS.hp, this, P3, Y3]
   have e3 : (s.put (some k) v).passV m = s.passV m := by
    have : (s.put (some k) v).passC m = s.passC m := by funext c; cases c <;> rfl
    funext x; cases x <;> simp only [AS.passV, this]
   have e4 : ∀ H r, ((s.put (some k) v).after m H).put d ((s.put (some k) v).backV m r) = (((s.after m H).put d (s.backV m r)).put (some k) v) := fun H r => by
    have hb : (s.put (some k) v).backC m = s.backC m := by funext c; cases c <;> rfl
    have hb2 : (s.put (some k) v).backV m = s.backV m := by funext x; cases x <;> simp only [AS.backV, hb]
    have h3 : (s.put (some k) v).after m H = (s.after m H).put (some k) v := by
     have p1 : ∀ l b, a5b (s.put (some k) v) m l b = a5b s m l b := by
      intro l; induction l with
      | nil => intro b; rfl
      | cons p l ih => intro b; obtain ⟨j, cs⟩ := p; simp only [a5b, ih, hb]
     have p2 : ∀ l b, a5E (s.put (some k) v) m l b = a5E s m l b := by
      intro l; induction l with
      | nil => intro b; rfl
      | cons p l ih => intro b; obtain ⟨j, cs⟩ := p; simp only [a5E, ih]; rfl
     simp only [AS.after, p1, p2, P3, Y3]; rfl
    rw [hb2, h3, D7 hd]
   rw [e1, e2, e3]
   simp only [e4]
  ·exact Iff.rfl
 | _ => exact gen
theorem c0C {g : Nat} {b : Bool} (h : s.tm g = .one (.g (.bool b))) : s.fix g b = s := by
 have : upd s.tm g (bv b) = s.tm := by
  funext t
  by_cases e : t = g
  ·rw [e, j7, h]
  ·rw [l5 _ _ e]
 unfold AS.fix
 rw [this]
theorem Q7 {i : GI} {T : AS → Prop} : S4 P s i T ↔ (i.gd = none ∧ t8 P s i T) ∨ ∃ g want b, i.gd = some (g, want) ∧ c5Y (s.tm g) = some b ∧ ((b = some want ∧ t8 P s i T) ∨ (b ≠ some want ∧ T (s.put i.dst (.tu [])))) := by
 unfold S4
 cases hg : i.gd with
 | none => simp
 | some p =>
  obtain ⟨g, want⟩ := p
  simp only [reduceCtorEq, false_and, false_or]
  constructor
  ·intro h
   split at h
   ·rename_i b hb
    refine ⟨g, want, some b, rfl, by rw [hb]; rfl, ?_⟩
    have e1 := c0C (s := s) (g := g) (b := b) hb
    grind
   ·rename_i hb
    exact ⟨g, want, none, rfl, by rw [hb]; rfl, .inr ⟨by simp, h⟩⟩
   ·exact h.elim
  ·rintro ⟨g', want', b, he, hb, h⟩
   simp only [Option.some.injEq, Prod.mk.injEq] at he
   obtain ⟨rfl, rfl⟩ := he
   unfold c5Y at hb
   split at hb
   ·rename_i b' hb'
    simp only [Option.some.injEq] at hb; subst hb
    have e1 := c0C (s := s) (g := g) (b := b') hb'
    grind
   ·all_goals grind
   ·cases hb
def GI.reads (g : GI) : List Nat := g.ins.reads ++ (match g.gd with | some (k, _) => [k] | none => [])
abbrev Part := Option (Option (Nat × Bool))
def Part.apart : Part → Part → Bool
 | none, _ => true
 | _, none => true
 | some (some a), some (some b) => decide (a.1 ≠ b.1) && (!a.2 || decide (b.1 ≠ RWK))
 | _, _ => false
def Stay (w : Part) (s s1 : AS) : Prop :=
 match w with
 | none => s1.bx = s.bx ∧ s1.rw = s.rw
 | some none => True
 | some (some k) => (∀ j, j ≠ k.1 → s1.bx j = s.bx j) ∧ (k.1 ≠ RWK → k.2 = false → s1.rw = s.rw)
def Alike (r : Part) (s s1 : AS) : Prop :=
 match r with
 | none => True
 | some none => s1.bx = s.bx ∧ s1.rw = s.rw
 | some (some k) => s1.bx k.1 = s.bx k.1 ∧ (k.1 = RWK → s1.rw = s.rw)
theorem Stay.alike {w r : Part} {s1 : AS} (h : Stay w s s1) (ha : w.apart r = true) : Alike r s s1 := by
 cases r with
 | none => trivial
 | some r =>
  cases w with
  | none => cases r with
   | none => exact h
   | some k => exact ⟨congrFun h.1 k.1, fun _ => h.2⟩
  | some w =>
   cases w with
   | none => cases r <;> cases ha
   | some a => cases r with
    | none => cases ha
    | some b =>
     simp only [Part.apart, Bool.and_eq_true, decide_eq_true_eq, Bool.or_eq_true, Bool.not_eq_true'] at ha
     obtain ⟨hab, hr⟩ := ha
     exact ⟨h.1 b.1 (fun e => hab e.symm), fun e => h.2 (fun e2 => hab (e2.trans e.symm)) (hr.resolve_right fun h2 => h2 e)⟩
theorem Alike.symm {r : Part} {s1 : AS} (h : Alike r s s1) : Alike r s1 s := by
 cases r with
 | none => trivial
 | some r => cases r with
  | none => exact ⟨h.1.symm, h.2.symm⟩
  | some k => exact ⟨h.1.symm, fun e => (h.2 e).symm⟩
def Ins.adr : Ins → Option Opd
 | .load _ _ x => some x
 | .fadr _ x => some x
 | .nilchk x => some x
 | .mlk _ _ _ _ x _ => some x
 | .iadr _ x _ => some x
 | .len x => some x
 | .store _ x _ => some x
 | .callx _ (x :: _) => some x
 | _ => none
def d4Q : Option Nat → Val → Prop
 | none, .one (.os _ _ _) => False
 | none, .one (.ws _ _ _ _) => False
 | none, .one (.bx _ _) => False
 | none, .one (.ow _ _) => False
 | none, .one (.op _ _ _ _) => False
 | none, .one (.mp _) => False
 | none, _ => True
 | some k, .one (.bx j _) => j = k
 | some k, .one (.op _ _ _ _) => k = RWK
 | some _, _ => False
abbrev Lim := Option (Option Nat)
def J3 (s : AS) (i : Ins) : Lim → Prop
 | none => True
 | some l => match i.adr with
  | some x => d4Q l (s.ev x)
  | none => False
def rdP (d : Option Nat) (i : Ins) (l : Lim) : Part :=
 match i with
 | .alloc _ => some (d.map fun k => (k, false))
 | .box _ => some (d.map fun k => (k, false))
 | i => if i.rds then (match l with | none => some none | some none => none | some (some k) => some (some (k, false))) else none
def wrP (d : Option Nat) (i : Ins) (l : Lim) : Part :=
 match i with
 | .alloc _ => some (d.map fun k => (k, false))
 | .box _ => some (d.map fun k => (k, false))
 | .store _ _ _ => (match l with | some (some k) => if k = RWK then some none else some (some (k, false)) | _ => some none)
 | .callx _ _ => (match l with | some (some k) => some (some (k, false)) | _ => some none)
 | .append _ _ _ _ _ => some (some (RWK, false))
 | .callm _ _ m => (match m.obs with | [k] => some (some (k, true)) | _ => some none)
 | .trn _ _ _ => some none
 | .clr _ _ _ _ => some none
 | .mkr _ _ _ _ _ _ => some (some (RWK, false))
 | .mkm _ => some none
 | .mup _ _ _ _ => some none
 | _ => none
theorem V4 {i : Ins} {l : Lim} (ht : ∀ t ∈ i.reads, s'.tm t = s.tm t) : J3 s' i l ↔ J3 s i l := by
 cases l with
 | none => exact Iff.rfl
 | some l =>
  unfold J3
  cases hx : i.adr with
  | none => exact Iff.rfl
  | some x =>
   have : s'.ev x = s.ev x := j6 fun t h => ht t (by
    cases i <;> simp only [Ins.adr, Option.some.injEq, reduceCtorEq] at hx <;> (try subst hx) <;> simp only [Ins.reads, List.mem_append] <;> (try exact h) <;> (try exact .inl h)
    rename_i f xs
    cases xs with
    | nil => cases hx
    | cons y xs => simp only [Option.some.injEq] at hx; subst hx; exact .inr (by simp [h]))
   simp only [this]
theorem a4s {i : Ins} {l : Lim} (hv : i.vl = true) (hl : J3 s i l) (ht : ∀ t ∈ i.reads, s'.tm t = s.tm t) (hb : Alike (rdP d i l) s s') : c9 d i s' = (c9 d i s).map (D6 d false s') := by
 by_cases hr : i.rds = true
 ·cases l with
  | none =>
   refine P0 hv ht fun _ => ?_
   cases i with
   | slc z x lo hi => cases lo <;> cases hi <;> first | exact hb | (cases hr; done)
   | _ => first | (cases hv; done) | exact hb | (cases hr; done)
  | some l =>
   cases i with
   | load ag n x =>
    have h1 := j6 (x := x) ht
    simp only [J3, Ins.adr] at hl
    simp only [c9, h1]
    generalize s.ev x = v at hl
    cases v with
    | one c =>
     cases c with
     | bx k off => cases l with
      | none => exact hl.elim
      | some j =>
       have hj : k = j := hl
       subst hj
       have hb' : s'.bx k = s.bx k := hb.1
       simp only [hb']
       split
       ·exact F2
       ·rfl
     | ep cs => exact F2
     | op k ver i off => cases l with
      | none => exact hl.elim
      | some j =>
       have hj : j = RWK := hl
       have hb' : s'.rw = s.rw := hb.2 hj
       simp only [hb']
       split
       ·split
        ·split
         ·exact F2
         ·rfl
        ·rfl
       ·rfl
     | _ => rfl
    | _ => rfl
   | nilchk x =>
    have h1 := j6 (x := x) ht
    simp only [J3, Ins.adr] at hl
    simp only [c9, h1]
    generalize s.ev x = v at hl
    cases v with
    | one c =>
     cases c with
     | op k ver i off => cases l with
      | none => exact hl.elim
      | some j =>
       have hj : j = RWK := hl
       have hb' : s'.rw = s.rw := hb.2 hj
       simp only [hb']
       split
       ·split
        ·simp only [SRes.map, f8]
        ·rfl
       ·rfl
     | bx k off => simp only [SRes.map, f8]
     | ep cs => simp only [SRes.map, f8]
     | _ => rfl
    | _ => rfl
   | fadr o x =>
    have h1 := j6 (x := x) ht
    simp only [J3, Ins.adr] at hl
    simp only [c9, h1]
    generalize s.ev x = v at hl
    cases v with
    | one c =>
     cases c with
     | op k ver i off => cases l with
      | none => exact hl.elim
      | some j =>
       have hj : j = RWK := hl
       have hb' : s'.rw = s.rw := hb.2 hj
       simp only [hb']
       split
       ·split
        ·simp only [SRes.map, f8]
        ·rfl
       ·rfl
     | bx k off => simp only [SRes.map, f8]
     | ep cs => simp only [SRes.map, f8]
     | _ => rfl
    | _ => rfl
   | iadr z x i =>
    have h1 := j6 (x := x) (s := s) (s' := s') fun t h => ht t (by simp [Ins.reads, h])
    have h2 := j6 (x := i) (s := s) (s' := s') fun t h => ht t (by simp [Ins.reads, h])
    simp only [J3, Ins.adr] at hl
    simp only [c9, h1, h2]
    generalize s.ev x = v at hl
    cases v with
    | one c =>
     cases c with
     | ow k ver => cases l <;> exact hl.elim
     | os k ver lo => cases l <;> exact hl.elim
     | ws k ver lo hi => cases l <;> exact hl.elim
     | sl fr z' es =>
      generalize s.ev i = u
      split
      ·split <;> simp only [SRes.map, f8]
      ·rename_i heq; cases heq
      ·rename_i heq; cases heq
      ·rfl
     | _ => rfl
    | _ => rfl
   | len x =>
    have h1 := j6 (x := x) ht
    simp only [J3, Ins.adr] at hl
    simp only [c9, h1]
    generalize s.ev x = v at hl
    cases v with
    | one c =>
     cases c with
     | ow k ver => cases l <;> exact hl.elim
     | os k ver lo => cases l <;> exact hl.elim
     | ws k ver lo hi => cases l <;> exact hl.elim
     | sl fr z' es => simp only [SRes.map, f8]
     | g v => cases v <;> simp only [SRes.map, f8]
     | _ => rfl
    | _ => rfl
   | sfx z x y => exact hl.elim
   | mlk kc zero ok zn x y =>
    have h1 := j6 (x := x) (s := s) (s' := s') fun t h => ht t (by simp [Ins.reads, h])
    have h2 := j6 (x := y) (s := s) (s' := s') fun t h => ht t (by simp [Ins.reads, h])
    simp only [J3, Ins.adr] at hl
    simp only [c9, h1, h2]
    split
    ·rename_i k kv hx hy; rw [hx] at hl; cases l <;> exact hl.elim
    ·split <;> simp only [SRes.map, f8]
    ·rfl
   | slc z x lo hi => cases lo <;> cases hi <;> first | exact hl.elim | (cases hr; done)
   | _ => first | (cases hv; done) | (cases hr; done)
 ·exact P0 hv ht fun h => absurd h hr
def Fr (d : Option Nat) (w : Part) (s s1 : AS) : Prop := (∀ t, d ≠ some t → s1.tm t = s.tm t) ∧ Stay w s s1
theorem b1f {w : Part} : Stay w s s := by
 cases w with
 | none => exact ⟨rfl, rfl⟩
 | some w => cases w with
  | none => trivial
  | some k => exact ⟨fun _ _ => rfl, fun _ _ => rfl⟩
theorem a7T {v : Val} : ∀ t, d ≠ some t → (s.put d v).tm t = s.tm t := fun t ht => by
 cases d with
 | none => rfl
 | some k => exact l5 _ _ fun e => ht (by rw [e])
theorem a7Q {w : Part} {v : Val} : Fr d w s (s.put d v) := by
 refine ⟨a7T, ?_⟩
 cases d with
 | none => exact b1f
 | some k =>
  cases w with
  | none => exact ⟨rfl, rfl⟩
  | some w => cases w with
   | none => trivial
   | some k => exact ⟨fun _ _ => rfl, fun _ _ => rfl⟩
theorem b2U {rw : Nat → Option Row} {v : Val} : Fr d (some (some (RWK, false))) s (({ s with rw := rw } : AS).put d v) := by
 refine ⟨a7T (s := { s with rw := rw }), ?_⟩
 cases d <;> exact ⟨fun _ _ => rfl, fun h => absurd rfl h⟩
theorem N0 {bx : Nat → Option (List Cel)} {rw : Nat → Option Row} {v : Val} : Fr d (some none) s (({ s with bx := bx, rw := rw } : AS).put d v) :=
 ⟨a7T (s := { s with bx := bx, rw := rw }), trivial⟩
theorem a7u {k : Nat} {cs : Option (List Cel)} {v : Val} : Fr d (some (some (k, false))) s (({ s with bx := upd s.bx k cs } : AS).put d v) := by
 refine ⟨a7T (s := { s with bx := upd s.bx k cs }), ?_⟩
 cases d <;> exact ⟨fun j hj => l5 _ _ hj, fun _ _ => rfl⟩
def d4v : SRes → (AS → Prop) → Prop
 | .ok s, F => F s
 | .need _ s, F => F s
 | .bad, _ => True
theorem c4R {r : SRes} {F T : AS → Prop} (hf : d4v r F) (h : q9 r T) : q9 r (fun s => T s ∧ F s) := by
 cases r with
 | bad => exact h
 | ok s => exact ⟨h, hf⟩
 | need p s => exact ⟨h.1, h.2, hf⟩
theorem b6i {r : SRes} {f : AS → AS} {T : AS → Prop} {F : AS → Prop} (hr : r = r.map f) (hf : ∀ s, F (f s)) (h : q9 r T) : q9 r (fun s => T s ∧ F s) := by
 cases r with
 | bad => exact h
 | ok s => simp only [SRes.map, SRes.ok.injEq] at hr; exact ⟨h, by rw [hr]; exact hf s⟩
 | need p s => simp only [SRes.map, SRes.need.injEq, true_and] at hr; exact ⟨h.1, h.2, by rw [hr]; exact hf s⟩
theorem a7U {i : GI} {l : Lim} {T : AS → Prop} (hl : J3 s i.ins l) (h : t8 P s i T) : t8 P s i (fun s1 => T s1 ∧ Fr i.dst (wrP i.dst i.ins l) s s1) := by
 obtain ⟨d, gd, ins⟩ := i
 simp only at hl
 by_cases hv : ins.vl = true
 ·have gen : q9 (c9 d ins s) T → q9 (c9 d ins s) (fun s1 => T s1 ∧ Fr d (wrP d ins l) s s1) := fun h => by
   refine b6i (a1W hv) (fun r => ?_) h
   obtain ⟨v, hv⟩ := (show ∃ v, D6 d false s r = s.put d v from by
    cases d with
    | none => exact ⟨.any, by simp [D6, AS.put]⟩
    | some k =>
     refine ⟨r.tm k, ?_⟩
     simp only [D6, AS.put, Bool.false_eq_true, if_false, AS.mk.injEq, and_true]
     funext t
     simp only [upd, Option.some.injEq]
     by_cases e : t = k
     ·grind
     ·rw [if_neg e, if_neg (fun h => e h.symm)])
   rw [hv]; exact a7Q
  cases ins with
  | pick c x y =>
   simp only [t8] at h ⊢
   split at h
   ·split at h <;> exact ⟨h, a7Q⟩
   ·exact h
  | call f xs => cases hv
  | callx f xs => cases hv
  | callm f xs m => cases hv
  | trn z x y => cases hv
  | clr E z zero x => cases hv
  | mkr E z b zero n c => cases hv
  | mkm kc => cases hv
  | mup kc x y z => cases hv
  | _ => exact gen h
 ·have gen : ∀ w, d4v (c9 d ins s) (Fr d w s) → q9 (c9 d ins s) T → q9 (c9 d ins s) (fun s1 => T s1 ∧ Fr d w s s1) := fun w => c4R
  cases ins with
  | alloc z =>
   refine gen (some (d.map fun k => (k, false))) ?_ h
   simp only [c9]
   cases d with
   | none => trivial
   | some k =>
    simp only []
    split
    ·split
     ·trivial
     ·exact a7u (s := s) (d := some k) (k := k) (v := .one (.bx k 0))
    ·trivial
  | box x =>
   refine gen (some (d.map fun k => (k, false))) ?_ h
   simp only [c9]
   cases d with
   | none => trivial
   | some k =>
    cases hc : u4 (s.ev x) with
    | none => trivial
    | some cs =>
     simp only []
     split
     ·split
      ·trivial
      ·exact a7u (s := s) (d := some k) (k := k) (v := .one (.bx k 0))
     ·trivial
  | store n a b =>
   refine gen (wrP d (.store n a b) l) ?_ h
   simp only [J3, Ins.adr] at hl
   simp only [c9]
   cases l with
   | none =>
    simp only [wrP]
    split
    ·split
     ·split
      ·exact N0
      ·trivial
     ·trivial
    ·split
     ·split
      ·split
       ·exact N0
       ·trivial
      ·trivial
     ·trivial
    ·trivial
   | some l =>
    cases l with
    | none =>
     simp only [wrP]
     split
     ·split
      ·split
       ·exact N0
       ·trivial
      ·trivial
     ·split
      ·split
       ·split
        ·exact N0
        ·trivial
       ·trivial
      ·trivial
     ·trivial
    | some key =>
     simp only [wrP]
     by_cases hR : key = RWK
     ·rw [if_pos hR]
      split
      ·split
       ·split
        ·exact N0
        ·trivial
       ·trivial
      ·split
       ·split
        ·split
         ·exact N0
         ·trivial
        ·trivial
       ·trivial
      ·trivial
     rw [if_neg hR]
     split
     ·rename_i hx _
      rw [hx] at hl
      have hk : _ = key := hl
      subst hk
      split
      ·split
       ·exact a7u
       ·trivial
      ·trivial
     ·rename_i hx _
      rw [hx] at hl
      exact absurd hl hR
     ·trivial
  | append E z b x y =>
   refine gen (some (some (RWK, false))) ?_ h
   simp only [c9]
   split
   ·split
    ·split
     ·exact b2U
     ·trivial
    ·trivial
   ·trivial
  | call f xs =>
   simp only [t8] at h ⊢
   unfold a4T at h ⊢
   split at h
   ·obtain ⟨R, h1, h2, h3⟩ := h
    exact ⟨R, h1, h2, fun cs r hr => ⟨(h3 cs r hr).1, (h3 cs r hr).2, a7Q⟩⟩
   ·exact h
  | callx f xs =>
   simp only [t8] at h ⊢
   unfold W9 at h ⊢
   split at h
   ·rename_i k rest hargs
    have hfr : ∀ (cs : List Cel) (r : Val), Fr d (wrP d (.callx f xs) l) s (({ s with bx := upd s.bx k (some cs) } : AS).put d r) := fun cs r => by
     cases l with
     | none => exact N0
     | some l => cases l with
      | none => exact N0
      | some key =>
       cases xs with
       | nil => cases hargs
       | cons x xs =>
        simp only [J3, Ins.adr] at hl
        simp only [List.map_cons, List.cons.injEq] at hargs
        rw [hargs.1] at hl
        have hk : k = key := hl
        subst hk
        exact a7u
    unfold a6g at h ⊢
    split at h
    ·obtain ⟨hb, h0, h0', R, h1, h2, h3⟩ := h
     exact ⟨hb, h0, h0', R, h1, h2, fun cs r hr => ⟨(h3 cs r hr).1, (h3 cs r hr).2.1, (h3 cs r hr).2.2, hfr cs r⟩⟩
    ·exact h
   ·exact h
  | trn z x y =>
   refine gen (some none) ?_ h
   simp only [c9]
   split
   ·split
    ·split
     ·exact N0
     ·trivial
    ·trivial
   ·trivial
  | clr E z zero x =>
   refine gen (some none) ?_ h
   simp only [c9]
   split
   ·split
    ·split
     ·exact N0
     ·trivial
    ·trivial
   ·trivial
  | mkm kc =>
   refine gen (some none) ?_ h
   simp only [c9]
   cases d with
   | none => trivial
   | some key =>
    simp only []
    split
    ·split
     ·exact N0 (s := s) (d := some key) (bx := s.bx) (v := .one (.mp key))
     ·trivial
    ·trivial
  | mup kc x y z =>
   refine gen (some none) ?_ h
   simp only [c9]
   split
   ·split
    ·split
     ·exact N0
     ·trivial
    ·trivial
   ·trivial
  | mkr E z b zero n c =>
   refine gen (some (some (RWK, false))) ?_ h
   simp only [c9]
   split
   ·rename_i key _ _ _ _ _ _
    split
    ·split
     ·exact b2U (s := s) (d := some key) (rw := upd s.rw key _) (v := .one (.ow key 0))
     ·trivial
    ·trivial
   ·trivial
  | callm f xs m =>
   simp only [t8] at h ⊢
   unfold a2r at h ⊢
   split at h
   ·obtain ⟨h0, R, h1, h2, h3⟩ := h
    refine ⟨h0, R, h1, h2, fun H r hr => ⟨(h3 H r hr).1, (h3 H r hr).2, ?_⟩⟩
    have hall : Fr d (some none) s (({ s with bx := a5b s m H.bs s.bx, rw := a5E s m H.rs s.rw } : AS).put d (s.backV m r)) := N0
    simp only [wrP]
    split
    ·rename_i k ho
     refine ⟨hall.1, ?_⟩
     have hk : ∀ j, j ≠ k → a5b s m H.bs s.bx j = s.bx j := fun j hj => by
      rw [a6B, if_neg]
      intro hm
      have : j ∈ m.obs := by
       rcases (h3 H r hr).1 with ⟨e, _⟩ | e
       ·rw [← e]; exact hm
       ·simp only [hkB, Bool.and_eq_true, List.all_eq_true] at e
        simpa using e.1.1.1 j hm
      grind
     cases d with
     | none => exact ⟨hk, fun _ h => by cases h⟩
     | some _ => exact ⟨hk, fun _ h => by cases h⟩
    ·exact hall
   ·exact h
  | _ => exact absurd rfl hv
theorem a2C {i : GI} {T : AS → Prop} (h : t8 P s i T) : ∃ s1, T s1 := by
 unfold t8 at h
 split at h
 ·all_goals grind
 ·unfold a4T at h
  all_goals grind
 ·unfold W9 at h
  split at h
  ·unfold a6g at h
   all_goals grind
  ·exact h.elim
 ·unfold a2r at h
  all_goals grind
 ·generalize c9 i.dst _ s = r at h
  cases r with
  | ok s => exact ⟨s, h⟩
  | need p s => exact ⟨s, h.2⟩
  | bad => exact h.elim
theorem a1s {r : AS} : ∃ v, D6 d false s r = s.put d v := by
 cases d with
 | none => exact ⟨.any, by simp [D6, AS.put]⟩
 | some k =>
  refine ⟨r.tm k, ?_⟩
  simp only [D6, AS.put, Bool.false_eq_true, if_false, AS.mk.injEq, and_true]
  funext t
  simp only [upd, Option.some.injEq]
  all_goals grind
theorem a5v {i : GI} (hv : i.ins.vl = true) {T : AS → Prop} (h : t8 P s i T) : ∃ v, T (s.put i.dst v) ∧ ∀ T', t8 P s i T' ↔ T' (s.put i.dst v) := by
 obtain ⟨d, gd, ins⟩ := i
 have gen : q9 (c9 d ins s) T → ∃ v, T (s.put d v) ∧ ∀ T', q9 (c9 d ins s) T' ↔ T' (s.put d v) := fun h => by
  have h1 : c9 d ins s = _ := a1W (s := s) (d := d) hv
  revert h h1
  generalize c9 d ins s = r
  intro h h1
  cases r with
  | bad => exact h.elim
  | ok r =>
   simp only [SRes.map, SRes.ok.injEq] at h1
   obtain ⟨v, hv⟩ := a1s (s := s) (d := d) (r := r)
   rw [hv] at h1; subst h1
   exact ⟨v, h, fun T' => Iff.rfl⟩
  | need p r =>
   simp only [SRes.map, SRes.need.injEq, true_and] at h1
   obtain ⟨v, hv⟩ := a1s (s := s) (d := d) (r := r)
   rw [hv] at h1; subst h1
   exact ⟨v, h.2, fun T' => ⟨fun h' => h'.2, fun h' => ⟨h.1, h'⟩⟩⟩
 cases ins with
 | pick c x y =>
  simp only [t8] at h ⊢
  all_goals grind
 | call f xs => cases hv
 | callx f xs => cases hv
 | callm f xs m => cases hv
 | _ => exact gen h
theorem a8E {i : GI} {l : Lim} {v : Val} (hv : i.ins.vl = true) (hl : J3 s i.ins l) (ht : ∀ t ∈ i.ins.reads, s'.tm t = s.tm t) (hb : Alike (rdP i.dst i.ins l) s s') (h : t8 P s i (fun r => r = s.put i.dst v)) : t8 P s' i (fun r => r = s'.put i.dst v) := by
 obtain ⟨d, gd, ins⟩ := i
 simp only at hv ht hb h hl ⊢
 have gen : q9 (c9 d ins s) (fun r => r = s.put d v) → q9 (c9 d ins s') (fun r => r = s'.put d v) := fun h => by
  rw [a4s hv hl ht hb, b9E]
  have : ∀ r, r = s.put d v → D6 d false s' r = s'.put d v := fun r hr => by rw [hr]; exact f8 rfl
  revert h
  generalize c9 d ins s = r
  intro h
  cases r with
  | bad => exact h
  | ok r => exact this r h
  | need p r => exact ⟨h.1, this r h.2⟩
 have hput : ∀ u, s.put d u = s.put d v → s'.put d u = s'.put d v := fun u hu => by
  cases d with
  | none => rfl
  | some k =>
   have h1 := congrArg (fun s => s.tm k) hu
   simp only [AS.put, j7] at h1
   rw [h1]
 cases ins with
 | pick c x y =>
  have h1 := j6 (x := c) (s := s) (s' := s') fun t h => ht t (by simp [Ins.reads, h])
  have h2 := j6 (x := x) (s := s) (s' := s') fun t h => ht t (by simp [Ins.reads, h])
  have h3 := j6 (x := y) (s := s) (s' := s') fun t h => ht t (by simp [Ins.reads, h])
  simp only [t8, h1, h2, h3] at h ⊢
  all_goals grind
 | call f xs => cases hv
 | callx f xs => cases hv
 | callm f xs m => cases hv
 | _ => exact gen h
structure DI where
 g : GI
 l : Lim
def u5 (P : Program) (s : AS) (i : DI) (T : AS → Prop) : Prop :=
 (i.g.gd = none ∧ J3 s i.g.ins i.l ∧ t8 P s i.g T) ∨
 ∃ g want b, i.g.gd = some (g, want) ∧ c5Y (s.tm g) = some b ∧ ((b = some want ∧ J3 s i.g.ins i.l ∧ t8 P s i.g T) ∨ (b ≠ some want ∧ T (s.put i.g.dst (.tu []))))
theorem a6d {i : DI} {T : AS → Prop} (h : u5 P s i T) : S4 P s i.g T := by
 rw [Q7]
 rcases h with ⟨h1, _, h2⟩ | ⟨g, want, b, h1, h2, ⟨h3, _, h4⟩ | ⟨h3, h4⟩⟩
 ·exact .inl ⟨h1, h2⟩
 ·grind
 ·grind
theorem y5 {i : DI} {T T' : AS → Prop} (hT : ∀ s, T s → T' s) (h : u5 P s i T) : u5 P s i T' := by
 rcases h with ⟨h1, h0, h2⟩ | ⟨g, want, b, h1, h2, ⟨h3, h0, h4⟩ | ⟨h3, h4⟩⟩
 ·exact .inl ⟨h1, h0, S8 hT h2⟩
 ·exact .inr ⟨g, want, b, h1, h2, .inl ⟨h3, h0, S8 hT h4⟩⟩
 ·exact .inr ⟨g, want, b, h1, h2, .inr ⟨h3, hT _ h4⟩⟩
theorem a4K {i : DI} {k : Nat} {v : Val} (hk : k ∉ i.g.reads) (hd : i.g.dst ≠ some k) {T : AS → Prop} : u5 P (s.put (some k) v) i T ↔ u5 P s i (fun s1 => T (s1.put (some k) v)) := by
 have h1 : k ∉ i.g.ins.reads := fun h => hk (List.mem_append_left _ h)
 have h0 : J3 (s.put (some k) v) i.g.ins i.l ↔ J3 s i.g.ins i.l := V4 fun t ht => l5 s.tm v (k := k) (j := t) fun e => h1 (by subst e; exact ht)
 unfold u5
 rw [b0K h1 hd, h0]
 refine or_congr Iff.rfl ?_
 constructor
 ·rintro ⟨g, want, b, hg, hb, h⟩
  have hne : g ≠ k := fun e => hk (by simp [GI.reads, hg, e])
  refine ⟨g, want, b, hg, ?_, ?_⟩
  ·rw [← hb]; exact congrArg c5Y (l5 _ _ hne).symm
  ·rwa [D7 hd] at h
 ·rintro ⟨g, want, b, hg, hb, h⟩
  have hne : g ≠ k := fun e => hk (by simp [GI.reads, hg, e])
  refine ⟨g, want, b, hg, ?_, ?_⟩
  ·rw [← hb]; exact congrArg c5Y (l5 _ _ hne)
  ·rwa [D7 hd]
def DI.wr (i : DI) : Part := wrP i.g.dst i.g.ins i.l
def DI.rd (i : DI) : Part := rdP i.g.dst i.g.ins i.l
theorem a7B {i : DI} {T : AS → Prop} (h : u5 P s i T) : u5 P s i (fun s1 => T s1 ∧ Fr i.g.dst i.wr s s1) := by
 rcases h with ⟨h1, h0, h2⟩ | ⟨g, want, b, h1, h2, ⟨h3, h0, h4⟩ | ⟨h3, h4⟩⟩
 ·exact .inl ⟨h1, h0, a7U h0 h2⟩
 ·exact .inr ⟨g, want, b, h1, h2, .inl ⟨h3, h0, a7U h0 h4⟩⟩
 ·exact .inr ⟨g, want, b, h1, h2, .inr ⟨h3, h4, a7Q⟩⟩
theorem a9h {i : DI} {T : AS → Prop} (h : u5 P s i T) : ∃ s1, T s1 := by
 rcases h with ⟨_, _, h⟩ | ⟨_, _, _, _, _, ⟨_, _, h⟩ | ⟨_, h⟩⟩
 ·exact a2C h
 ·exact a2C h
 ·exact ⟨_, h⟩
def gv (P : Program) (s : AS) (i : DI) (v : Val) : Prop := u5 P s i (fun r => r = s.put i.g.dst v)
theorem a7X {i : DI} {T : AS → Prop} {g : Nat} {want : Bool} {b : Option Bool} (h1 : i.g.gd = some (g, want)) (h2 : c5Y (s.tm g) = some b) : u5 P s i T ↔ (b = some want ∧ J3 s i.g.ins i.l ∧ t8 P s i.g T) ∨ (b ≠ some want ∧ T (s.put i.g.dst (.tu []))) := by
 unfold u5
 all_goals grind
theorem Z6 {i : DI} (hv : i.g.ins.vl = true) {T : AS → Prop} (h : u5 P s i T) : ∃ v, T (s.put i.g.dst v) ∧ ∀ T', u5 P s i T' ↔ T' (s.put i.g.dst v) := by
 rcases h with ⟨h1, h0, h2⟩ | ⟨g, want, b, h1, h2, ⟨h3, h0, h4⟩ | ⟨h3, h4⟩⟩
 ·obtain ⟨v, hv1, hv2⟩ := a5v hv h2
  refine ⟨v, hv1, fun T' => ?_⟩
  unfold u5
  rw [h1, hv2]
  simp [h0]
 ·obtain ⟨v, hv1, hv2⟩ := a5v hv h4
  refine ⟨v, hv1, fun T' => ?_⟩
  rw [a7X h1 h2, hv2]
  simp [h3, h0]
 ·refine ⟨.tu [], h4, fun T' => ?_⟩
  rw [a7X h1 h2]
  simp [h3]
theorem a8F {i : DI} {v : Val} (hv : i.g.ins.vl = true) (ht : ∀ t ∈ i.g.reads, s'.tm t = s.tm t) (hb : Alike i.rd s s') (h : gv P s i v) : gv P s' i v := by
 unfold gv at *
 have h0 : ∀ t ∈ i.g.ins.reads, s'.tm t = s.tm t := fun t h => ht t (List.mem_append_left _ h)
 rcases h with ⟨h1, hl, h2⟩ | ⟨g, want, b, h1, h2, h3⟩
 ·exact .inl ⟨h1, (V4 h0).2 hl, a8E hv hl h0 hb h2⟩
 ·refine .inr ⟨g, want, b, h1, by rw [ht g (by simp [GI.reads, h1])]; exact h2, ?_⟩
  rcases h3 with ⟨h3, hl, h4⟩ | ⟨h3, h4⟩
  ·exact .inl ⟨h3, (V4 h0).2 hl, a8E hv hl h0 hb h4⟩
  ·refine .inr ⟨h3, ?_⟩
   cases hd : i.g.dst with
   | none => rfl
   | some k =>
    rw [hd] at h4
    have h5 := congrArg (fun s => s.tm k) h4
    simp only [AS.put, j7] at h5
    rw [← h5]
def b2G (x y : DI) : Bool :=
 match x, y with
 | ⟨⟨some k, none, .alloc _⟩, none⟩, ⟨⟨some j, none, .alloc _⟩, none⟩ => decide (k ≠ j)
 | _, _ => false
theorem G1 {k : Nat} {z : List Value} {T : AS → Prop} : u5 P s ⟨⟨some k, none, .alloc z⟩, none⟩ T ↔ s.bx k = none ∧ k ≠ 0 ∧ T { s with tm := upd s.tm k (.one (.bx k 0)), bx := upd s.bx k (some (z.map .g)) } := by
 unfold u5
 simp only [t8, c9, J3, true_and, reduceCtorEq, false_and, exists_const, exists_false, or_false]
 cases s.bx k with
 | none =>
  simp only [true_and]
  by_cases e : k = 0
  ·simp [e, q9]
  ·simp [e, q9]
 | some cs => simp [q9]
theorem a6z {x y : DI} (hi : b2G x y = true) {T : AS → Prop} (h : u5 P s x (u5 P · y T)) : u5 P s y (u5 P · x T) := by
 unfold b2G at hi
 split at hi
 ·rename_i k zx j zy
  have hne : k ≠ j := by simpa using hi
  rw [G1] at h ⊢
  obtain ⟨h1, h2, h3⟩ := h
  rw [G1] at h3
  obtain ⟨h4, h5, h6⟩ := h3
  simp only [l5 _ _ (Ne.symm hne)] at h4
  refine ⟨h4, h5, ?_⟩
  rw [G1]
  refine ⟨by simp only [l5 _ _ hne]; exact h1, h2, ?_⟩
  rw [K6 hne, K6 hne]
  exact h6
 ·cases hi
def d1K : CAnn := ⟨[], [], [], [], []⟩
def c6d (x y : DI) : Bool :=
 match x, y with
 | ⟨⟨some k, none, .callm f as ⟨[], [], [], [], []⟩⟩, none⟩, ⟨⟨some j, none, .alloc _⟩, none⟩ => decide (k ≠ j) && (decide (j ∉ f.slot) && as.all fun a => decide (j ∉ a.slot))
 | _, _ => false
theorem c6H {H : Hp} (h : d3O d1K H) : H.bs = [] ∧ H.rs = [] := by
 rcases h with ⟨h1, h2⟩ | h
 ·exact ⟨List.map_eq_nil_iff.1 h1, List.map_eq_nil_iff.1 h2⟩
 ·unfold hkB d1K at h
  simp only [Bool.and_eq_true, List.all_eq_true] at h
  obtain ⟨⟨⟨h1, _⟩, h2⟩, _⟩ := h
  have e : ∀ {α : Type} (l : List (Nat × α)), (∀ x ∈ l.map (·.1), ([] : List Nat).contains x = true) → l = [] := fun l h => by
   cases l with
   | nil => rfl
   | cons p l => have := h p.1 (by simp); simp at this
  exact ⟨e _ h1, e _ h2⟩
theorem a0Q {k : Nat} {f : Opd} {as : List Opd} {T : AS → Prop} : u5 P s ⟨⟨some k, none, .callm f as ⟨[], [], [], [], []⟩⟩, none⟩ T ↔ ∃ g caps R, s.ev f = .one (.fn g caps) ∧ G9 P g [] ⟨[], []⟩ ((as.map s.ev ++ caps.map Val.one).map (s.passV d1K)) R ∧ (∃ H r, R H r) ∧ ∀ H r, R H r → (H.bs = [] ∧ H.rs = []) ∧ T (s.put (some k) (s.backV d1K r)) := by
 unfold u5
 simp only [t8, J3, true_and, reduceCtorEq, false_and, exists_const, exists_false, or_false]
 constructor
 ·intro h
  unfold a2r at h
  split at h
  ·rename_i g caps hf
   obtain ⟨_, R, h1, h2, h3⟩ := h
   refine ⟨g, caps, R, hf, h1, h2, fun H r hr => ?_⟩
   obtain ⟨h4, h5⟩ := h3 H r hr
   have h6 := c6H h4
   refine ⟨h6, ?_⟩
   obtain ⟨bs, rs⟩ := H
   obtain ⟨rfl, rfl⟩ := h6
   exact h5
  ·exact h.elim
 ·rintro ⟨g, caps, R, hf, h1, h2, h3⟩
  unfold a2r
  rw [hf]
  refine ⟨rfl, R, h1, h2, fun H r hr => ?_⟩
  obtain ⟨h6, h5⟩ := h3 H r hr
  obtain ⟨bs, rs⟩ := H
  obtain ⟨rfl, rfl⟩ := h6
  exact ⟨.inl ⟨rfl, rfl⟩, h5⟩
theorem b4y {f : Opd} {as : List Opd} {j : Nat} {v : Val} {b : Nat → Option (List Cel)} (h1 : j ∉ f.slot) (h2 : ∀ a ∈ as, j ∉ a.slot) : ({ s with tm := upd s.tm j v, bx := b } : AS).ev f = s.ev f ∧ as.map ({ s with tm := upd s.tm j v, bx := b } : AS).ev = as.map s.ev :=
 ⟨j6 fun t ht => l5 s.tm v fun e => h1 (by subst e; exact ht), List.map_congr_left fun a ha => j6 fun t ht => l5 s.tm v fun e => h2 a ha (by subst e; exact ht)⟩
theorem b0V {x y : DI} (hi : c6d x y = true) {T : AS → Prop} (h : u5 P s x (u5 P · y T)) : u5 P s y (u5 P · x T) := by
 unfold c6d at hi
 split at hi
 ·rename_i k f as j z
  simp only [Bool.and_eq_true, decide_eq_true_eq, List.all_eq_true] at hi
  obtain ⟨hne, h1, h2⟩ := hi
  rw [a0Q] at h
  obtain ⟨g, caps, R, hf, hR, ⟨H0, r0, hr0⟩, h3⟩ := h
  obtain ⟨_, h4⟩ := h3 H0 r0 hr0
  rw [G1] at h4
  rw [G1]
  refine ⟨h4.1, h4.2.1, ?_⟩
  rw [a0Q]
  obtain ⟨e1, e2⟩ := b4y (s := s) (v := .one (.bx j 0)) (b := upd s.bx j (some (z.map .g))) h1 h2
  refine ⟨g, caps, R, by rw [e1]; exact hf, by rw [e2]; exact hR, ⟨H0, r0, hr0⟩, fun H r hr => ?_⟩
  obtain ⟨h5, h6⟩ := h3 H r hr
  rw [G1] at h6
  refine ⟨h5, ?_⟩
  have h7 := h6.2.2
  simp only [AS.put] at h7 ⊢
  rw [K6 hne]
  exact h7
 ·cases hi
theorem a9F {x y : DI} (hi : c6d y x = true) {T : AS → Prop} (h : u5 P s x (u5 P · y T)) : u5 P s y (u5 P · x T) := by
 unfold c6d at hi
 split at hi
 ·rename_i k f as j z
  simp only [Bool.and_eq_true, decide_eq_true_eq, List.all_eq_true] at hi
  obtain ⟨hne, h1, h2⟩ := hi
  rw [G1] at h
  obtain ⟨h4, h5, h6⟩ := h
  rw [a0Q] at h6
  obtain ⟨g, caps, R, hf, hR, hex, h3⟩ := h6
  obtain ⟨e1, e2⟩ := b4y (s := s) (v := .one (.bx j 0)) (b := upd s.bx j (some (z.map .g))) h1 h2
  rw [e1] at hf
  rw [e2] at hR
  rw [a0Q]
  refine ⟨g, caps, R, hf, hR, hex, fun H r hr => ?_⟩
  obtain ⟨h7, h8⟩ := h3 H r hr
  refine ⟨h7, ?_⟩
  rw [G1]
  refine ⟨h4, h5, ?_⟩
  simp only [AS.put] at h8 ⊢
  rw [K6 hne] at h8
  exact h8
 ·cases hi
def c3W (x y : DI) : Bool :=
 b2G x y || (c6d x y || c6d y x) || ((match x.g.dst with | some k => decide (k ∉ y.g.reads) | none => true) && (match y.g.dst with | some k => decide (k ∉ x.g.reads) | none => true) &&
 (match x.g.dst, y.g.dst with | some k, some j => decide (k ≠ j) | _, _ => true) &&
 ((y.g.ins.vl && x.wr.apart y.rd) || (x.g.ins.vl && y.wr.apart x.rd)))
theorem d5x {x y : DI} (hi : c3W x y = true) {T : AS → Prop} (h : u5 P s x (u5 P · y T)) : u5 P s y (u5 P · x T) := by
 unfold c3W at hi
 simp only [Bool.and_eq_true, Bool.or_eq_true] at hi
 rcases hi with (hi | hi | hi) | hi
 ·exact a6z hi h
 ·exact b0V hi h
 ·exact a9F hi h
 obtain ⟨⟨⟨h1, h2⟩, h3⟩, h4⟩ := hi
 have r1 : ∀ k, x.g.dst = some k → k ∉ y.g.reads := fun k hk => by rw [hk] at h1; simpa using h1
 have r2 : ∀ k, y.g.dst = some k → k ∉ x.g.reads := fun k hk => by rw [hk] at h2; simpa using h2
 have r3 : ∀ k, x.g.dst = some k → y.g.dst ≠ some k := fun k hk hy => by rw [hk, hy] at h3; simp at h3
 rcases h4 with ⟨hy, hr⟩ | ⟨hx, hr⟩
 ·have hfr := a7B h
  have key : ∀ s1, Fr x.g.dst x.wr s s1 → ∀ v, gv P s1 y v → gv P s y v := fun s1 hf v hv =>
   a8F hy (fun t ht => (hf.1 t fun e => r1 t e ht).symm) (hf.2.alike hr).symm hv
  obtain ⟨s1, hs1, hf1⟩ := a9h hfr
  obtain ⟨v1, _, hv1⟩ := Z6 hy hs1
  have hg1 := key s1 hf1 v1 ((hv1 _).2 rfl)
  obtain ⟨v, hvs, hdet⟩ := Z6 (T := fun _ => True) hy (y5 (fun _ _ => trivial) hg1)
  rw [hdet]
  have hall : u5 P s x (fun s2 => T (s2.put y.g.dst v)) := y5 (fun s2 ⟨hT, hf⟩ => by
   obtain ⟨v2, hT2, hd2⟩ := Z6 hy hT
   have h5 := key s2 hf v2 ((hd2 _).2 rfl)
   unfold gv at h5
   rw [hdet] at h5
   have h6 : s2.put y.g.dst v = s2.put y.g.dst v2 := by
    cases hd : y.g.dst with
    | none => rfl
    | some k =>
     rw [hd] at h5
     have h7 := congrArg (fun s => s.tm k) h5
     simp only [AS.put, j7] at h7
     rw [h7]
   rw [h6]; exact hT2) hfr
  cases hd : y.g.dst with
  | none => rw [hd] at hall; exact hall
  | some k =>
   rw [hd] at hall
   exact (a4K (r2 k hd) (fun e => r3 k e hd)).2 hall
 ·obtain ⟨v, hT, hdet⟩ := Z6 hx h
  have h5 : u5 P s y (fun s1 => T (s1.put x.g.dst v)) := by
   cases hd : x.g.dst with
   | none => rw [hd] at hT; exact hT
   | some k =>
    rw [hd] at hT
    exact (a4K (r1 k hd) (r3 k hd)).1 hT
  refine y5 (fun s1 ⟨hT1, hf⟩ => ?_) (a7B h5)
  have hg : gv P s1 x v := a8F hx (fun t ht => hf.1 t fun e => r2 t e ht) (hf.2.alike hr) ((hdet _).2 rfl)
  exact y5 (fun r hr => by rw [hr]; exact hT1) hg
/-! ### all orders -/
def gAt (P : Program) (gs : List DI) (i : Nat) (T : AS → Prop) (s : AS) : Prop :=
 match gs[i]? with
 | some g => u5 P s g T
 | none => T s
def a6r (P : Program) (gs : List DI) : List Nat → (AS → Prop) → AS → Prop
 | [], T => T
 | i :: L, T => gAt P gs i (a6r P gs L T)
def a1K (gs : List DI) (j i : Nat) : Bool :=
 match gs[j]?, gs[i]? with
 | some x, some y => c3W x y
 | _, _ => true
variable {gs : List DI}
def d2l (P : Program) : List DI → (AS → Prop) → AS → Prop
 | [], T, s => T s
 | i :: l, T, s => u5 P s i (d2l P l T)
def a3f (ls : List (Nat × Option Nat)) : Nat → List GI → List DI
 | _, [] => []
 | i, g :: l => ⟨g, (ls.find? (·.1 == i)).map (·.2)⟩ :: a3f ls (i + 1) l
theorem a4Y {ls : List (Nat × Option Nat)} : ∀ {i : Nat} {l : List GI}, (a3f ls i l).map DI.g = l
 | _, [] => rfl
 | i, g :: l => by simp only [a3f, List.map_cons, a4Y]
theorem a3z {i : Nat} {T T' : AS → Prop} (hT : ∀ s, T s → T' s) (h : gAt P gs i T s) : gAt P gs i T' s := by
 unfold gAt at *
 split
 ·rename_i g hg; rw [hg] at h; exact y5 hT h
 ·grind
theorem c7d {j i : Nat} (hi : a1K gs j i = true) {T : AS → Prop} (h : gAt P gs j (gAt P gs i T) s) : gAt P gs i (gAt P gs j T) s := by
 unfold a1K at hi
 cases hj : gs[j]? with
 | none =>
  have e : ∀ T s, gAt P gs j T s = T s := fun T s => by simp [gAt, hj]
  rw [e] at h
  exact a3z (fun s h => by rw [e]; exact h) h
 | some x =>
  cases hk : gs[i]? with
  | none =>
   have e : ∀ T s, gAt P gs i T s = T s := fun T s => by simp [gAt, hk]
   rw [e]
   exact a3z (fun s h => by rw [e] at h; exact h) h
  | some y =>
   rw [hj, hk] at hi
   have e1 : ∀ T s, gAt P gs j T s = u5 P s x T := fun T s => by simp [gAt, hj]
   have e2 : ∀ T s, gAt P gs i T s = u5 P s y T := fun T s => by simp [gAt, hk]
   rw [e1] at h; rw [e2]
   refine y5 (fun s h => by rw [e1]; exact h) (d5x hi (y5 (fun s h => by rw [e2] at h; exact h) h))
theorem b2b {i : Nat} {B : List Nat} {T : AS → Prop} : ∀ {A : List Nat} {s : AS}, (∀ j ∈ A, a1K gs j i = true) → a6r P gs (A ++ i :: B) T s → gAt P gs i (a6r P gs (A ++ B) T) s
 | [], s, _, h => h
 | j :: A, s, hA, h => by
  have h1 : gAt P gs j (a6r P gs (A ++ i :: B) T) s := h
  exact c7d (hA j (by simp)) (a3z (fun s h => b2b (fun k hk => hA k (by simp [hk])) h) h1)
def d4T (ops : List Oper) : List (List Nat) :=
 (ops.foldl (fun (acc : List (List Nat)) o => (((o.after.toList.filter (Region.binds .any)).map Edge.on).foldl (fun l j => (j :: (acc.reverse.getD j [])) ++ l) [] |>.eraseDups) :: acc) []).reverse
def c3U (ops : List Oper) (an : List (List Nat)) : Bool :=
 (List.range ops.length).all fun i => match ops[i]? with
  | some o => (o.after.toList.all fun e => !Region.binds .any e || decide (e.on < i)) &&
   (an.getD i []).all fun j => o.after.toList.any fun e => Region.binds .any e && (e.on == j || (an.getD e.on []).contains j)
  | none => true
def b2e (gs : List DI) (an : List (List Nat)) : Bool :=
 (List.range gs.length).all fun i => (List.range i).all fun j => (an.getD i []).contains j || a1K gs j i
def inter : List DI → List GI
 | [] => []
 | ⟨g, none⟩ :: l => g :: inter l
 | ⟨g, some key⟩ :: l => (match g.ins.adr with | some x => ⟨none, g.gd, .chk x key⟩ | none => ⟨none, g.gd, .un .neg (.f 0)⟩) :: g :: inter l
theorem b0L {x : Opd} {key : Option Nat} {gd : Option (Nat × Bool)} {T : AS → Prop} (h : t8 P s ⟨none, gd, .chk x key⟩ T) : d4Q key (s.ev x) ∧ T s := by
 cases key with
 | none =>
  simp only [t8, c9] at h
  split at h
  ·exact h.elim
  ·exact h.elim
  ·exact h.elim
  ·exact h.elim
  ·exact h.elim
  ·exact h.elim
  ·rename_i h8 h0 h9 h1 h2 h3
   refine ⟨?_, h⟩
   generalize s.ev x = v at h8 h0 h9 h1 h2 h3
   cases v with
   | one c => cases c with
    | mp k => exact absurd rfl (h8 k)
    | os k v lo => exact absurd rfl (h0 k v lo)
    | ws k v lo hi => exact absurd rfl (h9 k v lo hi)
    | bx k o => exact absurd rfl (h1 k o)
    | ow k v => exact absurd rfl (h2 k v)
    | op k v i o => exact absurd rfl (h3 k v i o)
    | _ => trivial
   | _ => trivial
 | some k =>
  simp only [t8, c9] at h
  split at h
  ·rename_i hv
   rw [hv]
   split at h
   ·rename_i e; exact ⟨e, h⟩
   ·exact h.elim
  ·rename_i hv
   rw [hv]
   split at h
   ·rename_i e; exact ⟨e, h⟩
   ·exact h.elim
  ·exact h.elim
theorem b8q {g : GI} {key : Option Nat} {T : AS → Prop} {c : GI} (hc : c = (match g.ins.adr with | some x => ⟨none, g.gd, .chk x key⟩ | none => ⟨none, g.gd, .un .neg (.f 0)⟩)) (h : S4 P s c (fun s1 => S4 P s1 g T)) : u5 P s ⟨g, some key⟩ T := by
 have key1 : ∀ T, c.dst = none ∧ c.gd = g.gd ∧ (t8 P s c T → J3 s g.ins (some key) ∧ T s) := fun T => by
  subst hc
  unfold J3
  split
  ·exact ⟨rfl, rfl, fun h => b0L h⟩
  ·exact ⟨rfl, rfl, fun h => h.elim⟩
 rw [Q7] at h
 rcases h with ⟨h1, h2⟩ | ⟨g', want, b, h1, h2, h3⟩
 ·obtain ⟨e1, e2, e3⟩ := key1 (fun s1 => S4 P s1 g T)
  obtain ⟨h4, h5⟩ := e3 h2
  rw [e2] at h1
  rw [Q7] at h5
  rcases h5 with ⟨_, h5⟩ | ⟨_, _, _, h6, _⟩
  ·exact .inl ⟨h1, h4, h5⟩
  ·rw [h1] at h6; cases h6
 ·obtain ⟨e1, e2, e3⟩ := key1 (fun s1 => S4 P s1 g T)
  rw [e2] at h1
  have gd : ∀ T, S4 P s g T → (b = some want ∧ t8 P s g T) ∨ (b ≠ some want ∧ T (s.put g.dst (.tu []))) := fun T h => by
   rw [Q7] at h
   all_goals grind
  refine .inr ⟨g', want, b, h1, h2, ?_⟩
  rcases h3 with ⟨h3, h4⟩ | ⟨h3, h4⟩
  ·all_goals grind
  ·rw [e1] at h4
   rcases gd T h4 with ⟨h7, _⟩ | ⟨_, h7⟩
   ·exact absurd h7 h3
   ·exact .inr ⟨h3, h7⟩
theorem a3F {g : GI} {T : AS → Prop} (h : S4 P s g T) : u5 P s ⟨g, none⟩ T := by
 rw [Q7] at h
 rcases h with ⟨h1, h2⟩ | ⟨g', want, b, h1, h2, ⟨h3, h4⟩ | ⟨h3, h4⟩⟩
 ·exact .inl ⟨h1, trivial, h2⟩
 ·exact .inr ⟨g', want, b, h1, h2, .inl ⟨h3, trivial, h4⟩⟩
 ·exact .inr ⟨g', want, b, h1, h2, .inr ⟨h3, h4⟩⟩
theorem a6u {T : AS → Prop} : ∀ (ds : List DI) (s : AS), a6G P (inter ds) T s → d2l P ds T s
 | [], _, h => h
 | ⟨g, none⟩ :: l, s, h => y5 (fun s h => a6u l s h) (a3F h)
 | ⟨g, some key⟩ :: l, s, h => y5 (fun s h => a6u l s h) (b8q rfl h)
def b2s (ops : List Oper) (gs : List DI) : Bool := c3U ops (d4T ops) && b2e gs (d4T ops)
theorem b0b {ops : Array Oper} {an : List (List Nat)} (hok : c3U ops.toList an = true) {listed : Array Bool} (closed : ∀ j oj, ops[j]? = some oj → listed.getD j false = true → ∀ e ∈ oj.after, Region.binds .any e = true → listed.getD e.on false = true) :
  ∀ (i : Nat) (o : Oper), ops[i]? = some o → (∀ e ∈ o.after, Region.binds .any e = true → listed.getD e.on false = true) → ∀ j ∈ an.getD i [], listed.getD j false = true := by
 intro i
 induction i using Nat.strongRecOn with
 | _ i ih =>
  intro o ho hall j hj
  have hlt : i < ops.size := (Array.getElem?_eq_some_iff.1 ho).1
  have h1 := List.all_eq_true.1 hok i (List.mem_range.2 (by simpa using hlt))
  all_goals grind
variable {w0 w : World} {okA : Nat → Prop} {ext : Ext} {N : Nat} {a : Act} {E : Env} {Q : Exit → Act → World → Prop} {ops : Array Oper} [hT : b1H P w0 okA ext]
def unl (n : Nat) (listed : Array Bool) : List Nat := (List.range n).filter fun i => !listed.getD i true
theorem mem_unl {n i : Nat} {listed : Array Bool} : i ∈ unl n listed ↔ i < n ∧ listed.getD i true = false := by
 unfold unl; rw [List.mem_filter, List.mem_range]; simp
theorem a5f {n i : Nat} {listed : Array Bool} (hn : listed.size = n) (hi : i ∈ unl n listed) : ∃ A B, unl n listed = A ++ i :: B ∧ unl n (listed.setIfInBounds i true) = A ++ B ∧ ∀ j ∈ A, j < i := by
 obtain ⟨hlt, hu⟩ := mem_unl.1 hi
 have hr : List.range n = List.range i ++ i :: (List.range (n - (i + 1))).map (· + (i + 1)) := by
  have h1 : n = i + (1 + (n - (i + 1))) := by omega
  conv => lhs; rw [h1]
  rw [List.range_add, List.range_add]
  simp [List.map_map, Function.comp_def, List.range_succ, Nat.add_assoc, Nat.add_comm, Nat.add_left_comm]
 refine ⟨(List.range i).filter fun j => !listed.getD j true, ((List.range (n - (i + 1))).map (· + (i + 1))).filter fun j => !listed.getD j true, ?_, ?_, fun j hj => List.mem_range.1 (List.mem_filter.1 hj).1⟩
 ·unfold unl
  grind
 ·unfold unl
  rw [hr, List.filter_append, List.filter_cons]
  have hi2 : (listed.setIfInBounds i true).getD i true = true := by
   rw [Array.getD_eq_getD_getElem?, Array.getElem?_setIfInBounds]; simp; split <;> rfl
  rw [hi2]
  simp only [Bool.not_true, Bool.false_eq_true, if_false]
  congr 1
  ·refine List.filter_congr fun j hj => ?_
   rw [getD_set_ne true (by have := List.mem_range.1 hj; omega)]
  ·refine List.filter_congr fun j hj => ?_
   obtain ⟨k, _, rfl⟩ := List.mem_map.1 hj
   rw [getD_set_ne true (by omega)]
theorem b2L {n i : Nat} {listed : Array Bool} (hn : listed.size = n) (hlt : i < n) (h : i ∉ unl n listed) : listed.getD i false = true := by
 have h1 : listed.getD i true ≠ false := fun e => h (mem_unl.2 ⟨hlt, e⟩)
 grind
theorem b2x {ca : List (Nat × CAnn)} {T : AS → Prop} (hgs : ops.toList.mapM (l8 P N ca ops) = some (gs.map DI.g)) {an : List (List Nat)} (hok : c3U ops.toList an = true) (hp : b2e gs an = true)
  (hT : ∀ s a w E, St w0 okA ext N s a w E → T s → Q .normal a w) : ∀ (fuel : Nat) (listed : Array Bool) (s : AS) (a : Act) (w : World) (E : Env), listed.size = ops.size → (unl ops.size listed).length = fuel →
  (∀ j oj, ops[j]? = some oj → listed.getD j false = true → ∀ e ∈ oj.after, Region.binds .any e = true → listed.getD e.on false = true) →
  St w0 okA ext N s a w E → a6r P gs (unl ops.size listed) T s → wpAny P .any ops Q fuel listed a w := by
 intro fuel
 induction fuel with
 | zero =>
  intro listed s a w E hn hl hc hst h
  have hnil : unl ops.size listed = [] := List.eq_nil_of_length_eq_zero hl
  rw [hnil] at h
  refine ⟨?_, hT s a w E hst h⟩
  cases hr : Region.ready .any ops listed with
  | nil => rfl
  | cons i l =>
   have hi : i ∈ Region.ready .any ops listed := by rw [hr]; simp
   obtain ⟨h0, o, ho, _⟩ := mem_ready.1 hi
   have : i ∈ unl ops.size listed := mem_unl.2 ⟨(Array.getElem?_eq_some_iff.1 ho).1, h0⟩
   rw [hnil] at this; cases this
 | succ fuel ih =>
  intro listed s a w E hn hl hc hst h
  refine ⟨fun hr => ?_, fun i hi => ?_⟩
  ·exfalso
   obtain ⟨i, L, hL⟩ : ∃ i L, unl ops.size listed = i :: L := by cases hu : unl ops.size listed with | nil => rw [hu] at hl; cases hl | cons i L => exact ⟨i, L, rfl⟩
   have hi : i ∈ unl ops.size listed := by rw [hL]; simp
   obtain ⟨A, B, hA, _, hlow⟩ := a5f hn hi
   obtain ⟨hlt, hu⟩ := mem_unl.1 hi
   have hAn : A = [] := by
    cases A with
    | nil => rfl
    | cons k A =>
     grind
   have hready : i ∈ Region.ready .any ops listed := by
    refine mem_ready.2 ⟨hu, ops[i], Array.getElem?_eq_getElem hlt, fun e he hb => ?_⟩
    have h1 := List.all_eq_true.1 hok i (List.mem_range.2 (by simpa using hlt))
    have ho' : ops.toList[i]? = some ops[i] := by simp [hlt]
    rw [ho'] at h1
    simp only [Bool.and_eq_true] at h1
    have h2 := List.all_eq_true.1 h1.1 e (by simpa using he)
    simp only [hb, Bool.not_true, Bool.false_or, decide_eq_true_eq] at h2
    refine b2L hn (by omega) fun hm => ?_
    rw [hA, hAn] at hm
    simp only [List.nil_append, List.mem_cons] at hm
    rcases hm with hm | hm
    ·omega
    ·have hs : (unl ops.size listed).Pairwise (· < ·) := List.Pairwise.filter _ List.pairwise_lt_range
     grind
   grind
  ·obtain ⟨h0, o, ho, hall⟩ := mem_ready.1 hi
   have hlt : i < ops.size := (Array.getElem?_eq_some_iff.1 ho).1
   have hm : i ∈ unl ops.size listed := mem_unl.2 ⟨hlt, h0⟩
   obtain ⟨A, B, hA, hA2, hlow⟩ := a5f hn hm
   rw [hA] at h
   have hglen : gs.length = ops.size := by have := F7 hgs; simpa using this
   have hind : ∀ j ∈ A, a1K gs j i = true := fun j hj => by
    have h1 := List.all_eq_true.1 (List.all_eq_true.1 hp i (List.mem_range.2 (by omega))) j (List.mem_range.2 (hlow j hj))
    simp only [Bool.or_eq_true, List.contains_eq_mem, decide_eq_true_eq] at h1
    rcases h1 with h1 | h1
    ·have h2 := b0b hok hc i o ho hall j h1
     have h3 : j ∈ unl ops.size listed := by rw [hA]; simp [hj]
     have h4 := (mem_unl.1 h3)
     grind
    ·exact h1
   have h5 := b2b hind h
   obtain ⟨g, hg⟩ : ∃ g, gs[i]? = some g := ⟨gs[i]'(by omega), List.getElem?_eq_getElem _⟩
   have hcg : l8 P N ca ops o = some g.g := by
    have := a0e hgs (i := i) (x := o) (by simpa using ho)
    grind
   simp only [gAt, hg] at h5
   have hclosed : ∀ j oj, ops[j]? = some oj → (listed.setIfInBounds i true).getD j false = true → ∀ e ∈ oj.after, Region.binds .any e = true → (listed.setIfInBounds i true).getD e.on false = true := fun j oj hj hl' e he hb => by
    by_cases hij : i = j
    ·subst hij
     have : oj = o := Option.some.inj (hj.symm.trans ho)
     subst this
     exact getD_set_true (hall e he hb)
    ·rw [getD_set_ne false hij] at hl'
     exact getD_set_true (hc j oj hj hl' e he hb)
   have hlen : (unl ops.size (listed.setIfInBounds i true)).length = fuel := by
    grind
   have h6 := V6 (Q := Q) (K := wpAny P .any ops Q fuel (listed.setIfInBounds i true)) hst hcg (H6 (fun s1 hs1 a' w' E' hst' => ih (listed.setIfInBounds i true) s1 a' w' E' (by simpa using hn) hlen hclosed hst' (by rw [hA2]; exact hs1)) (a6d h5))
   unfold wpOp
   all_goals grind
theorem a4q {T : AS → Prop} : ∀ (l : List DI) (k : Nat) (s : AS), (∀ j, l[j]? = gs[k + j]?) → d2l P l T s → a6r P gs ((List.range l.length).map (k + ·)) T s
 | [], k, s, _, h => h
 | g :: l, k, s, hl, h => by
  have hk : gs[k]? = some g := by simpa using (hl 0).symm
  rw [List.length_cons, List.range_succ_eq_map, List.map_cons]
  simp only [a6r, gAt, Nat.add_zero, hk]
  refine y5 (fun s1 h1 => ?_) h
  have := a4q l (k + 1) s1 (fun j => by have := hl (j + 1); simpa [Nat.add_assoc, Nat.add_comm 1 j] using this) h1
  have e : List.map (k + ·) (List.map Nat.succ (List.range l.length)) = (List.range l.length).map (k + 1 + ·) := by
   rw [List.map_map]; refine List.map_congr_left fun j _ => ?_; simp; omega
  rw [e]; exact this
theorem a9Q {ca : List (Nat × CAnn)} {id : Nat} (hm : P.follows .mixedOrders = true) (hgs : ops.toList.mapM (l8 P N ca ops) = some (gs.map DI.g)) (hok : b2s ops.toList gs = true) {T : AS → Prop} (h : St w0 okA ext N s a w E)
  (hT : ∀ s a w E, St w0 okA ext N s a w E → T s → Q .normal a w) (ha : a6G P (inter gs) T s) : (Code.region id ops true).wp P Q a w := by
 simp only [b2s, Bool.and_eq_true] at hok
 have hglen : gs.length = ops.size := by have := F7 hgs; simpa using this
 refine wp_region_any hm ?_
 have hst : St w0 okA ext N s a { w with drawn := w.drawn + 1 } E := h.grown ⟨rfl, rfl, rfl, Nat.le_refl _, fun _ _ _ => rfl⟩
 have hunl : unl ops.size (Array.replicate ops.size false) = List.range ops.size := by
  unfold unl
  rw [List.filter_eq_self]
  intro i hi
  have := List.mem_range.1 hi
  simp [this]
 refine b2x hgs hok.1 hok.2 hT ops.size _ s a _ E (by simp) (by rw [hunl]; simp) (fun j oj _ hl => ?_) hst ?_
 ·exfalso
  rcases Nat.lt_or_ge j ops.size with h' | h'
  ·simp [h'] at hl
  ·simp [h'] at hl
 ·rw [hunl]
  have := a4q (P := P) (gs := gs) (T := T) gs 0 s (by simp) (a6u gs s ha)
  rw [hglen] at this
  simpa using this
end
end Go.Ai
