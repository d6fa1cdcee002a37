/- The reference's watch of alarms: what is active, an act, an alarm that becomes inactive, what is reported. -/
import Derived.Test.YtbhgndiboeppeaaGreatDoorRlt
import Derived.Test.YtbhgndiboeppeaaGreatDoorSit
import Derived.MapKept
set_option linter.all false
set_option maxHeartbeats 4000000
set_option maxRecDepth 100000
namespace Go.Proofs.YtbhgndiboeppeaaGreatDoor
open Go Go.Ai
/-! ### maps as they lie -/
instance : LawfulBEq ByteArray where
 eq_of_beq h := (MapKept.bytes_beq _ _).1 h
 rfl := (MapKept.bytes_beq _ _).2 rfl
def mST (m : List (ByteArray × Int)) : List (List Cel) := m.map fun p => [.g (.string p.1), .g (.int .i64 p.2)]
theorem a3I (k j : ByteArray) (c : Cel) : a5X (.string k) [.g (.string j), c] = decide (j = k) := by
 have e : a5X (.string k) [.g (.string j), c] = (k == j) := rfl
 rw [e]
 by_cases h : j = k
 ·subst h; simp
 ·rw [decide_eq_false h]
  exact Bool.eq_false_iff.2 fun c => h (beq_iff_eq.1 c).symm
theorem b0F (k : ByteArray) : ∀ m : List (ByteArray × Int), (a0D (.string k) (mST m)).getD (.g (.int .i64 0)) = .g (.int .i64 (mgt k m))
 | [] => rfl
 | p :: m => by
  have ih := b0F k m
  rw [show mST (p :: m) = [.g (.string p.1), .g (.int .i64 p.2)] :: mST m from rfl, a0D, a3I, mgt]
  by_cases h : p.1 = k
  ·rw [if_pos (decide_eq_true h), if_pos h]; rfl
  ·rw [if_neg (by simp [h]), if_neg h, ih]
theorem b1q (k : ByteArray) (v : Int) : ∀ m : List (ByteArray × Int), a4e (.string k) (.g (.int .i64 v)) (mST m) = mST (mpt k v m)
 | [] => rfl
 | p :: m => by
  have ih := b1q k v m
  rw [show mST (p :: m) = [.g (.string p.1), .g (.int .i64 p.2)] :: mST m from rfl, a4e, a3I, mpt]
  by_cases h : p.1 = k
  ·rw [if_pos (decide_eq_true h), if_pos h]; rfl
  ·rw [if_neg (by simp [h]), if_neg h, ih]; rfl
theorem c6t (m : List (ByteArray × Int)) : frE (mST m) = true := a7a (fun _ => rfl) m
theorem c2D (m : List (ByteArray × Int)) : H4 (mST m) = mST m := a5S (fun _ => rfl) m
theorem c2z (m : List (ByteArray × Int)) : a1A (mST m) = mST m := a6f (fun _ => rfl) m
attribute [go_sem] b0F b1q c6t c2D c2z
abbrev mpR (m : List (ByteArray × Int)) : Row := ⟨0, 0, 0, mST m⟩
def waC (l : List Alm) (ac : List (List Cel)) : List Cel := [.sl false 10 (l.map z7), .fm 0 ac, .mp 1000002, .mp 1000003, .ow 1000004 0]
abbrev waH (l : List Alm) (ac : List (List Cel)) (r : Rst) : Hp := ⟨[(1000001, waC l ac)], [(1000002, mpR r.st), (1000003, mpR r.sh), (1000004, n9 r.ig)]⟩
theorem b0h (l : List Alm) (ac : List (List Cel)) (r : Rst) (x : Alm) : G9 Tryz.prog 149 [1000002, 1000003, 1000004] (waH l ac r) [.one (.bx 1000001 0), .ag (z7 x)]
  (fun H y => H = waH l ac { r with st := mpt x.k (if x.lt = true ∧ mgt x.k r.st = 2 then 4 else 1) r.st } ∧ y = .tu []) := by
 refine fsE Tryz.func149 (aM [3,1000001] [1000002,1000003,1000004] [[0,3,1000001],[0,3,15,1000001]] ++ aM [1000001] [1000002,1000003,1000004] [[],[]]) ⟨[], [1000001], [1000002, 1000003, 1000004]⟩ ?_
 unfold waH waC
 by_cases hc : x.lt = true ∧ mgt x.k r.st = 2
 ·rw [if_pos hc]
  obtain ⟨h1, h2⟩ := hc
  refine qvs ?_
  exact fun h => by rw [h1] at h; cases h
 ·rw [if_neg hc]
  refine qvs ?_
  exact fun h1 h2 => absurd ⟨h1, h2⟩ hc
theorem b5f (l : List Alm) (hl : l.length ≤ 1000000) (ac : List (List Cel)) (r : Rst) (x : Opr) : G9 Tryz.prog 151 [1000002, 1000003, 1000004] (waH l ac r) [.one (.bx 1000001 0), .ag (N7 x)]
  (fun H y => H = waH l ac (a4p l x r).1 ∧ y = bv (a4p l x r).2) := by
 refine fsE Tryz.func151 (aM [3,1000001] [1000002,1000003,1000004] [[0,3,1000001],[0,3,13,1000001]] ++ [aN [4] [1000001] [1000002,1000003,1000004]] ++ aM [3,1000001] [1000002,1000003,1000004] [[0,3,15,1000001],[0,3,15,16,1000001]] ++ aM [1000001] [1000002,1000003,1000004] [[],[4]] ++ aM [3,1000001] [1000002,1000003,1000004] [[0,3,26,1000001],[0,3,5,1000001]] ++ aM [1000001] [1000002,1000003,1000004] [[5],[4]] ++ aM [3,1000001] [1000002,1000003,1000004] [[0,3,51,1000001],[0,3,51,52,1000001]] ++ [aN [] [1000001] [1000002,1000003,1000004],aN [0,3,60,1000001] [3,1000001] [1000002,1000003,1000004]] ++ aM [1000001] [1000002,1000003,1000004] [[],[4],[4]]) ⟨[], [1000001], [1000002, 1000003, 1000004]⟩ ?_
 have hf := H5 x.al l hl
 unfold waH waC a4p
 by_cases h0 : q8 l x.al < 0
 ·rw [if_pos h0]
  refine qcs hf ?_
  exact qts
 rw [if_neg h0]
 by_cases k2 : x.kd = 2
 ·rw [if_pos k2]
  refine qcs hf ?_
  exact qts
 rw [if_neg k2]
 by_cases k3 : x.kd = 3
 ·rw [if_pos k3]
  refine qcs hf ?_
  exact qts
 rw [if_neg k3]
 by_cases b2 : mgt x.al r.st = 2
 ·rw [if_pos b2]
  refine qcs hf ?_
  exact qts
 rw [if_neg b2]
 by_cases b4 : mgt x.al r.st = 4
 ·rw [if_pos b4]
  refine qcs hf ?_
  exact qts
 rw [if_neg b4]
 refine qcs hf ?_
 exact qts
/-! ### what is active -/
def wnK (s : List Ser) (k : ByteArray) : List Alm → List (Int × Int)
 | [] => []
 | x :: l => if x.k = k then v7 s x else wnK s k l
theorem b1o (s : List Ser) (k : ByteArray) : ∀ (l : List Alm) (j : Int), 0 ≤ j → wnK s k l = if 0 ≤ D0 (fun x : Alm => decide (x.k = k)) j l then v7 s (l.getD (D0 (fun x : Alm => decide (x.k = k)) j l - j).toNat default) else []
 | [], j, _ => by rw [wnK, D0, if_neg (by omega)]
 | x :: l, j, hj => by
  have ih := b1o s k l (j + 1) (by omega)
  rw [wnK]
  by_cases h : x.k = k
  ·have e : D0 (fun x : Alm => decide (x.k = k)) j (x :: l) = j := by rw [D0, if_pos (decide_eq_true h)]
   rw [e, if_pos h, if_pos hj, Int.sub_self]; rfl
  ·have e : D0 (fun x : Alm => decide (x.k = k)) j (x :: l) = D0 (fun x : Alm => decide (x.k = k)) (j + 1) l := by rw [D0, if_neg (by simp [h])]
   rw [e, if_neg h, ih]
   have hr := O4 (fun x : Alm => decide (x.k = k)) l (j + 1)
   by_cases c : 0 ≤ D0 (fun x : Alm => decide (x.k = k)) (j + 1) l
   ·rw [if_pos c, if_pos c, show (D0 (fun x : Alm => decide (x.k = k)) (j + 1) l - j).toNat = (D0 (fun x : Alm => decide (x.k = k)) (j + 1) l - (j + 1)).toNat + 1 by omega]
    rfl
   ·rw [if_neg c, if_neg c]
def acM (s : List Ser) (l : List Alm) : List (List Cel) := l.map fun x => [.g (.string x.k), .sl false 2 ((v7 s x).map frC)]
theorem a3t (W : List (Int × Int)) : Cel.dat (.sl false 2 (W.map frC)) = .sl false 2 (W.map frC) := by
 have h := b3W W
 unfold H4 at h
 simp only [Cel.dat]
theorem b0X (s : List Ser) (k : ByteArray) : ∀ l : List Alm, (P7 (.string k) (acM s l)).getD (.sl false 2 []) = .sl false 2 ((wnK s k l).map frC)
 | [] => rfl
 | x :: l => by
  have ih := b0X s k l
  rw [show acM s (x :: l) = [.g (.string x.k), .sl false 2 ((v7 s x).map frC)] :: acM s l from rfl, P7, a3I, wnK]
  by_cases h : x.k = k
  ·rw [if_pos (decide_eq_true h), if_pos h]
   show Option.getD (some (Cel.dat _)) _ = _
   rw [a3t]; rfl
  ·rw [if_neg (by simp [h]), if_neg h, ih]
attribute [go_sem] b0X
theorem c3M (w : Int × Int) (t : Int) : FC Tryz.prog 175 none [.ag (frC w), .one (.ep [.g (.int .i64 t)])] (fun _ r => r = bv (decide (w.1 ≤ t ∧ t < w.2))) := by
 refine fcE Tryz.func175 [aN [1,2] [2] [],aN [3] [] []] ?_
 by_cases h1 : w.1 ≤ t
 ·rw [show decide (w.1 ≤ t ∧ t < w.2) = decide (t < w.2) by simp [h1]]
  exact qts
 ·rw [decide_eq_false (fun h => h1 h.1)]
  exact qts
theorem b2g {α : Type} (p : α → Bool) : ∀ (l : List α) (i : Int), 0 ≤ i → decide (0 ≤ D0 p i l) = l.any p
 | [], i, _ => rfl
 | x :: l, i, hi => by
  rw [D0, List.any_cons, ← b2g p l (i + 1) (by omega)]
  cases hx : p x with
  | true => rw [if_pos rfl, decide_eq_true hi]; rfl
  | false => rw [if_neg (by simp)]; rfl
theorem b8D (W : List (Int × Int)) (hW : W.length ≤ 1000000) (t : Int) : FC Tryz.prog 174 none [b0q false W, .one (.fn 175 [.ep [.g (.int .i64 t)]])] (fun _ r => r = bv (W.any fun w => decide (w.1 ≤ t ∧ t < w.2))) := by
 refine fcE Tryz.func174 (aL [[0,1],[4]]) ?_
 have hi := c4h 175 [.g (.int .i64 t)] (fun w => decide (w.1 ≤ t ∧ t < w.2)) W hW (fun x _ => c3M x t)
 rw [← b2g (fun w : Int × Int => decide (w.1 ≤ t ∧ t < w.2)) W 0 (by omega)]
 refine qcs hi ?_
 exact qts
theorem b4Y (l : List Alm) (s : List Ser) (r : Rst) (k : ByteArray) (t : Int) (hW : (wnK s k l).length ≤ 1000000) : G9 Tryz.prog 155 [1000002, 1000003, 1000004] (waH l (acM s l) r) [.one (.bx 1000001 0), sv k, iv t]
  (fun H y => H = waH l (acM s l) r ∧ y = bv ((wnK s k l).any fun w => decide (w.1 ≤ t ∧ t < w.2))) := by
 refine fsE Tryz.func155 [aN [0,1,5,1000001] [5,1000001] [1000002,1000003,1000004],aN [6] [1000001] [1000002,1000003,1000004]] ⟨[], [1000001], [1000002, 1000003, 1000004]⟩ ?_
 have hc := b8D (wnK s k l) hW t
 unfold waH waC
 refine qcs hc ?_
 exact qts
/-! ### what is reported -/
def d3m (l : List Alm) (s : List Ser) (r : Rst) (x : Alm) (t : Int) (p : ByteArray) : AS := ⟨m9 [(0, .one (.bx 1000001 0)), (2, iv t), (4, .one (.bx 4 0)), (7, sv p), (1000001, .any)], f9 [(4, z7 x), (1000001, waC l (acM s l))], f9 [(1000002, mpR r.st), (1000003, mpR r.sh), (1000004, n9 r.ig)]⟩
theorem b7A (l : List Alm) (hA : J8 l) (s : List Ser) (hW : ∀ k, (wnK s k l).length ≤ 1000000) (r : Rst) (x : Alm) (hx : x ∈ l) (t : Int) : G9 Tryz.prog 100 [1000002, 1000003, 1000004] (waH l (acM s l) r) [.one (.bx 1000001 0), .ag (z7 x), iv t]
  (fun H y => H = waH l (acM s l) r ∧ y = iv (c0u l s r x t)) := by
 refine fsE Tryz.func100 (aM [4,1000001] [1000002,1000003,1000004] [[0,2,4,1000001],[0,2,4,7,1000001],[0,2,4,7,11,1000001]] ++ [⟨(kP [0,2,4,7,28,1000001] [4,1000001] [1000002,1000003,1000004]),[],[],[],[(28,⟨[1000001],[1000002,1000003,1000004],[1000001],[1000002,1000003,1000004],[1000002,1000003,1000004]⟩)]⟩,aN [6] [1000001] [1000002,1000003,1000004]] ++ aM [4,1000001] [1000002,1000003,1000004] [[0,2,4,7,1000001],[0,4,37,1000001]] ++ aM [1000001] [1000002,1000003,1000004] [[6],[6]]) ⟨[], [1000001], [1000002, 1000003, 1000004]⟩ ?_
 have hl := hA.len
 have hch := hA.chn x hx
 unfold c0u
 generalize hT : (G0 l (l.length + 1) x).any (fun j => a0H s (l.getD j.toNat default) t) = T
 unfold waH waC
 refine qvs ?_
 refine n8 (fun (y : Alm) (n : Nat) => d3m l s r x t y.p) (fun y n => y ∈ l ∧ (G0 l n y).length < n ∧ (G0 l n y).any (fun j => a0H s (l.getD j.toNat default) t) = T) (fun _ n => n) x (l.length + 1) ⟨hx, by omega, hT⟩ ?_ ?_
 ·unfold d3m waC
  simp only [o6]
 rintro y n ⟨h1, h2, h3⟩
 unfold d3m waC
 by_cases c1 : y.p = emp
 ·have e : G0 l n y = [] := by
   cases n with
   | zero => rfl
   | succ n => rw [G0, if_pos c1]
  rw [e, List.any_nil] at h3
  subst h3
  have c1' : ¬¬y.p = emp := fun h => h c1
  rw [if_neg (by simp)]
  by_cases c2 : mgt x.k r.sh > t
  ·rw [if_pos c2]
   exact qts
  ·rw [if_neg c2]
   exact qts
 ·have hix := hA.par y h1 c1
  obtain ⟨n, rfl⟩ : ∃ m, n = m + 1 := ⟨n - 1, by omega⟩
  have hc := H5 y.p l (by omega)
  have ey := e8 z7 l (q8 l y.p) [] hix.1 hix.2
  have hpm : a3h l y ∈ l := j5 l _ (by omega)
  have hi := b4Y l s r y.p t (hW _)
  have hwk : (wnK s y.p l).any (fun w => decide (w.1 ≤ t ∧ t < w.2)) = a0H s (l.getD (q8 l y.p).toNat default) t := by
   have := b1o s y.p l 0 (by omega)
   rw [Int.sub_zero] at this
   rw [this, if_pos (show 0 ≤ D0 (fun x : Alm => decide (x.k = y.p)) 0 l from hix.1)]; rfl
  rw [hwk] at hi
  rw [G0, if_neg c1] at h2 h3
  rw [List.any_cons] at h3
  rw [List.length_cons] at h2
  have epo : a3h l y = l.getD (q8 l y.p).toNat default := rfl
  rw [epo] at h2 h3 hpm
  unfold waH waC at hi
  cases hb : a0H s (l.getD (q8 l y.p).toNat default) t with
  | true =>
   rw [hb] at h3 hi
   rw [Bool.true_or] at h3
   subst h3
   rw [if_pos rfl]
   refine qvs ?_
   refine ⟨rfl, f7 hi ⟨rfl, rfl⟩ ?_⟩
   exact qts
  | false =>
   rw [hb] at h3 hi
   rw [Bool.false_or] at h3
   refine qvs ?_
   refine ⟨rfl, f7 hi ⟨rfl, rfl⟩ ?_⟩
   refine qcs hc ?_
   refine qvs ?_
   exact ⟨_, n, rfl, ⟨hpm, by omega, h3⟩, by omega⟩
abbrev wbH (l : List Alm) (ac : List (List Cel)) (r : Rst) : Hp := ⟨[(1000001, waC l ac), (1000005, [.bx 1000001 0])], [(1000002, mpR r.st), (1000003, mpR r.sh), (1000004, n9 r.ig)]⟩
theorem c5H (l : List Alm) (ac : List (List Cel)) (r : Rst) (x : Alm) : G9 Tryz.prog 147 [1000002, 1000003] (wbH l ac r) [.one (.bx 1000005 0), .one (.ep (z7 x))]
  (fun H y => H = wbH l ac { r with st := mpt x.k 2 r.st } ∧ y = .tu []) := by
 refine fsE Tryz.func147 [aN [] [1000001,1000005] [1000001,1000002,1000003,1000004]] ⟨[], [1000001, 1000005], [1000002, 1000003, 1000004]⟩ ?_
 unfold wbH waC
 exact qts
theorem c1n (l : List Alm) (ac : List (List Cel)) (r : Rst) (x : Alm) : G9 Tryz.prog 148 [1000002, 1000003] (wbH l ac r) [.one (.bx 1000005 0), .one (.ep (z7 x))]
  (fun H y => H = wbH l ac { r with st := mpt x.k (if x.lt = true ∧ mgt x.k r.st = 2 then 4 else 1) r.st } ∧ y = .tu []) := by
 refine fsE Tryz.func148 [⟨(kP [] [1000001,1000005] [1000001,1000002,1000003,1000004]),[],[],[],[(4,⟨[1000001],[1000002,1000003,1000004],[1000001],[1000002,1000003,1000004],[1000002,1000003,1000004]⟩)]⟩] ⟨[], [1000001, 1000005], [1000002, 1000003, 1000004]⟩ ?_
 have ht := b0h l ac r x
 unfold wbH waC
 unfold waH waC at ht
 refine qvs ?_
 refine ⟨rfl, f7 ht ⟨rfl, rfl⟩ ?_⟩
 exact qts
theorem c3g (l : List Alm) (hl : l.length ≤ 1000000) (ac : List (List Cel)) (r : Rst) (hr : r.ig.length ≤ 1000000) (x : Opr) (k : Nat) : G9 Tryz.prog 150 [1000002, 1000003] (wbH l ac r) [.one (.bx 1000005 0), .one (.ep (N7 x)), .one (.ep [.g (.int .i64 k)])]
  (fun H y => H = wbH l ac (if (a4p l x r).2 = true then (a4p l x r).1 else { (a4p l x r).1 with ig := (a4p l x r).1.ig ++ [(k : Int)] }) ∧ y = .tu []) := by
 refine fsE Tryz.func150 [⟨(kP [0,2,6,1000005] [1000001,1000005] [1000001,1000002,1000003,1000004]),[],[],[],[(5,⟨[1000001],[1000002,1000003,1000004],[1000001],[1000002,1000003,1000004],[1000002,1000003,1000004]⟩)]⟩,⟨(kP [] [1000001,1000005] [1000001,1000002,1000003,1000004]),[],[(0,(some 1000005))],[],[]⟩] ⟨[], [1000001, 1000005], [1000002, 1000003, 1000004]⟩ ?_
 have ht := b5f l hl ac r x
 have hig : (a4p l x r).1.ig = r.ig := by
  unfold a4p
  (repeat' split) <;> rfl
 unfold wbH waC
 unfold waH waC at ht
 refine qvs ?_
 refine ⟨rfl, f7 ht ⟨rfl, rfl⟩ ?_⟩
 generalize a4p l x r = q at hig ⊢
 cases hq : q.2 with
 | true => exact qts
 | false =>
  have hq' : q.1.ig.length ≤ 1000000 := by rw [hig]; exact hr
  refine qvs ?_
  rw [n9, List.map_append]; rfl
theorem c6k : FC Tryz.prog 152 none [] (fun _ y => y = .tu []) := by
 refine fcE Tryz.func152 [] ?_
 exact qts
end Go.Proofs.YtbhgndiboeppeaaGreatDoor
