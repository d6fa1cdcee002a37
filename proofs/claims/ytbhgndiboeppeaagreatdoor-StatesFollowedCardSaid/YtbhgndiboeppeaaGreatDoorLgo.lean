/- What the reference tells of its log: an alarm's state, the standing alarms, the acts that are ignored, the changes within a window. -/
import Derived.Test.YtbhgndiboeppeaaGreatDoorLgn
import Derived.Test.YtbhgndiboeppeaaGreatDoorStn
set_option linter.all false
set_option maxHeartbeats 4000000
set_option maxRecDepth 100000
namespace Go.Proofs.YtbhgndiboeppeaaGreatDoor
open Go Go.Ai
theorem b9j (cl : FuncId) {c : Std → Std → Int} {p : Std → Prop} (hS : Swo p c) (z : Nat) (es : List (List Cel)) (hcl : ∀ x y, p x → p y → FC Tryz.prog cl none [.ag (u7 x), .ag (u7 y), .one (.ep [.sl false z es])] (fun _ r => r = iv (c x y))) (d : List Std) (hp : ∀ x ∈ d, p x) (hlen : d.length ≤ 12) :
  G9 Tryz.prog 101 [1000000] ⟨[(1000001, [.sl false z es])], [(1000000, l9 d)]⟩ [.one (.ow 1000000 0), iv d.length, .one (.fn cl [.bx 1000001 0])] (fun H r => H = ⟨[(1000001, [.sl false z es])], [(1000000, l9 (l7 c d))]⟩ ∧ r = .tu []) := by
 refine fsE Tryz.func101 (aM [1000001] [1000000] [[0,1,2,6,1000001],[0,1,2,6,7,8,1000001],[0,1,2,6,7,8,13,1000001]] ++ [⟨(kP [0,1,2,6,8,1000001] [1000001] [1000000]),[],[],[],[(18,⟨[1000001],[1000000],[1000001],[1000000],[1000000]⟩)]⟩] ++ aM [1000001] [1000000] [[0,1,2,6,7,8,1000001],[0,1,2,6,7,8,1000001]] ++ [⟨(kP [0,1,2,6,1000001] [1000001] [1000000]),[],[],[],[(27,⟨[1000001],[1000000],[1000001],[1000000],[1000000]⟩)]⟩] ++ aM [1000001] [1000000] [[0,1,2,6,30,1000001],[0,1,2,6,7,8,1000001],[0,1,2,6,7,8,35,1000001]] ++ [⟨(kP [0,1,2,6,8,1000001] [1000001] [1000000]),[],[],[],[(43,⟨[1000001],[1000000],[1000001],[1000000],[1000000]⟩)]⟩] ++ aM [1000001] [1000000] [[0,1,2,6,7,8,1000001],[0,1,2,6,7,8,1000001],[0,1,2,6,7,9,1000001],[0,1,2,6,7,9,54,1000001]] ++ [⟨(kP [0,1,2,6,1000001] [1000001] [1000000]),[],[],[],[(60,⟨[1000001],[1000000],[1000001],[1000000],[1000000]⟩)]⟩,aN [0,1,2,6,1000001] [1000001] [1000000]]) ⟨[], [1000001], [1000000]⟩ ?_
 have hi := a7w cl hS z es hcl [] d [] d (by simp) hp (by omega) 0 d.length (by simp) (by simp)
 rw [List.nil_append, List.append_nil] at hi
 refine qv ?_
 refine X7 1 ?_
 refine qv ?_
 refine ⟨rfl, f7 hi ⟨rfl, rfl⟩ ?_⟩
 refine qv ?_
 refine X7 1 ?_
 exact qt
theorem b8C (cl : FuncId) {c : Std → Std → Int} {p : Std → Prop} (hS : Swo p c) (z : Nat) (es : List (List Cel)) (hcl : ∀ x y, p x → p y → FC Tryz.prog cl none [.ag (u7 x), .ag (u7 y), .one (.ep [.sl false z es])] (fun _ r => r = iv (c x y))) (d : List Std) (hp : ∀ x ∈ d, p x) (hlen : d.length ≤ 12) :
  G9 Tryz.prog 65 [1000000] ⟨[(1000001, [.sl false z es])], [(1000000, l9 d)]⟩ [.one (.ow 1000000 0), .one (.fn cl [.bx 1000001 0])] (fun H r => H = ⟨[(1000001, [.sl false z es])], [(1000000, l9 (l7 c d))]⟩ ∧ r = .tu []) := by
 refine fsE Tryz.func65 [⟨(kP [] [1000001] [1000000]),[],[],[],[(8,⟨[1000001],[1000000],[1000001],[1000000],[1000000]⟩)]⟩] ⟨[], [1000001], [1000000]⟩ ?_
 refine qv ?_
 refine ⟨rfl, f7 (b9j cl hS z es hcl d hp hlen) ⟨rfl, rfl⟩ ?_⟩
 exact qt
/-! ### DeleteFunc of changes -/
def c9G (cl : FuncId) (cs : List Cel) (l : List Std) (i : Int) : AS := ⟨m9 [(0, .one (.sl false 3 (l.map u7))), (1, .one (.fn cl [.ep cs])), (7, iv l.length), (8, iv i)], f9 [], f9 []⟩
theorem c2O (cl : FuncId) (cs : List Cel) (p : Std → Bool) (l : List Std) (hl : l.length ≤ 1000000) (hcl : ∀ x ∈ l, FC Tryz.prog cl none [.ag (u7 x), .one (.ep cs)] (fun _ r => r = bv (p x))) : FC Tryz.prog 102 none [.one (.sl false 3 (l.map u7)), .one (.fn cl [.ep cs])] (fun _ r => r = iv (D0 p 0 l)) := by
 refine fcE Tryz.func102 (aL [[0,1],[0,1,7,8],[0,1,7,8,9],[0,1,5,7,8],[0,1,5,7,8,16],[4],[0,1,7,8],[4]]) ?_
 refine qv ?_
 refine j9 (c9G cl cs l) (fun i => 0 ≤ i ∧ i ≤ l.length ∧ D0 p i (l.drop i.toNat) = D0 p 0 l) (fun i => (l.length - i).toNat) 0 ⟨by omega, by omega, rfl⟩ rfl ?_
 rintro i ⟨g1, g2, g3⟩
 unfold c9G
 by_cases hi : i < l.length
 ·rw [m7 l i.toNat (by omega), D0] at g3
  have e2 : (i + 1).toNat = i.toNat + 1 := by omega
  have em := e8 u7 l i [] g1 hi
  have hc := hcl _ (j5 l i.toNat (by omega))
  refine qc hc ?_
  cases h : p (l.getD i.toNat default) with
  | true => rw [h, if_pos rfl] at g3; refine qv ?_; rw [← g3]
  | false =>
   rw [h, if_neg (by simp)] at g3
   refine qv ?_
   exact ⟨_, rfl, ⟨by omega, by omega, by rw [e2]; exact g3⟩, by omega⟩
 ·rw [List.drop_eq_nil_of_le (by omega), D0] at g3
  refine qv ?_
  rw [← g3]
def c1C (cl : FuncId) (ta tb : Int) (j k : Int) (cur : List Std) : AS := ⟨m9 [(0, .one (.ow 1000000 0)), (1, .one (.fn cl [.bx 1000001 0])), (5, iv j), (6, iv k), (1000001, .any)], f9 [(1000001, [.g (.int .i64 ta), .g (.int .i64 tb)])], f9 [(1000000, l9 cur)]⟩
theorem b7o (cl : FuncId) (ta tb : Int) (p : Std → Bool) (l : List Std) (hl : l.length ≤ 1000000) (hcl : ∀ x ∈ l, FC Tryz.prog cl none [.ag (u7 x), .one (.ep [.g (.int .i64 ta), .g (.int .i64 tb)])] (fun _ r => r = bv (p x))) :
  FCM Tryz.prog 67 ⟨[(1000001, [.g (.int .i64 ta), .g (.int .i64 tb)])], [(1000000, l9 l)]⟩ [.one (.ow 1000000 0), .one (.fn cl [.bx 1000001 0])] (fun H r => H = ⟨[(1000001, [.g (.int .i64 ta), .g (.int .i64 tb)])], [(1000000, l9 (l.filter fun x => !p x))]⟩ ∧ r = .one (.ow 1000000 0)) := by
 refine fmE Tryz.func67 (aM [1000001] [1000000] [[0,1,1000001],[0,1,5,1000001],[0,1,5,12,1000001],[4],[0,1,5,6,1000001],[0,1,5,6,19,1000001]] ++ aM [7,1000001] [1000000] [[0,1,5,6,7,1000001],[0,1,5,6,7,29,1000001]] ++ aM [1000001] [1000000] [[0,1,5,6,1000001],[0,1,5,6,1000001],[0,1,5,6,1000001]] ++ [⟨(kP [0,5] [1000001] [1000000]),[],[],[],[(38,⟨[],[],[],[],[]⟩)]⟩,⟨(kP [4] [1000001] [1000000]),[],[],[],[(41,⟨[],[],[],[],[]⟩)]⟩]) ⟨[], [1000001], [1000000]⟩ ?_
 refine qc (c2O cl [.g (.int .i64 ta), .g (.int .i64 tb)] p l hl hcl) ?_
 rcases X2 p l 0 (by omega) with ⟨h1, h2⟩ | ⟨h1, h2, h3, h4⟩
 ·rw [h1]
  rw [a1m h2]
  exact qt
 ·generalize D0 p 0 l = i at *
  rw [show (i - 0).toNat = i.toNat by omega] at h3
  have h5 := DelI.start h1 (by omega) h3 (fun j hj => h4 j (by omega))
  refine qv ?_
  refine D8 (c1C cl ta tb) (DelI p l) (fun _ k _ => (l.length - k).toNat) i (i + 1) l h5 rfl ?_
  rintro j k cur hI
  have i1 := hI.j0
  have i2 := hI.jk
  have i3 := hI.kn
  have i4 := hI.len
  unfold c1C
  by_cases hk : k < l.length
  ·have eat := hI.at hk
   have ek := e8 u7 cur k [] (by omega) (by omega)
   have ej := l0 u7 cur j.toNat (by omega)
   have hc := hcl _ (j5 l k.toNat (by omega))
   refine qv ?_
   rw [eat]
   refine n6 hc (.inl rfl) ?_
   cases hp : p (l.getD k.toNat default) with
   | true =>
    refine qv ?_
    exact ⟨_, _, _, rfl, hI.del hk hp, by omega⟩
   | false =>
    refine qv ?_
    exact ⟨j + 1, k + 1, cur.set j.toNat (l.getD k.toNat default), by simp only [c1C, l9, List.map_set, F4], hI.put hk hp, by omega⟩
  ·have hf := hI.fin hk
   refine qv ?_
   refine ⟨⟨by omega, by simp; omega, by simp; omega⟩, ?_⟩
   rw [List.take_left' (by simp; omega), ← List.map_take, hf]
end Go.Proofs.YtbhgndiboeppeaaGreatDoor
