/-
 The reference's scale, part and share: the same numbers as the mixer's.
-/
import Derived.Test.YtodmofhehabmgaaGreatDoorMpt
namespace Go.Proofs.YtodmofhehabmgaaGreatDoor
open Go Go.Ai
set_option linter.unusedSimpArgs false
set_option linter.unusedVariables false
set_option maxHeartbeats 4000000
def C_rinto : AC := (.seq (.reg false [gI 4 (.mv (.v (.slice none 0 0))),gI 5 (.mv (oI 0))] (kP [0,1] [] []))
 (.seq (.seq (.reg false [gI 6 (.mv (.v (.slice none 0 0)))] (kP [0,1,6] [] []))
 (.own 6 54 3))
 (.seq (.reg false [gI 7 (.mv (oI 0))] (kP [0,1,6,7] [] [6]))
 (.seq (.seq (.reg false [gM 10 0,gI 11 (.len (.t 10)),gI 12 (.mv (oI 0))] (kP [1,6,7,10,11,12] [] [6]))
 (.block 0 (.loop (.seq (.reg false [gI 13 (.bin .lss (.t 12) (.t 11))] (kP [1,6,7,10,11,12,13] [] [6]))
 (.seq (.cond (.t 13)
 .skip
 (.exit 0))
 (.seq (.block 1 (.seq (.reg false [gI 14 (.iadr 3 (.t 10) (.t 12)),gI 15 (.load true 3 (.t 14)),gI 9 (.alloc [(.string (ByteArray.mk #[])),(.string (ByteArray.mk #[])),(.int .i64 (0))]),gN (.store 3 (.t 9) (.t 15))] (kP [1,6,7,9,10,11,12] [9] [6]))
 (.seq (.reg false [gI 16 (.fadr 1 (.t 9)),gI 17 (.load false 1 (.t 16)),gM 18 1,gI 19 (.bin .eql (.t 17) (.t 18))] (kP [1,6,7,9,10,11,12,19] [9] [6]))
 (.cond (.t 19)
 (.seq (.reg false [gM 20 6,gI 21 (.load true 3 (.t 9)),gI 22 (.bslice 3 1 [(.t 21)]),gI 23 (.append 54 3 40 (.t 20) (.t 22)),gM 6 23] (kP [1,6,7,9,10,11,12] [9] [6]))
 (.reg false [gM 24 7,gI 25 (.fadr 2 (.t 9)),gI 26 (.load false 1 (.t 25)),gI 27 (.bin .add (.t 24) (.t 26)),gM 7 27] (kP [1,6,7,10,11,12] [] [6])))
 .skip))))
 (.reg false [gI 28 (.bin .add (.t 12) (oI 1)),gM 12 28] (kP [1,6,7,10,11,12] [] [6]))))))))
 (.seq (.reg false [gM 29 6,gM 30 7,gM 4 29,gM 5 30] (kP [4,5] [] []))
 .ret)))))
theorem fc_rinto : FcT Tryz.prog 97 Tryz.f97 C_rinto [.t 4, .t 5] := fc_mk [aN [0,1] [] [],⟨(kP [0,1,6] [] []),[(6,54,3)],[],[],[]⟩,aN [0,1,6,7] [] [6],aN [1,6,7,10,11,12] [] [6],aN [1,6,7,10,11,12,13] [] [6],aN [1,6,7,9,10,11,12] [9] [6],aN [1,6,7,9,10,11,12,19] [9] [6],aN [1,6,7,9,10,11,12] [9] [6],aN [1,6,7,10,11,12] [] [6],aN [1,6,7,10,11,12] [] [6],aN [4,5] [] []] Tryz.func97 (by kernel_rfl)
def C_rscale : AC := (.seq (.reg false [gI 4 (.mv (oI 0))] (kP [0,1] [] []))
 (.seq (.reg false [gM 12 0,gM 13 1,gI 14 (.call (.f 97) [(.t 12),(.t 13)]),gM 11 14,gI 15 (.extr (.t 11) 0),gI 16 (.extr (.t 11) 1),gM 5 15,gM 6 16] (kP [0,5,6] [] []))
 (.seq (.seq (.reg false [gM 17 5,gI 18 (.len (.t 17)),gI 19 (.bin .eql (.t 18) (oI 0))] (kP [0,5,6,19] [] []))
 (.cond (.t 19)
 (.seq (.reg false [gI 4 (.mv (oI 1))] (kP [4] [] []))
 .ret)
 .skip))
 (.seq (.reg false [gI 7 (.mv (oI 1))] (kP [0,5,6,7] [] []))
 (.seq (.seq (.reg false [gM 20 5,gI 21 (.len (.t 20)),gI 22 (.mv (oI 0))] (kP [0,6,7,20,21,22] [] []))
 (.block 0 (.loop (.seq (.reg false [gI 23 (.bin .lss (.t 22) (.t 21))] (kP [0,6,7,20,21,22,23] [] []))
 (.seq (.cond (.t 23)
 .skip
 (.exit 0))
 (.seq (.block 1 (.seq (.reg false [gI 24 (.iadr 3 (.t 20) (.t 22)),gI 25 (.load true 3 (.t 24)),gI 9 (.alloc [(.string (ByteArray.mk #[])),(.string (ByteArray.mk #[])),(.int .i64 (0))]),gN (.store 3 (.t 9) (.t 25))] (kP [0,6,7,9,20,21,22] [9] []))
 (.seq (.reg false [gM 26 0,gI 27 (.fadr 0 (.t 9)),gI 28 (.load false 1 (.t 27)),gI 29 (.call (.f 58) [(.t 26),(.t 28)]),gM 10 29] (kP [0,6,7,10,20,21,22] [] []))
 (.seq (.seq (.reg false [gM 30 10,gI 31 (.bin .eql (.t 30) (oI 0))] (kP [0,6,7,10,20,21,22,31] [] []))
 (.cond (.t 31)
 (.seq (.reg false [gI 4 (.mv (oI 0))] (kP [4] [] []))
 .ret)
 .skip))
 (.seq (.reg false [gM 32 10,gM 33 10,gM 34 7,gI 35 (.call (.f 98) [(.t 33),(.t 34)]),gI 36 (.bin .quo (.t 32) (.t 35)),gM 10 36] (kP [0,6,7,10,20,21,22] [] []))
 (.seq (.seq (.reg false [gM 37 7,gM 38 10,gI 39 (.bin .quo (oI 1000000000000) (.t 38)),gI 40 (.bin .gtr (.t 37) (.t 39))] (kP [0,6,7,10,20,21,22,40] [] []))
 (.cond (.t 40)
 (.seq (.reg false [gI 4 (.mv (oI 0))] (kP [4] [] []))
 .ret)
 .skip))
 (.reg false [gM 41 7,gM 42 10,gI 43 (.bin .mul (.t 41) (.t 42)),gM 7 43] (kP [0,6,7,20,21,22] [] []))))))))
 (.reg false [gI 44 (.bin .add (.t 22) (oI 1)),gM 22 44] (kP [0,6,7,20,21,22] [] []))))))))
 (.seq (.seq (.reg false [gM 45 7,gM 46 6,gI 47 (.bin .quo (oI 1000000000000) (.t 46)),gI 48 (.bin .gtr (.t 45) (.t 47))] (kP [6,7,48] [] []))
 (.cond (.t 48)
 (.seq (.reg false [gI 4 (.mv (oI 0))] (kP [4] [] []))
 .ret)
 .skip))
 (.seq (.reg false [gM 49 7,gM 50 6,gI 51 (.bin .mul (.t 49) (.t 50)),gM 4 51] (kP [4] [] []))
 .ret)))))))
theorem fc_rscale : FcT Tryz.prog 58 Tryz.f58 C_rscale [.t 4] := fc_mk [aN [0,1] [] [],aN [0,5,6] [] [],aN [0,5,6,19] [] [],aN [4] [] [],aN [0,5,6,7] [] [],aN [0,6,7,20,21,22] [] [],aN [0,6,7,20,21,22,23] [] [],aN [0,6,7,9,20,21,22] [9] [],aN [0,6,7,10,20,21,22] [] [],aN [0,6,7,10,20,21,22,31] [] [],aN [4] [] [],aN [0,6,7,10,20,21,22] [] [],aN [0,6,7,10,20,21,22,40] [] [],aN [4] [] [],aN [0,6,7,20,21,22] [] [],aN [0,6,7,20,21,22] [] [],aN [6,7,48] [] [],aN [4] [] [],aN [4] [] []] Tryz.func58 (by kernel_rfl)
def C_rpart : AC := (.seq (.reg false [gI 8 (.mv (oI 0))] (kP [0,1,2,3] [] []))
 (.seq (.seq (.reg false [gM 14 1,gM 15 2,gI 16 (.bin .eql (.t 14) (.t 15))] (kP [0,1,2,3,16] [] []))
 (.cond (.t 16)
 (.seq (.reg false [gM 17 3,gM 8 17] (kP [8] [] []))
 .ret)
 .skip))
 (.seq (.reg false [gM 19 0,gM 20 1,gI 21 (.call (.f 97) [(.t 19),(.t 20)]),gM 18 21,gI 22 (.extr (.t 18) 0),gI 23 (.extr (.t 18) 1),gM 9 22,gM 10 23] (kP [0,2,3,9,10] [] []))
 (.seq (.reg false [gI 11 (.mv (oI 0))] (kP [0,2,3,9,10,11] [] []))
 (.seq (.seq (.reg false [gM 24 9,gI 25 (.len (.t 24)),gI 26 (.mv (oI 0))] (kP [0,2,3,10,11,24,25,26] [] []))
 (.block 0 (.loop (.seq (.reg false [gI 27 (.bin .lss (.t 26) (.t 25))] (kP [0,2,3,10,11,24,25,26,27] [] []))
 (.seq (.cond (.t 27)
 .skip
 (.exit 0))
 (.seq (.block 1 (.seq (.reg false [gI 28 (.iadr 3 (.t 24) (.t 26)),gI 29 (.load true 3 (.t 28)),gI 13 (.alloc [(.string (ByteArray.mk #[])),(.string (ByteArray.mk #[])),(.int .i64 (0))]),gN (.store 3 (.t 13) (.t 29))] (kP [0,2,3,10,11,13,24,25,26] [13] []))
 (.reg true [gM 30 11,gI 31 (.fadr 2 (.t 13)),gI 32 (.load false 1 (.t 31)),gM 33 0,gI 34 (.fadr 0 (.t 13)),gI 35 (.load false 1 (.t 34)),gM 36 2,gM 37 3,gM 38 10,gI 39 (.bin .quo (.t 37) (.t 38)),gI 40 (.call (.f 60) [(.t 33),(.t 35),(.t 36),(.t 39)]),gI 41 (.bin .mul (.t 32) (.t 40)),gI 42 (.bin .add (.t 30) (.t 41)),gM 11 42] (kP [0,2,3,10,11,24,25,26] [] []))))
 (.reg false [gI 43 (.bin .add (.t 26) (oI 1)),gM 26 43] (kP [0,2,3,10,11,24,25,26] [] []))))))))
 (.seq (.reg false [gM 44 11,gM 8 44] (kP [8] [] []))
 .ret))))))
theorem fc_rpart : FcT Tryz.prog 60 Tryz.f60 C_rpart [.t 8] := fc_mk [aN [0,1,2,3] [] [],aN [0,1,2,3,16] [] [],aN [8] [] [],aN [0,2,3,9,10] [] [],aN [0,2,3,9,10,11] [] [],aN [0,2,3,10,11,24,25,26] [] [],aN [0,2,3,10,11,24,25,26,27] [] [],aN [0,2,3,10,11,13,24,25,26] [13] [],aN [0,2,3,10,11,24,25,26] [] [],aN [0,2,3,10,11,24,25,26] [] [],aN [8] [] []] Tryz.func60 (by kernel_rfl)
def C_rshare : AC := (.seq (.reg false [gI 6 (.alloc [(.int .i64 (0)),(.int .i64 (0))]),gI 7 (.mv (oI 0))] (kP [0,1,2,6] [6] []))
 (.seq (.reg false [gM 9 0,gM 10 1,gI 11 (.call (.f 58) [(.t 9),(.t 10)]),gM 8 11] (kP [0,1,2,6,8] [6] []))
 (.seq (.seq (.reg false [gM 12 8,gI 13 (.bin .eql (.t 12) (oI 0))] (kP [0,1,2,6,8,13] [6] []))
 (.cond (.t 13)
 (.seq (.reg false [gI 14 (.build [(.int .i64 (0)),(.int .i64 (0))] []),gN (.store 2 (.t 6) (.t 14)),gI 7 (.mv (oI 12))] (kP [6,7] [6] []))
 .ret)
 .skip))
 (.seq (.reg false [gM 15 0,gM 16 1,gM 17 2,gM 18 8,gI 19 (.call (.f 60) [(.t 15),(.t 16),(.t 17),(.t 18)]),gM 20 8,gI 21 (.call (.f 59) [(.t 19),(.t 20)]),gN (.store 2 (.t 6) (.t 21)),gI 7 (.mv (oI 0))] (kP [6,7] [6] []))
 .ret))))
theorem fc_rshare : FcT Tryz.prog 20 Tryz.f20 C_rshare [.cell 6 true 2, .t 7] := fc_mk [aN [0,1,2,6] [6] [],aN [0,1,2,6,8] [6] [],aN [0,1,2,6,8,13] [6] [],aN [6,7] [6] [],aN [6,7] [6] []] Tryz.func20 (by kernel_rfl)
/-- The scale's second part is a common multiple. -/
theorem lcm_dvd {a n : Int} (ha : 0 < a) (hn : 0 < n) : a ∣ a * n.tdiv (Nat.gcd n.toNat a.toNat) ∧ n ∣ a * n.tdiv (Nat.gcd n.toNat a.toNat) := by
 have e : a * n.tdiv (Nat.gcd n.toNat a.toNat) = (Nat.lcm n.toNat a.toNat : Nat) := by
  have h1 : n.tdiv (Nat.gcd n.toNat a.toNat) = ((n.toNat / Nat.gcd n.toNat a.toNat : Nat) : Int) := by
   conv => lhs; rw [show n = (n.toNat : Int) by omega]
   rfl
  have h2 : a = (a.toNat : Int) := by omega
  have h3 : a.toNat * (n.toNat / Nat.gcd n.toNat a.toNat) = Nat.lcm n.toNat a.toNat := by
   unfold Nat.lcm
   rw [Nat.mul_comm n.toNat, Nat.mul_div_assoc _ (Nat.gcd_dvd_left _ _)]
  rw [h1]
  conv => lhs; arg 1; rw [h2]
  rw [← Int.natCast_mul, h3]
 have cast : ∀ {x : Int} {k : Nat}, 0 < x → (x ∣ (k : Int) ↔ x.toNat ∣ k) := fun {x k} hx => by
  conv => lhs; rw [show x = (x.toNat : Int) by omega]
  exact Int.natCast_dvd_natCast
 rw [e]
 exact ⟨(cast ha).2 (Nat.dvd_lcm_right _ _), (cast hn).2 (Nat.dvd_lcm_left _ _)⟩
theorem scFold_dv {k : ByteArray → Int} : ∀ (ins : List Trf) (p : Int × Int), (∀ x ∈ ins, 0 ≤ k x.frm) → 0 ≤ p.2 → 0 < (ins.foldl (scStep k) p).2 → 0 < p.2 ∧ p.2 ∣ (ins.foldl (scStep k) p).2 ∧ ∀ x ∈ ins, k x.frm ∣ (ins.foldl (scStep k) p).2
 | [], p, _, _, h => ⟨h, Int.dvd_refl _, fun x hx => (by simp at hx)⟩
 | x :: r, p, hk, h0, h => by
  have hx : 0 < k x.frm := scFold_pos (x :: r) p hk h x (by simp)
  rw [List.foldl_cons] at h ⊢
  have hp : 0 < p.2 := by
   by_cases c : p.2 = 0
   ·exfalso
    have e : scStep k p x = (p.1 + x.amt, 0) := by unfold scStep; rw [c, tms_zero (.inl rfl)]
    rw [e, scFold_zero] at h; omega
   ·omega
  have h5 : 0 ≤ (scStep k p x).2 := by
   unfold scStep
   refine (tms_bd h0 ?_).1
   split
   ·exact Int.tdiv_nonneg (by omega) (Int.natCast_nonneg _)
   ·omega
  obtain ⟨q1, q2, q3⟩ := scFold_dv r (scStep k p x) (fun y hy => hk y (by simp [hy])) h5 h
  have e : (scStep k p x).2 = p.2 * (k x.frm).tdiv (Nat.gcd (k x.frm).toNat p.2.toNat) := by
   unfold scStep at q1 ⊢
   simp only at q1 ⊢
   rw [if_pos ⟨hx, hp⟩] at q1 ⊢
   exact (tms_pos q1).2.2
  obtain ⟨l1, l2⟩ := lcm_dvd hp hx
  rw [← e] at l1 l2
  refine ⟨hp, Int.dvd_trans l1 q2, fun y hy => ?_⟩
  rcases List.mem_cons.1 hy with rfl | hy
  ·exact Int.dvd_trans l2 q2
  ·exact q3 y hy
theorem SC_dv {l : List Trf} (hf : Flo l) {b : ByteArray} (hp : 0 < SC l b) (hne : inT l b ≠ []) : ∀ x ∈ inT l b, SC l x.frm ∣ (SC l b).tdiv (amtS (inT l b)) := by
 obtain ⟨i1, i2, i3, i4⟩ := SC_in hf hp hne
 have hk : ∀ x ∈ inT l b, 0 ≤ SC l x.frm ∧ SC l x.frm ≤ 1000000000000 := fun x hx => SC_bd hf _ x.frm (Nat.lt_succ_self _)
 have h0 := SC_eq hf b
 unfold scOf at h0
 rw [scFold_fst] at h0
 simp only [Int.zero_add] at h0
 rw [if_pos (by omega)] at h0
 have h2 := tms_pos (by rw [← h0]; exact hp)
 have hbd := scFold_bd (k := SC l) (inT l b) (0, 1) (fun x hx => hf.amt x (inT_mem.1 hx).1) hk (by simp) (by simp)
 have hpos : 0 < ((inT l b).foldl (scStep (SC l)) (0, 1)).2 := by omega
 have h3 : SC l b = amtS (inT l b) * ((inT l b).foldl (scStep (SC l)) (0, 1)).2 := h0.trans h2.2.2
 obtain ⟨_, _, d3⟩ := scFold_dv (k := SC l) (inT l b) (0, 1) (fun x hx => (hk x hx).1) (by simp) hpos
 rw [h3, Int.mul_tdiv_cancel_left _ (by omega)]
 exact d3
theorem scFold_snd {k : ByteArray → Int} : ∀ (ins : List Trf) (a a' c : Int), (ins.foldl (scStep k) (a, c)).2 = (ins.foldl (scStep k) (a', c)).2
 | [], _, _, _ => rfl
 | x :: r, a, a', c => by
  rw [List.foldl_cons, List.foldl_cons]
  exact scFold_snd r _ _ _
/-- The common multiple, from one on. -/
def cmF (k : ByteArray → Int) (ins : List Trf) (c : Int) : Int := (ins.foldl (scStep k) (0, c)).2
theorem cmF_cons {k : ByteArray → Int} (x : Trf) (r : List Trf) (c : Int) (h1 : 0 < k x.frm) (h2 : 0 < c) : cmF k (x :: r) c = cmF k r (tms c ((k x.frm).tdiv (Nat.gcd (k x.frm).toNat c.toNat))) := by
 unfold cmF
 rw [List.foldl_cons]
 have e : scStep k (0, c) x = (0 + x.amt, tms c ((k x.frm).tdiv (Nat.gcd (k x.frm).toNat c.toNat))) := by unfold scStep; rw [if_pos ⟨h1, h2⟩]
 rw [e]; exact scFold_snd _ _ _ _
theorem cmF_zero {k : ByteArray → Int} (r : List Trf) : cmF k r 0 = 0 := scFold_zero r 0
theorem cmF_none {k : ByteArray → Int} (x : Trf) (r : List Trf) (c : Int) (h1 : k x.frm = 0) : cmF k (x :: r) c = 0 := by
 unfold cmF
 rw [List.foldl_cons]
 have e : scStep k (0, c) x = (0 + x.amt, 0) := by unfold scStep; rw [if_neg (by omega), h1, tms_zero (.inr rfl)]
 rw [e]; exact scFold_zero _ _
theorem tms_swap {a b : Int} (ha : 1 ≤ a) (hb : 1 ≤ b) : tms a b = if b > (1000000000000 : Int).tdiv a then 0 else b * a := by
 unfold tms
 have key : ∀ x y : Int, 1 ≤ x → 1 ≤ y → (x > (1000000000000 : Int).tdiv y ↔ x * y > 1000000000000) := fun x y hx hy => by
  rw [Int.tdiv_eq_ediv_of_nonneg (by omega)]
  constructor
  ·intro h
   have := Int.lt_mul_of_ediv_lt (show 0 < y by omega) h
   exact this
  ·intro h
   exact Int.ediv_lt_of_lt_mul (by omega) h
 have h1 := key a b ha hb
 have h2 := key b a hb ha
 rw [Int.mul_comm b a] at h2
 rw [Int.mul_comm b a]
 by_cases c : a * b > 1000000000000
 ·rw [if_pos (.inr (.inr (h1.2 c))), if_pos (h2.2 c)]
 ·rw [if_neg (by rintro (h | h | h) <;> first | omega | exact c (h1.1 h)), if_neg (fun h => c (h2.1 h))]
theorem frE_trn (l : List Trf) : frE (l.map trC) = true := frE_map (fun _ => rfl) l
attribute [local go_sem] frE_trn
abbrev inb (b : ByteArray) (y : Trf) : Bool := decide (y.to = b)
def riSt (l : List Trf) (b : ByteArray) (i : Int) (out : List Trf) (sum : Int) : AS := ⟨tabV [(1, sv b), (6, .one (.ow 6 0)), (7, iv sum), (10, trs false l), (11, iv l.length), (12, iv i)], tabO [], tabO [(6, ⟨0, 54, 3, out.map trC⟩)]⟩
theorem rinto_fc {l : List Trf} (hf : Flo l) (b : ByteArray) : FC Tryz.prog 97 none [trs false l, sv b] (fun _ r => r = .tu [trs true (inT l b), iv (amtS (inT l b))]) := by
 refine fc_rinto (by simp +arith) ?_
 have hlen := hf.len
 have ham := hf.amt
 unfold C_rinto
 generalize hR : inT l b = R
 simp (maxSteps := 1000000) (disch := omega) only [go_sem]
 refine ex_loop3 (riSt l b) (fun i out sum => 0 ≤ i ∧ i ≤ l.length ∧ (out.length : Int) ≤ i ∧ 0 ≤ sum ∧ sum ≤ 1000000 * i ∧ out ++ (l.drop i.toNat).filter (inb b) = R ∧ sum + amtS ((l.drop i.toNat).filter (inb b)) = amtS R) (fun i _ _ => (l.length - i).toNat) 0 [] 0 ⟨by omega, by omega, by simp, by omega, by omega, hR, by rw [← hR]; exact Int.zero_add _⟩ rfl ?_
 rintro i out sum ⟨g1, g2, g3, g4, g5, g6, g7⟩
 unfold riSt
 by_cases hi : i < l.length
 ·have e2 : (i + 1).toNat = i.toNat + 1 := by omega
  have em := getD_map_at trC l i [] g1 hi
  have hx := ham _ (getD_mem l i.toNat (by omega))
  rw [drop_cons l i.toNat (by omega), List.filter_cons, ← e2] at g6 g7
  by_cases c1 : (l.getD i.toNat default).to = b
  ·rw [if_pos (decide_eq_true c1)] at g6 g7
   rw [amtS_cons] at g7
   simp (maxSteps := 1000000) (disch := omega) only [go_sem]
   exact ⟨i + 1, out ++ [l.getD i.toNat default], sum + (l.getD i.toNat default).amt, by simp only [List.map_append, List.map_cons, List.map_nil, trC_eq], ⟨by omega, by omega, by simp; omega, by omega, by omega, by rw [List.append_assoc]; exact g6, by omega⟩, by omega⟩
  ·rw [if_neg (by simpa using c1)] at g6 g7
   simp (maxSteps := 1000000) (disch := omega) only [go_sem]
   exact ⟨i + 1, out, _, rfl, ⟨by omega, by omega, by omega, by omega, by omega, g6, g7⟩, by omega⟩
 ·rw [List.drop_eq_nil_of_le (by omega)] at g6 g7
  have h1 : out = R := by rw [← g6]; simp
  have h2 : sum = amtS R := by rw [← g7]; simp [amtS]
  rw [← h2, ← h1]
  simp (maxSteps := 1000000) (disch := omega) only [go_sem]
def rsSt (l ins : List Trf) (S : Int) (i com : Int) : AS := ⟨tabV [(0, trs false l), (6, iv S), (7, iv com), (20, trs true ins), (21, iv ins.length), (22, iv i)], tabO [], tabO []⟩
theorem rscale_fc {l : List Trf} (hf : Flo l) : ∀ (n : Nat) (b : ByteArray), rk l b < n → FC Tryz.prog 58 none [trs false l, sv b] (fun _ r => r = iv (SC l b)) := by
 intro n
 induction n with
 | zero => intro b h; omega
 | succ n ih =>
  intro b hn
  refine fc_rscale (by simp +arith) ?_
  unfold C_rscale
  simp (maxSteps := 1000000) (disch := omega) only [go_sem]
  refine CALL_det (rinto_fc hf b) (.inl rfl) ?_
  have hil : (inT l b).length ≤ 500 := Nat.le_trans (List.length_filter_le _ _) hf.len
  have hia : ∀ x ∈ inT l b, 1 ≤ x.amt ∧ x.amt ≤ 1000000 := fun x hx => hf.amt x (inT_mem.1 hx).1
  have hik : ∀ x ∈ inT l b, 0 ≤ SC l x.frm ∧ SC l x.frm ≤ 1000000000000 := fun x hx => SC_bd hf n x.frm (by have := rk_lt hf hx; omega)
  have hir : ∀ x ∈ inT l b, rk l x.frm < n := fun x hx => by have := rk_lt hf hx; omega
  have hSC := SC_eq hf b
  unfold scOf at hSC
  rw [scFold_fst] at hSC
  simp only [Int.zero_add] at hSC
  have hnn := amtS_nn hia
  generalize inT l b = ins at *
  by_cases h0 : ins = []
  ·subst h0
   have e : SC l b = 1 := hSC
   rw [e]
   simp (maxSteps := 1000000) (disch := omega) only [go_sem]
  ·have hl0 : ¬(ins.length : Int) = 0 := fun h => h0 (List.eq_nil_of_length_eq_zero (by omega))
   have hS := hnn.2.1 h0
   have hS2 := hnn.2.2
   rw [if_pos (by omega)] at hSC
   have hC : cmF (SC l) ins 1 = (ins.foldl (scStep (SC l)) (0, 1)).2 := rfl
   rw [← hC] at hSC
   clear hC hnn
   generalize hSv : amtS ins = S at *
   clear hSv
   simp (maxSteps := 1000000) (disch := (first | omega | assumption)) only [go_sem]
   refine ex_loop2 (rsSt l ins S) (fun i com => 0 ≤ i ∧ i ≤ ins.length ∧ 1 ≤ com ∧ com ≤ 1000000000000 ∧ cmF (SC l) (ins.drop i.toNat) com = cmF (SC l) ins 1) (fun i _ => (ins.length - i).toNat) 0 1 ⟨by omega, by omega, by omega, by omega, rfl⟩ rfl ?_
   rintro i com ⟨g1, g2, g3, g4, g5⟩
   unfold rsSt
   by_cases hi : i < ins.length
   ·have e2 : (i + 1).toNat = i.toNat + 1 := by omega
    have em := getD_map_at trC ins i [] g1 hi
    have hmem := getD_mem ins i.toNat (by omega)
    have hk := hik _ hmem
    have hr := hir _ hmem
    rw [drop_cons ins i.toNat (by omega), ← e2] at g5
    have hcall := ih _ hr
    by_cases c1 : SC l (ins.getD i.toNat default).frm = 0
    ·rw [cmF_none _ _ _ c1] at g5
     rw [← g5, tms_zero (.inr rfl)] at hSC
     rw [hSC]
     simp (maxSteps := 1000000) (disch := (first | omega | assumption)) only [go_sem]
     refine CALL_det hcall (.inl rfl) ?_
     simp (maxSteps := 1000000) (disch := (first | omega | assumption)) only [go_sem]
    ·have c2 : 0 < SC l (ins.getD i.toNat default).frm := by omega
     rw [cmF_cons _ _ _ c2 (by omega)] at g5
     have hd := divisor_fc (SC l (ins.getD i.toNat default).frm) com (by omega) (by omega)
     have hg : 1 ≤ ((Nat.gcd (SC l (ins.getD i.toNat default).frm).toNat com.toNat : Nat) : Int) := by
      have := Nat.gcd_pos_of_pos_left com.toNat (show 0 < (SC l (ins.getD i.toNat default).frm).toNat by omega)
      omega
     have hgd : ((Nat.gcd (SC l (ins.getD i.toNat default).frm).toNat com.toNat : Nat) : Int) ≤ SC l (ins.getD i.toNat default).frm := by
      have := Nat.le_of_dvd (show 0 < (SC l (ins.getD i.toNat default).frm).toNat by omega) (Nat.gcd_dvd_left (SC l (ins.getD i.toNat default).frm).toNat com.toNat)
      omega
     have hq := tdiv_bd (n := SC l (ins.getD i.toNat default).frm) (B := 1000000000000) hg (by omega) (by omega)
     generalize ((Nat.gcd (SC l (ins.getD i.toNat default).frm).toNat com.toNat : Nat) : Int) = g at *
     have hq1 : 1 ≤ (SC l (ins.getD i.toNat default).frm).tdiv g := by
      rw [Int.tdiv_eq_ediv_of_nonneg (by omega)]
      exact (Int.le_ediv_iff_mul_le (by omega)).2 (by omega)
     obtain ⟨q, hqq⟩ : ∃ q, q = (SC l (ins.getD i.toNat default).frm).tdiv g := ⟨_, rfl⟩
     rw [← hqq] at hq hq1 g5
     have hN := tdiv_bd (n := 1000000000000) (g := q) (B := 1000000000000) (by omega) (by omega) (by omega)
     by_cases c3 : com > (1000000000000 : Int).tdiv q
     ·have e3 : tms com q = 0 := if_pos (.inr (.inr c3))
      rw [e3, cmF_zero] at g5
      rw [← g5, tms_zero (.inr rfl)] at hSC
      rw [hSC]
      subst hqq
      simp (maxSteps := 1000000) (disch := (first | omega | assumption)) only [go_sem]
      refine CALL_det hcall (.inl rfl) ?_
      simp (maxSteps := 1000000) (disch := (first | omega | assumption)) only [go_sem]
      refine CALL_det hd (.inl rfl) ?_
      simp (maxSteps := 1000000) (disch := (first | omega | assumption)) only [go_sem]
     ·have e3 : tms com q = com * q := if_neg (by omega)
      have hb := tms_bd (a := com) (b := q) (by omega) (by omega)
      rw [e3] at g5 hb
      have hp : 1 ≤ com * q := by have := Int.mul_pos (show 0 < com by omega) (show 0 < q by omega); omega
      subst hqq
      simp (maxSteps := 1000000) (disch := (first | omega | assumption)) only [go_sem]
      refine CALL_det hcall (.inl rfl) ?_
      simp (maxSteps := 1000000) (disch := (first | omega | assumption)) only [go_sem]
      refine CALL_det hd (.inl rfl) ?_
      simp (maxSteps := 1000000) (disch := (first | omega | assumption)) only [go_sem]
      exact ⟨i + 1, _, rfl, ⟨by omega, by omega, by omega, by omega, g5⟩, by omega⟩
   ·rw [List.drop_eq_nil_of_le (by omega)] at g5
    have h6 : com = cmF (SC l) ins 1 := g5
    rw [← h6, tms_swap (by omega) (by omega)] at hSC
    have hN := tdiv_bd (n := 1000000000000) (g := S) (B := 1000000000000) (by omega) (by omega) (by omega)
    by_cases c3 : com > (1000000000000 : Int).tdiv S
    ·rw [if_pos c3] at hSC
     rw [hSC]
     simp (maxSteps := 1000000) (disch := (first | omega | assumption)) only [go_sem]
    ·rw [if_neg c3] at hSC
     have hb := SC_bd hf (rk l b + 1) b (by omega)
     rw [hSC] at hb ⊢
     simp (maxSteps := 1000000) (disch := (first | omega | assumption)) only [go_sem]
def rpSt (l ins : List Trf) (src : ByteArray) (S q k : Int) (i o : Int) : AS := ⟨tabV [(0, trs false l), (2, sv src), (3, iv q), (10, iv S), (11, iv (k * o)), (24, trs true ins), (25, iv ins.length), (26, iv i)], tabO [], tabO []⟩
set_option maxHeartbeats 4000000 in
theorem rpart_fc {l : List Trf} (hf : Flo l) (src : ByteArray) : ∀ (n : Nat) (b : ByteArray) (k q : Int), rk l b < n → 0 < SC l b → 0 ≤ k → q = k * SC l b → q ≤ 1000000000000 → FC Tryz.prog 60 none [trs false l, sv b, sv src, iv q] (fun _ r => r = iv (k * PT l src b)) := by
 intro n
 induction n with
 | zero => intro b k q h; omega
 | succ n ih =>
  intro b k q hn hp hk0 hq hqb
  refine fc_rpart (by simp +arith) ?_
  unfold C_rpart
  have hPT := PT_eq hf src b
  by_cases hb : b = src
  ·rw [if_pos hb] at hPT
   rw [hPT, ← hq]
   simp (maxSteps := 1000000) (disch := omega) only [go_sem]
  rw [if_neg hb] at hPT
  simp (maxSteps := 1000000) (disch := omega) only [go_sem]
  refine CALL_det (rinto_fc hf b) (.inl rfl) ?_
  simp (maxSteps := 1000000) (disch := omega) only [go_sem]
  have hil : (inT l b).length ≤ 500 := Nat.le_trans (List.length_filter_le _ _) hf.len
  have hia : ∀ x ∈ inT l b, 1 ≤ x.amt ∧ x.amt ≤ 1000000 := fun x hx => hf.amt x (inT_mem.1 hx).1
  have hir : ∀ x ∈ inT l b, rk l x.frm < n := fun x hx => by have := rk_lt hf hx; omega
  have hin := fun hne => SC_in hf hp (b := b) hne
  have hdv := fun hne => SC_dv hf hp (b := b) hne
  have hbd := SC_bd hf _ b (Nat.lt_succ_self _)
  unfold ptOf at hPT
  have hnn := amtS_nn hia
  have hq0 : 0 ≤ q := by rw [hq]; exact Int.mul_nonneg hk0 (by omega)
  generalize inT l b = ins at *
  generalize hSv : amtS ins = S at *
  generalize hcv : (SC l b).tdiv S = c at *
  have e0 : rpSt l ins src S q k 0 0 = ⟨tabV [(0, trs false l), (2, sv src), (3, iv q), (10, iv S), (11, iv 0), (24, trs true ins), (25, iv ins.length), (26, iv 0)], tabO [], tabO []⟩ := by unfold rpSt; rw [Int.mul_zero]
  refine ex_loop2 (rpSt l ins src S q k) (fun i o => 0 ≤ i ∧ i ≤ ins.length ∧ 0 ≤ o ∧ o + amtS (ins.drop i.toNat) * c ≤ SC l b ∧ (ins.drop i.toNat).foldl (ptStep c (SC l) (PT l src)) o = PT l src b) (fun i _ => (ins.length - i).toNat) 0 0 ⟨by omega, by omega, by omega, ?_, hPT.symm⟩ e0.symm ?_
  ·by_cases hne : ins = []
   ·subst hne; simp [amtS]; omega
   ·have := (hin hne).2.2.1
    simp only [show (0 : Int).toNat = 0 from rfl, List.drop_zero, hSv]; omega
  rintro i o ⟨g1, g2, g3, g4, g7⟩
  unfold rpSt
  by_cases hi : i < ins.length
  ·have hne : ins ≠ [] := fun e => by rw [e] at hi; simp at hi; omega
   obtain ⟨k1, k2, k3, k4⟩ := hin hne
   have e2 : (i + 1).toNat = i.toNat + 1 := by omega
   have em := getD_map_at trC ins i [] g1 hi
   have hmem := getD_mem ins i.toNat (by omega)
   have hx := hia _ hmem
   have hr := hir _ hmem
   have hk := k4 _ hmem
   have hpt := PT_bd hf src _ (ins.getD i.toNat default).frm (Nat.lt_succ_self _) hk
   have htb := term_bd k2 hk hpt hx.1
   have hd := amtS_drop ins i g1 hi
   have hd2 := (amtS_nn (ins := ins.drop (i + 1).toNat) fun x hx => hia x (List.mem_of_mem_drop hx)).1
   rw [hd, Int.add_mul] at g4
   have hd3 := Int.mul_nonneg hd2 k2
   rw [drop_cons ins i.toNat (by omega), List.foldl_cons, ← e2] at g7
   have hqS : q.tdiv S = k * c := by
    rw [hq, ← k3, Int.mul_comm S c, ← Int.mul_assoc]
    exact Int.mul_tdiv_cancel _ (by omega)
   have hkc : k * c ≤ q := by
    rw [hq]
    refine Int.mul_le_mul_of_nonneg_left ?_ hk0
    rw [← hcv]; exact Int.tdiv_le_self S hbd.1
   have hkc0 : 0 ≤ k * c := Int.mul_nonneg hk0 k2
   obtain ⟨m, hm⟩ := hdv hne _ hmem
   have hmc : c.tdiv (SC l (ins.getD i.toNat default).frm) = m := by rw [hm]; exact Int.mul_tdiv_cancel_left _ (by omega)
   have hst : ptStep c (SC l) (PT l src) o (ins.getD i.toNat default) = o + (ins.getD i.toNat default).amt * m * PT l src (ins.getD i.toNat default).frm := by unfold ptStep; rw [hmc]
   rw [hmc] at htb
   have hm0 := htb.1.1
   have hcall := ih (ins.getD i.toNat default).frm (k * m) (k * c) hr hk (Int.mul_nonneg hk0 hm0) (by rw [hm]; ac_rfl) (by omega)
   rw [hst] at g7
   have e5 : k * (o + (ins.getD i.toNat default).amt * m * PT l src (ins.getD i.toNat default).frm) = k * o + (ins.getD i.toNat default).amt * (k * m * PT l src (ins.getD i.toNat default).frm) := by
    rw [Int.mul_add]; congr 1; ac_rfl
   have b1 : k * (o + (ins.getD i.toNat default).amt * m * PT l src (ins.getD i.toNat default).frm) ≤ q := by
    rw [hq]; exact Int.mul_le_mul_of_nonneg_left (by omega) hk0
   have b2 : 0 ≤ k * o := Int.mul_nonneg hk0 g3
   have b3 : 0 ≤ (ins.getD i.toNat default).amt * (k * m * PT l src (ins.getD i.toNat default).frm) := Int.mul_nonneg (by omega) (Int.mul_nonneg (Int.mul_nonneg hk0 hm0) hpt.1)
   have hb4 := htb.2.2.2
   generalize hV : k * m * PT l src (ins.getD i.toNat default).frm = V at *
   generalize hA : (ins.getD i.toNat default).amt * m * PT l src (ins.getD i.toNat default).frm = A at *
   rw [e5] at b1
   have hA0 := htb.2.2.1
   clear htb
   simp (maxSteps := 1000000) (disch := (first | omega | assumption)) only [go_sem]
   rw [hqS]
   refine CALL_det hcall (.inl rfl) ?_
   simp (maxSteps := 1000000) (disch := (first | omega | assumption)) only [go_sem]
   exact ⟨i + 1, o + A, by rw [e5], ⟨by omega, by omega, by omega, by omega, g7⟩, by omega⟩
  ·rw [List.drop_eq_nil_of_le (by omega), List.foldl_nil] at g7
   subst g7
   simp (maxSteps := 1000000) (disch := omega) only [go_sem]
/-- What the reference tells of a share. -/
theorem rshare_fc {l : List Trf} (hf : Flo l) (b src : ByteArray) : FC Tryz.prog 20 none [trs false l, sv b, sv src] (fun _ r => r = .tu [.ag [.g (.int .i64 (shN l src b)), .g (.int .i64 (shD l src b))], iv (if SC l b = 0 then 12 else 0)]) := by
 refine fc_rshare (by simp +arith) ?_
 unfold C_rshare shN shD
 have hbd := SC_bd hf _ b (Nat.lt_succ_self _)
 simp (maxSteps := 1000000) (disch := omega) only [go_sem]
 refine CALL_det (rscale_fc hf _ b (Nat.lt_succ_self _)) (.inl rfl) ?_
 by_cases h0 : SC l b = 0
 ·rw [if_pos h0, if_pos h0, if_pos h0]
  simp (maxSteps := 1000000) (disch := omega) only [go_sem]
 ·rw [if_neg h0, if_neg h0, if_neg h0]
  have hp : 0 < SC l b := by omega
  have hpt := PT_bd hf src _ b (Nat.lt_succ_self _) hp
  have hc := rpart_fc hf src _ b 1 (SC l b) (Nat.lt_succ_self _) hp (by omega) (by omega) (by omega)
  rw [Int.one_mul] at hc
  simp (maxSteps := 1000000) (disch := (first | omega | assumption)) only [go_sem]
  refine CALL_det hc (.inl rfl) ?_
  simp (maxSteps := 1000000) (disch := (first | omega | assumption)) only [go_sem]
  refine CALL_det (lowest_fc _ _ (by omega) (by omega) (by omega)) (.inl rfl) ?_
  simp (maxSteps := 1000000) (disch := (first | omega | assumption)) only [go_sem]
end Go.Proofs.YtodmofhehabmgaaGreatDoor
