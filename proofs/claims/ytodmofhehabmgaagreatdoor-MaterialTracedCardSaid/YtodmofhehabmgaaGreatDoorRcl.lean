/-
 Recall: the program's and the reference's.
-/
import Derived.Test.YtodmofhehabmgaaGreatDoorSpp
import Derived.Test.YtodmofhehabmgaaGreatDoorFrx
namespace Go.Proofs.YtodmofhehabmgaaGreatDoor
open Go Go.Ai
set_option linter.unusedSimpArgs false
set_option linter.unusedVariables false
set_option maxHeartbeats 4000000
def C_rclC : AC := (.seq (.reg false [gI 5 (.mv (oI 0))] (kP [0,1,2] [] []))
 (.seq (.reg false [gI 6 (.load false 1 (.t 2)),gM 7 1,gI 8 (.mlk 16 (.iface 0 (.agg #[.int .i64 (0),.int .i64 (0)])) false 0 (.t 6) (.t 7)),gI 9 (.load false 1 (.t 2)),gM 10 0,gI 11 (.mlk 16 (.iface 0 (.agg #[.int .i64 (0),.int .i64 (0)])) false 0 (.t 9) (.t 10)),gI 12 (.call (.f 51) [(.t 8),(.t 11)]),gM 5 12] (kP [5] [] []))
 .ret))
theorem fc_rclC : FcT Tryz.prog 53 Tryz.f53 C_rclC [.t 5] := fc_mk [aN [0,1,2] [] [],aN [5] [] []] Tryz.func53 (by kernel_rfl)
def C_rcl : AC := (.seq (.reg false [gI 5 (.box (.t 2)),gI 6 (.mv (.v (.slice none 0 0))),gI 7 (.mv (oI 0))] (kP [0,1,5,511] [5] []))
 (.seq (.seq (.reg false [gM 16 0,gM 17 1,gI 18 (.call (.f 45) [(.t 16),(.t 17)]),gM 8 18] (kP [0,1,5,8,511] [5] []))
 (.seq (.reg false [gM 19 8,gI 20 (.bin .neq (.t 19) (oI 0))] (kP [0,1,5,8,20,511] [5] []))
 (.cond (.t 20)
 (.seq (.seq (.reg false [gM 21 8,gI 6 (.mv (.v (.slice none 0 0))),gM 7 21] (kP [6,7] [] []))
 (.ty 6 1))
 .ret)
 .skip)))
 (.seq (.block 0 (.seq (.reg false [gI 23 (.fadr 1 (.t 5)),gI 24 (.load false 1 (.t 23)),gI 25 (.bin .lss (.t 24) (oI 1)),gM 26 25,gG 27 26 false (.load true 2 (.t 5)),gG 28 26 false (.call (.f 50) [(.t 27)]),gG 29 26 false (.un .not (.t 28)),gI 30 (.pick (.t 26) (.v (.bool true)) (.t 29)),gM 22 30] (kP [0,1,5,22,511] [5] []))
 (.cond (.t 22)
 (.seq (.seq (.reg false [gI 6 (.mv (.v (.slice none 0 0))),gI 7 (.mv (oI 3))] (kP [6,7] [] []))
 (.ty 6 1))
 .ret)
 (.seq (.reg false [gI 32 (.fadr 0 (.t 5)),gI 33 (.load false 1 (.t 32)),gI 34 (.fadr 1 (.t 5)),gI 35 (.load false 1 (.t 34)),gI 36 (.call (.f 41) [(.t 33),(oI 0),(.t 35)]),gM 37 36,gG 38 37 false (.fadr 1 (.t 5)),gG 39 37 false (.load false 1 (.t 38)),gG 40 37 false (.bin .gtr (.t 39) (oI 1000000)),gI 41 (.pick (.t 37) (.v (.bool true)) (.t 40)),gM 31 41] (kP [0,1,5,31,511] [5] []))
 (.cond (.t 31)
 (.seq (.seq (.reg false [gI 6 (.mv (.v (.slice none 0 0))),gI 7 (.mv (oI 1))] (kP [6,7] [] []))
 (.ty 6 1))
 .ret)
 .skip)))))
 (.seq (.reg false [gM 42 0,gM 43 1,gI 44 (.callm (.f 48) [(.t 42),(.t 43)] ⟨[],[],[511],[508,509],[]⟩),gM 9 44] (kP [0,1,5,9,511] [5,511] [508,509]))
 (.seq (.reg false [gI 45 (.mkm 16),gI 10 (.alloc [(.map none)]),gN (.store 1 (.t 10) (.t 45))] (kP [0,1,5,9,10,511] [5,10,511] [45,508,509]))
 (.seq (.seq (.reg false [gI 11 (.mv (.v (.slice none 0 0)))] (kP [0,1,5,9,10,11,511] [5,10,511] [45,508,509]))
 (.own 11 9 1))
 (.seq (.seq (.reg false [gM 46 0,gM 47 1,gI 48 (.call (.f 47) [(.t 46),(.t 47)]),gI 49 (.len (.t 48)),gI 50 (.mv (oI 0))] (kP [5,9,10,11,48,49,50,511] [5,10,511] [11,45,508,509]))
 (.block 1 (.loop (.seq (.reg false [gI 51 (.bin .lss (.t 50) (.t 49))] (kP [5,9,10,11,48,49,50,51,511] [5,10,511] [11,45,508,509]))
 (.seq (.cond (.t 51)
 .skip
 (.exit 1))
 (.seq (.block 2 (.seq (.reg false [gI 52 (.iadr 1 (.t 48) (.t 50)),gI 53 (.load false 1 (.t 52)),gM 13 53] (kP [5,9,10,11,13,48,49,50,511] [5,10,511] [11,45,508,509]))
 (.seq (.reg false [gM 55 9,gM 56 13,gI 57 (.callm (.f 49) [(.t 55),(.t 56)] ⟨[511],[508,509],[511],[508,509],[508,509]⟩),gM 54 57,gI 58 (.extr (.t 54) 0),gI 59 (.extr (.t 54) 1),gI 14 (.alloc [(.int .i64 (0)),(.int .i64 (0))]),gN (.store 2 (.t 14) (.t 58)),gM 15 59] (kP [5,9,10,11,13,14,15,48,49,50,511] [5,10,14,511] [11,45,508,509]))
 (.seq (.seq (.reg false [gM 60 15,gI 61 (.un .not (.t 60))] (kP [5,9,10,11,13,14,48,49,50,61,511] [5,10,14,511] [11,45,508,509]))
 (.cond (.t 61)
 (.seq (.seq (.reg false [gI 6 (.mv (.v (.slice none 0 0))),gI 7 (.mv (oI 12))] (kP [6,7] [] []))
 (.ty 6 1))
 .ret)
 .skip))
 (.seq (.reg false [gI 62 (.load false 1 (.t 10)),gM 63 13,gI 64 (.load true 2 (.t 14)),gN (.mup 16 (.t 62) (.t 63) (.t 64))] (kP [5,9,10,11,13,14,48,49,50,511] [5,10,14,511] [11,45,508,509]))
 (.seq (.reg false [gI 65 (.load true 2 (.t 14)),gI 66 (.load true 2 (.t 5)),gI 67 (.call (.f 51) [(.t 65),(.t 66)]),gI 68 (.bin .geq (.t 67) (oI 0))] (kP [5,9,10,11,13,48,49,50,68,511] [5,10,511] [11,45,508,509]))
 (.cond (.t 68)
 (.reg false [gM 69 11,gM 70 13,gI 71 (.bslice 1 1 [(.t 70)]),gI 72 (.append 9 1 16 (.t 69) (.t 71)),gM 11 72] (kP [5,9,10,11,48,49,50,511] [5,10,511] [11,45,508,509]))
 .skip)))))))
 (.reg false [gI 73 (.bin .add (.t 50) (oI 1)),gM 50 73] (kP [5,9,10,11,48,49,50,511] [5,10,511] [11,45,508,509]))))))))
 (.seq (.reg false [gM 74 11,gI 75 (.mkfn 53 [(.t 10)]),gI 76 (.callm (.f 52) [(.t 74),(.t 75)] ⟨[10],[11,45],[10],[11,45],[11,45]⟩)] (kP [11] [] []))
 (.seq (.reg false [gM 77 11,gM 6 77,gI 7 (.mv (oI 0))] (kP [6,7] [] []))
 .ret)))))))))
theorem fc_rcl : FcT Tryz.prog 14 Tryz.f14 C_rcl [.t 6, .t 7] := fc_mk [aN [0,1,5,511] [5] [],aN [0,1,5,8,511] [5] [],aN [0,1,5,8,20,511] [5] [],⟨(kP [6,7] [] []),[],[],[(6,1)],[]⟩,aN [0,1,5,22,511] [5] [],⟨(kP [6,7] [] []),[],[],[(6,1)],[]⟩,aN [0,1,5,31,511] [5] [],⟨(kP [6,7] [] []),[],[],[(6,1)],[]⟩,⟨(kP [0,1,5,9,511] [5,511] [508,509]),[],[],[],[(44,⟨[],[],[511],[508,509],[]⟩)]⟩,aN [0,1,5,9,10,511] [5,10,511] [45,508,509],⟨(kP [0,1,5,9,10,11,511] [5,10,511] [45,508,509]),[(11,9,1)],[],[],[]⟩,aN [5,9,10,11,48,49,50,511] [5,10,511] [11,45,508,509],aN [5,9,10,11,48,49,50,51,511] [5,10,511] [11,45,508,509],aN [5,9,10,11,13,48,49,50,511] [5,10,511] [11,45,508,509],⟨(kP [5,9,10,11,13,14,15,48,49,50,511] [5,10,14,511] [11,45,508,509]),[],[],[],[(57,⟨[511],[508,509],[511],[508,509],[508,509]⟩)]⟩,aN [5,9,10,11,13,14,48,49,50,61,511] [5,10,14,511] [11,45,508,509],⟨(kP [6,7] [] []),[],[],[(6,1)],[]⟩,aN [5,9,10,11,13,14,48,49,50,511] [5,10,14,511] [11,45,508,509],aN [5,9,10,11,13,48,49,50,68,511] [5,10,511] [11,45,508,509],aN [5,9,10,11,48,49,50,511] [5,10,511] [11,45,508,509],aN [5,9,10,11,48,49,50,511] [5,10,511] [11,45,508,509],⟨(kP [11] [] []),[],[],[],[(76,⟨[10],[11,45],[10],[11,45],[11,45]⟩)]⟩,aN [6,7] [] []] Tryz.func14 (by kernel_rfl)
def C_rrcD : AC := (.seq (.reg false [gI 4 (.mv (.v (.bool false)))] (kP [0,1,2] [] []))
 (.seq (.reg false [gI 5 (.load false 1 (.t 1)),gM 6 0,gI 7 (.mlk 16 (.iface 0 (.agg #[.int .i64 (0),.int .i64 (0)])) false 0 (.t 5) (.t 6)),gI 8 (.fld 0 false 1 (.t 7)),gI 9 (.fadr 1 (.t 2)),gI 10 (.load false 1 (.t 9)),gI 11 (.fadr 0 (.t 2)),gI 12 (.load false 1 (.t 11)),gI 13 (.load false 1 (.t 1)),gM 14 0,gI 15 (.mlk 16 (.iface 0 (.agg #[.int .i64 (0),.int .i64 (0)])) false 0 (.t 13) (.t 14)),gI 16 (.fld 1 false 1 (.t 15)),gI 17 (.call (.f 63) [(.t 8),(.t 10),(.t 12),(.t 16)]),gM 4 17] (kP [4] [] []))
 .ret))
theorem fc_rrcD : FcT Tryz.prog 62 Tryz.f62 C_rrcD [.t 4] := fc_mk [aN [0,1,2] [] [],aN [4] [] []] Tryz.func62 (by kernel_rfl)
def C_rrcC : AC := (.seq (.reg false [gI 5 (.mv (oI 0))] (kP [0,1,2] [] []))
 (.seq (.reg true [gN (.chk (.t 2) none),gI 8 (.load false 1 (.t 2)),gM 9 0,gN (.chk (.t 8) none),gI 10 (.mlk 16 (.iface 0 (.agg #[.int .i64 (0),.int .i64 (0)])) false 0 (.t 8) (.t 9)),gN (.chk (.t 2) none),gI 11 (.load false 1 (.t 2)),gM 12 1,gN (.chk (.t 11) none),gI 13 (.mlk 16 (.iface 0 (.agg #[.int .i64 (0),.int .i64 (0)])) false 0 (.t 11) (.t 12)),gI 6 (.alloc [(.int .i64 (0)),(.int .i64 (0))]),gI 7 (.alloc [(.int .i64 (0)),(.int .i64 (0))]),gN (.store 2 (.t 6) (.t 10)),gN (.store 2 (.t 7) (.t 13))] (kP [6,7] [6,7] []))
 (.seq (.block 0 (.seq (.reg false [gI 15 (.fadr 0 (.t 7)),gI 16 (.load false 1 (.t 15)),gI 17 (.fadr 1 (.t 6)),gI 18 (.load false 1 (.t 17)),gI 19 (.fadr 0 (.t 6)),gI 20 (.load false 1 (.t 19)),gI 21 (.fadr 1 (.t 7)),gI 22 (.load false 1 (.t 21)),gI 23 (.call (.f 63) [(.t 16),(.t 18),(.t 20),(.t 22)]),gM 14 23] (kP [6,7,14] [6,7] []))
 (.cond (.t 14)
 (.seq (.reg false [gI 5 (.mv (oI (-1)))] (kP [5] [] []))
 .ret)
 (.seq (.reg false [gI 25 (.fadr 0 (.t 6)),gI 26 (.load false 1 (.t 25)),gI 27 (.fadr 1 (.t 7)),gI 28 (.load false 1 (.t 27)),gI 29 (.fadr 0 (.t 7)),gI 30 (.load false 1 (.t 29)),gI 31 (.fadr 1 (.t 6)),gI 32 (.load false 1 (.t 31)),gI 33 (.call (.f 63) [(.t 26),(.t 28),(.t 30),(.t 32)]),gM 24 33] (kP [24] [] []))
 (.cond (.t 24)
 (.seq (.reg false [gI 5 (.mv (oI 1))] (kP [5] [] []))
 .ret)
 .skip)))))
 (.seq (.reg false [gI 5 (.mv (oI 0))] (kP [5] [] []))
 .ret))))
theorem fc_rrcC : FcT Tryz.prog 64 Tryz.f64 C_rrcC [.t 5] := fc_mk [aN [0,1,2] [] [],⟨(kP [6,7] [6,7] []),[],[(0,none),(2,none),(3,none),(5,none)],[],[]⟩,aN [6,7,14] [6,7] [],aN [5] [] [],aN [24] [] [],aN [5] [] [],aN [5] [] []] Tryz.func64 (by kernel_rfl)
def C_rrc : AC := (.seq (.reg false [gI 5 (.box (.t 2)),gI 6 (.mv (.v (.slice none 0 0))),gI 7 (.mv (oI 0))] (kP [0,1,5] [5] [14,517]))
 (.seq (.reg false [gI 14 (.mkm 16),gI 8 (.alloc [(.map none)]),gN (.store 1 (.t 8) (.t 14))] (kP [0,1,5,8] [5,8] [14,517]))
 (.seq (.reg false [gM 15 0,gM 16 1,gI 17 (.callm (.f 19) [(.t 15),(.t 16)] ⟨[],[],[],[517],[]⟩),gM 9 17] (kP [0,1,5,8,9] [5,8] [14,517]))
 (.seq (.seq (.reg false [gM 18 9,gI 19 (.len (.t 18)),gI 20 (.mv (oI 0))] (kP [0,1,5,8,9,18,19,20] [5,8] [14,517]))
 (.block 0 (.loop (.seq (.reg false [gI 21 (.bin .lss (.t 20) (.t 19))] (kP [0,1,5,8,9,18,19,20,21] [5,8] [14,517]))
 (.seq (.cond (.t 21)
 .skip
 (.exit 0))
 (.seq (.block 1 (.seq (.reg false [gI 22 (.iadr 1 (.t 18) (.t 20)),gI 23 (.load false 1 (.t 22)),gM 11 23] (kP [0,1,5,8,9,11,18,19,20] [5,8] [14,517]))
 (.seq (.reg false [gM 25 0,gM 26 11,gM 27 1,gI 28 (.call (.f 20) [(.t 25),(.t 26),(.t 27)]),gM 24 28,gI 29 (.extr (.t 24) 0),gI 30 (.extr (.t 24) 1),gI 12 (.alloc [(.int .i64 (0)),(.int .i64 (0))]),gN (.store 2 (.t 12) (.t 29)),gM 13 30] (kP [0,1,5,8,9,11,12,13,18,19,20] [5,8,12] [14,517]))
 (.seq (.seq (.reg false [gM 31 13,gI 32 (.bin .neq (.t 31) (oI 0))] (kP [0,1,5,8,9,11,12,13,18,19,20,32] [5,8,12] [14,517]))
 (.cond (.t 32)
 (.seq (.seq (.reg false [gM 33 13,gI 6 (.mv (.v (.slice none 0 0))),gM 7 33] (kP [5,6,7,8] [5,8] [14]))
 (.ty 6 1))
 .ret)
 .skip))
 (.reg false [gI 34 (.load false 1 (.t 8)),gM 35 11,gI 36 (.load true 2 (.t 12)),gN (.mup 16 (.t 34) (.t 35) (.t 36))] (kP [0,1,5,8,9,18,19,20] [5,8] [14,517]))))))
 (.reg false [gI 37 (.bin .add (.t 20) (oI 1)),gM 20 37] (kP [0,1,5,8,9,18,19,20] [5,8] [14,517]))))))))
 (.seq (.reg false [gM 38 9,gI 39 (.mkfn 62 [(.t 8),(.t 5)]),gI 40 (.callm (.f 61) [(.t 38),(.t 39)] ⟨[8,5],[517,14],[8,5],[517,14],[14]⟩),gM 9 40] (kP [5,8,9] [5,8] [14,517]))
 (.seq (.reg false [gM 41 9,gI 42 (.mkfn 64 [(.t 8)]),gI 43 (.callm (.f 52) [(.t 41),(.t 42)] ⟨[8],[517,14],[8],[517,14],[517,14]⟩)] (kP [5,8,9] [5,8] [14]))
 (.seq (.reg false [gM 44 9,gM 6 44,gI 7 (.mv (oI 0))] (kP [5,6,7,8] [5,8] [14]))
 .ret)))))))
theorem fc_rrc : FcT Tryz.prog 21 Tryz.f21 C_rrc [.t 6, .t 7] := fc_mk [aN [0,1,5] [5] [14,517],aN [0,1,5,8] [5,8] [14,517],⟨(kP [0,1,5,8,9] [5,8] [14,517]),[],[],[],[(17,⟨[],[],[],[517],[]⟩)]⟩,aN [0,1,5,8,9,18,19,20] [5,8] [14,517],aN [0,1,5,8,9,18,19,20,21] [5,8] [14,517],aN [0,1,5,8,9,11,18,19,20] [5,8] [14,517],aN [0,1,5,8,9,11,12,13,18,19,20] [5,8,12] [14,517],aN [0,1,5,8,9,11,12,13,18,19,20,32] [5,8,12] [14,517],⟨(kP [5,6,7,8] [5,8] [14]),[],[],[(6,1)],[]⟩,aN [0,1,5,8,9,18,19,20] [5,8] [14,517],aN [0,1,5,8,9,18,19,20] [5,8] [14,517],⟨(kP [5,8,9] [5,8] [14,517]),[],[],[],[(40,⟨[8,5],[517,14],[8,5],[517,14],[14]⟩)]⟩,⟨(kP [5,8,9] [5,8] [14]),[],[],[],[(43,⟨[8],[517,14],[8],[517,14],[517,14]⟩)]⟩,aN [5,6,7,8] [5,8] [14]] Tryz.func21 (by kernel_rfl)
/-! ### plain -/
theorem srtS_eq {a b : List ByteArray} (ha : a.Nodup) (hb : b.Nodup) (h : ∀ s, s ∈ a ↔ s ∈ b) : srtS a = srtS b := by
 unfold srtS
 have hp : a.Perm b := (List.perm_ext_iff_of_nodup ha hb).2 h
 have hq : (bys a).Perm (bys b) := hp.map _
 have e : ((bys a).mergeSort fun x y => decide (x ≤ y)) = (bys b).mergeSort fun x y => decide (x ≤ y) := by
  have tr : ∀ x y z : List UInt8, decide (x ≤ y) = true → decide (y ≤ z) = true → decide (x ≤ z) = true := fun x y z h1 h2 => decide_eq_true (List.le_trans (of_decide_eq_true h1) (of_decide_eq_true h2))
  have to : ∀ x y : List UInt8, (decide (x ≤ y) || decide (y ≤ x)) = true := fun x y => by
   rcases List.le_total x y with h | h
   ·rw [decide_eq_true h]; rfl
   ·rw [decide_eq_true h]; simp
  refine List.Perm.eq_of_pairwise (le := fun x y => decide (x ≤ y) = true) (fun x y _ _ h1 h2 => List.le_antisymm (of_decide_eq_true h1) (of_decide_eq_true h2)) (List.pairwise_mergeSort tr to _) (List.pairwise_mergeSort tr to _) ?_
  exact (List.mergeSort_perm _ _).trans (hq.trans (List.mergeSort_perm _ _).symm)
 rw [e]
theorem prd_same (l : List Trf) (b : ByteArray) : srtS (lnkL (l.map Trf.inv) b) = srtS (prdL l b) :=
 srtS_eq (lnkL_clo _ b).nd (srcL_clo _ b).nd fun s => (lnkL_mem _ b s).trans (srcL_mem _ b s).symm
theorem src_same (l : List Trf) (b : ByteArray) : srtS (lnkL l b) = srtS (srcL l b) :=
 srtS_eq (lnkL_clo _ b).nd (srcL_clo _ b).nd fun s => (lnkL_mem _ b s).trans (srcL_mem _ b s).symm
theorem low_bd {n d : Int} (hn : 0 ≤ n ∧ n ≤ 1000000000000) (hd : 1 ≤ d ∧ d ≤ 1000000000000) : (0 ≤ lowN n d ∧ lowN n d ≤ 1000000000000) ∧ 0 ≤ lowD n d ∧ lowD n d ≤ 1000000000000 := by
 have h1 := lowG_pos n d hd.1
 have h2 := tdiv_bd (n := n) (B := 1000000000000) h1 (by omega) hn.2
 have h3 := tdiv_bd (n := d) (B := 1000000000000) h1 (by omega) hd.2
 have h4 := Int.tdiv_nonneg hn.1 (show 0 ≤ lowG n d by omega)
 have h5 := Int.tdiv_nonneg (show 0 ≤ d by omega) (show 0 ≤ lowG n d by omega)
 unfold lowN lowD
 omega
theorem sh_bd {l : List Trf} (hf : Flo l) (s b : ByteArray) : (0 ≤ shN l s b ∧ shN l s b ≤ 1000000000000) ∧ 0 ≤ shD l s b ∧ shD l s b ≤ 1000000000000 := by
 have h0 := SC_bd hf _ b (Nat.lt_succ_self _)
 unfold shN shD
 by_cases c : SC l b = 0
 ·rw [if_pos c, if_pos c]; omega
 ·rw [if_neg c, if_neg c]
  have := PT_bd hf s _ b (Nat.lt_succ_self _) (by omega)
  exact low_bd (by omega) (by omega)
/-- The shares of products, as they are laid into the map. -/
def shrP (l : List Trf) (s : ByteArray) (m : List (ByteArray × (Int × Int))) (p : ByteArray) : List (ByteArray × (Int × Int)) := fput p (shN l s p, shD l s p) m
def shrF (l : List Trf) (s : ByteArray) (ps : List ByteArray) (m : List (ByteArray × (Int × Int))) : List (ByteArray × (Int × Int)) := ps.foldl (shrP l s) m
theorem shrF_at (l : List Trf) (s : ByteArray) : ∀ (ps : List ByteArray) (m : List (ByteArray × (Int × Int))) (p : ByteArray), (p ∈ ps ∨ fgt p m = (shN l s p, shD l s p)) → fgt p (shrF l s ps m) = (shN l s p, shD l s p)
 | [], m, p, h => by
  rcases h with h | h
  ·simp at h
  ·exact h
 | x :: r, m, p, h => by
  show fgt p (shrF l s r (shrP l s m x)) = _
  refine shrF_at l s r _ p ?_
  by_cases e : p = x
  ·exact .inr (by unfold shrP; rw [fgt_put, if_pos e, e])
  ·rcases h with h | h
   ·exact .inl ((List.mem_cons.1 h).resolve_left e)
   ·exact .inr (by unfold shrP; rw [fgt_put, if_neg e]; exact h)
def mBd (m : List (ByteArray × (Int × Int))) : Prop := ∀ k, (0 ≤ (fgt k m).1 ∧ (fgt k m).1 ≤ 1000000000000) ∧ 0 ≤ (fgt k m).2 ∧ (fgt k m).2 ≤ 1000000000000
theorem mBd_nil : mBd [] := fun k => ⟨⟨Int.le_refl _, by simp [fgt]⟩, Int.le_refl _, by simp [fgt]⟩
theorem mBd_put {l : List Trf} (hf : Flo l) (s : ByteArray) {m : List (ByteArray × (Int × Int))} (h : mBd m) (p : ByteArray) : mBd (shrP l s m p) := fun k => by
 unfold shrP
 rw [fgt_put]
 split
 ·exact sh_bd hf s p
 ·exact h k
/-- How two products compare: the greater share comes first. -/
def rcCmp (m : List (ByteArray × (Int × Int))) (a b : ByteArray) : Int := cmQ ((fgt b m).1 * (fgt a m).2) ((fgt a m).1 * (fgt b m).2)
/-- Is it a product whose share is too small? -/
def rcBad (l : List Trf) (s : ByteArray) (ln ld : Int) (p : ByteArray) : Bool := decide (shN l s p * ld < ln * shD l s p)
def rcAll (l : List Trf) (ps : List ByteArray) : Bool := ps.all fun p => decide (SC l p ≠ 0)
def rcL (l : List Trf) (s : ByteArray) (ln ld : Int) (ps : List ByteArray) : List ByteArray := if rcAll l ps = true then sstF (rcCmp (shrF l s ps [])) (ps.filter fun p => !rcBad l s ln ld p) else []
def rcE (l : List Trf) (ps : List ByteArray) : Int := if rcAll l ps = true then 0 else 12
theorem cmQ_ge (x y : Int) : (0 ≤ cmQ x y) ↔ ¬x < y := by
 unfold cmQ; split
 ·omega
 ·split <;> omega
/-! ### the program's -/
theorem rclC_fc {m : List (ByteArray × (Int × Int))} (hm : mBd m) (a b : ByteArray) : FC Tryz.prog 53 none [sv a, sv b, .one (.ep [.fm 16 (mSF m)])] (fun _ r => r = iv (rcCmp m a b)) := by
 refine fc_rclC (by simp +arith) ?_
 have h1 := hm a
 have h2 := hm b
 have hc := compare_fc (fgt b m).1 (fgt b m).2 (fgt a m).1 (fgt a m).2 (by omega) (by omega) (by omega) (by omega)
 unfold C_rclC rcCmp
 simp (maxSteps := 1000000) (disch := omega) only [go_sem]
 refine CALL_det hc (.inl rfl) ?_
 simp (maxSteps := 1000000) (disch := omega) only [go_sem]
structure RcX where
 sc : List (ByteArray × Int)
 pt : List (ByteArray × Int)
def rclSt (l : List Trf) (s : ByteArray) (ln ld : Int) (ps : List ByteArray) (i : Int) (m : List (ByteArray × (Int × Int))) (out : List ByteArray) (x : RcX) : AS :=
 ⟨tabV [(5, .one (.bx 5 0)), (9, .one (.bx 511 0)), (10, .one (.bx 10 0)), (11, .one (.ow 11 0)), (48, strs true ps), (49, iv ps.length), (50, iv i), (511, .any)], tabO [(5, lsB ln ld), (10, [.mp 45]), (511, [.fm 0 (fmG (grpAll l)), .g (.string s), .mp 508, .mp 509])], tabO [(11, stRow 0 out), (45, sfRow m), (508, mpRow x.sc), (509, mpRow x.pt)]⟩
def rcQ0 (k : Nat) : Nat := Go.Ai.swp 8 508 (Go.Ai.swp 9 509 k)
theorem rcQ0_q (k : Nat) : rcQ0 (rcQ0 k) = k := by
 unfold rcQ0 Go.Ai.swp; split <;> (repeat' split) <;> omega
def rcQ1 (k : Nat) : Nat := Go.Ai.swp 508 1000001 (Go.Ai.swp 509 1000002 k)
theorem rcQ1_q (k : Nat) : rcQ1 (rcQ1 k) = k := by
 unfold rcQ1 Go.Ai.swp; split <;> (repeat' split) <;> omega
def rcQ2 (k : Nat) : Nat := Go.Ai.swp 11 1000000 (Go.Ai.swp 45 1000002 k)
theorem rcQ2_q (k : Nat) : rcQ2 (rcQ2 k) = k := by
 unfold rcQ2 Go.Ai.swp; split <;> (repeat' split) <;> omega
theorem lowB_keep {n d : Int} (h : lsF n d = 0) : I64 n ∧ (1 ≤ d ∧ d ≤ 9223372036854775807) ∧ lwSp n d = true ∧ (0 ≤ n ∧ n ≤ d) ∧ d ≤ 1000000 := by
 have := lsF_ok h
 exact ⟨by unfold I64; omega, by omega, this.2.2.2, by omega, by omega⟩
theorem rcAll_no {l : List Trf} {ps : List ByteArray} {i : Nat} (hi : i < ps.length) (h : SC l (ps.getD i default) = 0) : rcAll l ps = false := by
 unfold rcAll
 rw [List.all_eq_false]
 exact ⟨_, getD_memB ps i hi, by rw [decide_eq_false (fun hn => hn h)]; simp⟩
set_option maxHeartbeats 8000000 in
theorem rcl_ok {l : List Trf} (hl : SmT l) (s : ByteArray) (hs : s.size ≤ 1000000) (ln ld : Int) (h0 : fE l s = 0) (hls : lsF ln ld = 0) (hlen : (prdL l s).length < 20) :
  FC Tryz.prog 14 none [trs false l, sv s, .ag [.g (.int .i64 ln), .g (.int .i64 ld)]] (fun _ r => r = .tu [strs true (rcL l s ln ld (srtS (prdL l s))), iv (rcE l (srtS (prdL l s)))]) := by
 have hz := fE_zero h0
 have hf := flo_of hz.1
 have hll := hl.len
 obtain ⟨b1, b2, b3, b4, b5⟩ := lowB_keep hls
 have hfa := tfaultA_fc hl s hs
 rw [h0] at hfa
 have hlw := lowestB_fc ln ld b1 b2
 rw [b3] at hlw
 have hout := out_fc ln 0 ld
 rw [decide_eq_false (show ¬(ln < 0 ∨ ln > ld) by omega)] at hout
 have hnw := newMix_fcm l (by omega) s
 have hpr := products0_fc l s (by omega) (by omega)
 refine fc_rcl (by simp +arith) ?_
 have hpl : (srtS (prdL l s)).length < 20 := by rw [srtS_len]; exact hlen
 unfold C_rcl
 generalize srtS (prdL l s) = ps at *
 simp (maxSteps := 1000000) (disch := (first | omega | assumption)) only [go_sem]
 refine CALL_det hfa (.inl rfl) ?_
 simp (maxSteps := 1000000) (disch := (first | omega | assumption)) only [go_sem]
 refine CALL_det hlw (.inl rfl) ?_
 simp (maxSteps := 1000000) (disch := (first | omega | assumption)) only [go_sem]
 refine CALL_det hout (.inl rfl) ?_
 simp (maxSteps := 1000000) (disch := (first | omega | assumption)) only [go_sem]
 refine ⟨rfl, CALLM_rnE ⟨[(511, [.fm 0 (fmG (grpAll l)), .g (.string s), .mp 508, .mp 509])], [(508, mpRow []), (509, mpRow [])]⟩ (.one (.bx 511 0)) (Go.Ai.swp 11 511) rcQ0 (Go.Ai.swp_swp 11 511) rcQ0_q hnw (by simp) rfl rfl rfl rfl ⟨rfl, rfl⟩ ?_⟩
 simp (maxSteps := 1000000) (disch := (first | omega | assumption)) only [go_sem]
 refine CALL_det hpr (.inl rfl) ?_
 simp (maxSteps := 1000000) (disch := (first | omega | assumption)) only [go_sem]
 have e0 : ([] : List (List Cel)) = mSF [] := rfl
 refine ex_loop4 (rclSt l s ln ld ps) (fun i m out x => 0 ≤ i ∧ i ≤ ps.length ∧ (out.length : Int) ≤ i ∧ mBd m ∧ memS l x.sc ∧ memP l s x.pt ∧ rcAll l (ps.drop i.toNat) = rcAll l ps ∧ shrF l s (ps.drop i.toNat) m = shrF l s ps [] ∧ out ++ (ps.drop i.toNat).filter (fun p => !rcBad l s ln ld p) = ps.filter fun p => !rcBad l s ln ld p) (fun i _ _ _ => (ps.length - i).toNat) 0 [] [] ⟨[], []⟩ ⟨by omega, by omega, by simp, mBd_nil, fun k v h => (by cases h), fun k v h => (by cases h), rfl, rfl, rfl⟩ rfl ?_
 rintro i m out ⟨sc, pt⟩ ⟨g1, g2, g3, g4, g5, g6, g7, g8, g9⟩
 simp only at g5 g6
 unfold rclSt
 by_cases hi : i < ps.length
 ·have e2 : (i + 1).toNat = i.toNat + 1 := by omega
  have em := getD_str ps i g1 hi
  have hsb := sh_bd hf s (ps.getD i.toNat default)
  have hno := @rcAll_no l ps i.toNat (by omega)
  rw [drop_cons ps i.toNat (by omega), ← e2] at g7 g8 g9
  have hsh := share_fcm hf s (ps.getD i.toNat default) sc pt g5 g6
  have g8' : shrF l s (ps.drop (i + 1).toNat) (shrP l s m (ps.getD i.toNat default)) = shrF l s ps [] := g8
  simp (maxSteps := 1000000) (disch := (first | omega | assumption)) only [go_sem]
  refine ⟨rfl, CALLM_Rn (Go.Ai.swp 511 1000000) rcQ1 (Go.Ai.swp_swp 511 1000000) rcQ1_q hsh (by simp) rfl rfl rfl ⟨_, _, sc, pt, g5, g6, rfl, rfl⟩ ?_⟩
  rintro _ _ ⟨sc2, pt2, k5, k6, rfl, rfl⟩
  refine ⟨.inl ⟨rfl, rfl⟩, ?_⟩
  have er : (mxH l s sc2 pt2).rn (Go.Ai.swp 511 1000000) rcQ1 = ⟨[(511, [.fm 0 (fmG (grpAll l)), .g (.string s), .mp 508, .mp 509])], [(508, mpRow sc2), (509, mpRow pt2)]⟩ := rfl
  have ev : ∀ (x y : Int) (z : Bool), rnV (Go.Ai.swp 511 1000000) rcQ1 (.tu [.ag [.g (.int .i64 x), .g (.int .i64 y)], bv z]) = .tu [.ag [.g (.int .i64 x), .g (.int .i64 y)], bv z] := fun _ _ _ => rfl
  rw [er, ev]
  clear er ev hsh
  by_cases hz0 : SC l (ps.getD i.toNat default) = 0
  ·rw [decide_eq_false (by simpa using hz0)]
   unfold rcL rcE
   rw [hno hz0]
   simp (maxSteps := 1000000) (disch := (first | omega | assumption)) only [go_sem]
   rfl
  ·rw [decide_eq_true (by simpa using hz0)]
   have hcmp := compare_fc (shN l s (ps.getD i.toNat default)) (shD l s (ps.getD i.toNat default)) ln ld (by omega) (by omega) (by omega) (by omega)
   have hge := cmQ_ge (shN l s (ps.getD i.toNat default) * ld) (ln * shD l s (ps.getD i.toNat default))
   have g7' : rcAll l (ps.drop (i + 1).toNat) = rcAll l ps := by
    rw [← g7]; unfold rcAll; rw [List.all_cons, decide_eq_true (by simpa using hz0), Bool.true_and]
   have g4' := mBd_put hf s g4 (ps.getD i.toNat default)
   rw [List.filter_cons] at g9
   have hbd : rcBad l s ln ld (ps.getD i.toNat default) = decide (shN l s (ps.getD i.toNat default) * ld < ln * shD l s (ps.getD i.toNat default)) := rfl
   clear hno
   generalize hC : cmQ (shN l s (ps.getD i.toNat default) * ld) (ln * shD l s (ps.getD i.toNat default)) = C at hcmp hge
   by_cases hb : shN l s (ps.getD i.toNat default) * ld < ln * shD l s (ps.getD i.toNat default)
   ·rw [decide_eq_true hb] at hbd
    rw [hbd, if_neg (by simp)] at g9
    have hC2 : ¬0 ≤ C := fun h => hge.1 h hb
    clear hge hC hb
    simp (maxSteps := 1000000) (disch := (first | omega | assumption)) only [go_sem]
    refine CALL_det hcmp (.inl rfl) ?_
    simp (maxSteps := 1000000) (disch := (first | omega | assumption)) only [go_sem]
    exact ⟨i + 1, shrP l s m (ps.getD i.toNat default), out, ⟨sc2, pt2⟩, rfl, ⟨by omega, by omega, by omega, g4', k5, k6, g7', g8', g9⟩, by omega⟩
   ·rw [decide_eq_false hb] at hbd
    rw [hbd, if_pos (by rfl)] at g9
    have hC2 : 0 ≤ C := hge.2 hb
    clear hge hC hb
    simp (maxSteps := 1000000) (disch := (first | omega | assumption)) only [go_sem]
    refine CALL_det hcmp (.inl rfl) ?_
    simp (maxSteps := 1000000) (disch := (first | omega | assumption)) only [go_sem]
    exact ⟨i + 1, shrP l s m (ps.getD i.toNat default), out ++ [ps.getD i.toNat default], ⟨sc2, pt2⟩, by simp only [rclSt, stRow, List.map_append, List.map_cons, List.map_nil, strC_eq, shrP], ⟨by omega, by omega, by simp; omega, g4', k5, k6, g7', g8', by rw [List.append_assoc]; exact g9⟩, by omega⟩
 ·rw [List.drop_eq_nil_of_le (by omega)] at g7 g8 g9
  have h8 : m = shrF l s ps [] := g8
  have h9 : out = ps.filter fun p => !rcBad l s ln ld p := by rw [← g9]; simp
  have h7 : rcAll l ps = true := g7.symm
  subst h8
  unfold rcL rcE
  rw [if_pos h7, if_pos h7, ← h9]
  have hso := sstQ_fcm 53 (rcCmp (shrF l s ps [])) (shrF l s ps []) (fun x y => rclC_fc g4 x y) out (by omega)
  generalize hT : sstF (rcCmp (shrF l s ps [])) out = T at *
  simp (maxSteps := 1000000) (disch := (first | omega | assumption)) only [go_sem]
  refine ⟨rfl, CALLM_rnES ⟨[(10, [.mp 45])], [(11, stRow 0 T), (45, sfRow (shrF l s ps []))]⟩ (.tu []) (Go.Ai.swp 10 1000001) rcQ2 (Go.Ai.swp_swp 10 1000001) rcQ2_q hso (by simp) rfl rfl rfl rfl rfl ⟨rfl, rfl⟩ ?_⟩
  simp (maxSteps := 1000000) (disch := (first | omega | assumption)) only [go_sem]
/-! ### the reference's -/
theorem rrcD_fc {m : List (ByteArray × (Int × Int))} (hm : mBd m) (ln ld : Int) (h1 : 0 ≤ ln ∧ ln ≤ 1000000) (h2 : 0 ≤ ld ∧ ld ≤ 1000000) (p : ByteArray) : FC Tryz.prog 62 none [sv p, .one (.ep [.fm 16 (mSF m)]), .one (.ep (lsB ln ld))] (fun _ r => r = bv (decide ((fgt p m).1 * ld < ln * (fgt p m).2))) := by
 refine fc_rrcD (by simp +arith) ?_
 have h3 := hm p
 have hc := mulLess_fc (fgt p m).1 ld ln (fgt p m).2 (by omega) (by omega) (by omega) (by omega)
 unfold C_rrcD
 simp (maxSteps := 1000000) (disch := omega) only [go_sem]
 refine CALL_det hc (.inl rfl) ?_
 simp (maxSteps := 1000000) (disch := omega) only [go_sem]
theorem rrcC_fc {m : List (ByteArray × (Int × Int))} (hm : mBd m) (a b : ByteArray) : FC Tryz.prog 64 none [sv a, sv b, .one (.ep [.fm 16 (mSF m)])] (fun _ r => r = iv (rcCmp m a b)) := by
 refine fc_rrcC (by simp +arith) ?_
 have h1 := hm a
 have h2 := hm b
 have hc := mulLess_fc (fgt b m).1 (fgt a m).2 (fgt a m).1 (fgt b m).2 (by omega) (by omega) (by omega) (by omega)
 have hd := mulLess_fc (fgt a m).1 (fgt b m).2 (fgt b m).1 (fgt a m).2 (by omega) (by omega) (by omega) (by omega)
 unfold C_rrcC rcCmp cmQ
 generalize (fgt b m).1 * (fgt a m).2 = X at *
 generalize (fgt a m).1 * (fgt b m).2 = Y at *
 by_cases c1 : X < Y
 ·rw [if_pos c1]
  rw [decide_eq_true c1] at hc
  simp (maxSteps := 1000000) (disch := omega) only [go_sem]
  refine CALL_det hc (.inl rfl) ?_
  simp (maxSteps := 1000000) (disch := omega) only [go_sem]
 ·rw [if_neg c1]
  rw [decide_eq_false c1] at hc
  by_cases c2 : X = Y
  ·rw [if_pos c2]
   rw [decide_eq_false (show ¬Y < X by omega)] at hd
   simp (maxSteps := 1000000) (disch := omega) only [go_sem]
   refine CALL_det hc (.inl rfl) ?_
   simp (maxSteps := 1000000) (disch := omega) only [go_sem]
   refine CALL_det hd (.inl rfl) ?_
   simp (maxSteps := 1000000) (disch := omega) only [go_sem]
  ·rw [if_neg c2]
   rw [decide_eq_true (show Y < X by omega)] at hd
   simp (maxSteps := 1000000) (disch := omega) only [go_sem]
   refine CALL_det hc (.inl rfl) ?_
   simp (maxSteps := 1000000) (disch := omega) only [go_sem]
   refine CALL_det hd (.inl rfl) ?_
   simp (maxSteps := 1000000) (disch := omega) only [go_sem]
def rrSt (l : List Trf) (s : ByteArray) (ln ld : Int) (ps : List ByteArray) (i : Int) (m : List (ByteArray × (Int × Int))) : AS :=
 ⟨tabV [(0, trs false l), (1, sv s), (5, .one (.bx 5 0)), (8, .one (.bx 8 0)), (9, .one (.ow 517 0)), (18, .one (.ow 517 0)), (19, iv ps.length), (20, iv i)], tabO [(5, lsB ln ld), (8, [.mp 14])], tabO [(14, sfRow m), (517, stRow 0 ps)]⟩
def rrP (k : Nat) : Nat := Go.Ai.swp 8 1000001 (Go.Ai.swp 5 1000003 k)
theorem rrP_p (k : Nat) : rrP (rrP k) = k := by
 unfold rrP Go.Ai.swp; split <;> (repeat' split) <;> omega
def rrQ (k : Nat) : Nat := Go.Ai.swp 517 1000000 (Go.Ai.swp 14 1000002 k)
theorem rrQ_q (k : Nat) : rrQ (rrQ k) = k := by
 unfold rrQ Go.Ai.swp; split <;> (repeat' split) <;> omega
set_option maxHeartbeats 8000000 in
theorem rrc_ok {l : List Trf} (hl : SmT l) (s : ByteArray) (ln ld : Int) (h0 : fE l s = 0) (hls : lsF ln ld = 0) (hlen : (prdL l s).length < 20) :
  FC Tryz.prog 21 none [trs false l, sv s, .ag [.g (.int .i64 ln), .g (.int .i64 ld)]] (fun _ r => r = .tu [strs true (rcL l s ln ld (srtS (prdL l s))), iv (rcE l (srtS (prdL l s)))]) := by
 have hz := fE_zero h0
 have hf := flo_of hz.1
 have hll := hl.len
 obtain ⟨b1, b2, b3, b4, b5⟩ := lowB_keep hls
 have hpr := prdOf_fcm l (by omega) s
 rw [prd_same] at hpr
 refine fc_rrc (by simp +arith) ?_
 have hpl : (srtS (prdL l s)).length < 20 := by rw [srtS_len]; exact hlen
 unfold C_rrc
 generalize srtS (prdL l s) = ps at *
 simp (maxSteps := 1000000) (disch := (first | omega | assumption)) only [go_sem]
 refine ⟨rfl, CALLM_rnE ⟨[], [(517, stRow 0 ps)]⟩ (.one (.ow 517 0)) (fun k => k) (Go.Ai.swp 605 517) (fun _ => rfl) (Go.Ai.swp_swp 605 517) hpr (by simp) rfl rfl rfl rfl ⟨rfl, rfl⟩ ?_⟩
 simp (maxSteps := 1000000) (disch := (first | omega | assumption)) only [go_sem]
 refine ex_loop2 (rrSt l s ln ld ps) (fun i m => 0 ≤ i ∧ i ≤ ps.length ∧ mBd m ∧ rcAll l (ps.drop i.toNat) = rcAll l ps ∧ shrF l s (ps.drop i.toNat) m = shrF l s ps []) (fun i _ => (ps.length - i).toNat) 0 [] ⟨by omega, by omega, mBd_nil, rfl, rfl⟩ rfl ?_
 rintro i m ⟨g1, g2, g4, g7, g8⟩
 unfold rrSt
 by_cases hi : i < ps.length
 ·have e2 : (i + 1).toNat = i.toNat + 1 := by omega
  have em := getD_str ps i g1 hi
  have hno := @rcAll_no l ps i.toNat (by omega)
  have hsh := rshare_fc hf (ps.getD i.toNat default) s
  rw [drop_cons ps i.toNat (by omega), ← e2] at g7 g8
  have g8' : shrF l s (ps.drop (i + 1).toNat) (shrP l s m (ps.getD i.toNat default)) = shrF l s ps [] := g8
  by_cases hz0 : SC l (ps.getD i.toNat default) = 0
  ·rw [if_pos hz0] at hsh
   unfold rcL rcE
   rw [hno hz0]
   simp (maxSteps := 1000000) (disch := (first | omega | assumption)) only [go_sem]
   refine CALL_det hsh (.inl rfl) ?_
   simp (maxSteps := 1000000) (disch := (first | omega | assumption)) only [go_sem]
   rfl
  ·rw [if_neg hz0] at hsh
   have g7' : rcAll l (ps.drop (i + 1).toNat) = rcAll l ps := by
    rw [← g7]; unfold rcAll; rw [List.all_cons, decide_eq_true (by simpa using hz0), Bool.true_and]
   have g4' := mBd_put hf s g4 (ps.getD i.toNat default)
   clear hno
   simp (maxSteps := 1000000) (disch := (first | omega | assumption)) only [go_sem]
   refine CALL_det hsh (.inl rfl) ?_
   simp (maxSteps := 1000000) (disch := (first | omega | assumption)) only [go_sem]
   exact ⟨i + 1, shrP l s m (ps.getD i.toNat default), rfl, ⟨by omega, by omega, g4', g7', g8'⟩, by omega⟩
 ·rw [List.drop_eq_nil_of_le (by omega)] at g7 g8
  have h8 : m = shrF l s ps [] := g8
  have h7 : rcAll l ps = true := g7.symm
  subst h8
  have hfe : (ps.filter fun p => !decide ((fgt p (shrF l s ps [])).1 * ld < ln * (fgt p (shrF l s ps [])).2)) = ps.filter fun p => !rcBad l s ln ld p := List.filter_congr fun p hp => by
   rw [shrF_at l s ps [] p (.inl hp)]; rfl
  have hd := delQ_fcm 62 (shrF l s ps []) ln ld (fun p => decide ((fgt p (shrF l s ps [])).1 * ld < ln * (fgt p (shrF l s ps [])).2)) ps (by omega) (fun x => rrcD_fc g4 ln ld (by omega) (by omega) x)
  rw [hfe] at hd
  have hol : (ps.filter fun p => !rcBad l s ln ld p).length ≤ ps.length := List.length_filter_le _ _
  have hso := sstQ_fcm 64 (rcCmp (shrF l s ps [])) (shrF l s ps []) (fun x y => rrcC_fc g4 x y) (ps.filter fun p => !rcBad l s ln ld p) (by omega)
  unfold rcL rcE
  rw [if_pos h7, if_pos h7]
  generalize (ps.filter fun p => !rcBad l s ln ld p) = out at *
  generalize hT : sstF (rcCmp (shrF l s ps [])) out = T at *
  clear hfe
  generalize shrF l s ps [] = m at *
  simp (maxSteps := 1000000) (disch := (first | omega | assumption)) only [go_sem]
  refine ⟨rfl, CALLM_rnES ⟨[(8, [.mp 14]), (5, lsB ln ld)], [(517, stRow 0 out), (14, sfRow m)]⟩ (.one (.ow 517 0)) rrP rrQ rrP_p rrQ_q hd (by simp) rfl rfl rfl rfl rfl ⟨rfl, rfl⟩ ?_⟩
  simp (maxSteps := 1000000) (disch := (first | omega | assumption)) only [go_sem]
  refine ⟨rfl, CALLM_rnES ⟨[(8, [.mp 14])], [(517, stRow 0 T), (14, sfRow m)]⟩ (.tu []) (Go.Ai.swp 8 1000001) rrQ (Go.Ai.swp_swp 8 1000001) rrQ_q hso (by simp) rfl rfl rfl rfl rfl ⟨rfl, rfl⟩ ?_⟩
  simp (maxSteps := 1000000) (disch := (first | omega | assumption)) only [go_sem]
end Go.Proofs.YtodmofhehabmgaaGreatDoor
