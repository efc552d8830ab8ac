/- A part of the session's texts, laid small by the session's shrink.py. -/
import Derived.Test.YtjpkcbkkjefekaaGreatDoorPAx0
import Derived.Test.YtjpkcbkkjefekaaGreatDoorPAx1
import Derived.Test.YtjpkcbkkjefekaaGreatDoorPAx2
namespace Go.Proofs.YtjpkcbkkjefekaaGreatDoor.PA
open Go.RowKit Go.Proofs.YtjpkcbkkjefekaaGreatDoorW.PrintWords Go.Proofs.YtjpkcbkkjefekaaGreatDoorW.PrintLast Go.Proofs.YtjpkcbkkjefekaaGreatDoorW.PrintMore
attribute [local go_sem] max2_int min2_int max_two min_two max_three min_three max_four min_four
set_option linter.unusedVariables false
set_option linter.unusedSimpArgs false
mutual
def spec_l12Ends.j0 : Nat → Int → Int → Int → List (S48) → Int → List (S52) → Int → Int → List (S61) → Option (Bool)
  | 0, _, _, _, _, _, _, _, _, _ => none
  | k + 1, x2, x7, x125000, x125001, x126000, x126001, x126002, x126003, x126004 => if (x126004.length : Int) = x7 then (if x126002 = 2 then (spec_l12Ends.j1 k x2 false x125000 x125001 x126000 x126001 x126002 x126003 x126004) else ((spec_l1In.f x126003 0 (wrap64 (x2 - 1))).bind fun t126 => (spec_l12Ends.j1 k x2 (!t126) x125000 x125001 x126000 x126001 x126002 x126003 x126004))) else (spec_l12Ends.j1 k x2 true x125000 x125001 x126000 x126001 x126002 x126003 x126004)
def spec_l12Ends.j1 : Nat → Int → Bool → Int → List (S48) → Int → List (S52) → Int → Int → List (S61) → Option (Bool)
  | 0, _, _, _, _, _, _, _, _, _ => none
  | k + 1, x2, x38, x125000, x125001, x126000, x126001, x126002, x126003, x126004 => if x38 = true then (some false) else (spec_l12Ends.l0 k x2 x126004 (x126004.length : Int) 0 x125000 x125001)
def spec_l12Ends.l0 : Nat → Int → List (S61) → Int → Int → Int → List (S48) → Option (Bool)
  | 0, _, _, _, _, _, _ => none
  | k + 1, x2, x40, x41, x42, x125000, x125001 => if x42 < x41 then (if 0 ≤ x42 then (if x42 < (x40.length : Int) then ((spec_l1In.f ((rd_T61 x40 x42).f0) 0 (wrap64 ((x125001.length : Int) - 1))).bind fun t129 => (if t129 = true then (if 0 ≤ ((rd_T61 x40 x42).f0) then (if ((rd_T61 x40 x42).f0) < (x125001.length : Int) then (if (((rd_T61 x40 x42).f1).length : Int) = ((rd_T48 x125001 ((rd_T61 x40 x42).f0)).f0) then ((spec_l1All.f k ((rd_T61 x40 x42).f1) 0 (wrap64 (x2 - 1))).bind fun t131 => (if t131 = true then (spec_l12Ends.l0 k x2 x40 x41 (wrap64 (x42 + 1)) x125000 x125001) else (some false))) else (some false)) else (none)) else (none)) else (some false))) else (none)) else (none)) else (some true)
end
def spec_l12Ends.f (k : Nat) (a0_0 : Int) (l0_1 : List (S48)) (a1_0 : Int) (l1_1 : List (S52)) (a1_2 : Int) (a1_3 : Int) (l1_4 : List (S61)) (a2 : Int) : Option (Bool) := if a1_2 = 1 then (spec_l12Ends.j0 k a2 0 a0_0 l0_1 a1_0 l1_1 a1_2 a1_3 l1_4) else (if a1_2 = 2 then (if a1_3 = 0 then (spec_l12Ends.j0 k a2 1 a0_0 l0_1 a1_0 l1_1 a1_2 a1_3 l1_4) else (some false)) else (if a1_2 = 3 then (spec_l12Ends.j0 k a2 2 a0_0 l0_1 a1_0 l1_1 a1_2 a1_3 l1_4) else (some false)))
set_option maxHeartbeats 8000000 in
set_option maxRecDepth 100000 in
theorem spec_l12Ends.calls (k : Nat) (a0_0 : Int) (A0_1 : Option Addr) (c0_1 : Nat) (l0_1 : List (S48)) (a1_0 : Int) (A1_1 : Option Addr) (c1_1 : Nat) (l1_1 : List (S52)) (a1_2 : Int) (a1_3 : Int) (A1_4 : Option Addr) (c1_4 : Nat) (l1_4 : List (S61)) (a2 : Int) (r : Bool) (w : World) (hr0_1 : Kd.C k48 w A0_1 l0_1.length l0_1) (hc0_1 : l0_1.length ≤ c0_1) (hr1_1 : Kd.C k52 w A1_1 l1_1.length l1_1) (hc1_1 : l1_1.length ≤ c1_1) (hr1_4 : Kd.C k61 w A1_4 l1_4.length l1_4) (hc1_4 : l1_4.length ≤ c1_4) (h : spec_l12Ends.f k a0_0 l0_1 a1_0 l1_1 a1_2 a1_3 l1_4 a2 = some r) :
    Calls Tryz.prog 21 #[.agg #[.int .i64 a0_0, .slice A0_1 l0_1.length c0_1], .agg #[.int .i64 a1_0, .slice A1_1 l1_1.length c1_1, .int .i64 a1_2, .int .i64 a1_3, .slice A1_4 l1_4.length c1_4], .int .i64 a2] w fun e w' => e = .returned (.bool r) ∧ Below w.heap.size w w' := by
 have hu30 := Tryz.underlying30
 have hu48 := Tryz.underlying48
 have hu61 := Tryz.underlying61
 have HR0_1 := Aside0.mk hr0_1
 have HC0_1 := Aside0.mk hc0_1
 clear hr0_1 hc0_1
 have HR1_1 := Aside0.mk hr1_1
 have HC1_1 := Aside0.mk hc1_1
 clear hr1_1 hc1_1
 have HR1_4 := Aside0.mk hr1_4
 have HC1_4 := Aside0.mk hc1_4
 clear hr1_4 hc1_4
 have HB := Aside0.mk (Below.refl w.heap.size w)
 have H : (if a1_2 = 1 then (spec_l12Ends.j0 k a2 0 a0_0 l0_1 a1_0 l1_1 a1_2 a1_3 l1_4) else (if a1_2 = 2 then (if a1_3 = 0 then (spec_l12Ends.j0 k a2 1 a0_0 l0_1 a1_0 l1_1 a1_2 a1_3 l1_4) else (some false)) else (if a1_2 = 3 then (spec_l12Ends.j0 k a2 2 a0_0 l0_1 a1_0 l1_1 a1_2 a1_3 l1_4) else (some false)))) = some r := h
 clear h
 have HC4 := Aside0.mk H
 clear H
 go_enter Tryz.func21, Tryz.ntmps21
 go_upto_block 0 with (first | ((with_reducible refine gate_dst (N := 3) rfl ?_); (try (refine gate_guard (by rfl) ?_; dsimp only)); refine box_event ?hg (N := 3) ?hd (cs := #[.int .i64 a0_0, .slice A0_1 l0_1.length c0_1]) (t := 30) ?hr ?_; (case hd => rfl); (case hg => rfl); (case hr => first | (go_simp; done) | (go_simp; rfl)); intro gb124 hg w5 hbox hb; have n0_ := Aside0.mk (below_step (by repeat (first | (with_reducible first | exact HB.out | apply below_alloc | apply pw_below_drewN | apply below_drew1) | exact HB.out)) hb); have n1_ := Aside0.mk (hbox); have n2_ := Aside0.mk ((by rw [hg]; exact (below_size (by repeat (first | (with_reducible first | exact HB.out | apply below_alloc | apply pw_below_drewN | apply below_drew1) | exact HB.out))) : w.heap.size ≤ gb124)); have n3_ := n2_; clear HB; have HB := n0_; have BK124 := n1_; have GW124 := n2_; have GE124 := n3_; clear n0_ n1_ n2_ n3_; clear hb hbox hg) | ((with_reducible refine gate_dst (N := 4) rfl ?_); (try (refine gate_guard (by rfl) ?_; dsimp only)); refine box_event ?hg (N := 4) ?hd (cs := #[.int .i64 a1_0, .slice A1_1 l1_1.length c1_1, .int .i64 a1_2, .int .i64 a1_3, .slice A1_4 l1_4.length c1_4]) (t := 48) ?hr ?_; (case hd => rfl); (case hg => rfl); (case hr => first | (go_simp; done) | (go_simp; rfl)); intro gb125 hg w6 hbox hb; have n0_ := Aside0.mk (bB BK124.out hb); have n1_ := Aside0.mk (below_step (by repeat (first | (with_reducible first | exact HB.out | apply below_alloc | apply pw_below_drewN | apply below_drew1 | refine below_set ?_ GE124.out) | exact HB.out)) hb); have n2_ := Aside0.mk (hbox); have n3_ := Aside0.mk ((by rw [hg]; exact (below_size (by repeat (first | (with_reducible first | exact HB.out | apply below_alloc | apply pw_below_drewN | apply below_drew1 | refine below_set ?_ GE124.out) | exact HB.out))) : w.heap.size ≤ gb125)); have n4_ := n3_; have n5_ := Aside0.mk ((by rw [hg]; exact Nat.ne_of_lt (blk_lt BK124.out) : gb124 ≠ gb125)); have n6_ := Aside0.mk ((by rw [hg]; exact Nat.ne_of_gt (blk_lt BK124.out) : gb125 ≠ gb124)); clear BK124; clear HB; have BK124 := n0_; have HB := n1_; have BK125 := n2_; have GW125 := n3_; have GE125 := n4_; have NB124_125 := n5_; have NB125_124 := n6_; clear n0_ n1_ n2_ n3_ n4_ n5_ n6_; clear hb hbox hg; have hnb7 := NB125_124.out; have hnc7 := NB124_125.out; obtain ⟨hcz8_0, hcz8_1, hcz8_2, hcz8_3, hcz8_4, hfz8_0, hfz8_1, hfz8_2, hfz8_3, hfz8_4⟩ := blk5 BK125.out))
 repeat (go_quiet (first | ((with_reducible refine gate_dst (N := 3) rfl ?_); (try (refine gate_guard (by rfl) ?_; dsimp only)); refine box_event ?hg (N := 3) ?hd (cs := #[.int .i64 a0_0, .slice A0_1 l0_1.length c0_1]) (t := 30) ?hr ?_; (case hd => rfl); (case hg => rfl); (case hr => first | (go_simp; done) | (go_simp; rfl)); intro gb124 hg w5 hbox hb; have n0_ := Aside0.mk (below_step (by repeat (first | (with_reducible first | exact HB.out | apply below_alloc | apply pw_below_drewN | apply below_drew1) | exact HB.out)) hb); have n1_ := Aside0.mk (hbox); have n2_ := Aside0.mk ((by rw [hg]; exact (below_size (by repeat (first | (with_reducible first | exact HB.out | apply below_alloc | apply pw_below_drewN | apply below_drew1) | exact HB.out))) : w.heap.size ≤ gb124)); have n3_ := n2_; clear HB; have HB := n0_; have BK124 := n1_; have GW124 := n2_; have GE124 := n3_; clear n0_ n1_ n2_ n3_; clear hb hbox hg) | ((with_reducible refine gate_dst (N := 4) rfl ?_); (try (refine gate_guard (by rfl) ?_; dsimp only)); refine box_event ?hg (N := 4) ?hd (cs := #[.int .i64 a1_0, .slice A1_1 l1_1.length c1_1, .int .i64 a1_2, .int .i64 a1_3, .slice A1_4 l1_4.length c1_4]) (t := 48) ?hr ?_; (case hd => rfl); (case hg => rfl); (case hr => first | (go_simp; done) | (go_simp; rfl)); intro gb125 hg w6 hbox hb; have n0_ := Aside0.mk (bB BK124.out hb); have n1_ := Aside0.mk (below_step (by repeat (first | (with_reducible first | exact HB.out | apply below_alloc | apply pw_below_drewN | apply below_drew1 | refine below_set ?_ GE124.out) | exact HB.out)) hb); have n2_ := Aside0.mk (hbox); have n3_ := Aside0.mk ((by rw [hg]; exact (below_size (by repeat (first | (with_reducible first | exact HB.out | apply below_alloc | apply pw_below_drewN | apply below_drew1 | refine below_set ?_ GE124.out) | exact HB.out))) : w.heap.size ≤ gb125)); have n4_ := n3_; have n5_ := Aside0.mk ((by rw [hg]; exact Nat.ne_of_lt (blk_lt BK124.out) : gb124 ≠ gb125)); have n6_ := Aside0.mk ((by rw [hg]; exact Nat.ne_of_gt (blk_lt BK124.out) : gb125 ≠ gb124)); clear BK124; clear HB; have BK124 := n0_; have HB := n1_; have BK125 := n2_; have GW125 := n3_; have GE125 := n4_; have NB124_125 := n5_; have NB125_124 := n6_; clear n0_ n1_ n2_ n3_ n4_ n5_ n6_; clear hb hbox hg; have hnb7 := NB125_124.out; have hnc7 := NB124_125.out; obtain ⟨hcz8_0, hcz8_1, hcz8_2, hcz8_3, hcz8_4, hfz8_0, hfz8_1, hfz8_2, hfz8_3, hfz8_4⟩ := blk5 BK125.out)); go_upto_block 0 with (first | ((with_reducible refine gate_dst (N := 3) rfl ?_); (try (refine gate_guard (by rfl) ?_; dsimp only)); refine box_event ?hg (N := 3) ?hd (cs := #[.int .i64 a0_0, .slice A0_1 l0_1.length c0_1]) (t := 30) ?hr ?_; (case hd => rfl); (case hg => rfl); (case hr => first | (go_simp; done) | (go_simp; rfl)); intro gb124 hg w5 hbox hb; have n0_ := Aside0.mk (below_step (by repeat (first | (with_reducible first | exact HB.out | apply below_alloc | apply pw_below_drewN | apply below_drew1) | exact HB.out)) hb); have n1_ := Aside0.mk (hbox); have n2_ := Aside0.mk ((by rw [hg]; exact (below_size (by repeat (first | (with_reducible first | exact HB.out | apply below_alloc | apply pw_below_drewN | apply below_drew1) | exact HB.out))) : w.heap.size ≤ gb124)); have n3_ := n2_; clear HB; have HB := n0_; have BK124 := n1_; have GW124 := n2_; have GE124 := n3_; clear n0_ n1_ n2_ n3_; clear hb hbox hg) | ((with_reducible refine gate_dst (N := 4) rfl ?_); (try (refine gate_guard (by rfl) ?_; dsimp only)); refine box_event ?hg (N := 4) ?hd (cs := #[.int .i64 a1_0, .slice A1_1 l1_1.length c1_1, .int .i64 a1_2, .int .i64 a1_3, .slice A1_4 l1_4.length c1_4]) (t := 48) ?hr ?_; (case hd => rfl); (case hg => rfl); (case hr => first | (go_simp; done) | (go_simp; rfl)); intro gb125 hg w6 hbox hb; have n0_ := Aside0.mk (bB BK124.out hb); have n1_ := Aside0.mk (below_step (by repeat (first | (with_reducible first | exact HB.out | apply below_alloc | apply pw_below_drewN | apply below_drew1 | refine below_set ?_ GE124.out) | exact HB.out)) hb); have n2_ := Aside0.mk (hbox); have n3_ := Aside0.mk ((by rw [hg]; exact (below_size (by repeat (first | (with_reducible first | exact HB.out | apply below_alloc | apply pw_below_drewN | apply below_drew1 | refine below_set ?_ GE124.out) | exact HB.out))) : w.heap.size ≤ gb125)); have n4_ := n3_; have n5_ := Aside0.mk ((by rw [hg]; exact Nat.ne_of_lt (blk_lt BK124.out) : gb124 ≠ gb125)); have n6_ := Aside0.mk ((by rw [hg]; exact Nat.ne_of_gt (blk_lt BK124.out) : gb125 ≠ gb124)); clear BK124; clear HB; have BK124 := n0_; have HB := n1_; have BK125 := n2_; have GW125 := n3_; have GE125 := n4_; have NB124_125 := n5_; have NB125_124 := n6_; clear n0_ n1_ n2_ n3_ n4_ n5_ n6_; clear hb hbox hg; have hnb7 := NB125_124.out; have hnc7 := NB124_125.out; obtain ⟨hcz8_0, hcz8_1, hcz8_2, hcz8_3, hcz8_4, hfz8_0, hfz8_1, hfz8_2, hfz8_3, hfz8_4⟩ := blk5 BK125.out)))
 (try simp only [Act.put, lA, lB, lC])
 go_cut [7] (fun v7 wc => ∃ (kq : Nat) (x7_3 : Int), v7 = .int .i64 x7_3 ∧ Aside0 (spec_l12Ends.j0 kq a2 x7_3 a0_0 l0_1 a1_0 l1_1 a1_2 a1_3 l1_4 = some r) ∧ Aside0 (kq ≤ k) ∧ Aside0 (wc.heap[gb124]? = some (.cells #[.int .i64 a0_0, (.slice A0_1 l0_1.length c0_1)] 30 (0, 0))) ∧ Aside0 (wc.heap[gb125]? = some (.cells #[.int .i64 a1_0, (.slice A1_1 l1_1.length c1_1), .int .i64 a1_2, .int .i64 a1_3, (.slice A1_4 l1_4.length c1_4)] 48 (0, 0))) ∧ Aside0 (Below w.heap.size w wc))
 case first =>
   have H := HC4.out
   clear HC4
   by_cases c9 : a1_2 = 1
   · rw [if_pos c9] at H
     have c9b0 : (a1_2 == 1) = true := beq_iff_eq.mpr c9
     have c9b1 : (a1_2 != 1) = false := bne_eq_false_iff_eq.mpr c9
     clear c9
     (first | rw [c9b0] | (simp only [i64_w, i32_w]; rw [c9b0]) | skip)
     have H' := Aside0.mk H
     clear H
     go_wp2
     repeat (go_quiet (fail); try go_wp2)
     go_meet
     case rel => exact ⟨_, (0), (by first | rfl | (simp; done) | (simp [*]; done)), H', ⟨by first | omega | exact Nat.le_refl _⟩, ⟨by (with_reducible repeat (first | refine blk_drewN ?_ _ | refine blk_drew ?_ | refine blk_alloc ?_ _)); exact BK124.out⟩, ⟨by (with_reducible repeat (first | refine blk_drewN ?_ _ | refine blk_drew ?_ | refine blk_alloc ?_ _)); exact BK125.out⟩, ⟨by repeat (first | (with_reducible first | exact HB.out | apply below_alloc | apply pw_below_drewN | apply below_drew1 | refine below_set ?_ GE124.out | refine below_set ?_ GE125.out) | exact HB.out)⟩⟩
   rw [if_neg c9] at H
   have c9b0 : (a1_2 == 1) = false := beq_eq_false_iff_ne.mpr c9
   have c9b1 : (a1_2 != 1) = true := bne_iff_ne.mpr c9
   (first | rw [c9b0] | (simp only [i64_w, i32_w]; rw [c9b0]) | skip)
   by_cases c10 : a1_2 = 2
   rotate_left
   · rw [if_neg c10] at H
     have c10b0 : (a1_2 == 2) = false := beq_eq_false_iff_ne.mpr c10
     have c10b1 : (a1_2 != 2) = true := bne_iff_ne.mpr c10
     by_cases c16 : a1_2 = 3
     rotate_left
     · rw [if_neg c16] at H
       have c16b0 : (a1_2 == 3) = false := beq_eq_false_iff_ne.mpr c16
       have c16b1 : (a1_2 != 3) = true := bne_iff_ne.mpr c16
       obtain rfl := Option.some.inj H
       go_wp2
       repeat (go_quiet (fail); try go_wp2)
       go_ret
       exact ⟨by first | rfl | (simp [errW_none, errW_some] <;> rfl) | (simp [*, errW_none, errW_some] <;> rfl), by repeat (first | (with_reducible first | exact HB.out | apply below_alloc | apply pw_below_drewN | apply below_drew1 | refine below_set ?_ GE124.out | refine below_set ?_ GE125.out) | exact HB.out)⟩
     rw [if_pos c16] at H
     have c16b0 : (a1_2 == 3) = true := beq_iff_eq.mpr c16
     have c16b1 : (a1_2 != 3) = false := bne_eq_false_iff_eq.mpr c16
     clear c16
     have H' := Aside0.mk H
     clear H
     go_wp2
     repeat (go_quiet (fail); try go_wp2)
     go_meet
     case rel => exact ⟨_, (2), (by first | rfl | (simp; done) | (simp [*]; done)), H', ⟨by first | omega | exact Nat.le_refl _⟩, ⟨by (with_reducible repeat (first | refine blk_drewN ?_ _ | refine blk_drew ?_ | refine blk_alloc ?_ _)); exact BK124.out⟩, ⟨by (with_reducible repeat (first | refine blk_drewN ?_ _ | refine blk_drew ?_ | refine blk_alloc ?_ _)); exact BK125.out⟩, ⟨by repeat (first | (with_reducible first | exact HB.out | apply below_alloc | apply pw_below_drewN | apply below_drew1 | refine below_set ?_ GE124.out | refine below_set ?_ GE125.out) | exact HB.out)⟩⟩
   rw [if_pos c10] at H
   have c10b0 : (a1_2 == 2) = true := beq_iff_eq.mpr c10
   have c10b1 : (a1_2 != 2) = false := bne_eq_false_iff_eq.mpr c10
   clear c10
   by_cases c11 : a1_3 = 0
   · rw [if_pos c11] at H
     have c11b0 : (a1_3 == 0) = true := beq_iff_eq.mpr c11
     have c11b1 : (a1_3 != 0) = false := bne_eq_false_iff_eq.mpr c11
     clear c11
     have H' := Aside0.mk H
     clear H
     have hnb12 := NB125_124.out
     have hnc12 := NB124_125.out
     obtain ⟨hcz13_0, hcz13_1, hcz13_2, hcz13_3, hcz13_4, hfz13_0, hfz13_1, hfz13_2, hfz13_3, hfz13_4⟩ := blk5 BK125.out
     go_wp2
     repeat (go_quiet (fail); try go_wp2)
     go_meet
     case rel => exact ⟨_, (1), (by first | rfl | (simp; done) | (simp [*]; done)), H', ⟨by first | omega | exact Nat.le_refl _⟩, ⟨by (with_reducible repeat (first | refine blk_drewN ?_ _ | refine blk_drew ?_ | refine blk_alloc ?_ _)); exact BK124.out⟩, ⟨by (with_reducible repeat (first | refine blk_drewN ?_ _ | refine blk_drew ?_ | refine blk_alloc ?_ _)); exact BK125.out⟩, ⟨by repeat (first | (with_reducible first | exact HB.out | apply below_alloc | apply pw_below_drewN | apply below_drew1 | refine below_set ?_ GE124.out | refine below_set ?_ GE125.out) | exact HB.out)⟩⟩
   rw [if_neg c11] at H
   have c11b0 : (a1_3 == 0) = false := beq_eq_false_iff_ne.mpr c11
   have c11b1 : (a1_3 != 0) = true := bne_iff_ne.mpr c11
   obtain rfl := Option.some.inj H
   have hnb14 := NB125_124.out
   have hnc14 := NB124_125.out
   obtain ⟨hcz15_0, hcz15_1, hcz15_2, hcz15_3, hcz15_4, hfz15_0, hfz15_1, hfz15_2, hfz15_3, hfz15_4⟩ := blk5 BK125.out
   go_wp2
   repeat (go_quiet (fail); try go_wp2)
   go_ret
   exact ⟨by first | rfl | (simp [errW_none, errW_some] <;> rfl) | (simp [*, errW_none, errW_some] <;> rfl), by repeat (first | (with_reducible first | exact HB.out | apply below_alloc | apply pw_below_drewN | apply below_drew1 | refine below_set ?_ GE124.out | refine below_set ?_ GE125.out) | exact HB.out)⟩
 clear HC4
 try clear c1
 try clear c2
 try clear p2
 try clear c7
 try clear c9
 try clear c9b0
 try clear c9b1
 try clear c10
 try clear c10b0
 try clear c10b1
 try clear c11
 try clear c11b0
 try clear c11b1
 try clear c12
 try clear c14
 try clear c16
 try clear c16b0
 try clear c16b1
 try clear hcz13_0
 try clear hcz13_1
 try clear hcz13_2
 try clear hcz13_3
 try clear hcz13_4
 try clear hcz15_0
 try clear hcz15_1
 try clear hcz15_2
 try clear hcz15_3
 try clear hcz15_4
 try clear hcz8_0
 try clear hcz8_1
 try clear hcz8_2
 try clear hcz8_3
 try clear hcz8_4
 try clear hfz13_0
 try clear hfz13_1
 try clear hfz13_2
 try clear hfz13_3
 try clear hfz13_4
 try clear hfz15_0
 try clear hfz15_1
 try clear hfz15_2
 try clear hfz15_3
 try clear hfz15_4
 try clear hfz8_0
 try clear hfz8_1
 try clear hfz8_2
 try clear hfz8_3
 try clear hfz8_4
 obtain ⟨kq, x7_3, rfl, HA, HJ3, BK124, BK125, HB⟩ := hcut
 rcases kq with _ | kj3
 · exact absurd HA.out (by simp [spec_l12Ends.j0])
 have H := HA.out
 clear HA
 simp only [spec_l12Ends.j0] at H
 have HC17 := Aside0.mk H
 clear H
 go_upto_region 11 with (fail)
 repeat (go_quiet (fail); go_upto_region 11 with (fail))
 go_cut [38] (fun v38 wc => ∃ (kq : Nat) (x38_16 : Bool), v38 = .bool x38_16 ∧ Aside0 (spec_l12Ends.j1 kq a2 x38_16 a0_0 l0_1 a1_0 l1_1 a1_2 a1_3 l1_4 = some r) ∧ Aside0 (kq ≤ kj3) ∧ Aside0 (wc.heap[gb124]? = some (.cells #[.int .i64 a0_0, (.slice A0_1 l0_1.length c0_1)] 30 (0, 0))) ∧ Aside0 (wc.heap[gb125]? = some (.cells #[.int .i64 a1_0, (.slice A1_1 l1_1.length c1_1), .int .i64 a1_2, .int .i64 a1_3, (.slice A1_4 l1_4.length c1_4)] 48 (0, 0))) ∧ Aside0 (Below w.heap.size w wc))
 case first =>
   have H := HC17.out
   clear HC17
   by_cases c18 : (l1_4.length : Int) = x7_3
   rotate_left
   · rw [if_neg c18] at H
     have c18b0 : ((l1_4.length : Int) == x7_3) = false := beq_eq_false_iff_ne.mpr c18
     have c18b1 : ((l1_4.length : Int) != x7_3) = true := bne_iff_ne.mpr c18
     (first | rw [c18b0] | (simp only [i64_w, i32_w]; rw [c18b0]) | skip)
     have H' := Aside0.mk H
     clear H
     have hnb25 := NB125_124.out
     have hnc25 := NB124_125.out
     obtain ⟨hcz26_0, hcz26_1, hcz26_2, hcz26_3, hcz26_4, hfz26_0, hfz26_1, hfz26_2, hfz26_3, hfz26_4⟩ := blk5 BK125.out
     go_wp2
     repeat (go_quiet (fail); try go_wp2)
     go_meet
     case rel => exact ⟨_, (true), (by first | rfl | (simp; done) | (simp [*]; done)), H', ⟨by have := HJ3.out; first | omega | exact Nat.le_refl _⟩, ⟨by (with_reducible repeat (first | refine blk_drewN ?_ _ | refine blk_drew ?_ | refine blk_alloc ?_ _)); exact BK124.out⟩, ⟨by (with_reducible repeat (first | refine blk_drewN ?_ _ | refine blk_drew ?_ | refine blk_alloc ?_ _)); exact BK125.out⟩, ⟨by repeat (first | (with_reducible first | exact HB.out | apply below_alloc | apply pw_below_drewN | apply below_drew1 | refine below_set ?_ GE124.out | refine below_set ?_ GE125.out) | exact HB.out)⟩⟩
   rw [if_pos c18] at H
   have c18b0 : ((l1_4.length : Int) == x7_3) = true := beq_iff_eq.mpr c18
   have c18b1 : ((l1_4.length : Int) != x7_3) = false := bne_eq_false_iff_eq.mpr c18
   clear c18
   (first | rw [c18b0] | (simp only [i64_w, i32_w]; rw [c18b0]) | skip)
   by_cases c19 : a1_2 = 2
   · rw [if_pos c19] at H
     have c19b0 : (a1_2 == 2) = true := beq_iff_eq.mpr c19
     have c19b1 : (a1_2 != 2) = false := bne_eq_false_iff_eq.mpr c19
     clear c19
     have H' := Aside0.mk H
     clear H
     have hnb20 := NB125_124.out
     have hnc20 := NB124_125.out
     obtain ⟨hcz21_0, hcz21_1, hcz21_2, hcz21_3, hcz21_4, hfz21_0, hfz21_1, hfz21_2, hfz21_3, hfz21_4⟩ := blk5 BK125.out
     go_wp2
     repeat (go_quiet (fail); try go_wp2)
     go_meet
     case rel => exact ⟨_, (false), (by first | rfl | (simp; done) | (simp [*]; done)), H', ⟨by have := HJ3.out; first | omega | exact Nat.le_refl _⟩, ⟨by (with_reducible repeat (first | refine blk_drewN ?_ _ | refine blk_drew ?_ | refine blk_alloc ?_ _)); exact BK124.out⟩, ⟨by (with_reducible repeat (first | refine blk_drewN ?_ _ | refine blk_drew ?_ | refine blk_alloc ?_ _)); exact BK125.out⟩, ⟨by repeat (first | (with_reducible first | exact HB.out | apply below_alloc | apply pw_below_drewN | apply below_drew1 | refine below_set ?_ GE124.out | refine below_set ?_ GE125.out) | exact HB.out)⟩⟩
   rw [if_neg c19] at H
   have c19b0 : (a1_2 == 2) = false := beq_eq_false_iff_ne.mpr c19
   have c19b1 : (a1_2 != 2) = true := bne_iff_ne.mpr c19
   replace H := Option.bind_eq_some_iff.mp H
   obtain ⟨t126, A220, H⟩ := H
   replace H : (spec_l12Ends.j1 kj3 a2 (!t126) a0_0 l0_1 a1_0 l1_1 a1_2 a1_3 l1_4) = some r := H
   have A22 := Aside0.mk A220
   clear A220
   have H' := Aside0.mk H
   clear H
   have hnb23 := NB125_124.out
   have hnc23 := NB124_125.out
   obtain ⟨hcz24_0, hcz24_1, hcz24_2, hcz24_3, hcz24_4, hfz24_0, hfz24_1, hfz24_2, hfz24_3, hfz24_4⟩ := blk5 BK125.out
   go_wp2_with (first | (go_at_call 17; (with_reducible refine (spec_l1In.calls a1_3 0 (wrap64 (a2 - 1)) t126 _ A22.out).mono ?_); rintro e w' ⟨rfl, ⟨nd, rfl⟩⟩; (try first | exact ⟨rfl, _, World.drewN_drewN _ _ _⟩ | exact ⟨rfl, _, Eq.trans (World.drewN_drewN _ _ _) (congrArg (World.drewN _) (Nat.add_assoc _ _ _))⟩)))
   repeat (go_quiet (first | (go_at_call 17; (with_reducible refine (spec_l1In.calls a1_3 0 (wrap64 (a2 - 1)) t126 _ A22.out).mono ?_); rintro e w' ⟨rfl, ⟨nd, rfl⟩⟩; (try first | exact ⟨rfl, _, World.drewN_drewN _ _ _⟩ | exact ⟨rfl, _, Eq.trans (World.drewN_drewN _ _ _) (congrArg (World.drewN _) (Nat.add_assoc _ _ _))⟩))); try go_wp2_with (first | (go_at_call 17; (with_reducible refine (spec_l1In.calls a1_3 0 (wrap64 (a2 - 1)) t126 _ A22.out).mono ?_); rintro e w' ⟨rfl, ⟨nd, rfl⟩⟩; (try first | exact ⟨rfl, _, World.drewN_drewN _ _ _⟩ | exact ⟨rfl, _, Eq.trans (World.drewN_drewN _ _ _) (congrArg (World.drewN _) (Nat.add_assoc _ _ _))⟩))))
   go_meet
   case rel => exact ⟨_, (!t126), (by first | rfl | (simp; done) | (simp [*]; done)), H', ⟨by have := HJ3.out; first | omega | exact Nat.le_refl _⟩, ⟨by (with_reducible repeat (first | refine blk_drewN ?_ _ | refine blk_drew ?_ | refine blk_alloc ?_ _)); exact BK124.out⟩, ⟨by (with_reducible repeat (first | refine blk_drewN ?_ _ | refine blk_drew ?_ | refine blk_alloc ?_ _)); exact BK125.out⟩, ⟨by repeat (first | (with_reducible first | exact HB.out | apply below_alloc | apply pw_below_drewN | apply below_drew1 | refine below_set ?_ GE124.out | refine below_set ?_ GE125.out) | exact HB.out)⟩⟩
 clear HC17
 try clear c1
 try clear c2
 try clear p2
 try clear p6
 try clear c7
 try clear c9
 try clear c9b0
 try clear c9b1
 try clear c10
 try clear c10b0
 try clear c10b1
 try clear c11
 try clear c11b0
 try clear c11b1
 try clear c12
 try clear c14
 try clear c16
 try clear c16b0
 try clear c16b1
 try clear c18
 try clear c18b0
 try clear c18b1
 try clear c19
 try clear c19b0
 try clear c19b1
 try clear c20
 try clear c21
 try clear c23
 try clear c25
 try clear hcz13_0
 try clear hcz13_1
 try clear hcz13_2
 try clear hcz13_3
 try clear hcz13_4
 try clear hcz15_0
 try clear hcz15_1
 try clear hcz15_2
 try clear hcz15_3
 try clear hcz15_4
 try clear hcz21_0
 try clear hcz21_1
 try clear hcz21_2
 try clear hcz21_3
 try clear hcz21_4
 try clear hcz24_0
 try clear hcz24_1
 try clear hcz24_2
 try clear hcz24_3
 try clear hcz24_4
 try clear hcz26_0
 try clear hcz26_1
 try clear hcz26_2
 try clear hcz26_3
 try clear hcz26_4
 try clear hcz8_0
 try clear hcz8_1
 try clear hcz8_2
 try clear hcz8_3
 try clear hcz8_4
 try clear hfz13_0
 try clear hfz13_1
 try clear hfz13_2
 try clear hfz13_3
 try clear hfz13_4
 try clear hfz15_0
 try clear hfz15_1
 try clear hfz15_2
 try clear hfz15_3
 try clear hfz15_4
 try clear hfz21_0
 try clear hfz21_1
 try clear hfz21_2
 try clear hfz21_3
 try clear hfz21_4
 try clear hfz24_0
 try clear hfz24_1
 try clear hfz24_2
 try clear hfz24_3
 try clear hfz24_4
 try clear hfz26_0
 try clear hfz26_1
 try clear hfz26_2
 try clear hfz26_3
 try clear hfz26_4
 try clear hfz8_0
 try clear hfz8_1
 try clear hfz8_2
 try clear hfz8_3
 try clear hfz8_4
 try clear p2
 obtain ⟨kq, x38_16, rfl, HA, HJ16, BK124, BK125, HB⟩ := hcut
 rcases kq with _ | kj16
 · exact absurd HA.out (by simp [spec_l12Ends.j1])
 have H := HA.out
 clear HA
 simp only [spec_l12Ends.j1] at H
 by_cases c27 : x38_16 = true
 · subst c27
   have H1 : (some false) = some r := by rw [if_pos rfl] at H; exact H
   clear H
   have H := H1
   clear H1
   obtain rfl := Option.some.inj H
   go_wp2
   repeat (go_quiet (fail); try go_wp2)
   go_ret
   exact ⟨by first | rfl | (simp [errW_none, errW_some] <;> rfl) | (simp [*, errW_none, errW_some] <;> rfl), by repeat (first | (with_reducible first | exact HB.out | apply below_alloc | apply pw_below_drewN | apply below_drew1 | refine below_set ?_ GE124.out | refine below_set ?_ GE125.out) | exact HB.out)⟩
 replace c27 := Bool.eq_false_iff.mpr c27
 subst c27
 have H1 : (spec_l12Ends.l0 kj16 a2 l1_4 (l1_4.length : Int) 0 a0_0 l0_1) = some r := by rw [if_neg (show ¬ (false = true) by decide)] at H; exact H
 clear H
 have H := H1
 clear H1
 have H' := Aside0.mk H
 clear H
 have hnb28 := NB125_124.out
 have hnc28 := NB124_125.out
 obtain ⟨hcz29_0, hcz29_1, hcz29_2, hcz29_3, hcz29_4, hfz29_0, hfz29_1, hfz29_2, hfz29_3, hfz29_4⟩ := blk5 BK125.out
 go_wp2
 repeat (go_quiet (fail); try go_wp2)
 go_loopg [42] kj16 (fun kq v42 w' => ∃ (x42_3 : Int), v42 = .int .i64 x42_3 ∧ Aside0 (spec_l12Ends.l0 kq a2 l1_4 (l1_4.length : Int) x42_3 a0_0 l0_1 = some r) ∧ Aside0 (kq ≤ kj16) ∧ Aside0 (w'.heap[gb124]? = some (.cells #[.int .i64 a0_0, (.slice A0_1 l0_1.length c0_1)] 30 (0, 0))) ∧ Aside0 (w'.heap[gb125]? = some (.cells #[.int .i64 a1_0, (.slice A1_1 l1_1.length c1_1), .int .i64 a1_2, .int .i64 a1_3, (.slice A1_4 l1_4.length c1_4)] 48 (0, 0))) ∧ Aside0 (Below w.heap.size w w'))
 case atStart => exact ⟨(0), (by first | rfl | (simp; done) | (simp [*]; done)), H', ⟨Nat.le_refl _⟩, ⟨by (with_reducible repeat (first | refine blk_drewN ?_ _ | refine blk_drew ?_ | refine blk_alloc ?_ _)); exact BK124.out⟩, ⟨by (with_reducible repeat (first | refine blk_drewN ?_ _ | refine blk_drew ?_ | refine blk_alloc ?_ _)); exact BK125.out⟩, ⟨by repeat (first | (with_reducible first | exact HB.out | apply below_alloc | apply pw_below_drewN | apply below_drew1 | refine below_set ?_ GE124.out | refine below_set ?_ GE125.out) | exact HB.out)⟩⟩
 clear H'
 try clear c1
 try clear c2
 try clear p2
 try clear p6
 try clear c7
 try clear c9
 try clear c9b0
 try clear c9b1
 try clear c10
 try clear c10b0
 try clear c10b1
 try clear c11
 try clear c11b0
 try clear c11b1
 try clear c12
 try clear c14
 try clear c16
 try clear c16b0
 try clear c16b1
 try clear c18
 try clear c18b0
 try clear c18b1
 try clear c19
 try clear c19b0
 try clear c19b1
 try clear c20
 try clear c21
 try clear c23
 try clear c25
 try clear c27
 try clear c28
 try clear hcz13_0
 try clear hcz13_1
 try clear hcz13_2
 try clear hcz13_3
 try clear hcz13_4
 try clear hcz15_0
 try clear hcz15_1
 try clear hcz15_2
 try clear hcz15_3
 try clear hcz15_4
 try clear hcz21_0
 try clear hcz21_1
 try clear hcz21_2
 try clear hcz21_3
 try clear hcz21_4
 try clear hcz24_0
 try clear hcz24_1
 try clear hcz24_2
 try clear hcz24_3
 try clear hcz24_4
 try clear hcz26_0
 try clear hcz26_1
 try clear hcz26_2
 try clear hcz26_3
 try clear hcz26_4
 try clear hcz29_0
 try clear hcz29_1
 try clear hcz29_2
 try clear hcz29_3
 try clear hcz29_4
 try clear hcz8_0
 try clear hcz8_1
 try clear hcz8_2
 try clear hcz8_3
 try clear hcz8_4
 try clear hfz13_0
 try clear hfz13_1
 try clear hfz13_2
 try clear hfz13_3
 try clear hfz13_4
 try clear hfz15_0
 try clear hfz15_1
 try clear hfz15_2
 try clear hfz15_3
 try clear hfz15_4
 try clear hfz21_0
 try clear hfz21_1
 try clear hfz21_2
 try clear hfz21_3
 try clear hfz21_4
 try clear hfz24_0
 try clear hfz24_1
 try clear hfz24_2
 try clear hfz24_3
 try clear hfz24_4
 try clear hfz26_0
 try clear hfz26_1
 try clear hfz26_2
 try clear hfz26_3
 try clear hfz26_4
 try clear hfz29_0
 try clear hfz29_1
 try clear hfz29_2
 try clear hfz29_3
 try clear hfz29_4
 try clear hfz8_0
 try clear hfz8_1
 try clear hfz8_2
 try clear hfz8_3
 try clear hfz8_4
 try clear p2
 try clear p6
 obtain ⟨x42_3, rfl, HA, HK3, BK124, BK125, HB⟩ := hrel
 rcases gk with _ | k3
 · exact absurd HA.out (by simp [spec_l12Ends.l0])
 have H := HA.out
 clear HA
 simp only [spec_l12Ends.l0] at H
 by_cases c30 : x42_3 < (l1_4.length : Int)
 rotate_left
 · rw [if_neg c30] at H
   have c30b0 : decide (x42_3 < (l1_4.length : Int)) = false := decide_eq_false c30
   clear c30
   obtain rfl := Option.some.inj H
   go_wp2
   repeat (go_quiet (fail); try go_wp2)
   go_ret
   exact ⟨by first | rfl | (simp [errW_none, errW_some] <;> rfl) | (simp [*, errW_none, errW_some] <;> rfl), by repeat (first | (with_reducible first | exact HB.out | apply below_alloc | apply pw_below_drewN | apply below_drew1 | refine below_set ?_ GE124.out | refine below_set ?_ GE125.out) | exact HB.out)⟩
 rw [if_pos c30] at H
 have c30b0 : decide (x42_3 < (l1_4.length : Int)) = true := decide_eq_true c30
 clear c30
 by_cases c31 : 0 ≤ x42_3
 rotate_left
 · rw [if_neg c31] at H
   exact absurd H (by simp)
 rw [if_pos c31] at H
 have c31b0 : decide (0 ≤ x42_3) = true := decide_eq_true c31
 clear c31
 by_cases c32 : x42_3 < (l1_4.length : Int)
 rotate_left
 · rw [if_neg c32] at H
   exact absurd H (by simp)
 rw [if_pos c32] at H
 have c32b0 : decide (x42_3 < (l1_4.length : Int)) = true := decide_eq_true c32
 clear c32
 replace H := Option.bind_eq_some_iff.mp H
 obtain ⟨t129, A330, H⟩ := H
 replace H : (if t129 = true then (if 0 ≤ ((rd_T61 l1_4 x42_3).f0) then (if ((rd_T61 l1_4 x42_3).f0) < (l0_1.length : Int) then (if (((rd_T61 l1_4 x42_3).f1).length : Int) = ((rd_T48 l0_1 ((rd_T61 l1_4 x42_3).f0)).f0) then ((spec_l1All.f k3 ((rd_T61 l1_4 x42_3).f1) 0 (wrap64 (a2 - 1))).bind fun t131 => (if t131 = true then (spec_l12Ends.l0 k3 a2 l1_4 (l1_4.length : Int) (wrap64 (x42_3 + 1)) a0_0 l0_1) else (some false))) else (some false)) else (none)) else (none)) else (some false)) = some r := H
 have A33 := Aside0.mk A330
 clear A330
 by_cases c34 : t129 = true
 rotate_left
 · replace c34 := Bool.eq_false_iff.mpr c34
   subst c34
   have H1 : (some false) = some r := by rw [if_neg (show ¬ (false = true) by decide)] at H; exact H
   clear H
   have H := H1
   clear H1
   obtain rfl := Option.some.inj H
   have p127 : 0 ≤ (x42_3 : Int) := of_decide_eq_true (by first | (with_reducible assumption) | assumption)
   have q127 : x42_3 < (l1_4.length : Int) := of_decide_eq_true (by first | (with_reducible assumption) | assumption)
   obtain ⟨ad127, A127_1, c127_1, e127, hx127_0, hx127_1, hl127_1, hi127_1⟩ := at_T61 HR1_4.out x42_3 p127 q127
   cases e127
   replace hx127_0 := cB HB.out hx127_0
   replace hx127_1 := cB HB.out hx127_1
   have HR127_1 := Aside0.mk hi127_1
   have HC127_1 := Aside0.mk hl127_1
   clear hi127_1 hl127_1
   replace p127 := eq_true p127
   replace q127 := eq_true q127
   go_wp2_with (first | ((with_reducible refine gate_dst (N := 9) rfl ?_); (try (refine gate_guard (by rfl) ?_; dsimp only)); refine box_event ?hg (N := 9) ?hd (cs := #[.int .i64 0, .slice none 0 0]) (t := 61) ?hr ?_; (case hd => rfl); (case hg => rfl); (case hr => first | (go_simp; done) | (go_simp; rfl)); intro gb128 hg w58 hbox hb; have n0_ := Aside0.mk (bB BK124.out hb); have n1_ := Aside0.mk (bB BK125.out hb); have n2_ := Aside0.mk (below_step (by repeat (first | (with_reducible first | exact HB.out | apply below_alloc | apply pw_below_drewN | apply below_drew1 | refine below_set ?_ GE124.out | refine below_set ?_ GE125.out) | exact HB.out)) hb); have n3_ := Aside0.mk (hbox); have n4_ := Aside0.mk ((by rw [hg]; exact (below_size (by repeat (first | (with_reducible first | exact HB.out | apply below_alloc | apply pw_below_drewN | apply below_drew1 | refine below_set ?_ GE124.out | refine below_set ?_ GE125.out) | exact HB.out))) : w.heap.size ≤ gb128)); have n5_ := n4_; have n6_ := Aside0.mk ((by rw [hg]; exact Nat.ne_of_lt (blk_lt BK124.out) : gb124 ≠ gb128)); have n7_ := Aside0.mk ((by rw [hg]; exact Nat.ne_of_gt (blk_lt BK124.out) : gb128 ≠ gb124)); have n8_ := Aside0.mk ((by rw [hg]; exact Nat.ne_of_lt (blk_lt BK125.out) : gb125 ≠ gb128)); have n9_ := Aside0.mk ((by rw [hg]; exact Nat.ne_of_gt (blk_lt BK125.out) : gb128 ≠ gb125)); clear BK124; clear BK125; clear HB; have BK124 := n0_; have BK125 := n1_; have HB := n2_; have BK128 := n3_; have GW128 := n4_; have GE128 := n5_; have NB124_128 := n6_; have NB128_124 := n7_; have NB125_128 := n8_; have NB128_125 := n9_; clear n0_ n1_ n2_ n3_ n4_ n5_ n6_ n7_ n8_ n9_; clear hb hbox hg; have hnb59 := NB128_124.out; have hnc59 := NB124_128.out; have hnb60 := NB128_125.out; have hnc60 := NB125_128.out; obtain ⟨hcz61_0, hcz61_1, hfz61_0, hfz61_1⟩ := blk2 BK128.out; have hnb62 := NB124_125.out; have hnc62 := NB125_124.out; obtain ⟨hcz63_0, hcz63_1, hfz63_0, hfz63_1⟩ := blk2 BK124.out) | (go_at_call 17; (with_reducible refine (spec_l1In.calls ((rd_T61 l1_4 x42_3).f0) 0 (wrap64 ((l0_1.length : Int) - 1)) false _ A33.out).mono ?_); rintro e w' ⟨rfl, ⟨nd, rfl⟩⟩; (try first | exact ⟨rfl, _, World.drewN_drewN _ _ _⟩ | exact ⟨rfl, _, Eq.trans (World.drewN_drewN _ _ _) (congrArg (World.drewN _) (Nat.add_assoc _ _ _))⟩)))
   repeat (go_quiet (first | ((with_reducible refine gate_dst (N := 9) rfl ?_); (try (refine gate_guard (by rfl) ?_; dsimp only)); refine box_event ?hg (N := 9) ?hd (cs := #[.int .i64 0, .slice none 0 0]) (t := 61) ?hr ?_; (case hd => rfl); (case hg => rfl); (case hr => first | (go_simp; done) | (go_simp; rfl)); intro gb128 hg w58 hbox hb; have n0_ := Aside0.mk (bB BK124.out hb); have n1_ := Aside0.mk (bB BK125.out hb); have n2_ := Aside0.mk (below_step (by repeat (first | (with_reducible first | exact HB.out | apply below_alloc | apply pw_below_drewN | apply below_drew1 | refine below_set ?_ GE124.out | refine below_set ?_ GE125.out) | exact HB.out)) hb); have n3_ := Aside0.mk (hbox); have n4_ := Aside0.mk ((by rw [hg]; exact (below_size (by repeat (first | (with_reducible first | exact HB.out | apply below_alloc | apply pw_below_drewN | apply below_drew1 | refine below_set ?_ GE124.out | refine below_set ?_ GE125.out) | exact HB.out))) : w.heap.size ≤ gb128)); have n5_ := n4_; have n6_ := Aside0.mk ((by rw [hg]; exact Nat.ne_of_lt (blk_lt BK124.out) : gb124 ≠ gb128)); have n7_ := Aside0.mk ((by rw [hg]; exact Nat.ne_of_gt (blk_lt BK124.out) : gb128 ≠ gb124)); have n8_ := Aside0.mk ((by rw [hg]; exact Nat.ne_of_lt (blk_lt BK125.out) : gb125 ≠ gb128)); have n9_ := Aside0.mk ((by rw [hg]; exact Nat.ne_of_gt (blk_lt BK125.out) : gb128 ≠ gb125)); clear BK124; clear BK125; clear HB; have BK124 := n0_; have BK125 := n1_; have HB := n2_; have BK128 := n3_; have GW128 := n4_; have GE128 := n5_; have NB124_128 := n6_; have NB128_124 := n7_; have NB125_128 := n8_; have NB128_125 := n9_; clear n0_ n1_ n2_ n3_ n4_ n5_ n6_ n7_ n8_ n9_; clear hb hbox hg; have hnb59 := NB128_124.out; have hnc59 := NB124_128.out; have hnb60 := NB128_125.out; have hnc60 := NB125_128.out; obtain ⟨hcz61_0, hcz61_1, hfz61_0, hfz61_1⟩ := blk2 BK128.out; have hnb62 := NB124_125.out; have hnc62 := NB125_124.out; obtain ⟨hcz63_0, hcz63_1, hfz63_0, hfz63_1⟩ := blk2 BK124.out) | (go_at_call 17; (with_reducible refine (spec_l1In.calls ((rd_T61 l1_4 x42_3).f0) 0 (wrap64 ((l0_1.length : Int) - 1)) false _ A33.out).mono ?_); rintro e w' ⟨rfl, ⟨nd, rfl⟩⟩; (try first | exact ⟨rfl, _, World.drewN_drewN _ _ _⟩ | exact ⟨rfl, _, Eq.trans (World.drewN_drewN _ _ _) (congrArg (World.drewN _) (Nat.add_assoc _ _ _))⟩))); try go_wp2_with (first | ((with_reducible refine gate_dst (N := 9) rfl ?_); (try (refine gate_guard (by rfl) ?_; dsimp only)); refine box_event ?hg (N := 9) ?hd (cs := #[.int .i64 0, .slice none 0 0]) (t := 61) ?hr ?_; (case hd => rfl); (case hg => rfl); (case hr => first | (go_simp; done) | (go_simp; rfl)); intro gb128 hg w58 hbox hb; have n0_ := Aside0.mk (bB BK124.out hb); have n1_ := Aside0.mk (bB BK125.out hb); have n2_ := Aside0.mk (below_step (by repeat (first | (with_reducible first | exact HB.out | apply below_alloc | apply pw_below_drewN | apply below_drew1 | refine below_set ?_ GE124.out | refine below_set ?_ GE125.out) | exact HB.out)) hb); have n3_ := Aside0.mk (hbox); have n4_ := Aside0.mk ((by rw [hg]; exact (below_size (by repeat (first | (with_reducible first | exact HB.out | apply below_alloc | apply pw_below_drewN | apply below_drew1 | refine below_set ?_ GE124.out | refine below_set ?_ GE125.out) | exact HB.out))) : w.heap.size ≤ gb128)); have n5_ := n4_; have n6_ := Aside0.mk ((by rw [hg]; exact Nat.ne_of_lt (blk_lt BK124.out) : gb124 ≠ gb128)); have n7_ := Aside0.mk ((by rw [hg]; exact Nat.ne_of_gt (blk_lt BK124.out) : gb128 ≠ gb124)); have n8_ := Aside0.mk ((by rw [hg]; exact Nat.ne_of_lt (blk_lt BK125.out) : gb125 ≠ gb128)); have n9_ := Aside0.mk ((by rw [hg]; exact Nat.ne_of_gt (blk_lt BK125.out) : gb128 ≠ gb125)); clear BK124; clear BK125; clear HB; have BK124 := n0_; have BK125 := n1_; have HB := n2_; have BK128 := n3_; have GW128 := n4_; have GE128 := n5_; have NB124_128 := n6_; have NB128_124 := n7_; have NB125_128 := n8_; have NB128_125 := n9_; clear n0_ n1_ n2_ n3_ n4_ n5_ n6_ n7_ n8_ n9_; clear hb hbox hg; have hnb59 := NB128_124.out; have hnc59 := NB124_128.out; have hnb60 := NB128_125.out; have hnc60 := NB125_128.out; obtain ⟨hcz61_0, hcz61_1, hfz61_0, hfz61_1⟩ := blk2 BK128.out; have hnb62 := NB124_125.out; have hnc62 := NB125_124.out; obtain ⟨hcz63_0, hcz63_1, hfz63_0, hfz63_1⟩ := blk2 BK124.out) | (go_at_call 17; (with_reducible refine (spec_l1In.calls ((rd_T61 l1_4 x42_3).f0) 0 (wrap64 ((l0_1.length : Int) - 1)) false _ A33.out).mono ?_); rintro e w' ⟨rfl, ⟨nd, rfl⟩⟩; (try first | exact ⟨rfl, _, World.drewN_drewN _ _ _⟩ | exact ⟨rfl, _, Eq.trans (World.drewN_drewN _ _ _) (congrArg (World.drewN _) (Nat.add_assoc _ _ _))⟩))))
   go_ret
   exact ⟨by first | rfl | (simp [errW_none, errW_some] <;> rfl) | (simp [*, errW_none, errW_some] <;> rfl), by repeat (first | (with_reducible first | exact HB.out | apply below_alloc | apply pw_below_drewN | apply below_drew1 | refine below_set ?_ GE124.out | refine below_set ?_ GE125.out | refine below_set ?_ GE128.out) | exact HB.out)⟩
 subst c34
 have H1 : (if 0 ≤ ((rd_T61 l1_4 x42_3).f0) then (if ((rd_T61 l1_4 x42_3).f0) < (l0_1.length : Int) then (if (((rd_T61 l1_4 x42_3).f1).length : Int) = ((rd_T48 l0_1 ((rd_T61 l1_4 x42_3).f0)).f0) then ((spec_l1All.f k3 ((rd_T61 l1_4 x42_3).f1) 0 (wrap64 (a2 - 1))).bind fun t131 => (if t131 = true then (spec_l12Ends.l0 k3 a2 l1_4 (l1_4.length : Int) (wrap64 (x42_3 + 1)) a0_0 l0_1) else (some false))) else (some false)) else (none)) else (none)) = some r := by rw [if_pos rfl] at H; exact H
 clear H
 have H := H1
 clear H1
 by_cases c35 : 0 ≤ ((rd_T61 l1_4 x42_3).f0)
 rotate_left
 · rw [if_neg c35] at H
   exact absurd H (by simp)
 rw [if_pos c35] at H
 have c35b0 : decide (0 ≤ ((rd_T61 l1_4 x42_3).f0)) = true := decide_eq_true c35
 clear c35
 by_cases c36 : ((rd_T61 l1_4 x42_3).f0) < (l0_1.length : Int)
 rotate_left
 · rw [if_neg c36] at H
   exact absurd H (by simp)
 rw [if_pos c36] at H
 have c36b0 : decide (((rd_T61 l1_4 x42_3).f0) < (l0_1.length : Int)) = true := decide_eq_true c36
 clear c36
 by_cases c37 : (((rd_T61 l1_4 x42_3).f1).length : Int) = ((rd_T48 l0_1 ((rd_T61 l1_4 x42_3).f0)).f0)
 rotate_left
 · rw [if_neg c37] at H
   have c37b0 : ((((rd_T61 l1_4 x42_3).f1).length : Int) == ((rd_T48 l0_1 ((rd_T61 l1_4 x42_3).f0)).f0)) = false := beq_eq_false_iff_ne.mpr c37
   have c37b1 : ((((rd_T61 l1_4 x42_3).f1).length : Int) != ((rd_T48 l0_1 ((rd_T61 l1_4 x42_3).f0)).f0)) = true := bne_iff_ne.mpr c37
   obtain rfl := Option.some.inj H
   have p127 : 0 ≤ (x42_3 : Int) := of_decide_eq_true (by first | (with_reducible assumption) | assumption)
   have q127 : x42_3 < (l1_4.length : Int) := of_decide_eq_true (by first | (with_reducible assumption) | assumption)
   obtain ⟨ad127, A127_1, c127_1, e127, hx127_0, hx127_1, hl127_1, hi127_1⟩ := at_T61 HR1_4.out x42_3 p127 q127
   cases e127
   replace hx127_0 := cB HB.out hx127_0
   replace hx127_1 := cB HB.out hx127_1
   have HR127_1 := Aside0.mk hi127_1
   have HC127_1 := Aside0.mk hl127_1
   clear hi127_1 hl127_1
   replace p127 := eq_true p127
   replace q127 := eq_true q127
   go_wp2_with (first | ((with_reducible refine gate_dst (N := 9) rfl ?_); (try (refine gate_guard (by rfl) ?_; dsimp only)); refine box_event ?hg (N := 9) ?hd (cs := #[.int .i64 0, .slice none 0 0]) (t := 61) ?hr ?_; (case hd => rfl); (case hg => rfl); (case hr => first | (go_simp; done) | (go_simp; rfl)); intro gb128 hg w52 hbox hb; have n0_ := Aside0.mk (bB BK124.out hb); have n1_ := Aside0.mk (bB BK125.out hb); have n2_ := Aside0.mk (below_step (by repeat (first | (with_reducible first | exact HB.out | apply below_alloc | apply pw_below_drewN | apply below_drew1 | refine below_set ?_ GE124.out | refine below_set ?_ GE125.out) | exact HB.out)) hb); have n3_ := Aside0.mk (hbox); have n4_ := Aside0.mk ((by rw [hg]; exact (below_size (by repeat (first | (with_reducible first | exact HB.out | apply below_alloc | apply pw_below_drewN | apply below_drew1 | refine below_set ?_ GE124.out | refine below_set ?_ GE125.out) | exact HB.out))) : w.heap.size ≤ gb128)); have n5_ := n4_; have n6_ := Aside0.mk ((by rw [hg]; exact Nat.ne_of_lt (blk_lt BK124.out) : gb124 ≠ gb128)); have n7_ := Aside0.mk ((by rw [hg]; exact Nat.ne_of_gt (blk_lt BK124.out) : gb128 ≠ gb124)); have n8_ := Aside0.mk ((by rw [hg]; exact Nat.ne_of_lt (blk_lt BK125.out) : gb125 ≠ gb128)); have n9_ := Aside0.mk ((by rw [hg]; exact Nat.ne_of_gt (blk_lt BK125.out) : gb128 ≠ gb125)); clear BK124; clear BK125; clear HB; have BK124 := n0_; have BK125 := n1_; have HB := n2_; have BK128 := n3_; have GW128 := n4_; have GE128 := n5_; have NB124_128 := n6_; have NB128_124 := n7_; have NB125_128 := n8_; have NB128_125 := n9_; clear n0_ n1_ n2_ n3_ n4_ n5_ n6_ n7_ n8_ n9_; clear hb hbox hg; have hnb53 := NB128_124.out; have hnc53 := NB124_128.out; have hnb54 := NB128_125.out; have hnc54 := NB125_128.out; obtain ⟨hcz55_0, hcz55_1, hfz55_0, hfz55_1⟩ := blk2 BK128.out; have hnb56 := NB124_125.out; have hnc56 := NB125_124.out; obtain ⟨hcz57_0, hcz57_1, hfz57_0, hfz57_1⟩ := blk2 BK124.out) | (go_at_call 17; (with_reducible refine (spec_l1In.calls ((rd_T61 l1_4 x42_3).f0) 0 (wrap64 ((l0_1.length : Int) - 1)) true _ A33.out).mono ?_); rintro e w' ⟨rfl, ⟨nd, rfl⟩⟩; (try first | exact ⟨rfl, _, World.drewN_drewN _ _ _⟩ | exact ⟨rfl, _, Eq.trans (World.drewN_drewN _ _ _) (congrArg (World.drewN _) (Nat.add_assoc _ _ _))⟩); have p130 : 0 ≤ (((rd_T61 l1_4 x42_3).f0) : Int) := of_decide_eq_true (by first | (with_reducible assumption) | assumption); have q130 : ((rd_T61 l1_4 x42_3).f0) < (l0_1.length : Int) := of_decide_eq_true (by first | (with_reducible assumption) | assumption); obtain ⟨ad130, A130_1, c130_1, A130_4, c130_4, e130, hx130_0, hx130_1, hx130_2, hx130_3, hx130_4, hl130_1, hi130_1, hl130_4, hi130_4⟩ := at_T48 HR0_1.out ((rd_T61 l1_4 x42_3).f0) p130 q130; cases e130; have hn130_0 : ad130.block ≠ gb128 := Nat.ne_of_lt (Nat.lt_of_lt_of_le (by have := World.block_lt_of_cell? _ _ hx130_0; first | rwa [add_block] at this | exact this) GW128.out); have hn130_1 : ad130.block ≠ gb128 := Nat.ne_of_lt (Nat.lt_of_lt_of_le (by have := World.block_lt_of_cell? _ _ hx130_0; first | rwa [add_block] at this | exact this) GW128.out); replace hx130_0 := cB HB.out hx130_0; replace hx130_1 := cB HB.out hx130_1; replace hx130_2 := cB HB.out hx130_2; replace hx130_3 := cB HB.out hx130_3; replace hx130_4 := cB HB.out hx130_4; have HR130_1 := Aside0.mk hi130_1; have HC130_1 := Aside0.mk hl130_1; clear hi130_1 hl130_1; have HR130_4 := Aside0.mk hi130_4; have HC130_4 := Aside0.mk hl130_4; clear hi130_4 hl130_4; replace hx130_0 := (cell_far (p := ⟨gb128, 0, none⟩) (by first | (rw [add_block]; exact hn130_0) | (show (Addr.add _ _).block ≠ _; rw [add_block]; exact hn130_0) | exact hn130_0) (.int .i64 ((rd_T61 l1_4 x42_3).f0))).trans hx130_0; replace hx130_1 := (cell_far (p := ⟨gb128, 0, none⟩) (by first | (rw [add_block]; exact hn130_0) | (show (Addr.add _ _).block ≠ _; rw [add_block]; exact hn130_0) | exact hn130_0) (.int .i64 ((rd_T61 l1_4 x42_3).f0))).trans hx130_1; replace hx130_2 := (cell_far (p := ⟨gb128, 0, none⟩) (by first | (rw [add_block]; exact hn130_0) | (show (Addr.add _ _).block ≠ _; rw [add_block]; exact hn130_0) | exact hn130_0) (.int .i64 ((rd_T61 l1_4 x42_3).f0))).trans hx130_2; replace hx130_3 := (cell_far (p := ⟨gb128, 0, none⟩) (by first | (rw [add_block]; exact hn130_0) | (show (Addr.add _ _).block ≠ _; rw [add_block]; exact hn130_0) | exact hn130_0) (.int .i64 ((rd_T61 l1_4 x42_3).f0))).trans hx130_3; replace hx130_4 := (cell_far (p := ⟨gb128, 0, none⟩) (by first | (rw [add_block]; exact hn130_0) | (show (Addr.add _ _).block ≠ _; rw [add_block]; exact hn130_0) | exact hn130_0) (.int .i64 ((rd_T61 l1_4 x42_3).f0))).trans hx130_4; replace hx130_0 := (cell_far (p := ⟨gb128, 1, none⟩) (by first | (rw [add_block]; exact hn130_1) | (show (Addr.add _ _).block ≠ _; rw [add_block]; exact hn130_1) | exact hn130_1) (.slice A127_1 ((rd_T61 l1_4 x42_3).f1).length c127_1)).trans hx130_0; replace hx130_1 := (cell_far (p := ⟨gb128, 1, none⟩) (by first | (rw [add_block]; exact hn130_1) | (show (Addr.add _ _).block ≠ _; rw [add_block]; exact hn130_1) | exact hn130_1) (.slice A127_1 ((rd_T61 l1_4 x42_3).f1).length c127_1)).trans hx130_1; replace hx130_2 := (cell_far (p := ⟨gb128, 1, none⟩) (by first | (rw [add_block]; exact hn130_1) | (show (Addr.add _ _).block ≠ _; rw [add_block]; exact hn130_1) | exact hn130_1) (.slice A127_1 ((rd_T61 l1_4 x42_3).f1).length c127_1)).trans hx130_2; replace hx130_3 := (cell_far (p := ⟨gb128, 1, none⟩) (by first | (rw [add_block]; exact hn130_1) | (show (Addr.add _ _).block ≠ _; rw [add_block]; exact hn130_1) | exact hn130_1) (.slice A127_1 ((rd_T61 l1_4 x42_3).f1).length c127_1)).trans hx130_3; replace hx130_4 := (cell_far (p := ⟨gb128, 1, none⟩) (by first | (rw [add_block]; exact hn130_1) | (show (Addr.add _ _).block ≠ _; rw [add_block]; exact hn130_1) | exact hn130_1) (.slice A127_1 ((rd_T61 l1_4 x42_3).f1).length c127_1)).trans hx130_4; (try have hy130_0 := fun (n_ : Nat) => (show ((((w52.drewN n_).setCell ⟨gb128, 0, none⟩ (.int .i64 ((rd_T61 l1_4 x42_3).f0))).setCell ⟨gb128, 1, none⟩ (.slice A127_1 ((rd_T61 l1_4 x42_3).f1).length c127_1))).cell? _ = some _ from hx130_0)); (try have hy130_1 := fun (n_ : Nat) => (show ((((w52.drewN n_).setCell ⟨gb128, 0, none⟩ (.int .i64 ((rd_T61 l1_4 x42_3).f0))).setCell ⟨gb128, 1, none⟩ (.slice A127_1 ((rd_T61 l1_4 x42_3).f1).length c127_1))).cell? _ = some _ from hx130_1)); (try have hy130_2 := fun (n_ : Nat) => (show ((((w52.drewN n_).setCell ⟨gb128, 0, none⟩ (.int .i64 ((rd_T61 l1_4 x42_3).f0))).setCell ⟨gb128, 1, none⟩ (.slice A127_1 ((rd_T61 l1_4 x42_3).f1).length c127_1))).cell? _ = some _ from hx130_2)); (try have hy130_3 := fun (n_ : Nat) => (show ((((w52.drewN n_).setCell ⟨gb128, 0, none⟩ (.int .i64 ((rd_T61 l1_4 x42_3).f0))).setCell ⟨gb128, 1, none⟩ (.slice A127_1 ((rd_T61 l1_4 x42_3).f1).length c127_1))).cell? _ = some _ from hx130_3)); (try have hy130_4 := fun (n_ : Nat) => (show ((((w52.drewN n_).setCell ⟨gb128, 0, none⟩ (.int .i64 ((rd_T61 l1_4 x42_3).f0))).setCell ⟨gb128, 1, none⟩ (.slice A127_1 ((rd_T61 l1_4 x42_3).f1).length c127_1))).cell? _ = some _ from hx130_4)); clear hn130_0; clear hn130_1; replace p130 := eq_true p130; replace q130 := eq_true q130))
   have p130 : 0 ≤ (((rd_T61 l1_4 x42_3).f0) : Int) := of_decide_eq_true (by first | (with_reducible assumption) | assumption); have q130 : ((rd_T61 l1_4 x42_3).f0) < (l0_1.length : Int) := of_decide_eq_true (by first | (with_reducible assumption) | assumption); obtain ⟨ad130, A130_1, c130_1, A130_4, c130_4, e130, hx130_0, hx130_1, hx130_2, hx130_3, hx130_4, hl130_1, hi130_1, hl130_4, hi130_4⟩ := at_T48 HR0_1.out ((rd_T61 l1_4 x42_3).f0) p130 q130; cases e130; have hn130_0 : ad130.block ≠ gb128 := Nat.ne_of_lt (Nat.lt_of_lt_of_le (by have := World.block_lt_of_cell? _ _ hx130_0; first | rwa [add_block] at this | exact this) GW128.out); have hn130_1 : ad130.block ≠ gb128 := Nat.ne_of_lt (Nat.lt_of_lt_of_le (by have := World.block_lt_of_cell? _ _ hx130_0; first | rwa [add_block] at this | exact this) GW128.out); replace hx130_0 := cB HB.out hx130_0; replace hx130_1 := cB HB.out hx130_1; replace hx130_2 := cB HB.out hx130_2; replace hx130_3 := cB HB.out hx130_3; replace hx130_4 := cB HB.out hx130_4; have HR130_1 := Aside0.mk hi130_1; have HC130_1 := Aside0.mk hl130_1; clear hi130_1 hl130_1; have HR130_4 := Aside0.mk hi130_4; have HC130_4 := Aside0.mk hl130_4; clear hi130_4 hl130_4; replace hx130_0 := (cell_far (p := ⟨gb128, 0, none⟩) (by first | (rw [add_block]; exact hn130_0) | (show (Addr.add _ _).block ≠ _; rw [add_block]; exact hn130_0) | exact hn130_0) (.int .i64 ((rd_T61 l1_4 x42_3).f0))).trans hx130_0; replace hx130_1 := (cell_far (p := ⟨gb128, 0, none⟩) (by first | (rw [add_block]; exact hn130_0) | (show (Addr.add _ _).block ≠ _; rw [add_block]; exact hn130_0) | exact hn130_0) (.int .i64 ((rd_T61 l1_4 x42_3).f0))).trans hx130_1; replace hx130_2 := (cell_far (p := ⟨gb128, 0, none⟩) (by first | (rw [add_block]; exact hn130_0) | (show (Addr.add _ _).block ≠ _; rw [add_block]; exact hn130_0) | exact hn130_0) (.int .i64 ((rd_T61 l1_4 x42_3).f0))).trans hx130_2; replace hx130_3 := (cell_far (p := ⟨gb128, 0, none⟩) (by first | (rw [add_block]; exact hn130_0) | (show (Addr.add _ _).block ≠ _; rw [add_block]; exact hn130_0) | exact hn130_0) (.int .i64 ((rd_T61 l1_4 x42_3).f0))).trans hx130_3; replace hx130_4 := (cell_far (p := ⟨gb128, 0, none⟩) (by first | (rw [add_block]; exact hn130_0) | (show (Addr.add _ _).block ≠ _; rw [add_block]; exact hn130_0) | exact hn130_0) (.int .i64 ((rd_T61 l1_4 x42_3).f0))).trans hx130_4; replace hx130_0 := (cell_far (p := ⟨gb128, 1, none⟩) (by first | (rw [add_block]; exact hn130_1) | (show (Addr.add _ _).block ≠ _; rw [add_block]; exact hn130_1) | exact hn130_1) (.slice A127_1 ((rd_T61 l1_4 x42_3).f1).length c127_1)).trans hx130_0; replace hx130_1 := (cell_far (p := ⟨gb128, 1, none⟩) (by first | (rw [add_block]; exact hn130_1) | (show (Addr.add _ _).block ≠ _; rw [add_block]; exact hn130_1) | exact hn130_1) (.slice A127_1 ((rd_T61 l1_4 x42_3).f1).length c127_1)).trans hx130_1; replace hx130_2 := (cell_far (p := ⟨gb128, 1, none⟩) (by first | (rw [add_block]; exact hn130_1) | (show (Addr.add _ _).block ≠ _; rw [add_block]; exact hn130_1) | exact hn130_1) (.slice A127_1 ((rd_T61 l1_4 x42_3).f1).length c127_1)).trans hx130_2; replace hx130_3 := (cell_far (p := ⟨gb128, 1, none⟩) (by first | (rw [add_block]; exact hn130_1) | (show (Addr.add _ _).block ≠ _; rw [add_block]; exact hn130_1) | exact hn130_1) (.slice A127_1 ((rd_T61 l1_4 x42_3).f1).length c127_1)).trans hx130_3; replace hx130_4 := (cell_far (p := ⟨gb128, 1, none⟩) (by first | (rw [add_block]; exact hn130_1) | (show (Addr.add _ _).block ≠ _; rw [add_block]; exact hn130_1) | exact hn130_1) (.slice A127_1 ((rd_T61 l1_4 x42_3).f1).length c127_1)).trans hx130_4; (try have hy130_0 := fun (n_ : Nat) => (show ((((w52.drewN n_).setCell ⟨gb128, 0, none⟩ (.int .i64 ((rd_T61 l1_4 x42_3).f0))).setCell ⟨gb128, 1, none⟩ (.slice A127_1 ((rd_T61 l1_4 x42_3).f1).length c127_1))).cell? _ = some _ from hx130_0)); (try have hy130_1 := fun (n_ : Nat) => (show ((((w52.drewN n_).setCell ⟨gb128, 0, none⟩ (.int .i64 ((rd_T61 l1_4 x42_3).f0))).setCell ⟨gb128, 1, none⟩ (.slice A127_1 ((rd_T61 l1_4 x42_3).f1).length c127_1))).cell? _ = some _ from hx130_1)); (try have hy130_2 := fun (n_ : Nat) => (show ((((w52.drewN n_).setCell ⟨gb128, 0, none⟩ (.int .i64 ((rd_T61 l1_4 x42_3).f0))).setCell ⟨gb128, 1, none⟩ (.slice A127_1 ((rd_T61 l1_4 x42_3).f1).length c127_1))).cell? _ = some _ from hx130_2)); (try have hy130_3 := fun (n_ : Nat) => (show ((((w52.drewN n_).setCell ⟨gb128, 0, none⟩ (.int .i64 ((rd_T61 l1_4 x42_3).f0))).setCell ⟨gb128, 1, none⟩ (.slice A127_1 ((rd_T61 l1_4 x42_3).f1).length c127_1))).cell? _ = some _ from hx130_3)); (try have hy130_4 := fun (n_ : Nat) => (show ((((w52.drewN n_).setCell ⟨gb128, 0, none⟩ (.int .i64 ((rd_T61 l1_4 x42_3).f0))).setCell ⟨gb128, 1, none⟩ (.slice A127_1 ((rd_T61 l1_4 x42_3).f1).length c127_1))).cell? _ = some _ from hx130_4)); clear hn130_0; clear hn130_1; replace p130 := eq_true p130; replace q130 := eq_true q130
   repeat (go_quiet (first | ((with_reducible refine gate_dst (N := 9) rfl ?_); (try (refine gate_guard (by rfl) ?_; dsimp only)); refine box_event ?hg (N := 9) ?hd (cs := #[.int .i64 0, .slice none 0 0]) (t := 61) ?hr ?_; (case hd => rfl); (case hg => rfl); (case hr => first | (go_simp; done) | (go_simp; rfl)); intro gb128 hg w52 hbox hb; have n0_ := Aside0.mk (bB BK124.out hb); have n1_ := Aside0.mk (bB BK125.out hb); have n2_ := Aside0.mk (below_step (by repeat (first | (with_reducible first | exact HB.out | apply below_alloc | apply pw_below_drewN | apply below_drew1 | refine below_set ?_ GE124.out | refine below_set ?_ GE125.out) | exact HB.out)) hb); have n3_ := Aside0.mk (hbox); have n4_ := Aside0.mk ((by rw [hg]; exact (below_size (by repeat (first | (with_reducible first | exact HB.out | apply below_alloc | apply pw_below_drewN | apply below_drew1 | refine below_set ?_ GE124.out | refine below_set ?_ GE125.out) | exact HB.out))) : w.heap.size ≤ gb128)); have n5_ := n4_; have n6_ := Aside0.mk ((by rw [hg]; exact Nat.ne_of_lt (blk_lt BK124.out) : gb124 ≠ gb128)); have n7_ := Aside0.mk ((by rw [hg]; exact Nat.ne_of_gt (blk_lt BK124.out) : gb128 ≠ gb124)); have n8_ := Aside0.mk ((by rw [hg]; exact Nat.ne_of_lt (blk_lt BK125.out) : gb125 ≠ gb128)); have n9_ := Aside0.mk ((by rw [hg]; exact Nat.ne_of_gt (blk_lt BK125.out) : gb128 ≠ gb125)); clear BK124; clear BK125; clear HB; have BK124 := n0_; have BK125 := n1_; have HB := n2_; have BK128 := n3_; have GW128 := n4_; have GE128 := n5_; have NB124_128 := n6_; have NB128_124 := n7_; have NB125_128 := n8_; have NB128_125 := n9_; clear n0_ n1_ n2_ n3_ n4_ n5_ n6_ n7_ n8_ n9_; clear hb hbox hg; have hnb53 := NB128_124.out; have hnc53 := NB124_128.out; have hnb54 := NB128_125.out; have hnc54 := NB125_128.out; obtain ⟨hcz55_0, hcz55_1, hfz55_0, hfz55_1⟩ := blk2 BK128.out; have hnb56 := NB124_125.out; have hnc56 := NB125_124.out; obtain ⟨hcz57_0, hcz57_1, hfz57_0, hfz57_1⟩ := blk2 BK124.out) | (go_at_call 17; (with_reducible refine (spec_l1In.calls ((rd_T61 l1_4 x42_3).f0) 0 (wrap64 ((l0_1.length : Int) - 1)) true _ A33.out).mono ?_); rintro e w' ⟨rfl, ⟨nd, rfl⟩⟩; (try first | exact ⟨rfl, _, World.drewN_drewN _ _ _⟩ | exact ⟨rfl, _, Eq.trans (World.drewN_drewN _ _ _) (congrArg (World.drewN _) (Nat.add_assoc _ _ _))⟩))); try go_wp2_with (first | ((with_reducible refine gate_dst (N := 9) rfl ?_); (try (refine gate_guard (by rfl) ?_; dsimp only)); refine box_event ?hg (N := 9) ?hd (cs := #[.int .i64 0, .slice none 0 0]) (t := 61) ?hr ?_; (case hd => rfl); (case hg => rfl); (case hr => first | (go_simp; done) | (go_simp; rfl)); intro gb128 hg w52 hbox hb; have n0_ := Aside0.mk (bB BK124.out hb); have n1_ := Aside0.mk (bB BK125.out hb); have n2_ := Aside0.mk (below_step (by repeat (first | (with_reducible first | exact HB.out | apply below_alloc | apply pw_below_drewN | apply below_drew1 | refine below_set ?_ GE124.out | refine below_set ?_ GE125.out) | exact HB.out)) hb); have n3_ := Aside0.mk (hbox); have n4_ := Aside0.mk ((by rw [hg]; exact (below_size (by repeat (first | (with_reducible first | exact HB.out | apply below_alloc | apply pw_below_drewN | apply below_drew1 | refine below_set ?_ GE124.out | refine below_set ?_ GE125.out) | exact HB.out))) : w.heap.size ≤ gb128)); have n5_ := n4_; have n6_ := Aside0.mk ((by rw [hg]; exact Nat.ne_of_lt (blk_lt BK124.out) : gb124 ≠ gb128)); have n7_ := Aside0.mk ((by rw [hg]; exact Nat.ne_of_gt (blk_lt BK124.out) : gb128 ≠ gb124)); have n8_ := Aside0.mk ((by rw [hg]; exact Nat.ne_of_lt (blk_lt BK125.out) : gb125 ≠ gb128)); have n9_ := Aside0.mk ((by rw [hg]; exact Nat.ne_of_gt (blk_lt BK125.out) : gb128 ≠ gb125)); clear BK124; clear BK125; clear HB; have BK124 := n0_; have BK125 := n1_; have HB := n2_; have BK128 := n3_; have GW128 := n4_; have GE128 := n5_; have NB124_128 := n6_; have NB128_124 := n7_; have NB125_128 := n8_; have NB128_125 := n9_; clear n0_ n1_ n2_ n3_ n4_ n5_ n6_ n7_ n8_ n9_; clear hb hbox hg; have hnb53 := NB128_124.out; have hnc53 := NB124_128.out; have hnb54 := NB128_125.out; have hnc54 := NB125_128.out; obtain ⟨hcz55_0, hcz55_1, hfz55_0, hfz55_1⟩ := blk2 BK128.out; have hnb56 := NB124_125.out; have hnc56 := NB125_124.out; obtain ⟨hcz57_0, hcz57_1, hfz57_0, hfz57_1⟩ := blk2 BK124.out) | (go_at_call 17; (with_reducible refine (spec_l1In.calls ((rd_T61 l1_4 x42_3).f0) 0 (wrap64 ((l0_1.length : Int) - 1)) true _ A33.out).mono ?_); rintro e w' ⟨rfl, ⟨nd, rfl⟩⟩; (try first | exact ⟨rfl, _, World.drewN_drewN _ _ _⟩ | exact ⟨rfl, _, Eq.trans (World.drewN_drewN _ _ _) (congrArg (World.drewN _) (Nat.add_assoc _ _ _))⟩))))
   go_ret
   exact ⟨by first | rfl | (simp [errW_none, errW_some] <;> rfl) | (simp [*, errW_none, errW_some] <;> rfl), by repeat (first | (with_reducible first | exact HB.out | apply below_alloc | apply pw_below_drewN | apply below_drew1 | refine below_set ?_ GE124.out | refine below_set ?_ GE125.out | refine below_set ?_ GE128.out) | exact HB.out)⟩
 rw [if_pos c37] at H
 have c37b0 : ((((rd_T61 l1_4 x42_3).f1).length : Int) == ((rd_T48 l0_1 ((rd_T61 l1_4 x42_3).f0)).f0)) = true := beq_iff_eq.mpr c37
 have c37b1 : ((((rd_T61 l1_4 x42_3).f1).length : Int) != ((rd_T48 l0_1 ((rd_T61 l1_4 x42_3).f0)).f0)) = false := bne_eq_false_iff_eq.mpr c37
 clear c37
 replace H := Option.bind_eq_some_iff.mp H
 obtain ⟨t131, A380, H⟩ := H
 replace H : (if t131 = true then (spec_l12Ends.l0 k3 a2 l1_4 (l1_4.length : Int) (wrap64 (x42_3 + 1)) a0_0 l0_1) else (some false)) = some r := H
 have A38 := Aside0.mk A380
 clear A380
 by_cases c39 : t131 = true
 · subst c39
   have H1 : (spec_l12Ends.l0 k3 a2 l1_4 (l1_4.length : Int) (wrap64 (x42_3 + 1)) a0_0 l0_1) = some r := by rw [if_pos rfl] at H; exact H
   clear H
   have H := H1
   clear H1
   have H' := Aside0.mk H
   clear H
   have p127 : 0 ≤ (x42_3 : Int) := of_decide_eq_true (by first | (with_reducible assumption) | assumption)
   have q127 : x42_3 < (l1_4.length : Int) := of_decide_eq_true (by first | (with_reducible assumption) | assumption)
   obtain ⟨ad127, A127_1, c127_1, e127, hx127_0, hx127_1, hl127_1, hi127_1⟩ := at_T61 HR1_4.out x42_3 p127 q127
   cases e127
   replace hx127_0 := cB HB.out hx127_0
   replace hx127_1 := cB HB.out hx127_1
   have HR127_1 := Aside0.mk hi127_1
   have HC127_1 := Aside0.mk hl127_1
   clear hi127_1 hl127_1
   replace p127 := eq_true p127
   replace q127 := eq_true q127
   go_wp2_with (first | ((with_reducible refine gate_dst (N := 9) rfl ?_); (try (refine gate_guard (by rfl) ?_; dsimp only)); refine box_event ?hg (N := 9) ?hd (cs := #[.int .i64 0, .slice none 0 0]) (t := 61) ?hr ?_; (case hd => rfl); (case hg => rfl); (case hr => first | (go_simp; done) | (go_simp; rfl)); intro gb128 hg w40 hbox hb; have n0_ := Aside0.mk (bB BK124.out hb); have n1_ := Aside0.mk (bB BK125.out hb); have n2_ := Aside0.mk (below_step (by repeat (first | (with_reducible first | exact HB.out | apply below_alloc | apply pw_below_drewN | apply below_drew1 | refine below_set ?_ GE124.out | refine below_set ?_ GE125.out) | exact HB.out)) hb); have n3_ := Aside0.mk (hbox); have n4_ := Aside0.mk ((by rw [hg]; exact (below_size (by repeat (first | (with_reducible first | exact HB.out | apply below_alloc | apply pw_below_drewN | apply below_drew1 | refine below_set ?_ GE124.out | refine below_set ?_ GE125.out) | exact HB.out))) : w.heap.size ≤ gb128)); have n5_ := n4_; have n6_ := Aside0.mk ((by rw [hg]; exact Nat.ne_of_lt (blk_lt BK124.out) : gb124 ≠ gb128)); have n7_ := Aside0.mk ((by rw [hg]; exact Nat.ne_of_gt (blk_lt BK124.out) : gb128 ≠ gb124)); have n8_ := Aside0.mk ((by rw [hg]; exact Nat.ne_of_lt (blk_lt BK125.out) : gb125 ≠ gb128)); have n9_ := Aside0.mk ((by rw [hg]; exact Nat.ne_of_gt (blk_lt BK125.out) : gb128 ≠ gb125)); clear BK124; clear BK125; clear HB; have BK124 := n0_; have BK125 := n1_; have HB := n2_; have BK128 := n3_; have GW128 := n4_; have GE128 := n5_; have NB124_128 := n6_; have NB128_124 := n7_; have NB125_128 := n8_; have NB128_125 := n9_; clear n0_ n1_ n2_ n3_ n4_ n5_ n6_ n7_ n8_ n9_; clear hb hbox hg; have hnb41 := NB128_124.out; have hnc41 := NB124_128.out; have hnb42 := NB128_125.out; have hnc42 := NB125_128.out; obtain ⟨hcz43_0, hcz43_1, hfz43_0, hfz43_1⟩ := blk2 BK128.out; have hnb44 := NB124_125.out; have hnc44 := NB125_124.out; obtain ⟨hcz45_0, hcz45_1, hfz45_0, hfz45_1⟩ := blk2 BK124.out) | (go_at_call 17; (with_reducible refine (spec_l1In.calls ((rd_T61 l1_4 x42_3).f0) 0 (wrap64 ((l0_1.length : Int) - 1)) true _ A33.out).mono ?_); rintro e w' ⟨rfl, ⟨nd, rfl⟩⟩; (try first | exact ⟨rfl, _, World.drewN_drewN _ _ _⟩ | exact ⟨rfl, _, Eq.trans (World.drewN_drewN _ _ _) (congrArg (World.drewN _) (Nat.add_assoc _ _ _))⟩); have p130 : 0 ≤ (((rd_T61 l1_4 x42_3).f0) : Int) := of_decide_eq_true (by first | (with_reducible assumption) | assumption); have q130 : ((rd_T61 l1_4 x42_3).f0) < (l0_1.length : Int) := of_decide_eq_true (by first | (with_reducible assumption) | assumption); obtain ⟨ad130, A130_1, c130_1, A130_4, c130_4, e130, hx130_0, hx130_1, hx130_2, hx130_3, hx130_4, hl130_1, hi130_1, hl130_4, hi130_4⟩ := at_T48 HR0_1.out ((rd_T61 l1_4 x42_3).f0) p130 q130; cases e130; have hn130_0 : ad130.block ≠ gb128 := Nat.ne_of_lt (Nat.lt_of_lt_of_le (by have := World.block_lt_of_cell? _ _ hx130_0; first | rwa [add_block] at this | exact this) GW128.out); have hn130_1 : ad130.block ≠ gb128 := Nat.ne_of_lt (Nat.lt_of_lt_of_le (by have := World.block_lt_of_cell? _ _ hx130_0; first | rwa [add_block] at this | exact this) GW128.out); replace hx130_0 := cB HB.out hx130_0; replace hx130_1 := cB HB.out hx130_1; replace hx130_2 := cB HB.out hx130_2; replace hx130_3 := cB HB.out hx130_3; replace hx130_4 := cB HB.out hx130_4; have HR130_1 := Aside0.mk hi130_1; have HC130_1 := Aside0.mk hl130_1; clear hi130_1 hl130_1; have HR130_4 := Aside0.mk hi130_4; have HC130_4 := Aside0.mk hl130_4; clear hi130_4 hl130_4; replace hx130_0 := (cell_far (p := ⟨gb128, 0, none⟩) (by first | (rw [add_block]; exact hn130_0) | (show (Addr.add _ _).block ≠ _; rw [add_block]; exact hn130_0) | exact hn130_0) (.int .i64 ((rd_T61 l1_4 x42_3).f0))).trans hx130_0; replace hx130_1 := (cell_far (p := ⟨gb128, 0, none⟩) (by first | (rw [add_block]; exact hn130_0) | (show (Addr.add _ _).block ≠ _; rw [add_block]; exact hn130_0) | exact hn130_0) (.int .i64 ((rd_T61 l1_4 x42_3).f0))).trans hx130_1; replace hx130_2 := (cell_far (p := ⟨gb128, 0, none⟩) (by first | (rw [add_block]; exact hn130_0) | (show (Addr.add _ _).block ≠ _; rw [add_block]; exact hn130_0) | exact hn130_0) (.int .i64 ((rd_T61 l1_4 x42_3).f0))).trans hx130_2; replace hx130_3 := (cell_far (p := ⟨gb128, 0, none⟩) (by first | (rw [add_block]; exact hn130_0) | (show (Addr.add _ _).block ≠ _; rw [add_block]; exact hn130_0) | exact hn130_0) (.int .i64 ((rd_T61 l1_4 x42_3).f0))).trans hx130_3; replace hx130_4 := (cell_far (p := ⟨gb128, 0, none⟩) (by first | (rw [add_block]; exact hn130_0) | (show (Addr.add _ _).block ≠ _; rw [add_block]; exact hn130_0) | exact hn130_0) (.int .i64 ((rd_T61 l1_4 x42_3).f0))).trans hx130_4; replace hx130_0 := (cell_far (p := ⟨gb128, 1, none⟩) (by first | (rw [add_block]; exact hn130_1) | (show (Addr.add _ _).block ≠ _; rw [add_block]; exact hn130_1) | exact hn130_1) (.slice A127_1 ((rd_T61 l1_4 x42_3).f1).length c127_1)).trans hx130_0; replace hx130_1 := (cell_far (p := ⟨gb128, 1, none⟩) (by first | (rw [add_block]; exact hn130_1) | (show (Addr.add _ _).block ≠ _; rw [add_block]; exact hn130_1) | exact hn130_1) (.slice A127_1 ((rd_T61 l1_4 x42_3).f1).length c127_1)).trans hx130_1; replace hx130_2 := (cell_far (p := ⟨gb128, 1, none⟩) (by first | (rw [add_block]; exact hn130_1) | (show (Addr.add _ _).block ≠ _; rw [add_block]; exact hn130_1) | exact hn130_1) (.slice A127_1 ((rd_T61 l1_4 x42_3).f1).length c127_1)).trans hx130_2; replace hx130_3 := (cell_far (p := ⟨gb128, 1, none⟩) (by first | (rw [add_block]; exact hn130_1) | (show (Addr.add _ _).block ≠ _; rw [add_block]; exact hn130_1) | exact hn130_1) (.slice A127_1 ((rd_T61 l1_4 x42_3).f1).length c127_1)).trans hx130_3; replace hx130_4 := (cell_far (p := ⟨gb128, 1, none⟩) (by first | (rw [add_block]; exact hn130_1) | (show (Addr.add _ _).block ≠ _; rw [add_block]; exact hn130_1) | exact hn130_1) (.slice A127_1 ((rd_T61 l1_4 x42_3).f1).length c127_1)).trans hx130_4; (try have hy130_0 := fun (n_ : Nat) => (show ((((w40.drewN n_).setCell ⟨gb128, 0, none⟩ (.int .i64 ((rd_T61 l1_4 x42_3).f0))).setCell ⟨gb128, 1, none⟩ (.slice A127_1 ((rd_T61 l1_4 x42_3).f1).length c127_1))).cell? _ = some _ from hx130_0)); (try have hy130_1 := fun (n_ : Nat) => (show ((((w40.drewN n_).setCell ⟨gb128, 0, none⟩ (.int .i64 ((rd_T61 l1_4 x42_3).f0))).setCell ⟨gb128, 1, none⟩ (.slice A127_1 ((rd_T61 l1_4 x42_3).f1).length c127_1))).cell? _ = some _ from hx130_1)); (try have hy130_2 := fun (n_ : Nat) => (show ((((w40.drewN n_).setCell ⟨gb128, 0, none⟩ (.int .i64 ((rd_T61 l1_4 x42_3).f0))).setCell ⟨gb128, 1, none⟩ (.slice A127_1 ((rd_T61 l1_4 x42_3).f1).length c127_1))).cell? _ = some _ from hx130_2)); (try have hy130_3 := fun (n_ : Nat) => (show ((((w40.drewN n_).setCell ⟨gb128, 0, none⟩ (.int .i64 ((rd_T61 l1_4 x42_3).f0))).setCell ⟨gb128, 1, none⟩ (.slice A127_1 ((rd_T61 l1_4 x42_3).f1).length c127_1))).cell? _ = some _ from hx130_3)); (try have hy130_4 := fun (n_ : Nat) => (show ((((w40.drewN n_).setCell ⟨gb128, 0, none⟩ (.int .i64 ((rd_T61 l1_4 x42_3).f0))).setCell ⟨gb128, 1, none⟩ (.slice A127_1 ((rd_T61 l1_4 x42_3).f1).length c127_1))).cell? _ = some _ from hx130_4)); clear hn130_0; clear hn130_1; replace p130 := eq_true p130; replace q130 := eq_true q130) | (go_at_call 20; (with_reducible refine (spec_l1All.calls k3 _ _ ((rd_T61 l1_4 x42_3).f1) 0 (wrap64 (a2 - 1)) true _ ?side1 ?side2 A38.out).mono ?_); (case side1 => exact Kd.C_below HR127_1.out (by repeat (first | (with_reducible first | exact HB.out | apply below_alloc | apply pw_below_drewN | apply below_drew1 | refine below_set ?_ GE124.out | refine below_set ?_ GE125.out | refine below_set ?_ GE128.out) | exact HB.out))); (case side2 => exact HC127_1.out); rintro e w' ⟨rfl, ⟨nd, rfl⟩⟩; (try first | exact ⟨rfl, _, World.drewN_drewN _ _ _⟩ | exact ⟨rfl, _, Eq.trans (World.drewN_drewN _ _ _) (congrArg (World.drewN _) (Nat.add_assoc _ _ _))⟩)))
   have p130 : 0 ≤ (((rd_T61 l1_4 x42_3).f0) : Int) := of_decide_eq_true (by first | (with_reducible assumption) | assumption); have q130 : ((rd_T61 l1_4 x42_3).f0) < (l0_1.length : Int) := of_decide_eq_true (by first | (with_reducible assumption) | assumption); obtain ⟨ad130, A130_1, c130_1, A130_4, c130_4, e130, hx130_0, hx130_1, hx130_2, hx130_3, hx130_4, hl130_1, hi130_1, hl130_4, hi130_4⟩ := at_T48 HR0_1.out ((rd_T61 l1_4 x42_3).f0) p130 q130; cases e130; have hn130_0 : ad130.block ≠ gb128 := Nat.ne_of_lt (Nat.lt_of_lt_of_le (by have := World.block_lt_of_cell? _ _ hx130_0; first | rwa [add_block] at this | exact this) GW128.out); have hn130_1 : ad130.block ≠ gb128 := Nat.ne_of_lt (Nat.lt_of_lt_of_le (by have := World.block_lt_of_cell? _ _ hx130_0; first | rwa [add_block] at this | exact this) GW128.out); replace hx130_0 := cB HB.out hx130_0; replace hx130_1 := cB HB.out hx130_1; replace hx130_2 := cB HB.out hx130_2; replace hx130_3 := cB HB.out hx130_3; replace hx130_4 := cB HB.out hx130_4; have HR130_1 := Aside0.mk hi130_1; have HC130_1 := Aside0.mk hl130_1; clear hi130_1 hl130_1; have HR130_4 := Aside0.mk hi130_4; have HC130_4 := Aside0.mk hl130_4; clear hi130_4 hl130_4; replace hx130_0 := (cell_far (p := ⟨gb128, 0, none⟩) (by first | (rw [add_block]; exact hn130_0) | (show (Addr.add _ _).block ≠ _; rw [add_block]; exact hn130_0) | exact hn130_0) (.int .i64 ((rd_T61 l1_4 x42_3).f0))).trans hx130_0; replace hx130_1 := (cell_far (p := ⟨gb128, 0, none⟩) (by first | (rw [add_block]; exact hn130_0) | (show (Addr.add _ _).block ≠ _; rw [add_block]; exact hn130_0) | exact hn130_0) (.int .i64 ((rd_T61 l1_4 x42_3).f0))).trans hx130_1; replace hx130_2 := (cell_far (p := ⟨gb128, 0, none⟩) (by first | (rw [add_block]; exact hn130_0) | (show (Addr.add _ _).block ≠ _; rw [add_block]; exact hn130_0) | exact hn130_0) (.int .i64 ((rd_T61 l1_4 x42_3).f0))).trans hx130_2; replace hx130_3 := (cell_far (p := ⟨gb128, 0, none⟩) (by first | (rw [add_block]; exact hn130_0) | (show (Addr.add _ _).block ≠ _; rw [add_block]; exact hn130_0) | exact hn130_0) (.int .i64 ((rd_T61 l1_4 x42_3).f0))).trans hx130_3; replace hx130_4 := (cell_far (p := ⟨gb128, 0, none⟩) (by first | (rw [add_block]; exact hn130_0) | (show (Addr.add _ _).block ≠ _; rw [add_block]; exact hn130_0) | exact hn130_0) (.int .i64 ((rd_T61 l1_4 x42_3).f0))).trans hx130_4; replace hx130_0 := (cell_far (p := ⟨gb128, 1, none⟩) (by first | (rw [add_block]; exact hn130_1) | (show (Addr.add _ _).block ≠ _; rw [add_block]; exact hn130_1) | exact hn130_1) (.slice A127_1 ((rd_T61 l1_4 x42_3).f1).length c127_1)).trans hx130_0; replace hx130_1 := (cell_far (p := ⟨gb128, 1, none⟩) (by first | (rw [add_block]; exact hn130_1) | (show (Addr.add _ _).block ≠ _; rw [add_block]; exact hn130_1) | exact hn130_1) (.slice A127_1 ((rd_T61 l1_4 x42_3).f1).length c127_1)).trans hx130_1; replace hx130_2 := (cell_far (p := ⟨gb128, 1, none⟩) (by first | (rw [add_block]; exact hn130_1) | (show (Addr.add _ _).block ≠ _; rw [add_block]; exact hn130_1) | exact hn130_1) (.slice A127_1 ((rd_T61 l1_4 x42_3).f1).length c127_1)).trans hx130_2; replace hx130_3 := (cell_far (p := ⟨gb128, 1, none⟩) (by first | (rw [add_block]; exact hn130_1) | (show (Addr.add _ _).block ≠ _; rw [add_block]; exact hn130_1) | exact hn130_1) (.slice A127_1 ((rd_T61 l1_4 x42_3).f1).length c127_1)).trans hx130_3; replace hx130_4 := (cell_far (p := ⟨gb128, 1, none⟩) (by first | (rw [add_block]; exact hn130_1) | (show (Addr.add _ _).block ≠ _; rw [add_block]; exact hn130_1) | exact hn130_1) (.slice A127_1 ((rd_T61 l1_4 x42_3).f1).length c127_1)).trans hx130_4; (try have hy130_0 := fun (n_ : Nat) => (show ((((w40.drewN n_).setCell ⟨gb128, 0, none⟩ (.int .i64 ((rd_T61 l1_4 x42_3).f0))).setCell ⟨gb128, 1, none⟩ (.slice A127_1 ((rd_T61 l1_4 x42_3).f1).length c127_1))).cell? _ = some _ from hx130_0)); (try have hy130_1 := fun (n_ : Nat) => (show ((((w40.drewN n_).setCell ⟨gb128, 0, none⟩ (.int .i64 ((rd_T61 l1_4 x42_3).f0))).setCell ⟨gb128, 1, none⟩ (.slice A127_1 ((rd_T61 l1_4 x42_3).f1).length c127_1))).cell? _ = some _ from hx130_1)); (try have hy130_2 := fun (n_ : Nat) => (show ((((w40.drewN n_).setCell ⟨gb128, 0, none⟩ (.int .i64 ((rd_T61 l1_4 x42_3).f0))).setCell ⟨gb128, 1, none⟩ (.slice A127_1 ((rd_T61 l1_4 x42_3).f1).length c127_1))).cell? _ = some _ from hx130_2)); (try have hy130_3 := fun (n_ : Nat) => (show ((((w40.drewN n_).setCell ⟨gb128, 0, none⟩ (.int .i64 ((rd_T61 l1_4 x42_3).f0))).setCell ⟨gb128, 1, none⟩ (.slice A127_1 ((rd_T61 l1_4 x42_3).f1).length c127_1))).cell? _ = some _ from hx130_3)); (try have hy130_4 := fun (n_ : Nat) => (show ((((w40.drewN n_).setCell ⟨gb128, 0, none⟩ (.int .i64 ((rd_T61 l1_4 x42_3).f0))).setCell ⟨gb128, 1, none⟩ (.slice A127_1 ((rd_T61 l1_4 x42_3).f1).length c127_1))).cell? _ = some _ from hx130_4)); clear hn130_0; clear hn130_1; replace p130 := eq_true p130; replace q130 := eq_true q130
   repeat (go_quiet (first | ((with_reducible refine gate_dst (N := 9) rfl ?_); (try (refine gate_guard (by rfl) ?_; dsimp only)); refine box_event ?hg (N := 9) ?hd (cs := #[.int .i64 0, .slice none 0 0]) (t := 61) ?hr ?_; (case hd => rfl); (case hg => rfl); (case hr => first | (go_simp; done) | (go_simp; rfl)); intro gb128 hg w40 hbox hb; have n0_ := Aside0.mk (bB BK124.out hb); have n1_ := Aside0.mk (bB BK125.out hb); have n2_ := Aside0.mk (below_step (by repeat (first | (with_reducible first | exact HB.out | apply below_alloc | apply pw_below_drewN | apply below_drew1 | refine below_set ?_ GE124.out | refine below_set ?_ GE125.out) | exact HB.out)) hb); have n3_ := Aside0.mk (hbox); have n4_ := Aside0.mk ((by rw [hg]; exact (below_size (by repeat (first | (with_reducible first | exact HB.out | apply below_alloc | apply pw_below_drewN | apply below_drew1 | refine below_set ?_ GE124.out | refine below_set ?_ GE125.out) | exact HB.out))) : w.heap.size ≤ gb128)); have n5_ := n4_; have n6_ := Aside0.mk ((by rw [hg]; exact Nat.ne_of_lt (blk_lt BK124.out) : gb124 ≠ gb128)); have n7_ := Aside0.mk ((by rw [hg]; exact Nat.ne_of_gt (blk_lt BK124.out) : gb128 ≠ gb124)); have n8_ := Aside0.mk ((by rw [hg]; exact Nat.ne_of_lt (blk_lt BK125.out) : gb125 ≠ gb128)); have n9_ := Aside0.mk ((by rw [hg]; exact Nat.ne_of_gt (blk_lt BK125.out) : gb128 ≠ gb125)); clear BK124; clear BK125; clear HB; have BK124 := n0_; have BK125 := n1_; have HB := n2_; have BK128 := n3_; have GW128 := n4_; have GE128 := n5_; have NB124_128 := n6_; have NB128_124 := n7_; have NB125_128 := n8_; have NB128_125 := n9_; clear n0_ n1_ n2_ n3_ n4_ n5_ n6_ n7_ n8_ n9_; clear hb hbox hg; have hnb41 := NB128_124.out; have hnc41 := NB124_128.out; have hnb42 := NB128_125.out; have hnc42 := NB125_128.out; obtain ⟨hcz43_0, hcz43_1, hfz43_0, hfz43_1⟩ := blk2 BK128.out; have hnb44 := NB124_125.out; have hnc44 := NB125_124.out; obtain ⟨hcz45_0, hcz45_1, hfz45_0, hfz45_1⟩ := blk2 BK124.out) | (go_at_call 17; (with_reducible refine (spec_l1In.calls ((rd_T61 l1_4 x42_3).f0) 0 (wrap64 ((l0_1.length : Int) - 1)) true _ A33.out).mono ?_); rintro e w' ⟨rfl, ⟨nd, rfl⟩⟩; (try first | exact ⟨rfl, _, World.drewN_drewN _ _ _⟩ | exact ⟨rfl, _, Eq.trans (World.drewN_drewN _ _ _) (congrArg (World.drewN _) (Nat.add_assoc _ _ _))⟩)) | (go_at_call 20; (with_reducible refine (spec_l1All.calls k3 _ _ ((rd_T61 l1_4 x42_3).f1) 0 (wrap64 (a2 - 1)) true _ ?side1 ?side2 A38.out).mono ?_); (case side1 => exact Kd.C_below HR127_1.out (by repeat (first | (with_reducible first | exact HB.out | apply below_alloc | apply pw_below_drewN | apply below_drew1 | refine below_set ?_ GE124.out | refine below_set ?_ GE125.out | refine below_set ?_ GE128.out) | exact HB.out))); (case side2 => exact HC127_1.out); rintro e w' ⟨rfl, ⟨nd, rfl⟩⟩; (try first | exact ⟨rfl, _, World.drewN_drewN _ _ _⟩ | exact ⟨rfl, _, Eq.trans (World.drewN_drewN _ _ _) (congrArg (World.drewN _) (Nat.add_assoc _ _ _))⟩))); try go_wp2_with (first | ((with_reducible refine gate_dst (N := 9) rfl ?_); (try (refine gate_guard (by rfl) ?_; dsimp only)); refine box_event ?hg (N := 9) ?hd (cs := #[.int .i64 0, .slice none 0 0]) (t := 61) ?hr ?_; (case hd => rfl); (case hg => rfl); (case hr => first | (go_simp; done) | (go_simp; rfl)); intro gb128 hg w40 hbox hb; have n0_ := Aside0.mk (bB BK124.out hb); have n1_ := Aside0.mk (bB BK125.out hb); have n2_ := Aside0.mk (below_step (by repeat (first | (with_reducible first | exact HB.out | apply below_alloc | apply pw_below_drewN | apply below_drew1 | refine below_set ?_ GE124.out | refine below_set ?_ GE125.out) | exact HB.out)) hb); have n3_ := Aside0.mk (hbox); have n4_ := Aside0.mk ((by rw [hg]; exact (below_size (by repeat (first | (with_reducible first | exact HB.out | apply below_alloc | apply pw_below_drewN | apply below_drew1 | refine below_set ?_ GE124.out | refine below_set ?_ GE125.out) | exact HB.out))) : w.heap.size ≤ gb128)); have n5_ := n4_; have n6_ := Aside0.mk ((by rw [hg]; exact Nat.ne_of_lt (blk_lt BK124.out) : gb124 ≠ gb128)); have n7_ := Aside0.mk ((by rw [hg]; exact Nat.ne_of_gt (blk_lt BK124.out) : gb128 ≠ gb124)); have n8_ := Aside0.mk ((by rw [hg]; exact Nat.ne_of_lt (blk_lt BK125.out) : gb125 ≠ gb128)); have n9_ := Aside0.mk ((by rw [hg]; exact Nat.ne_of_gt (blk_lt BK125.out) : gb128 ≠ gb125)); clear BK124; clear BK125; clear HB; have BK124 := n0_; have BK125 := n1_; have HB := n2_; have BK128 := n3_; have GW128 := n4_; have GE128 := n5_; have NB124_128 := n6_; have NB128_124 := n7_; have NB125_128 := n8_; have NB128_125 := n9_; clear n0_ n1_ n2_ n3_ n4_ n5_ n6_ n7_ n8_ n9_; clear hb hbox hg; have hnb41 := NB128_124.out; have hnc41 := NB124_128.out; have hnb42 := NB128_125.out; have hnc42 := NB125_128.out; obtain ⟨hcz43_0, hcz43_1, hfz43_0, hfz43_1⟩ := blk2 BK128.out; have hnb44 := NB124_125.out; have hnc44 := NB125_124.out; obtain ⟨hcz45_0, hcz45_1, hfz45_0, hfz45_1⟩ := blk2 BK124.out) | (go_at_call 17; (with_reducible refine (spec_l1In.calls ((rd_T61 l1_4 x42_3).f0) 0 (wrap64 ((l0_1.length : Int) - 1)) true _ A33.out).mono ?_); rintro e w' ⟨rfl, ⟨nd, rfl⟩⟩; (try first | exact ⟨rfl, _, World.drewN_drewN _ _ _⟩ | exact ⟨rfl, _, Eq.trans (World.drewN_drewN _ _ _) (congrArg (World.drewN _) (Nat.add_assoc _ _ _))⟩)) | (go_at_call 20; (with_reducible refine (spec_l1All.calls k3 _ _ ((rd_T61 l1_4 x42_3).f1) 0 (wrap64 (a2 - 1)) true _ ?side1 ?side2 A38.out).mono ?_); (case side1 => exact Kd.C_below HR127_1.out (by repeat (first | (with_reducible first | exact HB.out | apply below_alloc | apply pw_below_drewN | apply below_drew1 | refine below_set ?_ GE124.out | refine below_set ?_ GE125.out | refine below_set ?_ GE128.out) | exact HB.out))); (case side2 => exact HC127_1.out); rintro e w' ⟨rfl, ⟨nd, rfl⟩⟩; (try first | exact ⟨rfl, _, World.drewN_drewN _ _ _⟩ | exact ⟨rfl, _, Eq.trans (World.drewN_drewN _ _ _) (congrArg (World.drewN _) (Nat.add_assoc _ _ _))⟩))))
   go_roundg k3
   case measure => have := HJ3.out; have := HJ16.out; have := HK3.out; omega
   exact ⟨(wrap64 (x42_3 + 1)), (by first | rfl | (simp; done) | (simp [*]; done)), H', ⟨by have := HJ3.out; have := HJ16.out; have := HK3.out; omega⟩, ⟨by (with_reducible repeat (first | refine blk_drewN ?_ _ | refine blk_drew ?_ | refine blk_alloc ?_ _)); refine blk_far ?_ NB124_128.out _; (with_reducible repeat (first | refine blk_drewN ?_ _ | refine blk_drew ?_ | refine blk_alloc ?_ _)); refine blk_far ?_ NB124_128.out _; (with_reducible repeat (first | refine blk_drewN ?_ _ | refine blk_drew ?_ | refine blk_alloc ?_ _)); exact BK124.out⟩, ⟨by (with_reducible repeat (first | refine blk_drewN ?_ _ | refine blk_drew ?_ | refine blk_alloc ?_ _)); refine blk_far ?_ NB125_128.out _; (with_reducible repeat (first | refine blk_drewN ?_ _ | refine blk_drew ?_ | refine blk_alloc ?_ _)); refine blk_far ?_ NB125_128.out _; (with_reducible repeat (first | refine blk_drewN ?_ _ | refine blk_drew ?_ | refine blk_alloc ?_ _)); exact BK125.out⟩, ⟨by repeat (first | (with_reducible first | exact HB.out | apply below_alloc | apply pw_below_drewN | apply below_drew1 | refine below_set ?_ GE124.out | refine below_set ?_ GE125.out | refine below_set ?_ GE128.out) | exact HB.out)⟩⟩
 replace c39 := Bool.eq_false_iff.mpr c39
 subst c39
 have H1 : (some false) = some r := by rw [if_neg (show ¬ (false = true) by decide)] at H; exact H
 clear H
 have H := H1
 clear H1
 obtain rfl := Option.some.inj H
 have p127 : 0 ≤ (x42_3 : Int) := of_decide_eq_true (by first | (with_reducible assumption) | assumption)
 have q127 : x42_3 < (l1_4.length : Int) := of_decide_eq_true (by first | (with_reducible assumption) | assumption)
 obtain ⟨ad127, A127_1, c127_1, e127, hx127_0, hx127_1, hl127_1, hi127_1⟩ := at_T61 HR1_4.out x42_3 p127 q127
 cases e127
 replace hx127_0 := cB HB.out hx127_0
 replace hx127_1 := cB HB.out hx127_1
 have HR127_1 := Aside0.mk hi127_1
 have HC127_1 := Aside0.mk hl127_1
 clear hi127_1 hl127_1
 replace p127 := eq_true p127
 replace q127 := eq_true q127
 go_wp2_with (first | ((with_reducible refine gate_dst (N := 9) rfl ?_); (try (refine gate_guard (by rfl) ?_; dsimp only)); refine box_event ?hg (N := 9) ?hd (cs := #[.int .i64 0, .slice none 0 0]) (t := 61) ?hr ?_; (case hd => rfl); (case hg => rfl); (case hr => first | (go_simp; done) | (go_simp; rfl)); intro gb128 hg w46 hbox hb; have n0_ := Aside0.mk (bB BK124.out hb); have n1_ := Aside0.mk (bB BK125.out hb); have n2_ := Aside0.mk (below_step (by repeat (first | (with_reducible first | exact HB.out | apply below_alloc | apply pw_below_drewN | apply below_drew1 | refine below_set ?_ GE124.out | refine below_set ?_ GE125.out) | exact HB.out)) hb); have n3_ := Aside0.mk (hbox); have n4_ := Aside0.mk ((by rw [hg]; exact (below_size (by repeat (first | (with_reducible first | exact HB.out | apply below_alloc | apply pw_below_drewN | apply below_drew1 | refine below_set ?_ GE124.out | refine below_set ?_ GE125.out) | exact HB.out))) : w.heap.size ≤ gb128)); have n5_ := n4_; have n6_ := Aside0.mk ((by rw [hg]; exact Nat.ne_of_lt (blk_lt BK124.out) : gb124 ≠ gb128)); have n7_ := Aside0.mk ((by rw [hg]; exact Nat.ne_of_gt (blk_lt BK124.out) : gb128 ≠ gb124)); have n8_ := Aside0.mk ((by rw [hg]; exact Nat.ne_of_lt (blk_lt BK125.out) : gb125 ≠ gb128)); have n9_ := Aside0.mk ((by rw [hg]; exact Nat.ne_of_gt (blk_lt BK125.out) : gb128 ≠ gb125)); clear BK124; clear BK125; clear HB; have BK124 := n0_; have BK125 := n1_; have HB := n2_; have BK128 := n3_; have GW128 := n4_; have GE128 := n5_; have NB124_128 := n6_; have NB128_124 := n7_; have NB125_128 := n8_; have NB128_125 := n9_; clear n0_ n1_ n2_ n3_ n4_ n5_ n6_ n7_ n8_ n9_; clear hb hbox hg; have hnb47 := NB128_124.out; have hnc47 := NB124_128.out; have hnb48 := NB128_125.out; have hnc48 := NB125_128.out; obtain ⟨hcz49_0, hcz49_1, hfz49_0, hfz49_1⟩ := blk2 BK128.out; have hnb50 := NB124_125.out; have hnc50 := NB125_124.out; obtain ⟨hcz51_0, hcz51_1, hfz51_0, hfz51_1⟩ := blk2 BK124.out) | (go_at_call 17; (with_reducible refine (spec_l1In.calls ((rd_T61 l1_4 x42_3).f0) 0 (wrap64 ((l0_1.length : Int) - 1)) true _ A33.out).mono ?_); rintro e w' ⟨rfl, ⟨nd, rfl⟩⟩; (try first | exact ⟨rfl, _, World.drewN_drewN _ _ _⟩ | exact ⟨rfl, _, Eq.trans (World.drewN_drewN _ _ _) (congrArg (World.drewN _) (Nat.add_assoc _ _ _))⟩); have p130 : 0 ≤ (((rd_T61 l1_4 x42_3).f0) : Int) := of_decide_eq_true (by first | (with_reducible assumption) | assumption); have q130 : ((rd_T61 l1_4 x42_3).f0) < (l0_1.length : Int) := of_decide_eq_true (by first | (with_reducible assumption) | assumption); obtain ⟨ad130, A130_1, c130_1, A130_4, c130_4, e130, hx130_0, hx130_1, hx130_2, hx130_3, hx130_4, hl130_1, hi130_1, hl130_4, hi130_4⟩ := at_T48 HR0_1.out ((rd_T61 l1_4 x42_3).f0) p130 q130; cases e130; have hn130_0 : ad130.block ≠ gb128 := Nat.ne_of_lt (Nat.lt_of_lt_of_le (by have := World.block_lt_of_cell? _ _ hx130_0; first | rwa [add_block] at this | exact this) GW128.out); have hn130_1 : ad130.block ≠ gb128 := Nat.ne_of_lt (Nat.lt_of_lt_of_le (by have := World.block_lt_of_cell? _ _ hx130_0; first | rwa [add_block] at this | exact this) GW128.out); replace hx130_0 := cB HB.out hx130_0; replace hx130_1 := cB HB.out hx130_1; replace hx130_2 := cB HB.out hx130_2; replace hx130_3 := cB HB.out hx130_3; replace hx130_4 := cB HB.out hx130_4; have HR130_1 := Aside0.mk hi130_1; have HC130_1 := Aside0.mk hl130_1; clear hi130_1 hl130_1; have HR130_4 := Aside0.mk hi130_4; have HC130_4 := Aside0.mk hl130_4; clear hi130_4 hl130_4; replace hx130_0 := (cell_far (p := ⟨gb128, 0, none⟩) (by first | (rw [add_block]; exact hn130_0) | (show (Addr.add _ _).block ≠ _; rw [add_block]; exact hn130_0) | exact hn130_0) (.int .i64 ((rd_T61 l1_4 x42_3).f0))).trans hx130_0; replace hx130_1 := (cell_far (p := ⟨gb128, 0, none⟩) (by first | (rw [add_block]; exact hn130_0) | (show (Addr.add _ _).block ≠ _; rw [add_block]; exact hn130_0) | exact hn130_0) (.int .i64 ((rd_T61 l1_4 x42_3).f0))).trans hx130_1; replace hx130_2 := (cell_far (p := ⟨gb128, 0, none⟩) (by first | (rw [add_block]; exact hn130_0) | (show (Addr.add _ _).block ≠ _; rw [add_block]; exact hn130_0) | exact hn130_0) (.int .i64 ((rd_T61 l1_4 x42_3).f0))).trans hx130_2; replace hx130_3 := (cell_far (p := ⟨gb128, 0, none⟩) (by first | (rw [add_block]; exact hn130_0) | (show (Addr.add _ _).block ≠ _; rw [add_block]; exact hn130_0) | exact hn130_0) (.int .i64 ((rd_T61 l1_4 x42_3).f0))).trans hx130_3; replace hx130_4 := (cell_far (p := ⟨gb128, 0, none⟩) (by first | (rw [add_block]; exact hn130_0) | (show (Addr.add _ _).block ≠ _; rw [add_block]; exact hn130_0) | exact hn130_0) (.int .i64 ((rd_T61 l1_4 x42_3).f0))).trans hx130_4; replace hx130_0 := (cell_far (p := ⟨gb128, 1, none⟩) (by first | (rw [add_block]; exact hn130_1) | (show (Addr.add _ _).block ≠ _; rw [add_block]; exact hn130_1) | exact hn130_1) (.slice A127_1 ((rd_T61 l1_4 x42_3).f1).length c127_1)).trans hx130_0; replace hx130_1 := (cell_far (p := ⟨gb128, 1, none⟩) (by first | (rw [add_block]; exact hn130_1) | (show (Addr.add _ _).block ≠ _; rw [add_block]; exact hn130_1) | exact hn130_1) (.slice A127_1 ((rd_T61 l1_4 x42_3).f1).length c127_1)).trans hx130_1; replace hx130_2 := (cell_far (p := ⟨gb128, 1, none⟩) (by first | (rw [add_block]; exact hn130_1) | (show (Addr.add _ _).block ≠ _; rw [add_block]; exact hn130_1) | exact hn130_1) (.slice A127_1 ((rd_T61 l1_4 x42_3).f1).length c127_1)).trans hx130_2; replace hx130_3 := (cell_far (p := ⟨gb128, 1, none⟩) (by first | (rw [add_block]; exact hn130_1) | (show (Addr.add _ _).block ≠ _; rw [add_block]; exact hn130_1) | exact hn130_1) (.slice A127_1 ((rd_T61 l1_4 x42_3).f1).length c127_1)).trans hx130_3; replace hx130_4 := (cell_far (p := ⟨gb128, 1, none⟩) (by first | (rw [add_block]; exact hn130_1) | (show (Addr.add _ _).block ≠ _; rw [add_block]; exact hn130_1) | exact hn130_1) (.slice A127_1 ((rd_T61 l1_4 x42_3).f1).length c127_1)).trans hx130_4; (try have hy130_0 := fun (n_ : Nat) => (show ((((w46.drewN n_).setCell ⟨gb128, 0, none⟩ (.int .i64 ((rd_T61 l1_4 x42_3).f0))).setCell ⟨gb128, 1, none⟩ (.slice A127_1 ((rd_T61 l1_4 x42_3).f1).length c127_1))).cell? _ = some _ from hx130_0)); (try have hy130_1 := fun (n_ : Nat) => (show ((((w46.drewN n_).setCell ⟨gb128, 0, none⟩ (.int .i64 ((rd_T61 l1_4 x42_3).f0))).setCell ⟨gb128, 1, none⟩ (.slice A127_1 ((rd_T61 l1_4 x42_3).f1).length c127_1))).cell? _ = some _ from hx130_1)); (try have hy130_2 := fun (n_ : Nat) => (show ((((w46.drewN n_).setCell ⟨gb128, 0, none⟩ (.int .i64 ((rd_T61 l1_4 x42_3).f0))).setCell ⟨gb128, 1, none⟩ (.slice A127_1 ((rd_T61 l1_4 x42_3).f1).length c127_1))).cell? _ = some _ from hx130_2)); (try have hy130_3 := fun (n_ : Nat) => (show ((((w46.drewN n_).setCell ⟨gb128, 0, none⟩ (.int .i64 ((rd_T61 l1_4 x42_3).f0))).setCell ⟨gb128, 1, none⟩ (.slice A127_1 ((rd_T61 l1_4 x42_3).f1).length c127_1))).cell? _ = some _ from hx130_3)); (try have hy130_4 := fun (n_ : Nat) => (show ((((w46.drewN n_).setCell ⟨gb128, 0, none⟩ (.int .i64 ((rd_T61 l1_4 x42_3).f0))).setCell ⟨gb128, 1, none⟩ (.slice A127_1 ((rd_T61 l1_4 x42_3).f1).length c127_1))).cell? _ = some _ from hx130_4)); clear hn130_0; clear hn130_1; replace p130 := eq_true p130; replace q130 := eq_true q130) | (go_at_call 20; (with_reducible refine (spec_l1All.calls k3 _ _ ((rd_T61 l1_4 x42_3).f1) 0 (wrap64 (a2 - 1)) false _ ?side1 ?side2 A38.out).mono ?_); (case side1 => exact Kd.C_below HR127_1.out (by repeat (first | (with_reducible first | exact HB.out | apply below_alloc | apply pw_below_drewN | apply below_drew1 | refine below_set ?_ GE124.out | refine below_set ?_ GE125.out | refine below_set ?_ GE128.out) | exact HB.out))); (case side2 => exact HC127_1.out); rintro e w' ⟨rfl, ⟨nd, rfl⟩⟩; (try first | exact ⟨rfl, _, World.drewN_drewN _ _ _⟩ | exact ⟨rfl, _, Eq.trans (World.drewN_drewN _ _ _) (congrArg (World.drewN _) (Nat.add_assoc _ _ _))⟩)))
 have p130 : 0 ≤ (((rd_T61 l1_4 x42_3).f0) : Int) := of_decide_eq_true (by first | (with_reducible assumption) | assumption); have q130 : ((rd_T61 l1_4 x42_3).f0) < (l0_1.length : Int) := of_decide_eq_true (by first | (with_reducible assumption) | assumption); obtain ⟨ad130, A130_1, c130_1, A130_4, c130_4, e130, hx130_0, hx130_1, hx130_2, hx130_3, hx130_4, hl130_1, hi130_1, hl130_4, hi130_4⟩ := at_T48 HR0_1.out ((rd_T61 l1_4 x42_3).f0) p130 q130; cases e130; have hn130_0 : ad130.block ≠ gb128 := Nat.ne_of_lt (Nat.lt_of_lt_of_le (by have := World.block_lt_of_cell? _ _ hx130_0; first | rwa [add_block] at this | exact this) GW128.out); have hn130_1 : ad130.block ≠ gb128 := Nat.ne_of_lt (Nat.lt_of_lt_of_le (by have := World.block_lt_of_cell? _ _ hx130_0; first | rwa [add_block] at this | exact this) GW128.out); replace hx130_0 := cB HB.out hx130_0; replace hx130_1 := cB HB.out hx130_1; replace hx130_2 := cB HB.out hx130_2; replace hx130_3 := cB HB.out hx130_3; replace hx130_4 := cB HB.out hx130_4; have HR130_1 := Aside0.mk hi130_1; have HC130_1 := Aside0.mk hl130_1; clear hi130_1 hl130_1; have HR130_4 := Aside0.mk hi130_4; have HC130_4 := Aside0.mk hl130_4; clear hi130_4 hl130_4; replace hx130_0 := (cell_far (p := ⟨gb128, 0, none⟩) (by first | (rw [add_block]; exact hn130_0) | (show (Addr.add _ _).block ≠ _; rw [add_block]; exact hn130_0) | exact hn130_0) (.int .i64 ((rd_T61 l1_4 x42_3).f0))).trans hx130_0; replace hx130_1 := (cell_far (p := ⟨gb128, 0, none⟩) (by first | (rw [add_block]; exact hn130_0) | (show (Addr.add _ _).block ≠ _; rw [add_block]; exact hn130_0) | exact hn130_0) (.int .i64 ((rd_T61 l1_4 x42_3).f0))).trans hx130_1; replace hx130_2 := (cell_far (p := ⟨gb128, 0, none⟩) (by first | (rw [add_block]; exact hn130_0) | (show (Addr.add _ _).block ≠ _; rw [add_block]; exact hn130_0) | exact hn130_0) (.int .i64 ((rd_T61 l1_4 x42_3).f0))).trans hx130_2; replace hx130_3 := (cell_far (p := ⟨gb128, 0, none⟩) (by first | (rw [add_block]; exact hn130_0) | (show (Addr.add _ _).block ≠ _; rw [add_block]; exact hn130_0) | exact hn130_0) (.int .i64 ((rd_T61 l1_4 x42_3).f0))).trans hx130_3; replace hx130_4 := (cell_far (p := ⟨gb128, 0, none⟩) (by first | (rw [add_block]; exact hn130_0) | (show (Addr.add _ _).block ≠ _; rw [add_block]; exact hn130_0) | exact hn130_0) (.int .i64 ((rd_T61 l1_4 x42_3).f0))).trans hx130_4; replace hx130_0 := (cell_far (p := ⟨gb128, 1, none⟩) (by first | (rw [add_block]; exact hn130_1) | (show (Addr.add _ _).block ≠ _; rw [add_block]; exact hn130_1) | exact hn130_1) (.slice A127_1 ((rd_T61 l1_4 x42_3).f1).length c127_1)).trans hx130_0; replace hx130_1 := (cell_far (p := ⟨gb128, 1, none⟩) (by first | (rw [add_block]; exact hn130_1) | (show (Addr.add _ _).block ≠ _; rw [add_block]; exact hn130_1) | exact hn130_1) (.slice A127_1 ((rd_T61 l1_4 x42_3).f1).length c127_1)).trans hx130_1; replace hx130_2 := (cell_far (p := ⟨gb128, 1, none⟩) (by first | (rw [add_block]; exact hn130_1) | (show (Addr.add _ _).block ≠ _; rw [add_block]; exact hn130_1) | exact hn130_1) (.slice A127_1 ((rd_T61 l1_4 x42_3).f1).length c127_1)).trans hx130_2; replace hx130_3 := (cell_far (p := ⟨gb128, 1, none⟩) (by first | (rw [add_block]; exact hn130_1) | (show (Addr.add _ _).block ≠ _; rw [add_block]; exact hn130_1) | exact hn130_1) (.slice A127_1 ((rd_T61 l1_4 x42_3).f1).length c127_1)).trans hx130_3; replace hx130_4 := (cell_far (p := ⟨gb128, 1, none⟩) (by first | (rw [add_block]; exact hn130_1) | (show (Addr.add _ _).block ≠ _; rw [add_block]; exact hn130_1) | exact hn130_1) (.slice A127_1 ((rd_T61 l1_4 x42_3).f1).length c127_1)).trans hx130_4; (try have hy130_0 := fun (n_ : Nat) => (show ((((w46.drewN n_).setCell ⟨gb128, 0, none⟩ (.int .i64 ((rd_T61 l1_4 x42_3).f0))).setCell ⟨gb128, 1, none⟩ (.slice A127_1 ((rd_T61 l1_4 x42_3).f1).length c127_1))).cell? _ = some _ from hx130_0)); (try have hy130_1 := fun (n_ : Nat) => (show ((((w46.drewN n_).setCell ⟨gb128, 0, none⟩ (.int .i64 ((rd_T61 l1_4 x42_3).f0))).setCell ⟨gb128, 1, none⟩ (.slice A127_1 ((rd_T61 l1_4 x42_3).f1).length c127_1))).cell? _ = some _ from hx130_1)); (try have hy130_2 := fun (n_ : Nat) => (show ((((w46.drewN n_).setCell ⟨gb128, 0, none⟩ (.int .i64 ((rd_T61 l1_4 x42_3).f0))).setCell ⟨gb128, 1, none⟩ (.slice A127_1 ((rd_T61 l1_4 x42_3).f1).length c127_1))).cell? _ = some _ from hx130_2)); (try have hy130_3 := fun (n_ : Nat) => (show ((((w46.drewN n_).setCell ⟨gb128, 0, none⟩ (.int .i64 ((rd_T61 l1_4 x42_3).f0))).setCell ⟨gb128, 1, none⟩ (.slice A127_1 ((rd_T61 l1_4 x42_3).f1).length c127_1))).cell? _ = some _ from hx130_3)); (try have hy130_4 := fun (n_ : Nat) => (show ((((w46.drewN n_).setCell ⟨gb128, 0, none⟩ (.int .i64 ((rd_T61 l1_4 x42_3).f0))).setCell ⟨gb128, 1, none⟩ (.slice A127_1 ((rd_T61 l1_4 x42_3).f1).length c127_1))).cell? _ = some _ from hx130_4)); clear hn130_0; clear hn130_1; replace p130 := eq_true p130; replace q130 := eq_true q130
 repeat (go_quiet (first | ((with_reducible refine gate_dst (N := 9) rfl ?_); (try (refine gate_guard (by rfl) ?_; dsimp only)); refine box_event ?hg (N := 9) ?hd (cs := #[.int .i64 0, .slice none 0 0]) (t := 61) ?hr ?_; (case hd => rfl); (case hg => rfl); (case hr => first | (go_simp; done) | (go_simp; rfl)); intro gb128 hg w46 hbox hb; have n0_ := Aside0.mk (bB BK124.out hb); have n1_ := Aside0.mk (bB BK125.out hb); have n2_ := Aside0.mk (below_step (by repeat (first | (with_reducible first | exact HB.out | apply below_alloc | apply pw_below_drewN | apply below_drew1 | refine below_set ?_ GE124.out | refine below_set ?_ GE125.out) | exact HB.out)) hb); have n3_ := Aside0.mk (hbox); have n4_ := Aside0.mk ((by rw [hg]; exact (below_size (by repeat (first | (with_reducible first | exact HB.out | apply below_alloc | apply pw_below_drewN | apply below_drew1 | refine below_set ?_ GE124.out | refine below_set ?_ GE125.out) | exact HB.out))) : w.heap.size ≤ gb128)); have n5_ := n4_; have n6_ := Aside0.mk ((by rw [hg]; exact Nat.ne_of_lt (blk_lt BK124.out) : gb124 ≠ gb128)); have n7_ := Aside0.mk ((by rw [hg]; exact Nat.ne_of_gt (blk_lt BK124.out) : gb128 ≠ gb124)); have n8_ := Aside0.mk ((by rw [hg]; exact Nat.ne_of_lt (blk_lt BK125.out) : gb125 ≠ gb128)); have n9_ := Aside0.mk ((by rw [hg]; exact Nat.ne_of_gt (blk_lt BK125.out) : gb128 ≠ gb125)); clear BK124; clear BK125; clear HB; have BK124 := n0_; have BK125 := n1_; have HB := n2_; have BK128 := n3_; have GW128 := n4_; have GE128 := n5_; have NB124_128 := n6_; have NB128_124 := n7_; have NB125_128 := n8_; have NB128_125 := n9_; clear n0_ n1_ n2_ n3_ n4_ n5_ n6_ n7_ n8_ n9_; clear hb hbox hg; have hnb47 := NB128_124.out; have hnc47 := NB124_128.out; have hnb48 := NB128_125.out; have hnc48 := NB125_128.out; obtain ⟨hcz49_0, hcz49_1, hfz49_0, hfz49_1⟩ := blk2 BK128.out; have hnb50 := NB124_125.out; have hnc50 := NB125_124.out; obtain ⟨hcz51_0, hcz51_1, hfz51_0, hfz51_1⟩ := blk2 BK124.out) | (go_at_call 17; (with_reducible refine (spec_l1In.calls ((rd_T61 l1_4 x42_3).f0) 0 (wrap64 ((l0_1.length : Int) - 1)) true _ A33.out).mono ?_); rintro e w' ⟨rfl, ⟨nd, rfl⟩⟩; (try first | exact ⟨rfl, _, World.drewN_drewN _ _ _⟩ | exact ⟨rfl, _, Eq.trans (World.drewN_drewN _ _ _) (congrArg (World.drewN _) (Nat.add_assoc _ _ _))⟩)) | (go_at_call 20; (with_reducible refine (spec_l1All.calls k3 _ _ ((rd_T61 l1_4 x42_3).f1) 0 (wrap64 (a2 - 1)) false _ ?side1 ?side2 A38.out).mono ?_); (case side1 => exact Kd.C_below HR127_1.out (by repeat (first | (with_reducible first | exact HB.out | apply below_alloc | apply pw_below_drewN | apply below_drew1 | refine below_set ?_ GE124.out | refine below_set ?_ GE125.out | refine below_set ?_ GE128.out) | exact HB.out))); (case side2 => exact HC127_1.out); rintro e w' ⟨rfl, ⟨nd, rfl⟩⟩; (try first | exact ⟨rfl, _, World.drewN_drewN _ _ _⟩ | exact ⟨rfl, _, Eq.trans (World.drewN_drewN _ _ _) (congrArg (World.drewN _) (Nat.add_assoc _ _ _))⟩))); try go_wp2_with (first | ((with_reducible refine gate_dst (N := 9) rfl ?_); (try (refine gate_guard (by rfl) ?_; dsimp only)); refine box_event ?hg (N := 9) ?hd (cs := #[.int .i64 0, .slice none 0 0]) (t := 61) ?hr ?_; (case hd => rfl); (case hg => rfl); (case hr => first | (go_simp; done) | (go_simp; rfl)); intro gb128 hg w46 hbox hb; have n0_ := Aside0.mk (bB BK124.out hb); have n1_ := Aside0.mk (bB BK125.out hb); have n2_ := Aside0.mk (below_step (by repeat (first | (with_reducible first | exact HB.out | apply below_alloc | apply pw_below_drewN | apply below_drew1 | refine below_set ?_ GE124.out | refine below_set ?_ GE125.out) | exact HB.out)) hb); have n3_ := Aside0.mk (hbox); have n4_ := Aside0.mk ((by rw [hg]; exact (below_size (by repeat (first | (with_reducible first | exact HB.out | apply below_alloc | apply pw_below_drewN | apply below_drew1 | refine below_set ?_ GE124.out | refine below_set ?_ GE125.out) | exact HB.out))) : w.heap.size ≤ gb128)); have n5_ := n4_; have n6_ := Aside0.mk ((by rw [hg]; exact Nat.ne_of_lt (blk_lt BK124.out) : gb124 ≠ gb128)); have n7_ := Aside0.mk ((by rw [hg]; exact Nat.ne_of_gt (blk_lt BK124.out) : gb128 ≠ gb124)); have n8_ := Aside0.mk ((by rw [hg]; exact Nat.ne_of_lt (blk_lt BK125.out) : gb125 ≠ gb128)); have n9_ := Aside0.mk ((by rw [hg]; exact Nat.ne_of_gt (blk_lt BK125.out) : gb128 ≠ gb125)); clear BK124; clear BK125; clear HB; have BK124 := n0_; have BK125 := n1_; have HB := n2_; have BK128 := n3_; have GW128 := n4_; have GE128 := n5_; have NB124_128 := n6_; have NB128_124 := n7_; have NB125_128 := n8_; have NB128_125 := n9_; clear n0_ n1_ n2_ n3_ n4_ n5_ n6_ n7_ n8_ n9_; clear hb hbox hg; have hnb47 := NB128_124.out; have hnc47 := NB124_128.out; have hnb48 := NB128_125.out; have hnc48 := NB125_128.out; obtain ⟨hcz49_0, hcz49_1, hfz49_0, hfz49_1⟩ := blk2 BK128.out; have hnb50 := NB124_125.out; have hnc50 := NB125_124.out; obtain ⟨hcz51_0, hcz51_1, hfz51_0, hfz51_1⟩ := blk2 BK124.out) | (go_at_call 17; (with_reducible refine (spec_l1In.calls ((rd_T61 l1_4 x42_3).f0) 0 (wrap64 ((l0_1.length : Int) - 1)) true _ A33.out).mono ?_); rintro e w' ⟨rfl, ⟨nd, rfl⟩⟩; (try first | exact ⟨rfl, _, World.drewN_drewN _ _ _⟩ | exact ⟨rfl, _, Eq.trans (World.drewN_drewN _ _ _) (congrArg (World.drewN _) (Nat.add_assoc _ _ _))⟩)) | (go_at_call 20; (with_reducible refine (spec_l1All.calls k3 _ _ ((rd_T61 l1_4 x42_3).f1) 0 (wrap64 (a2 - 1)) false _ ?side1 ?side2 A38.out).mono ?_); (case side1 => exact Kd.C_below HR127_1.out (by repeat (first | (with_reducible first | exact HB.out | apply below_alloc | apply pw_below_drewN | apply below_drew1 | refine below_set ?_ GE124.out | refine below_set ?_ GE125.out | refine below_set ?_ GE128.out) | exact HB.out))); (case side2 => exact HC127_1.out); rintro e w' ⟨rfl, ⟨nd, rfl⟩⟩; (try first | exact ⟨rfl, _, World.drewN_drewN _ _ _⟩ | exact ⟨rfl, _, Eq.trans (World.drewN_drewN _ _ _) (congrArg (World.drewN _) (Nat.add_assoc _ _ _))⟩))))
 go_ret
 exact ⟨by first | rfl | (simp [errW_none, errW_some] <;> rfl) | (simp [*, errW_none, errW_some] <;> rfl), by repeat (first | (with_reducible first | exact HB.out | apply below_alloc | apply pw_below_drewN | apply below_drew1 | refine below_set ?_ GE124.out | refine below_set ?_ GE125.out | refine below_set ?_ GE128.out) | exact HB.out)⟩
end Go.Proofs.YtjpkcbkkjefekaaGreatDoor.PA
