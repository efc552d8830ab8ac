/- A part of the session's texts, laid small by the session's shrink.py. -/
import Derived.Test.YtjpkcbkkjefekaaGreatDoorPAx0
import Derived.Test.YtjpkcbkkjefekaaGreatDoorPAx1
import Derived.Test.YtjpkcbkkjefekaaGreatDoorPAx2
import Derived.Test.YtjpkcbkkjefekaaGreatDoorPAx3
namespace Go.Proofs.YtjpkcbkkjefekaaGreatDoor.PA
open Go.RowKit Go.Proofs.YtjpkcbkkjefekaaGreatDoorW.PrintWords Go.Proofs.YtjpkcbkkjefekaaGreatDoorW.PrintLast Go.Proofs.YtjpkcbkkjefekaaGreatDoorW.PrintMore
attribute [local go_sem] max2_int min2_int max_two min_two max_three min_three max_four min_four
set_option linter.unusedVariables false
set_option linter.unusedSimpArgs false
mutual
def spec_GoodFunc.j0 : Nat → Bool → Int → List (S48) → Option (Bool)
  | 0, _, _, _ => none
  | k + 1, x28, x133000, x133001 => if x28 = true then (some false) else (spec_GoodFunc.l0 k x133001 (x133001.length : Int) 0 x133000 x133001)
def spec_GoodFunc.l0 : Nat → List (S48) → Int → Int → Int → List (S48) → Option (Bool)
  | 0, _, _, _, _, _ => none
  | k + 1, x30, x31, x32, x133000, x133001 => if x32 < x31 then (if 0 ≤ x32 then (if x32 < (x30.length : Int) then ((spec_l1In.f ((rd_T48 x30 x32).f0) 0 4).bind fun t138 => (if t138 = true then (if (((rd_T48 x30 x32).f1).length : Int) > 80 then (some false) else (spec_GoodFunc.l0 k x30 x31 (wrap64 (x32 + 1)) x133000 x133001)) else (some false))) else (none)) else (none)) else ((spec_l12Count.f k x133000 x133001).bind fun t139 => (if t139 > 80 then (some false) else (spec_GoodFunc.l1 k t139 x133001 (x133001.length : Int) 0 x133000 x133001)))
def spec_GoodFunc.l1 : Nat → Int → List (S48) → Int → Int → Int → List (S48) → Option (Bool)
  | 0, _, _, _, _, _, _ => none
  | k + 1, x5, x52, x53, x54, x133000, x133001 => if x54 < x53 then (if 0 ≤ x54 then (if x54 < (x52.length : Int) then (spec_GoodFunc.l2 k x5 x52 x53 x54 ((rd_T48 x52 x54).f1) (((rd_T48 x52 x54).f1).length : Int) 0 x133000 x133001 ((rd_T48 x52 x54).f0) ((rd_T48 x52 x54).f1) ((rd_T48 x52 x54).f2) ((rd_T48 x52 x54).f3) ((rd_T48 x52 x54).f4)) else (none)) else (none)) else (some true)
def spec_GoodFunc.l2 : Nat → Int → List (S48) → Int → Int → List (S52) → Int → Int → Int → List (S48) → Int → List (S52) → Int → Int → List (S61) → Option (Bool)
  | 0, _, _, _, _, _, _, _, _, _, _, _, _, _, _ => none
  | k + 1, x5, x52, x53, x54, x59, x60, x61, x133000, x133001, x142000, x142001, x142002, x142003, x142004 => if x61 < x60 then (if 0 ≤ x61 then (if x61 < (x59.length : Int) then ((spec_l12Arity.f k ((rd_T52 x59 x61).f0)).bind fun t145 => (if t145 < 0 then (some false) else ((spec_l12Arity.f k ((rd_T52 x59 x61).f0)).bind fun t146 => (if (((rd_T52 x59 x61).f2).length : Int) = t146 then ((spec_l1All.f k ((rd_T52 x59 x61).f2) 0 (wrap64 (x5 - 1))).bind fun t147 => (if t147 = true then (if ((rd_T52 x59 x61).f0) = 1 then (spec_GoodFunc.l2 k x5 x52 x53 x54 x59 x60 (wrap64 (x61 + 1)) x133000 x133001 x142000 x142001 x142002 x142003 x142004) else (if ((rd_T52 x59 x61).f1) = 0 then (spec_GoodFunc.l2 k x5 x52 x53 x54 x59 x60 (wrap64 (x61 + 1)) x133000 x133001 x142000 x142001 x142002 x142003 x142004) else (some false))) else (some false))) else (some false))))) else (none)) else (none)) else ((spec_l12Ends.f k x133000 x133001 x142000 x142001 x142002 x142003 x142004 x5).bind fun t142 => (if t142 = true then (spec_GoodFunc.l1 k x5 x52 x53 (wrap64 (x54 + 1)) x133000 x133001) else (some false)))
end
def spec_GoodFunc.f (k : Nat) (a0_0 : Int) (l0_1 : List (S48)) : Option (Bool) := (spec_l1In.f a0_0 0 4).bind fun t133 => (if t133 = true then ((spec_l1In.f (l0_1.length : Int) 1 8).bind fun t134 => (if t134 = true then (if 0 < (l0_1.length : Int) then (spec_GoodFunc.j0 k (((rd_T48 l0_1 0).f0) != 0) a0_0 l0_1) else (none)) else (spec_GoodFunc.j0 k true a0_0 l0_1))) else (spec_GoodFunc.j0 k true a0_0 l0_1))
def spec_GoodFunc.T18 : Bool × List (List Nat × List Nat) := (true, [([], []), ([0], [0]), ([1], [1]), ([2], [2]), ([3, 2], [3]), ([4], [4]), ([5, 4], [4, 5]), ([6, 4], [4, 6]), ([4], [4]), ([8, 4], [4, 8]), ([9, 4, 4], [4, 9]), ([7, 10, 4], [4, 7, 10]), ([4, 11], [4, 11]), ([12, 10], [12]), ([13], [13]), ([14, 13], [13, 14]), ([13], [13]), ([16, 13], [13, 16]), ([15, 17, 13, 13], [13, 15, 17]), ([18, 13], [13, 18]), ([13, 19], [13, 19]), ([20, 18], [20]), ([21], [21]), ([22, 21], [21, 22]), ([23, 21], [21, 23]), ([24, 21, 21], [21, 24]), ([25], [25]), ([26, 25], [25, 26]), ([27, 25], [25, 27]), ([25, 28, 21], [21, 25, 28]), ([21, 29], [21, 29])])
def spec_GoodFunc.B18 : List Nat := [0, 1, 3, 7, 15, 31, 63, 127, 31, 287, 799, 2047, 4095, 8191, 16383, 32767, 16383, 81919, 262143, 524287, 1048575, 2097151, 4194303, 8388607, 16777215, 33554431, 67108863, 134217727, 268435455, 536870911, 1073741823]
theorem spec_GoodFunc.tab18 : rtab .any (opsOf Tryz.f10 18) = spec_GoodFunc.T18 := by kernel_rfl
theorem spec_GoodFunc.bits18 : waitsOk spec_GoodFunc.T18.2 spec_GoodFunc.B18 = true := by kernel_rfl
set_option maxHeartbeats 8000000 in
set_option maxRecDepth 100000 in
theorem spec_GoodFunc.calls (k : Nat) (a0_0 : Int) (A0_1 : Option Addr) (c0_1 : Nat) (l0_1 : List (S48)) (r : Bool) (w : World) (hr0_1 : Kd.C k48 w A0_1 l0_1.length l0_1) (hc0_1 : l0_1.length ≤ c0_1) (h : spec_GoodFunc.f k a0_0 l0_1 = some r) :
    Calls Tryz.prog 10 #[.agg #[.int .i64 a0_0, .slice A0_1 l0_1.length c0_1]] w fun e w' => e = .returned (.bool r) ∧ Below w.heap.size w w' := by
 have hu30 := Tryz.underlying30
 have hu48 := Tryz.underlying48
 have hu52 := Tryz.underlying52
 have HR0_1 := Aside0.mk hr0_1
 have HC0_1 := Aside0.mk hc0_1
 clear hr0_1 hc0_1
 have HB := Aside0.mk (Below.refl w.heap.size w)
 have H : ((spec_l1In.f a0_0 0 4).bind fun t133 => (if t133 = true then ((spec_l1In.f (l0_1.length : Int) 1 8).bind fun t134 => (if t134 = true then (if 0 < (l0_1.length : Int) then (spec_GoodFunc.j0 k (((rd_T48 l0_1 0).f0) != 0) a0_0 l0_1) else (none)) else (spec_GoodFunc.j0 k true a0_0 l0_1))) else (spec_GoodFunc.j0 k true a0_0 l0_1))) = some r := h
 clear h
 have HC2 := Aside0.mk H
 clear H
 go_enter Tryz.func10, Tryz.ntmps10
 go_upto_region 1 with (first | ((with_reducible refine gate_dst (N := 1) rfl ?_); (try (refine gate_guard (by rfl) ?_; dsimp only)); refine box_event ?hg (N := 1) ?hd (cs := #[.int .i64 a0_0, .slice A0_1 l0_1.length c0_1]) (t := 30) ?hr ?_; (case hd => rfl); (case hg => rfl); (case hr => first | (go_simp; done) | (go_simp; rfl)); intro gb132 hg w3 hbox hb; have n0_ := Aside0.mk (below_step (by repeat (first | (with_reducible first | exact HB.out | apply below_alloc | apply pw_below_drewN | apply below_drew1) | exact HB.out)) hb); have n1_ := Aside0.mk (hbox); have n2_ := Aside0.mk ((by rw [hg]; exact (below_size (by repeat (first | (with_reducible first | exact HB.out | apply below_alloc | apply pw_below_drewN | apply below_drew1) | exact HB.out))) : w.heap.size ≤ gb132)); have n3_ := n2_; clear HB; have HB := n0_; have BK132 := n1_; have GW132 := n2_; have GE132 := n3_; clear n0_ n1_ n2_ n3_; clear hb hbox hg))
 (try simp only [Act.put, lA, lB, lC])
 go_cut [28] (fun v28 wc => ∃ (kq : Nat) (x28_1 : Bool), v28 = .bool x28_1 ∧ Aside0 (spec_GoodFunc.j0 kq x28_1 a0_0 l0_1 = some r) ∧ Aside0 (kq ≤ k) ∧ Aside0 (wc.heap[gb132]? = some (.cells #[.int .i64 a0_0, (.slice A0_1 l0_1.length c0_1)] 30 (0, 0))) ∧ Aside0 (Below w.heap.size w wc))
 case first =>
   have H := HC2.out
   clear HC2
   replace H := Option.bind_eq_some_iff.mp H
   obtain ⟨t133, A40, H⟩ := H
   replace H : (if t133 = true then ((spec_l1In.f (l0_1.length : Int) 1 8).bind fun t134 => (if t134 = true then (if 0 < (l0_1.length : Int) then (spec_GoodFunc.j0 k (((rd_T48 l0_1 0).f0) != 0) a0_0 l0_1) else (none)) else (spec_GoodFunc.j0 k true a0_0 l0_1))) else (spec_GoodFunc.j0 k true a0_0 l0_1)) = some r := H
   have A4 := Aside0.mk A40
   clear A40
   by_cases c5 : t133 = true
   rotate_left
   · replace c5 := Bool.eq_false_iff.mpr c5
     subst c5
     have H1 : (spec_GoodFunc.j0 k true a0_0 l0_1) = some r := by rw [if_neg (show ¬ (false = true) by decide)] at H; exact H
     clear H
     have H := H1
     clear H1
     have H' := Aside0.mk H
     clear H
     obtain ⟨hcz11_0, hcz11_1, hfz11_0, hfz11_1⟩ := blk2 BK132.out
     go_wp2_with (first | ((with_reducible refine gate_callee (f := 17) rfl ?_); refine goesL_ (some 12) rfl rfl Tryz.func17 (by kernel_rfl) rfl #[.int .i64 a0_0, .int .i64 0, .int .i64 4] rfl (by (try simp only [List.map_toArray, List.map_cons, List.map_nil]); first | done | rfl | (simp only [List.length_drop, List.length_take]; rfl)) ?_; (with_reducible refine (spec_l1In.calls a0_0 0 4 false _ A4.out).mono ?_); rintro e w' ⟨rfl, ⟨nd, rfl⟩⟩; refine ⟨_, rfl, ?_⟩))
     go_meet
     case rel => exact ⟨_, (true), (by first | rfl | (simp; done) | (simp [*]; done)), H', ⟨by first | omega | exact Nat.le_refl _⟩, ⟨by (with_reducible repeat (first | refine blk_drewN ?_ _ | refine blk_drew ?_ | refine blk_alloc ?_ _)); exact BK132.out⟩, ⟨by repeat (first | (with_reducible first | exact HB.out | apply below_alloc | apply pw_below_drewN | apply below_drew1 | refine below_set ?_ GE132.out) | exact HB.out)⟩⟩
   subst c5
   have H1 : ((spec_l1In.f (l0_1.length : Int) 1 8).bind fun t134 => (if t134 = true then (if 0 < (l0_1.length : Int) then (spec_GoodFunc.j0 k (((rd_T48 l0_1 0).f0) != 0) a0_0 l0_1) else (none)) else (spec_GoodFunc.j0 k true a0_0 l0_1))) = some r := by rw [if_pos rfl] at H; exact H
   clear H
   have H := H1
   clear H1
   replace H := Option.bind_eq_some_iff.mp H
   obtain ⟨t134, A60, H⟩ := H
   replace H : (if t134 = true then (if 0 < (l0_1.length : Int) then (spec_GoodFunc.j0 k (((rd_T48 l0_1 0).f0) != 0) a0_0 l0_1) else (none)) else (spec_GoodFunc.j0 k true a0_0 l0_1)) = some r := H
   have A6 := Aside0.mk A60
   clear A60
   by_cases c7 : t134 = true
   rotate_left
   · replace c7 := Bool.eq_false_iff.mpr c7
     subst c7
     have H1 : (spec_GoodFunc.j0 k true a0_0 l0_1) = some r := by rw [if_neg (show ¬ (false = true) by decide)] at H; exact H
     clear H
     have H := H1
     clear H1
     have H' := Aside0.mk H
     clear H
     obtain ⟨hcz10_0, hcz10_1, hfz10_0, hfz10_1⟩ := blk2 BK132.out
     go_wp2_with (first | ((with_reducible refine gate_callee (f := 17) rfl ?_); refine goesL_ (some 12) rfl rfl Tryz.func17 (by kernel_rfl) rfl #[.int .i64 a0_0, .int .i64 0, .int .i64 4] rfl (by (try simp only [List.map_toArray, List.map_cons, List.map_nil]); first | done | rfl | (simp only [List.length_drop, List.length_take]; rfl)) ?_; (with_reducible refine (spec_l1In.calls a0_0 0 4 true _ A4.out).mono ?_); rintro e w' ⟨rfl, ⟨nd, rfl⟩⟩; refine ⟨_, rfl, ?_⟩) | (go_at_call 17; (with_reducible refine (spec_l1In.calls (l0_1.length : Int) 1 8 false _ A6.out).mono ?_); rintro e w' ⟨rfl, ⟨nd, rfl⟩⟩))
     go_meet
     case rel => exact ⟨_, (true), (by first | rfl | (simp; done) | (simp [*]; done)), H', ⟨by first | omega | exact Nat.le_refl _⟩, ⟨by (with_reducible repeat (first | refine blk_drewN ?_ _ | refine blk_drew ?_ | refine blk_alloc ?_ _)); exact BK132.out⟩, ⟨by repeat (first | (with_reducible first | exact HB.out | apply below_alloc | apply pw_below_drewN | apply below_drew1 | refine below_set ?_ GE132.out) | exact HB.out)⟩⟩
   subst c7
   have H1 : (if 0 < (l0_1.length : Int) then (spec_GoodFunc.j0 k (((rd_T48 l0_1 0).f0) != 0) a0_0 l0_1) else (none)) = some r := by rw [if_pos rfl] at H; exact H
   clear H
   have H := H1
   clear H1
   by_cases c8 : 0 < (l0_1.length : Int)
   rotate_left
   · rw [if_neg c8] at H
     exact absurd H (by simp)
   rw [if_pos c8] at H
   have c8b0 : decide (0 < (l0_1.length : Int)) = true := decide_eq_true c8
   have c8b1 : decide (0 < l0_1.length) = true := decide_eq_true (by omega)
   clear c8
   (first | rw [c8b0] | (simp only [i64_w, i32_w]; rw [c8b0]) | skip)
   have H' := Aside0.mk H
   clear H
   obtain ⟨hcz9_0, hcz9_1, hfz9_0, hfz9_1⟩ := blk2 BK132.out
   go_wp2_with (first | ((with_reducible refine gate_callee (f := 17) rfl ?_); refine goesL_ (some 12) rfl rfl Tryz.func17 (by kernel_rfl) rfl #[.int .i64 a0_0, .int .i64 0, .int .i64 4] rfl (by (try simp only [List.map_toArray, List.map_cons, List.map_nil]); first | done | rfl | (simp only [List.length_drop, List.length_take]; rfl)) ?_; (with_reducible refine (spec_l1In.calls a0_0 0 4 true _ A4.out).mono ?_); rintro e w' ⟨rfl, ⟨nd, rfl⟩⟩; refine ⟨_, rfl, ?_⟩) | (go_at_call 17; (with_reducible refine (spec_l1In.calls (l0_1.length : Int) 1 8 true _ A6.out).mono ?_); rintro e w' ⟨rfl, ⟨nd, rfl⟩⟩; have p135 : 0 ≤ (0 : Int) := (by omega); have q135 : 0 < (l0_1.length : Int) := of_decide_eq_true (by first | (with_reducible assumption) | assumption); obtain ⟨ad135, A135_1, c135_1, A135_4, c135_4, e135, hx135_0, hx135_1, hx135_2, hx135_3, hx135_4, hl135_1, hi135_1, hl135_4, hi135_4⟩ := at_T48 HR0_1.out 0 p135 q135; cases e135; have qi135 : (0 < l0_1.length) = True := eq_true (by omega); (try rw [show ((0 : Int)).toNat = 0 from rfl] at hx135_0); (try rw [show 0 * 5 = 0 from rfl] at hx135_0); (try rw [Addr.add_zero'] at hx135_0); (try rw [show ((0 : Int)).toNat = 0 from rfl] at hx135_1); (try rw [show 0 * 5 = 0 from rfl] at hx135_1); (try rw [Addr.add_zero'] at hx135_1); (try rw [show ((0 : Int)).toNat = 0 from rfl] at hx135_2); (try rw [show 0 * 5 = 0 from rfl] at hx135_2); (try rw [Addr.add_zero'] at hx135_2); (try rw [show ((0 : Int)).toNat = 0 from rfl] at hx135_3); (try rw [show 0 * 5 = 0 from rfl] at hx135_3); (try rw [Addr.add_zero'] at hx135_3); (try rw [show ((0 : Int)).toNat = 0 from rfl] at hx135_4); (try rw [show 0 * 5 = 0 from rfl] at hx135_4); (try rw [Addr.add_zero'] at hx135_4); replace hx135_0 := cB HB.out hx135_0; replace hx135_1 := cB HB.out hx135_1; replace hx135_2 := cB HB.out hx135_2; replace hx135_3 := cB HB.out hx135_3; replace hx135_4 := cB HB.out hx135_4; have HR135_1 := Aside0.mk hi135_1; have HC135_1 := Aside0.mk hl135_1; clear hi135_1 hl135_1; have HR135_4 := Aside0.mk hi135_4; have HC135_4 := Aside0.mk hl135_4; clear hi135_4 hl135_4; replace p135 := eq_true p135; replace q135 := eq_true q135))
   go_meet
   case rel => exact ⟨_, ((((rd_T48 l0_1 0).f0) != 0)), (by first | rfl | (simp; done) | (simp [*]; done)), H', ⟨by first | omega | exact Nat.le_refl _⟩, ⟨by (with_reducible repeat (first | refine blk_drewN ?_ _ | refine blk_drew ?_ | refine blk_alloc ?_ _)); exact BK132.out⟩, ⟨by repeat (first | (with_reducible first | exact HB.out | apply below_alloc | apply pw_below_drewN | apply below_drew1 | refine below_set ?_ GE132.out) | exact HB.out)⟩⟩
 clear HC2
 try clear c1
 try clear p1
 try clear q1
 try clear hx1
 try clear qi1
 try clear p2
 try clear c5
 try clear c7
 try clear c8
 try clear c8b0
 try clear c8b1
 try clear c10
 try clear hcz10_0
 try clear hcz10_1
 try clear hcz11_0
 try clear hcz11_1
 try clear hcz9_0
 try clear hcz9_1
 try clear hfz10_0
 try clear hfz10_1
 try clear hfz11_0
 try clear hfz11_1
 try clear hfz9_0
 try clear hfz9_1
 try clear hx135_0
 try clear hx135_1
 try clear hx135_2
 try clear hx135_3
 try clear hx135_4
 try clear p135
 try clear q135
 obtain ⟨kq, x28_1, rfl, HA, HJ1, BK132, HB⟩ := hcut
 rcases kq with _ | kj1
 · exact absurd HA.out (by simp [spec_GoodFunc.j0])
 have H := HA.out
 clear HA
 simp only [spec_GoodFunc.j0] at H
 by_cases c12 : x28_1 = true
 · subst c12
   have H1 : (some false) = some r := by rw [if_pos rfl] at H; exact H
   clear H
   have H := H1
   clear H1
   obtain rfl := Option.some.inj H
   go_wp2
   go_ret
   exact ⟨by first | rfl | (simp [errW_none, errW_some] <;> rfl) | (simp [*, errW_none, errW_some] <;> rfl), by repeat (first | (with_reducible first | exact HB.out | apply below_alloc | apply pw_below_drewN | apply below_drew1 | refine below_set ?_ GE132.out) | exact HB.out)⟩
 replace c12 := Bool.eq_false_iff.mpr c12
 subst c12
 have H1 : (spec_GoodFunc.l0 kj1 l0_1 (l0_1.length : Int) 0 a0_0 l0_1) = some r := by rw [if_neg (show ¬ (false = true) by decide)] at H; exact H
 clear H
 have H := H1
 clear H1
 have H' := Aside0.mk H
 clear H
 obtain ⟨hcz13_0, hcz13_1, hfz13_0, hfz13_1⟩ := blk2 BK132.out
 go_wp2
 go_loopg [32] kj1 (fun kq v32 w' => ∃ (x32_2 : Int), v32 = .int .i64 x32_2 ∧ Aside0 (spec_GoodFunc.l0 kq l0_1 (l0_1.length : Int) x32_2 a0_0 l0_1 = some r) ∧ Aside0 (kq ≤ kj1) ∧ Aside0 (w'.heap[gb132]? = some (.cells #[.int .i64 a0_0, (.slice A0_1 l0_1.length c0_1)] 30 (0, 0))) ∧ Aside0 (Below w.heap.size w w'))
 case atStart => exact ⟨(0), (by first | rfl | (simp; done) | (simp [*]; done)), H', ⟨Nat.le_refl _⟩, ⟨by (with_reducible repeat (first | refine blk_drewN ?_ _ | refine blk_drew ?_ | refine blk_alloc ?_ _)); exact BK132.out⟩, ⟨by repeat (first | (with_reducible first | exact HB.out | apply below_alloc | apply pw_below_drewN | apply below_drew1 | refine below_set ?_ GE132.out) | exact HB.out)⟩⟩
 clear H'
 try clear c1
 try clear p1
 try clear q1
 try clear hx1
 try clear qi1
 try clear p2
 try clear c5
 try clear c7
 try clear c8
 try clear c8b0
 try clear c8b1
 try clear c10
 try clear c12
 try clear c13
 try clear p13
 try clear q13
 try clear hx13
 try clear qi13
 try clear hcz10_0
 try clear hcz10_1
 try clear hcz11_0
 try clear hcz11_1
 try clear hcz13_0
 try clear hcz13_1
 try clear hcz9_0
 try clear hcz9_1
 try clear hfz10_0
 try clear hfz10_1
 try clear hfz11_0
 try clear hfz11_1
 try clear hfz13_0
 try clear hfz13_1
 try clear hfz9_0
 try clear hfz9_1
 try clear hx135_0
 try clear hx135_1
 try clear hx135_2
 try clear hx135_3
 try clear hx135_4
 try clear p1
 try clear p135
 try clear p2
 try clear q1
 try clear q135
 obtain ⟨x32_2, rfl, HA, HK2, BK132, HB⟩ := hrel
 rcases gk with _ | k2
 · exact absurd HA.out (by simp [spec_GoodFunc.l0])
 have H := HA.out
 clear HA
 simp only [spec_GoodFunc.l0] at H
 by_cases c14 : x32_2 < (l0_1.length : Int)
 · rw [if_pos c14] at H
   have c14b0 : decide (x32_2 < (l0_1.length : Int)) = true := decide_eq_true c14
   clear c14
   by_cases c15 : 0 ≤ x32_2
   rotate_left
   · rw [if_neg c15] at H
     exact absurd H (by simp)
   rw [if_pos c15] at H
   have c15b0 : decide (0 ≤ x32_2) = true := decide_eq_true c15
   clear c15
   by_cases c16 : x32_2 < (l0_1.length : Int)
   rotate_left
   · rw [if_neg c16] at H
     exact absurd H (by simp)
   rw [if_pos c16] at H
   have c16b0 : decide (x32_2 < (l0_1.length : Int)) = true := decide_eq_true c16
   clear c16
   replace H := Option.bind_eq_some_iff.mp H
   obtain ⟨t138, A170, H⟩ := H
   replace H : (if t138 = true then (if (((rd_T48 l0_1 x32_2).f1).length : Int) > 80 then (some false) else (spec_GoodFunc.l0 k2 l0_1 (l0_1.length : Int) (wrap64 (x32_2 + 1)) a0_0 l0_1)) else (some false)) = some r := H
   have A17 := Aside0.mk A170
   clear A170
   by_cases c18 : t138 = true
   rotate_left
   · replace c18 := Bool.eq_false_iff.mpr c18
     subst c18
     have H1 : (some false) = some r := by rw [if_neg (show ¬ (false = true) by decide)] at H; exact H
     clear H
     have H := H1
     clear H1
     obtain rfl := Option.some.inj H
     have p136 : 0 ≤ (x32_2 : Int) := of_decide_eq_true (by first | (with_reducible assumption) | assumption)
     have q136 : x32_2 < (l0_1.length : Int) := of_decide_eq_true (by first | (with_reducible assumption) | assumption)
     obtain ⟨ad136, A136_1, c136_1, A136_4, c136_4, e136, hx136_0, hx136_1, hx136_2, hx136_3, hx136_4, hl136_1, hi136_1, hl136_4, hi136_4⟩ := at_T48 HR0_1.out x32_2 p136 q136
     cases e136
     replace hx136_0 := cB HB.out hx136_0
     replace hx136_1 := cB HB.out hx136_1
     replace hx136_2 := cB HB.out hx136_2
     replace hx136_3 := cB HB.out hx136_3
     replace hx136_4 := cB HB.out hx136_4
     have HR136_1 := Aside0.mk hi136_1
     have HC136_1 := Aside0.mk hl136_1
     clear hi136_1 hl136_1
     have HR136_4 := Aside0.mk hi136_4
     have HC136_4 := Aside0.mk hl136_4
     clear hi136_4 hl136_4
     replace p136 := eq_true p136
     replace q136 := eq_true q136
     go_wp2_with (first | ((with_reducible refine gate_dst (N := 4) rfl ?_); (try (refine gate_guard (by rfl) ?_; dsimp only)); refine box_event ?hg (N := 4) ?hd (cs := #[.int .i64 0, .slice none 0 0, .int .i64 0, .int .i64 0, .slice none 0 0]) (t := 48) ?hr ?_; (case hd => rfl); (case hg => rfl); (case hr => first | (go_simp; done) | (go_simp; rfl)); intro gb137 hg w26 hbox hb; have n0_ := Aside0.mk (bB BK132.out hb); have n1_ := Aside0.mk (below_step (by repeat (first | (with_reducible first | exact HB.out | apply below_alloc | apply pw_below_drewN | apply below_drew1 | refine below_set ?_ GE132.out) | exact HB.out)) hb); have n2_ := Aside0.mk (hbox); have n3_ := Aside0.mk ((by rw [hg]; exact (below_size (by repeat (first | (with_reducible first | exact HB.out | apply below_alloc | apply pw_below_drewN | apply below_drew1 | refine below_set ?_ GE132.out) | exact HB.out))) : w.heap.size ≤ gb137)); have n4_ := n3_; have n5_ := Aside0.mk ((by rw [hg]; exact Nat.ne_of_lt (blk_lt BK132.out) : gb132 ≠ gb137)); have n6_ := Aside0.mk ((by rw [hg]; exact Nat.ne_of_gt (blk_lt BK132.out) : gb137 ≠ gb132)); clear BK132; clear HB; have BK132 := n0_; have HB := n1_; have BK137 := n2_; have GW137 := n3_; have GE137 := n4_; have NB132_137 := n5_; have NB137_132 := n6_; clear n0_ n1_ n2_ n3_ n4_ n5_ n6_; clear hb hbox hg; have hnb27 := NB137_132.out; have hnc27 := NB132_137.out; obtain ⟨hcz28_0, hcz28_1, hcz28_2, hcz28_3, hcz28_4, hfz28_0, hfz28_1, hfz28_2, hfz28_3, hfz28_4⟩ := blk5 BK137.out) | ((with_reducible refine gate_callee (f := 17) rfl ?_); refine goesL_ (some 38) rfl rfl Tryz.func17 (by kernel_rfl) rfl #[.int .i64 ((rd_T48 l0_1 x32_2).f0), .int .i64 0, .int .i64 4] rfl (by (try simp only [List.map_toArray, List.map_cons, List.map_nil]); first | done | rfl | (simp only [List.length_drop, List.length_take]; rfl)) ?_; (with_reducible refine (spec_l1In.calls ((rd_T48 l0_1 x32_2).f0) 0 4 false _ A17.out).mono ?_); rintro e w' ⟨rfl, ⟨nd, rfl⟩⟩; refine ⟨_, rfl, ?_⟩))
     go_ret
     exact ⟨by first | rfl | (simp [errW_none, errW_some] <;> rfl) | (simp [*, errW_none, errW_some] <;> rfl), by repeat (first | (with_reducible first | exact HB.out | apply below_alloc | apply pw_below_drewN | apply below_drew1 | refine below_set ?_ GE132.out | refine below_set ?_ GE137.out) | exact HB.out)⟩
   subst c18
   have H1 : (if (((rd_T48 l0_1 x32_2).f1).length : Int) > 80 then (some false) else (spec_GoodFunc.l0 k2 l0_1 (l0_1.length : Int) (wrap64 (x32_2 + 1)) a0_0 l0_1)) = some r := by rw [if_pos rfl] at H; exact H
   clear H
   have H := H1
   clear H1
   by_cases c19 : (((rd_T48 l0_1 x32_2).f1).length : Int) > 80
   · rw [if_pos c19] at H
     have c19b0 : decide (80 < (((rd_T48 l0_1 x32_2).f1).length : Int)) = true := decide_eq_true c19
     have c19b1 : decide (80 < ((rd_T48 l0_1 x32_2).f1).length) = true := decide_eq_true (by omega)
     clear c19
     obtain rfl := Option.some.inj H
     have p136 : 0 ≤ (x32_2 : Int) := of_decide_eq_true (by first | (with_reducible assumption) | assumption)
     have q136 : x32_2 < (l0_1.length : Int) := of_decide_eq_true (by first | (with_reducible assumption) | assumption)
     obtain ⟨ad136, A136_1, c136_1, A136_4, c136_4, e136, hx136_0, hx136_1, hx136_2, hx136_3, hx136_4, hl136_1, hi136_1, hl136_4, hi136_4⟩ := at_T48 HR0_1.out x32_2 p136 q136
     cases e136
     replace hx136_0 := cB HB.out hx136_0
     replace hx136_1 := cB HB.out hx136_1
     replace hx136_2 := cB HB.out hx136_2
     replace hx136_3 := cB HB.out hx136_3
     replace hx136_4 := cB HB.out hx136_4
     have HR136_1 := Aside0.mk hi136_1
     have HC136_1 := Aside0.mk hl136_1
     clear hi136_1 hl136_1
     have HR136_4 := Aside0.mk hi136_4
     have HC136_4 := Aside0.mk hl136_4
     clear hi136_4 hl136_4
     replace p136 := eq_true p136
     replace q136 := eq_true q136
     go_wp2_with (first | ((with_reducible refine gate_dst (N := 4) rfl ?_); (try (refine gate_guard (by rfl) ?_; dsimp only)); refine box_event ?hg (N := 4) ?hd (cs := #[.int .i64 0, .slice none 0 0, .int .i64 0, .int .i64 0, .slice none 0 0]) (t := 48) ?hr ?_; (case hd => rfl); (case hg => rfl); (case hr => first | (go_simp; done) | (go_simp; rfl)); intro gb137 hg w20 hbox hb; have n0_ := Aside0.mk (bB BK132.out hb); have n1_ := Aside0.mk (below_step (by repeat (first | (with_reducible first | exact HB.out | apply below_alloc | apply pw_below_drewN | apply below_drew1 | refine below_set ?_ GE132.out) | exact HB.out)) hb); have n2_ := Aside0.mk (hbox); have n3_ := Aside0.mk ((by rw [hg]; exact (below_size (by repeat (first | (with_reducible first | exact HB.out | apply below_alloc | apply pw_below_drewN | apply below_drew1 | refine below_set ?_ GE132.out) | exact HB.out))) : w.heap.size ≤ gb137)); have n4_ := n3_; have n5_ := Aside0.mk ((by rw [hg]; exact Nat.ne_of_lt (blk_lt BK132.out) : gb132 ≠ gb137)); have n6_ := Aside0.mk ((by rw [hg]; exact Nat.ne_of_gt (blk_lt BK132.out) : gb137 ≠ gb132)); clear BK132; clear HB; have BK132 := n0_; have HB := n1_; have BK137 := n2_; have GW137 := n3_; have GE137 := n4_; have NB132_137 := n5_; have NB137_132 := n6_; clear n0_ n1_ n2_ n3_ n4_ n5_ n6_; clear hb hbox hg; have hnb21 := NB137_132.out; have hnc21 := NB132_137.out; obtain ⟨hcz22_0, hcz22_1, hcz22_2, hcz22_3, hcz22_4, hfz22_0, hfz22_1, hfz22_2, hfz22_3, hfz22_4⟩ := blk5 BK137.out) | ((with_reducible refine gate_callee (f := 17) rfl ?_); refine goesL_ (some 38) rfl rfl Tryz.func17 (by kernel_rfl) rfl #[.int .i64 ((rd_T48 l0_1 x32_2).f0), .int .i64 0, .int .i64 4] rfl (by (try simp only [List.map_toArray, List.map_cons, List.map_nil]); first | done | rfl | (simp only [List.length_drop, List.length_take]; rfl)) ?_; (with_reducible refine (spec_l1In.calls ((rd_T48 l0_1 x32_2).f0) 0 4 true _ A17.out).mono ?_); rintro e w' ⟨rfl, ⟨nd, rfl⟩⟩; refine ⟨_, rfl, ?_⟩))
     go_ret
     exact ⟨by first | rfl | (simp [errW_none, errW_some] <;> rfl) | (simp [*, errW_none, errW_some] <;> rfl), by repeat (first | (with_reducible first | exact HB.out | apply below_alloc | apply pw_below_drewN | apply below_drew1 | refine below_set ?_ GE132.out | refine below_set ?_ GE137.out) | exact HB.out)⟩
   rw [if_neg c19] at H
   have c19b0 : decide (80 < (((rd_T48 l0_1 x32_2).f1).length : Int)) = false := decide_eq_false c19
   have c19b1 : decide (80 < ((rd_T48 l0_1 x32_2).f1).length) = false := decide_eq_false (by omega)
   clear c19
   have H' := Aside0.mk H
   clear H
   have p136 : 0 ≤ (x32_2 : Int) := of_decide_eq_true (by first | (with_reducible assumption) | assumption)
   have q136 : x32_2 < (l0_1.length : Int) := of_decide_eq_true (by first | (with_reducible assumption) | assumption)
   obtain ⟨ad136, A136_1, c136_1, A136_4, c136_4, e136, hx136_0, hx136_1, hx136_2, hx136_3, hx136_4, hl136_1, hi136_1, hl136_4, hi136_4⟩ := at_T48 HR0_1.out x32_2 p136 q136
   cases e136
   replace hx136_0 := cB HB.out hx136_0
   replace hx136_1 := cB HB.out hx136_1
   replace hx136_2 := cB HB.out hx136_2
   replace hx136_3 := cB HB.out hx136_3
   replace hx136_4 := cB HB.out hx136_4
   have HR136_1 := Aside0.mk hi136_1
   have HC136_1 := Aside0.mk hl136_1
   clear hi136_1 hl136_1
   have HR136_4 := Aside0.mk hi136_4
   have HC136_4 := Aside0.mk hl136_4
   clear hi136_4 hl136_4
   replace p136 := eq_true p136
   replace q136 := eq_true q136
   go_wp2_with (first | ((with_reducible refine gate_dst (N := 4) rfl ?_); (try (refine gate_guard (by rfl) ?_; dsimp only)); refine box_event ?hg (N := 4) ?hd (cs := #[.int .i64 0, .slice none 0 0, .int .i64 0, .int .i64 0, .slice none 0 0]) (t := 48) ?hr ?_; (case hd => rfl); (case hg => rfl); (case hr => first | (go_simp; done) | (go_simp; rfl)); intro gb137 hg w23 hbox hb; have n0_ := Aside0.mk (bB BK132.out hb); have n1_ := Aside0.mk (below_step (by repeat (first | (with_reducible first | exact HB.out | apply below_alloc | apply pw_below_drewN | apply below_drew1 | refine below_set ?_ GE132.out) | exact HB.out)) hb); have n2_ := Aside0.mk (hbox); have n3_ := Aside0.mk ((by rw [hg]; exact (below_size (by repeat (first | (with_reducible first | exact HB.out | apply below_alloc | apply pw_below_drewN | apply below_drew1 | refine below_set ?_ GE132.out) | exact HB.out))) : w.heap.size ≤ gb137)); have n4_ := n3_; have n5_ := Aside0.mk ((by rw [hg]; exact Nat.ne_of_lt (blk_lt BK132.out) : gb132 ≠ gb137)); have n6_ := Aside0.mk ((by rw [hg]; exact Nat.ne_of_gt (blk_lt BK132.out) : gb137 ≠ gb132)); clear BK132; clear HB; have BK132 := n0_; have HB := n1_; have BK137 := n2_; have GW137 := n3_; have GE137 := n4_; have NB132_137 := n5_; have NB137_132 := n6_; clear n0_ n1_ n2_ n3_ n4_ n5_ n6_; clear hb hbox hg; have hnb24 := NB137_132.out; have hnc24 := NB132_137.out; obtain ⟨hcz25_0, hcz25_1, hcz25_2, hcz25_3, hcz25_4, hfz25_0, hfz25_1, hfz25_2, hfz25_3, hfz25_4⟩ := blk5 BK137.out) | ((with_reducible refine gate_callee (f := 17) rfl ?_); refine goesL_ (some 38) rfl rfl Tryz.func17 (by kernel_rfl) rfl #[.int .i64 ((rd_T48 l0_1 x32_2).f0), .int .i64 0, .int .i64 4] rfl (by (try simp only [List.map_toArray, List.map_cons, List.map_nil]); first | done | rfl | (simp only [List.length_drop, List.length_take]; rfl)) ?_; (with_reducible refine (spec_l1In.calls ((rd_T48 l0_1 x32_2).f0) 0 4 true _ A17.out).mono ?_); rintro e w' ⟨rfl, ⟨nd, rfl⟩⟩; refine ⟨_, rfl, ?_⟩))
   go_roundg k2
   case measure => have := HJ1.out; have := HK2.out; omega
   exact ⟨(wrap64 (x32_2 + 1)), (by first | rfl | (simp; done) | (simp [*]; done)), H', ⟨by have := HJ1.out; have := HK2.out; omega⟩, ⟨by (with_reducible repeat (first | refine blk_drewN ?_ _ | refine blk_drew ?_ | refine blk_alloc ?_ _)); refine blk_far ?_ NB132_137.out _; (with_reducible repeat (first | refine blk_drewN ?_ _ | refine blk_drew ?_ | refine blk_alloc ?_ _)); refine blk_far ?_ NB132_137.out _; (with_reducible repeat (first | refine blk_drewN ?_ _ | refine blk_drew ?_ | refine blk_alloc ?_ _)); refine blk_far ?_ NB132_137.out _; (with_reducible repeat (first | refine blk_drewN ?_ _ | refine blk_drew ?_ | refine blk_alloc ?_ _)); refine blk_far ?_ NB132_137.out _; (with_reducible repeat (first | refine blk_drewN ?_ _ | refine blk_drew ?_ | refine blk_alloc ?_ _)); refine blk_far ?_ NB132_137.out _; (with_reducible repeat (first | refine blk_drewN ?_ _ | refine blk_drew ?_ | refine blk_alloc ?_ _)); exact BK132.out⟩, ⟨by repeat (first | (with_reducible first | exact HB.out | apply below_alloc | apply pw_below_drewN | apply below_drew1 | refine below_set ?_ GE132.out | refine below_set ?_ GE137.out) | exact HB.out)⟩⟩
 rw [if_neg c14] at H
 have c14b0 : decide (x32_2 < (l0_1.length : Int)) = false := decide_eq_false c14
 clear c14
 replace H := Option.bind_eq_some_iff.mp H
 obtain ⟨t139, A290, H⟩ := H
 replace H : (if t139 > 80 then (some false) else (spec_GoodFunc.l1 k2 t139 l0_1 (l0_1.length : Int) 0 a0_0 l0_1)) = some r := H
 have A29 := Aside0.mk A290
 clear A290
 by_cases c30 : t139 > 80
 · rw [if_pos c30] at H
   have c30b0 : decide (80 < t139) = true := decide_eq_true c30
   clear c30
   obtain rfl := Option.some.inj H
   obtain ⟨hcz31_0, hcz31_1, hfz31_0, hfz31_1⟩ := blk2 BK132.out
   go_wp2_with (first | ((with_reducible refine gate_callee (f := 18) rfl ?_); refine goesL_ (some 48) rfl rfl Tryz.func18 (by kernel_rfl) rfl #[.agg #[.int .i64 a0_0, .slice A0_1 l0_1.length c0_1]] rfl (by (try simp only [List.map_toArray, List.map_cons, List.map_nil]); first | done | rfl | (simp only [List.length_drop, List.length_take]; rfl)) ?_; (with_reducible refine (spec_l12Count.calls k2 a0_0 _ _ l0_1 t139 _ ?side1 ?side2 A29.out).mono ?_); (case side1 => repeat (first | exact (Kd.C_below HR0_1.out HB.out) | (with_reducible refine Kd.C_alloc ?_ _) | (with_reducible refine Kd.C_drewN ?_ _) | (with_reducible refine Kd.C_drew ?_))); (case side2 => exact HC0_1.out); rintro e w32 ⟨rfl, hb⟩; refine ⟨_, rfl, ?_⟩; have n0_ := Aside0.mk (bB BK132.out hb); have n1_ := Aside0.mk (below_step (by repeat (first | (with_reducible first | exact HB.out | apply below_alloc | apply pw_below_drewN | apply below_drew1 | refine below_set ?_ GE132.out) | exact HB.out)) hb); clear BK132; clear HB; have BK132 := n0_; have HB := n1_; clear n0_ n1_; (try clear hb); (try clear hb2); (try clear hk); (try clear hi)))
   go_ret
   exact ⟨by first | rfl | (simp [errW_none, errW_some] <;> rfl) | (simp [*, errW_none, errW_some] <;> rfl), by repeat (first | (with_reducible first | exact HB.out | apply below_alloc | apply pw_below_drewN | apply below_drew1 | refine below_set ?_ GE132.out) | exact HB.out)⟩
 rw [if_neg c30] at H
 have c30b0 : decide (80 < t139) = false := decide_eq_false c30
 clear c30
 have H' := Aside0.mk H
 clear H
 obtain ⟨hcz33_0, hcz33_1, hfz33_0, hfz33_1⟩ := blk2 BK132.out
 go_wp2_with (first | ((with_reducible refine gate_callee (f := 18) rfl ?_); refine goesL_ (some 48) rfl rfl Tryz.func18 (by kernel_rfl) rfl #[.agg #[.int .i64 a0_0, .slice A0_1 l0_1.length c0_1]] rfl (by (try simp only [List.map_toArray, List.map_cons, List.map_nil]); first | done | rfl | (simp only [List.length_drop, List.length_take]; rfl)) ?_; (with_reducible refine (spec_l12Count.calls k2 a0_0 _ _ l0_1 t139 _ ?side1 ?side2 A29.out).mono ?_); (case side1 => repeat (first | exact (Kd.C_below HR0_1.out HB.out) | (with_reducible refine Kd.C_alloc ?_ _) | (with_reducible refine Kd.C_drewN ?_ _) | (with_reducible refine Kd.C_drew ?_))); (case side2 => exact HC0_1.out); rintro e w34 ⟨rfl, hb⟩; refine ⟨_, rfl, ?_⟩; have n0_ := Aside0.mk (bB BK132.out hb); have n1_ := Aside0.mk (below_step (by repeat (first | (with_reducible first | exact HB.out | apply below_alloc | apply pw_below_drewN | apply below_drew1 | refine below_set ?_ GE132.out) | exact HB.out)) hb); clear BK132; clear HB; have BK132 := n0_; have HB := n1_; clear n0_ n1_; (try clear hb); (try clear hb2); (try clear hk); (try clear hi); obtain ⟨hcz35_0, hcz35_1, hfz35_0, hfz35_1⟩ := blk2 BK132.out))
 go_loopg [54] k2 (fun kq v54 w' => ∃ (x54_3 : Int), v54 = .int .i64 x54_3 ∧ Aside0 (spec_GoodFunc.l1 kq t139 l0_1 (l0_1.length : Int) x54_3 a0_0 l0_1 = some r) ∧ Aside0 (kq ≤ k2) ∧ Aside0 (w'.heap[gb132]? = some (.cells #[.int .i64 a0_0, (.slice A0_1 l0_1.length c0_1)] 30 (0, 0))) ∧ Aside0 (Below w.heap.size w w'))
 case atStart => exact ⟨(0), (by first | rfl | (simp; done) | (simp [*]; done)), H', ⟨Nat.le_refl _⟩, ⟨by (with_reducible repeat (first | refine blk_drewN ?_ _ | refine blk_drew ?_ | refine blk_alloc ?_ _)); exact BK132.out⟩, ⟨by repeat (first | (with_reducible first | exact HB.out | apply below_alloc | apply pw_below_drewN | apply below_drew1 | refine below_set ?_ GE132.out) | exact HB.out)⟩⟩
 clear H'
 try clear c1
 try clear p1
 try clear q1
 try clear hx1
 try clear qi1
 try clear c2
 try clear p2
 try clear c3
 try clear c5
 try clear p6
 try clear c7
 try clear c8
 try clear c8b0
 try clear c8b1
 try clear c10
 try clear c12
 try clear c13
 try clear p13
 try clear q13
 try clear hx13
 try clear qi13
 try clear c14
 try clear c14b0
 try clear c15
 try clear c15b0
 try clear c16
 try clear c16b0
 try clear c17
 try clear c18
 try clear c19
 try clear c19b0
 try clear c19b1
 try clear c21
 try clear c24
 try clear c27
 try clear c30
 try clear c30b0
 try clear hcz10_0
 try clear hcz10_1
 try clear hcz11_0
 try clear hcz11_1
 try clear hcz13_0
 try clear hcz13_1
 try clear hcz22_0
 try clear hcz22_1
 try clear hcz22_2
 try clear hcz22_3
 try clear hcz22_4
 try clear hcz25_0
 try clear hcz25_1
 try clear hcz25_2
 try clear hcz25_3
 try clear hcz25_4
 try clear hcz28_0
 try clear hcz28_1
 try clear hcz28_2
 try clear hcz28_3
 try clear hcz28_4
 try clear hcz31_0
 try clear hcz31_1
 try clear hcz33_0
 try clear hcz33_1
 try clear hcz35_0
 try clear hcz35_1
 try clear hcz9_0
 try clear hcz9_1
 try clear hfz10_0
 try clear hfz10_1
 try clear hfz11_0
 try clear hfz11_1
 try clear hfz13_0
 try clear hfz13_1
 try clear hfz22_0
 try clear hfz22_1
 try clear hfz22_2
 try clear hfz22_3
 try clear hfz22_4
 try clear hfz25_0
 try clear hfz25_1
 try clear hfz25_2
 try clear hfz25_3
 try clear hfz25_4
 try clear hfz28_0
 try clear hfz28_1
 try clear hfz28_2
 try clear hfz28_3
 try clear hfz28_4
 try clear hfz31_0
 try clear hfz31_1
 try clear hfz33_0
 try clear hfz33_1
 try clear hfz35_0
 try clear hfz35_1
 try clear hfz9_0
 try clear hfz9_1
 try clear hx135_0
 try clear hx135_1
 try clear hx135_2
 try clear hx135_3
 try clear hx135_4
 try clear hx136_0
 try clear hx136_1
 try clear hx136_2
 try clear hx136_3
 try clear hx136_4
 try clear p1
 try clear p13
 try clear p135
 try clear p136
 try clear p2
 try clear q1
 try clear q13
 try clear q135
 try clear q136
 obtain ⟨x54_3, rfl, HA, HK3, BK132, HB⟩ := hrel
 rcases gk with _ | k3
 · exact absurd HA.out (by simp [spec_GoodFunc.l1])
 have H := HA.out
 clear HA
 simp only [spec_GoodFunc.l1] at H
 by_cases c36 : x54_3 < (l0_1.length : Int)
 rotate_left
 · rw [if_neg c36] at H
   have c36b0 : decide (x54_3 < (l0_1.length : Int)) = false := decide_eq_false c36
   clear c36
   obtain rfl := Option.some.inj H
   go_wp2
   go_ret
   exact ⟨by first | rfl | (simp [errW_none, errW_some] <;> rfl) | (simp [*, errW_none, errW_some] <;> rfl), by repeat (first | (with_reducible first | exact HB.out | apply below_alloc | apply pw_below_drewN | apply below_drew1 | refine below_set ?_ GE132.out) | exact HB.out)⟩
 rw [if_pos c36] at H
 have c36b0 : decide (x54_3 < (l0_1.length : Int)) = true := decide_eq_true c36
 clear c36
 by_cases c37 : 0 ≤ x54_3
 rotate_left
 · rw [if_neg c37] at H
   exact absurd H (by simp)
 rw [if_pos c37] at H
 have c37b0 : decide (0 ≤ x54_3) = true := decide_eq_true c37
 clear c37
 by_cases c38 : x54_3 < (l0_1.length : Int)
 rotate_left
 · rw [if_neg c38] at H
   exact absurd H (by simp)
 rw [if_pos c38] at H
 have c38b0 : decide (x54_3 < (l0_1.length : Int)) = true := decide_eq_true c38
 clear c38
 have H' := Aside0.mk H
 clear H
 have p140 : 0 ≤ (x54_3 : Int) := of_decide_eq_true (by first | (with_reducible assumption) | assumption)
 have q140 : x54_3 < (l0_1.length : Int) := of_decide_eq_true (by first | (with_reducible assumption) | assumption)
 obtain ⟨ad140, A140_1, c140_1, A140_4, c140_4, e140, hx140_0, hx140_1, hx140_2, hx140_3, hx140_4, hl140_1, hi140_1, hl140_4, hi140_4⟩ := at_T48 HR0_1.out x54_3 p140 q140
 cases e140
 replace hx140_0 := cB HB.out hx140_0
 replace hx140_1 := cB HB.out hx140_1
 replace hx140_2 := cB HB.out hx140_2
 replace hx140_3 := cB HB.out hx140_3
 replace hx140_4 := cB HB.out hx140_4
 have HR140_1 := Aside0.mk hi140_1
 have HC140_1 := Aside0.mk hl140_1
 clear hi140_1 hl140_1
 have HR140_4 := Aside0.mk hi140_4
 have HC140_4 := Aside0.mk hl140_4
 clear hi140_4 hl140_4
 replace p140 := eq_true p140
 replace q140 := eq_true q140
 go_wp2_with (first | ((with_reducible refine gate_dst (N := 7) rfl ?_); (try (refine gate_guard (by rfl) ?_; dsimp only)); refine box_event ?hg (N := 7) ?hd (cs := #[.int .i64 0, .slice none 0 0, .int .i64 0, .int .i64 0, .slice none 0 0]) (t := 48) ?hr ?_; (case hd => rfl); (case hg => rfl); (case hr => first | (go_simp; done) | (go_simp; rfl)); intro gb141 hg w39 hbox hb; have n0_ := Aside0.mk (bB BK132.out hb); have n1_ := Aside0.mk (below_step (by repeat (first | (with_reducible first | exact HB.out | apply below_alloc | apply pw_below_drewN | apply below_drew1 | refine below_set ?_ GE132.out) | exact HB.out)) hb); have n2_ := Aside0.mk (hbox); have n3_ := Aside0.mk ((by rw [hg]; exact (below_size (by repeat (first | (with_reducible first | exact HB.out | apply below_alloc | apply pw_below_drewN | apply below_drew1 | refine below_set ?_ GE132.out) | exact HB.out))) : w.heap.size ≤ gb141)); have n4_ := n3_; have n5_ := Aside0.mk ((by rw [hg]; exact Nat.ne_of_lt (blk_lt BK132.out) : gb132 ≠ gb141)); have n6_ := Aside0.mk ((by rw [hg]; exact Nat.ne_of_gt (blk_lt BK132.out) : gb141 ≠ gb132)); clear BK132; clear HB; have BK132 := n0_; have HB := n1_; have BK141 := n2_; have GW141 := n3_; have GE141 := n4_; have NB132_141 := n5_; have NB141_132 := n6_; clear n0_ n1_ n2_ n3_ n4_ n5_ n6_; clear hb hbox hg; have hnb40 := NB141_132.out; have hnc40 := NB132_141.out; obtain ⟨hcz41_0, hcz41_1, hcz41_2, hcz41_3, hcz41_4, hfz41_0, hfz41_1, hfz41_2, hfz41_3, hfz41_4⟩ := blk5 BK141.out))
 go_loopg [61] k3 (fun kq v61 w' => ∃ (x61_4 : Int), v61 = .int .i64 x61_4 ∧ Aside0 (spec_GoodFunc.l2 kq t139 l0_1 (l0_1.length : Int) x54_3 ((rd_T48 l0_1 x54_3).f1) (((rd_T48 l0_1 x54_3).f1).length : Int) x61_4 a0_0 l0_1 ((rd_T48 l0_1 x54_3).f0) ((rd_T48 l0_1 x54_3).f1) ((rd_T48 l0_1 x54_3).f2) ((rd_T48 l0_1 x54_3).f3) ((rd_T48 l0_1 x54_3).f4) = some r) ∧ Aside0 (kq ≤ k3) ∧ Aside0 (w'.heap[gb132]? = some (.cells #[.int .i64 a0_0, (.slice (some ad140) l0_1.length c0_1)] 30 (0, 0))) ∧ Aside0 (w'.heap[gb141]? = some (.cells #[.int .i64 ((rd_T48 l0_1 x54_3).f0), (.slice A140_1 ((rd_T48 l0_1 x54_3).f1).length c140_1), .int .i64 ((rd_T48 l0_1 x54_3).f2), .int .i64 ((rd_T48 l0_1 x54_3).f3), (.slice A140_4 ((rd_T48 l0_1 x54_3).f4).length c140_4)] 48 (0, 0))) ∧ Aside0 (Below w.heap.size w w'))
 case atStart => exact ⟨(0), (by first | rfl | (simp; done) | (simp [*]; done)), H', ⟨Nat.le_refl _⟩, ⟨by (with_reducible repeat (first | refine blk_drewN ?_ _ | refine blk_drew ?_ | refine blk_alloc ?_ _)); refine blk_far ?_ NB132_141.out _; (with_reducible repeat (first | refine blk_drewN ?_ _ | refine blk_drew ?_ | refine blk_alloc ?_ _)); refine blk_far ?_ NB132_141.out _; (with_reducible repeat (first | refine blk_drewN ?_ _ | refine blk_drew ?_ | refine blk_alloc ?_ _)); refine blk_far ?_ NB132_141.out _; (with_reducible repeat (first | refine blk_drewN ?_ _ | refine blk_drew ?_ | refine blk_alloc ?_ _)); refine blk_far ?_ NB132_141.out _; (with_reducible repeat (first | refine blk_drewN ?_ _ | refine blk_drew ?_ | refine blk_alloc ?_ _)); refine blk_far ?_ NB132_141.out _; (with_reducible repeat (first | refine blk_drewN ?_ _ | refine blk_drew ?_ | refine blk_alloc ?_ _)); exact BK132.out⟩, ⟨by (with_reducible repeat (first | refine blk_drewN ?_ _ | refine blk_drew ?_ | refine blk_alloc ?_ _)); refine blk_put (cs := #[.int .i64 ((rd_T48 l0_1 x54_3).f0), .slice A140_1 ((rd_T48 l0_1 x54_3).f1).length c140_1, .int .i64 ((rd_T48 l0_1 x54_3).f2), .int .i64 ((rd_T48 l0_1 x54_3).f3), .slice none 0 0]) ?_ 4 _ rfl; (with_reducible repeat (first | refine blk_drewN ?_ _ | refine blk_drew ?_ | refine blk_alloc ?_ _)); refine blk_put (cs := #[.int .i64 ((rd_T48 l0_1 x54_3).f0), .slice A140_1 ((rd_T48 l0_1 x54_3).f1).length c140_1, .int .i64 ((rd_T48 l0_1 x54_3).f2), .int .i64 0, .slice none 0 0]) ?_ 3 _ rfl; (with_reducible repeat (first | refine blk_drewN ?_ _ | refine blk_drew ?_ | refine blk_alloc ?_ _)); refine blk_put (cs := #[.int .i64 ((rd_T48 l0_1 x54_3).f0), .slice A140_1 ((rd_T48 l0_1 x54_3).f1).length c140_1, .int .i64 0, .int .i64 0, .slice none 0 0]) ?_ 2 _ rfl; (with_reducible repeat (first | refine blk_drewN ?_ _ | refine blk_drew ?_ | refine blk_alloc ?_ _)); refine blk_put (cs := #[.int .i64 ((rd_T48 l0_1 x54_3).f0), .slice none 0 0, .int .i64 0, .int .i64 0, .slice none 0 0]) ?_ 1 _ rfl; (with_reducible repeat (first | refine blk_drewN ?_ _ | refine blk_drew ?_ | refine blk_alloc ?_ _)); refine blk_put (cs := #[.int .i64 0, .slice none 0 0, .int .i64 0, .int .i64 0, .slice none 0 0]) ?_ 0 _ rfl; (with_reducible repeat (first | refine blk_drewN ?_ _ | refine blk_drew ?_ | refine blk_alloc ?_ _)); exact BK141.out⟩, ⟨by repeat (first | (with_reducible first | exact HB.out | apply below_alloc | apply pw_below_drewN | apply below_drew1 | refine below_set ?_ GE132.out | refine below_set ?_ GE141.out) | exact HB.out)⟩⟩
 clear H'
 try clear c1
 try clear p1
 try clear q1
 try clear hx1
 try clear qi1
 try clear c2
 try clear p2
 try clear c3
 try clear c4
 try clear c5
 try clear p6
 try clear c7
 try clear c8
 try clear c8b0
 try clear c8b1
 try clear c10
 try clear c12
 try clear c13
 try clear p13
 try clear q13
 try clear hx13
 try clear qi13
 try clear c14
 try clear c14b0
 try clear p14
 try clear q14
 try clear hx14
 try clear c15
 try clear c15b0
 try clear c16
 try clear c16b0
 try clear c17
 try clear c18
 try clear c19
 try clear c19b0
 try clear c19b1
 try clear c21
 try clear c24
 try clear c27
 try clear c30
 try clear c30b0
 try clear c36
 try clear c36b0
 try clear c37
 try clear c37b0
 try clear c38
 try clear c38b0
 try clear c40
 try clear hcz10_0
 try clear hcz10_1
 try clear hcz11_0
 try clear hcz11_1
 try clear hcz13_0
 try clear hcz13_1
 try clear hcz22_0
 try clear hcz22_1
 try clear hcz22_2
 try clear hcz22_3
 try clear hcz22_4
 try clear hcz25_0
 try clear hcz25_1
 try clear hcz25_2
 try clear hcz25_3
 try clear hcz25_4
 try clear hcz28_0
 try clear hcz28_1
 try clear hcz28_2
 try clear hcz28_3
 try clear hcz28_4
 try clear hcz31_0
 try clear hcz31_1
 try clear hcz33_0
 try clear hcz33_1
 try clear hcz35_0
 try clear hcz35_1
 try clear hcz41_0
 try clear hcz41_1
 try clear hcz41_2
 try clear hcz41_3
 try clear hcz41_4
 try clear hcz9_0
 try clear hcz9_1
 try clear hfz10_0
 try clear hfz10_1
 try clear hfz11_0
 try clear hfz11_1
 try clear hfz13_0
 try clear hfz13_1
 try clear hfz22_0
 try clear hfz22_1
 try clear hfz22_2
 try clear hfz22_3
 try clear hfz22_4
 try clear hfz25_0
 try clear hfz25_1
 try clear hfz25_2
 try clear hfz25_3
 try clear hfz25_4
 try clear hfz28_0
 try clear hfz28_1
 try clear hfz28_2
 try clear hfz28_3
 try clear hfz28_4
 try clear hfz31_0
 try clear hfz31_1
 try clear hfz33_0
 try clear hfz33_1
 try clear hfz35_0
 try clear hfz35_1
 try clear hfz41_0
 try clear hfz41_1
 try clear hfz41_2
 try clear hfz41_3
 try clear hfz41_4
 try clear hfz9_0
 try clear hfz9_1
 try clear hx135_0
 try clear hx135_1
 try clear hx135_2
 try clear hx135_3
 try clear hx135_4
 try clear hx136_0
 try clear hx136_1
 try clear hx136_2
 try clear hx136_3
 try clear hx136_4
 try clear hx140_0
 try clear hx140_1
 try clear hx140_2
 try clear hx140_3
 try clear hx140_4
 try clear p1
 try clear p13
 try clear p135
 try clear p136
 try clear p140
 try clear p2
 try clear p6
 try clear q1
 try clear q13
 try clear q135
 try clear q136
 try clear q140
 obtain ⟨x61_4, rfl, HA, HK4, BK132, BK141, HB⟩ := hrel
 rcases gk with _ | k4
 · exact absurd HA.out (by simp [spec_GoodFunc.l2])
 have H := HA.out
 clear HA
 simp only [spec_GoodFunc.l2] at H
 by_cases c42 : x61_4 < (((rd_T48 l0_1 x54_3).f1).length : Int)
 rotate_left
 · rw [if_neg c42] at H
   have c42b0 : decide (x61_4 < (((rd_T48 l0_1 x54_3).f1).length : Int)) = false := decide_eq_false c42
   clear c42
   replace H := Option.bind_eq_some_iff.mp H
   obtain ⟨t142, A890, H⟩ := H
   replace H : (if t142 = true then (spec_GoodFunc.l1 k4 t139 l0_1 (l0_1.length : Int) (wrap64 (x54_3 + 1)) a0_0 l0_1) else (some false)) = some r := H
   have A89 := Aside0.mk A890
   clear A890
   by_cases c90 : t142 = true
   · subst c90
     have H1 : (spec_GoodFunc.l1 k4 t139 l0_1 (l0_1.length : Int) (wrap64 (x54_3 + 1)) a0_0 l0_1) = some r := by rw [if_pos rfl] at H; exact H
     clear H
     have H := H1
     clear H1
     have H' := Aside0.mk H
     clear H
     have hnb91 := NB132_141.out
     have hnc91 := NB141_132.out
     obtain ⟨hcz92_0, hcz92_1, hfz92_0, hfz92_1⟩ := blk2 BK132.out
     obtain ⟨hcz93_0, hcz93_1, hcz93_2, hcz93_3, hcz93_4, hfz93_0, hfz93_1, hfz93_2, hfz93_3, hfz93_4⟩ := blk5 BK141.out
     go_wp2_with (first | ((with_reducible refine gate_callee (f := 21) rfl ?_); refine goesL_ (some 100) rfl rfl Tryz.func21 (by kernel_rfl) rfl #[.agg #[.int .i64 a0_0, .slice (some ad140) l0_1.length c0_1], .agg #[.int .i64 ((rd_T48 l0_1 x54_3).f0), .slice A140_1 ((rd_T48 l0_1 x54_3).f1).length c140_1, .int .i64 ((rd_T48 l0_1 x54_3).f2), .int .i64 ((rd_T48 l0_1 x54_3).f3), .slice A140_4 ((rd_T48 l0_1 x54_3).f4).length c140_4], .int .i64 t139] rfl (by (try simp only [List.map_toArray, List.map_cons, List.map_nil]); first | done | rfl | (simp only [List.length_drop, List.length_take]; rfl)) ?_; (with_reducible refine (spec_l12Ends.calls k4 a0_0 _ _ l0_1 ((rd_T48 l0_1 x54_3).f0) _ _ ((rd_T48 l0_1 x54_3).f1) ((rd_T48 l0_1 x54_3).f2) ((rd_T48 l0_1 x54_3).f3) _ _ ((rd_T48 l0_1 x54_3).f4) t139 true _ ?side1 ?side2 ?side3 ?side4 ?side5 ?side6 A89.out).mono ?_); (case side1 => repeat (first | exact (Kd.C_below HR0_1.out HB.out) | (with_reducible refine Kd.C_alloc ?_ _) | (with_reducible refine Kd.C_drewN ?_ _) | (with_reducible refine Kd.C_drew ?_))); (case side2 => exact HC0_1.out); (case side3 => repeat (first | exact (Kd.C_below HR140_1.out HB.out) | (with_reducible refine Kd.C_alloc ?_ _) | (with_reducible refine Kd.C_drewN ?_ _) | (with_reducible refine Kd.C_drew ?_))); (case side4 => exact HC140_1.out); (case side5 => repeat (first | exact (Kd.C_below HR140_4.out HB.out) | (with_reducible refine Kd.C_alloc ?_ _) | (with_reducible refine Kd.C_drewN ?_ _) | (with_reducible refine Kd.C_drew ?_))); (case side6 => exact HC140_4.out); rintro e w94 ⟨rfl, hb⟩; refine ⟨_, rfl, ?_⟩; have n0_ := Aside0.mk (bB BK132.out hb); have n1_ := Aside0.mk (bB BK141.out hb); have n2_ := Aside0.mk (below_step (by repeat (first | (with_reducible first | exact HB.out | apply below_alloc | apply pw_below_drewN | apply below_drew1 | refine below_set ?_ GE132.out | refine below_set ?_ GE141.out) | exact HB.out)) hb); clear BK132; clear BK141; clear HB; have BK132 := n0_; have BK141 := n1_; have HB := n2_; clear n0_ n1_ n2_; (try clear hb); (try clear hb2); (try clear hk); (try clear hi)))
     go_roundg k4
     case measure => have := HJ1.out; have := HK2.out; have := HK3.out; have := HK4.out; omega
     exact ⟨(wrap64 (x54_3 + 1)), (by first | rfl | (simp; done) | (simp [*]; done)), H', ⟨by have := HJ1.out; have := HK2.out; have := HK3.out; have := HK4.out; omega⟩, ⟨by (with_reducible repeat (first | refine blk_drewN ?_ _ | refine blk_drew ?_ | refine blk_alloc ?_ _)); exact BK132.out⟩, ⟨by repeat (first | (with_reducible first | exact HB.out | apply below_alloc | apply pw_below_drewN | apply below_drew1 | refine below_set ?_ GE132.out | refine below_set ?_ GE141.out) | exact HB.out)⟩⟩
   replace c90 := Bool.eq_false_iff.mpr c90
   subst c90
   have H1 : (some false) = some r := by rw [if_neg (show ¬ (false = true) by decide)] at H; exact H
   clear H
   have H := H1
   clear H1
   obtain rfl := Option.some.inj H
   have hnb95 := NB132_141.out
   have hnc95 := NB141_132.out
   obtain ⟨hcz96_0, hcz96_1, hfz96_0, hfz96_1⟩ := blk2 BK132.out
   obtain ⟨hcz97_0, hcz97_1, hcz97_2, hcz97_3, hcz97_4, hfz97_0, hfz97_1, hfz97_2, hfz97_3, hfz97_4⟩ := blk5 BK141.out
   go_wp2_with (first | ((with_reducible refine gate_callee (f := 21) rfl ?_); refine goesL_ (some 100) rfl rfl Tryz.func21 (by kernel_rfl) rfl #[.agg #[.int .i64 a0_0, .slice (some ad140) l0_1.length c0_1], .agg #[.int .i64 ((rd_T48 l0_1 x54_3).f0), .slice A140_1 ((rd_T48 l0_1 x54_3).f1).length c140_1, .int .i64 ((rd_T48 l0_1 x54_3).f2), .int .i64 ((rd_T48 l0_1 x54_3).f3), .slice A140_4 ((rd_T48 l0_1 x54_3).f4).length c140_4], .int .i64 t139] rfl (by (try simp only [List.map_toArray, List.map_cons, List.map_nil]); first | done | rfl | (simp only [List.length_drop, List.length_take]; rfl)) ?_; (with_reducible refine (spec_l12Ends.calls k4 a0_0 _ _ l0_1 ((rd_T48 l0_1 x54_3).f0) _ _ ((rd_T48 l0_1 x54_3).f1) ((rd_T48 l0_1 x54_3).f2) ((rd_T48 l0_1 x54_3).f3) _ _ ((rd_T48 l0_1 x54_3).f4) t139 false _ ?side1 ?side2 ?side3 ?side4 ?side5 ?side6 A89.out).mono ?_); (case side1 => repeat (first | exact (Kd.C_below HR0_1.out HB.out) | (with_reducible refine Kd.C_alloc ?_ _) | (with_reducible refine Kd.C_drewN ?_ _) | (with_reducible refine Kd.C_drew ?_))); (case side2 => exact HC0_1.out); (case side3 => repeat (first | exact (Kd.C_below HR140_1.out HB.out) | (with_reducible refine Kd.C_alloc ?_ _) | (with_reducible refine Kd.C_drewN ?_ _) | (with_reducible refine Kd.C_drew ?_))); (case side4 => exact HC140_1.out); (case side5 => repeat (first | exact (Kd.C_below HR140_4.out HB.out) | (with_reducible refine Kd.C_alloc ?_ _) | (with_reducible refine Kd.C_drewN ?_ _) | (with_reducible refine Kd.C_drew ?_))); (case side6 => exact HC140_4.out); rintro e w98 ⟨rfl, hb⟩; refine ⟨_, rfl, ?_⟩; have n0_ := Aside0.mk (bB BK132.out hb); have n1_ := Aside0.mk (bB BK141.out hb); have n2_ := Aside0.mk (below_step (by repeat (first | (with_reducible first | exact HB.out | apply below_alloc | apply pw_below_drewN | apply below_drew1 | refine below_set ?_ GE132.out | refine below_set ?_ GE141.out) | exact HB.out)) hb); clear BK132; clear BK141; clear HB; have BK132 := n0_; have BK141 := n1_; have HB := n2_; clear n0_ n1_ n2_; (try clear hb); (try clear hb2); (try clear hk); (try clear hi)))
   go_ret
   exact ⟨by first | rfl | (simp [errW_none, errW_some] <;> rfl) | (simp [*, errW_none, errW_some] <;> rfl), by repeat (first | (with_reducible first | exact HB.out | apply below_alloc | apply pw_below_drewN | apply below_drew1 | refine below_set ?_ GE132.out | refine below_set ?_ GE141.out) | exact HB.out)⟩
 rw [if_pos c42] at H
 have c42b0 : decide (x61_4 < (((rd_T48 l0_1 x54_3).f1).length : Int)) = true := decide_eq_true c42
 clear c42
 by_cases c43 : 0 ≤ x61_4
 rotate_left
 · rw [if_neg c43] at H
   exact absurd H (by simp)
 rw [if_pos c43] at H
 have c43b0 : decide (0 ≤ x61_4) = true := decide_eq_true c43
 clear c43
 by_cases c44 : x61_4 < (((rd_T48 l0_1 x54_3).f1).length : Int)
 rotate_left
 · rw [if_neg c44] at H
   exact absurd H (by simp)
 rw [if_pos c44] at H
 have c44b0 : decide (x61_4 < (((rd_T48 l0_1 x54_3).f1).length : Int)) = true := decide_eq_true c44
 clear c44
 replace H := Option.bind_eq_some_iff.mp H
 obtain ⟨t145, A450, H⟩ := H
 replace H : (if t145 < 0 then (some false) else ((spec_l12Arity.f k4 ((rd_T52 ((rd_T48 l0_1 x54_3).f1) x61_4).f0)).bind fun t146 => (if (((rd_T52 ((rd_T48 l0_1 x54_3).f1) x61_4).f2).length : Int) = t146 then ((spec_l1All.f k4 ((rd_T52 ((rd_T48 l0_1 x54_3).f1) x61_4).f2) 0 (wrap64 (t139 - 1))).bind fun t147 => (if t147 = true then (if ((rd_T52 ((rd_T48 l0_1 x54_3).f1) x61_4).f0) = 1 then (spec_GoodFunc.l2 k4 t139 l0_1 (l0_1.length : Int) x54_3 ((rd_T48 l0_1 x54_3).f1) (((rd_T48 l0_1 x54_3).f1).length : Int) (wrap64 (x61_4 + 1)) a0_0 l0_1 ((rd_T48 l0_1 x54_3).f0) ((rd_T48 l0_1 x54_3).f1) ((rd_T48 l0_1 x54_3).f2) ((rd_T48 l0_1 x54_3).f3) ((rd_T48 l0_1 x54_3).f4)) else (if ((rd_T52 ((rd_T48 l0_1 x54_3).f1) x61_4).f1) = 0 then (spec_GoodFunc.l2 k4 t139 l0_1 (l0_1.length : Int) x54_3 ((rd_T48 l0_1 x54_3).f1) (((rd_T48 l0_1 x54_3).f1).length : Int) (wrap64 (x61_4 + 1)) a0_0 l0_1 ((rd_T48 l0_1 x54_3).f0) ((rd_T48 l0_1 x54_3).f1) ((rd_T48 l0_1 x54_3).f2) ((rd_T48 l0_1 x54_3).f3) ((rd_T48 l0_1 x54_3).f4)) else (some false))) else (some false))) else (some false)))) = some r := H
 have A45 := Aside0.mk A450
 clear A450
 by_cases c46 : t145 < 0
 · rw [if_pos c46] at H
   have c46b0 : decide (t145 < 0) = true := decide_eq_true c46
   clear c46
   obtain rfl := Option.some.inj H
   have p143 : 0 ≤ (x61_4 : Int) := of_decide_eq_true (by first | (with_reducible assumption) | assumption)
   have q143 : x61_4 < (((rd_T48 l0_1 x54_3).f1).length : Int) := of_decide_eq_true (by first | (with_reducible assumption) | assumption)
   obtain ⟨ad143, A143_2, c143_2, e143, hx143_0, hx143_1, hx143_2, hl143_2, hi143_2⟩ := at_T52 HR140_1.out x61_4 p143 q143
   cases e143
   replace hx143_0 := cB HB.out hx143_0
   replace hx143_1 := cB HB.out hx143_1
   replace hx143_2 := cB HB.out hx143_2
   have HR143_2 := Aside0.mk hi143_2
   have HC143_2 := Aside0.mk hl143_2
   clear hi143_2 hl143_2
   replace p143 := eq_true p143
   replace q143 := eq_true q143
   try go_wp2_with (first | ((with_reducible refine gate_dst (N := 9) rfl ?_); (try (refine gate_guard (by rfl) ?_; dsimp only)); refine box_event ?hg (N := 9) ?hd (cs := #[.int .i64 0, .int .i64 0, .slice none 0 0]) (t := 52) ?hr ?_; (case hd => rfl); (case hg => rfl); (case hr => first | (go_simp; done) | (go_simp; rfl)); intro gb144 hg w47 hbox hb; have n0_ := Aside0.mk (bB BK132.out hb); have n1_ := Aside0.mk (bB BK141.out hb); have n2_ := Aside0.mk (below_step (by repeat (first | (with_reducible first | exact HB.out | apply below_alloc | apply pw_below_drewN | apply below_drew1 | refine below_set ?_ GE132.out | refine below_set ?_ GE141.out) | exact HB.out)) hb); have n3_ := Aside0.mk (hbox); have n4_ := Aside0.mk ((by rw [hg]; exact (below_size (by repeat (first | (with_reducible first | exact HB.out | apply below_alloc | apply pw_below_drewN | apply below_drew1 | refine below_set ?_ GE132.out | refine below_set ?_ GE141.out) | exact HB.out))) : w.heap.size ≤ gb144)); have n5_ := n4_; have n6_ := Aside0.mk ((by rw [hg]; exact Nat.ne_of_lt (blk_lt BK132.out) : gb132 ≠ gb144)); have n7_ := Aside0.mk ((by rw [hg]; exact Nat.ne_of_gt (blk_lt BK132.out) : gb144 ≠ gb132)); have n8_ := Aside0.mk ((by rw [hg]; exact Nat.ne_of_lt (blk_lt BK141.out) : gb141 ≠ gb144)); have n9_ := Aside0.mk ((by rw [hg]; exact Nat.ne_of_gt (blk_lt BK141.out) : gb144 ≠ gb141)); clear BK132; clear BK141; clear HB; have BK132 := n0_; have BK141 := n1_; have HB := n2_; have BK144 := n3_; have GW144 := n4_; have GE144 := n5_; have NB132_144 := n6_; have NB144_132 := n7_; have NB141_144 := n8_; have NB144_141 := n9_; clear n0_ n1_ n2_ n3_ n4_ n5_ n6_ n7_ n8_ n9_; clear hb hbox hg; have hnb48 := NB144_132.out; have hnc48 := NB132_144.out; have hnb49 := NB144_141.out; have hnc49 := NB141_144.out; obtain ⟨hcz50_0, hcz50_1, hcz50_2, hfz50_0, hfz50_1, hfz50_2⟩ := blk3 BK144.out))
   have n0_ : Aside0 ((((w47.setCell ⟨gb144, 0, none⟩ (.int .i64 ((rd_T52 ((rd_T48 l0_1 x54_3).f1) x61_4).f0))).setCell ⟨gb144, 1, none⟩ (.int .i64 ((rd_T52 ((rd_T48 l0_1 x54_3).f1) x61_4).f1))).setCell ⟨gb144, 2, none⟩ (.slice A143_2 ((rd_T52 ((rd_T48 l0_1 x54_3).f1) x61_4).f2).length c143_2)).heap[gb132]? = some (.cells #[.int .i64 a0_0, .slice (some ad140) l0_1.length c0_1] 30 (0, 0))) := ⟨by (with_reducible repeat (first | refine blk_drewN ?_ _ | refine blk_drew ?_ | refine blk_alloc ?_ _)); refine blk_far ?_ NB132_144.out _; (with_reducible repeat (first | refine blk_drewN ?_ _ | refine blk_drew ?_ | refine blk_alloc ?_ _)); refine blk_far ?_ NB132_144.out _; (with_reducible repeat (first | refine blk_drewN ?_ _ | refine blk_drew ?_ | refine blk_alloc ?_ _)); refine blk_far ?_ NB132_144.out _; (with_reducible repeat (first | refine blk_drewN ?_ _ | refine blk_drew ?_ | refine blk_alloc ?_ _)); exact BK132.out⟩
   have n1_ : Aside0 ((((w47.setCell ⟨gb144, 0, none⟩ (.int .i64 ((rd_T52 ((rd_T48 l0_1 x54_3).f1) x61_4).f0))).setCell ⟨gb144, 1, none⟩ (.int .i64 ((rd_T52 ((rd_T48 l0_1 x54_3).f1) x61_4).f1))).setCell ⟨gb144, 2, none⟩ (.slice A143_2 ((rd_T52 ((rd_T48 l0_1 x54_3).f1) x61_4).f2).length c143_2)).heap[gb141]? = some (.cells #[.int .i64 ((rd_T48 l0_1 x54_3).f0), .slice (some ad143) ((rd_T48 l0_1 x54_3).f1).length c140_1, .int .i64 ((rd_T48 l0_1 x54_3).f2), .int .i64 ((rd_T48 l0_1 x54_3).f3), .slice A140_4 ((rd_T48 l0_1 x54_3).f4).length c140_4] 48 (0, 0))) := ⟨by (with_reducible repeat (first | refine blk_drewN ?_ _ | refine blk_drew ?_ | refine blk_alloc ?_ _)); refine blk_far ?_ NB141_144.out _; (with_reducible repeat (first | refine blk_drewN ?_ _ | refine blk_drew ?_ | refine blk_alloc ?_ _)); refine blk_far ?_ NB141_144.out _; (with_reducible repeat (first | refine blk_drewN ?_ _ | refine blk_drew ?_ | refine blk_alloc ?_ _)); refine blk_far ?_ NB141_144.out _; (with_reducible repeat (first | refine blk_drewN ?_ _ | refine blk_drew ?_ | refine blk_alloc ?_ _)); exact BK141.out⟩
   have n2_ : Aside0 ((((w47.setCell ⟨gb144, 0, none⟩ (.int .i64 ((rd_T52 ((rd_T48 l0_1 x54_3).f1) x61_4).f0))).setCell ⟨gb144, 1, none⟩ (.int .i64 ((rd_T52 ((rd_T48 l0_1 x54_3).f1) x61_4).f1))).setCell ⟨gb144, 2, none⟩ (.slice A143_2 ((rd_T52 ((rd_T48 l0_1 x54_3).f1) x61_4).f2).length c143_2)).heap[gb144]? = some (.cells #[.int .i64 ((rd_T52 ((rd_T48 l0_1 x54_3).f1) x61_4).f0), .int .i64 ((rd_T52 ((rd_T48 l0_1 x54_3).f1) x61_4).f1), .slice A143_2 ((rd_T52 ((rd_T48 l0_1 x54_3).f1) x61_4).f2).length c143_2] 52 (0, 0))) := ⟨by (with_reducible repeat (first | refine blk_drewN ?_ _ | refine blk_drew ?_ | refine blk_alloc ?_ _)); refine blk_put (cs := #[.int .i64 ((rd_T52 ((rd_T48 l0_1 x54_3).f1) x61_4).f0), .int .i64 ((rd_T52 ((rd_T48 l0_1 x54_3).f1) x61_4).f1), .slice none 0 0]) ?_ 2 _ rfl; (with_reducible repeat (first | refine blk_drewN ?_ _ | refine blk_drew ?_ | refine blk_alloc ?_ _)); refine blk_put (cs := #[.int .i64 ((rd_T52 ((rd_T48 l0_1 x54_3).f1) x61_4).f0), .int .i64 0, .slice none 0 0]) ?_ 1 _ rfl; (with_reducible repeat (first | refine blk_drewN ?_ _ | refine blk_drew ?_ | refine blk_alloc ?_ _)); refine blk_put (cs := #[.int .i64 0, .int .i64 0, .slice none 0 0]) ?_ 0 _ rfl; (with_reducible repeat (first | refine blk_drewN ?_ _ | refine blk_drew ?_ | refine blk_alloc ?_ _)); exact BK144.out⟩
   have n3_ : Aside0 (Below w.heap.size w (((w47.setCell ⟨gb144, 0, none⟩ (.int .i64 ((rd_T52 ((rd_T48 l0_1 x54_3).f1) x61_4).f0))).setCell ⟨gb144, 1, none⟩ (.int .i64 ((rd_T52 ((rd_T48 l0_1 x54_3).f1) x61_4).f1))).setCell ⟨gb144, 2, none⟩ (.slice A143_2 ((rd_T52 ((rd_T48 l0_1 x54_3).f1) x61_4).f2).length c143_2))) := ⟨by repeat (first | (with_reducible first | exact HB.out | apply below_alloc | apply pw_below_drewN | apply below_drew1 | refine below_set ?_ GE132.out | refine below_set ?_ GE141.out | refine below_set ?_ GE144.out) | exact HB.out)⟩
   (try clear BK132)
   (try clear BK141)
   (try clear BK144)
   (try clear HB)
   generalize (((w47.setCell ⟨gb144, 0, none⟩ (.int .i64 ((rd_T52 ((rd_T48 l0_1 x54_3).f1) x61_4).f0))).setCell ⟨gb144, 1, none⟩ (.int .i64 ((rd_T52 ((rd_T48 l0_1 x54_3).f1) x61_4).f1))).setCell ⟨gb144, 2, none⟩ (.slice A143_2 ((rd_T52 ((rd_T48 l0_1 x54_3).f1) x61_4).f2).length c143_2)) = w51 at n0_ n1_ n2_ n3_ ⊢
   have BK132 := n0_
   have BK141 := n1_
   have BK144 := n2_
   have HB := n3_
   clear n0_ n1_ n2_ n3_
   have n0_ := Aside0.mk (blk_drew BK132.out)
   have n1_ := Aside0.mk (blk_drew BK141.out)
   have n2_ := Aside0.mk (blk_drew BK144.out)
   have n3_ := Aside0.mk (below_drew1 HB.out)
   clear BK132
   clear BK141
   clear BK144
   clear HB
   have BK132 := n0_
   have BK141 := n1_
   have BK144 := n2_
   have HB := n3_
   clear n0_ n1_ n2_ n3_
   refine start_ (n := 31) (S := fun w' => w'.cell? ⟨gb144, 0, none⟩ = some (.int .i64 ((rd_T52 ((rd_T48 l0_1 x54_3).f1) x61_4).f0)) ∧ w'.cell? ⟨gb144, 1, none⟩ = some (.int .i64 ((rd_T52 ((rd_T48 l0_1 x54_3).f1) x61_4).f1)) ∧ w'.cell? ⟨gb144, 2, none⟩ = some (.slice A143_2 ((rd_T52 ((rd_T48 l0_1 x54_3).f1) x61_4).f2).length c143_2)) (ds := []) #[bF, bF, bF, bF, bF, bF, bF, bF, bF, bF, bF, bF, bF, bF, bF, bF, bF, bF, bF, bF, bF, bF, bF, bF, bF, bF, bF, bF, bF, bF, bF] (by kernel_rfl) rfl rfl ⟨(blk_cell BK144.out 0).trans rfl, (blk_cell BK144.out 1).trans rfl, (blk_cell BK144.out 2).trans rfl⟩ (fun hHeld => ?_); refine with_tabW spec_GoodFunc.tab18 spec_GoodFunc.bits18 (fun HT_ HW_ => ?_)
   generalize w51.drew = w52 at BK132 BK141 BK144 HB hHeld ⊢
   refine pure_ (i := 0) (N := some 65) (v := ?_) (a' := ?_) #[bT, bF, bF, bF, bF, bF, bF, bF, bF, bF, bF, bF, bF, bF, bF, bF, bF, bF, bF, bF, bF, bF, bF, bF, bF, bF, bF, bF, bF, bF, bF] rfl rfl (any_of HT_.out (by kernel_rfl)) (fun _ _ _ h => h) (Or.inl ⟨by rfl, ?_⟩) ?_ ?_
   rotate_left
   · intro w'
     go_simp
     with_reducible rfl
   rotate_left
   · simp only [Act.put, lA, lB, lC, i64_w, i32_w]
     rfl
   refine take_ (i := 1) (N := some 66) (v := ?_) (a' := ?_) #[bT, bT, bF, bF, bF, bF, bF, bF, bF, bF, bF, bF, bF, bF, bF, bF, bF, bF, bF, bF, bF, bF, bF, bF, bF, bF, bF, bF, bF, bF, bF] rfl rfl (take_ofW HT_.out HW_.out (by kernel_rfl)) (fun _ _ _ h => h) (Or.inl ⟨by rfl, ?_⟩) hHeld ?_ ?_
   rotate_left
   · rintro w' ⟨s0, s1, s2⟩
     go_simp
     with_reducible rfl
   rotate_left
   · simp only [Act.put, lA, lB, lC, i64_w, i32_w]
     rfl
   refine one_ (i := 2) (N := some 67) #[bT, bT, bT, bF, bF, bF, bF, bF, bF, bF, bF, bF, bF, bF, bF, bF, bF, bF, bF, bF, bF, bF, bF, bF, bF, bF, bF, bF, bF, bF, bF] rfl rfl (one_of HT_.out (by kernel_rfl)) (by decide) (fun K hK => ?_)
   refine goes_ Tryz.func19 (by kernel_rfl) rfl #[.int .i64 ((rd_T52 ((rd_T48 l0_1 x54_3).f1) x61_4).f0)] (by rfl) rfl rfl (by (try simp only [List.map_toArray, List.map_cons, List.map_nil]); first | done | rfl | (simp only [List.length_drop, List.length_take]; rfl)) ?_
   with_reducible refine (spec_l12Arity.calls k4 ((rd_T52 ((rd_T48 l0_1 x54_3).f1) x61_4).f0) t145 _ A45.out).mono ?_
   rintro e w' ⟨rfl, ⟨nd, rfl⟩⟩
   refine ⟨_, rfl, ?_⟩
   refine hK.out _ _ ⟨(blk_cell BK144.out 0).trans rfl, (blk_cell BK144.out 1).trans rfl, (blk_cell BK144.out 2).trans rfl⟩ (fun hHeld => ?_)
   clear hK K
   refine norm_ (a' := ?_) ?_ ?_
   rotate_left
   · show Act.put _ (some 67) _ = _
     simp only [Act.put, lA, lB, lC, i64_w, i32_w]
     rfl
   refine pure_ (i := 3) (N := some 68) (v := ?_) (a' := ?_) #[bT, bT, bT, bT, bF, bF, bF, bF, bF, bF, bF, bF, bF, bF, bF, bF, bF, bF, bF, bF, bF, bF, bF, bF, bF, bF, bF, bF, bF, bF, bF] rfl rfl (any_of HT_.out (by kernel_rfl)) (fun _ _ _ h => h) (Or.inl ⟨by rfl, ?_⟩) ?_ ?_
   rotate_left
   · intro w'
     go_simp
     with_reducible rfl
   rotate_left
   · simp only [Act.put, lA, lB, lC, i64_w, i32_w]
     rfl
   refine pure_ (i := 4) (N := some 69) (v := ?_) (a' := ?_) #[bT, bT, bT, bT, bT, bF, bF, bF, bF, bF, bF, bF, bF, bF, bF, bF, bF, bF, bF, bF, bF, bF, bF, bF, bF, bF, bF, bF, bF, bF, bF] rfl rfl (any_of HT_.out (by kernel_rfl)) (fun _ _ _ h => h) (Or.inl ⟨by rfl, ?_⟩) ?_ ?_
   rotate_left
   · intro w'
     go_simp
     with_reducible rfl
   rotate_left
   · simp only [Act.put, lA, lB, lC, i64_w, i32_w]
     rfl
   refine pure_ (i := 5) (N := some 70) (v := undef) (a' := ?_) #[bT, bT, bT, bT, bT, bT, bF, bF, bF, bF, bF, bF, bF, bF, bF, bF, bF, bF, bF, bF, bF, bF, bF, bF, bF, bF, bF, bF, bF, bF, bF] rfl rfl (any_of HT_.out (by kernel_rfl)) (fun _ _ _ h => h) (Or.inr ⟨by rfl, rfl⟩) ?_ ?_
   rotate_left
   · simp only [Act.put, lA, lB, lC, i64_w, i32_w]
     rfl
   refine pure_ (i := 6) (N := some 71) (v := undef) (a' := ?_) #[bT, bT, bT, bT, bT, bT, bT, bF, bF, bF, bF, bF, bF, bF, bF, bF, bF, bF, bF, bF, bF, bF, bF, bF, bF, bF, bF, bF, bF, bF, bF] rfl rfl (any_of HT_.out (by kernel_rfl)) (fun _ _ _ h => h) (Or.inr ⟨by rfl, rfl⟩) ?_ ?_
   rotate_left
   · simp only [Act.put, lA, lB, lC, i64_w, i32_w]
     rfl
   refine pure_ (i := 7) (N := some 72) (v := undef) (a' := ?_) #[bT, bT, bT, bT, bT, bT, bT, bT, bF, bF, bF, bF, bF, bF, bF, bF, bF, bF, bF, bF, bF, bF, bF, bF, bF, bF, bF, bF, bF, bF, bF] rfl rfl (any_of HT_.out (by kernel_rfl)) (fun _ _ _ h => h) (Or.inr ⟨by rfl, rfl⟩) ?_ ?_
   rotate_left
   · simp only [Act.put, lA, lB, lC, i64_w, i32_w]
     rfl
   refine pure_ (i := 8) (N := some 73) (v := undef) (a' := ?_) #[bT, bT, bT, bT, bT, bT, bT, bT, bT, bF, bF, bF, bF, bF, bF, bF, bF, bF, bF, bF, bF, bF, bF, bF, bF, bF, bF, bF, bF, bF, bF] rfl rfl (any_of HT_.out (by kernel_rfl)) (fun _ _ _ h => h) (Or.inr ⟨by rfl, rfl⟩) ?_ ?_
   rotate_left
   · simp only [Act.put, lA, lB, lC, i64_w, i32_w]
     rfl
   refine pure_ (i := 9) (N := some 74) (v := undef) (a' := ?_) #[bT, bT, bT, bT, bT, bT, bT, bT, bT, bT, bF, bF, bF, bF, bF, bF, bF, bF, bF, bF, bF, bF, bF, bF, bF, bF, bF, bF, bF, bF, bF] rfl rfl (any_of HT_.out (by kernel_rfl)) (fun _ _ _ h => h) (Or.inr ⟨by rfl, rfl⟩) ?_ ?_
   rotate_left
   · simp only [Act.put, lA, lB, lC, i64_w, i32_w]
     rfl
   refine pure_ (i := 10) (N := some 75) (v := undef) (a' := ?_) #[bT, bT, bT, bT, bT, bT, bT, bT, bT, bT, bT, bF, bF, bF, bF, bF, bF, bF, bF, bF, bF, bF, bF, bF, bF, bF, bF, bF, bF, bF, bF] rfl rfl (any_of HT_.out (by kernel_rfl)) (fun _ _ _ h => h) (Or.inr ⟨by rfl, rfl⟩) ?_ ?_
   rotate_left
   · simp only [Act.put, lA, lB, lC, i64_w, i32_w]
     rfl
   refine pure_ (i := 11) (N := some 76) (v := undef) (a' := ?_) #[bT, bT, bT, bT, bT, bT, bT, bT, bT, bT, bT, bT, bF, bF, bF, bF, bF, bF, bF, bF, bF, bF, bF, bF, bF, bF, bF, bF, bF, bF, bF] rfl rfl (any_of HT_.out (by kernel_rfl)) (fun _ _ _ h => h) (Or.inr ⟨by rfl, rfl⟩) ?_ ?_
   rotate_left
   · simp only [Act.put, lA, lB, lC, i64_w, i32_w]
     rfl
   refine pure_ (i := 12) (N := some 77) (v := ?_) (a' := ?_) #[bT, bT, bT, bT, bT, bT, bT, bT, bT, bT, bT, bT, bT, bF, bF, bF, bF, bF, bF, bF, bF, bF, bF, bF, bF, bF, bF, bF, bF, bF, bF] rfl rfl (any_of HT_.out (by kernel_rfl)) (fun _ _ _ h => h) (Or.inl ⟨by rfl, ?_⟩) ?_ ?_
   rotate_left
   · intro w'
     go_simp
     with_reducible rfl
   rotate_left
   · simp only [Act.put, lA, lB, lC, i64_w, i32_w]
     rfl
   refine pure_ (i := 13) (N := some 78) (v := ?_) (a' := ?_) #[bT, bT, bT, bT, bT, bT, bT, bT, bT, bT, bT, bT, bT, bT, bF, bF, bF, bF, bF, bF, bF, bF, bF, bF, bF, bF, bF, bF, bF, bF, bF] rfl rfl (any_of HT_.out (by kernel_rfl)) (fun _ _ _ h => h) (Or.inl ⟨by rfl, ?_⟩) ?_ ?_
   rotate_left
   · intro w'
     go_simp
     with_reducible rfl
   rotate_left
   · simp only [Act.put, lA, lB, lC, i64_w, i32_w]
     rfl
   refine pure_ (i := 14) (N := some 79) (v := undef) (a' := ?_) #[bT, bT, bT, bT, bT, bT, bT, bT, bT, bT, bT, bT, bT, bT, bT, bF, bF, bF, bF, bF, bF, bF, bF, bF, bF, bF, bF, bF, bF, bF, bF] rfl rfl (any_of HT_.out (by kernel_rfl)) (fun _ _ _ h => h) (Or.inr ⟨by rfl, rfl⟩) ?_ ?_
   rotate_left
   · simp only [Act.put, lA, lB, lC, i64_w, i32_w]
     rfl
   refine pure_ (i := 15) (N := some 80) (v := undef) (a' := ?_) #[bT, bT, bT, bT, bT, bT, bT, bT, bT, bT, bT, bT, bT, bT, bT, bT, bF, bF, bF, bF, bF, bF, bF, bF, bF, bF, bF, bF, bF, bF, bF] rfl rfl (any_of HT_.out (by kernel_rfl)) (fun _ _ _ h => h) (Or.inr ⟨by rfl, rfl⟩) ?_ ?_
   rotate_left
   · simp only [Act.put, lA, lB, lC, i64_w, i32_w]
     rfl
   refine pure_ (i := 16) (N := some 81) (v := undef) (a' := ?_) #[bT, bT, bT, bT, bT, bT, bT, bT, bT, bT, bT, bT, bT, bT, bT, bT, bT, bF, bF, bF, bF, bF, bF, bF, bF, bF, bF, bF, bF, bF, bF] rfl rfl (any_of HT_.out (by kernel_rfl)) (fun _ _ _ h => h) (Or.inr ⟨by rfl, rfl⟩) ?_ ?_
   rotate_left
   · simp only [Act.put, lA, lB, lC, i64_w, i32_w]
     rfl
   refine pure_ (i := 17) (N := some 82) (v := undef) (a' := ?_) #[bT, bT, bT, bT, bT, bT, bT, bT, bT, bT, bT, bT, bT, bT, bT, bT, bT, bT, bF, bF, bF, bF, bF, bF, bF, bF, bF, bF, bF, bF, bF] rfl rfl (any_of HT_.out (by kernel_rfl)) (fun _ _ _ h => h) (Or.inr ⟨by rfl, rfl⟩) ?_ ?_
   rotate_left
   · simp only [Act.put, lA, lB, lC, i64_w, i32_w]
     rfl
   refine pure_ (i := 18) (N := some 83) (v := undef) (a' := ?_) #[bT, bT, bT, bT, bT, bT, bT, bT, bT, bT, bT, bT, bT, bT, bT, bT, bT, bT, bT, bF, bF, bF, bF, bF, bF, bF, bF, bF, bF, bF, bF] rfl rfl (any_of HT_.out (by kernel_rfl)) (fun _ _ _ h => h) (Or.inr ⟨by rfl, rfl⟩) ?_ ?_
   rotate_left
   · simp only [Act.put, lA, lB, lC, i64_w, i32_w]
     rfl
   refine pure_ (i := 19) (N := some 84) (v := undef) (a' := ?_) #[bT, bT, bT, bT, bT, bT, bT, bT, bT, bT, bT, bT, bT, bT, bT, bT, bT, bT, bT, bT, bF, bF, bF, bF, bF, bF, bF, bF, bF, bF, bF] rfl rfl (any_of HT_.out (by kernel_rfl)) (fun _ _ _ h => h) (Or.inr ⟨by rfl, rfl⟩) ?_ ?_
   rotate_left
   · simp only [Act.put, lA, lB, lC, i64_w, i32_w]
     rfl
   refine pure_ (i := 20) (N := some 85) (v := ?_) (a' := ?_) #[bT, bT, bT, bT, bT, bT, bT, bT, bT, bT, bT, bT, bT, bT, bT, bT, bT, bT, bT, bT, bT, bF, bF, bF, bF, bF, bF, bF, bF, bF, bF] rfl rfl (any_of HT_.out (by kernel_rfl)) (fun _ _ _ h => h) (Or.inl ⟨by rfl, ?_⟩) ?_ ?_
   rotate_left
   · intro w'
     go_simp
     with_reducible rfl
   rotate_left
   · simp only [Act.put, lA, lB, lC, i64_w, i32_w]
     rfl
   refine pure_ (i := 21) (N := some 86) (v := ?_) (a' := ?_) #[bT, bT, bT, bT, bT, bT, bT, bT, bT, bT, bT, bT, bT, bT, bT, bT, bT, bT, bT, bT, bT, bT, bF, bF, bF, bF, bF, bF, bF, bF, bF] rfl rfl (any_of HT_.out (by kernel_rfl)) (fun _ _ _ h => h) (Or.inl ⟨by rfl, ?_⟩) ?_ ?_
   rotate_left
   · intro w'
     go_simp
     with_reducible rfl
   rotate_left
   · simp only [Act.put, lA, lB, lC, i64_w, i32_w]
     rfl
   refine pure_ (i := 22) (N := some 87) (v := undef) (a' := ?_) #[bT, bT, bT, bT, bT, bT, bT, bT, bT, bT, bT, bT, bT, bT, bT, bT, bT, bT, bT, bT, bT, bT, bT, bF, bF, bF, bF, bF, bF, bF, bF] rfl rfl (any_of HT_.out (by kernel_rfl)) (fun _ _ _ h => h) (Or.inr ⟨by rfl, rfl⟩) ?_ ?_
   rotate_left
   · simp only [Act.put, lA, lB, lC, i64_w, i32_w]
     rfl
   refine pure_ (i := 23) (N := some 88) (v := undef) (a' := ?_) #[bT, bT, bT, bT, bT, bT, bT, bT, bT, bT, bT, bT, bT, bT, bT, bT, bT, bT, bT, bT, bT, bT, bT, bT, bF, bF, bF, bF, bF, bF, bF] rfl rfl (any_of HT_.out (by kernel_rfl)) (fun _ _ _ h => h) (Or.inr ⟨by rfl, rfl⟩) ?_ ?_
   rotate_left
   · simp only [Act.put, lA, lB, lC, i64_w, i32_w]
     rfl
   refine pure_ (i := 24) (N := some 89) (v := undef) (a' := ?_) #[bT, bT, bT, bT, bT, bT, bT, bT, bT, bT, bT, bT, bT, bT, bT, bT, bT, bT, bT, bT, bT, bT, bT, bT, bT, bF, bF, bF, bF, bF, bF] rfl rfl (any_of HT_.out (by kernel_rfl)) (fun _ _ _ h => h) (Or.inr ⟨by rfl, rfl⟩) ?_ ?_
   rotate_left
   · simp only [Act.put, lA, lB, lC, i64_w, i32_w]
     rfl
   refine pure_ (i := 25) (N := some 90) (v := undef) (a' := ?_) #[bT, bT, bT, bT, bT, bT, bT, bT, bT, bT, bT, bT, bT, bT, bT, bT, bT, bT, bT, bT, bT, bT, bT, bT, bT, bT, bF, bF, bF, bF, bF] rfl rfl (any_of HT_.out (by kernel_rfl)) (fun _ _ _ h => h) (Or.inr ⟨by rfl, rfl⟩) ?_ ?_
   rotate_left
   · simp only [Act.put, lA, lB, lC, i64_w, i32_w]
     rfl
   refine pure_ (i := 26) (N := some 91) (v := undef) (a' := ?_) #[bT, bT, bT, bT, bT, bT, bT, bT, bT, bT, bT, bT, bT, bT, bT, bT, bT, bT, bT, bT, bT, bT, bT, bT, bT, bT, bT, bF, bF, bF, bF] rfl rfl (any_of HT_.out (by kernel_rfl)) (fun _ _ _ h => h) (Or.inr ⟨by rfl, rfl⟩) ?_ ?_
   rotate_left
   · simp only [Act.put, lA, lB, lC, i64_w, i32_w]
     rfl
   refine pure_ (i := 27) (N := some 92) (v := undef) (a' := ?_) #[bT, bT, bT, bT, bT, bT, bT, bT, bT, bT, bT, bT, bT, bT, bT, bT, bT, bT, bT, bT, bT, bT, bT, bT, bT, bT, bT, bT, bF, bF, bF] rfl rfl (any_of HT_.out (by kernel_rfl)) (fun _ _ _ h => h) (Or.inr ⟨by rfl, rfl⟩) ?_ ?_
   rotate_left
   · simp only [Act.put, lA, lB, lC, i64_w, i32_w]
     rfl
   refine pure_ (i := 28) (N := some 93) (v := undef) (a' := ?_) #[bT, bT, bT, bT, bT, bT, bT, bT, bT, bT, bT, bT, bT, bT, bT, bT, bT, bT, bT, bT, bT, bT, bT, bT, bT, bT, bT, bT, bT, bF, bF] rfl rfl (any_of HT_.out (by kernel_rfl)) (fun _ _ _ h => h) (Or.inr ⟨by rfl, rfl⟩) ?_ ?_
   rotate_left
   · simp only [Act.put, lA, lB, lC, i64_w, i32_w]
     rfl
   refine pure_ (i := 29) (N := some 94) (v := undef) (a' := ?_) #[bT, bT, bT, bT, bT, bT, bT, bT, bT, bT, bT, bT, bT, bT, bT, bT, bT, bT, bT, bT, bT, bT, bT, bT, bT, bT, bT, bT, bT, bT, bF] rfl rfl (any_of HT_.out (by kernel_rfl)) (fun _ _ _ h => h) (Or.inr ⟨by rfl, rfl⟩) ?_ ?_
   rotate_left
   · simp only [Act.put, lA, lB, lC, i64_w, i32_w]
     rfl
   refine pure_ (i := 30) (N := some 95) (v := ?_) (a' := ?_) #[bT, bT, bT, bT, bT, bT, bT, bT, bT, bT, bT, bT, bT, bT, bT, bT, bT, bT, bT, bT, bT, bT, bT, bT, bT, bT, bT, bT, bT, bT, bT] rfl rfl (any_of HT_.out (by kernel_rfl)) (fun _ _ _ h => h) (Or.inl ⟨by rfl, ?_⟩) ?_ ?_
   rotate_left
   · intro w'
     go_simp
     with_reducible rfl
   rotate_left
   · simp only [Act.put, lA, lB, lC, i64_w, i32_w]
     rfl
   refine done_ (done_of HT_.out (by kernel_rfl)) ?_
   try go_wp2
   go_ret
   exact ⟨by first | rfl | (simp [errW_none, errW_some] <;> rfl) | (simp [*, errW_none, errW_some] <;> rfl), by repeat (first | (with_reducible first | exact HB.out | apply below_alloc | apply pw_below_drewN | apply below_drew1 | refine below_set ?_ GE132.out | refine below_set ?_ GE141.out | refine below_set ?_ GE144.out) | exact HB.out)⟩
 rw [if_neg c46] at H
 have c46b0 : decide (t145 < 0) = false := decide_eq_false c46
 clear c46
 replace H := Option.bind_eq_some_iff.mp H
 obtain ⟨t146, A530, H⟩ := H
 replace H : (if (((rd_T52 ((rd_T48 l0_1 x54_3).f1) x61_4).f2).length : Int) = t146 then ((spec_l1All.f k4 ((rd_T52 ((rd_T48 l0_1 x54_3).f1) x61_4).f2) 0 (wrap64 (t139 - 1))).bind fun t147 => (if t147 = true then (if ((rd_T52 ((rd_T48 l0_1 x54_3).f1) x61_4).f0) = 1 then (spec_GoodFunc.l2 k4 t139 l0_1 (l0_1.length : Int) x54_3 ((rd_T48 l0_1 x54_3).f1) (((rd_T48 l0_1 x54_3).f1).length : Int) (wrap64 (x61_4 + 1)) a0_0 l0_1 ((rd_T48 l0_1 x54_3).f0) ((rd_T48 l0_1 x54_3).f1) ((rd_T48 l0_1 x54_3).f2) ((rd_T48 l0_1 x54_3).f3) ((rd_T48 l0_1 x54_3).f4)) else (if ((rd_T52 ((rd_T48 l0_1 x54_3).f1) x61_4).f1) = 0 then (spec_GoodFunc.l2 k4 t139 l0_1 (l0_1.length : Int) x54_3 ((rd_T48 l0_1 x54_3).f1) (((rd_T48 l0_1 x54_3).f1).length : Int) (wrap64 (x61_4 + 1)) a0_0 l0_1 ((rd_T48 l0_1 x54_3).f0) ((rd_T48 l0_1 x54_3).f1) ((rd_T48 l0_1 x54_3).f2) ((rd_T48 l0_1 x54_3).f3) ((rd_T48 l0_1 x54_3).f4)) else (some false))) else (some false))) else (some false)) = some r := H
 have A53 := Aside0.mk A530
 clear A530
 by_cases c54 : (((rd_T52 ((rd_T48 l0_1 x54_3).f1) x61_4).f2).length : Int) = t146
 rotate_left
 · rw [if_neg c54] at H
   have c54b0 : ((((rd_T52 ((rd_T48 l0_1 x54_3).f1) x61_4).f2).length : Int) == t146) = false := beq_eq_false_iff_ne.mpr c54
   have c54b1 : ((((rd_T52 ((rd_T48 l0_1 x54_3).f1) x61_4).f2).length : Int) != t146) = true := bne_iff_ne.mpr c54
   obtain rfl := Option.some.inj H
   have p143 : 0 ≤ (x61_4 : Int) := of_decide_eq_true (by first | (with_reducible assumption) | assumption)
   have q143 : x61_4 < (((rd_T48 l0_1 x54_3).f1).length : Int) := of_decide_eq_true (by first | (with_reducible assumption) | assumption)
   obtain ⟨ad143, A143_2, c143_2, e143, hx143_0, hx143_1, hx143_2, hl143_2, hi143_2⟩ := at_T52 HR140_1.out x61_4 p143 q143
   cases e143
   replace hx143_0 := cB HB.out hx143_0
   replace hx143_1 := cB HB.out hx143_1
   replace hx143_2 := cB HB.out hx143_2
   have HR143_2 := Aside0.mk hi143_2
   have HC143_2 := Aside0.mk hl143_2
   clear hi143_2 hl143_2
   replace p143 := eq_true p143
   replace q143 := eq_true q143
   try go_wp2_with (first | ((with_reducible refine gate_dst (N := 9) rfl ?_); (try (refine gate_guard (by rfl) ?_; dsimp only)); refine box_event ?hg (N := 9) ?hd (cs := #[.int .i64 0, .int .i64 0, .slice none 0 0]) (t := 52) ?hr ?_; (case hd => rfl); (case hg => rfl); (case hr => first | (go_simp; done) | (go_simp; rfl)); intro gb144 hg w83 hbox hb; have n0_ := Aside0.mk (bB BK132.out hb); have n1_ := Aside0.mk (bB BK141.out hb); have n2_ := Aside0.mk (below_step (by repeat (first | (with_reducible first | exact HB.out | apply below_alloc | apply pw_below_drewN | apply below_drew1 | refine below_set ?_ GE132.out | refine below_set ?_ GE141.out) | exact HB.out)) hb); have n3_ := Aside0.mk (hbox); have n4_ := Aside0.mk ((by rw [hg]; exact (below_size (by repeat (first | (with_reducible first | exact HB.out | apply below_alloc | apply pw_below_drewN | apply below_drew1 | refine below_set ?_ GE132.out | refine below_set ?_ GE141.out) | exact HB.out))) : w.heap.size ≤ gb144)); have n5_ := n4_; have n6_ := Aside0.mk ((by rw [hg]; exact Nat.ne_of_lt (blk_lt BK132.out) : gb132 ≠ gb144)); have n7_ := Aside0.mk ((by rw [hg]; exact Nat.ne_of_gt (blk_lt BK132.out) : gb144 ≠ gb132)); have n8_ := Aside0.mk ((by rw [hg]; exact Nat.ne_of_lt (blk_lt BK141.out) : gb141 ≠ gb144)); have n9_ := Aside0.mk ((by rw [hg]; exact Nat.ne_of_gt (blk_lt BK141.out) : gb144 ≠ gb141)); clear BK132; clear BK141; clear HB; have BK132 := n0_; have BK141 := n1_; have HB := n2_; have BK144 := n3_; have GW144 := n4_; have GE144 := n5_; have NB132_144 := n6_; have NB144_132 := n7_; have NB141_144 := n8_; have NB144_141 := n9_; clear n0_ n1_ n2_ n3_ n4_ n5_ n6_ n7_ n8_ n9_; clear hb hbox hg; have hnb84 := NB144_132.out; have hnc84 := NB132_144.out; have hnb85 := NB144_141.out; have hnc85 := NB141_144.out; obtain ⟨hcz86_0, hcz86_1, hcz86_2, hfz86_0, hfz86_1, hfz86_2⟩ := blk3 BK144.out))
   have n0_ : Aside0 ((((w83.setCell ⟨gb144, 0, none⟩ (.int .i64 ((rd_T52 ((rd_T48 l0_1 x54_3).f1) x61_4).f0))).setCell ⟨gb144, 1, none⟩ (.int .i64 ((rd_T52 ((rd_T48 l0_1 x54_3).f1) x61_4).f1))).setCell ⟨gb144, 2, none⟩ (.slice A143_2 ((rd_T52 ((rd_T48 l0_1 x54_3).f1) x61_4).f2).length c143_2)).heap[gb132]? = some (.cells #[.int .i64 a0_0, .slice (some ad140) l0_1.length c0_1] 30 (0, 0))) := ⟨by (with_reducible repeat (first | refine blk_drewN ?_ _ | refine blk_drew ?_ | refine blk_alloc ?_ _)); refine blk_far ?_ NB132_144.out _; (with_reducible repeat (first | refine blk_drewN ?_ _ | refine blk_drew ?_ | refine blk_alloc ?_ _)); refine blk_far ?_ NB132_144.out _; (with_reducible repeat (first | refine blk_drewN ?_ _ | refine blk_drew ?_ | refine blk_alloc ?_ _)); refine blk_far ?_ NB132_144.out _; (with_reducible repeat (first | refine blk_drewN ?_ _ | refine blk_drew ?_ | refine blk_alloc ?_ _)); exact BK132.out⟩
   have n1_ : Aside0 ((((w83.setCell ⟨gb144, 0, none⟩ (.int .i64 ((rd_T52 ((rd_T48 l0_1 x54_3).f1) x61_4).f0))).setCell ⟨gb144, 1, none⟩ (.int .i64 ((rd_T52 ((rd_T48 l0_1 x54_3).f1) x61_4).f1))).setCell ⟨gb144, 2, none⟩ (.slice A143_2 ((rd_T52 ((rd_T48 l0_1 x54_3).f1) x61_4).f2).length c143_2)).heap[gb141]? = some (.cells #[.int .i64 ((rd_T48 l0_1 x54_3).f0), .slice (some ad143) ((rd_T48 l0_1 x54_3).f1).length c140_1, .int .i64 ((rd_T48 l0_1 x54_3).f2), .int .i64 ((rd_T48 l0_1 x54_3).f3), .slice A140_4 ((rd_T48 l0_1 x54_3).f4).length c140_4] 48 (0, 0))) := ⟨by (with_reducible repeat (first | refine blk_drewN ?_ _ | refine blk_drew ?_ | refine blk_alloc ?_ _)); refine blk_far ?_ NB141_144.out _; (with_reducible repeat (first | refine blk_drewN ?_ _ | refine blk_drew ?_ | refine blk_alloc ?_ _)); refine blk_far ?_ NB141_144.out _; (with_reducible repeat (first | refine blk_drewN ?_ _ | refine blk_drew ?_ | refine blk_alloc ?_ _)); refine blk_far ?_ NB141_144.out _; (with_reducible repeat (first | refine blk_drewN ?_ _ | refine blk_drew ?_ | refine blk_alloc ?_ _)); exact BK141.out⟩
   have n2_ : Aside0 ((((w83.setCell ⟨gb144, 0, none⟩ (.int .i64 ((rd_T52 ((rd_T48 l0_1 x54_3).f1) x61_4).f0))).setCell ⟨gb144, 1, none⟩ (.int .i64 ((rd_T52 ((rd_T48 l0_1 x54_3).f1) x61_4).f1))).setCell ⟨gb144, 2, none⟩ (.slice A143_2 ((rd_T52 ((rd_T48 l0_1 x54_3).f1) x61_4).f2).length c143_2)).heap[gb144]? = some (.cells #[.int .i64 ((rd_T52 ((rd_T48 l0_1 x54_3).f1) x61_4).f0), .int .i64 ((rd_T52 ((rd_T48 l0_1 x54_3).f1) x61_4).f1), .slice A143_2 ((rd_T52 ((rd_T48 l0_1 x54_3).f1) x61_4).f2).length c143_2] 52 (0, 0))) := ⟨by (with_reducible repeat (first | refine blk_drewN ?_ _ | refine blk_drew ?_ | refine blk_alloc ?_ _)); refine blk_put (cs := #[.int .i64 ((rd_T52 ((rd_T48 l0_1 x54_3).f1) x61_4).f0), .int .i64 ((rd_T52 ((rd_T48 l0_1 x54_3).f1) x61_4).f1), .slice none 0 0]) ?_ 2 _ rfl; (with_reducible repeat (first | refine blk_drewN ?_ _ | refine blk_drew ?_ | refine blk_alloc ?_ _)); refine blk_put (cs := #[.int .i64 ((rd_T52 ((rd_T48 l0_1 x54_3).f1) x61_4).f0), .int .i64 0, .slice none 0 0]) ?_ 1 _ rfl; (with_reducible repeat (first | refine blk_drewN ?_ _ | refine blk_drew ?_ | refine blk_alloc ?_ _)); refine blk_put (cs := #[.int .i64 0, .int .i64 0, .slice none 0 0]) ?_ 0 _ rfl; (with_reducible repeat (first | refine blk_drewN ?_ _ | refine blk_drew ?_ | refine blk_alloc ?_ _)); exact BK144.out⟩
   have n3_ : Aside0 (Below w.heap.size w (((w83.setCell ⟨gb144, 0, none⟩ (.int .i64 ((rd_T52 ((rd_T48 l0_1 x54_3).f1) x61_4).f0))).setCell ⟨gb144, 1, none⟩ (.int .i64 ((rd_T52 ((rd_T48 l0_1 x54_3).f1) x61_4).f1))).setCell ⟨gb144, 2, none⟩ (.slice A143_2 ((rd_T52 ((rd_T48 l0_1 x54_3).f1) x61_4).f2).length c143_2))) := ⟨by repeat (first | (with_reducible first | exact HB.out | apply below_alloc | apply pw_below_drewN | apply below_drew1 | refine below_set ?_ GE132.out | refine below_set ?_ GE141.out | refine below_set ?_ GE144.out) | exact HB.out)⟩
   (try clear BK132)
   (try clear BK141)
   (try clear BK144)
   (try clear HB)
   generalize (((w83.setCell ⟨gb144, 0, none⟩ (.int .i64 ((rd_T52 ((rd_T48 l0_1 x54_3).f1) x61_4).f0))).setCell ⟨gb144, 1, none⟩ (.int .i64 ((rd_T52 ((rd_T48 l0_1 x54_3).f1) x61_4).f1))).setCell ⟨gb144, 2, none⟩ (.slice A143_2 ((rd_T52 ((rd_T48 l0_1 x54_3).f1) x61_4).f2).length c143_2)) = w87 at n0_ n1_ n2_ n3_ ⊢
   have BK132 := n0_
   have BK141 := n1_
   have BK144 := n2_
   have HB := n3_
   clear n0_ n1_ n2_ n3_
   have n0_ := Aside0.mk (blk_drew BK132.out)
   have n1_ := Aside0.mk (blk_drew BK141.out)
   have n2_ := Aside0.mk (blk_drew BK144.out)
   have n3_ := Aside0.mk (below_drew1 HB.out)
   clear BK132
   clear BK141
   clear BK144
   clear HB
   have BK132 := n0_
   have BK141 := n1_
   have BK144 := n2_
   have HB := n3_
   clear n0_ n1_ n2_ n3_
   refine start_ (n := 31) (S := fun w' => w'.cell? ⟨gb144, 0, none⟩ = some (.int .i64 ((rd_T52 ((rd_T48 l0_1 x54_3).f1) x61_4).f0)) ∧ w'.cell? ⟨gb144, 1, none⟩ = some (.int .i64 ((rd_T52 ((rd_T48 l0_1 x54_3).f1) x61_4).f1)) ∧ w'.cell? ⟨gb144, 2, none⟩ = some (.slice A143_2 ((rd_T52 ((rd_T48 l0_1 x54_3).f1) x61_4).f2).length c143_2)) (ds := []) #[bF, bF, bF, bF, bF, bF, bF, bF, bF, bF, bF, bF, bF, bF, bF, bF, bF, bF, bF, bF, bF, bF, bF, bF, bF, bF, bF, bF, bF, bF, bF] (by kernel_rfl) rfl rfl ⟨(blk_cell BK144.out 0).trans rfl, (blk_cell BK144.out 1).trans rfl, (blk_cell BK144.out 2).trans rfl⟩ (fun hHeld => ?_); refine with_tabW spec_GoodFunc.tab18 spec_GoodFunc.bits18 (fun HT_ HW_ => ?_)
   generalize w87.drew = w88 at BK132 BK141 BK144 HB hHeld ⊢
   refine pure_ (i := 0) (N := some 65) (v := ?_) (a' := ?_) #[bT, bF, bF, bF, bF, bF, bF, bF, bF, bF, bF, bF, bF, bF, bF, bF, bF, bF, bF, bF, bF, bF, bF, bF, bF, bF, bF, bF, bF, bF, bF] rfl rfl (any_of HT_.out (by kernel_rfl)) (fun _ _ _ h => h) (Or.inl ⟨by rfl, ?_⟩) ?_ ?_
   rotate_left
   · intro w'
     go_simp
     with_reducible rfl
   rotate_left
   · simp only [Act.put, lA, lB, lC, i64_w, i32_w]
     rfl
   refine take_ (i := 1) (N := some 66) (v := ?_) (a' := ?_) #[bT, bT, bF, bF, bF, bF, bF, bF, bF, bF, bF, bF, bF, bF, bF, bF, bF, bF, bF, bF, bF, bF, bF, bF, bF, bF, bF, bF, bF, bF, bF] rfl rfl (take_ofW HT_.out HW_.out (by kernel_rfl)) (fun _ _ _ h => h) (Or.inl ⟨by rfl, ?_⟩) hHeld ?_ ?_
   rotate_left
   · rintro w' ⟨s0, s1, s2⟩
     go_simp
     with_reducible rfl
   rotate_left
   · simp only [Act.put, lA, lB, lC, i64_w, i32_w]
     rfl
   refine one_ (i := 2) (N := some 67) #[bT, bT, bT, bF, bF, bF, bF, bF, bF, bF, bF, bF, bF, bF, bF, bF, bF, bF, bF, bF, bF, bF, bF, bF, bF, bF, bF, bF, bF, bF, bF] rfl rfl (one_of HT_.out (by kernel_rfl)) (by decide) (fun K hK => ?_)
   refine goes_ Tryz.func19 (by kernel_rfl) rfl #[.int .i64 ((rd_T52 ((rd_T48 l0_1 x54_3).f1) x61_4).f0)] (by rfl) rfl rfl (by (try simp only [List.map_toArray, List.map_cons, List.map_nil]); first | done | rfl | (simp only [List.length_drop, List.length_take]; rfl)) ?_
   with_reducible refine (spec_l12Arity.calls k4 ((rd_T52 ((rd_T48 l0_1 x54_3).f1) x61_4).f0) t145 _ A45.out).mono ?_
   rintro e w' ⟨rfl, ⟨nd, rfl⟩⟩
   refine ⟨_, rfl, ?_⟩
   refine hK.out _ _ ⟨(blk_cell BK144.out 0).trans rfl, (blk_cell BK144.out 1).trans rfl, (blk_cell BK144.out 2).trans rfl⟩ (fun hHeld => ?_)
   clear hK K
   refine norm_ (a' := ?_) ?_ ?_
   rotate_left
   · show Act.put _ (some 67) _ = _
     simp only [Act.put, lA, lB, lC, i64_w, i32_w]
     rfl
   refine pure_ (i := 3) (N := some 68) (v := ?_) (a' := ?_) #[bT, bT, bT, bT, bF, bF, bF, bF, bF, bF, bF, bF, bF, bF, bF, bF, bF, bF, bF, bF, bF, bF, bF, bF, bF, bF, bF, bF, bF, bF, bF] rfl rfl (any_of HT_.out (by kernel_rfl)) (fun _ _ _ h => h) (Or.inl ⟨by rfl, ?_⟩) ?_ ?_
   rotate_left
   · intro w'
     go_simp
     with_reducible rfl
   rotate_left
   · simp only [Act.put, lA, lB, lC, i64_w, i32_w]
     rfl
   refine pure_ (i := 4) (N := some 69) (v := ?_) (a' := ?_) #[bT, bT, bT, bT, bT, bF, bF, bF, bF, bF, bF, bF, bF, bF, bF, bF, bF, bF, bF, bF, bF, bF, bF, bF, bF, bF, bF, bF, bF, bF, bF] rfl rfl (any_of HT_.out (by kernel_rfl)) (fun _ _ _ h => h) (Or.inl ⟨by rfl, ?_⟩) ?_ ?_
   rotate_left
   · intro w'
     go_simp
     with_reducible rfl
   rotate_left
   · simp only [Act.put, lA, lB, lC, i64_w, i32_w]
     rfl
   refine pure_ (i := 5) (N := some 70) (v := ?_) (a' := ?_) #[bT, bT, bT, bT, bT, bT, bF, bF, bF, bF, bF, bF, bF, bF, bF, bF, bF, bF, bF, bF, bF, bF, bF, bF, bF, bF, bF, bF, bF, bF, bF] rfl rfl (any_of HT_.out (by kernel_rfl)) (fun _ _ _ h => h) (Or.inl ⟨by rfl, ?_⟩) ?_ ?_
   rotate_left
   · intro w'
     go_simp
     with_reducible rfl
   rotate_left
   · simp only [Act.put, lA, lB, lC, i64_w, i32_w]
     rfl
   refine pure_ (i := 8) (N := some 73) (v := ?_) (a' := ?_) #[bT, bT, bT, bT, bT, bT, bF, bF, bT, bF, bF, bF, bF, bF, bF, bF, bF, bF, bF, bF, bF, bF, bF, bF, bF, bF, bF, bF, bF, bF, bF] rfl rfl (any_of HT_.out (by kernel_rfl)) (fun _ _ _ h => h) (Or.inl ⟨by rfl, ?_⟩) ?_ ?_
   rotate_left
   · intro w'
     go_simp
     with_reducible rfl
   rotate_left
   · simp only [Act.put, lA, lB, lC, i64_w, i32_w]
     rfl
   refine take_ (i := 6) (N := some 71) (v := ?_) (a' := ?_) #[bT, bT, bT, bT, bT, bT, bT, bF, bT, bF, bF, bF, bF, bF, bF, bF, bF, bF, bF, bF, bF, bF, bF, bF, bF, bF, bF, bF, bF, bF, bF] rfl rfl (take_ofW HT_.out HW_.out (by kernel_rfl)) (fun _ _ _ h => h) (Or.inl ⟨by rfl, ?_⟩) hHeld ?_ ?_
   rotate_left
   · rintro w' ⟨s0, s1, s2⟩
     go_simp
     with_reducible rfl
   rotate_left
   · simp only [Act.put, lA, lB, lC, i64_w, i32_w]
     rfl
   refine pure_ (i := 7) (N := some 72) (v := ?_) (a' := ?_) #[bT, bT, bT, bT, bT, bT, bT, bT, bT, bF, bF, bF, bF, bF, bF, bF, bF, bF, bF, bF, bF, bF, bF, bF, bF, bF, bF, bF, bF, bF, bF] rfl rfl (any_of HT_.out (by kernel_rfl)) (fun _ _ _ h => h) (Or.inl ⟨by rfl, ?_⟩) ?_ ?_
   rotate_left
   · intro w'
     go_simp
     with_reducible rfl
   rotate_left
   · simp only [Act.put, lA, lB, lC, i64_w, i32_w]
     rfl
   refine take_ (i := 9) (N := some 74) (v := ?_) (a' := ?_) #[bT, bT, bT, bT, bT, bT, bT, bT, bT, bT, bF, bF, bF, bF, bF, bF, bF, bF, bF, bF, bF, bF, bF, bF, bF, bF, bF, bF, bF, bF, bF] rfl rfl (take_ofW HT_.out HW_.out (by kernel_rfl)) (fun _ _ _ h => h) (Or.inl ⟨by rfl, ?_⟩) hHeld ?_ ?_
   rotate_left
   · rintro w' ⟨s0, s1, s2⟩
     go_simp
     with_reducible rfl
   rotate_left
   · simp only [Act.put, lA, lB, lC, i64_w, i32_w]
     rfl
   refine one_ (i := 10) (N := some 75) #[bT, bT, bT, bT, bT, bT, bT, bT, bT, bT, bT, bF, bF, bF, bF, bF, bF, bF, bF, bF, bF, bF, bF, bF, bF, bF, bF, bF, bF, bF, bF] rfl rfl (one_of HT_.out (by kernel_rfl)) (by decide) (fun K hK => ?_)
   refine goes_ Tryz.func19 (by kernel_rfl) rfl #[.int .i64 ((rd_T52 ((rd_T48 l0_1 x54_3).f1) x61_4).f0)] (by rfl) rfl rfl (by (try simp only [List.map_toArray, List.map_cons, List.map_nil]); first | done | rfl | (simp only [List.length_drop, List.length_take]; rfl)) ?_
   with_reducible refine (spec_l12Arity.calls k4 ((rd_T52 ((rd_T48 l0_1 x54_3).f1) x61_4).f0) t146 _ A53.out).mono ?_
   rintro e w' ⟨rfl, ⟨nd, rfl⟩⟩
   refine ⟨_, rfl, ?_⟩
   refine hK.out _ _ ⟨(blk_cell BK144.out 0).trans rfl, (blk_cell BK144.out 1).trans rfl, (blk_cell BK144.out 2).trans rfl⟩ (fun hHeld => ?_)
   clear hK K
   refine norm_ (a' := ?_) ?_ ?_
   rotate_left
   · show Act.put _ (some 75) _ = _
     simp only [Act.put, lA, lB, lC, i64_w, i32_w]
     rfl
   refine pure_ (i := 11) (N := some 76) (v := ?_) (a' := ?_) #[bT, bT, bT, bT, bT, bT, bT, bT, bT, bT, bT, bT, bF, bF, bF, bF, bF, bF, bF, bF, bF, bF, bF, bF, bF, bF, bF, bF, bF, bF, bF] rfl rfl (any_of HT_.out (by kernel_rfl)) (fun _ _ _ h => h) (Or.inl ⟨by rfl, ?_⟩) ?_ ?_
   rotate_left
   · intro w'
     go_simp
     with_reducible rfl
   rotate_left
   · simp only [Act.put, lA, lB, lC, i64_w, i32_w]
     rfl
   refine pure_ (i := 12) (N := some 77) (v := ?_) (a' := ?_) #[bT, bT, bT, bT, bT, bT, bT, bT, bT, bT, bT, bT, bT, bF, bF, bF, bF, bF, bF, bF, bF, bF, bF, bF, bF, bF, bF, bF, bF, bF, bF] rfl rfl (any_of HT_.out (by kernel_rfl)) (fun _ _ _ h => h) (Or.inl ⟨by rfl, ?_⟩) ?_ ?_
   rotate_left
   · intro w'
     go_simp
     with_reducible rfl
   rotate_left
   · simp only [Act.put, lA, lB, lC, i64_w, i32_w]
     rfl
   refine pure_ (i := 13) (N := some 78) (v := ?_) (a' := ?_) #[bT, bT, bT, bT, bT, bT, bT, bT, bT, bT, bT, bT, bT, bT, bF, bF, bF, bF, bF, bF, bF, bF, bF, bF, bF, bF, bF, bF, bF, bF, bF] rfl rfl (any_of HT_.out (by kernel_rfl)) (fun _ _ _ h => h) (Or.inl ⟨by rfl, ?_⟩) ?_ ?_
   rotate_left
   · intro w'
     go_simp
     with_reducible rfl
   rotate_left
   · simp only [Act.put, lA, lB, lC, i64_w, i32_w]
     rfl
   refine pure_ (i := 14) (N := some 79) (v := undef) (a' := ?_) #[bT, bT, bT, bT, bT, bT, bT, bT, bT, bT, bT, bT, bT, bT, bT, bF, bF, bF, bF, bF, bF, bF, bF, bF, bF, bF, bF, bF, bF, bF, bF] rfl rfl (any_of HT_.out (by kernel_rfl)) (fun _ _ _ h => h) (Or.inr ⟨by rfl, rfl⟩) ?_ ?_
   rotate_left
   · simp only [Act.put, lA, lB, lC, i64_w, i32_w]
     rfl
   refine pure_ (i := 15) (N := some 80) (v := undef) (a' := ?_) #[bT, bT, bT, bT, bT, bT, bT, bT, bT, bT, bT, bT, bT, bT, bT, bT, bF, bF, bF, bF, bF, bF, bF, bF, bF, bF, bF, bF, bF, bF, bF] rfl rfl (any_of HT_.out (by kernel_rfl)) (fun _ _ _ h => h) (Or.inr ⟨by rfl, rfl⟩) ?_ ?_
   rotate_left
   · simp only [Act.put, lA, lB, lC, i64_w, i32_w]
     rfl
   refine pure_ (i := 16) (N := some 81) (v := undef) (a' := ?_) #[bT, bT, bT, bT, bT, bT, bT, bT, bT, bT, bT, bT, bT, bT, bT, bT, bT, bF, bF, bF, bF, bF, bF, bF, bF, bF, bF, bF, bF, bF, bF] rfl rfl (any_of HT_.out (by kernel_rfl)) (fun _ _ _ h => h) (Or.inr ⟨by rfl, rfl⟩) ?_ ?_
   rotate_left
   · simp only [Act.put, lA, lB, lC, i64_w, i32_w]
     rfl
   refine pure_ (i := 17) (N := some 82) (v := undef) (a' := ?_) #[bT, bT, bT, bT, bT, bT, bT, bT, bT, bT, bT, bT, bT, bT, bT, bT, bT, bT, bF, bF, bF, bF, bF, bF, bF, bF, bF, bF, bF, bF, bF] rfl rfl (any_of HT_.out (by kernel_rfl)) (fun _ _ _ h => h) (Or.inr ⟨by rfl, rfl⟩) ?_ ?_
   rotate_left
   · simp only [Act.put, lA, lB, lC, i64_w, i32_w]
     rfl
   refine pure_ (i := 18) (N := some 83) (v := undef) (a' := ?_) #[bT, bT, bT, bT, bT, bT, bT, bT, bT, bT, bT, bT, bT, bT, bT, bT, bT, bT, bT, bF, bF, bF, bF, bF, bF, bF, bF, bF, bF, bF, bF] rfl rfl (any_of HT_.out (by kernel_rfl)) (fun _ _ _ h => h) (Or.inr ⟨by rfl, rfl⟩) ?_ ?_
   rotate_left
   · simp only [Act.put, lA, lB, lC, i64_w, i32_w]
     rfl
   refine pure_ (i := 19) (N := some 84) (v := undef) (a' := ?_) #[bT, bT, bT, bT, bT, bT, bT, bT, bT, bT, bT, bT, bT, bT, bT, bT, bT, bT, bT, bT, bF, bF, bF, bF, bF, bF, bF, bF, bF, bF, bF] rfl rfl (any_of HT_.out (by kernel_rfl)) (fun _ _ _ h => h) (Or.inr ⟨by rfl, rfl⟩) ?_ ?_
   rotate_left
   · simp only [Act.put, lA, lB, lC, i64_w, i32_w]
     rfl
   refine pure_ (i := 20) (N := some 85) (v := ?_) (a' := ?_) #[bT, bT, bT, bT, bT, bT, bT, bT, bT, bT, bT, bT, bT, bT, bT, bT, bT, bT, bT, bT, bT, bF, bF, bF, bF, bF, bF, bF, bF, bF, bF] rfl rfl (any_of HT_.out (by kernel_rfl)) (fun _ _ _ h => h) (Or.inl ⟨by rfl, ?_⟩) ?_ ?_
   rotate_left
   · intro w'
     go_simp
     with_reducible rfl
   rotate_left
   · simp only [Act.put, lA, lB, lC, i64_w, i32_w]
     rfl
   refine pure_ (i := 21) (N := some 86) (v := ?_) (a' := ?_) #[bT, bT, bT, bT, bT, bT, bT, bT, bT, bT, bT, bT, bT, bT, bT, bT, bT, bT, bT, bT, bT, bT, bF, bF, bF, bF, bF, bF, bF, bF, bF] rfl rfl (any_of HT_.out (by kernel_rfl)) (fun _ _ _ h => h) (Or.inl ⟨by rfl, ?_⟩) ?_ ?_
   rotate_left
   · intro w'
     go_simp
     with_reducible rfl
   rotate_left
   · simp only [Act.put, lA, lB, lC, i64_w, i32_w]
     rfl
   refine pure_ (i := 22) (N := some 87) (v := undef) (a' := ?_) #[bT, bT, bT, bT, bT, bT, bT, bT, bT, bT, bT, bT, bT, bT, bT, bT, bT, bT, bT, bT, bT, bT, bT, bF, bF, bF, bF, bF, bF, bF, bF] rfl rfl (any_of HT_.out (by kernel_rfl)) (fun _ _ _ h => h) (Or.inr ⟨by rfl, rfl⟩) ?_ ?_
   rotate_left
   · simp only [Act.put, lA, lB, lC, i64_w, i32_w]
     rfl
   refine pure_ (i := 23) (N := some 88) (v := undef) (a' := ?_) #[bT, bT, bT, bT, bT, bT, bT, bT, bT, bT, bT, bT, bT, bT, bT, bT, bT, bT, bT, bT, bT, bT, bT, bT, bF, bF, bF, bF, bF, bF, bF] rfl rfl (any_of HT_.out (by kernel_rfl)) (fun _ _ _ h => h) (Or.inr ⟨by rfl, rfl⟩) ?_ ?_
   rotate_left
   · simp only [Act.put, lA, lB, lC, i64_w, i32_w]
     rfl
   refine pure_ (i := 24) (N := some 89) (v := undef) (a' := ?_) #[bT, bT, bT, bT, bT, bT, bT, bT, bT, bT, bT, bT, bT, bT, bT, bT, bT, bT, bT, bT, bT, bT, bT, bT, bT, bF, bF, bF, bF, bF, bF] rfl rfl (any_of HT_.out (by kernel_rfl)) (fun _ _ _ h => h) (Or.inr ⟨by rfl, rfl⟩) ?_ ?_
   rotate_left
   · simp only [Act.put, lA, lB, lC, i64_w, i32_w]
     rfl
   refine pure_ (i := 25) (N := some 90) (v := undef) (a' := ?_) #[bT, bT, bT, bT, bT, bT, bT, bT, bT, bT, bT, bT, bT, bT, bT, bT, bT, bT, bT, bT, bT, bT, bT, bT, bT, bT, bF, bF, bF, bF, bF] rfl rfl (any_of HT_.out (by kernel_rfl)) (fun _ _ _ h => h) (Or.inr ⟨by rfl, rfl⟩) ?_ ?_
   rotate_left
   · simp only [Act.put, lA, lB, lC, i64_w, i32_w]
     rfl
   refine pure_ (i := 26) (N := some 91) (v := undef) (a' := ?_) #[bT, bT, bT, bT, bT, bT, bT, bT, bT, bT, bT, bT, bT, bT, bT, bT, bT, bT, bT, bT, bT, bT, bT, bT, bT, bT, bT, bF, bF, bF, bF] rfl rfl (any_of HT_.out (by kernel_rfl)) (fun _ _ _ h => h) (Or.inr ⟨by rfl, rfl⟩) ?_ ?_
   rotate_left
   · simp only [Act.put, lA, lB, lC, i64_w, i32_w]
     rfl
   refine pure_ (i := 27) (N := some 92) (v := undef) (a' := ?_) #[bT, bT, bT, bT, bT, bT, bT, bT, bT, bT, bT, bT, bT, bT, bT, bT, bT, bT, bT, bT, bT, bT, bT, bT, bT, bT, bT, bT, bF, bF, bF] rfl rfl (any_of HT_.out (by kernel_rfl)) (fun _ _ _ h => h) (Or.inr ⟨by rfl, rfl⟩) ?_ ?_
   rotate_left
   · simp only [Act.put, lA, lB, lC, i64_w, i32_w]
     rfl
   refine pure_ (i := 28) (N := some 93) (v := undef) (a' := ?_) #[bT, bT, bT, bT, bT, bT, bT, bT, bT, bT, bT, bT, bT, bT, bT, bT, bT, bT, bT, bT, bT, bT, bT, bT, bT, bT, bT, bT, bT, bF, bF] rfl rfl (any_of HT_.out (by kernel_rfl)) (fun _ _ _ h => h) (Or.inr ⟨by rfl, rfl⟩) ?_ ?_
   rotate_left
   · simp only [Act.put, lA, lB, lC, i64_w, i32_w]
     rfl
   refine pure_ (i := 29) (N := some 94) (v := undef) (a' := ?_) #[bT, bT, bT, bT, bT, bT, bT, bT, bT, bT, bT, bT, bT, bT, bT, bT, bT, bT, bT, bT, bT, bT, bT, bT, bT, bT, bT, bT, bT, bT, bF] rfl rfl (any_of HT_.out (by kernel_rfl)) (fun _ _ _ h => h) (Or.inr ⟨by rfl, rfl⟩) ?_ ?_
   rotate_left
   · simp only [Act.put, lA, lB, lC, i64_w, i32_w]
     rfl
   refine pure_ (i := 30) (N := some 95) (v := ?_) (a' := ?_) #[bT, bT, bT, bT, bT, bT, bT, bT, bT, bT, bT, bT, bT, bT, bT, bT, bT, bT, bT, bT, bT, bT, bT, bT, bT, bT, bT, bT, bT, bT, bT] rfl rfl (any_of HT_.out (by kernel_rfl)) (fun _ _ _ h => h) (Or.inl ⟨by rfl, ?_⟩) ?_ ?_
   rotate_left
   · intro w'
     go_simp
     with_reducible rfl
   rotate_left
   · simp only [Act.put, lA, lB, lC, i64_w, i32_w]
     rfl
   refine done_ (done_of HT_.out (by kernel_rfl)) ?_
   try go_wp2
   go_ret
   exact ⟨by first | rfl | (simp [errW_none, errW_some] <;> rfl) | (simp [*, errW_none, errW_some] <;> rfl), by repeat (first | (with_reducible first | exact HB.out | apply below_alloc | apply pw_below_drewN | apply below_drew1 | refine below_set ?_ GE132.out | refine below_set ?_ GE141.out | refine below_set ?_ GE144.out) | exact HB.out)⟩
 rw [if_pos c54] at H
 have c54b0 : ((((rd_T52 ((rd_T48 l0_1 x54_3).f1) x61_4).f2).length : Int) == t146) = true := beq_iff_eq.mpr c54
 have c54b1 : ((((rd_T52 ((rd_T48 l0_1 x54_3).f1) x61_4).f2).length : Int) != t146) = false := bne_eq_false_iff_eq.mpr c54
 clear c54
 replace H := Option.bind_eq_some_iff.mp H
 obtain ⟨t147, A550, H⟩ := H
 replace H : (if t147 = true then (if ((rd_T52 ((rd_T48 l0_1 x54_3).f1) x61_4).f0) = 1 then (spec_GoodFunc.l2 k4 t139 l0_1 (l0_1.length : Int) x54_3 ((rd_T48 l0_1 x54_3).f1) (((rd_T48 l0_1 x54_3).f1).length : Int) (wrap64 (x61_4 + 1)) a0_0 l0_1 ((rd_T48 l0_1 x54_3).f0) ((rd_T48 l0_1 x54_3).f1) ((rd_T48 l0_1 x54_3).f2) ((rd_T48 l0_1 x54_3).f3) ((rd_T48 l0_1 x54_3).f4)) else (if ((rd_T52 ((rd_T48 l0_1 x54_3).f1) x61_4).f1) = 0 then (spec_GoodFunc.l2 k4 t139 l0_1 (l0_1.length : Int) x54_3 ((rd_T48 l0_1 x54_3).f1) (((rd_T48 l0_1 x54_3).f1).length : Int) (wrap64 (x61_4 + 1)) a0_0 l0_1 ((rd_T48 l0_1 x54_3).f0) ((rd_T48 l0_1 x54_3).f1) ((rd_T48 l0_1 x54_3).f2) ((rd_T48 l0_1 x54_3).f3) ((rd_T48 l0_1 x54_3).f4)) else (some false))) else (some false)) = some r := H
 have A55 := Aside0.mk A550
 clear A550
 by_cases c56 : t147 = true
 rotate_left
 · replace c56 := Bool.eq_false_iff.mpr c56
   subst c56
   have H1 : (some false) = some r := by rw [if_neg (show ¬ (false = true) by decide)] at H; exact H
   clear H
   have H := H1
   clear H1
   obtain rfl := Option.some.inj H
   have p143 : 0 ≤ (x61_4 : Int) := of_decide_eq_true (by first | (with_reducible assumption) | assumption)
   have q143 : x61_4 < (((rd_T48 l0_1 x54_3).f1).length : Int) := of_decide_eq_true (by first | (with_reducible assumption) | assumption)
   obtain ⟨ad143, A143_2, c143_2, e143, hx143_0, hx143_1, hx143_2, hl143_2, hi143_2⟩ := at_T52 HR140_1.out x61_4 p143 q143
   cases e143
   replace hx143_0 := cB HB.out hx143_0
   replace hx143_1 := cB HB.out hx143_1
   replace hx143_2 := cB HB.out hx143_2
   have HR143_2 := Aside0.mk hi143_2
   have HC143_2 := Aside0.mk hl143_2
   clear hi143_2 hl143_2
   replace p143 := eq_true p143
   replace q143 := eq_true q143
   try go_wp2_with (first | ((with_reducible refine gate_dst (N := 9) rfl ?_); (try (refine gate_guard (by rfl) ?_; dsimp only)); refine box_event ?hg (N := 9) ?hd (cs := #[.int .i64 0, .int .i64 0, .slice none 0 0]) (t := 52) ?hr ?_; (case hd => rfl); (case hg => rfl); (case hr => first | (go_simp; done) | (go_simp; rfl)); intro gb144 hg w77 hbox hb; have n0_ := Aside0.mk (bB BK132.out hb); have n1_ := Aside0.mk (bB BK141.out hb); have n2_ := Aside0.mk (below_step (by repeat (first | (with_reducible first | exact HB.out | apply below_alloc | apply pw_below_drewN | apply below_drew1 | refine below_set ?_ GE132.out | refine below_set ?_ GE141.out) | exact HB.out)) hb); have n3_ := Aside0.mk (hbox); have n4_ := Aside0.mk ((by rw [hg]; exact (below_size (by repeat (first | (with_reducible first | exact HB.out | apply below_alloc | apply pw_below_drewN | apply below_drew1 | refine below_set ?_ GE132.out | refine below_set ?_ GE141.out) | exact HB.out))) : w.heap.size ≤ gb144)); have n5_ := n4_; have n6_ := Aside0.mk ((by rw [hg]; exact Nat.ne_of_lt (blk_lt BK132.out) : gb132 ≠ gb144)); have n7_ := Aside0.mk ((by rw [hg]; exact Nat.ne_of_gt (blk_lt BK132.out) : gb144 ≠ gb132)); have n8_ := Aside0.mk ((by rw [hg]; exact Nat.ne_of_lt (blk_lt BK141.out) : gb141 ≠ gb144)); have n9_ := Aside0.mk ((by rw [hg]; exact Nat.ne_of_gt (blk_lt BK141.out) : gb144 ≠ gb141)); clear BK132; clear BK141; clear HB; have BK132 := n0_; have BK141 := n1_; have HB := n2_; have BK144 := n3_; have GW144 := n4_; have GE144 := n5_; have NB132_144 := n6_; have NB144_132 := n7_; have NB141_144 := n8_; have NB144_141 := n9_; clear n0_ n1_ n2_ n3_ n4_ n5_ n6_ n7_ n8_ n9_; clear hb hbox hg; have hnb78 := NB144_132.out; have hnc78 := NB132_144.out; have hnb79 := NB144_141.out; have hnc79 := NB141_144.out; obtain ⟨hcz80_0, hcz80_1, hcz80_2, hfz80_0, hfz80_1, hfz80_2⟩ := blk3 BK144.out))
   have n0_ : Aside0 ((((w77.setCell ⟨gb144, 0, none⟩ (.int .i64 ((rd_T52 ((rd_T48 l0_1 x54_3).f1) x61_4).f0))).setCell ⟨gb144, 1, none⟩ (.int .i64 ((rd_T52 ((rd_T48 l0_1 x54_3).f1) x61_4).f1))).setCell ⟨gb144, 2, none⟩ (.slice A143_2 ((rd_T52 ((rd_T48 l0_1 x54_3).f1) x61_4).f2).length c143_2)).heap[gb132]? = some (.cells #[.int .i64 a0_0, .slice (some ad140) l0_1.length c0_1] 30 (0, 0))) := ⟨by (with_reducible repeat (first | refine blk_drewN ?_ _ | refine blk_drew ?_ | refine blk_alloc ?_ _)); refine blk_far ?_ NB132_144.out _; (with_reducible repeat (first | refine blk_drewN ?_ _ | refine blk_drew ?_ | refine blk_alloc ?_ _)); refine blk_far ?_ NB132_144.out _; (with_reducible repeat (first | refine blk_drewN ?_ _ | refine blk_drew ?_ | refine blk_alloc ?_ _)); refine blk_far ?_ NB132_144.out _; (with_reducible repeat (first | refine blk_drewN ?_ _ | refine blk_drew ?_ | refine blk_alloc ?_ _)); exact BK132.out⟩
   have n1_ : Aside0 ((((w77.setCell ⟨gb144, 0, none⟩ (.int .i64 ((rd_T52 ((rd_T48 l0_1 x54_3).f1) x61_4).f0))).setCell ⟨gb144, 1, none⟩ (.int .i64 ((rd_T52 ((rd_T48 l0_1 x54_3).f1) x61_4).f1))).setCell ⟨gb144, 2, none⟩ (.slice A143_2 ((rd_T52 ((rd_T48 l0_1 x54_3).f1) x61_4).f2).length c143_2)).heap[gb141]? = some (.cells #[.int .i64 ((rd_T48 l0_1 x54_3).f0), .slice (some ad143) ((rd_T48 l0_1 x54_3).f1).length c140_1, .int .i64 ((rd_T48 l0_1 x54_3).f2), .int .i64 ((rd_T48 l0_1 x54_3).f3), .slice A140_4 ((rd_T48 l0_1 x54_3).f4).length c140_4] 48 (0, 0))) := ⟨by (with_reducible repeat (first | refine blk_drewN ?_ _ | refine blk_drew ?_ | refine blk_alloc ?_ _)); refine blk_far ?_ NB141_144.out _; (with_reducible repeat (first | refine blk_drewN ?_ _ | refine blk_drew ?_ | refine blk_alloc ?_ _)); refine blk_far ?_ NB141_144.out _; (with_reducible repeat (first | refine blk_drewN ?_ _ | refine blk_drew ?_ | refine blk_alloc ?_ _)); refine blk_far ?_ NB141_144.out _; (with_reducible repeat (first | refine blk_drewN ?_ _ | refine blk_drew ?_ | refine blk_alloc ?_ _)); exact BK141.out⟩
   have n2_ : Aside0 ((((w77.setCell ⟨gb144, 0, none⟩ (.int .i64 ((rd_T52 ((rd_T48 l0_1 x54_3).f1) x61_4).f0))).setCell ⟨gb144, 1, none⟩ (.int .i64 ((rd_T52 ((rd_T48 l0_1 x54_3).f1) x61_4).f1))).setCell ⟨gb144, 2, none⟩ (.slice A143_2 ((rd_T52 ((rd_T48 l0_1 x54_3).f1) x61_4).f2).length c143_2)).heap[gb144]? = some (.cells #[.int .i64 ((rd_T52 ((rd_T48 l0_1 x54_3).f1) x61_4).f0), .int .i64 ((rd_T52 ((rd_T48 l0_1 x54_3).f1) x61_4).f1), .slice A143_2 ((rd_T52 ((rd_T48 l0_1 x54_3).f1) x61_4).f2).length c143_2] 52 (0, 0))) := ⟨by (with_reducible repeat (first | refine blk_drewN ?_ _ | refine blk_drew ?_ | refine blk_alloc ?_ _)); refine blk_put (cs := #[.int .i64 ((rd_T52 ((rd_T48 l0_1 x54_3).f1) x61_4).f0), .int .i64 ((rd_T52 ((rd_T48 l0_1 x54_3).f1) x61_4).f1), .slice none 0 0]) ?_ 2 _ rfl; (with_reducible repeat (first | refine blk_drewN ?_ _ | refine blk_drew ?_ | refine blk_alloc ?_ _)); refine blk_put (cs := #[.int .i64 ((rd_T52 ((rd_T48 l0_1 x54_3).f1) x61_4).f0), .int .i64 0, .slice none 0 0]) ?_ 1 _ rfl; (with_reducible repeat (first | refine blk_drewN ?_ _ | refine blk_drew ?_ | refine blk_alloc ?_ _)); refine blk_put (cs := #[.int .i64 0, .int .i64 0, .slice none 0 0]) ?_ 0 _ rfl; (with_reducible repeat (first | refine blk_drewN ?_ _ | refine blk_drew ?_ | refine blk_alloc ?_ _)); exact BK144.out⟩
   have n3_ : Aside0 (Below w.heap.size w (((w77.setCell ⟨gb144, 0, none⟩ (.int .i64 ((rd_T52 ((rd_T48 l0_1 x54_3).f1) x61_4).f0))).setCell ⟨gb144, 1, none⟩ (.int .i64 ((rd_T52 ((rd_T48 l0_1 x54_3).f1) x61_4).f1))).setCell ⟨gb144, 2, none⟩ (.slice A143_2 ((rd_T52 ((rd_T48 l0_1 x54_3).f1) x61_4).f2).length c143_2))) := ⟨by repeat (first | (with_reducible first | exact HB.out | apply below_alloc | apply pw_below_drewN | apply below_drew1 | refine below_set ?_ GE132.out | refine below_set ?_ GE141.out | refine below_set ?_ GE144.out) | exact HB.out)⟩
   (try clear BK132)
   (try clear BK141)
   (try clear BK144)
   (try clear HB)
   generalize (((w77.setCell ⟨gb144, 0, none⟩ (.int .i64 ((rd_T52 ((rd_T48 l0_1 x54_3).f1) x61_4).f0))).setCell ⟨gb144, 1, none⟩ (.int .i64 ((rd_T52 ((rd_T48 l0_1 x54_3).f1) x61_4).f1))).setCell ⟨gb144, 2, none⟩ (.slice A143_2 ((rd_T52 ((rd_T48 l0_1 x54_3).f1) x61_4).f2).length c143_2)) = w81 at n0_ n1_ n2_ n3_ ⊢
   have BK132 := n0_
   have BK141 := n1_
   have BK144 := n2_
   have HB := n3_
   clear n0_ n1_ n2_ n3_
   have n0_ := Aside0.mk (blk_drew BK132.out)
   have n1_ := Aside0.mk (blk_drew BK141.out)
   have n2_ := Aside0.mk (blk_drew BK144.out)
   have n3_ := Aside0.mk (below_drew1 HB.out)
   clear BK132
   clear BK141
   clear BK144
   clear HB
   have BK132 := n0_
   have BK141 := n1_
   have BK144 := n2_
   have HB := n3_
   clear n0_ n1_ n2_ n3_
   refine start_ (n := 31) (S := fun w' => w'.cell? ⟨gb144, 0, none⟩ = some (.int .i64 ((rd_T52 ((rd_T48 l0_1 x54_3).f1) x61_4).f0)) ∧ w'.cell? ⟨gb144, 1, none⟩ = some (.int .i64 ((rd_T52 ((rd_T48 l0_1 x54_3).f1) x61_4).f1)) ∧ w'.cell? ⟨gb144, 2, none⟩ = some (.slice A143_2 ((rd_T52 ((rd_T48 l0_1 x54_3).f1) x61_4).f2).length c143_2)) (ds := []) #[bF, bF, bF, bF, bF, bF, bF, bF, bF, bF, bF, bF, bF, bF, bF, bF, bF, bF, bF, bF, bF, bF, bF, bF, bF, bF, bF, bF, bF, bF, bF] (by kernel_rfl) rfl rfl ⟨(blk_cell BK144.out 0).trans rfl, (blk_cell BK144.out 1).trans rfl, (blk_cell BK144.out 2).trans rfl⟩ (fun hHeld => ?_); refine with_tabW spec_GoodFunc.tab18 spec_GoodFunc.bits18 (fun HT_ HW_ => ?_)
   generalize w81.drew = w82 at BK132 BK141 BK144 HB hHeld ⊢
   refine pure_ (i := 0) (N := some 65) (v := ?_) (a' := ?_) #[bT, bF, bF, bF, bF, bF, bF, bF, bF, bF, bF, bF, bF, bF, bF, bF, bF, bF, bF, bF, bF, bF, bF, bF, bF, bF, bF, bF, bF, bF, bF] rfl rfl (any_of HT_.out (by kernel_rfl)) (fun _ _ _ h => h) (Or.inl ⟨by rfl, ?_⟩) ?_ ?_
   rotate_left
   · intro w'
     go_simp
     with_reducible rfl
   rotate_left
   · simp only [Act.put, lA, lB, lC, i64_w, i32_w]
     rfl
   refine take_ (i := 1) (N := some 66) (v := ?_) (a' := ?_) #[bT, bT, bF, bF, bF, bF, bF, bF, bF, bF, bF, bF, bF, bF, bF, bF, bF, bF, bF, bF, bF, bF, bF, bF, bF, bF, bF, bF, bF, bF, bF] rfl rfl (take_ofW HT_.out HW_.out (by kernel_rfl)) (fun _ _ _ h => h) (Or.inl ⟨by rfl, ?_⟩) hHeld ?_ ?_
   rotate_left
   · rintro w' ⟨s0, s1, s2⟩
     go_simp
     with_reducible rfl
   rotate_left
   · simp only [Act.put, lA, lB, lC, i64_w, i32_w]
     rfl
   refine one_ (i := 2) (N := some 67) #[bT, bT, bT, bF, bF, bF, bF, bF, bF, bF, bF, bF, bF, bF, bF, bF, bF, bF, bF, bF, bF, bF, bF, bF, bF, bF, bF, bF, bF, bF, bF] rfl rfl (one_of HT_.out (by kernel_rfl)) (by decide) (fun K hK => ?_)
   refine goes_ Tryz.func19 (by kernel_rfl) rfl #[.int .i64 ((rd_T52 ((rd_T48 l0_1 x54_3).f1) x61_4).f0)] (by rfl) rfl rfl (by (try simp only [List.map_toArray, List.map_cons, List.map_nil]); first | done | rfl | (simp only [List.length_drop, List.length_take]; rfl)) ?_
   with_reducible refine (spec_l12Arity.calls k4 ((rd_T52 ((rd_T48 l0_1 x54_3).f1) x61_4).f0) t145 _ A45.out).mono ?_
   rintro e w' ⟨rfl, ⟨nd, rfl⟩⟩
   refine ⟨_, rfl, ?_⟩
   refine hK.out _ _ ⟨(blk_cell BK144.out 0).trans rfl, (blk_cell BK144.out 1).trans rfl, (blk_cell BK144.out 2).trans rfl⟩ (fun hHeld => ?_)
   clear hK K
   refine norm_ (a' := ?_) ?_ ?_
   rotate_left
   · show Act.put _ (some 67) _ = _
     simp only [Act.put, lA, lB, lC, i64_w, i32_w]
     rfl
   refine pure_ (i := 3) (N := some 68) (v := ?_) (a' := ?_) #[bT, bT, bT, bT, bF, bF, bF, bF, bF, bF, bF, bF, bF, bF, bF, bF, bF, bF, bF, bF, bF, bF, bF, bF, bF, bF, bF, bF, bF, bF, bF] rfl rfl (any_of HT_.out (by kernel_rfl)) (fun _ _ _ h => h) (Or.inl ⟨by rfl, ?_⟩) ?_ ?_
   rotate_left
   · intro w'
     go_simp
     with_reducible rfl
   rotate_left
   · simp only [Act.put, lA, lB, lC, i64_w, i32_w]
     rfl
   refine pure_ (i := 4) (N := some 69) (v := ?_) (a' := ?_) #[bT, bT, bT, bT, bT, bF, bF, bF, bF, bF, bF, bF, bF, bF, bF, bF, bF, bF, bF, bF, bF, bF, bF, bF, bF, bF, bF, bF, bF, bF, bF] rfl rfl (any_of HT_.out (by kernel_rfl)) (fun _ _ _ h => h) (Or.inl ⟨by rfl, ?_⟩) ?_ ?_
   rotate_left
   · intro w'
     go_simp
     with_reducible rfl
   rotate_left
   · simp only [Act.put, lA, lB, lC, i64_w, i32_w]
     rfl
   refine pure_ (i := 5) (N := some 70) (v := ?_) (a' := ?_) #[bT, bT, bT, bT, bT, bT, bF, bF, bF, bF, bF, bF, bF, bF, bF, bF, bF, bF, bF, bF, bF, bF, bF, bF, bF, bF, bF, bF, bF, bF, bF] rfl rfl (any_of HT_.out (by kernel_rfl)) (fun _ _ _ h => h) (Or.inl ⟨by rfl, ?_⟩) ?_ ?_
   rotate_left
   · intro w'
     go_simp
     with_reducible rfl
   rotate_left
   · simp only [Act.put, lA, lB, lC, i64_w, i32_w]
     rfl
   refine pure_ (i := 8) (N := some 73) (v := ?_) (a' := ?_) #[bT, bT, bT, bT, bT, bT, bF, bF, bT, bF, bF, bF, bF, bF, bF, bF, bF, bF, bF, bF, bF, bF, bF, bF, bF, bF, bF, bF, bF, bF, bF] rfl rfl (any_of HT_.out (by kernel_rfl)) (fun _ _ _ h => h) (Or.inl ⟨by rfl, ?_⟩) ?_ ?_
   rotate_left
   · intro w'
     go_simp
     with_reducible rfl
   rotate_left
   · simp only [Act.put, lA, lB, lC, i64_w, i32_w]
     rfl
   refine take_ (i := 6) (N := some 71) (v := ?_) (a' := ?_) #[bT, bT, bT, bT, bT, bT, bT, bF, bT, bF, bF, bF, bF, bF, bF, bF, bF, bF, bF, bF, bF, bF, bF, bF, bF, bF, bF, bF, bF, bF, bF] rfl rfl (take_ofW HT_.out HW_.out (by kernel_rfl)) (fun _ _ _ h => h) (Or.inl ⟨by rfl, ?_⟩) hHeld ?_ ?_
   rotate_left
   · rintro w' ⟨s0, s1, s2⟩
     go_simp
     with_reducible rfl
   rotate_left
   · simp only [Act.put, lA, lB, lC, i64_w, i32_w]
     rfl
   refine pure_ (i := 7) (N := some 72) (v := ?_) (a' := ?_) #[bT, bT, bT, bT, bT, bT, bT, bT, bT, bF, bF, bF, bF, bF, bF, bF, bF, bF, bF, bF, bF, bF, bF, bF, bF, bF, bF, bF, bF, bF, bF] rfl rfl (any_of HT_.out (by kernel_rfl)) (fun _ _ _ h => h) (Or.inl ⟨by rfl, ?_⟩) ?_ ?_
   rotate_left
   · intro w'
     go_simp
     with_reducible rfl
   rotate_left
   · simp only [Act.put, lA, lB, lC, i64_w, i32_w]
     rfl
   refine take_ (i := 9) (N := some 74) (v := ?_) (a' := ?_) #[bT, bT, bT, bT, bT, bT, bT, bT, bT, bT, bF, bF, bF, bF, bF, bF, bF, bF, bF, bF, bF, bF, bF, bF, bF, bF, bF, bF, bF, bF, bF] rfl rfl (take_ofW HT_.out HW_.out (by kernel_rfl)) (fun _ _ _ h => h) (Or.inl ⟨by rfl, ?_⟩) hHeld ?_ ?_
   rotate_left
   · rintro w' ⟨s0, s1, s2⟩
     go_simp
     with_reducible rfl
   rotate_left
   · simp only [Act.put, lA, lB, lC, i64_w, i32_w]
     rfl
   refine one_ (i := 10) (N := some 75) #[bT, bT, bT, bT, bT, bT, bT, bT, bT, bT, bT, bF, bF, bF, bF, bF, bF, bF, bF, bF, bF, bF, bF, bF, bF, bF, bF, bF, bF, bF, bF] rfl rfl (one_of HT_.out (by kernel_rfl)) (by decide) (fun K hK => ?_)
   refine goes_ Tryz.func19 (by kernel_rfl) rfl #[.int .i64 ((rd_T52 ((rd_T48 l0_1 x54_3).f1) x61_4).f0)] (by rfl) rfl rfl (by (try simp only [List.map_toArray, List.map_cons, List.map_nil]); first | done | rfl | (simp only [List.length_drop, List.length_take]; rfl)) ?_
   with_reducible refine (spec_l12Arity.calls k4 ((rd_T52 ((rd_T48 l0_1 x54_3).f1) x61_4).f0) t146 _ A53.out).mono ?_
   rintro e w' ⟨rfl, ⟨nd, rfl⟩⟩
   refine ⟨_, rfl, ?_⟩
   refine hK.out _ _ ⟨(blk_cell BK144.out 0).trans rfl, (blk_cell BK144.out 1).trans rfl, (blk_cell BK144.out 2).trans rfl⟩ (fun hHeld => ?_)
   clear hK K
   refine norm_ (a' := ?_) ?_ ?_
   rotate_left
   · show Act.put _ (some 75) _ = _
     simp only [Act.put, lA, lB, lC, i64_w, i32_w]
     rfl
   refine pure_ (i := 11) (N := some 76) (v := ?_) (a' := ?_) #[bT, bT, bT, bT, bT, bT, bT, bT, bT, bT, bT, bT, bF, bF, bF, bF, bF, bF, bF, bF, bF, bF, bF, bF, bF, bF, bF, bF, bF, bF, bF] rfl rfl (any_of HT_.out (by kernel_rfl)) (fun _ _ _ h => h) (Or.inl ⟨by rfl, ?_⟩) ?_ ?_
   rotate_left
   · intro w'
     go_simp
     with_reducible rfl
   rotate_left
   · simp only [Act.put, lA, lB, lC, i64_w, i32_w]
     rfl
   refine pure_ (i := 12) (N := some 77) (v := ?_) (a' := ?_) #[bT, bT, bT, bT, bT, bT, bT, bT, bT, bT, bT, bT, bT, bF, bF, bF, bF, bF, bF, bF, bF, bF, bF, bF, bF, bF, bF, bF, bF, bF, bF] rfl rfl (any_of HT_.out (by kernel_rfl)) (fun _ _ _ h => h) (Or.inl ⟨by rfl, ?_⟩) ?_ ?_
   rotate_left
   · intro w'
     go_simp
     with_reducible rfl
   rotate_left
   · simp only [Act.put, lA, lB, lC, i64_w, i32_w]
     rfl
   refine pure_ (i := 13) (N := some 78) (v := ?_) (a' := ?_) #[bT, bT, bT, bT, bT, bT, bT, bT, bT, bT, bT, bT, bT, bT, bF, bF, bF, bF, bF, bF, bF, bF, bF, bF, bF, bF, bF, bF, bF, bF, bF] rfl rfl (any_of HT_.out (by kernel_rfl)) (fun _ _ _ h => h) (Or.inl ⟨by rfl, ?_⟩) ?_ ?_
   rotate_left
   · intro w'
     go_simp
     with_reducible rfl
   rotate_left
   · simp only [Act.put, lA, lB, lC, i64_w, i32_w]
     rfl
   refine pure_ (i := 14) (N := some 79) (v := ?_) (a' := ?_) #[bT, bT, bT, bT, bT, bT, bT, bT, bT, bT, bT, bT, bT, bT, bT, bF, bF, bF, bF, bF, bF, bF, bF, bF, bF, bF, bF, bF, bF, bF, bF] rfl rfl (any_of HT_.out (by kernel_rfl)) (fun _ _ _ h => h) (Or.inl ⟨by rfl, ?_⟩) ?_ ?_
   rotate_left
   · intro w'
     go_simp
     with_reducible rfl
   rotate_left
   · simp only [Act.put, lA, lB, lC, i64_w, i32_w]
     rfl
   refine pure_ (i := 16) (N := some 81) (v := ?_) (a' := ?_) #[bT, bT, bT, bT, bT, bT, bT, bT, bT, bT, bT, bT, bT, bT, bT, bF, bT, bF, bF, bF, bF, bF, bF, bF, bF, bF, bF, bF, bF, bF, bF] rfl rfl (any_of HT_.out (by kernel_rfl)) (fun _ _ _ h => h) (Or.inl ⟨by rfl, ?_⟩) ?_ ?_
   rotate_left
   · intro w'
     go_simp
     with_reducible rfl
   rotate_left
   · simp only [Act.put, lA, lB, lC, i64_w, i32_w]
     rfl
   refine pure_ (i := 17) (N := some 82) (v := ?_) (a' := ?_) #[bT, bT, bT, bT, bT, bT, bT, bT, bT, bT, bT, bT, bT, bT, bT, bF, bT, bT, bF, bF, bF, bF, bF, bF, bF, bF, bF, bF, bF, bF, bF] rfl rfl (any_of HT_.out (by kernel_rfl)) (fun _ _ _ h => h) (Or.inl ⟨by rfl, ?_⟩) ?_ ?_
   rotate_left
   · intro w'
     go_simp
     with_reducible rfl
   rotate_left
   · simp only [Act.put, lA, lB, lC, i64_w, i32_w]
     rfl
   refine take_ (i := 15) (N := some 80) (v := ?_) (a' := ?_) #[bT, bT, bT, bT, bT, bT, bT, bT, bT, bT, bT, bT, bT, bT, bT, bT, bT, bT, bF, bF, bF, bF, bF, bF, bF, bF, bF, bF, bF, bF, bF] rfl rfl (take_ofW HT_.out HW_.out (by kernel_rfl)) (fun _ _ _ h => h) (Or.inl ⟨by rfl, ?_⟩) hHeld ?_ ?_
   rotate_left
   · rintro w' ⟨s0, s1, s2⟩
     go_simp
     with_reducible rfl
   rotate_left
   · simp only [Act.put, lA, lB, lC, i64_w, i32_w]
     rfl
   refine one_ (i := 18) (N := some 83) #[bT, bT, bT, bT, bT, bT, bT, bT, bT, bT, bT, bT, bT, bT, bT, bT, bT, bT, bT, bF, bF, bF, bF, bF, bF, bF, bF, bF, bF, bF, bF] rfl rfl (one_of HT_.out (by kernel_rfl)) (by decide) (fun K hK => ?_)
   refine goes_ Tryz.func20 (by kernel_rfl) rfl #[.slice A143_2 ((rd_T52 ((rd_T48 l0_1 x54_3).f1) x61_4).f2).length c143_2, .int .i64 0, .int .i64 (wrap64 (t139 - 1))] (by rfl) rfl rfl (by (try simp only [List.map_toArray, List.map_cons, List.map_nil]); first | done | rfl | (simp only [List.length_drop, List.length_take]; rfl)) ?_
   with_reducible refine (spec_l1All.calls k4 _ _ ((rd_T52 ((rd_T48 l0_1 x54_3).f1) x61_4).f2) 0 (wrap64 (t139 - 1)) false _ ?side1 ?side2 A55.out).mono ?_
   (case side1 => repeat (first | exact (Kd.C_below HR143_2.out (by repeat (first | (with_reducible first | exact HB.out | apply below_alloc | apply pw_below_drewN | apply below_drew1 | refine below_set ?_ GE132.out | refine below_set ?_ GE141.out | refine below_set ?_ GE144.out) | exact HB.out))) | (with_reducible refine Kd.C_alloc ?_ _) | (with_reducible refine Kd.C_drewN ?_ _) | (with_reducible refine Kd.C_drew ?_)))
   (case side2 => exact HC143_2.out)
   rintro e w' ⟨rfl, ⟨nd, rfl⟩⟩
   refine ⟨_, rfl, ?_⟩
   refine hK.out _ _ ⟨(blk_cell BK144.out 0).trans rfl, (blk_cell BK144.out 1).trans rfl, (blk_cell BK144.out 2).trans rfl⟩ (fun hHeld => ?_)
   clear hK K
   refine norm_ (a' := ?_) ?_ ?_
   rotate_left
   · show Act.put _ (some 83) _ = _
     simp only [Act.put, lA, lB, lC, i64_w, i32_w]
     rfl
   refine pure_ (i := 19) (N := some 84) (v := ?_) (a' := ?_) #[bT, bT, bT, bT, bT, bT, bT, bT, bT, bT, bT, bT, bT, bT, bT, bT, bT, bT, bT, bT, bF, bF, bF, bF, bF, bF, bF, bF, bF, bF, bF] rfl rfl (any_of HT_.out (by kernel_rfl)) (fun _ _ _ h => h) (Or.inl ⟨by rfl, ?_⟩) ?_ ?_
   rotate_left
   · intro w'
     go_simp
     with_reducible rfl
   rotate_left
   · simp only [Act.put, lA, lB, lC, i64_w, i32_w]
     rfl
   refine pure_ (i := 20) (N := some 85) (v := ?_) (a' := ?_) #[bT, bT, bT, bT, bT, bT, bT, bT, bT, bT, bT, bT, bT, bT, bT, bT, bT, bT, bT, bT, bT, bF, bF, bF, bF, bF, bF, bF, bF, bF, bF] rfl rfl (any_of HT_.out (by kernel_rfl)) (fun _ _ _ h => h) (Or.inl ⟨by rfl, ?_⟩) ?_ ?_
   rotate_left
   · intro w'
     go_simp
     with_reducible rfl
   rotate_left
   · simp only [Act.put, lA, lB, lC, i64_w, i32_w]
     rfl
   refine pure_ (i := 21) (N := some 86) (v := ?_) (a' := ?_) #[bT, bT, bT, bT, bT, bT, bT, bT, bT, bT, bT, bT, bT, bT, bT, bT, bT, bT, bT, bT, bT, bT, bF, bF, bF, bF, bF, bF, bF, bF, bF] rfl rfl (any_of HT_.out (by kernel_rfl)) (fun _ _ _ h => h) (Or.inl ⟨by rfl, ?_⟩) ?_ ?_
   rotate_left
   · intro w'
     go_simp
     with_reducible rfl
   rotate_left
   · simp only [Act.put, lA, lB, lC, i64_w, i32_w]
     rfl
   refine pure_ (i := 22) (N := some 87) (v := undef) (a' := ?_) #[bT, bT, bT, bT, bT, bT, bT, bT, bT, bT, bT, bT, bT, bT, bT, bT, bT, bT, bT, bT, bT, bT, bT, bF, bF, bF, bF, bF, bF, bF, bF] rfl rfl (any_of HT_.out (by kernel_rfl)) (fun _ _ _ h => h) (Or.inr ⟨by rfl, rfl⟩) ?_ ?_
   rotate_left
   · simp only [Act.put, lA, lB, lC, i64_w, i32_w]
     rfl
   refine pure_ (i := 23) (N := some 88) (v := undef) (a' := ?_) #[bT, bT, bT, bT, bT, bT, bT, bT, bT, bT, bT, bT, bT, bT, bT, bT, bT, bT, bT, bT, bT, bT, bT, bT, bF, bF, bF, bF, bF, bF, bF] rfl rfl (any_of HT_.out (by kernel_rfl)) (fun _ _ _ h => h) (Or.inr ⟨by rfl, rfl⟩) ?_ ?_
   rotate_left
   · simp only [Act.put, lA, lB, lC, i64_w, i32_w]
     rfl
   refine pure_ (i := 24) (N := some 89) (v := undef) (a' := ?_) #[bT, bT, bT, bT, bT, bT, bT, bT, bT, bT, bT, bT, bT, bT, bT, bT, bT, bT, bT, bT, bT, bT, bT, bT, bT, bF, bF, bF, bF, bF, bF] rfl rfl (any_of HT_.out (by kernel_rfl)) (fun _ _ _ h => h) (Or.inr ⟨by rfl, rfl⟩) ?_ ?_
   rotate_left
   · simp only [Act.put, lA, lB, lC, i64_w, i32_w]
     rfl
   refine pure_ (i := 25) (N := some 90) (v := undef) (a' := ?_) #[bT, bT, bT, bT, bT, bT, bT, bT, bT, bT, bT, bT, bT, bT, bT, bT, bT, bT, bT, bT, bT, bT, bT, bT, bT, bT, bF, bF, bF, bF, bF] rfl rfl (any_of HT_.out (by kernel_rfl)) (fun _ _ _ h => h) (Or.inr ⟨by rfl, rfl⟩) ?_ ?_
   rotate_left
   · simp only [Act.put, lA, lB, lC, i64_w, i32_w]
     rfl
   refine pure_ (i := 26) (N := some 91) (v := undef) (a' := ?_) #[bT, bT, bT, bT, bT, bT, bT, bT, bT, bT, bT, bT, bT, bT, bT, bT, bT, bT, bT, bT, bT, bT, bT, bT, bT, bT, bT, bF, bF, bF, bF] rfl rfl (any_of HT_.out (by kernel_rfl)) (fun _ _ _ h => h) (Or.inr ⟨by rfl, rfl⟩) ?_ ?_
   rotate_left
   · simp only [Act.put, lA, lB, lC, i64_w, i32_w]
     rfl
   refine pure_ (i := 27) (N := some 92) (v := undef) (a' := ?_) #[bT, bT, bT, bT, bT, bT, bT, bT, bT, bT, bT, bT, bT, bT, bT, bT, bT, bT, bT, bT, bT, bT, bT, bT, bT, bT, bT, bT, bF, bF, bF] rfl rfl (any_of HT_.out (by kernel_rfl)) (fun _ _ _ h => h) (Or.inr ⟨by rfl, rfl⟩) ?_ ?_
   rotate_left
   · simp only [Act.put, lA, lB, lC, i64_w, i32_w]
     rfl
   refine pure_ (i := 28) (N := some 93) (v := undef) (a' := ?_) #[bT, bT, bT, bT, bT, bT, bT, bT, bT, bT, bT, bT, bT, bT, bT, bT, bT, bT, bT, bT, bT, bT, bT, bT, bT, bT, bT, bT, bT, bF, bF] rfl rfl (any_of HT_.out (by kernel_rfl)) (fun _ _ _ h => h) (Or.inr ⟨by rfl, rfl⟩) ?_ ?_
   rotate_left
   · simp only [Act.put, lA, lB, lC, i64_w, i32_w]
     rfl
   refine pure_ (i := 29) (N := some 94) (v := undef) (a' := ?_) #[bT, bT, bT, bT, bT, bT, bT, bT, bT, bT, bT, bT, bT, bT, bT, bT, bT, bT, bT, bT, bT, bT, bT, bT, bT, bT, bT, bT, bT, bT, bF] rfl rfl (any_of HT_.out (by kernel_rfl)) (fun _ _ _ h => h) (Or.inr ⟨by rfl, rfl⟩) ?_ ?_
   rotate_left
   · simp only [Act.put, lA, lB, lC, i64_w, i32_w]
     rfl
   refine pure_ (i := 30) (N := some 95) (v := ?_) (a' := ?_) #[bT, bT, bT, bT, bT, bT, bT, bT, bT, bT, bT, bT, bT, bT, bT, bT, bT, bT, bT, bT, bT, bT, bT, bT, bT, bT, bT, bT, bT, bT, bT] rfl rfl (any_of HT_.out (by kernel_rfl)) (fun _ _ _ h => h) (Or.inl ⟨by rfl, ?_⟩) ?_ ?_
   rotate_left
   · intro w'
     go_simp
     with_reducible rfl
   rotate_left
   · simp only [Act.put, lA, lB, lC, i64_w, i32_w]
     rfl
   refine done_ (done_of HT_.out (by kernel_rfl)) ?_
   try go_wp2
   go_ret
   exact ⟨by first | rfl | (simp [errW_none, errW_some] <;> rfl) | (simp [*, errW_none, errW_some] <;> rfl), by repeat (first | (with_reducible first | exact HB.out | apply below_alloc | apply pw_below_drewN | apply below_drew1 | refine below_set ?_ GE132.out | refine below_set ?_ GE141.out | refine below_set ?_ GE144.out) | exact HB.out)⟩
 subst c56
 have H1 : (if ((rd_T52 ((rd_T48 l0_1 x54_3).f1) x61_4).f0) = 1 then (spec_GoodFunc.l2 k4 t139 l0_1 (l0_1.length : Int) x54_3 ((rd_T48 l0_1 x54_3).f1) (((rd_T48 l0_1 x54_3).f1).length : Int) (wrap64 (x61_4 + 1)) a0_0 l0_1 ((rd_T48 l0_1 x54_3).f0) ((rd_T48 l0_1 x54_3).f1) ((rd_T48 l0_1 x54_3).f2) ((rd_T48 l0_1 x54_3).f3) ((rd_T48 l0_1 x54_3).f4)) else (if ((rd_T52 ((rd_T48 l0_1 x54_3).f1) x61_4).f1) = 0 then (spec_GoodFunc.l2 k4 t139 l0_1 (l0_1.length : Int) x54_3 ((rd_T48 l0_1 x54_3).f1) (((rd_T48 l0_1 x54_3).f1).length : Int) (wrap64 (x61_4 + 1)) a0_0 l0_1 ((rd_T48 l0_1 x54_3).f0) ((rd_T48 l0_1 x54_3).f1) ((rd_T48 l0_1 x54_3).f2) ((rd_T48 l0_1 x54_3).f3) ((rd_T48 l0_1 x54_3).f4)) else (some false))) = some r := by rw [if_pos rfl] at H; exact H
 clear H
 have H := H1
 clear H1
 by_cases c57 : ((rd_T52 ((rd_T48 l0_1 x54_3).f1) x61_4).f0) = 1
 · rw [if_pos c57] at H
   have c57b0 : (((rd_T52 ((rd_T48 l0_1 x54_3).f1) x61_4).f0) == 1) = true := beq_iff_eq.mpr c57
   have c57b1 : (((rd_T52 ((rd_T48 l0_1 x54_3).f1) x61_4).f0) != 1) = false := bne_eq_false_iff_eq.mpr c57
   clear c57
   have H' := Aside0.mk H
   clear H
   have p143 : 0 ≤ (x61_4 : Int) := of_decide_eq_true (by first | (with_reducible assumption) | assumption)
   have q143 : x61_4 < (((rd_T48 l0_1 x54_3).f1).length : Int) := of_decide_eq_true (by first | (with_reducible assumption) | assumption)
   obtain ⟨ad143, A143_2, c143_2, e143, hx143_0, hx143_1, hx143_2, hl143_2, hi143_2⟩ := at_T52 HR140_1.out x61_4 p143 q143
   cases e143
   replace hx143_0 := cB HB.out hx143_0
   replace hx143_1 := cB HB.out hx143_1
   replace hx143_2 := cB HB.out hx143_2
   have HR143_2 := Aside0.mk hi143_2
   have HC143_2 := Aside0.mk hl143_2
   clear hi143_2 hl143_2
   replace p143 := eq_true p143
   replace q143 := eq_true q143
   try go_wp2_with (first | ((with_reducible refine gate_dst (N := 9) rfl ?_); (try (refine gate_guard (by rfl) ?_; dsimp only)); refine box_event ?hg (N := 9) ?hd (cs := #[.int .i64 0, .int .i64 0, .slice none 0 0]) (t := 52) ?hr ?_; (case hd => rfl); (case hg => rfl); (case hr => first | (go_simp; done) | (go_simp; rfl)); intro gb144 hg w58 hbox hb; have n0_ := Aside0.mk (bB BK132.out hb); have n1_ := Aside0.mk (bB BK141.out hb); have n2_ := Aside0.mk (below_step (by repeat (first | (with_reducible first | exact HB.out | apply below_alloc | apply pw_below_drewN | apply below_drew1 | refine below_set ?_ GE132.out | refine below_set ?_ GE141.out) | exact HB.out)) hb); have n3_ := Aside0.mk (hbox); have n4_ := Aside0.mk ((by rw [hg]; exact (below_size (by repeat (first | (with_reducible first | exact HB.out | apply below_alloc | apply pw_below_drewN | apply below_drew1 | refine below_set ?_ GE132.out | refine below_set ?_ GE141.out) | exact HB.out))) : w.heap.size ≤ gb144)); have n5_ := n4_; have n6_ := Aside0.mk ((by rw [hg]; exact Nat.ne_of_lt (blk_lt BK132.out) : gb132 ≠ gb144)); have n7_ := Aside0.mk ((by rw [hg]; exact Nat.ne_of_gt (blk_lt BK132.out) : gb144 ≠ gb132)); have n8_ := Aside0.mk ((by rw [hg]; exact Nat.ne_of_lt (blk_lt BK141.out) : gb141 ≠ gb144)); have n9_ := Aside0.mk ((by rw [hg]; exact Nat.ne_of_gt (blk_lt BK141.out) : gb144 ≠ gb141)); clear BK132; clear BK141; clear HB; have BK132 := n0_; have BK141 := n1_; have HB := n2_; have BK144 := n3_; have GW144 := n4_; have GE144 := n5_; have NB132_144 := n6_; have NB144_132 := n7_; have NB141_144 := n8_; have NB144_141 := n9_; clear n0_ n1_ n2_ n3_ n4_ n5_ n6_ n7_ n8_ n9_; clear hb hbox hg; have hnb59 := NB144_132.out; have hnc59 := NB132_144.out; have hnb60 := NB144_141.out; have hnc60 := NB141_144.out; obtain ⟨hcz61_0, hcz61_1, hcz61_2, hfz61_0, hfz61_1, hfz61_2⟩ := blk3 BK144.out))
   have n0_ : Aside0 ((((w58.setCell ⟨gb144, 0, none⟩ (.int .i64 ((rd_T52 ((rd_T48 l0_1 x54_3).f1) x61_4).f0))).setCell ⟨gb144, 1, none⟩ (.int .i64 ((rd_T52 ((rd_T48 l0_1 x54_3).f1) x61_4).f1))).setCell ⟨gb144, 2, none⟩ (.slice A143_2 ((rd_T52 ((rd_T48 l0_1 x54_3).f1) x61_4).f2).length c143_2)).heap[gb132]? = some (.cells #[.int .i64 a0_0, .slice (some ad140) l0_1.length c0_1] 30 (0, 0))) := ⟨by (with_reducible repeat (first | refine blk_drewN ?_ _ | refine blk_drew ?_ | refine blk_alloc ?_ _)); refine blk_far ?_ NB132_144.out _; (with_reducible repeat (first | refine blk_drewN ?_ _ | refine blk_drew ?_ | refine blk_alloc ?_ _)); refine blk_far ?_ NB132_144.out _; (with_reducible repeat (first | refine blk_drewN ?_ _ | refine blk_drew ?_ | refine blk_alloc ?_ _)); refine blk_far ?_ NB132_144.out _; (with_reducible repeat (first | refine blk_drewN ?_ _ | refine blk_drew ?_ | refine blk_alloc ?_ _)); exact BK132.out⟩
   have n1_ : Aside0 ((((w58.setCell ⟨gb144, 0, none⟩ (.int .i64 ((rd_T52 ((rd_T48 l0_1 x54_3).f1) x61_4).f0))).setCell ⟨gb144, 1, none⟩ (.int .i64 ((rd_T52 ((rd_T48 l0_1 x54_3).f1) x61_4).f1))).setCell ⟨gb144, 2, none⟩ (.slice A143_2 ((rd_T52 ((rd_T48 l0_1 x54_3).f1) x61_4).f2).length c143_2)).heap[gb141]? = some (.cells #[.int .i64 ((rd_T48 l0_1 x54_3).f0), .slice (some ad143) ((rd_T48 l0_1 x54_3).f1).length c140_1, .int .i64 ((rd_T48 l0_1 x54_3).f2), .int .i64 ((rd_T48 l0_1 x54_3).f3), .slice A140_4 ((rd_T48 l0_1 x54_3).f4).length c140_4] 48 (0, 0))) := ⟨by (with_reducible repeat (first | refine blk_drewN ?_ _ | refine blk_drew ?_ | refine blk_alloc ?_ _)); refine blk_far ?_ NB141_144.out _; (with_reducible repeat (first | refine blk_drewN ?_ _ | refine blk_drew ?_ | refine blk_alloc ?_ _)); refine blk_far ?_ NB141_144.out _; (with_reducible repeat (first | refine blk_drewN ?_ _ | refine blk_drew ?_ | refine blk_alloc ?_ _)); refine blk_far ?_ NB141_144.out _; (with_reducible repeat (first | refine blk_drewN ?_ _ | refine blk_drew ?_ | refine blk_alloc ?_ _)); exact BK141.out⟩
   have n2_ : Aside0 ((((w58.setCell ⟨gb144, 0, none⟩ (.int .i64 ((rd_T52 ((rd_T48 l0_1 x54_3).f1) x61_4).f0))).setCell ⟨gb144, 1, none⟩ (.int .i64 ((rd_T52 ((rd_T48 l0_1 x54_3).f1) x61_4).f1))).setCell ⟨gb144, 2, none⟩ (.slice A143_2 ((rd_T52 ((rd_T48 l0_1 x54_3).f1) x61_4).f2).length c143_2)).heap[gb144]? = some (.cells #[.int .i64 ((rd_T52 ((rd_T48 l0_1 x54_3).f1) x61_4).f0), .int .i64 ((rd_T52 ((rd_T48 l0_1 x54_3).f1) x61_4).f1), .slice A143_2 ((rd_T52 ((rd_T48 l0_1 x54_3).f1) x61_4).f2).length c143_2] 52 (0, 0))) := ⟨by (with_reducible repeat (first | refine blk_drewN ?_ _ | refine blk_drew ?_ | refine blk_alloc ?_ _)); refine blk_put (cs := #[.int .i64 ((rd_T52 ((rd_T48 l0_1 x54_3).f1) x61_4).f0), .int .i64 ((rd_T52 ((rd_T48 l0_1 x54_3).f1) x61_4).f1), .slice none 0 0]) ?_ 2 _ rfl; (with_reducible repeat (first | refine blk_drewN ?_ _ | refine blk_drew ?_ | refine blk_alloc ?_ _)); refine blk_put (cs := #[.int .i64 ((rd_T52 ((rd_T48 l0_1 x54_3).f1) x61_4).f0), .int .i64 0, .slice none 0 0]) ?_ 1 _ rfl; (with_reducible repeat (first | refine blk_drewN ?_ _ | refine blk_drew ?_ | refine blk_alloc ?_ _)); refine blk_put (cs := #[.int .i64 0, .int .i64 0, .slice none 0 0]) ?_ 0 _ rfl; (with_reducible repeat (first | refine blk_drewN ?_ _ | refine blk_drew ?_ | refine blk_alloc ?_ _)); exact BK144.out⟩
   have n3_ : Aside0 (Below w.heap.size w (((w58.setCell ⟨gb144, 0, none⟩ (.int .i64 ((rd_T52 ((rd_T48 l0_1 x54_3).f1) x61_4).f0))).setCell ⟨gb144, 1, none⟩ (.int .i64 ((rd_T52 ((rd_T48 l0_1 x54_3).f1) x61_4).f1))).setCell ⟨gb144, 2, none⟩ (.slice A143_2 ((rd_T52 ((rd_T48 l0_1 x54_3).f1) x61_4).f2).length c143_2))) := ⟨by repeat (first | (with_reducible first | exact HB.out | apply below_alloc | apply pw_below_drewN | apply below_drew1 | refine below_set ?_ GE132.out | refine below_set ?_ GE141.out | refine below_set ?_ GE144.out) | exact HB.out)⟩
   (try clear BK132)
   (try clear BK141)
   (try clear BK144)
   (try clear HB)
   generalize (((w58.setCell ⟨gb144, 0, none⟩ (.int .i64 ((rd_T52 ((rd_T48 l0_1 x54_3).f1) x61_4).f0))).setCell ⟨gb144, 1, none⟩ (.int .i64 ((rd_T52 ((rd_T48 l0_1 x54_3).f1) x61_4).f1))).setCell ⟨gb144, 2, none⟩ (.slice A143_2 ((rd_T52 ((rd_T48 l0_1 x54_3).f1) x61_4).f2).length c143_2)) = w62 at n0_ n1_ n2_ n3_ ⊢
   have BK132 := n0_
   have BK141 := n1_
   have BK144 := n2_
   have HB := n3_
   clear n0_ n1_ n2_ n3_
   have n0_ := Aside0.mk (blk_drew BK132.out)
   have n1_ := Aside0.mk (blk_drew BK141.out)
   have n2_ := Aside0.mk (blk_drew BK144.out)
   have n3_ := Aside0.mk (below_drew1 HB.out)
   clear BK132
   clear BK141
   clear BK144
   clear HB
   have BK132 := n0_
   have BK141 := n1_
   have BK144 := n2_
   have HB := n3_
   clear n0_ n1_ n2_ n3_
   refine start_ (n := 31) (S := fun w' => w'.cell? ⟨gb144, 0, none⟩ = some (.int .i64 ((rd_T52 ((rd_T48 l0_1 x54_3).f1) x61_4).f0)) ∧ w'.cell? ⟨gb144, 1, none⟩ = some (.int .i64 ((rd_T52 ((rd_T48 l0_1 x54_3).f1) x61_4).f1)) ∧ w'.cell? ⟨gb144, 2, none⟩ = some (.slice A143_2 ((rd_T52 ((rd_T48 l0_1 x54_3).f1) x61_4).f2).length c143_2)) (ds := []) #[bF, bF, bF, bF, bF, bF, bF, bF, bF, bF, bF, bF, bF, bF, bF, bF, bF, bF, bF, bF, bF, bF, bF, bF, bF, bF, bF, bF, bF, bF, bF] (by kernel_rfl) rfl rfl ⟨(blk_cell BK144.out 0).trans rfl, (blk_cell BK144.out 1).trans rfl, (blk_cell BK144.out 2).trans rfl⟩ (fun hHeld => ?_); refine with_tabW spec_GoodFunc.tab18 spec_GoodFunc.bits18 (fun HT_ HW_ => ?_)
   generalize w62.drew = w63 at BK132 BK141 BK144 HB hHeld ⊢
   refine pure_ (i := 0) (N := some 65) (v := ?_) (a' := ?_) #[bT, bF, bF, bF, bF, bF, bF, bF, bF, bF, bF, bF, bF, bF, bF, bF, bF, bF, bF, bF, bF, bF, bF, bF, bF, bF, bF, bF, bF, bF, bF] rfl rfl (any_of HT_.out (by kernel_rfl)) (fun _ _ _ h => h) (Or.inl ⟨by rfl, ?_⟩) ?_ ?_
   rotate_left
   · intro w'
     go_simp
     with_reducible rfl
   rotate_left
   · simp only [Act.put, lA, lB, lC, i64_w, i32_w]
     rfl
   refine take_ (i := 1) (N := some 66) (v := ?_) (a' := ?_) #[bT, bT, bF, bF, bF, bF, bF, bF, bF, bF, bF, bF, bF, bF, bF, bF, bF, bF, bF, bF, bF, bF, bF, bF, bF, bF, bF, bF, bF, bF, bF] rfl rfl (take_ofW HT_.out HW_.out (by kernel_rfl)) (fun _ _ _ h => h) (Or.inl ⟨by rfl, ?_⟩) hHeld ?_ ?_
   rotate_left
   · rintro w' ⟨s0, s1, s2⟩
     go_simp
     with_reducible rfl
   rotate_left
   · simp only [Act.put, lA, lB, lC, i64_w, i32_w]
     rfl
   refine one_ (i := 2) (N := some 67) #[bT, bT, bT, bF, bF, bF, bF, bF, bF, bF, bF, bF, bF, bF, bF, bF, bF, bF, bF, bF, bF, bF, bF, bF, bF, bF, bF, bF, bF, bF, bF] rfl rfl (one_of HT_.out (by kernel_rfl)) (by decide) (fun K hK => ?_)
   refine goes_ Tryz.func19 (by kernel_rfl) rfl #[.int .i64 ((rd_T52 ((rd_T48 l0_1 x54_3).f1) x61_4).f0)] (by rfl) rfl rfl (by (try simp only [List.map_toArray, List.map_cons, List.map_nil]); first | done | rfl | (simp only [List.length_drop, List.length_take]; rfl)) ?_
   with_reducible refine (spec_l12Arity.calls k4 ((rd_T52 ((rd_T48 l0_1 x54_3).f1) x61_4).f0) t145 _ A45.out).mono ?_
   rintro e w' ⟨rfl, ⟨nd, rfl⟩⟩
   refine ⟨_, rfl, ?_⟩
   refine hK.out _ _ ⟨(blk_cell BK144.out 0).trans rfl, (blk_cell BK144.out 1).trans rfl, (blk_cell BK144.out 2).trans rfl⟩ (fun hHeld => ?_)
   clear hK K
   refine norm_ (a' := ?_) ?_ ?_
   rotate_left
   · show Act.put _ (some 67) _ = _
     simp only [Act.put, lA, lB, lC, i64_w, i32_w]
     rfl
   refine pure_ (i := 3) (N := some 68) (v := ?_) (a' := ?_) #[bT, bT, bT, bT, bF, bF, bF, bF, bF, bF, bF, bF, bF, bF, bF, bF, bF, bF, bF, bF, bF, bF, bF, bF, bF, bF, bF, bF, bF, bF, bF] rfl rfl (any_of HT_.out (by kernel_rfl)) (fun _ _ _ h => h) (Or.inl ⟨by rfl, ?_⟩) ?_ ?_
   rotate_left
   · intro w'
     go_simp
     with_reducible rfl
   rotate_left
   · simp only [Act.put, lA, lB, lC, i64_w, i32_w]
     rfl
   refine pure_ (i := 4) (N := some 69) (v := ?_) (a' := ?_) #[bT, bT, bT, bT, bT, bF, bF, bF, bF, bF, bF, bF, bF, bF, bF, bF, bF, bF, bF, bF, bF, bF, bF, bF, bF, bF, bF, bF, bF, bF, bF] rfl rfl (any_of HT_.out (by kernel_rfl)) (fun _ _ _ h => h) (Or.inl ⟨by rfl, ?_⟩) ?_ ?_
   rotate_left
   · intro w'
     go_simp
     with_reducible rfl
   rotate_left
   · simp only [Act.put, lA, lB, lC, i64_w, i32_w]
     rfl
   refine pure_ (i := 5) (N := some 70) (v := ?_) (a' := ?_) #[bT, bT, bT, bT, bT, bT, bF, bF, bF, bF, bF, bF, bF, bF, bF, bF, bF, bF, bF, bF, bF, bF, bF, bF, bF, bF, bF, bF, bF, bF, bF] rfl rfl (any_of HT_.out (by kernel_rfl)) (fun _ _ _ h => h) (Or.inl ⟨by rfl, ?_⟩) ?_ ?_
   rotate_left
   · intro w'
     go_simp
     with_reducible rfl
   rotate_left
   · simp only [Act.put, lA, lB, lC, i64_w, i32_w]
     rfl
   refine pure_ (i := 8) (N := some 73) (v := ?_) (a' := ?_) #[bT, bT, bT, bT, bT, bT, bF, bF, bT, bF, bF, bF, bF, bF, bF, bF, bF, bF, bF, bF, bF, bF, bF, bF, bF, bF, bF, bF, bF, bF, bF] rfl rfl (any_of HT_.out (by kernel_rfl)) (fun _ _ _ h => h) (Or.inl ⟨by rfl, ?_⟩) ?_ ?_
   rotate_left
   · intro w'
     go_simp
     with_reducible rfl
   rotate_left
   · simp only [Act.put, lA, lB, lC, i64_w, i32_w]
     rfl
   refine take_ (i := 6) (N := some 71) (v := ?_) (a' := ?_) #[bT, bT, bT, bT, bT, bT, bT, bF, bT, bF, bF, bF, bF, bF, bF, bF, bF, bF, bF, bF, bF, bF, bF, bF, bF, bF, bF, bF, bF, bF, bF] rfl rfl (take_ofW HT_.out HW_.out (by kernel_rfl)) (fun _ _ _ h => h) (Or.inl ⟨by rfl, ?_⟩) hHeld ?_ ?_
   rotate_left
   · rintro w' ⟨s0, s1, s2⟩
     go_simp
     with_reducible rfl
   rotate_left
   · simp only [Act.put, lA, lB, lC, i64_w, i32_w]
     rfl
   refine pure_ (i := 7) (N := some 72) (v := ?_) (a' := ?_) #[bT, bT, bT, bT, bT, bT, bT, bT, bT, bF, bF, bF, bF, bF, bF, bF, bF, bF, bF, bF, bF, bF, bF, bF, bF, bF, bF, bF, bF, bF, bF] rfl rfl (any_of HT_.out (by kernel_rfl)) (fun _ _ _ h => h) (Or.inl ⟨by rfl, ?_⟩) ?_ ?_
   rotate_left
   · intro w'
     go_simp
     with_reducible rfl
   rotate_left
   · simp only [Act.put, lA, lB, lC, i64_w, i32_w]
     rfl
   refine take_ (i := 9) (N := some 74) (v := ?_) (a' := ?_) #[bT, bT, bT, bT, bT, bT, bT, bT, bT, bT, bF, bF, bF, bF, bF, bF, bF, bF, bF, bF, bF, bF, bF, bF, bF, bF, bF, bF, bF, bF, bF] rfl rfl (take_ofW HT_.out HW_.out (by kernel_rfl)) (fun _ _ _ h => h) (Or.inl ⟨by rfl, ?_⟩) hHeld ?_ ?_
   rotate_left
   · rintro w' ⟨s0, s1, s2⟩
     go_simp
     with_reducible rfl
   rotate_left
   · simp only [Act.put, lA, lB, lC, i64_w, i32_w]
     rfl
   refine one_ (i := 10) (N := some 75) #[bT, bT, bT, bT, bT, bT, bT, bT, bT, bT, bT, bF, bF, bF, bF, bF, bF, bF, bF, bF, bF, bF, bF, bF, bF, bF, bF, bF, bF, bF, bF] rfl rfl (one_of HT_.out (by kernel_rfl)) (by decide) (fun K hK => ?_)
   refine goes_ Tryz.func19 (by kernel_rfl) rfl #[.int .i64 ((rd_T52 ((rd_T48 l0_1 x54_3).f1) x61_4).f0)] (by rfl) rfl rfl (by (try simp only [List.map_toArray, List.map_cons, List.map_nil]); first | done | rfl | (simp only [List.length_drop, List.length_take]; rfl)) ?_
   with_reducible refine (spec_l12Arity.calls k4 ((rd_T52 ((rd_T48 l0_1 x54_3).f1) x61_4).f0) t146 _ A53.out).mono ?_
   rintro e w' ⟨rfl, ⟨nd, rfl⟩⟩
   refine ⟨_, rfl, ?_⟩
   refine hK.out _ _ ⟨(blk_cell BK144.out 0).trans rfl, (blk_cell BK144.out 1).trans rfl, (blk_cell BK144.out 2).trans rfl⟩ (fun hHeld => ?_)
   clear hK K
   refine norm_ (a' := ?_) ?_ ?_
   rotate_left
   · show Act.put _ (some 75) _ = _
     simp only [Act.put, lA, lB, lC, i64_w, i32_w]
     rfl
   refine pure_ (i := 11) (N := some 76) (v := ?_) (a' := ?_) #[bT, bT, bT, bT, bT, bT, bT, bT, bT, bT, bT, bT, bF, bF, bF, bF, bF, bF, bF, bF, bF, bF, bF, bF, bF, bF, bF, bF, bF, bF, bF] rfl rfl (any_of HT_.out (by kernel_rfl)) (fun _ _ _ h => h) (Or.inl ⟨by rfl, ?_⟩) ?_ ?_
   rotate_left
   · intro w'
     go_simp
     with_reducible rfl
   rotate_left
   · simp only [Act.put, lA, lB, lC, i64_w, i32_w]
     rfl
   refine pure_ (i := 12) (N := some 77) (v := ?_) (a' := ?_) #[bT, bT, bT, bT, bT, bT, bT, bT, bT, bT, bT, bT, bT, bF, bF, bF, bF, bF, bF, bF, bF, bF, bF, bF, bF, bF, bF, bF, bF, bF, bF] rfl rfl (any_of HT_.out (by kernel_rfl)) (fun _ _ _ h => h) (Or.inl ⟨by rfl, ?_⟩) ?_ ?_
   rotate_left
   · intro w'
     go_simp
     with_reducible rfl
   rotate_left
   · simp only [Act.put, lA, lB, lC, i64_w, i32_w]
     rfl
   refine pure_ (i := 13) (N := some 78) (v := ?_) (a' := ?_) #[bT, bT, bT, bT, bT, bT, bT, bT, bT, bT, bT, bT, bT, bT, bF, bF, bF, bF, bF, bF, bF, bF, bF, bF, bF, bF, bF, bF, bF, bF, bF] rfl rfl (any_of HT_.out (by kernel_rfl)) (fun _ _ _ h => h) (Or.inl ⟨by rfl, ?_⟩) ?_ ?_
   rotate_left
   · intro w'
     go_simp
     with_reducible rfl
   rotate_left
   · simp only [Act.put, lA, lB, lC, i64_w, i32_w]
     rfl
   refine pure_ (i := 14) (N := some 79) (v := ?_) (a' := ?_) #[bT, bT, bT, bT, bT, bT, bT, bT, bT, bT, bT, bT, bT, bT, bT, bF, bF, bF, bF, bF, bF, bF, bF, bF, bF, bF, bF, bF, bF, bF, bF] rfl rfl (any_of HT_.out (by kernel_rfl)) (fun _ _ _ h => h) (Or.inl ⟨by rfl, ?_⟩) ?_ ?_
   rotate_left
   · intro w'
     go_simp
     with_reducible rfl
   rotate_left
   · simp only [Act.put, lA, lB, lC, i64_w, i32_w]
     rfl
   refine pure_ (i := 16) (N := some 81) (v := ?_) (a' := ?_) #[bT, bT, bT, bT, bT, bT, bT, bT, bT, bT, bT, bT, bT, bT, bT, bF, bT, bF, bF, bF, bF, bF, bF, bF, bF, bF, bF, bF, bF, bF, bF] rfl rfl (any_of HT_.out (by kernel_rfl)) (fun _ _ _ h => h) (Or.inl ⟨by rfl, ?_⟩) ?_ ?_
   rotate_left
   · intro w'
     go_simp
     with_reducible rfl
   rotate_left
   · simp only [Act.put, lA, lB, lC, i64_w, i32_w]
     rfl
   refine pure_ (i := 17) (N := some 82) (v := ?_) (a' := ?_) #[bT, bT, bT, bT, bT, bT, bT, bT, bT, bT, bT, bT, bT, bT, bT, bF, bT, bT, bF, bF, bF, bF, bF, bF, bF, bF, bF, bF, bF, bF, bF] rfl rfl (any_of HT_.out (by kernel_rfl)) (fun _ _ _ h => h) (Or.inl ⟨by rfl, ?_⟩) ?_ ?_
   rotate_left
   · intro w'
     go_simp
     with_reducible rfl
   rotate_left
   · simp only [Act.put, lA, lB, lC, i64_w, i32_w]
     rfl
   refine take_ (i := 15) (N := some 80) (v := ?_) (a' := ?_) #[bT, bT, bT, bT, bT, bT, bT, bT, bT, bT, bT, bT, bT, bT, bT, bT, bT, bT, bF, bF, bF, bF, bF, bF, bF, bF, bF, bF, bF, bF, bF] rfl rfl (take_ofW HT_.out HW_.out (by kernel_rfl)) (fun _ _ _ h => h) (Or.inl ⟨by rfl, ?_⟩) hHeld ?_ ?_
   rotate_left
   · rintro w' ⟨s0, s1, s2⟩
     go_simp
     with_reducible rfl
   rotate_left
   · simp only [Act.put, lA, lB, lC, i64_w, i32_w]
     rfl
   refine one_ (i := 18) (N := some 83) #[bT, bT, bT, bT, bT, bT, bT, bT, bT, bT, bT, bT, bT, bT, bT, bT, bT, bT, bT, bF, bF, bF, bF, bF, bF, bF, bF, bF, bF, bF, bF] rfl rfl (one_of HT_.out (by kernel_rfl)) (by decide) (fun K hK => ?_)
   refine goes_ Tryz.func20 (by kernel_rfl) rfl #[.slice A143_2 ((rd_T52 ((rd_T48 l0_1 x54_3).f1) x61_4).f2).length c143_2, .int .i64 0, .int .i64 (wrap64 (t139 - 1))] (by rfl) rfl rfl (by (try simp only [List.map_toArray, List.map_cons, List.map_nil]); first | done | rfl | (simp only [List.length_drop, List.length_take]; rfl)) ?_
   with_reducible refine (spec_l1All.calls k4 _ _ ((rd_T52 ((rd_T48 l0_1 x54_3).f1) x61_4).f2) 0 (wrap64 (t139 - 1)) true _ ?side1 ?side2 A55.out).mono ?_
   (case side1 => repeat (first | exact (Kd.C_below HR143_2.out (by repeat (first | (with_reducible first | exact HB.out | apply below_alloc | apply pw_below_drewN | apply below_drew1 | refine below_set ?_ GE132.out | refine below_set ?_ GE141.out | refine below_set ?_ GE144.out) | exact HB.out))) | (with_reducible refine Kd.C_alloc ?_ _) | (with_reducible refine Kd.C_drewN ?_ _) | (with_reducible refine Kd.C_drew ?_)))
   (case side2 => exact HC143_2.out)
   rintro e w' ⟨rfl, ⟨nd, rfl⟩⟩
   refine ⟨_, rfl, ?_⟩
   refine hK.out _ _ ⟨(blk_cell BK144.out 0).trans rfl, (blk_cell BK144.out 1).trans rfl, (blk_cell BK144.out 2).trans rfl⟩ (fun hHeld => ?_)
   clear hK K
   refine norm_ (a' := ?_) ?_ ?_
   rotate_left
   · show Act.put _ (some 83) _ = _
     simp only [Act.put, lA, lB, lC, i64_w, i32_w]
     rfl
   refine pure_ (i := 19) (N := some 84) (v := ?_) (a' := ?_) #[bT, bT, bT, bT, bT, bT, bT, bT, bT, bT, bT, bT, bT, bT, bT, bT, bT, bT, bT, bT, bF, bF, bF, bF, bF, bF, bF, bF, bF, bF, bF] rfl rfl (any_of HT_.out (by kernel_rfl)) (fun _ _ _ h => h) (Or.inl ⟨by rfl, ?_⟩) ?_ ?_
   rotate_left
   · intro w'
     go_simp
     with_reducible rfl
   rotate_left
   · simp only [Act.put, lA, lB, lC, i64_w, i32_w]
     rfl
   refine pure_ (i := 20) (N := some 85) (v := ?_) (a' := ?_) #[bT, bT, bT, bT, bT, bT, bT, bT, bT, bT, bT, bT, bT, bT, bT, bT, bT, bT, bT, bT, bT, bF, bF, bF, bF, bF, bF, bF, bF, bF, bF] rfl rfl (any_of HT_.out (by kernel_rfl)) (fun _ _ _ h => h) (Or.inl ⟨by rfl, ?_⟩) ?_ ?_
   rotate_left
   · intro w'
     go_simp
     with_reducible rfl
   rotate_left
   · simp only [Act.put, lA, lB, lC, i64_w, i32_w]
     rfl
   refine pure_ (i := 21) (N := some 86) (v := ?_) (a' := ?_) #[bT, bT, bT, bT, bT, bT, bT, bT, bT, bT, bT, bT, bT, bT, bT, bT, bT, bT, bT, bT, bT, bT, bF, bF, bF, bF, bF, bF, bF, bF, bF] rfl rfl (any_of HT_.out (by kernel_rfl)) (fun _ _ _ h => h) (Or.inl ⟨by rfl, ?_⟩) ?_ ?_
   rotate_left
   · intro w'
     go_simp
     with_reducible rfl
   rotate_left
   · simp only [Act.put, lA, lB, lC, i64_w, i32_w]
     rfl
   refine pure_ (i := 22) (N := some 87) (v := ?_) (a' := ?_) #[bT, bT, bT, bT, bT, bT, bT, bT, bT, bT, bT, bT, bT, bT, bT, bT, bT, bT, bT, bT, bT, bT, bT, bF, bF, bF, bF, bF, bF, bF, bF] rfl rfl (any_of HT_.out (by kernel_rfl)) (fun _ _ _ h => h) (Or.inl ⟨by rfl, ?_⟩) ?_ ?_
   rotate_left
   · intro w'
     go_simp
     with_reducible rfl
   rotate_left
   · simp only [Act.put, lA, lB, lC, i64_w, i32_w]
     rfl
   refine take_ (i := 23) (N := some 88) (v := ?_) (a' := ?_) #[bT, bT, bT, bT, bT, bT, bT, bT, bT, bT, bT, bT, bT, bT, bT, bT, bT, bT, bT, bT, bT, bT, bT, bT, bF, bF, bF, bF, bF, bF, bF] rfl rfl (take_ofW HT_.out HW_.out (by kernel_rfl)) (fun _ _ _ h => h) (Or.inl ⟨by rfl, ?_⟩) hHeld ?_ ?_
   rotate_left
   · rintro w' ⟨s0, s1, s2⟩
     go_simp
     with_reducible rfl
   rotate_left
   · simp only [Act.put, lA, lB, lC, i64_w, i32_w]
     rfl
   refine pure_ (i := 24) (N := some 89) (v := ?_) (a' := ?_) #[bT, bT, bT, bT, bT, bT, bT, bT, bT, bT, bT, bT, bT, bT, bT, bT, bT, bT, bT, bT, bT, bT, bT, bT, bT, bF, bF, bF, bF, bF, bF] rfl rfl (any_of HT_.out (by kernel_rfl)) (fun _ _ _ h => h) (Or.inl ⟨by rfl, ?_⟩) ?_ ?_
   rotate_left
   · intro w'
     go_simp
     with_reducible rfl
   rotate_left
   · simp only [Act.put, lA, lB, lC, i64_w, i32_w]
     rfl
   refine pure_ (i := 25) (N := some 90) (v := ?_) (a' := ?_) #[bT, bT, bT, bT, bT, bT, bT, bT, bT, bT, bT, bT, bT, bT, bT, bT, bT, bT, bT, bT, bT, bT, bT, bT, bT, bT, bF, bF, bF, bF, bF] rfl rfl (any_of HT_.out (by kernel_rfl)) (fun _ _ _ h => h) (Or.inl ⟨by rfl, ?_⟩) ?_ ?_
   rotate_left
   · intro w'
     go_simp
     with_reducible rfl
   rotate_left
   · simp only [Act.put, lA, lB, lC, i64_w, i32_w]
     rfl
   refine pure_ (i := 26) (N := some 91) (v := undef) (a' := ?_) #[bT, bT, bT, bT, bT, bT, bT, bT, bT, bT, bT, bT, bT, bT, bT, bT, bT, bT, bT, bT, bT, bT, bT, bT, bT, bT, bT, bF, bF, bF, bF] rfl rfl (any_of HT_.out (by kernel_rfl)) (fun _ _ _ h => h) (Or.inr ⟨by rfl, rfl⟩) ?_ ?_
   rotate_left
   · simp only [Act.put, lA, lB, lC, i64_w, i32_w]
     rfl
   refine pure_ (i := 27) (N := some 92) (v := undef) (a' := ?_) #[bT, bT, bT, bT, bT, bT, bT, bT, bT, bT, bT, bT, bT, bT, bT, bT, bT, bT, bT, bT, bT, bT, bT, bT, bT, bT, bT, bT, bF, bF, bF] rfl rfl (any_of HT_.out (by kernel_rfl)) (fun _ _ _ h => h) (Or.inr ⟨by rfl, rfl⟩) ?_ ?_
   rotate_left
   · simp only [Act.put, lA, lB, lC, i64_w, i32_w]
     rfl
   refine pure_ (i := 28) (N := some 93) (v := undef) (a' := ?_) #[bT, bT, bT, bT, bT, bT, bT, bT, bT, bT, bT, bT, bT, bT, bT, bT, bT, bT, bT, bT, bT, bT, bT, bT, bT, bT, bT, bT, bT, bF, bF] rfl rfl (any_of HT_.out (by kernel_rfl)) (fun _ _ _ h => h) (Or.inr ⟨by rfl, rfl⟩) ?_ ?_
   rotate_left
   · simp only [Act.put, lA, lB, lC, i64_w, i32_w]
     rfl
   refine pure_ (i := 29) (N := some 94) (v := ?_) (a' := ?_) #[bT, bT, bT, bT, bT, bT, bT, bT, bT, bT, bT, bT, bT, bT, bT, bT, bT, bT, bT, bT, bT, bT, bT, bT, bT, bT, bT, bT, bT, bT, bF] rfl rfl (any_of HT_.out (by kernel_rfl)) (fun _ _ _ h => h) (Or.inl ⟨by rfl, ?_⟩) ?_ ?_
   rotate_left
   · intro w'
     go_simp
     with_reducible rfl
   rotate_left
   · simp only [Act.put, lA, lB, lC, i64_w, i32_w]
     rfl
   refine pure_ (i := 30) (N := some 95) (v := ?_) (a' := ?_) #[bT, bT, bT, bT, bT, bT, bT, bT, bT, bT, bT, bT, bT, bT, bT, bT, bT, bT, bT, bT, bT, bT, bT, bT, bT, bT, bT, bT, bT, bT, bT] rfl rfl (any_of HT_.out (by kernel_rfl)) (fun _ _ _ h => h) (Or.inl ⟨by rfl, ?_⟩) ?_ ?_
   rotate_left
   · intro w'
     go_simp
     with_reducible rfl
   rotate_left
   · simp only [Act.put, lA, lB, lC, i64_w, i32_w]
     rfl
   refine done_ (done_of HT_.out (by kernel_rfl)) ?_
   try go_wp2
   go_roundg k4
   case measure => have := HJ1.out; have := HK2.out; have := HK3.out; have := HK4.out; omega
   exact ⟨(wrap64 (x61_4 + 1)), (by first | rfl | (simp; done) | (simp [*]; done)), H', ⟨by have := HJ1.out; have := HK2.out; have := HK3.out; have := HK4.out; omega⟩, ⟨by (with_reducible repeat (first | refine blk_drewN ?_ _ | refine blk_drew ?_ | refine blk_alloc ?_ _)); exact BK132.out⟩, ⟨by (with_reducible repeat (first | refine blk_drewN ?_ _ | refine blk_drew ?_ | refine blk_alloc ?_ _)); exact BK141.out⟩, ⟨by repeat (first | (with_reducible first | exact HB.out | apply below_alloc | apply pw_below_drewN | apply below_drew1 | refine below_set ?_ GE132.out | refine below_set ?_ GE141.out | refine below_set ?_ GE144.out) | exact HB.out)⟩⟩
 rw [if_neg c57] at H
 have c57b0 : (((rd_T52 ((rd_T48 l0_1 x54_3).f1) x61_4).f0) == 1) = false := beq_eq_false_iff_ne.mpr c57
 have c57b1 : (((rd_T52 ((rd_T48 l0_1 x54_3).f1) x61_4).f0) != 1) = true := bne_iff_ne.mpr c57
 by_cases c64 : ((rd_T52 ((rd_T48 l0_1 x54_3).f1) x61_4).f1) = 0
 · rw [if_pos c64] at H
   have c64b0 : (((rd_T52 ((rd_T48 l0_1 x54_3).f1) x61_4).f1) == 0) = true := beq_iff_eq.mpr c64
   have c64b1 : (((rd_T52 ((rd_T48 l0_1 x54_3).f1) x61_4).f1) != 0) = false := bne_eq_false_iff_eq.mpr c64
   clear c64
   have H' := Aside0.mk H
   clear H
   have p143 : 0 ≤ (x61_4 : Int) := of_decide_eq_true (by first | (with_reducible assumption) | assumption)
   have q143 : x61_4 < (((rd_T48 l0_1 x54_3).f1).length : Int) := of_decide_eq_true (by first | (with_reducible assumption) | assumption)
   obtain ⟨ad143, A143_2, c143_2, e143, hx143_0, hx143_1, hx143_2, hl143_2, hi143_2⟩ := at_T52 HR140_1.out x61_4 p143 q143
   cases e143
   replace hx143_0 := cB HB.out hx143_0
   replace hx143_1 := cB HB.out hx143_1
   replace hx143_2 := cB HB.out hx143_2
   have HR143_2 := Aside0.mk hi143_2
   have HC143_2 := Aside0.mk hl143_2
   clear hi143_2 hl143_2
   replace p143 := eq_true p143
   replace q143 := eq_true q143
   try go_wp2_with (first | ((with_reducible refine gate_dst (N := 9) rfl ?_); (try (refine gate_guard (by rfl) ?_; dsimp only)); refine box_event ?hg (N := 9) ?hd (cs := #[.int .i64 0, .int .i64 0, .slice none 0 0]) (t := 52) ?hr ?_; (case hd => rfl); (case hg => rfl); (case hr => first | (go_simp; done) | (go_simp; rfl)); intro gb144 hg w65 hbox hb; have n0_ := Aside0.mk (bB BK132.out hb); have n1_ := Aside0.mk (bB BK141.out hb); have n2_ := Aside0.mk (below_step (by repeat (first | (with_reducible first | exact HB.out | apply below_alloc | apply pw_below_drewN | apply below_drew1 | refine below_set ?_ GE132.out | refine below_set ?_ GE141.out) | exact HB.out)) hb); have n3_ := Aside0.mk (hbox); have n4_ := Aside0.mk ((by rw [hg]; exact (below_size (by repeat (first | (with_reducible first | exact HB.out | apply below_alloc | apply pw_below_drewN | apply below_drew1 | refine below_set ?_ GE132.out | refine below_set ?_ GE141.out) | exact HB.out))) : w.heap.size ≤ gb144)); have n5_ := n4_; have n6_ := Aside0.mk ((by rw [hg]; exact Nat.ne_of_lt (blk_lt BK132.out) : gb132 ≠ gb144)); have n7_ := Aside0.mk ((by rw [hg]; exact Nat.ne_of_gt (blk_lt BK132.out) : gb144 ≠ gb132)); have n8_ := Aside0.mk ((by rw [hg]; exact Nat.ne_of_lt (blk_lt BK141.out) : gb141 ≠ gb144)); have n9_ := Aside0.mk ((by rw [hg]; exact Nat.ne_of_gt (blk_lt BK141.out) : gb144 ≠ gb141)); clear BK132; clear BK141; clear HB; have BK132 := n0_; have BK141 := n1_; have HB := n2_; have BK144 := n3_; have GW144 := n4_; have GE144 := n5_; have NB132_144 := n6_; have NB144_132 := n7_; have NB141_144 := n8_; have NB144_141 := n9_; clear n0_ n1_ n2_ n3_ n4_ n5_ n6_ n7_ n8_ n9_; clear hb hbox hg; have hnb66 := NB144_132.out; have hnc66 := NB132_144.out; have hnb67 := NB144_141.out; have hnc67 := NB141_144.out; obtain ⟨hcz68_0, hcz68_1, hcz68_2, hfz68_0, hfz68_1, hfz68_2⟩ := blk3 BK144.out))
   have n0_ : Aside0 ((((w65.setCell ⟨gb144, 0, none⟩ (.int .i64 ((rd_T52 ((rd_T48 l0_1 x54_3).f1) x61_4).f0))).setCell ⟨gb144, 1, none⟩ (.int .i64 ((rd_T52 ((rd_T48 l0_1 x54_3).f1) x61_4).f1))).setCell ⟨gb144, 2, none⟩ (.slice A143_2 ((rd_T52 ((rd_T48 l0_1 x54_3).f1) x61_4).f2).length c143_2)).heap[gb132]? = some (.cells #[.int .i64 a0_0, .slice (some ad140) l0_1.length c0_1] 30 (0, 0))) := ⟨by (with_reducible repeat (first | refine blk_drewN ?_ _ | refine blk_drew ?_ | refine blk_alloc ?_ _)); refine blk_far ?_ NB132_144.out _; (with_reducible repeat (first | refine blk_drewN ?_ _ | refine blk_drew ?_ | refine blk_alloc ?_ _)); refine blk_far ?_ NB132_144.out _; (with_reducible repeat (first | refine blk_drewN ?_ _ | refine blk_drew ?_ | refine blk_alloc ?_ _)); refine blk_far ?_ NB132_144.out _; (with_reducible repeat (first | refine blk_drewN ?_ _ | refine blk_drew ?_ | refine blk_alloc ?_ _)); exact BK132.out⟩
   have n1_ : Aside0 ((((w65.setCell ⟨gb144, 0, none⟩ (.int .i64 ((rd_T52 ((rd_T48 l0_1 x54_3).f1) x61_4).f0))).setCell ⟨gb144, 1, none⟩ (.int .i64 ((rd_T52 ((rd_T48 l0_1 x54_3).f1) x61_4).f1))).setCell ⟨gb144, 2, none⟩ (.slice A143_2 ((rd_T52 ((rd_T48 l0_1 x54_3).f1) x61_4).f2).length c143_2)).heap[gb141]? = some (.cells #[.int .i64 ((rd_T48 l0_1 x54_3).f0), .slice (some ad143) ((rd_T48 l0_1 x54_3).f1).length c140_1, .int .i64 ((rd_T48 l0_1 x54_3).f2), .int .i64 ((rd_T48 l0_1 x54_3).f3), .slice A140_4 ((rd_T48 l0_1 x54_3).f4).length c140_4] 48 (0, 0))) := ⟨by (with_reducible repeat (first | refine blk_drewN ?_ _ | refine blk_drew ?_ | refine blk_alloc ?_ _)); refine blk_far ?_ NB141_144.out _; (with_reducible repeat (first | refine blk_drewN ?_ _ | refine blk_drew ?_ | refine blk_alloc ?_ _)); refine blk_far ?_ NB141_144.out _; (with_reducible repeat (first | refine blk_drewN ?_ _ | refine blk_drew ?_ | refine blk_alloc ?_ _)); refine blk_far ?_ NB141_144.out _; (with_reducible repeat (first | refine blk_drewN ?_ _ | refine blk_drew ?_ | refine blk_alloc ?_ _)); exact BK141.out⟩
   have n2_ : Aside0 ((((w65.setCell ⟨gb144, 0, none⟩ (.int .i64 ((rd_T52 ((rd_T48 l0_1 x54_3).f1) x61_4).f0))).setCell ⟨gb144, 1, none⟩ (.int .i64 ((rd_T52 ((rd_T48 l0_1 x54_3).f1) x61_4).f1))).setCell ⟨gb144, 2, none⟩ (.slice A143_2 ((rd_T52 ((rd_T48 l0_1 x54_3).f1) x61_4).f2).length c143_2)).heap[gb144]? = some (.cells #[.int .i64 ((rd_T52 ((rd_T48 l0_1 x54_3).f1) x61_4).f0), .int .i64 ((rd_T52 ((rd_T48 l0_1 x54_3).f1) x61_4).f1), .slice A143_2 ((rd_T52 ((rd_T48 l0_1 x54_3).f1) x61_4).f2).length c143_2] 52 (0, 0))) := ⟨by (with_reducible repeat (first | refine blk_drewN ?_ _ | refine blk_drew ?_ | refine blk_alloc ?_ _)); refine blk_put (cs := #[.int .i64 ((rd_T52 ((rd_T48 l0_1 x54_3).f1) x61_4).f0), .int .i64 ((rd_T52 ((rd_T48 l0_1 x54_3).f1) x61_4).f1), .slice none 0 0]) ?_ 2 _ rfl; (with_reducible repeat (first | refine blk_drewN ?_ _ | refine blk_drew ?_ | refine blk_alloc ?_ _)); refine blk_put (cs := #[.int .i64 ((rd_T52 ((rd_T48 l0_1 x54_3).f1) x61_4).f0), .int .i64 0, .slice none 0 0]) ?_ 1 _ rfl; (with_reducible repeat (first | refine blk_drewN ?_ _ | refine blk_drew ?_ | refine blk_alloc ?_ _)); refine blk_put (cs := #[.int .i64 0, .int .i64 0, .slice none 0 0]) ?_ 0 _ rfl; (with_reducible repeat (first | refine blk_drewN ?_ _ | refine blk_drew ?_ | refine blk_alloc ?_ _)); exact BK144.out⟩
   have n3_ : Aside0 (Below w.heap.size w (((w65.setCell ⟨gb144, 0, none⟩ (.int .i64 ((rd_T52 ((rd_T48 l0_1 x54_3).f1) x61_4).f0))).setCell ⟨gb144, 1, none⟩ (.int .i64 ((rd_T52 ((rd_T48 l0_1 x54_3).f1) x61_4).f1))).setCell ⟨gb144, 2, none⟩ (.slice A143_2 ((rd_T52 ((rd_T48 l0_1 x54_3).f1) x61_4).f2).length c143_2))) := ⟨by repeat (first | (with_reducible first | exact HB.out | apply below_alloc | apply pw_below_drewN | apply below_drew1 | refine below_set ?_ GE132.out | refine below_set ?_ GE141.out | refine below_set ?_ GE144.out) | exact HB.out)⟩
   (try clear BK132)
   (try clear BK141)
   (try clear BK144)
   (try clear HB)
   generalize (((w65.setCell ⟨gb144, 0, none⟩ (.int .i64 ((rd_T52 ((rd_T48 l0_1 x54_3).f1) x61_4).f0))).setCell ⟨gb144, 1, none⟩ (.int .i64 ((rd_T52 ((rd_T48 l0_1 x54_3).f1) x61_4).f1))).setCell ⟨gb144, 2, none⟩ (.slice A143_2 ((rd_T52 ((rd_T48 l0_1 x54_3).f1) x61_4).f2).length c143_2)) = w69 at n0_ n1_ n2_ n3_ ⊢
   have BK132 := n0_
   have BK141 := n1_
   have BK144 := n2_
   have HB := n3_
   clear n0_ n1_ n2_ n3_
   have n0_ := Aside0.mk (blk_drew BK132.out)
   have n1_ := Aside0.mk (blk_drew BK141.out)
   have n2_ := Aside0.mk (blk_drew BK144.out)
   have n3_ := Aside0.mk (below_drew1 HB.out)
   clear BK132
   clear BK141
   clear BK144
   clear HB
   have BK132 := n0_
   have BK141 := n1_
   have BK144 := n2_
   have HB := n3_
   clear n0_ n1_ n2_ n3_
   refine start_ (n := 31) (S := fun w' => w'.cell? ⟨gb144, 0, none⟩ = some (.int .i64 ((rd_T52 ((rd_T48 l0_1 x54_3).f1) x61_4).f0)) ∧ w'.cell? ⟨gb144, 1, none⟩ = some (.int .i64 ((rd_T52 ((rd_T48 l0_1 x54_3).f1) x61_4).f1)) ∧ w'.cell? ⟨gb144, 2, none⟩ = some (.slice A143_2 ((rd_T52 ((rd_T48 l0_1 x54_3).f1) x61_4).f2).length c143_2)) (ds := []) #[bF, bF, bF, bF, bF, bF, bF, bF, bF, bF, bF, bF, bF, bF, bF, bF, bF, bF, bF, bF, bF, bF, bF, bF, bF, bF, bF, bF, bF, bF, bF] (by kernel_rfl) rfl rfl ⟨(blk_cell BK144.out 0).trans rfl, (blk_cell BK144.out 1).trans rfl, (blk_cell BK144.out 2).trans rfl⟩ (fun hHeld => ?_); refine with_tabW spec_GoodFunc.tab18 spec_GoodFunc.bits18 (fun HT_ HW_ => ?_)
   generalize w69.drew = w70 at BK132 BK141 BK144 HB hHeld ⊢
   refine pure_ (i := 0) (N := some 65) (v := ?_) (a' := ?_) #[bT, bF, bF, bF, bF, bF, bF, bF, bF, bF, bF, bF, bF, bF, bF, bF, bF, bF, bF, bF, bF, bF, bF, bF, bF, bF, bF, bF, bF, bF, bF] rfl rfl (any_of HT_.out (by kernel_rfl)) (fun _ _ _ h => h) (Or.inl ⟨by rfl, ?_⟩) ?_ ?_
   rotate_left
   · intro w'
     go_simp
     with_reducible rfl
   rotate_left
   · simp only [Act.put, lA, lB, lC, i64_w, i32_w]
     rfl
   refine take_ (i := 1) (N := some 66) (v := ?_) (a' := ?_) #[bT, bT, bF, bF, bF, bF, bF, bF, bF, bF, bF, bF, bF, bF, bF, bF, bF, bF, bF, bF, bF, bF, bF, bF, bF, bF, bF, bF, bF, bF, bF] rfl rfl (take_ofW HT_.out HW_.out (by kernel_rfl)) (fun _ _ _ h => h) (Or.inl ⟨by rfl, ?_⟩) hHeld ?_ ?_
   rotate_left
   · rintro w' ⟨s0, s1, s2⟩
     go_simp
     with_reducible rfl
   rotate_left
   · simp only [Act.put, lA, lB, lC, i64_w, i32_w]
     rfl
   refine one_ (i := 2) (N := some 67) #[bT, bT, bT, bF, bF, bF, bF, bF, bF, bF, bF, bF, bF, bF, bF, bF, bF, bF, bF, bF, bF, bF, bF, bF, bF, bF, bF, bF, bF, bF, bF] rfl rfl (one_of HT_.out (by kernel_rfl)) (by decide) (fun K hK => ?_)
   refine goes_ Tryz.func19 (by kernel_rfl) rfl #[.int .i64 ((rd_T52 ((rd_T48 l0_1 x54_3).f1) x61_4).f0)] (by rfl) rfl rfl (by (try simp only [List.map_toArray, List.map_cons, List.map_nil]); first | done | rfl | (simp only [List.length_drop, List.length_take]; rfl)) ?_
   with_reducible refine (spec_l12Arity.calls k4 ((rd_T52 ((rd_T48 l0_1 x54_3).f1) x61_4).f0) t145 _ A45.out).mono ?_
   rintro e w' ⟨rfl, ⟨nd, rfl⟩⟩
   refine ⟨_, rfl, ?_⟩
   refine hK.out _ _ ⟨(blk_cell BK144.out 0).trans rfl, (blk_cell BK144.out 1).trans rfl, (blk_cell BK144.out 2).trans rfl⟩ (fun hHeld => ?_)
   clear hK K
   refine norm_ (a' := ?_) ?_ ?_
   rotate_left
   · show Act.put _ (some 67) _ = _
     simp only [Act.put, lA, lB, lC, i64_w, i32_w]
     rfl
   refine pure_ (i := 3) (N := some 68) (v := ?_) (a' := ?_) #[bT, bT, bT, bT, bF, bF, bF, bF, bF, bF, bF, bF, bF, bF, bF, bF, bF, bF, bF, bF, bF, bF, bF, bF, bF, bF, bF, bF, bF, bF, bF] rfl rfl (any_of HT_.out (by kernel_rfl)) (fun _ _ _ h => h) (Or.inl ⟨by rfl, ?_⟩) ?_ ?_
   rotate_left
   · intro w'
     go_simp
     with_reducible rfl
   rotate_left
   · simp only [Act.put, lA, lB, lC, i64_w, i32_w]
     rfl
   refine pure_ (i := 4) (N := some 69) (v := ?_) (a' := ?_) #[bT, bT, bT, bT, bT, bF, bF, bF, bF, bF, bF, bF, bF, bF, bF, bF, bF, bF, bF, bF, bF, bF, bF, bF, bF, bF, bF, bF, bF, bF, bF] rfl rfl (any_of HT_.out (by kernel_rfl)) (fun _ _ _ h => h) (Or.inl ⟨by rfl, ?_⟩) ?_ ?_
   rotate_left
   · intro w'
     go_simp
     with_reducible rfl
   rotate_left
   · simp only [Act.put, lA, lB, lC, i64_w, i32_w]
     rfl
   refine pure_ (i := 5) (N := some 70) (v := ?_) (a' := ?_) #[bT, bT, bT, bT, bT, bT, bF, bF, bF, bF, bF, bF, bF, bF, bF, bF, bF, bF, bF, bF, bF, bF, bF, bF, bF, bF, bF, bF, bF, bF, bF] rfl rfl (any_of HT_.out (by kernel_rfl)) (fun _ _ _ h => h) (Or.inl ⟨by rfl, ?_⟩) ?_ ?_
   rotate_left
   · intro w'
     go_simp
     with_reducible rfl
   rotate_left
   · simp only [Act.put, lA, lB, lC, i64_w, i32_w]
     rfl
   refine pure_ (i := 8) (N := some 73) (v := ?_) (a' := ?_) #[bT, bT, bT, bT, bT, bT, bF, bF, bT, bF, bF, bF, bF, bF, bF, bF, bF, bF, bF, bF, bF, bF, bF, bF, bF, bF, bF, bF, bF, bF, bF] rfl rfl (any_of HT_.out (by kernel_rfl)) (fun _ _ _ h => h) (Or.inl ⟨by rfl, ?_⟩) ?_ ?_
   rotate_left
   · intro w'
     go_simp
     with_reducible rfl
   rotate_left
   · simp only [Act.put, lA, lB, lC, i64_w, i32_w]
     rfl
   refine take_ (i := 6) (N := some 71) (v := ?_) (a' := ?_) #[bT, bT, bT, bT, bT, bT, bT, bF, bT, bF, bF, bF, bF, bF, bF, bF, bF, bF, bF, bF, bF, bF, bF, bF, bF, bF, bF, bF, bF, bF, bF] rfl rfl (take_ofW HT_.out HW_.out (by kernel_rfl)) (fun _ _ _ h => h) (Or.inl ⟨by rfl, ?_⟩) hHeld ?_ ?_
   rotate_left
   · rintro w' ⟨s0, s1, s2⟩
     go_simp
     with_reducible rfl
   rotate_left
   · simp only [Act.put, lA, lB, lC, i64_w, i32_w]
     rfl
   refine pure_ (i := 7) (N := some 72) (v := ?_) (a' := ?_) #[bT, bT, bT, bT, bT, bT, bT, bT, bT, bF, bF, bF, bF, bF, bF, bF, bF, bF, bF, bF, bF, bF, bF, bF, bF, bF, bF, bF, bF, bF, bF] rfl rfl (any_of HT_.out (by kernel_rfl)) (fun _ _ _ h => h) (Or.inl ⟨by rfl, ?_⟩) ?_ ?_
   rotate_left
   · intro w'
     go_simp
     with_reducible rfl
   rotate_left
   · simp only [Act.put, lA, lB, lC, i64_w, i32_w]
     rfl
   refine take_ (i := 9) (N := some 74) (v := ?_) (a' := ?_) #[bT, bT, bT, bT, bT, bT, bT, bT, bT, bT, bF, bF, bF, bF, bF, bF, bF, bF, bF, bF, bF, bF, bF, bF, bF, bF, bF, bF, bF, bF, bF] rfl rfl (take_ofW HT_.out HW_.out (by kernel_rfl)) (fun _ _ _ h => h) (Or.inl ⟨by rfl, ?_⟩) hHeld ?_ ?_
   rotate_left
   · rintro w' ⟨s0, s1, s2⟩
     go_simp
     with_reducible rfl
   rotate_left
   · simp only [Act.put, lA, lB, lC, i64_w, i32_w]
     rfl
   refine one_ (i := 10) (N := some 75) #[bT, bT, bT, bT, bT, bT, bT, bT, bT, bT, bT, bF, bF, bF, bF, bF, bF, bF, bF, bF, bF, bF, bF, bF, bF, bF, bF, bF, bF, bF, bF] rfl rfl (one_of HT_.out (by kernel_rfl)) (by decide) (fun K hK => ?_)
   refine goes_ Tryz.func19 (by kernel_rfl) rfl #[.int .i64 ((rd_T52 ((rd_T48 l0_1 x54_3).f1) x61_4).f0)] (by rfl) rfl rfl (by (try simp only [List.map_toArray, List.map_cons, List.map_nil]); first | done | rfl | (simp only [List.length_drop, List.length_take]; rfl)) ?_
   with_reducible refine (spec_l12Arity.calls k4 ((rd_T52 ((rd_T48 l0_1 x54_3).f1) x61_4).f0) t146 _ A53.out).mono ?_
   rintro e w' ⟨rfl, ⟨nd, rfl⟩⟩
   refine ⟨_, rfl, ?_⟩
   refine hK.out _ _ ⟨(blk_cell BK144.out 0).trans rfl, (blk_cell BK144.out 1).trans rfl, (blk_cell BK144.out 2).trans rfl⟩ (fun hHeld => ?_)
   clear hK K
   refine norm_ (a' := ?_) ?_ ?_
   rotate_left
   · show Act.put _ (some 75) _ = _
     simp only [Act.put, lA, lB, lC, i64_w, i32_w]
     rfl
   refine pure_ (i := 11) (N := some 76) (v := ?_) (a' := ?_) #[bT, bT, bT, bT, bT, bT, bT, bT, bT, bT, bT, bT, bF, bF, bF, bF, bF, bF, bF, bF, bF, bF, bF, bF, bF, bF, bF, bF, bF, bF, bF] rfl rfl (any_of HT_.out (by kernel_rfl)) (fun _ _ _ h => h) (Or.inl ⟨by rfl, ?_⟩) ?_ ?_
   rotate_left
   · intro w'
     go_simp
     with_reducible rfl
   rotate_left
   · simp only [Act.put, lA, lB, lC, i64_w, i32_w]
     rfl
   refine pure_ (i := 12) (N := some 77) (v := ?_) (a' := ?_) #[bT, bT, bT, bT, bT, bT, bT, bT, bT, bT, bT, bT, bT, bF, bF, bF, bF, bF, bF, bF, bF, bF, bF, bF, bF, bF, bF, bF, bF, bF, bF] rfl rfl (any_of HT_.out (by kernel_rfl)) (fun _ _ _ h => h) (Or.inl ⟨by rfl, ?_⟩) ?_ ?_
   rotate_left
   · intro w'
     go_simp
     with_reducible rfl
   rotate_left
   · simp only [Act.put, lA, lB, lC, i64_w, i32_w]
     rfl
   refine pure_ (i := 13) (N := some 78) (v := ?_) (a' := ?_) #[bT, bT, bT, bT, bT, bT, bT, bT, bT, bT, bT, bT, bT, bT, bF, bF, bF, bF, bF, bF, bF, bF, bF, bF, bF, bF, bF, bF, bF, bF, bF] rfl rfl (any_of HT_.out (by kernel_rfl)) (fun _ _ _ h => h) (Or.inl ⟨by rfl, ?_⟩) ?_ ?_
   rotate_left
   · intro w'
     go_simp
     with_reducible rfl
   rotate_left
   · simp only [Act.put, lA, lB, lC, i64_w, i32_w]
     rfl
   refine pure_ (i := 14) (N := some 79) (v := ?_) (a' := ?_) #[bT, bT, bT, bT, bT, bT, bT, bT, bT, bT, bT, bT, bT, bT, bT, bF, bF, bF, bF, bF, bF, bF, bF, bF, bF, bF, bF, bF, bF, bF, bF] rfl rfl (any_of HT_.out (by kernel_rfl)) (fun _ _ _ h => h) (Or.inl ⟨by rfl, ?_⟩) ?_ ?_
   rotate_left
   · intro w'
     go_simp
     with_reducible rfl
   rotate_left
   · simp only [Act.put, lA, lB, lC, i64_w, i32_w]
     rfl
   refine pure_ (i := 16) (N := some 81) (v := ?_) (a' := ?_) #[bT, bT, bT, bT, bT, bT, bT, bT, bT, bT, bT, bT, bT, bT, bT, bF, bT, bF, bF, bF, bF, bF, bF, bF, bF, bF, bF, bF, bF, bF, bF] rfl rfl (any_of HT_.out (by kernel_rfl)) (fun _ _ _ h => h) (Or.inl ⟨by rfl, ?_⟩) ?_ ?_
   rotate_left
   · intro w'
     go_simp
     with_reducible rfl
   rotate_left
   · simp only [Act.put, lA, lB, lC, i64_w, i32_w]
     rfl
   refine pure_ (i := 17) (N := some 82) (v := ?_) (a' := ?_) #[bT, bT, bT, bT, bT, bT, bT, bT, bT, bT, bT, bT, bT, bT, bT, bF, bT, bT, bF, bF, bF, bF, bF, bF, bF, bF, bF, bF, bF, bF, bF] rfl rfl (any_of HT_.out (by kernel_rfl)) (fun _ _ _ h => h) (Or.inl ⟨by rfl, ?_⟩) ?_ ?_
   rotate_left
   · intro w'
     go_simp
     with_reducible rfl
   rotate_left
   · simp only [Act.put, lA, lB, lC, i64_w, i32_w]
     rfl
   refine take_ (i := 15) (N := some 80) (v := ?_) (a' := ?_) #[bT, bT, bT, bT, bT, bT, bT, bT, bT, bT, bT, bT, bT, bT, bT, bT, bT, bT, bF, bF, bF, bF, bF, bF, bF, bF, bF, bF, bF, bF, bF] rfl rfl (take_ofW HT_.out HW_.out (by kernel_rfl)) (fun _ _ _ h => h) (Or.inl ⟨by rfl, ?_⟩) hHeld ?_ ?_
   rotate_left
   · rintro w' ⟨s0, s1, s2⟩
     go_simp
     with_reducible rfl
   rotate_left
   · simp only [Act.put, lA, lB, lC, i64_w, i32_w]
     rfl
   refine one_ (i := 18) (N := some 83) #[bT, bT, bT, bT, bT, bT, bT, bT, bT, bT, bT, bT, bT, bT, bT, bT, bT, bT, bT, bF, bF, bF, bF, bF, bF, bF, bF, bF, bF, bF, bF] rfl rfl (one_of HT_.out (by kernel_rfl)) (by decide) (fun K hK => ?_)
   refine goes_ Tryz.func20 (by kernel_rfl) rfl #[.slice A143_2 ((rd_T52 ((rd_T48 l0_1 x54_3).f1) x61_4).f2).length c143_2, .int .i64 0, .int .i64 (wrap64 (t139 - 1))] (by rfl) rfl rfl (by (try simp only [List.map_toArray, List.map_cons, List.map_nil]); first | done | rfl | (simp only [List.length_drop, List.length_take]; rfl)) ?_
   with_reducible refine (spec_l1All.calls k4 _ _ ((rd_T52 ((rd_T48 l0_1 x54_3).f1) x61_4).f2) 0 (wrap64 (t139 - 1)) true _ ?side1 ?side2 A55.out).mono ?_
   (case side1 => repeat (first | exact (Kd.C_below HR143_2.out (by repeat (first | (with_reducible first | exact HB.out | apply below_alloc | apply pw_below_drewN | apply below_drew1 | refine below_set ?_ GE132.out | refine below_set ?_ GE141.out | refine below_set ?_ GE144.out) | exact HB.out))) | (with_reducible refine Kd.C_alloc ?_ _) | (with_reducible refine Kd.C_drewN ?_ _) | (with_reducible refine Kd.C_drew ?_)))
   (case side2 => exact HC143_2.out)
   rintro e w' ⟨rfl, ⟨nd, rfl⟩⟩
   refine ⟨_, rfl, ?_⟩
   refine hK.out _ _ ⟨(blk_cell BK144.out 0).trans rfl, (blk_cell BK144.out 1).trans rfl, (blk_cell BK144.out 2).trans rfl⟩ (fun hHeld => ?_)
   clear hK K
   refine norm_ (a' := ?_) ?_ ?_
   rotate_left
   · show Act.put _ (some 83) _ = _
     simp only [Act.put, lA, lB, lC, i64_w, i32_w]
     rfl
   refine pure_ (i := 19) (N := some 84) (v := ?_) (a' := ?_) #[bT, bT, bT, bT, bT, bT, bT, bT, bT, bT, bT, bT, bT, bT, bT, bT, bT, bT, bT, bT, bF, bF, bF, bF, bF, bF, bF, bF, bF, bF, bF] rfl rfl (any_of HT_.out (by kernel_rfl)) (fun _ _ _ h => h) (Or.inl ⟨by rfl, ?_⟩) ?_ ?_
   rotate_left
   · intro w'
     go_simp
     with_reducible rfl
   rotate_left
   · simp only [Act.put, lA, lB, lC, i64_w, i32_w]
     rfl
   refine pure_ (i := 20) (N := some 85) (v := ?_) (a' := ?_) #[bT, bT, bT, bT, bT, bT, bT, bT, bT, bT, bT, bT, bT, bT, bT, bT, bT, bT, bT, bT, bT, bF, bF, bF, bF, bF, bF, bF, bF, bF, bF] rfl rfl (any_of HT_.out (by kernel_rfl)) (fun _ _ _ h => h) (Or.inl ⟨by rfl, ?_⟩) ?_ ?_
   rotate_left
   · intro w'
     go_simp
     with_reducible rfl
   rotate_left
   · simp only [Act.put, lA, lB, lC, i64_w, i32_w]
     rfl
   refine pure_ (i := 21) (N := some 86) (v := ?_) (a' := ?_) #[bT, bT, bT, bT, bT, bT, bT, bT, bT, bT, bT, bT, bT, bT, bT, bT, bT, bT, bT, bT, bT, bT, bF, bF, bF, bF, bF, bF, bF, bF, bF] rfl rfl (any_of HT_.out (by kernel_rfl)) (fun _ _ _ h => h) (Or.inl ⟨by rfl, ?_⟩) ?_ ?_
   rotate_left
   · intro w'
     go_simp
     with_reducible rfl
   rotate_left
   · simp only [Act.put, lA, lB, lC, i64_w, i32_w]
     rfl
   refine pure_ (i := 22) (N := some 87) (v := ?_) (a' := ?_) #[bT, bT, bT, bT, bT, bT, bT, bT, bT, bT, bT, bT, bT, bT, bT, bT, bT, bT, bT, bT, bT, bT, bT, bF, bF, bF, bF, bF, bF, bF, bF] rfl rfl (any_of HT_.out (by kernel_rfl)) (fun _ _ _ h => h) (Or.inl ⟨by rfl, ?_⟩) ?_ ?_
   rotate_left
   · intro w'
     go_simp
     with_reducible rfl
   rotate_left
   · simp only [Act.put, lA, lB, lC, i64_w, i32_w]
     rfl
   refine take_ (i := 23) (N := some 88) (v := ?_) (a' := ?_) #[bT, bT, bT, bT, bT, bT, bT, bT, bT, bT, bT, bT, bT, bT, bT, bT, bT, bT, bT, bT, bT, bT, bT, bT, bF, bF, bF, bF, bF, bF, bF] rfl rfl (take_ofW HT_.out HW_.out (by kernel_rfl)) (fun _ _ _ h => h) (Or.inl ⟨by rfl, ?_⟩) hHeld ?_ ?_
   rotate_left
   · rintro w' ⟨s0, s1, s2⟩
     go_simp
     with_reducible rfl
   rotate_left
   · simp only [Act.put, lA, lB, lC, i64_w, i32_w]
     rfl
   refine pure_ (i := 24) (N := some 89) (v := ?_) (a' := ?_) #[bT, bT, bT, bT, bT, bT, bT, bT, bT, bT, bT, bT, bT, bT, bT, bT, bT, bT, bT, bT, bT, bT, bT, bT, bT, bF, bF, bF, bF, bF, bF] rfl rfl (any_of HT_.out (by kernel_rfl)) (fun _ _ _ h => h) (Or.inl ⟨by rfl, ?_⟩) ?_ ?_
   rotate_left
   · intro w'
     go_simp
     with_reducible rfl
   rotate_left
   · simp only [Act.put, lA, lB, lC, i64_w, i32_w]
     rfl
   refine pure_ (i := 25) (N := some 90) (v := ?_) (a' := ?_) #[bT, bT, bT, bT, bT, bT, bT, bT, bT, bT, bT, bT, bT, bT, bT, bT, bT, bT, bT, bT, bT, bT, bT, bT, bT, bT, bF, bF, bF, bF, bF] rfl rfl (any_of HT_.out (by kernel_rfl)) (fun _ _ _ h => h) (Or.inl ⟨by rfl, ?_⟩) ?_ ?_
   rotate_left
   · intro w'
     go_simp
     with_reducible rfl
   rotate_left
   · simp only [Act.put, lA, lB, lC, i64_w, i32_w]
     rfl
   refine pure_ (i := 26) (N := some 91) (v := ?_) (a' := ?_) #[bT, bT, bT, bT, bT, bT, bT, bT, bT, bT, bT, bT, bT, bT, bT, bT, bT, bT, bT, bT, bT, bT, bT, bT, bT, bT, bT, bF, bF, bF, bF] rfl rfl (any_of HT_.out (by kernel_rfl)) (fun _ _ _ h => h) (Or.inl ⟨by rfl, ?_⟩) ?_ ?_
   rotate_left
   · intro w'
     go_simp
     with_reducible rfl
   rotate_left
   · simp only [Act.put, lA, lB, lC, i64_w, i32_w]
     rfl
   refine take_ (i := 27) (N := some 92) (v := ?_) (a' := ?_) #[bT, bT, bT, bT, bT, bT, bT, bT, bT, bT, bT, bT, bT, bT, bT, bT, bT, bT, bT, bT, bT, bT, bT, bT, bT, bT, bT, bT, bF, bF, bF] rfl rfl (take_ofW HT_.out HW_.out (by kernel_rfl)) (fun _ _ _ h => h) (Or.inl ⟨by rfl, ?_⟩) hHeld ?_ ?_
   rotate_left
   · rintro w' ⟨s0, s1, s2⟩
     go_simp
     with_reducible rfl
   rotate_left
   · simp only [Act.put, lA, lB, lC, i64_w, i32_w]
     rfl
   refine pure_ (i := 28) (N := some 93) (v := ?_) (a' := ?_) #[bT, bT, bT, bT, bT, bT, bT, bT, bT, bT, bT, bT, bT, bT, bT, bT, bT, bT, bT, bT, bT, bT, bT, bT, bT, bT, bT, bT, bT, bF, bF] rfl rfl (any_of HT_.out (by kernel_rfl)) (fun _ _ _ h => h) (Or.inl ⟨by rfl, ?_⟩) ?_ ?_
   rotate_left
   · intro w'
     go_simp
     with_reducible rfl
   rotate_left
   · simp only [Act.put, lA, lB, lC, i64_w, i32_w]
     rfl
   refine pure_ (i := 29) (N := some 94) (v := ?_) (a' := ?_) #[bT, bT, bT, bT, bT, bT, bT, bT, bT, bT, bT, bT, bT, bT, bT, bT, bT, bT, bT, bT, bT, bT, bT, bT, bT, bT, bT, bT, bT, bT, bF] rfl rfl (any_of HT_.out (by kernel_rfl)) (fun _ _ _ h => h) (Or.inl ⟨by rfl, ?_⟩) ?_ ?_
   rotate_left
   · intro w'
     go_simp
     with_reducible rfl
   rotate_left
   · simp only [Act.put, lA, lB, lC, i64_w, i32_w]
     rfl
   refine pure_ (i := 30) (N := some 95) (v := ?_) (a' := ?_) #[bT, bT, bT, bT, bT, bT, bT, bT, bT, bT, bT, bT, bT, bT, bT, bT, bT, bT, bT, bT, bT, bT, bT, bT, bT, bT, bT, bT, bT, bT, bT] rfl rfl (any_of HT_.out (by kernel_rfl)) (fun _ _ _ h => h) (Or.inl ⟨by rfl, ?_⟩) ?_ ?_
   rotate_left
   · intro w'
     go_simp
     with_reducible rfl
   rotate_left
   · simp only [Act.put, lA, lB, lC, i64_w, i32_w]
     rfl
   refine done_ (done_of HT_.out (by kernel_rfl)) ?_
   try go_wp2
   go_roundg k4
   case measure => have := HJ1.out; have := HK2.out; have := HK3.out; have := HK4.out; omega
   exact ⟨(wrap64 (x61_4 + 1)), (by first | rfl | (simp; done) | (simp [*]; done)), H', ⟨by have := HJ1.out; have := HK2.out; have := HK3.out; have := HK4.out; omega⟩, ⟨by (with_reducible repeat (first | refine blk_drewN ?_ _ | refine blk_drew ?_ | refine blk_alloc ?_ _)); exact BK132.out⟩, ⟨by (with_reducible repeat (first | refine blk_drewN ?_ _ | refine blk_drew ?_ | refine blk_alloc ?_ _)); exact BK141.out⟩, ⟨by repeat (first | (with_reducible first | exact HB.out | apply below_alloc | apply pw_below_drewN | apply below_drew1 | refine below_set ?_ GE132.out | refine below_set ?_ GE141.out | refine below_set ?_ GE144.out) | exact HB.out)⟩⟩
 rw [if_neg c64] at H
 have c64b0 : (((rd_T52 ((rd_T48 l0_1 x54_3).f1) x61_4).f1) == 0) = false := beq_eq_false_iff_ne.mpr c64
 have c64b1 : (((rd_T52 ((rd_T48 l0_1 x54_3).f1) x61_4).f1) != 0) = true := bne_iff_ne.mpr c64
 obtain rfl := Option.some.inj H
 have p143 : 0 ≤ (x61_4 : Int) := of_decide_eq_true (by first | (with_reducible assumption) | assumption)
 have q143 : x61_4 < (((rd_T48 l0_1 x54_3).f1).length : Int) := of_decide_eq_true (by first | (with_reducible assumption) | assumption)
 obtain ⟨ad143, A143_2, c143_2, e143, hx143_0, hx143_1, hx143_2, hl143_2, hi143_2⟩ := at_T52 HR140_1.out x61_4 p143 q143
 cases e143
 replace hx143_0 := cB HB.out hx143_0
 replace hx143_1 := cB HB.out hx143_1
 replace hx143_2 := cB HB.out hx143_2
 have HR143_2 := Aside0.mk hi143_2
 have HC143_2 := Aside0.mk hl143_2
 clear hi143_2 hl143_2
 replace p143 := eq_true p143
 replace q143 := eq_true q143
 try go_wp2_with (first | ((with_reducible refine gate_dst (N := 9) rfl ?_); (try (refine gate_guard (by rfl) ?_; dsimp only)); refine box_event ?hg (N := 9) ?hd (cs := #[.int .i64 0, .int .i64 0, .slice none 0 0]) (t := 52) ?hr ?_; (case hd => rfl); (case hg => rfl); (case hr => first | (go_simp; done) | (go_simp; rfl)); intro gb144 hg w71 hbox hb; have n0_ := Aside0.mk (bB BK132.out hb); have n1_ := Aside0.mk (bB BK141.out hb); have n2_ := Aside0.mk (below_step (by repeat (first | (with_reducible first | exact HB.out | apply below_alloc | apply pw_below_drewN | apply below_drew1 | refine below_set ?_ GE132.out | refine below_set ?_ GE141.out) | exact HB.out)) hb); have n3_ := Aside0.mk (hbox); have n4_ := Aside0.mk ((by rw [hg]; exact (below_size (by repeat (first | (with_reducible first | exact HB.out | apply below_alloc | apply pw_below_drewN | apply below_drew1 | refine below_set ?_ GE132.out | refine below_set ?_ GE141.out) | exact HB.out))) : w.heap.size ≤ gb144)); have n5_ := n4_; have n6_ := Aside0.mk ((by rw [hg]; exact Nat.ne_of_lt (blk_lt BK132.out) : gb132 ≠ gb144)); have n7_ := Aside0.mk ((by rw [hg]; exact Nat.ne_of_gt (blk_lt BK132.out) : gb144 ≠ gb132)); have n8_ := Aside0.mk ((by rw [hg]; exact Nat.ne_of_lt (blk_lt BK141.out) : gb141 ≠ gb144)); have n9_ := Aside0.mk ((by rw [hg]; exact Nat.ne_of_gt (blk_lt BK141.out) : gb144 ≠ gb141)); clear BK132; clear BK141; clear HB; have BK132 := n0_; have BK141 := n1_; have HB := n2_; have BK144 := n3_; have GW144 := n4_; have GE144 := n5_; have NB132_144 := n6_; have NB144_132 := n7_; have NB141_144 := n8_; have NB144_141 := n9_; clear n0_ n1_ n2_ n3_ n4_ n5_ n6_ n7_ n8_ n9_; clear hb hbox hg; have hnb72 := NB144_132.out; have hnc72 := NB132_144.out; have hnb73 := NB144_141.out; have hnc73 := NB141_144.out; obtain ⟨hcz74_0, hcz74_1, hcz74_2, hfz74_0, hfz74_1, hfz74_2⟩ := blk3 BK144.out))
 have n0_ : Aside0 ((((w71.setCell ⟨gb144, 0, none⟩ (.int .i64 ((rd_T52 ((rd_T48 l0_1 x54_3).f1) x61_4).f0))).setCell ⟨gb144, 1, none⟩ (.int .i64 ((rd_T52 ((rd_T48 l0_1 x54_3).f1) x61_4).f1))).setCell ⟨gb144, 2, none⟩ (.slice A143_2 ((rd_T52 ((rd_T48 l0_1 x54_3).f1) x61_4).f2).length c143_2)).heap[gb132]? = some (.cells #[.int .i64 a0_0, .slice (some ad140) l0_1.length c0_1] 30 (0, 0))) := ⟨by (with_reducible repeat (first | refine blk_drewN ?_ _ | refine blk_drew ?_ | refine blk_alloc ?_ _)); refine blk_far ?_ NB132_144.out _; (with_reducible repeat (first | refine blk_drewN ?_ _ | refine blk_drew ?_ | refine blk_alloc ?_ _)); refine blk_far ?_ NB132_144.out _; (with_reducible repeat (first | refine blk_drewN ?_ _ | refine blk_drew ?_ | refine blk_alloc ?_ _)); refine blk_far ?_ NB132_144.out _; (with_reducible repeat (first | refine blk_drewN ?_ _ | refine blk_drew ?_ | refine blk_alloc ?_ _)); exact BK132.out⟩
 have n1_ : Aside0 ((((w71.setCell ⟨gb144, 0, none⟩ (.int .i64 ((rd_T52 ((rd_T48 l0_1 x54_3).f1) x61_4).f0))).setCell ⟨gb144, 1, none⟩ (.int .i64 ((rd_T52 ((rd_T48 l0_1 x54_3).f1) x61_4).f1))).setCell ⟨gb144, 2, none⟩ (.slice A143_2 ((rd_T52 ((rd_T48 l0_1 x54_3).f1) x61_4).f2).length c143_2)).heap[gb141]? = some (.cells #[.int .i64 ((rd_T48 l0_1 x54_3).f0), .slice (some ad143) ((rd_T48 l0_1 x54_3).f1).length c140_1, .int .i64 ((rd_T48 l0_1 x54_3).f2), .int .i64 ((rd_T48 l0_1 x54_3).f3), .slice A140_4 ((rd_T48 l0_1 x54_3).f4).length c140_4] 48 (0, 0))) := ⟨by (with_reducible repeat (first | refine blk_drewN ?_ _ | refine blk_drew ?_ | refine blk_alloc ?_ _)); refine blk_far ?_ NB141_144.out _; (with_reducible repeat (first | refine blk_drewN ?_ _ | refine blk_drew ?_ | refine blk_alloc ?_ _)); refine blk_far ?_ NB141_144.out _; (with_reducible repeat (first | refine blk_drewN ?_ _ | refine blk_drew ?_ | refine blk_alloc ?_ _)); refine blk_far ?_ NB141_144.out _; (with_reducible repeat (first | refine blk_drewN ?_ _ | refine blk_drew ?_ | refine blk_alloc ?_ _)); exact BK141.out⟩
 have n2_ : Aside0 ((((w71.setCell ⟨gb144, 0, none⟩ (.int .i64 ((rd_T52 ((rd_T48 l0_1 x54_3).f1) x61_4).f0))).setCell ⟨gb144, 1, none⟩ (.int .i64 ((rd_T52 ((rd_T48 l0_1 x54_3).f1) x61_4).f1))).setCell ⟨gb144, 2, none⟩ (.slice A143_2 ((rd_T52 ((rd_T48 l0_1 x54_3).f1) x61_4).f2).length c143_2)).heap[gb144]? = some (.cells #[.int .i64 ((rd_T52 ((rd_T48 l0_1 x54_3).f1) x61_4).f0), .int .i64 ((rd_T52 ((rd_T48 l0_1 x54_3).f1) x61_4).f1), .slice A143_2 ((rd_T52 ((rd_T48 l0_1 x54_3).f1) x61_4).f2).length c143_2] 52 (0, 0))) := ⟨by (with_reducible repeat (first | refine blk_drewN ?_ _ | refine blk_drew ?_ | refine blk_alloc ?_ _)); refine blk_put (cs := #[.int .i64 ((rd_T52 ((rd_T48 l0_1 x54_3).f1) x61_4).f0), .int .i64 ((rd_T52 ((rd_T48 l0_1 x54_3).f1) x61_4).f1), .slice none 0 0]) ?_ 2 _ rfl; (with_reducible repeat (first | refine blk_drewN ?_ _ | refine blk_drew ?_ | refine blk_alloc ?_ _)); refine blk_put (cs := #[.int .i64 ((rd_T52 ((rd_T48 l0_1 x54_3).f1) x61_4).f0), .int .i64 0, .slice none 0 0]) ?_ 1 _ rfl; (with_reducible repeat (first | refine blk_drewN ?_ _ | refine blk_drew ?_ | refine blk_alloc ?_ _)); refine blk_put (cs := #[.int .i64 0, .int .i64 0, .slice none 0 0]) ?_ 0 _ rfl; (with_reducible repeat (first | refine blk_drewN ?_ _ | refine blk_drew ?_ | refine blk_alloc ?_ _)); exact BK144.out⟩
 have n3_ : Aside0 (Below w.heap.size w (((w71.setCell ⟨gb144, 0, none⟩ (.int .i64 ((rd_T52 ((rd_T48 l0_1 x54_3).f1) x61_4).f0))).setCell ⟨gb144, 1, none⟩ (.int .i64 ((rd_T52 ((rd_T48 l0_1 x54_3).f1) x61_4).f1))).setCell ⟨gb144, 2, none⟩ (.slice A143_2 ((rd_T52 ((rd_T48 l0_1 x54_3).f1) x61_4).f2).length c143_2))) := ⟨by repeat (first | (with_reducible first | exact HB.out | apply below_alloc | apply pw_below_drewN | apply below_drew1 | refine below_set ?_ GE132.out | refine below_set ?_ GE141.out | refine below_set ?_ GE144.out) | exact HB.out)⟩
 (try clear BK132)
 (try clear BK141)
 (try clear BK144)
 (try clear HB)
 generalize (((w71.setCell ⟨gb144, 0, none⟩ (.int .i64 ((rd_T52 ((rd_T48 l0_1 x54_3).f1) x61_4).f0))).setCell ⟨gb144, 1, none⟩ (.int .i64 ((rd_T52 ((rd_T48 l0_1 x54_3).f1) x61_4).f1))).setCell ⟨gb144, 2, none⟩ (.slice A143_2 ((rd_T52 ((rd_T48 l0_1 x54_3).f1) x61_4).f2).length c143_2)) = w75 at n0_ n1_ n2_ n3_ ⊢
 have BK132 := n0_
 have BK141 := n1_
 have BK144 := n2_
 have HB := n3_
 clear n0_ n1_ n2_ n3_
 have n0_ := Aside0.mk (blk_drew BK132.out)
 have n1_ := Aside0.mk (blk_drew BK141.out)
 have n2_ := Aside0.mk (blk_drew BK144.out)
 have n3_ := Aside0.mk (below_drew1 HB.out)
 clear BK132
 clear BK141
 clear BK144
 clear HB
 have BK132 := n0_
 have BK141 := n1_
 have BK144 := n2_
 have HB := n3_
 clear n0_ n1_ n2_ n3_
 refine start_ (n := 31) (S := fun w' => w'.cell? ⟨gb144, 0, none⟩ = some (.int .i64 ((rd_T52 ((rd_T48 l0_1 x54_3).f1) x61_4).f0)) ∧ w'.cell? ⟨gb144, 1, none⟩ = some (.int .i64 ((rd_T52 ((rd_T48 l0_1 x54_3).f1) x61_4).f1)) ∧ w'.cell? ⟨gb144, 2, none⟩ = some (.slice A143_2 ((rd_T52 ((rd_T48 l0_1 x54_3).f1) x61_4).f2).length c143_2)) (ds := []) #[bF, bF, bF, bF, bF, bF, bF, bF, bF, bF, bF, bF, bF, bF, bF, bF, bF, bF, bF, bF, bF, bF, bF, bF, bF, bF, bF, bF, bF, bF, bF] (by kernel_rfl) rfl rfl ⟨(blk_cell BK144.out 0).trans rfl, (blk_cell BK144.out 1).trans rfl, (blk_cell BK144.out 2).trans rfl⟩ (fun hHeld => ?_); refine with_tabW spec_GoodFunc.tab18 spec_GoodFunc.bits18 (fun HT_ HW_ => ?_)
 generalize w75.drew = w76 at BK132 BK141 BK144 HB hHeld ⊢
 refine pure_ (i := 0) (N := some 65) (v := ?_) (a' := ?_) #[bT, bF, bF, bF, bF, bF, bF, bF, bF, bF, bF, bF, bF, bF, bF, bF, bF, bF, bF, bF, bF, bF, bF, bF, bF, bF, bF, bF, bF, bF, bF] rfl rfl (any_of HT_.out (by kernel_rfl)) (fun _ _ _ h => h) (Or.inl ⟨by rfl, ?_⟩) ?_ ?_
 rotate_left
 · intro w'
   go_simp
   with_reducible rfl
 rotate_left
 · simp only [Act.put, lA, lB, lC, i64_w, i32_w]
   rfl
 refine take_ (i := 1) (N := some 66) (v := ?_) (a' := ?_) #[bT, bT, bF, bF, bF, bF, bF, bF, bF, bF, bF, bF, bF, bF, bF, bF, bF, bF, bF, bF, bF, bF, bF, bF, bF, bF, bF, bF, bF, bF, bF] rfl rfl (take_ofW HT_.out HW_.out (by kernel_rfl)) (fun _ _ _ h => h) (Or.inl ⟨by rfl, ?_⟩) hHeld ?_ ?_
 rotate_left
 · rintro w' ⟨s0, s1, s2⟩
   go_simp
   with_reducible rfl
 rotate_left
 · simp only [Act.put, lA, lB, lC, i64_w, i32_w]
   rfl
 refine one_ (i := 2) (N := some 67) #[bT, bT, bT, bF, bF, bF, bF, bF, bF, bF, bF, bF, bF, bF, bF, bF, bF, bF, bF, bF, bF, bF, bF, bF, bF, bF, bF, bF, bF, bF, bF] rfl rfl (one_of HT_.out (by kernel_rfl)) (by decide) (fun K hK => ?_)
 refine goes_ Tryz.func19 (by kernel_rfl) rfl #[.int .i64 ((rd_T52 ((rd_T48 l0_1 x54_3).f1) x61_4).f0)] (by rfl) rfl rfl (by (try simp only [List.map_toArray, List.map_cons, List.map_nil]); first | done | rfl | (simp only [List.length_drop, List.length_take]; rfl)) ?_
 with_reducible refine (spec_l12Arity.calls k4 ((rd_T52 ((rd_T48 l0_1 x54_3).f1) x61_4).f0) t145 _ A45.out).mono ?_
 rintro e w' ⟨rfl, ⟨nd, rfl⟩⟩
 refine ⟨_, rfl, ?_⟩
 refine hK.out _ _ ⟨(blk_cell BK144.out 0).trans rfl, (blk_cell BK144.out 1).trans rfl, (blk_cell BK144.out 2).trans rfl⟩ (fun hHeld => ?_)
 clear hK K
 refine norm_ (a' := ?_) ?_ ?_
 rotate_left
 · show Act.put _ (some 67) _ = _
   simp only [Act.put, lA, lB, lC, i64_w, i32_w]
   rfl
 refine pure_ (i := 3) (N := some 68) (v := ?_) (a' := ?_) #[bT, bT, bT, bT, bF, bF, bF, bF, bF, bF, bF, bF, bF, bF, bF, bF, bF, bF, bF, bF, bF, bF, bF, bF, bF, bF, bF, bF, bF, bF, bF] rfl rfl (any_of HT_.out (by kernel_rfl)) (fun _ _ _ h => h) (Or.inl ⟨by rfl, ?_⟩) ?_ ?_
 rotate_left
 · intro w'
   go_simp
   with_reducible rfl
 rotate_left
 · simp only [Act.put, lA, lB, lC, i64_w, i32_w]
   rfl
 refine pure_ (i := 4) (N := some 69) (v := ?_) (a' := ?_) #[bT, bT, bT, bT, bT, bF, bF, bF, bF, bF, bF, bF, bF, bF, bF, bF, bF, bF, bF, bF, bF, bF, bF, bF, bF, bF, bF, bF, bF, bF, bF] rfl rfl (any_of HT_.out (by kernel_rfl)) (fun _ _ _ h => h) (Or.inl ⟨by rfl, ?_⟩) ?_ ?_
 rotate_left
 · intro w'
   go_simp
   with_reducible rfl
 rotate_left
 · simp only [Act.put, lA, lB, lC, i64_w, i32_w]
   rfl
 refine pure_ (i := 5) (N := some 70) (v := ?_) (a' := ?_) #[bT, bT, bT, bT, bT, bT, bF, bF, bF, bF, bF, bF, bF, bF, bF, bF, bF, bF, bF, bF, bF, bF, bF, bF, bF, bF, bF, bF, bF, bF, bF] rfl rfl (any_of HT_.out (by kernel_rfl)) (fun _ _ _ h => h) (Or.inl ⟨by rfl, ?_⟩) ?_ ?_
 rotate_left
 · intro w'
   go_simp
   with_reducible rfl
 rotate_left
 · simp only [Act.put, lA, lB, lC, i64_w, i32_w]
   rfl
 refine pure_ (i := 8) (N := some 73) (v := ?_) (a' := ?_) #[bT, bT, bT, bT, bT, bT, bF, bF, bT, bF, bF, bF, bF, bF, bF, bF, bF, bF, bF, bF, bF, bF, bF, bF, bF, bF, bF, bF, bF, bF, bF] rfl rfl (any_of HT_.out (by kernel_rfl)) (fun _ _ _ h => h) (Or.inl ⟨by rfl, ?_⟩) ?_ ?_
 rotate_left
 · intro w'
   go_simp
   with_reducible rfl
 rotate_left
 · simp only [Act.put, lA, lB, lC, i64_w, i32_w]
   rfl
 refine take_ (i := 6) (N := some 71) (v := ?_) (a' := ?_) #[bT, bT, bT, bT, bT, bT, bT, bF, bT, bF, bF, bF, bF, bF, bF, bF, bF, bF, bF, bF, bF, bF, bF, bF, bF, bF, bF, bF, bF, bF, bF] rfl rfl (take_ofW HT_.out HW_.out (by kernel_rfl)) (fun _ _ _ h => h) (Or.inl ⟨by rfl, ?_⟩) hHeld ?_ ?_
 rotate_left
 · rintro w' ⟨s0, s1, s2⟩
   go_simp
   with_reducible rfl
 rotate_left
 · simp only [Act.put, lA, lB, lC, i64_w, i32_w]
   rfl
 refine pure_ (i := 7) (N := some 72) (v := ?_) (a' := ?_) #[bT, bT, bT, bT, bT, bT, bT, bT, bT, bF, bF, bF, bF, bF, bF, bF, bF, bF, bF, bF, bF, bF, bF, bF, bF, bF, bF, bF, bF, bF, bF] rfl rfl (any_of HT_.out (by kernel_rfl)) (fun _ _ _ h => h) (Or.inl ⟨by rfl, ?_⟩) ?_ ?_
 rotate_left
 · intro w'
   go_simp
   with_reducible rfl
 rotate_left
 · simp only [Act.put, lA, lB, lC, i64_w, i32_w]
   rfl
 refine take_ (i := 9) (N := some 74) (v := ?_) (a' := ?_) #[bT, bT, bT, bT, bT, bT, bT, bT, bT, bT, bF, bF, bF, bF, bF, bF, bF, bF, bF, bF, bF, bF, bF, bF, bF, bF, bF, bF, bF, bF, bF] rfl rfl (take_ofW HT_.out HW_.out (by kernel_rfl)) (fun _ _ _ h => h) (Or.inl ⟨by rfl, ?_⟩) hHeld ?_ ?_
 rotate_left
 · rintro w' ⟨s0, s1, s2⟩
   go_simp
   with_reducible rfl
 rotate_left
 · simp only [Act.put, lA, lB, lC, i64_w, i32_w]
   rfl
 refine one_ (i := 10) (N := some 75) #[bT, bT, bT, bT, bT, bT, bT, bT, bT, bT, bT, bF, bF, bF, bF, bF, bF, bF, bF, bF, bF, bF, bF, bF, bF, bF, bF, bF, bF, bF, bF] rfl rfl (one_of HT_.out (by kernel_rfl)) (by decide) (fun K hK => ?_)
 refine goes_ Tryz.func19 (by kernel_rfl) rfl #[.int .i64 ((rd_T52 ((rd_T48 l0_1 x54_3).f1) x61_4).f0)] (by rfl) rfl rfl (by (try simp only [List.map_toArray, List.map_cons, List.map_nil]); first | done | rfl | (simp only [List.length_drop, List.length_take]; rfl)) ?_
 with_reducible refine (spec_l12Arity.calls k4 ((rd_T52 ((rd_T48 l0_1 x54_3).f1) x61_4).f0) t146 _ A53.out).mono ?_
 rintro e w' ⟨rfl, ⟨nd, rfl⟩⟩
 refine ⟨_, rfl, ?_⟩
 refine hK.out _ _ ⟨(blk_cell BK144.out 0).trans rfl, (blk_cell BK144.out 1).trans rfl, (blk_cell BK144.out 2).trans rfl⟩ (fun hHeld => ?_)
 clear hK K
 refine norm_ (a' := ?_) ?_ ?_
 rotate_left
 · show Act.put _ (some 75) _ = _
   simp only [Act.put, lA, lB, lC, i64_w, i32_w]
   rfl
 refine pure_ (i := 11) (N := some 76) (v := ?_) (a' := ?_) #[bT, bT, bT, bT, bT, bT, bT, bT, bT, bT, bT, bT, bF, bF, bF, bF, bF, bF, bF, bF, bF, bF, bF, bF, bF, bF, bF, bF, bF, bF, bF] rfl rfl (any_of HT_.out (by kernel_rfl)) (fun _ _ _ h => h) (Or.inl ⟨by rfl, ?_⟩) ?_ ?_
 rotate_left
 · intro w'
   go_simp
   with_reducible rfl
 rotate_left
 · simp only [Act.put, lA, lB, lC, i64_w, i32_w]
   rfl
 refine pure_ (i := 12) (N := some 77) (v := ?_) (a' := ?_) #[bT, bT, bT, bT, bT, bT, bT, bT, bT, bT, bT, bT, bT, bF, bF, bF, bF, bF, bF, bF, bF, bF, bF, bF, bF, bF, bF, bF, bF, bF, bF] rfl rfl (any_of HT_.out (by kernel_rfl)) (fun _ _ _ h => h) (Or.inl ⟨by rfl, ?_⟩) ?_ ?_
 rotate_left
 · intro w'
   go_simp
   with_reducible rfl
 rotate_left
 · simp only [Act.put, lA, lB, lC, i64_w, i32_w]
   rfl
 refine pure_ (i := 13) (N := some 78) (v := ?_) (a' := ?_) #[bT, bT, bT, bT, bT, bT, bT, bT, bT, bT, bT, bT, bT, bT, bF, bF, bF, bF, bF, bF, bF, bF, bF, bF, bF, bF, bF, bF, bF, bF, bF] rfl rfl (any_of HT_.out (by kernel_rfl)) (fun _ _ _ h => h) (Or.inl ⟨by rfl, ?_⟩) ?_ ?_
 rotate_left
 · intro w'
   go_simp
   with_reducible rfl
 rotate_left
 · simp only [Act.put, lA, lB, lC, i64_w, i32_w]
   rfl
 refine pure_ (i := 14) (N := some 79) (v := ?_) (a' := ?_) #[bT, bT, bT, bT, bT, bT, bT, bT, bT, bT, bT, bT, bT, bT, bT, bF, bF, bF, bF, bF, bF, bF, bF, bF, bF, bF, bF, bF, bF, bF, bF] rfl rfl (any_of HT_.out (by kernel_rfl)) (fun _ _ _ h => h) (Or.inl ⟨by rfl, ?_⟩) ?_ ?_
 rotate_left
 · intro w'
   go_simp
   with_reducible rfl
 rotate_left
 · simp only [Act.put, lA, lB, lC, i64_w, i32_w]
   rfl
 refine pure_ (i := 16) (N := some 81) (v := ?_) (a' := ?_) #[bT, bT, bT, bT, bT, bT, bT, bT, bT, bT, bT, bT, bT, bT, bT, bF, bT, bF, bF, bF, bF, bF, bF, bF, bF, bF, bF, bF, bF, bF, bF] rfl rfl (any_of HT_.out (by kernel_rfl)) (fun _ _ _ h => h) (Or.inl ⟨by rfl, ?_⟩) ?_ ?_
 rotate_left
 · intro w'
   go_simp
   with_reducible rfl
 rotate_left
 · simp only [Act.put, lA, lB, lC, i64_w, i32_w]
   rfl
 refine pure_ (i := 17) (N := some 82) (v := ?_) (a' := ?_) #[bT, bT, bT, bT, bT, bT, bT, bT, bT, bT, bT, bT, bT, bT, bT, bF, bT, bT, bF, bF, bF, bF, bF, bF, bF, bF, bF, bF, bF, bF, bF] rfl rfl (any_of HT_.out (by kernel_rfl)) (fun _ _ _ h => h) (Or.inl ⟨by rfl, ?_⟩) ?_ ?_
 rotate_left
 · intro w'
   go_simp
   with_reducible rfl
 rotate_left
 · simp only [Act.put, lA, lB, lC, i64_w, i32_w]
   rfl
 refine take_ (i := 15) (N := some 80) (v := ?_) (a' := ?_) #[bT, bT, bT, bT, bT, bT, bT, bT, bT, bT, bT, bT, bT, bT, bT, bT, bT, bT, bF, bF, bF, bF, bF, bF, bF, bF, bF, bF, bF, bF, bF] rfl rfl (take_ofW HT_.out HW_.out (by kernel_rfl)) (fun _ _ _ h => h) (Or.inl ⟨by rfl, ?_⟩) hHeld ?_ ?_
 rotate_left
 · rintro w' ⟨s0, s1, s2⟩
   go_simp
   with_reducible rfl
 rotate_left
 · simp only [Act.put, lA, lB, lC, i64_w, i32_w]
   rfl
 refine one_ (i := 18) (N := some 83) #[bT, bT, bT, bT, bT, bT, bT, bT, bT, bT, bT, bT, bT, bT, bT, bT, bT, bT, bT, bF, bF, bF, bF, bF, bF, bF, bF, bF, bF, bF, bF] rfl rfl (one_of HT_.out (by kernel_rfl)) (by decide) (fun K hK => ?_)
 refine goes_ Tryz.func20 (by kernel_rfl) rfl #[.slice A143_2 ((rd_T52 ((rd_T48 l0_1 x54_3).f1) x61_4).f2).length c143_2, .int .i64 0, .int .i64 (wrap64 (t139 - 1))] (by rfl) rfl rfl (by (try simp only [List.map_toArray, List.map_cons, List.map_nil]); first | done | rfl | (simp only [List.length_drop, List.length_take]; rfl)) ?_
 with_reducible refine (spec_l1All.calls k4 _ _ ((rd_T52 ((rd_T48 l0_1 x54_3).f1) x61_4).f2) 0 (wrap64 (t139 - 1)) true _ ?side1 ?side2 A55.out).mono ?_
 (case side1 => repeat (first | exact (Kd.C_below HR143_2.out (by repeat (first | (with_reducible first | exact HB.out | apply below_alloc | apply pw_below_drewN | apply below_drew1 | refine below_set ?_ GE132.out | refine below_set ?_ GE141.out | refine below_set ?_ GE144.out) | exact HB.out))) | (with_reducible refine Kd.C_alloc ?_ _) | (with_reducible refine Kd.C_drewN ?_ _) | (with_reducible refine Kd.C_drew ?_)))
 (case side2 => exact HC143_2.out)
 rintro e w' ⟨rfl, ⟨nd, rfl⟩⟩
 refine ⟨_, rfl, ?_⟩
 refine hK.out _ _ ⟨(blk_cell BK144.out 0).trans rfl, (blk_cell BK144.out 1).trans rfl, (blk_cell BK144.out 2).trans rfl⟩ (fun hHeld => ?_)
 clear hK K
 refine norm_ (a' := ?_) ?_ ?_
 rotate_left
 · show Act.put _ (some 83) _ = _
   simp only [Act.put, lA, lB, lC, i64_w, i32_w]
   rfl
 refine pure_ (i := 19) (N := some 84) (v := ?_) (a' := ?_) #[bT, bT, bT, bT, bT, bT, bT, bT, bT, bT, bT, bT, bT, bT, bT, bT, bT, bT, bT, bT, bF, bF, bF, bF, bF, bF, bF, bF, bF, bF, bF] rfl rfl (any_of HT_.out (by kernel_rfl)) (fun _ _ _ h => h) (Or.inl ⟨by rfl, ?_⟩) ?_ ?_
 rotate_left
 · intro w'
   go_simp
   with_reducible rfl
 rotate_left
 · simp only [Act.put, lA, lB, lC, i64_w, i32_w]
   rfl
 refine pure_ (i := 20) (N := some 85) (v := ?_) (a' := ?_) #[bT, bT, bT, bT, bT, bT, bT, bT, bT, bT, bT, bT, bT, bT, bT, bT, bT, bT, bT, bT, bT, bF, bF, bF, bF, bF, bF, bF, bF, bF, bF] rfl rfl (any_of HT_.out (by kernel_rfl)) (fun _ _ _ h => h) (Or.inl ⟨by rfl, ?_⟩) ?_ ?_
 rotate_left
 · intro w'
   go_simp
   with_reducible rfl
 rotate_left
 · simp only [Act.put, lA, lB, lC, i64_w, i32_w]
   rfl
 refine pure_ (i := 21) (N := some 86) (v := ?_) (a' := ?_) #[bT, bT, bT, bT, bT, bT, bT, bT, bT, bT, bT, bT, bT, bT, bT, bT, bT, bT, bT, bT, bT, bT, bF, bF, bF, bF, bF, bF, bF, bF, bF] rfl rfl (any_of HT_.out (by kernel_rfl)) (fun _ _ _ h => h) (Or.inl ⟨by rfl, ?_⟩) ?_ ?_
 rotate_left
 · intro w'
   go_simp
   with_reducible rfl
 rotate_left
 · simp only [Act.put, lA, lB, lC, i64_w, i32_w]
   rfl
 refine pure_ (i := 22) (N := some 87) (v := ?_) (a' := ?_) #[bT, bT, bT, bT, bT, bT, bT, bT, bT, bT, bT, bT, bT, bT, bT, bT, bT, bT, bT, bT, bT, bT, bT, bF, bF, bF, bF, bF, bF, bF, bF] rfl rfl (any_of HT_.out (by kernel_rfl)) (fun _ _ _ h => h) (Or.inl ⟨by rfl, ?_⟩) ?_ ?_
 rotate_left
 · intro w'
   go_simp
   with_reducible rfl
 rotate_left
 · simp only [Act.put, lA, lB, lC, i64_w, i32_w]
   rfl
 refine take_ (i := 23) (N := some 88) (v := ?_) (a' := ?_) #[bT, bT, bT, bT, bT, bT, bT, bT, bT, bT, bT, bT, bT, bT, bT, bT, bT, bT, bT, bT, bT, bT, bT, bT, bF, bF, bF, bF, bF, bF, bF] rfl rfl (take_ofW HT_.out HW_.out (by kernel_rfl)) (fun _ _ _ h => h) (Or.inl ⟨by rfl, ?_⟩) hHeld ?_ ?_
 rotate_left
 · rintro w' ⟨s0, s1, s2⟩
   go_simp
   with_reducible rfl
 rotate_left
 · simp only [Act.put, lA, lB, lC, i64_w, i32_w]
   rfl
 refine pure_ (i := 24) (N := some 89) (v := ?_) (a' := ?_) #[bT, bT, bT, bT, bT, bT, bT, bT, bT, bT, bT, bT, bT, bT, bT, bT, bT, bT, bT, bT, bT, bT, bT, bT, bT, bF, bF, bF, bF, bF, bF] rfl rfl (any_of HT_.out (by kernel_rfl)) (fun _ _ _ h => h) (Or.inl ⟨by rfl, ?_⟩) ?_ ?_
 rotate_left
 · intro w'
   go_simp
   with_reducible rfl
 rotate_left
 · simp only [Act.put, lA, lB, lC, i64_w, i32_w]
   rfl
 refine pure_ (i := 25) (N := some 90) (v := ?_) (a' := ?_) #[bT, bT, bT, bT, bT, bT, bT, bT, bT, bT, bT, bT, bT, bT, bT, bT, bT, bT, bT, bT, bT, bT, bT, bT, bT, bT, bF, bF, bF, bF, bF] rfl rfl (any_of HT_.out (by kernel_rfl)) (fun _ _ _ h => h) (Or.inl ⟨by rfl, ?_⟩) ?_ ?_
 rotate_left
 · intro w'
   go_simp
   with_reducible rfl
 rotate_left
 · simp only [Act.put, lA, lB, lC, i64_w, i32_w]
   rfl
 refine pure_ (i := 26) (N := some 91) (v := ?_) (a' := ?_) #[bT, bT, bT, bT, bT, bT, bT, bT, bT, bT, bT, bT, bT, bT, bT, bT, bT, bT, bT, bT, bT, bT, bT, bT, bT, bT, bT, bF, bF, bF, bF] rfl rfl (any_of HT_.out (by kernel_rfl)) (fun _ _ _ h => h) (Or.inl ⟨by rfl, ?_⟩) ?_ ?_
 rotate_left
 · intro w'
   go_simp
   with_reducible rfl
 rotate_left
 · simp only [Act.put, lA, lB, lC, i64_w, i32_w]
   rfl
 refine take_ (i := 27) (N := some 92) (v := ?_) (a' := ?_) #[bT, bT, bT, bT, bT, bT, bT, bT, bT, bT, bT, bT, bT, bT, bT, bT, bT, bT, bT, bT, bT, bT, bT, bT, bT, bT, bT, bT, bF, bF, bF] rfl rfl (take_ofW HT_.out HW_.out (by kernel_rfl)) (fun _ _ _ h => h) (Or.inl ⟨by rfl, ?_⟩) hHeld ?_ ?_
 rotate_left
 · rintro w' ⟨s0, s1, s2⟩
   go_simp
   with_reducible rfl
 rotate_left
 · simp only [Act.put, lA, lB, lC, i64_w, i32_w]
   rfl
 refine pure_ (i := 28) (N := some 93) (v := ?_) (a' := ?_) #[bT, bT, bT, bT, bT, bT, bT, bT, bT, bT, bT, bT, bT, bT, bT, bT, bT, bT, bT, bT, bT, bT, bT, bT, bT, bT, bT, bT, bT, bF, bF] rfl rfl (any_of HT_.out (by kernel_rfl)) (fun _ _ _ h => h) (Or.inl ⟨by rfl, ?_⟩) ?_ ?_
 rotate_left
 · intro w'
   go_simp
   with_reducible rfl
 rotate_left
 · simp only [Act.put, lA, lB, lC, i64_w, i32_w]
   rfl
 refine pure_ (i := 29) (N := some 94) (v := ?_) (a' := ?_) #[bT, bT, bT, bT, bT, bT, bT, bT, bT, bT, bT, bT, bT, bT, bT, bT, bT, bT, bT, bT, bT, bT, bT, bT, bT, bT, bT, bT, bT, bT, bF] rfl rfl (any_of HT_.out (by kernel_rfl)) (fun _ _ _ h => h) (Or.inl ⟨by rfl, ?_⟩) ?_ ?_
 rotate_left
 · intro w'
   go_simp
   with_reducible rfl
 rotate_left
 · simp only [Act.put, lA, lB, lC, i64_w, i32_w]
   rfl
 refine pure_ (i := 30) (N := some 95) (v := ?_) (a' := ?_) #[bT, bT, bT, bT, bT, bT, bT, bT, bT, bT, bT, bT, bT, bT, bT, bT, bT, bT, bT, bT, bT, bT, bT, bT, bT, bT, bT, bT, bT, bT, bT] rfl rfl (any_of HT_.out (by kernel_rfl)) (fun _ _ _ h => h) (Or.inl ⟨by rfl, ?_⟩) ?_ ?_
 rotate_left
 · intro w'
   go_simp
   with_reducible rfl
 rotate_left
 · simp only [Act.put, lA, lB, lC, i64_w, i32_w]
   rfl
 refine done_ (done_of HT_.out (by kernel_rfl)) ?_
 try go_wp2
 go_ret
 exact ⟨by first | rfl | (simp [errW_none, errW_some] <;> rfl) | (simp [*, errW_none, errW_some] <;> rfl), by repeat (first | (with_reducible first | exact HB.out | apply below_alloc | apply pw_below_drewN | apply below_drew1 | refine below_set ?_ GE132.out | refine below_set ?_ GE141.out | refine below_set ?_ GE144.out) | exact HB.out)⟩
end Go.Proofs.YtjpkcbkkjefekaaGreatDoor.PA
