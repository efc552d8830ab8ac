/- A part of the session's texts, laid small by the session's shrink.py. -/
import Derived.Test.YtjpkcbkkjefekaaGreatDoorPAx0
import Derived.Test.YtjpkcbkkjefekaaGreatDoorPAx5
import Derived.Test.YtjpkcbkkjefekaaGreatDoorPAx6
namespace Go.Proofs.YtjpkcbkkjefekaaGreatDoor.PA
open Go.RowKit Go.Proofs.YtjpkcbkkjefekaaGreatDoorW.PrintWords Go.Proofs.YtjpkcbkkjefekaaGreatDoorW.PrintLast Go.Proofs.YtjpkcbkkjefekaaGreatDoorW.PrintMore
attribute [local go_sem] max2_int min2_int max_two min_two max_three min_three max_four min_four
set_option linter.unusedVariables false
set_option linter.unusedSimpArgs false
mutual
def spec_l20Text.l0 : Nat → ByteArray → List (S48) → Int → Int → Option (ByteArray)
  | 0, _, _, _, _ => none
  | k + 1, x3, x14, x15, x16 => if x16 < x15 then (if 0 ≤ x16 then (if x16 < (x14.length : Int) then ((spec_l1Num.f k ((rd_T48 x14 x16).f0)).bind fun t173 => (if 6 + t173.size ≤ 9223372036854775807 then (if ((⟨#[98, 108, 111, 99, 107, 32]⟩ : ByteArray) ++ t173).size + 1 ≤ 9223372036854775807 then (if x3.size + (((⟨#[98, 108, 111, 99, 107, 32]⟩ : ByteArray) ++ t173) ++ (⟨#[10]⟩ : ByteArray)).size ≤ 9223372036854775807 then (spec_l20Text.l1 k (x3 ++ (((⟨#[98, 108, 111, 99, 107, 32]⟩ : ByteArray) ++ t173) ++ (⟨#[10]⟩ : ByteArray))) x14 x15 x16 ((rd_T48 x14 x16).f1) (((rd_T48 x14 x16).f1).length : Int) 0 ((rd_T48 x14 x16).f0) ((rd_T48 x14 x16).f1) ((rd_T48 x14 x16).f2) ((rd_T48 x14 x16).f3) ((rd_T48 x14 x16).f4)) else (none)) else (none)) else (none))) else (none)) else (none)) else (some x3)
def spec_l20Text.l1 : Nat → ByteArray → List (S48) → Int → Int → List (S52) → Int → Int → Int → List (S52) → Int → Int → List (S61) → Option (ByteArray)
  | 0, _, _, _, _, _, _, _, _, _, _, _, _ => none
  | k + 1, x3, x14, x15, x16, x28, x29, x30, x173000, x173001, x173002, x173003, x173004 => if x30 < x29 then (if 0 ≤ x30 then (if x30 < (x28.length : Int) then (if ((rd_T52 x28 x30).f0) = 1 then ((spec_NumText.f k ((rd_T52 x28 x30).f1)).bind fun t176 => (if 4 + t176.size ≤ 9223372036854775807 then (if ((⟨#[110, 117, 109, 32]⟩ : ByteArray) ++ t176).size + 1 ≤ 9223372036854775807 then (if x3.size + (((⟨#[110, 117, 109, 32]⟩ : ByteArray) ++ t176) ++ (⟨#[10]⟩ : ByteArray)).size ≤ 9223372036854775807 then (spec_l20Text.l1 k (x3 ++ (((⟨#[110, 117, 109, 32]⟩ : ByteArray) ++ t176) ++ (⟨#[10]⟩ : ByteArray))) x14 x15 x16 x28 x29 (wrap64 (x30 + 1)) x173000 x173001 x173002 x173003 x173004) else (none)) else (none)) else (none))) else ((spec_l20Word.f ((rd_T52 x28 x30).f0)).bind fun t177 => ((spec_l20List.f k t177 ((rd_T52 x28 x30).f2)).bind fun t178 => (if t178.size + 1 ≤ 9223372036854775807 then (if x3.size + (t178 ++ (⟨#[10]⟩ : ByteArray)).size ≤ 9223372036854775807 then (spec_l20Text.l1 k (x3 ++ (t178 ++ (⟨#[10]⟩ : ByteArray))) x14 x15 x16 x28 x29 (wrap64 (x30 + 1)) x173000 x173001 x173002 x173003 x173004) else (none)) else (none))))) else (none)) else (none)) else (if x173002 = 1 then ((spec_l1Num.f k x173003).bind fun t179 => (if 7 + t179.size ≤ 9223372036854775807 then (if ((⟨#[114, 101, 116, 117, 114, 110, 32]⟩ : ByteArray) ++ t179).size + 1 ≤ 9223372036854775807 then (if x3.size + (((⟨#[114, 101, 116, 117, 114, 110, 32]⟩ : ByteArray) ++ t179) ++ (⟨#[10]⟩ : ByteArray)).size ≤ 9223372036854775807 then (spec_l20Text.l0 k (x3 ++ (((⟨#[114, 101, 116, 117, 114, 110, 32]⟩ : ByteArray) ++ t179) ++ (⟨#[10]⟩ : ByteArray))) x14 x15 (wrap64 (x16 + 1))) else (none)) else (none)) else (none))) else (if x173002 = 2 then (if 0 < (x173004.length : Int) then ((spec_l20Jump.f k (⟨#[106, 117, 109, 112]⟩ : ByteArray) ((rd_T61 x173004 0).f0) ((rd_T61 x173004 0).f1)).bind fun t181 => (if t181.size + 1 ≤ 9223372036854775807 then (if x3.size + (t181 ++ (⟨#[10]⟩ : ByteArray)).size ≤ 9223372036854775807 then (spec_l20Text.l0 k (x3 ++ (t181 ++ (⟨#[10]⟩ : ByteArray))) x14 x15 (wrap64 (x16 + 1))) else (none)) else (none))) else (none)) else ((spec_l1Num.f k x173003).bind fun t182 => (if 7 + t182.size ≤ 9223372036854775807 then (if 0 < (x173004.length : Int) then ((spec_l20Jump.f k ((⟨#[98, 114, 97, 110, 99, 104, 32]⟩ : ByteArray) ++ t182) ((rd_T61 x173004 0).f0) ((rd_T61 x173004 0).f1)).bind fun t184 => (if t184.size + 2 ≤ 9223372036854775807 then (if 1 < (x173004.length : Int) then ((spec_l20Jump.f k (t184 ++ (⟨#[32, 124]⟩ : ByteArray)) ((rd_T61 x173004 1).f0) ((rd_T61 x173004 1).f1)).bind fun t186 => (if t186.size + 1 ≤ 9223372036854775807 then (if x3.size + (t186 ++ (⟨#[10]⟩ : ByteArray)).size ≤ 9223372036854775807 then (spec_l20Text.l0 k (x3 ++ (t186 ++ (⟨#[10]⟩ : ByteArray))) x14 x15 (wrap64 (x16 + 1))) else (none)) else (none))) else (none)) else (none))) else (none)) else (none)))))
end
def spec_l20Text.f (k : Nat) (a0_0 : Int) (l0_1 : List (S48)) : Option (ByteArray) := (spec_l1Num.f k a0_0).bind fun t170 => (if 5 + t170.size ≤ 9223372036854775807 then (if ((⟨#[102, 117, 110, 99, 32]⟩ : ByteArray) ++ t170).size + 1 ≤ 9223372036854775807 then (spec_l20Text.l0 k (((⟨#[102, 117, 110, 99, 32]⟩ : ByteArray) ++ t170) ++ (⟨#[10]⟩ : ByteArray)) l0_1 (l0_1.length : Int) 0) else (none)) else (none))
def spec_l20Text.T11 : Bool × List (List Nat × List Nat) := (true, [([], []), ([], []), ([1], [1]), ([2], [2]), ([], []), ([4], [4]), ([3, 5, 3], [3, 5]), ([6], [6]), ([0, 7], [0, 7]), ([8, 6, 0, 1, 2, 3, 4, 5, 6, 7, 8], [0, 8])])
def spec_l20Text.B11 : List Nat := [0, 0, 2, 6, 0, 16, 62, 126, 255, 511]
theorem spec_l20Text.tab11 : rtab .any (opsOf Tryz.f11 11) = spec_l20Text.T11 := by kernel_rfl
theorem spec_l20Text.bits11 : waitsOk spec_l20Text.T11.2 spec_l20Text.B11 = true := by kernel_rfl
def spec_l20Text.T14 : Bool × List (List Nat × List Nat) := (true, [([], []), ([], []), ([1], [1]), ([2], [2]), ([3], [3]), ([], []), ([5], [5]), ([6], [6]), ([7], [7]), ([4, 8, 3], [4, 8]), ([9], [9]), ([], []), ([11], [11]), ([12], [12]), ([13], [13]), ([10, 14, 9], [10, 14]), ([15], [15]), ([0, 16], [0, 16]), ([17, 15, 0, 1, 2, 3, 4, 5, 6, 7, 8, 9, 10, 11, 12, 13, 14, 15, 16, 17], [0, 17])])
def spec_l20Text.B14 : List Nat := [0, 0, 2, 6, 14, 0, 32, 96, 224, 510, 1022, 0, 2048, 6144, 14336, 32766, 65534, 131071, 262143]
theorem spec_l20Text.tab14 : rtab .any (opsOf Tryz.f11 14) = spec_l20Text.T14 := by kernel_rfl
theorem spec_l20Text.bits14 : waitsOk spec_l20Text.T14.2 spec_l20Text.B14 = true := by kernel_rfl
set_option maxHeartbeats 8000000 in
set_option maxRecDepth 100000 in
theorem spec_l20Text.calls (k : Nat) (a0_0 : Int) (A0_1 : Option Addr) (c0_1 : Nat) (l0_1 : List (S48)) (r : ByteArray) (w : World) (hr0_1 : Kd.C k48 w A0_1 l0_1.length l0_1) (hc0_1 : l0_1.length ≤ c0_1) (h : spec_l20Text.f k a0_0 l0_1 = some r) :
    Calls Tryz.prog 11 #[.agg #[.int .i64 a0_0, .slice A0_1 l0_1.length c0_1]] w fun e w' => e = .returned (.string r) ∧ Below w.heap.size w w' := by
 have hu30 := Tryz.underlying30
 have hu48 := Tryz.underlying48
 have hu52 := Tryz.underlying52
 have hu61 := Tryz.underlying61
 have HR0_1 := Aside0.mk hr0_1
 have HC0_1 := Aside0.mk hc0_1
 clear hr0_1 hc0_1
 have HB := Aside0.mk (Below.refl w.heap.size w)
 have H : ((spec_l1Num.f k a0_0).bind fun t170 => (if 5 + t170.size ≤ 9223372036854775807 then (if ((⟨#[102, 117, 110, 99, 32]⟩ : ByteArray) ++ t170).size + 1 ≤ 9223372036854775807 then (spec_l20Text.l0 k (((⟨#[102, 117, 110, 99, 32]⟩ : ByteArray) ++ t170) ++ (⟨#[10]⟩ : ByteArray)) l0_1 (l0_1.length : Int) 0) else (none)) else (none))) = some r := h
 clear h
 replace H := Option.bind_eq_some_iff.mp H
 obtain ⟨t170, A20, H⟩ := H
 replace H : (if 5 + t170.size ≤ 9223372036854775807 then (if ((⟨#[102, 117, 110, 99, 32]⟩ : ByteArray) ++ t170).size + 1 ≤ 9223372036854775807 then (spec_l20Text.l0 k (((⟨#[102, 117, 110, 99, 32]⟩ : ByteArray) ++ t170) ++ (⟨#[10]⟩ : ByteArray)) l0_1 (l0_1.length : Int) 0) else (none)) else (none)) = some r := H
 have A2 := Aside0.mk A20
 clear A20
 by_cases c3 : 5 + t170.size ≤ 9223372036854775807
 rotate_left
 · rw [if_neg c3] at H
   exact absurd H (by simp)
 rw [if_pos c3] at H
 have c3b0 := eq_true c3
 have c3b1 : decide (5 + t170.size ≤ 9223372036854775807) = true := decide_eq_true c3
 try have c3b2 : (9223372036854775807 < 5 + t170.size) = False := eq_false (Nat.not_lt.2 c3)
 by_cases c4 : ((⟨#[102, 117, 110, 99, 32]⟩ : ByteArray) ++ t170).size + 1 ≤ 9223372036854775807
 rotate_left
 · rw [if_neg c4] at H
   exact absurd H (by simp)
 rw [if_pos c4] at H
 have c4b0 := eq_true c4
 have c4b1 : decide (((⟨#[102, 117, 110, 99, 32]⟩ : ByteArray) ++ t170).size + 1 ≤ 9223372036854775807) = true := decide_eq_true c4
 try have c4b2 : (9223372036854775807 < ((⟨#[102, 117, 110, 99, 32]⟩ : ByteArray) ++ t170).size + 1) = False := eq_false (Nat.not_lt.2 c4)
 try have c4b9 : (9223372036854775807 < 5 + t170.size + 1) = False := eq_false (Nat.not_lt.2 (by have h := c4; simp only [ByteArray.size_append] at h; exact h))
 have H' := Aside0.mk H
 clear H
 go_enter Tryz.func11, Tryz.ntmps11
 go_wp2_with (first | ((with_reducible refine gate_dst (N := 1) rfl ?_); refine box_event ?hg (N := 1) ?hd (cs := #[.int .i64 a0_0, .slice A0_1 l0_1.length c0_1]) (t := 30) ?hr ?_; (case hd => rfl); (case hg => rfl); (case hr => first | (go_simp; done) | (go_simp; rfl)); intro gb169 hg w5 hbox hb; have n0_ := Aside0.mk (below_step (by repeat (first | (with_reducible first | exact HB.out | apply below_alloc | apply pw_below_drewN | apply below_drew1) | exact HB.out)) hb); have n1_ := Aside0.mk (hbox); have n2_ := Aside0.mk ((by rw [hg]; exact (below_size (by repeat (first | (with_reducible first | exact HB.out | apply below_alloc | apply pw_below_drewN | apply below_drew1) | exact HB.out))) : w.heap.size ≤ gb169)); have n3_ := n2_; clear HB; have HB := n0_; have BK169 := n1_; have GW169 := n2_; have GE169 := n3_; clear n0_ n1_ n2_ n3_; clear hb hbox hg; obtain ⟨hcz6_0, hcz6_1, hfz6_0, hfz6_1⟩ := blk2 BK169.out) | ((with_reducible refine gate_callee (f := 22) rfl ?_); refine goesL_ (some 10) rfl rfl Tryz.func22 (by kernel_rfl) rfl #[.int .i64 a0_0] rfl (by (try simp only [List.map_toArray, List.map_cons, List.map_nil]); first | done | rfl | (simp only [List.length_drop, List.length_take]; rfl)) ?_; (with_reducible refine (spec_l1Num.calls k a0_0 t170 _ A2.out).mono ?_); rintro e w7 ⟨rfl, hb⟩; refine ⟨_, rfl, ?_⟩; have n0_ := Aside0.mk (bB BK169.out hb); have n1_ := Aside0.mk (below_step (by repeat (first | (with_reducible first | exact HB.out | apply below_alloc | apply pw_below_drewN | apply below_drew1 | refine below_set ?_ GE169.out) | exact HB.out)) hb); clear BK169; clear HB; have BK169 := n0_; have HB := n1_; clear n0_ n1_; (try clear hb); (try clear hb2); (try clear hk); (try clear hi); obtain ⟨hcz8_0, hcz8_1, hfz8_0, hfz8_1⟩ := blk2 BK169.out))
 go_loopg [3, 16] k (fun kq v3 v16 w' => ∃ (x3_1 : ByteArray) (x16_1 : Int), v3 = .string x3_1 ∧ v16 = .int .i64 x16_1 ∧ Aside0 (spec_l20Text.l0 kq x3_1 l0_1 (l0_1.length : Int) x16_1 = some r) ∧ Aside0 (kq ≤ k) ∧ Aside0 (w'.heap[gb169]? = some (.cells #[.int .i64 a0_0, (.slice A0_1 l0_1.length c0_1)] 30 (0, 0))) ∧ Aside0 (Below w.heap.size w w'))
 case atStart => exact ⟨(((⟨#[102, 117, 110, 99, 32]⟩ : ByteArray) ++ t170) ++ (⟨#[10]⟩ : ByteArray)), (0), (by first | rfl | (simp; done) | (simp [*]; done)), (by first | rfl | (simp; done) | (simp [*]; done)), H', ⟨Nat.le_refl _⟩, ⟨by (with_reducible repeat (first | refine blk_drewN ?_ _ | refine blk_drew ?_ | refine blk_alloc ?_ _)); exact BK169.out⟩, ⟨by repeat (first | (with_reducible first | exact HB.out | apply below_alloc | apply pw_below_drewN | apply below_drew1 | refine below_set ?_ GE169.out) | exact HB.out)⟩⟩
 clear H'
 try clear c1
 try clear c2
 try clear p2
 try clear c3
 try clear c3b0
 try clear c3b1
 try clear c3b2
 try clear c4
 try clear c4b0
 try clear c4b1
 try clear c4b2
 try clear hcz6_0
 try clear hcz6_1
 try clear hcz8_0
 try clear hcz8_1
 try clear hfz6_0
 try clear hfz6_1
 try clear hfz8_0
 try clear hfz8_1
 obtain ⟨x3_1, x16_1, rfl, rfl, HA, HK1, BK169, HB⟩ := hrel
 rcases gk with _ | k1
 · exact absurd HA.out (by simp [spec_l20Text.l0])
 have H := HA.out
 clear HA
 simp only [spec_l20Text.l0] at H
 by_cases c9 : x16_1 < (l0_1.length : Int)
 rotate_left
 · rw [if_neg c9] at H
   have c9b0 : decide (x16_1 < (l0_1.length : Int)) = false := decide_eq_false c9
   clear c9
   obtain rfl := Option.some.inj H
   go_wp2
   go_ret
   exact ⟨by first | rfl | (simp [errW_none, errW_some] <;> rfl) | (simp [*, errW_none, errW_some] <;> rfl), by repeat (first | (with_reducible first | exact HB.out | apply below_alloc | apply pw_below_drewN | apply below_drew1 | refine below_set ?_ GE169.out) | exact HB.out)⟩
 rw [if_pos c9] at H
 have c9b0 : decide (x16_1 < (l0_1.length : Int)) = true := decide_eq_true c9
 clear c9
 by_cases c10 : 0 ≤ x16_1
 rotate_left
 · rw [if_neg c10] at H
   exact absurd H (by simp)
 rw [if_pos c10] at H
 have c10b0 : decide (0 ≤ x16_1) = true := decide_eq_true c10
 clear c10
 by_cases c11 : x16_1 < (l0_1.length : Int)
 rotate_left
 · rw [if_neg c11] at H
   exact absurd H (by simp)
 rw [if_pos c11] at H
 have c11b0 : decide (x16_1 < (l0_1.length : Int)) = true := decide_eq_true c11
 clear c11
 replace H := Option.bind_eq_some_iff.mp H
 obtain ⟨t173, A120, H⟩ := H
 replace H : (if 6 + t173.size ≤ 9223372036854775807 then (if ((⟨#[98, 108, 111, 99, 107, 32]⟩ : ByteArray) ++ t173).size + 1 ≤ 9223372036854775807 then (if x3_1.size + (((⟨#[98, 108, 111, 99, 107, 32]⟩ : ByteArray) ++ t173) ++ (⟨#[10]⟩ : ByteArray)).size ≤ 9223372036854775807 then (spec_l20Text.l1 k1 (x3_1 ++ (((⟨#[98, 108, 111, 99, 107, 32]⟩ : ByteArray) ++ t173) ++ (⟨#[10]⟩ : ByteArray))) l0_1 (l0_1.length : Int) x16_1 ((rd_T48 l0_1 x16_1).f1) (((rd_T48 l0_1 x16_1).f1).length : Int) 0 ((rd_T48 l0_1 x16_1).f0) ((rd_T48 l0_1 x16_1).f1) ((rd_T48 l0_1 x16_1).f2) ((rd_T48 l0_1 x16_1).f3) ((rd_T48 l0_1 x16_1).f4)) else (none)) else (none)) else (none)) = some r := H
 have A12 := Aside0.mk A120
 clear A120
 by_cases c13 : 6 + t173.size ≤ 9223372036854775807
 rotate_left
 · rw [if_neg c13] at H
   exact absurd H (by simp)
 rw [if_pos c13] at H
 have c13b0 := eq_true c13
 have c13b1 : decide (6 + t173.size ≤ 9223372036854775807) = true := decide_eq_true c13
 try have c13b2 : (9223372036854775807 < 6 + t173.size) = False := eq_false (Nat.not_lt.2 c13)
 by_cases c14 : ((⟨#[98, 108, 111, 99, 107, 32]⟩ : ByteArray) ++ t173).size + 1 ≤ 9223372036854775807
 rotate_left
 · rw [if_neg c14] at H
   exact absurd H (by simp)
 rw [if_pos c14] at H
 have c14b0 := eq_true c14
 have c14b1 : decide (((⟨#[98, 108, 111, 99, 107, 32]⟩ : ByteArray) ++ t173).size + 1 ≤ 9223372036854775807) = true := decide_eq_true c14
 try have c14b2 : (9223372036854775807 < ((⟨#[98, 108, 111, 99, 107, 32]⟩ : ByteArray) ++ t173).size + 1) = False := eq_false (Nat.not_lt.2 c14)
 try have c14b9 : (9223372036854775807 < 6 + t173.size + 1) = False := eq_false (Nat.not_lt.2 (by have h := c14; simp only [ByteArray.size_append] at h; exact h))
 by_cases c15 : x3_1.size + (((⟨#[98, 108, 111, 99, 107, 32]⟩ : ByteArray) ++ t173) ++ (⟨#[10]⟩ : ByteArray)).size ≤ 9223372036854775807
 rotate_left
 · rw [if_neg c15] at H
   exact absurd H (by simp)
 rw [if_pos c15] at H
 have c15b0 := eq_true c15
 have c15b1 : decide (x3_1.size + (((⟨#[98, 108, 111, 99, 107, 32]⟩ : ByteArray) ++ t173) ++ (⟨#[10]⟩ : ByteArray)).size ≤ 9223372036854775807) = true := decide_eq_true c15
 try have c15b2 : (9223372036854775807 < x3_1.size + (((⟨#[98, 108, 111, 99, 107, 32]⟩ : ByteArray) ++ t173) ++ (⟨#[10]⟩ : ByteArray)).size) = False := eq_false (Nat.not_lt.2 c15)
 try have c15b9 : (9223372036854775807 < x3_1.size + (6 + t173.size + 1)) = False := eq_false (Nat.not_lt.2 (by have h := c15; simp only [ByteArray.size_append] at h; exact h))
 have H' := Aside0.mk H
 clear H
 have p171 : 0 ≤ (x16_1 : Int) := of_decide_eq_true (by first | (with_reducible assumption) | assumption)
 have q171 : x16_1 < (l0_1.length : Int) := of_decide_eq_true (by first | (with_reducible assumption) | assumption)
 obtain ⟨ad171, A171_1, c171_1, A171_4, c171_4, e171, hx171_0, hx171_1, hx171_2, hx171_3, hx171_4, hl171_1, hi171_1, hl171_4, hi171_4⟩ := at_T48 HR0_1.out x16_1 p171 q171
 cases e171
 replace hx171_0 := cB HB.out hx171_0
 replace hx171_1 := cB HB.out hx171_1
 replace hx171_2 := cB HB.out hx171_2
 replace hx171_3 := cB HB.out hx171_3
 replace hx171_4 := cB HB.out hx171_4
 have HR171_1 := Aside0.mk hi171_1
 have HC171_1 := Aside0.mk hl171_1
 clear hi171_1 hl171_1
 have HR171_4 := Aside0.mk hi171_4
 have HC171_4 := Aside0.mk hl171_4
 clear hi171_4 hl171_4
 replace p171 := eq_true p171
 replace q171 := eq_true q171
 go_wp2_with (first | ((with_reducible refine gate_dst (N := 5) rfl ?_); refine box_event ?hg (N := 5) ?hd (cs := #[.int .i64 0, .slice none 0 0, .int .i64 0, .int .i64 0, .slice none 0 0]) (t := 48) ?hr ?_; (case hd => rfl); (case hg => rfl); (case hr => first | (go_simp; done) | (go_simp; rfl)); intro gb172 hg w16 hbox hb; have n0_ := Aside0.mk (bB BK169.out hb); have n1_ := Aside0.mk (below_step (by repeat (first | (with_reducible first | exact HB.out | apply below_alloc | apply pw_below_drewN | apply below_drew1 | refine below_set ?_ GE169.out) | exact HB.out)) hb); have n2_ := Aside0.mk (hbox); have n3_ := Aside0.mk ((by rw [hg]; exact (below_size (by repeat (first | (with_reducible first | exact HB.out | apply below_alloc | apply pw_below_drewN | apply below_drew1 | refine below_set ?_ GE169.out) | exact HB.out))) : w.heap.size ≤ gb172)); have n4_ := n3_; have n5_ := Aside0.mk ((by rw [hg]; exact Nat.ne_of_lt (blk_lt BK169.out) : gb169 ≠ gb172)); have n6_ := Aside0.mk ((by rw [hg]; exact Nat.ne_of_gt (blk_lt BK169.out) : gb172 ≠ gb169)); clear BK169; clear HB; have BK169 := n0_; have HB := n1_; have BK172 := n2_; have GW172 := n3_; have GE172 := n4_; have NB169_172 := n5_; have NB172_169 := n6_; clear n0_ n1_ n2_ n3_ n4_ n5_ n6_; clear hb hbox hg; have hnb17 := NB172_169.out; have hnc17 := NB169_172.out; obtain ⟨hcz18_0, hcz18_1, hcz18_2, hcz18_3, hcz18_4, hfz18_0, hfz18_1, hfz18_2, hfz18_3, hfz18_4⟩ := blk5 BK172.out) | ((with_reducible refine gate_callee (f := 22) rfl ?_); refine goesL_ (some 23) rfl rfl Tryz.func22 (by kernel_rfl) rfl #[.int .i64 ((rd_T48 l0_1 x16_1).f0)] rfl (by (try simp only [List.map_toArray, List.map_cons, List.map_nil]); first | done | rfl | (simp only [List.length_drop, List.length_take]; rfl)) ?_; (with_reducible refine (spec_l1Num.calls k1 ((rd_T48 l0_1 x16_1).f0) t173 _ A12.out).mono ?_); rintro e w19 ⟨rfl, hb⟩; refine ⟨_, rfl, ?_⟩; have n0_ := Aside0.mk (blk_below (g := gb169) (o := .cells #[.int .i64 a0_0, .slice (some ad171) l0_1.length c0_1] 30 (0, 0)) (by (with_reducible repeat (first | refine blk_drewN ?_ _ | refine blk_drew ?_ | refine blk_alloc ?_ _)); refine blk_far ?_ NB169_172.out _; (with_reducible repeat (first | refine blk_drewN ?_ _ | refine blk_drew ?_ | refine blk_alloc ?_ _)); refine blk_far ?_ NB169_172.out _; (with_reducible repeat (first | refine blk_drewN ?_ _ | refine blk_drew ?_ | refine blk_alloc ?_ _)); refine blk_far ?_ NB169_172.out _; (with_reducible repeat (first | refine blk_drewN ?_ _ | refine blk_drew ?_ | refine blk_alloc ?_ _)); refine blk_far ?_ NB169_172.out _; (with_reducible repeat (first | refine blk_drewN ?_ _ | refine blk_drew ?_ | refine blk_alloc ?_ _)); refine blk_far ?_ NB169_172.out _; (with_reducible repeat (first | refine blk_drewN ?_ _ | refine blk_drew ?_ | refine blk_alloc ?_ _)); exact BK169.out) hb); have n1_ := Aside0.mk (blk_below (g := gb172) (o := .cells #[.int .i64 ((rd_T48 l0_1 x16_1).f0), .slice A171_1 ((rd_T48 l0_1 x16_1).f1).length c171_1, .int .i64 ((rd_T48 l0_1 x16_1).f2), .int .i64 ((rd_T48 l0_1 x16_1).f3), .slice A171_4 ((rd_T48 l0_1 x16_1).f4).length c171_4] 48 (0, 0)) (by (with_reducible repeat (first | refine blk_drewN ?_ _ | refine blk_drew ?_ | refine blk_alloc ?_ _)); refine blk_put (cs := #[.int .i64 ((rd_T48 l0_1 x16_1).f0), .slice A171_1 ((rd_T48 l0_1 x16_1).f1).length c171_1, .int .i64 ((rd_T48 l0_1 x16_1).f2), .int .i64 ((rd_T48 l0_1 x16_1).f3), .slice none 0 0]) ?_ 4 _ rfl; (with_reducible repeat (first | refine blk_drewN ?_ _ | refine blk_drew ?_ | refine blk_alloc ?_ _)); refine blk_put (cs := #[.int .i64 ((rd_T48 l0_1 x16_1).f0), .slice A171_1 ((rd_T48 l0_1 x16_1).f1).length c171_1, .int .i64 ((rd_T48 l0_1 x16_1).f2), .int .i64 0, .slice none 0 0]) ?_ 3 _ rfl; (with_reducible repeat (first | refine blk_drewN ?_ _ | refine blk_drew ?_ | refine blk_alloc ?_ _)); refine blk_put (cs := #[.int .i64 ((rd_T48 l0_1 x16_1).f0), .slice A171_1 ((rd_T48 l0_1 x16_1).f1).length c171_1, .int .i64 0, .int .i64 0, .slice none 0 0]) ?_ 2 _ rfl; (with_reducible repeat (first | refine blk_drewN ?_ _ | refine blk_drew ?_ | refine blk_alloc ?_ _)); refine blk_put (cs := #[.int .i64 ((rd_T48 l0_1 x16_1).f0), .slice none 0 0, .int .i64 0, .int .i64 0, .slice none 0 0]) ?_ 1 _ rfl; (with_reducible repeat (first | refine blk_drewN ?_ _ | refine blk_drew ?_ | refine blk_alloc ?_ _)); refine blk_put (cs := #[.int .i64 0, .slice none 0 0, .int .i64 0, .int .i64 0, .slice none 0 0]) ?_ 0 _ rfl; (with_reducible repeat (first | refine blk_drewN ?_ _ | refine blk_drew ?_ | refine blk_alloc ?_ _)); exact BK172.out) hb); have n2_ := Aside0.mk (below_step (by repeat (first | (with_reducible first | exact HB.out | apply below_alloc | apply pw_below_drewN | apply below_drew1 | refine below_set ?_ GE169.out | refine below_set ?_ GE172.out) | exact HB.out)) hb); clear BK169; clear BK172; clear HB; have BK169 := n0_; have BK172 := n1_; have HB := n2_; clear n0_ n1_ n2_; (try clear hb); (try clear hb2); (try clear hk); (try clear hi); obtain ⟨hcz20_0, hcz20_1, hcz20_2, hcz20_3, hcz20_4, hfz20_0, hfz20_1, hfz20_2, hfz20_3, hfz20_4⟩ := blk5 BK172.out))
 go_loopg [3, 30] k1 (fun kq v3 v30 w' => ∃ (x3_2 : ByteArray) (x30_2 : Int), v3 = .string x3_2 ∧ v30 = .int .i64 x30_2 ∧ Aside0 (spec_l20Text.l1 kq x3_2 l0_1 (l0_1.length : Int) x16_1 ((rd_T48 l0_1 x16_1).f1) (((rd_T48 l0_1 x16_1).f1).length : Int) x30_2 ((rd_T48 l0_1 x16_1).f0) ((rd_T48 l0_1 x16_1).f1) ((rd_T48 l0_1 x16_1).f2) ((rd_T48 l0_1 x16_1).f3) ((rd_T48 l0_1 x16_1).f4) = some r) ∧ Aside0 (kq ≤ k1) ∧ Aside0 (w'.heap[gb169]? = some (.cells #[.int .i64 a0_0, (.slice (some ad171) l0_1.length c0_1)] 30 (0, 0))) ∧ Aside0 (w'.heap[gb172]? = some (.cells #[.int .i64 ((rd_T48 l0_1 x16_1).f0), (.slice A171_1 ((rd_T48 l0_1 x16_1).f1).length c171_1), .int .i64 ((rd_T48 l0_1 x16_1).f2), .int .i64 ((rd_T48 l0_1 x16_1).f3), (.slice A171_4 ((rd_T48 l0_1 x16_1).f4).length c171_4)] 48 (0, 0))) ∧ Aside0 (Below w.heap.size w w'))
 case atStart => exact ⟨(x3_1 ++ (((⟨#[98, 108, 111, 99, 107, 32]⟩ : ByteArray) ++ t173) ++ (⟨#[10]⟩ : ByteArray))), (0), (by first | rfl | (simp; done) | (simp [*]; done)), (by first | rfl | (simp; done) | (simp [*]; done)), H', ⟨Nat.le_refl _⟩, ⟨by (with_reducible repeat (first | refine blk_drewN ?_ _ | refine blk_drew ?_ | refine blk_alloc ?_ _)); exact BK169.out⟩, ⟨by (with_reducible repeat (first | refine blk_drewN ?_ _ | refine blk_drew ?_ | refine blk_alloc ?_ _)); exact BK172.out⟩, ⟨by repeat (first | (with_reducible first | exact HB.out | apply below_alloc | apply pw_below_drewN | apply below_drew1 | refine below_set ?_ GE169.out | refine below_set ?_ GE172.out) | exact HB.out)⟩⟩
 clear H'
 try clear c1
 try clear p1
 try clear q1
 try clear hx1
 try clear c2
 try clear p2
 try clear c3
 try clear c3b0
 try clear c3b1
 try clear c3b2
 try clear c4
 try clear c4b0
 try clear c4b1
 try clear c4b2
 try clear c9
 try clear c9b0
 try clear c10
 try clear c10b0
 try clear c11
 try clear c11b0
 try clear c13
 try clear c13b0
 try clear c13b1
 try clear c13b2
 try clear c14
 try clear c14b0
 try clear c14b1
 try clear c14b2
 try clear c15
 try clear c15b0
 try clear c15b1
 try clear c15b2
 try clear c17
 try clear p17
 try clear q17
 try clear hx17
 try clear hcz18_0
 try clear hcz18_1
 try clear hcz18_2
 try clear hcz18_3
 try clear hcz18_4
 try clear hcz20_0
 try clear hcz20_1
 try clear hcz20_2
 try clear hcz20_3
 try clear hcz20_4
 try clear hcz6_0
 try clear hcz6_1
 try clear hcz8_0
 try clear hcz8_1
 try clear hfz18_0
 try clear hfz18_1
 try clear hfz18_2
 try clear hfz18_3
 try clear hfz18_4
 try clear hfz20_0
 try clear hfz20_1
 try clear hfz20_2
 try clear hfz20_3
 try clear hfz20_4
 try clear hfz6_0
 try clear hfz6_1
 try clear hfz8_0
 try clear hfz8_1
 try clear hx171_0
 try clear hx171_1
 try clear hx171_2
 try clear hx171_3
 try clear hx171_4
 try clear p171
 try clear p2
 try clear q171
 obtain ⟨x3_2, x30_2, rfl, rfl, HA, HK2, BK169, BK172, HB⟩ := hrel
 rcases gk with _ | k2
 · exact absurd HA.out (by simp [spec_l20Text.l1])
 have H := HA.out
 clear HA
 simp only [spec_l20Text.l1] at H
 by_cases c21 : x30_2 < (((rd_T48 l0_1 x16_1).f1).length : Int)
 · rw [if_pos c21] at H
   have c21b0 : decide (x30_2 < (((rd_T48 l0_1 x16_1).f1).length : Int)) = true := decide_eq_true c21
   clear c21
   by_cases c22 : 0 ≤ x30_2
   rotate_left
   · rw [if_neg c22] at H
     exact absurd H (by simp)
   rw [if_pos c22] at H
   have c22b0 : decide (0 ≤ x30_2) = true := decide_eq_true c22
   clear c22
   by_cases c23 : x30_2 < (((rd_T48 l0_1 x16_1).f1).length : Int)
   rotate_left
   · rw [if_neg c23] at H
     exact absurd H (by simp)
   rw [if_pos c23] at H
   have c23b0 : decide (x30_2 < (((rd_T48 l0_1 x16_1).f1).length : Int)) = true := decide_eq_true c23
   clear c23
   by_cases c24 : ((rd_T52 ((rd_T48 l0_1 x16_1).f1) x30_2).f0) = 1
   · rw [if_pos c24] at H
     have c24b0 : (((rd_T52 ((rd_T48 l0_1 x16_1).f1) x30_2).f0) == 1) = true := beq_iff_eq.mpr c24
     have c24b1 : (((rd_T52 ((rd_T48 l0_1 x16_1).f1) x30_2).f0) != 1) = false := bne_eq_false_iff_eq.mpr c24
     clear c24
     replace H := Option.bind_eq_some_iff.mp H
     obtain ⟨t176, A250, H⟩ := H
     replace H : (if 4 + t176.size ≤ 9223372036854775807 then (if ((⟨#[110, 117, 109, 32]⟩ : ByteArray) ++ t176).size + 1 ≤ 9223372036854775807 then (if x3_2.size + (((⟨#[110, 117, 109, 32]⟩ : ByteArray) ++ t176) ++ (⟨#[10]⟩ : ByteArray)).size ≤ 9223372036854775807 then (spec_l20Text.l1 k2 (x3_2 ++ (((⟨#[110, 117, 109, 32]⟩ : ByteArray) ++ t176) ++ (⟨#[10]⟩ : ByteArray))) l0_1 (l0_1.length : Int) x16_1 ((rd_T48 l0_1 x16_1).f1) (((rd_T48 l0_1 x16_1).f1).length : Int) (wrap64 (x30_2 + 1)) ((rd_T48 l0_1 x16_1).f0) ((rd_T48 l0_1 x16_1).f1) ((rd_T48 l0_1 x16_1).f2) ((rd_T48 l0_1 x16_1).f3) ((rd_T48 l0_1 x16_1).f4)) else (none)) else (none)) else (none)) = some r := H
     have A25 := Aside0.mk A250
     clear A250
     by_cases c26 : 4 + t176.size ≤ 9223372036854775807
     rotate_left
     · rw [if_neg c26] at H
       exact absurd H (by simp)
     rw [if_pos c26] at H
     have c26b0 := eq_true c26
     have c26b1 : decide (4 + t176.size ≤ 9223372036854775807) = true := decide_eq_true c26
     try have c26b2 : (9223372036854775807 < 4 + t176.size) = False := eq_false (Nat.not_lt.2 c26)
     by_cases c27 : ((⟨#[110, 117, 109, 32]⟩ : ByteArray) ++ t176).size + 1 ≤ 9223372036854775807
     rotate_left
     · rw [if_neg c27] at H
       exact absurd H (by simp)
     rw [if_pos c27] at H
     have c27b0 := eq_true c27
     have c27b1 : decide (((⟨#[110, 117, 109, 32]⟩ : ByteArray) ++ t176).size + 1 ≤ 9223372036854775807) = true := decide_eq_true c27
     try have c27b2 : (9223372036854775807 < ((⟨#[110, 117, 109, 32]⟩ : ByteArray) ++ t176).size + 1) = False := eq_false (Nat.not_lt.2 c27)
     try have c27b9 : (9223372036854775807 < 4 + t176.size + 1) = False := eq_false (Nat.not_lt.2 (by have h := c27; simp only [ByteArray.size_append] at h; exact h))
     by_cases c28 : x3_2.size + (((⟨#[110, 117, 109, 32]⟩ : ByteArray) ++ t176) ++ (⟨#[10]⟩ : ByteArray)).size ≤ 9223372036854775807
     rotate_left
     · rw [if_neg c28] at H
       exact absurd H (by simp)
     rw [if_pos c28] at H
     have c28b0 := eq_true c28
     have c28b1 : decide (x3_2.size + (((⟨#[110, 117, 109, 32]⟩ : ByteArray) ++ t176) ++ (⟨#[10]⟩ : ByteArray)).size ≤ 9223372036854775807) = true := decide_eq_true c28
     try have c28b2 : (9223372036854775807 < x3_2.size + (((⟨#[110, 117, 109, 32]⟩ : ByteArray) ++ t176) ++ (⟨#[10]⟩ : ByteArray)).size) = False := eq_false (Nat.not_lt.2 c28)
     try have c28b9 : (9223372036854775807 < x3_2.size + (4 + t176.size + 1)) = False := eq_false (Nat.not_lt.2 (by have h := c28; simp only [ByteArray.size_append] at h; exact h))
     have H' := Aside0.mk H
     clear H
     have p174 : 0 ≤ (x30_2 : Int) := of_decide_eq_true (by first | (with_reducible assumption) | assumption)
     have q174 : x30_2 < (((rd_T48 l0_1 x16_1).f1).length : Int) := of_decide_eq_true (by first | (with_reducible assumption) | assumption)
     obtain ⟨ad174, A174_2, c174_2, e174, hx174_0, hx174_1, hx174_2, hl174_2, hi174_2⟩ := at_T52 HR171_1.out x30_2 p174 q174
     cases e174
     replace hx174_0 := cB HB.out hx174_0
     replace hx174_1 := cB HB.out hx174_1
     replace hx174_2 := cB HB.out hx174_2
     have HR174_2 := Aside0.mk hi174_2
     have HC174_2 := Aside0.mk hl174_2
     clear hi174_2 hl174_2
     replace p174 := eq_true p174
     replace q174 := eq_true q174
     go_wp2_with (first | ((with_reducible refine gate_dst (N := 7) rfl ?_); refine box_event ?hg (N := 7) ?hd (cs := #[.int .i64 0, .int .i64 0, .slice none 0 0]) (t := 52) ?hr ?_; (case hd => rfl); (case hg => rfl); (case hr => first | (go_simp; done) | (go_simp; rfl)); intro gb175 hg w29 hbox hb; have n0_ := Aside0.mk (bB BK169.out hb); have n1_ := Aside0.mk (bB BK172.out hb); have n2_ := Aside0.mk (below_step (by repeat (first | (with_reducible first | exact HB.out | apply below_alloc | apply pw_below_drewN | apply below_drew1 | refine below_set ?_ GE169.out | refine below_set ?_ GE172.out) | exact HB.out)) hb); have n3_ := Aside0.mk (hbox); have n4_ := Aside0.mk ((by rw [hg]; exact (below_size (by repeat (first | (with_reducible first | exact HB.out | apply below_alloc | apply pw_below_drewN | apply below_drew1 | refine below_set ?_ GE169.out | refine below_set ?_ GE172.out) | exact HB.out))) : w.heap.size ≤ gb175)); have n5_ := n4_; have n6_ := Aside0.mk ((by rw [hg]; exact Nat.ne_of_lt (blk_lt BK169.out) : gb169 ≠ gb175)); have n7_ := Aside0.mk ((by rw [hg]; exact Nat.ne_of_gt (blk_lt BK169.out) : gb175 ≠ gb169)); have n8_ := Aside0.mk ((by rw [hg]; exact Nat.ne_of_lt (blk_lt BK172.out) : gb172 ≠ gb175)); have n9_ := Aside0.mk ((by rw [hg]; exact Nat.ne_of_gt (blk_lt BK172.out) : gb175 ≠ gb172)); clear BK169; clear BK172; clear HB; have BK169 := n0_; have BK172 := n1_; have HB := n2_; have BK175 := n3_; have GW175 := n4_; have GE175 := n5_; have NB169_175 := n6_; have NB175_169 := n7_; have NB172_175 := n8_; have NB175_172 := n9_; clear n0_ n1_ n2_ n3_ n4_ n5_ n6_ n7_ n8_ n9_; clear hb hbox hg; have hnb30 := NB175_169.out; have hnc30 := NB169_175.out; have hnb31 := NB175_172.out; have hnc31 := NB172_175.out; obtain ⟨hcz32_0, hcz32_1, hcz32_2, hfz32_0, hfz32_1, hfz32_2⟩ := blk3 BK175.out) | ((with_reducible refine gate_callee (f := 23) rfl ?_); refine goesL_ (some 40) rfl rfl Tryz.func23 (by kernel_rfl) rfl #[.int .i64 ((rd_T52 ((rd_T48 l0_1 x16_1).f1) x30_2).f1)] rfl (by (try simp only [List.map_toArray, List.map_cons, List.map_nil]); first | done | rfl | (simp only [List.length_drop, List.length_take]; rfl)) ?_; (with_reducible refine (spec_NumText.calls k2 ((rd_T52 ((rd_T48 l0_1 x16_1).f1) x30_2).f1) t176 _ A25.out).mono ?_); rintro e w33 ⟨rfl, hb⟩; refine ⟨_, rfl, ?_⟩; have n0_ := Aside0.mk (blk_below (g := gb169) (o := .cells #[.int .i64 a0_0, .slice (some ad171) l0_1.length c0_1] 30 (0, 0)) (by (with_reducible repeat (first | refine blk_drewN ?_ _ | refine blk_drew ?_ | refine blk_alloc ?_ _)); refine blk_far ?_ NB169_175.out _; (with_reducible repeat (first | refine blk_drewN ?_ _ | refine blk_drew ?_ | refine blk_alloc ?_ _)); refine blk_far ?_ NB169_175.out _; (with_reducible repeat (first | refine blk_drewN ?_ _ | refine blk_drew ?_ | refine blk_alloc ?_ _)); refine blk_far ?_ NB169_175.out _; (with_reducible repeat (first | refine blk_drewN ?_ _ | refine blk_drew ?_ | refine blk_alloc ?_ _)); exact BK169.out) hb); have n1_ := Aside0.mk (blk_below (g := gb172) (o := .cells #[.int .i64 ((rd_T48 l0_1 x16_1).f0), .slice (some ad174) ((rd_T48 l0_1 x16_1).f1).length c171_1, .int .i64 ((rd_T48 l0_1 x16_1).f2), .int .i64 ((rd_T48 l0_1 x16_1).f3), .slice A171_4 ((rd_T48 l0_1 x16_1).f4).length c171_4] 48 (0, 0)) (by (with_reducible repeat (first | refine blk_drewN ?_ _ | refine blk_drew ?_ | refine blk_alloc ?_ _)); refine blk_far ?_ NB172_175.out _; (with_reducible repeat (first | refine blk_drewN ?_ _ | refine blk_drew ?_ | refine blk_alloc ?_ _)); refine blk_far ?_ NB172_175.out _; (with_reducible repeat (first | refine blk_drewN ?_ _ | refine blk_drew ?_ | refine blk_alloc ?_ _)); refine blk_far ?_ NB172_175.out _; (with_reducible repeat (first | refine blk_drewN ?_ _ | refine blk_drew ?_ | refine blk_alloc ?_ _)); exact BK172.out) hb); have n2_ := Aside0.mk (blk_below (g := gb175) (o := .cells #[.int .i64 ((rd_T52 ((rd_T48 l0_1 x16_1).f1) x30_2).f0), .int .i64 ((rd_T52 ((rd_T48 l0_1 x16_1).f1) x30_2).f1), .slice A174_2 ((rd_T52 ((rd_T48 l0_1 x16_1).f1) x30_2).f2).length c174_2] 52 (0, 0)) (by (with_reducible repeat (first | refine blk_drewN ?_ _ | refine blk_drew ?_ | refine blk_alloc ?_ _)); refine blk_put (cs := #[.int .i64 ((rd_T52 ((rd_T48 l0_1 x16_1).f1) x30_2).f0), .int .i64 ((rd_T52 ((rd_T48 l0_1 x16_1).f1) x30_2).f1), .slice none 0 0]) ?_ 2 _ rfl; (with_reducible repeat (first | refine blk_drewN ?_ _ | refine blk_drew ?_ | refine blk_alloc ?_ _)); refine blk_put (cs := #[.int .i64 ((rd_T52 ((rd_T48 l0_1 x16_1).f1) x30_2).f0), .int .i64 0, .slice none 0 0]) ?_ 1 _ rfl; (with_reducible repeat (first | refine blk_drewN ?_ _ | refine blk_drew ?_ | refine blk_alloc ?_ _)); refine blk_put (cs := #[.int .i64 0, .int .i64 0, .slice none 0 0]) ?_ 0 _ rfl; (with_reducible repeat (first | refine blk_drewN ?_ _ | refine blk_drew ?_ | refine blk_alloc ?_ _)); exact BK175.out) hb); have n3_ := Aside0.mk (below_step (by repeat (first | (with_reducible first | exact HB.out | apply below_alloc | apply pw_below_drewN | apply below_drew1 | refine below_set ?_ GE169.out | refine below_set ?_ GE172.out | refine below_set ?_ GE175.out) | exact HB.out)) hb); clear BK169; clear BK172; clear BK175; clear HB; have BK169 := n0_; have BK172 := n1_; have BK175 := n2_; have HB := n3_; clear n0_ n1_ n2_ n3_; (try clear hb); (try clear hb2); (try clear hk); (try clear hi)))
     go_roundg k2
     case measure => have := HK1.out; have := HK2.out; omega
     exact ⟨(x3_2 ++ (((⟨#[110, 117, 109, 32]⟩ : ByteArray) ++ t176) ++ (⟨#[10]⟩ : ByteArray))), (wrap64 (x30_2 + 1)), (by first | rfl | (simp; done) | (simp [*]; done)), (by first | rfl | (simp; done) | (simp [*]; done)), H', ⟨by have := HK1.out; have := HK2.out; omega⟩, ⟨by (with_reducible repeat (first | refine blk_drewN ?_ _ | refine blk_drew ?_ | refine blk_alloc ?_ _)); exact BK169.out⟩, ⟨by (with_reducible repeat (first | refine blk_drewN ?_ _ | refine blk_drew ?_ | refine blk_alloc ?_ _)); exact BK172.out⟩, ⟨by repeat (first | (with_reducible first | exact HB.out | apply below_alloc | apply pw_below_drewN | apply below_drew1 | refine below_set ?_ GE169.out | refine below_set ?_ GE172.out | refine below_set ?_ GE175.out) | exact HB.out)⟩⟩
   rw [if_neg c24] at H
   have c24b0 : (((rd_T52 ((rd_T48 l0_1 x16_1).f1) x30_2).f0) == 1) = false := beq_eq_false_iff_ne.mpr c24
   have c24b1 : (((rd_T52 ((rd_T48 l0_1 x16_1).f1) x30_2).f0) != 1) = true := bne_iff_ne.mpr c24
   replace H := Option.bind_eq_some_iff.mp H
   obtain ⟨t177, A340, H⟩ := H
   replace H : ((spec_l20List.f k2 t177 ((rd_T52 ((rd_T48 l0_1 x16_1).f1) x30_2).f2)).bind fun t178 => (if t178.size + 1 ≤ 9223372036854775807 then (if x3_2.size + (t178 ++ (⟨#[10]⟩ : ByteArray)).size ≤ 9223372036854775807 then (spec_l20Text.l1 k2 (x3_2 ++ (t178 ++ (⟨#[10]⟩ : ByteArray))) l0_1 (l0_1.length : Int) x16_1 ((rd_T48 l0_1 x16_1).f1) (((rd_T48 l0_1 x16_1).f1).length : Int) (wrap64 (x30_2 + 1)) ((rd_T48 l0_1 x16_1).f0) ((rd_T48 l0_1 x16_1).f1) ((rd_T48 l0_1 x16_1).f2) ((rd_T48 l0_1 x16_1).f3) ((rd_T48 l0_1 x16_1).f4)) else (none)) else (none))) = some r := H
   have A34 := Aside0.mk A340
   clear A340
   replace H := Option.bind_eq_some_iff.mp H
   obtain ⟨t178, A350, H⟩ := H
   replace H : (if t178.size + 1 ≤ 9223372036854775807 then (if x3_2.size + (t178 ++ (⟨#[10]⟩ : ByteArray)).size ≤ 9223372036854775807 then (spec_l20Text.l1 k2 (x3_2 ++ (t178 ++ (⟨#[10]⟩ : ByteArray))) l0_1 (l0_1.length : Int) x16_1 ((rd_T48 l0_1 x16_1).f1) (((rd_T48 l0_1 x16_1).f1).length : Int) (wrap64 (x30_2 + 1)) ((rd_T48 l0_1 x16_1).f0) ((rd_T48 l0_1 x16_1).f1) ((rd_T48 l0_1 x16_1).f2) ((rd_T48 l0_1 x16_1).f3) ((rd_T48 l0_1 x16_1).f4)) else (none)) else (none)) = some r := H
   have A35 := Aside0.mk A350
   clear A350
   by_cases c36 : t178.size + 1 ≤ 9223372036854775807
   rotate_left
   · rw [if_neg c36] at H
     exact absurd H (by simp)
   rw [if_pos c36] at H
   have c36b0 := eq_true c36
   have c36b1 : decide (t178.size + 1 ≤ 9223372036854775807) = true := decide_eq_true c36
   try have c36b2 : (9223372036854775807 < t178.size + 1) = False := eq_false (Nat.not_lt.2 c36)
   by_cases c37 : x3_2.size + (t178 ++ (⟨#[10]⟩ : ByteArray)).size ≤ 9223372036854775807
   rotate_left
   · rw [if_neg c37] at H
     exact absurd H (by simp)
   rw [if_pos c37] at H
   have c37b0 := eq_true c37
   have c37b1 : decide (x3_2.size + (t178 ++ (⟨#[10]⟩ : ByteArray)).size ≤ 9223372036854775807) = true := decide_eq_true c37
   try have c37b2 : (9223372036854775807 < x3_2.size + (t178 ++ (⟨#[10]⟩ : ByteArray)).size) = False := eq_false (Nat.not_lt.2 c37)
   try have c37b9 : (9223372036854775807 < x3_2.size + (t178.size + 1)) = False := eq_false (Nat.not_lt.2 (by have h := c37; simp only [ByteArray.size_append] at h; exact h))
   have H' := Aside0.mk H
   clear H
   have p174 : 0 ≤ (x30_2 : Int) := of_decide_eq_true (by first | (with_reducible assumption) | assumption)
   have q174 : x30_2 < (((rd_T48 l0_1 x16_1).f1).length : Int) := of_decide_eq_true (by first | (with_reducible assumption) | assumption)
   obtain ⟨ad174, A174_2, c174_2, e174, hx174_0, hx174_1, hx174_2, hl174_2, hi174_2⟩ := at_T52 HR171_1.out x30_2 p174 q174
   cases e174
   replace hx174_0 := cB HB.out hx174_0
   replace hx174_1 := cB HB.out hx174_1
   replace hx174_2 := cB HB.out hx174_2
   have HR174_2 := Aside0.mk hi174_2
   have HC174_2 := Aside0.mk hl174_2
   clear hi174_2 hl174_2
   replace p174 := eq_true p174
   replace q174 := eq_true q174
   try go_wp2_with (first | ((with_reducible refine gate_dst (N := 7) rfl ?_); refine box_event ?hg (N := 7) ?hd (cs := #[.int .i64 0, .int .i64 0, .slice none 0 0]) (t := 52) ?hr ?_; (case hd => rfl); (case hg => rfl); (case hr => first | (go_simp; done) | (go_simp; rfl)); intro gb175 hg w38 hbox hb; have n0_ := Aside0.mk (bB BK169.out hb); have n1_ := Aside0.mk (bB BK172.out hb); have n2_ := Aside0.mk (below_step (by repeat (first | (with_reducible first | exact HB.out | apply below_alloc | apply pw_below_drewN | apply below_drew1 | refine below_set ?_ GE169.out | refine below_set ?_ GE172.out) | exact HB.out)) hb); have n3_ := Aside0.mk (hbox); have n4_ := Aside0.mk ((by rw [hg]; exact (below_size (by repeat (first | (with_reducible first | exact HB.out | apply below_alloc | apply pw_below_drewN | apply below_drew1 | refine below_set ?_ GE169.out | refine below_set ?_ GE172.out) | exact HB.out))) : w.heap.size ≤ gb175)); have n5_ := n4_; have n6_ := Aside0.mk ((by rw [hg]; exact Nat.ne_of_lt (blk_lt BK169.out) : gb169 ≠ gb175)); have n7_ := Aside0.mk ((by rw [hg]; exact Nat.ne_of_gt (blk_lt BK169.out) : gb175 ≠ gb169)); have n8_ := Aside0.mk ((by rw [hg]; exact Nat.ne_of_lt (blk_lt BK172.out) : gb172 ≠ gb175)); have n9_ := Aside0.mk ((by rw [hg]; exact Nat.ne_of_gt (blk_lt BK172.out) : gb175 ≠ gb172)); clear BK169; clear BK172; clear HB; have BK169 := n0_; have BK172 := n1_; have HB := n2_; have BK175 := n3_; have GW175 := n4_; have GE175 := n5_; have NB169_175 := n6_; have NB175_169 := n7_; have NB172_175 := n8_; have NB175_172 := n9_; clear n0_ n1_ n2_ n3_ n4_ n5_ n6_ n7_ n8_ n9_; clear hb hbox hg; have hnb39 := NB175_169.out; have hnc39 := NB169_175.out; have hnb40 := NB175_172.out; have hnc40 := NB172_175.out; obtain ⟨hcz41_0, hcz41_1, hcz41_2, hfz41_0, hfz41_1, hfz41_2⟩ := blk3 BK175.out))
   have n0_ : Aside0 ((((w38.setCell ⟨gb175, 0, none⟩ (.int .i64 ((rd_T52 ((rd_T48 l0_1 x16_1).f1) x30_2).f0))).setCell ⟨gb175, 1, none⟩ (.int .i64 ((rd_T52 ((rd_T48 l0_1 x16_1).f1) x30_2).f1))).setCell ⟨gb175, 2, none⟩ (.slice A174_2 ((rd_T52 ((rd_T48 l0_1 x16_1).f1) x30_2).f2).length c174_2)).heap[gb169]? = some (.cells #[.int .i64 a0_0, .slice (some ad171) l0_1.length c0_1] 30 (0, 0))) := ⟨by (with_reducible repeat (first | refine blk_drewN ?_ _ | refine blk_drew ?_ | refine blk_alloc ?_ _)); refine blk_far ?_ NB169_175.out _; (with_reducible repeat (first | refine blk_drewN ?_ _ | refine blk_drew ?_ | refine blk_alloc ?_ _)); refine blk_far ?_ NB169_175.out _; (with_reducible repeat (first | refine blk_drewN ?_ _ | refine blk_drew ?_ | refine blk_alloc ?_ _)); refine blk_far ?_ NB169_175.out _; (with_reducible repeat (first | refine blk_drewN ?_ _ | refine blk_drew ?_ | refine blk_alloc ?_ _)); exact BK169.out⟩
   have n1_ : Aside0 ((((w38.setCell ⟨gb175, 0, none⟩ (.int .i64 ((rd_T52 ((rd_T48 l0_1 x16_1).f1) x30_2).f0))).setCell ⟨gb175, 1, none⟩ (.int .i64 ((rd_T52 ((rd_T48 l0_1 x16_1).f1) x30_2).f1))).setCell ⟨gb175, 2, none⟩ (.slice A174_2 ((rd_T52 ((rd_T48 l0_1 x16_1).f1) x30_2).f2).length c174_2)).heap[gb172]? = some (.cells #[.int .i64 ((rd_T48 l0_1 x16_1).f0), .slice (some ad174) ((rd_T48 l0_1 x16_1).f1).length c171_1, .int .i64 ((rd_T48 l0_1 x16_1).f2), .int .i64 ((rd_T48 l0_1 x16_1).f3), .slice A171_4 ((rd_T48 l0_1 x16_1).f4).length c171_4] 48 (0, 0))) := ⟨by (with_reducible repeat (first | refine blk_drewN ?_ _ | refine blk_drew ?_ | refine blk_alloc ?_ _)); refine blk_far ?_ NB172_175.out _; (with_reducible repeat (first | refine blk_drewN ?_ _ | refine blk_drew ?_ | refine blk_alloc ?_ _)); refine blk_far ?_ NB172_175.out _; (with_reducible repeat (first | refine blk_drewN ?_ _ | refine blk_drew ?_ | refine blk_alloc ?_ _)); refine blk_far ?_ NB172_175.out _; (with_reducible repeat (first | refine blk_drewN ?_ _ | refine blk_drew ?_ | refine blk_alloc ?_ _)); exact BK172.out⟩
   have n2_ : Aside0 ((((w38.setCell ⟨gb175, 0, none⟩ (.int .i64 ((rd_T52 ((rd_T48 l0_1 x16_1).f1) x30_2).f0))).setCell ⟨gb175, 1, none⟩ (.int .i64 ((rd_T52 ((rd_T48 l0_1 x16_1).f1) x30_2).f1))).setCell ⟨gb175, 2, none⟩ (.slice A174_2 ((rd_T52 ((rd_T48 l0_1 x16_1).f1) x30_2).f2).length c174_2)).heap[gb175]? = some (.cells #[.int .i64 ((rd_T52 ((rd_T48 l0_1 x16_1).f1) x30_2).f0), .int .i64 ((rd_T52 ((rd_T48 l0_1 x16_1).f1) x30_2).f1), .slice A174_2 ((rd_T52 ((rd_T48 l0_1 x16_1).f1) x30_2).f2).length c174_2] 52 (0, 0))) := ⟨by (with_reducible repeat (first | refine blk_drewN ?_ _ | refine blk_drew ?_ | refine blk_alloc ?_ _)); refine blk_put (cs := #[.int .i64 ((rd_T52 ((rd_T48 l0_1 x16_1).f1) x30_2).f0), .int .i64 ((rd_T52 ((rd_T48 l0_1 x16_1).f1) x30_2).f1), .slice none 0 0]) ?_ 2 _ rfl; (with_reducible repeat (first | refine blk_drewN ?_ _ | refine blk_drew ?_ | refine blk_alloc ?_ _)); refine blk_put (cs := #[.int .i64 ((rd_T52 ((rd_T48 l0_1 x16_1).f1) x30_2).f0), .int .i64 0, .slice none 0 0]) ?_ 1 _ rfl; (with_reducible repeat (first | refine blk_drewN ?_ _ | refine blk_drew ?_ | refine blk_alloc ?_ _)); refine blk_put (cs := #[.int .i64 0, .int .i64 0, .slice none 0 0]) ?_ 0 _ rfl; (with_reducible repeat (first | refine blk_drewN ?_ _ | refine blk_drew ?_ | refine blk_alloc ?_ _)); exact BK175.out⟩
   have n3_ : Aside0 (Below w.heap.size w (((w38.setCell ⟨gb175, 0, none⟩ (.int .i64 ((rd_T52 ((rd_T48 l0_1 x16_1).f1) x30_2).f0))).setCell ⟨gb175, 1, none⟩ (.int .i64 ((rd_T52 ((rd_T48 l0_1 x16_1).f1) x30_2).f1))).setCell ⟨gb175, 2, none⟩ (.slice A174_2 ((rd_T52 ((rd_T48 l0_1 x16_1).f1) x30_2).f2).length c174_2))) := ⟨by repeat (first | (with_reducible first | exact HB.out | apply below_alloc | apply pw_below_drewN | apply below_drew1 | refine below_set ?_ GE169.out | refine below_set ?_ GE172.out | refine below_set ?_ GE175.out) | exact HB.out)⟩
   (try clear BK169)
   (try clear BK172)
   (try clear BK175)
   (try clear HB)
   generalize (((w38.setCell ⟨gb175, 0, none⟩ (.int .i64 ((rd_T52 ((rd_T48 l0_1 x16_1).f1) x30_2).f0))).setCell ⟨gb175, 1, none⟩ (.int .i64 ((rd_T52 ((rd_T48 l0_1 x16_1).f1) x30_2).f1))).setCell ⟨gb175, 2, none⟩ (.slice A174_2 ((rd_T52 ((rd_T48 l0_1 x16_1).f1) x30_2).f2).length c174_2)) = w42 at n0_ n1_ n2_ n3_ ⊢
   have BK169 := n0_
   have BK172 := n1_
   have BK175 := n2_
   have HB := n3_
   clear n0_ n1_ n2_ n3_
   have n0_ := Aside0.mk (blk_drew BK169.out)
   have n1_ := Aside0.mk (blk_drew BK172.out)
   have n2_ := Aside0.mk (blk_drew BK175.out)
   have n3_ := Aside0.mk (below_drew1 HB.out)
   clear BK169
   clear BK172
   clear BK175
   clear HB
   have BK169 := n0_
   have BK172 := n1_
   have BK175 := n2_
   have HB := n3_
   clear n0_ n1_ n2_ n3_
   refine start_ (n := 10) (S := fun w' => w'.cell? ⟨gb175, 0, none⟩ = some (.int .i64 ((rd_T52 ((rd_T48 l0_1 x16_1).f1) x30_2).f0)) ∧ w'.cell? ⟨gb175, 1, none⟩ = some (.int .i64 ((rd_T52 ((rd_T48 l0_1 x16_1).f1) x30_2).f1)) ∧ w'.cell? ⟨gb175, 2, none⟩ = some (.slice A174_2 ((rd_T52 ((rd_T48 l0_1 x16_1).f1) x30_2).f2).length c174_2)) (ds := []) #[bF, bF, bF, bF, bF, bF, bF, bF, bF, bF] (by kernel_rfl) rfl rfl ⟨(blk_cell BK175.out 0).trans rfl, (blk_cell BK175.out 1).trans rfl, (blk_cell BK175.out 2).trans rfl⟩ (fun hHeld => ?_); refine with_tabW spec_l20Text.tab11 spec_l20Text.bits11 (fun HT_ HW_ => ?_)
   generalize w42.drew = w43 at BK169 BK172 BK175 HB hHeld ⊢
   refine pure_ (i := 0) (N := some 44) (v := ?_) (a' := ?_) #[bT, bF, bF, bF, bF, bF, bF, bF, bF, bF] rfl rfl (any_of HT_.out (by kernel_rfl)) (fun _ _ _ h => h) (Or.inl ⟨by rfl, ?_⟩) ?_ ?_
   rotate_left
   · intro w'
     go_simp
     with_reducible rfl
   rotate_left
   · simp only [Act.put, lA, lB, lC, i64_w, i32_w]
     rfl
   refine pure_ (i := 1) (N := some 45) (v := ?_) (a' := ?_) #[bT, bT, bF, bF, bF, bF, bF, bF, bF, bF] rfl rfl (any_of HT_.out (by kernel_rfl)) (fun _ _ _ h => h) (Or.inl ⟨by rfl, ?_⟩) ?_ ?_
   rotate_left
   · intro w'
     go_simp
     with_reducible rfl
   rotate_left
   · simp only [Act.put, lA, lB, lC, i64_w, i32_w]
     rfl
   refine pure_ (i := 4) (N := some 48) (v := ?_) (a' := ?_) #[bT, bT, bF, bF, bT, bF, bF, bF, bF, bF] rfl rfl (any_of HT_.out (by kernel_rfl)) (fun _ _ _ h => h) (Or.inl ⟨by rfl, ?_⟩) ?_ ?_
   rotate_left
   · intro w'
     go_simp
     with_reducible rfl
   rotate_left
   · simp only [Act.put, lA, lB, lC, i64_w, i32_w]
     rfl
   refine take_ (i := 2) (N := some 46) (v := ?_) (a' := ?_) #[bT, bT, bT, bF, bT, bF, bF, bF, bF, bF] rfl rfl (take_ofW HT_.out HW_.out (by kernel_rfl)) (fun _ _ _ h => h) (Or.inl ⟨by rfl, ?_⟩) hHeld ?_ ?_
   rotate_left
   · rintro w' ⟨s0, s1, s2⟩
     go_simp
     with_reducible rfl
   rotate_left
   · simp only [Act.put, lA, lB, lC, i64_w, i32_w]
     rfl
   refine take_ (i := 5) (N := some 49) (v := ?_) (a' := ?_) #[bT, bT, bT, bF, bT, bT, bF, bF, bF, bF] rfl rfl (take_ofW HT_.out HW_.out (by kernel_rfl)) (fun _ _ _ h => h) (Or.inl ⟨by rfl, ?_⟩) hHeld ?_ ?_
   rotate_left
   · rintro w' ⟨s0, s1, s2⟩
     go_simp
     with_reducible rfl
   rotate_left
   · simp only [Act.put, lA, lB, lC, i64_w, i32_w]
     rfl
   refine one_ (i := 3) (N := some 47) #[bT, bT, bT, bT, bT, bT, bF, bF, bF, bF] rfl rfl (one_of HT_.out (by kernel_rfl)) (by decide) (fun K hK => ?_)
   refine goes_ Tryz.func25 (by kernel_rfl) rfl #[.int .i64 ((rd_T52 ((rd_T48 l0_1 x16_1).f1) x30_2).f0)] (by rfl) rfl rfl (by (try simp only [List.map_toArray, List.map_cons, List.map_nil]); first | done | rfl | (simp only [List.length_drop, List.length_take]; rfl)) ?_
   with_reducible refine (spec_l20Word.calls ((rd_T52 ((rd_T48 l0_1 x16_1).f1) x30_2).f0) t177 _ A34.out).mono ?_
   rintro e w' ⟨rfl, ⟨nd, rfl⟩⟩
   refine ⟨_, rfl, ?_⟩
   refine hK.out _ _ ⟨(blk_cell BK175.out 0).trans rfl, (blk_cell BK175.out 1).trans rfl, (blk_cell BK175.out 2).trans rfl⟩ (fun hHeld => ?_)
   clear hK K
   refine norm_ (a' := ?_) ?_ ?_
   rotate_left
   · show Act.put _ (some 47) _ = _
     simp only [Act.put, lA, lB, lC, i64_w, i32_w]
     rfl
   refine one_ (i := 6) (N := some 50) #[bT, bT, bT, bT, bT, bT, bT, bF, bF, bF] rfl rfl (one_of HT_.out (by kernel_rfl)) (by decide) (fun K hK => ?_)
   refine goes_ Tryz.func24 (by kernel_rfl) rfl #[.string t177, .slice A174_2 ((rd_T52 ((rd_T48 l0_1 x16_1).f1) x30_2).f2).length c174_2] (by rfl) rfl rfl (by (try simp only [List.map_toArray, List.map_cons, List.map_nil]); first | done | rfl | (simp only [List.length_drop, List.length_take]; rfl)) ?_
   with_reducible refine (spec_l20List.calls k2 t177 _ _ ((rd_T52 ((rd_T48 l0_1 x16_1).f1) x30_2).f2) t178 _ ?side1 ?side2 A35.out).mono ?_
   (case side1 => repeat (first | exact (Kd.C_below HR174_2.out (by repeat (first | (with_reducible first | exact HB.out | apply below_alloc | apply pw_below_drewN | apply below_drew1 | refine below_set ?_ GE169.out | refine below_set ?_ GE172.out | refine below_set ?_ GE175.out) | exact HB.out))) | (with_reducible refine Kd.C_alloc ?_ _) | (with_reducible refine Kd.C_drewN ?_ _) | (with_reducible refine Kd.C_drew ?_)))
   (case side2 => exact HC174_2.out)
   rintro e w44 ⟨rfl, hb⟩
   refine ⟨_, rfl, ?_⟩
   have n0_ := Aside0.mk (bB BK169.out hb)
   have n1_ := Aside0.mk (bB BK172.out hb)
   have n2_ := Aside0.mk (bB BK175.out hb)
   have n3_ := Aside0.mk (below_step (by repeat (first | (with_reducible first | exact HB.out | apply below_alloc | apply pw_below_drewN | apply below_drew1 | refine below_set ?_ GE169.out | refine below_set ?_ GE172.out | refine below_set ?_ GE175.out) | exact HB.out)) hb)
   clear BK169
   clear BK172
   clear BK175
   clear HB
   have BK169 := n0_
   have BK172 := n1_
   have BK175 := n2_
   have HB := n3_
   clear n0_ n1_ n2_ n3_
   (try clear hb)
   (try clear hb2)
   (try clear hk)
   (try clear hi)
   refine hK.out _ _ ⟨(blk_cell BK175.out 0).trans rfl, (blk_cell BK175.out 1).trans rfl, (blk_cell BK175.out 2).trans rfl⟩ (fun hHeld => ?_)
   clear hK K
   refine norm_ (a' := ?_) ?_ ?_
   rotate_left
   · show Act.put _ (some 50) _ = _
     simp only [Act.put, lA, lB, lC, i64_w, i32_w]
     rfl
   refine pure_ (i := 7) (N := some 51) (v := ?_) (a' := ?_) #[bT, bT, bT, bT, bT, bT, bT, bT, bF, bF] rfl rfl (any_of HT_.out (by kernel_rfl)) (fun _ _ _ h => h) (Or.inl ⟨by rfl, ?_⟩) ?_ ?_
   rotate_left
   · intro w'
     go_simp
     with_reducible rfl
   rotate_left
   · simp only [Act.put, lA, lB, lC, i64_w, i32_w]
     rfl
   refine pure_ (i := 8) (N := some 52) (v := ?_) (a' := ?_) #[bT, bT, bT, bT, bT, bT, bT, bT, bT, bF] rfl rfl (any_of HT_.out (by kernel_rfl)) (fun _ _ _ h => h) (Or.inl ⟨by rfl, ?_⟩) ?_ ?_
   rotate_left
   · intro w'
     go_simp
     with_reducible rfl
   rotate_left
   · simp only [Act.put, lA, lB, lC, i64_w, i32_w]
     rfl
   refine pure_ (i := 9) (N := some 3) (v := ?_) (a' := ?_) #[bT, bT, bT, bT, bT, bT, bT, bT, bT, bT] rfl rfl (any_of HT_.out (by kernel_rfl)) (fun _ _ _ h => h) (Or.inl ⟨by rfl, ?_⟩) ?_ ?_
   rotate_left
   · intro w'
     go_simp
     with_reducible rfl
   rotate_left
   · simp only [Act.put, lA, lB, lC, i64_w, i32_w]
     rfl
   refine done_ (done_of HT_.out (by kernel_rfl)) ?_
   try go_wp2
   go_roundg k2
   case measure => have := HK1.out; have := HK2.out; omega
   exact ⟨(x3_2 ++ (t178 ++ (⟨#[10]⟩ : ByteArray))), (wrap64 (x30_2 + 1)), (by first | rfl | (simp; done) | (simp [*]; done)), (by first | rfl | (simp; done) | (simp [*]; done)), H', ⟨by have := HK1.out; have := HK2.out; omega⟩, ⟨by (with_reducible repeat (first | refine blk_drewN ?_ _ | refine blk_drew ?_ | refine blk_alloc ?_ _)); exact BK169.out⟩, ⟨by (with_reducible repeat (first | refine blk_drewN ?_ _ | refine blk_drew ?_ | refine blk_alloc ?_ _)); exact BK172.out⟩, ⟨by repeat (first | (with_reducible first | exact HB.out | apply below_alloc | apply pw_below_drewN | apply below_drew1 | refine below_set ?_ GE169.out | refine below_set ?_ GE172.out | refine below_set ?_ GE175.out) | exact HB.out)⟩⟩
 rw [if_neg c21] at H
 have c21b0 : decide (x30_2 < (((rd_T48 l0_1 x16_1).f1).length : Int)) = false := decide_eq_false c21
 clear c21
 by_cases c45 : ((rd_T48 l0_1 x16_1).f2) = 1
 · rw [if_pos c45] at H
   have c45b0 : (((rd_T48 l0_1 x16_1).f2) == 1) = true := beq_iff_eq.mpr c45
   have c45b1 : (((rd_T48 l0_1 x16_1).f2) != 1) = false := bne_eq_false_iff_eq.mpr c45
   clear c45
   replace H := Option.bind_eq_some_iff.mp H
   obtain ⟨t179, A460, H⟩ := H
   replace H : (if 7 + t179.size ≤ 9223372036854775807 then (if ((⟨#[114, 101, 116, 117, 114, 110, 32]⟩ : ByteArray) ++ t179).size + 1 ≤ 9223372036854775807 then (if x3_2.size + (((⟨#[114, 101, 116, 117, 114, 110, 32]⟩ : ByteArray) ++ t179) ++ (⟨#[10]⟩ : ByteArray)).size ≤ 9223372036854775807 then (spec_l20Text.l0 k2 (x3_2 ++ (((⟨#[114, 101, 116, 117, 114, 110, 32]⟩ : ByteArray) ++ t179) ++ (⟨#[10]⟩ : ByteArray))) l0_1 (l0_1.length : Int) (wrap64 (x16_1 + 1))) else (none)) else (none)) else (none)) = some r := H
   have A46 := Aside0.mk A460
   clear A460
   by_cases c47 : 7 + t179.size ≤ 9223372036854775807
   rotate_left
   · rw [if_neg c47] at H
     exact absurd H (by simp)
   rw [if_pos c47] at H
   have c47b0 := eq_true c47
   have c47b1 : decide (7 + t179.size ≤ 9223372036854775807) = true := decide_eq_true c47
   try have c47b2 : (9223372036854775807 < 7 + t179.size) = False := eq_false (Nat.not_lt.2 c47)
   by_cases c48 : ((⟨#[114, 101, 116, 117, 114, 110, 32]⟩ : ByteArray) ++ t179).size + 1 ≤ 9223372036854775807
   rotate_left
   · rw [if_neg c48] at H
     exact absurd H (by simp)
   rw [if_pos c48] at H
   have c48b0 := eq_true c48
   have c48b1 : decide (((⟨#[114, 101, 116, 117, 114, 110, 32]⟩ : ByteArray) ++ t179).size + 1 ≤ 9223372036854775807) = true := decide_eq_true c48
   try have c48b2 : (9223372036854775807 < ((⟨#[114, 101, 116, 117, 114, 110, 32]⟩ : ByteArray) ++ t179).size + 1) = False := eq_false (Nat.not_lt.2 c48)
   try have c48b9 : (9223372036854775807 < 7 + t179.size + 1) = False := eq_false (Nat.not_lt.2 (by have h := c48; simp only [ByteArray.size_append] at h; exact h))
   by_cases c49 : x3_2.size + (((⟨#[114, 101, 116, 117, 114, 110, 32]⟩ : ByteArray) ++ t179) ++ (⟨#[10]⟩ : ByteArray)).size ≤ 9223372036854775807
   rotate_left
   · rw [if_neg c49] at H
     exact absurd H (by simp)
   rw [if_pos c49] at H
   have c49b0 := eq_true c49
   have c49b1 : decide (x3_2.size + (((⟨#[114, 101, 116, 117, 114, 110, 32]⟩ : ByteArray) ++ t179) ++ (⟨#[10]⟩ : ByteArray)).size ≤ 9223372036854775807) = true := decide_eq_true c49
   try have c49b2 : (9223372036854775807 < x3_2.size + (((⟨#[114, 101, 116, 117, 114, 110, 32]⟩ : ByteArray) ++ t179) ++ (⟨#[10]⟩ : ByteArray)).size) = False := eq_false (Nat.not_lt.2 c49)
   try have c49b9 : (9223372036854775807 < x3_2.size + (7 + t179.size + 1)) = False := eq_false (Nat.not_lt.2 (by have h := c49; simp only [ByteArray.size_append] at h; exact h))
   have H' := Aside0.mk H
   clear H
   have hnb50 := NB172_169.out
   have hnc50 := NB169_172.out
   obtain ⟨hcz51_0, hcz51_1, hcz51_2, hcz51_3, hcz51_4, hfz51_0, hfz51_1, hfz51_2, hfz51_3, hfz51_4⟩ := blk5 BK172.out
   go_wp2_with (first | ((with_reducible refine gate_callee (f := 22) rfl ?_); refine goesL_ (some 79) rfl rfl Tryz.func22 (by kernel_rfl) rfl #[.int .i64 ((rd_T48 l0_1 x16_1).f3)] rfl (by (try simp only [List.map_toArray, List.map_cons, List.map_nil]); first | done | rfl | (simp only [List.length_drop, List.length_take]; rfl)) ?_; (with_reducible refine (spec_l1Num.calls k2 ((rd_T48 l0_1 x16_1).f3) t179 _ A46.out).mono ?_); rintro e w52 ⟨rfl, hb⟩; refine ⟨_, rfl, ?_⟩; have n0_ := Aside0.mk (bB BK169.out hb); have n1_ := Aside0.mk (bB BK172.out hb); have n2_ := Aside0.mk (below_step (by repeat (first | (with_reducible first | exact HB.out | apply below_alloc | apply pw_below_drewN | apply below_drew1 | refine below_set ?_ GE169.out | refine below_set ?_ GE172.out) | exact HB.out)) hb); clear BK169; clear BK172; clear HB; have BK169 := n0_; have BK172 := n1_; have HB := n2_; clear n0_ n1_ n2_; (try clear hb); (try clear hb2); (try clear hk); (try clear hi)))
   go_roundg k2
   case measure => have := HK1.out; have := HK2.out; omega
   exact ⟨(x3_2 ++ (((⟨#[114, 101, 116, 117, 114, 110, 32]⟩ : ByteArray) ++ t179) ++ (⟨#[10]⟩ : ByteArray))), (wrap64 (x16_1 + 1)), (by first | rfl | (simp; done) | (simp [*]; done)), (by first | rfl | (simp; done) | (simp [*]; done)), H', ⟨by have := HK1.out; have := HK2.out; omega⟩, ⟨by (with_reducible repeat (first | refine blk_drewN ?_ _ | refine blk_drew ?_ | refine blk_alloc ?_ _)); exact BK169.out⟩, ⟨by repeat (first | (with_reducible first | exact HB.out | apply below_alloc | apply pw_below_drewN | apply below_drew1 | refine below_set ?_ GE169.out | refine below_set ?_ GE172.out) | exact HB.out)⟩⟩
 rw [if_neg c45] at H
 have c45b0 : (((rd_T48 l0_1 x16_1).f2) == 1) = false := beq_eq_false_iff_ne.mpr c45
 have c45b1 : (((rd_T48 l0_1 x16_1).f2) != 1) = true := bne_iff_ne.mpr c45
 by_cases c53 : ((rd_T48 l0_1 x16_1).f2) = 2
 · rw [if_pos c53] at H
   have c53b0 : (((rd_T48 l0_1 x16_1).f2) == 2) = true := beq_iff_eq.mpr c53
   have c53b1 : (((rd_T48 l0_1 x16_1).f2) != 2) = false := bne_eq_false_iff_eq.mpr c53
   clear c53
   by_cases c54 : 0 < (((rd_T48 l0_1 x16_1).f4).length : Int)
   rotate_left
   · rw [if_neg c54] at H
     exact absurd H (by simp)
   rw [if_pos c54] at H
   have c54b0 : decide (0 < (((rd_T48 l0_1 x16_1).f4).length : Int)) = true := decide_eq_true c54
   have c54b1 : decide (0 < ((rd_T48 l0_1 x16_1).f4).length) = true := decide_eq_true (by omega)
   clear c54
   replace H := Option.bind_eq_some_iff.mp H
   obtain ⟨t181, A550, H⟩ := H
   replace H : (if t181.size + 1 ≤ 9223372036854775807 then (if x3_2.size + (t181 ++ (⟨#[10]⟩ : ByteArray)).size ≤ 9223372036854775807 then (spec_l20Text.l0 k2 (x3_2 ++ (t181 ++ (⟨#[10]⟩ : ByteArray))) l0_1 (l0_1.length : Int) (wrap64 (x16_1 + 1))) else (none)) else (none)) = some r := H
   have A55 := Aside0.mk A550
   clear A550
   by_cases c56 : t181.size + 1 ≤ 9223372036854775807
   rotate_left
   · rw [if_neg c56] at H
     exact absurd H (by simp)
   rw [if_pos c56] at H
   have c56b0 := eq_true c56
   have c56b1 : decide (t181.size + 1 ≤ 9223372036854775807) = true := decide_eq_true c56
   try have c56b2 : (9223372036854775807 < t181.size + 1) = False := eq_false (Nat.not_lt.2 c56)
   by_cases c57 : x3_2.size + (t181 ++ (⟨#[10]⟩ : ByteArray)).size ≤ 9223372036854775807
   rotate_left
   · rw [if_neg c57] at H
     exact absurd H (by simp)
   rw [if_pos c57] at H
   have c57b0 := eq_true c57
   have c57b1 : decide (x3_2.size + (t181 ++ (⟨#[10]⟩ : ByteArray)).size ≤ 9223372036854775807) = true := decide_eq_true c57
   try have c57b2 : (9223372036854775807 < x3_2.size + (t181 ++ (⟨#[10]⟩ : ByteArray)).size) = False := eq_false (Nat.not_lt.2 c57)
   try have c57b9 : (9223372036854775807 < x3_2.size + (t181.size + 1)) = False := eq_false (Nat.not_lt.2 (by have h := c57; simp only [ByteArray.size_append] at h; exact h))
   have H' := Aside0.mk H
   clear H
   have hnb58 := NB172_169.out
   have hnc58 := NB169_172.out
   obtain ⟨hcz59_0, hcz59_1, hcz59_2, hcz59_3, hcz59_4, hfz59_0, hfz59_1, hfz59_2, hfz59_3, hfz59_4⟩ := blk5 BK172.out
   have p180 : 0 ≤ (0 : Int) := (by omega)
   have q180 : 0 < (((rd_T48 l0_1 x16_1).f4).length : Int) := of_decide_eq_true (by first | (with_reducible assumption) | assumption)
   obtain ⟨ad180, A180_1, c180_1, e180, hx180_0, hx180_1, hl180_1, hi180_1⟩ := at_T61 HR171_4.out 0 p180 q180
   cases e180
   have qi180 : (0 < ((rd_T48 l0_1 x16_1).f4).length) = True := eq_true (by omega)
   (try rw [show ((0 : Int)).toNat = 0 from rfl] at hx180_0)
   (try rw [show 0 * 2 = 0 from rfl] at hx180_0)
   (try rw [Addr.add_zero'] at hx180_0)
   (try rw [show ((0 : Int)).toNat = 0 from rfl] at hx180_1)
   (try rw [show 0 * 2 = 0 from rfl] at hx180_1)
   (try rw [Addr.add_zero'] at hx180_1)
   replace hx180_0 := cB HB.out hx180_0
   replace hx180_1 := cB HB.out hx180_1
   have HR180_1 := Aside0.mk hi180_1
   have HC180_1 := Aside0.mk hl180_1
   clear hi180_1 hl180_1
   replace p180 := eq_true p180
   replace q180 := eq_true q180
   go_wp2_with (first | ((with_reducible refine gate_callee (f := 26) rfl ?_); refine goesL_ (some 90) rfl rfl Tryz.func26 (by kernel_rfl) rfl #[.string (⟨#[106, 117, 109, 112]⟩ : ByteArray), .agg #[.int .i64 ((rd_T61 ((rd_T48 l0_1 x16_1).f4) 0).f0), .slice A180_1 ((rd_T61 ((rd_T48 l0_1 x16_1).f4) 0).f1).length c180_1]] rfl (by (try simp only [List.map_toArray, List.map_cons, List.map_nil]); first | done | rfl | (simp only [List.length_drop, List.length_take]; rfl)) ?_; (with_reducible refine (spec_l20Jump.calls k2 (⟨#[106, 117, 109, 112]⟩ : ByteArray) ((rd_T61 ((rd_T48 l0_1 x16_1).f4) 0).f0) _ _ ((rd_T61 ((rd_T48 l0_1 x16_1).f4) 0).f1) t181 _ ?side1 ?side2 A55.out).mono ?_); (case side1 => repeat (first | exact (Kd.C_below HR180_1.out HB.out) | (with_reducible refine Kd.C_alloc ?_ _) | (with_reducible refine Kd.C_drewN ?_ _) | (with_reducible refine Kd.C_drew ?_))); (case side2 => exact HC180_1.out); rintro e w60 ⟨rfl, hb⟩; refine ⟨_, rfl, ?_⟩; have n0_ := Aside0.mk (bB BK169.out hb); have n1_ := Aside0.mk (bB BK172.out hb); have n2_ := Aside0.mk (below_step (by repeat (first | (with_reducible first | exact HB.out | apply below_alloc | apply pw_below_drewN | apply below_drew1 | refine below_set ?_ GE169.out | refine below_set ?_ GE172.out) | exact HB.out)) hb); clear BK169; clear BK172; clear HB; have BK169 := n0_; have BK172 := n1_; have HB := n2_; clear n0_ n1_ n2_; (try clear hb); (try clear hb2); (try clear hk); (try clear hi)))
   go_roundg k2
   case measure => have := HK1.out; have := HK2.out; omega
   exact ⟨(x3_2 ++ (t181 ++ (⟨#[10]⟩ : ByteArray))), (wrap64 (x16_1 + 1)), (by first | rfl | (simp; done) | (simp [*]; done)), (by first | rfl | (simp; done) | (simp [*]; done)), H', ⟨by have := HK1.out; have := HK2.out; omega⟩, ⟨by (with_reducible repeat (first | refine blk_drewN ?_ _ | refine blk_drew ?_ | refine blk_alloc ?_ _)); exact BK169.out⟩, ⟨by repeat (first | (with_reducible first | exact HB.out | apply below_alloc | apply pw_below_drewN | apply below_drew1 | refine below_set ?_ GE169.out | refine below_set ?_ GE172.out) | exact HB.out)⟩⟩
 rw [if_neg c53] at H
 have c53b0 : (((rd_T48 l0_1 x16_1).f2) == 2) = false := beq_eq_false_iff_ne.mpr c53
 have c53b1 : (((rd_T48 l0_1 x16_1).f2) != 2) = true := bne_iff_ne.mpr c53
 replace H := Option.bind_eq_some_iff.mp H
 obtain ⟨t182, A610, H⟩ := H
 replace H : (if 7 + t182.size ≤ 9223372036854775807 then (if 0 < (((rd_T48 l0_1 x16_1).f4).length : Int) then ((spec_l20Jump.f k2 ((⟨#[98, 114, 97, 110, 99, 104, 32]⟩ : ByteArray) ++ t182) ((rd_T61 ((rd_T48 l0_1 x16_1).f4) 0).f0) ((rd_T61 ((rd_T48 l0_1 x16_1).f4) 0).f1)).bind fun t184 => (if t184.size + 2 ≤ 9223372036854775807 then (if 1 < (((rd_T48 l0_1 x16_1).f4).length : Int) then ((spec_l20Jump.f k2 (t184 ++ (⟨#[32, 124]⟩ : ByteArray)) ((rd_T61 ((rd_T48 l0_1 x16_1).f4) 1).f0) ((rd_T61 ((rd_T48 l0_1 x16_1).f4) 1).f1)).bind fun t186 => (if t186.size + 1 ≤ 9223372036854775807 then (if x3_2.size + (t186 ++ (⟨#[10]⟩ : ByteArray)).size ≤ 9223372036854775807 then (spec_l20Text.l0 k2 (x3_2 ++ (t186 ++ (⟨#[10]⟩ : ByteArray))) l0_1 (l0_1.length : Int) (wrap64 (x16_1 + 1))) else (none)) else (none))) else (none)) else (none))) else (none)) else (none)) = some r := H
 have A61 := Aside0.mk A610
 clear A610
 by_cases c62 : 7 + t182.size ≤ 9223372036854775807
 rotate_left
 · rw [if_neg c62] at H
   exact absurd H (by simp)
 rw [if_pos c62] at H
 have c62b0 := eq_true c62
 have c62b1 : decide (7 + t182.size ≤ 9223372036854775807) = true := decide_eq_true c62
 try have c62b2 : (9223372036854775807 < 7 + t182.size) = False := eq_false (Nat.not_lt.2 c62)
 by_cases c63 : 0 < (((rd_T48 l0_1 x16_1).f4).length : Int)
 rotate_left
 · rw [if_neg c63] at H
   exact absurd H (by simp)
 rw [if_pos c63] at H
 have c63b0 : decide (0 < (((rd_T48 l0_1 x16_1).f4).length : Int)) = true := decide_eq_true c63
 have c63b1 : decide (0 < ((rd_T48 l0_1 x16_1).f4).length) = true := decide_eq_true (by omega)
 clear c63
 replace H := Option.bind_eq_some_iff.mp H
 obtain ⟨t184, A640, H⟩ := H
 replace H : (if t184.size + 2 ≤ 9223372036854775807 then (if 1 < (((rd_T48 l0_1 x16_1).f4).length : Int) then ((spec_l20Jump.f k2 (t184 ++ (⟨#[32, 124]⟩ : ByteArray)) ((rd_T61 ((rd_T48 l0_1 x16_1).f4) 1).f0) ((rd_T61 ((rd_T48 l0_1 x16_1).f4) 1).f1)).bind fun t186 => (if t186.size + 1 ≤ 9223372036854775807 then (if x3_2.size + (t186 ++ (⟨#[10]⟩ : ByteArray)).size ≤ 9223372036854775807 then (spec_l20Text.l0 k2 (x3_2 ++ (t186 ++ (⟨#[10]⟩ : ByteArray))) l0_1 (l0_1.length : Int) (wrap64 (x16_1 + 1))) else (none)) else (none))) else (none)) else (none)) = some r := H
 have A64 := Aside0.mk A640
 clear A640
 by_cases c65 : t184.size + 2 ≤ 9223372036854775807
 rotate_left
 · rw [if_neg c65] at H
   exact absurd H (by simp)
 rw [if_pos c65] at H
 have c65b0 := eq_true c65
 have c65b1 : decide (t184.size + 2 ≤ 9223372036854775807) = true := decide_eq_true c65
 try have c65b2 : (9223372036854775807 < t184.size + 2) = False := eq_false (Nat.not_lt.2 c65)
 by_cases c66 : 1 < (((rd_T48 l0_1 x16_1).f4).length : Int)
 rotate_left
 · rw [if_neg c66] at H
   exact absurd H (by simp)
 rw [if_pos c66] at H
 have c66b0 : decide (1 < (((rd_T48 l0_1 x16_1).f4).length : Int)) = true := decide_eq_true c66
 have c66b1 : decide (1 < ((rd_T48 l0_1 x16_1).f4).length) = true := decide_eq_true (by omega)
 clear c66
 replace H := Option.bind_eq_some_iff.mp H
 obtain ⟨t186, A670, H⟩ := H
 replace H : (if t186.size + 1 ≤ 9223372036854775807 then (if x3_2.size + (t186 ++ (⟨#[10]⟩ : ByteArray)).size ≤ 9223372036854775807 then (spec_l20Text.l0 k2 (x3_2 ++ (t186 ++ (⟨#[10]⟩ : ByteArray))) l0_1 (l0_1.length : Int) (wrap64 (x16_1 + 1))) else (none)) else (none)) = some r := H
 have A67 := Aside0.mk A670
 clear A670
 by_cases c68 : t186.size + 1 ≤ 9223372036854775807
 rotate_left
 · rw [if_neg c68] at H
   exact absurd H (by simp)
 rw [if_pos c68] at H
 have c68b0 := eq_true c68
 have c68b1 : decide (t186.size + 1 ≤ 9223372036854775807) = true := decide_eq_true c68
 try have c68b2 : (9223372036854775807 < t186.size + 1) = False := eq_false (Nat.not_lt.2 c68)
 by_cases c69 : x3_2.size + (t186 ++ (⟨#[10]⟩ : ByteArray)).size ≤ 9223372036854775807
 rotate_left
 · rw [if_neg c69] at H
   exact absurd H (by simp)
 rw [if_pos c69] at H
 have c69b0 := eq_true c69
 have c69b1 : decide (x3_2.size + (t186 ++ (⟨#[10]⟩ : ByteArray)).size ≤ 9223372036854775807) = true := decide_eq_true c69
 try have c69b2 : (9223372036854775807 < x3_2.size + (t186 ++ (⟨#[10]⟩ : ByteArray)).size) = False := eq_false (Nat.not_lt.2 c69)
 try have c69b9 : (9223372036854775807 < x3_2.size + (t186.size + 1)) = False := eq_false (Nat.not_lt.2 (by have h := c69; simp only [ByteArray.size_append] at h; exact h))
 have H' := Aside0.mk H
 clear H
 have hnb70 := NB172_169.out
 have hnc70 := NB169_172.out
 obtain ⟨hcz71_0, hcz71_1, hcz71_2, hcz71_3, hcz71_4, hfz71_0, hfz71_1, hfz71_2, hfz71_3, hfz71_4⟩ := blk5 BK172.out
 try go_wp2
 have n0_ := Aside0.mk (blk_drew BK169.out)
 have n1_ := Aside0.mk (blk_drew BK172.out)
 have n2_ := Aside0.mk (below_drew1 HB.out)
 clear BK169
 clear BK172
 clear HB
 have BK169 := n0_
 have BK172 := n1_
 have HB := n2_
 clear n0_ n1_ n2_
 have p183 : 0 ≤ (0 : Int) := (by omega)
 have q183 : 0 < (((rd_T48 l0_1 x16_1).f4).length : Int) := of_decide_eq_true (by first | (with_reducible assumption) | assumption)
 obtain ⟨ad183, A183_1, c183_1, e183, hx183_0, hx183_1, hl183_1, hi183_1⟩ := at_T61 HR171_4.out 0 p183 q183
 have hw183_1 := hx183_1
 (try rw [show ((0 : Int)).toNat = 0 from rfl] at hw183_1)
 (try rw [show 0 * 2 = 0 from rfl] at hw183_1)
 (try rw [Addr.add_zero'] at hw183_1)
 have hw183_0 := hx183_0
 (try rw [show ((0 : Int)).toNat = 0 from rfl] at hw183_0)
 (try rw [show 0 * 2 = 0 from rfl] at hw183_0)
 (try rw [Addr.add_zero'] at hw183_0)
 cases e183
 have qi183 : (0 < ((rd_T48 l0_1 x16_1).f4).length) = True := eq_true (by omega)
 (try rw [show ((0 : Int)).toNat = 0 from rfl] at hx183_0)
 (try rw [show 0 * 2 = 0 from rfl] at hx183_0)
 (try rw [Addr.add_zero'] at hx183_0)
 (try rw [show ((0 : Int)).toNat = 0 from rfl] at hx183_1)
 (try rw [show 0 * 2 = 0 from rfl] at hx183_1)
 (try rw [Addr.add_zero'] at hx183_1)
 replace hx183_0 := cB HB.out hx183_0
 replace hx183_1 := cB HB.out hx183_1
 have HR183_1 := Aside0.mk hi183_1
 have HC183_1 := Aside0.mk hl183_1
 clear hi183_1 hl183_1
 replace p183 := eq_true p183
 replace q183 := eq_true q183
 have p185 : 0 ≤ (1 : Int) := (by omega)
 have q185 : 1 < (((rd_T48 l0_1 x16_1).f4).length : Int) := of_decide_eq_true (by first | (with_reducible assumption) | assumption)
 obtain ⟨ad185, A185_1, c185_1, e185, hx185_0, hx185_1, hl185_1, hi185_1⟩ := at_T61 HR171_4.out 1 p185 q185
 have hw185_1 := hx185_1
 (try rw [show ((1 : Int)).toNat = 1 from rfl] at hw185_1)
 (try rw [show 1 * 2 = 2 from rfl] at hw185_1)
 (try simp only [Nat.reduceMul, Nat.reduceEqDiff, Go.Addr.add, ↓reduceIte] at hw185_1)
 have hw185_0 := hx185_0
 (try rw [show ((1 : Int)).toNat = 1 from rfl] at hw185_0)
 (try rw [show 1 * 2 = 2 from rfl] at hw185_0)
 (try simp only [Nat.reduceMul, Nat.reduceEqDiff, Go.Addr.add, ↓reduceIte] at hw185_0)
 obtain rfl : ad183 = ad185 := (by injection e185)
 (try simp only [show (1 : Int).toNat = 1 from rfl, Nat.reduceMul, Nat.reduceEqDiff, Go.Addr.add, ↓reduceIte] at hx185_0)
 (try simp only [show (1 : Int).toNat = 1 from rfl, Nat.reduceMul, Nat.reduceEqDiff, Go.Addr.add, ↓reduceIte] at hx185_1)
 have qi185 : (1 < ((rd_T48 l0_1 x16_1).f4).length) = True := eq_true (by omega)
 (try rw [show ((1 : Int)).toNat = 1 from rfl] at hx185_0)
 (try rw [show 1 * 2 = 2 from rfl] at hx185_0)
 (try rw [show ((1 : Int)).toNat = 1 from rfl] at hx185_1)
 (try rw [show 1 * 2 = 2 from rfl] at hx185_1)
 replace hx185_0 := cB HB.out hx185_0
 replace hx185_1 := cB HB.out hx185_1
 have HR185_1 := Aside0.mk hi185_1
 have HC185_1 := Aside0.mk hl185_1
 clear hi185_1 hl185_1
 replace p185 := eq_true p185
 replace q185 := eq_true q185
 refine start_ (n := 19) (S := fun w' => w'.cell? ⟨gb172, 0, none⟩ = some (.int .i64 ((rd_T48 l0_1 x16_1).f0)) ∧ w'.cell? ⟨gb172, 1, none⟩ = some (.slice A171_1 ((rd_T48 l0_1 x16_1).f1).length c171_1) ∧ w'.cell? ⟨gb172, 2, none⟩ = some (.int .i64 ((rd_T48 l0_1 x16_1).f2)) ∧ w'.cell? ⟨gb172, 3, none⟩ = some (.int .i64 ((rd_T48 l0_1 x16_1).f3)) ∧ w'.cell? ⟨gb172, 4, none⟩ = some (.slice (some ad183) ((rd_T48 l0_1 x16_1).f4).length c171_4) ∧ w'.cell? ad183 = some (.int .i64 ((rd_T61 ((rd_T48 l0_1 x16_1).f4) 0).f0)) ∧ w'.cell? ⟨ad183.block, ad183.off + 1, none⟩ = some (.slice A183_1 ((rd_T61 ((rd_T48 l0_1 x16_1).f4) 0).f1).length c183_1) ∧ w'.cell? ⟨ad183.block, ad183.off + 2, none⟩ = some (.int .i64 ((rd_T61 ((rd_T48 l0_1 x16_1).f4) 1).f0)) ∧ w'.cell? ⟨ad183.block, ad183.off + 2 + 1, none⟩ = some (.slice A185_1 ((rd_T61 ((rd_T48 l0_1 x16_1).f4) 1).f1).length c185_1)) (ds := []) #[bF, bF, bF, bF, bF, bF, bF, bF, bF, bF, bF, bF, bF, bF, bF, bF, bF, bF, bF] (by kernel_rfl) rfl rfl ⟨(blk_cell BK172.out 0).trans rfl, (blk_cell BK172.out 1).trans rfl, (blk_cell BK172.out 2).trans rfl, (blk_cell BK172.out 3).trans rfl, (blk_cell BK172.out 4).trans rfl, (cB HB.out hw183_0), (cB HB.out hw183_1), (cB HB.out hw185_0), (cB HB.out hw185_1)⟩ (fun hHeld => ?_); refine with_tabW spec_l20Text.tab14 spec_l20Text.bits14 (fun HT_ HW_ => ?_)
 generalize wr.drew = w72 at BK169 BK172 HB HR183_1 HR185_1 hx183_0 hx183_1 hx185_0 hx185_1 hHeld ⊢
 refine pure_ (i := 0) (N := some 56) (v := ?_) (a' := ?_) #[bT, bF, bF, bF, bF, bF, bF, bF, bF, bF, bF, bF, bF, bF, bF, bF, bF, bF, bF] rfl rfl (any_of HT_.out (by kernel_rfl)) (fun _ _ _ h => h) (Or.inl ⟨by rfl, ?_⟩) ?_ ?_
 rotate_left
 · intro w'
   go_simp
   with_reducible rfl
 rotate_left
 · simp only [Act.put, lA, lB, lC, i64_w, i32_w]
   rfl
 refine pure_ (i := 1) (N := some 57) (v := ?_) (a' := ?_) #[bT, bT, bF, bF, bF, bF, bF, bF, bF, bF, bF, bF, bF, bF, bF, bF, bF, bF, bF] rfl rfl (any_of HT_.out (by kernel_rfl)) (fun _ _ _ h => h) (Or.inl ⟨by rfl, ?_⟩) ?_ ?_
 rotate_left
 · intro w'
   go_simp
   with_reducible rfl
 rotate_left
 · simp only [Act.put, lA, lB, lC, i64_w, i32_w]
   rfl
 refine pure_ (i := 5) (N := some 61) (v := ?_) (a' := ?_) #[bT, bT, bF, bF, bF, bT, bF, bF, bF, bF, bF, bF, bF, bF, bF, bF, bF, bF, bF] rfl rfl (any_of HT_.out (by kernel_rfl)) (fun _ _ _ h => h) (Or.inl ⟨by rfl, ?_⟩) ?_ ?_
 rotate_left
 · intro w'
   go_simp
   with_reducible rfl
 rotate_left
 · simp only [Act.put, lA, lB, lC, i64_w, i32_w]
   rfl
 refine pure_ (i := 11) (N := some 67) (v := ?_) (a' := ?_) #[bT, bT, bF, bF, bF, bT, bF, bF, bF, bF, bF, bT, bF, bF, bF, bF, bF, bF, bF] rfl rfl (any_of HT_.out (by kernel_rfl)) (fun _ _ _ h => h) (Or.inl ⟨by rfl, ?_⟩) ?_ ?_
 rotate_left
 · intro w'
   go_simp
   with_reducible rfl
 rotate_left
 · simp only [Act.put, lA, lB, lC, i64_w, i32_w]
   rfl
 refine take_ (i := 2) (N := some 58) (v := ?_) (a' := ?_) #[bT, bT, bT, bF, bF, bT, bF, bF, bF, bF, bF, bT, bF, bF, bF, bF, bF, bF, bF] rfl rfl (take_ofW HT_.out HW_.out (by kernel_rfl)) (fun _ _ _ h => h) (Or.inl ⟨by rfl, ?_⟩) hHeld ?_ ?_
 rotate_left
 · rintro w' ⟨s0, s1, s2, s3, s4, s5, s6, s7, s8⟩
   go_simp
   with_reducible rfl
 rotate_left
 · simp only [Act.put, lA, lB, lC, i64_w, i32_w]
   rfl
 refine take_ (i := 6) (N := some 62) (v := ?_) (a' := ?_) #[bT, bT, bT, bF, bF, bT, bT, bF, bF, bF, bF, bT, bF, bF, bF, bF, bF, bF, bF] rfl rfl (take_ofW HT_.out HW_.out (by kernel_rfl)) (fun _ _ _ h => h) (Or.inl ⟨by rfl, ?_⟩) hHeld ?_ ?_
 rotate_left
 · rintro w' ⟨s0, s1, s2, s3, s4, s5, s6, s7, s8⟩
   go_simp
   with_reducible rfl
 rotate_left
 · simp only [Act.put, lA, lB, lC, i64_w, i32_w]
   rfl
 refine pure_ (i := 7) (N := some 63) (v := ?_) (a' := ?_) #[bT, bT, bT, bF, bF, bT, bT, bT, bF, bF, bF, bT, bF, bF, bF, bF, bF, bF, bF] rfl rfl (any_of HT_.out (by kernel_rfl)) (fun _ _ _ h => h) (Or.inl ⟨by rfl, ?_⟩) ?_ ?_
 rotate_left
 · intro w'
   go_simp
   with_reducible rfl
 rotate_left
 · simp only [Act.put, lA, lB, lC, i64_w, i32_w]
   rfl
 refine take_ (i := 8) (N := some 64) (v := ?_) (a' := ?_) #[bT, bT, bT, bF, bF, bT, bT, bT, bT, bF, bF, bT, bF, bF, bF, bF, bF, bF, bF] rfl rfl (take_ofW HT_.out HW_.out (by kernel_rfl)) (fun _ _ _ h => h) (Or.inl ⟨by rfl, ?_⟩) hHeld ?_ ?_
 rotate_left
 · rintro w' ⟨s0, s1, s2, s3, s4, s5, s6, s7, s8⟩
   go_simp
   with_reducible rfl
 rotate_left
 · simp only [Act.put, lA, lB, lC, i64_w, i32_w]
   rfl
 refine take_ (i := 12) (N := some 68) (v := ?_) (a' := ?_) #[bT, bT, bT, bF, bF, bT, bT, bT, bT, bF, bF, bT, bT, bF, bF, bF, bF, bF, bF] rfl rfl (take_ofW HT_.out HW_.out (by kernel_rfl)) (fun _ _ _ h => h) (Or.inl ⟨by rfl, ?_⟩) hHeld ?_ ?_
 rotate_left
 · rintro w' ⟨s0, s1, s2, s3, s4, s5, s6, s7, s8⟩
   go_simp
   with_reducible rfl
 rotate_left
 · simp only [Act.put, lA, lB, lC, i64_w, i32_w]
   rfl
 refine pure_ (i := 13) (N := some 69) (v := ?_) (a' := ?_) #[bT, bT, bT, bF, bF, bT, bT, bT, bT, bF, bF, bT, bT, bT, bF, bF, bF, bF, bF] rfl rfl (any_of HT_.out (by kernel_rfl)) (fun _ _ _ h => h) (Or.inl ⟨by rfl, ?_⟩) ?_ ?_
 rotate_left
 · intro w'
   go_simp
   with_reducible rfl
 rotate_left
 · simp only [Act.put, lA, lB, lC, i64_w, i32_w]
   rfl
 refine take_ (i := 14) (N := some 70) (v := ?_) (a' := ?_) #[bT, bT, bT, bF, bF, bT, bT, bT, bT, bF, bF, bT, bT, bT, bT, bF, bF, bF, bF] rfl rfl (take_ofW HT_.out HW_.out (by kernel_rfl)) (fun _ _ _ h => h) (Or.inl ⟨by rfl, ?_⟩) hHeld ?_ ?_
 rotate_left
 · rintro w' ⟨s0, s1, s2, s3, s4, s5, s6, s7, s8⟩
   go_simp
   with_reducible rfl
 rotate_left
 · simp only [Act.put, lA, lB, lC, i64_w, i32_w]
   rfl
 refine one_ (i := 3) (N := some 59) #[bT, bT, bT, bT, bF, bT, bT, bT, bT, bF, bF, bT, bT, bT, bT, bF, bF, bF, bF] rfl rfl (one_of HT_.out (by kernel_rfl)) (by decide) (fun K hK => ?_)
 refine goes_ Tryz.func22 (by kernel_rfl) rfl #[.int .i64 ((rd_T48 l0_1 x16_1).f3)] (by rfl) rfl rfl (by (try simp only [List.map_toArray, List.map_cons, List.map_nil]); first | done | rfl | (simp only [List.length_drop, List.length_take]; rfl)) ?_
 with_reducible refine (spec_l1Num.calls k2 ((rd_T48 l0_1 x16_1).f3) t182 _ A61.out).mono ?_
 rintro e w73 ⟨rfl, hb⟩
 refine ⟨_, rfl, ?_⟩
 have n0_ := Aside0.mk (bB BK169.out hb)
 have n1_ := Aside0.mk (bB BK172.out hb)
 have n2_ := Aside0.mk (below_step (by repeat (first | (with_reducible first | exact HB.out | apply below_alloc | apply pw_below_drewN | apply below_drew1 | refine below_set ?_ GE169.out | refine below_set ?_ GE172.out) | exact HB.out)) hb)
 clear BK169
 clear BK172
 clear HB
 have BK169 := n0_
 have BK172 := n1_
 have HB := n2_
 clear n0_ n1_ n2_
 (try clear hb)
 (try clear hb2)
 (try clear hk)
 (try clear hi)
 refine hK.out _ _ ⟨(blk_cell BK172.out 0).trans rfl, (blk_cell BK172.out 1).trans rfl, (blk_cell BK172.out 2).trans rfl, (blk_cell BK172.out 3).trans rfl, (blk_cell BK172.out 4).trans rfl, (cB HB.out hw183_0), (cB HB.out hw183_1), (cB HB.out hw185_0), (cB HB.out hw185_1)⟩ (fun hHeld => ?_)
 clear hK K
 refine norm_ (a' := ?_) ?_ ?_
 rotate_left
 · show Act.put _ (some 59) _ = _
   simp only [Act.put, lA, lB, lC, i64_w, i32_w]
   rfl
 refine pure_ (i := 4) (N := some 60) (v := ?_) (a' := ?_) #[bT, bT, bT, bT, bT, bT, bT, bT, bT, bF, bF, bT, bT, bT, bT, bF, bF, bF, bF] rfl rfl (any_of HT_.out (by kernel_rfl)) (fun _ _ _ h => h) (Or.inl ⟨by rfl, ?_⟩) ?_ ?_
 rotate_left
 · intro w'
   go_simp
   with_reducible rfl
 rotate_left
 · simp only [Act.put, lA, lB, lC, i64_w, i32_w]
   rfl
 refine one_ (i := 9) (N := some 65) #[bT, bT, bT, bT, bT, bT, bT, bT, bT, bT, bF, bT, bT, bT, bT, bF, bF, bF, bF] rfl rfl (one_of HT_.out (by kernel_rfl)) (by decide) (fun K hK => ?_)
 refine goes_ Tryz.func26 (by kernel_rfl) rfl #[.string ((⟨#[98, 114, 97, 110, 99, 104, 32]⟩ : ByteArray) ++ t182), .agg #[.int .i64 ((rd_T61 ((rd_T48 l0_1 x16_1).f4) 0).f0), .slice A183_1 ((rd_T61 ((rd_T48 l0_1 x16_1).f4) 0).f1).length c183_1]] (by rfl) rfl rfl (by (try simp only [List.map_toArray, List.map_cons, List.map_nil]); first | done | rfl | (simp only [List.length_drop, List.length_take]; rfl)) ?_
 with_reducible refine (spec_l20Jump.calls k2 ((⟨#[98, 114, 97, 110, 99, 104, 32]⟩ : ByteArray) ++ t182) ((rd_T61 ((rd_T48 l0_1 x16_1).f4) 0).f0) _ _ ((rd_T61 ((rd_T48 l0_1 x16_1).f4) 0).f1) t184 _ ?side1 ?side2 A64.out).mono ?_
 (case side1 => repeat (first | exact (Kd.C_below HR183_1.out HB.out) | (with_reducible refine Kd.C_alloc ?_ _) | (with_reducible refine Kd.C_drewN ?_ _) | (with_reducible refine Kd.C_drew ?_)))
 (case side2 => exact HC183_1.out)
 rintro e w74 ⟨rfl, hb⟩
 refine ⟨_, rfl, ?_⟩
 have n0_ := Aside0.mk (bB BK169.out hb)
 have n1_ := Aside0.mk (bB BK172.out hb)
 have n2_ := Aside0.mk (below_step (by repeat (first | (with_reducible first | exact HB.out | apply below_alloc | apply pw_below_drewN | apply below_drew1 | refine below_set ?_ GE169.out | refine below_set ?_ GE172.out) | exact HB.out)) hb)
 clear BK169
 clear BK172
 clear HB
 have BK169 := n0_
 have BK172 := n1_
 have HB := n2_
 clear n0_ n1_ n2_
 (try clear hb)
 (try clear hb2)
 (try clear hk)
 (try clear hi)
 refine hK.out _ _ ⟨(blk_cell BK172.out 0).trans rfl, (blk_cell BK172.out 1).trans rfl, (blk_cell BK172.out 2).trans rfl, (blk_cell BK172.out 3).trans rfl, (blk_cell BK172.out 4).trans rfl, (cB HB.out hw183_0), (cB HB.out hw183_1), (cB HB.out hw185_0), (cB HB.out hw185_1)⟩ (fun hHeld => ?_)
 clear hK K
 refine norm_ (a' := ?_) ?_ ?_
 rotate_left
 · show Act.put _ (some 65) _ = _
   simp only [Act.put, lA, lB, lC, i64_w, i32_w]
   rfl
 refine pure_ (i := 10) (N := some 66) (v := ?_) (a' := ?_) #[bT, bT, bT, bT, bT, bT, bT, bT, bT, bT, bT, bT, bT, bT, bT, bF, bF, bF, bF] rfl rfl (any_of HT_.out (by kernel_rfl)) (fun _ _ _ h => h) (Or.inl ⟨by rfl, ?_⟩) ?_ ?_
 rotate_left
 · intro w'
   go_simp
   with_reducible rfl
 rotate_left
 · simp only [Act.put, lA, lB, lC, i64_w, i32_w]
   rfl
 refine one_ (i := 15) (N := some 71) #[bT, bT, bT, bT, bT, bT, bT, bT, bT, bT, bT, bT, bT, bT, bT, bT, bF, bF, bF] rfl rfl (one_of HT_.out (by kernel_rfl)) (by decide) (fun K hK => ?_)
 refine goes_ Tryz.func26 (by kernel_rfl) rfl #[.string (t184 ++ (⟨#[32, 124]⟩ : ByteArray)), .agg #[.int .i64 ((rd_T61 ((rd_T48 l0_1 x16_1).f4) 1).f0), .slice A185_1 ((rd_T61 ((rd_T48 l0_1 x16_1).f4) 1).f1).length c185_1]] (by rfl) rfl rfl (by (try simp only [List.map_toArray, List.map_cons, List.map_nil]); first | done | rfl | (simp only [List.length_drop, List.length_take]; rfl)) ?_
 with_reducible refine (spec_l20Jump.calls k2 (t184 ++ (⟨#[32, 124]⟩ : ByteArray)) ((rd_T61 ((rd_T48 l0_1 x16_1).f4) 1).f0) _ _ ((rd_T61 ((rd_T48 l0_1 x16_1).f4) 1).f1) t186 _ ?side1 ?side2 A67.out).mono ?_
 (case side1 => repeat (first | exact (Kd.C_below HR185_1.out HB.out) | (with_reducible refine Kd.C_alloc ?_ _) | (with_reducible refine Kd.C_drewN ?_ _) | (with_reducible refine Kd.C_drew ?_)))
 (case side2 => exact HC185_1.out)
 rintro e w75 ⟨rfl, hb⟩
 refine ⟨_, rfl, ?_⟩
 have n0_ := Aside0.mk (bB BK169.out hb)
 have n1_ := Aside0.mk (bB BK172.out hb)
 have n2_ := Aside0.mk (below_step (by repeat (first | (with_reducible first | exact HB.out | apply below_alloc | apply pw_below_drewN | apply below_drew1 | refine below_set ?_ GE169.out | refine below_set ?_ GE172.out) | exact HB.out)) hb)
 clear BK169
 clear BK172
 clear HB
 have BK169 := n0_
 have BK172 := n1_
 have HB := n2_
 clear n0_ n1_ n2_
 (try clear hb)
 (try clear hb2)
 (try clear hk)
 (try clear hi)
 refine hK.out _ _ ⟨(blk_cell BK172.out 0).trans rfl, (blk_cell BK172.out 1).trans rfl, (blk_cell BK172.out 2).trans rfl, (blk_cell BK172.out 3).trans rfl, (blk_cell BK172.out 4).trans rfl, (cB HB.out hw183_0), (cB HB.out hw183_1), (cB HB.out hw185_0), (cB HB.out hw185_1)⟩ (fun hHeld => ?_)
 clear hK K
 refine norm_ (a' := ?_) ?_ ?_
 rotate_left
 · show Act.put _ (some 71) _ = _
   simp only [Act.put, lA, lB, lC, i64_w, i32_w]
   rfl
 refine pure_ (i := 16) (N := some 72) (v := ?_) (a' := ?_) #[bT, bT, bT, bT, bT, bT, bT, bT, bT, bT, bT, bT, bT, bT, bT, bT, bT, bF, bF] rfl rfl (any_of HT_.out (by kernel_rfl)) (fun _ _ _ h => h) (Or.inl ⟨by rfl, ?_⟩) ?_ ?_
 rotate_left
 · intro w'
   go_simp
   with_reducible rfl
 rotate_left
 · simp only [Act.put, lA, lB, lC, i64_w, i32_w]
   rfl
 refine pure_ (i := 17) (N := some 73) (v := ?_) (a' := ?_) #[bT, bT, bT, bT, bT, bT, bT, bT, bT, bT, bT, bT, bT, bT, bT, bT, bT, bT, bF] rfl rfl (any_of HT_.out (by kernel_rfl)) (fun _ _ _ h => h) (Or.inl ⟨by rfl, ?_⟩) ?_ ?_
 rotate_left
 · intro w'
   go_simp
   with_reducible rfl
 rotate_left
 · simp only [Act.put, lA, lB, lC, i64_w, i32_w]
   rfl
 refine pure_ (i := 18) (N := some 3) (v := ?_) (a' := ?_) #[bT, bT, bT, bT, bT, bT, bT, bT, bT, bT, bT, bT, bT, bT, bT, bT, bT, bT, bT] rfl rfl (any_of HT_.out (by kernel_rfl)) (fun _ _ _ h => h) (Or.inl ⟨by rfl, ?_⟩) ?_ ?_
 rotate_left
 · intro w'
   go_simp
   with_reducible rfl
 rotate_left
 · simp only [Act.put, lA, lB, lC, i64_w, i32_w]
   rfl
 refine done_ (done_of HT_.out (by kernel_rfl)) ?_
 try go_wp2
 go_roundg k2
 case measure => have := HK1.out; have := HK2.out; omega
 exact ⟨(x3_2 ++ (t186 ++ (⟨#[10]⟩ : ByteArray))), (wrap64 (x16_1 + 1)), (by first | rfl | (simp; done) | (simp [*]; done)), (by first | rfl | (simp; done) | (simp [*]; done)), H', ⟨by have := HK1.out; have := HK2.out; omega⟩, ⟨by (with_reducible repeat (first | refine blk_drewN ?_ _ | refine blk_drew ?_ | refine blk_alloc ?_ _)); exact BK169.out⟩, ⟨by repeat (first | (with_reducible first | exact HB.out | apply below_alloc | apply pw_below_drewN | apply below_drew1 | refine below_set ?_ GE169.out | refine below_set ?_ GE172.out) | exact HB.out)⟩⟩
end Go.Proofs.YtjpkcbkkjefekaaGreatDoor.PA
