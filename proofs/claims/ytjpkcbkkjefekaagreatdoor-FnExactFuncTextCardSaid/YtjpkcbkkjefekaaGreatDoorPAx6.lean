/- A part of the session's texts, laid small by the session's shrink.py. -/
import Derived.Test.YtjpkcbkkjefekaaGreatDoorPAx0
import Derived.Test.YtjpkcbkkjefekaaGreatDoorPAx5
namespace Go.Proofs.YtjpkcbkkjefekaaGreatDoor.PA
open Go.RowKit Go.Proofs.YtjpkcbkkjefekaaGreatDoorW.PrintWords Go.Proofs.YtjpkcbkkjefekaaGreatDoorW.PrintLast Go.Proofs.YtjpkcbkkjefekaaGreatDoorW.PrintMore
attribute [local go_sem] max2_int min2_int max_two min_two max_three min_three max_four min_four
set_option linter.unusedVariables false
set_option linter.unusedSimpArgs false
def spec_l20Word.f (a0 : Int) : Option (ByteArray) := if a0 = 1 then (some (⟨#[110, 117, 109]⟩ : ByteArray)) else (if a0 = 3 then (some (⟨#[110, 101, 103]⟩ : ByteArray)) else (if a0 = 4 then (some (⟨#[97, 100, 100]⟩ : ByteArray)) else (if a0 = 5 then (some (⟨#[115, 117, 98]⟩ : ByteArray)) else (if a0 = 6 then (some (⟨#[109, 117, 108]⟩ : ByteArray)) else (if a0 = 7 then (some (⟨#[115, 104, 108]⟩ : ByteArray)) else (if a0 = 8 then (some (⟨#[100, 105, 118]⟩ : ByteArray)) else (if a0 = 9 then (some (⟨#[101, 113]⟩ : ByteArray)) else (if a0 = 10 then (some (⟨#[108, 101, 115, 115]⟩ : ByteArray)) else (if a0 = 11 then (some (⟨#[105, 102]⟩ : ByteArray)) else (if a0 = 12 then (some (⟨#[108, 111, 97, 100]⟩ : ByteArray)) else (if a0 = 13 then (some (⟨#[115, 116, 111, 114, 101]⟩ : ByteArray)) else (some (⟨#[]⟩ : ByteArray)))))))))))))
set_option maxHeartbeats 8000000 in
set_option maxRecDepth 100000 in
theorem spec_l20Word.calls (a0 : Int) (r : ByteArray) (w : World) (h : spec_l20Word.f a0 = some r) :
    Calls Tryz.prog 25 #[.int .i64 a0] w fun e w' => e = .returned (.string r) ∧ Drawn0 w w' := by
 have H : (if a0 = 1 then (some (⟨#[110, 117, 109]⟩ : ByteArray)) else (if a0 = 3 then (some (⟨#[110, 101, 103]⟩ : ByteArray)) else (if a0 = 4 then (some (⟨#[97, 100, 100]⟩ : ByteArray)) else (if a0 = 5 then (some (⟨#[115, 117, 98]⟩ : ByteArray)) else (if a0 = 6 then (some (⟨#[109, 117, 108]⟩ : ByteArray)) else (if a0 = 7 then (some (⟨#[115, 104, 108]⟩ : ByteArray)) else (if a0 = 8 then (some (⟨#[100, 105, 118]⟩ : ByteArray)) else (if a0 = 9 then (some (⟨#[101, 113]⟩ : ByteArray)) else (if a0 = 10 then (some (⟨#[108, 101, 115, 115]⟩ : ByteArray)) else (if a0 = 11 then (some (⟨#[105, 102]⟩ : ByteArray)) else (if a0 = 12 then (some (⟨#[108, 111, 97, 100]⟩ : ByteArray)) else (if a0 = 13 then (some (⟨#[115, 116, 111, 114, 101]⟩ : ByteArray)) else (some (⟨#[]⟩ : ByteArray)))))))))))))) = some r := h
 clear h
 by_cases c2 : a0 = 1
 · rw [if_pos c2] at H
   have c2b0 : (a0 == 1) = true := beq_iff_eq.mpr c2
   have c2b1 : (a0 != 1) = false := bne_eq_false_iff_eq.mpr c2
   clear c2
   obtain rfl := Option.some.inj H
   go_enter Tryz.func25, Tryz.ntmps25
   go_wp2
   go_ret
   exact ⟨by first | rfl | (simp; done) | (simp [*]; done), by repeat (first | exact Drawn0.refl _ | apply Drawn0.step)⟩
 rw [if_neg c2] at H
 have c2b0 : (a0 == 1) = false := beq_eq_false_iff_ne.mpr c2
 have c2b1 : (a0 != 1) = true := bne_iff_ne.mpr c2
 by_cases c3 : a0 = 3
 · rw [if_pos c3] at H
   have c3b0 : (a0 == 3) = true := beq_iff_eq.mpr c3
   have c3b1 : (a0 != 3) = false := bne_eq_false_iff_eq.mpr c3
   clear c3
   obtain rfl := Option.some.inj H
   go_enter Tryz.func25, Tryz.ntmps25
   go_wp2
   go_ret
   exact ⟨by first | rfl | (simp; done) | (simp [*]; done), by repeat (first | exact Drawn0.refl _ | apply Drawn0.step)⟩
 rw [if_neg c3] at H
 have c3b0 : (a0 == 3) = false := beq_eq_false_iff_ne.mpr c3
 have c3b1 : (a0 != 3) = true := bne_iff_ne.mpr c3
 by_cases c4 : a0 = 4
 · rw [if_pos c4] at H
   have c4b0 : (a0 == 4) = true := beq_iff_eq.mpr c4
   have c4b1 : (a0 != 4) = false := bne_eq_false_iff_eq.mpr c4
   clear c4
   obtain rfl := Option.some.inj H
   go_enter Tryz.func25, Tryz.ntmps25
   go_wp2
   go_ret
   exact ⟨by first | rfl | (simp; done) | (simp [*]; done), by repeat (first | exact Drawn0.refl _ | apply Drawn0.step)⟩
 rw [if_neg c4] at H
 have c4b0 : (a0 == 4) = false := beq_eq_false_iff_ne.mpr c4
 have c4b1 : (a0 != 4) = true := bne_iff_ne.mpr c4
 by_cases c5 : a0 = 5
 · rw [if_pos c5] at H
   have c5b0 : (a0 == 5) = true := beq_iff_eq.mpr c5
   have c5b1 : (a0 != 5) = false := bne_eq_false_iff_eq.mpr c5
   clear c5
   obtain rfl := Option.some.inj H
   go_enter Tryz.func25, Tryz.ntmps25
   go_wp2
   go_ret
   exact ⟨by first | rfl | (simp; done) | (simp [*]; done), by repeat (first | exact Drawn0.refl _ | apply Drawn0.step)⟩
 rw [if_neg c5] at H
 have c5b0 : (a0 == 5) = false := beq_eq_false_iff_ne.mpr c5
 have c5b1 : (a0 != 5) = true := bne_iff_ne.mpr c5
 by_cases c6 : a0 = 6
 · rw [if_pos c6] at H
   have c6b0 : (a0 == 6) = true := beq_iff_eq.mpr c6
   have c6b1 : (a0 != 6) = false := bne_eq_false_iff_eq.mpr c6
   clear c6
   obtain rfl := Option.some.inj H
   go_enter Tryz.func25, Tryz.ntmps25
   go_wp2
   go_ret
   exact ⟨by first | rfl | (simp; done) | (simp [*]; done), by repeat (first | exact Drawn0.refl _ | apply Drawn0.step)⟩
 rw [if_neg c6] at H
 have c6b0 : (a0 == 6) = false := beq_eq_false_iff_ne.mpr c6
 have c6b1 : (a0 != 6) = true := bne_iff_ne.mpr c6
 by_cases c7 : a0 = 7
 · rw [if_pos c7] at H
   have c7b0 : (a0 == 7) = true := beq_iff_eq.mpr c7
   have c7b1 : (a0 != 7) = false := bne_eq_false_iff_eq.mpr c7
   clear c7
   obtain rfl := Option.some.inj H
   go_enter Tryz.func25, Tryz.ntmps25
   go_wp2
   go_ret
   exact ⟨by first | rfl | (simp; done) | (simp [*]; done), by repeat (first | exact Drawn0.refl _ | apply Drawn0.step)⟩
 rw [if_neg c7] at H
 have c7b0 : (a0 == 7) = false := beq_eq_false_iff_ne.mpr c7
 have c7b1 : (a0 != 7) = true := bne_iff_ne.mpr c7
 by_cases c8 : a0 = 8
 · rw [if_pos c8] at H
   have c8b0 : (a0 == 8) = true := beq_iff_eq.mpr c8
   have c8b1 : (a0 != 8) = false := bne_eq_false_iff_eq.mpr c8
   clear c8
   obtain rfl := Option.some.inj H
   go_enter Tryz.func25, Tryz.ntmps25
   go_wp2
   go_ret
   exact ⟨by first | rfl | (simp; done) | (simp [*]; done), by repeat (first | exact Drawn0.refl _ | apply Drawn0.step)⟩
 rw [if_neg c8] at H
 have c8b0 : (a0 == 8) = false := beq_eq_false_iff_ne.mpr c8
 have c8b1 : (a0 != 8) = true := bne_iff_ne.mpr c8
 by_cases c9 : a0 = 9
 · rw [if_pos c9] at H
   have c9b0 : (a0 == 9) = true := beq_iff_eq.mpr c9
   have c9b1 : (a0 != 9) = false := bne_eq_false_iff_eq.mpr c9
   clear c9
   obtain rfl := Option.some.inj H
   go_enter Tryz.func25, Tryz.ntmps25
   go_wp2
   go_ret
   exact ⟨by first | rfl | (simp; done) | (simp [*]; done), by repeat (first | exact Drawn0.refl _ | apply Drawn0.step)⟩
 rw [if_neg c9] at H
 have c9b0 : (a0 == 9) = false := beq_eq_false_iff_ne.mpr c9
 have c9b1 : (a0 != 9) = true := bne_iff_ne.mpr c9
 by_cases c10 : a0 = 10
 · rw [if_pos c10] at H
   have c10b0 : (a0 == 10) = true := beq_iff_eq.mpr c10
   have c10b1 : (a0 != 10) = false := bne_eq_false_iff_eq.mpr c10
   clear c10
   obtain rfl := Option.some.inj H
   go_enter Tryz.func25, Tryz.ntmps25
   go_wp2
   go_ret
   exact ⟨by first | rfl | (simp; done) | (simp [*]; done), by repeat (first | exact Drawn0.refl _ | apply Drawn0.step)⟩
 rw [if_neg c10] at H
 have c10b0 : (a0 == 10) = false := beq_eq_false_iff_ne.mpr c10
 have c10b1 : (a0 != 10) = true := bne_iff_ne.mpr c10
 by_cases c11 : a0 = 11
 · rw [if_pos c11] at H
   have c11b0 : (a0 == 11) = true := beq_iff_eq.mpr c11
   have c11b1 : (a0 != 11) = false := bne_eq_false_iff_eq.mpr c11
   clear c11
   obtain rfl := Option.some.inj H
   go_enter Tryz.func25, Tryz.ntmps25
   go_wp2
   go_ret
   exact ⟨by first | rfl | (simp; done) | (simp [*]; done), by repeat (first | exact Drawn0.refl _ | apply Drawn0.step)⟩
 rw [if_neg c11] at H
 have c11b0 : (a0 == 11) = false := beq_eq_false_iff_ne.mpr c11
 have c11b1 : (a0 != 11) = true := bne_iff_ne.mpr c11
 by_cases c12 : a0 = 12
 · rw [if_pos c12] at H
   have c12b0 : (a0 == 12) = true := beq_iff_eq.mpr c12
   have c12b1 : (a0 != 12) = false := bne_eq_false_iff_eq.mpr c12
   clear c12
   obtain rfl := Option.some.inj H
   go_enter Tryz.func25, Tryz.ntmps25
   go_wp2
   go_ret
   exact ⟨by first | rfl | (simp; done) | (simp [*]; done), by repeat (first | exact Drawn0.refl _ | apply Drawn0.step)⟩
 rw [if_neg c12] at H
 have c12b0 : (a0 == 12) = false := beq_eq_false_iff_ne.mpr c12
 have c12b1 : (a0 != 12) = true := bne_iff_ne.mpr c12
 by_cases c13 : a0 = 13
 · rw [if_pos c13] at H
   have c13b0 : (a0 == 13) = true := beq_iff_eq.mpr c13
   have c13b1 : (a0 != 13) = false := bne_eq_false_iff_eq.mpr c13
   clear c13
   obtain rfl := Option.some.inj H
   go_enter Tryz.func25, Tryz.ntmps25
   go_wp2
   go_ret
   exact ⟨by first | rfl | (simp; done) | (simp [*]; done), by repeat (first | exact Drawn0.refl _ | apply Drawn0.step)⟩
 rw [if_neg c13] at H
 have c13b0 : (a0 == 13) = false := beq_eq_false_iff_ne.mpr c13
 have c13b1 : (a0 != 13) = true := bne_iff_ne.mpr c13
 obtain rfl := Option.some.inj H
 go_enter Tryz.func25, Tryz.ntmps25
 go_wp2
 go_ret
 exact ⟨by first | rfl | (simp; done) | (simp [*]; done), by repeat (first | exact Drawn0.refl _ | apply Drawn0.step)⟩
def spec_l20Jump.f (k : Nat) (a0 : ByteArray) (a1_0 : Int) (l1_1 : List Int) : Option (ByteArray) := if a0.size + 1 ≤ 9223372036854775807 then ((spec_l1Num.f k a1_0).bind fun t167 => (if (a0 ++ (⟨#[32]⟩ : ByteArray)).size + t167.size ≤ 9223372036854775807 then ((spec_l20List.f k ((a0 ++ (⟨#[32]⟩ : ByteArray)) ++ t167) l1_1).bind fun t168 => (some t168)) else (none))) else (none)
def spec_l20Jump.T1 : Bool × List (List Nat × List Nat) := (true, [([], []), ([0], [0]), ([], []), ([2], [2]), ([3], [3]), ([1, 4], [1, 4]), ([], []), ([6], [6]), ([5, 7, 4], [5, 7]), ([8, 8, 0, 1, 2, 3, 4, 5, 6, 7, 8], [8])])
def spec_l20Jump.B1 : List Nat := [0, 1, 0, 4, 12, 31, 0, 64, 255, 511]
theorem spec_l20Jump.tab1 : rtab .any (opsOf Tryz.f26 1) = spec_l20Jump.T1 := by kernel_rfl
theorem spec_l20Jump.bits1 : waitsOk spec_l20Jump.T1.2 spec_l20Jump.B1 = true := by kernel_rfl
set_option maxHeartbeats 8000000 in
set_option maxRecDepth 100000 in
theorem spec_l20Jump.calls (k : Nat) (a0 : ByteArray) (a1_0 : Int) (A1_1 : Option Addr) (c1_1 : Nat) (l1_1 : List Int) (r : ByteArray) (w : World) (hr1_1 : Kd.C (Kd.int .i64) w A1_1 l1_1.length l1_1) (hc1_1 : l1_1.length ≤ c1_1) (h : spec_l20Jump.f k a0 a1_0 l1_1 = some r) :
    Calls Tryz.prog 26 #[.string a0, .agg #[.int .i64 a1_0, .slice A1_1 l1_1.length c1_1]] w fun e w' => e = .returned (.string r) ∧ Below w.heap.size w w' := by
 have hu61 := Tryz.underlying61
 have HR1_1 := Aside0.mk hr1_1
 have HC1_1 := Aside0.mk hc1_1
 clear hr1_1 hc1_1
 have HB := Aside0.mk (Below.refl w.heap.size w)
 have H : (if a0.size + 1 ≤ 9223372036854775807 then ((spec_l1Num.f k a1_0).bind fun t167 => (if (a0 ++ (⟨#[32]⟩ : ByteArray)).size + t167.size ≤ 9223372036854775807 then ((spec_l20List.f k ((a0 ++ (⟨#[32]⟩ : ByteArray)) ++ t167) l1_1).bind fun t168 => (some t168)) else (none))) else (none)) = some r := h
 clear h
 by_cases c3 : a0.size + 1 ≤ 9223372036854775807
 rotate_left
 · rw [if_neg c3] at H
   exact absurd H (by simp)
 rw [if_pos c3] at H
 have c3b0 := eq_true c3
 have c3b1 : decide (a0.size + 1 ≤ 9223372036854775807) = true := decide_eq_true c3
 try have c3b2 : (9223372036854775807 < a0.size + 1) = False := eq_false (Nat.not_lt.2 c3)
 replace H := Option.bind_eq_some_iff.mp H
 obtain ⟨t167, A40, H⟩ := H
 replace H : (if (a0 ++ (⟨#[32]⟩ : ByteArray)).size + t167.size ≤ 9223372036854775807 then ((spec_l20List.f k ((a0 ++ (⟨#[32]⟩ : ByteArray)) ++ t167) l1_1).bind fun t168 => (some t168)) else (none)) = some r := H
 have A4 := Aside0.mk A40
 clear A40
 by_cases c5 : (a0 ++ (⟨#[32]⟩ : ByteArray)).size + t167.size ≤ 9223372036854775807
 rotate_left
 · rw [if_neg c5] at H
   exact absurd H (by simp)
 rw [if_pos c5] at H
 have c5b0 := eq_true c5
 have c5b1 : decide ((a0 ++ (⟨#[32]⟩ : ByteArray)).size + t167.size ≤ 9223372036854775807) = true := decide_eq_true c5
 try have c5b2 : (9223372036854775807 < (a0 ++ (⟨#[32]⟩ : ByteArray)).size + t167.size) = False := eq_false (Nat.not_lt.2 c5)
 try have c5b9 : (9223372036854775807 < a0.size + 1 + t167.size) = False := eq_false (Nat.not_lt.2 (by have h := c5; simp only [ByteArray.size_append] at h; exact h))
 replace H := Option.bind_eq_some_iff.mp H
 obtain ⟨t168, A60, H⟩ := H
 replace H : (some t168) = some r := H
 have A6 := Aside0.mk A60
 clear A60
 obtain rfl := Option.some.inj H
 go_enter Tryz.func26, Tryz.ntmps26
 try go_wp2_with (first | ((with_reducible refine gate_dst (N := 3) rfl ?_); refine box_event ?hg (N := 3) ?hd (cs := #[.int .i64 a1_0, .slice A1_1 l1_1.length c1_1]) (t := 61) ?hr ?_; (case hd => rfl); (case hg => rfl); (case hr => first | (go_simp; done) | (go_simp; rfl)); intro gb166 hg w7 hbox hb; have n0_ := Aside0.mk (below_step (by repeat (first | (with_reducible first | exact HB.out | apply below_alloc | apply pw_below_drewN | apply below_drew1) | exact HB.out)) hb); have n1_ := Aside0.mk (hbox); have n2_ := Aside0.mk ((by rw [hg]; exact (below_size (by repeat (first | (with_reducible first | exact HB.out | apply below_alloc | apply pw_below_drewN | apply below_drew1) | exact HB.out))) : w.heap.size ≤ gb166)); have n3_ := n2_; clear HB; have HB := n0_; have BK166 := n1_; have GW166 := n2_; have GE166 := n3_; clear n0_ n1_ n2_ n3_; clear hb hbox hg))
 have n0_ := Aside0.mk (blk_drew BK166.out)
 have n1_ := Aside0.mk (below_drew1 HB.out)
 clear BK166
 clear HB
 have BK166 := n0_
 have HB := n1_
 clear n0_ n1_
 refine start_ (n := 10) (S := fun w' => w'.cell? ⟨gb166, 0, none⟩ = some (.int .i64 a1_0) ∧ w'.cell? ⟨gb166, 1, none⟩ = some (.slice A1_1 l1_1.length c1_1)) (ds := []) #[bF, bF, bF, bF, bF, bF, bF, bF, bF, bF] (by kernel_rfl) rfl rfl ⟨(blk_cell BK166.out 0).trans rfl, (blk_cell BK166.out 1).trans rfl⟩ (fun hHeld => ?_); refine with_tabW spec_l20Jump.tab1 spec_l20Jump.bits1 (fun HT_ HW_ => ?_)
 generalize w7.drew = w8 at BK166 HB hHeld ⊢
 refine pure_ (i := 0) (N := some 5) (v := ?_) (a' := ?_) #[bT, bF, bF, bF, bF, bF, bF, bF, bF, bF] rfl rfl (any_of HT_.out (by kernel_rfl)) (fun _ _ _ h => h) (Or.inl ⟨by rfl, ?_⟩) ?_ ?_
 rotate_left
 · intro w'
   go_simp
   with_reducible rfl
 rotate_left
 · simp only [Act.put, lA, lB, lC, i64_w, i32_w]
   rfl
 refine pure_ (i := 1) (N := some 6) (v := ?_) (a' := ?_) #[bT, bT, bF, bF, bF, bF, bF, bF, bF, bF] rfl rfl (any_of HT_.out (by kernel_rfl)) (fun _ _ _ h => h) (Or.inl ⟨by rfl, ?_⟩) ?_ ?_
 rotate_left
 · intro w'
   go_simp
   with_reducible rfl
 rotate_left
 · simp only [Act.put, lA, lB, lC, i64_w, i32_w]
   rfl
 refine pure_ (i := 2) (N := some 7) (v := ?_) (a' := ?_) #[bT, bT, bT, bF, bF, bF, bF, bF, bF, bF] rfl rfl (any_of HT_.out (by kernel_rfl)) (fun _ _ _ h => h) (Or.inl ⟨by rfl, ?_⟩) ?_ ?_
 rotate_left
 · intro w'
   go_simp
   with_reducible rfl
 rotate_left
 · simp only [Act.put, lA, lB, lC, i64_w, i32_w]
   rfl
 refine pure_ (i := 6) (N := some 11) (v := ?_) (a' := ?_) #[bT, bT, bT, bF, bF, bF, bT, bF, bF, bF] rfl rfl (any_of HT_.out (by kernel_rfl)) (fun _ _ _ h => h) (Or.inl ⟨by rfl, ?_⟩) ?_ ?_
 rotate_left
 · intro w'
   go_simp
   with_reducible rfl
 rotate_left
 · simp only [Act.put, lA, lB, lC, i64_w, i32_w]
   rfl
 refine take_ (i := 3) (N := some 8) (v := ?_) (a' := ?_) #[bT, bT, bT, bT, bF, bF, bT, bF, bF, bF] rfl rfl (take_ofW HT_.out HW_.out (by kernel_rfl)) (fun _ _ _ h => h) (Or.inl ⟨by rfl, ?_⟩) hHeld ?_ ?_
 rotate_left
 · rintro w' ⟨s0, s1⟩
   go_simp
   with_reducible rfl
 rotate_left
 · simp only [Act.put, lA, lB, lC, i64_w, i32_w]
   rfl
 refine take_ (i := 7) (N := some 12) (v := ?_) (a' := ?_) #[bT, bT, bT, bT, bF, bF, bT, bT, bF, bF] rfl rfl (take_ofW HT_.out HW_.out (by kernel_rfl)) (fun _ _ _ h => h) (Or.inl ⟨by rfl, ?_⟩) hHeld ?_ ?_
 rotate_left
 · rintro w' ⟨s0, s1⟩
   go_simp
   with_reducible rfl
 rotate_left
 · simp only [Act.put, lA, lB, lC, i64_w, i32_w]
   rfl
 refine one_ (i := 4) (N := some 9) #[bT, bT, bT, bT, bT, bF, bT, bT, bF, bF] rfl rfl (one_of HT_.out (by kernel_rfl)) (by decide) (fun K hK => ?_)
 refine goes_ Tryz.func22 (by kernel_rfl) rfl #[.int .i64 a1_0] (by rfl) rfl rfl (by (try simp only [List.map_toArray, List.map_cons, List.map_nil]); first | done | rfl | (simp only [List.length_drop, List.length_take]; rfl)) ?_
 with_reducible refine (spec_l1Num.calls k a1_0 t167 _ A4.out).mono ?_
 rintro e w9 ⟨rfl, hb⟩
 refine ⟨_, rfl, ?_⟩
 have n0_ := Aside0.mk (bB BK166.out hb)
 have n1_ := Aside0.mk (below_step (by repeat (first | (with_reducible first | exact HB.out | apply below_alloc | apply pw_below_drewN | apply below_drew1 | refine below_set ?_ GE166.out) | exact HB.out)) hb)
 clear BK166
 clear HB
 have BK166 := n0_
 have HB := n1_
 clear n0_ n1_
 (try clear hb)
 (try clear hb2)
 (try clear hk)
 (try clear hi)
 refine hK.out _ _ ⟨(blk_cell BK166.out 0).trans rfl, (blk_cell BK166.out 1).trans rfl⟩ (fun hHeld => ?_)
 clear hK K
 refine norm_ (a' := ?_) ?_ ?_
 rotate_left
 · show Act.put _ (some 9) _ = _
   simp only [Act.put, lA, lB, lC, i64_w, i32_w]
   rfl
 refine pure_ (i := 5) (N := some 10) (v := ?_) (a' := ?_) #[bT, bT, bT, bT, bT, bT, bT, bT, bF, bF] rfl rfl (any_of HT_.out (by kernel_rfl)) (fun _ _ _ h => h) (Or.inl ⟨by rfl, ?_⟩) ?_ ?_
 rotate_left
 · intro w'
   go_simp
   with_reducible rfl
 rotate_left
 · simp only [Act.put, lA, lB, lC, i64_w, i32_w]
   rfl
 refine one_ (i := 8) (N := some 13) #[bT, bT, bT, bT, bT, bT, bT, bT, bT, bF] rfl rfl (one_of HT_.out (by kernel_rfl)) (by decide) (fun K hK => ?_)
 refine goes_ Tryz.func24 (by kernel_rfl) rfl #[.string ((a0 ++ (⟨#[32]⟩ : ByteArray)) ++ t167), .slice A1_1 l1_1.length c1_1] (by rfl) rfl rfl (by (try simp only [List.map_toArray, List.map_cons, List.map_nil]); first | done | rfl | (simp only [List.length_drop, List.length_take]; rfl)) ?_
 with_reducible refine (spec_l20List.calls k ((a0 ++ (⟨#[32]⟩ : ByteArray)) ++ t167) _ _ l1_1 t168 _ ?side1 ?side2 A6.out).mono ?_
 (case side1 => repeat (first | exact (Kd.C_below HR1_1.out HB.out) | (with_reducible refine Kd.C_alloc ?_ _) | (with_reducible refine Kd.C_drewN ?_ _) | (with_reducible refine Kd.C_drew ?_)))
 (case side2 => exact HC1_1.out)
 rintro e w10 ⟨rfl, hb⟩
 refine ⟨_, rfl, ?_⟩
 have n0_ := Aside0.mk (bB BK166.out hb)
 have n1_ := Aside0.mk (below_step (by repeat (first | (with_reducible first | exact HB.out | apply below_alloc | apply pw_below_drewN | apply below_drew1 | refine below_set ?_ GE166.out) | exact HB.out)) hb)
 clear BK166
 clear HB
 have BK166 := n0_
 have HB := n1_
 clear n0_ n1_
 (try clear hb)
 (try clear hb2)
 (try clear hk)
 (try clear hi)
 refine hK.out _ _ ⟨(blk_cell BK166.out 0).trans rfl, (blk_cell BK166.out 1).trans rfl⟩ (fun hHeld => ?_)
 clear hK K
 refine norm_ (a' := ?_) ?_ ?_
 rotate_left
 · show Act.put _ (some 13) _ = _
   simp only [Act.put, lA, lB, lC, i64_w, i32_w]
   rfl
 refine pure_ (i := 9) (N := some 4) (v := ?_) (a' := ?_) #[bT, bT, bT, bT, bT, bT, bT, bT, bT, bT] rfl rfl (any_of HT_.out (by kernel_rfl)) (fun _ _ _ h => h) (Or.inl ⟨by rfl, ?_⟩) ?_ ?_
 rotate_left
 · intro w'
   go_simp
   with_reducible rfl
 rotate_left
 · simp only [Act.put, lA, lB, lC, i64_w, i32_w]
   rfl
 refine done_ (done_of HT_.out (by kernel_rfl)) ?_
 try go_wp2
 go_ret
 exact ⟨by first | rfl | (simp [errW_none, errW_some] <;> rfl) | (simp [*, errW_none, errW_some] <;> rfl), by repeat (first | (with_reducible first | exact HB.out | apply below_alloc | apply pw_below_drewN | apply below_drew1 | refine below_set ?_ GE166.out) | exact HB.out)⟩
end Go.Proofs.YtjpkcbkkjefekaaGreatDoor.PA
