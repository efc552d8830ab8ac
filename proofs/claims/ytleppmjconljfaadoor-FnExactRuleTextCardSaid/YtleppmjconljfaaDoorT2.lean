/- The walk of trees; conditions: none but what is read. -/
import Derived.Test.YtleppmjconljfaaDoorTP
import Derived.Test.YtleppmjconljfaaDoorT1
import Derived.Test.YtleppmjconljfaaDoorPAx
namespace Go.Proofs.YtleppmjconljfaaDoor.T1
open Go.RowKit Go.Proofs.YtleppmjconljfaaDoorW.PrintWords Go.Proofs.YtleppmjconljfaaDoorW.PrintLast Go.Proofs.YtleppmjconljfaaDoorW.PrintMore
open Go.Proofs.YtleppmjconljfaaDoor.Tree Go.Proofs.YtleppmjconljfaaDoor.PA
set_option linter.unusedVariables false
set_option linter.unusedSimpArgs false

def nd (x : S50) : Nd := (x.f0, x.f1)
def nds (l : List S50) : List Nd := l.map nd

theorem numOK_f (a n : Int) : impl_numOK.f a n = some (okN (a, n)) := by
  unfold impl_numOK.f impl_isOp.f impl_within.f okN
  by_cases h1 : a = 1
  · simp [h1]
  · by_cases h2 : a = 2
    · subst h2
      by_cases h3 : n ≥ 0 <;> simp [h3]
      all_goals omega
    · simp only [if_neg h1, if_neg h2]
      by_cases h3 : a ≥ 1
      · by_cases h4 : a ≤ 11 <;> by_cases h5 : n = 0 <;> simp [h3, h4, h5]
      · simp [h3]
theorem arity_f (a : Int) : impl_arity.f 1 a = some (arN a : Int) := by
  unfold impl_arity.f arN
  by_cases h1 : a = 1
  · subst h1; rfl
  · by_cases h2 : a = 2
    · subst h2; rfl
    · have : (a == 2) = false := by simpa using h2
      simp only [if_neg h1, this, impl_arity.j0]
      by_cases h3 : a = 3
      · simp [h3]
      · by_cases h4 : a = 11 <;> simp [h3, h4, h1, h2]
theorem within_f (a b c : Int) : impl_within.f a b c = some (decide (b ≤ a) && decide (a ≤ c)) := by
  unfold impl_within.f
  by_cases h : a ≥ b
  · have h' : b ≤ a := h
    simp [h']
  · have h' : ¬ b ≤ a := h
    simp [h']
theorem within_calls (a b c : Int) (w : World) : Calls Tryd.prog 66 #[.int .i64 a, .int .i64 b, .int .i64 c] w fun e w' => e = .returned (.bool (decide (b ≤ a) && decide (a ≤ c))) ∧ Drawn0 w w' :=
  impl_within.calls a b c _ w (within_f a b c)
theorem numOK_calls (a n : Int) (w : World) : Calls Tryd.prog 67 #[.int .i64 a, .int .i64 n] w fun e w' => e = .returned (.bool (okN (a, n))) ∧ Drawn0 w w' :=
  impl_numOK.calls a n _ w (numOK_f a n)
theorem arity_calls (a : Int) (w : World) : Calls Tryd.prog 68 #[.int .i64 a] w fun e w' => e = .returned (.int .i64 (arN a : Int)) ∧ Drawn0 w w' :=
  impl_arity.calls 1 a _ w (arity_f a)

def TreesPost (l : List S50) (w : World) (e : Ending) (w' : World) : Prop := ∃ v : Value, e = .returned v ∧ (match treesM (nds l) with | none => v = .slice none 0 0 | some ts => kt.R 53 w' w.heap.size (fun _ => True) v ts) ∧ Below w.heap.size w w'

set_option maxHeartbeats 4000000 in
set_option maxRecDepth 100000 in
theorem trees_calls (A : Option Addr) (c : Nat) (l : List S50) (w : World) (hr : Kd.C k50 w A l.length l) (hc : l.length ≤ c) :
    Calls Tryd.prog 44 #[.slice A l.length c] w (TreesPost l w) := by
  have HR := Aside0.mk hr
  clear hr
  have HB := Aside0.mk (Below.refl w.heap.size w)
  have hm := Kd.C_max HR.out
  obtain ⟨i0, hi0, hz0, hz1, hz2⟩ := info_parts info53
  by_cases hlen : 1 ≤ l.length ∧ l.length ≤ 40
  · obtain ⟨h1, h40⟩ := hlen
    have hw : (decide ((1 : Int) ≤ (l.length : Int)) && decide ((l.length : Int) ≤ 40)) = true := by simp; omega
    go_enter Tryd.func44, Tryd.ntmps44
    go_wp2_with (first
      | (go_at_call 66; refine (within_calls _ _ _ _).mono ?_; rw [hw]; rintro e w' ⟨rfl, ⟨nq, rfl⟩⟩)
      | ((with_reducible refine gate_dst (N := 13) rfl ?_); refine Kd.R_lit kt (w0 := w) w.heap.size 53 ?hg (N := 13) ?hd (xs := ([] : List T)) (inner := []) (ok := fun k => True) (okp := fun _ => False) ?hr (Reps.none _ _) (fun _ hk => hk.elim) trivial (pw_below_drewN HB.out _) (by simp) (by simp) ?_; (case hd => rfl); (case hg => rfl); (case hr => first | (go_simp; done) | (go_simp; rfl)); intro v3 w3 ho3 hb3 hg3 hn3)
      | ((with_reducible refine gate_dst (N := 14) rfl ?_); refine Kd.R_lit kt (w0 := w3) w3.heap.size 53 ?hg (N := 14) ?hd (xs := ([] : List T)) (inner := []) (ok := fun k => True) (okp := fun _ => False) ?hr (Reps.none _ _) (fun _ hk => hk.elim) trivial (Below.refl _ _) (Nat.le_refl _) (by simp) ?_; (case hd => rfl); (case hg => rfl); (case hr => first | (go_simp; done) | (go_simp; rfl)); intro v4 w4 ho4 hb4 hg4 hn4))
    have H3 := Aside0.mk (Kd.R_elder' ho3 (Kd.R_base ho4) hb4)
    have H4 := Aside0.mk (Kd.R_lower (Kd.R_new' ho4 (Kd.R_lt ho3)) hb3.size)
    have HB4 := Aside0.mk (below_then hb3 hb3.size hb4)
    clear ho3 ho4 hb3 hb4 hg3 hg4 hn3 hn4 HB
    go_loopw [3, 4, 17] (fun v3 v4 v17 w' => ∃ (i : Nat) (pile out : List T), v17 = .int .i64 i ∧ i ≤ l.length ∧ pile.length ≤ i ∧ out.length = i ∧ Aside0 (prun ((nds l).drop i) pile out = prun (nds l) [] []) ∧ Aside0 (kt.R 53 w' w.heap.size (fun k => some k ≠ v4.ownBlock) v3 pile) ∧ Aside0 (kt.R 53 w' w.heap.size (fun k => some k ≠ v3.ownBlock) v4 out) ∧ Aside0 (Below w.heap.size w w')) (fun _ _ i _ => l.length - (intOf i).toNat)
    case atStart => exact ⟨0, [], [], rfl, Nat.zero_le _, Nat.le_refl _, rfl, ⟨by simp⟩, ⟨Kd.R_mono H3.out (fun k hk => hk.2)⟩, ⟨Kd.R_mono H4.out (fun k hk => hk.2)⟩, HB4⟩
    case round =>
      clear H3 H4 HB4
      obtain ⟨i, pile, out, rfl, hi, hpl, hol, HP, H3, H4, HB⟩ := hrel
      by_cases hlt : i < l.length
      · obtain ⟨ad, e, hx0, hx1⟩ := at_T50 HR.out (i : Int) (by omega) (by omega)
        cases e
        simp only [Int.toNat_natCast] at hx0 hx1
        have hdrop : (nds l).drop i = nd (rd_T50 l i) :: (nds l).drop (i + 1) := by
          rw [List.drop_eq_getElem_cons (by simpa [nds] using hlt)]
          congr 1
          simp [nds, rd_T50, List.getD_eq_getElem?_getD, List.getElem?_eq_getElem hlt]
        have HP' := HP.out
        rw [hdrop] at HP'
        clear HP hdrop
        generalize rd_T50 l i = x at hx0 hx1 HP'
        obtain ⟨op, n⟩ := x
        simp only [nd] at hx0 hx1 HP'
        have HPs := Aside0.mk HP'
        clear HP'
        replace hx0 := (HB.out.cell (World.block_lt_of_cell? w _ hx0)).trans hx0
        replace hx1 := (HB.out.cell (World.block_lt_of_cell? w _ hx1)).trans hx1
        obtain ⟨A3, c3, e3, hc3, _⟩ := Kd.R_reads H3.out
        subst e3
        cases hok : okN (op, n) with
        | false =>
          go_wp2_with (first
            | (go_at_call 67; refine (numOK_calls _ _ _).mono ?_; rw [hok]; rintro e w1 ⟨rfl, ⟨nq1, rfl⟩⟩))
          go_ret
          exact ⟨_, rfl, by rw [treesM_none (HPs.out.symm.trans (prun_bad (by simp [stepOk, hok])))]; rfl, pw_below_drewN (below_alloc HB.out _) _⟩
        | true =>
          by_cases ha : arN op ≤ pile.length
          · have hd : decide (pile.length < arN op) = false := by simp; omega
            go_wp2_with (first
              | (go_at_call 67; refine (numOK_calls _ _ _).mono ?_; rw [hok]; rintro e w1 ⟨rfl, ⟨nq1, rfl⟩⟩)
              | (go_at_call 68; refine (arity_calls _ _).mono ?_; rintro e w1 ⟨rfl, ⟨nq2, rfl⟩⟩))
            obtain ⟨A5, hcut, hread⟩ := cut_drop (P := Tryd.prog) 81 53 Tryd.underlying81 hi0 hz1 A3 pile.length c3 (pile.length - arN op) ((pile.length : Int) - (arN op : Int)) (by omega) (by omega) hc3
            refine gen_draw (fun W => W.cell? ⟨wr.heap.size, 0, none⟩ = some (.int .i64 op) ∧ W.cell? ⟨wr.heap.size, 1, none⟩ = some (.int .i64 n) ∧ Below wr.heap.size wr W) (fun q => ⟨by simp, by simp, pw_below_drewN (below_alloc (Below.refl _ _) _) _⟩) ?_
            rintro W ⟨hc0, hc1, hbW⟩
            have H3W := Aside0.mk (Kd.R_below H3.out hbW)
            have H4W := Aside0.mk (Kd.R_below H4.out hbW)
            have HBW := Aside0.mk (below_then HB.out HB.out.size hbW)
            clear H3 H4 HB hx0 hx1 hbW
            obtain ⟨Ax, cx, ex, hcx, hrow⟩ := OwnRow.reads H3W.out.2
            obtain ⟨rfl, _, rfl⟩ : A3 = Ax ∧ pile.length = pile.length ∧ c3 = cx := by simpa using ex
            have hrow2 := Aside0.mk (hread W pile hrow)
            clear hrow ex hread
            go_region_held3 (fun w' => w'.cell? ⟨wr.heap.size, 0, none⟩ = some (.int .i64 op) ∧ w'.cell? ⟨wr.heap.size, 1, none⟩ = some (.int .i64 n)) (go_keep)
              (first | (go_at_call 69; refine (clone_calls A5 _ _ (pile.drop (pile.length - arN op)) w.heap.size _ _ W (below_drew (Below.refl _ _)) hrow2.out (by omega) HBW.out.size (by omega)).mono ?_; rintro e w6 ⟨v6, rfl, ho6, hn6, hb6⟩; obtain ⟨A6, c6, rfl⟩ := Kd.R_slice ho6; have hc0' : w6.cell? ⟨wr.heap.size, 0, none⟩ = some (.int .i64 op) := (hb6.cell (World.block_lt_of_cell? W _ hc0)).trans hc0; have hc1' : w6.cell? ⟨wr.heap.size, 1, none⟩ = some (.int .i64 n) := (hb6.cell (World.block_lt_of_cell? W _ hc1)).trans hc1; have HO6 := Aside0.mk ho6; have HN6 := Aside0.mk hn6; have HB6 := Aside0.mk hb6; clear ho6 hn6 hb6))
            have hcut2 := cut_take (P := Tryd.prog) 81 53 Tryd.underlying81 hi0 A3 pile.length c3 (pile.length - arN op) ((pile.length : Int) - (arN op : Int)) (by omega) (by omega) hc3
            have hk6 : (pile.drop (pile.length - arN op)).length = pile.length - (pile.length - arN op) := List.length_drop
            have hbW7 : Below W.heap.size W (w6.alloc (.cells #[.int .i64 op, .int .i64 n, .slice A6 (pile.length - (pile.length - arN op)) c6] 84)) := below_then (below_drew (Below.refl _ _)) (Nat.le_refl _) (below_alloc HB6.out _)
            have H3 := Aside0.mk (Kd.R_below H3W.out hbW7)
            have H4 := Aside0.mk (Kd.R_below H4W.out hbW7)
            have HB := Aside0.mk (below_then HBW.out HBW.out.size hbW7)
            have HM : Aside0 (kt.M (w6.alloc (.cells #[.int .i64 op, .int .i64 n, .slice A6 (pile.length - (pile.length - arN op)) c6] 84)) w.heap.size (fun k => some k ≠ u4.ownBlock ∧ some k ≠ (Value.slice A3 pile.length c3).ownBlock) (made pile (op, n)) [ptr w6.heap.size]) := by
              have hfr : ∀ k, W.heap.size ≤ k → some k ≠ u4.ownBlock ∧ some k ≠ (Value.slice A3 pile.length c3).ownBlock := fun k hk =>
                ⟨fun he => by have := Kd.R_lt H4W.out k he.symm; omega, fun he => by have := Kd.R_lt H3W.out k he.symm; omega⟩
              have h6 : W.heap.size ≤ w6.heap.size := HB6.out.size
              refine ⟨⟨_, rfl, Lies.made (v := .slice A6 (pile.length - (pile.length - arN op)) c6) (hfr _ h6) (Nat.le_trans HBW.out.size h6) (heap_alloc_new w6 _) ?_⟩⟩
              have ho := Kd.R_mono (Kd.R_alloc HO6.out (.cells #[.int .i64 op, .int .i64 n, .slice A6 (pile.length - (pile.length - arN op)) c6] 84)) (ok' := fun k => some k ≠ u4.ownBlock ∧ some k ≠ (Value.slice A3 pile.length c3).ownBlock) (fun k hk => by
                rcases hk with hk | hk
                · exact hk
                · exact hfr k hk)
              rw [hk6] at ho
              exact ho
            generalize w6.alloc (.cells #[.int .i64 op, .int .i64 n, .slice A6 (pile.length - (pile.length - arN op)) c6] 84) = w7 at H3 H4 HB HM ⊢
            generalize w6.heap.size = g at HM ⊢
            clear H3W H4W HBW hrow2 HO6 HN6 HB6 hc0 hc1 hc0' hc1' hbW7 hcut hk6
            have H3t := Aside0.mk (Kd.R_take (m := pile.length - arN op) H3.out (by omega))
            have H3o : (Value.slice A3 (pile.length - arN op) c3).ownBlock = (Value.slice A3 pile.length c3).ownBlock := by cases A3 <;> rfl
            have HBs := HB.out.size

            go_wp2_with (first
              | ((with_reducible refine gate_builtin (b := .append) (xs := #[.tmp 53, .tmp 55]) rfl ?_); at_builtin; (refine Kd.R_append kt (w0 := w) (W := w7) w.heap.size rfl (.tmp 53) (.tmp 55) 81 53 (.pointer none) 8 rfl Tryd.underlying81 info53 rfl (by decide) (by omega) (.slice A3 (pile.length - arN op) c3) (pile.take (pile.length - arN op)) (made pile (op, n)) [ptr g] (fun k => some k ≠ u4.ownBlock) (fun k => some k ≠ u4.ownBlock ∧ some k ≠ (Value.slice A3 pile.length c3).ownBlock) rfl rfl HM.out (fun k hk => ⟨hk.1, by rw [H3o]; exact hk.2⟩) (fun k hk he => by have := Kd.R_lt H4.out k he.symm; omega) H3t.out HB.out HBs (by simp; omega) ?_); intro v8 w8 ho8 hb8 hg8 hat8; have HM8 := Aside0.mk (Kd.M_after (v := .slice A3 (pile.length - arN op) c3) (ok := fun k => some k ≠ u4.ownBlock) (kt.M_mono (fun k hk => ⟨hk.1, by rw [H3o]; exact hk.2⟩) HM.out) hg8 hat8); have H48 := Aside0.mk (Kd.R_mono (Kd.R_after (ok := fun _ => True) (Kd.R_mono H4.out (fun k hk => ⟨trivial, by rw [H3o]; exact hk⟩)) hg8 hat8) (fun k hk => hk.2)); have HO8 := Aside0.mk ho8; have HB8 := Aside0.mk hb8; have HB8s := hb8.size; clear ho8 hb8 hg8 hat8 H3 H4 HB HM H3t)
              | ((with_reducible refine gate_builtin (b := .append) (xs := #[.tmp 57, .tmp 59]) rfl ?_); at_builtin; go_must (refine Kd.R_append kt (w0 := w) (W := w8) w.heap.size rfl (.tmp 57) (.tmp 59) 81 53 (.pointer none) 8 rfl Tryd.underlying81 info53 rfl (by decide) (by omega) u4 out (made pile (op, n)) [ptr g] (fun k => some k ≠ v8.ownBlock) (fun k => some k ≠ u4.ownBlock ∧ some k ≠ v8.ownBlock) rfl rfl HM8.out (fun k hk => ⟨hk.2, hk.1⟩) (fun k hk he => by have := Kd.R_lt HO8.out k he.symm; omega) H48.out HB8.out HB8s (by omega) ?_); intro v9 w9 ho9 hb9 hg9 hat9; have H3 := Aside0.mk (Kd.R_mono (Kd.R_after (ok := fun _ => True) (Kd.R_mono HO8.out (fun k hk => ⟨trivial, hk⟩)) hg9 hat9) (fun k hk => hk.2)); have H4 := Aside0.mk ho9; have HB := Aside0.mk hb9; clear ho9 hb9 hg9 hat9 HM8 H48 HO8 HB8))
            have hso : stepOk pile (op, n) = true := by simp [stepOk, hok, ha]
            refine ⟨⟨i + 1, piled pile (op, n), out ++ [made pile (op, n)], by go_num, by omega, ?_, by simp [hol], ⟨(prun_good hso).symm.trans HPs.out⟩, H3, H4, HB⟩, by simp [intOf]; omega⟩
            have := piled_length pile (op, n)
            omega
          · have hd : decide (pile.length < arN op) = true := by simp; omega
            go_wp2_with (first
              | (go_at_call 67; refine (numOK_calls _ _ _).mono ?_; rw [hok]; rintro e w1 ⟨rfl, ⟨nq1, rfl⟩⟩)
              | (go_at_call 68; refine (arity_calls _ _).mono ?_; rintro e w1 ⟨rfl, ⟨nq2, rfl⟩⟩))
            go_ret
            exact ⟨_, rfl, by rw [treesM_none (HPs.out.symm.trans (prun_bad (by simp [stepOk, ha])))]; rfl, pw_below_drewN (below_alloc HB.out _) _⟩
      · have hil : i = l.length := by omega
        subst hil
        have hp : prun (nds l) [] [] = some (pile, out) := by
          have h2 := HP.out
          rw [List.drop_of_length_le (by simp [nds])] at h2
          exact h2.symm
        have hl2 : (nds l).length = l.length := by simp [nds]
        obtain ⟨A3, c3, e3, hc3, _⟩ := Kd.R_reads H3.out
        subst e3
        by_cases hone : pile.length = 1
        · have hT : treesM (nds l) = some out := by
            unfold treesM
            rw [if_pos (by omega), hp]
            exact if_pos hone
          have hb1 : (((pile.length : Nat) : Int) != 1) = false := by simp; omega
          clear hol
          go_wp2
          go_ret
          exact ⟨_, rfl, by rw [hT]; exact Kd.R_mono H4.out (fun _ _ => trivial), HB.out⟩
        · have hT : treesM (nds l) = none := by
            unfold treesM
            rw [if_pos (by omega), hp]
            exact if_neg hone
          have hb1 : (((pile.length : Nat) : Int) != 1) = true := by simp; omega
          clear hol
          go_wp2
          go_ret
          exact ⟨_, rfl, by rw [hT]; rfl, HB.out⟩
  · have hw : (decide ((1 : Int) ≤ (l.length : Int)) && decide ((l.length : Int) ≤ 40)) = false := by
      rw [Bool.and_eq_false_iff]; simp; omega
    have hT : treesM (nds l) = none := by
      unfold treesM
      rw [if_neg (by simpa [nds] using hlen)]
    go_enter Tryd.func44, Tryd.ntmps44
    go_wp2_with (first
      | (go_at_call 66; refine (within_calls _ _ _ _).mono ?_; rw [hw]; rintro e w' ⟨rfl, ⟨nq, rfl⟩⟩))
    go_ret
    exact ⟨_, rfl, by rw [hT]; rfl, pw_below_drewN HB.out _⟩
end Go.Proofs.YtleppmjconljfaaDoor.T1
