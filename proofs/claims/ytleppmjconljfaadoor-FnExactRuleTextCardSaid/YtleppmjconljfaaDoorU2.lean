/- The walks of both RuleTexts, second part; the premises: numbers are of 64 bits, the table reads as laid. -/
import Derived.Test.YtleppmjconljfaaDoorU1
namespace Go.Proofs.YtleppmjconljfaaDoor.T1
open Go.RowKit Go.Proofs.YtleppmjconljfaaDoorW.PrintWords Go.Proofs.YtleppmjconljfaaDoorW.PrintLast Go.Proofs.YtleppmjconljfaaDoorW.PrintMore
open Go.Proofs.YtleppmjconljfaaDoor.Tree Go.Proofs.YtleppmjconljfaaDoor.PA
set_option linter.unusedVariables false
set_option linter.unusedSimpArgs false


theorem goodR_trees {l r : List S50} (h : goodR (nds l) (nds r) = true) : ∃ x y, treeM (nds l) = some x ∧ treeM (nds r) = some y ∧ l.length ≤ 7 ∧ r.length ≤ 7 := by
  unfold goodR goodP at h
  simp only [Bool.and_eq_true, decide_eq_true_eq] at h
  obtain ⟨x, hx⟩ := Option.isSome_iff_exists.1 h.1.1
  obtain ⟨y, hy⟩ := Option.isSome_iff_exists.1 h.2.1
  exact ⟨x, y, hx, hy, by simpa [nds] using h.1.2, by simpa [nds] using h.2.2⟩
theorem ruS_true {l r : List Nd} {x y : T} (h : goodR l r = true) (hx : treeM l = some x) (hy : treeM r = some y) : ruS l r = (txt x ++ (⟨#[61, 62]⟩ : ByteArray)) ++ txt y := by
  unfold ruS
  rw [h]
  simp only [ttS, hx, hy]
theorem ruS_false {l r : List Nd} (h : goodR l r = false) : ruS l r = ⟨#[]⟩ := by
  unfold ruS
  rw [h]
set_option maxHeartbeats 4000000 in
set_option maxRecDepth 100000 in
theorem implRuleText_calls (A0 : Option Addr) (c0 : Nat) (l0 : List S50) (A1 : Option Addr) (c1 : Nat) (l1 : List S50) (w : World) (hr0 : Kd.C k50 w A0 l0.length l0) (hc0 : l0.length ≤ c0) (hr1 : Kd.C k50 w A1 l1.length l1) (hc1 : l1.length ≤ c1) (hw0 : Wide (nds l0)) (hw1 : Wide (nds l1)) (ht : Tab w) :
    Calls Tryd.prog 14 #[ruleV A0 l0.length c0 A1 l1.length c1] w (RTPost (nds l0) (nds l1) w) := by
  have hu := Tryd.underlying35
  have HR0 := Aside0.mk hr0
  have HR1 := Aside0.mk hr1
  have HT := Aside0.mk ht
  clear hr0 hr1 ht
  cases hg : goodR (nds l0) (nds l1) with
  | false =>
    have E0 := Aside0.mk hg
    clear hg
    go_enter Tryd.func14, Tryd.ntmps14
    go_wp2_with (first
      | ((with_reducible refine gate_dst (N := 1) rfl ?_); refine box_event ?hg (N := 1) ?hd (cs := #[.slice A0 l0.length c0, .slice A1 l1.length c1]) (t := 35) ?hr ?_; (case hd => rfl); (case hg => rfl); (case hr => first | (go_simp; done) | (go_simp; rfl)); intro g hg w1 hbox hb; obtain ⟨x0, x1⟩ := rule_open hbox; have BK := Aside0.mk hbox; have HB1 := Aside0.mk hb; clear hb hbox hg)
      | (go_at_call 30; refine (goodRule_calls A0 c0 l0 A1 c1 l1 _ (Kd.C_below HR0.out HB1.out) hc0 (Kd.C_below HR1.out HB1.out) hc1).mono ?_; rw [E0.out]; rintro e w2 ⟨rfl, hb⟩; have HB2 := Aside0.mk (below_then HB1.out HB1.out.size hb); clear hb))
    go_ret2
    exact ⟨by rw [ruS_false E0.out, E0.out]; rfl, HB2.out⟩
  | true =>
    obtain ⟨x, y, hx, hy, -, -⟩ := goodR_trees hg
    obtain ⟨-, hF0, h400, -⟩ := treeM_is hx hw0
    obtain ⟨-, hF1, h401, -⟩ := treeM_is hy hw1
    have hz0 : (txt x).size ≤ 840 := by have := txt_size x hF0; omega
    have hz1 : (txt y).size ≤ 840 := by have := txt_size y hF1; omega
    have E0 := Aside0.mk hg
    have EX := Aside0.mk hx
    have EY := Aside0.mk hy
    have HF0 := Aside0.mk hF0
    have HF1 := Aside0.mk hF1
    clear hg hx hy hF0 hF1 hw0 hw1
    have q1 : (9223372036854775807 < (txt x).size + 2) = False := eq_false (by omega)
    have q2 : (9223372036854775807 < (txt x).size + 2 + (txt y).size) = False := eq_false (by omega)
    go_enter Tryd.func14, Tryd.ntmps14
    go_wp2_with (first
      | ((with_reducible refine gate_dst (N := 1) rfl ?_); refine box_event ?hg (N := 1) ?hd (cs := #[.slice A0 l0.length c0, .slice A1 l1.length c1]) (t := 35) ?hr ?_; (case hd => rfl); (case hg => rfl); (case hr => first | (go_simp; done) | (go_simp; rfl)); intro g hg w1 hbox hb; obtain ⟨x0, x1⟩ := rule_open hbox; have BK := Aside0.mk hbox; have HB1 := Aside0.mk hb; clear hb hbox hg)
      | (go_at_call 30; refine (goodRule_calls A0 c0 l0 A1 c1 l1 _ (Kd.C_below HR0.out HB1.out) hc0 (Kd.C_below HR1.out HB1.out) hc1).mono ?_; rw [E0.out]; rintro e w2 ⟨rfl, hb⟩; have BK2 := Aside0.mk (blk_below BK.out hb); obtain ⟨y0, y1⟩ := rule_open BK2.out; have HB2 := Aside0.mk (below_then HB1.out HB1.out.size hb); clear hb))
    go_region_held3 (fun w' => w'.cell? ⟨g, 0, none⟩ = some (.slice A0 l0.length c0) ∧ w'.cell? ⟨g, 1, none⟩ = some (.slice A1 l1.length c1)) (go_keep)
      (first
        | (go_at_call 26; have hC := treeOf_some A0 c0 l0 _ (Kd.C_below HR0.out (below_drew HB2.out)) hc0 EX.out; (with_reducible refine hC.mono ?_); clear hC; rintro e w3 ⟨g3, rfl, hL, hb⟩; have BK3 := Aside0.mk (blk_below (blk_drew BK2.out) hb); obtain ⟨z0, z1⟩ := rule_open BK3.out; have HB3 := Aside0.mk (below_then (below_drew HB2.out) HB2.out.size hb); have HL3 := Aside0.mk hL; clear hb hL)
        | (go_at_call 27; have hC := text_calls x.size x g3 _ _ (Nat.le_refl _) h400 HF0.out (HT.out.on HB3.out) (HL3.out.lower (Nat.zero_le _)); (with_reducible refine hC.mono ?_); clear hC; rintro e w4 ⟨rfl, hb⟩; have BK4 := Aside0.mk (blk_below BK3.out hb); obtain ⟨u0, u1⟩ := rule_open BK4.out; have HB4 := Aside0.mk (below_then HB3.out HB3.out.size hb); clear hb)
        | (go_at_call 26; have hC := treeOf_some A1 c1 l1 _ (Kd.C_below HR1.out HB4.out) hc1 EY.out; (with_reducible refine hC.mono ?_); clear hC; rintro e w5 ⟨g5, rfl, hL, hb⟩; have BK5 := Aside0.mk (blk_below BK4.out hb); obtain ⟨s0, s1⟩ := rule_open BK5.out; have HB5 := Aside0.mk (below_then HB4.out HB4.out.size hb); have HL5 := Aside0.mk hL; clear hb hL)
        | (go_at_call 27; have hC := text_calls y.size y g5 _ _ (Nat.le_refl _) h401 HF1.out (HT.out.on HB5.out) (HL5.out.lower (Nat.zero_le _)); (with_reducible refine hC.mono ?_); clear hC; rintro e w6 ⟨rfl, hb⟩; have BK6 := Aside0.mk (blk_below BK5.out hb); obtain ⟨r0, r1⟩ := rule_open BK6.out; have HB6 := Aside0.mk (below_then HB5.out HB5.out.size hb); clear hb))
    go_wp2
    go_ret2
    exact ⟨by rw [ruS_true E0.out EX.out EY.out, E0.out]; rfl, HB6.out⟩
end Go.Proofs.YtleppmjconljfaaDoor.T1
