/- The walks of both RuleTexts, third part; the premises: numbers are of 64 bits, the table reads as laid. -/
import Derived.Test.YtleppmjconljfaaDoorU2
namespace Go.Proofs.YtleppmjconljfaaDoor.T1
open Go.RowKit Go.Proofs.YtleppmjconljfaaDoorW.PrintWords Go.Proofs.YtleppmjconljfaaDoorW.PrintLast Go.Proofs.YtleppmjconljfaaDoorW.PrintMore
open Go.Proofs.YtleppmjconljfaaDoor.Tree Go.Proofs.YtleppmjconljfaaDoor.PA
set_option linter.unusedVariables false
set_option linter.unusedSimpArgs false



theorem goodR_ev (l0 l1 : List S50) (h0 : l0.length ≤ 1000000000) (h1 : l1.length ≤ 1000000000) : Ev (fun k => spec_GoodRule.f k l0 l1) (goodR (nds l0) (nds l1)) := by
  have hp : ∀ l : List S50, l.length ≤ 1000000000 → Ev (fun k => spec_GoodPattern.f k l) (goodP (nds l)) := by
    intro l hl
    unfold spec_GoodPattern.f
    refine Ev.bind (good_ev l hl) ?_
    have hn : (nds l).length = l.length := by simp [nds]
    unfold goodP
    cases (treeM (nds l)).isSome
    · exact Ev.now _
    · rw [hn]
      refine Ev.congr (fun k => ?_) (Ev.now _)
      rw [if_pos rfl, Bool.true_and]
      congr 1
      exact decide_eq_decide.2 (by omega)
  unfold spec_GoodRule.f
  refine Ev.bind (hp l0 h0) ?_
  unfold goodR
  cases goodP (nds l0)
  · exact Ev.now _
  · refine Ev.congr (fun k => if_pos rfl) ?_
    refine Ev.bind (hp l1 h1) ?_
    exact Ev.now _
theorem specGoodRule_calls (A0 : Option Addr) (c0 : Nat) (l0 : List S50) (A1 : Option Addr) (c1 : Nat) (l1 : List S50) (w : World) (hr0 : Kd.C k50 w A0 l0.length l0) (hc0 : l0.length ≤ c0) (hr1 : Kd.C k50 w A1 l1.length l1) (hc1 : l1.length ≤ c1) (h0 : l0.length ≤ 1000000000) (h1 : l1.length ≤ 1000000000) :
    Calls Tryd.prog 29 #[ruleV A0 l0.length c0 A1 l1.length c1] w fun e w' => e = .returned (.bool (goodR (nds l0) (nds l1))) ∧ Below w.heap.size w w' := by
  obtain ⟨k, h⟩ := (goodR_ev l0 l1 h0 h1).rounds
  exact spec_GoodRule.calls k A0 c0 l0 A1 c1 l1 _ w hr0 hc0 hr1 hc1 h
set_option maxHeartbeats 4000000 in
set_option maxRecDepth 100000 in
theorem specRuleText_calls (A0 : Option Addr) (c0 : Nat) (l0 : List S50) (A1 : Option Addr) (c1 : Nat) (l1 : List S50) (w : World) (hr0 : Kd.C k50 w A0 l0.length l0) (hc0 : l0.length ≤ c0) (hr1 : Kd.C k50 w A1 l1.length l1) (hc1 : l1.length ≤ c1) (h0 : l0.length ≤ 1000000000) (h1 : l1.length ≤ 1000000000) (hw0 : Wide (nds l0)) (hw1 : Wide (nds l1)) :
    Calls Tryd.prog 12 #[ruleV A0 l0.length c0 A1 l1.length c1] w (RTPost (nds l0) (nds l1) w) := by
  have hu := Tryd.underlying35
  have HR0 := Aside0.mk hr0
  have HR1 := Aside0.mk hr1
  clear hr0 hr1
  cases hg : goodR (nds l0) (nds l1) with
  | false =>
    have E0 := Aside0.mk hg
    clear hg
    go_enter Tryd.func12, Tryd.ntmps12
    go_wp2_with (first
      | ((with_reducible refine gate_dst (N := 1) rfl ?_); refine box_event ?hg (N := 1) ?hd (cs := #[.slice A0 l0.length c0, .slice A1 l1.length c1]) (t := 35) ?hr ?_; (case hd => rfl); (case hg => rfl); (case hr => first | (go_simp; done) | (go_simp; rfl)); intro g hg w1 hbox hb; obtain ⟨x0, x1⟩ := rule_open hbox; have BK := Aside0.mk hbox; have HB1 := Aside0.mk hb; clear hb hbox hg)
      | (go_at_call 29; refine (specGoodRule_calls A0 c0 l0 A1 c1 l1 _ (Kd.C_below HR0.out HB1.out) hc0 (Kd.C_below HR1.out HB1.out) hc1 h0 h1).mono ?_; rw [E0.out]; rintro e w2 ⟨rfl, hb⟩; have HB2 := Aside0.mk (below_then HB1.out HB1.out.size hb); clear hb))
    go_ret2
    exact ⟨by rw [ruS_false E0.out, E0.out]; rfl, HB2.out⟩
  | true =>
    obtain ⟨x, y, hx, hy, h70, h71⟩ := goodR_trees hg
    obtain ⟨hl0, hF0, h400, hs0⟩ := treeM_is hx hw0
    obtain ⟨hl1, hF1, h401, hs1⟩ := treeM_is hy hw1
    have hz0 : (txt x).size ≤ 840 := by have := txt_size x hF0; omega
    have hz1 : (txt y).size ≤ 840 := by have := txt_size y hF1; omega
    have hsx : l0.length = x.size := by rw [hs0]; simp [nds]
    have hsy : l1.length = y.size := by rw [hs1]; simp [nds]
    have p0 : 1 ≤ l0.length := by have := size_pos x; omega
    have p1 : 1 ≤ l1.length := by have := size_pos y; omega
    have SX := Aside0.mk hsx
    have SY := Aside0.mk hsy
    have HL0 := Aside0.mk (show nds l0 = [] ++ flat x ++ [] by simp [hl0])
    have HL1 := Aside0.mk (show nds l1 = [] ++ flat y ++ [] by simp [hl1])
    have E0 := Aside0.mk hg
    have EX := Aside0.mk hx
    have EY := Aside0.mk hy
    have HF0 := Aside0.mk hF0
    have HF1 := Aside0.mk hF1
    clear hg hx hy hF0 hF1 hw0 hw1 hl0 hl1 hs0 hs1 hsx hsy
    have q1 : (9223372036854775807 < (txt x).size + 2) = False := eq_false (by omega)
    have q2 : (9223372036854775807 < (txt x).size + 2 + (txt y).size) = False := eq_false (by omega)
    have i0 : IntKind.i64.wrap ((l0.length : Int) - 1) = (l0.length : Int) - 1 := IntWalk.i64_in _ (by omega)
    have i1 : IntKind.i64.wrap ((l1.length : Int) - 1) = (l1.length : Int) - 1 := IntWalk.i64_in _ (by omega)
    go_enter Tryd.func12, Tryd.ntmps12
    go_wp2_with (first
      | ((with_reducible refine gate_dst (N := 1) rfl ?_); refine box_event ?hg (N := 1) ?hd (cs := #[.slice A0 l0.length c0, .slice A1 l1.length c1]) (t := 35) ?hr ?_; (case hd => rfl); (case hg => rfl); (case hr => first | (go_simp; done) | (go_simp; rfl)); intro g hg w1 hbox hb; obtain ⟨x0, x1⟩ := rule_open hbox; have BK := Aside0.mk hbox; have HB1 := Aside0.mk hb; clear hb hbox hg)
      | (go_at_call 29; refine (specGoodRule_calls A0 c0 l0 A1 c1 l1 _ (Kd.C_below HR0.out HB1.out) hc0 (Kd.C_below HR1.out HB1.out) hc1 h0 h1).mono ?_; rw [E0.out]; rintro e w2 ⟨rfl, hb⟩; have BK2 := Aside0.mk (blk_below BK.out hb); obtain ⟨y0, y1⟩ := rule_open BK2.out; have HB2 := Aside0.mk (below_then HB1.out HB1.out.size hb); clear hb))
    go_region_held3 (fun w' => w'.cell? ⟨g, 0, none⟩ = some (.slice A0 l0.length c0) ∧ w'.cell? ⟨g, 1, none⟩ = some (.slice A1 l1.length c1)) (go_keep)
      (first
        | (go_at_call 24; have hC := l3Text_calls x.size x A0 c0 l0 [] [] ((l0.length : Int) - 1) _ (Nat.le_refl _) h400 HF0.out HL0.out (by omega) hc0 (by rw [SX.out]; simp) (Kd.C_below HR0.out (below_drew HB2.out)); (with_reducible refine hC.mono ?_); clear hC; rintro e w4 ⟨rfl, hb⟩; have BK4 := Aside0.mk (blk_below (blk_drew BK2.out) hb); obtain ⟨u0, u1⟩ := rule_open BK4.out; have HB4 := Aside0.mk (below_then (below_drew HB2.out) HB2.out.size hb); clear hb)
        | (go_at_call 24; have hC := l3Text_calls y.size y A1 c1 l1 [] [] ((l1.length : Int) - 1) _ (Nat.le_refl _) h401 HF1.out HL1.out (by omega) hc1 (by rw [SY.out]; simp) (Kd.C_below HR1.out HB4.out); (with_reducible refine hC.mono ?_); clear hC; rintro e w6 ⟨rfl, hb⟩; have BK6 := Aside0.mk (blk_below BK4.out hb); obtain ⟨r0, r1⟩ := rule_open BK6.out; have HB6 := Aside0.mk (below_then HB4.out HB4.out.size hb); clear hb))
    clear i0 i1
    go_wp2
    go_ret2
    exact ⟨by rw [ruS_true E0.out EX.out EY.out, E0.out]; rfl, HB6.out⟩
end Go.Proofs.YtleppmjconljfaaDoor.T1
