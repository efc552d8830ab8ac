/- The walk of the law FnExactRuleText; the premises: numbers are of 64 bits, the table reads as laid. -/
import Derived.Test.YtleppmjconljfaaDoorU3
namespace Go.Proofs.YtleppmjconljfaaDoor.T1
open Go.RowKit Go.Proofs.YtleppmjconljfaaDoorW.PrintWords Go.Proofs.YtleppmjconljfaaDoorW.PrintLast Go.Proofs.YtleppmjconljfaaDoorW.PrintMore
open Go.Proofs.YtleppmjconljfaaDoor.Tree Go.Proofs.YtleppmjconljfaaDoor.PA
set_option linter.unusedVariables false
set_option linter.unusedSimpArgs false




theorem szRule_calls (A0 : Option Addr) (c0 : Nat) (l0 : List S52) (A1 : Option Addr) (c1 : Nat) (l1 : List S52) (w : World) (hr0 : Kd.C k52 w A0 l0.length l0) (hc0 : l0.length ≤ c0) (hr1 : Kd.C k52 w A1 l1.length l1) (hc1 : l1.length ≤ c1) :
    Calls Tryd.prog 11 #[ruleV A0 l0.length c0 A1 l1.length c1, .int .i64 1048576] w fun e w' => e = .returned (.int .i64 (if 1048576 < l0.length + l1.length then -1 else 1048576 - ((l0.length : Int) + l1.length))) ∧ Below w.heap.size w w' := by
  have hm0 := Kd.C_max hr0
  have hm1 := Kd.C_max hr1
  refine laws_szRule.calls A0 c0 l0 A1 c1 l1 1048576 _ w hr0 hc0 hr1 hc1 ?_
  unfold laws_szRule.f laws_szNodeS.f
  rw [wrap_small _ (by omega)]
  by_cases h : 1048576 < l0.length
  · rw [if_pos (by omega), if_pos (by omega)]
    rfl
  · rw [if_neg (by omega)]
    rw [Option.bind_some, if_neg (by omega), wrap_small _ (by omega)]
    by_cases h2 : 1048576 < l0.length + l1.length
    · rw [if_pos (by omega), if_pos h2]
      rfl
    · rw [if_neg (by omega), if_neg h2, Option.bind_some, if_neg (by omega)]
      congr 1
      omega
theorem toRule_calls (A0 : Option Addr) (c0 : Nat) (l0 : List S52) (A1 : Option Addr) (c1 : Nat) (l1 : List S52) (w : World) (hr0 : Kd.C k52 w A0 l0.length l0) (hc0 : l0.length ≤ c0) (hr1 : Kd.C k52 w A1 l1.length l1) (hc1 : l1.length ≤ c1) (h0 : l0.length ≤ 1000000000) (h1 : l1.length ≤ 1000000000) :
    Calls Tryd.prog 13 #[ruleV A0 l0.length c0 A1 l1.length c1] w fun e w' => ∃ (B0 : Option Addr) (d0 : Nat) (B1 : Option Addr) (d1 : Nat), e = .returned (ruleV B0 (l0.map conv).length d0 B1 (l1.map conv).length d1) ∧ (l0.map conv).length ≤ d0 ∧ (l1.map conv).length ≤ d1 ∧ Kd.C k50 w' B0 (l0.map conv).length (l0.map conv) ∧ Kd.C k50 w' B1 (l1.map conv).length (l1.map conv) ∧ Below w.heap.size w w' := by
  obtain ⟨k, h⟩ : ∃ k, laws_toRule.f k l0 l1 = some (l0.map conv, l1.map conv) := by
    refine Ev.rounds (g := fun k => laws_toRule.f k l0 l1) ?_
    unfold laws_toRule.f
    exact Ev.bind (toNodeS_ev l0 h0) (Ev.bind (toNodeS_ev l1 h1) (Ev.now _))
  refine (laws_toRule.calls k A0 c0 l0 A1 c1 l1 _ _ w hr0 hc0 hr1 hc1 h).mono ?_
  rintro e w' ⟨v0, v1, rfl, ho0, ho1, hb⟩
  obtain ⟨B0, d0, rfl, h2, h3⟩ := Kd.R_reads ho0
  obtain ⟨B1, d1, rfl, h4, h5⟩ := Kd.R_reads ho1
  exact ⟨B0, d0, B1, d1, rfl, h2, h4, h3, h5, hb⟩
theorem eqRule_calls (A0 : Option Addr) (c0 : Nat) (l0 : List S50) (A1 : Option Addr) (c1 : Nat) (l1 : List S50) (B0 : Option Addr) (d0 : Nat) (B1 : Option Addr) (d1 : Nat) (w : World) (hr0 : Kd.C k50 w A0 l0.length l0) (hc0 : l0.length ≤ c0) (hr1 : Kd.C k50 w A1 l1.length l1) (hc1 : l1.length ≤ c1) (hs0 : Kd.C k50 w B0 l0.length l0) (hd0 : l0.length ≤ d0) (hs1 : Kd.C k50 w B1 l1.length l1) (hd1 : l1.length ≤ d1) (h0 : l0.length ≤ 1000000000) (h1 : l1.length ≤ 1000000000) :
    Calls Tryd.prog 15 #[ruleV A0 l0.length c0 A1 l1.length c1, ruleV B0 l0.length d0 B1 l1.length d1] w fun e w' => e = .returned (.bool true) ∧ Below w.heap.size w w' := by
  obtain ⟨k, h⟩ : ∃ k, laws_eqRule.f k l0 l1 l0 l1 = some true := by
    refine Ev.rounds (g := fun k => laws_eqRule.f k l0 l1 l0 l1) ?_
    unfold laws_eqRule.f
    refine Ev.bind (eqNodeS_ev l0 h0) ?_
    refine Ev.congr (fun k => if_pos rfl) ?_
    refine Ev.bind (eqNodeS_ev l1 h1) ?_
    exact Ev.congr (fun k => if_pos rfl) (Ev.now _)
  exact laws_eqRule.calls k A0 c0 l0 A1 c1 l1 B0 d0 l0 B1 d1 l1 _ w hr0 hc0 hr1 hc1 hs0 hd0 hs1 hd1 h
theorem wide_conv {l : List S52} (hw : ∀ x ∈ l, -9223372036854775808 ≤ x.f1 ∧ x.f1 ≤ 9223372036854775807) : Wide (nds (l.map conv)) := by
  intro y hy
  simp only [nds, List.map_map, List.mem_map] at hy
  obtain ⟨x, hx, rfl⟩ := hy
  exact hw x hx

set_option maxHeartbeats 4000000 in
set_option maxRecDepth 100000 in
theorem exactRuleText_walk (A0 : Option Addr) (c0 : Nat) (l0 : List S52) (A1 : Option Addr) (c1 : Nat) (l1 : List S52) (w : World) (hr0 : Kd.C k52 w A0 l0.length l0) (hc0 : l0.length ≤ c0) (hr1 : Kd.C k52 w A1 l1.length l1) (hc1 : l1.length ≤ c1)
    (hw0 : ∀ x ∈ l0, -9223372036854775808 ≤ x.f1 ∧ x.f1 ≤ 9223372036854775807) (hw1 : ∀ x ∈ l1, -9223372036854775808 ≤ x.f1 ∧ x.f1 ≤ 9223372036854775807) (ht : Tab w) :
    Calls Tryd.prog 4 #[ruleV A0 l0.length c0 A1 l1.length c1] w (LawPost w) := by
  have hu := Tryd.underlying31
  have hu2 := Tryd.underlying35
  have HR0 := Aside0.mk hr0
  have HR1 := Aside0.mk hr1
  have HT := Aside0.mk ht
  clear hr0 hr1 ht
  by_cases hbig : 1048576 < l0.length + l1.length
  · clear hw0 hw1
    have e1 : (if 1048576 < l0.length + l1.length then (-1 : Int) else 1048576 - ((l0.length : Int) + l1.length)) = -1 := if_pos hbig
    have E1 := Aside0.mk e1
    clear e1
    go_enter Tryd.func4, Tryd.ntmps4
    go_wp2_with (first
      | ((with_reducible refine gate_dst (N := 1) rfl ?_); refine box_event ?hg (N := 1) ?hd (cs := #[.slice A0 l0.length c0, .slice A1 l1.length c1]) (t := 31) ?hr ?_; (case hd => rfl); (case hg => rfl); (case hr => first | (go_simp; done) | (go_simp; rfl)); intro g hg w1 hbox hb; obtain ⟨x0, x1⟩ := rule_open hbox; have BK := Aside0.mk hbox; have HB1 := Aside0.mk hb; clear hb hbox hg)
      | (go_at_call 11; refine (szRule_calls A0 c0 l0 A1 c1 l1 _ (Kd.C_below HR0.out HB1.out) hc0 (Kd.C_below HR1.out HB1.out) hc1).mono ?_; rw [E1.out]; rintro e w2 ⟨rfl, hb⟩; have HB2 := Aside0.mk (below_then HB1.out HB1.out.size hb); clear hb))
    go_ret
    exact ⟨rfl, HB2.out⟩
  · have e1 : (if 1048576 < l0.length + l1.length then (-1 : Int) else 1048576 - ((l0.length : Int) + l1.length)) = 1048576 - ((l0.length : Int) + l1.length) := if_neg hbig
    have E1 := Aside0.mk e1
    clear e1
    have TN0 : Aside0 (∀ W, Below w.heap.size w W → Calls Tryd.prog 13 #[ruleV A0 l0.length c0 A1 l1.length c1] W fun e w' => ∃ (B0 : Option Addr) (d0 : Nat) (B1 : Option Addr) (d1 : Nat), e = .returned (ruleV B0 (l0.map conv).length d0 B1 (l1.map conv).length d1) ∧ (l0.map conv).length ≤ d0 ∧ (l1.map conv).length ≤ d1 ∧ Kd.C k50 w' B0 (l0.map conv).length (l0.map conv) ∧ Kd.C k50 w' B1 (l1.map conv).length (l1.map conv) ∧ Below W.heap.size W w') :=
      ⟨fun W hW => toRule_calls A0 c0 l0 A1 c1 l1 W (Kd.C_below HR0.out hW) hc0 (Kd.C_below HR1.out hW) hc1 (by omega) (by omega)⟩
    obtain ⟨m0, hm0⟩ : ∃ m, m = l0.map conv := ⟨_, rfl⟩
    obtain ⟨m1, hm1⟩ : ∃ m, m = l1.map conv := ⟨_, rfl⟩
    have hlen0 : m0.length = l0.length := by rw [hm0]; simp
    have hlen1 : m1.length = l1.length := by rw [hm1]; simp
    have hW0 := wide_conv hw0
    have hW1 := wide_conv hw1
    rw [← hm0] at hW0 TN0
    rw [← hm1] at hW1 TN0
    have HW0 := Aside0.mk hW0
    have HW1 := Aside0.mk hW1
    have j0 : m0.length ≤ 1000000000 := by omega
    have j1 : m1.length ≤ 1000000000 := by omega
    clear hlen0 hlen1 hm0 hm1 hw0 hw1 hW0 hW1
    go_enter Tryd.func4, Tryd.ntmps4
    go_wp2_with (first
      | ((with_reducible refine gate_dst (N := 1) rfl ?_); refine box_event ?hg (N := 1) ?hd (cs := #[.slice A0 l0.length c0, .slice A1 l1.length c1]) (t := 31) ?hr ?_; (case hd => rfl); (case hg => rfl); (case hr => first | (go_simp; done) | (go_simp; rfl)); intro g hg w1 hbox hb; obtain ⟨x0, x1⟩ := rule_open hbox; have BK := Aside0.mk hbox; have HB1 := Aside0.mk hb; clear hb hbox hg)
      | (go_at_call 11; refine (szRule_calls A0 c0 l0 A1 c1 l1 _ (Kd.C_below HR0.out HB1.out) hc0 (Kd.C_below HR1.out HB1.out) hc1).mono ?_; rw [E1.out]; rintro e w2 ⟨rfl, hb⟩; have BK2 := Aside0.mk (blk_below BK.out hb); obtain ⟨y0, y1⟩ := rule_open BK2.out; have HB2 := Aside0.mk (below_then HB1.out HB1.out.size hb); clear hb))
    refine (TN0.out _ HB2.out).mono ?_
    rintro e w3 ⟨B0, d0, B1, d1, rfl, hd0, hd1, hC0, hC1, hb3⟩
    have H30 := Aside0.mk hC0
    have H31 := Aside0.mk hC1
    have BK3 := Aside0.mk (blk_below BK2.out hb3)
    have HB3 := Aside0.mk (below_then HB2.out HB2.out.size hb3)
    obtain ⟨z0, z1⟩ := rule_open BK3.out
    clear hC0 hC1 hb3
    go_wp2_with fail
    refine (specRuleText_calls B0 d0 m0 B1 d1 m1 _ H30.out hd0 H31.out hd1 j0 j1 HW0.out HW1.out).mono ?_
    rintro e w4 ⟨rfl, hb4⟩
    have BK4 := Aside0.mk (blk_below BK3.out hb4)
    have HB4 := Aside0.mk (below_then HB3.out HB3.out.size hb4)
    obtain ⟨z0, z1⟩ := rule_open BK4.out
    clear hb4
    go_wp2_with fail
    refine (TN0.out _ HB4.out).mono ?_
    rintro e w5 ⟨C0, e0, C1, e1, rfl, he0, he1, hC0, hC1, hb5⟩
    have H50 := Aside0.mk hC0
    have H51 := Aside0.mk hC1
    have BK5 := Aside0.mk (blk_below BK4.out hb5)
    have HB5 := Aside0.mk (below_then HB4.out HB4.out.size hb5)
    obtain ⟨z0, z1⟩ := rule_open BK5.out
    clear hC0 hC1 hb5
    go_wp2_with fail
    obtain ⟨w6, hw6⟩ : ∃ W, W = w5.alloc (ruleBlk C0 m0.length e0 C1 m1.length e1 35) := ⟨_, rfl⟩
    obtain ⟨g2, hg2⟩ : ∃ G, G = w5.heap.size := ⟨_, rfl⟩
    have hb6 : Below w5.heap.size w5 w6 := by rw [hw6]; exact below_alloc (Below.refl _ _) _
    have HB6 := Aside0.mk (below_then HB5.out HB5.out.size hb6)
    have BK6 := Aside0.mk (blk_below BK5.out hb6)
    have NK6 := Aside0.mk (show w6.heap[g2]? = some (ruleBlk C0 m0.length e0 C1 m1.length e1 35) by rw [hw6, hg2]; exact blk_new _ _)
    have H60 := Aside0.mk (Kd.C_below H50.out hb6)
    have H61 := Aside0.mk (Kd.C_below H51.out hb6)
    change Calls _ _ _ (w5.alloc (ruleBlk C0 m0.length e0 C1 m1.length e1 35)) _
    rw [← hw6, ← hg2]
    clear hw6 hg2 hb6
    refine (implRuleText_calls C0 e0 m0 C1 e1 m1 _ H60.out he0 H61.out he1 HW0.out HW1.out (HT.out.on HB6.out)).mono ?_
    rintro e w7 ⟨rfl, hb7⟩
    have BK7 := Aside0.mk (blk_below BK6.out hb7)
    have NK7 := Aside0.mk (blk_below NK6.out hb7)
    have H70 := Aside0.mk (Kd.C_below H60.out hb7)
    have H71 := Aside0.mk (Kd.C_below H61.out hb7)
    have HB7 := Aside0.mk (below_then HB6.out HB6.out.size hb7)
    clear hb7
    obtain ⟨z0, z1⟩ := rule_open BK7.out
    obtain ⟨n0, n1⟩ := rule_open NK7.out
    go_wp2_with fail
    go_region_held3 (fun w' => w'.cell? ⟨g, 0, none⟩ = some (.slice A0 l0.length c0) ∧ w'.cell? ⟨g, 1, none⟩ = some (.slice A1 l1.length c1) ∧ w'.cell? ⟨g2, 0, none⟩ = some (.slice C0 m0.length e0) ∧ w'.cell? ⟨g2, 1, none⟩ = some (.slice C1 m1.length e1)) (go_keep)
      (first
        | (go_at_call 13; have hC := TN0.out _ (below_drew HB7.out); (with_reducible refine hC.mono ?_); clear hC; rintro e w8 ⟨D0, f0, D1, f1, rfl, hf0, hf1, hC0, hC1, hb8⟩; have HB8 := Aside0.mk (below_then (below_drew HB7.out) HB7.out.size hb8); have I0 := Aside0.mk hC0; have I1 := Aside0.mk hC1; have K0 := Aside0.mk (Kd.C_below (Kd.C_drew H70.out) hb8); have K1 := Aside0.mk (Kd.C_below (Kd.C_drew H71.out) hb8); have BK8 := Aside0.mk (blk_below (blk_drew BK7.out) hb8); have NK8 := Aside0.mk (blk_below (blk_drew NK7.out) hb8); obtain ⟨u0, u1⟩ := rule_open BK8.out; obtain ⟨u2, u3⟩ := rule_open NK8.out; clear hb8 hC0 hC1)
        | (go_at_call 15; have hC := eqRule_calls C0 e0 m0 C1 e1 m1 D0 f0 D1 f1 _ K0.out he0 K1.out he1 I0.out hf0 I1.out hf1 j0 j1; (with_reducible refine hC.mono ?_); clear hC; rintro e w9 ⟨rfl, hb9⟩; have HB9 := Aside0.mk (below_then HB8.out HB8.out.size hb9); have BK9 := Aside0.mk (blk_below BK8.out hb9); have NK9 := Aside0.mk (blk_below NK8.out hb9); obtain ⟨v0, v1⟩ := rule_open BK9.out; obtain ⟨v2, v3⟩ := rule_open NK9.out; clear hb9))
    go_wp2
    go_ret
    exact ⟨rfl, HB9.out⟩
end Go.Proofs.YtleppmjconljfaaDoor.T1
