/- The walk of the law FnExactTermText; the premises: what is read, numbers are of 64 bits, the table reads as laid. -/
import Derived.Test.YtleppmjconljfaaDoorT8
namespace Go.Proofs.YtleppmjconljfaaDoor.T1
open Go.RowKit Go.Proofs.YtleppmjconljfaaDoorW.PrintWords Go.Proofs.YtleppmjconljfaaDoorW.PrintLast Go.Proofs.YtleppmjconljfaaDoorW.PrintMore
open Go.Proofs.YtleppmjconljfaaDoor.Tree Go.Proofs.YtleppmjconljfaaDoor.PA
set_option linter.unusedVariables false
set_option linter.unusedSimpArgs false

theorem wf_i64 {n : Int} (h : (Lit.int .i64 n).wf = true) : -9223372036854775808 ≤ n ∧ n ≤ 9223372036854775807 := by
  simp [Lit.wf, IntKind.min, IntKind.max, IntKind.bits, IntKind.signed] at h
  omega
def LawPost (w : World) (e : Ending) (w' : World) : Prop := e = .returned (.bool true) ∧ Below w.heap.size w w'

set_option maxHeartbeats 4000000 in
set_option maxRecDepth 100000 in
theorem exactTermText_walk (A : Option Addr) (c : Nat) (l : List S52) (w : World) (hr : Kd.C k52 w A l.length l) (hc : l.length ≤ c) (hw : ∀ x ∈ l, -9223372036854775808 ≤ x.f1 ∧ x.f1 ≤ 9223372036854775807) (ht : Tab w) :
    Calls Tryd.prog 3 #[.slice A l.length c] w (LawPost w) := by
  have HR := Aside0.mk hr
  have HT := Aside0.mk ht
  have HB := Aside0.mk (Below.refl w.heap.size w)
  clear hr ht
  by_cases hbig : 1048576 < l.length
  · clear hw
    have e1 : (if 1048576 < l.length then (-1 : Int) else 1048576 - (l.length : Int)) = -1 := if_pos hbig
    have E1 := Aside0.mk e1
    clear e1
    go_enter Tryd.func3, Tryd.ntmps3
    go_wp2_with (first
      | (go_at_call 6; refine (szNodeS_calls A c l _ HR.out hc).mono ?_; rw [E1.out]; rintro e w1 ⟨rfl, ⟨nq, rfl⟩⟩))
    go_ret
    exact ⟨rfl, pw_below_drewN HB.out _⟩
  · have e1 : (if 1048576 < l.length then (-1 : Int) else 1048576 - (l.length : Int)) = 1048576 - (l.length : Int) := if_neg hbig
    have E1 := Aside0.mk e1
    clear e1
    obtain ⟨l', hl'⟩ : ∃ l', l' = l.map conv := ⟨_, rfl⟩
    have hlen : l'.length = l.length := by rw [hl']; simp
    have HW : Aside0 (Wide (nds l')) := by
      refine ⟨fun y hy => ?_⟩
      rw [hl'] at hy
      simp only [nds, List.map_map, List.mem_map] at hy
      obtain ⟨x, hx, rfl⟩ := hy
      exact hw x hx
    have TN : Aside0 (∀ W, Below w.heap.size w W → Calls Tryd.prog 8 #[.slice A l.length c] W fun e w' => ∃ (A1 : Option Addr) (c1 : Nat), e = .returned (.slice A1 l'.length c1) ∧ l'.length ≤ c1 ∧ Kd.C k50 w' A1 l'.length l' ∧ Below W.heap.size W w') := by
      refine ⟨fun W hW => (toNodeS_calls A c l W (Kd.C_below HR.out hW) hc (by omega)).mono ?_⟩
      rintro e w' ⟨v, rfl, ho, hb⟩
      rw [← hl'] at ho
      obtain ⟨A1, c1, rfl, h1, h2⟩ := Kd.R_reads ho
      exact ⟨A1, c1, rfl, h1, h2, hb⟩
    have hl1 : l'.length ≤ 1048576 := by omega
    clear hlen hl' hw
    go_enter Tryd.func3, Tryd.ntmps3
    go_wp2_with (first
      | (go_at_call 6; refine (szNodeS_calls A c l _ HR.out hc).mono ?_; rw [E1.out]; rintro e w1 ⟨rfl, ⟨nq, rfl⟩⟩; have HB1 := Aside0.mk (pw_below_drewN HB.out nq)))
    refine (TN.out _ HB1.out).mono ?_
    rintro e w2 ⟨A1, c1, rfl, hc1, hC1, hb2⟩
    have H1 := Aside0.mk hC1
    have HB2 := Aside0.mk (below_then HB1.out HB1.out.size hb2)
    clear hC1 hb2
    go_wp2_with fail
    refine (specTermText_calls A1 c1 l' _ H1.out hc1 (by omega) HW.out).mono ?_
    rintro e w3 ⟨rfl, hb3⟩
    have HB3 := Aside0.mk (below_then HB2.out HB2.out.size hb3)
    clear hb3
    go_wp2_with fail
    refine (TN.out _ HB3.out).mono ?_
    rintro e w4 ⟨A2, c2, rfl, hc2, hC2, hb4⟩
    have H2 := Aside0.mk hC2
    have HB4 := Aside0.mk (below_then HB3.out HB3.out.size hb4)
    clear hC2 hb4
    go_wp2_with fail
    refine (implTermText_calls A2 c2 l' _ H2.out hc2 HW.out (HT.out.on HB4.out)).mono ?_
    rintro e w5 ⟨rfl, hb5⟩
    have HB5 := Aside0.mk (below_then HB4.out HB4.out.size hb5)
    have H5 := Aside0.mk (Kd.C_below H2.out hb5)
    clear hb5
    go_wp2_with fail
    refine (TN.out _ HB5.out).mono ?_
    rintro e w6 ⟨A3, c3, rfl, hc3, hC3, hb6⟩
    have H6 := Aside0.mk hC3
    have H56 := Aside0.mk (Kd.C_below H5.out hb6)
    have HB6 := Aside0.mk (below_then HB5.out HB5.out.size hb6)
    clear hC3 hb6
    go_wp2_with fail
    refine (eqNodeS_calls A2 c2 A3 c3 l' _ H56.out hc2 H6.out hc3 (by omega)).mono ?_
    rintro e w7 ⟨rfl, hb7⟩
    have HB7 := Aside0.mk (below_then HB6.out HB6.out.size hb7)
    clear hb7
    go_wp2_with fail
    go_ret
    exact ⟨rfl, HB7.out⟩
end Go.Proofs.YtleppmjconljfaaDoor.T1
