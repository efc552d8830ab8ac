/- The walks of both RuleTexts; the premises: numbers are of 64 bits, the table reads as laid. -/
import Derived.Test.YtleppmjconljfaaDoorT9
namespace Go.Proofs.YtleppmjconljfaaDoor.T1
open Go.RowKit Go.Proofs.YtleppmjconljfaaDoorW.PrintWords Go.Proofs.YtleppmjconljfaaDoorW.PrintLast Go.Proofs.YtleppmjconljfaaDoorW.PrintMore
open Go.Proofs.YtleppmjconljfaaDoor.Tree Go.Proofs.YtleppmjconljfaaDoor.PA
set_option linter.unusedVariables false
set_option linter.unusedSimpArgs false

def goodP (t : List Nd) : Bool := (treeM t).isSome && decide (t.length ≤ 7)
def goodR (l r : List Nd) : Bool := goodP l && goodP r
def ruS (l r : List Nd) : ByteArray := match goodR l r with | true => (ttS l ++ (⟨#[61, 62]⟩ : ByteArray)) ++ ttS r | false => ⟨#[]⟩
def RTPost (l r : List Nd) (w : World) (e : Ending) (w' : World) : Prop := e = .returned (.tuple #[.string (ruS l r), .bool (goodR l r)]) ∧ Below w.heap.size w w'
/-- The block of a rule in memory. -/
abbrev ruleBlk (A0 : Option Addr) (n0 c0 : Nat) (A1 : Option Addr) (n1 c1 : Nat) (t : TypeId) : Obj := .cells #[.slice A0 n0 c0, .slice A1 n1 c1] t (0, 0)
abbrev ruleV (A0 : Option Addr) (n0 c0 : Nat) (A1 : Option Addr) (n1 c1 : Nat) : Value := .agg #[.slice A0 n0 c0, .slice A1 n1 c1]


set_option maxHeartbeats 400000 in
set_option maxRecDepth 100000 in
theorem patternOf_none (A : Option Addr) (c : Nat) (l : List S50) (w : World) (hr : Kd.C k50 w A l.length l) (hc : l.length ≤ c) (hT : goodP (nds l) = false) :
    Calls Tryd.prog 71 #[.slice A l.length c] w fun e w' => e = .returned (.pointer none) ∧ Below w.heap.size w w' := by
  have HR := Aside0.mk hr
  clear hr
  have hn : (nds l).length = l.length := by simp [nds]
  by_cases h7 : 7 < l.length
  · clear hT hn
    go_enter Tryd.func71, Tryd.ntmps71
    go_wp2_with fail
    go_ret
    exact ⟨rfl, Below.refl _ _⟩
  · have hT' : treeM (nds l) = none := by
      unfold goodP at hT
      rw [hn, decide_eq_true (by omega), Bool.and_true] at hT
      exact Option.isNone_iff_eq_none.1 (by simpa using hT)
    have HT := Aside0.mk hT'
    clear hT hT' hn
    go_enter Tryd.func71, Tryd.ntmps71
    go_wp2_with (first
      | (go_at_call 26; refine (treeOf_none A c l _ HR.out hc HT.out).mono ?_; rintro e w1 ⟨rfl, hb⟩; have HB := Aside0.mk hb; clear hb))
    go_ret
    exact ⟨rfl, HB.out⟩
set_option maxHeartbeats 400000 in
set_option maxRecDepth 100000 in
theorem patternOf_some (A : Option Addr) (c : Nat) (l : List S50) (w : World) (hr : Kd.C k50 w A l.length l) (hc : l.length ≤ c) (hT : goodP (nds l) = true) :
    Calls Tryd.prog 71 #[.slice A l.length c] w fun e w' => ∃ g, e = .returned (ptr g) ∧ Below w.heap.size w w' := by
  have HR := Aside0.mk hr
  clear hr
  have hn : (nds l).length = l.length := by simp [nds]
  unfold goodP at hT
  rw [Bool.and_eq_true, hn] at hT
  obtain ⟨x, hx⟩ := Option.isSome_iff_exists.1 hT.1
  have h7 : l.length ≤ 7 := by simpa using hT.2
  have HT := Aside0.mk hx
  clear hT hx hn
  go_enter Tryd.func71, Tryd.ntmps71
  go_wp2_with (first
    | (go_at_call 26; refine (treeOf_some A c l _ HR.out hc HT.out).mono ?_; rintro e w1 ⟨g, rfl, -, hb⟩; have HB := Aside0.mk hb; clear hb))
  go_ret
  exact ⟨g, rfl, HB.out⟩
set_option maxHeartbeats 400000 in
set_option maxRecDepth 100000 in
theorem goodPattern_calls (A : Option Addr) (c : Nat) (l : List S50) (w : World) (hr : Kd.C k50 w A l.length l) (hc : l.length ≤ c) :
    Calls Tryd.prog 48 #[.slice A l.length c] w fun e w' => e = .returned (.bool (goodP (nds l))) ∧ Below w.heap.size w w' := by
  have HR := Aside0.mk hr
  clear hr
  cases hT : goodP (nds l) with
  | false =>
    have HT := Aside0.mk hT
    clear hT
    go_enter Tryd.func48, Tryd.ntmps48
    go_wp2_with (first
      | (go_at_call 71; refine (patternOf_none A c l _ HR.out hc HT.out).mono ?_; rintro e w1 ⟨rfl, hb⟩; have HB := Aside0.mk hb; clear hb))
    go_ret
    exact ⟨rfl, HB.out⟩
  | true =>
    have HT := Aside0.mk hT
    clear hT
    go_enter Tryd.func48, Tryd.ntmps48
    go_wp2_with (first
      | (go_at_call 71; refine (patternOf_some A c l _ HR.out hc HT.out).mono ?_; rintro e w1 ⟨g, rfl, hb⟩; have HB := Aside0.mk hb; clear hb))
    go_ret
    exact ⟨rfl, HB.out⟩
/-- What is read of a rule's block at a world. -/
theorem rule_open {w : World} {g : Nat} {A0 A1 : Option Addr} {n0 c0 n1 c1 : Nat} {t : TypeId} (h : w.heap[g]? = some (ruleBlk A0 n0 c0 A1 n1 c1 t)) :
    w.cell? ⟨g, 0, none⟩ = some (.slice A0 n0 c0) ∧ w.cell? ⟨g, 1, none⟩ = some (.slice A1 n1 c1) := ⟨(blk_cell h 0).trans rfl, (blk_cell h 1).trans rfl⟩
set_option maxHeartbeats 400000 in
set_option maxRecDepth 100000 in
theorem goodRule_calls (A0 : Option Addr) (c0 : Nat) (l0 : List S50) (A1 : Option Addr) (c1 : Nat) (l1 : List S50) (w : World) (hr0 : Kd.C k50 w A0 l0.length l0) (hc0 : l0.length ≤ c0) (hr1 : Kd.C k50 w A1 l1.length l1) (hc1 : l1.length ≤ c1) :
    Calls Tryd.prog 30 #[ruleV A0 l0.length c0 A1 l1.length c1] w fun e w' => e = .returned (.bool (goodR (nds l0) (nds l1))) ∧ Below w.heap.size w w' := by
  have hu := Tryd.underlying35
  have HR0 := Aside0.mk hr0
  have HR1 := Aside0.mk hr1
  have HB := Aside0.mk (Below.refl w.heap.size w)
  clear hr0 hr1
  obtain ⟨b0, hb0⟩ : ∃ b, b = goodP (nds l0) := ⟨_, rfl⟩
  have E0 := Aside0.mk hb0
  have hg : goodR (nds l0) (nds l1) = (b0 && goodP (nds l1)) := by rw [hb0]; rfl
  rw [hg]
  clear hg hb0
  cases b0
  all_goals
    go_enter Tryd.func30, Tryd.ntmps30
    go_wp2_with (first
      | ((with_reducible refine gate_dst (N := 1) rfl ?_); refine box_event ?hg (N := 1) ?hd (cs := #[.slice A0 l0.length c0, .slice A1 l1.length c1]) (t := 35) ?hr ?_; (case hd => rfl); (case hg => rfl); (case hr => first | (go_simp; done) | (go_simp; rfl)); intro g hg w1 hbox hb; obtain ⟨x0, x1⟩ := rule_open hbox; have BK := Aside0.mk hbox; have HB1 := Aside0.mk hb; clear hb hbox hg)
      | (go_at_call 48; refine (goodPattern_calls A0 c0 l0 _ (Kd.C_below HR0.out HB1.out) hc0).mono ?_; rw [← E0.out]; rintro e w2 ⟨rfl, hb⟩; have BK2 := Aside0.mk (blk_below BK.out hb); obtain ⟨y0, y1⟩ := rule_open BK2.out; have HB2 := Aside0.mk (below_then HB1.out HB1.out.size hb); clear hb)
      | (go_at_call 48; refine (goodPattern_calls A1 c1 l1 _ (Kd.C_below HR1.out HB2.out) hc1).mono ?_; rintro e w3 ⟨rfl, hb⟩; have HB3 := Aside0.mk (below_then HB2.out HB2.out.size hb); clear hb))
    go_ret
    first
      | exact ⟨rfl, HB3.out⟩
      | exact ⟨rfl, HB2.out⟩
end Go.Proofs.YtleppmjconljfaaDoor.T1
