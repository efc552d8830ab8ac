/- The reference's look at a term: the plain side; conditions as stated. -/
import Derived.Test.YtleppmjconljfaaDoorTS
namespace Go.Proofs.YtleppmjconljfaaDoor.T1
open Go.RowKit Go.Proofs.YtleppmjconljfaaDoorW.PrintWords Go.Proofs.YtleppmjconljfaaDoorW.PrintLast Go.Proofs.YtleppmjconljfaaDoorW.PrintMore
open Go.Proofs.YtleppmjconljfaaDoor.Tree Go.Proofs.YtleppmjconljfaaDoor.PA
set_option linter.unusedVariables false
set_option linter.unusedSimpArgs false

theorem okN_iff (op n : Int) : okN (op, n) = (decide (0 ≤ arS op) && (if op = 2 then decide (0 ≤ n) && decide (n < 4) else if 0 < arS op then decide (n = 0) else true)) := by
  unfold okN arS
  simp only
  by_cases h1 : op = 1
  · simp [h1]
  · by_cases h2 : op = 2
    · simp [h2]
    · by_cases h3 : op = 3
      · simp [h3]
      · by_cases h4 : op = 11
        · simp [h4]
        · by_cases h5 : 4 ≤ op ∧ op ≤ 10
          · obtain ⟨a, b⟩ := h5
            have : 1 ≤ op := by omega
            have : op ≤ 11 := by omega
            simp [*]
          · have : (decide (1 ≤ op) && decide (op ≤ 11)) = false := by
              rw [Bool.and_eq_false_iff]; simp; omega
            simp [h1, h2, h3, h4, h5, this]

theorem arN_le (op : Int) : arN op ≤ 3 := by
  unfold arN
  repeat' split
  all_goals omega

def goodOf : Option (List T × List T) → Bool
  | some (p, _) => decide (p.length = 1)
  | none => false
theorem goodLoop_ev (l : List S50) (hl : l.length ≤ 40) : ∀ (d i : Nat) (pile out : List T), l.length - i = d → i ≤ l.length → pile.length ≤ i →
    Ev (fun k => spec_GoodTerm.l0 k (pile.length : Int) l (l.length : Int) (i : Int)) (goodOf (prun ((nds l).drop i) pile out)) := by
  intro d
  induction d with
  | zero =>
    intro i pile out hd hi hp
    obtain rfl : i = l.length := by omega
    refine Ev.step (f := fun _ => some (((pile.length : Nat) : Int) == 1)) (fun k => ?_) ?_
    · rw [spec_GoodTerm.l0, if_neg (by omega)]
    · rw [List.drop_of_length_le (by simp [nds])]
      have : (((pile.length : Nat) : Int) == 1) = decide (pile.length = 1) := by
        rw [Bool.eq_iff_iff]; simp; omega
      rw [this]
      exact Ev.now _
  | succ d ih =>
    intro i pile out hd hi hp
    have hlt : i < l.length := by omega
    have hnd : (nds l)[i]? = some ((nds l)[i]'(by simpa [nds] using hlt)) := List.getElem?_eq_getElem _
    have hdrop : (nds l).drop i = (nds l)[i]'(by simpa [nds] using hlt) :: (nds l).drop (i + 1) := List.drop_eq_getElem_cons _
    rw [hdrop]
    generalize (nds l)[i]'(by simpa [nds] using hlt) = x at hnd
    obtain ⟨op, n⟩ := x
    obtain ⟨hr, _⟩ := nds_at l i _ hnd
    have e1 : wrap64 ((i : Int) + 1) = ((i + 1 : Nat) : Int) := by rw [wrap_small _ (by omega)]; omega
    refine Ev.step (f := fun k => (spec_l1Arity.f k op).bind fun t105 => (if t105 < 0 then (some false) else (if (pile.length : Int) < t105 then (some false) else (if op = 2 then (if n < 0 then (some false) else (if n ≥ 4 then (some false) else (if t105 > 0 then (if n = 0 then (spec_GoodTerm.l0 k (wrap64 ((pile.length : Int) + (wrap64 (1 - t105)))) l (l.length : Int) ((i + 1 : Nat) : Int)) else (some false)) else (spec_GoodTerm.l0 k (wrap64 ((pile.length : Int) + (wrap64 (1 - t105)))) l (l.length : Int) ((i + 1 : Nat) : Int))))) else (if t105 > 0 then (if n = 0 then (spec_GoodTerm.l0 k (wrap64 ((pile.length : Int) + (wrap64 (1 - t105)))) l (l.length : Int) ((i + 1 : Nat) : Int)) else (some false)) else (spec_GoodTerm.l0 k (wrap64 ((pile.length : Int) + (wrap64 (1 - t105)))) l (l.length : Int) ((i + 1 : Nat) : Int))))))) (fun k => ?_) ?_
    · rw [spec_GoodTerm.l0, if_pos (by omega), if_pos (by omega), if_pos (by omega), hr, e1]
    · refine Ev.bind (l1Arity_ev op) ?_
      cases hso : stepOk pile (op, n) with
      | false =>
        rw [prun_bad hso]
        refine Ev.congr (f := fun _ => some false) (fun k => ?_) (Ev.now _)
        by_cases h1 : arS op < 0
        · rw [if_pos h1]
        · rw [if_neg h1]
          by_cases h2 : (pile.length : Int) < arS op
          · rw [if_pos h2]
          · rw [if_neg h2]
            have h3 : okN (op, n) = false := by
              cases hk : okN (op, n) with
              | false => rfl
              | true =>
                have := arS_ok hk
                simp [stepOk, hk] at hso
                omega
            rw [okN_iff, decide_eq_true (by omega : 0 ≤ arS op), Bool.true_and] at h3
            by_cases h4 : op = 2
            · rw [if_pos h4] at h3 ⊢
              by_cases h5 : n < 0
              · rw [if_pos h5]
              · rw [if_neg h5]
                by_cases h6 : n ≥ 4
                · rw [if_pos h6]
                · simp at h3; omega
            · rw [if_neg h4] at h3 ⊢
              by_cases h5 : 0 < arS op
              · rw [if_pos h5] at h3
                rw [if_pos h5]
                have h7 : ¬ n = 0 := by simpa using h3
                rw [if_neg h7]
              · rw [if_neg h5] at h3
                cases h3
      | true =>
        rw [prun_good hso]
        simp only [stepOk, Bool.and_eq_true, decide_eq_true_eq] at hso
        obtain ⟨hok, har⟩ := hso
        have hS := arS_ok hok
        have hpl : (piled pile (op, n)).length = pile.length - arN op + 1 := by
          unfold piled
          rw [List.length_append, List.length_take, List.length_singleton]
          dsimp only
          omega
        have e2 : wrap64 ((pile.length : Int) + wrap64 (1 - (arN op : Int))) = ((piled pile (op, n)).length : Int) := by
          have := arN_le op
          rw [wrap_small (1 - (arN op : Int)) (by omega), wrap_small _ (by omega), hpl]
          omega
        have h3 := ih (i + 1) (piled pile (op, n)) (out ++ [made pile (op, n)]) (by omega) (by omega) (by rw [hpl]; omega)
        refine Ev.congr (fun k => ?_) h3
        have h4 := hok
        rw [okN_iff, Bool.and_eq_true] at h4
        obtain ⟨h5, h6⟩ := h4
        rw [hS, e2, if_neg (by omega), if_neg (by omega)]
        by_cases h7 : op = 2
        · rw [if_pos h7] at h6 ⊢
          simp at h6
          rw [if_neg (by omega), if_neg (by omega), if_neg (by subst h7; decide)]
        · rw [if_neg h7] at h6 ⊢
          by_cases h8 : 0 < arS op
          · rw [if_pos h8] at h6
            rw [if_pos (by omega), if_pos (by simpa using h6)]
          · rw [if_neg (by omega)]
theorem good_ev (l : List S50) (hl : l.length ≤ 1000000000) : Ev (fun k => spec_GoodTerm.f k l) (treeM (nds l)).isSome := by
  have hn : (nds l).length = l.length := by simp [nds]
  by_cases h : 1 ≤ l.length ∧ l.length ≤ 40
  · have h2 := goodLoop_ev l h.2 l.length 0 [] [] (by omega) (by omega) (by simp)
    refine Ev.congr (f := fun k => spec_GoodTerm.l0 k 0 l (l.length : Int) 0) (fun k => ?_) ?_
    · unfold spec_GoodTerm.f spec_l1In.f
      rw [if_pos (by omega)]
      have : decide ((l.length : Int) ≤ 40) = true := by simp; omega
      simp [this]
    · have h3 : (treeM (nds l)).isSome = goodOf (prun ((nds l).drop 0) [] []) := by
        rw [List.drop_zero]
        unfold treeM treesM
        rw [if_pos (by omega)]
        cases hp : prun (nds l) [] [] with
        | none => rfl
        | some q =>
          obtain ⟨p, o⟩ := q
          have hol := prun_length _ _ _ _ _ hp
          simp only [List.length_nil, Nat.zero_add, hn] at hol
          simp only [goodOf]
          by_cases h4 : p.length = 1
          · rw [if_pos h4, decide_eq_true h4, Option.bind_some, List.getElem?_eq_getElem (by omega)]
            rfl
          · rw [if_neg h4, decide_eq_false h4]
            rfl
      rw [h3]
      exact h2
  · refine Ev.congr (f := fun _ => some false) (fun k => ?_) ?_
    · unfold spec_GoodTerm.f spec_l1In.f
      by_cases h4 : (l.length : Int) ≥ 1
      · have : decide ((l.length : Int) ≤ 40) = false := by simp; omega
        simp [h4, this]
      · simp [h4]
    · have : treeM (nds l) = none := by
        unfold treeM treesM
        rw [if_neg (by omega)]
        rfl
      rw [this]
      exact Ev.now _
end Go.Proofs.YtleppmjconljfaaDoor.T1
