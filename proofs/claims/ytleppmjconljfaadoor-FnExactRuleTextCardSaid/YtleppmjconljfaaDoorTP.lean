/- Terms as lists of nodes and as trees: the plain side; no condition. -/
import Derived.Test.YtleppmjconljfaaDoorTree
namespace Go.Proofs.YtleppmjconljfaaDoor.Tree
set_option linter.unusedVariables false

abbrev Nd := Int × Int

def arN (op : Int) : Nat := if op = 1 ∨ op = 2 then 0 else if op = 3 then 1 else if op = 11 then 3 else 2
def okN (x : Nd) : Bool := if x.1 = 1 then true else if x.1 = 2 then decide (0 ≤ x.2) && decide (x.2 < 4) else decide (1 ≤ x.1) && decide (x.1 ≤ 11) && decide (x.2 = 0)

def stepOk (pile : List T) (x : Nd) : Bool := okN x && decide (arN x.1 ≤ pile.length)
def made (pile : List T) (x : Nd) : T := .mk x.1 x.2 (pile.drop (pile.length - arN x.1))
def piled (pile : List T) (x : Nd) : List T := pile.take (pile.length - arN x.1) ++ [made pile x]

/-- The pile and all trees behind some nodes. -/
def prun : List Nd → List T → List T → Option (List T × List T)
  | [], pile, out => some (pile, out)
  | x :: xs, pile, out => if stepOk pile x = true then prun xs (piled pile x) (out ++ [made pile x]) else none

/-- The trees of all nodes of a term; none where it is not good. -/
def treesM (t : List Nd) : Option (List T) :=
  if 1 ≤ t.length ∧ t.length ≤ 40 then
    match prun t [] [] with
    | some (pile, out) => if pile.length = 1 then some out else none
    | none => none
  else none

theorem piled_length (pile : List T) (x : Nd) : (piled pile x).length ≤ pile.length + 1 := by
  unfold piled
  simp only [List.length_append, List.length_take, List.length_singleton]
  omega
theorem prun_length : ∀ (xs : List Nd) (pile out p o : List T), prun xs pile out = some (p, o) → o.length = out.length + xs.length
  | [], pile, out, p, o, h => by
    simp only [prun, Option.some.injEq, Prod.mk.injEq] at h
    obtain ⟨rfl, rfl⟩ := h
    simp
  | x :: xs, pile, out, p, o, h => by
    unfold prun at h
    split at h
    · have := prun_length xs _ _ _ _ h
      simp at this ⊢
      omega
    · cases h
theorem treesM_length {t : List Nd} {o : List T} (h : treesM t = some o) : o.length = t.length := by
  unfold treesM at h
  split at h
  · split at h
    · rename_i pile out hp
      split at h
      · injection h with h
        subst h
        have := prun_length _ _ _ _ _ hp
        simpa using this
      · cases h
    · cases h
  · cases h
theorem treesM_none {t : List Nd} (h : prun t [] [] = none) : treesM t = none := by
  unfold treesM
  rw [h]
  split <;> rfl
theorem prun_bad {x : Nd} {xs : List Nd} {pile out : List T} (h : stepOk pile x = false) : prun (x :: xs) pile out = none := by
  unfold prun
  rw [h]
  rfl
theorem prun_good {x : Nd} {xs : List Nd} {pile out : List T} (h : stepOk pile x = true) : prun (x :: xs) pile out = prun xs (piled pile x) (out ++ [made pile x]) := by
  rw [prun, if_pos h]
end Go.Proofs.YtleppmjconljfaaDoor.Tree
