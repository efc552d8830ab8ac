/- Trees and the lists of their nodes: the plain side; no condition. -/
import Derived.Test.YtleppmjconljfaaDoorTX
namespace Go.Proofs.YtleppmjconljfaaDoor.Tree
set_option linter.unusedVariables false

mutual
def flat : T → List Nd
  | .mk op n kids => flats kids ++ [(op, n)]
def flats : List T → List Nd
  | [] => []
  | t :: ts => flat t ++ flats ts
end
mutual
theorem flat_length : ∀ t : T, (flat t).length = t.size
  | .mk op n kids => by
    rw [flat, List.length_append, flats_length kids, T.size]
    simp; omega
theorem flats_length : ∀ l : List T, (flats l).length = sizes l
  | [] => rfl
  | t :: ts => by rw [flats, List.length_append, flat_length t, flats_length ts, sizes]
end
theorem flats_append : ∀ (a b : List T), flats (a ++ b) = flats a ++ flats b
  | [], b => rfl
  | t :: a, b => by
    rw [List.cons_append, flats, flats, flats_append a b, List.append_assoc]
theorem size_pos : ∀ t : T, 1 ≤ t.size
  | .mk _ _ _ => by rw [T.size]; omega

theorem sizes_ge : ∀ l : List T, l.length ≤ sizes l
  | [] => Nat.le_refl _
  | t :: ts => by
    have := sizes_ge ts
    have := size_pos t
    rw [sizes, List.length_cons]
    omega

/-- What the pile holds are the nodes passed, in order. -/
theorem prun_flat : ∀ (xs : List Nd) (pile out p o : List T), prun xs pile out = some (p, o) → flats p = flats pile ++ xs
  | [], pile, out, p, o, h => by
    simp only [prun, Option.some.injEq, Prod.mk.injEq] at h
    obtain ⟨rfl, rfl⟩ := h
    simp
  | x :: xs, pile, out, p, o, h => by
    unfold prun at h
    split at h
    · have h2 := prun_flat xs _ _ _ _ h
      rw [h2]
      unfold piled
      rw [flats_append, flats, flats, made, flat, List.append_nil]
      have h5 : flats pile = flats (pile.take (pile.length - arN x.1)) ++ flats (pile.drop (pile.length - arN x.1)) := by
        rw [← flats_append, List.take_append_drop]
      rw [h5]
      simp
    · cases h
/-- The last of all trees is the last of the pile. -/
theorem prun_last : ∀ (xs : List Nd) (pile out p o : List T), prun xs pile out = some (p, o) → (pile.getLast? = out.getLast? ∨ xs ≠ []) → p.getLast? = o.getLast?
  | [], pile, out, p, o, h, hl => by
    simp only [prun, Option.some.injEq, Prod.mk.injEq] at h
    obtain ⟨rfl, rfl⟩ := h
    rcases hl with hl | hl
    · exact hl
    · exact absurd rfl hl
  | x :: xs, pile, out, p, o, h, _ => by
    unfold prun at h
    split at h
    · exact prun_last xs _ _ _ _ h (.inl (by simp [piled]))
    · cases h

def treeM (t : List Nd) : Option T := (treesM t).bind fun o => o[o.length - 1]?
theorem treeM_none {t : List Nd} (h : treesM t = none) : treeM t = none := by rw [treeM, h]; rfl
theorem treeM_some {t : List Nd} {o : List T} {x : T} (h : treesM t = some o) (hx : o[o.length - 1]? = some x) : treeM t = some x := by rw [treeM, h]; exact hx

def Wide (t : List Nd) : Prop := ∀ y ∈ t, -9223372036854775808 ≤ y.2 ∧ y.2 ≤ 9223372036854775807
/-- What is known of a good term's tree. -/
theorem treeM_is {t : List Nd} {x : T} (h : treeM t = some x) (hw : Wide t) : flat x = t ∧ Fit x ∧ x.size ≤ 40 ∧ x.size = t.length := by
  unfold treeM treesM at h
  split at h
  · rename_i hl
    split at h
    · rename_i p o hp
      split at h
      · rename_i h1
        have hlast := prun_last _ _ _ _ _ hp (.inr (by intro e; subst e; simp at hl))
        have hflat := prun_flat _ _ _ _ _ hp
        obtain ⟨hf, _, hs⟩ := prun_fit _ _ _ _ _ hp hw (by simp) (by simp)
        match p, h1 with
        | [y], _ =>
          have hx : o[o.length - 1]? = some x := h
          rw [← List.getLast?_eq_getElem?] at hx
          rw [hx] at hlast
          simp only [List.getLast?_singleton, Option.some.injEq] at hlast
          subst hlast
          have hz : y.size = t.length := by simpa [sizes] using hs
          exact ⟨by simpa [flats] using hflat, hf y (by simp), by omega, hz⟩
      · cases h
    · cases h
  · cases h
end Go.Proofs.YtleppmjconljfaaDoor.Tree
