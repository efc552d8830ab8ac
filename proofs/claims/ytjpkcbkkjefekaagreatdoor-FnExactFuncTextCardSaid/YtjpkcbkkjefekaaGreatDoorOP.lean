/- A part of the session's texts, laid small by the session's shrink.py. -/
import Derived.Test.YtjpkcbkkjefekaaGreatDoorWWords
import Derived.Deep.Slices
import Derived.Deep.Fields
import Derived.ChangeSame
import Derived.ChangeArms
namespace Go.Proofs.YtjpkcbkkjefekaaGreatDoor.OP
open Go.RowKit Go.Proofs.YtjpkcbkkjefekaaGreatDoorW.PrintWords Go.ChangeShapes Go.WideShapes Go.Deep
set_option linter.unusedVariables false
section
variable {P : Program} {H : Type} {enc : TypeId × Value → H} {w : World} {α β γ : Type}
def Opens (P : Program) (enc : TypeId × Value → H) (w : World) (t : TypeId) (d : Kd α) (ok : α → Prop) : Prop :=
  ∀ (base : Nat) (spare : Nat → Bool) (held : Bool) (fuel : Nat) (cs : List Value) (x : DataW H × List MemPlace), DataW.trod enc P w base spare held fuel t cs = some x → ∃ a, d.K w a cs ∧ ok a
theorem list_of {P : Nat → α → Prop} : ∀ (n : Nat), (∀ j, j < n → ∃ a, P j a) → ∃ l : List α, l.length = n ∧ ∀ j a, l[j]? = some a → P j a
  | 0, _ => ⟨[], rfl, fun j a h => by simp at h⟩
  | n + 1, h => by
    obtain ⟨l, hl, hp⟩ := list_of n (fun j hj => h j (by omega))
    obtain ⟨a, ha⟩ := h n (by omega)
    refine ⟨l ++ [a], by simp [hl], fun j b hb => ?_⟩
    rcases Nat.lt_or_ge j l.length with hj | hj
    · rw [List.getElem?_append_left hj] at hb
      exact hp j b hb
    · rw [List.getElem?_append_right hj] at hb
      have hj0 : j - l.length = 0 := by
        rcases Nat.eq_zero_or_pos (j - l.length) with h0 | h0
        · exact h0
        · rw [List.getElem?_eq_none (by simp; omega)] at hb
          cases hb
      rw [hj0] at hb
      simp at hb
      subst hb
      rw [show j = n by omega]
      exact ha
theorem opens_int {t : TypeId} {k : IntKind} (ht : P.underlying t = some (.int k)) : Opens P enc w t (Kd.int k) (fun n => (Lit.int k n).wf = true) := by
  intro base spare held fuel cs x h
  obtain ⟨n, rfl, _, hw⟩ := DataW.trod_int ht h
  exact ⟨n, rfl, hw⟩
theorem opens_slice {t e : TypeId} {d : Kd α} {ok : α → Prop} (ht : P.underlying t = some (.slice e)) (hC : P.cellsOf e = d.sz) (he : Opens P enc w e d ok) : Opens P enc w t (Kd.slice e d) (fun l => ∀ a ∈ l, ok a) := by
  intro base spare held fuel cs x h
  rcases open_slice ht h with ⟨rfl, _⟩ | ⟨a, len, cap, m, n, D, Pl, rfl, hb, hl, hm, hmm, hx, hi⟩
  · exact ⟨[], ⟨none, 0, rfl, Nat.le_refl _, rfl, by simp, fun h => absurd h (by simp)⟩, by simp⟩
  · have hlm : len ≤ m := by rw [hmm]; split <;> omega
    obtain ⟨l, hll, hp⟩ := list_of (P := fun j p => ∃ c, c.length = d.sz ∧ d.K w p c ∧ (∀ i u, c[i]? = some u → w.cell? (a.add (j * d.sz + i)) = some u) ∧ ok p) len (fun j hj => by
      obtain ⟨cs', hc, ht'⟩ := hi j (by omega)
      rw [hC] at hc
      obtain ⟨_, hcl, hat⟩ := World.cells?_some hc
      obtain ⟨p, hK, hok⟩ := he _ _ _ _ _ _ ht'
      refine ⟨p, cs', hcl, hK, fun i u hu => ?_, hok⟩
      have hil : i < d.sz := by
        rw [← hcl]
        exact (List.getElem?_eq_some_iff.1 hu).1
      have := hat i hil
      rw [hu] at this
      rw [← this]
      congr 1
      unfold Addr.add
      by_cases h1 : j * d.sz = 0 <;> by_cases h2 : i = 0 <;> simp [h1, h2, Nat.add_assoc])
    refine ⟨l, ⟨some a, cap, by rw [hll], by omega, by rw [hll], ?_, fun hp0 => ⟨a, rfl, fun j p hj => ?_⟩⟩, fun p hp' => ?_⟩
    · have : maxLen = 9223372036854775807 := rfl
      omega
    · obtain ⟨c, h1, h2, h3, _⟩ := hp j p hj
      exact ⟨c, h1, h2, h3⟩
    · obtain ⟨j, hj⟩ := List.getElem?_of_mem hp'
      obtain ⟨c, _, _, _, hok⟩ := hp j p hj
      exact hok
theorem opens_iso {t : TypeId} {d : Kd α} {ok : α → Prop} (f : β → α) (g : α → β) (hfg : ∀ a, f (g a) = a) (h : Opens P enc w t d ok) : Opens P enc w t (Kd.iso d f) (fun b => ok (f b)) := by
  intro base spare held fuel cs x hx
  obtain ⟨a, h1, h2⟩ := h _ _ _ _ _ _ hx
  refine ⟨g a, ?_, ?_⟩
  · show d.K w (f (g a)) cs
    rw [hfg]
    exact h1
  · show ok (f (g a))
    rw [hfg]
    exact h2
def OpensRun (P : Program) (enc : TypeId × Value → H) (w : World) (fs : Array Field) (j o : Nat) (d : Kd α) (ok : α → Prop) : Prop :=
  ∀ (base : Nat) (spare : Nat → Bool) (held : Bool) (n : Nat) (cs : List Value) (ys : List (DataW H × List MemPlace)), cs.length = o + d.sz → ys.length = fs.size →
    (∀ (i : Nat) (f : Field), fs[i]? = some f → DataW.trod enc P w base spare held n f.type ((cs.drop f.offset).take (P.cellsOf f.type)) = ys[i]?) → ∃ a, d.K w a (cs.drop o) ∧ ok a
theorem run_last {fs : Array Field} {j o : Nat} {d : Kd α} {ok : α → Prop} {f : Field} (hj : fs[j]? = some f) (ho : f.offset = o) (hC : P.cellsOf f.type = d.sz) (h : Opens P enc w f.type d ok) : OpensRun P enc w fs j o d ok := by
  intro base spare held n cs ys hl hyl hf
  have hjl : j < ys.length := by rw [hyl]; exact (Array.getElem?_eq_some_iff.1 hj).1
  have h1 := (hf j f hj).trans (List.getElem?_eq_getElem hjl)
  obtain ⟨a, h2, h3⟩ := h _ _ _ _ _ _ h1
  rw [ho, hC, List.take_of_length_le (by rw [List.length_drop]; omega)] at h2
  exact ⟨a, h2, h3⟩
theorem run_cons {fs : Array Field} {j o : Nat} {d : Kd α} {d' : Kd β} {ok : α → Prop} {ok' : β → Prop} {f : Field} (hj : fs[j]? = some f) (ho : f.offset = o) (hC : P.cellsOf f.type = d.sz) (h : Opens P enc w f.type d ok) (hr : OpensRun P enc w fs (j + 1) (o + d.sz) d' ok') :
    OpensRun P enc w fs j o (Kd.pair d d') (fun x => ok x.1 ∧ ok' x.2) := by
  intro base spare held n cs ys hl hyl hf
  have hjl : j < ys.length := by rw [hyl]; exact (Array.getElem?_eq_some_iff.1 hj).1
  have h1 := (hf j f hj).trans (List.getElem?_eq_getElem hjl)
  obtain ⟨a, h2, h3⟩ := h _ _ _ _ _ _ h1
  rw [ho, hC] at h2
  have hl' : cs.length = o + (d.sz + d'.sz) := hl
  obtain ⟨b, h4, h5⟩ := hr base spare held n cs ys (by omega) hyl hf
  refine ⟨(a, b), ⟨_, _, ?_, h2, h4⟩, h3, h5⟩
  rw [← List.drop_drop, List.take_append_drop]
theorem opens_struct {t : TypeId} {fs : Array Field} {d : Kd α} {ok : α → Prop} (ht : P.underlying t = some (.struct fs)) (hC : P.cellsOf t = d.sz) (hr : OpensRun P enc w fs 0 0 d ok) : Opens P enc w t d ok := by
  intro base spare held fuel cs x h
  obtain ⟨ys, n', hn', hy, hlen, hyl, hf⟩ := DataW.trod_struct ht h
  obtain ⟨a, h1, h2⟩ := hr base spare held n' cs ys (by omega) hyl hf
  exact ⟨a, by simpa using h1, h2⟩
end
end Go.Proofs.YtjpkcbkkjefekaaGreatDoor.OP
