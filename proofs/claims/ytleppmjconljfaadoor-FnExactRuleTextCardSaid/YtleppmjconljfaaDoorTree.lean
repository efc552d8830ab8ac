/- Trees of nodes in memory: a kind 'pointer to a tree' for rows of such pointers; conditions: none. -/
import Derived.Test.YtleppmjconljfaaDoorWWords
namespace Go.Proofs.YtleppmjconljfaaDoor.Tree
open Go.RowKit Go.Proofs.YtleppmjconljfaaDoorW.PrintWords
set_option linter.unusedVariables false

inductive T where
  | mk (op n : Int) (kids : List T)
def T.op : T → Int | .mk a _ _ => a
def T.n : T → Int | .mk _ a _ => a
def T.kids : T → List T | .mk _ _ a => a

abbrev ptr (g : Nat) : Value := .pointer (some ⟨g, 0, none⟩)

/-- The tree t lies at block g; all its blocks are ok, from base on. tt: the type of the struct, pt: that of a pointer to it. -/
inductive Lies (tt pt : Nat) (w : World) (base : Nat) (ok : Nat → Prop) : Nat → T → Prop
  | mk (g : Nat) (op n : Int) (kids : List T) (v : Value) (gs : List Nat) (hok : ok g) (hb : base ≤ g)
      (hg : w.heap[g]? = some (.cells #[.int .i64 op, .int .i64 n, v] tt (0, 0)))
      (hv : w.ownsRow base pt 1 v kids.length (gs.map ptr)) (hvo : ∀ k, v.ownBlock = some k → ok k)
      (hl : gs.length = kids.length) (hk : ∀ (j : Nat) (g' : Nat) (t' : T), gs[j]? = some g' → kids[j]? = some t' → Lies tt pt w base ok g' t') :
      Lies tt pt w base ok g (.mk op n kids)

section
variable {tt pt : Nat} {w w1 : World} {base base' : Nat} {ok ok' : Nat → Prop} {g : Nat} {t : T}
theorem Lies.mono (hok : ∀ k, ok k → ok' k) (h : Lies tt pt w base ok g t) : Lies tt pt w base ok' g t := by
  induction h with
  | mk g op n kids v gs h1 hb hg hv hvo hl _ ih => exact .mk g op n kids v gs (hok _ h1) hb hg hv (fun k hk => hok _ (hvo k hk)) hl (fun j g' t' a b => ih j g' t' a b)
theorem Lies.bound (h : Lies tt pt w base ok g t) : Lies tt pt w base (fun k => ok k ∧ base ≤ k ∧ k < w.heap.size ∧ ∃ q, q ∈ [tt, pt] ∧ ∃ cells, w.heap[k]? = some (.cells cells q (0, 0))) g t := by
  induction h with
  | mk g op n kids v gs h1 hb hg hv hvo hl _ ih =>
    exact .mk g op n kids v gs ⟨h1, hb, blk_lt hg, tt, by simp, _, hg⟩ hb hg hv (fun k hk => ⟨hvo k hk, own_base hv k hk, own_lt hv k hk, pt, by simp, own_typed hv k hk⟩) hl (fun j g' t' a b => ih j g' t' a b)
theorem Lies.move (hm : ∀ k, ok k → w1.heap[k]? = w.heap[k]?) (h : Lies tt pt w base ok g t) : Lies tt pt w1 base ok g t := by
  induction h with
  | mk g op n kids v gs h1 hb hg hv hvo hl _ ih => exact .mk g op n kids v gs h1 hb ((hm g h1).trans hg) (own_move hv (fun k hk => hm k (hvo k hk))) hvo hl (fun j g' t' a b => ih j g' t' a b)
theorem Lies.lower (hb' : base' ≤ base) (h : Lies tt pt w base ok g t) : Lies tt pt w base' ok g t := by
  induction h with
  | mk g op n kids v gs h1 hb hg hv hvo hl _ ih => exact .mk g op n kids v gs h1 (Nat.le_trans hb' hb) hg (own_weaken hv hb') hvo hl (fun j g' t' a b => ih j g' t' a b)
theorem Lies.under (hb : Below w.heap.size w w1) (h : Lies tt pt w base ok g t) : Lies tt pt w1 base ok g t :=
  (Lies.move (fun k hk => hb.block k hk.2.2.1) h.bound).mono (fun _ hk => hk.1)
theorem Lies.step (hm : ∀ k, ok k → k < w.heap.size → w1.heap[k]? = w.heap[k]?) (h : Lies tt pt w base ok g t) : Lies tt pt w1 base ok g t :=
  (Lies.move (fun k hk => hm k hk.1 hk.2.2.1) h.bound).mono (fun _ hk => hk.1)
end

/-- A pointer to a tree, as a kind. -/
def kT (tt pt : Nat) : Kd T where
  sz := 1
  E := [tt, pt]
  K := fun w t cs => ∃ g ok, cs = [ptr g] ∧ Lies tt pt w 0 ok g t
  M := fun w base ok t cs => ∃ g, cs = [ptr g] ∧ Lies tt pt w base ok g t
  K_len := by
    rintro w x cs ⟨g, ok, rfl, _⟩
    rfl
  K_one := by
    rintro w x cs ⟨g, ok, rfl, _⟩ u hu
    rw [List.mem_singleton.1 hu]
    rfl
  K_below := by
    rintro w w1 x cs hb ⟨g, ok, rfl, h⟩
    exact ⟨g, ok, rfl, h.under hb⟩
  K_of_M := by
    rintro w base ok x cs ⟨g, rfl, h⟩
    exact ⟨g, ok, rfl, h.lower (Nat.zero_le _)⟩
  M_mono := by
    rintro w base ok ok' x cs hok ⟨g, rfl, h⟩
    exact ⟨g, rfl, h.mono hok⟩
  M_bound := by
    rintro w base ok x cs ⟨g, rfl, h⟩
    exact ⟨g, rfl, h.bound⟩
  M_move := by
    rintro w w1 base ok x cs hm ⟨g, rfl, h⟩
    exact ⟨g, rfl, h.move hm⟩
  M_lower := by
    rintro w base base' ok x cs hb ⟨g, rfl, h⟩
    exact ⟨g, rfl, h.lower hb⟩

/-- What is read of a tree. -/
theorem Lies.read {tt pt : Nat} {w : World} {base : Nat} {ok : Nat → Prop} {g : Nat} {op n : Int} {kids : List T} (h : Lies tt pt w base ok g (.mk op n kids)) :
    ∃ A c, w.heap[g]? = some (.cells #[.int .i64 op, .int .i64 n, .slice A kids.length c] tt (0, 0)) ∧ kids.length ≤ c ∧ Kd.C (kT tt pt) w A kids.length kids := by
  cases h with
  | mk g op n kids v gs h1 hb hg hv hvo hl hk =>
    have hR : OwnRow (fun t cs => ∃ g, cs = [ptr g] ∧ Lies tt pt w base ok g t) pt 1 w base v kids := by
      refine ⟨gs.map ptr, by simpa using hv, by simp [hl], fun j p hj => ?_⟩
      obtain ⟨hj', rfl⟩ := List.getElem?_eq_some_iff.1 hj
      have hj2 : j < gs.length := by omega
      refine ⟨gs[j], ?_, hk j _ _ (List.getElem?_eq_getElem hj2) (List.getElem?_eq_getElem hj')⟩
      rw [Nat.mul_one, List.drop_eq_getElem_cons (by simpa using hj2)]
      simp
    obtain ⟨A, c, rfl, hc, hr⟩ := hR.reads
    exact ⟨A, c, hg, hc, hr.imp_ (Below.refl _ _) (fun p cs hp => by
      obtain ⟨g', rfl, h'⟩ := hp
      exact ⟨g', ok, rfl, h'.lower (Nat.zero_le _)⟩)⟩

/-- A tree is made: its kids' row is a row of one's own. -/
theorem Lies.made {tt pt : Nat} {w : World} {base : Nat} {ok : Nat → Prop} {g : Nat} {op n : Int} {kids : List T} {v : Value} (hok : ok g) (hb : base ≤ g)
    (hg : w.heap[g]? = some (.cells #[.int .i64 op, .int .i64 n, v] tt (0, 0))) (hR : Kd.R (kT tt pt) pt w base ok v kids) : Lies tt pt w base ok g (.mk op n kids) := by
  obtain ⟨h0, inner, ho, hr⟩ := hR
  have key : ∀ m, m ≤ kids.length → ∃ gs : List Nat, gs.length = m ∧ inner.take m = gs.map ptr ∧ ∀ (j : Nat) g' t', gs[j]? = some g' → kids[j]? = some t' → Lies tt pt w base ok g' t' := by
    intro m
    induction m with
    | zero => exact fun _ => ⟨[], rfl, by simp, fun j g' t' h => by simp at h⟩
    | succ m ih =>
      intro hm
      obtain ⟨gs, hl, ht, hk⟩ := ih (by omega)
      obtain ⟨g', hg', hL⟩ := hr.2 m _ (List.getElem?_eq_getElem (show m < kids.length by omega))
      have hlen : inner.length = kids.length := by have := hr.1; rw [show (kT tt pt).sz = 1 from rfl, Nat.mul_one] at this; exact this
      rw [show (kT tt pt).sz = 1 from rfl, Nat.mul_one] at hg'
      have hi : inner[m]? = some (ptr g') := by
        have := congrArg (fun l => l[0]?) hg'
        simpa [List.getElem?_take, List.getElem?_drop] using this
      refine ⟨gs ++ [g'], by simp [hl], ?_, fun j g2 t' h1 h2 => ?_⟩
      · obtain ⟨hi1, hi2⟩ := List.getElem?_eq_some_iff.1 hi
        rw [List.take_succ_eq_append_getElem hi1, ht, hi2]
        simp
      · rcases Nat.lt_or_ge j gs.length with hj | hj
        · rw [List.getElem?_append_left hj] at h1
          exact hk j g2 t' h1 h2
        · rw [List.getElem?_append_right hj] at h1
          have hj0 : j = gs.length := by
            rcases Nat.eq_zero_or_pos (j - gs.length) with h | h
            · omega
            · rw [List.getElem?_eq_none (by simp; omega)] at h1
              cases h1
          subst hj0
          simp at h1
          subst h1
          rw [hl, List.getElem?_eq_getElem (show m < kids.length by omega)] at h2
          injection h2 with h2
          subst h2
          exact hL.mono (fun _ hk => hk.1)
  obtain ⟨gs, hl, ht, hk⟩ := key kids.length (Nat.le_refl _)
  have hlen : inner.length = kids.length := by have := hr.1; rw [show (kT tt pt).sz = 1 from rfl, Nat.mul_one] at this; exact this
  rw [List.take_of_length_le (by omega)] at ht
  subst ht
  exact .mk g op n kids v gs hok hb hg ho h0 hl hk
end Go.Proofs.YtleppmjconljfaaDoor.Tree
