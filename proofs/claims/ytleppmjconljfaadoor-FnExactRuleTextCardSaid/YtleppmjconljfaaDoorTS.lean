/- What the reference's functions on lists of nodes come to: the plain side; conditions as stated. -/
import Derived.Test.YtleppmjconljfaaDoorTF
import Derived.Test.YtleppmjconljfaaDoorT2
namespace Go.Proofs.YtleppmjconljfaaDoor.T1
open Go.RowKit Go.Proofs.YtleppmjconljfaaDoorW.PrintWords Go.Proofs.YtleppmjconljfaaDoorW.PrintLast Go.Proofs.YtleppmjconljfaaDoorW.PrintMore
open Go.Proofs.YtleppmjconljfaaDoor.Tree Go.Proofs.YtleppmjconljfaaDoor.PA
set_option linter.unusedVariables false
set_option linter.unusedSimpArgs false

def arS (op : Int) : Int := if op = 1 ∨ op = 2 then 0 else if op = 3 then 1 else if op = 11 then 3 else if 4 ≤ op ∧ op ≤ 10 then 2 else -1
theorem arS_ok {op n : Int} (h : okN (op, n) = true) : arS op = arN op := by
  unfold arS arN
  simp only [okN] at h
  repeat' split at h
  all_goals (repeat' split) <;> simp_all <;> omega
theorem l1Arity_ev (op : Int) : Ev (fun k => spec_l1Arity.f k op) (arS op) := by
  refine ⟨1, fun k hk => ?_⟩
  obtain ⟨k, rfl⟩ : ∃ m, k = m + 1 := ⟨k - 1, by omega⟩
  unfold spec_l1Arity.f arS
  by_cases h1 : op = 1
  · subst h1; rfl
  · by_cases h2 : op = 2
    · subst h2; rfl
    · have : (op == 2) = false := by simpa using h2
      simp only [if_neg h1, this, spec_l1Arity.j0, spec_l1In.f, h1, h2]
      by_cases h3 : op = 3
      · simp [h3]
      · by_cases h4 : op = 11
        · simp [h4]
        · by_cases h5 : op ≥ 4
          · by_cases h6 : op ≤ 10
            · have h5' : 4 ≤ op := h5
              simp [h3, h4, h5', h6]
            · have h5' : 4 ≤ op := h5
              simp [h3, h4, h5', h6]
          · have h5' : ¬ 4 ≤ op := h5
            simp [h3, h4, h5']

theorem nds_at (l : List S50) (i : Nat) (x : Nd) (h : (nds l)[i]? = some x) : rd_T50 l (i : Int) = ⟨x.1, x.2⟩ ∧ i < l.length := by
  obtain ⟨h1, h2⟩ := List.getElem?_eq_some_iff.1 h
  have h3 : i < l.length := by simpa [nds] using h1
  refine ⟨?_, h3⟩
  subst h2
  simp [rd_T50, nds, nd, List.getD_eq_getElem?_getD, List.getElem?_eq_getElem h3]
theorem at_root {l : List S50} {pre post : List Nd} {op n : Int} {kids : List T} (h : nds l = pre ++ flat (.mk op n kids) ++ post) :
    rd_T50 l ((pre.length + sizes kids : Nat) : Int) = ⟨op, n⟩ ∧ pre.length + sizes kids < l.length := by
  refine nds_at l _ (op, n) ?_
  rw [h, flat]
  rw [List.append_assoc, List.getElem?_append_right (by omega), List.append_assoc, List.getElem?_append_right (by rw [flats_length]; omega)]
  have : pre.length + sizes kids - pre.length - (flats kids).length = 0 := by rw [flats_length]; omega
  rw [this]
  rfl
theorem wrap_small (x : Int) (h : -9223372036854775808 ≤ x ∧ x ≤ 9223372036854775807) : wrap64 x = x := IntWalk.wrap64_in x h

/-- The kids' loop of l2From. -/
theorem l2From_kids (l : List S50) (hl : l.length ≤ 1000000) : ∀ (ys : List T), (∀ t ∈ ys, ∀ pre post, nds l = pre ++ flat t ++ post → Ev (fun k => spec_l2From.f k l (((pre.length + t.size : Nat) : Int) - 1)) (pre.length : Int)) →
    ∀ (pre post : List Nd), nds l = pre ++ flats ys ++ post → Ev (fun k => spec_l2From.l0 k l ((pre.length + sizes ys : Nat) : Int) (ys.length : Int)) (pre.length : Int) := by
  intro ys
  induction hn : ys.length generalizing ys with
  | zero =>
    intro _ pre post _
    obtain rfl := List.eq_nil_of_length_eq_zero hn
    refine Ev.step (f := fun _ => some (pre.length : Int)) (fun k => ?_) (Ev.now _)
    simp [spec_l2From.l0, sizes]
  | succ m ih =>
    intro hk pre post h
    obtain ⟨zs, y, rfl⟩ : ∃ zs y, ys = zs ++ [y] := ⟨ys.dropLast, ys.getLast (by intro e; subst e; cases hn), (List.dropLast_concat_getLast _).symm⟩
    have hzl : zs.length = m := by simpa using hn
    have hlen : pre.length + sizes (zs ++ [y]) ≤ l.length := by
      have := congrArg List.length h
      simp only [List.length_append, flats_length] at this
      have h2 : (nds l).length = l.length := by simp [nds]
      omega
    have hs : sizes (zs ++ [y]) = sizes zs + y.size := by rw [sizes_append, sizes, sizes]; omega
    have hyp := size_pos y
    refine Ev.step (f := fun k => (spec_l2From.f k l (((pre ++ flats zs).length + y.size : Nat) - 1)).bind fun t => spec_l2From.l0 k l t (m : Int)) (fun k => ?_) ?_
    · rw [spec_l2From.l0, if_pos (by omega)]
      have e1 : wrap64 (((pre.length + sizes (zs ++ [y]) : Nat) : Int) - 1) = (((pre ++ flats zs).length + y.size : Nat) : Int) - 1 := by
        rw [wrap_small _ (by omega), List.length_append, flats_length, hs]
        omega
      have e2 : wrap64 (((m + 1 : Nat) : Int) - 1) = (m : Int) := by
        rw [wrap_small _ (by have : m + 1 ≤ sizes (zs ++ [y]) := by
                              rw [← hn]
                              exact sizes_ge _
                             omega)]
        omega
      rw [e1, e2]
    · refine Ev.bind (hk y (by simp) (pre ++ flats zs) post (by rw [h, flats_append]; simp [flats])) ?_
      have := ih zs hzl (fun t ht => hk t (by simp [ht])) pre (flat y ++ post) (by rw [h, flats_append]; simp [flats])
      rw [List.length_append, flats_length]
      exact this
theorem l2From_ev (l : List S50) (hl : l.length ≤ 1000000) (m : Nat) : ∀ (t : T), t.size ≤ m → Fit t → ∀ pre post, nds l = pre ++ flat t ++ post → Ev (fun k => spec_l2From.f k l (((pre.length + t.size : Nat) : Int) - 1)) (pre.length : Int) := by
  induction m with
  | zero => intro t h; have := size_pos t; omega
  | succ m ih =>
    intro t hm hF pre post h
    cases hF with
    | mk op n kids hok hn hkl hk =>
      rw [T.size] at hm ⊢
      obtain ⟨hr, hlt⟩ := at_root h
      have e1 : ((pre.length + (1 + sizes kids) : Nat) : Int) - 1 = ((pre.length + sizes kids : Nat) : Int) := by omega
      rw [e1]
      refine Ev.step (f := fun k => (spec_l1Arity.f k op).bind fun t => spec_l2From.l0 k l ((pre.length + sizes kids : Nat) : Int) t) (fun k => ?_) ?_
      · rw [spec_l2From.f, if_pos (by omega), if_pos (by omega), hr]
      · refine Ev.bind (l1Arity_ev op) ?_
        rw [arS_ok hok, ← hkl]
        refine l2From_kids l hl kids (fun t ht pre post h => ih t ?_ (hk t ht) pre post h) pre ((op, n) :: post) (by rw [h, flat]; simp)
        have := sizes_mem ht
        omega

/-- The numbers of the roots of some trees that stand one behind the other. -/
def endsOf (at_ : Nat) : List T → List Int
  | [] => []
  | y :: ys => (((at_ + y.size : Nat) : Int) - 1) :: endsOf (at_ + y.size) ys
theorem endsOf_append : ∀ (a b : List T) (s : Nat), endsOf s (a ++ b) = endsOf s a ++ endsOf (s + sizes a) b
  | [], b, s => by simp [endsOf, sizes]
  | y :: a, b, s => by
    rw [List.cons_append, endsOf, endsOf, endsOf_append a b, sizes, List.cons_append, Nat.add_assoc]
theorem endsOf_length : ∀ (a : List T) (s : Nat), (endsOf s a).length = a.length
  | [], s => rfl
  | y :: a, s => by rw [endsOf, List.length_cons, endsOf_length a, List.length_cons]
theorem l2Parts_kids (l : List S50) (hl : l.length ≤ 1000000) : ∀ (ys : List T), (∀ t ∈ ys, Fit t) →
    ∀ (pre post : List Nd) (acc : List Int), acc.length + ys.length ≤ 1000000 → nds l = pre ++ flats ys ++ post → Ev (fun k => spec_l2Parts.l0 k l acc (((pre.length + sizes ys : Nat) : Int) - 1) (ys.length : Int)) (endsOf pre.length ys ++ acc) := by
  intro ys
  induction hn : ys.length generalizing ys with
  | zero =>
    intro _ pre post acc _ _
    obtain rfl := List.eq_nil_of_length_eq_zero hn
    refine Ev.step (f := fun _ => some acc) (fun k => ?_) (Ev.now _)
    simp [spec_l2Parts.l0]
  | succ m ih =>
    intro hk pre post acc hacc h
    obtain ⟨zs, y, rfl⟩ : ∃ zs y, ys = zs ++ [y] := ⟨ys.dropLast, ys.getLast (by intro e; subst e; cases hn), (List.dropLast_concat_getLast _).symm⟩
    have hzl : zs.length = m := by simpa using hn
    have hlen : pre.length + sizes (zs ++ [y]) ≤ l.length := by
      have := congrArg List.length h
      simp only [List.length_append, flats_length] at this
      have h2 : (nds l).length = l.length := by simp [nds]
      omega
    have hs : sizes (zs ++ [y]) = sizes zs + y.size := by rw [sizes_append, sizes, sizes]; omega
    have hyp := size_pos y
    have hm1 : m + 1 ≤ sizes (zs ++ [y]) := by
      rw [← hn]
      exact sizes_ge _
    refine Ev.step (f := fun k => (spec_l2From.f k l (((pre ++ flats zs).length + y.size : Nat) - 1)).bind fun t => spec_l2Parts.l0 k l ((((pre.length + sizes (zs ++ [y]) : Nat) : Int) - 1) :: acc) (wrap64 (t - 1)) (m : Int)) (fun k => ?_) ?_
    · rw [spec_l2Parts.l0, if_pos (by omega)]
      have e2 : wrap64 (((m + 1 : Nat) : Int) - 1) = (m : Int) := by
        rw [wrap_small _ (by omega)]
        omega
      have e1 : (((pre ++ flats zs).length + y.size : Nat) : Int) - 1 = ((pre.length + sizes (zs ++ [y]) : Nat) : Int) - 1 := by
        rw [List.length_append, flats_length, hs]
        omega
      rw [Option.bind_some, if_pos (by simp; omega), e1, e2]
      rfl
    · refine Ev.bind (l2From_ev l hl _ y (Nat.le_refl _) (hk y (by simp)) (pre ++ flats zs) (post) (by rw [h, flats_append]; simp [flats])) ?_
      have h3 := ih zs hzl (fun t ht => hk t (by simp [ht])) pre (flat y ++ post) ((((pre.length + sizes (zs ++ [y]) : Nat) : Int) - 1) :: acc) (by simp; omega) (by rw [h, flats_append]; simp [flats])
      rw [List.length_append, flats_length, wrap_small _ (by omega)]
      have e4 : endsOf pre.length (zs ++ [y]) ++ acc = endsOf pre.length zs ++ (((pre.length + sizes (zs ++ [y]) : Nat) : Int) - 1) :: acc := by
        rw [endsOf_append, endsOf, endsOf, hs]
        simp [Nat.add_assoc]
      rw [e4]
      exact h3
theorem l2Parts_ev (l : List S50) (hl : l.length ≤ 1000000) {op n : Int} {kids : List T} (hF : Fit (.mk op n kids)) (pre post : List Nd) (h : nds l = pre ++ flat (.mk op n kids) ++ post) :
    Ev (fun k => spec_l2Parts.f k l ((pre.length + sizes kids : Nat) : Int)) (endsOf pre.length kids) := by
  cases hF with
  | mk _ _ _ hok hn hkl hk =>
    obtain ⟨hr, hlt⟩ := at_root h
    have hge := sizes_ge kids
    refine Ev.congr (f := fun k => (spec_l1Arity.f k op).bind fun t => spec_l2Parts.l0 k l [] (((pre.length + sizes kids : Nat) : Int) - 1) t) (fun k => ?_) ?_
    · rw [spec_l2Parts.f, if_pos (by omega), if_pos (by omega), hr, wrap_small _ (by omega)]
    · refine Ev.bind (l1Arity_ev op) ?_
      rw [arS_ok hok, ← hkl]
      have h3 := l2Parts_kids l hl kids hk pre ((op, n) :: post) [] (by simp; omega) (by rw [h, flat]; simp)
      simpa using h3
end Go.Proofs.YtleppmjconljfaaDoor.T1
