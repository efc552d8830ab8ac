/- Texts of trees: the plain side; no condition. -/
import Derived.Test.YtleppmjconljfaaDoorTP
import Derived.Lib.ItoaLen
import Derived.Lib.ItoaMem
namespace Go.Proofs.YtleppmjconljfaaDoor.Tree
set_option linter.unusedVariables false

def numTxt (n : Int) : ByteArray := ⟨(Lib.itoa n).toArray⟩
def bs (l : List UInt8) : ByteArray := ⟨l.toArray⟩
def signTxt (op : Int) : ByteArray := if op = 4 then (⟨#[43]⟩ : ByteArray) else (if op = 5 then (⟨#[45]⟩ : ByteArray) else (if op = 6 then (⟨#[42]⟩ : ByteArray) else (if op = 7 then (⟨#[60, 60]⟩ : ByteArray) else (if op = 8 then (⟨#[47]⟩ : ByteArray) else (if op = 9 then (⟨#[61, 61]⟩ : ByteArray) else (if op = 10 then (⟨#[60]⟩ : ByteArray) else (⟨#[]⟩ : ByteArray)))))))
def joinTxt (op : Int) : List ByteArray → ByteArray
  | [a] => (⟨#[126]⟩ : ByteArray) ++ a
  | [a, b] => ((((⟨#[40]⟩ : ByteArray) ++ a) ++ signTxt op) ++ b) ++ ⟨#[41]⟩
  | [a, b, c] => ((((((⟨#[40]⟩ : ByteArray) ++ a) ++ ⟨#[63]⟩) ++ b) ++ ⟨#[58]⟩) ++ c) ++ ⟨#[41]⟩
  | _ => ⟨#[]⟩
mutual
def txt : T → ByteArray
  | .mk op n kids => if op = 1 then numTxt n else if op = 2 then bs [UInt8.ofNat (97 + n.toNat)] else joinTxt op (txts kids)
def txts : List T → List ByteArray
  | [] => []
  | t :: ts => txt t :: txts ts
end
mutual
def T.size : T → Nat
  | .mk _ _ kids => 1 + sizes kids
def sizes : List T → Nat
  | [] => 0
  | t :: ts => t.size + sizes ts
end
/-- A tree whose nodes are as a term's are. -/
inductive Fit : T → Prop
  | mk (op n : Int) (kids : List T) (hok : okN (op, n) = true) (hn : -9223372036854775808 ≤ n ∧ n ≤ 9223372036854775807) (hl : kids.length = arN op) (hk : ∀ t ∈ kids, Fit t) : Fit (.mk op n kids)

theorem txts_map : ∀ l, txts l = l.map txt
  | [] => rfl
  | t :: ts => by rw [txts, txts_map ts]; rfl
theorem sizes_mem : ∀ {l : List T} {t : T}, t ∈ l → t.size ≤ sizes l
  | a :: l, t, h => by
    rw [sizes]
    rcases List.mem_cons.1 h with rfl | h
    · omega
    · have := sizes_mem h
      omega

theorem size_bs (l : List UInt8) : (bs l).size = l.length := by simp [bs, ByteArray.size]
theorem size_append (a b : ByteArray) : (a ++ b).size = a.size + b.size := ByteArray.size_append
theorem signTxt_size (op : Int) : (signTxt op).size ≤ 2 := by
  unfold signTxt
  repeat' split
  all_goals decide
theorem numTxt_size (n : Int) (h : -9223372036854775808 ≤ n ∧ n ≤ 9223372036854775807) : (numTxt n).size ≤ 21 := by
  have := Lib.itoa_length_le n h.1 h.2
  simpa [numTxt, ByteArray.size] using this
theorem joinTxt_size (op : Int) (l : List ByteArray) (B : Nat) (h : (l.map ByteArray.size).sum ≤ B) : (joinTxt op l).size ≤ B + 4 := by
  have h1 : ((⟨#[126]⟩ : ByteArray)).size = 1 := rfl
  have h2 : ((⟨#[40]⟩ : ByteArray)).size = 1 := rfl
  have h3 : ((⟨#[41]⟩ : ByteArray)).size = 1 := rfl
  have h4 : ((⟨#[63]⟩ : ByteArray)).size = 1 := rfl
  have h5 : ((⟨#[58]⟩ : ByteArray)).size = 1 := rfl
  have h6 : ((⟨#[]⟩ : ByteArray)).size = 0 := rfl
  have hs := signTxt_size op
  match l with
  | [] => simp only [joinTxt, h6]; omega
  | [a] =>
    simp at h
    simp only [joinTxt, size_append, h1]; omega
  | [a, b] =>
    simp at h
    simp only [joinTxt, size_append, h2, h3]; omega
  | [a, b, c] =>
    simp at h
    simp only [joinTxt, size_append, h2, h3, h4, h5]; omega
  | a :: b :: c :: d :: r => simp only [joinTxt, h6]; omega
mutual
theorem txt_size : ∀ (t : T), Fit t → (txt t).size ≤ 21 * t.size
  | .mk op n kids, h => by
    cases h with
    | mk _ _ _ hok hn hl hk =>
      rw [txt, T.size]
      split
      · have := numTxt_size n hn
        omega
      · split
        · rw [size_bs]; simp; omega
        · have h2 := txts_size kids hk
          have := joinTxt_size op (txts kids) _ h2
          omega
theorem txts_size : ∀ (l : List T), (∀ t ∈ l, Fit t) → ((txts l).map ByteArray.size).sum ≤ 21 * sizes l
  | [], _ => by simp [txts, sizes]
  | t :: ts, h => by
    have h1 := txt_size t (h t (by simp))
    have h2 := txts_size ts (fun x hx => h x (by simp [hx]))
    rw [txts, sizes, List.map_cons, List.sum_cons]
    omega
end

theorem sizes_append : ∀ (a b : List T), sizes (a ++ b) = sizes a + sizes b
  | [], b => by simp [sizes]
  | t :: a, b => by
    have := sizes_append a b
    simp only [List.cons_append, sizes, this]
    omega
/-- What the pile holds: trees as a term's are, as many nodes as have been passed. -/
theorem prun_fit : ∀ (xs : List Nd) (pile out p o : List T), prun xs pile out = some (p, o) → (∀ x ∈ xs, -9223372036854775808 ≤ x.2 ∧ x.2 ≤ 9223372036854775807) → (∀ t ∈ pile, Fit t) → (∀ t ∈ out, Fit t) →
    (∀ t ∈ p, Fit t) ∧ (∀ t ∈ o, Fit t) ∧ sizes p = sizes pile + xs.length
  | [], pile, out, p, o, h, _, h1, h2 => by
    simp only [prun, Option.some.injEq, Prod.mk.injEq] at h
    obtain ⟨rfl, rfl⟩ := h
    exact ⟨h1, h2, by simp⟩
  | x :: xs, pile, out, p, o, h, hx, h1, h2 => by
    unfold prun at h
    split at h
    · rename_i hs
      simp only [stepOk, Bool.and_eq_true, decide_eq_true_eq] at hs
      have hm : Fit (made pile x) := .mk _ _ _ hs.1 (hx x (by simp)) (by rw [List.length_drop]; omega) (fun t ht => h1 t (List.mem_of_mem_drop ht))
      have hp : ∀ t ∈ piled pile x, Fit t := by
        intro t ht
        rcases List.mem_append.1 ht with ht | ht
        · exact h1 t (List.mem_of_mem_take ht)
        · rw [List.mem_singleton.1 ht]; exact hm
      have ho : ∀ t ∈ out ++ [made pile x], Fit t := by
        intro t ht
        rcases List.mem_append.1 ht with ht | ht
        · exact h2 t ht
        · rw [List.mem_singleton.1 ht]; exact hm
      obtain ⟨a, b, c⟩ := prun_fit xs _ _ _ _ h (fun y hy => hx y (by simp [hy])) hp ho
      refine ⟨a, b, ?_⟩
      rw [c]
      have h5 : sizes pile = sizes (pile.take (pile.length - arN x.1)) + sizes (pile.drop (pile.length - arN x.1)) := by
        rw [← sizes_append, List.take_append_drop]
      unfold piled
      rw [sizes_append, sizes, sizes, made, T.size, List.length_cons]
      omega
    · cases h
end Go.Proofs.YtleppmjconljfaaDoor.Tree
