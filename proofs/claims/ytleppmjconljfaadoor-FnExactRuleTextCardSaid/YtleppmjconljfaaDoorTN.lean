/- The reference's text of a number: the plain side; the number is one of 64 bits. -/
import Derived.Test.YtleppmjconljfaaDoorTG
namespace Go.Proofs.YtleppmjconljfaaDoor.T1
open Go.RowKit Go.Proofs.YtleppmjconljfaaDoorW.PrintWords Go.Proofs.YtleppmjconljfaaDoorW.PrintLast Go.Proofs.YtleppmjconljfaaDoorW.PrintMore
open Go.Proofs.YtleppmjconljfaaDoor.Tree Go.Proofs.YtleppmjconljfaaDoor.PA
set_option linter.unusedVariables false
set_option linter.unusedSimpArgs false

theorem u64_small (x : Int) (h : 0 ≤ x ∧ x < 18446744073709551616) : IntKind.u64.wrap x = x := by
  unfold IntKind.wrap
  simp [IntKind.bits, IntKind.signed]
  omega
theorem strOfNums_one (d : Nat) (h : d < 10) : strOfNums [(IntKind.u64.wrap (48 + (d : Int))) % 256] = bs [UInt8.ofNat (48 + d)] := by
  rw [u64_small _ (by omega)]
  match d, h with
  | 0, _ => rfl
  | 1, _ => rfl
  | 2, _ => rfl
  | 3, _ => rfl
  | 4, _ => rfl
  | 5, _ => rfl
  | 6, _ => rfl
  | 7, _ => rfl
  | 8, _ => rfl
  | 9, _ => rfl
theorem bs_append (a b : List UInt8) : bs a ++ bs b = bs (a ++ b) := by
  apply ByteArray.ext
  simp [bs]
theorem l1Long_ev (m : Nat) : ∀ u : Nat, u ≤ m → u < 18446744073709551616 → Ev (fun k => spec_l1Long.f k (u : Int)) (bs (Lib.decDigits u)) := by
  induction m with
  | zero =>
    intro u hu _
    obtain rfl : u = 0 := by omega
    refine Ev.step (f := fun _ => some (bs [UInt8.ofNat (48 + 0)])) (fun k => ?_) ?_
    · rw [spec_l1Long.f, if_pos (by omega)]
      exact congrArg some (strOfNums_one 0 (by omega))
    · rw [Lib.decDigits_one (by omega)]
      exact Ev.now _
  | succ m ih =>
    intro u hu hlt
    by_cases h : u < 10
    · refine Ev.step (f := fun _ => some (bs [UInt8.ofNat (48 + u)])) (fun k => ?_) ?_
      · rw [spec_l1Long.f, if_pos (by omega)]
        exact congrArg some (strOfNums_one u h)
      · rw [Lib.decDigits_one h]
        exact Ev.now _
    · have e1 : IntKind.u64.wrap (Int.tdiv (u : Int) 10) = ((u / 10 : Nat) : Int) := by
        rw [Int.tdiv_eq_ediv_of_nonneg (by omega), u64_small _ (by omega)]
        omega
      have e2 : Int.tmod (u : Int) 10 = ((u % 10 : Nat) : Int) := by
        rw [Int.tmod_eq_emod_of_nonneg (by omega)]
        omega
      have hl := Lib.decDigits_length (u / 10)
      have hsz : (bs (Lib.decDigits (u / 10))).size ≤ 25 := by
        rw [size_bs]
        have := Lib.nDigits_le20 (u / 10) (by omega)
        omega
      refine Ev.step (f := fun k => (spec_l1Long.f k ((u / 10 : Nat) : Int)).bind fun t => if t.size + (bs [UInt8.ofNat (48 + u % 10)]).size ≤ 9223372036854775807 then some (t ++ bs [UInt8.ofNat (48 + u % 10)]) else none) (fun k => ?_) ?_
      · rw [spec_l1Long.f, if_neg (by omega), e1, e2]
        simp only [Option.bind_some, strOfNums_one (u % 10) (by omega)]
      · refine Ev.bind (ih (u / 10) (by omega) (by omega)) ?_
        rw [if_pos (by rw [size_bs]; simp [size_bs] at hsz ⊢; omega), bs_append]
        have : Lib.decDigits u = Lib.decDigits (u / 10) ++ [UInt8.ofNat (48 + u % 10)] := by
          rw [Lib.decDigits, dif_neg h]
        rw [← this]
        exact Ev.now _

theorem numText_ev (n : Int) (hn : -9223372036854775808 ≤ n ∧ n ≤ 9223372036854775807) : Ev (fun k => spec_NumText.f k n) (numTxt n) := by
  by_cases h : n ≥ 0
  · obtain ⟨u, rfl⟩ := Int.eq_ofNat_of_zero_le h
    refine Ev.congr (f := fun k => spec_l1Long.f k (u : Int)) (fun k => ?_) ?_
    · unfold spec_NumText.f
      rw [if_pos h, u64_small _ (by omega)]
      cases spec_l1Long.f k (u : Int) <;> rfl
    · have : numTxt (u : Int) = bs (Lib.decDigits u) := by rw [numTxt, Lib.itoa_nonneg]; rfl
      rw [this]
      exact l1Long_ev u u (Nat.le_refl _) (by omega)
  · obtain ⟨u, hu⟩ : ∃ u : Nat, n = -(u : Int) := ⟨n.natAbs, by omega⟩
    have e1 : IntKind.u64.wrap ((IntKind.u64.wrap (wrap64 (-(wrap64 (n + 1))))) + 1) = (u : Int) := by
      rw [wrap_small (n + 1) (by omega), wrap_small _ (by omega), u64_small (-(n + 1)) (by omega), u64_small _ (by omega)]
      omega
    have hsz : (bs (Lib.decDigits u)).size ≤ 25 := by
      have := Lib.nDigits_le20 u (by omega)
      rw [size_bs, Lib.decDigits_length]
      omega
    refine Ev.congr (f := fun k => (spec_l1Long.f k (u : Int)).bind fun t => if 1 + t.size ≤ 9223372036854775807 then some ((⟨#[45]⟩ : ByteArray) ++ t) else none) (fun k => ?_) ?_
    · unfold spec_NumText.f
      rw [if_neg h, e1]
    · refine Ev.bind (l1Long_ev u u (Nat.le_refl _) (by omega)) ?_
      rw [if_pos (by omega)]
      have : numTxt n = (⟨#[45]⟩ : ByteArray) ++ bs (Lib.decDigits u) := by
        rw [numTxt, hu, Lib.itoa_neg u (by omega)]
        exact (bs_append [45] _).symm
      rw [this]
      exact Ev.now _

theorem specNum_calls (n : Int) (w : World) (hn : -9223372036854775808 ≤ n ∧ n ≤ 9223372036854775807) :
    Calls Tryd.prog 41 #[.int .i64 n] w fun e w' => e = .returned (.string (numTxt n)) ∧ Below w.heap.size w w' := by
  obtain ⟨k, h⟩ := (numText_ev n hn).rounds
  exact spec_NumText.calls k n _ w h
theorem specSign_f (op : Int) : spec_l3Sign.f op = some (signTxt op) := by
  unfold spec_l3Sign.f signTxt
  repeat' split
  all_goals rfl
theorem specSign_calls (op : Int) (w : World) : Calls Tryd.prog 43 #[.int .i64 op] w fun e w' => e = .returned (.string (signTxt op)) ∧ Drawn0 w w' :=
  spec_l3Sign.calls op _ w (specSign_f op)
end Go.Proofs.YtleppmjconljfaaDoor.T1
