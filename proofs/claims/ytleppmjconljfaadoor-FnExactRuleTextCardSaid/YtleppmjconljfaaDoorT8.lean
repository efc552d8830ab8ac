/- The walk of the law FnExactTermText; the premises: what is read, numbers are of 64 bits, the table reads as laid. -/
import Derived.Test.YtleppmjconljfaaDoorT7
namespace Go.Proofs.YtleppmjconljfaaDoor.T1
open Go.RowKit Go.Proofs.YtleppmjconljfaaDoorW.PrintWords Go.Proofs.YtleppmjconljfaaDoorW.PrintLast Go.Proofs.YtleppmjconljfaaDoorW.PrintMore
open Go.Proofs.YtleppmjconljfaaDoor.Tree Go.Proofs.YtleppmjconljfaaDoor.PA
set_option linter.unusedVariables false
set_option linter.unusedSimpArgs false

def conv (x : S52) : S50 := ⟨x.f0, x.f1⟩
theorem toNodeS_loop (l : List S52) (hl : l.length ≤ 1000000000) : ∀ (d i : Nat) (acc : List S50), l.length - i = d → i ≤ l.length → acc.length = l.length → acc.take i = (l.map conv).take i →
    Ev (fun k => laws_toNodeS.l0 k l acc (i : Int)) (l.map conv) := by
  intro d
  induction d with
  | zero =>
    intro i acc hd hi ha h
    obtain rfl : i = l.length := by omega
    have e : acc = l.map conv := by
      rw [List.take_of_length_le (by omega), List.take_of_length_le (by simp)] at h
      exact h
    refine Ev.step (f := fun _ => some acc) (fun k => ?_) (e ▸ Ev.now _)
    rw [laws_toNodeS.l0, if_neg (by omega)]
  | succ d ih =>
    intro i acc hd hi ha h
    have hlt : i < l.length := by omega
    have e1 : wrap64 ((i : Int) + 1) = ((i + 1 : Nat) : Int) := by rw [wrap_small _ (by omega)]; omega
    have e2 : rd_T52 l (i : Int) = l[i] := by simp [rd_T52, List.getD_eq_getElem?_getD, List.getElem?_eq_getElem hlt]
    refine Ev.step (f := fun k => laws_toNodeS.l0 k l (acc.set i (conv l[i])) ((i + 1 : Nat) : Int)) (fun k => ?_) ?_
    · rw [laws_toNodeS.l0, if_pos (by omega), if_pos (by omega), e2, e1]
      simp only [laws_toNode.f, Option.bind_some, Int.toNat_natCast]
      rw [if_pos (by omega)]
      rfl
    · refine ih (i + 1) _ (by omega) (by omega) (by simpa using ha) ?_
      rw [List.take_succ_eq_append_getElem (by simp; omega), List.take_succ_eq_append_getElem (by simpa using hlt)]
      rw [List.take_set_of_le (by omega), h]
      simp
theorem toNodeS_ev (l : List S52) (hl : l.length ≤ 1000000000) : Ev (fun k => laws_toNodeS.f k l) (l.map conv) := by
  have h := toNodeS_loop l hl l.length 0 (List.replicate l.length z50) (by omega) (by omega) (by simp) (by simp)
  refine Ev.congr (fun k => ?_) h
  unfold laws_toNodeS.f
  rw [if_pos (by omega), if_pos (by simp; omega)]
  simp
theorem eqNodeS_loop (l : List S50) (hl : l.length ≤ 1000000000) : ∀ (d i : Nat), l.length - i = d → i ≤ l.length → Ev (fun k => laws_eqNodeS.l0 k l l (i : Int)) true := by
  intro d
  induction d with
  | zero =>
    intro i hd hi
    refine Ev.step (f := fun _ => some true) (fun k => ?_) (Ev.now _)
    rw [laws_eqNodeS.l0, if_neg (by omega)]
  | succ d ih =>
    intro i hd hi
    have e1 : wrap64 ((i : Int) + 1) = ((i + 1 : Nat) : Int) := by rw [wrap_small _ (by omega)]; omega
    refine Ev.step (f := fun k => laws_eqNodeS.l0 k l l ((i + 1 : Nat) : Int)) (fun k => ?_) (ih (i + 1) (by omega) (by omega))
    rw [laws_eqNodeS.l0, if_pos (by omega), if_pos (by omega), if_pos (by omega), e1]
    simp [laws_eqNode.f]
theorem eqNodeS_ev (l : List S50) (hl : l.length ≤ 1000000000) : Ev (fun k => laws_eqNodeS.f k l l) true := by
  refine Ev.congr (fun k => ?_) (eqNodeS_loop l hl l.length 0 (by omega) (by omega))
  unfold laws_eqNodeS.f
  rw [if_pos rfl]
  rfl
theorem toNodeS_calls (A : Option Addr) (c : Nat) (l : List S52) (w : World) (hr : Kd.C k52 w A l.length l) (hc : l.length ≤ c) (hl : l.length ≤ 1000000000) :
    Calls Tryd.prog 8 #[.slice A l.length c] w fun e w' => ∃ v : Value, e = .returned v ∧ Kd.R k50 50 w' w.heap.size (fun _ => True) v (l.map conv) ∧ Below w.heap.size w w' := by
  obtain ⟨k, h⟩ := (toNodeS_ev l hl).rounds
  exact laws_toNodeS.calls k A c l _ w hr hc h
theorem eqNodeS_calls (A : Option Addr) (c : Nat) (A1 : Option Addr) (c1 : Nat) (l : List S50) (w : World) (hr : Kd.C k50 w A l.length l) (hc : l.length ≤ c) (hr1 : Kd.C k50 w A1 l.length l) (hc1 : l.length ≤ c1) (hl : l.length ≤ 1000000000) :
    Calls Tryd.prog 10 #[.slice A l.length c, .slice A1 l.length c1] w fun e w' => e = .returned (.bool true) ∧ Below w.heap.size w w' := by
  obtain ⟨k, h⟩ := (eqNodeS_ev l hl).rounds
  exact laws_eqNodeS.calls k A c l A1 c1 l _ w hr hc hr1 hc1 h
theorem szNodeS_calls (A : Option Addr) (c : Nat) (l : List S52) (w : World) (hr : Kd.C k52 w A l.length l) (hc : l.length ≤ c) :
    Calls Tryd.prog 6 #[.slice A l.length c, .int .i64 1048576] w fun e w' => e = .returned (.int .i64 (if 1048576 < l.length then -1 else 1048576 - (l.length : Int))) ∧ Drawn0 w w' := by
  have hm := Kd.C_max hr
  refine laws_szNodeS.calls A c l 1048576 _ w hr hc ?_
  unfold laws_szNodeS.f
  rw [wrap_small _ (by omega)]
  by_cases h : 1048576 < l.length
  · rw [if_pos (by omega), if_pos h]
  · rw [if_neg (by omega), if_neg h]
end Go.Proofs.YtleppmjconljfaaDoor.T1
