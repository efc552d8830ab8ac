/- The walk of treeOf; conditions: none but what is read. -/
import Derived.Test.YtleppmjconljfaaDoorT2
import Derived.Test.YtleppmjconljfaaDoorTF
namespace Go.Proofs.YtleppmjconljfaaDoor.T1
open Go.RowKit Go.Proofs.YtleppmjconljfaaDoorW.PrintWords Go.Proofs.YtleppmjconljfaaDoorW.PrintLast Go.Proofs.YtleppmjconljfaaDoorW.PrintMore
open Go.Proofs.YtleppmjconljfaaDoor.Tree Go.Proofs.YtleppmjconljfaaDoor.PA
set_option linter.unusedVariables false
set_option linter.unusedSimpArgs false

theorem row_at {w : World} {B : Nat} {ok : Nat → Prop} {v : Value} {o : List T} {x : T} (h : kt.R 53 w B ok v o) (j : Nat) (hj : o[j]? = some x) :
    ∃ g cap g', v = .slice (some ⟨g, 0, none⟩) o.length cap ∧ w.cell? ⟨g, j, none⟩ = some (ptr g') ∧ Lies 84 53 w B ok g' x := by
  obtain ⟨hj1, rfl⟩ := List.getElem?_eq_some_iff.1 hj
  obtain ⟨g, cap, rfl, hg1, hg2, _⟩ := Kd.R_form h (by omega)
  obtain ⟨cs, hc1, hc2, hc3, hc4⟩ := Kd.R_elem h o[j] (j : Int) (by omega) (by omega)
  obtain ⟨g', rfl, hLies⟩ := hc2
  refine ⟨g, cap, g', rfl, ?_, ?_⟩
  · have := hc3 0 _ rfl
    simpa [show (kt).sz = 1 from rfl] using this
  · have h2 := hLies.mono (ok' := ok) (fun _ hk => hk.1)
    simpa [List.getD_eq_getElem?_getD, List.getElem?_eq_getElem hj1] using h2

def TreePost (l : List S50) (w : World) (e : Ending) (w' : World) : Prop :=
  (match treeM (nds l) with | none => e = .returned (.pointer none) | some x => ∃ g, e = .returned (ptr g) ∧ Lies 84 53 w' w.heap.size (fun _ => True) g x) ∧ Below w.heap.size w w'

set_option maxHeartbeats 4000000 in
set_option maxRecDepth 100000 in
theorem treeOf_calls (A : Option Addr) (c : Nat) (l : List S50) (w : World) (hr : Kd.C k50 w A l.length l) (hc : l.length ≤ c) :
    Calls Tryd.prog 26 #[.slice A l.length c] w (TreePost l w) := by
  have HR := Aside0.mk hr
  clear hr
  have hs := fun (W : World) (A : Option Addr) (n c : Nat) => Lib.run_eql_slice_nil (P := Tryd.prog) W 81 53 A n c 0 0 Tryd.underlying81
  cases hT : treesM (nds l) with
  | none =>
    go_enter Tryd.func26, Tryd.ntmps26
    go_wp2_with (first
      | (go_at_call 44; refine (trees_calls A c l _ HR.out hc).mono ?_; rintro e w1 ⟨v, rfl, hv, hb⟩; rw [hT] at hv; have hv' : v = .slice none 0 0 := hv; subst hv'; clear hv; have HB := Aside0.mk hb; clear hb))
    go_ret
    exact ⟨by rw [treeM_none hT]; rfl, HB.out⟩
  | some o =>
    have hol : o.length = l.length := by simpa [nds] using treesM_length hT
    have ho1 : 1 ≤ l.length := by
      have h := hT
      unfold treesM at h
      split at h
      · rename_i h2; simpa [nds] using h2.1
      · cases h
    have ho40 : l.length ≤ 40 := by
      have h := hT
      unfold treesM at h
      split at h
      · rename_i h2; simpa [nds] using h2.2
      · cases h
    have hlast : o[o.length - 1]? = some (o[o.length - 1]'(by omega)) := List.getElem?_eq_getElem _
    generalize o[o.length - 1]'(by omega) = x at hlast
    have hTM := Aside0.mk (treeM_some hT hlast)
    have hL := Aside0.mk hlast
    have hO := Aside0.mk hol
    clear hlast
    go_enter Tryd.func26, Tryd.ntmps26
    go_wp2_with (first
      | (go_at_call 44; refine (trees_calls A c l _ HR.out hc).mono ?_; rintro e w1 ⟨v, rfl, hv, hb⟩; rw [hT] at hv; obtain ⟨g, cap, g', rfl, hcell, hLies⟩ := row_at (o := o) hv _ hL.out; rw [hO.out] at hcell; rw [hO.out]; have HLies := Aside0.mk hLies; have HB := Aside0.mk hb; clear hb hv hLies))
    go_ret
    exact ⟨by rw [hTM.out]; exact ⟨g', rfl, HLies.out⟩, HB.out⟩
theorem treeOf_none (A : Option Addr) (c : Nat) (l : List S50) (w : World) (hr : Kd.C k50 w A l.length l) (hc : l.length ≤ c) (hT : treeM (nds l) = none) :
    Calls Tryd.prog 26 #[.slice A l.length c] w fun e w' => e = .returned (.pointer none) ∧ Below w.heap.size w w' := by
  refine (treeOf_calls A c l w hr hc).mono ?_
  rintro e w' ⟨h, hb⟩
  rw [hT] at h
  exact ⟨h, hb⟩
theorem treeOf_some (A : Option Addr) (c : Nat) (l : List S50) (w : World) (hr : Kd.C k50 w A l.length l) (hc : l.length ≤ c) {x : T} (hT : treeM (nds l) = some x) :
    Calls Tryd.prog 26 #[.slice A l.length c] w fun e w' => ∃ g, e = .returned (ptr g) ∧ Lies 84 53 w' w.heap.size (fun _ => True) g x ∧ Below w.heap.size w w' := by
  refine (treeOf_calls A c l w hr hc).mono ?_
  rintro e w' ⟨h, hb⟩
  rw [hT] at h
  obtain ⟨g, h1, h2⟩ := h
  exact ⟨g, h1, h2, hb⟩
end Go.Proofs.YtleppmjconljfaaDoor.T1
