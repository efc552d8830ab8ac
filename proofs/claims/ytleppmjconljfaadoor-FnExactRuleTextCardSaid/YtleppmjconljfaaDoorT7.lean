/- The walks of both TermTexts; the premises: numbers are of 64 bits, the table reads as laid. -/
import Derived.Test.YtleppmjconljfaaDoorT6
namespace Go.Proofs.YtleppmjconljfaaDoor.T1
open Go.RowKit Go.Proofs.YtleppmjconljfaaDoorW.PrintWords Go.Proofs.YtleppmjconljfaaDoorW.PrintLast Go.Proofs.YtleppmjconljfaaDoorW.PrintMore
open Go.Proofs.YtleppmjconljfaaDoor.Tree Go.Proofs.YtleppmjconljfaaDoor.PA
set_option linter.unusedVariables false
set_option linter.unusedSimpArgs false

def ttS (t : List Nd) : ByteArray := match treeM t with | none => ⟨#[]⟩ | some x => txt x
def ttB (t : List Nd) : Bool := (treeM t).isSome
def TTPost (t : List Nd) (w : World) (e : Ending) (w' : World) : Prop := e = .returned (.tuple #[.string (ttS t), .bool (ttB t)]) ∧ Below w.heap.size w w'

theorem goodTerm_calls (A : Option Addr) (c : Nat) (l : List S50) (w : World) (hr : Kd.C k50 w A l.length l) (hc : l.length ≤ c) (hl : l.length ≤ 1000000000) :
    Calls Tryd.prog 23 #[.slice A l.length c] w fun e w' => e = .returned (.bool (ttB (nds l))) ∧ Below w.heap.size w w' := by
  obtain ⟨k, hk⟩ := (good_ev l hl).rounds
  exact spec_GoodTerm.calls k A c l _ w hr hc hk

set_option maxHeartbeats 400000 in
set_option maxRecDepth 100000 in
theorem specTermText_calls (A : Option Addr) (c : Nat) (l : List S50) (w : World) (hr : Kd.C k50 w A l.length l) (hc : l.length ≤ c) (hl : l.length ≤ 1000000000) (hw : Wide (nds l)) :
    Calls Tryd.prog 7 #[.slice A l.length c] w (TTPost (nds l) w) := by
  have HR := Aside0.mk hr
  have HB := Aside0.mk (Below.refl w.heap.size w)
  clear hr
  cases hT : treeM (nds l) with
  | none =>
    have h1 : ttB (nds l) = false := by simp [ttB, hT]
    go_enter Tryd.func7, Tryd.ntmps7
    go_wp2_with (first
      | (go_at_call 23; refine (goodTerm_calls A c l _ HR.out hc hl).mono ?_; rw [h1]; rintro e w1 ⟨rfl, hb⟩; have HB1 := Aside0.mk hb; clear hb))
    go_ret2
    exact ⟨by simp [ttS, ttB, hT], HB1.out⟩
  | some x =>
    have h1 : ttB (nds l) = true := by simp [ttB, hT]
    obtain ⟨hfl, hF, h40, hsz⟩ := treeM_is hT hw
    have hl1 : l.length = x.size := by rw [hsz]; simp [nds]
    have hx1 := size_pos x
    have HF := Aside0.mk hF
    have HFl := Aside0.mk (show nds l = [] ++ flat x ++ [] by simp [hfl])
    have HL := Aside0.mk hl1
    have hl40 : l.length ≤ 40 := by omega
    have hl01 : 1 ≤ l.length := by omega
    clear hl1
    clear hF hfl hsz
    go_enter Tryd.func7, Tryd.ntmps7
    go_wp2_with (first
      | (go_at_call 23; refine (goodTerm_calls A c l _ HR.out hc hl).mono ?_; rw [h1]; rintro e w1 ⟨rfl, hb⟩; have HB1 := Aside0.mk hb; clear hb)
      | (go_at_call 24; refine (l3Text_calls x.size x A c l [] [] _ _ (Nat.le_refl _) h40 HF.out HFl.out (by omega) hc (by rw [HL.out]; simp) (Kd.C_below HR.out HB1.out)).mono ?_; rintro e w2 ⟨rfl, hb⟩; have HB2 := Aside0.mk (below_then HB1.out HB1.out.size hb); clear hb))
    go_ret2
    exact ⟨by simp [ttS, ttB, hT], HB2.out⟩

set_option maxHeartbeats 400000 in
set_option maxRecDepth 100000 in
theorem implTermText_calls (A : Option Addr) (c : Nat) (l : List S50) (w : World) (hr : Kd.C k50 w A l.length l) (hc : l.length ≤ c) (hw : Wide (nds l)) (ht : Tab w) :
    Calls Tryd.prog 9 #[.slice A l.length c] w (TTPost (nds l) w) := by
  have HR := Aside0.mk hr
  have HT := Aside0.mk ht
  clear hr ht
  cases hT : treeM (nds l) with
  | none =>
    go_enter Tryd.func9, Tryd.ntmps9
    go_wp2_with (first
      | (go_at_call 26; refine (treeOf_none A c l _ HR.out hc hT).mono ?_; rintro e w1 ⟨rfl, hb⟩; have HB1 := Aside0.mk hb; clear hb))
    go_ret2
    exact ⟨by simp [ttS, ttB, hT], HB1.out⟩
  | some x =>
    obtain ⟨hfl, hF, h40, hsz⟩ := treeM_is hT hw
    have HF := Aside0.mk hF
    clear hF hfl hsz
    go_enter Tryd.func9, Tryd.ntmps9
    go_wp2_with (first
      | (go_at_call 26; refine (treeOf_some A c l _ HR.out hc hT).mono ?_; rintro e w1 ⟨g, rfl, hL, hb⟩; have HB1 := Aside0.mk hb; have HL1 := Aside0.mk hL; clear hb hL)
      | (go_at_call 27; refine (text_calls x.size x g _ _ (Nat.le_refl _) h40 HF.out (HT.out.on HB1.out) (HL1.out.lower (Nat.zero_le _))).mono ?_; rintro e w2 ⟨rfl, hb⟩; have HB2 := Aside0.mk (below_then HB1.out HB1.out.size hb); clear hb))
    go_ret2
    exact ⟨by simp [ttS, ttB, hT], HB2.out⟩
end Go.Proofs.YtleppmjconljfaaDoor.T1
