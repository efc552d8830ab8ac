/- A part of the session's texts, laid small by the session's shrink.py. -/
import Derived.Test.YtjpkcbkkjefekaaGreatDoorV0
import Derived.Test.YtjpkcbkkjefekaaGreatDoorPAx1
import Derived.Test.YtjpkcbkkjefekaaGreatDoorPAx8
namespace Go.Proofs.YtjpkcbkkjefekaaGreatDoor.V
open Go.RowKit Go.Proofs.YtjpkcbkkjefekaaGreatDoorW.PrintWords Go.Proofs.YtjpkcbkkjefekaaGreatDoorW.PrintLast Go.Proofs.YtjpkcbkkjefekaaGreatDoorW.PrintMore
open Go.Proofs.YtjpkcbkkjefekaaGreatDoor.PA
set_option linter.unusedVariables false
set_option linter.unusedSimpArgs false
abbrev ptr (g : Nat) : Value := .pointer (some ⟨g, 0, none⟩)
abbrev IntsC (w : World) (A : Option Addr) (l : List Int) : Prop := (Kd.int .i64).C w A l.length l
def IsView (w : World) (g : Nat) (p : Int) (bs : List S48) (fi bl : List Int) (tot : Int) : Prop :=
  ∃ A c B d C e, w.heap[g]? = some (.cells #[.int .i64 p, .slice A bs.length c, .slice B fi.length d, .slice C bl.length e, .int .i64 tot] 104 (0, 0)) ∧
    bs.length ≤ c ∧ fi.length ≤ d ∧ bl.length ≤ e ∧ k48.C w A bs.length bs ∧ IntsC w B fi ∧ IntsC w C bl
theorem IsView.below {w w1 : World} {g : Nat} {p : Int} {bs : List S48} {fi bl : List Int} {tot : Int} (h : IsView w g p bs fi bl tot) (hb : Below w.heap.size w w1) : IsView w1 g p bs fi bl tot := by
 obtain ⟨A, c, B, d, C, e, h1, h2, h3, h4, h5, h6, h7⟩ := h
 exact ⟨A, c, B, d, C, e, blk_below h1 hb, h2, h3, h4, Kd.C_below h5 hb, Kd.C_below h6 hb, Kd.C_below h7 hb⟩
theorem IsView.open_ {w : World} {g : Nat} {p : Int} {bs : List S48} {fi bl : List Int} {tot : Int} (h : IsView w g p bs fi bl tot) :
    ∃ A c B d C e, w.cell? ⟨g, 0, none⟩ = some (.int .i64 p) ∧ w.cell? ⟨g, 1, none⟩ = some (.slice A bs.length c) ∧ w.cell? ⟨g, 2, none⟩ = some (.slice B fi.length d) ∧ w.cell? ⟨g, 3, none⟩ = some (.slice C bl.length e) ∧ w.cell? ⟨g, 4, none⟩ = some (.int .i64 tot) ∧
    bs.length ≤ c ∧ fi.length ≤ d ∧ bl.length ≤ e ∧ k48.C w A bs.length bs ∧ IntsC w B fi ∧ IntsC w C bl := by
 obtain ⟨A, c, B, d, C, e, h1, h⟩ := h
 exact ⟨A, c, B, d, C, e, (blk_cell h1 0).trans rfl, (blk_cell h1 1).trans rfl, (blk_cell h1 2).trans rfl, (blk_cell h1 3).trans rfl, (blk_cell h1 4).trans rfl, h⟩
def Holds (w : World) (b g : Nat) : Prop := w.heap[b]? = some (.cells #[ptr g] 63 (0, 0))
theorem Holds.below {w w1 : World} {b g : Nat} (h : Holds w b g) (hb : Below w.heap.size w w1) : Holds w1 b g := blk_below h hb
theorem Holds.cell {w : World} {b g : Nat} (h : Holds w b g) : w.cell? ⟨b, 0, none⟩ = some (ptr g) := (blk_cell h 0).trans rfl
theorem within_f (a b c : Int) : impl_within.f a b c = some (decide (b ≤ a) && decide (a ≤ c)) := by
 unfold impl_within.f
 by_cases h : a ≥ b
 · have h' : b ≤ a := h
   simp [h']
 have h' : ¬ b ≤ a := h
 simp [h']
theorem within_calls (a b c : Int) (w : World) : Calls Tryz.prog 58 #[.int .i64 a, .int .i64 b, .int .i64 c] w fun e w' => e = .returned (.bool (decide (b ≤ a) && decide (a ≤ c))) ∧ Drawn0 w w' :=
  impl_within.calls a b c _ w (within_f a b c)
def valOK (tot k : Int) : Bool := decide (0 ≤ k) && decide (k ≤ tot - 1)
def valsOK (tot : Int) (l : List Int) : Bool := !l.any (fun k => !valOK tot k)
set_option maxHeartbeats 400000 in
set_option maxRecDepth 100000 in
theorem valuesOK1_calls (b g : Nat) (p : Int) (bs : List S48) (fi bl : List Int) (tot k : Int) (w : World) (ht : 0 ≤ tot ∧ tot ≤ 1000) (hh : Holds w b g) (hv : IsView w g p bs fi bl tot) :
    Calls Tryz.prog 81 #[.int .i64 k, ptr b] w fun e w' => e = .returned (.bool (!valOK tot k)) ∧ Below w.heap.size w w' := by
 obtain ⟨A, c, B, d, C, e, -, -, -, -, h4, -⟩ := hv.open_
 have h0 := hh.cell
 clear hh hv
 obtain ⟨m, hm⟩ : ∃ m, m = (decide (0 ≤ k) && decide (k ≤ tot - 1)) := ⟨_, rfl⟩
 have HM := Aside0.mk hm
 clear hm
 go_enter Tryz.func81, Tryz.ntmps81
 go_wp2_with (first | (go_at_call 58; refine (within_calls k 0 (tot - 1) _).mono ?_; rw [← HM.out]; rintro e w1 ⟨rfl, ⟨nq, rfl⟩⟩))
 go_ret
 exact ⟨by unfold valOK; rw [← HM.out]; rfl, pw_below_drewN (Below.refl _ _) nq⟩
theorem enters1 : ∀ args w, (callFunc 81 args).run Tryz.prog w = .ok (.enter 81 args) w := enters_of Tryz.func81 (by kernel_rfl) rfl
set_option maxHeartbeats 400000 in
set_option maxRecDepth 100000 in
theorem valuesOK_calls (g : Nat) (p : Int) (bs : List S48) (fi bl : List Int) (tot : Int) (A : Option Addr) (c : Nat) (l : List Int) (w : World) (ht : 0 ≤ tot ∧ tot ≤ 1000) (hv : IsView w g p bs fi bl tot) (hr : IntsC w A l) :
    Calls Tryz.prog 67 #[ptr g, .slice A l.length c] w fun e w' => e = .returned (.bool (valsOK tot l)) ∧ Below w.heap.size w w' := by
 have HR := Aside0.mk hr
 have HV := Aside0.mk hv
 clear hr hv
 obtain ⟨m, hm⟩ : ∃ m, m = l.any (fun k => !valOK tot k) := ⟨_, rfl⟩
 have HM := Aside0.mk hm
 clear hm
 go_enter Tryz.func67, Tryz.ntmps67
 go_wp2_with (first
   | ((with_reducible refine gate_dst (N := 2) rfl ?_); refine box_event ?hg (N := 2) ?hd (cs := #[ptr g]) (t := 63) ?hr ?_; (case hd => rfl); (case hg => rfl); (case hr => first | (go_simp; done) | (go_simp; rfl)); intro b hg w1 hbox hb; have HH := Aside0.mk (show Holds w1 b g from hbox); have HB1 := Aside0.mk hb; clear hb hbox hg)
   | (go_at_call 80; refine (containsInt_calls 81 #[ptr b] (fun k => !valOK tot k) A c l _ enters1 (Kd.C_below HR.out HB1.out) (fun i x W hx hW => valuesOK1_calls b g p bs fi bl tot x W ht (HH.out.below hW) ((HV.out.below HB1.out).below hW))).mono ?_; rw [← HM.out]; rintro e w2 ⟨rfl, hb2⟩; have HB2 := Aside0.mk (below_then HB1.out HB1.out.size hb2); clear hb2))
 go_ret
 exact ⟨by unfold valsOK; rw [← HM.out]; rfl, HB2.out⟩
end Go.Proofs.YtjpkcbkkjefekaaGreatDoor.V
