/- A part of the session's texts, laid small by the session's shrink.py. -/
import Derived.Test.YtjpkcbkkjefekaaGreatDoorVN
namespace Go.Proofs.YtjpkcbkkjefekaaGreatDoor.V
open Go.RowKit Go.Proofs.YtjpkcbkkjefekaaGreatDoorW.PrintWords Go.Proofs.YtjpkcbkkjefekaaGreatDoorW.PrintLast Go.Proofs.YtjpkcbkkjefekaaGreatDoorW.PrintMore
open Go.Proofs.YtjpkcbkkjefekaaGreatDoor.PA
set_option linter.unusedVariables false
set_option linter.unusedSimpArgs false
theorem enters_v : ∀ args w, (callFunc 44 args).run Tryz.prog w = .ok (.enter 44 args) w := enters_of Tryz.func44 (by kernel_rfl) rfl
set_option maxHeartbeats 400000 in
set_option maxRecDepth 100000 in
theorem viewOf1_calls (v g : Nat) (p : Int) (bs : List S48) (fi bl : List Int) (tot : Int) (x : S48) (A1 : Option Addr) (c1 : Nat) (A4 : Option Addr) (c4 : Nat) (w : World) (ht : 0 ≤ tot ∧ tot ≤ 1000) (hh : Holds w v g) (hv : IsView w g p bs fi bl tot)
    (hr1 : k52.C w A1 x.f1.length x.f1) (hr4 : k61.C w A4 x.f4.length x.f4) :
    Calls Tryz.prog 44 #[.agg #[.int .i64 x.f0, .slice A1 x.f1.length c1, .int .i64 x.f2, .int .i64 x.f3, .slice A4 x.f4.length c4], ptr v] w fun e w' => e = .returned (.bool (!blockOKp bs tot x)) ∧ Below w.heap.size w w' := by
 have HH := Aside0.mk hh
 have HI := Aside0.mk (fun W hW => blockOK_calls g p bs fi bl tot x A1 c1 A4 c4 W ht (hv.below hW) (Kd.C_below hr1 hW) (Kd.C_below hr4 hW))
 clear hh hv hr1 hr4
 have hu := Tryz.underlying48
 generalize blockOKp bs tot x = m at HI ⊢
 go_enter Tryz.func44, Tryz.ntmps44
 go_wp2_with (first
   | ((with_reducible refine gate_dst (N := 2) rfl ?_); refine box_event ?hg (N := 2) ?hd (cs := #[.int .i64 x.f0, .slice A1 x.f1.length c1, .int .i64 x.f2, .int .i64 x.f3, .slice A4 x.f4.length c4]) (t := 48) ?hr ?_; (case hd => rfl); (case hg => rfl); (case hr => first | (go_simp; done) | (go_simp; rfl)); intro b hg w1 hbox hb; have x0 : w1.cell? ⟨b, 0, none⟩ = some (.int .i64 x.f0) := (blk_cell hbox 0).trans rfl; have x1 : w1.cell? ⟨b, 1, none⟩ = some (.slice A1 x.f1.length c1) := (blk_cell hbox 1).trans rfl; have x2 : w1.cell? ⟨b, 2, none⟩ = some (.int .i64 x.f2) := (blk_cell hbox 2).trans rfl; have x3 : w1.cell? ⟨b, 3, none⟩ = some (.int .i64 x.f3) := (blk_cell hbox 3).trans rfl; have x4 : w1.cell? ⟨b, 4, none⟩ = some (.slice A4 x.f4.length c4) := (blk_cell hbox 4).trans rfl; have hc := (HH.out.below hb).cell; have HB1 := Aside0.mk hb; clear hb hbox hg)
   | (go_at_call 45; refine (HI.out _ HB1.out).mono ?_; rintro e w2 ⟨rfl, hb2⟩; have HB2 := Aside0.mk (below_then HB1.out HB1.out.size hb2); clear hb2))
 go_ret
 exact ⟨rfl, HB2.out⟩
theorem numTot_ge : ∀ (bs : List S48) (t : Int), bs.all numOne = true → t ≤ numTot t bs
  | [], t, _ => Int.le_refl t
  | b :: bs, t, h => by
    simp only [List.all_cons, Bool.and_eq_true] at h
    have h1 := numTot_ge bs (t + cnt b) h.2
    have h2 : 0 ≤ b.f0 := by
      have := h.1
      simp only [numOne, Bool.and_eq_true, decide_eq_true_eq] at this
      exact this.1.1
    have h3 : 0 ≤ cnt b := by unfold cnt; omega
    show t ≤ numTot (t + cnt b) bs
    omega
theorem numTot_0 {p : Int} {bs : List S48} (h : numOK p bs = true) : 0 ≤ numTot p bs := by
 unfold numOK at h
 simp only [Bool.and_eq_true] at h
 have h1 := numTot_ge bs p h.2
 have h2 := h.1
 simp only [numPre, Bool.and_eq_true, decide_eq_true_eq] at h2
 omega
def goodF (p : Int) (bs : List S48) : Bool := numOK p bs && decide (numTot p bs ≤ 80) && !bs.any (fun b => !blockOKp bs (numTot p bs) b)
def ViewPost (p : Int) (bs : List S48) (w : World) (e : Ending) (w' : World) : Prop :=
  (match goodF p bs with
    | false => e = .returned (.pointer none)
    | true => ∃ g, e = .returned (ptr g) ∧ IsView w' g p bs (viewFi p bs) (viewBl p bs) (numTot p bs)) ∧ Below w.heap.size w w'
theorem viewPost_bad {p : Int} {bs : List S48} {w w' : World} (h : goodF p bs = false) (hb : Below w.heap.size w w') : ViewPost p bs w (.returned (.pointer none)) w' := by
 unfold ViewPost
 rw [h]
 exact ⟨rfl, hb⟩
theorem viewPost_good {p : Int} {bs : List S48} {w w' : World} {g : Nat} (h : goodF p bs = true) (hv : IsView w' g p bs (viewFi p bs) (viewBl p bs) (numTot p bs)) (hb : Below w.heap.size w w') : ViewPost p bs w (.returned (ptr g)) w' := by
 unfold ViewPost
 rw [h]
 exact ⟨⟨g, rfl, hv⟩, hb⟩
theorem good_no1 {p : Int} {bs : List S48} (h : numOK p bs = false) : goodF p bs = false := by
 unfold goodF
 rw [h]
 rfl
theorem good_no2 {p : Int} {bs : List S48} (h : decide (numTot p bs ≤ 80) = false) : goodF p bs = false := by
 unfold goodF
 rw [h, Bool.and_false]
 rfl
theorem good_is {p : Int} {bs : List S48} {m : Bool} (h1 : numOK p bs = true) (h2 : decide (numTot p bs ≤ 80) = true) (h3 : m = bs.any (fun b => !blockOKp bs (numTot p bs) b)) : goodF p bs = !m := by
 unfold goodF
 rw [h1, h2, ← h3]
 rfl
theorem numbered_no (A : Option Addr) (c : Nat) (p : Int) (bs : List S48) (hok : numOK p bs = false) (hc : bs.length ≤ c) (W : World) (hr : k48.C W A bs.length bs) :
    Calls Tryz.prog 42 #[.agg #[.int .i64 p, .slice A bs.length c]] W fun e w' => e = .returned (.tuple #[.pointer none, .bool false]) ∧ Below W.heap.size W w' :=
  (numbered_calls A c p bs W hr hc).mono fun e w' h => by
    unfold NumPost at h
    rw [hok] at h
    exact h
theorem numbered_is (A : Option Addr) (c : Nat) (p : Int) (bs : List S48) (hok : numOK p bs = true) (m : Bool) (hm : decide (numTot p bs ≤ 80) = m) (hc : bs.length ≤ c) (W : World) (hr : k48.C W A bs.length bs) :
    Calls Tryz.prog 42 #[.agg #[.int .i64 p, .slice A bs.length c]] W fun e w' => ∃ g, e = .returned (.tuple #[ptr g, .bool m]) ∧ IsView w' g p bs (viewFi p bs) (viewBl p bs) (numTot p bs) ∧ Below W.heap.size W w' :=
  (numbered_calls A c p bs W hr hc).mono fun e w' h => by
    unfold NumPost at h
    rw [hok, hm] at h
    obtain ⟨⟨g, h1, h2⟩, h3⟩ := h
    exact ⟨g, h1, h2, h3⟩
set_option maxHeartbeats 1000000 in
set_option maxRecDepth 100000 in
theorem viewOf_calls (A : Option Addr) (c : Nat) (p : Int) (bs : List S48) (w : World) (hr : k48.C w A bs.length bs) (hc : bs.length ≤ c) :
    Calls Tryz.prog 28 #[.agg #[.int .i64 p, .slice A bs.length c]] w (ViewPost p bs w) := by
 have HR := Aside0.mk hr
 have hm := Kd.C_max hr
 clear hr
 have hu := Tryz.underlying30
 rcases hok : numOK p bs with _ | _
 · have BAD := Aside0.mk (good_no1 hok)
   have HN := Aside0.mk (numbered_no A c p bs hok hc)
   clear hok
   go_enter Tryz.func28, Tryz.ntmps28
   go_wp2_with (first
     | ((with_reducible refine gate_dst (N := 1) rfl ?_); refine box_event ?hg (N := 1) ?hd (cs := #[.int .i64 p, .slice A bs.length c]) (t := 30) ?hr ?_; (case hd => rfl); (case hg => rfl); (case hr => first | (go_simp; done) | (go_simp; rfl)); intro b hg w1 hbox hb; have x0 : w1.cell? ⟨b, 0, none⟩ = some (.int .i64 p) := (blk_cell hbox 0).trans rfl; have x1 : w1.cell? ⟨b, 1, none⟩ = some (.slice A bs.length c) := (blk_cell hbox 1).trans rfl; have HB1 := Aside0.mk hb; clear hb hbox hg)
     | (go_at_call 42; refine (HN.out _ (Kd.C_below HR.out HB1.out)).mono ?_; rintro e w2 ⟨rfl, hb⟩; have HB2 := Aside0.mk (below_then HB1.out HB1.out.size hb); clear hb))
   go_ret
   exact viewPost_bad BAD.out (below_alloc HB2.out _)
 rcases h80 : decide (numTot p bs ≤ 80) with _ | _
 · have BAD := Aside0.mk (good_no2 h80)
   have HN := Aside0.mk (numbered_is A c p bs hok false h80 hc)
   clear hok h80
   go_enter Tryz.func28, Tryz.ntmps28
   go_wp2_with (first
     | ((with_reducible refine gate_dst (N := 1) rfl ?_); refine box_event ?hg (N := 1) ?hd (cs := #[.int .i64 p, .slice A bs.length c]) (t := 30) ?hr ?_; (case hd => rfl); (case hg => rfl); (case hr => first | (go_simp; done) | (go_simp; rfl)); intro b hg w1 hbox hb; have x0 : w1.cell? ⟨b, 0, none⟩ = some (.int .i64 p) := (blk_cell hbox 0).trans rfl; have x1 : w1.cell? ⟨b, 1, none⟩ = some (.slice A bs.length c) := (blk_cell hbox 1).trans rfl; have HB1 := Aside0.mk hb; clear hb hbox hg)
     | (go_at_call 42; refine (HN.out _ (Kd.C_below HR.out HB1.out)).mono ?_; rintro e w2 ⟨g, rfl, hv, hb⟩; have HB2 := Aside0.mk (below_then HB1.out HB1.out.size hb); clear hb hv))
   go_ret
   exact viewPost_bad BAD.out (below_alloc HB2.out _)
 obtain ⟨m, hm0⟩ : ∃ m, m = bs.any (fun b => !blockOKp bs (numTot p bs) b) := ⟨_, rfl⟩
 have ht : 0 ≤ numTot p bs ∧ numTot p bs ≤ 1000 := by
   have h1 := numTot_0 hok
   have h2 : numTot p bs ≤ 80 := by simpa using h80
   omega
 have HT := Aside0.mk ht
 have GOOD := Aside0.mk (good_is hok h80 hm0)
 have HM := Aside0.mk hm0
 have HN := Aside0.mk (numbered_is A c p bs hok true h80 hc)
 clear hok h80 hm0 ht
 cases m
 all_goals
   go_enter Tryz.func28, Tryz.ntmps28
   go_wp2_with (first
     | ((with_reducible refine gate_dst (N := 1) rfl ?_); refine box_event ?hg (N := 1) ?hd (cs := #[.int .i64 p, .slice A bs.length c]) (t := 30) ?hr ?_; (case hd => rfl); (case hg => rfl); (case hr => first | (go_simp; done) | (go_simp; rfl)); intro b hg w1 hbox hb; have x0 : w1.cell? ⟨b, 0, none⟩ = some (.int .i64 p) := (blk_cell hbox 0).trans rfl; have x1 : w1.cell? ⟨b, 1, none⟩ = some (.slice A bs.length c) := (blk_cell hbox 1).trans rfl; have BK1 := Aside0.mk hbox; have HB1 := Aside0.mk hb; clear hb hbox hg)
     | (go_at_call 42; refine (HN.out _ (Kd.C_below HR.out HB1.out)).mono ?_; rintro e w2 ⟨g, rfl, hv, hb⟩; have y1 : w2.cell? ⟨b, 1, none⟩ = some (.slice A bs.length c) := (blk_cell (blk_below BK1.out hb) 1).trans rfl; have yl : b < w2.heap.size := blk_lt (blk_below BK1.out hb); have yn : b ≠ w2.heap.size := Nat.ne_of_lt yl; have HB2 := Aside0.mk (below_then HB1.out HB1.out.size hb); have HV2 := Aside0.mk hv; clear hb hv)
     | (go_at_call 43; refine (containsBlock_calls 44 #[ptr w2.heap.size] (fun b => !blockOKp bs (numTot p bs) b) A c bs _ enters_v (Kd.C_below HR.out (below_alloc HB2.out _)) (fun i x W A1 c1 A4 c4 hx hW hl1 h1 hl4 h4 => viewOf1_calls w2.heap.size g p bs _ _ (numTot p bs) x A1 c1 A4 c4 W HT.out (Holds.below (blk_new w2 _) hW) ((HV2.out.below (below_alloc (Below.refl _ _) _)).below hW) h1 h4)).mono ?_; rw [← HM.out]; rintro e w3 ⟨rfl, hb⟩; have hx3 : w3.cell? ⟨w2.heap.size, 0, none⟩ = some (ptr g) := (blk_cell (blk_below (blk_new w2 _) hb) 0).trans rfl; have HB3 := Aside0.mk (below_then (below_alloc HB2.out _) (below_alloc HB2.out _).size hb); have HV3 := Aside0.mk ((HV2.out.below (below_alloc (Below.refl _ _) _)).below hb); clear hb))
   go_ret
   first | exact viewPost_bad GOOD.out HB3.out | exact viewPost_good GOOD.out HV3.out HB3.out
set_option maxHeartbeats 400000 in
set_option maxRecDepth 100000 in
theorem goodFunc_calls (A : Option Addr) (c : Nat) (p : Int) (bs : List S48) (w : World) (hr : k48.C w A bs.length bs) (hc : bs.length ≤ c) :
    Calls Tryz.prog 13 #[.agg #[.int .i64 p, .slice A bs.length c]] w fun e w' => e = .returned (.bool (goodF p bs)) ∧ Below w.heap.size w w' := by
 have HR := Aside0.mk (fun W (hW : Below w.heap.size w W) => viewOf_calls A c p bs W (Kd.C_below hr hW) hc)
 have hm := Kd.C_max hr
 clear hr
 have hu := Tryz.underlying30
 unfold ViewPost at HR
 rcases hok : goodF p bs with _ | _
 · rw [hok] at HR
   clear hok
   go_enter Tryz.func13, Tryz.ntmps13
   go_wp2_with (first
     | ((with_reducible refine gate_dst (N := 1) rfl ?_); refine box_event ?hg (N := 1) ?hd (cs := #[.int .i64 p, .slice A bs.length c]) (t := 30) ?hr ?_; (case hd => rfl); (case hg => rfl); (case hr => first | (go_simp; done) | (go_simp; rfl)); intro b hg w1 hbox hb; have x0 : w1.cell? ⟨b, 0, none⟩ = some (.int .i64 p) := (blk_cell hbox 0).trans rfl; have x1 : w1.cell? ⟨b, 1, none⟩ = some (.slice A bs.length c) := (blk_cell hbox 1).trans rfl; have HB1 := Aside0.mk hb; clear hb hbox hg)
     | (go_at_call 28; refine (HR.out _ HB1.out).mono ?_; rintro e w2 ⟨rfl, hb⟩; have HB2 := Aside0.mk (below_then HB1.out HB1.out.size hb); clear hb))
   go_ret
   exact ⟨rfl, HB2.out⟩
 rw [hok] at HR
 clear hok
 go_enter Tryz.func13, Tryz.ntmps13
 go_wp2_with (first
   | ((with_reducible refine gate_dst (N := 1) rfl ?_); refine box_event ?hg (N := 1) ?hd (cs := #[.int .i64 p, .slice A bs.length c]) (t := 30) ?hr ?_; (case hd => rfl); (case hg => rfl); (case hr => first | (go_simp; done) | (go_simp; rfl)); intro b hg w1 hbox hb; have x0 : w1.cell? ⟨b, 0, none⟩ = some (.int .i64 p) := (blk_cell hbox 0).trans rfl; have x1 : w1.cell? ⟨b, 1, none⟩ = some (.slice A bs.length c) := (blk_cell hbox 1).trans rfl; have HB1 := Aside0.mk hb; clear hb hbox hg)
   | (go_at_call 28; refine (HR.out _ HB1.out).mono ?_; rintro e w2 ⟨⟨g, rfl, hv⟩, hb⟩; have HB2 := Aside0.mk (below_then HB1.out HB1.out.size hb); clear hb hv))
 go_ret
 exact ⟨rfl, HB2.out⟩
end Go.Proofs.YtjpkcbkkjefekaaGreatDoor.V
