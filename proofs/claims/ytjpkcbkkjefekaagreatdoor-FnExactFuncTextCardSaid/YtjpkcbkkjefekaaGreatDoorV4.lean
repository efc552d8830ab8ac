/- A part of the session's texts, laid small by the session's shrink.py. -/
import Derived.Test.YtjpkcbkkjefekaaGreatDoorV3
namespace Go.Proofs.YtjpkcbkkjefekaaGreatDoor.V
open Go.RowKit Go.Proofs.YtjpkcbkkjefekaaGreatDoorW.PrintWords Go.Proofs.YtjpkcbkkjefekaaGreatDoorW.PrintLast Go.Proofs.YtjpkcbkkjefekaaGreatDoorW.PrintMore
open Go.Proofs.YtjpkcbkkjefekaaGreatDoor.PA
set_option linter.unusedVariables false
set_option linter.unusedSimpArgs false
theorem enters_i : ∀ args w, (callFunc 62 args).run Tryz.prog w = .ok (.enter 62 args) w := enters_of Tryz.func62 (by kernel_rfl) rfl
theorem enters_j : ∀ args w, (callFunc 65 args).run Tryz.prog w = .ok (.enter 65 args) w := enters_of Tryz.func65 (by kernel_rfl) rfl
set_option maxHeartbeats 400000 in
set_option maxRecDepth 100000 in
theorem blockOK1_calls (v g : Nat) (p : Int) (bs : List S48) (fi bl : List Int) (tot : Int) (x : S52) (A : Option Addr) (c : Nat) (w : World) (ht : 0 ≤ tot ∧ tot ≤ 1000) (hh : Holds w v g) (hv : IsView w g p bs fi bl tot) (hr : IntsC w A x.f2) :
    Calls Tryz.prog 62 #[.agg #[.int .i64 x.f0, .int .i64 x.f1, .slice A x.f2.length c], ptr v] w fun e w' => e = .returned (.bool (!instOKp tot x)) ∧ Below w.heap.size w w' := by
 have HH := Aside0.mk hh
 have HI := Aside0.mk (fun W hW => instOK_calls g p bs fi bl tot x A c W ht (hv.below hW) (Kd.C_below hr hW))
 clear hh hv hr
 have hu := Tryz.underlying52
 generalize instOKp tot x = m at HI ⊢
 go_enter Tryz.func62, Tryz.ntmps62
 go_wp2_with (first
   | ((with_reducible refine gate_dst (N := 2) rfl ?_); refine box_event ?hg (N := 2) ?hd (cs := #[.int .i64 x.f0, .int .i64 x.f1, .slice A x.f2.length c]) (t := 52) ?hr ?_; (case hd => rfl); (case hg => rfl); (case hr => first | (go_simp; done) | (go_simp; rfl)); intro b hg w1 hbox hb; have x0 : w1.cell? ⟨b, 0, none⟩ = some (.int .i64 x.f0) := (blk_cell hbox 0).trans rfl; have x1 : w1.cell? ⟨b, 1, none⟩ = some (.int .i64 x.f1) := (blk_cell hbox 1).trans rfl; have x2 : w1.cell? ⟨b, 2, none⟩ = some (.slice A x.f2.length c) := (blk_cell hbox 2).trans rfl; have hc := (HH.out.below hb).cell; have HB1 := Aside0.mk hb; clear hb hbox hg)
   | (go_at_call 63; refine (HI.out _ HB1.out).mono ?_; rintro e w2 ⟨rfl, hb2⟩; have HB2 := Aside0.mk (below_then HB1.out HB1.out.size hb2); clear hb2))
 go_ret
 exact ⟨rfl, HB2.out⟩
set_option maxHeartbeats 400000 in
set_option maxRecDepth 100000 in
theorem blockOK2_calls (v g : Nat) (p : Int) (bs : List S48) (fi bl : List Int) (tot : Int) (x : S61) (A : Option Addr) (c : Nat) (w : World) (ht : 0 ≤ tot ∧ tot ≤ 1000) (hh : Holds w v g) (hv : IsView w g p bs fi bl tot) (hr : IntsC w A x.f1) :
    Calls Tryz.prog 65 #[.agg #[.int .i64 x.f0, .slice A x.f1.length c], ptr v] w fun e w' => e = .returned (.bool (!jumpOKp bs tot x)) ∧ Below w.heap.size w w' := by
 have HH := Aside0.mk hh
 have HI := Aside0.mk (fun W hW => jumpOK_calls g p bs fi bl tot x A c W ht (hv.below hW) (Kd.C_below hr hW))
 clear hh hv hr
 have hu := Tryz.underlying61
 generalize jumpOKp bs tot x = m at HI ⊢
 go_enter Tryz.func65, Tryz.ntmps65
 go_wp2_with (first
   | ((with_reducible refine gate_dst (N := 2) rfl ?_); refine box_event ?hg (N := 2) ?hd (cs := #[.int .i64 x.f0, .slice A x.f1.length c]) (t := 61) ?hr ?_; (case hd => rfl); (case hg => rfl); (case hr => first | (go_simp; done) | (go_simp; rfl)); intro b hg w1 hbox hb; have x0 : w1.cell? ⟨b, 0, none⟩ = some (.int .i64 x.f0) := (blk_cell hbox 0).trans rfl; have x1 : w1.cell? ⟨b, 1, none⟩ = some (.slice A x.f1.length c) := (blk_cell hbox 1).trans rfl; have hc := (HH.out.below hb).cell; have HB1 := Aside0.mk hb; clear hb hbox hg)
   | (go_at_call 66; refine (HI.out _ HB1.out).mono ?_; rintro e w2 ⟨rfl, hb2⟩; have HB2 := Aside0.mk (below_then HB1.out HB1.out.size hb2); clear hb2))
 go_ret
 exact ⟨rfl, HB2.out⟩
theorem ints_lit (W : World) (v : Int) (t : TypeId) : IntsC (W.alloc (.cells #[.int .i64 v] t)) (some ⟨W.heap.size, 0, none⟩) [v] := by
  refine ⟨by simp, by simp [maxLen], fun _ => ⟨_, rfl, fun j p hj => ⟨[.int .i64 p], rfl, rfl, fun i u hu => ?_⟩⟩⟩
  match j, hj with
  | 0, hj =>
    match i, hu with
    | 0, hu =>
      simp only [List.getElem?_cons_zero, Option.some.injEq] at hj hu
      subst hj
      subst hu
      have := blk_cell (blk_new W (.cells #[.int .i64 v] t)) 0
      simp only [Addr.add]
      exact this
def blockOKp (bs : List S48) (tot : Int) (b : S48) : Bool :=
  !b.f1.any (fun x => !instOKp tot x) && !b.f4.any (fun x => !jumpOKp bs tot x) &&
    (if b.f2 = 1 then (b.f4.length : Int) == 0 && valsOK tot [b.f3] else if b.f2 = 2 then (b.f4.length : Int) == 1 && b.f3 == 0 else b.f2 == 3 && (b.f4.length : Int) == 2 && valsOK tot [b.f3])
set_option maxHeartbeats 4000000 in
set_option maxRecDepth 100000 in
theorem blockOK_calls (g : Nat) (p : Int) (bs : List S48) (fi bl : List Int) (tot : Int) (x : S48) (A1 : Option Addr) (c1 : Nat) (A4 : Option Addr) (c4 : Nat) (w : World) (ht : 0 ≤ tot ∧ tot ≤ 1000) (hv : IsView w g p bs fi bl tot)
    (hr1 : k52.C w A1 x.f1.length x.f1) (hr4 : k61.C w A4 x.f4.length x.f4) :
    Calls Tryz.prog 45 #[ptr g, .agg #[.int .i64 x.f0, .slice A1 x.f1.length c1, .int .i64 x.f2, .int .i64 x.f3, .slice A4 x.f4.length c4]] w fun e w' => e = .returned (.bool (blockOKp bs tot x)) ∧ Below w.heap.size w w' := by
 have HV := Aside0.mk hv
 have HR1 := Aside0.mk hr1
 have HR4 := Aside0.mk hr4
 clear hv hr1 hr4
 have hu := Tryz.underlying48
 obtain ⟨a0, li, en, va, lj⟩ := x
 simp only at HR1 HR4 ⊢
 obtain ⟨m1, h1⟩ : ∃ m, m = li.any (fun x => !instOKp tot x) := ⟨_, rfl⟩
 obtain ⟨m2, h2⟩ : ∃ m, m = lj.any (fun x => !jumpOKp bs tot x) := ⟨_, rfl⟩
 obtain ⟨vo, h3⟩ : ∃ m, m = valsOK tot [va] := ⟨_, rfl⟩
 have hok : blockOKp bs tot ⟨a0, li, en, va, lj⟩ = (!m1 && !m2 && (if en = 1 then (lj.length : Int) == 0 && vo else if en = 2 then (lj.length : Int) == 1 && va == 0 else en == 3 && (lj.length : Int) == 2 && vo)) := by rw [h1, h2, h3]; rfl
 rw [hok]
 clear hok
 have H1 := Aside0.mk h1
 have H2 := Aside0.mk h2
 have H3 := Aside0.mk h3
 clear h1 h2 h3
 rcases m1 with _ | _
 rotate_left
 · (go_enter Tryz.func45, Tryz.ntmps45
    go_wp2_with (first
      | ((with_reducible refine gate_dst (N := 2) rfl ?_); refine box_event ?hg (N := 2) ?hd (cs := #[ptr g]) (t := 63) ?hr ?_; (case hd => rfl); (case hg => rfl); (case hr => first | (go_simp; done) | (go_simp; rfl)); intro v hg w1 hbox hb; have HH1 := Aside0.mk (show Holds w1 v g from hbox); have HB1 := Aside0.mk hb; clear hb hbox hg)
      | ((with_reducible refine gate_dst (N := 3) rfl ?_); refine box_event ?hg (N := 3) ?hd (cs := #[.int .i64 a0, .slice A1 li.length c1, .int .i64 en, .int .i64 va, .slice A4 lj.length c4]) (t := 48) ?hr ?_; (case hd => rfl); (case hg => rfl); (case hr => first | (go_simp; done) | (go_simp; rfl)); intro b hg w2 hbox hb; have BK2 := Aside0.mk hbox; have x1 : w2.cell? ⟨b, 1, none⟩ = some (.slice A1 li.length c1) := (blk_cell hbox 1).trans rfl; have HH2 := Aside0.mk (HH1.out.below hb); have HB2 := Aside0.mk (below_then HB1.out HB1.out.size hb); clear hb hbox hg)
      | (go_at_call 61; refine (containsInst_calls 62 #[ptr v] (fun x => !instOKp tot x) A1 c1 li _ enters_i (Kd.C_below HR1.out HB2.out) (fun i x W A c hx hW hl hr => blockOK1_calls v g p bs fi bl tot x A c W ht (HH2.out.below hW) ((HV.out.below HB2.out).below hW) hr)).mono ?_; rw [← H1.out]; rintro e w3 ⟨rfl, hb⟩; have BK3 := Aside0.mk (blk_below BK2.out hb); have y4 : w3.cell? ⟨b, 4, none⟩ = some (.slice A4 lj.length c4) := (blk_cell BK3.out 4).trans rfl; have HH3 := Aside0.mk (HH2.out.below hb); have HB3 := Aside0.mk (below_then HB2.out HB2.out.size hb); clear hb)
      | (go_at_call 64; refine (containsJump_calls 65 #[ptr v] (fun x => !jumpOKp bs tot x) A4 c4 lj _ enters_j (Kd.C_below HR4.out HB3.out) (fun i x W A c hx hW hl hr => blockOK2_calls v g p bs fi bl tot x A c W ht (HH3.out.below hW) ((HV.out.below HB3.out).below hW) hr)).mono ?_; rw [← H2.out]; rintro e w4 ⟨rfl, hb⟩; have BK4 := Aside0.mk (blk_below BK3.out hb); have z2 : w4.cell? ⟨b, 2, none⟩ = some (.int .i64 en) := (blk_cell BK4.out 2).trans rfl; have z3 : w4.cell? ⟨b, 3, none⟩ = some (.int .i64 va) := (blk_cell BK4.out 3).trans rfl; have z4 : w4.cell? ⟨b, 4, none⟩ = some (.slice A4 lj.length c4) := (blk_cell BK4.out 4).trans rfl; have hh4 := (HH3.out.below hb).cell; have HB4 := Aside0.mk (below_then HB3.out HB3.out.size hb); clear hb)
      | (go_at_call 67; refine (valuesOK_calls g p bs fi bl tot _ _ [va] _ ht (HV.out.below (below_alloc HB4.out _)) (ints_lit w4 va _)).mono ?_; rw [← H3.out]; rintro e w5 ⟨rfl, hb⟩; have HB5 := Aside0.mk (below_then (below_alloc HB4.out _) (below_alloc HB4.out _).size hb); clear hb))
    all_goals (go_ret; first | exact ⟨by first | rfl | simp, HB5.out⟩ | exact ⟨by first | rfl | simp, HB4.out⟩ | exact ⟨by first | rfl | simp, HB3.out⟩))
 rcases m2 with _ | _
 rotate_left
 · (go_enter Tryz.func45, Tryz.ntmps45
    go_wp2_with (first
      | ((with_reducible refine gate_dst (N := 2) rfl ?_); refine box_event ?hg (N := 2) ?hd (cs := #[ptr g]) (t := 63) ?hr ?_; (case hd => rfl); (case hg => rfl); (case hr => first | (go_simp; done) | (go_simp; rfl)); intro v hg w1 hbox hb; have HH1 := Aside0.mk (show Holds w1 v g from hbox); have HB1 := Aside0.mk hb; clear hb hbox hg)
      | ((with_reducible refine gate_dst (N := 3) rfl ?_); refine box_event ?hg (N := 3) ?hd (cs := #[.int .i64 a0, .slice A1 li.length c1, .int .i64 en, .int .i64 va, .slice A4 lj.length c4]) (t := 48) ?hr ?_; (case hd => rfl); (case hg => rfl); (case hr => first | (go_simp; done) | (go_simp; rfl)); intro b hg w2 hbox hb; have BK2 := Aside0.mk hbox; have x1 : w2.cell? ⟨b, 1, none⟩ = some (.slice A1 li.length c1) := (blk_cell hbox 1).trans rfl; have HH2 := Aside0.mk (HH1.out.below hb); have HB2 := Aside0.mk (below_then HB1.out HB1.out.size hb); clear hb hbox hg)
      | (go_at_call 61; refine (containsInst_calls 62 #[ptr v] (fun x => !instOKp tot x) A1 c1 li _ enters_i (Kd.C_below HR1.out HB2.out) (fun i x W A c hx hW hl hr => blockOK1_calls v g p bs fi bl tot x A c W ht (HH2.out.below hW) ((HV.out.below HB2.out).below hW) hr)).mono ?_; rw [← H1.out]; rintro e w3 ⟨rfl, hb⟩; have BK3 := Aside0.mk (blk_below BK2.out hb); have y4 : w3.cell? ⟨b, 4, none⟩ = some (.slice A4 lj.length c4) := (blk_cell BK3.out 4).trans rfl; have HH3 := Aside0.mk (HH2.out.below hb); have HB3 := Aside0.mk (below_then HB2.out HB2.out.size hb); clear hb)
      | (go_at_call 64; refine (containsJump_calls 65 #[ptr v] (fun x => !jumpOKp bs tot x) A4 c4 lj _ enters_j (Kd.C_below HR4.out HB3.out) (fun i x W A c hx hW hl hr => blockOK2_calls v g p bs fi bl tot x A c W ht (HH3.out.below hW) ((HV.out.below HB3.out).below hW) hr)).mono ?_; rw [← H2.out]; rintro e w4 ⟨rfl, hb⟩; have BK4 := Aside0.mk (blk_below BK3.out hb); have z2 : w4.cell? ⟨b, 2, none⟩ = some (.int .i64 en) := (blk_cell BK4.out 2).trans rfl; have z3 : w4.cell? ⟨b, 3, none⟩ = some (.int .i64 va) := (blk_cell BK4.out 3).trans rfl; have z4 : w4.cell? ⟨b, 4, none⟩ = some (.slice A4 lj.length c4) := (blk_cell BK4.out 4).trans rfl; have hh4 := (HH3.out.below hb).cell; have HB4 := Aside0.mk (below_then HB3.out HB3.out.size hb); clear hb)
      | (go_at_call 67; refine (valuesOK_calls g p bs fi bl tot _ _ [va] _ ht (HV.out.below (below_alloc HB4.out _)) (ints_lit w4 va _)).mono ?_; rw [← H3.out]; rintro e w5 ⟨rfl, hb⟩; have HB5 := Aside0.mk (below_then (below_alloc HB4.out _) (below_alloc HB4.out _).size hb); clear hb))
    all_goals (go_ret; first | exact ⟨by first | rfl | simp, HB5.out⟩ | exact ⟨by first | rfl | simp, HB4.out⟩ | exact ⟨by first | rfl | simp, HB3.out⟩))
 rcases he1 : (en == 1) with _ | _
 rotate_left
 · have e1 : en = 1 := by simpa using he1
   rcases hl : ((lj.length : Int) == 0) with _ | _
   · rw [if_pos e1]
     (go_enter Tryz.func45, Tryz.ntmps45
      go_wp2_with (first
        | ((with_reducible refine gate_dst (N := 2) rfl ?_); refine box_event ?hg (N := 2) ?hd (cs := #[ptr g]) (t := 63) ?hr ?_; (case hd => rfl); (case hg => rfl); (case hr => first | (go_simp; done) | (go_simp; rfl)); intro v hg w1 hbox hb; have HH1 := Aside0.mk (show Holds w1 v g from hbox); have HB1 := Aside0.mk hb; clear hb hbox hg)
        | ((with_reducible refine gate_dst (N := 3) rfl ?_); refine box_event ?hg (N := 3) ?hd (cs := #[.int .i64 a0, .slice A1 li.length c1, .int .i64 en, .int .i64 va, .slice A4 lj.length c4]) (t := 48) ?hr ?_; (case hd => rfl); (case hg => rfl); (case hr => first | (go_simp; done) | (go_simp; rfl)); intro b hg w2 hbox hb; have BK2 := Aside0.mk hbox; have x1 : w2.cell? ⟨b, 1, none⟩ = some (.slice A1 li.length c1) := (blk_cell hbox 1).trans rfl; have HH2 := Aside0.mk (HH1.out.below hb); have HB2 := Aside0.mk (below_then HB1.out HB1.out.size hb); clear hb hbox hg)
        | (go_at_call 61; refine (containsInst_calls 62 #[ptr v] (fun x => !instOKp tot x) A1 c1 li _ enters_i (Kd.C_below HR1.out HB2.out) (fun i x W A c hx hW hl hr => blockOK1_calls v g p bs fi bl tot x A c W ht (HH2.out.below hW) ((HV.out.below HB2.out).below hW) hr)).mono ?_; rw [← H1.out]; rintro e w3 ⟨rfl, hb⟩; have BK3 := Aside0.mk (blk_below BK2.out hb); have y4 : w3.cell? ⟨b, 4, none⟩ = some (.slice A4 lj.length c4) := (blk_cell BK3.out 4).trans rfl; have HH3 := Aside0.mk (HH2.out.below hb); have HB3 := Aside0.mk (below_then HB2.out HB2.out.size hb); clear hb)
        | (go_at_call 64; refine (containsJump_calls 65 #[ptr v] (fun x => !jumpOKp bs tot x) A4 c4 lj _ enters_j (Kd.C_below HR4.out HB3.out) (fun i x W A c hx hW hl hr => blockOK2_calls v g p bs fi bl tot x A c W ht (HH3.out.below hW) ((HV.out.below HB3.out).below hW) hr)).mono ?_; rw [← H2.out]; rintro e w4 ⟨rfl, hb⟩; have BK4 := Aside0.mk (blk_below BK3.out hb); have z2 : w4.cell? ⟨b, 2, none⟩ = some (.int .i64 en) := (blk_cell BK4.out 2).trans rfl; have z3 : w4.cell? ⟨b, 3, none⟩ = some (.int .i64 va) := (blk_cell BK4.out 3).trans rfl; have z4 : w4.cell? ⟨b, 4, none⟩ = some (.slice A4 lj.length c4) := (blk_cell BK4.out 4).trans rfl; have hh4 := (HH3.out.below hb).cell; have HB4 := Aside0.mk (below_then HB3.out HB3.out.size hb); clear hb)
        | (go_at_call 67; refine (valuesOK_calls g p bs fi bl tot _ _ [va] _ ht (HV.out.below (below_alloc HB4.out _)) (ints_lit w4 va _)).mono ?_; rw [← H3.out]; rintro e w5 ⟨rfl, hb⟩; have HB5 := Aside0.mk (below_then (below_alloc HB4.out _) (below_alloc HB4.out _).size hb); clear hb))
      all_goals (go_ret; first | exact ⟨by first | rfl | simp, HB5.out⟩ | exact ⟨by first | rfl | simp, HB4.out⟩ | exact ⟨by first | rfl | simp, HB3.out⟩))
   rw [if_pos e1]
   (go_enter Tryz.func45, Tryz.ntmps45
    go_wp2_with (first
      | ((with_reducible refine gate_dst (N := 2) rfl ?_); refine box_event ?hg (N := 2) ?hd (cs := #[ptr g]) (t := 63) ?hr ?_; (case hd => rfl); (case hg => rfl); (case hr => first | (go_simp; done) | (go_simp; rfl)); intro v hg w1 hbox hb; have HH1 := Aside0.mk (show Holds w1 v g from hbox); have HB1 := Aside0.mk hb; clear hb hbox hg)
      | ((with_reducible refine gate_dst (N := 3) rfl ?_); refine box_event ?hg (N := 3) ?hd (cs := #[.int .i64 a0, .slice A1 li.length c1, .int .i64 en, .int .i64 va, .slice A4 lj.length c4]) (t := 48) ?hr ?_; (case hd => rfl); (case hg => rfl); (case hr => first | (go_simp; done) | (go_simp; rfl)); intro b hg w2 hbox hb; have BK2 := Aside0.mk hbox; have x1 : w2.cell? ⟨b, 1, none⟩ = some (.slice A1 li.length c1) := (blk_cell hbox 1).trans rfl; have HH2 := Aside0.mk (HH1.out.below hb); have HB2 := Aside0.mk (below_then HB1.out HB1.out.size hb); clear hb hbox hg)
      | (go_at_call 61; refine (containsInst_calls 62 #[ptr v] (fun x => !instOKp tot x) A1 c1 li _ enters_i (Kd.C_below HR1.out HB2.out) (fun i x W A c hx hW hl hr => blockOK1_calls v g p bs fi bl tot x A c W ht (HH2.out.below hW) ((HV.out.below HB2.out).below hW) hr)).mono ?_; rw [← H1.out]; rintro e w3 ⟨rfl, hb⟩; have BK3 := Aside0.mk (blk_below BK2.out hb); have y4 : w3.cell? ⟨b, 4, none⟩ = some (.slice A4 lj.length c4) := (blk_cell BK3.out 4).trans rfl; have HH3 := Aside0.mk (HH2.out.below hb); have HB3 := Aside0.mk (below_then HB2.out HB2.out.size hb); clear hb)
      | (go_at_call 64; refine (containsJump_calls 65 #[ptr v] (fun x => !jumpOKp bs tot x) A4 c4 lj _ enters_j (Kd.C_below HR4.out HB3.out) (fun i x W A c hx hW hl hr => blockOK2_calls v g p bs fi bl tot x A c W ht (HH3.out.below hW) ((HV.out.below HB3.out).below hW) hr)).mono ?_; rw [← H2.out]; rintro e w4 ⟨rfl, hb⟩; have BK4 := Aside0.mk (blk_below BK3.out hb); have z2 : w4.cell? ⟨b, 2, none⟩ = some (.int .i64 en) := (blk_cell BK4.out 2).trans rfl; have z3 : w4.cell? ⟨b, 3, none⟩ = some (.int .i64 va) := (blk_cell BK4.out 3).trans rfl; have z4 : w4.cell? ⟨b, 4, none⟩ = some (.slice A4 lj.length c4) := (blk_cell BK4.out 4).trans rfl; have hh4 := (HH3.out.below hb).cell; have HB4 := Aside0.mk (below_then HB3.out HB3.out.size hb); clear hb)
      | (go_at_call 67; refine (valuesOK_calls g p bs fi bl tot _ _ [va] _ ht (HV.out.below (below_alloc HB4.out _)) (ints_lit w4 va _)).mono ?_; rw [← H3.out]; rintro e w5 ⟨rfl, hb⟩; have HB5 := Aside0.mk (below_then (below_alloc HB4.out _) (below_alloc HB4.out _).size hb); clear hb))
    all_goals (go_ret; first | exact ⟨by first | rfl | simp, HB5.out⟩ | exact ⟨by first | rfl | simp, HB4.out⟩ | exact ⟨by first | rfl | simp, HB3.out⟩))
 have n1 : ¬ en = 1 := by simpa using he1
 rcases he2 : (en == 2) with _ | _
 rotate_left
 · have e2 : en = 2 := by simpa using he2
   rcases hl : ((lj.length : Int) == 1) with _ | _
   · rw [if_neg n1, if_pos e2]
     (go_enter Tryz.func45, Tryz.ntmps45
      go_wp2_with (first
        | ((with_reducible refine gate_dst (N := 2) rfl ?_); refine box_event ?hg (N := 2) ?hd (cs := #[ptr g]) (t := 63) ?hr ?_; (case hd => rfl); (case hg => rfl); (case hr => first | (go_simp; done) | (go_simp; rfl)); intro v hg w1 hbox hb; have HH1 := Aside0.mk (show Holds w1 v g from hbox); have HB1 := Aside0.mk hb; clear hb hbox hg)
        | ((with_reducible refine gate_dst (N := 3) rfl ?_); refine box_event ?hg (N := 3) ?hd (cs := #[.int .i64 a0, .slice A1 li.length c1, .int .i64 en, .int .i64 va, .slice A4 lj.length c4]) (t := 48) ?hr ?_; (case hd => rfl); (case hg => rfl); (case hr => first | (go_simp; done) | (go_simp; rfl)); intro b hg w2 hbox hb; have BK2 := Aside0.mk hbox; have x1 : w2.cell? ⟨b, 1, none⟩ = some (.slice A1 li.length c1) := (blk_cell hbox 1).trans rfl; have HH2 := Aside0.mk (HH1.out.below hb); have HB2 := Aside0.mk (below_then HB1.out HB1.out.size hb); clear hb hbox hg)
        | (go_at_call 61; refine (containsInst_calls 62 #[ptr v] (fun x => !instOKp tot x) A1 c1 li _ enters_i (Kd.C_below HR1.out HB2.out) (fun i x W A c hx hW hl hr => blockOK1_calls v g p bs fi bl tot x A c W ht (HH2.out.below hW) ((HV.out.below HB2.out).below hW) hr)).mono ?_; rw [← H1.out]; rintro e w3 ⟨rfl, hb⟩; have BK3 := Aside0.mk (blk_below BK2.out hb); have y4 : w3.cell? ⟨b, 4, none⟩ = some (.slice A4 lj.length c4) := (blk_cell BK3.out 4).trans rfl; have HH3 := Aside0.mk (HH2.out.below hb); have HB3 := Aside0.mk (below_then HB2.out HB2.out.size hb); clear hb)
        | (go_at_call 64; refine (containsJump_calls 65 #[ptr v] (fun x => !jumpOKp bs tot x) A4 c4 lj _ enters_j (Kd.C_below HR4.out HB3.out) (fun i x W A c hx hW hl hr => blockOK2_calls v g p bs fi bl tot x A c W ht (HH3.out.below hW) ((HV.out.below HB3.out).below hW) hr)).mono ?_; rw [← H2.out]; rintro e w4 ⟨rfl, hb⟩; have BK4 := Aside0.mk (blk_below BK3.out hb); have z2 : w4.cell? ⟨b, 2, none⟩ = some (.int .i64 en) := (blk_cell BK4.out 2).trans rfl; have z3 : w4.cell? ⟨b, 3, none⟩ = some (.int .i64 va) := (blk_cell BK4.out 3).trans rfl; have z4 : w4.cell? ⟨b, 4, none⟩ = some (.slice A4 lj.length c4) := (blk_cell BK4.out 4).trans rfl; have hh4 := (HH3.out.below hb).cell; have HB4 := Aside0.mk (below_then HB3.out HB3.out.size hb); clear hb)
        | (go_at_call 67; refine (valuesOK_calls g p bs fi bl tot _ _ [va] _ ht (HV.out.below (below_alloc HB4.out _)) (ints_lit w4 va _)).mono ?_; rw [← H3.out]; rintro e w5 ⟨rfl, hb⟩; have HB5 := Aside0.mk (below_then (below_alloc HB4.out _) (below_alloc HB4.out _).size hb); clear hb))
      all_goals (go_ret; first | exact ⟨by first | rfl | simp, HB5.out⟩ | exact ⟨by first | rfl | simp, HB4.out⟩ | exact ⟨by first | rfl | simp, HB3.out⟩))
   rw [if_neg n1, if_pos e2]
   (go_enter Tryz.func45, Tryz.ntmps45
    go_wp2_with (first
      | ((with_reducible refine gate_dst (N := 2) rfl ?_); refine box_event ?hg (N := 2) ?hd (cs := #[ptr g]) (t := 63) ?hr ?_; (case hd => rfl); (case hg => rfl); (case hr => first | (go_simp; done) | (go_simp; rfl)); intro v hg w1 hbox hb; have HH1 := Aside0.mk (show Holds w1 v g from hbox); have HB1 := Aside0.mk hb; clear hb hbox hg)
      | ((with_reducible refine gate_dst (N := 3) rfl ?_); refine box_event ?hg (N := 3) ?hd (cs := #[.int .i64 a0, .slice A1 li.length c1, .int .i64 en, .int .i64 va, .slice A4 lj.length c4]) (t := 48) ?hr ?_; (case hd => rfl); (case hg => rfl); (case hr => first | (go_simp; done) | (go_simp; rfl)); intro b hg w2 hbox hb; have BK2 := Aside0.mk hbox; have x1 : w2.cell? ⟨b, 1, none⟩ = some (.slice A1 li.length c1) := (blk_cell hbox 1).trans rfl; have HH2 := Aside0.mk (HH1.out.below hb); have HB2 := Aside0.mk (below_then HB1.out HB1.out.size hb); clear hb hbox hg)
      | (go_at_call 61; refine (containsInst_calls 62 #[ptr v] (fun x => !instOKp tot x) A1 c1 li _ enters_i (Kd.C_below HR1.out HB2.out) (fun i x W A c hx hW hl hr => blockOK1_calls v g p bs fi bl tot x A c W ht (HH2.out.below hW) ((HV.out.below HB2.out).below hW) hr)).mono ?_; rw [← H1.out]; rintro e w3 ⟨rfl, hb⟩; have BK3 := Aside0.mk (blk_below BK2.out hb); have y4 : w3.cell? ⟨b, 4, none⟩ = some (.slice A4 lj.length c4) := (blk_cell BK3.out 4).trans rfl; have HH3 := Aside0.mk (HH2.out.below hb); have HB3 := Aside0.mk (below_then HB2.out HB2.out.size hb); clear hb)
      | (go_at_call 64; refine (containsJump_calls 65 #[ptr v] (fun x => !jumpOKp bs tot x) A4 c4 lj _ enters_j (Kd.C_below HR4.out HB3.out) (fun i x W A c hx hW hl hr => blockOK2_calls v g p bs fi bl tot x A c W ht (HH3.out.below hW) ((HV.out.below HB3.out).below hW) hr)).mono ?_; rw [← H2.out]; rintro e w4 ⟨rfl, hb⟩; have BK4 := Aside0.mk (blk_below BK3.out hb); have z2 : w4.cell? ⟨b, 2, none⟩ = some (.int .i64 en) := (blk_cell BK4.out 2).trans rfl; have z3 : w4.cell? ⟨b, 3, none⟩ = some (.int .i64 va) := (blk_cell BK4.out 3).trans rfl; have z4 : w4.cell? ⟨b, 4, none⟩ = some (.slice A4 lj.length c4) := (blk_cell BK4.out 4).trans rfl; have hh4 := (HH3.out.below hb).cell; have HB4 := Aside0.mk (below_then HB3.out HB3.out.size hb); clear hb)
      | (go_at_call 67; refine (valuesOK_calls g p bs fi bl tot _ _ [va] _ ht (HV.out.below (below_alloc HB4.out _)) (ints_lit w4 va _)).mono ?_; rw [← H3.out]; rintro e w5 ⟨rfl, hb⟩; have HB5 := Aside0.mk (below_then (below_alloc HB4.out _) (below_alloc HB4.out _).size hb); clear hb))
    all_goals (go_ret; first | exact ⟨by first | rfl | simp, HB5.out⟩ | exact ⟨by first | rfl | simp, HB4.out⟩ | exact ⟨by first | rfl | simp, HB3.out⟩))
 have n2 : ¬ en = 2 := by simpa using he2
 rcases he3 : (en == 3) with _ | _
 · rw [if_neg n1, if_neg n2]
   (go_enter Tryz.func45, Tryz.ntmps45
    go_wp2_with (first
      | ((with_reducible refine gate_dst (N := 2) rfl ?_); refine box_event ?hg (N := 2) ?hd (cs := #[ptr g]) (t := 63) ?hr ?_; (case hd => rfl); (case hg => rfl); (case hr => first | (go_simp; done) | (go_simp; rfl)); intro v hg w1 hbox hb; have HH1 := Aside0.mk (show Holds w1 v g from hbox); have HB1 := Aside0.mk hb; clear hb hbox hg)
      | ((with_reducible refine gate_dst (N := 3) rfl ?_); refine box_event ?hg (N := 3) ?hd (cs := #[.int .i64 a0, .slice A1 li.length c1, .int .i64 en, .int .i64 va, .slice A4 lj.length c4]) (t := 48) ?hr ?_; (case hd => rfl); (case hg => rfl); (case hr => first | (go_simp; done) | (go_simp; rfl)); intro b hg w2 hbox hb; have BK2 := Aside0.mk hbox; have x1 : w2.cell? ⟨b, 1, none⟩ = some (.slice A1 li.length c1) := (blk_cell hbox 1).trans rfl; have HH2 := Aside0.mk (HH1.out.below hb); have HB2 := Aside0.mk (below_then HB1.out HB1.out.size hb); clear hb hbox hg)
      | (go_at_call 61; refine (containsInst_calls 62 #[ptr v] (fun x => !instOKp tot x) A1 c1 li _ enters_i (Kd.C_below HR1.out HB2.out) (fun i x W A c hx hW hl hr => blockOK1_calls v g p bs fi bl tot x A c W ht (HH2.out.below hW) ((HV.out.below HB2.out).below hW) hr)).mono ?_; rw [← H1.out]; rintro e w3 ⟨rfl, hb⟩; have BK3 := Aside0.mk (blk_below BK2.out hb); have y4 : w3.cell? ⟨b, 4, none⟩ = some (.slice A4 lj.length c4) := (blk_cell BK3.out 4).trans rfl; have HH3 := Aside0.mk (HH2.out.below hb); have HB3 := Aside0.mk (below_then HB2.out HB2.out.size hb); clear hb)
      | (go_at_call 64; refine (containsJump_calls 65 #[ptr v] (fun x => !jumpOKp bs tot x) A4 c4 lj _ enters_j (Kd.C_below HR4.out HB3.out) (fun i x W A c hx hW hl hr => blockOK2_calls v g p bs fi bl tot x A c W ht (HH3.out.below hW) ((HV.out.below HB3.out).below hW) hr)).mono ?_; rw [← H2.out]; rintro e w4 ⟨rfl, hb⟩; have BK4 := Aside0.mk (blk_below BK3.out hb); have z2 : w4.cell? ⟨b, 2, none⟩ = some (.int .i64 en) := (blk_cell BK4.out 2).trans rfl; have z3 : w4.cell? ⟨b, 3, none⟩ = some (.int .i64 va) := (blk_cell BK4.out 3).trans rfl; have z4 : w4.cell? ⟨b, 4, none⟩ = some (.slice A4 lj.length c4) := (blk_cell BK4.out 4).trans rfl; have hh4 := (HH3.out.below hb).cell; have HB4 := Aside0.mk (below_then HB3.out HB3.out.size hb); clear hb)
      | (go_at_call 67; refine (valuesOK_calls g p bs fi bl tot _ _ [va] _ ht (HV.out.below (below_alloc HB4.out _)) (ints_lit w4 va _)).mono ?_; rw [← H3.out]; rintro e w5 ⟨rfl, hb⟩; have HB5 := Aside0.mk (below_then (below_alloc HB4.out _) (below_alloc HB4.out _).size hb); clear hb))
    all_goals (go_ret; first | exact ⟨by first | rfl | simp, HB5.out⟩ | exact ⟨by first | rfl | simp, HB4.out⟩ | exact ⟨by first | rfl | simp, HB3.out⟩))
 rcases hl : ((lj.length : Int) == 2) with _ | _
 · rw [if_neg n1, if_neg n2]
   (go_enter Tryz.func45, Tryz.ntmps45
    go_wp2_with (first
      | ((with_reducible refine gate_dst (N := 2) rfl ?_); refine box_event ?hg (N := 2) ?hd (cs := #[ptr g]) (t := 63) ?hr ?_; (case hd => rfl); (case hg => rfl); (case hr => first | (go_simp; done) | (go_simp; rfl)); intro v hg w1 hbox hb; have HH1 := Aside0.mk (show Holds w1 v g from hbox); have HB1 := Aside0.mk hb; clear hb hbox hg)
      | ((with_reducible refine gate_dst (N := 3) rfl ?_); refine box_event ?hg (N := 3) ?hd (cs := #[.int .i64 a0, .slice A1 li.length c1, .int .i64 en, .int .i64 va, .slice A4 lj.length c4]) (t := 48) ?hr ?_; (case hd => rfl); (case hg => rfl); (case hr => first | (go_simp; done) | (go_simp; rfl)); intro b hg w2 hbox hb; have BK2 := Aside0.mk hbox; have x1 : w2.cell? ⟨b, 1, none⟩ = some (.slice A1 li.length c1) := (blk_cell hbox 1).trans rfl; have HH2 := Aside0.mk (HH1.out.below hb); have HB2 := Aside0.mk (below_then HB1.out HB1.out.size hb); clear hb hbox hg)
      | (go_at_call 61; refine (containsInst_calls 62 #[ptr v] (fun x => !instOKp tot x) A1 c1 li _ enters_i (Kd.C_below HR1.out HB2.out) (fun i x W A c hx hW hl hr => blockOK1_calls v g p bs fi bl tot x A c W ht (HH2.out.below hW) ((HV.out.below HB2.out).below hW) hr)).mono ?_; rw [← H1.out]; rintro e w3 ⟨rfl, hb⟩; have BK3 := Aside0.mk (blk_below BK2.out hb); have y4 : w3.cell? ⟨b, 4, none⟩ = some (.slice A4 lj.length c4) := (blk_cell BK3.out 4).trans rfl; have HH3 := Aside0.mk (HH2.out.below hb); have HB3 := Aside0.mk (below_then HB2.out HB2.out.size hb); clear hb)
      | (go_at_call 64; refine (containsJump_calls 65 #[ptr v] (fun x => !jumpOKp bs tot x) A4 c4 lj _ enters_j (Kd.C_below HR4.out HB3.out) (fun i x W A c hx hW hl hr => blockOK2_calls v g p bs fi bl tot x A c W ht (HH3.out.below hW) ((HV.out.below HB3.out).below hW) hr)).mono ?_; rw [← H2.out]; rintro e w4 ⟨rfl, hb⟩; have BK4 := Aside0.mk (blk_below BK3.out hb); have z2 : w4.cell? ⟨b, 2, none⟩ = some (.int .i64 en) := (blk_cell BK4.out 2).trans rfl; have z3 : w4.cell? ⟨b, 3, none⟩ = some (.int .i64 va) := (blk_cell BK4.out 3).trans rfl; have z4 : w4.cell? ⟨b, 4, none⟩ = some (.slice A4 lj.length c4) := (blk_cell BK4.out 4).trans rfl; have hh4 := (HH3.out.below hb).cell; have HB4 := Aside0.mk (below_then HB3.out HB3.out.size hb); clear hb)
      | (go_at_call 67; refine (valuesOK_calls g p bs fi bl tot _ _ [va] _ ht (HV.out.below (below_alloc HB4.out _)) (ints_lit w4 va _)).mono ?_; rw [← H3.out]; rintro e w5 ⟨rfl, hb⟩; have HB5 := Aside0.mk (below_then (below_alloc HB4.out _) (below_alloc HB4.out _).size hb); clear hb))
    all_goals (go_ret; first | exact ⟨by first | rfl | simp, HB5.out⟩ | exact ⟨by first | rfl | simp, HB4.out⟩ | exact ⟨by first | rfl | simp, HB3.out⟩))
 rw [if_neg n1, if_neg n2]
 (go_enter Tryz.func45, Tryz.ntmps45
  go_wp2_with (first
    | ((with_reducible refine gate_dst (N := 2) rfl ?_); refine box_event ?hg (N := 2) ?hd (cs := #[ptr g]) (t := 63) ?hr ?_; (case hd => rfl); (case hg => rfl); (case hr => first | (go_simp; done) | (go_simp; rfl)); intro v hg w1 hbox hb; have HH1 := Aside0.mk (show Holds w1 v g from hbox); have HB1 := Aside0.mk hb; clear hb hbox hg)
    | ((with_reducible refine gate_dst (N := 3) rfl ?_); refine box_event ?hg (N := 3) ?hd (cs := #[.int .i64 a0, .slice A1 li.length c1, .int .i64 en, .int .i64 va, .slice A4 lj.length c4]) (t := 48) ?hr ?_; (case hd => rfl); (case hg => rfl); (case hr => first | (go_simp; done) | (go_simp; rfl)); intro b hg w2 hbox hb; have BK2 := Aside0.mk hbox; have x1 : w2.cell? ⟨b, 1, none⟩ = some (.slice A1 li.length c1) := (blk_cell hbox 1).trans rfl; have HH2 := Aside0.mk (HH1.out.below hb); have HB2 := Aside0.mk (below_then HB1.out HB1.out.size hb); clear hb hbox hg)
    | (go_at_call 61; refine (containsInst_calls 62 #[ptr v] (fun x => !instOKp tot x) A1 c1 li _ enters_i (Kd.C_below HR1.out HB2.out) (fun i x W A c hx hW hl hr => blockOK1_calls v g p bs fi bl tot x A c W ht (HH2.out.below hW) ((HV.out.below HB2.out).below hW) hr)).mono ?_; rw [← H1.out]; rintro e w3 ⟨rfl, hb⟩; have BK3 := Aside0.mk (blk_below BK2.out hb); have y4 : w3.cell? ⟨b, 4, none⟩ = some (.slice A4 lj.length c4) := (blk_cell BK3.out 4).trans rfl; have HH3 := Aside0.mk (HH2.out.below hb); have HB3 := Aside0.mk (below_then HB2.out HB2.out.size hb); clear hb)
    | (go_at_call 64; refine (containsJump_calls 65 #[ptr v] (fun x => !jumpOKp bs tot x) A4 c4 lj _ enters_j (Kd.C_below HR4.out HB3.out) (fun i x W A c hx hW hl hr => blockOK2_calls v g p bs fi bl tot x A c W ht (HH3.out.below hW) ((HV.out.below HB3.out).below hW) hr)).mono ?_; rw [← H2.out]; rintro e w4 ⟨rfl, hb⟩; have BK4 := Aside0.mk (blk_below BK3.out hb); have z2 : w4.cell? ⟨b, 2, none⟩ = some (.int .i64 en) := (blk_cell BK4.out 2).trans rfl; have z3 : w4.cell? ⟨b, 3, none⟩ = some (.int .i64 va) := (blk_cell BK4.out 3).trans rfl; have z4 : w4.cell? ⟨b, 4, none⟩ = some (.slice A4 lj.length c4) := (blk_cell BK4.out 4).trans rfl; have hh4 := (HH3.out.below hb).cell; have HB4 := Aside0.mk (below_then HB3.out HB3.out.size hb); clear hb)
    | (go_at_call 67; refine (valuesOK_calls g p bs fi bl tot _ _ [va] _ ht (HV.out.below (below_alloc HB4.out _)) (ints_lit w4 va _)).mono ?_; rw [← H3.out]; rintro e w5 ⟨rfl, hb⟩; have HB5 := Aside0.mk (below_then (below_alloc HB4.out _) (below_alloc HB4.out _).size hb); clear hb))
  all_goals (go_ret; first | exact ⟨by first | rfl | simp, HB5.out⟩ | exact ⟨by first | rfl | simp, HB4.out⟩ | exact ⟨by first | rfl | simp, HB3.out⟩))
end Go.Proofs.YtjpkcbkkjefekaaGreatDoor.V
