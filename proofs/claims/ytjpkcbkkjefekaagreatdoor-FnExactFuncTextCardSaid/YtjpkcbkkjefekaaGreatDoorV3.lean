/- A part of the session's texts, laid small by the session's shrink.py. -/
import Derived.Test.YtjpkcbkkjefekaaGreatDoorV2
namespace Go.Proofs.YtjpkcbkkjefekaaGreatDoor.V
open Go.RowKit Go.Proofs.YtjpkcbkkjefekaaGreatDoorW.PrintWords Go.Proofs.YtjpkcbkkjefekaaGreatDoorW.PrintLast Go.Proofs.YtjpkcbkkjefekaaGreatDoorW.PrintMore
open Go.Proofs.YtjpkcbkkjefekaaGreatDoor.PA
set_option linter.unusedVariables false
set_option linter.unusedSimpArgs false
def jumpOKp (bs : List S48) (tot : Int) (x : S61) : Bool := (decide (0 ≤ x.f0) && decide (x.f0 ≤ (bs.length : Int) - 1)) && ((x.f1.length : Int) == (rd_T48 bs x.f0).f0) && valsOK tot x.f1
set_option maxHeartbeats 2000000 in
set_option maxRecDepth 100000 in
theorem jumpOK_calls (g : Nat) (p : Int) (bs : List S48) (fi bl : List Int) (tot : Int) (x : S61) (A : Option Addr) (c : Nat) (w : World) (ht : 0 ≤ tot ∧ tot ≤ 1000) (hv : IsView w g p bs fi bl tot) (hr : IntsC w A x.f1) :
    Calls Tryz.prog 66 #[ptr g, .agg #[.int .i64 x.f0, .slice A x.f1.length c]] w fun e w' => e = .returned (.bool (jumpOKp bs tot x)) ∧ Below w.heap.size w w' := by
  have HR := Aside0.mk hr
  have HV := Aside0.mk hv
  clear hr hv
  obtain ⟨tj, l⟩ := x
  simp only at HR ⊢
  have hu := Tryz.underlying61
  have hu2 := Tryz.underlying104
  have hu3 := Tryz.underlying30
  have hu4 := Tryz.underlying48
  obtain ⟨in_, hin⟩ : ∃ a, a = (decide (0 ≤ tj) && decide (tj ≤ (bs.length : Int) - 1)) := ⟨_, rfl⟩
  have HI := Aside0.mk hin
  obtain ⟨vo, hvo⟩ : ∃ v, v = valsOK tot l := ⟨_, rfl⟩
  have HO := Aside0.mk hvo
  obtain ⟨q, hq⟩ : ∃ q, q = (rd_T48 bs tj).f0 := ⟨_, rfl⟩
  have HQ := Aside0.mk hq
  have hok : jumpOKp bs tot ⟨tj, l⟩ = (in_ && ((l.length : Int) == q) && vo) := by rw [hin, hvo, hq]; rfl
  rw [hok]
  clear hok hvo hq
  obtain ⟨Ab, cb, Af, cf, Al, cl, -, v1, -, -, -, -, -, -, hbs, -, -⟩ := HV.out.open_
  have hmax := Kd.C_max hbs
  have V1 := Aside0.mk v1
  have i0 : IntKind.i64.wrap ((bs.length : Int) - 1) = (bs.length : Int) - 1 := IntWalk.i64_in _ (by omega)
  have VC : Aside0 (∀ (p : Addr) (v : Value), w.cell? p = some v → ∀ W, Below w.heap.size w W → W.cell? p = some v) := ⟨fun p v hp W hW => (hW.cell (World.block_lt_of_cell? w p hp)).trans hp⟩
  clear v1
  cases in_ with
  | false =>
    clear hin hbs
    go_enter Tryz.func66, Tryz.ntmps66
    go_wp2_with (first
      | ((with_reducible refine gate_dst (N := 3) rfl ?_); refine box_event ?hg (N := 3) ?hd (cs := #[.int .i64 tj, .slice A l.length c]) (t := 61) ?hr ?_; (case hd => rfl); (case hg => rfl); (case hr => first | (go_simp; done) | (go_simp; rfl)); intro b hg w1 hbox hb; have BK1 := Aside0.mk hbox; have HB1 := Aside0.mk hb; clear hb hbox hg))
    have BK2 := Aside0.mk (blk_drew BK1.out)
    have HB2 := Aside0.mk (below_drew HB1.out)
    refine start_ (n := 33) (S := fun w' => w'.cell? ⟨b, 0, none⟩ = some (.int .i64 tj) ∧ w'.cell? ⟨b, 1, none⟩ = some (.slice A l.length c) ∧ w'.cell? ⟨g, 1, none⟩ = some (.slice Ab bs.length cb)) (ds := []) #[bF, bF, bF, bF, bF, bF, bF, bF, bF, bF, bF, bF, bF, bF, bF, bF, bF, bF, bF, bF, bF, bF, bF, bF, bF, bF, bF, bF, bF, bF, bF, bF, bF] (by kernel_rfl) rfl rfl ⟨(blk_cell BK2.out 0).trans rfl, (blk_cell BK2.out 1).trans rfl, VC.out _ _ V1.out _ HB2.out⟩ (fun hHeld => ?_)
    generalize w1.drew = w2 at BK2 HB2 hHeld ⊢
    refine pure_ (i := 0) (N := some 5) (v := ?_) (a' := ?_) #[bT, bF, bF, bF, bF, bF, bF, bF, bF, bF, bF, bF, bF, bF, bF, bF, bF, bF, bF, bF, bF, bF, bF, bF, bF, bF, bF, bF, bF, bF, bF, bF, bF] rfl rfl (by kernel_rfl) (fun _ _ _ h => h) (Or.inl ⟨by rfl, ?_⟩) ?_ ?_
    rotate_left
    · intro w'
      go_simp
      with_reducible rfl
    rotate_left
    · simp only [Act.put, lA, lB, lC, i64_w, i32_w]
      rfl
    refine take_ (i := 1) (N := some 6) (v := ?_) (a' := ?_) #[bT, bT, bF, bF, bF, bF, bF, bF, bF, bF, bF, bF, bF, bF, bF, bF, bF, bF, bF, bF, bF, bF, bF, bF, bF, bF, bF, bF, bF, bF, bF, bF, bF] rfl rfl (by kernel_rfl) (fun _ _ _ h => h) (Or.inl ⟨by rfl, ?_⟩) hHeld ?_ ?_
    rotate_left
    · rintro w' ⟨s0, s1, s2⟩
      go_simp
      with_reducible rfl
    rotate_left
    · simp only [Act.put, lA, lB, lC, i64_w, i32_w]
      rfl
    refine pure_ (i := 2) (N := some 7) (v := ?_) (a' := ?_) #[bT, bT, bT, bF, bF, bF, bF, bF, bF, bF, bF, bF, bF, bF, bF, bF, bF, bF, bF, bF, bF, bF, bF, bF, bF, bF, bF, bF, bF, bF, bF, bF, bF] rfl rfl (by kernel_rfl) (fun _ _ _ h => h) (Or.inl ⟨by rfl, ?_⟩) ?_ ?_
    rotate_left
    · intro w'
      go_simp
      with_reducible rfl
    rotate_left
    · simp only [Act.put, lA, lB, lC, i64_w, i32_w]
      rfl
    refine pure_ (i := 3) (N := some 8) (v := ?_) (a' := ?_) #[bT, bT, bT, bT, bF, bF, bF, bF, bF, bF, bF, bF, bF, bF, bF, bF, bF, bF, bF, bF, bF, bF, bF, bF, bF, bF, bF, bF, bF, bF, bF, bF, bF] rfl rfl (by kernel_rfl) (fun _ _ _ h => h) (Or.inl ⟨by rfl, ?_⟩) ?_ ?_
    rotate_left
    · intro w'
      go_simp
      with_reducible rfl
    rotate_left
    · simp only [Act.put, lA, lB, lC, i64_w, i32_w]
      rfl
    refine pure_ (i := 4) (N := some 9) (v := ?_) (a' := ?_) #[bT, bT, bT, bT, bT, bF, bF, bF, bF, bF, bF, bF, bF, bF, bF, bF, bF, bF, bF, bF, bF, bF, bF, bF, bF, bF, bF, bF, bF, bF, bF, bF, bF] rfl rfl (by kernel_rfl) (fun _ _ _ h => h) (Or.inl ⟨by rfl, ?_⟩) ?_ ?_
    rotate_left
    · intro w'
      go_simp
      with_reducible rfl
    rotate_left
    · simp only [Act.put, lA, lB, lC, i64_w, i32_w]
      rfl
    refine pure_ (i := 5) (N := some 10) (v := ?_) (a' := ?_) #[bT, bT, bT, bT, bT, bT, bF, bF, bF, bF, bF, bF, bF, bF, bF, bF, bF, bF, bF, bF, bF, bF, bF, bF, bF, bF, bF, bF, bF, bF, bF, bF, bF] rfl rfl (by kernel_rfl) (fun _ _ _ h => h) (Or.inl ⟨by rfl, ?_⟩) ?_ ?_
    rotate_left
    · intro w'
      go_simp
      with_reducible rfl
    rotate_left
    · simp only [Act.put, lA, lB, lC, i64_w, i32_w]
      rfl
    refine take_ (i := 6) (N := some 11) (v := ?_) (a' := ?_) #[bT, bT, bT, bT, bT, bT, bT, bF, bF, bF, bF, bF, bF, bF, bF, bF, bF, bF, bF, bF, bF, bF, bF, bF, bF, bF, bF, bF, bF, bF, bF, bF, bF] rfl rfl (by kernel_rfl) (fun _ _ _ h => h) (Or.inl ⟨by rfl, ?_⟩) hHeld ?_ ?_
    rotate_left
    · rintro w' ⟨s0, s1, s2⟩
      go_simp
      with_reducible rfl
    rotate_left
    · simp only [Act.put, lA, lB, lC, i64_w, i32_w]
      rfl
    refine pure_ (i := 7) (N := some 12) (v := ?_) (a' := ?_) #[bT, bT, bT, bT, bT, bT, bT, bT, bF, bF, bF, bF, bF, bF, bF, bF, bF, bF, bF, bF, bF, bF, bF, bF, bF, bF, bF, bF, bF, bF, bF, bF, bF] rfl rfl (by kernel_rfl) (fun _ _ _ h => h) (Or.inl ⟨by rfl, ?_⟩) ?_ ?_
    rotate_left
    · intro w'
      go_simp
      with_reducible rfl
    rotate_left
    · simp only [Act.put, lA, lB, lC, i64_w, i32_w]
      rfl
    refine pure_ (i := 8) (N := some 13) (v := ?_) (a' := ?_) #[bT, bT, bT, bT, bT, bT, bT, bT, bT, bF, bF, bF, bF, bF, bF, bF, bF, bF, bF, bF, bF, bF, bF, bF, bF, bF, bF, bF, bF, bF, bF, bF, bF] rfl rfl (by kernel_rfl) (fun _ _ _ h => h) (Or.inl ⟨by rfl, ?_⟩) ?_ ?_
    rotate_left
    · intro w'
      go_simp
      with_reducible rfl
    rotate_left
    · simp only [Act.put, lA, lB, lC, i64_w, i32_w]
      rfl
    refine one_ (i := 9) (N := some 14) #[bT, bT, bT, bT, bT, bT, bT, bT, bT, bT, bF, bF, bF, bF, bF, bF, bF, bF, bF, bF, bF, bF, bF, bF, bF, bF, bF, bF, bF, bF, bF, bF, bF] rfl rfl (by kernel_rfl) (by decide) (fun K hK => ?_)
    refine goes_ Tryz.func58 (by kernel_rfl) rfl #[.int .i64 tj, .int .i64 0, .int .i64 ((bs.length : Int) - 1)] (by rfl) rfl rfl (by (try simp only [List.map_toArray, List.map_cons, List.map_nil]); first | done | rfl) ?_
    refine (within_calls tj 0 ((bs.length : Int) - 1) _).mono ?_
    rw [← HI.out]
    rintro e w3 ⟨rfl, ⟨nq, rfl⟩⟩
    refine ⟨_, rfl, ?_⟩
    have BK3 := Aside0.mk (blk_drewN BK2.out nq)
    have HB3 := Aside0.mk (pw_below_drewN HB2.out nq)
    refine hK.out _ _ ⟨(blk_cell BK3.out 0).trans rfl, (blk_cell BK3.out 1).trans rfl, VC.out _ _ V1.out _ HB3.out⟩ (fun hHeld => ?_)
    clear hK K
    refine norm_ (a' := ?_) ?_ ?_
    rotate_left
    · show Act.put _ (some 14) _ = _
      simp only [Act.put, lA, lB, lC, i64_w, i32_w]
      rfl
    refine pure_ (i := 10) (N := some 15) (v := ?_) (a' := ?_) #[bT, bT, bT, bT, bT, bT, bT, bT, bT, bT, bT, bF, bF, bF, bF, bF, bF, bF, bF, bF, bF, bF, bF, bF, bF, bF, bF, bF, bF, bF, bF, bF, bF] rfl rfl (by kernel_rfl) (fun _ _ _ h => h) (Or.inl ⟨by rfl, ?_⟩) ?_ ?_
    rotate_left
    · intro w'
      go_simp
      with_reducible rfl
    rotate_left
    · simp only [Act.put, lA, lB, lC, i64_w, i32_w]
      rfl
    refine pure_ (i := 11) (N := some 16) (v := undef) (a' := ?_) #[bT, bT, bT, bT, bT, bT, bT, bT, bT, bT, bT, bT, bF, bF, bF, bF, bF, bF, bF, bF, bF, bF, bF, bF, bF, bF, bF, bF, bF, bF, bF, bF, bF] rfl rfl (by kernel_rfl) (fun _ _ _ h => h) (Or.inr ⟨by rfl, rfl⟩) ?_ ?_
    rotate_left
    · simp only [Act.put, lA, lB, lC, i64_w, i32_w]
      rfl
    refine pure_ (i := 12) (N := some 17) (v := undef) (a' := ?_) #[bT, bT, bT, bT, bT, bT, bT, bT, bT, bT, bT, bT, bT, bF, bF, bF, bF, bF, bF, bF, bF, bF, bF, bF, bF, bF, bF, bF, bF, bF, bF, bF, bF] rfl rfl (by kernel_rfl) (fun _ _ _ h => h) (Or.inr ⟨by rfl, rfl⟩) ?_ ?_
    rotate_left
    · simp only [Act.put, lA, lB, lC, i64_w, i32_w]
      rfl
    refine pure_ (i := 13) (N := some 18) (v := undef) (a' := ?_) #[bT, bT, bT, bT, bT, bT, bT, bT, bT, bT, bT, bT, bT, bT, bF, bF, bF, bF, bF, bF, bF, bF, bF, bF, bF, bF, bF, bF, bF, bF, bF, bF, bF] rfl rfl (by kernel_rfl) (fun _ _ _ h => h) (Or.inr ⟨by rfl, rfl⟩) ?_ ?_
    rotate_left
    · simp only [Act.put, lA, lB, lC, i64_w, i32_w]
      rfl
    refine pure_ (i := 14) (N := some 19) (v := undef) (a' := ?_) #[bT, bT, bT, bT, bT, bT, bT, bT, bT, bT, bT, bT, bT, bT, bT, bF, bF, bF, bF, bF, bF, bF, bF, bF, bF, bF, bF, bF, bF, bF, bF, bF, bF] rfl rfl (by kernel_rfl) (fun _ _ _ h => h) (Or.inr ⟨by rfl, rfl⟩) ?_ ?_
    rotate_left
    · simp only [Act.put, lA, lB, lC, i64_w, i32_w]
      rfl
    refine pure_ (i := 15) (N := some 20) (v := undef) (a' := ?_) #[bT, bT, bT, bT, bT, bT, bT, bT, bT, bT, bT, bT, bT, bT, bT, bT, bF, bF, bF, bF, bF, bF, bF, bF, bF, bF, bF, bF, bF, bF, bF, bF, bF] rfl rfl (by kernel_rfl) (fun _ _ _ h => h) (Or.inr ⟨by rfl, rfl⟩) ?_ ?_
    rotate_left
    · simp only [Act.put, lA, lB, lC, i64_w, i32_w]
      rfl
    refine pure_ (i := 16) (N := some 21) (v := undef) (a' := ?_) #[bT, bT, bT, bT, bT, bT, bT, bT, bT, bT, bT, bT, bT, bT, bT, bT, bT, bF, bF, bF, bF, bF, bF, bF, bF, bF, bF, bF, bF, bF, bF, bF, bF] rfl rfl (by kernel_rfl) (fun _ _ _ h => h) (Or.inr ⟨by rfl, rfl⟩) ?_ ?_
    rotate_left
    · simp only [Act.put, lA, lB, lC, i64_w, i32_w]
      rfl
    refine pure_ (i := 17) (N := some 22) (v := undef) (a' := ?_) #[bT, bT, bT, bT, bT, bT, bT, bT, bT, bT, bT, bT, bT, bT, bT, bT, bT, bT, bF, bF, bF, bF, bF, bF, bF, bF, bF, bF, bF, bF, bF, bF, bF] rfl rfl (by kernel_rfl) (fun _ _ _ h => h) (Or.inr ⟨by rfl, rfl⟩) ?_ ?_
    rotate_left
    · simp only [Act.put, lA, lB, lC, i64_w, i32_w]
      rfl
    refine pure_ (i := 18) (N := some 23) (v := undef) (a' := ?_) #[bT, bT, bT, bT, bT, bT, bT, bT, bT, bT, bT, bT, bT, bT, bT, bT, bT, bT, bT, bF, bF, bF, bF, bF, bF, bF, bF, bF, bF, bF, bF, bF, bF] rfl rfl (by kernel_rfl) (fun _ _ _ h => h) (Or.inr ⟨by rfl, rfl⟩) ?_ ?_
    rotate_left
    · simp only [Act.put, lA, lB, lC, i64_w, i32_w]
      rfl
    refine pure_ (i := 19) (N := some 24) (v := undef) (a' := ?_) #[bT, bT, bT, bT, bT, bT, bT, bT, bT, bT, bT, bT, bT, bT, bT, bT, bT, bT, bT, bT, bF, bF, bF, bF, bF, bF, bF, bF, bF, bF, bF, bF, bF] rfl rfl (by kernel_rfl) (fun _ _ _ h => h) (Or.inr ⟨by rfl, rfl⟩) ?_ ?_
    rotate_left
    · simp only [Act.put, lA, lB, lC, i64_w, i32_w]
      rfl
    refine pure_ (i := 20) (N := some 25) (v := undef) (a' := ?_) #[bT, bT, bT, bT, bT, bT, bT, bT, bT, bT, bT, bT, bT, bT, bT, bT, bT, bT, bT, bT, bT, bF, bF, bF, bF, bF, bF, bF, bF, bF, bF, bF, bF] rfl rfl (by kernel_rfl) (fun _ _ _ h => h) (Or.inr ⟨by rfl, rfl⟩) ?_ ?_
    rotate_left
    · simp only [Act.put, lA, lB, lC, i64_w, i32_w]
      rfl
    refine pure_ (i := 21) (N := some 26) (v := undef) (a' := ?_) #[bT, bT, bT, bT, bT, bT, bT, bT, bT, bT, bT, bT, bT, bT, bT, bT, bT, bT, bT, bT, bT, bT, bF, bF, bF, bF, bF, bF, bF, bF, bF, bF, bF] rfl rfl (by kernel_rfl) (fun _ _ _ h => h) (Or.inr ⟨by rfl, rfl⟩) ?_ ?_
    rotate_left
    · simp only [Act.put, lA, lB, lC, i64_w, i32_w]
      rfl
    refine pure_ (i := 22) (N := some 27) (v := undef) (a' := ?_) #[bT, bT, bT, bT, bT, bT, bT, bT, bT, bT, bT, bT, bT, bT, bT, bT, bT, bT, bT, bT, bT, bT, bT, bF, bF, bF, bF, bF, bF, bF, bF, bF, bF] rfl rfl (by kernel_rfl) (fun _ _ _ h => h) (Or.inr ⟨by rfl, rfl⟩) ?_ ?_
    rotate_left
    · simp only [Act.put, lA, lB, lC, i64_w, i32_w]
      rfl
    refine pure_ (i := 23) (N := some 28) (v := undef) (a' := ?_) #[bT, bT, bT, bT, bT, bT, bT, bT, bT, bT, bT, bT, bT, bT, bT, bT, bT, bT, bT, bT, bT, bT, bT, bT, bF, bF, bF, bF, bF, bF, bF, bF, bF] rfl rfl (by kernel_rfl) (fun _ _ _ h => h) (Or.inr ⟨by rfl, rfl⟩) ?_ ?_
    rotate_left
    · simp only [Act.put, lA, lB, lC, i64_w, i32_w]
      rfl
    refine pure_ (i := 24) (N := some 29) (v := undef) (a' := ?_) #[bT, bT, bT, bT, bT, bT, bT, bT, bT, bT, bT, bT, bT, bT, bT, bT, bT, bT, bT, bT, bT, bT, bT, bT, bT, bF, bF, bF, bF, bF, bF, bF, bF] rfl rfl (by kernel_rfl) (fun _ _ _ h => h) (Or.inr ⟨by rfl, rfl⟩) ?_ ?_
    rotate_left
    · simp only [Act.put, lA, lB, lC, i64_w, i32_w]
      rfl
    refine pure_ (i := 25) (N := some 30) (v := ?_) (a' := ?_) #[bT, bT, bT, bT, bT, bT, bT, bT, bT, bT, bT, bT, bT, bT, bT, bT, bT, bT, bT, bT, bT, bT, bT, bT, bT, bT, bF, bF, bF, bF, bF, bF, bF] rfl rfl (by kernel_rfl) (fun _ _ _ h => h) (Or.inl ⟨by rfl, ?_⟩) ?_ ?_
    rotate_left
    · intro w'
      go_simp
      with_reducible rfl
    rotate_left
    · simp only [Act.put, lA, lB, lC, i64_w, i32_w]
      rfl
    refine pure_ (i := 26) (N := some 31) (v := ?_) (a' := ?_) #[bT, bT, bT, bT, bT, bT, bT, bT, bT, bT, bT, bT, bT, bT, bT, bT, bT, bT, bT, bT, bT, bT, bT, bT, bT, bT, bT, bF, bF, bF, bF, bF, bF] rfl rfl (by kernel_rfl) (fun _ _ _ h => h) (Or.inl ⟨by rfl, ?_⟩) ?_ ?_
    rotate_left
    · intro w'
      go_simp
      with_reducible rfl
    rotate_left
    · simp only [Act.put, lA, lB, lC, i64_w, i32_w]
      rfl
    refine pure_ (i := 27) (N := some 32) (v := undef) (a' := ?_) #[bT, bT, bT, bT, bT, bT, bT, bT, bT, bT, bT, bT, bT, bT, bT, bT, bT, bT, bT, bT, bT, bT, bT, bT, bT, bT, bT, bT, bF, bF, bF, bF, bF] rfl rfl (by kernel_rfl) (fun _ _ _ h => h) (Or.inr ⟨by rfl, rfl⟩) ?_ ?_
    rotate_left
    · simp only [Act.put, lA, lB, lC, i64_w, i32_w]
      rfl
    refine pure_ (i := 28) (N := some 33) (v := undef) (a' := ?_) #[bT, bT, bT, bT, bT, bT, bT, bT, bT, bT, bT, bT, bT, bT, bT, bT, bT, bT, bT, bT, bT, bT, bT, bT, bT, bT, bT, bT, bT, bF, bF, bF, bF] rfl rfl (by kernel_rfl) (fun _ _ _ h => h) (Or.inr ⟨by rfl, rfl⟩) ?_ ?_
    rotate_left
    · simp only [Act.put, lA, lB, lC, i64_w, i32_w]
      rfl
    refine pure_ (i := 29) (N := some 34) (v := undef) (a' := ?_) #[bT, bT, bT, bT, bT, bT, bT, bT, bT, bT, bT, bT, bT, bT, bT, bT, bT, bT, bT, bT, bT, bT, bT, bT, bT, bT, bT, bT, bT, bT, bF, bF, bF] rfl rfl (by kernel_rfl) (fun _ _ _ h => h) (Or.inr ⟨by rfl, rfl⟩) ?_ ?_
    rotate_left
    · simp only [Act.put, lA, lB, lC, i64_w, i32_w]
      rfl
    refine pure_ (i := 30) (N := some 35) (v := undef) (a' := ?_) #[bT, bT, bT, bT, bT, bT, bT, bT, bT, bT, bT, bT, bT, bT, bT, bT, bT, bT, bT, bT, bT, bT, bT, bT, bT, bT, bT, bT, bT, bT, bT, bF, bF] rfl rfl (by kernel_rfl) (fun _ _ _ h => h) (Or.inr ⟨by rfl, rfl⟩) ?_ ?_
    rotate_left
    · simp only [Act.put, lA, lB, lC, i64_w, i32_w]
      rfl
    refine pure_ (i := 31) (N := some 36) (v := ?_) (a' := ?_) #[bT, bT, bT, bT, bT, bT, bT, bT, bT, bT, bT, bT, bT, bT, bT, bT, bT, bT, bT, bT, bT, bT, bT, bT, bT, bT, bT, bT, bT, bT, bT, bT, bF] rfl rfl (by kernel_rfl) (fun _ _ _ h => h) (Or.inl ⟨by rfl, ?_⟩) ?_ ?_
    rotate_left
    · intro w'
      go_simp
      with_reducible rfl
    rotate_left
    · simp only [Act.put, lA, lB, lC, i64_w, i32_w]
      rfl
    refine pure_ (i := 32) (N := some 4) (v := ?_) (a' := ?_) #[bT, bT, bT, bT, bT, bT, bT, bT, bT, bT, bT, bT, bT, bT, bT, bT, bT, bT, bT, bT, bT, bT, bT, bT, bT, bT, bT, bT, bT, bT, bT, bT, bT] rfl rfl (by kernel_rfl) (fun _ _ _ h => h) (Or.inl ⟨by rfl, ?_⟩) ?_ ?_
    rotate_left
    · intro w'
      go_simp
      with_reducible rfl
    rotate_left
    · simp only [Act.put, lA, lB, lC, i64_w, i32_w]
      rfl
    refine done_ (by kernel_rfl) ?_
    clear i0
    go_wp2
    go_ret
    exact ⟨by first | rfl | simp, HB3.out⟩
  | true =>
    have hto : 0 ≤ tj ∧ tj ≤ (bs.length : Int) - 1 := by simpa using hin.symm
    obtain ⟨ad, A1, c1, A4, c4, e, x0, -, -, -, -, -, -, -, -⟩ := at_T48 hbs tj hto.1 (by omega)
    subst e
    rw [← HQ.out] at x0
    have X0 := Aside0.mk x0
    have t0 : 0 ≤ tj := hto.1
    have t1 : tj < (bs.length : Int) := by omega
    clear hin hbs x0 hto
    rcases hE : ((l.length : Int) == q) with _ | _
    ·
      go_enter Tryz.func66, Tryz.ntmps66
      go_wp2_with (first
        | ((with_reducible refine gate_dst (N := 3) rfl ?_); refine box_event ?hg (N := 3) ?hd (cs := #[.int .i64 tj, .slice A l.length c]) (t := 61) ?hr ?_; (case hd => rfl); (case hg => rfl); (case hr => first | (go_simp; done) | (go_simp; rfl)); intro b hg w1 hbox hb; have BK1 := Aside0.mk hbox; have HB1 := Aside0.mk hb; clear hb hbox hg))
      have BK2 := Aside0.mk (blk_drew BK1.out)
      have HB2 := Aside0.mk (below_drew HB1.out)
      refine start_ (n := 33) (S := fun w' => w'.cell? ⟨b, 0, none⟩ = some (.int .i64 tj) ∧ w'.cell? ⟨b, 1, none⟩ = some (.slice A l.length c) ∧ w'.cell? ⟨g, 1, none⟩ = some (.slice (some ad) bs.length cb) ∧ w'.cell? (ad.add (tj.toNat * 5)) = some (.int .i64 q)) (ds := []) #[bF, bF, bF, bF, bF, bF, bF, bF, bF, bF, bF, bF, bF, bF, bF, bF, bF, bF, bF, bF, bF, bF, bF, bF, bF, bF, bF, bF, bF, bF, bF, bF, bF] (by kernel_rfl) rfl rfl ⟨(blk_cell BK2.out 0).trans rfl, (blk_cell BK2.out 1).trans rfl, VC.out _ _ V1.out _ HB2.out, VC.out _ _ X0.out _ HB2.out⟩ (fun hHeld => ?_)
      generalize w1.drew = w2 at BK2 HB2 hHeld ⊢
      refine pure_ (i := 0) (N := some 5) (v := ?_) (a' := ?_) #[bT, bF, bF, bF, bF, bF, bF, bF, bF, bF, bF, bF, bF, bF, bF, bF, bF, bF, bF, bF, bF, bF, bF, bF, bF, bF, bF, bF, bF, bF, bF, bF, bF] rfl rfl (by kernel_rfl) (fun _ _ _ h => h) (Or.inl ⟨by rfl, ?_⟩) ?_ ?_
      rotate_left
      · intro w'
        go_simp
        with_reducible rfl
      rotate_left
      · simp only [Act.put, lA, lB, lC, i64_w, i32_w]
        rfl
      refine take_ (i := 1) (N := some 6) (v := ?_) (a' := ?_) #[bT, bT, bF, bF, bF, bF, bF, bF, bF, bF, bF, bF, bF, bF, bF, bF, bF, bF, bF, bF, bF, bF, bF, bF, bF, bF, bF, bF, bF, bF, bF, bF, bF] rfl rfl (by kernel_rfl) (fun _ _ _ h => h) (Or.inl ⟨by rfl, ?_⟩) hHeld ?_ ?_
      rotate_left
      · rintro w' ⟨s0, s1, s2, s3⟩
        go_simp
        with_reducible rfl
      rotate_left
      · simp only [Act.put, lA, lB, lC, i64_w, i32_w]
        rfl
      refine pure_ (i := 2) (N := some 7) (v := ?_) (a' := ?_) #[bT, bT, bT, bF, bF, bF, bF, bF, bF, bF, bF, bF, bF, bF, bF, bF, bF, bF, bF, bF, bF, bF, bF, bF, bF, bF, bF, bF, bF, bF, bF, bF, bF] rfl rfl (by kernel_rfl) (fun _ _ _ h => h) (Or.inl ⟨by rfl, ?_⟩) ?_ ?_
      rotate_left
      · intro w'
        go_simp
        with_reducible rfl
      rotate_left
      · simp only [Act.put, lA, lB, lC, i64_w, i32_w]
        rfl
      refine pure_ (i := 3) (N := some 8) (v := ?_) (a' := ?_) #[bT, bT, bT, bT, bF, bF, bF, bF, bF, bF, bF, bF, bF, bF, bF, bF, bF, bF, bF, bF, bF, bF, bF, bF, bF, bF, bF, bF, bF, bF, bF, bF, bF] rfl rfl (by kernel_rfl) (fun _ _ _ h => h) (Or.inl ⟨by rfl, ?_⟩) ?_ ?_
      rotate_left
      · intro w'
        go_simp
        with_reducible rfl
      rotate_left
      · simp only [Act.put, lA, lB, lC, i64_w, i32_w]
        rfl
      refine pure_ (i := 4) (N := some 9) (v := ?_) (a' := ?_) #[bT, bT, bT, bT, bT, bF, bF, bF, bF, bF, bF, bF, bF, bF, bF, bF, bF, bF, bF, bF, bF, bF, bF, bF, bF, bF, bF, bF, bF, bF, bF, bF, bF] rfl rfl (by kernel_rfl) (fun _ _ _ h => h) (Or.inl ⟨by rfl, ?_⟩) ?_ ?_
      rotate_left
      · intro w'
        go_simp
        with_reducible rfl
      rotate_left
      · simp only [Act.put, lA, lB, lC, i64_w, i32_w]
        rfl
      refine pure_ (i := 5) (N := some 10) (v := ?_) (a' := ?_) #[bT, bT, bT, bT, bT, bT, bF, bF, bF, bF, bF, bF, bF, bF, bF, bF, bF, bF, bF, bF, bF, bF, bF, bF, bF, bF, bF, bF, bF, bF, bF, bF, bF] rfl rfl (by kernel_rfl) (fun _ _ _ h => h) (Or.inl ⟨by rfl, ?_⟩) ?_ ?_
      rotate_left
      · intro w'
        go_simp
        with_reducible rfl
      rotate_left
      · simp only [Act.put, lA, lB, lC, i64_w, i32_w]
        rfl
      refine take_ (i := 6) (N := some 11) (v := ?_) (a' := ?_) #[bT, bT, bT, bT, bT, bT, bT, bF, bF, bF, bF, bF, bF, bF, bF, bF, bF, bF, bF, bF, bF, bF, bF, bF, bF, bF, bF, bF, bF, bF, bF, bF, bF] rfl rfl (by kernel_rfl) (fun _ _ _ h => h) (Or.inl ⟨by rfl, ?_⟩) hHeld ?_ ?_
      rotate_left
      · rintro w' ⟨s0, s1, s2, s3⟩
        go_simp
        with_reducible rfl
      rotate_left
      · simp only [Act.put, lA, lB, lC, i64_w, i32_w]
        rfl
      refine pure_ (i := 7) (N := some 12) (v := ?_) (a' := ?_) #[bT, bT, bT, bT, bT, bT, bT, bT, bF, bF, bF, bF, bF, bF, bF, bF, bF, bF, bF, bF, bF, bF, bF, bF, bF, bF, bF, bF, bF, bF, bF, bF, bF] rfl rfl (by kernel_rfl) (fun _ _ _ h => h) (Or.inl ⟨by rfl, ?_⟩) ?_ ?_
      rotate_left
      · intro w'
        go_simp
        with_reducible rfl
      rotate_left
      · simp only [Act.put, lA, lB, lC, i64_w, i32_w]
        rfl
      refine pure_ (i := 8) (N := some 13) (v := ?_) (a' := ?_) #[bT, bT, bT, bT, bT, bT, bT, bT, bT, bF, bF, bF, bF, bF, bF, bF, bF, bF, bF, bF, bF, bF, bF, bF, bF, bF, bF, bF, bF, bF, bF, bF, bF] rfl rfl (by kernel_rfl) (fun _ _ _ h => h) (Or.inl ⟨by rfl, ?_⟩) ?_ ?_
      rotate_left
      · intro w'
        go_simp
        with_reducible rfl
      rotate_left
      · simp only [Act.put, lA, lB, lC, i64_w, i32_w]
        rfl
      refine one_ (i := 9) (N := some 14) #[bT, bT, bT, bT, bT, bT, bT, bT, bT, bT, bF, bF, bF, bF, bF, bF, bF, bF, bF, bF, bF, bF, bF, bF, bF, bF, bF, bF, bF, bF, bF, bF, bF] rfl rfl (by kernel_rfl) (by decide) (fun K hK => ?_)
      refine goes_ Tryz.func58 (by kernel_rfl) rfl #[.int .i64 tj, .int .i64 0, .int .i64 ((bs.length : Int) - 1)] (by rfl) rfl rfl (by (try simp only [List.map_toArray, List.map_cons, List.map_nil]); first | done | rfl) ?_
      refine (within_calls tj 0 ((bs.length : Int) - 1) _).mono ?_
      rw [← HI.out]
      rintro e w3 ⟨rfl, ⟨nq, rfl⟩⟩
      refine ⟨_, rfl, ?_⟩
      have BK3 := Aside0.mk (blk_drewN BK2.out nq)
      have HB3 := Aside0.mk (pw_below_drewN HB2.out nq)
      refine hK.out _ _ ⟨(blk_cell BK3.out 0).trans rfl, (blk_cell BK3.out 1).trans rfl, VC.out _ _ V1.out _ HB3.out, VC.out _ _ X0.out _ HB3.out⟩ (fun hHeld => ?_)
      clear hK K
      refine norm_ (a' := ?_) ?_ ?_
      rotate_left
      · show Act.put _ (some 14) _ = _
        simp only [Act.put, lA, lB, lC, i64_w, i32_w]
        rfl
      refine pure_ (i := 10) (N := some 15) (v := ?_) (a' := ?_) #[bT, bT, bT, bT, bT, bT, bT, bT, bT, bT, bT, bF, bF, bF, bF, bF, bF, bF, bF, bF, bF, bF, bF, bF, bF, bF, bF, bF, bF, bF, bF, bF, bF] rfl rfl (by kernel_rfl) (fun _ _ _ h => h) (Or.inl ⟨by rfl, ?_⟩) ?_ ?_
      rotate_left
      · intro w'
        go_simp
        with_reducible rfl
      rotate_left
      · simp only [Act.put, lA, lB, lC, i64_w, i32_w]
        rfl
      refine pure_ (i := 11) (N := some 16) (v := ?_) (a' := ?_) #[bT, bT, bT, bT, bT, bT, bT, bT, bT, bT, bT, bT, bF, bF, bF, bF, bF, bF, bF, bF, bF, bF, bF, bF, bF, bF, bF, bF, bF, bF, bF, bF, bF] rfl rfl (by kernel_rfl) (fun _ _ _ h => h) (Or.inl ⟨by rfl, ?_⟩) ?_ ?_
      rotate_left
      · intro w'
        go_simp
        with_reducible rfl
      rotate_left
      · simp only [Act.put, lA, lB, lC, i64_w, i32_w]
        rfl
      refine take_ (i := 12) (N := some 17) (v := ?_) (a' := ?_) #[bT, bT, bT, bT, bT, bT, bT, bT, bT, bT, bT, bT, bT, bF, bF, bF, bF, bF, bF, bF, bF, bF, bF, bF, bF, bF, bF, bF, bF, bF, bF, bF, bF] rfl rfl (by kernel_rfl) (fun _ _ _ h => h) (Or.inl ⟨by rfl, ?_⟩) hHeld ?_ ?_
      rotate_left
      · rintro w' ⟨s0, s1, s2, s3⟩
        go_simp
        with_reducible rfl
      rotate_left
      · simp only [Act.put, lA, lB, lC, i64_w, i32_w]
        rfl
      refine pure_ (i := 13) (N := some 18) (v := ?_) (a' := ?_) #[bT, bT, bT, bT, bT, bT, bT, bT, bT, bT, bT, bT, bT, bT, bF, bF, bF, bF, bF, bF, bF, bF, bF, bF, bF, bF, bF, bF, bF, bF, bF, bF, bF] rfl rfl (by kernel_rfl) (fun _ _ _ h => h) (Or.inl ⟨by rfl, ?_⟩) ?_ ?_
      rotate_left
      · intro w'
        go_simp
        with_reducible rfl
      rotate_left
      · simp only [Act.put, lA, lB, lC, i64_w, i32_w]
        rfl
      refine pure_ (i := 14) (N := some 19) (v := ?_) (a' := ?_) #[bT, bT, bT, bT, bT, bT, bT, bT, bT, bT, bT, bT, bT, bT, bT, bF, bF, bF, bF, bF, bF, bF, bF, bF, bF, bF, bF, bF, bF, bF, bF, bF, bF] rfl rfl (by kernel_rfl) (fun _ _ _ h => h) (Or.inl ⟨by rfl, ?_⟩) ?_ ?_
      rotate_left
      · intro w'
        go_simp
        with_reducible rfl
      rotate_left
      · simp only [Act.put, lA, lB, lC, i64_w, i32_w]
        rfl
      refine pure_ (i := 15) (N := some 20) (v := ?_) (a' := ?_) #[bT, bT, bT, bT, bT, bT, bT, bT, bT, bT, bT, bT, bT, bT, bT, bT, bF, bF, bF, bF, bF, bF, bF, bF, bF, bF, bF, bF, bF, bF, bF, bF, bF] rfl rfl (by kernel_rfl) (fun _ _ _ h => h) (Or.inl ⟨by rfl, ?_⟩) ?_ ?_
      rotate_left
      · intro w'
        go_simp
        with_reducible rfl
      rotate_left
      · simp only [Act.put, lA, lB, lC, i64_w, i32_w]
        rfl
      refine pure_ (i := 16) (N := some 21) (v := ?_) (a' := ?_) #[bT, bT, bT, bT, bT, bT, bT, bT, bT, bT, bT, bT, bT, bT, bT, bT, bT, bF, bF, bF, bF, bF, bF, bF, bF, bF, bF, bF, bF, bF, bF, bF, bF] rfl rfl (by kernel_rfl) (fun _ _ _ h => h) (Or.inl ⟨by rfl, ?_⟩) ?_ ?_
      rotate_left
      · intro w'
        go_simp
        with_reducible rfl
      rotate_left
      · simp only [Act.put, lA, lB, lC, i64_w, i32_w]
        rfl
      refine pure_ (i := 17) (N := some 22) (v := ?_) (a' := ?_) #[bT, bT, bT, bT, bT, bT, bT, bT, bT, bT, bT, bT, bT, bT, bT, bT, bT, bT, bF, bF, bF, bF, bF, bF, bF, bF, bF, bF, bF, bF, bF, bF, bF] rfl rfl (by kernel_rfl) (fun _ _ _ h => h) (Or.inl ⟨by rfl, ?_⟩) ?_ ?_
      rotate_left
      · intro w'
        go_simp
        with_reducible rfl
      rotate_left
      · simp only [Act.put, lA, lB, lC, i64_w, i32_w]
        rfl
      refine take_ (i := 18) (N := some 23) (v := ?_) (a' := ?_) #[bT, bT, bT, bT, bT, bT, bT, bT, bT, bT, bT, bT, bT, bT, bT, bT, bT, bT, bT, bF, bF, bF, bF, bF, bF, bF, bF, bF, bF, bF, bF, bF, bF] rfl rfl (by kernel_rfl) (fun _ _ _ h => h) (Or.inl ⟨by rfl, ?_⟩) hHeld ?_ ?_
      rotate_left
      · rintro w' ⟨s0, s1, s2, s3⟩
        go_simp
        with_reducible rfl
      rotate_left
      · simp only [Act.put, lA, lB, lC, i64_w, i32_w]
        rfl
      refine pure_ (i := 19) (N := some 24) (v := ?_) (a' := ?_) #[bT, bT, bT, bT, bT, bT, bT, bT, bT, bT, bT, bT, bT, bT, bT, bT, bT, bT, bT, bT, bF, bF, bF, bF, bF, bF, bF, bF, bF, bF, bF, bF, bF] rfl rfl (by kernel_rfl) (fun _ _ _ h => h) (Or.inl ⟨by rfl, ?_⟩) ?_ ?_
      rotate_left
      · intro w'
        go_simp
        with_reducible rfl
      rotate_left
      · simp only [Act.put, lA, lB, lC, i64_w, i32_w]
        rfl
      refine take_ (i := 20) (N := some 25) (v := ?_) (a' := ?_) #[bT, bT, bT, bT, bT, bT, bT, bT, bT, bT, bT, bT, bT, bT, bT, bT, bT, bT, bT, bT, bT, bF, bF, bF, bF, bF, bF, bF, bF, bF, bF, bF, bF] rfl rfl (by kernel_rfl) (fun _ _ _ h => h) (Or.inl ⟨by rfl, ?_⟩) hHeld ?_ ?_
      rotate_left
      · rintro w' ⟨s0, s1, s2, s3⟩
        go_simp
        with_reducible rfl
      rotate_left
      · simp only [Act.put, lA, lB, lC, i64_w, i32_w]
        rfl
      refine pure_ (i := 21) (N := some 26) (v := ?_) (a' := ?_) #[bT, bT, bT, bT, bT, bT, bT, bT, bT, bT, bT, bT, bT, bT, bT, bT, bT, bT, bT, bT, bT, bT, bF, bF, bF, bF, bF, bF, bF, bF, bF, bF, bF] rfl rfl (by kernel_rfl) (fun _ _ _ h => h) (Or.inl ⟨by rfl, ?_⟩) ?_ ?_
      rotate_left
      · intro w'
        go_simp
        with_reducible rfl
      rotate_left
      · simp only [Act.put, lA, lB, lC, i64_w, i32_w]
        rfl
      refine pure_ (i := 22) (N := some 27) (v := ?_) (a' := ?_) #[bT, bT, bT, bT, bT, bT, bT, bT, bT, bT, bT, bT, bT, bT, bT, bT, bT, bT, bT, bT, bT, bT, bT, bF, bF, bF, bF, bF, bF, bF, bF, bF, bF] rfl rfl (by kernel_rfl) (fun _ _ _ h => h) (Or.inl ⟨by rfl, ?_⟩) ?_ ?_
      rotate_left
      · intro w'
        go_simp
        with_reducible rfl
      rotate_left
      · simp only [Act.put, lA, lB, lC, i64_w, i32_w]
        rfl
      refine take_ (i := 23) (N := some 28) (v := ?_) (a' := ?_) #[bT, bT, bT, bT, bT, bT, bT, bT, bT, bT, bT, bT, bT, bT, bT, bT, bT, bT, bT, bT, bT, bT, bT, bT, bF, bF, bF, bF, bF, bF, bF, bF, bF] rfl rfl (by kernel_rfl) (fun _ _ _ h => h) (Or.inl ⟨by rfl, ?_⟩) hHeld ?_ ?_
      rotate_left
      · rintro w' ⟨s0, s1, s2, s3⟩
        go_simp
        with_reducible rfl
      rotate_left
      · simp only [Act.put, lA, lB, lC, i64_w, i32_w]
        rfl
      refine pure_ (i := 24) (N := some 29) (v := ?_) (a' := ?_) #[bT, bT, bT, bT, bT, bT, bT, bT, bT, bT, bT, bT, bT, bT, bT, bT, bT, bT, bT, bT, bT, bT, bT, bT, bT, bF, bF, bF, bF, bF, bF, bF, bF] rfl rfl (by kernel_rfl) (fun _ _ _ h => h) (Or.inl ⟨by rfl, ?_⟩) ?_ ?_
      rotate_left
      · intro w'
        go_simp
        with_reducible rfl
      rotate_left
      · simp only [Act.put, lA, lB, lC, i64_w, i32_w]
        rfl
      refine pure_ (i := 25) (N := some 30) (v := ?_) (a' := ?_) #[bT, bT, bT, bT, bT, bT, bT, bT, bT, bT, bT, bT, bT, bT, bT, bT, bT, bT, bT, bT, bT, bT, bT, bT, bT, bT, bF, bF, bF, bF, bF, bF, bF] rfl rfl (by kernel_rfl) (fun _ _ _ h => h) (Or.inl ⟨by rfl, ?_⟩) ?_ ?_
      rotate_left
      · intro w'
        go_simp
        with_reducible rfl
      rotate_left
      · simp only [Act.put, lA, lB, lC, i64_w, i32_w]
        rfl
      refine pure_ (i := 26) (N := some 31) (v := ?_) (a' := ?_) #[bT, bT, bT, bT, bT, bT, bT, bT, bT, bT, bT, bT, bT, bT, bT, bT, bT, bT, bT, bT, bT, bT, bT, bT, bT, bT, bT, bF, bF, bF, bF, bF, bF] rfl rfl (by kernel_rfl) (fun _ _ _ h => h) (Or.inl ⟨by rfl, ?_⟩) ?_ ?_
      rotate_left
      · intro w'
        go_simp
        with_reducible rfl
      rotate_left
      · simp only [Act.put, lA, lB, lC, i64_w, i32_w]
        rfl
      refine pure_ (i := 27) (N := some 32) (v := undef) (a' := ?_) #[bT, bT, bT, bT, bT, bT, bT, bT, bT, bT, bT, bT, bT, bT, bT, bT, bT, bT, bT, bT, bT, bT, bT, bT, bT, bT, bT, bT, bF, bF, bF, bF, bF] rfl rfl (by kernel_rfl) (fun _ _ _ h => h) (Or.inr ⟨by rfl, rfl⟩) ?_ ?_
      rotate_left
      · simp only [Act.put, lA, lB, lC, i64_w, i32_w]
        rfl
      refine pure_ (i := 28) (N := some 33) (v := undef) (a' := ?_) #[bT, bT, bT, bT, bT, bT, bT, bT, bT, bT, bT, bT, bT, bT, bT, bT, bT, bT, bT, bT, bT, bT, bT, bT, bT, bT, bT, bT, bT, bF, bF, bF, bF] rfl rfl (by kernel_rfl) (fun _ _ _ h => h) (Or.inr ⟨by rfl, rfl⟩) ?_ ?_
      rotate_left
      · simp only [Act.put, lA, lB, lC, i64_w, i32_w]
        rfl
      refine pure_ (i := 29) (N := some 34) (v := undef) (a' := ?_) #[bT, bT, bT, bT, bT, bT, bT, bT, bT, bT, bT, bT, bT, bT, bT, bT, bT, bT, bT, bT, bT, bT, bT, bT, bT, bT, bT, bT, bT, bT, bF, bF, bF] rfl rfl (by kernel_rfl) (fun _ _ _ h => h) (Or.inr ⟨by rfl, rfl⟩) ?_ ?_
      rotate_left
      · simp only [Act.put, lA, lB, lC, i64_w, i32_w]
        rfl
      refine pure_ (i := 30) (N := some 35) (v := undef) (a' := ?_) #[bT, bT, bT, bT, bT, bT, bT, bT, bT, bT, bT, bT, bT, bT, bT, bT, bT, bT, bT, bT, bT, bT, bT, bT, bT, bT, bT, bT, bT, bT, bT, bF, bF] rfl rfl (by kernel_rfl) (fun _ _ _ h => h) (Or.inr ⟨by rfl, rfl⟩) ?_ ?_
      rotate_left
      · simp only [Act.put, lA, lB, lC, i64_w, i32_w]
        rfl
      refine pure_ (i := 31) (N := some 36) (v := ?_) (a' := ?_) #[bT, bT, bT, bT, bT, bT, bT, bT, bT, bT, bT, bT, bT, bT, bT, bT, bT, bT, bT, bT, bT, bT, bT, bT, bT, bT, bT, bT, bT, bT, bT, bT, bF] rfl rfl (by kernel_rfl) (fun _ _ _ h => h) (Or.inl ⟨by rfl, ?_⟩) ?_ ?_
      rotate_left
      · intro w'
        go_simp
        with_reducible rfl
      rotate_left
      · simp only [Act.put, lA, lB, lC, i64_w, i32_w]
        rfl
      refine pure_ (i := 32) (N := some 4) (v := ?_) (a' := ?_) #[bT, bT, bT, bT, bT, bT, bT, bT, bT, bT, bT, bT, bT, bT, bT, bT, bT, bT, bT, bT, bT, bT, bT, bT, bT, bT, bT, bT, bT, bT, bT, bT, bT] rfl rfl (by kernel_rfl) (fun _ _ _ h => h) (Or.inl ⟨by rfl, ?_⟩) ?_ ?_
      rotate_left
      · intro w'
        go_simp
        with_reducible rfl
      rotate_left
      · simp only [Act.put, lA, lB, lC, i64_w, i32_w]
        rfl
      refine done_ (by kernel_rfl) ?_
      clear i0
      go_wp2
      go_ret
      exact ⟨by first | rfl | simp, HB3.out⟩
    ·
      go_enter Tryz.func66, Tryz.ntmps66
      go_wp2_with (first
        | ((with_reducible refine gate_dst (N := 3) rfl ?_); refine box_event ?hg (N := 3) ?hd (cs := #[.int .i64 tj, .slice A l.length c]) (t := 61) ?hr ?_; (case hd => rfl); (case hg => rfl); (case hr => first | (go_simp; done) | (go_simp; rfl)); intro b hg w1 hbox hb; have BK1 := Aside0.mk hbox; have HB1 := Aside0.mk hb; clear hb hbox hg))
      have BK2 := Aside0.mk (blk_drew BK1.out)
      have HB2 := Aside0.mk (below_drew HB1.out)
      refine start_ (n := 33) (S := fun w' => w'.cell? ⟨b, 0, none⟩ = some (.int .i64 tj) ∧ w'.cell? ⟨b, 1, none⟩ = some (.slice A l.length c) ∧ w'.cell? ⟨g, 1, none⟩ = some (.slice (some ad) bs.length cb) ∧ w'.cell? (ad.add (tj.toNat * 5)) = some (.int .i64 q)) (ds := []) #[bF, bF, bF, bF, bF, bF, bF, bF, bF, bF, bF, bF, bF, bF, bF, bF, bF, bF, bF, bF, bF, bF, bF, bF, bF, bF, bF, bF, bF, bF, bF, bF, bF] (by kernel_rfl) rfl rfl ⟨(blk_cell BK2.out 0).trans rfl, (blk_cell BK2.out 1).trans rfl, VC.out _ _ V1.out _ HB2.out, VC.out _ _ X0.out _ HB2.out⟩ (fun hHeld => ?_)
      generalize w1.drew = w2 at BK2 HB2 hHeld ⊢
      refine pure_ (i := 0) (N := some 5) (v := ?_) (a' := ?_) #[bT, bF, bF, bF, bF, bF, bF, bF, bF, bF, bF, bF, bF, bF, bF, bF, bF, bF, bF, bF, bF, bF, bF, bF, bF, bF, bF, bF, bF, bF, bF, bF, bF] rfl rfl (by kernel_rfl) (fun _ _ _ h => h) (Or.inl ⟨by rfl, ?_⟩) ?_ ?_
      rotate_left
      · intro w'
        go_simp
        with_reducible rfl
      rotate_left
      · simp only [Act.put, lA, lB, lC, i64_w, i32_w]
        rfl
      refine take_ (i := 1) (N := some 6) (v := ?_) (a' := ?_) #[bT, bT, bF, bF, bF, bF, bF, bF, bF, bF, bF, bF, bF, bF, bF, bF, bF, bF, bF, bF, bF, bF, bF, bF, bF, bF, bF, bF, bF, bF, bF, bF, bF] rfl rfl (by kernel_rfl) (fun _ _ _ h => h) (Or.inl ⟨by rfl, ?_⟩) hHeld ?_ ?_
      rotate_left
      · rintro w' ⟨s0, s1, s2, s3⟩
        go_simp
        with_reducible rfl
      rotate_left
      · simp only [Act.put, lA, lB, lC, i64_w, i32_w]
        rfl
      refine pure_ (i := 2) (N := some 7) (v := ?_) (a' := ?_) #[bT, bT, bT, bF, bF, bF, bF, bF, bF, bF, bF, bF, bF, bF, bF, bF, bF, bF, bF, bF, bF, bF, bF, bF, bF, bF, bF, bF, bF, bF, bF, bF, bF] rfl rfl (by kernel_rfl) (fun _ _ _ h => h) (Or.inl ⟨by rfl, ?_⟩) ?_ ?_
      rotate_left
      · intro w'
        go_simp
        with_reducible rfl
      rotate_left
      · simp only [Act.put, lA, lB, lC, i64_w, i32_w]
        rfl
      refine pure_ (i := 3) (N := some 8) (v := ?_) (a' := ?_) #[bT, bT, bT, bT, bF, bF, bF, bF, bF, bF, bF, bF, bF, bF, bF, bF, bF, bF, bF, bF, bF, bF, bF, bF, bF, bF, bF, bF, bF, bF, bF, bF, bF] rfl rfl (by kernel_rfl) (fun _ _ _ h => h) (Or.inl ⟨by rfl, ?_⟩) ?_ ?_
      rotate_left
      · intro w'
        go_simp
        with_reducible rfl
      rotate_left
      · simp only [Act.put, lA, lB, lC, i64_w, i32_w]
        rfl
      refine pure_ (i := 4) (N := some 9) (v := ?_) (a' := ?_) #[bT, bT, bT, bT, bT, bF, bF, bF, bF, bF, bF, bF, bF, bF, bF, bF, bF, bF, bF, bF, bF, bF, bF, bF, bF, bF, bF, bF, bF, bF, bF, bF, bF] rfl rfl (by kernel_rfl) (fun _ _ _ h => h) (Or.inl ⟨by rfl, ?_⟩) ?_ ?_
      rotate_left
      · intro w'
        go_simp
        with_reducible rfl
      rotate_left
      · simp only [Act.put, lA, lB, lC, i64_w, i32_w]
        rfl
      refine pure_ (i := 5) (N := some 10) (v := ?_) (a' := ?_) #[bT, bT, bT, bT, bT, bT, bF, bF, bF, bF, bF, bF, bF, bF, bF, bF, bF, bF, bF, bF, bF, bF, bF, bF, bF, bF, bF, bF, bF, bF, bF, bF, bF] rfl rfl (by kernel_rfl) (fun _ _ _ h => h) (Or.inl ⟨by rfl, ?_⟩) ?_ ?_
      rotate_left
      · intro w'
        go_simp
        with_reducible rfl
      rotate_left
      · simp only [Act.put, lA, lB, lC, i64_w, i32_w]
        rfl
      refine take_ (i := 6) (N := some 11) (v := ?_) (a' := ?_) #[bT, bT, bT, bT, bT, bT, bT, bF, bF, bF, bF, bF, bF, bF, bF, bF, bF, bF, bF, bF, bF, bF, bF, bF, bF, bF, bF, bF, bF, bF, bF, bF, bF] rfl rfl (by kernel_rfl) (fun _ _ _ h => h) (Or.inl ⟨by rfl, ?_⟩) hHeld ?_ ?_
      rotate_left
      · rintro w' ⟨s0, s1, s2, s3⟩
        go_simp
        with_reducible rfl
      rotate_left
      · simp only [Act.put, lA, lB, lC, i64_w, i32_w]
        rfl
      refine pure_ (i := 7) (N := some 12) (v := ?_) (a' := ?_) #[bT, bT, bT, bT, bT, bT, bT, bT, bF, bF, bF, bF, bF, bF, bF, bF, bF, bF, bF, bF, bF, bF, bF, bF, bF, bF, bF, bF, bF, bF, bF, bF, bF] rfl rfl (by kernel_rfl) (fun _ _ _ h => h) (Or.inl ⟨by rfl, ?_⟩) ?_ ?_
      rotate_left
      · intro w'
        go_simp
        with_reducible rfl
      rotate_left
      · simp only [Act.put, lA, lB, lC, i64_w, i32_w]
        rfl
      refine pure_ (i := 8) (N := some 13) (v := ?_) (a' := ?_) #[bT, bT, bT, bT, bT, bT, bT, bT, bT, bF, bF, bF, bF, bF, bF, bF, bF, bF, bF, bF, bF, bF, bF, bF, bF, bF, bF, bF, bF, bF, bF, bF, bF] rfl rfl (by kernel_rfl) (fun _ _ _ h => h) (Or.inl ⟨by rfl, ?_⟩) ?_ ?_
      rotate_left
      · intro w'
        go_simp
        with_reducible rfl
      rotate_left
      · simp only [Act.put, lA, lB, lC, i64_w, i32_w]
        rfl
      refine one_ (i := 9) (N := some 14) #[bT, bT, bT, bT, bT, bT, bT, bT, bT, bT, bF, bF, bF, bF, bF, bF, bF, bF, bF, bF, bF, bF, bF, bF, bF, bF, bF, bF, bF, bF, bF, bF, bF] rfl rfl (by kernel_rfl) (by decide) (fun K hK => ?_)
      refine goes_ Tryz.func58 (by kernel_rfl) rfl #[.int .i64 tj, .int .i64 0, .int .i64 ((bs.length : Int) - 1)] (by rfl) rfl rfl (by (try simp only [List.map_toArray, List.map_cons, List.map_nil]); first | done | rfl) ?_
      refine (within_calls tj 0 ((bs.length : Int) - 1) _).mono ?_
      rw [← HI.out]
      rintro e w3 ⟨rfl, ⟨nq, rfl⟩⟩
      refine ⟨_, rfl, ?_⟩
      have BK3 := Aside0.mk (blk_drewN BK2.out nq)
      have HB3 := Aside0.mk (pw_below_drewN HB2.out nq)
      refine hK.out _ _ ⟨(blk_cell BK3.out 0).trans rfl, (blk_cell BK3.out 1).trans rfl, VC.out _ _ V1.out _ HB3.out, VC.out _ _ X0.out _ HB3.out⟩ (fun hHeld => ?_)
      clear hK K
      refine norm_ (a' := ?_) ?_ ?_
      rotate_left
      · show Act.put _ (some 14) _ = _
        simp only [Act.put, lA, lB, lC, i64_w, i32_w]
        rfl
      refine pure_ (i := 10) (N := some 15) (v := ?_) (a' := ?_) #[bT, bT, bT, bT, bT, bT, bT, bT, bT, bT, bT, bF, bF, bF, bF, bF, bF, bF, bF, bF, bF, bF, bF, bF, bF, bF, bF, bF, bF, bF, bF, bF, bF] rfl rfl (by kernel_rfl) (fun _ _ _ h => h) (Or.inl ⟨by rfl, ?_⟩) ?_ ?_
      rotate_left
      · intro w'
        go_simp
        with_reducible rfl
      rotate_left
      · simp only [Act.put, lA, lB, lC, i64_w, i32_w]
        rfl
      refine pure_ (i := 11) (N := some 16) (v := ?_) (a' := ?_) #[bT, bT, bT, bT, bT, bT, bT, bT, bT, bT, bT, bT, bF, bF, bF, bF, bF, bF, bF, bF, bF, bF, bF, bF, bF, bF, bF, bF, bF, bF, bF, bF, bF] rfl rfl (by kernel_rfl) (fun _ _ _ h => h) (Or.inl ⟨by rfl, ?_⟩) ?_ ?_
      rotate_left
      · intro w'
        go_simp
        with_reducible rfl
      rotate_left
      · simp only [Act.put, lA, lB, lC, i64_w, i32_w]
        rfl
      refine take_ (i := 12) (N := some 17) (v := ?_) (a' := ?_) #[bT, bT, bT, bT, bT, bT, bT, bT, bT, bT, bT, bT, bT, bF, bF, bF, bF, bF, bF, bF, bF, bF, bF, bF, bF, bF, bF, bF, bF, bF, bF, bF, bF] rfl rfl (by kernel_rfl) (fun _ _ _ h => h) (Or.inl ⟨by rfl, ?_⟩) hHeld ?_ ?_
      rotate_left
      · rintro w' ⟨s0, s1, s2, s3⟩
        go_simp
        with_reducible rfl
      rotate_left
      · simp only [Act.put, lA, lB, lC, i64_w, i32_w]
        rfl
      refine pure_ (i := 13) (N := some 18) (v := ?_) (a' := ?_) #[bT, bT, bT, bT, bT, bT, bT, bT, bT, bT, bT, bT, bT, bT, bF, bF, bF, bF, bF, bF, bF, bF, bF, bF, bF, bF, bF, bF, bF, bF, bF, bF, bF] rfl rfl (by kernel_rfl) (fun _ _ _ h => h) (Or.inl ⟨by rfl, ?_⟩) ?_ ?_
      rotate_left
      · intro w'
        go_simp
        with_reducible rfl
      rotate_left
      · simp only [Act.put, lA, lB, lC, i64_w, i32_w]
        rfl
      refine pure_ (i := 14) (N := some 19) (v := ?_) (a' := ?_) #[bT, bT, bT, bT, bT, bT, bT, bT, bT, bT, bT, bT, bT, bT, bT, bF, bF, bF, bF, bF, bF, bF, bF, bF, bF, bF, bF, bF, bF, bF, bF, bF, bF] rfl rfl (by kernel_rfl) (fun _ _ _ h => h) (Or.inl ⟨by rfl, ?_⟩) ?_ ?_
      rotate_left
      · intro w'
        go_simp
        with_reducible rfl
      rotate_left
      · simp only [Act.put, lA, lB, lC, i64_w, i32_w]
        rfl
      refine pure_ (i := 15) (N := some 20) (v := ?_) (a' := ?_) #[bT, bT, bT, bT, bT, bT, bT, bT, bT, bT, bT, bT, bT, bT, bT, bT, bF, bF, bF, bF, bF, bF, bF, bF, bF, bF, bF, bF, bF, bF, bF, bF, bF] rfl rfl (by kernel_rfl) (fun _ _ _ h => h) (Or.inl ⟨by rfl, ?_⟩) ?_ ?_
      rotate_left
      · intro w'
        go_simp
        with_reducible rfl
      rotate_left
      · simp only [Act.put, lA, lB, lC, i64_w, i32_w]
        rfl
      refine pure_ (i := 16) (N := some 21) (v := ?_) (a' := ?_) #[bT, bT, bT, bT, bT, bT, bT, bT, bT, bT, bT, bT, bT, bT, bT, bT, bT, bF, bF, bF, bF, bF, bF, bF, bF, bF, bF, bF, bF, bF, bF, bF, bF] rfl rfl (by kernel_rfl) (fun _ _ _ h => h) (Or.inl ⟨by rfl, ?_⟩) ?_ ?_
      rotate_left
      · intro w'
        go_simp
        with_reducible rfl
      rotate_left
      · simp only [Act.put, lA, lB, lC, i64_w, i32_w]
        rfl
      refine pure_ (i := 17) (N := some 22) (v := ?_) (a' := ?_) #[bT, bT, bT, bT, bT, bT, bT, bT, bT, bT, bT, bT, bT, bT, bT, bT, bT, bT, bF, bF, bF, bF, bF, bF, bF, bF, bF, bF, bF, bF, bF, bF, bF] rfl rfl (by kernel_rfl) (fun _ _ _ h => h) (Or.inl ⟨by rfl, ?_⟩) ?_ ?_
      rotate_left
      · intro w'
        go_simp
        with_reducible rfl
      rotate_left
      · simp only [Act.put, lA, lB, lC, i64_w, i32_w]
        rfl
      refine take_ (i := 18) (N := some 23) (v := ?_) (a' := ?_) #[bT, bT, bT, bT, bT, bT, bT, bT, bT, bT, bT, bT, bT, bT, bT, bT, bT, bT, bT, bF, bF, bF, bF, bF, bF, bF, bF, bF, bF, bF, bF, bF, bF] rfl rfl (by kernel_rfl) (fun _ _ _ h => h) (Or.inl ⟨by rfl, ?_⟩) hHeld ?_ ?_
      rotate_left
      · rintro w' ⟨s0, s1, s2, s3⟩
        go_simp
        with_reducible rfl
      rotate_left
      · simp only [Act.put, lA, lB, lC, i64_w, i32_w]
        rfl
      refine pure_ (i := 19) (N := some 24) (v := ?_) (a' := ?_) #[bT, bT, bT, bT, bT, bT, bT, bT, bT, bT, bT, bT, bT, bT, bT, bT, bT, bT, bT, bT, bF, bF, bF, bF, bF, bF, bF, bF, bF, bF, bF, bF, bF] rfl rfl (by kernel_rfl) (fun _ _ _ h => h) (Or.inl ⟨by rfl, ?_⟩) ?_ ?_
      rotate_left
      · intro w'
        go_simp
        with_reducible rfl
      rotate_left
      · simp only [Act.put, lA, lB, lC, i64_w, i32_w]
        rfl
      refine take_ (i := 20) (N := some 25) (v := ?_) (a' := ?_) #[bT, bT, bT, bT, bT, bT, bT, bT, bT, bT, bT, bT, bT, bT, bT, bT, bT, bT, bT, bT, bT, bF, bF, bF, bF, bF, bF, bF, bF, bF, bF, bF, bF] rfl rfl (by kernel_rfl) (fun _ _ _ h => h) (Or.inl ⟨by rfl, ?_⟩) hHeld ?_ ?_
      rotate_left
      · rintro w' ⟨s0, s1, s2, s3⟩
        go_simp
        with_reducible rfl
      rotate_left
      · simp only [Act.put, lA, lB, lC, i64_w, i32_w]
        rfl
      refine pure_ (i := 21) (N := some 26) (v := ?_) (a' := ?_) #[bT, bT, bT, bT, bT, bT, bT, bT, bT, bT, bT, bT, bT, bT, bT, bT, bT, bT, bT, bT, bT, bT, bF, bF, bF, bF, bF, bF, bF, bF, bF, bF, bF] rfl rfl (by kernel_rfl) (fun _ _ _ h => h) (Or.inl ⟨by rfl, ?_⟩) ?_ ?_
      rotate_left
      · intro w'
        go_simp
        with_reducible rfl
      rotate_left
      · simp only [Act.put, lA, lB, lC, i64_w, i32_w]
        rfl
      refine pure_ (i := 22) (N := some 27) (v := ?_) (a' := ?_) #[bT, bT, bT, bT, bT, bT, bT, bT, bT, bT, bT, bT, bT, bT, bT, bT, bT, bT, bT, bT, bT, bT, bT, bF, bF, bF, bF, bF, bF, bF, bF, bF, bF] rfl rfl (by kernel_rfl) (fun _ _ _ h => h) (Or.inl ⟨by rfl, ?_⟩) ?_ ?_
      rotate_left
      · intro w'
        go_simp
        with_reducible rfl
      rotate_left
      · simp only [Act.put, lA, lB, lC, i64_w, i32_w]
        rfl
      refine take_ (i := 23) (N := some 28) (v := ?_) (a' := ?_) #[bT, bT, bT, bT, bT, bT, bT, bT, bT, bT, bT, bT, bT, bT, bT, bT, bT, bT, bT, bT, bT, bT, bT, bT, bF, bF, bF, bF, bF, bF, bF, bF, bF] rfl rfl (by kernel_rfl) (fun _ _ _ h => h) (Or.inl ⟨by rfl, ?_⟩) hHeld ?_ ?_
      rotate_left
      · rintro w' ⟨s0, s1, s2, s3⟩
        go_simp
        with_reducible rfl
      rotate_left
      · simp only [Act.put, lA, lB, lC, i64_w, i32_w]
        rfl
      refine pure_ (i := 24) (N := some 29) (v := ?_) (a' := ?_) #[bT, bT, bT, bT, bT, bT, bT, bT, bT, bT, bT, bT, bT, bT, bT, bT, bT, bT, bT, bT, bT, bT, bT, bT, bT, bF, bF, bF, bF, bF, bF, bF, bF] rfl rfl (by kernel_rfl) (fun _ _ _ h => h) (Or.inl ⟨by rfl, ?_⟩) ?_ ?_
      rotate_left
      · intro w'
        go_simp
        with_reducible rfl
      rotate_left
      · simp only [Act.put, lA, lB, lC, i64_w, i32_w]
        rfl
      refine pure_ (i := 25) (N := some 30) (v := ?_) (a' := ?_) #[bT, bT, bT, bT, bT, bT, bT, bT, bT, bT, bT, bT, bT, bT, bT, bT, bT, bT, bT, bT, bT, bT, bT, bT, bT, bT, bF, bF, bF, bF, bF, bF, bF] rfl rfl (by kernel_rfl) (fun _ _ _ h => h) (Or.inl ⟨by rfl, ?_⟩) ?_ ?_
      rotate_left
      · intro w'
        go_simp
        with_reducible rfl
      rotate_left
      · simp only [Act.put, lA, lB, lC, i64_w, i32_w]
        rfl
      refine pure_ (i := 26) (N := some 31) (v := ?_) (a' := ?_) #[bT, bT, bT, bT, bT, bT, bT, bT, bT, bT, bT, bT, bT, bT, bT, bT, bT, bT, bT, bT, bT, bT, bT, bT, bT, bT, bT, bF, bF, bF, bF, bF, bF] rfl rfl (by kernel_rfl) (fun _ _ _ h => h) (Or.inl ⟨by rfl, ?_⟩) ?_ ?_
      rotate_left
      · intro w'
        go_simp
        with_reducible rfl
      rotate_left
      · simp only [Act.put, lA, lB, lC, i64_w, i32_w]
        rfl
      refine pure_ (i := 27) (N := some 32) (v := ?_) (a' := ?_) #[bT, bT, bT, bT, bT, bT, bT, bT, bT, bT, bT, bT, bT, bT, bT, bT, bT, bT, bT, bT, bT, bT, bT, bT, bT, bT, bT, bT, bF, bF, bF, bF, bF] rfl rfl (by kernel_rfl) (fun _ _ _ h => h) (Or.inl ⟨by rfl, ?_⟩) ?_ ?_
      rotate_left
      · intro w'
        go_simp
        with_reducible rfl
      rotate_left
      · simp only [Act.put, lA, lB, lC, i64_w, i32_w]
        rfl
      refine pure_ (i := 28) (N := some 33) (v := ?_) (a' := ?_) #[bT, bT, bT, bT, bT, bT, bT, bT, bT, bT, bT, bT, bT, bT, bT, bT, bT, bT, bT, bT, bT, bT, bT, bT, bT, bT, bT, bT, bT, bF, bF, bF, bF] rfl rfl (by kernel_rfl) (fun _ _ _ h => h) (Or.inl ⟨by rfl, ?_⟩) ?_ ?_
      rotate_left
      · intro w'
        go_simp
        with_reducible rfl
      rotate_left
      · simp only [Act.put, lA, lB, lC, i64_w, i32_w]
        rfl
      refine take_ (i := 29) (N := some 34) (v := ?_) (a' := ?_) #[bT, bT, bT, bT, bT, bT, bT, bT, bT, bT, bT, bT, bT, bT, bT, bT, bT, bT, bT, bT, bT, bT, bT, bT, bT, bT, bT, bT, bT, bT, bF, bF, bF] rfl rfl (by kernel_rfl) (fun _ _ _ h => h) (Or.inl ⟨by rfl, ?_⟩) hHeld ?_ ?_
      rotate_left
      · rintro w' ⟨s0, s1, s2, s3⟩
        go_simp
        with_reducible rfl
      rotate_left
      · simp only [Act.put, lA, lB, lC, i64_w, i32_w]
        rfl
      refine one_ (i := 30) (N := some 35) #[bT, bT, bT, bT, bT, bT, bT, bT, bT, bT, bT, bT, bT, bT, bT, bT, bT, bT, bT, bT, bT, bT, bT, bT, bT, bT, bT, bT, bT, bT, bT, bF, bF] rfl rfl (by kernel_rfl) (by decide) (fun K hK => ?_)
      refine goes_ Tryz.func67 (by kernel_rfl) rfl #[ptr g, .slice A l.length c] (by rfl) rfl rfl (by (try simp only [List.map_toArray, List.map_cons, List.map_nil]); first | done | rfl) ?_
      refine (valuesOK_calls g p bs fi bl tot A c l _ ht (HV.out.below HB3.out) (Kd.C_below HR.out HB3.out)).mono ?_
      rw [← HO.out]
      rintro e w4 ⟨rfl, hb⟩
      refine ⟨_, rfl, ?_⟩
      have BK4 := Aside0.mk (blk_below BK3.out hb)
      have HB4 := Aside0.mk (below_then HB3.out HB3.out.size hb)
      clear hb
      refine hK.out _ _ ⟨(blk_cell BK4.out 0).trans rfl, (blk_cell BK4.out 1).trans rfl, VC.out _ _ V1.out _ HB4.out, VC.out _ _ X0.out _ HB4.out⟩ (fun hHeld => ?_)
      clear hK K
      refine norm_ (a' := ?_) ?_ ?_
      rotate_left
      · show Act.put _ (some 35) _ = _
        simp only [Act.put, lA, lB, lC, i64_w, i32_w]
        rfl
      refine pure_ (i := 31) (N := some 36) (v := ?_) (a' := ?_) #[bT, bT, bT, bT, bT, bT, bT, bT, bT, bT, bT, bT, bT, bT, bT, bT, bT, bT, bT, bT, bT, bT, bT, bT, bT, bT, bT, bT, bT, bT, bT, bT, bF] rfl rfl (by kernel_rfl) (fun _ _ _ h => h) (Or.inl ⟨by rfl, ?_⟩) ?_ ?_
      rotate_left
      · intro w'
        go_simp
        with_reducible rfl
      rotate_left
      · simp only [Act.put, lA, lB, lC, i64_w, i32_w]
        rfl
      refine pure_ (i := 32) (N := some 4) (v := ?_) (a' := ?_) #[bT, bT, bT, bT, bT, bT, bT, bT, bT, bT, bT, bT, bT, bT, bT, bT, bT, bT, bT, bT, bT, bT, bT, bT, bT, bT, bT, bT, bT, bT, bT, bT, bT] rfl rfl (by kernel_rfl) (fun _ _ _ h => h) (Or.inl ⟨by rfl, ?_⟩) ?_ ?_
      rotate_left
      · intro w'
        go_simp
        with_reducible rfl
      rotate_left
      · simp only [Act.put, lA, lB, lC, i64_w, i32_w]
        rfl
      refine done_ (by kernel_rfl) ?_
      clear i0
      go_wp2
      go_ret
      exact ⟨by first | rfl | simp, HB4.out⟩
end Go.Proofs.YtjpkcbkkjefekaaGreatDoor.V
