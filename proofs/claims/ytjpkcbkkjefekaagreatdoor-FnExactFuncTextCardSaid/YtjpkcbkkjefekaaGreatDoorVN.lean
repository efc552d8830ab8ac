/- A part of the session's texts, laid small by the session's shrink.py. -/
import Derived.Test.YtjpkcbkkjefekaaGreatDoorV4
import Derived.Test.YtjpkcbkkjefekaaGreatDoorVR
import Derived.Test.YtjpkcbkkjefekaaGreatDoorVH
namespace Go.Proofs.YtjpkcbkkjefekaaGreatDoor.V
open Go.RowKit Go.Proofs.YtjpkcbkkjefekaaGreatDoorW.PrintWords Go.Proofs.YtjpkcbkkjefekaaGreatDoorW.PrintLast Go.Proofs.YtjpkcbkkjefekaaGreatDoorW.PrintMore
open Go.Proofs.YtjpkcbkkjefekaaGreatDoor.PA
set_option linter.unusedVariables false
set_option linter.unusedSimpArgs false
def cnt (b : S48) : Int := b.f0 + b.f1.length
def numFi : Int → List S48 → List Int
  | _, [] => []
  | t, b :: bs => t :: numFi (t + cnt b) bs
def numTot : Int → List S48 → Int
  | t, [] => t
  | t, b :: bs => numTot (t + cnt b) bs
def numBl : Int → List S48 → List Int
  | _, [] => []
  | k, b :: bs => List.replicate (cnt b).toNat k ++ numBl (k + 1) bs
def numPre (p : Int) (bs : List S48) : Bool := (decide (0 ≤ p) && decide (p ≤ 4)) && (decide (1 ≤ (bs.length : Int)) && decide ((bs.length : Int) ≤ 8)) && (rd_T48 bs 0).f0 == 0
def numOne (b : S48) : Bool := (decide (0 ≤ b.f0) && decide (b.f0 ≤ 4)) && decide ((b.f1.length : Int) ≤ 80)
def numOK (p : Int) (bs : List S48) : Bool := numPre p bs && bs.all numOne
def viewFi (p : Int) (bs : List S48) : List Int := numFi p bs
def viewBl (p : Int) (bs : List S48) : List Int := List.replicate p.toNat (-1) ++ numBl 0 bs
def NumPost (p : Int) (bs : List S48) (w : World) (e : Ending) (w' : World) : Prop :=
  (match numOK p bs with
    | false => e = .returned (.tuple #[.pointer none, .bool false])
    | true => ∃ g, e = .returned (.tuple #[ptr g, .bool (decide (numTot p bs ≤ 80))]) ∧ IsView w' g p bs (viewFi p bs) (viewBl p bs) (numTot p bs)) ∧ Below w.heap.size w w'
theorem drop_of {α : Type} {l : List α} {i : Nat} {x : α} (h : l[i]? = some x) : l.drop i = x :: l.drop (i + 1) := by
 obtain ⟨h1, h2⟩ := List.getElem?_eq_some_iff.1 h
 rw [List.drop_eq_getElem_cons h1, h2]
theorem numFi_step {bs : List S48} {i : Nat} {x : S48} (hx : bs[i]? = some x) {tot : Int} {cn : Nat} (hc : x.f0 + (x.f1.length : Int) = cn) {fi V : List Int} (h : fi ++ numFi tot (bs.drop i) = V) : (fi ++ [tot]) ++ numFi (tot + (cn : Int)) (bs.drop (i + 1)) = V := by
 rw [drop_of hx] at h
 rw [← h, ← hc]
 simp [numFi, cnt]
theorem numTot_step {bs : List S48} {i : Nat} {x : S48} (hx : bs[i]? = some x) {tot V : Int} {cn : Nat} (hc : x.f0 + (x.f1.length : Int) = cn) (h : numTot tot (bs.drop i) = V) : numTot (tot + (cn : Int)) (bs.drop (i + 1)) = V := by
 rw [drop_of hx] at h
 rw [← h, ← hc]
 rfl
theorem numBl_step {bs : List S48} {i : Nat} {x : S48} (hx : bs[i]? = some x) {cn : Nat} (hc : x.f0 + (x.f1.length : Int) = cn) {bl V : List Int} (h : bl ++ numBl (i : Int) (bs.drop i) = V) : (bl ++ List.replicate cn (i : Int)) ++ numBl ((i + 1 : Nat) : Int) (bs.drop (i + 1)) = V := by
 rw [drop_of hx] at h
 rw [← h]
 have : (cnt x).toNat = cn := by unfold cnt; rw [hc]; rfl
 simp [numBl, this]
theorem all_step {bs : List S48} {i : Nat} {x : S48} (hx : bs[i]? = some x) {f : S48 → Bool} (h : (bs.take i).all f = true) (h2 : f x = true) : (bs.take (i + 1)).all f = true := by
 rw [List.take_add_one, hx, List.all_append, h]
 simp [h2]
set_option maxHeartbeats 2000000 in
set_option maxRecDepth 100000 in
theorem numbered_calls (A : Option Addr) (c : Nat) (p : Int) (bs : List S48) (w : World) (hr : k48.C w A bs.length bs) (hc : bs.length ≤ c) :
    Calls Tryz.prog 42 #[.agg #[.int .i64 p, .slice A bs.length c]] w (NumPost p bs w) := by
  have HR := Aside0.mk hr
  have hm := Kd.C_max hr
  clear hr
  have hu := Tryz.underlying30
  have hu2 := Tryz.underlying104
  have hu3 := Tryz.underlying48
  obtain ⟨in1, h1⟩ : ∃ m, m = (decide (0 ≤ p) && decide (p ≤ 4)) := ⟨_, rfl⟩
  obtain ⟨in2, h2⟩ : ∃ m, m = (decide (1 ≤ (bs.length : Int)) && decide ((bs.length : Int) ≤ 8)) := ⟨_, rfl⟩
  have H1 := Aside0.mk h1
  have H2 := Aside0.mk h2
  have hpre : numPre p bs = (in1 && in2 && (rd_T48 bs 0).f0 == 0) := by rw [h1, h2]; rfl
  cases in1 with
  | false =>
    have hbad : numOK p bs = false := by unfold numOK; rw [hpre]; rfl
    have BAD := Aside0.mk hbad
    clear hbad hpre h1 h2
    go_enter Tryz.func42, Tryz.ntmps42
    go_wp2_with (first
      | ((with_reducible refine gate_dst (N := 1) rfl ?_); refine box_event ?hg (N := 1) ?hd (cs := #[.int .i64 p, .slice A bs.length c]) (t := 30) ?hr ?_; (case hd => rfl); (case hg => rfl); (case hr => first | (go_simp; done) | (go_simp; rfl)); intro b hg w1 hbox hb; have x0 : w1.cell? ⟨b, 0, none⟩ = some (.int .i64 p) := (blk_cell hbox 0).trans rfl; have x1 : w1.cell? ⟨b, 1, none⟩ = some (.slice A bs.length c) := (blk_cell hbox 1).trans rfl; have BK1 := Aside0.mk hbox; have HB1 := Aside0.mk hb; clear hb hbox hg)
      | (go_at_call 58; (with_reducible refine (within_calls p 0 4 _).mono ?_); rw [← H1.out]; rintro e w2 ⟨rfl, ⟨nq, rfl⟩⟩))
    go_ret2
    unfold NumPost
    rw [BAD.out]
    exact ⟨rfl, pw_below_drewN HB1.out nq⟩
  | true =>
    cases in2 with
    | false =>
      have hbad : numOK p bs = false := by unfold numOK; rw [hpre]; rfl
      have BAD := Aside0.mk hbad
      clear hbad hpre h1 h2
      go_enter Tryz.func42, Tryz.ntmps42
      go_wp2_with (first
        | ((with_reducible refine gate_dst (N := 1) rfl ?_); refine box_event ?hg (N := 1) ?hd (cs := #[.int .i64 p, .slice A bs.length c]) (t := 30) ?hr ?_; (case hd => rfl); (case hg => rfl); (case hr => first | (go_simp; done) | (go_simp; rfl)); intro b hg w1 hbox hb; have x0 : w1.cell? ⟨b, 0, none⟩ = some (.int .i64 p) := (blk_cell hbox 0).trans rfl; have x1 : w1.cell? ⟨b, 1, none⟩ = some (.slice A bs.length c) := (blk_cell hbox 1).trans rfl; have BK1 := Aside0.mk hbox; have HB1 := Aside0.mk hb; clear hb hbox hg)
        | (go_at_call 58; (with_reducible refine (within_calls p 0 4 _).mono ?_); rw [← H1.out]; rintro e w2 ⟨rfl, ⟨nq, rfl⟩⟩)
        | (go_at_call 58; (with_reducible refine (within_calls (bs.length : Int) 1 8 _).mono ?_); rw [← H2.out]; rintro e w3 ⟨rfl, ⟨nq2, rfl⟩⟩))
      go_ret2
      unfold NumPost
      rw [BAD.out]
      exact ⟨rfl, pw_below_drewN HB1.out _⟩
    | true =>
      have hlen : 1 ≤ bs.length ∧ bs.length ≤ 8 := by
        have := h2.symm
        simp only [Bool.and_eq_true, decide_eq_true_eq] at this
        omega
      have hp : 0 ≤ p ∧ p ≤ 4 := by simpa using h1.symm
      obtain ⟨ad, A1, c1, A4, c4, e, x0, -, -, -, -, -, -, -, -⟩ := at_T48 HR.out 0 (by omega) (by omega)
      subst e
      have x0' : w.cell? ad = some (.int .i64 (rd_T48 bs 0).f0) := x0
      have hl0 : (0 : Int) < (bs.length : Int) := by omega
      obtain ⟨q, hq⟩ : ∃ q, q = (rd_T48 bs 0).f0 := ⟨_, rfl⟩
      rw [← hq] at x0' hpre
      have X0 := Aside0.mk x0'
      clear h1 h2 x0 x0' hq
      cases hq0 : (q != 0) with
      | true =>
        have hbad : numOK p bs = false := by
          unfold numOK
          rw [hpre]
          have : (q == 0) = false := by simpa using hq0
          rw [this]
          rfl
        have BAD := Aside0.mk hbad
        clear hbad hpre
        go_enter Tryz.func42, Tryz.ntmps42
        go_wp2_with (first
          | ((with_reducible refine gate_dst (N := 1) rfl ?_); refine box_event ?hg (N := 1) ?hd (cs := #[.int .i64 p, .slice (some ad) bs.length c]) (t := 30) ?hr ?_; (case hd => rfl); (case hg => rfl); (case hr => first | (go_simp; done) | (go_simp; rfl)); intro b hg w1 hbox hb; have x0 : w1.cell? ⟨b, 0, none⟩ = some (.int .i64 p) := (blk_cell hbox 0).trans rfl; have x1 : w1.cell? ⟨b, 1, none⟩ = some (.slice (some ad) bs.length c) := (blk_cell hbox 1).trans rfl; have x2 : w1.cell? ad = some (.int .i64 q) := (hb.cell (World.block_lt_of_cell? w _ X0.out)).trans X0.out; have BK1 := Aside0.mk hbox; have HB1 := Aside0.mk hb; clear hb hbox hg)
          | (go_at_call 58; (with_reducible refine (within_calls p 0 4 _).mono ?_); rw [← H1.out]; rintro e w2 ⟨rfl, ⟨nq, rfl⟩⟩)
          | (go_at_call 58; (with_reducible refine (within_calls (bs.length : Int) 1 8 _).mono ?_); rw [← H2.out]; rintro e w3 ⟨rfl, ⟨nq2, rfl⟩⟩))
        go_ret2
        unfold NumPost
        rw [BAD.out]
        exact ⟨rfl, pw_below_drewN HB1.out _⟩
      | false =>
        have hpre' : numPre p bs = true := by
          rw [hpre]
          have : (q == 0) = true := by simpa using hq0
          rw [this]
          rfl
        have PRE := Aside0.mk hpre'
        clear hpre hpre'
        go_enter Tryz.func42, Tryz.ntmps42
        go_wp2_with (first
          | ((with_reducible refine gate_dst (N := 1) rfl ?_); refine box_event ?hg (N := 1) ?hd (cs := #[.int .i64 p, .slice (some ad) bs.length c]) (t := 30) ?hr ?_; (case hd => rfl); (case hg => rfl); (case hr => first | (go_simp; done) | (go_simp; rfl)); intro b hg w1 hbox hb; have x0 : w1.cell? ⟨b, 0, none⟩ = some (.int .i64 p) := (blk_cell hbox 0).trans rfl; have x1 : w1.cell? ⟨b, 1, none⟩ = some (.slice (some ad) bs.length c) := (blk_cell hbox 1).trans rfl; have x2 : w1.cell? ad = some (.int .i64 q) := (hb.cell (World.block_lt_of_cell? w _ X0.out)).trans X0.out; have BK1 := Aside0.mk hbox; have HB1 := Aside0.mk hb; clear hb hbox hg)
          | (go_at_call 58; (with_reducible refine (within_calls p 0 4 _).mono ?_); rw [← H1.out]; rintro e w2 ⟨rfl, ⟨nq, rfl⟩⟩)
          | (go_at_call 58; (with_reducible refine (within_calls (bs.length : Int) 1 8 _).mono ?_); rw [← H2.out]; rintro e w3 ⟨rfl, ⟨nq2, rfl⟩⟩))
        have BK2 := Aside0.mk (blk_drewN BK1.out (nq + nq2))
        have HB2 := Aside0.mk (pw_below_drewN HB1.out (nq + nq2))
        clear x0 x1 x2 BK1 HB1
        generalize w1.drewN (nq + nq2) = w2 at BK2 HB2 ⊢
        have BK3 := Aside0.mk (blk_drew BK2.out)
        have HB3 := Aside0.mk (below_drew HB2.out)
        obtain ⟨pn, hpn0⟩ := Int.eq_ofNat_of_zero_le hp.1
        have hpn : pn ≤ 100 := by omega
        have PN := Aside0.mk (show p = (pn : Int) from hpn0)
        clear hpn0
        refine start_ (n := 10) (S := fun w' => w'.cell? ⟨b, 0, none⟩ = some (.int .i64 p) ∧ w'.cell? ⟨b, 1, none⟩ = some (.slice (some ad) bs.length c)) (ds := []) #[bF, bF, bF, bF, bF, bF, bF, bF, bF, bF] (by kernel_rfl) rfl rfl ⟨(blk_cell BK3.out 0).trans rfl, (blk_cell BK3.out 1).trans rfl⟩ (fun hHeld => ?_)
        generalize w2.drew = w3 at BK3 HB3 hHeld ⊢
        refine take_ (i := 0) (N := some 26) (v := ?_) (a' := ?_) #[bT, bF, bF, bF, bF, bF, bF, bF, bF, bF] rfl rfl (by kernel_rfl) (fun _ _ _ h => h) (Or.inl ⟨by rfl, ?_⟩) hHeld ?_ ?_
        rotate_left
        · rintro w' ⟨s0, s1⟩
          go_simp
          with_reducible rfl
        rotate_left
        · simp only [Act.put, lA, lB, lC, i64_w, i32_w]
          rfl
        refine pure_ (i := 2) (N := some 28) (v := ?_) (a' := ?_) #[bT, bF, bT, bF, bF, bF, bF, bF, bF, bF] rfl rfl (by kernel_rfl) (fun _ _ _ h => h) (Or.inl ⟨by rfl, ?_⟩) ?_ ?_
        rotate_left
        · intro w'
          go_simp
          with_reducible rfl
        rotate_left
        · simp only [Act.put, lA, lB, lC, i64_w, i32_w]
          rfl
        refine take_ (i := 3) (N := some 29) (v := ?_) (a' := ?_) #[bT, bF, bT, bT, bF, bF, bF, bF, bF, bF] rfl rfl (by kernel_rfl) (fun _ _ _ h => h) (Or.inl ⟨by rfl, ?_⟩) hHeld ?_ ?_
        rotate_left
        · rintro w' ⟨s0, s1⟩
          go_simp
          with_reducible rfl
        rotate_left
        · simp only [Act.put, lA, lB, lC, i64_w, i32_w]
          rfl
        refine pure_ (i := 5) (N := some 31) (v := ?_) (a' := ?_) #[bT, bF, bT, bT, bF, bT, bF, bF, bF, bF] rfl rfl (by kernel_rfl) (fun _ _ _ h => h) (Or.inl ⟨by rfl, ?_⟩) ?_ ?_
        rotate_left
        · intro w'
          go_simp
          with_reducible rfl
        rotate_left
        · simp only [Act.put, lA, lB, lC, i64_w, i32_w]
          rfl
        refine take_ (i := 6) (N := some 32) (v := ?_) (a' := ?_) #[bT, bF, bT, bT, bF, bT, bT, bF, bF, bF] rfl rfl (by kernel_rfl) (fun _ _ _ h => h) (Or.inl ⟨by rfl, ?_⟩) hHeld ?_ ?_
        rotate_left
        · rintro w' ⟨s0, s1⟩
          go_simp
          with_reducible rfl
        rotate_left
        · simp only [Act.put, lA, lB, lC, i64_w, i32_w]
          rfl
        refine one_ (i := 1) (N := some 27) #[bT, bT, bT, bT, bF, bT, bT, bF, bF, bF] rfl rfl (by kernel_rfl) (by decide) (fun K hK => ?_)
        refine value_ (w1 := w3.alloc (.cells #[.int .i64 (-1)] 3)) (v := .slice (some ⟨w3.heap.size, 0, none⟩) 1 1) (by rfl) rfl (by go_simp; first | done | rfl) ?_
        have BK4 := Aside0.mk (blk_alloc BK3.out (.cells #[.int .i64 (-1)] 3))
        have HB4 := Aside0.mk (below_alloc HB3.out (.cells #[.int .i64 (-1)] 3))
        have IL := Aside0.mk (ints_lit w3 (-1) 3)
        refine hK.out _ _ ⟨(blk_cell BK4.out 0).trans rfl, (blk_cell BK4.out 1).trans rfl⟩ (fun hHeld => ?_)
        clear hK K
        refine norm_ (a' := ?_) ?_ ?_
        rotate_left
        · show Act.put _ (some 27) _ = _
          simp only [Act.put, lA, lB, lC, i64_w, i32_w]
          rfl
        refine one_ (i := 4) (N := some 30) #[bT, bT, bT, bT, bT, bT, bT, bF, bF, bF] rfl rfl (by kernel_rfl) (by decide) (fun K hK => ?_)
        refine goes_ Tryz.func59 (by kernel_rfl) rfl #[.slice (some ⟨w3.heap.size, 0, none⟩) 1 1, .int .i64 p] (by rfl) rfl rfl (by (try simp only [List.map_toArray, List.map_cons, List.map_nil]); first | done | rfl) ?_
        have hC := repeat_calls _ 1 (-1) pn _ hpn IL.out
        rw [← PN.out] at hC
        refine hC.mono ?_
        clear hC
        rintro e w5 ⟨u, rfl, ho, hb⟩
        obtain ⟨uA, uc, hue⟩ := Kd.R_slice ho
        rw [List.length_replicate] at hue
        subst hue
        refine ⟨_, rfl, ?_⟩
        have BK5 := Aside0.mk (blk_below BK4.out hb)
        have HB5 := Aside0.mk (below_then HB4.out HB4.out.size hb)
        have HO5 := Aside0.mk (Kd.R_lower ho HB4.out.size)
        clear hb ho
        refine hK.out _ _ ⟨(blk_cell BK5.out 0).trans rfl, (blk_cell BK5.out 1).trans rfl⟩ (fun hHeld => ?_)
        clear hK K
        refine norm_ (a' := ?_) ?_ ?_
        rotate_left
        · show Act.put _ (some 30) _ = _
          simp only [Act.put, lA, lB, lC, i64_w, i32_w]
          rfl
        refine pure_ (i := 7) (N := some 33) (v := ?_) (a' := ?_) #[bT, bT, bT, bT, bT, bT, bT, bT, bF, bF] rfl rfl (by kernel_rfl) (fun _ _ _ h => h) (Or.inl ⟨by rfl, ?_⟩) ?_ ?_
        rotate_left
        · intro w'
          go_simp
          with_reducible rfl
        rotate_left
        · simp only [Act.put, lA, lB, lC, i64_w, i32_w]
          rfl
        refine one_ (i := 8) (N := some 34) #[bT, bT, bT, bT, bT, bT, bT, bT, bT, bF] rfl rfl (by kernel_rfl) (by decide) (fun K hK => ?_)
        refine box_step (by rfl) (N := 34) rfl (cs := #[.int .i64 p, .slice (some ad) bs.length c, .slice none 0 0, .slice uA pn uc, .int .i64 p]) (t := 104) (by go_simp; first | done | rfl) ?_
        intro g hg w6 hbox hb
        have BK6 := Aside0.mk (blk_below BK5.out hb)
        have HB6 := Aside0.mk (below_then HB5.out HB5.out.size hb)
        have HV6 := Aside0.mk hbox
        have HO6 := Aside0.mk (Kd.R_below HO5.out hb)
        have hgw : w.heap.size ≤ g := by rw [hg]; exact HB5.out.size
        clear hb hbox hg
        refine hK.out _ _ ⟨(blk_cell BK6.out 0).trans rfl, (blk_cell BK6.out 1).trans rfl⟩ (fun hHeld => ?_)
        clear hK K
        refine norm_ (a' := ?_) ?_ ?_
        rotate_left
        · show Act.put _ (some 34) _ = _
          simp only [Act.put, lA, lB, lC, i64_w, i32_w]
          rfl
        refine pure_ (i := 9) (N := some 4) (v := ?_) (a' := ?_) #[bT, bT, bT, bT, bT, bT, bT, bT, bT, bT] rfl rfl (by kernel_rfl) (fun _ _ _ h => h) (Or.inl ⟨by rfl, ?_⟩) ?_ ?_
        rotate_left
        · intro w'
          go_simp
          with_reducible rfl
        rotate_left
        · simp only [Act.put, lA, lB, lC, i64_w, i32_w]
          rfl
        refine done_ (by kernel_rfl) ?_
        go_wp2
        have hbs8 : bs.length ≤ 8 := hlen.2
        have HF0 : Aside0 ((Kd.int .i64).R 3 w6 w.heap.size (fun k => some k ≠ (Value.slice uA pn uc).ownBlock) (.slice none 0 0) []) := ⟨Kd.R_mono (Kd.R_nil _ _ _ _ (fun _ => False)) (fun _ h => h.elim)⟩
        have HB0 : Aside0 ((Kd.int .i64).R 3 w6 w.heap.size (fun k => some k ≠ (Value.slice none 0 0).ownBlock) (.slice uA pn uc) (List.replicate pn (-1 : Int))) := ⟨Kd.R_mono HO6.out (fun k _ => by simp [Value.ownBlock])⟩
        go_loopw [5, 6, 38] (fun _ _ v38 w' => ∃ (i : Nat) (fi bl : List Int) (tot : Int) (fv bv : Value), v38 = .int .i64 i ∧ i ≤ bs.length ∧ 0 ≤ tot ∧ tot ≤ 4 + 84 * i ∧ fi.length = i ∧ bl.length ≤ 4 + 84 * i ∧ Aside0 ((bs.take i).all numOne = true) ∧ Aside0 (fi ++ numFi tot (bs.drop i) = viewFi p bs) ∧ Aside0 (bl ++ numBl i (bs.drop i) = viewBl p bs) ∧ Aside0 (numTot tot (bs.drop i) = numTot p bs) ∧ Aside0 (w'.heap[g]? = some (.cells #[.int .i64 p, .slice (some ad) bs.length c, fv, bv, .int .i64 tot] 104 (0, 0))) ∧ Aside0 ((Kd.int .i64).R 3 w' w.heap.size (fun k => some k ≠ bv.ownBlock) fv fi) ∧ Aside0 ((Kd.int .i64).R 3 w' w.heap.size (fun k => some k ≠ fv.ownBlock) bv bl) ∧ Aside0 (Below w.heap.size w w')) (fun _ _ v38 _ => bs.length - (intOf v38).toNat)
        case atStart => exact ⟨0, [], List.replicate pn (-1), p, _, _, rfl, Nat.zero_le _, hp.1, by omega, rfl, by have := PN.out; simp; omega, ⟨rfl⟩, ⟨rfl⟩, ⟨by unfold viewBl; rw [show p.toNat = pn by have := PN.out; omega]; rfl⟩, ⟨rfl⟩, HV6, HF0, HB0, HB6⟩
        case round =>
          clear HV6 HO6 BK6 HB6 HF0 HB0 hHeld
          obtain ⟨i, fi, bl, tot, fv, bv, rfl, hi, ht0, ht1, hfl, hbl, HA, HFI, HBL, HTO, HV, HF, HBv, HB⟩ := hrel
          by_cases hlt : i < bs.length
          · obtain ⟨x, hx⟩ : ∃ x, bs[i]? = some x := ⟨_, List.getElem?_eq_getElem hlt⟩
            have e0 : rd_T48 bs (i : Int) = x := by unfold rd_T48; rw [Int.toNat_natCast, List.getD_eq_getElem?_getD, hx]; rfl
            obtain ⟨ad', A1, c1, A4, c4, e, y0, y1, y2, y3, y4, l1, g1, l4, g4⟩ := at_T48 HR.out (i : Int) (by omega) (by omega)
            obtain rfl : ad = ad' := by simpa using e
            simp only [Int.toNat_natCast] at y0 y1 y2 y3 y4
            rw [e0] at y0 y1 y2 y3 y4 l1 g1 l4 g4
            replace y0 := cB HB.out y0
            replace y1 := cB HB.out y1
            replace y2 := cB HB.out y2
            replace y3 := cB HB.out y3
            replace y4 := cB HB.out y4
            clear e0 e g1 g4
            have hltz : (i : Int) < (bs.length : Int) := by omega
            obtain ⟨inq, hiq⟩ : ∃ m, m = (decide (0 ≤ x.f0) && decide (x.f0 ≤ 4)) := ⟨_, rfl⟩
            have IQ := Aside0.mk hiq
            clear hiq
            obtain ⟨X, hX⟩ : ∃ X, X = Obj.cells #[.int .i64 x.f0, .slice A1 x.f1.length c1, .int .i64 x.f2, .int .i64 x.f3, .slice A4 x.f4.length c4] 48 (0, 0) := ⟨_, rfl⟩
            have BX0 := Aside0.mk (show (wr.alloc X).heap[wr.heap.size]? = some (.cells #[.int .i64 x.f0, .slice A1 x.f1.length c1, .int .i64 x.f2, .int .i64 x.f3, .slice A4 x.f4.length c4] 48 (0, 0)) by rw [← hX]; exact blk_new wr X)
            have HV0 := Aside0.mk (blk_alloc HV.out X)
            have HF0 := Aside0.mk (Kd.R_alloc HF.out X)
            have HBv0 := Aside0.mk (Kd.R_alloc HBv.out X)
            have HB0 := Aside0.mk (below_alloc HB.out X)
            have hne0 : g ≠ wr.heap.size := Nat.ne_of_lt (blk_lt HV.out)
            have HX := Aside0.mk hX
            clear HV HF HBv HB hX
            cases inq with
            | false =>
              go_wp2_with (first
                | (go_at_call 58; (with_reducible refine (within_calls x.f0 0 4 _).mono ?_); rw [← IQ.out, ← HX.out]; rintro e w7 ⟨rfl, ⟨nq, rfl⟩⟩))
              go_ret2
              have hok : numOK p bs = false := by
                unfold numOK
                rw [PRE.out, Bool.true_and, List.all_eq_false]
                exact ⟨x, List.mem_of_getElem? hx, by unfold numOne; rw [← IQ.out]; simp⟩
              unfold NumPost
              rw [hok]
              exact ⟨rfl, pw_below_drewN HB0.out nq⟩
            | true =>
              have hq04 : 0 ≤ x.f0 ∧ x.f0 ≤ 4 := by simpa using IQ.out.symm
              have bx1 : (wr.alloc X).cell? ⟨wr.heap.size, 1, none⟩ = some (.slice A1 x.f1.length c1) := (blk_cell BX0.out 1).trans rfl
              rcases Nat.lt_or_ge 80 x.f1.length with h80 | h80
              · go_wp2_with (first
                  | (go_at_call 58; (with_reducible refine (within_calls x.f0 0 4 _).mono ?_); rw [← IQ.out, ← HX.out]; rintro e w7 ⟨rfl, ⟨nq, rfl⟩⟩))
                go_ret2
                have hok : numOK p bs = false := by
                  unfold numOK
                  rw [PRE.out, Bool.true_and, List.all_eq_false]
                  exact ⟨x, List.mem_of_getElem? hx, by unfold numOne; rw [← IQ.out]; simp; omega⟩
                unfold NumPost
                rw [hok]
                exact ⟨rfl, pw_below_drewN HB0.out _⟩
              · go_wp2_with (first
                  | (go_at_call 58; (with_reducible refine (within_calls x.f0 0 4 _).mono ?_); rw [← IQ.out, ← HX.out]; rintro e w7 ⟨rfl, ⟨nq, rfl⟩⟩))
                have h1x : numOne x = true := by unfold numOne; rw [← IQ.out]; simp; omega
                have H1X := Aside0.mk h1x
                clear h1x bx1 y0 y1 y2 y3 y4 l1 l4
                obtain ⟨cn, hcn⟩ : ∃ cn : Nat, x.f0 + (x.f1.length : Int) = cn := ⟨(x.f0 + (x.f1.length : Int)).toNat, by omega⟩
                have CN := Aside0.mk hcn
                have hcn84 : cn ≤ 84 := by omega
                have s1 : IntKind.i64.wrap (x.f0 + (x.f1.length : Int)) = (cn : Int) := by rw [hcn]; exact IntWalk.i64_in _ (by omega)
                have s2 : IntKind.i64.wrap (tot + (cn : Int)) = tot + (cn : Int) := IntWalk.i64_in _ (by omega)
                have S1 := Aside0.mk s1
                have S2 := Aside0.mk s2
                clear hcn s1 s2
                have HVA := Aside0.mk (blk_drew (blk_drewN HV0.out nq))
                have BXA := Aside0.mk (blk_drew (blk_drewN BX0.out nq))
                have HFA := Aside0.mk (Kd.R_below HF0.out (below_drew (pw_below_drewN (Below.refl _ _) nq)))
                have HBvA := Aside0.mk (Kd.R_below HBv0.out (below_drew (pw_below_drewN (Below.refl _ _) nq)))
                have HBA := Aside0.mk (below_drew (pw_below_drewN HB0.out nq))
                clear HV0 BX0 HF0 HBv0 HB0 HX
                refine start_ (n := 14) (S := fun w' => w'.cell? ⟨g, 2, none⟩ = some fv ∧ w'.cell? ⟨g, 4, none⟩ = some (.int .i64 tot)) (ds := [13]) #[bF, bF, bF, bF, bF, bF, bF, bF, bF, bF, bF, bF, bF, bF] (by kernel_rfl) rfl rfl ⟨(blk_cell HVA.out 2).trans rfl, (blk_cell HVA.out 4).trans rfl⟩ (fun hHeld => ?_)
                generalize ((wr.alloc X).drewN nq).drew = wA at HVA BXA HFA HBvA HBA hHeld ⊢
                refine pure_ (i := 0) (N := some 53) (v := ?_) (a' := ?_) #[bT, bF, bF, bF, bF, bF, bF, bF, bF, bF, bF, bF, bF, bF] rfl rfl (by kernel_rfl) (fun _ _ _ h => h) (Or.inl ⟨by rfl, ?_⟩) ?_ ?_
                rotate_left
                · intro w'
                  go_simp
                  with_reducible rfl
                rotate_left
                · simp only [Act.put, lA, lB, lC, i64_w, i32_w]
                  rfl
                refine pure_ (i := 1) (N := some 54) (v := ?_) (a' := ?_) #[bT, bT, bF, bF, bF, bF, bF, bF, bF, bF, bF, bF, bF, bF] rfl rfl (by kernel_rfl) (fun _ _ _ h => h) (Or.inl ⟨by rfl, ?_⟩) ?_ ?_
                rotate_left
                · intro w'
                  go_simp
                  with_reducible rfl
                rotate_left
                · simp only [Act.put, lA, lB, lC, i64_w, i32_w]
                  rfl
                refine pure_ (i := 2) (N := some 55) (v := ?_) (a' := ?_) #[bT, bT, bT, bF, bF, bF, bF, bF, bF, bF, bF, bF, bF, bF] rfl rfl (by kernel_rfl) (fun _ _ _ h => h) (Or.inl ⟨by rfl, ?_⟩) ?_ ?_
                rotate_left
                · intro w'
                  go_simp
                  with_reducible rfl
                rotate_left
                · simp only [Act.put, lA, lB, lC, i64_w, i32_w]
                  rfl
                refine pure_ (i := 3) (N := some 56) (v := ?_) (a' := ?_) #[bT, bT, bT, bT, bF, bF, bF, bF, bF, bF, bF, bF, bF, bF] rfl rfl (by kernel_rfl) (fun _ _ _ h => h) (Or.inl ⟨by rfl, ?_⟩) ?_ ?_
                rotate_left
                · intro w'
                  go_simp
                  with_reducible rfl
                rotate_left
                · simp only [Act.put, lA, lB, lC, i64_w, i32_w]
                  rfl
                refine take_ (i := 4) (N := some 57) (v := ?_) (a' := ?_) #[bT, bT, bT, bT, bT, bF, bF, bF, bF, bF, bF, bF, bF, bF] rfl rfl (by kernel_rfl) (fun _ _ _ h => h) (Or.inl ⟨by rfl, ?_⟩) hHeld ?_ ?_
                rotate_left
                · rintro w' ⟨s0, s1⟩
                  go_simp
                  with_reducible rfl
                rotate_left
                · simp only [Act.put, lA, lB, lC, i64_w, i32_w]
                  rfl
                refine pure_ (i := 5) (N := some 58) (v := ?_) (a' := ?_) #[bT, bT, bT, bT, bT, bT, bF, bF, bF, bF, bF, bF, bF, bF] rfl rfl (by kernel_rfl) (fun _ _ _ h => h) (Or.inl ⟨by rfl, ?_⟩) ?_ ?_
                rotate_left
                · intro w'
                  go_simp
                  with_reducible rfl
                rotate_left
                · simp only [Act.put, lA, lB, lC, i64_w, i32_w]
                  rfl
                refine pure_ (i := 6) (N := some 59) (v := ?_) (a' := ?_) #[bT, bT, bT, bT, bT, bT, bT, bF, bF, bF, bF, bF, bF, bF] rfl rfl (by kernel_rfl) (fun _ _ _ h => h) (Or.inl ⟨by rfl, ?_⟩) ?_ ?_
                rotate_left
                · intro w'
                  go_simp
                  with_reducible rfl
                rotate_left
                · simp only [Act.put, lA, lB, lC, i64_w, i32_w]
                  rfl
                refine pure_ (i := 7) (N := some 60) (v := ?_) (a' := ?_) #[bT, bT, bT, bT, bT, bT, bT, bT, bF, bF, bF, bF, bF, bF] rfl rfl (by kernel_rfl) (fun _ _ _ h => h) (Or.inl ⟨by rfl, ?_⟩) ?_ ?_
                rotate_left
                · intro w'
                  go_simp
                  with_reducible rfl
                rotate_left
                · simp only [Act.put, lA, lB, lC, i64_w, i32_w]
                  rfl
                refine take_ (i := 8) (N := some 61) (v := ?_) (a' := ?_) #[bT, bT, bT, bT, bT, bT, bT, bT, bT, bF, bF, bF, bF, bF] rfl rfl (by kernel_rfl) (fun _ _ _ h => h) (Or.inl ⟨by rfl, ?_⟩) hHeld ?_ ?_
                rotate_left
                · rintro w' ⟨s0, s1⟩
                  go_simp
                  with_reducible rfl
                rotate_left
                · simp only [Act.put, lA, lB, lC, i64_w, i32_w]
                  rfl
                refine one_ (i := 9) (N := some 62) #[bT, bT, bT, bT, bT, bT, bT, bT, bT, bT, bF, bF, bF, bF] rfl rfl (by kernel_rfl) (by decide) (fun K hK => ?_)
                refine value_ (w1 := wA.alloc (.cells #[.int .i64 tot] 3)) (v := .slice (some ⟨wA.heap.size, 0, none⟩) 1 1) (by rfl) rfl (by go_simp; first | done | rfl) ?_
                refine hK.out _ _ ⟨(blk_cell (blk_alloc HVA.out _) 2).trans rfl, (blk_cell (blk_alloc HVA.out _) 4).trans rfl⟩ (fun hHeld => ?_)
                clear hK K
                refine norm_ (a' := ?_) ?_ ?_
                rotate_left
                · show Act.put _ (some 62) _ = _
                  simp only [Act.put, lA, lB, lC, i64_w, i32_w]
                  rfl
                refine one_ (i := 10) (N := some 63) #[bT, bT, bT, bT, bT, bT, bT, bT, bT, bT, bT, bF, bF, bF] rfl rfl (by kernel_rfl) (by decide) (fun K hK => ?_)
                refine Kd.R_append_step (Kd.int .i64) (w0 := w) (W := wA) w.heap.size (by rfl) (.tmp 57) (.tmp 62) 50 3 (.int .i64 0) 8 rfl Tryz.underlying50 info3 rfl (by decide) (by omega) fv fi tot [.int .i64 tot] (fun k => some k ≠ bv.ownBlock) (fun _ => False) (by rfl) (by rfl) rfl (fun _ hk => hk.elim) (fun k hk he => by have := Kd.R_lt HBvA.out k he.symm; omega) HFA.out HBA.out HBA.out.size (by omega) ?_
                intro fv' wD ho hb hg hat
                obtain ⟨fA, fc, rfl⟩ := Kd.R_slice ho
                have HVD := Aside0.mk (blk_grown HVA.out hg (Kd.R_ne HFA.out HVA.out (by decide)))
                have BXD := Aside0.mk (blk_grown BXA.out hg (Kd.R_ne HFA.out BXA.out (by decide)))
                have HBvD := Aside0.mk (Kd.R_mono (Kd.R_after (ok := fun _ => True) (Kd.R_mono HBvA.out (fun k hk => ⟨trivial, hk⟩)) hg hat) (fun k hk => hk.2))
                have HFD := Aside0.mk ho
                have HBD := Aside0.mk hb
                clear ho hb hg hat HVA BXA HFA HBvA HBA hHeld
                refine hK.out _ _ ⟨(blk_cell HVD.out 2).trans rfl, (blk_cell HVD.out 4).trans rfl⟩ (fun hHeld => ?_)
                clear hK K
                refine norm_ (a' := ?_) ?_ ?_
                rotate_left
                · show Act.put _ (some 63) _ = _
                  simp only [Act.put, lA, lB, lC, i64_w, i32_w]
                  rfl
                refine pure_ (i := 11) (N := some 64) (v := ?_) (a' := ?_) #[bT, bT, bT, bT, bT, bT, bT, bT, bT, bT, bT, bT, bF, bF] rfl rfl (by kernel_rfl) (fun _ _ _ h => h) (Or.inl ⟨by rfl, ?_⟩) ?_ ?_
                rotate_left
                · intro w'
                  go_simp
                  with_reducible rfl
                rotate_left
                · simp only [Act.put, lA, lB, lC, i64_w, i32_w]
                  rfl
                refine pure_ (i := 12) (N := some 65) (v := ?_) (a' := ?_) #[bT, bT, bT, bT, bT, bT, bT, bT, bT, bT, bT, bT, bT, bF] rfl rfl (by kernel_rfl) (fun _ _ _ h => h) (Or.inl ⟨by rfl, ?_⟩) ?_ ?_
                rotate_left
                · intro w'
                  go_simp
                  with_reducible rfl
                rotate_left
                · simp only [Act.put, lA, lB, lC, i64_w, i32_w]
                  rfl
                refine last_ (i := 13) (N := none) #[bT, bT, bT, bT, bT, bT, bT, bT, bT, bT, bT, bT, bT, bT] rfl rfl (by kernel_rfl) (by decide) (fun K hK => ?_)
                refine store_step (by rfl) rfl rfl (g := g) (i := 2) (u := .slice fA (fi ++ [tot]).length fc) (by rfl) (by rfl) HVD.out rfl rfl size_ints (by show 2 < 5; decide) ?_
                refine hK.out _ _ ?_
                clear hK K
                refine done_ (by kernel_rfl) ?_
                have HVE : Aside0 ((wD.setCell ⟨g, 2, none⟩ (.slice fA (fi ++ [tot]).length fc)).heap[g]? = some (.cells #[.int .i64 p, .slice (some ad) bs.length c, .slice fA (fi ++ [tot]).length fc, bv, .int .i64 tot] 104 (0, 0))) := ⟨blk_set HVD.out 2 _⟩
                have BXE := Aside0.mk (blk_far BXD.out (p := ⟨g, 2, none⟩) (Ne.symm hne0) (.slice fA (fi ++ [tot]).length fc))
                have HFE := Aside0.mk (ints_set HFD.out HVD.out (by decide) 2 (.slice fA (fi ++ [tot]).length fc))
                have HBvE := Aside0.mk (ints_set HBvD.out HVD.out (by decide) 2 (.slice fA (fi ++ [tot]).length fc))
                have HBE := Aside0.mk (Below.setCell HBD.out (p := ⟨g, 2, none⟩) hgw (.slice fA (fi ++ [tot]).length fc))
                clear HVD BXD HFD HBvD HBD hHeld
                generalize wD.setCell ⟨g, 2, none⟩ (.slice fA (fi ++ [tot]).length fc) = wE at HVE BXE HFE HBvE HBE ⊢
                clear wD
                go_wp2
                have HVF := Aside0.mk (blk_drew HVE.out)
                have BXF := Aside0.mk (blk_drew BXE.out)
                have HFF := Aside0.mk (Kd.R_below HFE.out (below_drew (Below.refl _ _)))
                have HBvF := Aside0.mk (Kd.R_below HBvE.out (below_drew (Below.refl _ _)))
                have HBF := Aside0.mk (below_drew HBE.out)
                clear HVE BXE HFE HBvE HBE
                have s1 := S1.out
                have s2 := S2.out
                refine start_ (n := 14) (S := fun w' => w'.cell? ⟨g, 4, none⟩ = some (.int .i64 tot) ∧ w'.cell? ⟨wr.heap.size, 0, none⟩ = some (.int .i64 x.f0) ∧ w'.cell? ⟨wr.heap.size, 1, none⟩ = some (.slice A1 x.f1.length c1)) (ds := [13]) #[bF, bF, bF, bF, bF, bF, bF, bF, bF, bF, bF, bF, bF, bF] (by kernel_rfl) rfl rfl ⟨(blk_cell HVF.out 4).trans rfl, (blk_cell BXF.out 0).trans rfl, (blk_cell BXF.out 1).trans rfl⟩ (fun hHeld => ?_)
                generalize wE.drew = wF at HVF BXF HFF HBvF HBF hHeld ⊢
                refine pure_ (i := 0) (N := some 66) (v := ?_) (a' := ?_) #[bT, bF, bF, bF, bF, bF, bF, bF, bF, bF, bF, bF, bF, bF] rfl rfl (by kernel_rfl) (fun _ _ _ h => h) (Or.inl ⟨by rfl, ?_⟩) ?_ ?_
                rotate_left
                · intro w'
                  go_simp
                  with_reducible rfl
                rotate_left
                · simp only [Act.put, lA, lB, lC, i64_w, i32_w]
                  rfl
                refine pure_ (i := 1) (N := some 67) (v := ?_) (a' := ?_) #[bT, bT, bF, bF, bF, bF, bF, bF, bF, bF, bF, bF, bF, bF] rfl rfl (by kernel_rfl) (fun _ _ _ h => h) (Or.inl ⟨by rfl, ?_⟩) ?_ ?_
                rotate_left
                · intro w'
                  go_simp
                  with_reducible rfl
                rotate_left
                · simp only [Act.put, lA, lB, lC, i64_w, i32_w]
                  rfl
                refine pure_ (i := 2) (N := some 68) (v := ?_) (a' := ?_) #[bT, bT, bT, bF, bF, bF, bF, bF, bF, bF, bF, bF, bF, bF] rfl rfl (by kernel_rfl) (fun _ _ _ h => h) (Or.inl ⟨by rfl, ?_⟩) ?_ ?_
                rotate_left
                · intro w'
                  go_simp
                  with_reducible rfl
                rotate_left
                · simp only [Act.put, lA, lB, lC, i64_w, i32_w]
                  rfl
                refine take_ (i := 3) (N := some 69) (v := ?_) (a' := ?_) #[bT, bT, bT, bT, bF, bF, bF, bF, bF, bF, bF, bF, bF, bF] rfl rfl (by kernel_rfl) (fun _ _ _ h => h) (Or.inl ⟨by rfl, ?_⟩) hHeld ?_ ?_
                rotate_left
                · rintro w' ⟨s0, s1, s2⟩
                  go_simp
                  with_reducible rfl
                rotate_left
                · simp only [Act.put, lA, lB, lC, i64_w, i32_w]
                  rfl
                refine pure_ (i := 4) (N := some 70) (v := ?_) (a' := ?_) #[bT, bT, bT, bT, bT, bF, bF, bF, bF, bF, bF, bF, bF, bF] rfl rfl (by kernel_rfl) (fun _ _ _ h => h) (Or.inl ⟨by rfl, ?_⟩) ?_ ?_
                rotate_left
                · intro w'
                  go_simp
                  with_reducible rfl
                rotate_left
                · simp only [Act.put, lA, lB, lC, i64_w, i32_w]
                  rfl
                refine take_ (i := 5) (N := some 71) (v := ?_) (a' := ?_) #[bT, bT, bT, bT, bT, bT, bF, bF, bF, bF, bF, bF, bF, bF] rfl rfl (by kernel_rfl) (fun _ _ _ h => h) (Or.inl ⟨by rfl, ?_⟩) hHeld ?_ ?_
                rotate_left
                · rintro w' ⟨s0, s1, s2⟩
                  go_simp
                  with_reducible rfl
                rotate_left
                · simp only [Act.put, lA, lB, lC, i64_w, i32_w]
                  rfl
                refine pure_ (i := 6) (N := some 72) (v := ?_) (a' := ?_) #[bT, bT, bT, bT, bT, bT, bT, bF, bF, bF, bF, bF, bF, bF] rfl rfl (by kernel_rfl) (fun _ _ _ h => h) (Or.inl ⟨by rfl, ?_⟩) ?_ ?_
                rotate_left
                · intro w'
                  go_simp
                  with_reducible rfl
                rotate_left
                · simp only [Act.put, lA, lB, lC, i64_w, i32_w]
                  rfl
                refine take_ (i := 7) (N := some 73) (v := ?_) (a' := ?_) #[bT, bT, bT, bT, bT, bT, bT, bT, bF, bF, bF, bF, bF, bF] rfl rfl (by kernel_rfl) (fun _ _ _ h => h) (Or.inl ⟨by rfl, ?_⟩) hHeld ?_ ?_
                rotate_left
                · rintro w' ⟨s0, s1, s2⟩
                  go_simp
                  with_reducible rfl
                rotate_left
                · simp only [Act.put, lA, lB, lC, i64_w, i32_w]
                  rfl
                refine pure_ (i := 8) (N := some 74) (v := ?_) (a' := ?_) #[bT, bT, bT, bT, bT, bT, bT, bT, bT, bF, bF, bF, bF, bF] rfl rfl (by kernel_rfl) (fun _ _ _ h => h) (Or.inl ⟨by rfl, ?_⟩) ?_ ?_
                rotate_left
                · intro w'
                  go_simp
                  with_reducible rfl
                rotate_left
                · simp only [Act.put, lA, lB, lC, i64_w, i32_w]
                  rfl
                refine pure_ (i := 9) (N := some 75) (v := ?_) (a' := ?_) #[bT, bT, bT, bT, bT, bT, bT, bT, bT, bT, bF, bF, bF, bF] rfl rfl (by kernel_rfl) (fun _ _ _ h => h) (Or.inl ⟨by rfl, ?_⟩) ?_ ?_
                rotate_left
                · intro w'
                  go_simp
                  with_reducible rfl
                rotate_left
                · simp only [Act.put, lA, lB, lC, i64_w, i32_w]
                  rfl
                refine pure_ (i := 10) (N := some 76) (v := ?_) (a' := ?_) #[bT, bT, bT, bT, bT, bT, bT, bT, bT, bT, bT, bF, bF, bF] rfl rfl (by kernel_rfl) (fun _ _ _ h => h) (Or.inl ⟨by rfl, ?_⟩) ?_ ?_
                rotate_left
                · intro w'
                  go_simp
                  with_reducible rfl
                rotate_left
                · simp only [Act.put, lA, lB, lC, i64_w, i32_w]
                  rfl
                refine pure_ (i := 11) (N := some 77) (v := ?_) (a' := ?_) #[bT, bT, bT, bT, bT, bT, bT, bT, bT, bT, bT, bT, bF, bF] rfl rfl (by kernel_rfl) (fun _ _ _ h => h) (Or.inl ⟨by rfl, ?_⟩) ?_ ?_
                rotate_left
                · intro w'
                  go_simp
                  with_reducible rfl
                rotate_left
                · simp only [Act.put, lA, lB, lC, i64_w, i32_w]
                  rfl
                refine pure_ (i := 12) (N := some 78) (v := ?_) (a' := ?_) #[bT, bT, bT, bT, bT, bT, bT, bT, bT, bT, bT, bT, bT, bF] rfl rfl (by kernel_rfl) (fun _ _ _ h => h) (Or.inl ⟨by rfl, ?_⟩) ?_ ?_
                rotate_left
                · intro w'
                  go_simp
                  with_reducible rfl
                rotate_left
                · simp only [Act.put, lA, lB, lC, i64_w, i32_w]
                  rfl
                refine last_ (i := 13) (N := none) #[bT, bT, bT, bT, bT, bT, bT, bT, bT, bT, bT, bT, bT, bT] rfl rfl (by kernel_rfl) (by decide) (fun K hK => ?_)
                refine store_step (by rfl) rfl rfl (g := g) (i := 4) (u := .int .i64 (tot + (cn : Int))) (by rfl) (by rfl) HVF.out rfl rfl size_int (by show 4 < 5; decide) ?_
                refine hK.out _ _ ?_
                clear hK K
                refine done_ (by kernel_rfl) ?_
                clear s1 s2
                have HVG : Aside0 ((wF.setCell ⟨g, 4, none⟩ (.int .i64 (tot + (cn : Int)))).heap[g]? = some (.cells #[.int .i64 p, .slice (some ad) bs.length c, .slice fA (fi ++ [tot]).length fc, bv, .int .i64 (tot + (cn : Int))] 104 (0, 0))) := ⟨blk_set HVF.out 4 _⟩
                have BXG := Aside0.mk (blk_far BXF.out (p := ⟨g, 4, none⟩) (Ne.symm hne0) (.int .i64 (tot + (cn : Int))))
                have HFG := Aside0.mk (ints_set HFF.out HVF.out (by decide) 4 (.int .i64 (tot + (cn : Int))))
                have HBvG := Aside0.mk (ints_set HBvF.out HVF.out (by decide) 4 (.int .i64 (tot + (cn : Int))))
                have HBG := Aside0.mk (Below.setCell HBF.out (p := ⟨g, 4, none⟩) hgw (.int .i64 (tot + (cn : Int))))
                clear HVF BXF HFF HBvF HBF hHeld
                generalize wF.setCell ⟨g, 4, none⟩ (.int .i64 (tot + (cn : Int))) = wG at HVG BXG HFG HBvG HBG ⊢
                clear wF
                go_wp2
                have HVH := Aside0.mk (blk_drew HVG.out)
                have BXH := Aside0.mk (blk_drew BXG.out)
                have HFH := Aside0.mk (Kd.R_below HFG.out (below_drew (Below.refl _ _)))
                have HBvH := Aside0.mk (Kd.R_below HBvG.out (below_drew (Below.refl _ _)))
                have HBH := Aside0.mk (below_drew HBG.out)
                clear HVG BXG HFG HBvG HBG
                have s1 := S1.out
                refine start_ (n := 18) (S := fun w' => w'.cell? ⟨g, 3, none⟩ = some bv ∧ w'.cell? ⟨wr.heap.size, 0, none⟩ = some (.int .i64 x.f0) ∧ w'.cell? ⟨wr.heap.size, 1, none⟩ = some (.slice A1 x.f1.length c1)) (ds := [17]) #[bF, bF, bF, bF, bF, bF, bF, bF, bF, bF, bF, bF, bF, bF, bF, bF, bF, bF] (by kernel_rfl) rfl rfl ⟨(blk_cell HVH.out 3).trans rfl, (blk_cell BXH.out 0).trans rfl, (blk_cell BXH.out 1).trans rfl⟩ (fun hHeld => ?_)
                generalize wG.drew = wH at HVH BXH HFH HBvH HBH hHeld ⊢
                refine pure_ (i := 0) (N := some 79) (v := ?_) (a' := ?_) #[bT, bF, bF, bF, bF, bF, bF, bF, bF, bF, bF, bF, bF, bF, bF, bF, bF, bF] rfl rfl (by kernel_rfl) (fun _ _ _ h => h) (Or.inl ⟨by rfl, ?_⟩) ?_ ?_
                rotate_left
                · intro w'
                  go_simp
                  with_reducible rfl
                rotate_left
                · simp only [Act.put, lA, lB, lC, i64_w, i32_w]
                  rfl
                refine pure_ (i := 1) (N := some 80) (v := ?_) (a' := ?_) #[bT, bT, bF, bF, bF, bF, bF, bF, bF, bF, bF, bF, bF, bF, bF, bF, bF, bF] rfl rfl (by kernel_rfl) (fun _ _ _ h => h) (Or.inl ⟨by rfl, ?_⟩) ?_ ?_
                rotate_left
                · intro w'
                  go_simp
                  with_reducible rfl
                rotate_left
                · simp only [Act.put, lA, lB, lC, i64_w, i32_w]
                  rfl
                refine pure_ (i := 2) (N := some 81) (v := ?_) (a' := ?_) #[bT, bT, bT, bF, bF, bF, bF, bF, bF, bF, bF, bF, bF, bF, bF, bF, bF, bF] rfl rfl (by kernel_rfl) (fun _ _ _ h => h) (Or.inl ⟨by rfl, ?_⟩) ?_ ?_
                rotate_left
                · intro w'
                  go_simp
                  with_reducible rfl
                rotate_left
                · simp only [Act.put, lA, lB, lC, i64_w, i32_w]
                  rfl
                refine pure_ (i := 3) (N := some 82) (v := ?_) (a' := ?_) #[bT, bT, bT, bT, bF, bF, bF, bF, bF, bF, bF, bF, bF, bF, bF, bF, bF, bF] rfl rfl (by kernel_rfl) (fun _ _ _ h => h) (Or.inl ⟨by rfl, ?_⟩) ?_ ?_
                rotate_left
                · intro w'
                  go_simp
                  with_reducible rfl
                rotate_left
                · simp only [Act.put, lA, lB, lC, i64_w, i32_w]
                  rfl
                refine take_ (i := 4) (N := some 83) (v := ?_) (a' := ?_) #[bT, bT, bT, bT, bT, bF, bF, bF, bF, bF, bF, bF, bF, bF, bF, bF, bF, bF] rfl rfl (by kernel_rfl) (fun _ _ _ h => h) (Or.inl ⟨by rfl, ?_⟩) hHeld ?_ ?_
                rotate_left
                · rintro w' ⟨s0, s1, s2⟩
                  go_simp
                  with_reducible rfl
                rotate_left
                · simp only [Act.put, lA, lB, lC, i64_w, i32_w]
                  rfl
                refine pure_ (i := 5) (N := some 84) (v := ?_) (a' := ?_) #[bT, bT, bT, bT, bT, bT, bF, bF, bF, bF, bF, bF, bF, bF, bF, bF, bF, bF] rfl rfl (by kernel_rfl) (fun _ _ _ h => h) (Or.inl ⟨by rfl, ?_⟩) ?_ ?_
                rotate_left
                · intro w'
                  go_simp
                  with_reducible rfl
                rotate_left
                · simp only [Act.put, lA, lB, lC, i64_w, i32_w]
                  rfl
                refine pure_ (i := 7) (N := some 86) (v := ?_) (a' := ?_) #[bT, bT, bT, bT, bT, bT, bF, bT, bF, bF, bF, bF, bF, bF, bF, bF, bF, bF] rfl rfl (by kernel_rfl) (fun _ _ _ h => h) (Or.inl ⟨by rfl, ?_⟩) ?_ ?_
                rotate_left
                · intro w'
                  go_simp
                  with_reducible rfl
                rotate_left
                · simp only [Act.put, lA, lB, lC, i64_w, i32_w]
                  rfl
                refine take_ (i := 8) (N := some 87) (v := ?_) (a' := ?_) #[bT, bT, bT, bT, bT, bT, bF, bT, bT, bF, bF, bF, bF, bF, bF, bF, bF, bF] rfl rfl (by kernel_rfl) (fun _ _ _ h => h) (Or.inl ⟨by rfl, ?_⟩) hHeld ?_ ?_
                rotate_left
                · rintro w' ⟨s0, s1, s2⟩
                  go_simp
                  with_reducible rfl
                rotate_left
                · simp only [Act.put, lA, lB, lC, i64_w, i32_w]
                  rfl
                refine pure_ (i := 9) (N := some 88) (v := ?_) (a' := ?_) #[bT, bT, bT, bT, bT, bT, bF, bT, bT, bT, bF, bF, bF, bF, bF, bF, bF, bF] rfl rfl (by kernel_rfl) (fun _ _ _ h => h) (Or.inl ⟨by rfl, ?_⟩) ?_ ?_
                rotate_left
                · intro w'
                  go_simp
                  with_reducible rfl
                rotate_left
                · simp only [Act.put, lA, lB, lC, i64_w, i32_w]
                  rfl
                refine take_ (i := 10) (N := some 89) (v := ?_) (a' := ?_) #[bT, bT, bT, bT, bT, bT, bF, bT, bT, bT, bT, bF, bF, bF, bF, bF, bF, bF] rfl rfl (by kernel_rfl) (fun _ _ _ h => h) (Or.inl ⟨by rfl, ?_⟩) hHeld ?_ ?_
                rotate_left
                · rintro w' ⟨s0, s1, s2⟩
                  go_simp
                  with_reducible rfl
                rotate_left
                · simp only [Act.put, lA, lB, lC, i64_w, i32_w]
                  rfl
                refine pure_ (i := 11) (N := some 90) (v := ?_) (a' := ?_) #[bT, bT, bT, bT, bT, bT, bF, bT, bT, bT, bT, bT, bF, bF, bF, bF, bF, bF] rfl rfl (by kernel_rfl) (fun _ _ _ h => h) (Or.inl ⟨by rfl, ?_⟩) ?_ ?_
                rotate_left
                · intro w'
                  go_simp
                  with_reducible rfl
                rotate_left
                · simp only [Act.put, lA, lB, lC, i64_w, i32_w]
                  rfl
                refine pure_ (i := 12) (N := some 91) (v := ?_) (a' := ?_) #[bT, bT, bT, bT, bT, bT, bF, bT, bT, bT, bT, bT, bT, bF, bF, bF, bF, bF] rfl rfl (by kernel_rfl) (fun _ _ _ h => h) (Or.inl ⟨by rfl, ?_⟩) ?_ ?_
                rotate_left
                · intro w'
                  go_simp
                  with_reducible rfl
                rotate_left
                · simp only [Act.put, lA, lB, lC, i64_w, i32_w]
                  rfl
                refine one_ (i := 6) (N := some 85) #[bT, bT, bT, bT, bT, bT, bT, bT, bT, bT, bT, bT, bT, bF, bF, bF, bF, bF] rfl rfl (by kernel_rfl) (by decide) (fun K hK => ?_)
                refine value_ (w1 := wH.alloc (.cells #[.int .i64 (i : Int)] 3)) (v := .slice (some ⟨wH.heap.size, 0, none⟩) 1 1) (by rfl) rfl (by go_simp; first | done | rfl) ?_
                have HVI := Aside0.mk (blk_alloc HVH.out (.cells #[.int .i64 (i : Int)] 3))
                have BXI := Aside0.mk (blk_alloc BXH.out (.cells #[.int .i64 (i : Int)] 3))
                have HFI1 := Aside0.mk (Kd.R_alloc HFH.out (.cells #[.int .i64 (i : Int)] 3))
                have HBvI := Aside0.mk (Kd.R_alloc HBvH.out (.cells #[.int .i64 (i : Int)] 3))
                have HBI := Aside0.mk (below_alloc HBH.out (.cells #[.int .i64 (i : Int)] 3))
                have IL := Aside0.mk (ints_lit wH (i : Int) 3)
                refine hK.out _ _ ⟨(blk_cell HVI.out 3).trans rfl, (blk_cell BXI.out 0).trans rfl, (blk_cell BXI.out 1).trans rfl⟩ (fun hHeld => ?_)
                clear hK K
                refine norm_ (a' := ?_) ?_ ?_
                rotate_left
                · show Act.put _ (some 85) _ = _
                  simp only [Act.put, lA, lB, lC, i64_w, i32_w]
                  rfl
                refine one_ (i := 13) (N := some 92) #[bT, bT, bT, bT, bT, bT, bT, bT, bT, bT, bT, bT, bT, bT, bF, bF, bF, bF] rfl rfl (by kernel_rfl) (by decide) (fun K hK => ?_)
                refine goes_ Tryz.func59 (by kernel_rfl) rfl #[.slice (some ⟨wH.heap.size, 0, none⟩) 1 1, .int .i64 (cn : Int)] (by rfl) rfl rfl (by (try simp only [List.map_toArray, List.map_cons, List.map_nil]); first | done | rfl) ?_
                refine (repeat_calls _ 1 (i : Int) cn _ (by omega) IL.out).mono ?_
                rintro e wJ ⟨u, rfl, ho, hb⟩
                obtain ⟨rA, rc, rfl, hrc, hC⟩ := Kd.R_reads ho
                refine ⟨_, rfl, ?_⟩
                have HVJ := Aside0.mk (blk_below HVI.out hb)
                have BXJ := Aside0.mk (blk_below BXI.out hb)
                have HFJ := Aside0.mk (Kd.R_below HFI1.out hb)
                have HBvJ := Aside0.mk (Kd.R_below HBvI.out hb)
                have HBJ := Aside0.mk (below_then HBI.out HBI.out.size hb)
                have HCJ := Aside0.mk hC
                clear ho hb hC HVI BXI HFI1 HBvI HBI IL HVH BXH HFH HBvH HBH hHeld
                refine hK.out _ _ ⟨(blk_cell HVJ.out 3).trans rfl, (blk_cell BXJ.out 0).trans rfl, (blk_cell BXJ.out 1).trans rfl⟩ (fun hHeld => ?_)
                clear hK K
                refine norm_ (a' := ?_) ?_ ?_
                rotate_left
                · show Act.put _ (some 92) _ = _
                  simp only [Act.put, lA, lB, lC, i64_w, i32_w]
                  rfl
                refine one_ (i := 14) (N := some 93) #[bT, bT, bT, bT, bT, bT, bT, bT, bT, bT, bT, bT, bT, bT, bT, bF, bF, bF] rfl rfl (by kernel_rfl) (by decide) (fun K hK => ?_)
                refine Kd.R_append_rows_step (Kd.int .i64) (Rr := (Kd.int .i64).K wJ) (w0 := w) w.heap.size (by rfl) (.tmp 83) (.tmp 92) 50 3 (.int .i64 0) 8 rfl Tryz.underlying50 info3 rfl (by decide) (by omega) bv bl (List.replicate cn (i : Int)) rA (List.replicate cn (i : Int)).length rc (fun k => some k ≠ (Value.slice fA (fi ++ [tot]).length fc).ownBlock) (fun _ => False) (by rfl) (by rfl) HBvJ.out HCJ.out (fun x cs h => h) (fun _ hk => hk.elim) (fun k hk he => by have := Kd.R_lt HFJ.out k he.symm; omega) HBJ.out HBJ.out.size (by simp; omega) ?_
                intro bv' wK ho hb hg hat
                obtain ⟨bA, bc, rfl⟩ := Kd.R_slice ho
                have HVK := Aside0.mk (blk_grown HVJ.out hg (Kd.R_ne HBvJ.out HVJ.out (by decide)))
                have BXK := Aside0.mk (blk_grown BXJ.out hg (Kd.R_ne HBvJ.out BXJ.out (by decide)))
                have HFK := Aside0.mk (Kd.R_mono (Kd.R_after (ok := fun _ => True) (Kd.R_mono HFJ.out (fun k hk => ⟨trivial, hk⟩)) hg hat) (fun k hk => hk.2))
                have HBvK := Aside0.mk ho
                have HBK := Aside0.mk hb
                clear ho hb hg hat HVJ BXJ HFJ HBvJ HBJ HCJ hHeld
                refine hK.out _ _ ⟨(blk_cell HVK.out 3).trans rfl, (blk_cell BXK.out 0).trans rfl, (blk_cell BXK.out 1).trans rfl⟩ (fun hHeld => ?_)
                clear hK K
                refine norm_ (a' := ?_) ?_ ?_
                rotate_left
                · show Act.put _ (some 93) _ = _
                  simp only [Act.put, lA, lB, lC, i64_w, i32_w]
                  rfl
                refine pure_ (i := 15) (N := some 94) (v := ?_) (a' := ?_) #[bT, bT, bT, bT, bT, bT, bT, bT, bT, bT, bT, bT, bT, bT, bT, bT, bF, bF] rfl rfl (by kernel_rfl) (fun _ _ _ h => h) (Or.inl ⟨by rfl, ?_⟩) ?_ ?_
                rotate_left
                · intro w'
                  go_simp
                  with_reducible rfl
                rotate_left
                · simp only [Act.put, lA, lB, lC, i64_w, i32_w]
                  rfl
                refine pure_ (i := 16) (N := some 95) (v := ?_) (a' := ?_) #[bT, bT, bT, bT, bT, bT, bT, bT, bT, bT, bT, bT, bT, bT, bT, bT, bT, bF] rfl rfl (by kernel_rfl) (fun _ _ _ h => h) (Or.inl ⟨by rfl, ?_⟩) ?_ ?_
                rotate_left
                · intro w'
                  go_simp
                  with_reducible rfl
                rotate_left
                · simp only [Act.put, lA, lB, lC, i64_w, i32_w]
                  rfl
                refine last_ (i := 17) (N := none) #[bT, bT, bT, bT, bT, bT, bT, bT, bT, bT, bT, bT, bT, bT, bT, bT, bT, bT] rfl rfl (by kernel_rfl) (by decide) (fun K hK => ?_)
                refine store_step (by rfl) rfl rfl (g := g) (i := 3) (u := .slice bA (bl ++ List.replicate cn (i : Int)).length bc) (by rfl) (by rfl) HVK.out rfl rfl size_ints (by show 3 < 5; decide) ?_
                refine hK.out _ _ ?_
                clear hK K
                refine done_ (by kernel_rfl) ?_
                clear s1
                have HV := Aside0.mk (show (wK.setCell ⟨g, 3, none⟩ (.slice bA (bl ++ List.replicate cn (i : Int)).length bc)).heap[g]? = some (.cells #[.int .i64 p, .slice (some ad) bs.length c, .slice fA (fi ++ [tot]).length fc, .slice bA (bl ++ List.replicate cn (i : Int)).length bc, .int .i64 (tot + (cn : Int))] 104 (0, 0)) from blk_set HVK.out 3 _)
                have HF := Aside0.mk (ints_set HFK.out HVK.out (by decide) 3 (.slice bA (bl ++ List.replicate cn (i : Int)).length bc))
                have HBv := Aside0.mk (ints_set HBvK.out HVK.out (by decide) 3 (.slice bA (bl ++ List.replicate cn (i : Int)).length bc))
                have HB := Aside0.mk (Below.setCell HBK.out (p := ⟨g, 3, none⟩) hgw (.slice bA (bl ++ List.replicate cn (i : Int)).length bc))
                clear HVK HFK HBvK HBK hHeld
                generalize wK.setCell ⟨g, 3, none⟩ (.slice bA (bl ++ List.replicate cn (i : Int)).length bc) = wL at HV HF HBv HB ⊢
                clear BXK wK
                go_wp2
                go_roundw
                case measure => simp [intOf]; omega
                case rel => exact ⟨i + 1, fi ++ [tot], bl ++ List.replicate cn (i : Int), tot + (cn : Int), _, _, by go_num, by omega, by omega, by omega, by simp [hfl], by simp; omega, ⟨all_step hx HA.out H1X.out⟩, ⟨numFi_step hx CN.out HFI.out⟩, ⟨numBl_step hx CN.out HBL.out⟩, ⟨numTot_step hx CN.out HTO.out⟩, HV, HF, HBv, HB⟩
          · obtain rfl : i = bs.length := by omega
            have hx4 : wr.cell? ⟨g, 4, none⟩ = some (.int .i64 tot) := (blk_cell HV.out 4).trans rfl
            go_wp2
            go_region_held3 (fun w' => w'.cell? ⟨g, 4, none⟩ = some (.int .i64 tot)) (go_keep) (fail)
            go_wp2
            go_ret2
            have hok : numOK p bs = true := by
              have h := HA.out
              rw [List.take_length] at h
              unfold numOK
              rw [PRE.out, h]
              rfl
            have e1 : numTot p bs = tot := by
              have h := HTO.out
              rw [List.drop_length] at h
              exact h.symm
            have e2 : viewFi p bs = fi := by
              have h := HFI.out
              rw [List.drop_length] at h
              simpa [numFi] using h.symm
            have e3 : viewBl p bs = bl := by
              have h := HBL.out
              rw [List.drop_length] at h
              simpa [numBl] using h.symm
            unfold NumPost
            rw [hok, e1, e2, e3]
            obtain ⟨Af, cf, rfl, hcf, hCf⟩ := Kd.R_reads HF.out
            obtain ⟨Ab, cb, rfl, hcb, hCb⟩ := Kd.R_reads HBv.out
            exact ⟨⟨g, rfl, some ad, c, Af, cf, Ab, cb, blk_drew HV.out, hc, hcf, hcb, Kd.C_below HR.out (below_drew HB.out), Kd.C_drew hCf, Kd.C_drew hCb⟩, below_drew HB.out⟩
end Go.Proofs.YtjpkcbkkjefekaaGreatDoor.V
