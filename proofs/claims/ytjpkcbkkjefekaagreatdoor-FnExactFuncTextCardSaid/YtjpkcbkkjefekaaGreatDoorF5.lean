/- A part of the session's texts, laid small by the session's shrink.py. -/
import Derived.Test.YtjpkcbkkjefekaaGreatDoorF4
import Derived.Test.YtjpkcbkkjefekaaGreatDoorEX
namespace Go.Proofs.YtjpkcbkkjefekaaGreatDoor.V
open Go.RowKit Go.Proofs.YtjpkcbkkjefekaaGreatDoorW.PrintWords Go.Proofs.YtjpkcbkkjefekaaGreatDoorW.PrintLast Go.Proofs.YtjpkcbkkjefekaaGreatDoorW.PrintMore
open Go.Proofs.YtjpkcbkkjefekaaGreatDoor.PA
set_option linter.unusedVariables false
set_option linter.unusedSimpArgs false
theorem mem_LB {l : List S43} {b} (h : b ∈ l) : ∃ i : Nat, i < l.length ∧ rd_T43 l (i : Int) = b := by
  obtain ⟨i, hi, rfl⟩ := List.getElem_of_mem h
  exact ⟨i, hi, by unfold rd_T43; rw [Int.toNat_natCast, List.getD_eq_getElem?_getD, List.getElem?_eq_getElem hi]; rfl⟩
theorem mem_LI {l : List S97} {b} (h : b ∈ l) : ∃ i : Nat, i < l.length ∧ rd_T97 l (i : Int) = b := by
  obtain ⟨i, hi, rfl⟩ := List.getElem_of_mem h
  exact ⟨i, hi, by unfold rd_T97; rw [Int.toNat_natCast, List.getD_eq_getElem?_getD, List.getElem?_eq_getElem hi]; rfl⟩
theorem mem_LJ {l : List S99} {b} (h : b ∈ l) : ∃ i : Nat, i < l.length ∧ rd_T99 l (i : Int) = b := by
  obtain ⟨i, hi, rfl⟩ := List.getElem_of_mem h
  exact ⟨i, hi, by unfold rd_T99; rw [Int.toNat_natCast, List.getD_eq_getElem?_getD, List.getElem?_eq_getElem hi]; rfl⟩
theorem lens_of {w : World} {A : Option Addr} {l : List S43} (hr : k43.C w A l.length l) : lenF 9223372036854775807 l := by
  refine ⟨Kd.C_max hr, fun b hb => ?_⟩
  obtain ⟨i, hi, rfl⟩ := mem_LB hb
  obtain ⟨ad, A1, c1, A4, c4, -, -, -, -, -, -, -, h1, -, h4⟩ := at_T43 hr (i : Int) (by omega) (by omega)
  refine ⟨⟨Kd.C_max h1, fun x hx => ?_⟩, Kd.C_max h4, fun x hx => ?_⟩
  · obtain ⟨j, hj, rfl⟩ := mem_LI hx
    obtain ⟨ad2, A2, c2, -, -, -, -, -, h2⟩ := at_T97 h1 (j : Int) (by omega) (by omega)
    exact Kd.C_max h2
  · obtain ⟨j, hj, rfl⟩ := mem_LJ hx
    obtain ⟨ad2, A2, c2, -, -, -, -, h2⟩ := at_T99 h4 (j : Int) (by omega) (by omega)
    exact Kd.C_max h2
theorem wf_i64 {n : Int} (h : (Lit.int .i64 n).wf = true) : -9223372036854775808 ≤ n ∧ n ≤ 9223372036854775807 := by
  simp [Lit.wf, IntKind.min, IntKind.max, IntKind.bits, IntKind.signed] at h
  omega
theorem alloc_go {P : Program} {W : World} {t : TypeId} {z : Value} (h : (P.info? t).map (fun i => i.zero) = some (some z)) : (Instr.alloc t true (.tuple #[])).run P W = .ok (.pointer (some ⟨W.heap.size, 0, none⟩)) (W.alloc (.cells z.cells t (0, 0))) := by
  obtain ⟨i, hi, hz⟩ : ∃ i, P.info? t = some i ∧ i.zero = some z := by
    cases h2 : P.info? t with
    | none => rw [h2] at h; cases h
    | some i => rw [h2] at h; exact ⟨i, rfl, Option.some.inj h⟩
  simp [Instr.alloc, zeroValue, typeInfo, hi, hz, newVar, newRow]
theorem exec_alloc {P : Program} {W : World} {ρ : Operand → Value} {o : Oper} {t : TypeId} (z : Value) {cs : Array Value} (hc : z.cells = cs) (ho : o.op = .alloc t) (h : (P.info? t).map (fun i => i.zero) = some (some z)) : (execOp ρ o).run P W = .ok (.value (.pointer (some ⟨W.heap.size, 0, none⟩))) (W.alloc (.cells cs t (0, 0))) := by
  subst hc
  unfold execOp
  rw [ho]
  simp [alloc_go h]
theorem infoF : (Tryz.prog.info? 30).map (fun i => i.zero) = some (some (.agg #[.int .i64 0, .slice none 0 0])) := by kernel_rfl
theorem pair_store {P : Program} {W : World} {a : Act} {o : Oper} {t e : TypeId} {p x : Operand} {g : Nat} {c0 c1 u v : Value} (ho : o.op = .store t p x) (haddr : a.eval p = .pointer (some ⟨g, 0, none⟩)) (hx : a.eval x = .agg #[u, v])
    (hh : W.heap[g]? = some (.cells #[c0, c1] e (0, 0))) (h1 : u.oneCell' = true) (h2 : v.oneCell' = true) (hc : (Value.agg #[u, v]).cells.toList = [u, v]) (ht : (P.info? t).map (·.size) = some 2) :
    (execOp a.eval o).run P W = .ok .skip (W.setCells g 0 [u, v]) := by
  have hrun : (Instr.storeAt t (.pointer (some ⟨g, 0, none⟩)) (.agg #[u, v])).run P W = .ok () (W.setCells g 0 [u, v]) := run_store_run t _ [u, v] hh hc ht (by simp) (fun q hq => by
    rcases List.mem_cons.1 hq with rfl | hq
    · exact h1
    · rw [List.mem_singleton.1 hq]; exact h2)
  unfold execOp
  simp only [ho, haddr, hx, Sem.run_bind, Sem.run_pure, Result.andThen_ok, hrun]
theorem pair_row {W : World} {g : Nat} {c0 c1 u v : Value} {e : TypeId} (hh : W.heap[g]? = some (.cells #[c0, c1] e (0, 0))) : (W.setCells g 0 [u, v]).heap[g]? = some (.cells #[u, v] e (0, 0)) := by
  have h := blk_set (blk_set hh 0 u) 1 v
  exact h
theorem pair_below {w W : World} {g : Nat} {u v : Value} (h : Below w.heap.size w W) (hg : w.heap.size ≤ g) : Below w.heap.size w (W.setCells g 0 [u, v]) := by
  have := below_set (below_set h hg (j := 0) (v := u)) hg (j := 1) (v := v)
  exact this
theorem sizeF : (Tryz.prog.info? 30).map (·.size) = some 2 := by kernel_rfl
def LawPost (w : World) (e : Ending) (w' : World) : Prop := e = .returned (.bool true) ∧ Below w.heap.size w w'
set_option maxHeartbeats 800000 in
set_option maxRecDepth 100000 in
theorem exactFuncText_walk (A : Option Addr) (c : Nat) (p : Int) (l : List S43) (w : World) (hr : k43.C w A l.length l) (hc : l.length ≤ c) (hw : ∀ b ∈ l, ∀ x ∈ b.f1, -9223372036854775808 ≤ x.f1 ∧ x.f1 ≤ 9223372036854775807) (ht : Tab w) :
    Calls Tryz.prog 3 #[.agg #[.int .i64 p, .slice A l.length c]] w (LawPost w) := by
  obtain ⟨rz, hev, hrz⟩ := szFunc_ev p l (lens_of hr)
  obtain ⟨ks, hks⟩ := hev.rounds
  have HZ := Aside0.mk (fun W (hW : Below w.heap.size w W) => laws_szFunc.calls ks p A c l 1048576 rz W (Kd.C_below hr hW) hc hks)
  have hm := Kd.C_max hr
  have hu := Tryz.underlying24
  have hu2 := Tryz.underlying30
  clear hks hev
  by_cases hneg : rz < 0
  · have hd : decide (rz < 0) = true := decide_eq_true hneg
    clear hneg hrz hw hr ht
    go_enter Tryz.func3, Tryz.ntmps3
    go_wp2_with (first
      | ((with_reducible refine gate_dst (N := 1) rfl ?_); refine box_event ?hg (N := 1) ?hd (cs := #[.int .i64 p, .slice A l.length c]) (t := 24) ?hr ?_; (case hd => rfl); (case hg => rfl); (case hr => first | (go_simp; done) | (go_simp; rfl)); intro b hg w1 hbox hb; have x0 : w1.cell? ⟨b, 0, none⟩ = some (.int .i64 p) := (blk_cell hbox 0).trans rfl; have x1 : w1.cell? ⟨b, 1, none⟩ = some (.slice A l.length c) := (blk_cell hbox 1).trans rfl; have HB1 := Aside0.mk hb; clear hb hbox hg)
      | (go_at_call 4; refine (HZ.out _ HB1.out).mono ?_; rintro e w2 ⟨rfl, hb⟩; have HB2 := Aside0.mk (below_then HB1.out HB1.out.size hb); clear hb))
    go_ret
    exact ⟨rfl, HB2.out⟩
  · obtain ⟨-, hL⟩ := hrz.resolve_left hneg
    have hd : decide (rz < 0) = false := decide_eq_false hneg
    clear hneg hrz
    obtain ⟨l', hl'⟩ : ∃ l', l' = l.map toB := ⟨_, rfl⟩
    have hlen : l'.length = l.length := by rw [hl']; simp
    have hn : NumsOK l' := by
      intro b hb x hx
      rw [hl'] at hb
      obtain ⟨b0, hb0, rfl⟩ := List.mem_map.1 hb
      obtain ⟨x0, hx0, rfl⟩ := List.mem_map.1 (show x ∈ b0.f1.map toI from hx)
      exact hw b0 hb0 x0 hx0
    obtain ⟨kt, hkt⟩ := (toFunc_ev p l hL).rounds
    obtain ⟨ke, hke⟩ := (eqFunc_ev p l hL).rounds
    obtain ⟨kf, hkf⟩ := (specText_ev p l' hn).rounds
    rw [← hl'] at hkt hke
    have TN : Aside0 (∀ W, Below w.heap.size w W → Calls Tryz.prog 6 #[.agg #[.int .i64 p, .slice A l.length c]] W fun e w' => ∃ (A1 : Option Addr) (c1 : Nat), e = .returned (.agg #[.int .i64 p, .slice A1 l'.length c1]) ∧ l'.length ≤ c1 ∧ k48.C w' A1 l'.length l' ∧ Below W.heap.size W w') := by
      refine ⟨fun W hW => (laws_toFunc.calls kt p A c l p l' W (Kd.C_below hr hW) hc hkt).mono ?_⟩
      rintro e w' ⟨v, rfl, ho, hb⟩
      obtain ⟨A1, c1, rfl, h1, h2⟩ := Kd.R_reads ho
      exact ⟨A1, c1, rfl, h1, h2, hb⟩
    have HS : Aside0 (∀ (A1 : Option Addr) (c1 : Nat) W, k48.C W A1 l'.length l' → l'.length ≤ c1 → Calls Tryz.prog 5 #[.agg #[.int .i64 p, .slice A1 l'.length c1]] W fun e w' => e = .returned (.tuple #[.string (textR p l').1, .bool (textR p l').2]) ∧ Below W.heap.size W w') :=
      ⟨fun A1 c1 W h1 h2 => spec_FuncText.calls kf p A1 c1 l' _ _ W h1 h2 hkf⟩
    have HI : Aside0 (∀ (A1 : Option Addr) (c1 : Nat) W, Below w.heap.size w W → k48.C W A1 l'.length l' → l'.length ≤ c1 → Calls Tryz.prog 7 #[.agg #[.int .i64 p, .slice A1 l'.length c1]] W fun e w' => e = .returned (.tuple #[.string (textR p l').1, .bool (textR p l').2]) ∧ Below W.heap.size W w') :=
      ⟨fun A1 c1 W hW h1 h2 => implText_calls A1 c1 p l' W (ht.on hW) h1 h2 hn⟩
    have HE : Aside0 (∀ (A1 A2 : Option Addr) (c1 c2 : Nat) W, k48.C W A1 l'.length l' → l'.length ≤ c1 → k48.C W A2 l'.length l' → l'.length ≤ c2 → Calls Tryz.prog 8 #[.agg #[.int .i64 p, .slice A1 l'.length c1], .agg #[.int .i64 p, .slice A2 l'.length c2]] W fun e w' => e = .returned (.bool true) ∧ Below W.heap.size W w') :=
      ⟨fun A1 A2 c1 c2 W h1 h2 h3 h4 => laws_eqFunc.calls ke p A1 c1 l' p A2 c2 l' true W h1 h2 h3 h4 hke⟩
    generalize (textR p l').1 = txt at HS HI
    generalize (textR p l').2 = fine at HS HI
    clear hkt hke hkf hl' hw hr ht hn hL
    have hm2 : l'.length ≤ 9223372036854775807 := by omega
    clear hlen
    go_enter Tryz.func3, Tryz.ntmps3
    go_wp2_with (first
      | ((with_reducible refine gate_dst (N := 1) rfl ?_); refine box_event ?hg (N := 1) ?hd (cs := #[.int .i64 p, .slice A l.length c]) (t := 24) ?hr ?_; (case hd => rfl); (case hg => rfl); (case hr => first | (go_simp; done) | (go_simp; rfl)); intro b hg w1 hbox hb; have BK1 := Aside0.mk hbox; have x0 : w1.cell? ⟨b, 0, none⟩ = some (.int .i64 p) := (blk_cell hbox 0).trans rfl; have x1 : w1.cell? ⟨b, 1, none⟩ = some (.slice A l.length c) := (blk_cell hbox 1).trans rfl; have HB1 := Aside0.mk hb; clear hb hbox hg)
      | (go_at_call 4; refine (HZ.out _ HB1.out).mono ?_; rintro e w2 ⟨rfl, hb⟩; have HB2 := Aside0.mk (below_then HB1.out HB1.out.size hb); have BK2 := Aside0.mk (blk_below BK1.out hb); have y0 : w2.cell? ⟨b, 0, none⟩ = some (.int .i64 p) := (blk_cell BK2.out 0).trans rfl; have y1 : w2.cell? ⟨b, 1, none⟩ = some (.slice A l.length c) := (blk_cell BK2.out 1).trans rfl; clear hb BK1 HB1 x0 x1)
      | (go_at_call 6; refine (TN.out _ HB2.out).mono ?_; rintro e w3 ⟨A1, c1, rfl, hc1, hC1, hb⟩; have H1 := Aside0.mk hC1; have HB3 := Aside0.mk (below_then HB2.out HB2.out.size hb); have BK3 := Aside0.mk (blk_below BK2.out hb); clear hb hC1 BK2 HB2 y0 y1)
      | (go_at_call 5; refine (HS.out A1 c1 _ H1.out hc1).mono ?_; rintro e w4 ⟨rfl, hb⟩; have HB4 := Aside0.mk (below_then HB3.out HB3.out.size hb); have BK4 := Aside0.mk (blk_below BK3.out hb); have y0 : w4.cell? ⟨b, 0, none⟩ = some (.int .i64 p) := (blk_cell BK4.out 0).trans rfl; have y1 : w4.cell? ⟨b, 1, none⟩ = some (.slice A l.length c) := (blk_cell BK4.out 1).trans rfl; clear hb hc1 H1 BK3 HB3)
      | (go_at_call 6; refine (TN.out _ HB4.out).mono ?_; rintro e w5 ⟨A2, c2, rfl, hc2, hC2, hb⟩; have H2 := Aside0.mk hC2; have HB5 := Aside0.mk (below_then HB4.out HB4.out.size hb); have BK5 := Aside0.mk (blk_below BK4.out hb); clear hb hC2 BK4 HB4 y0 y1)
      | ((with_reducible refine gate_dst (N := 6) rfl ?_); with_reducible refine box_event ?hg (N := 6) ?hd (cs := #[.int .i64 0, .slice none 0 0]) (t := 30) ?hr ?_; (case hd => rfl); (case hg => rfl); (case hr => exact exec_alloc (t := 30) (.agg #[.int .i64 0, .slice none 0 0]) rfl rfl infoF); intro g hg w6 hbox hb; have GE := Aside0.mk (show w.heap.size ≤ g by rw [hg]; exact HB5.out.size); have NE := Aside0.mk (show b ≠ g by rw [hg]; exact Nat.ne_of_lt (blk_lt BK5.out)); have GK6 := Aside0.mk hbox; have HO5 := Aside0.mk (below_then HB5.out HB5.out.size (Below.refl _ _)); have GF := Aside0.mk (show w5.heap.size ≤ g by rw [hg]; exact Nat.le_refl _); have HQ := Aside0.mk hb; clear hb hbox hg HB5)
      | ((with_reducible refine gate_store (t := 30) (p := 6) rfl ?_); refine store_event (t := 30) (p := 6) (v := .tmp 21) (w1 := w6.setCells g 0 [.int .i64 p, .slice A2 l'.length c2]) ?hg ?ho ?hn ?hr ?_; (case ho => rfl); (case hg => rfl); (case hn => rfl); (case hr => exact pair_store (p := .tmp 6) (x := .tmp 21) rfl rfl rfl GK6.out rfl rfl rfl sizeF); intro w7 hw; have GK7 := Aside0.mk (show w7.heap[g]? = some (.cells #[.int .i64 p, .slice A2 l'.length c2] 30 (0, 0)) by rw [hw]; exact pair_row GK6.out); have HQ7 := Aside0.mk (show Below w5.heap.size w5 w7 by rw [hw]; exact pair_below HQ.out GF.out); have HB7 := Aside0.mk (show Below w.heap.size w w7 from below_then HO5.out HO5.out.size HQ7.out); have BK7 := Aside0.mk (blk_below BK5.out HQ7.out); have H7 := Aside0.mk (Kd.C_below H2.out HQ7.out); have z0 : w7.cell? ⟨g, 0, none⟩ = some (.int .i64 p) := (blk_cell GK7.out 0).trans rfl; have z1 : w7.cell? ⟨g, 1, none⟩ = some (.slice A2 l'.length c2) := (blk_cell GK7.out 1).trans rfl; clear hw GK6 HQ HO5 H2 BK5 GF))
    refine (HI.out A2 c2 _ HB7.out H7.out hc2).mono ?_
    rintro e w8 ⟨rfl, hb⟩
    have HB8 := Aside0.mk (below_then HB7.out HB7.out.size hb)
    have BK8 := Aside0.mk (blk_below BK7.out hb)
    have GK8 := Aside0.mk (blk_below GK7.out hb)
    have H8 := Aside0.mk (Kd.C_below H7.out hb)
    clear hb BK7 GK7 H7 HB7 z0 z1
    go_wp2_with fail
    have HB9 := Aside0.mk (below_drew HB8.out)
    have BK9 := Aside0.mk (blk_drew BK8.out)
    have GK9 := Aside0.mk (blk_drew GK8.out)
    have H9 := Aside0.mk (Kd.C_drew H8.out)
    clear HB8 BK8 GK8 H8
    refine start_ (n := 5) (S := fun w' => w'.cell? ⟨g, 0, none⟩ = some (.int .i64 p) ∧ w'.cell? ⟨g, 1, none⟩ = some (.slice A2 l'.length c2) ∧ w'.cell? ⟨b, 0, none⟩ = some (.int .i64 p) ∧ w'.cell? ⟨b, 1, none⟩ = some (.slice A l.length c)) (ds := []) #[bF, bF, bF, bF, bF] (by kernel_rfl) rfl rfl ⟨(blk_cell GK9.out 0).trans rfl, (blk_cell GK9.out 1).trans rfl, (blk_cell BK9.out 0).trans rfl, (blk_cell BK9.out 1).trans rfl⟩ (fun hHeld => ?_)
    generalize w8.drew = w9 at BK9 GK9 HB9 H9 hHeld ⊢
    refine take_ (i := 0) (N := some 35) (v := ?_) (a' := ?_) #[bT, bF, bF, bF, bF] rfl rfl (by kernel_rfl) (fun _ _ _ h => h) (Or.inl ⟨by rfl, ?_⟩) hHeld ?_ ?_
    rotate_left
    · rintro w' ⟨s0, s1, s2, s3⟩
      go_simp
      with_reducible rfl
    rotate_left
    · simp only [Act.put, lA, lB, lC, i64_w, i32_w]
      rfl
    refine take_ (i := 1) (N := some 36) (v := ?_) (a' := ?_) #[bT, bT, bF, bF, bF] rfl rfl (by kernel_rfl) (fun _ _ _ h => h) (Or.inl ⟨by rfl, ?_⟩) hHeld ?_ ?_
    rotate_left
    · rintro w' ⟨s0, s1, s2, s3⟩
      go_simp
      with_reducible rfl
    rotate_left
    · simp only [Act.put, lA, lB, lC, i64_w, i32_w]
      rfl
    refine one_ (i := 2) (N := some 37) #[bT, bT, bT, bF, bF] rfl rfl (by kernel_rfl) (by decide) (fun K hK => ?_)
    refine goes_ Tryz.func6 (by kernel_rfl) rfl #[.agg #[.int .i64 p, .slice A l.length c]] (by rfl) rfl rfl (by (try simp only [List.map_toArray, List.map_cons, List.map_nil]); first | done | rfl) ?_
    refine (TN.out _ HB9.out).mono ?_
    rintro e w10 ⟨A3, c3, rfl, hc3, hC3, hb⟩
    refine ⟨_, rfl, ?_⟩
    have BK10 := Aside0.mk (blk_below BK9.out hb)
    have GK10 := Aside0.mk (blk_below GK9.out hb)
    have H10 := Aside0.mk (Kd.C_below H9.out hb)
    have H11 := Aside0.mk hC3
    have HB10 := Aside0.mk (below_then HB9.out HB9.out.size hb)
    clear hb hC3
    refine hK.out _ _ ⟨(blk_cell GK10.out 0).trans rfl, (blk_cell GK10.out 1).trans rfl, (blk_cell BK10.out 0).trans rfl, (blk_cell BK10.out 1).trans rfl⟩ (fun hHeld => ?_)
    clear hK K
    refine norm_ (a' := ?_) ?_ ?_
    rotate_left
    · show Act.put _ (some 37) _ = _
      simp only [Act.put, lA, lB, lC, i64_w, i32_w]
      rfl
    refine one_ (i := 3) (N := some 38) #[bT, bT, bT, bT, bF] rfl rfl (by kernel_rfl) (by decide) (fun K hK => ?_)
    refine goes_ Tryz.func8 (by kernel_rfl) rfl #[.agg #[.int .i64 p, .slice A2 l'.length c2], .agg #[.int .i64 p, .slice A3 l'.length c3]] (by rfl) rfl rfl (by (try simp only [List.map_toArray, List.map_cons, List.map_nil]); first | done | rfl) ?_
    refine (HE.out A2 A3 c2 c3 _ H10.out hc2 H11.out hc3).mono ?_
    rintro e w11 ⟨rfl, hb⟩
    refine ⟨_, rfl, ?_⟩
    have BK11 := Aside0.mk (blk_below BK10.out hb)
    have GK11 := Aside0.mk (blk_below GK10.out hb)
    have HB11 := Aside0.mk (below_then HB10.out HB10.out.size hb)
    clear hb
    refine hK.out _ _ ⟨(blk_cell GK11.out 0).trans rfl, (blk_cell GK11.out 1).trans rfl, (blk_cell BK11.out 0).trans rfl, (blk_cell BK11.out 1).trans rfl⟩ (fun hHeld => ?_)
    clear hK K
    refine norm_ (a' := ?_) ?_ ?_
    rotate_left
    · show Act.put _ (some 38) _ = _
      simp only [Act.put, lA, lB, lC, i64_w, i32_w]
      rfl
    refine pure_ (i := 4) (N := some 39) (v := ?_) (a' := ?_) #[bT, bT, bT, bT, bT] rfl rfl (by kernel_rfl) (fun _ _ _ h => h) (Or.inl ⟨by rfl, ?_⟩) ?_ ?_
    rotate_left
    · intro w'
      go_simp
      with_reducible rfl
    rotate_left
    · simp only [Act.put, lA, lB, lC, i64_w, i32_w]
      rfl
    refine done_ (by kernel_rfl) ?_
    clear hHeld
    go_wp2_with fail
    go_ret
    exact ⟨rfl, HB11.out⟩
end Go.Proofs.YtjpkcbkkjefekaaGreatDoor.V
