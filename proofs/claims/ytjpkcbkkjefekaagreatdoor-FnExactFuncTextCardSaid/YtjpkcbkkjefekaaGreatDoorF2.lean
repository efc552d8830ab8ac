/- A part of the session's texts, laid small by the session's shrink.py. -/
import Derived.Test.YtjpkcbkkjefekaaGreatDoorF1
import Derived.Test.YtjpkcbkkjefekaaGreatDoorV4
namespace Go.Proofs.YtjpkcbkkjefekaaGreatDoor.V
open Go.RowKit Go.Proofs.YtjpkcbkkjefekaaGreatDoorW.PrintWords Go.Proofs.YtjpkcbkkjefekaaGreatDoorW.PrintLast Go.Proofs.YtjpkcbkkjefekaaGreatDoorW.PrintMore
open Go.Proofs.YtjpkcbkkjefekaaGreatDoor.PA
set_option linter.unusedVariables false
set_option linter.unusedSimpArgs false
def opList : List ByteArray := [(⟨#[110, 117, 109]⟩ : ByteArray), (⟨#[]⟩ : ByteArray), (⟨#[110, 101, 103]⟩ : ByteArray), (⟨#[97, 100, 100]⟩ : ByteArray), (⟨#[115, 117, 98]⟩ : ByteArray), (⟨#[109, 117, 108]⟩ : ByteArray), (⟨#[115, 104, 108]⟩ : ByteArray), (⟨#[100, 105, 118]⟩ : ByteArray), (⟨#[101, 113]⟩ : ByteArray), (⟨#[108, 101, 115, 115]⟩ : ByteArray), (⟨#[105, 102]⟩ : ByteArray), (⟨#[108, 111, 97, 100]⟩ : ByteArray), (⟨#[115, 116, 111, 114, 101]⟩ : ByteArray)]
theorem opWords_f : impl_opWords.f = some opList := rfl
def opTxt (k : Nat) : ByteArray := opList.getD k ⟨#[]⟩
theorem opTxt_at {k : Nat} (h : k < 13) : opList[k]? = some (opTxt k) := by
 unfold opTxt
 rw [List.getD_eq_getElem?_getD, List.getElem?_eq_getElem (by exact h)]
 rfl
theorem opTxt_size : ∀ k : Fin 13, (opTxt k.val).size ≤ 5 := by decide
def numTxts (l : List Int) : List ByteArray := l.map numTxt
def jumpTxts (j : S61) : List ByteArray := numTxts ([j.f0] ++ j.f1)
def instTxt (x : S52) : ByteArray := if x.f0 = 1 then lineTxt ([opTxt (x.f0 - 1).toNat] ++ [numTxt x.f1]) else lineTxt ([opTxt (x.f0 - 1).toNat] ++ numTxts x.f2)
def wReturn : ByteArray := ⟨#[114, 101, 116, 117, 114, 110]⟩
def wJump : ByteArray := ⟨#[106, 117, 109, 112]⟩
def wBranch : ByteArray := ⟨#[98, 114, 97, 110, 99, 104]⟩
def wBar : ByteArray := ⟨#[124]⟩
def endTxt (b : S48) : ByteArray :=
  if b.f2 = 1 then lineTxt ([wReturn] ++ numTxts [b.f3]) else if b.f2 = 2 then lineTxt ([wJump] ++ jumpTxts (rd_T61 b.f4 0)) else lineTxt (((([wBranch] ++ numTxts [b.f3]) ++ jumpTxts (rd_T61 b.f4 0)) ++ [wBar]) ++ jumpTxts (rd_T61 b.f4 1))
def smallI (l : List Int) : Prop := ∀ n ∈ l, 0 ≤ n ∧ n < 100
theorem nums_size {l : List Int} (h : smallI l) : ∀ x ∈ numTxts l, x.size ≤ 100 := by
 intro x hx
 obtain ⟨n, hn, rfl⟩ := List.mem_map.1 hx
 have := h n hn
 have := numTxt_size n (by omega)
 omega
theorem both_size {a b : List ByteArray} (ha : ∀ x ∈ a, x.size ≤ 100) (hb : ∀ x ∈ b, x.size ≤ 100) : ∀ x ∈ a ++ b, x.size ≤ 100 := by
 intro x hx
 rcases List.mem_append.1 hx with h | h
 · exact ha x h
 exact hb x h
theorem one_size {a : ByteArray} (h : a.size ≤ 100) : ∀ x ∈ [a], x.size ≤ 100 := by
 intro x hx
 rw [List.mem_singleton.1 hx]
 exact h
theorem str_read {w : World} {base g n c : Nat} {ok : Nat → Prop} {xs : List ByteArray} (h : Kd.string.R 9 w base ok (.slice (some ⟨g, 0, none⟩) n c) xs) : Kd.string.C w (some ⟨g, 0, none⟩) xs.length xs := by
 obtain ⟨A, c', he, _, hC⟩ := Kd.R_reads h
 obtain ⟨rfl, _, _⟩ : some (⟨g, 0, none⟩ : Addr) = A ∧ n = xs.length ∧ c = c' := by simpa using he
 exact hC
set_option maxHeartbeats 2000000 in
set_option maxRecDepth 100000 in
theorem instText_calls (x : S52) (A : Option Addr) (c : Nat) (w : World) (k : Nat) (hk : x.f0 = (k : Int) + 1) (hk13 : k < 13) (ht : Tab w) (hn : -9223372036854775808 ≤ x.f1 ∧ x.f1 ≤ 9223372036854775807) (hr : IntsC w A x.f2) (hc : x.f2.length ≤ c) (hl : x.f2.length ≤ 100) (hs : smallI x.f2) :
    Calls Tryz.prog 32 #[.agg #[.int .i64 x.f0, .int .i64 x.f1, .slice A x.f2.length c]] w fun e w' => e = .returned (.string (instTxt x)) ∧ Below w.heap.size w w' := by
 obtain ⟨op, n, l⟩ := x
 simp only at hk hn hr hc hl hs ⊢
 have hkt : (op - 1).toNat = k := by omega
 have hos := opTxt_size ⟨k, hk13⟩
 have HOS := Aside0.mk (show (opTxt k).size ≤ 100 by simp only at hos; omega)
 have HT := Aside0.mk ht
 have HR := Aside0.mk hr
 have HS := Aside0.mk hs
 have hin1 : op = 1 → instTxt ⟨op, n, l⟩ = lineTxt ([opTxt k] ++ [numTxt n]) := fun h => by
   unfold instTxt
   rw [if_pos h, hkt]
 have hin2 : op ≠ 1 → instTxt ⟨op, n, l⟩ = lineTxt ([opTxt k] ++ numTxts l) := fun h => by
   unfold instTxt
   rw [if_neg h, hkt]
 have HI1 := Aside0.mk hin1
 have HI2 := Aside0.mk hin2
 clear hos ht hr hs hin1 hin2 hkt
 subst hk
 have hu := Tryz.underlying52
 generalize hwk : opTxt k = wk at HOS HI1 HI2
 have HWK := Aside0.mk (show opList[k]? = some wk by rw [← hwk]; exact opTxt_at hk13)
 clear hwk
 go_enter Tryz.func32, Tryz.ntmps32
 go_wp2_with (first
   | ((with_reducible refine gate_dst (N := 1) rfl ?_); refine box_event ?hg (N := 1) ?hd (cs := #[.int .i64 ((k : Int) + 1), .int .i64 n, .slice A l.length c]) (t := 52) ?hr ?_; (case hd => rfl); (case hg => rfl); (case hr => first | (go_simp; done) | (go_simp; rfl)); intro b hg w1 hbox hb; have BK1 := Aside0.mk hbox; have HB1 := Aside0.mk hb; clear hb hbox hg))
 have BK2 := Aside0.mk (blk_drew BK1.out)
 have HB2 := Aside0.mk (below_drew HB1.out)
 have s1 : IntKind.i64.wrap ((k : Int) + 1 - 1) = (k : Int) := by rw [Int.add_sub_cancel]; exact IntWalk.i64_in _ (by omega)
 have s2 : IntKind.i64.wrap (k : Int) = (k : Int) := IntWalk.i64_in _ (by omega)
 have q0 : (0 : Int) ≤ (k : Int) := by omega
 have q1 : (k : Int) < ((13 : Nat) : Int) := by omega
 have q2 : (k : Int) < 13 := by omega
 have q3 : k < opList.length := hk13
 refine start_ (n := 8) (S := fun w' => w'.cell? ⟨b, 0, none⟩ = some (.int .i64 ((k : Int) + 1)) ∧ True) (ds := []) #[bF, bF, bF, bF, bF, bF, bF, bF] (by kernel_rfl) rfl rfl ⟨(blk_cell BK2.out 0).trans rfl, trivial⟩ (fun hHeld => ?_)
 generalize w1.drew = w2 at BK2 HB2 hHeld ⊢
 refine pure_ (i := 1) (N := some 5) (v := ?_) (a' := ?_) #[bF, bT, bF, bF, bF, bF, bF, bF] rfl rfl (by kernel_rfl) (fun _ _ _ h => h) (Or.inl ⟨by rfl, ?_⟩) ?_ ?_
 rotate_left
 · intro w'
   go_simp
   with_reducible rfl
 rotate_left
 · simp only [Act.put, lA, lB, lC, i64_w, i32_w]
   rfl
 refine take_ (i := 2) (N := some 6) (v := ?_) (a' := ?_) #[bF, bT, bT, bF, bF, bF, bF, bF] rfl rfl (by kernel_rfl) (fun _ _ _ h => h) (Or.inl ⟨by rfl, ?_⟩) hHeld ?_ ?_
 rotate_left
 · rintro w' ⟨s0, _⟩
   go_simp
   with_reducible rfl
 rotate_left
 · simp only [Act.put, lA, lB, lC, i64_w, i32_w]
   rfl
 refine pure_ (i := 3) (N := some 7) (v := ?_) (a' := ?_) #[bF, bT, bT, bT, bF, bF, bF, bF] rfl rfl (by kernel_rfl) (fun _ _ _ h => h) (Or.inl ⟨by rfl, ?_⟩) ?_ ?_
 rotate_left
 · intro w'
   go_simp
   with_reducible rfl
 rotate_left
 · simp only [Act.put, lA, lB, lC, i64_w, i32_w]
   rfl
 refine one_ (i := 0) (N := some 4) #[bT, bT, bT, bT, bF, bF, bF, bF] rfl rfl (by kernel_rfl) (by decide) (fun K hK => ?_)
 refine goes_ Tryz.func49 (by kernel_rfl) rfl #[] (by rfl) rfl rfl (by (try simp only [List.map_toArray, List.map_cons, List.map_nil]); first | done | rfl) ?_
 refine (impl_opWords.calls _ _ opWords_f).mono ?_
 rintro e w3 ⟨v3, rfl, ho, hb⟩
 obtain ⟨g3, c3, rfl, -, -, -⟩ := Kd.R_form ho (by decide)
 refine ⟨_, rfl, ?_⟩
 have BK3 := Aside0.mk (blk_below BK2.out hb)
 have HB3 := Aside0.mk (below_then HB2.out HB2.out.size hb)
 have hx3 : w3.cell? ⟨g3, k, none⟩ = some (.string wk) := strs_cells (str_read ho) k wk HWK.out
 clear ho hb
 refine hK.out _ _ ⟨(blk_cell BK3.out 0).trans rfl, trivial⟩ (fun hHeld => ?_)
 clear hK K
 refine norm_ (a' := ?_) ?_ ?_
 rotate_left
 · show Act.put _ (some 4) _ = _
   simp only [Act.put, lA, lB, lC, i64_w, i32_w]
   rfl
 refine pure_ (i := 4) (N := some 8) (v := ?_) (a' := ?_) #[bT, bT, bT, bT, bT, bF, bF, bF] rfl rfl (by kernel_rfl) (fun _ _ _ h => h) (Or.inl ⟨by rfl, ?_⟩) ?_ ?_
 rotate_left
 · intro w'
   go_simp
   with_reducible rfl
 rotate_left
 · simp only [Act.put, lA, lB, lC, i64_w, i32_w]
   rfl
 refine one_ (i := 5) (N := some 9) #[bT, bT, bT, bT, bT, bT, bF, bF] rfl rfl (by kernel_rfl) (by decide) (fun K hK => ?_)
 refine value_ (w1 := w3) (v := .string wk) (by rfl) rfl (by go_simp; first | done | rfl) ?_
 refine hK.out _ _ ⟨(blk_cell BK3.out 0).trans rfl, trivial⟩ (fun hHeld => ?_)
 clear hK K
 refine norm_ (a' := ?_) ?_ ?_
 rotate_left
 · show Act.put _ (some 9) _ = _
   simp only [Act.put, lA, lB, lC, i64_w, i32_w]
   rfl
 refine one_ (i := 6) (N := some 10) #[bT, bT, bT, bT, bT, bT, bT, bF] rfl rfl (by kernel_rfl) (by decide) (fun K hK => ?_)
 refine Kd.R_lit_step Kd.string (w0 := w) w.heap.size 9 (by rfl) (N := 10) rfl (xs := [wk]) (inner := [.string wk]) (ok := fun _ => True) (okp := fun _ => False) (by go_simp; first | done | rfl) (Kd.reps_scalar (enc := Value.string) [wk]) (fun _ hk => hk.elim) trivial HB3.out HB3.out.size (by simp) ?_
 intro v4 w4 ho hb hg hat
 have BK4 := Aside0.mk (blk_grown BK3.out hg (by simp))
 have HO4 := Aside0.mk ho
 have HB4 := Aside0.mk hb
 clear ho hb hg hat
 refine hK.out _ _ ⟨(blk_cell BK4.out 0).trans rfl, trivial⟩ (fun hHeld => ?_)
 clear hK K
 refine norm_ (a' := ?_) ?_ ?_
 rotate_left
 · show Act.put _ (some 10) _ = _
   simp only [Act.put, lA, lB, lC, i64_w, i32_w]
   rfl
 refine pure_ (i := 7) (N := some 3) (v := ?_) (a' := ?_) #[bT, bT, bT, bT, bT, bT, bT, bT] rfl rfl (by kernel_rfl) (fun _ _ _ h => h) (Or.inl ⟨by rfl, ?_⟩) ?_ ?_
 rotate_left
 · intro w'
   go_simp
   with_reducible rfl
 rotate_left
 · simp only [Act.put, lA, lB, lC, i64_w, i32_w]
   rfl
 refine done_ (by kernel_rfl) ?_
 clear s1 s2 q1 q2 q3 hHeld hx3
 have y0 : w4.cell? ⟨b, 0, none⟩ = some (.int .i64 ((k : Int) + 1)) := (blk_cell BK4.out 0).trans rfl
 have y1 : w4.cell? ⟨b, 1, none⟩ = some (.int .i64 n) := (blk_cell BK4.out 1).trans rfl
 have y2 : w4.cell? ⟨b, 2, none⟩ = some (.slice A l.length c) := (blk_cell BK4.out 2).trans rfl
 clear BK1 BK2 BK3 BK4 HB1 HB2 HB3
 by_cases hop : (k : Int) + 1 = 1
 · have HOP := Aside0.mk hop
   have hop2 : (((k : Int) + 1) == 1) = true := by simpa using hop
   have k0 : k = 0 := by omega
   obtain ⟨ws, hws⟩ : ∃ ws, ws = [wk] ++ [numTxt n] := ⟨_, rfl⟩
   have HW := Aside0.mk hws
   have HZ := Aside0.mk (show ∀ x ∈ ws, x.size ≤ 100 by rw [hws]; exact both_size (one_size HOS.out) (one_size (by have := numTxt_size n hn; omega)))
   have hlen : 0 < ws.length ∧ ws.length ≤ 1000 := by rw [hws]; simp
   clear hws hop
   go_wp2_with (first
     | (go_at_call 50; refine (numText_calls n _ (HT.out.on HB4.out) hn).mono ?_; rintro e w5 ⟨rfl, hb⟩; have HO5 := Aside0.mk (Kd.R_below HO4.out hb); have HB5 := Aside0.mk (below_then HB4.out HB4.out.size hb); clear hb)
     | ((with_reducible refine gate_builtin (b := .append) (xs := #[.tmp 14, .tmp 18]) rfl ?_); at_builtin; refine Kd.R_append Kd.string (w0 := w) (W := w5) w.heap.size rfl (.tmp 14) (.tmp 18) 74 9 (.string ⟨#[]⟩) 16 rfl Tryz.underlying74 info9 rfl (by decide) (by omega) v4 ([wk]) (numTxt n) [.string (numTxt n)] (fun _ => True) (fun _ => False) rfl rfl rfl (fun _ hk => hk.elim) (fun _ _ => trivial) HO5.out HB5.out (HB5.out).size (by simp) ?_; intro v6 w6 ho hb hg hat; rw [← HW.out] at ho; obtain ⟨g6, c6, rfl, -, -, -⟩ := Kd.R_form ho hlen.1; have HO6 := Aside0.mk ho; have HB6 := Aside0.mk hb; clear ho hb hg hat)
     | (go_at_call 30; refine (text_calls w.heap.size g6 c6 (fun _ => True) ws _ HO6.out hlen.2 HZ.out).mono ?_; rintro e w7 ⟨rfl, hb⟩; have HB7 := Aside0.mk (below_then HB6.out HB6.out.size hb); clear hb))
   go_ret
   exact ⟨by rw [HI1.out HOP.out, HW.out]; rfl, HB7.out⟩
 have HOP := Aside0.mk hop
 have hop2 : (((k : Int) + 1) == 1) = false := by simpa using hop
 obtain ⟨ys, hys⟩ : ∃ ys, ys = l.map numTxt := ⟨_, rfl⟩
 obtain ⟨ws, hws⟩ : ∃ ws, ws = [wk] ++ ys := ⟨_, rfl⟩
 have HY := Aside0.mk hys
 have hyl : ys.length = l.length := by rw [hys, List.length_map]
 have hyl2 : ys.length ≤ 100 := by omega
 have HW2 : Aside0 (ws = [wk] ++ numTxts l) := ⟨by rw [hws, hys]; rfl⟩
 have HW := Aside0.mk hws
 have HZ := Aside0.mk (show ∀ x ∈ ws, x.size ≤ 100 by rw [hws, hys]; exact both_size (one_size HOS.out) (nums_size HS.out))
 have hlen : 0 < ws.length ∧ ws.length ≤ 1000 := by rw [hws]; simp; omega
 clear hws hop hys hyl
 go_wp2_with (first
   | (go_at_call 31; refine (numberWords_calls A c l _ (Kd.C_below HR.out HB4.out) hc hl HS.out).mono ?_; rintro e w5 ⟨v5, rfl, ho, hb⟩; rw [← HY.out] at ho; obtain ⟨A5, c5, rfl, hc5, hC5⟩ := Kd.R_reads ho; have HC5 := Aside0.mk hC5; have HO5 := Aside0.mk (Kd.R_below HO4.out hb); have HB5 := Aside0.mk (below_then HB4.out HB4.out.size hb); clear hb hC5 ho)
   | ((with_reducible refine gate_builtin (b := .append) (xs := #[.tmp 21, .tmp 24]) rfl ?_); at_builtin; refine Kd.R_append_rows Kd.string (Rr := Kd.string.K w5) (w0 := w) w.heap.size rfl (.tmp 21) (.tmp 24) 74 9 (.string ⟨#[]⟩) 16 rfl Tryz.underlying74 info9 rfl (by decide) (by omega) v4 ([wk]) (ys) (A5) (ys.length) (c5) (fun _ => True) (fun _ => False) rfl rfl HO5.out HC5.out (fun x cs h => h) (fun _ hk => hk.elim) (fun _ _ => trivial) HB5.out (HB5.out).size (by simp only [List.length_singleton]; omega) ?_; intro v6 w6 ho hb hg hat; replace ho : Kd.string.R 9 w6 w.heap.size (fun _ => True) v6 ws := (by rw [HW.out]; exact ho); obtain ⟨g6, c6, rfl, -, -, -⟩ := Kd.R_form ho hlen.1; have HO6 := Aside0.mk ho; have HB6 := Aside0.mk hb; clear ho hb hg hat)
   | (go_at_call 30; refine (text_calls w.heap.size g6 c6 (fun _ => True) ws _ HO6.out hlen.2 HZ.out).mono ?_; rintro e w7 ⟨rfl, hb⟩; have HB7 := Aside0.mk (below_then HB6.out HB6.out.size hb); clear hb))
 go_ret
 exact ⟨by rw [HI2.out HOP.out, HW2.out]; rfl, HB7.out⟩
set_option maxHeartbeats 2000000 in
set_option maxRecDepth 100000 in
theorem jumpWords_calls (x : S61) (A : Option Addr) (c : Nat) (w : World) (hr : IntsC w A x.f1) (hc : x.f1.length ≤ c) (hl : x.f1.length ≤ 50) (hs : smallI ([x.f0] ++ x.f1)) :
    Calls Tryz.prog 51 #[.agg #[.int .i64 x.f0, .slice A x.f1.length c]] w fun e w' => ∃ v, e = .returned v ∧ Kd.string.R 9 w' w.heap.size (fun _ => True) v (jumpTxts x) ∧ Below w.heap.size w w' := by
 obtain ⟨tg, l⟩ := x
 simp only at hr hc hl hs ⊢
 have HR := Aside0.mk hr
 clear hr
 have hu := Tryz.underlying61
 obtain ⟨ns, hns⟩ : ∃ ns, ns = [tg] ++ l := ⟨_, rfl⟩
 have hlen : 0 < ns.length ∧ ns.length ≤ 100 := by rw [hns]; simp; omega
 have HS := Aside0.mk (show smallI ns by rw [hns]; exact hs)
 have HN := Aside0.mk hns
 have hj : jumpTxts ⟨tg, l⟩ = ns.map numTxt := by rw [hns]; rfl
 rw [hj]
 clear hns hj hs
 go_enter Tryz.func51, Tryz.ntmps51
 go_wp2_with (first
   | ((with_reducible refine gate_dst (N := 1) rfl ?_); refine box_event ?hg (N := 1) ?hd (cs := #[.int .i64 tg, .slice A l.length c]) (t := 61) ?hr ?_; (case hd => rfl); (case hg => rfl); (case hr => first | (go_simp; done) | (go_simp; rfl)); intro b hg w1 hbox hb; have x0 : w1.cell? ⟨b, 0, none⟩ = some (.int .i64 tg) := (blk_cell hbox 0).trans rfl; have BK1 := Aside0.mk hbox; have HB1 := Aside0.mk hb; clear hb hbox hg)
   | ((with_reducible refine gate_dst (N := 5) rfl ?_); refine Kd.R_lit (Kd.int .i64) (w0 := w) w.heap.size 3 ?hg (N := 5) ?hd (xs := [tg]) (inner := [.int .i64 tg]) (ok := fun _ => True) (okp := fun _ => False) ?hr (Kd.reps_scalar (enc := Value.int .i64) [tg]) (fun _ hk => hk.elim) trivial HB1.out HB1.out.size (by simp) ?_; (case hd => rfl); (case hg => rfl); (case hr => first | (go_simp; done) | (go_simp; rfl)); intro v2 w2 ho hb hg hn; have y1 : w2.cell? ⟨b, 1, none⟩ = some (.slice A l.length c) := (blk_cell (blk_grown BK1.out hg (by simp)) 1).trans rfl; have HO2 := Aside0.mk ho; have HB2 := Aside0.mk hb; clear ho hb hg hn)
   | ((with_reducible refine gate_builtin (b := .append) (xs := #[.tmp 5, .tmp 7]) rfl ?_); at_builtin; refine Kd.R_append_rows (Kd.int .i64) (Rr := (Kd.int .i64).K w2) (w0 := w) w.heap.size rfl (.tmp 5) (.tmp 7) 50 3 (.int .i64 0) 8 rfl Tryz.underlying50 info3 rfl (by decide) (by omega) v2 [tg] l A l.length c (fun _ => True) (fun _ => False) rfl rfl HO2.out (Kd.C_below HR.out HB2.out) (fun x cs h => h) (fun _ hk => hk.elim) (fun _ _ => trivial) HB2.out HB2.out.size (by simp; omega) ?_; intro v3 w3 ho hb hg hat; rw [← HN.out] at ho; obtain ⟨A3, c3, rfl, hc3, hC3⟩ := Kd.R_reads ho; have HC3 := Aside0.mk hC3; have HB3 := Aside0.mk hb; clear ho hb hg hat hC3)
   | (go_at_call 31; refine (numberWords_calls A3 c3 ns _ HC3.out hc3 hlen.2 HS.out).mono ?_; rintro e w4 ⟨v4, rfl, ho, hb⟩; have HO4 := Aside0.mk (Kd.R_lower ho HB3.out.size); have HB4 := Aside0.mk (below_then HB3.out HB3.out.size hb); clear hb ho))
 go_ret
 exact ⟨_, rfl, HO4.out, HB4.out⟩
theorem jump_sizes {j : S61} (h : smallI ([j.f0] ++ j.f1)) : ∀ x ∈ jumpTxts j, x.size ≤ 100 := nums_size h
set_option maxHeartbeats 4000000 in
set_option maxRecDepth 100000 in
theorem endText_calls (x : S48) (A1 : Option Addr) (c1 : Nat) (A4 : Option Addr) (c4 : Nat) (w : World) (hr4 : k61.C w A4 x.f4.length x.f4) (hc4 : x.f4.length ≤ c4)
    (hv : x.f2 ≠ 2 → 0 ≤ x.f3 ∧ x.f3 < 100) (hj : ∀ j ∈ x.f4, smallI ([j.f0] ++ j.f1) ∧ j.f1.length ≤ 50) (hl2 : x.f2 = 2 → 1 ≤ x.f4.length) (hl3 : x.f2 ≠ 1 → x.f2 ≠ 2 → 2 ≤ x.f4.length) :
    Calls Tryz.prog 33 #[.agg #[.int .i64 x.f0, .slice A1 x.f1.length c1, .int .i64 x.f2, .int .i64 x.f3, .slice A4 x.f4.length c4]] w fun e w' => e = .returned (.string (endTxt x)) ∧ Below w.heap.size w w' := by
 obtain ⟨a0, li, en, va, lj⟩ := x
 simp only at hr4 hc4 hv hj hl2 hl3 ⊢
 have HR4 := Aside0.mk hr4
 have hm4 := Kd.C_max hr4
 have hu := Tryz.underlying48
 have hu2 := Tryz.underlying61
 clear hr4
 by_cases h1 : en = 1
 · have e1 : (en == 1) = true := by simpa using h1
   have hva := hv (by omega)
   have he : endTxt ⟨a0, li, en, va, lj⟩ = lineTxt ([wReturn] ++ numTxts [va]) := by unfold endTxt; rw [if_pos h1]
   rw [he]
   clear hj hl2 hl3 he hv
   obtain ⟨ys, hys⟩ : ∃ ys, ys = [va].map numTxt := ⟨_, rfl⟩
   have HY := Aside0.mk hys
   have hyl : ys.length ≤ 1 := by rw [hys]; simp
   obtain ⟨ws, hws⟩ : ∃ ws, ws = [wReturn] ++ numTxts [va] := ⟨_, rfl⟩
   have HW := Aside0.mk hws
   have HS := Aside0.mk (show smallI [va] by intro n hn; rw [List.mem_singleton.1 hn]; exact hva)
   have HZ := Aside0.mk (show ∀ x ∈ ws, x.size ≤ 100 by rw [hws]; exact both_size (one_size (by decide)) (nums_size HS.out))
   have hlen : 0 < ws.length ∧ ws.length ≤ 1000 := by rw [hws]; simp [numTxts]
   rw [← hws]
   clear hws h1 hys
   go_enter Tryz.func33, Tryz.ntmps33
   go_wp2_with (first
     | ((with_reducible refine gate_dst (N := 1) rfl ?_); refine box_event ?hg (N := 1) ?hd (cs := #[.int .i64 a0, .slice A1 li.length c1, .int .i64 en, .int .i64 va, .slice A4 lj.length c4]) (t := 48) ?hr ?_; (case hd => rfl); (case hg => rfl); (case hr => first | (go_simp; done) | (go_simp; rfl)); intro b hg w1 hbox hb; have x2 : w1.cell? ⟨b, 2, none⟩ = some (.int .i64 en) := (blk_cell hbox 2).trans rfl; have BK1 := Aside0.mk hbox; have HB1 := Aside0.mk hb; clear hb hbox hg)
     | ((with_reducible refine gate_dst (N := 8) rfl ?_); refine Kd.R_lit Kd.string (w0 := w) w.heap.size 9 ?hg (N := 8) ?hd (xs := [(⟨#[114, 101, 116, 117, 114, 110]⟩ : ByteArray)]) (inner := [.string (⟨#[114, 101, 116, 117, 114, 110]⟩ : ByteArray)]) (ok := fun _ => True) (okp := fun _ => False) ?hr (Kd.reps_scalar (enc := Value.string) [(⟨#[114, 101, 116, 117, 114, 110]⟩ : ByteArray)]) (fun _ hk => hk.elim) trivial HB1.out (HB1.out).size (by simp) ?_; (case hd => rfl); (case hg => rfl); (case hr => first | (go_simp; done) | (go_simp; rfl)); intro v2 w2 ho hb hg hn; have y3 : w2.cell? ⟨b, 3, none⟩ = some (.int .i64 va) := (blk_cell (blk_grown BK1.out hg (by simp)) 3).trans rfl; have BK2 := Aside0.mk (blk_grown BK1.out hg (by simp)); have HO2 := Aside0.mk ho; have HB2 := Aside0.mk hb; clear ho hb hg hn)
     | (go_at_call 31; refine (numberWords_calls (some ⟨w2.heap.size, 0, none⟩) 1 [va] _ (ints_lit w2 va _) (by simp) (by simp) HS.out).mono ?_; rintro e w3 ⟨v3, rfl, ho, hb⟩; rw [← HY.out] at ho; obtain ⟨A3, c3, rfl, hc3, hC3⟩ := Kd.R_reads ho; have HC3 := Aside0.mk hC3; have HO3 := Aside0.mk (Kd.R_below HO2.out (below_then (below_alloc (Below.refl _ _) _) (below_alloc (Below.refl _ _) _).size hb)); have HB3 := Aside0.mk (below_then (below_alloc HB2.out _) (below_alloc HB2.out _).size hb); have BK3 := Aside0.mk (blk_below (blk_alloc BK2.out _) hb); clear hb hC3 ho)
     | ((with_reducible refine gate_builtin (b := .append) (xs := #[.tmp 8, .tmp 12]) rfl ?_); at_builtin; refine Kd.R_append_rows Kd.string (Rr := Kd.string.K w3) (w0 := w) w.heap.size rfl (.tmp 8) (.tmp 12) 74 9 (.string ⟨#[]⟩) 16 rfl Tryz.underlying74 info9 rfl (by decide) (by omega) v2 ([wReturn]) (ys) (A3) (ys.length) (c3) (fun _ => True) (fun _ => False) rfl rfl HO3.out HC3.out (fun x cs h => h) (fun _ hk => hk.elim) (fun _ _ => trivial) HB3.out (HB3.out).size (by simp only [List.length_singleton]; omega) ?_; intro v6 w6 ho hb hg hat; replace ho : Kd.string.R 9 w6 w.heap.size (fun _ => True) v6 ws := (by rw [HW.out]; rw [HY.out] at ho; exact ho); obtain ⟨g6, c6, rfl, -, -, -⟩ := Kd.R_form ho hlen.1; have HO6 := Aside0.mk ho; have HB6 := Aside0.mk hb; clear ho hb hg hat)
     | (go_at_call 30; refine (text_calls w.heap.size g6 c6 (fun _ => True) ws _ HO6.out hlen.2 HZ.out).mono ?_; rintro e w7 ⟨rfl, hb⟩; have HB7 := Aside0.mk (below_then HB6.out HB6.out.size hb); clear hb))
   go_ret
   exact ⟨rfl, HB7.out⟩
 have e1 : (en == 1) = false := by simpa using h1
 by_cases h2 : en = 2
 · have e2 : (en == 2) = true := by simpa using h2
   have hll := hl2 h2
   have he : endTxt ⟨a0, li, en, va, lj⟩ = lineTxt ([wJump] ++ jumpTxts (rd_T61 lj 0)) := by unfold endTxt; rw [if_neg h1, if_pos h2]
   rw [he]
   clear he hv hl3 hl2
   obtain ⟨ad, AJ, cJ, e, z0, z1, lJ, iJ⟩ := at_T61 HR4.out 0 (by omega) (by omega)
   subst e
   have hjm : rd_T61 lj 0 ∈ lj := by
     have h := List.getElem?_eq_getElem (l := lj) (i := 0) (by omega)
     have h3 : rd_T61 lj 0 = lj[0]'(by omega) := by
       unfold rd_T61
       rw [List.getD_eq_getElem?_getD]
       show (lj[0]?).getD _ = _
       rw [h]
       rfl
     rw [h3]
     exact List.getElem_mem _
   obtain ⟨hjs, hjl⟩ := hj _ hjm
   generalize rd_T61 lj 0 = j at z0 z1 lJ iJ hjs hjl ⊢
   obtain ⟨ws, hws⟩ : ∃ ws, ws = [wJump] ++ jumpTxts j := ⟨_, rfl⟩
   have HW := Aside0.mk hws
   have HZ := Aside0.mk (show ∀ x ∈ ws, x.size ≤ 100 by rw [hws]; exact both_size (one_size (by decide)) (jump_sizes hjs))
   have hlen : 0 < ws.length ∧ ws.length ≤ 1000 := by rw [hws]; simp [jumpTxts, numTxts]; omega
   rw [← hws]
   have Z0 : Aside0 (w.cell? ad = some (.int .i64 j.f0)) := ⟨z0⟩
   have Z1 : Aside0 (w.cell? ⟨ad.block, ad.off + 1, none⟩ = some (.slice AJ j.f1.length cJ)) := ⟨z1⟩
   have HIJ := Aside0.mk iJ
   have HJS := Aside0.mk hjs
   have hl0 : 0 < lj.length := hll
   have hl0' : (0 : Int) < (lj.length : Int) := by omega
   clear hws h2 hj hjm hjs z0 z1 iJ
   go_enter Tryz.func33, Tryz.ntmps33
   go_wp2_with (first
     | ((with_reducible refine gate_dst (N := 1) rfl ?_); refine box_event ?hg (N := 1) ?hd (cs := #[.int .i64 a0, .slice A1 li.length c1, .int .i64 en, .int .i64 va, .slice (some ad) lj.length c4]) (t := 48) ?hr ?_; (case hd => rfl); (case hg => rfl); (case hr => first | (go_simp; done) | (go_simp; rfl)); intro b hg w1 hbox hb; have x2 : w1.cell? ⟨b, 2, none⟩ = some (.int .i64 en) := (blk_cell hbox 2).trans rfl; have BK1 := Aside0.mk hbox; have HB1 := Aside0.mk hb; clear hb hbox hg)
     | ((with_reducible refine gate_dst (N := 17) rfl ?_); refine Kd.R_lit Kd.string (w0 := w) w.heap.size 9 ?hg (N := 17) ?hd (xs := [(⟨#[106, 117, 109, 112]⟩ : ByteArray)]) (inner := [.string (⟨#[106, 117, 109, 112]⟩ : ByteArray)]) (ok := fun _ => True) (okp := fun _ => False) ?hr (Kd.reps_scalar (enc := Value.string) [(⟨#[106, 117, 109, 112]⟩ : ByteArray)]) (fun _ hk => hk.elim) trivial HB1.out (HB1.out).size (by simp) ?_; (case hd => rfl); (case hg => rfl); (case hr => first | (go_simp; done) | (go_simp; rfl)); intro v2 w2 ho hb hg hn; have y4 : w2.cell? ⟨b, 4, none⟩ = some (.slice (some ad) lj.length c4) := (blk_cell (blk_grown BK1.out hg (by simp)) 4).trans rfl; have zz0 := (hb.cell (World.block_lt_of_cell? _ _ Z0.out)).trans Z0.out; have zz1 := (hb.cell (World.block_lt_of_cell? _ _ Z1.out)).trans Z1.out; have BK2 := Aside0.mk (blk_grown BK1.out hg (by simp)); have HO2 := Aside0.mk ho; have HB2 := Aside0.mk hb; clear ho hb hg hn)
     | (go_at_call 51; refine (jumpWords_calls j AJ cJ _ (Kd.C_below HIJ.out HB2.out) lJ hjl HJS.out).mono ?_; rintro e w3 ⟨v3, rfl, ho, hb⟩; obtain ⟨A3, c3, rfl, hc3, hC3⟩ := Kd.R_reads ho; have HC3 := Aside0.mk hC3; have HO3 := Aside0.mk (Kd.R_below HO2.out hb); have HB3 := Aside0.mk (below_then HB2.out (HB2.out).size hb); have BK3 := Aside0.mk (blk_below BK2.out hb); clear hb hC3 ho)
     | ((with_reducible refine gate_builtin (b := .append) (xs := #[.tmp 17, .tmp 22]) rfl ?_); at_builtin; refine Kd.R_append_rows Kd.string (Rr := Kd.string.K w3) (w0 := w) w.heap.size rfl (.tmp 17) (.tmp 22) 74 9 (.string ⟨#[]⟩) 16 rfl Tryz.underlying74 info9 rfl (by decide) (by omega) v2 ([wJump]) (jumpTxts j) (A3) ((jumpTxts j).length) (c3) (fun _ => True) (fun _ => False) rfl rfl HO3.out HC3.out (fun x cs h => h) (fun _ hk => hk.elim) (fun _ _ => trivial) HB3.out (HB3.out).size (by simp [jumpTxts, numTxts]; omega) ?_; intro v6 w6 ho hb hg hat; rw [← HW.out] at ho; obtain ⟨g6, c6, rfl, -, -, -⟩ := Kd.R_form ho hlen.1; have HO6 := Aside0.mk ho; have HB6 := Aside0.mk hb; clear ho hb hg hat)
     | (go_at_call 30; refine (text_calls w.heap.size g6 c6 (fun _ => True) ws _ HO6.out hlen.2 HZ.out).mono ?_; rintro e w7 ⟨rfl, hb⟩; have HB7 := Aside0.mk (below_then HB6.out HB6.out.size hb); clear hb))
   go_ret
   exact ⟨rfl, HB7.out⟩
 have e2 : (en == 2) = false := by simpa using h2
 have hll := hl3 h1 h2
 have hva := hv h2
 have he : endTxt ⟨a0, li, en, va, lj⟩ = lineTxt (((([wBranch] ++ numTxts [va]) ++ jumpTxts (rd_T61 lj 0)) ++ [wBar]) ++ jumpTxts (rd_T61 lj 1)) := by unfold endTxt; rw [if_neg h1, if_neg h2]
 rw [he]
 clear he hv hl3 hl2
 have hmem : ∀ i : Nat, i < lj.length → rd_T61 lj (i : Int) ∈ lj := by
   intro i hi
   have h3 : rd_T61 lj (i : Int) = lj[i] := by
     unfold rd_T61
     rw [Int.toNat_natCast, List.getD_eq_getElem?_getD, List.getElem?_eq_getElem hi]
     rfl
   rw [h3]
   exact List.getElem_mem _
 obtain ⟨ad, AJ, cJ, e, z0, z1, lJ, iJ⟩ := at_T61 HR4.out 0 (by omega) (by omega)
 subst e
 obtain ⟨ad', AK, cK, e, t0, t1, lK, iK⟩ := at_T61 HR4.out 1 (by omega) (by omega)
 obtain rfl : ad = ad' := by simpa using e
 obtain ⟨hjs, hjl⟩ := hj _ (hmem 0 (by omega))
 obtain ⟨hks, hkl⟩ := hj _ (hmem 1 (by omega))
 change smallI ([(rd_T61 lj 0).f0] ++ (rd_T61 lj 0).f1) at hjs
 change smallI ([(rd_T61 lj 1).f0] ++ (rd_T61 lj 1).f1) at hks
 change (rd_T61 lj 0).f1.length ≤ 50 at hjl
 change (rd_T61 lj 1).f1.length ≤ 50 at hkl
 generalize rd_T61 lj 0 = j at z0 z1 lJ iJ hjs hjl ⊢
 generalize rd_T61 lj 1 = jk at t0 t1 lK iK hks hkl ⊢
 have HS := Aside0.mk (show smallI [va] by intro n hn; rw [List.mem_singleton.1 hn]; exact hva)
 obtain ⟨ys, hys⟩ : ∃ ys, ys = [va].map numTxt := ⟨_, rfl⟩
 have HY := Aside0.mk hys
 have hyl : ys.length ≤ 1 := by rw [hys]; simp
 clear hys
 obtain ⟨wa, hwa⟩ : ∃ ws, ws = [wBranch] ++ numTxts [va] := ⟨_, rfl⟩
 obtain ⟨wb, hwb⟩ : ∃ ws, ws = wa ++ jumpTxts j := ⟨_, rfl⟩
 obtain ⟨wc, hwc⟩ : ∃ ws, ws = wb ++ [wBar] := ⟨_, rfl⟩
 obtain ⟨ws, hws⟩ : ∃ ws, ws = wc ++ jumpTxts jk := ⟨_, rfl⟩
 have hle1 : wa.length ≤ 3 := by rw [hwa]; simp [numTxts]
 have hle2 : wb.length ≤ 60 := by rw [hwb]; simp [jumpTxts, numTxts]; omega
 have hle3 : wc.length ≤ 61 := by rw [hwc]; simp; omega
 have hlen : 0 < ws.length ∧ ws.length ≤ 1000 := by rw [hws, hwc]; simp [jumpTxts, numTxts]; omega
 have HZ := Aside0.mk (show ∀ x ∈ ws, x.size ≤ 100 by rw [hws, hwc, hwb, hwa]; exact both_size (both_size (both_size (both_size (one_size (by decide)) (nums_size HS.out)) (jump_sizes hjs)) (one_size (by decide))) (jump_sizes hks))
 have HWA := Aside0.mk hwa
 have HWB := Aside0.mk hwb
 have HWC := Aside0.mk hwc
 have HW := Aside0.mk hws
 rw [← hwa, ← hwb, ← hwc, ← hws]
 have Z0 : Aside0 (w.cell? ad = some (.int .i64 j.f0)) := ⟨z0⟩
 have Z1 : Aside0 (w.cell? ⟨ad.block, ad.off + 1, none⟩ = some (.slice AJ j.f1.length cJ)) := ⟨z1⟩
 have ha2 : ad.add ((1 : Int).toNat * 2) = ⟨ad.block, ad.off + 2, none⟩ := by
   show ad.add 2 = _
   unfold Addr.add
   rw [if_neg (by decide)]
 have T0 : Aside0 (w.cell? ⟨ad.block, ad.off + 2, none⟩ = some (.int .i64 jk.f0)) := ⟨by rw [← ha2]; exact t0⟩
 have T1 : Aside0 (w.cell? ⟨ad.block, ad.off + 3, none⟩ = some (.slice AK jk.f1.length cK)) := ⟨by rw [ha2] at t1; exact t1⟩
 clear ha2
 have HIJ := Aside0.mk iJ
 have HJS := Aside0.mk hjs
 have HIK := Aside0.mk iK
 have HKS := Aside0.mk hks
 have hl0 : 0 < lj.length := by omega
 have hl1 : 1 < lj.length := by omega
 have hl0' : (0 : Int) < (lj.length : Int) := by omega
 have hl1' : (1 : Int) < (lj.length : Int) := by omega
 clear hwa hwb hwc hws h1 h2 hj hjs hks z0 z1 t0 t1 iJ iK hmem e
 go_enter Tryz.func33, Tryz.ntmps33
 go_wp2_with (first
   | ((with_reducible refine gate_dst (N := 1) rfl ?_); refine box_event ?hg (N := 1) ?hd (cs := #[.int .i64 a0, .slice A1 li.length c1, .int .i64 en, .int .i64 va, .slice (some ad) lj.length c4]) (t := 48) ?hr ?_; (case hd => rfl); (case hg => rfl); (case hr => first | (go_simp; done) | (go_simp; rfl)); intro b hg w1 hbox hb; have x2 : w1.cell? ⟨b, 2, none⟩ = some (.int .i64 en) := (blk_cell hbox 2).trans rfl; have BK1 := Aside0.mk hbox; have HB1 := Aside0.mk hb; clear hb hbox hg)
   | ((with_reducible refine gate_dst (N := 25) rfl ?_); refine Kd.R_lit Kd.string (w0 := w) w.heap.size 9 ?hg (N := 25) ?hd (xs := [(⟨#[98, 114, 97, 110, 99, 104]⟩ : ByteArray)]) (inner := [.string (⟨#[98, 114, 97, 110, 99, 104]⟩ : ByteArray)]) (ok := fun _ => True) (okp := fun _ => False) ?hr (Kd.reps_scalar (enc := Value.string) [(⟨#[98, 114, 97, 110, 99, 104]⟩ : ByteArray)]) (fun _ hk => hk.elim) trivial HB1.out (HB1.out).size (by simp) ?_; (case hd => rfl); (case hg => rfl); (case hr => first | (go_simp; done) | (go_simp; rfl)); intro v2 w2 ho hb hg hn; have y3 : w2.cell? ⟨b, 3, none⟩ = some (.int .i64 va) := (blk_cell (blk_grown BK1.out hg (by simp)) 3).trans rfl; have BK2 := Aside0.mk (blk_grown BK1.out hg (by simp)); have HO2 := Aside0.mk ho; have HB2 := Aside0.mk hb; clear ho hb hg hn)
   | (go_at_call 31; refine (numberWords_calls (some ⟨w2.heap.size, 0, none⟩) 1 [va] _ (ints_lit w2 va _) (by simp) (by simp) HS.out).mono ?_; rintro e w3 ⟨v3, rfl, ho, hb⟩; rw [← HY.out] at ho; obtain ⟨A3, c3, rfl, hc3, hC3⟩ := Kd.R_reads ho; have HC3 := Aside0.mk hC3; have HO3 := Aside0.mk (Kd.R_below HO2.out (below_then (below_alloc (Below.refl _ _) _) (below_alloc (Below.refl _ _) _).size hb)); have HB3 := Aside0.mk (below_then (below_alloc HB2.out _) (below_alloc HB2.out _).size hb); have BK3 := Aside0.mk (blk_below (blk_alloc BK2.out _) hb); clear hb hC3 ho)
   | ((with_reducible refine gate_builtin (b := .append) (xs := #[.tmp 25, .tmp 29]) rfl ?_); at_builtin; refine Kd.R_append_rows Kd.string (Rr := Kd.string.K w3) (w0 := w) w.heap.size rfl (.tmp 25) (.tmp 29) 74 9 (.string ⟨#[]⟩) 16 rfl Tryz.underlying74 info9 rfl (by decide) (by omega) v2 ([wBranch]) (ys) (A3) (ys.length) (c3) (fun _ => True) (fun _ => False) rfl rfl HO3.out HC3.out (fun x cs h => h) (fun _ hk => hk.elim) (fun _ _ => trivial) HB3.out (HB3.out).size (by simp only [List.length_singleton]; omega) ?_; intro v4 w4 ho hb hg hat; replace ho : Kd.string.R 9 w4 w.heap.size (fun _ => True) v4 wa := (by rw [HWA.out]; rw [HY.out] at ho; exact ho); have BK4 := Aside0.mk (blk_grown BK3.out hg (Kd.R_ne HO3.out BK3.out (by decide))); have y4 : w4.cell? ⟨b, 4, none⟩ = some (.slice (some ad) lj.length c4) := (blk_cell BK4.out 4).trans rfl; have zz0 := (hb.cell (World.block_lt_of_cell? _ _ Z0.out)).trans Z0.out; have zz1 := (hb.cell (World.block_lt_of_cell? _ _ Z1.out)).trans Z1.out; have HO4 := Aside0.mk ho; have HB4 := Aside0.mk hb; clear ho hb hg hat)
   | (go_at_call 51; refine (jumpWords_calls j AJ cJ _ (Kd.C_below HIJ.out HB4.out) lJ hjl HJS.out).mono ?_; rintro e w5 ⟨v5, rfl, ho, hb⟩; obtain ⟨A5, c5, rfl, hc5, hC5⟩ := Kd.R_reads ho; have HC5 := Aside0.mk hC5; have HO5 := Aside0.mk (Kd.R_below HO4.out hb); have HB5 := Aside0.mk (below_then HB4.out (HB4.out).size hb); have BK5 := Aside0.mk (blk_below BK4.out hb); clear hb hC5 ho)
   | ((with_reducible refine gate_builtin (b := .append) (xs := #[.tmp 31, .tmp 36]) rfl ?_); at_builtin; refine Kd.R_append_rows Kd.string (Rr := Kd.string.K w5) (w0 := w) w.heap.size rfl (.tmp 31) (.tmp 36) 74 9 (.string ⟨#[]⟩) 16 rfl Tryz.underlying74 info9 rfl (by decide) (by omega) v4 (wa) (jumpTxts j) (A5) ((jumpTxts j).length) (c5) (fun _ => True) (fun _ => False) rfl rfl HO5.out HC5.out (fun x cs h => h) (fun _ hk => hk.elim) (fun _ _ => trivial) HB5.out (HB5.out).size (by simp [jumpTxts, numTxts]; omega) ?_; intro v6 w6 ho hb hg hat; rw [← HWB.out] at ho; have BK6 := Aside0.mk (blk_grown BK5.out hg (Kd.R_ne HO5.out BK5.out (by decide))); have HO6 := Aside0.mk ho; have HB6 := Aside0.mk hb; clear ho hb hg hat))
 have BK7 := Aside0.mk (blk_drew BK6.out)
 have HB7 := Aside0.mk (below_drew HB6.out)
 have HO7 := Aside0.mk (Kd.R_below HO6.out (below_drew (Below.refl _ _)))
 have tt0 := (HB7.out.cell (World.block_lt_of_cell? _ _ T0.out)).trans T0.out
 have tt1 := (HB7.out.cell (World.block_lt_of_cell? _ _ T1.out)).trans T1.out
 have TT0 := Aside0.mk tt0
 have TT1 := Aside0.mk tt1
 clear BK1 BK2 BK3 BK4 BK5 BK6 HB1 HB2 HB3 HB4 HB5 HB6 HO2 HO3 HO4 HO5 HO6 tt0 tt1 zz0 zz1 y3 y4 x2
 have BK8 := BK7
 have HB8 := HB7
 have HO8 := HO7
 clear BK7 HB7 HO7
 refine start_ (n := 11) (S := fun w' => w'.cell? ⟨b, 4, none⟩ = some (.slice (some ad) lj.length c4) ∧ w'.cell? ⟨ad.block, ad.off + 2, none⟩ = some (.int .i64 jk.f0) ∧ w'.cell? ⟨ad.block, ad.off + 3, none⟩ = some (.slice AK jk.f1.length cK) ∧ w'.cell? ⟨ad.block, ad.off + 2 + 1, none⟩ = some (.slice AK jk.f1.length cK)) (ds := []) #[bF, bF, bF, bF, bF, bF, bF, bF, bF, bF, bF] (by kernel_rfl) rfl rfl ⟨(blk_cell BK8.out 4).trans rfl, TT0.out, TT1.out, TT1.out⟩ (fun hHeld => ?_)
 generalize w6.drew = w8 at BK8 HB8 HO8 TT0 TT1 hHeld ⊢
 refine pure_ (i := 0) (N := some 38) (v := ?_) (a' := ?_) #[bT, bF, bF, bF, bF, bF, bF, bF, bF, bF, bF] rfl rfl (by kernel_rfl) (fun _ _ _ h => h) (Or.inl ⟨by rfl, ?_⟩) ?_ ?_
 rotate_left
 · intro w'
   go_simp
   with_reducible rfl
 rotate_left
 · simp only [Act.put, lA, lB, lC, i64_w, i32_w]
   rfl
 refine pure_ (i := 3) (N := some 41) (v := ?_) (a' := ?_) #[bT, bF, bF, bT, bF, bF, bF, bF, bF, bF, bF] rfl rfl (by kernel_rfl) (fun _ _ _ h => h) (Or.inl ⟨by rfl, ?_⟩) ?_ ?_
 rotate_left
 · intro w'
   go_simp
   with_reducible rfl
 rotate_left
 · simp only [Act.put, lA, lB, lC, i64_w, i32_w]
   rfl
 refine take_ (i := 4) (N := some 42) (v := ?_) (a' := ?_) #[bT, bF, bF, bT, bT, bF, bF, bF, bF, bF, bF] rfl rfl (by kernel_rfl) (fun _ _ _ h => h) (Or.inl ⟨by rfl, ?_⟩) hHeld ?_ ?_
 rotate_left
 · rintro w' ⟨s0, s1, s2, s3⟩
   go_simp
   with_reducible rfl
 rotate_left
 · simp only [Act.put, lA, lB, lC, i64_w, i32_w]
   rfl
 refine pure_ (i := 5) (N := some 43) (v := ?_) (a' := ?_) #[bT, bF, bF, bT, bT, bT, bF, bF, bF, bF, bF] rfl rfl (by kernel_rfl) (fun _ _ _ h => h) (Or.inl ⟨by rfl, ?_⟩) ?_ ?_
 rotate_left
 · intro w'
   go_simp
   with_reducible rfl
 rotate_left
 · simp only [Act.put, lA, lB, lC, i64_w, i32_w]
   rfl
 refine take_ (i := 6) (N := some 44) (v := ?_) (a' := ?_) #[bT, bF, bF, bT, bT, bT, bT, bF, bF, bF, bF] rfl rfl (by kernel_rfl) (fun _ _ _ h => h) (Or.inl ⟨by rfl, ?_⟩) hHeld ?_ ?_
 rotate_left
 · rintro w' ⟨s0, s1, s2, s3⟩
   go_simp
   with_reducible rfl
 rotate_left
 · simp only [Act.put, lA, lB, lC, i64_w, i32_w]
   rfl
 refine one_ (i := 1) (N := some 39) #[bT, bT, bF, bT, bT, bT, bT, bF, bF, bF, bF] rfl rfl (by kernel_rfl) (by decide) (fun K hK => ?_)
 refine value_ (w1 := w8.alloc (.cells #[.string ⟨#[124]⟩] 9)) (v := .slice (some ⟨w8.heap.size, 0, none⟩) 1 1) (by rfl) rfl (by go_simp; first | done | rfl) ?_
 have BK9 := Aside0.mk (blk_alloc BK8.out (.cells #[.string ⟨#[124]⟩] 9))
 have HB9 := Aside0.mk (below_alloc HB8.out (.cells #[.string ⟨#[124]⟩] 9))
 refine hK.out _ _ ⟨(blk_cell BK9.out 4).trans rfl, (HB9.out.cell (World.block_lt_of_cell? _ _ T0.out)).trans T0.out, (HB9.out.cell (World.block_lt_of_cell? _ _ T1.out)).trans T1.out, (HB9.out.cell (World.block_lt_of_cell? _ _ T1.out)).trans T1.out⟩ (fun hHeld => ?_)
 clear hK K
 refine norm_ (a' := ?_) ?_ ?_
 rotate_left
 · show Act.put _ (some 39) _ = _
   simp only [Act.put, lA, lB, lC, i64_w, i32_w]
   rfl
 refine one_ (i := 2) (N := some 40) #[bT, bT, bT, bT, bT, bT, bT, bF, bF, bF, bF] rfl rfl (by kernel_rfl) (by decide) (fun K hK => ?_)
 refine Kd.R_append_step Kd.string (w0 := w) (W := w8) w.heap.size (by rfl) (.tmp 38) (.tmp 39) 74 9 (.string ⟨#[]⟩) 16 rfl Tryz.underlying74 info9 rfl (by decide) (by omega) v6 wb ⟨#[124]⟩ [.string ⟨#[124]⟩] (fun _ => True) (fun _ => False) (by rfl) (by rfl) rfl (fun _ hk => hk.elim) (fun _ _ => trivial) HO8.out HB8.out HB8.out.size (by omega) ?_
 intro v9 w9 ho hb hg hat
 replace ho : Kd.string.R 9 w9 w.heap.size (fun _ => True) v9 wc := (by rw [HWC.out]; exact ho)
 have BK10 := Aside0.mk (blk_grown BK8.out hg (Kd.R_ne HO8.out BK8.out (by decide)))
 have HO10 := Aside0.mk ho
 have HB10 := Aside0.mk hb
 clear ho hb hg hat BK9 HB9 BK8 HB8 HO8
 refine hK.out _ _ ⟨(blk_cell BK10.out 4).trans rfl, (HB10.out.cell (World.block_lt_of_cell? _ _ T0.out)).trans T0.out, (HB10.out.cell (World.block_lt_of_cell? _ _ T1.out)).trans T1.out, (HB10.out.cell (World.block_lt_of_cell? _ _ T1.out)).trans T1.out⟩ (fun hHeld => ?_)
 clear hK K
 refine norm_ (a' := ?_) ?_ ?_
 rotate_left
 · show Act.put _ (some 40) _ = _
   simp only [Act.put, lA, lB, lC, i64_w, i32_w]
   rfl
 refine one_ (i := 7) (N := some 45) #[bT, bT, bT, bT, bT, bT, bT, bT, bF, bF, bF] rfl rfl (by kernel_rfl) (by decide) (fun K hK => ?_)
 refine goes_ Tryz.func51 (by kernel_rfl) rfl #[.agg #[.int .i64 jk.f0, .slice AK jk.f1.length cK]] (by rfl) rfl rfl (by (try simp only [List.map_toArray, List.map_cons, List.map_nil]); first | done | rfl) ?_
 refine (jumpWords_calls jk AK cK _ (Kd.C_below HIK.out HB10.out) lK hkl HKS.out).mono ?_
 rintro e w10 ⟨v10, rfl, ho, hb⟩
 obtain ⟨A10, c10, rfl, hc10, hC10⟩ := Kd.R_reads ho
 refine ⟨_, rfl, ?_⟩
 have HC10 := Aside0.mk hC10
 have HO11 := Aside0.mk (Kd.R_below HO10.out hb)
 have HB11 := Aside0.mk (below_then HB10.out HB10.out.size hb)
 have BK11 := Aside0.mk (blk_below BK10.out hb)
 clear hb hC10 ho BK10 HB10 HO10
 refine hK.out _ _ ⟨(blk_cell BK11.out 4).trans rfl, (HB11.out.cell (World.block_lt_of_cell? _ _ T0.out)).trans T0.out, (HB11.out.cell (World.block_lt_of_cell? _ _ T1.out)).trans T1.out, (HB11.out.cell (World.block_lt_of_cell? _ _ T1.out)).trans T1.out⟩ (fun hHeld => ?_)
 clear hK K
 refine norm_ (a' := ?_) ?_ ?_
 rotate_left
 · show Act.put _ (some 45) _ = _
   simp only [Act.put, lA, lB, lC, i64_w, i32_w]
   rfl
 refine one_ (i := 8) (N := some 46) #[bT, bT, bT, bT, bT, bT, bT, bT, bT, bF, bF] rfl rfl (by kernel_rfl) (by decide) (fun K hK => ?_)
 refine Kd.R_append_rows_step Kd.string (Rr := Kd.string.K w10) (w0 := w) w.heap.size (by rfl) (.tmp 40) (.tmp 45) 74 9 (.string ⟨#[]⟩) 16 rfl Tryz.underlying74 info9 rfl (by decide) (by omega) v9 wc (jumpTxts jk) A10 (jumpTxts jk).length c10 (fun _ => True) (fun _ => False) (by rfl) (by rfl) HO11.out HC10.out (fun x cs h => h) (fun _ hk => hk.elim) (fun _ _ => trivial) HB11.out HB11.out.size (by simp [jumpTxts, numTxts]; omega) ?_
 intro v11 w11 ho hb hg hat
 rw [← HW.out] at ho
 have BK12 := Aside0.mk (blk_grown BK11.out hg (Kd.R_ne HO11.out BK11.out (by decide)))
 obtain ⟨g12, c12, rfl, -, -, -⟩ := Kd.R_form ho hlen.1
 have HO12 := Aside0.mk ho
 have HB12 := Aside0.mk hb
 clear ho hb hg hat BK11 HB11 HO11 HC10
 refine hK.out _ _ ⟨(blk_cell BK12.out 4).trans rfl, (HB12.out.cell (World.block_lt_of_cell? _ _ T0.out)).trans T0.out, (HB12.out.cell (World.block_lt_of_cell? _ _ T1.out)).trans T1.out, (HB12.out.cell (World.block_lt_of_cell? _ _ T1.out)).trans T1.out⟩ (fun hHeld => ?_)
 clear hK K
 refine norm_ (a' := ?_) ?_ ?_
 rotate_left
 · show Act.put _ (some 46) _ = _
   simp only [Act.put, lA, lB, lC, i64_w, i32_w]
   rfl
 refine one_ (i := 9) (N := some 47) #[bT, bT, bT, bT, bT, bT, bT, bT, bT, bT, bF] rfl rfl (by kernel_rfl) (by decide) (fun K hK => ?_)
 refine goes_ Tryz.func30 (by kernel_rfl) rfl #[.slice (some ⟨g12, 0, none⟩) ws.length c12] (by rfl) rfl rfl (by (try simp only [List.map_toArray, List.map_cons, List.map_nil]); first | done | rfl) ?_
 refine (text_calls w.heap.size g12 c12 (fun _ => True) ws _ HO12.out hlen.2 HZ.out).mono ?_
 rintro e w13 ⟨rfl, hb⟩
 refine ⟨_, rfl, ?_⟩
 have HB13 := Aside0.mk (below_then HB12.out HB12.out.size hb)
 have BK13 := Aside0.mk (blk_below BK12.out hb)
 clear hb
 refine hK.out _ _ ⟨(blk_cell BK13.out 4).trans rfl, (HB13.out.cell (World.block_lt_of_cell? _ _ T0.out)).trans T0.out, (HB13.out.cell (World.block_lt_of_cell? _ _ T1.out)).trans T1.out, (HB13.out.cell (World.block_lt_of_cell? _ _ T1.out)).trans T1.out⟩ (fun hHeld => ?_)
 clear hK K
 refine norm_ (a' := ?_) ?_ ?_
 rotate_left
 · show Act.put _ (some 47) _ = _
   simp only [Act.put, lA, lB, lC, i64_w, i32_w]
   rfl
 refine pure_ (i := 10) (N := some 2) (v := ?_) (a' := ?_) #[bT, bT, bT, bT, bT, bT, bT, bT, bT, bT, bT] rfl rfl (by kernel_rfl) (fun _ _ _ h => h) (Or.inl ⟨by rfl, ?_⟩) ?_ ?_
 rotate_left
 · intro w'
   go_simp
   with_reducible rfl
 rotate_left
 · simp only [Act.put, lA, lB, lC, i64_w, i32_w]
   rfl
 refine done_ (by kernel_rfl) ?_
 go_wp2
 go_ret
 exact ⟨rfl, HB13.out⟩
end Go.Proofs.YtjpkcbkkjefekaaGreatDoor.V
