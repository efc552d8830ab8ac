/- A part of the session's texts, laid small by the session's shrink.py. -/
import Derived.Test.YtjpkcbkkjefekaaGreatDoorV1
import Derived.Laws.CopyOwn
import Derived.Laws.CopyRow
import Derived.Deep.DeepMust
namespace Go.Proofs.YtjpkcbkkjefekaaGreatDoor.V
open Go.RowKit Go.Proofs.YtjpkcbkkjefekaaGreatDoorW.PrintWords Go.Proofs.YtjpkcbkkjefekaaGreatDoorW.PrintLast Go.Proofs.YtjpkcbkkjefekaaGreatDoorW.PrintMore
open Go.Proofs.YtjpkcbkkjefekaaGreatDoor.PA
set_option linter.unusedVariables false
set_option linter.unusedSimpArgs false
theorem mul_one_all : ∀ n : Fin 101, bits_Mul.f 1 (n.val : Int) = some (0, (n.val : Int)) := by decide +kernel
theorem mul_one (n : Nat) (hn : n ≤ 100) : bits_Mul.f 1 (n : Int) = some (0, (n : Int)) := mul_one_all ⟨n, by omega⟩
def intV (l : List Int) : List Value := l.map fun x => .int .i64 x
theorem own_part {w : World} {g n cap base : Nat} {e : TypeId} {cu : List Value} {l : List Int} (hg : w.heap[g]? = some (.cells cu.toArray e (0, 0))) (hc : cu.length = cap) (hn : n ≤ cap) (hb : base ≤ g) (hm : cap ≤ maxLen) (ht : cu.take n = intV l) (hl : l.length = n) {ok : Nat → Prop} (hok : ok g) :
    (Kd.int .i64).R e w base ok (.slice (some ⟨g, 0, none⟩) n cap) l := by
 have he : encs (fun x : Int => Value.int .i64 x) l = intV l := rfl
 refine Kd.R_of_own (enc := fun x : Int => Value.int .i64 x) ?_ (fun k hk => ?_)
 rotate_left
 · have : g = k := by simpa [Value.ownBlock] using hk
   exact this ▸ hok
 refine ⟨by rw [he]; simp [intV], .inr ⟨g, cap, cu.toArray, by rw [hl], hb, hg, by omega, hm, by simp [hc], ?_⟩⟩
 rw [he, ← ht, hl, Nat.mul_one]
theorem splice_take (cur cs : List Value) (k : Nat) (v : Value) (hk : cur.take k = List.replicate k v) (hc : cs = List.replicate cs.length v) (hl : k + cs.length ≤ cur.length) : (splice cur k cs).take (k + cs.length) = List.replicate (k + cs.length) v := by
 unfold splice
 rw [hk, ← List.append_assoc, List.take_append_of_le_length (by simp), List.take_of_length_le (by simp)]
 rw [hc]
 simp
theorem splice_length (cur cs : List Value) (k : Nat) (hl : k + cs.length ≤ cur.length) : (splice cur k cs).length = cur.length := by
 unfold splice
 simp
 omega
theorem size_int : (Tryz.prog.info? 3).map (·.size) = some 1 := by
  have h := info3
  revert h
  cases Tryz.prog.info? 3 with
  | none => intro h; cases h
  | some i =>
    intro h
    simp only [Option.map_some, Option.some.injEq, Prod.mk.injEq] at h ⊢
    exact h.2.1
theorem copy_src {w : World} {ad : Addr} {v : Value} {m : Nat} {y : Value} {j : Nat} (h : w.cell? (ad.add 0) = some v) (hm : m ≤ 1) (hj : (List.replicate m v)[j]? = some y) : w.cell? (ad.add j) = some y := by
 obtain ⟨h1, h2⟩ := List.getElem?_eq_some_iff.1 hj
 simp only [List.length_replicate] at h1
 have : j = 0 := by omega
 subst this
 rw [← h2, List.getElem_replicate]
 exact h
theorem copy_src2 {w : World} {g k m : Nat} {v : Value} {cu : List Value} {t : TypeId} (hg : w.heap[g]? = some (.cells cu.toArray t (0, 0))) (ht : cu.take k = List.replicate k v) (hm : m ≤ k) (hk : k ≤ cu.length) {j : Nat} {y : Value} (hj : (List.replicate m v)[j]? = some y) : w.cell? ((⟨g, 0, none⟩ : Addr).add j) = some y := by
 obtain ⟨h1, h2⟩ := List.getElem?_eq_some_iff.1 hj
 simp only [List.length_replicate] at h1
 have e1 : cu[j]? = some y := by
   rw [← h2, List.getElem_replicate]
   have h3 := congrArg (fun l => l[j]?) ht
   simp only [List.getElem?_take, List.getElem?_replicate] at h3
   rw [if_pos (by omega), if_pos (by omega)] at h3
   exact h3
 have h4 := (blk_cell hg j).trans (by simpa using e1)
 unfold Addr.add
 split
 rotate_left
 · simpa using h4
 rename_i h5
 rw [h5] at h4
 exact h4
theorem one_rep {m : Nat} {x : Int} {y : Value} (h : y ∈ List.replicate m (Value.int .i64 x)) : y.oneCell' = true := by
 rw [(List.mem_replicate.1 h).2]
 rfl
theorem made_form {w : World} {base n : Nat} {ok : Nat → Prop} {u : Value} (h : (Kd.int .i64).R 3 w base ok u (List.replicate ((n : Int).toNat) 0)) (hg : ∃ b, u.ownBlock = some b ∧ base ≤ b) :
    ∃ g cap, u = .slice (some ⟨g, 0, none⟩) n cap ∧ base ≤ g ∧ ∃ cur : List Value, w.heap[g]? = some (.cells cur.toArray 3 (0, 0)) ∧ cur.length = cap ∧ n ≤ cap ∧ cap ≤ maxLen := by
 have ho := Kd.own_of_R h
 rcases ho.2 with ⟨rfl, _⟩ | ⟨g, cap, cur, rfl, hb, hh, hc, hcm, hs, _⟩
 · obtain ⟨b, hb, _⟩ := hg
   simp [Value.ownBlock] at hb
 simp only [List.length_replicate, Int.toNat_natCast] at *
 exact ⟨g, cap, rfl, hb, cur.toList, by simpa using hh, by simpa using hs, hc, hcm⟩
set_option maxHeartbeats 2000000 in
set_option maxRecDepth 100000 in
theorem repeat_calls (A : Option Addr) (c : Nat) (v : Int) (n : Nat) (w : World) (hn : n ≤ 100) (hr : IntsC w A [v]) :
    Calls Tryz.prog 59 #[.slice A 1 c, .int .i64 (n : Int)] w fun e w' => ∃ u, e = .returned u ∧ (Kd.int .i64).R 3 w' w.heap.size (fun _ => True) u (List.replicate n v) ∧ Below w.heap.size w w' := by
 obtain ⟨ad, e, hx⟩ := at_int hr 0 (by omega) (by simp)
 subst e
 have hx' : w.cell? (ad.add 0) = some (.int .i64 v) := hx
 have HX := Aside0.mk hx'
 have HB := Aside0.mk (Below.refl w.heap.size w)
 clear hr hx hx'
 obtain ⟨m, hm⟩ : ∃ m, m = Nat.min 1 n := ⟨_, rfl⟩
 have hm1 : m ≤ 1 := hm ▸ Nat.min_le_left _ _
 have hmn : m ≤ n := hm ▸ Nat.min_le_right _ _
 have M0 := Aside0.mk hm
 clear hm
 go_enter Tryz.func59, Tryz.ntmps59
 go_wp2_with (first
   | (go_at_call 76; refine (bits_Mul.calls 1 (n : Int) 0 (n : Int) _ (mul_one n hn)).mono ?_; rintro e w1 ⟨rfl, ⟨nq, rfl⟩⟩)
   | ((with_reducible refine gate_dst (N := 30) rfl ?_); (refine Kd.R_make (Kd.int .i64) (w0 := w) w.heap.size 3 rfl (N := 30) rfl 50 (.tmp 29) (.tmp 29) rfl (n : Int) rfl rfl Tryz.underlying50 (.int .i64 0) 8 info3 rfl (by decide) (by omega) (0 : Int) (ok := fun _ => True) (okp := fun _ => True) rfl (fun _ _ => trivial) trivial (by omega) (by omega) (pw_below_drewN HB.out nq) (Nat.le_refl _) ?_; intro u w2 ho hb2 hg2 hn2; obtain ⟨g, cap, hu, hge, hcur⟩ := made_form ho (hn2.imp fun b hb => ⟨hb.1, Nat.le_trans (pw_below_drewN HB.out nq).size hb.2⟩); subst hu; obtain ⟨cur, hcur, hcl, hct, hcm⟩ := hcur; have HC := Aside0.mk hcur; have HB2 := Aside0.mk hb2; have HX2 := Aside0.mk ((hb2.cell (World.block_lt_of_cell? w _ HX.out)).trans HX.out); clear ho hb2 hg2 hn2 hcur))
   | ((with_reducible refine gate_builtin (b := .copy) (xs := #[.tmp 31, .tmp 32]) rfl ?_); refine wpList_copy_splice rfl (.tmp 31) (.tmp 32) 50 50 rfl 3 Tryz.underlying50 size_int (some ⟨g, 0, none⟩) (some ad) n cap 1 c rfl rfl g 0 cur 3 HC.out (List.replicate m (Value.int .i64 v)) ((List.length_replicate ..).trans M0.out) (fun _ => ⟨rfl, ad, rfl, fun j y hj => copy_src HX2.out hm1 hj⟩) (by rw [List.length_replicate]; omega) (fun y hy => one_rep hy) w.heap.size w HB2.out hge ?_; intro w3 hg3 hb3; have HC3 := Aside0.mk (show w3.heap[g]? = some (.cells (splice cur 0 (List.replicate m (Value.int .i64 v))).toArray 3 (0, 0)) from hg3); have HB3 := Aside0.mk hb3; clear hg3 hb3))
 have hsl : (splice cur 0 (List.replicate m (Value.int .i64 v))).length = cap := by rw [splice_length _ _ _ (by rw [List.length_replicate]; omega)]; exact hcl
 have hst : (splice cur 0 (List.replicate m (Value.int .i64 v))).take m = List.replicate m (Value.int .i64 v) := by
   have := splice_take cur (List.replicate m (Value.int .i64 v)) 0 (Value.int .i64 v) rfl (by simp) (by rw [List.length_replicate]; omega)
   simpa using this
 generalize splice cur 0 (List.replicate m (Value.int .i64 v)) = cu0 at HC3 hsl hst
 have HST := Aside0.mk hst
 have hm0 : m = 0 → n = 0 := by
   intro h
   have h2 := M0.out
   rw [h] at h2
   rcases Nat.eq_zero_or_pos n with h3 | h3
   · exact h3
   have : Nat.min 1 n = 1 := Nat.min_eq_left h3
   omega
 clear hst HC HB2 hcl HX2
 go_loopw [8] (fun v8 w' => ∃ (k : Nat) (cu : List Value), v8 = .int .i64 k ∧ k ≤ n ∧ (k = 0 → n = 0) ∧ cu.length = cap ∧ Aside0 (cu.take k = List.replicate k (Value.int .i64 v)) ∧ Aside0 (w'.heap[g]? = some (.cells cu.toArray 3 (0, 0))) ∧ Aside0 (Below w.heap.size w w')) (fun v8 _ => n - (intOf v8).toNat)
 case atStart => exact ⟨m, cu0, by simp [goInt], hmn, hm0, hsl, HST, HC3, HB3⟩
 clear HC3 HB3 HST hsl hm0
 obtain ⟨k, cu, rfl, hk, hk0, hcu, HT, HC, HB'⟩ := hrel
 by_cases hlt : k < n
 rotate_left
 · obtain rfl : k = n := by omega
   go_wp2
   go_ret
   refine ⟨_, rfl, ?_, HB'.out⟩
   exact own_part HC.out hcu hct hge hcm (HT.out.trans (by simp [intV])) (by simp) trivial
 have q1 : k ≤ cap := by omega
 have q2 : (0 : Int) ≤ (k : Int) := by omega
 have q3 : (k : Int) ≤ (n : Int) := by omega
 have q4 : (n : Int) ≤ (cap : Int) := by omega
 have q5 : (k : Int) ≤ (cap : Int) := by omega
 have q6 : (cap = k) = False := eq_false (by omega)
 obtain ⟨m2, hm2⟩ : ∃ m2, m2 = Nat.min k (n - k) := ⟨_, rfl⟩
 have r1 : m2 ≤ k := hm2 ▸ Nat.min_le_left _ _
 have r2 : m2 ≤ n - k := hm2 ▸ Nat.min_le_right _ _
 have r3 : 0 < m2 := by
   rw [hm2]
   exact Nat.lt_min.2 ⟨by omega, by omega⟩
 have M2 := Aside0.mk hm2
 clear hm2
 have HCd := Aside0.mk (blk_drew HC.out)
 have HBd := Aside0.mk (below_drew HB'.out)
 have HS : Aside0 (∀ (j : Nat) (y : Value), (List.replicate m2 (Value.int .i64 v))[j]? = some y → wr.drew.cell? ((⟨g, 0, none⟩ : Addr).add j) = some y) := ⟨fun j y hj => copy_src2 HCd.out HT.out r1 (by omega) hj⟩
 clear HC HB'
 go_wp2
 refine start_ (n := 10) (S := fun _ => True) (ds := []) #[bF, bF, bF, bF, bF, bF, bF, bF, bF, bF] (by kernel_rfl) rfl rfl trivial (fun hHeld => ?_)
 refine pure_ (i := 0) (N := some 38) (v := ?_) (a' := ?_) #[bT, bF, bF, bF, bF, bF, bF, bF, bF, bF] rfl rfl (by kernel_rfl) (fun _ _ _ h => h) (Or.inl ⟨by rfl, ?_⟩) ?_ ?_
 rotate_left
 · intro w'
   go_simp
   with_reducible rfl
 rotate_left
 · simp only [Act.put, lA, lB, lC, i64_w, i32_w]
   rfl
 refine pure_ (i := 1) (N := some 39) (v := ?_) (a' := ?_) #[bT, bT, bF, bF, bF, bF, bF, bF, bF, bF] rfl rfl (by kernel_rfl) (fun _ _ _ h => h) (Or.inl ⟨by rfl, ?_⟩) ?_ ?_
 rotate_left
 · intro w'
   go_simp
   with_reducible rfl
 rotate_left
 · simp only [Act.put, lA, lB, lC, i64_w, i32_w]
   rfl
 refine pure_ (i := 2) (N := some 40) (v := ?_) (a' := ?_) #[bT, bT, bT, bF, bF, bF, bF, bF, bF, bF] rfl rfl (by kernel_rfl) (fun _ _ _ h => h) (Or.inl ⟨by rfl, ?_⟩) ?_ ?_
 rotate_left
 · intro w'
   go_simp
   with_reducible rfl
 rotate_left
 · simp only [Act.put, lA, lB, lC, i64_w, i32_w]
   rfl
 refine pure_ (i := 3) (N := some 41) (v := ?_) (a' := ?_) #[bT, bT, bT, bT, bF, bF, bF, bF, bF, bF] rfl rfl (by kernel_rfl) (fun _ _ _ h => h) (Or.inl ⟨by rfl, ?_⟩) ?_ ?_
 rotate_left
 · intro w'
   go_simp
   with_reducible rfl
 rotate_left
 · simp only [Act.put, lA, lB, lC, i64_w, i32_w]
   rfl
 refine pure_ (i := 4) (N := some 42) (v := ?_) (a' := ?_) #[bT, bT, bT, bT, bT, bF, bF, bF, bF, bF] rfl rfl (by kernel_rfl) (fun _ _ _ h => h) (Or.inl ⟨by rfl, ?_⟩) ?_ ?_
 rotate_left
 · intro w'
   go_simp
   with_reducible rfl
 rotate_left
 · simp only [Act.put, lA, lB, lC, i64_w, i32_w]
   rfl
 refine pure_ (i := 5) (N := some 43) (v := ?_) (a' := ?_) #[bT, bT, bT, bT, bT, bT, bF, bF, bF, bF] rfl rfl (by kernel_rfl) (fun _ _ _ h => h) (Or.inl ⟨by rfl, ?_⟩) ?_ ?_
 rotate_left
 · intro w'
   go_simp
   with_reducible rfl
 rotate_left
 · simp only [Act.put, lA, lB, lC, i64_w, i32_w]
   rfl
 refine pure_ (i := 6) (N := some 44) (v := ?_) (a' := ?_) #[bT, bT, bT, bT, bT, bT, bT, bF, bF, bF] rfl rfl (by kernel_rfl) (fun _ _ _ h => h) (Or.inl ⟨by rfl, ?_⟩) ?_ ?_
 rotate_left
 · intro w'
   go_simp
   with_reducible rfl
 rotate_left
 · simp only [Act.put, lA, lB, lC, i64_w, i32_w]
   rfl
 refine one_ (i := 7) (N := some 45) #[bT, bT, bT, bT, bT, bT, bT, bT, bF, bF] rfl rfl (by kernel_rfl) (by decide) (fun K hK => ?_)
 refine step_copy_splice rfl (.tmp 41) (.tmp 44) 50 50 rfl 3 Tryz.underlying50 size_int (some ⟨g, k, none⟩) (some ⟨g, 0, none⟩) (n - k) (cap - k) k cap rfl rfl g k cu 3 HCd.out (List.replicate m2 (Value.int .i64 v)) ((List.length_replicate ..).trans M2.out) (fun _ => ⟨rfl, _, rfl, HS.out⟩) (by rw [List.length_replicate]; omega) (fun y hy => one_rep hy) w.heap.size w HBd.out hge ?_
 intro w4 hg4 hb4
 have HC4 := Aside0.mk (show w4.heap[g]? = some (.cells (splice cu k (List.replicate m2 (Value.int .i64 v))).toArray 3 (0, 0)) from hg4)
 have HB4 := Aside0.mk hb4
 refine hK.out _ _ trivial (fun hHeld => ?_)
 clear hg4 hb4
 clear hK K
 refine norm_ (a' := ?_) ?_ ?_
 rotate_left
 · show Act.put _ (some 45) _ = _
   simp only [Act.put, lA, lB, lC, i64_w, i32_w]
   rfl
 refine pure_ (i := 8) (N := some 46) (v := ?_) (a' := ?_) #[bT, bT, bT, bT, bT, bT, bT, bT, bT, bF] rfl rfl (by kernel_rfl) (fun _ _ _ h => h) (Or.inl ⟨by rfl, ?_⟩) ?_ ?_
 rotate_left
 · intro w'
   go_simp
   with_reducible rfl
 rotate_left
 · simp only [Act.put, lA, lB, lC, i64_w, i32_w]
   rfl
 refine pure_ (i := 9) (N := some 8) (v := ?_) (a' := ?_) #[bT, bT, bT, bT, bT, bT, bT, bT, bT, bT] rfl rfl (by kernel_rfl) (fun _ _ _ h => h) (Or.inl ⟨by rfl, ?_⟩) ?_ ?_
 rotate_left
 · intro w'
   go_simp
   with_reducible rfl
 rotate_left
 · simp only [Act.put, lA, lB, lC, i64_w, i32_w]
   rfl
 refine done_ (by kernel_rfl) ?_
 clear q6
 have HT2 := splice_take cu (List.replicate m2 (Value.int .i64 v)) k (Value.int .i64 v) HT.out (by simp) (by rw [List.length_replicate]; omega)
 have HL2 := (splice_length cu (List.replicate m2 (Value.int .i64 v)) k (by rw [List.length_replicate]; omega)).trans hcu
 rw [List.length_replicate] at HT2
 generalize splice cu k (List.replicate m2 (Value.int .i64 v)) = cu2 at HC4 HT2 HL2
 have HT3 := Aside0.mk HT2
 simp only [goInt, List.length_replicate]
 clear HT2 HT HCd HBd HS hk0 M2 M0
 have e5 : wrap64 ((k : Int) + (m2 : Int)) = ((k + m2 : Nat) : Int) := by rw [IntWalk.wrap64_in _ (by omega)]; omega
 have E5 := Aside0.mk e5
 clear e5
 clear q1 q2 q3 q4 q5
 go_wp2
 refine ⟨⟨k + m2, cu2, congrArg _ E5.out, by omega, by omega, HL2, HT3, HC4, HB4⟩, ?_⟩
 rw [E5.out]
 simp only [intOf, Int.toNat_natCast]
 omega
end Go.Proofs.YtjpkcbkkjefekaaGreatDoor.V
