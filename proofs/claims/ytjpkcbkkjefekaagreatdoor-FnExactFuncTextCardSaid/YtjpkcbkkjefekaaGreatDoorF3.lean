/- A part of the session's texts, laid small by the session's shrink.py. -/
import Derived.Test.YtjpkcbkkjefekaaGreatDoorF2
import Derived.Test.YtjpkcbkkjefekaaGreatDoorV5
namespace Go.Proofs.YtjpkcbkkjefekaaGreatDoor.V
open Go.RowKit Go.Proofs.YtjpkcbkkjefekaaGreatDoorW.PrintWords Go.Proofs.YtjpkcbkkjefekaaGreatDoorW.PrintLast Go.Proofs.YtjpkcbkkjefekaaGreatDoorW.PrintMore
open Go.Proofs.YtjpkcbkkjefekaaGreatDoor.PA
set_option linter.unusedVariables false
set_option linter.unusedSimpArgs false
theorem below_of_none {w w1 : World} (h : w.grownBy w1 none) : Below w.heap.size w w1 := ⟨h.os, h.tape, h.output, h.size, fun i hi => h.block i hi (by simp)⟩
def Bld (B b : Nat) (l : List UInt8) (w : World) : Prop := Lib.IsBuilderF 68 5 B b (Lib.byteCells l) w
theorem bld_below {B b : Nat} {l : List UInt8} {w w1 : World} (h : Bld B b l w) (hb : Below w.heap.size w w1) : Bld B b l w1 := by
 have key : ∀ p, Lib.BuilderAtF 68 5 B b p (Lib.byteCells l) w → Lib.BuilderAtF 68 5 B b p (Lib.byteCells l) w1 := by
   intro p h
   have hlt := h.lt
   obtain ⟨hB, v, hbk, hown, hne⟩ := h
   exact ⟨hB, v, (hb.block b hlt).trans hbk, hown.kept (grown_of_below hb none) (by cases hv : v.ownBlock <;> simp), hne⟩
 exact h.elim (fun x => .inl (key _ x)) (fun x => .inr (key _ x))
theorem bld_grown {B b : Nat} {l : List UInt8} {w w1 : World} {v : Value} (h : Bld B b l w) (hg : w.grownBy w1 v.ownBlock) (hty : ∀ k, v.ownBlock = some k → ∃ cells, w.heap[k]? = some (.cells cells 9 (0, 0))) : Bld B b l w1 := by
 have key : ∀ p, Lib.BuilderAtF 68 5 B b p (Lib.byteCells l) w → Lib.BuilderAtF 68 5 B b p (Lib.byteCells l) w1 := by
   intro p h
   have hlt := h.lt
   obtain ⟨hB, u, hbk, hown, hne⟩ := h
   refine ⟨hB, u, (hg.block b hlt (fun e => ?_)).trans hbk, hown.kept hg ?_, hne⟩
   · obtain ⟨cells, hc⟩ := hty b e.symm
     rw [hbk] at hc
     injection hc with hc
     injection hc with _ hc
     exact absurd hc (by decide)
   rcases hown.2 with ⟨rfl, _⟩ | ⟨g, cap, cur, fz, rfl, _, hgg, _⟩
   · exact .inl rfl
   refine .inr (fun e => ?_)
   obtain ⟨cells, hc⟩ := hty g e.symm
   rw [hgg] at hc
   injection hc with hc
   injection hc with _ hc
   exact absurd hc (by decide)
 exact h.elim (fun x => .inl (key _ x)) (fun x => .inr (key _ x))
theorem bld_new (w0 w : World) (hb : w0.heap.size ≤ w.heap.size) : Bld w0.heap.size w.heap.size [] (w.alloc (.cells #[.pointer none, .slice none 0 0] 68)) :=
  .inl ⟨hb, .slice none 0 0, blk_new w _, World.ownsRowF_of (own_nil _ _ _ _), by simp [Value.ownBlock]⟩
def Kpt (b : Nat) (w w' : World) : Prop := Lib.OthersKept 5 (some b) w w'
theorem kpt_blk {b g : Nat} {t : TypeId} {cs : Array Value} {w w' : World} (h : Kpt b w w') (hg : w.heap[g]? = some (.cells cs t (0, 0))) (hne : g ≠ b) (ht : t ≠ 5) : w'.heap[g]? = some (.cells cs t (0, 0)) :=
  h g _ hg (fun e => hne (Option.some.inj e)) (fun c fz e => ht (by injection e))
theorem writeString_calls (B b : Nat) (l : List UInt8) (s : ByteArray) (w : World) (h : Bld B b l w) (hlen : l.length + s.size ≤ 140737488355328) (hBw : B ≤ w.heap.size) :
    Calls Tryz.prog 29 #[.pointer (some ⟨b, 0, none⟩), .string s] w fun e w' => e = .returned (.tuple #[.int .i64 s.size, .nilIface]) ∧ Bld B b (l ++ s.data.toList) w' ∧ Below B w w' ∧ Kpt b w w' :=
  (Tryz.Builder_WriteString_kj B b (Lib.byteCells l) s w h (by rw [Lib.byteCells_length]; exact hlen) hBw).mono fun e w' ⟨h1, h2, h3, h4⟩ => ⟨h1, .inr (by rw [Lib.byteCells_append, ← Lib.strCells_eq]; exact h2), h3, h4⟩
theorem string_calls (B b : Nat) (l : List UInt8) (w : World) (h : Bld B b l w) (hBw : B ≤ w.heap.size) :
    Calls Tryz.prog 34 #[.pointer (some ⟨b, 0, none⟩)] w fun e w' => e = .returned (.string ⟨l.toArray⟩) ∧ Below B w w' :=
  (Tryz.Builder_String_kj B b l w h hBw).mono fun e w' ⟨h1, h2, h3, h4⟩ => ⟨h1, h3⟩
def wFunc : ByteArray := ⟨#[102, 117, 110, 99]⟩
def wBlock : ByteArray := ⟨#[98, 108, 111, 99, 107]⟩
def bytes (s : ByteArray) : List UInt8 := s.data.toList
theorem bytes_len (s : ByteArray) : (bytes s).length = s.size := by unfold bytes; rw [Array.length_toList]; rfl
def headTxt (w : ByteArray) (n : Int) : ByteArray := lineTxt ([w] ++ numTxts [n])
def insB (l : List S52) : List UInt8 := (l.map fun x => bytes (instTxt x)).flatten
def blkB (b : S48) : List UInt8 := bytes (headTxt wBlock b.f0) ++ insB b.f1 ++ bytes (endTxt b)
def blksB (l : List S48) : List UInt8 := (l.map blkB).flatten
def funB (p : Int) (l : List S48) : List UInt8 := bytes (headTxt wFunc p) ++ blksB l
def FineI (x : S52) : Prop := (∃ k : Nat, x.f0 = (k : Int) + 1 ∧ k < 13) ∧ (-9223372036854775808 ≤ x.f1 ∧ x.f1 ≤ 9223372036854775807) ∧ x.f2.length ≤ 100 ∧ smallI x.f2
def FineB (b : S48) : Prop := (0 ≤ b.f0 ∧ b.f0 < 100) ∧ b.f1.length ≤ 80 ∧ (∀ x ∈ b.f1, FineI x) ∧ (b.f2 ≠ 2 → 0 ≤ b.f3 ∧ b.f3 < 100) ∧ (∀ j ∈ b.f4, smallI ([j.f0] ++ j.f1) ∧ j.f1.length ≤ 50) ∧ (b.f2 = 2 → 1 ≤ b.f4.length) ∧ (b.f2 ≠ 1 → b.f2 ≠ 2 → 2 ≤ b.f4.length)
theorem line_size {xs : List ByteArray} (hn : xs.length ≤ 1000) (hz : ∀ x ∈ xs, x.size ≤ 100) : (lineTxt xs).size ≤ 200001 := by
 have h := join_size xs 100 hz
 have h2 : xs.length * (100 + 1) ≤ 1000 * 101 := Nat.mul_le_mul_right _ hn
 unfold lineTxt
 rw [size_append]
 have h3 : (⟨(Lib.join (xs.map (·.data.toList)) [32]).toArray⟩ : ByteArray).size = (Lib.join (xs.map (·.data.toList)) [32]).length := size_bs _
 have h4 : (⟨#[10]⟩ : ByteArray).size = 1 := rfl
 omega
theorem head_size {w : ByteArray} {n : Int} (hw : w.size ≤ 100) (hn : 0 ≤ n ∧ n < 100) : (headTxt w n).size ≤ 200001 :=
  line_size (by simp [numTxts]) (both_size (one_size hw) (nums_size (by intro m hm; rw [List.mem_singleton.1 hm]; exact hn)))
theorem inst_size {x : S52} (h : FineI x) : (instTxt x).size ≤ 200001 := by
 obtain ⟨⟨k, hk, hk13⟩, hn, hl, hs⟩ := h
 have e : (x.f0 - 1).toNat = k := by omega
 have ho := opTxt_size ⟨k, hk13⟩
 have ho2 : (opTxt k).size ≤ 100 := by simp only at ho; omega
 unfold instTxt
 rw [e]
 split
 rotate_left
 · exact line_size (by simp [numTxts]; omega) (both_size (one_size ho2) (nums_size hs))
 exact line_size (by simp) (both_size (one_size ho2) (one_size (by have := numTxt_size x.f1 hn; omega)))
theorem memT {l : List S61} {i : Nat} (h : i < l.length) : rd_T61 l (i : Int) ∈ l := by
 have h3 : rd_T61 l (i : Int) = l[i] := by
   unfold rd_T61
   rw [Int.toNat_natCast, List.getD_eq_getElem?_getD, List.getElem?_eq_getElem h]
   rfl
 rw [h3]
 exact List.getElem_mem _
theorem jumps_len {j : S61} (h : j.f1.length ≤ 50) : (jumpTxts j).length ≤ 51 := by simp [jumpTxts, numTxts]; omega
theorem end_size {b : S48} (h : FineB b) : (endTxt b).size ≤ 200001 := by
 obtain ⟨-, -, -, hv, hj, h2, h3⟩ := h
 unfold endTxt
 by_cases e1 : b.f2 = 1
 · rw [if_pos e1]
   exact line_size (by simp [numTxts]) (both_size (one_size (by decide)) (nums_size (by intro m hm; rw [List.mem_singleton.1 hm]; exact hv (by omega))))
 rw [if_neg e1]
 by_cases e2 : b.f2 = 2
 · rw [if_pos e2]
   have hm := hj _ (memT (l := b.f4) (i := 0) (by have := h2 e2; omega))
   have hl := jumps_len hm.2
   exact line_size (by rw [List.length_append]; have : (jumpTxts (rd_T61 b.f4 0)).length ≤ 51 := hl; simp only [List.length_singleton]; omega) (both_size (one_size (by decide)) (jump_sizes hm.1))
 rw [if_neg e2]
 have hle := h3 e1 e2
 have hm := hj _ (memT (l := b.f4) (i := 0) (by omega))
 have hm2 := hj _ (memT (l := b.f4) (i := 1) (by omega))
 have hl : (jumpTxts (rd_T61 b.f4 0)).length ≤ 51 := jumps_len hm.2
 have hl2 : (jumpTxts (rd_T61 b.f4 1)).length ≤ 51 := jumps_len hm2.2
 exact line_size (by simp only [List.length_append, List.length_singleton]; have : (numTxts [b.f3]).length = 1 := rfl; omega) (both_size (both_size (both_size (both_size (one_size (by decide)) (nums_size (by intro m hm; rw [List.mem_singleton.1 hm]; exact hv e2))) (jump_sizes hm.1)) (one_size (by decide))) (jump_sizes hm2.1))
theorem insB_step {l : List S52} {i : Nat} {x : S52} (h : l[i]? = some x) : insB (l.take (i + 1)) = insB (l.take i) ++ bytes (instTxt x) := by
 unfold insB
 rw [List.take_add_one, h]
 simp
theorem blksB_step {l : List S48} {i : Nat} {x : S48} (h : l[i]? = some x) : blksB (l.take (i + 1)) = blksB (l.take i) ++ blkB x := by
 unfold blksB
 rw [List.take_add_one, h]
 simp
set_option maxHeartbeats 4000000 in
set_option maxRecDepth 100000 in
theorem funcText_calls (A : Option Addr) (c : Nat) (p : Int) (l : List S48) (w : World) (ht : Tab w) (hr : k48.C w A l.length l) (hc : l.length ≤ c) (hp : 0 ≤ p ∧ p < 100) (hl8 : l.length ≤ 8) (hf : ∀ b ∈ l, FineB b) :
    Calls Tryz.prog 14 #[.agg #[.int .i64 p, .slice A l.length c]] w fun e w' => e = .returned (.string ⟨(funB p l).toArray⟩) ∧ Below w.heap.size w w' := by
 have HR := Aside0.mk hr
 have HF := Aside0.mk hf
 have HT := Aside0.mk ht
 clear hr hf ht
 have hu := Tryz.underlying30
 have hu2 := Tryz.underlying48
 have hu3 := Tryz.underlying52
 have hu4 := Tryz.underlying68
 obtain ⟨ys, hys⟩ : ∃ ys, ys = [p].map numTxt := ⟨_, rfl⟩
 have HY := Aside0.mk hys
 have hyl : ys.length ≤ 1 := by rw [hys]; simp
 clear hys
 obtain ⟨ws, hws⟩ : ∃ ws, ws = [wFunc] ++ numTxts [p] := ⟨_, rfl⟩
 have HW := Aside0.mk hws
 have HS := Aside0.mk (show smallI [p] by intro n hn; rw [List.mem_singleton.1 hn]; exact hp)
 have HZ := Aside0.mk (show ∀ x ∈ ws, x.size ≤ 100 by rw [hws]; exact both_size (one_size (by decide)) (nums_size HS.out))
 have hlen : 0 < ws.length ∧ ws.length ≤ 1000 := by rw [hws]; simp [numTxts]
 obtain ⟨ln, hln⟩ : ∃ ln, ln = headTxt wFunc p := ⟨_, rfl⟩
 have hlz : ln.size ≤ 200001 := by rw [hln]; exact head_size (by decide) hp
 have HLN : Aside0 (ln = lineTxt ws) := ⟨by rw [hln, hws]; rfl⟩
 have HLH := Aside0.mk hln
 clear hws hln
 go_enter Tryz.func14, Tryz.ntmps14
 go_wp2_with (first
   | ((with_reducible refine gate_dst (N := 1) rfl ?_); refine box_event ?hg (N := 1) ?hd (cs := #[.int .i64 p, .slice A l.length c]) (t := 30) ?hr ?_; (case hd => rfl); (case hg => rfl); (case hr => first | (go_simp; done) | (go_simp; rfl)); intro b hg w1 hbox hb; have BK1 := Aside0.mk hbox; have HB1 := Aside0.mk hb; clear hb hbox hg; have hbl : b < w1.heap.size := blk_lt BK1.out; have hbne : b ≠ w1.heap.size := Nat.ne_of_lt hbl; have x0 : w1.cell? ⟨b, 0, none⟩ = some (.int .i64 p) := (blk_cell BK1.out 0).trans rfl)
   | ((with_reducible refine gate_dst (N := 9) rfl ?_); refine Kd.R_lit Kd.string (w0 := w) w.heap.size 9 ?hg (N := 9) ?hd (xs := [(⟨#[102, 117, 110, 99]⟩ : ByteArray)]) (inner := [.string (⟨#[102, 117, 110, 99]⟩ : ByteArray)]) (ok := fun _ => True) (okp := fun _ => False) ?hr (Kd.reps_scalar (enc := Value.string) [(⟨#[102, 117, 110, 99]⟩ : ByteArray)]) (fun _ hk => hk.elim) trivial (below_alloc HB1.out (.cells #[.pointer none, .slice none 0 0] 68)) ((below_alloc HB1.out (.cells #[.pointer none, .slice none 0 0] 68))).size (by simp) ?_; (case hd => rfl); (case hg => rfl); (case hr => first | (go_simp; done) | (go_simp; rfl)); intro v2 w2 ho hb hg hn; have hbN := below_of_none hg; have x0 : w2.cell? ⟨b, 0, none⟩ = some (.int .i64 p) := (blk_cell (blk_below (blk_alloc BK1.out _) hbN) 0).trans rfl; have BK2 := Aside0.mk (blk_below (blk_alloc BK1.out _) hbN); have BD2 := Aside0.mk (bld_below (bld_new w w1 HB1.out.size) hbN); have HO2 := Aside0.mk ho; have HB2 := Aside0.mk hb; clear ho hb hg hn hbN)
   | (go_at_call 31; refine (numberWords_calls (some ⟨w2.heap.size, 0, none⟩) 1 [p] _ (ints_lit w2 p _) (by simp) (by simp) HS.out).mono ?_; rintro e w3 ⟨v3, rfl, ho, hb⟩; rw [← HY.out] at ho; obtain ⟨A3, c3, rfl, hc3, hC3⟩ := Kd.R_reads ho; have HC3 := Aside0.mk hC3; have hbA := below_then (below_alloc (Below.refl w2.heap.size w2) (.cells #[.int .i64 (p)] 3)) (below_alloc (Below.refl w2.heap.size w2) (.cells #[.int .i64 (p)] 3)).size hb; have HO3 := Aside0.mk (Kd.R_below HO2.out hbA); have HB3 := Aside0.mk (below_then HB2.out HB2.out.size hbA); have BK3 := Aside0.mk (blk_below BK2.out hbA); have BD3 := Aside0.mk (bld_below BD2.out hbA); clear hb hbA hC3 ho)
   | ((with_reducible refine gate_builtin (b := .append) (xs := #[.tmp 9, .tmp 13]) rfl ?_); at_builtin; refine Kd.R_append_rows Kd.string (Rr := Kd.string.K w3) (w0 := w) w.heap.size rfl (.tmp 9) (.tmp 13) 74 9 (.string ⟨#[]⟩) 16 rfl Tryz.underlying74 info9 rfl (by decide) (by omega) v2 ([(⟨#[102, 117, 110, 99]⟩ : ByteArray)]) (ys) (A3) (ys.length) (c3) (fun _ => True) (fun _ => False) rfl rfl HO3.out HC3.out (fun x cs h => h) (fun _ hk => hk.elim) (fun _ _ => trivial) HB3.out (HB3.out).size (by simp only [List.length_singleton]; omega) ?_; intro v4 w4 ho hb hg hat; replace ho : Kd.string.R 9 w4 w.heap.size (fun _ => True) v4 ws := (by rw [HW.out]; rw [HY.out] at ho; exact ho); have BK4 := Aside0.mk (blk_grown BK3.out hg (Kd.R_ne HO3.out BK3.out (by decide))); have BD4 := Aside0.mk (bld_grown BD3.out hg (Kd.R_typed HO3.out)); obtain ⟨g4, c4, rfl, -, -, -⟩ := Kd.R_form ho hlen.1; have HO4 := Aside0.mk ho; have HB4 := Aside0.mk hb; clear ho hb hg hat)
   | (go_at_call 30; refine (text_calls w.heap.size g4 c4 (fun _ => True) ws _ HO4.out hlen.2 HZ.out).mono ?_; rw [← HLN.out]; rintro e w5 ⟨rfl, hb⟩; have BK5 := Aside0.mk (blk_below BK4.out hb); have BD5 := Aside0.mk (bld_below BD4.out hb); have HB5 := Aside0.mk (below_then HB4.out HB4.out.size hb); clear hb)
   | (go_at_call 29; refine (writeString_calls w.heap.size w1.heap.size [] ln _ BD5.out (by simp only [List.length_nil]; omega) HB5.out.size).mono ?_; rintro e w6 ⟨rfl, hd, hb, hk⟩; have y1 : w6.cell? ⟨b, 1, none⟩ = some (.slice A l.length c) := (blk_cell (kpt_blk hk BK5.out hbne (by decide)) 1).trans rfl; have BD6 := Aside0.mk hd; have HB6 := Aside0.mk (HB5.out.trans hb); clear hd hb hk))
 have hcs0 : ([] ++ ln.data.toList).length ≤ 300000 := by
   rw [List.nil_append]
   have h := bytes_len ln
   unfold bytes at h
   omega
 go_loopw [20] (fun v20 w' => ∃ (i : Nat) (ct : List UInt8), v20 = .int .i64 i ∧ i ≤ l.length ∧ ct.length ≤ 300000 * (1 + 90 * i) ∧ Aside0 (ct = bytes ln ++ blksB (l.take i)) ∧ Aside0 (Bld w.heap.size w1.heap.size ct w') ∧ Aside0 (Below w.heap.size w w')) (fun v20 _ => l.length - (intOf v20).toNat)
 case atStart => exact ⟨0, [] ++ ln.data.toList, rfl, Nat.zero_le _, by omega, ⟨by simp [blksB, bytes]⟩, BD6, HB6⟩
 clear BD2 BD3 BD4 BD5 BD6 BK1 BK2 BK3 BK4 BK5 HB1 HB2 HB3 HB4 HB5 HB6 x0 y1 hcs0 HO2 HO3 HO4 HC3
 have HLH0 := HLH
 clear HY HW HS HZ HLN HLH hyl hlen hlz
 obtain ⟨i, ct, rfl, hi, hct, HCT, BD, HB⟩ := hrel
 obtain ⟨wo, hwo⟩ : ∃ wo : World, wo = wr := ⟨_, rfl⟩
 subst hwo
 by_cases hlt : i < l.length
 rotate_left
 · obtain rfl : i = l.length := by omega
   go_wp2_with (first
     | (go_at_call 34; refine (string_calls w.heap.size w1.heap.size ct _ BD.out HB.out.size).mono ?_; rintro e w9 ⟨rfl, hb⟩; have HB9 := Aside0.mk (HB.out.trans hb); clear hb))
   go_ret
   exact ⟨by
     have h := HCT.out
     rw [List.take_length, HLH0.out] at h
     rw [h]
     rfl, HB9.out⟩
 obtain ⟨x, hx⟩ : ∃ x, l[i]? = some x := ⟨_, List.getElem?_eq_getElem hlt⟩
 have e0 : rd_T48 l (i : Int) = x := by unfold rd_T48; rw [Int.toNat_natCast, List.getD_eq_getElem?_getD, hx]; rfl
 obtain ⟨ad, A1, cb1, A4, cb4, e, z0, z1, z2, z3, z4, l1, g1, l4, g4⟩ := at_T48 HR.out (i : Int) (by omega) (by omega)
 subst e
 simp only [Int.toNat_natCast] at z0 z1 z2 z3 z4
 rw [e0] at z0 z1 z2 z3 z4 l1 g1 l4 g4
 replace z0 := cB HB.out z0
 replace z1 := cB HB.out z1
 replace z2 := cB HB.out z2
 replace z3 := cB HB.out z3
 replace z4 := cB HB.out z4
 have HG1 := Aside0.mk g1
 have HG4 := Aside0.mk g4
 clear e0 g1 g4
 have hfx := HF.out x (List.mem_of_getElem? hx)
 have HFX := Aside0.mk hfx
 have hx0 := hfx.1
 have hx80 := hfx.2.1
 have HX := Aside0.mk hx
 clear hfx hx
 have hltz : (i : Int) < (l.length : Int) := by omega
 have hobn : wo.heap.size ≠ w1.heap.size := (by rcases BD.out with h | h <;> exact Nat.ne_of_gt h.lt)
 obtain ⟨ys, hys⟩ : ∃ ys, ys = [x.f0].map numTxt := ⟨_, rfl⟩
 have HY := Aside0.mk hys
 have hyl : ys.length ≤ 1 := by rw [hys]; simp
 clear hys
 obtain ⟨ws, hws⟩ : ∃ ws, ws = [wBlock] ++ numTxts [x.f0] := ⟨_, rfl⟩
 have HW := Aside0.mk hws
 have HS := Aside0.mk (show smallI [x.f0] by intro n hn; rw [List.mem_singleton.1 hn]; exact hx0)
 have HZ := Aside0.mk (show ∀ x ∈ ws, x.size ≤ 100 by rw [hws]; exact both_size (one_size (by decide)) (nums_size HS.out))
 have hlen : 0 < ws.length ∧ ws.length ≤ 1000 := by rw [hws]; simp [numTxts]
 obtain ⟨ln, hln⟩ : ∃ ln, ln = headTxt wBlock x.f0 := ⟨_, rfl⟩
 have hlz : ln.size ≤ 200001 := by rw [hln]; exact head_size (by decide) hx0
 have HLN : Aside0 (ln = lineTxt ws) := ⟨by rw [hln, hws]; rfl⟩
 have HLH := Aside0.mk hln
 clear hws hln
 go_wp2_with (first
   | ((with_reducible refine gate_dst (N := 24) rfl ?_); refine Kd.R_lit Kd.string (w0 := w) w.heap.size 9 ?hg (N := 24) ?hd (xs := [(⟨#[98, 108, 111, 99, 107]⟩ : ByteArray)]) (inner := [.string (⟨#[98, 108, 111, 99, 107]⟩ : ByteArray)]) (ok := fun _ => True) (okp := fun _ => False) ?hr (Kd.reps_scalar (enc := Value.string) [(⟨#[98, 108, 111, 99, 107]⟩ : ByteArray)]) (fun _ hk => hk.elim) trivial (below_alloc HB.out (.cells #[.int .i64 x.f0, .slice A1 x.f1.length cb1, .int .i64 x.f2, .int .i64 x.f3, .slice A4 x.f4.length cb4] 48)) ((below_alloc HB.out (.cells #[.int .i64 x.f0, .slice A1 x.f1.length cb1, .int .i64 x.f2, .int .i64 x.f3, .slice A4 x.f4.length cb4] 48))).size (by simp) ?_; (case hd => rfl); (case hg => rfl); (case hr => first | (go_simp; done) | (go_simp; rfl)); intro v2 w2 ho hb hg hn; have hbN := below_of_none hg; have BK2 := Aside0.mk (blk_below (blk_new wo (.cells #[.int .i64 x.f0, .slice A1 x.f1.length cb1, .int .i64 x.f2, .int .i64 x.f3, .slice A4 x.f4.length cb4] 48)) hbN); have BD2 := Aside0.mk (bld_below (bld_below BD.out (below_alloc (Below.refl _ _) (.cells #[.int .i64 x.f0, .slice A1 x.f1.length cb1, .int .i64 x.f2, .int .i64 x.f3, .slice A4 x.f4.length cb4] 48))) hbN); have q0 : w2.cell? ⟨wo.heap.size, 0, none⟩ = some (.int .i64 x.f0) := (blk_cell (BK2.out) 0).trans rfl; have HO2 := Aside0.mk ho; have HB2 := Aside0.mk hb; clear ho hb hg hn hbN)
   | (go_at_call 31; refine (numberWords_calls (some ⟨w2.heap.size, 0, none⟩) 1 [x.f0] _ (ints_lit w2 x.f0 _) (by simp) (by simp) HS.out).mono ?_; rintro e w3 ⟨v3, rfl, ho, hb⟩; rw [← HY.out] at ho; obtain ⟨A3, c3, rfl, hc3, hC3⟩ := Kd.R_reads ho; have HC3 := Aside0.mk hC3; have hbA := below_then (below_alloc (Below.refl w2.heap.size w2) (.cells #[.int .i64 (x.f0)] 3)) (below_alloc (Below.refl w2.heap.size w2) (.cells #[.int .i64 (x.f0)] 3)).size hb; have HO3 := Aside0.mk (Kd.R_below HO2.out hbA); have HB3 := Aside0.mk (below_then HB2.out HB2.out.size hbA); have BK3 := Aside0.mk (blk_below BK2.out hbA); have BD3 := Aside0.mk (bld_below BD2.out hbA); clear hb hbA hC3 ho)
   | ((with_reducible refine gate_builtin (b := .append) (xs := #[.tmp 24, .tmp 28]) rfl ?_); at_builtin; refine Kd.R_append_rows Kd.string (Rr := Kd.string.K w3) (w0 := w) w.heap.size rfl (.tmp 24) (.tmp 28) 74 9 (.string ⟨#[]⟩) 16 rfl Tryz.underlying74 info9 rfl (by decide) (by omega) v2 ([(⟨#[98, 108, 111, 99, 107]⟩ : ByteArray)]) (ys) (A3) (ys.length) (c3) (fun _ => True) (fun _ => False) rfl rfl HO3.out HC3.out (fun x cs h => h) (fun _ hk => hk.elim) (fun _ _ => trivial) HB3.out (HB3.out).size (by simp only [List.length_singleton]; omega) ?_; intro v4 w4 ho hb hg hat; replace ho : Kd.string.R 9 w4 w.heap.size (fun _ => True) v4 ws := (by rw [HW.out]; rw [HY.out] at ho; exact ho); have BK4 := Aside0.mk (blk_grown BK3.out hg (Kd.R_ne HO3.out BK3.out (by decide))); have BD4 := Aside0.mk (bld_grown BD3.out hg (Kd.R_typed HO3.out)); obtain ⟨g4, c4, rfl, -, -, -⟩ := Kd.R_form ho hlen.1; have HO4 := Aside0.mk ho; have HB4 := Aside0.mk hb; clear ho hb hg hat)
   | (go_at_call 30; refine (text_calls w.heap.size g4 c4 (fun _ => True) ws _ HO4.out hlen.2 HZ.out).mono ?_; rw [← HLN.out]; rintro e w5 ⟨rfl, hb⟩; have BK5 := Aside0.mk (blk_below BK4.out hb); have BD5 := Aside0.mk (bld_below BD4.out hb); have HB5 := Aside0.mk (below_then HB4.out HB4.out.size hb); clear hb)
   | (go_at_call 29; refine (writeString_calls w.heap.size w1.heap.size ct ln _ BD5.out (by omega) HB5.out.size).mono ?_; rintro e w6 ⟨rfl, hd, hb, hk⟩; have BK6 := Aside0.mk (kpt_blk hk BK5.out hobn (by decide)); have q1 : w6.cell? ⟨wo.heap.size, 1, none⟩ = some (.slice A1 x.f1.length cb1) := (blk_cell (BK6.out) 1).trans rfl; have BD6 := Aside0.mk hd; have HB6 := Aside0.mk (HB5.out.trans hb); clear hd hb hk))
 have hcu0 : (ct ++ ln.data.toList).length ≤ 300000 * (1 + 90 * i + 1) := by
   rw [List.length_append]
   have h := bytes_len ln
   unfold bytes at h
   omega
 go_loopw [35] (fun v35 w' => ∃ (j : Nat) (cu : List UInt8), v35 = .int .i64 j ∧ j ≤ x.f1.length ∧ cu.length ≤ 300000 * (1 + 90 * i + 1 + j) ∧ Aside0 (cu = (ct ++ bytes ln) ++ insB (x.f1.take j)) ∧ Aside0 (Bld w.heap.size w1.heap.size cu w') ∧ Aside0 (w'.heap[wo.heap.size]? = some (.cells #[.int .i64 x.f0, .slice A1 x.f1.length cb1, .int .i64 x.f2, .int .i64 x.f3, .slice A4 x.f4.length cb4] 48)) ∧ Aside0 (Below w.heap.size w w')) (fun v35 _ => x.f1.length - (intOf v35).toNat)
 case atStart => exact ⟨0, ct ++ ln.data.toList, rfl, Nat.zero_le _, by omega, ⟨by simp [insB, bytes]⟩, BD6, BK6, HB6⟩
 clear BD2 BD3 BD4 BD5 BD6 BK2 BK3 BK4 BK5 BK6 HB2 HB3 HB4 HB5 HB6 HB BD q0 q1 z0 z1 z2 z3 z4 hcu0 HO2 HO3 HO4 HC3
 have HLH2 := HLH
 clear HY HW HS HZ HLN HLH hyl hlen hlz
 obtain ⟨j, cu, rfl, hj, hcu, HCU, BD, BK, HB⟩ := hrel
 by_cases hjlt : j < x.f1.length
 rotate_left
 · obtain rfl : j = x.f1.length := by omega
   have hes := end_size HFX.out
   obtain ⟨st, hst⟩ : ∃ st, st = endTxt x := ⟨_, rfl⟩
   rw [← hst] at hes
   have HST := Aside0.mk hst
   obtain ⟨-, -, -, hxv, hxj, hx2, hx3⟩ := HFX.out
   have HC := Aside0.mk (fun W (hW : Below w.heap.size w W) => endText_calls x A1 cb1 A4 cb4 W (Kd.C_below HG4.out hW) l4 hxv hxj hx2 hx3)
   clear hst hxv hxj hx2 hx3
   have q0 : wr.cell? ⟨wo.heap.size, 0, none⟩ = some (.int .i64 x.f0) := (blk_cell BK.out 0).trans rfl
   have q1 : wr.cell? ⟨wo.heap.size, 1, none⟩ = some (.slice A1 x.f1.length cb1) := (blk_cell BK.out 1).trans rfl
   have q2 : wr.cell? ⟨wo.heap.size, 2, none⟩ = some (.int .i64 x.f2) := (blk_cell BK.out 2).trans rfl
   have q3 : wr.cell? ⟨wo.heap.size, 3, none⟩ = some (.int .i64 x.f3) := (blk_cell BK.out 3).trans rfl
   have q4 : wr.cell? ⟨wo.heap.size, 4, none⟩ = some (.slice A4 x.f4.length cb4) := (blk_cell BK.out 4).trans rfl
   go_wp2_with (first
     | (go_at_call 33; refine (HC.out _ HB.out).mono ?_; rw [← HST.out]; rintro e w8 ⟨rfl, hb⟩; have BD8 := Aside0.mk (bld_below BD.out hb); have HB8 := Aside0.mk (below_then HB.out HB.out.size hb); clear hb)
     | (go_at_call 29; refine (writeString_calls w.heap.size w1.heap.size cu st _ BD8.out (by omega) HB8.out.size).mono ?_; rintro e w9 ⟨rfl, hd, hb, hk⟩; have BD9 := Aside0.mk hd; have HB9 := Aside0.mk (HB8.out.trans hb); clear hd hb hk))
   go_roundw
   case measure => simp [intOf]; omega
   exact ⟨i + 1, cu ++ st.data.toList, by go_num, by omega, by rw [List.length_append]; have h := bytes_len st; unfold bytes at h; omega, ⟨by
   rw [HCU.out, HCT.out, List.take_length, blksB_step HX.out, HLH2.out, HST.out]
   unfold blkB
   simp only [List.append_assoc]
   rfl⟩, BD9, HB9⟩
 obtain ⟨z, hz⟩ : ∃ z, x.f1[j]? = some z := ⟨_, List.getElem?_eq_getElem hjlt⟩
 have e0 : rd_T52 x.f1 (j : Int) = z := by unfold rd_T52; rw [Int.toNat_natCast, List.getD_eq_getElem?_getD, hz]; rfl
 obtain ⟨ad1, A2, c2, e, z0, z1, z2, lz, iz⟩ := at_T52 HG1.out (j : Int) (by omega) (by omega)
 subst e
 simp only [Int.toNat_natCast] at z0 z1 z2
 rw [e0] at z0 z1 z2 lz iz
 replace z0 := cB HB.out z0
 replace z1 := cB HB.out z1
 replace z2 := cB HB.out z2
 have HIZ := Aside0.mk iz
 clear e0 iz
 have hfz := HFX.out.2.2.1 z (List.mem_of_getElem? hz)
 have hzs := inst_size hfz
 have HZT : ∀ W (hW : Below w.heap.size w W), Calls Tryz.prog 32 #[.agg #[.int .i64 z.f0, .int .i64 z.f1, .slice A2 z.f2.length c2]] W fun e w' => e = .returned (.string (instTxt z)) ∧ Below W.heap.size W w' := by
   intro W hW
   obtain ⟨⟨k, hk, hk13⟩, hn, hlz, hsz⟩ := hfz
   exact instText_calls z A2 c2 W k hk hk13 (HT.out.on hW) hn (Kd.C_below HIZ.out hW) lz hlz hsz
 have HC := Aside0.mk HZT
 have HZ := Aside0.mk hz
 have hjltz : (j : Int) < (x.f1.length : Int) := by omega
 obtain ⟨st, hst⟩ : ∃ st, st = instTxt z := ⟨_, rfl⟩
 rw [← hst] at hzs
 have HST := Aside0.mk hst
 clear HZT hfz hz hst
 go_wp2_with (first
   | (go_at_call 32; refine (HC.out _ (below_alloc HB.out (.cells #[.int .i64 z.f0, .int .i64 z.f1, .slice A2 z.f2.length c2] 52))).mono ?_; rw [← HST.out]; rintro e w8 ⟨rfl, hb⟩; have hbA := below_then (below_alloc (Below.refl wr.heap.size wr) (.cells #[.int .i64 z.f0, .int .i64 z.f1, .slice A2 z.f2.length c2] 52)) (below_alloc (Below.refl wr.heap.size wr) (.cells #[.int .i64 z.f0, .int .i64 z.f1, .slice A2 z.f2.length c2] 52)).size hb; have BK8 := Aside0.mk (blk_below BK.out hbA); have BD8 := Aside0.mk (bld_below BD.out hbA); have HB8 := Aside0.mk (below_then HB.out HB.out.size hbA); clear hb hbA)
   | (go_at_call 29; refine (writeString_calls w.heap.size w1.heap.size cu st _ BD8.out (by omega) HB8.out.size).mono ?_; rintro e w9 ⟨rfl, hd, hb, hk⟩; have BK9 := Aside0.mk (kpt_blk hk BK8.out hobn (by decide)); have BD9 := Aside0.mk hd; have HB9 := Aside0.mk (HB8.out.trans hb); clear hd hb hk))
 go_roundw
 case measure => simp [intOf]; omega
 exact ⟨j + 1, cu ++ st.data.toList, by go_num, by omega, by rw [List.length_append]; have h := bytes_len st; unfold bytes at h; omega, ⟨by rw [HCU.out, insB_step HZ.out, HST.out, List.append_assoc]; rfl⟩, BD9, BK9, HB9⟩
end Go.Proofs.YtjpkcbkkjefekaaGreatDoor.V
