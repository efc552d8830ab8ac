/- A part of the session's texts, laid small by the session's shrink.py. -/
import Derived.Test.YtjpkcbkkjefekaaGreatDoorVH
import Derived.Test.YtjpkcbkkjefekaaGreatDoorSh
import Derived.Test.YtjpkcbkkjefekaaGreatDoorPAx8
import Derived.Test.YtjpkcbkkjefekaaGreatDoorPAx5
import Derived.Lib.ItoaLen
import Derived.Lib.ItoaMem
import Derived.Lib.AppendIntMem
import Derived.Lib.Join
import Derived.Deep.DeepMust
namespace Go.Proofs.YtjpkcbkkjefekaaGreatDoor.V
open Go.RowKit Go.Proofs.YtjpkcbkkjefekaaGreatDoorW.PrintWords Go.Proofs.YtjpkcbkkjefekaaGreatDoorW.PrintLast Go.Proofs.YtjpkcbkkjefekaaGreatDoorW.PrintMore
open Go.Proofs.YtjpkcbkkjefekaaGreatDoor.PA
set_option linter.unusedVariables false
set_option linter.unusedSimpArgs false
def numTxt (n : Int) : ByteArray := ⟨(Lib.itoa n).toArray⟩
def bs (l : List UInt8) : ByteArray := ⟨l.toArray⟩
theorem size_bs (l : List UInt8) : (bs l).size = l.length := by simp [bs, ByteArray.size]
theorem size_append (a b : ByteArray) : (a ++ b).size = a.size + b.size := ByteArray.size_append
theorem bs_append (a b : List UInt8) : bs a ++ bs b = bs (a ++ b) := by
 apply ByteArray.ext
 simp [bs]
theorem numTxt_size (n : Int) (h : -9223372036854775808 ≤ n ∧ n ≤ 9223372036854775807) : (numTxt n).size ≤ 21 := by
 have := Lib.itoa_length_le n h.1 h.2
 simpa [numTxt, ByteArray.size] using this
def Tab (w : World) : Prop := Lib.TabBelow Tryz.prog w.heap.size w "internal/strconv.uint64pow10" .u64 Lib.pow10Tab
theorem Tab.here {w : World} (h : Tab w) : Lib.TabIs Tryz.prog w "internal/strconv.uint64pow10" .u64 Lib.pow10Tab := Lib.TabBelow.here h
theorem Tab.on {w w1 : World} (h : Tab w) (hb : Below w.heap.size w w1) : Tab w1 := fun w2 h2 => h w2 (below_then hb hb.size h2)
set_option maxHeartbeats 1000000 in
theorem numText_calls (n : Int) (w : World) (ht : Tab w) (hn : -9223372036854775808 ≤ n ∧ n ≤ 9223372036854775807) :
    Calls Tryz.prog 50 #[.int .i64 n] w fun e w' => e = .returned (.string (numTxt n)) ∧ Below w.heap.size w w' := by
 have HT := Aside0.mk ht.here
 clear ht
 go_enter Tryz.func50, Tryz.ntmps50
 go_wp2_with (first
   | (go_at_call 71; refine (Tryz.strconv_FormatInt_10 n hn.1 hn.2 _ HT.out).mono ?_; rintro e w1 ⟨rfl, hw1⟩; have HW := Aside0.mk hw1; clear hw1))
 go_ret
 refine ⟨rfl, ?_⟩
 obtain ⟨k, os, rfl⟩ := HW.out
 exact Lib.below_grow _ _ (Nat.le_refl _) _ _
theorem itoa_calls (n : Int) (w : World) (hn : 0 ≤ n ∧ n < 100) :
    Calls Tryz.prog 48 #[.int .i64 n] w fun e w' => e = .returned (.string (numTxt n)) ∧ w = w' := by
 obtain ⟨u, rfl⟩ := Int.eq_ofNat_of_zero_le hn.1
 refine (Tryz.strconv_Itoa_small u (by omega) w).mono ?_
 rintro e w' ⟨he, hw⟩
 refine ⟨?_, hw.symm⟩
 rw [he, numTxt, Lib.itoa_nonneg]
def lineTxt (xs : List ByteArray) : ByteArray := ⟨(Lib.join (xs.map (·.data.toList)) [32]).toArray⟩ ++ ⟨#[10]⟩
theorem strs_cells {w : World} {g n : Nat} {xs : List ByteArray} (h : Kd.string.C w (some ⟨g, 0, none⟩) n xs) (j : Nat) (x : ByteArray) (hj : xs[j]? = some x) : w.cell? ⟨g, j, none⟩ = some (.string x) := by
 obtain ⟨hl, _⟩ := List.getElem?_eq_some_iff.1 hj
 obtain ⟨ad, e, hc⟩ := h.2.2 (by have := h.1; omega)
 cases e
 obtain ⟨c, _, hK, hcell⟩ := hc j x hj
 have hK' : c = [.string x] := hK
 subst hK'
 have := hcell 0 _ rfl
 rw [add_plain] at this
 have e2 : j * Kd.string.sz + 0 = j := by show j * 1 + 0 = j; omega
 rw [e2] at this
 exact this
theorem join_size (xs : List ByteArray) (B : Nat) (h : ∀ x ∈ xs, x.size ≤ B) : (Lib.join (xs.map (·.data.toList)) [32]).length ≤ xs.length * (B + 1) := by
  have hs : ∀ x : ByteArray, x.data.toList.length = x.size := fun x => by rw [Array.length_toList]; rfl
  have key : ∀ l : List ByteArray, (∀ x ∈ l, x.size ≤ B) → (Lib.joinTail [32] (l.map (·.data.toList))).length ≤ l.length * (B + 1) := by
    intro l
    induction l with
    | nil => intro _; simp [Lib.joinTail]
    | cons y l ih =>
      intro h
      have h1 := ih (fun x hx => h x (List.mem_cons_of_mem _ hx))
      have h2 := h y List.mem_cons_self
      have h3 := hs y
      simp only [Lib.joinTail, List.map_cons, List.flatten_cons, List.length_append, List.length_cons, List.length_nil] at h1 ⊢
      rw [Nat.succ_mul]
      omega
  match xs, h with
  | [], _ => simp [Lib.join_nil]
  | y :: l, h =>
    have h1 := key l (fun x hx => h x (List.mem_cons_of_mem _ hx))
    have h2 := h y List.mem_cons_self
    have h3 := hs y
    rw [List.map_cons, Lib.join_cons, List.length_append, List.length_cons, Nat.succ_mul]
    omega
set_option maxHeartbeats 1000000 in
theorem text_calls (base g c : Nat) (ok : Nat → Prop) (xs : List ByteArray) (w : World) (hr : Kd.string.R 9 w base ok (.slice (some ⟨g, 0, none⟩) xs.length c) xs) (hn : xs.length ≤ 1000) (hz : ∀ x ∈ xs, x.size ≤ 100) :
    Calls Tryz.prog 30 #[.slice (some ⟨g, 0, none⟩) xs.length c] w fun e w' => e = .returned (.string (lineTxt xs)) ∧ Below w.heap.size w w' := by
 obtain ⟨A, c', he, hc, hC⟩ := Kd.R_reads hr
 obtain ⟨rfl, _, rfl⟩ : some ⟨g, 0, none⟩ = A ∧ xs.length = xs.length ∧ c = c' := by simpa using he
 have hlt : g < w.heap.size := Kd.R_lt hr g (by simp [Value.ownBlock])
 have hj := join_size xs 100 hz
 have hj2 : (Lib.join (xs.map (·.data.toList)) (⟨#[32]⟩ : ByteArray).data.toList).length ≤ 200000 := by
   have : xs.length * (100 + 1) ≤ 1000 * 101 := Nat.mul_le_mul_right _ hn
   exact Nat.le_trans hj (by omega)
 have HJ := Aside0.mk (Tryz.strings_Join g 0 c xs ⟨#[32]⟩ w (fun j x hx => by rw [Nat.zero_add]; exact strs_cells hC j x hx) hlt (by omega) hc (by omega))
 have hsz : (⟨(Lib.join (xs.map (·.data.toList)) (⟨#[32]⟩ : ByteArray).data.toList).toArray⟩ : ByteArray).size ≤ 200000 := by
   rw [← bs, size_bs]
   exact hj2
 have hl : lineTxt xs = (⟨(Lib.join (xs.map (·.data.toList)) (⟨#[32]⟩ : ByteArray).data.toList).toArray⟩ : ByteArray) ++ ⟨#[10]⟩ := rfl
 rw [hl]
 clear hr he hc hC hj hj2 hl hz
 generalize (⟨(Lib.join (xs.map (·.data.toList)) (⟨#[32]⟩ : ByteArray).data.toList).toArray⟩ : ByteArray) = s at HJ hsz ⊢
 go_enter Tryz.func30, Tryz.ntmps30
 go_wp2_with (first
   | (go_at_call 47; refine HJ.out.mono ?_; rintro e w1 ⟨rfl, hb⟩; have HB1 := Aside0.mk hb; clear hb))
 go_ret
 exact ⟨rfl, HB1.out⟩
theorem words_set {l : List Int} {i : Nat} {x : Int} (h : l[i]? = some x) : ((l.take i).map numTxt ++ List.replicate (l.length - i) (⟨#[]⟩ : ByteArray)).set i (numTxt x) = (l.take (i + 1)).map numTxt ++ List.replicate (l.length - (i + 1)) (⟨#[]⟩ : ByteArray) := by
 obtain ⟨hl, hx⟩ := List.getElem?_eq_some_iff.1 h
 have h1 : ((l.take i).map numTxt).length = i := by simp; omega
 rw [List.set_append_right _ _ (by omega), h1, Nat.sub_self, List.take_add_one, h]
 have h2 : l.length - i = (l.length - (i + 1)) + 1 := by omega
 rw [h2, List.replicate_succ, List.set_cons_zero]
 simp
set_option maxHeartbeats 2000000 in
set_option maxRecDepth 100000 in
theorem numberWords_calls (A : Option Addr) (c : Nat) (l : List Int) (w : World) (hr : (Kd.int .i64).C w A l.length l) (hc : l.length ≤ c) (hl : l.length ≤ 100) (hs : ∀ n ∈ l, 0 ≤ n ∧ n < 100) :
    Calls Tryz.prog 31 #[.slice A l.length c] w fun e w' => ∃ v, e = .returned v ∧ Kd.string.R 9 w' w.heap.size (fun _ => True) v (l.map numTxt) ∧ Below w.heap.size w w' := by
 have HR := Aside0.mk hr
 have HS := Aside0.mk hs
 have HB := Aside0.mk (Below.refl w.heap.size w)
 clear hr hs
 go_enter Tryz.func31, Tryz.ntmps31
 go_wp2_with (first
   | ((with_reducible refine gate_dst (N := 8) rfl ?_); refine Kd.R_make Kd.string _ 9 rfl (N := 8) rfl 74 _ _ rfl (l.length : Int) rfl rfl Tryz.underlying74 (.string ⟨#[]⟩) 16 info9 rfl (by decide) (by omega) (⟨#[]⟩ : ByteArray) (ok := fun _ => True) (okp := fun _ => True) rfl (fun _ hk => hk) trivial (by omega) (by omega) (Below.refl _ _) (Nat.le_refl _) ?_; intro v8 w1 ho hb hg hn; have HO1 := Aside0.mk ho; have HB1 := Aside0.mk hb; clear ho hb hg hn HB))
 go_loopw [11] (fun v11 w' => ∃ i : Nat, v11 = .int .i64 i ∧ i ≤ l.length ∧ Aside0 (Kd.string.R 9 w' w.heap.size (fun _ => True) v8 ((l.take i).map numTxt ++ List.replicate (l.length - i) (⟨#[]⟩ : ByteArray))) ∧ Aside0 (Below w.heap.size w w')) (fun v11 _ => l.length - (intOf v11).toNat)
 case atStart => exact ⟨0, rfl, Nat.zero_le _, by simpa using HO1, HB1⟩
 clear HO1 HB1
 obtain ⟨i, rfl, hi, HO, HB⟩ := hrel
 by_cases hlt : i < l.length
 rotate_left
 · obtain rfl : i = l.length := by omega
   go_wp2
   go_ret
   exact ⟨_, rfl, by have h := HO.out; rw [List.take_length, Nat.sub_self, List.replicate_zero, List.append_nil] at h; exact h, HB.out⟩
 obtain ⟨x, hx⟩ : ∃ x, l[i]? = some x := ⟨_, List.getElem?_eq_getElem hlt⟩
 obtain ⟨ad, e, hx0⟩ := Kd.at_int HR.out (i : Int) (by omega) (by omega)
 cases e
 have e0 : rd l (i : Int) = x := by unfold rd; rw [Int.toNat_natCast, List.getD_eq_getElem?_getD, hx]; rfl
 have hx1 : w.cell? (ad.add i) = some (.int .i64 x) := by
   have h := hx0
   first | rw [Int.toNat_natCast] at h | skip
   first | rw [e0] at h | skip
   exact h
 replace hx1 := cB HB.out hx1
 clear hx0 e0
 have hxs := HS.out x (List.mem_of_getElem? hx)
 have hlen : ((l.take i).map numTxt ++ List.replicate (l.length - i) (⟨#[]⟩ : ByteArray)).length = l.length := by simp; omega
 obtain ⟨g, cp, hv, gb, gl, HG⟩ := Kd.R_form HO.out (by omega)
 rw [hlen] at hv
 subst hv
 have HP := Kd.R_putg HO.out (i : Int) (numTxt x)
 rw [Int.toNat_natCast, words_set hx] at HP
 obtain ⟨hc0, hf0⟩ := Kd.R_celln (⟨#[]⟩ : ByteArray) HO.out (i : Int) (by omega) (by omega)
 rw [Int.toNat_natCast] at hc0 hf0
 have HP1 := Aside0.mk HP.1
 have HP2 := Aside0.mk (Below.setCell HB.out (p := ⟨g, i, none⟩) gb (.string (numTxt x)))
 have hil : (i : Int) < (l.length : Int) := by omega
 clear HP HO HG hlen
 go_wp2_with (first
   | (go_at_call 48; refine (itoa_calls x _ hxs).mono ?_; rintro e w1 ⟨rfl, rfl⟩)
   | ((with_reducible refine gate_store (t := 9) (p := 20) rfl ?_); refine store_event (t := 9) (p := 20) (v := ?vo) (w1 := (wr.setCell ⟨g, i, none⟩ (.string (numTxt x)))) ?hg ?ho ?hn ?hr ?_; (case ho => rfl); (case hg => rfl); (case hn => rfl); (case hr => first | (go_simp; done) | (go_simp; rfl)); intro w2 hw; have HO2 := Aside0.mk (show Kd.string.R 9 w2 w.heap.size (fun _ => True) (.slice (some ⟨g, 0, none⟩) l.length cp) ((l.take (i + 1)).map numTxt ++ List.replicate (l.length - (i + 1)) (⟨#[]⟩ : ByteArray)) by rw [hw]; exact HP1.out); have HB2 := Aside0.mk (show Below w.heap.size w w2 by rw [hw]; exact HP2.out); clear hw hc0 hf0 HP1 HP2 HB))
 go_roundw
 case measure => simp [intOf]; omega
 exact ⟨i + 1, by go_num, by omega, HO2, HB2⟩
theorem wrap_in (x : Int) (h : -9223372036854775808 ≤ x ∧ x ≤ 9223372036854775807) : wrap64 x = x := IntWalk.wrap64_in x h
theorem strOfNums_one (d : Nat) (h : d < 10) : strOfNums [(wrap64 (48 + (d : Int))) % 256] = bs [UInt8.ofNat (48 + d)] := by
  rw [wrap_in _ (by omega)]
  match d, h with
  | 0, _ => rfl
  | 1, _ => rfl
  | 2, _ => rfl
  | 3, _ => rfl
  | 4, _ => rfl
  | 5, _ => rfl
  | 6, _ => rfl
  | 7, _ => rfl
  | 8, _ => rfl
  | 9, _ => rfl
theorem u64_small (x : Int) (h : 0 ≤ x ∧ x < 18446744073709551616) : IntKind.u64.wrap x = x := by
 unfold IntKind.wrap
 simp [IntKind.bits, IntKind.signed]
 omega
theorem strOfNums_oneU (d : Nat) (h : d < 10) : strOfNums [(IntKind.u64.wrap (48 + (d : Int))) % 256] = bs [UInt8.ofNat (48 + d)] := by
  rw [u64_small _ (by omega)]
  match d, h with
  | 0, _ => rfl
  | 1, _ => rfl
  | 2, _ => rfl
  | 3, _ => rfl
  | 4, _ => rfl
  | 5, _ => rfl
  | 6, _ => rfl
  | 7, _ => rfl
  | 8, _ => rfl
  | 9, _ => rfl
theorem l1Num_nat (m : Nat) : ∀ u : Nat, u ≤ m → u < 9223372036854775808 → Ev (fun k => spec_l1Num.f k (u : Int)) (bs (Lib.decDigits u)) := by
  induction m with
  | zero =>
    intro u hu _
    obtain rfl : u = 0 := by omega
    refine Ev.step (f := fun _ => some (bs [UInt8.ofNat (48 + 0)])) (fun k => ?_) ?_
    · rw [spec_l1Num.f, if_pos (by omega)]
      exact congrArg some (strOfNums_one 0 (by omega))
    · rw [Lib.decDigits_one (by omega)]
      exact Ev.now _
  | succ m ih =>
    intro u hu hlt
    by_cases h : u < 10
    · refine Ev.step (f := fun _ => some (bs [UInt8.ofNat (48 + u)])) (fun k => ?_) ?_
      · rw [spec_l1Num.f, if_pos (by omega)]
        exact congrArg some (strOfNums_one u h)
      · rw [Lib.decDigits_one h]
        exact Ev.now _
    · have e1 : wrap64 (Int.tdiv (u : Int) 10) = ((u / 10 : Nat) : Int) := by
        rw [Int.tdiv_eq_ediv_of_nonneg (by omega), wrap_in _ (by omega)]
        omega
      have e2 : Int.tmod (u : Int) 10 = ((u % 10 : Nat) : Int) := by
        rw [Int.tmod_eq_emod_of_nonneg (by omega)]
        omega
      have hsz : (bs (Lib.decDigits (u / 10))).size ≤ 25 := by
        have := Lib.nDigits_le20 (u / 10) (by omega)
        rw [size_bs, Lib.decDigits_length]
        omega
      refine Ev.step (f := fun k => (spec_l1Num.f k ((u / 10 : Nat) : Int)).bind fun t => if t.size + (bs [UInt8.ofNat (48 + u % 10)]).size ≤ 9223372036854775807 then some (t ++ bs [UInt8.ofNat (48 + u % 10)]) else none) (fun k => ?_) ?_
      · rw [spec_l1Num.f, if_neg (by omega), e1, e2]
        simp only [Option.bind_some, strOfNums_one (u % 10) (by omega)]
      · refine Ev.bind (ih (u / 10) (by omega) (by omega)) ?_
        rw [if_pos (by rw [size_bs]; simp [size_bs] at hsz ⊢; omega), bs_append]
        have : Lib.decDigits u = Lib.decDigits (u / 10) ++ [UInt8.ofNat (48 + u % 10)] := by
          rw [Lib.decDigits, dif_neg h]
        rw [← this]
        exact Ev.now _
theorem l1Num_ev (n : Int) (h : 0 ≤ n ∧ n ≤ 9223372036854775807) : Ev (fun k => spec_l1Num.f k n) (numTxt n) := by
 obtain ⟨u, rfl⟩ := Int.eq_ofNat_of_zero_le h.1
 have : numTxt (u : Int) = bs (Lib.decDigits u) := by rw [numTxt, Lib.itoa_nonneg]; rfl
 rw [this]
 exact l1Num_nat u u (Nat.le_refl _) (by omega)
theorem l1Long_nat (m : Nat) : ∀ u : Nat, u ≤ m → u < 18446744073709551616 → Ev (fun k => spec_l1Long.f k (u : Int)) (bs (Lib.decDigits u)) := by
  induction m with
  | zero =>
    intro u hu _
    obtain rfl : u = 0 := by omega
    refine Ev.step (f := fun _ => some (bs [UInt8.ofNat (48 + 0)])) (fun k => ?_) ?_
    · rw [spec_l1Long.f, if_pos (by omega)]
      exact congrArg some (strOfNums_oneU 0 (by omega))
    · rw [Lib.decDigits_one (by omega)]
      exact Ev.now _
  | succ m ih =>
    intro u hu hlt
    by_cases h : u < 10
    · refine Ev.step (f := fun _ => some (bs [UInt8.ofNat (48 + u)])) (fun k => ?_) ?_
      · rw [spec_l1Long.f, if_pos (by omega)]
        exact congrArg some (strOfNums_oneU u h)
      · rw [Lib.decDigits_one h]
        exact Ev.now _
    · have e1 : IntKind.u64.wrap (Int.tdiv (u : Int) 10) = ((u / 10 : Nat) : Int) := by
        rw [Int.tdiv_eq_ediv_of_nonneg (by omega), u64_small _ (by omega)]
        omega
      have e2 : Int.tmod (u : Int) 10 = ((u % 10 : Nat) : Int) := by
        rw [Int.tmod_eq_emod_of_nonneg (by omega)]
        omega
      have hsz : (bs (Lib.decDigits (u / 10))).size ≤ 25 := by
        have := Lib.nDigits_le20 (u / 10) (by omega)
        rw [size_bs, Lib.decDigits_length]
        omega
      refine Ev.step (f := fun k => (spec_l1Long.f k ((u / 10 : Nat) : Int)).bind fun t => if t.size + (bs [UInt8.ofNat (48 + u % 10)]).size ≤ 9223372036854775807 then some (t ++ bs [UInt8.ofNat (48 + u % 10)]) else none) (fun k => ?_) ?_
      · rw [spec_l1Long.f, if_neg (by omega), e1, e2]
        simp only [Option.bind_some, strOfNums_oneU (u % 10) (by omega)]
      · refine Ev.bind (ih (u / 10) (by omega) (by omega)) ?_
        rw [if_pos (by rw [size_bs]; simp [size_bs] at hsz ⊢; omega), bs_append]
        have : Lib.decDigits u = Lib.decDigits (u / 10) ++ [UInt8.ofNat (48 + u % 10)] := by
          rw [Lib.decDigits, dif_neg h]
        rw [← this]
        exact Ev.now _
theorem numText_ev (n : Int) (hn : -9223372036854775808 ≤ n ∧ n ≤ 9223372036854775807) : Ev (fun k => spec_NumText.f k n) (numTxt n) := by
 by_cases h : n ≥ 0
 · obtain ⟨u, rfl⟩ := Int.eq_ofNat_of_zero_le h
   refine Ev.congr (f := fun k => spec_l1Long.f k (u : Int)) (fun k => ?_) ?_
   · unfold spec_NumText.f
     rw [if_pos h, u64_small _ (by omega)]
     cases spec_l1Long.f k (u : Int) <;> rfl
   have : numTxt (u : Int) = bs (Lib.decDigits u) := by rw [numTxt, Lib.itoa_nonneg]; rfl
   rw [this]
   exact l1Long_nat u u (Nat.le_refl _) (by omega)
 obtain ⟨u, hu⟩ : ∃ u : Nat, n = -(u : Int) := ⟨n.natAbs, by omega⟩
 have e1 : IntKind.u64.wrap ((IntKind.u64.wrap (wrap64 (-(wrap64 (n + 1))))) + 1) = (u : Int) := by
   rw [wrap_in (n + 1) (by omega), wrap_in _ (by omega), u64_small (-(n + 1)) (by omega), u64_small _ (by omega)]
   omega
 have hsz : (bs (Lib.decDigits u)).size ≤ 25 := by
   have := Lib.nDigits_le20 u (by omega)
   rw [size_bs, Lib.decDigits_length]
   omega
 refine Ev.congr (f := fun k => (spec_l1Long.f k (u : Int)).bind fun t => if 1 + t.size ≤ 9223372036854775807 then some ((⟨#[45]⟩ : ByteArray) ++ t) else none) (fun k => ?_) ?_
 · unfold spec_NumText.f
   rw [if_neg h, e1]
 refine Ev.bind (l1Long_nat u u (Nat.le_refl _) (by omega)) ?_
 rw [if_pos (by omega)]
 have : numTxt n = (⟨#[45]⟩ : ByteArray) ++ bs (Lib.decDigits u) := by
   rw [numTxt, hu, Lib.itoa_neg u (by omega)]
   exact (bs_append [45] _).symm
 rw [this]
 exact Ev.now _
end Go.Proofs.YtjpkcbkkjefekaaGreatDoor.V
