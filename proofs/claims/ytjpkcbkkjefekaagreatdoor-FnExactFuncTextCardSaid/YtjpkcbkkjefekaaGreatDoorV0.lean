/- A part of the session's texts, laid small by the session's shrink.py. -/
import Derived.Test.YtjpkcbkkjefekaaGreatDoorPAx0
import Derived.Shelf.Abstract
namespace Go.Proofs.YtjpkcbkkjefekaaGreatDoor.V
open Go.RowKit Go.Proofs.YtjpkcbkkjefekaaGreatDoorW.PrintWords Go.Proofs.YtjpkcbkkjefekaaGreatDoorW.PrintLast Go.Proofs.YtjpkcbkkjefekaaGreatDoorW.PrintMore
open Go.Proofs.YtjpkcbkkjefekaaGreatDoor.PA
set_option linter.unusedVariables false
set_option linter.unusedSimpArgs false
def idxF {α : Type} (p : α → Bool) (l : List α) : Int := if l.any p then (l.findIdx p : Int) else -1
theorem idxF_hit {α : Type} {p : α → Bool} {l : List α} {k : Nat} {x : α} (hx : l[k]? = some x) (h : ∀ (j : Nat) y, j < k → l[j]? = some y → p y = false) (hp : p x = true) : idxF p l = (k : Int) := by
 obtain ⟨hk, rfl⟩ := List.getElem?_eq_some_iff.1 hx
 unfold idxF
 rw [if_pos (List.any_eq_true.2 ⟨_, List.getElem_mem hk, hp⟩)]
 congr 1
 rw [List.findIdx_eq hk]
 exact ⟨hp, fun j hj => h j _ hj (List.getElem?_eq_getElem (by omega))⟩
theorem idxF_miss {α : Type} {p : α → Bool} {l : List α} (h : ∀ (j : Nat) y, j < l.length → l[j]? = some y → p y = false) : idxF p l = -1 := by
 unfold idxF
 rw [if_neg]
 rw [List.any_eq_true]
 rintro ⟨y, hy, hp⟩
 obtain ⟨j, hj⟩ := List.getElem?_of_mem hy
 have := h j y (List.getElem?_eq_some_iff.1 hj).1 hj
 simp [hp] at this
theorem idxF_any {α : Type} (p : α → Bool) (l : List α) : decide (0 ≤ idxF p l) = l.any p := by
 unfold idxF
 cases l.any p
 · rfl
 simp
theorem at_int {w : World} {A : Option Addr} {n : Nat} {xs : List Int} (h : (Kd.int .i64).C w A n xs) (i : Int) (h0 : 0 ≤ i) (h1 : i < n) : ∃ ad, A = some ad ∧ w.cell? (ad.add i.toNat) = some (.int .i64 (xs.getD i.toNat 0)) := by
 obtain ⟨ad, c, e, _, hK, hc0⟩ := Kd.C_get h 0 i h0 h1
 have hc : ∀ j u, c[j]? = some u → w.cell? (ad.add (i.toNat * 1 + j)) = some u := hc0
 have hK' : c = [.int .i64 (xs.getD i.toNat 0)] := hK
 subst hK'
 refine ⟨ad, e, ?_⟩
 have hq := hc 0 _ rfl
 rwa [Nat.mul_one, Nat.add_zero] at hq
theorem idxF_range {α : Type} (p : α → Bool) (l : List α) : -1 ≤ idxF p l ∧ idxF p l ≤ l.length := by
 unfold idxF
 split
 rotate_left
 · omega
 have := List.findIdx_le_length (p := p) (xs := l)
 omega
def PaysInt (g : Nat) (lb : Array Value) (p : Int → Bool) (l : List Int) (w : World) : Prop :=
  ∀ (i : Nat) (x : Int) (W : World), l[i]? = some x → Below w.heap.size w W → Calls Tryz.prog g (#[.int .i64 x] ++ lb) W fun e w' => e = .returned (.bool (p x)) ∧ Below W.heap.size W w'
set_option maxHeartbeats 4000000 in
set_option maxRecDepth 100000 in
theorem indexInt_calls (g : Nat) (lb : Array Value) (p : Int → Bool) (A : Option Addr) (c : Nat) (l : List Int) (w : World) (eg : ∀ args w, (callFunc g args).run Tryz.prog w = .ok (.enter g args) w) (hr : Kd.C (Kd.int .i64) w A l.length l) (hp : PaysInt g lb p l w) :
    Calls Tryz.prog 89 #[.slice A l.length c, .func (.func g) #[] lb] w fun e w' => e = .returned (.int .i64 (idxF p l)) ∧ Below w.heap.size w w' := by
 have HR := Aside0.mk hr
 have HP := Aside0.mk hp
 have HB := Aside0.mk (Below.refl w.heap.size w)
 have hm := Kd.C_max hr
 clear hr hp
 go_enter Tryz.func89, Tryz.ntmps89
 go_wp2
 go_loopw [5, 8] (fun _ v8 w' => ∃ i : Nat, v8 = .int .i64 i ∧ i ≤ l.length ∧ Aside0 (∀ (j : Nat) y, j < i → l[j]? = some y → p y = false) ∧ Aside0 (Below w.heap.size w w')) (fun _ v8 _ => l.length - (intOf v8).toNat)
 case atStart => exact ⟨0, rfl, Nat.zero_le _, ⟨fun j y h => absurd h (Nat.not_lt_zero _)⟩, HB⟩
 obtain ⟨i, rfl, hi, HN, HB'⟩ := hrel
 clear HB
 by_cases hlt : i < l.length
 rotate_left
 · obtain rfl : i = l.length := by omega
   go_wp2
   go_ret
   exact ⟨by rw [idxF_miss HN.out]; rfl, HB'.out⟩
 obtain ⟨x, hx⟩ : ∃ x, l[i]? = some x := ⟨_, List.getElem?_eq_getElem hlt⟩
 have e0 : l.getD i 0 = x := by rw [List.getD_eq_getElem?_getD, hx]; rfl
 obtain ⟨ad, e, hc0⟩ := at_int HR.out (i : Int) (by omega) (by omega)
 subst e
 simp only [Int.toNat_natCast, Nat.zero_mul] at hc0
 rw [e0] at hc0
 clear e0
 replace hc0 := (HB'.out.cell (World.block_lt_of_cell? w _ hc0)).trans hc0
 have hcall := HP.out i x wr hx HB'.out
 skip
 have HX := Aside0.mk hx
 clear hx
 have hlt' : (i : Int) < (l.length : Int) := by omega
 cases hq : p x with
 | true =>
   rw [hq] at hcall
   have HC := Aside0.mk hcall
   have HQ := Aside0.mk hq
   clear hcall hq
   go_wp2_with (first | (go_at_fn g; refine HC.out.mono ?_; rintro e w1 ⟨rfl, hb1⟩; have HB1 := Aside0.mk (below_then HB'.out HB'.out.size hb1); clear hb1))
   go_ret
   exact ⟨by rw [idxF_hit HX.out HN.out HQ.out]; rfl, HB1.out⟩
 | false =>
   rw [hq] at hcall
   have HC := Aside0.mk hcall
   have HQ := Aside0.mk hq
   clear hcall hq
   go_wp2_with (first | (go_at_fn g; refine HC.out.mono ?_; rintro e w1 ⟨rfl, hb1⟩; have HB1 := Aside0.mk (below_then HB'.out HB'.out.size hb1); clear hb1))
   refine ⟨⟨i + 1, by go_num, by omega, ⟨fun j y hj hy => ?_⟩, HB1⟩, by simp [intOf]; omega⟩
   rcases Nat.lt_or_ge j i with h | h
   · exact HN.out j y h hy
   obtain rfl : j = i := by omega
   have := HX.out.symm.trans hy
   injection this with this
   rw [← this]
   exact HQ.out
set_option maxHeartbeats 400000 in
set_option maxRecDepth 100000 in
theorem containsInt_calls (g : Nat) (lb : Array Value) (p : Int → Bool) (A : Option Addr) (c : Nat) (l : List Int) (w : World) (eg : ∀ args w, (callFunc g args).run Tryz.prog w = .ok (.enter g args) w) (hr : Kd.C (Kd.int .i64) w A l.length l) (hp : PaysInt g lb p l w) :
    Calls Tryz.prog 80 #[.slice A l.length c, .func (.func g) #[] lb] w fun e w' => e = .returned (.bool (l.any p)) ∧ Below w.heap.size w w' := by
 have HI := Aside0.mk (indexInt_calls g lb p A c l w eg hr hp)
 have hm := Kd.C_max hr
 have ha := idxF_any p l
 have hr2 := idxF_range p l
 clear hr hp
 generalize idxF p l = r at HI ha hr2
 have HA := Aside0.mk ha
 clear ha
 go_enter Tryz.func80, Tryz.ntmps80
 go_wp2_with (first | (go_at_call 89; refine HI.out.mono ?_; rintro e w1 ⟨rfl, hb1⟩; have HB1 := Aside0.mk hb1; clear hb1))
 go_ret
 exact ⟨by rw [← HA.out]; rfl, HB1.out⟩
def PaysInst (g : Nat) (lb : Array Value) (p : S52 → Bool) (l : List S52) (w : World) : Prop :=
  ∀ (i : Nat) (x : S52) (W : World) (A2 : Option Addr) (c2 : Nat), l[i]? = some x → Below w.heap.size w W → x.f2.length ≤ c2 → (Kd.int .i64).C W A2 x.f2.length x.f2 → Calls Tryz.prog g (#[.agg #[.int .i64 x.f0, .int .i64 x.f1, .slice A2 x.f2.length c2]] ++ lb) W fun e w' => e = .returned (.bool (p x)) ∧ Below W.heap.size W w'
set_option maxHeartbeats 4000000 in
set_option maxRecDepth 100000 in
theorem indexInst_calls (g : Nat) (lb : Array Value) (p : S52 → Bool) (A : Option Addr) (c : Nat) (l : List S52) (w : World) (eg : ∀ args w, (callFunc g args).run Tryz.prog w = .ok (.enter g args) w) (hr : Kd.C k52 w A l.length l) (hp : PaysInst g lb p l w) :
    Calls Tryz.prog 77 #[.slice A l.length c, .func (.func g) #[] lb] w fun e w' => e = .returned (.int .i64 (idxF p l)) ∧ Below w.heap.size w w' := by
 have HR := Aside0.mk hr
 have HP := Aside0.mk hp
 have HB := Aside0.mk (Below.refl w.heap.size w)
 have hm := Kd.C_max hr
 clear hr hp
 go_enter Tryz.func77, Tryz.ntmps77
 go_wp2
 go_loopw [5, 8] (fun _ v8 w' => ∃ i : Nat, v8 = .int .i64 i ∧ i ≤ l.length ∧ Aside0 (∀ (j : Nat) y, j < i → l[j]? = some y → p y = false) ∧ Aside0 (Below w.heap.size w w')) (fun _ v8 _ => l.length - (intOf v8).toNat)
 case atStart => exact ⟨0, rfl, Nat.zero_le _, ⟨fun j y h => absurd h (Nat.not_lt_zero _)⟩, HB⟩
 obtain ⟨i, rfl, hi, HN, HB'⟩ := hrel
 clear HB
 by_cases hlt : i < l.length
 rotate_left
 · obtain rfl : i = l.length := by omega
   go_wp2
   go_ret
   exact ⟨by rw [idxF_miss HN.out]; rfl, HB'.out⟩
 obtain ⟨x, hx⟩ : ∃ x, l[i]? = some x := ⟨_, List.getElem?_eq_getElem hlt⟩
 have e0 : rd_T52 l (i : Int) = x := by unfold rd_T52; rw [Int.toNat_natCast, List.getD_eq_getElem?_getD, hx]; rfl
 obtain ⟨ad, A2, c2, e, hc0, hc1, hc2, l2, g2⟩ := at_T52 HR.out (i : Int) (by omega) (by omega)
 subst e
 simp only [Int.toNat_natCast, Nat.zero_mul] at hc0 hc1 hc2
 rw [e0] at hc0 hc1 hc2 l2 g2
 clear e0
 replace hc0 := (HB'.out.cell (World.block_lt_of_cell? w _ hc0)).trans hc0
 replace hc1 := (HB'.out.cell (World.block_lt_of_cell? w _ hc1)).trans hc1
 replace hc2 := (HB'.out.cell (World.block_lt_of_cell? w _ hc2)).trans hc2
 have hcall := HP.out i x wr A2 c2 hx HB'.out l2 (Kd.C_below g2 HB'.out)
 skip
 have HX := Aside0.mk hx
 clear hx
 have hlt' : (i : Int) < (l.length : Int) := by omega
 cases hq : p x with
 | true =>
   rw [hq] at hcall
   have HC := Aside0.mk hcall
   have HQ := Aside0.mk hq
   clear hcall hq
   go_wp2_with (first | (go_at_fn g; refine HC.out.mono ?_; rintro e w1 ⟨rfl, hb1⟩; have HB1 := Aside0.mk (below_then HB'.out HB'.out.size hb1); clear hb1))
   go_ret
   exact ⟨by rw [idxF_hit HX.out HN.out HQ.out]; rfl, HB1.out⟩
 | false =>
   rw [hq] at hcall
   have HC := Aside0.mk hcall
   have HQ := Aside0.mk hq
   clear hcall hq
   go_wp2_with (first | (go_at_fn g; refine HC.out.mono ?_; rintro e w1 ⟨rfl, hb1⟩; have HB1 := Aside0.mk (below_then HB'.out HB'.out.size hb1); clear hb1))
   refine ⟨⟨i + 1, by go_num, by omega, ⟨fun j y hj hy => ?_⟩, HB1⟩, by simp [intOf]; omega⟩
   rcases Nat.lt_or_ge j i with h | h
   · exact HN.out j y h hy
   obtain rfl : j = i := by omega
   have := HX.out.symm.trans hy
   injection this with this
   rw [← this]
   exact HQ.out
set_option maxHeartbeats 400000 in
set_option maxRecDepth 100000 in
theorem containsInst_calls (g : Nat) (lb : Array Value) (p : S52 → Bool) (A : Option Addr) (c : Nat) (l : List S52) (w : World) (eg : ∀ args w, (callFunc g args).run Tryz.prog w = .ok (.enter g args) w) (hr : Kd.C k52 w A l.length l) (hp : PaysInst g lb p l w) :
    Calls Tryz.prog 61 #[.slice A l.length c, .func (.func g) #[] lb] w fun e w' => e = .returned (.bool (l.any p)) ∧ Below w.heap.size w w' := by
 have HI := Aside0.mk (indexInst_calls g lb p A c l w eg hr hp)
 have hm := Kd.C_max hr
 have ha := idxF_any p l
 have hr2 := idxF_range p l
 clear hr hp
 generalize idxF p l = r at HI ha hr2
 have HA := Aside0.mk ha
 clear ha
 go_enter Tryz.func61, Tryz.ntmps61
 go_wp2_with (first | (go_at_call 77; refine HI.out.mono ?_; rintro e w1 ⟨rfl, hb1⟩; have HB1 := Aside0.mk hb1; clear hb1))
 go_ret
 exact ⟨by rw [← HA.out]; rfl, HB1.out⟩
def PaysJump (g : Nat) (lb : Array Value) (p : S61 → Bool) (l : List S61) (w : World) : Prop :=
  ∀ (i : Nat) (x : S61) (W : World) (A1 : Option Addr) (c1 : Nat), l[i]? = some x → Below w.heap.size w W → x.f1.length ≤ c1 → (Kd.int .i64).C W A1 x.f1.length x.f1 → Calls Tryz.prog g (#[.agg #[.int .i64 x.f0, .slice A1 x.f1.length c1]] ++ lb) W fun e w' => e = .returned (.bool (p x)) ∧ Below W.heap.size W w'
set_option maxHeartbeats 4000000 in
set_option maxRecDepth 100000 in
theorem indexJump_calls (g : Nat) (lb : Array Value) (p : S61 → Bool) (A : Option Addr) (c : Nat) (l : List S61) (w : World) (eg : ∀ args w, (callFunc g args).run Tryz.prog w = .ok (.enter g args) w) (hr : Kd.C k61 w A l.length l) (hp : PaysJump g lb p l w) :
    Calls Tryz.prog 79 #[.slice A l.length c, .func (.func g) #[] lb] w fun e w' => e = .returned (.int .i64 (idxF p l)) ∧ Below w.heap.size w w' := by
 have HR := Aside0.mk hr
 have HP := Aside0.mk hp
 have HB := Aside0.mk (Below.refl w.heap.size w)
 have hm := Kd.C_max hr
 clear hr hp
 go_enter Tryz.func79, Tryz.ntmps79
 go_wp2
 go_loopw [5, 8] (fun _ v8 w' => ∃ i : Nat, v8 = .int .i64 i ∧ i ≤ l.length ∧ Aside0 (∀ (j : Nat) y, j < i → l[j]? = some y → p y = false) ∧ Aside0 (Below w.heap.size w w')) (fun _ v8 _ => l.length - (intOf v8).toNat)
 case atStart => exact ⟨0, rfl, Nat.zero_le _, ⟨fun j y h => absurd h (Nat.not_lt_zero _)⟩, HB⟩
 obtain ⟨i, rfl, hi, HN, HB'⟩ := hrel
 clear HB
 by_cases hlt : i < l.length
 rotate_left
 · obtain rfl : i = l.length := by omega
   go_wp2
   go_ret
   exact ⟨by rw [idxF_miss HN.out]; rfl, HB'.out⟩
 obtain ⟨x, hx⟩ : ∃ x, l[i]? = some x := ⟨_, List.getElem?_eq_getElem hlt⟩
 have e0 : rd_T61 l (i : Int) = x := by unfold rd_T61; rw [Int.toNat_natCast, List.getD_eq_getElem?_getD, hx]; rfl
 obtain ⟨ad, A1, c1, e, hc0, hc1, l1, g1⟩ := at_T61 HR.out (i : Int) (by omega) (by omega)
 subst e
 simp only [Int.toNat_natCast, Nat.zero_mul] at hc0 hc1
 rw [e0] at hc0 hc1 l1 g1
 clear e0
 replace hc0 := (HB'.out.cell (World.block_lt_of_cell? w _ hc0)).trans hc0
 replace hc1 := (HB'.out.cell (World.block_lt_of_cell? w _ hc1)).trans hc1
 have hcall := HP.out i x wr A1 c1 hx HB'.out l1 (Kd.C_below g1 HB'.out)
 skip
 have HX := Aside0.mk hx
 clear hx
 have hlt' : (i : Int) < (l.length : Int) := by omega
 cases hq : p x with
 | true =>
   rw [hq] at hcall
   have HC := Aside0.mk hcall
   have HQ := Aside0.mk hq
   clear hcall hq
   go_wp2_with (first | (go_at_fn g; refine HC.out.mono ?_; rintro e w1 ⟨rfl, hb1⟩; have HB1 := Aside0.mk (below_then HB'.out HB'.out.size hb1); clear hb1))
   go_ret
   exact ⟨by rw [idxF_hit HX.out HN.out HQ.out]; rfl, HB1.out⟩
 | false =>
   rw [hq] at hcall
   have HC := Aside0.mk hcall
   have HQ := Aside0.mk hq
   clear hcall hq
   go_wp2_with (first | (go_at_fn g; refine HC.out.mono ?_; rintro e w1 ⟨rfl, hb1⟩; have HB1 := Aside0.mk (below_then HB'.out HB'.out.size hb1); clear hb1))
   refine ⟨⟨i + 1, by go_num, by omega, ⟨fun j y hj hy => ?_⟩, HB1⟩, by simp [intOf]; omega⟩
   rcases Nat.lt_or_ge j i with h | h
   · exact HN.out j y h hy
   obtain rfl : j = i := by omega
   have := HX.out.symm.trans hy
   injection this with this
   rw [← this]
   exact HQ.out
set_option maxHeartbeats 400000 in
set_option maxRecDepth 100000 in
theorem containsJump_calls (g : Nat) (lb : Array Value) (p : S61 → Bool) (A : Option Addr) (c : Nat) (l : List S61) (w : World) (eg : ∀ args w, (callFunc g args).run Tryz.prog w = .ok (.enter g args) w) (hr : Kd.C k61 w A l.length l) (hp : PaysJump g lb p l w) :
    Calls Tryz.prog 64 #[.slice A l.length c, .func (.func g) #[] lb] w fun e w' => e = .returned (.bool (l.any p)) ∧ Below w.heap.size w w' := by
 have HI := Aside0.mk (indexJump_calls g lb p A c l w eg hr hp)
 have hm := Kd.C_max hr
 have ha := idxF_any p l
 have hr2 := idxF_range p l
 clear hr hp
 generalize idxF p l = r at HI ha hr2
 have HA := Aside0.mk ha
 clear ha
 go_enter Tryz.func64, Tryz.ntmps64
 go_wp2_with (first | (go_at_call 79; refine HI.out.mono ?_; rintro e w1 ⟨rfl, hb1⟩; have HB1 := Aside0.mk hb1; clear hb1))
 go_ret
 exact ⟨by rw [← HA.out]; rfl, HB1.out⟩
def PaysBlock (g : Nat) (lb : Array Value) (p : S48 → Bool) (l : List S48) (w : World) : Prop :=
  ∀ (i : Nat) (x : S48) (W : World) (A1 : Option Addr) (c1 : Nat) (A4 : Option Addr) (c4 : Nat), l[i]? = some x → Below w.heap.size w W → x.f1.length ≤ c1 → k52.C W A1 x.f1.length x.f1 → x.f4.length ≤ c4 → k61.C W A4 x.f4.length x.f4 → Calls Tryz.prog g (#[.agg #[.int .i64 x.f0, .slice A1 x.f1.length c1, .int .i64 x.f2, .int .i64 x.f3, .slice A4 x.f4.length c4]] ++ lb) W fun e w' => e = .returned (.bool (p x)) ∧ Below W.heap.size W w'
set_option maxHeartbeats 4000000 in
set_option maxRecDepth 100000 in
theorem indexBlock_calls (g : Nat) (lb : Array Value) (p : S48 → Bool) (A : Option Addr) (c : Nat) (l : List S48) (w : World) (eg : ∀ args w, (callFunc g args).run Tryz.prog w = .ok (.enter g args) w) (hr : Kd.C k48 w A l.length l) (hp : PaysBlock g lb p l w) :
    Calls Tryz.prog 60 #[.slice A l.length c, .func (.func g) #[] lb] w fun e w' => e = .returned (.int .i64 (idxF p l)) ∧ Below w.heap.size w w' := by
 have HR := Aside0.mk hr
 have HP := Aside0.mk hp
 have HB := Aside0.mk (Below.refl w.heap.size w)
 have hm := Kd.C_max hr
 clear hr hp
 go_enter Tryz.func60, Tryz.ntmps60
 go_wp2
 go_loopw [5, 8] (fun _ v8 w' => ∃ i : Nat, v8 = .int .i64 i ∧ i ≤ l.length ∧ Aside0 (∀ (j : Nat) y, j < i → l[j]? = some y → p y = false) ∧ Aside0 (Below w.heap.size w w')) (fun _ v8 _ => l.length - (intOf v8).toNat)
 case atStart => exact ⟨0, rfl, Nat.zero_le _, ⟨fun j y h => absurd h (Nat.not_lt_zero _)⟩, HB⟩
 obtain ⟨i, rfl, hi, HN, HB'⟩ := hrel
 clear HB
 by_cases hlt : i < l.length
 rotate_left
 · obtain rfl : i = l.length := by omega
   go_wp2
   go_ret
   exact ⟨by rw [idxF_miss HN.out]; rfl, HB'.out⟩
 obtain ⟨x, hx⟩ : ∃ x, l[i]? = some x := ⟨_, List.getElem?_eq_getElem hlt⟩
 have e0 : rd_T48 l (i : Int) = x := by unfold rd_T48; rw [Int.toNat_natCast, List.getD_eq_getElem?_getD, hx]; rfl
 obtain ⟨ad, A1, c1, A4, c4, e, hc0, hc1, hc2, hc3, hc4, l1, g1, l4, g4⟩ := at_T48 HR.out (i : Int) (by omega) (by omega)
 subst e
 simp only [Int.toNat_natCast, Nat.zero_mul] at hc0 hc1 hc2 hc3 hc4
 rw [e0] at hc0 hc1 hc2 hc3 hc4 l1 g1 l4 g4
 clear e0
 replace hc0 := (HB'.out.cell (World.block_lt_of_cell? w _ hc0)).trans hc0
 replace hc1 := (HB'.out.cell (World.block_lt_of_cell? w _ hc1)).trans hc1
 replace hc2 := (HB'.out.cell (World.block_lt_of_cell? w _ hc2)).trans hc2
 replace hc3 := (HB'.out.cell (World.block_lt_of_cell? w _ hc3)).trans hc3
 replace hc4 := (HB'.out.cell (World.block_lt_of_cell? w _ hc4)).trans hc4
 have hcall := HP.out i x wr A1 c1 A4 c4 hx HB'.out l1 (Kd.C_below g1 HB'.out) l4 (Kd.C_below g4 HB'.out)
 skip
 have HX := Aside0.mk hx
 clear hx
 have hlt' : (i : Int) < (l.length : Int) := by omega
 cases hq : p x with
 | true =>
   rw [hq] at hcall
   have HC := Aside0.mk hcall
   have HQ := Aside0.mk hq
   clear hcall hq
   go_wp2_with (first | (go_at_fn g; refine HC.out.mono ?_; rintro e w1 ⟨rfl, hb1⟩; have HB1 := Aside0.mk (below_then HB'.out HB'.out.size hb1); clear hb1))
   go_ret
   exact ⟨by rw [idxF_hit HX.out HN.out HQ.out]; rfl, HB1.out⟩
 | false =>
   rw [hq] at hcall
   have HC := Aside0.mk hcall
   have HQ := Aside0.mk hq
   clear hcall hq
   go_wp2_with (first | (go_at_fn g; refine HC.out.mono ?_; rintro e w1 ⟨rfl, hb1⟩; have HB1 := Aside0.mk (below_then HB'.out HB'.out.size hb1); clear hb1))
   refine ⟨⟨i + 1, by go_num, by omega, ⟨fun j y hj hy => ?_⟩, HB1⟩, by simp [intOf]; omega⟩
   rcases Nat.lt_or_ge j i with h | h
   · exact HN.out j y h hy
   obtain rfl : j = i := by omega
   have := HX.out.symm.trans hy
   injection this with this
   rw [← this]
   exact HQ.out
set_option maxHeartbeats 400000 in
set_option maxRecDepth 100000 in
theorem containsBlock_calls (g : Nat) (lb : Array Value) (p : S48 → Bool) (A : Option Addr) (c : Nat) (l : List S48) (w : World) (eg : ∀ args w, (callFunc g args).run Tryz.prog w = .ok (.enter g args) w) (hr : Kd.C k48 w A l.length l) (hp : PaysBlock g lb p l w) :
    Calls Tryz.prog 43 #[.slice A l.length c, .func (.func g) #[] lb] w fun e w' => e = .returned (.bool (l.any p)) ∧ Below w.heap.size w w' := by
 have HI := Aside0.mk (indexBlock_calls g lb p A c l w eg hr hp)
 have hm := Kd.C_max hr
 have ha := idxF_any p l
 have hr2 := idxF_range p l
 clear hr hp
 generalize idxF p l = r at HI ha hr2
 have HA := Aside0.mk ha
 clear ha
 go_enter Tryz.func43, Tryz.ntmps43
 go_wp2_with (first | (go_at_call 60; refine HI.out.mono ?_; rintro e w1 ⟨rfl, hb1⟩; have HB1 := Aside0.mk hb1; clear hb1))
 go_ret
 exact ⟨by rw [← HA.out]; rfl, HB1.out⟩
end Go.Proofs.YtjpkcbkkjefekaaGreatDoor.V
