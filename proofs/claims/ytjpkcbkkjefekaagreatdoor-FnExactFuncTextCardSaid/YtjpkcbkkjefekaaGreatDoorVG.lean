/- A part of the session's texts, laid small by the session's shrink.py. -/
import Derived.Test.YtjpkcbkkjefekaaGreatDoorV5
import Derived.Test.YtjpkcbkkjefekaaGreatDoorPAx4
namespace Go.Proofs.YtjpkcbkkjefekaaGreatDoor.V
open Go.RowKit Go.Proofs.YtjpkcbkkjefekaaGreatDoorW.PrintWords Go.Proofs.YtjpkcbkkjefekaaGreatDoorW.PrintLast Go.Proofs.YtjpkcbkkjefekaaGreatDoorW.PrintMore
open Go.Proofs.YtjpkcbkkjefekaaGreatDoor.PA
set_option linter.unusedVariables false
set_option linter.unusedSimpArgs false
theorem ev_succ {α : Type} {g : Nat → Option α} {r : α} (h : ∃ K, ∀ k, K ≤ k → g (k + 1) = some r) : Ev g r := by
  obtain ⟨K, h⟩ := h
  refine ⟨K + 1, fun k hk => ?_⟩
  obtain ⟨j, rfl⟩ : ∃ j, k = j + 1 := ⟨k - 1, by omega⟩
  exact h j (by omega)
theorem ev_max {α β : Type} {g : Nat → Option α} {f : Nat → Option β} {r : α} {q : β} (h : Ev g r) (h2 : Ev f q) : ∃ K, ∀ k, K ≤ k → g k = some r ∧ f k = some q := by
  obtain ⟨K, h⟩ := h
  obtain ⟨K2, h2⟩ := h2
  exact ⟨K + K2, fun k hk => ⟨h k (by omega), h2 k (by omega)⟩⟩
theorem w64 {n : Int} (h0 : -9223372036854775808 ≤ n) (h1 : n ≤ 9223372036854775807) : wrap64 n = n := by unfold wrap64; omega
theorem w64s {i n : Nat} (h : i < n) (hn : n ≤ 9223372036854775807) : wrap64 ((i : Int) + 1) = ((i + 1 : Nat) : Int) := by unfold wrap64; omega
def inB (lo hi x : Int) : Bool := decide (lo ≤ x) && decide (x ≤ hi)
theorem inB_is {lo hi x : Int} : inB lo hi x = true ↔ lo ≤ x ∧ x ≤ hi := by simp [inB]
theorem l1In_f (a b c : Int) : spec_l1In.f a b c = some (inB b c a) := by
  unfold spec_l1In.f inB
  by_cases h : a ≥ b
  · have h' : b ≤ a := h
    simp [h']
  · have h' : ¬ b ≤ a := h
    simp [h']
theorem l12Arity_f (op : Int) (k : Nat) : spec_l12Arity.f (k + 1) op = some (arI op) := by
  unfold spec_l12Arity.f spec_l1Arity.f arI
  by_cases h12 : op = 12
  · simp [h12]
  · by_cases h13 : op = 13
    · simp [h13]
    · rw [if_neg h12, if_neg h13, if_neg h12, if_neg h13]
      by_cases h2 : op = 2
      · subst h2
        simp
      · rw [if_neg h2]
        by_cases h1 : op = 1
        · subst h1
          rfl
        · have hb : (op == 2) = false := by simpa using h2
          rw [if_neg h1, if_neg h1, hb]
          simp only [spec_l1Arity.j0]
          by_cases h3 : op = 3
          · simp [h3]
          · by_cases h4 : op = 11
            · simp [h4]
            · rw [if_neg (by simp), if_neg h3, if_neg h4, if_neg h3, if_neg h4, l1In_f]
              by_cases h5 : 4 ≤ op ∧ op ≤ 10
              · rw [if_pos h5, inB_is.2 h5]
                rfl
              · have : inB 4 10 op = false := by rw [Bool.eq_false_iff]; exact fun h => h5 (inB_is.1 h)
                rw [if_neg h5, this]
                rfl
theorem l12Arity_ev (op : Int) : Ev (fun k => spec_l12Arity.f k op) (arI op) := ev_succ ⟨0, fun k _ => l12Arity_f op k⟩
theorem rd_drop {l : List Int} {i : Nat} (h : i < l.length) : l.drop i = rd l (i : Int) :: l.drop (i + 1) := by
  rw [List.drop_eq_getElem_cons h]
  congr 1
  unfold rd
  rw [Int.toNat_natCast, List.getD_eq_getElem?_getD, List.getElem?_eq_getElem h]
  rfl
theorem drop_Blk {l : List S48} {i : Nat} (h : i < l.length) : l.drop i = rd_T48 l (i : Int) :: l.drop (i + 1) := by
  rw [List.drop_eq_getElem_cons h]
  congr 1
  unfold rd_T48
  rw [Int.toNat_natCast, List.getD_eq_getElem?_getD, List.getElem?_eq_getElem h]
  rfl
theorem drop_Ins {l : List S52} {i : Nat} (h : i < l.length) : l.drop i = rd_T52 l (i : Int) :: l.drop (i + 1) := by
  rw [List.drop_eq_getElem_cons h]
  congr 1
  unfold rd_T52
  rw [Int.toNat_natCast, List.getD_eq_getElem?_getD, List.getElem?_eq_getElem h]
  rfl
theorem drop_Jmp {l : List S61} {i : Nat} (h : i < l.length) : l.drop i = rd_T61 l (i : Int) :: l.drop (i + 1) := by
  rw [List.drop_eq_getElem_cons h]
  congr 1
  unfold rd_T61
  rw [Int.toNat_natCast, List.getD_eq_getElem?_getD, List.getElem?_eq_getElem h]
  rfl
theorem mem_Blk {l : List S48} {i : Nat} (h : i < l.length) : rd_T48 l (i : Int) ∈ l := by
  have h2 := drop_Blk h
  exact List.mem_of_mem_drop (i := i) (by rw [h2]; exact List.mem_cons_self)
theorem valsOK_all (tot : Int) (l : List Int) : valsOK tot l = l.all (inB 0 (tot - 1)) := by
  unfold valsOK
  rw [List.not_any_eq_all_not]
  congr 1
  funext x
  simp [valOK, inB]
theorem l1All_l (lo hi : Int) (l : List Int) (hm : l.length ≤ 9223372036854775807) : ∀ d i : Nat, i + d = l.length → Ev (fun k => spec_l1All.l0 k lo hi l (l.length : Int) (i : Int)) ((l.drop i).all (inB lo hi))
  | 0, i, h => ev_succ ⟨0, fun k _ => by
      simp only [spec_l1All.l0]
      rw [if_neg (by omega), List.drop_of_length_le (by omega)]
      rfl⟩
  | d + 1, i, h => by
      obtain ⟨K, hK⟩ := l1All_l lo hi l hm d (i + 1) (by omega)
      refine ev_succ ⟨K, fun k hk => ?_⟩
      have hi' : i < l.length := by omega
      have e := hK k hk
      dsimp only at e
      simp only [spec_l1All.l0]
      rw [if_pos (by omega), if_pos (by omega), if_pos (by omega), l1In_f, Option.bind_some, w64s hi' hm, e, rd_drop hi', List.all_cons]
      cases inB lo hi (rd l (i : Int)) <;> rfl
theorem l1All_ev (l : List Int) (lo hi : Int) (hm : l.length ≤ 9223372036854775807) : Ev (fun k => spec_l1All.f k l lo hi) (l.all (inB lo hi)) := by
  have := l1All_l lo hi l hm l.length 0 (by omega)
  exact this
theorem vals_ev (l : List Int) (tot : Int) (ht : 0 ≤ tot ∧ tot ≤ 1000) (hm : l.length ≤ 9223372036854775807) : Ev (fun k => spec_l1All.f k l 0 (wrap64 (tot - 1))) (valsOK tot l) := by
  rw [w64 (n := tot - 1) (by omega) (by omega), valsOK_all]
  exact l1All_ev l 0 (tot - 1) hm
theorem count_l (bs : List S48) (hb : bs.length ≤ 8) (hn : bs.all numOne = true) : ∀ (d i : Nat) (t : Int), i + d = bs.length → 0 ≤ t → t ≤ 4 + 84 * (i : Int) → Ev (fun k => spec_l12Count.l0 k t bs (bs.length : Int) (i : Int)) (numTot t (bs.drop i))
  | 0, i, t, h, _, _ => ev_succ ⟨0, fun k _ => by
      simp only [spec_l12Count.l0]
      rw [if_neg (by omega), List.drop_of_length_le (by omega)]
      rfl⟩
  | d + 1, i, t, h, h0, h1 => by
      have hi : i < bs.length := by omega
      have hx : numOne (rd_T48 bs (i : Int)) = true := List.all_eq_true.1 hn _ (mem_Blk hi)
      generalize hxx : rd_T48 bs (i : Int) = x at hx
      simp only [numOne, Bool.and_eq_true, decide_eq_true_eq] at hx
      have hc : cnt x = x.f0 + (x.f1.length : Int) := rfl
      obtain ⟨K, hK⟩ := count_l bs hb hn d (i + 1) (t + cnt x) (by omega) (by rw [hc]; omega) (by rw [hc]; omega)
      refine ev_succ ⟨K, fun k hk => ?_⟩
      have e := hK k hk
      dsimp only at e
      simp only [spec_l12Count.l0]
      rw [if_pos (by omega), if_pos (by omega), if_pos (by omega), w64s hi (by omega), hxx, w64 (n := x.f0 + (x.f1.length : Int)) (by omega) (by omega), w64 (n := t + (x.f0 + (x.f1.length : Int))) (by omega) (by omega), ← hc, e, drop_Blk hi, hxx]
      rfl
theorem numOne_all {p : Int} {bs : List S48} (h : numOK p bs = true) : bs.all numOne = true ∧ bs.length ≤ 8 ∧ 1 ≤ bs.length ∧ 0 ≤ p ∧ p ≤ 4 := by
  unfold numOK numPre at h
  simp only [Bool.and_eq_true, decide_eq_true_eq] at h
  exact ⟨h.2, by omega, by omega, by omega, by omega⟩
theorem count_ev {p : Int} {bs : List S48} (h : numOK p bs = true) : Ev (fun k => spec_l12Count.f k p bs) (numTot p bs) := by
  obtain ⟨h1, h2, h3, h4, h5⟩ := numOne_all h
  have := count_l bs h2 h1 bs.length 0 p (by omega) h4 (by omega)
  exact this
theorem jumps_l (p tot : Int) (ht : 0 ≤ tot ∧ tot ≤ 1000) (bs : List S48) (hb : bs.length ≤ 8) (hn : bs.all numOne = true) (l : List S61) (hl : l.length ≤ 9223372036854775807) : ∀ d i : Nat, i + d = l.length → Ev (fun k => spec_l12Ends.l0 k tot l (l.length : Int) (i : Int) p bs) ((l.drop i).all (jumpOKp bs tot))
  | 0, i, h => ev_succ ⟨0, fun k _ => by
      simp only [spec_l12Ends.l0]
      rw [if_neg (by omega), List.drop_of_length_le (by omega)]
      rfl⟩
  | d + 1, i, h => by
      have hi : i < l.length := by omega
      obtain ⟨K, hK⟩ := jumps_l p tot ht bs hb hn l hl d (i + 1) (by omega)
      generalize hxx : rd_T61 l (i : Int) = x
      by_cases hto : 0 ≤ x.f0 ∧ x.f0 ≤ (bs.length : Int) - 1
      · have hin : inB 0 ((bs.length : Int) - 1) x.f0 = true := inB_is.2 hto
        have hd : (decide (0 ≤ x.f0) && decide (x.f0 ≤ (bs.length : Int) - 1)) = true := hin
        by_cases hlen : (x.f1.length : Int) = (rd_T48 bs x.f0).f0
        · have hq : numOne (rd_T48 bs x.f0) = true := by
            obtain ⟨j, hj⟩ := Int.eq_ofNat_of_zero_le hto.1
            rw [hj]
            exact List.all_eq_true.1 hn _ (mem_Blk (by omega))
          simp only [numOne, Bool.and_eq_true, decide_eq_true_eq] at hq
          obtain ⟨K2, hK2⟩ := vals_ev x.f1 tot ht (by omega)
          refine ev_succ ⟨K + K2, fun k hk => ?_⟩
          have e := hK k (by omega)
          have e2 := hK2 k (by omega)
          dsimp only at e e2
          simp only [spec_l12Ends.l0]
          rw [if_pos (by omega), if_pos (by omega), if_pos (by omega), hxx, w64 (n := (bs.length : Int) - 1) (by omega) (by omega), l1In_f, Option.bind_some, hin, if_pos rfl, if_pos hto.1, if_pos (by omega), if_pos hlen, e2, Option.bind_some, w64s hi hl, e, drop_Jmp hi, List.all_cons, hxx]
          have hj : jumpOKp bs tot x = valsOK tot x.f1 := by
            unfold jumpOKp
            rw [hd, hlen]
            simp
          rw [hj]
          cases valsOK tot x.f1 <;> rfl
        · refine ev_succ ⟨0, fun k _ => ?_⟩
          simp only [spec_l12Ends.l0]
          rw [if_pos (by omega), if_pos (by omega), if_pos (by omega), hxx, w64 (n := (bs.length : Int) - 1) (by omega) (by omega), l1In_f, Option.bind_some, hin, if_pos rfl, if_pos hto.1, if_pos (by omega), if_neg hlen, drop_Jmp hi, List.all_cons, hxx]
          have hj : jumpOKp bs tot x = false := by
            unfold jumpOKp
            rw [hd]
            simp [hlen]
          rw [hj]
          rfl
      · have hin : inB 0 ((bs.length : Int) - 1) x.f0 = false := by rw [Bool.eq_false_iff]; exact fun h => hto (inB_is.1 h)
        have hd : (decide (0 ≤ x.f0) && decide (x.f0 ≤ (bs.length : Int) - 1)) = false := hin
        refine ev_succ ⟨0, fun k _ => ?_⟩
        simp only [spec_l12Ends.l0]
        rw [if_pos (by omega), if_pos (by omega), if_pos (by omega), hxx, w64 (n := (bs.length : Int) - 1) (by omega) (by omega), l1In_f, Option.bind_some, hin, if_neg (by simp), drop_Jmp hi, List.all_cons, hxx]
        have hj : jumpOKp bs tot x = false := by
          unfold jumpOKp
          rw [hd]
          rfl
        rw [hj]
        rfl
def endsP (bs : List S48) (tot : Int) (b : S48) : Bool :=
  b.f4.all (jumpOKp bs tot) && (if b.f2 = 1 then (b.f4.length : Int) == 0 && valsOK tot [b.f3] else if b.f2 = 2 then (b.f4.length : Int) == 1 && b.f3 == 0 else b.f2 == 3 && (b.f4.length : Int) == 2 && valsOK tot [b.f3])
theorem blockOKp_is (bs : List S48) (tot : Int) (b : S48) : blockOKp bs tot b = (b.f1.all (instOKp tot) && endsP bs tot b) := by
  unfold blockOKp endsP
  rw [List.not_any_eq_all_not, List.not_any_eq_all_not, Bool.and_assoc]
  simp only [Bool.not_not]
theorem vals_one (tot v : Int) : valsOK tot [v] = inB 0 (tot - 1) v := by
  rw [valsOK_all]
  simp
theorem ends_ev (p tot : Int) (ht : 0 ≤ tot ∧ tot ≤ 1000) (bs : List S48) (hb : bs.length ≤ 8) (hn : bs.all numOne = true) (b : S48) : Ev (fun k => spec_l12Ends.f k p bs b.f0 b.f1 b.f2 b.f3 b.f4 tot) (endsP bs tot b) := by
  obtain ⟨a0, li, en, va, lj⟩ := b
  have key : ∀ (want : Int), want ≤ 2 → en ≠ 2 → Ev (fun k => spec_l12Ends.j0 k tot want p bs a0 li en va lj) ((lj.length : Int) == want && inB 0 (tot - 1) va && lj.all (jumpOKp bs tot)) := by
    intro want hw h2
    refine ev_succ ?_
    by_cases hl : (lj.length : Int) = want
    · obtain ⟨K, hK⟩ := jumps_l p tot ht bs hb hn lj (by omega) lj.length 0 (by omega)
      refine ⟨K + 1, fun k hk => ?_⟩
      obtain ⟨j, rfl⟩ : ∃ j, k = j + 1 := ⟨k - 1, by omega⟩
      have e := hK j (by omega)
      dsimp only at e
      rw [List.drop_zero] at e
      simp only [spec_l12Ends.j0]
      rw [if_pos hl, if_neg h2, w64 (n := tot - 1) (by omega) (by omega), l1In_f, Option.bind_some]
      simp only [spec_l12Ends.j1]
      have hbe : ((lj.length : Int) == want) = true := by simpa using hl
      rw [hbe]
      cases inB 0 (tot - 1) va with
      | false => rfl
      | true =>
        rw [if_neg (by simp)]
        refine e.trans ?_
        simp
    · refine ⟨1, fun k hk => ?_⟩
      obtain ⟨j, rfl⟩ : ∃ j, k = j + 1 := ⟨k - 1, by omega⟩
      simp only [spec_l12Ends.j0]
      rw [if_neg hl]
      simp only [spec_l12Ends.j1]
      have hbe : ((lj.length : Int) == want) = false := by simpa using hl
      rw [hbe]
      rfl
  unfold endsP
  simp only
  by_cases h1 : en = 1
  · have := key 0 (by omega) (by omega)
    rw [if_pos h1]
    have h3 : (fun k => spec_l12Ends.f k p bs a0 li en va lj tot) = fun k => spec_l12Ends.j0 k tot 0 p bs a0 li en va lj := by
      funext k
      unfold spec_l12Ends.f
      rw [if_pos h1]
    rw [h3, vals_one, Bool.and_comm]
    exact this
  · rw [if_neg h1]
    by_cases h2 : en = 2
    · rw [if_pos h2]
      by_cases hv : va = 0
      · have h3 : (fun k => spec_l12Ends.f k p bs a0 li en va lj tot) = fun k => spec_l12Ends.j0 k tot 1 p bs a0 li en va lj := by
          funext k
          unfold spec_l12Ends.f
          rw [if_neg h1, if_pos h2, if_pos hv]
        rw [h3]
        refine ev_succ ?_
        by_cases hl : (lj.length : Int) = 1
        · obtain ⟨K, hK⟩ := jumps_l p tot ht bs hb hn lj (by omega) lj.length 0 (by omega)
          refine ⟨K + 1, fun k hk => ?_⟩
          obtain ⟨j, rfl⟩ : ∃ j, k = j + 1 := ⟨k - 1, by omega⟩
          have e := hK j (by omega)
          dsimp only at e
          rw [List.drop_zero] at e
          simp only [spec_l12Ends.j0]
          rw [if_pos hl, if_pos h2]
          simp only [spec_l12Ends.j1]
          rw [if_neg (by simp)]
          refine e.trans ?_
          have hbe : ((lj.length : Int) == 1) = true := by simpa using hl
          rw [hbe, hv]
          simp
        · refine ⟨1, fun k hk => ?_⟩
          obtain ⟨j, rfl⟩ : ∃ j, k = j + 1 := ⟨k - 1, by omega⟩
          simp only [spec_l12Ends.j0]
          rw [if_neg hl]
          simp only [spec_l12Ends.j1]
          have hbe : ((lj.length : Int) == 1) = false := by simpa using hl
          rw [hbe]
          simp
      · refine ⟨0, fun k _ => ?_⟩
        unfold spec_l12Ends.f
        dsimp only
        rw [if_neg h1, if_pos h2, if_neg hv]
        have : (va == 0) = false := by simpa using hv
        rw [this]
        simp
    · rw [if_neg h2]
      by_cases h3 : en = 3
      · have h4 : (fun k => spec_l12Ends.f k p bs a0 li en va lj tot) = fun k => spec_l12Ends.j0 k tot 2 p bs a0 li en va lj := by
          funext k
          unfold spec_l12Ends.f
          rw [if_neg h1, if_neg h2, if_pos h3]
        have := key 2 (by omega) h2
        have hbe : (en == 3) = true := by simpa using h3
        rw [h4, vals_one, hbe, Bool.true_and, Bool.and_comm]
        exact this
      · refine ⟨0, fun k _ => ?_⟩
        unfold spec_l12Ends.f
        dsimp only
        rw [if_neg h1, if_neg h2, if_neg h3]
        have hbe : (en == 3) = false := by simpa using h3
        rw [hbe]
        simp
theorem insts_l (p tot : Int) (ht : 0 ≤ tot ∧ tot ≤ 1000) (bs : List S48) (hb : bs.length ≤ 8) (hn : bs.all numOne = true) (j : Int) (b : S48) (hl : b.f1.length ≤ 80) (next : Bool) (hnext : Ev (fun k => spec_GoodFunc.l1 k tot bs (bs.length : Int) (wrap64 (j + 1)) p bs) next) : ∀ d i : Nat, i + d = b.f1.length →
    Ev (fun k => spec_GoodFunc.l2 k tot bs (bs.length : Int) j b.f1 (b.f1.length : Int) (i : Int) p bs b.f0 b.f1 b.f2 b.f3 b.f4) ((b.f1.drop i).all (instOKp tot) && (endsP bs tot b && next))
  | 0, i, h => by
      obtain ⟨K, hK⟩ := ev_max (ends_ev p tot ht bs hb hn b) hnext
      refine ev_succ ⟨K, fun k hk => ?_⟩
      obtain ⟨e1, e2⟩ := hK k hk
      simp only [spec_GoodFunc.l2]
      rw [if_neg (by omega), e1, Option.bind_some, e2, List.drop_of_length_le (by omega)]
      cases endsP bs tot b <;> rfl
  | d + 1, i, h => by
      have hi : i < b.f1.length := by omega
      obtain ⟨K, hK⟩ := insts_l p tot ht bs hb hn j b hl next hnext d (i + 1) (by omega)
      obtain ⟨K1, hK1⟩ := l12Arity_ev (rd_T52 b.f1 (i : Int)).f0
      rw [drop_Ins hi, List.all_cons]
      generalize hxx : rd_T52 b.f1 (i : Int) = x at hK1
      have har : -1 ≤ arI x.f0 ∧ arI x.f0 ≤ 3 := by
        unfold arI
        split <;> (try split) <;> (try split) <;> (try split) <;> (try split) <;> (try split) <;> omega
      by_cases hlen : (x.f2.length : Int) = arI x.f0
      · obtain ⟨K2, hK2⟩ := vals_ev x.f2 tot ht (by omega)
        refine ev_succ ⟨K + K1 + K2, fun k hk => ?_⟩
        have e := hK k (by omega)
        have e1 := hK1 k (by omega)
        have e2 := hK2 k (by omega)
        dsimp only at e e1 e2
        simp only [spec_GoodFunc.l2]
        rw [if_pos (by omega), if_pos (by omega), if_pos (by omega), hxx, e1, Option.bind_some, if_neg (by omega), Option.bind_some, if_pos hlen, e2, Option.bind_some, w64s hi (by omega), e]
        have hj : instOKp tot x = (((x.f0 == 1) || (x.f1 == 0)) && valsOK tot x.f2) := by
          unfold instOKp
          rw [hlen]
          simp
        rw [hj]
        by_cases h1 : x.f0 = 1
        · have : (x.f0 == 1) = true := by simpa using h1
          rw [this, if_pos h1]
          cases valsOK tot x.f2 <;> simp
        · have : (x.f0 == 1) = false := by simpa using h1
          rw [this, if_neg h1]
          by_cases h2 : x.f1 = 0
          · have : (x.f1 == 0) = true := by simpa using h2
            rw [this, if_pos h2]
            cases valsOK tot x.f2 <;> simp
          · have : (x.f1 == 0) = false := by simpa using h2
            rw [this, if_neg h2]
            cases valsOK tot x.f2 <;> simp
      · have hj : instOKp tot x = false := by
          unfold instOKp
          simp [hlen]
        rw [hj]
        refine ev_succ ⟨K1, fun k hk => ?_⟩
        have e1 := hK1 k hk
        dsimp only at e1
        simp only [spec_GoodFunc.l2]
        rw [if_pos (by omega), if_pos (by omega), if_pos (by omega), hxx, e1, Option.bind_some]
        by_cases hneg : arI x.f0 < 0
        · rw [if_pos hneg]
          simp
        · rw [if_neg hneg, Option.bind_some, if_neg hlen]
          simp
theorem blocks_l (p tot : Int) (ht : 0 ≤ tot ∧ tot ≤ 1000) (bs : List S48) (hb : bs.length ≤ 8) (hn : bs.all numOne = true) : ∀ d i : Nat, i + d = bs.length → Ev (fun k => spec_GoodFunc.l1 k tot bs (bs.length : Int) (i : Int) p bs) ((bs.drop i).all (blockOKp bs tot))
  | 0, i, h => ev_succ ⟨0, fun k _ => by
      simp only [spec_GoodFunc.l1]
      rw [if_neg (by omega), List.drop_of_length_le (by omega)]
      rfl⟩
  | d + 1, i, h => by
      have hi : i < bs.length := by omega
      have hx : numOne (rd_T48 bs (i : Int)) = true := List.all_eq_true.1 hn _ (mem_Blk hi)
      have ih := blocks_l p tot ht bs hb hn d (i + 1) (by omega)
      rw [← w64s hi (by omega)] at ih
      rw [drop_Blk hi, List.all_cons]
      generalize hxx : rd_T48 bs (i : Int) = x at hx
      simp only [numOne, Bool.and_eq_true, decide_eq_true_eq] at hx
      obtain ⟨K, hK⟩ := insts_l p tot ht bs hb hn (i : Int) x (by omega) _ ih x.f1.length 0 (by omega)
      refine ev_succ ⟨K, fun k hk => ?_⟩
      have e := hK k hk
      dsimp only at e
      simp only [spec_GoodFunc.l1]
      rw [if_pos (by omega), if_pos (by omega), if_pos (by omega), hxx]
      refine e.trans ?_
      rw [blockOKp_is, Bool.and_assoc]
      rfl
theorem ones_l (p : Int) (bs : List S48) (hp : 0 ≤ p ∧ p ≤ 4) (hb : bs.length ≤ 8) (rest : Bool) (hrest : bs.all numOne = true → Ev (fun k => (spec_l12Count.f k p bs).bind fun t185 => (if t185 > 80 then (some false) else (spec_GoodFunc.l1 k t185 bs (bs.length : Int) 0 p bs))) rest) :
    ∀ d i : Nat, i + d = bs.length → (bs.take i).all numOne = true → Ev (fun k => spec_GoodFunc.l0 k bs (bs.length : Int) (i : Int) p bs) ((bs.drop i).all numOne && rest)
  | 0, i, h, ha => by
      rw [List.take_of_length_le (by omega)] at ha
      obtain ⟨K, hK⟩ := hrest ha
      refine ev_succ ⟨K, fun k hk => ?_⟩
      have e := hK k hk
      dsimp only at e
      simp only [spec_GoodFunc.l0]
      rw [if_neg (by omega), e, List.drop_of_length_le (by omega)]
      rfl
  | d + 1, i, h, ha => by
      have hi : i < bs.length := by omega
      rw [drop_Blk hi, List.all_cons]
      have hx : bs[i]? = some (rd_T48 bs (i : Int)) := by
        unfold rd_T48
        rw [Int.toNat_natCast, List.getD_eq_getElem?_getD, List.getElem?_eq_getElem hi]
        rfl
      generalize hxx : rd_T48 bs (i : Int) = x at hx
      by_cases hone : numOne x = true
      · obtain ⟨K, hK⟩ := ones_l p bs hp hb rest hrest d (i + 1) (by omega) (all_step hx ha hone)
        refine ev_succ ⟨K, fun k hk => ?_⟩
        have e := hK k hk
        dsimp only at e
        rw [hone]
        simp only [numOne, Bool.and_eq_true, decide_eq_true_eq] at hone
        simp only [spec_GoodFunc.l0]
        rw [if_pos (by omega), if_pos (by omega), if_pos (by omega), hxx, l1In_f, Option.bind_some, inB_is.2 hone.1, if_pos rfl, if_neg (by omega), w64s hi (by omega), e]
        simp
      · rw [Bool.not_eq_true] at hone
        refine ev_succ ⟨0, fun k hk => ?_⟩
        simp only [spec_GoodFunc.l0]
        rw [if_pos (by omega), if_pos (by omega), if_pos (by omega), hxx, l1In_f, Option.bind_some, hone]
        have h2 : (inB 0 4 x.f0 && decide ((x.f1.length : Int) ≤ 80)) = false := hone
        cases hin : inB 0 4 x.f0 with
        | false => rfl
        | true =>
          rw [hin, Bool.true_and, decide_eq_false_iff_not] at h2
          rw [if_pos rfl, if_pos (by omega)]
          simp
theorem good_ev (p : Int) (bs : List S48) : Ev (fun k => spec_GoodFunc.f k p bs) (goodF p bs) := by
  unfold spec_GoodFunc.f
  simp only [l1In_f, Option.bind_some]
  unfold goodF
  have hT : ∀ k, spec_GoodFunc.j0 (k + 1) true p bs = some false := fun k => by
    simp only [spec_GoodFunc.j0]
    rfl
  by_cases hp : 0 ≤ p ∧ p ≤ 4
  · rw [inB_is.2 hp]
    simp only [if_pos]
    by_cases hb : 1 ≤ (bs.length : Int) ∧ (bs.length : Int) ≤ 8
    · rw [inB_is.2 hb]
      simp only [if_pos]
      refine ev_succ ?_
      have hpre : numPre p bs = ((rd_T48 bs 0).f0 == 0) := by
        unfold numPre
        have e1 : (decide (0 ≤ p) && decide (p ≤ 4)) = true := inB_is.2 hp
        have e2 : (decide (1 ≤ (bs.length : Int)) && decide ((bs.length : Int) ≤ 8)) = true := inB_is.2 hb
        rw [e1, e2]
        rfl
      by_cases h0 : (rd_T48 bs 0).f0 = 0
      · have b1 : ((rd_T48 bs 0).f0 != 0) = false := by simpa using h0
        have b2 : ((rd_T48 bs 0).f0 == 0) = true := by simpa using h0
        have hpt : numPre p bs = true := by rw [hpre, b2]
        have hok : numOK p bs = bs.all numOne := by
          unfold numOK
          rw [hpt]
          rfl
        have hall : ∀ rest, (bs.all numOne = true → Ev (fun k => (spec_l12Count.f k p bs).bind fun t185 => (if t185 > 80 then (some false) else (spec_GoodFunc.l1 k t185 bs (bs.length : Int) 0 p bs))) rest) → Ev (fun k => spec_GoodFunc.l0 k bs (bs.length : Int) 0 p bs) (bs.all numOne && rest) := by
          intro rest hrest
          have := ones_l p bs hp (by omega) rest hrest bs.length 0 (by omega) (by simp)
          exact this
        obtain ⟨K, hK⟩ := hall (decide (numTot p bs ≤ 80) && bs.all (blockOKp bs (numTot p bs))) (fun ha => by
          rw [← hok] at ha
          have hc := count_ev ha
          have h1 := numTot_0 ha
          obtain ⟨ho, hb8, _, _, _⟩ := numOne_all ha
          by_cases h80 : numTot p bs ≤ 80
          · have hbl := blocks_l p (numTot p bs) (by omega) bs hb8 ho bs.length 0 (by omega)
            obtain ⟨K, hK⟩ := ev_max hc hbl
            refine ⟨K, fun k hk => ?_⟩
            obtain ⟨e1, e2⟩ := hK k hk
            dsimp only
            rw [e1, Option.bind_some, if_neg (by omega)]
            refine e2.trans ?_
            simp [h80]
          · obtain ⟨K, hK⟩ := hc
            refine ⟨K, fun k hk => ?_⟩
            have e1 := hK k hk
            dsimp only at e1
            dsimp only
            rw [e1, Option.bind_some, if_pos (by omega)]
            simp [h80])
        refine ⟨K + 1, fun k hk => ?_⟩
        have e := hK k (by omega)
        dsimp only at e
        rw [b1]
        rw [if_pos (by omega)]
        simp only [spec_GoodFunc.j0]
        rw [if_neg (by simp), e, hok, List.not_any_eq_all_not, Bool.and_assoc]
        simp only [Bool.not_not]
      · have b1 : ((rd_T48 bs 0).f0 != 0) = true := by simpa using h0
        have b2 : ((rd_T48 bs 0).f0 == 0) = false := by simpa using h0
        have hok : numOK p bs = false := by
          unfold numOK
          rw [hpre, b2]
          rfl
        refine ⟨0, fun k _ => ?_⟩
        rw [b1]
        rw [if_pos (by omega), hT, hok]
        rfl
    · have hin : inB 1 8 (bs.length : Int) = false := by rw [Bool.eq_false_iff]; exact fun h => hb (inB_is.1 h)
      have hok : numOK p bs = false := by
        unfold numOK numPre
        have e2 : (decide (1 ≤ (bs.length : Int)) && decide ((bs.length : Int) ≤ 8)) = false := hin
        rw [e2]
        simp
      refine ev_succ ⟨0, fun k _ => ?_⟩
      rw [hin]
      rw [if_neg (by simp), hT, hok]
      rfl
  · have hin : inB 0 4 p = false := by rw [Bool.eq_false_iff]; exact fun h => hp (inB_is.1 h)
    have hok : numOK p bs = false := by
      unfold numOK numPre
      have e1 : (decide (0 ≤ p) && decide (p ≤ 4)) = false := hin
      rw [e1]
      rfl
    refine ev_succ ⟨0, fun k _ => ?_⟩
    rw [hin]
    rw [if_neg (by simp), hT, hok]
    rfl
end Go.Proofs.YtjpkcbkkjefekaaGreatDoor.V
