/- A part of the session's texts, laid small by the session's shrink.py. -/
import Derived.Test.YtjpkcbkkjefekaaGreatDoorVG
import Derived.Test.YtjpkcbkkjefekaaGreatDoorPAx1
import Derived.Test.YtjpkcbkkjefekaaGreatDoorPAx8
import Derived.Test.YtjpkcbkkjefekaaGreatDoorPAx11
namespace Go.Proofs.YtjpkcbkkjefekaaGreatDoor.V
open Go.RowKit Go.Proofs.YtjpkcbkkjefekaaGreatDoorW.PrintWords Go.Proofs.YtjpkcbkkjefekaaGreatDoorW.PrintLast Go.Proofs.YtjpkcbkkjefekaaGreatDoorW.PrintMore
open Go.Proofs.YtjpkcbkkjefekaaGreatDoor.PA
set_option linter.unusedVariables false
set_option linter.unusedSimpArgs false
section generic
variable {α : Type} (rdT : List α → Int → α) (hd : ∀ (l : List α) (i : Nat), i < l.length → l.drop i = rdT l (i : Int) :: l.drop (i + 1))
theorem szLoop (g : Nat → List α → Int → Int → Option Int) (body : Nat → α → Int → Option Int)
    (hg : ∀ k x0 x1 x5, g (k + 1) x0 x1 x5 = if x5 < (x0.length : Int) then (if 0 ≤ x5 then ((body k (rdT x0 x5) x1).bind fun t => (if t < 0 then (some (-1)) else (g k x0 t (wrap64 (x5 + 1))))) else (none)) else (some x1))
    (hd : ∀ (l : List α) (i : Nat), i < l.length → l.drop i = rdT l (i : Int) :: l.drop (i + 1))
    (P Q : α → Prop) (M : Int) (hb : ∀ x a, P x → 0 ≤ a → a ≤ M → ∃ r, Ev (fun k => body k x a) r ∧ (r < 0 ∨ (0 ≤ r ∧ r ≤ a ∧ Q x)))
    (l : List α) (hl : l.length ≤ 9223372036854775807) (hP : ∀ x ∈ l, P x) :
    ∀ (d i : Nat) (a : Int), i + d = l.length → 0 ≤ a → a ≤ M → ∃ r, Ev (fun k => g k l a (i : Int)) r ∧ (r < 0 ∨ (0 ≤ r ∧ r ≤ a ∧ ∀ x ∈ l.drop i, Q x))
  | 0, i, a, h, h0, h1 => ⟨a, ev_succ ⟨0, fun k _ => by rw [hg, if_neg (by omega)]⟩, .inr ⟨h0, Int.le_refl _, by rw [List.drop_of_length_le (by omega)]; intro x hx; cases hx⟩⟩
  | d + 1, i, a, h, h0, h1 => by
      have hi : i < l.length := by omega
      have hm : rdT l (i : Int) ∈ l := List.mem_of_mem_drop (i := i) (by rw [hd l i hi]; exact List.mem_cons_self)
      obtain ⟨t, ⟨K, hK⟩, ht⟩ := hb (rdT l (i : Int)) a (hP _ hm) h0 h1
      by_cases hn : t < 0
      · refine ⟨-1, ev_succ ⟨K, fun k hk => ?_⟩, .inl (by omega)⟩
        have e := hK k hk
        dsimp only at e
        rw [hg, if_pos (by omega), if_pos (by omega), e, Option.bind_some, if_pos hn]
      · obtain ⟨t0, t1, tq⟩ := ht.resolve_left hn
        obtain ⟨r, ⟨K2, hK2⟩, hr⟩ := szLoop g body hg hd P Q M hb l hl hP d (i + 1) t (by omega) t0 (by omega)
        refine ⟨r, ev_succ ⟨K + K2, fun k hk => ?_⟩, ?_⟩
        · have e := hK k (by omega)
          have e2 := hK2 k (by omega)
          dsimp only at e e2
          rw [hg, if_pos (by omega), if_pos (by omega), e, Option.bind_some, if_neg hn, w64s hi hl, e2]
        · rcases hr with hr | ⟨r0, r1, rq⟩
          · exact .inl hr
          · refine .inr ⟨r0, by omega, fun x hx => ?_⟩
            rw [hd l i hi] at hx
            rcases List.mem_cons.1 hx with hx | hx
            · exact hx ▸ tq
            · exact rq x hx
theorem toLoop {β τ : Type} (g : Nat → List α → List β → Int → Option (List β)) (body : Nat → α → Option τ) (mk : τ → β) (tm : α → τ)
    (hg : ∀ k x0 x3 x4, g (k + 1) x0 x3 x4 = if x4 < (x0.length : Int) then (if 0 ≤ x4 then ((body k (rdT x0 x4)).bind fun t => (if x4 < (x3.length : Int) then (g k x0 (x3.set (x4 : Int).toNat (mk t)) (wrap64 (x4 + 1))) else (none))) else (none)) else (some x3))
    (hd : ∀ (l : List α) (i : Nat), i < l.length → l.drop i = rdT l (i : Int) :: l.drop (i + 1))
    (l : List α) (hl : l.length ≤ 9223372036854775807) (hb : ∀ x ∈ l, Ev (fun k => body k x) (tm x)) (z : β) :
    ∀ d i : Nat, i + d = l.length → Ev (fun k => g k l ((l.take i).map (fun x => mk (tm x)) ++ List.replicate d z) (i : Int)) (l.map (fun x => mk (tm x)))
  | 0, i, h => ev_succ ⟨0, fun k _ => by rw [hg, if_neg (by omega), List.take_of_length_le (by omega)]; simp⟩
  | d + 1, i, h => by
      have hi : i < l.length := by omega
      have hm : rdT l (i : Int) ∈ l := List.mem_of_mem_drop (i := i) (by rw [hd l i hi]; exact List.mem_cons_self)
      obtain ⟨K, hK⟩ := hb _ hm
      obtain ⟨K2, hK2⟩ := toLoop g body mk tm hg hd l hl hb z d (i + 1) (by omega)
      have hx : l[i]? = some (rdT l (i : Int)) := by
        have := congrArg (fun q => q[0]?) (hd l i hi)
        simpa using this
      refine ev_succ ⟨K + K2, fun k hk => ?_⟩
      have e := hK k (by omega)
      have e2 := hK2 k (by omega)
      dsimp only at e e2
      have hlen : ((l.take i).map (fun x => mk (tm x))).length = i := by simp; omega
      have hset : (((l.take i).map (fun x => mk (tm x)) ++ List.replicate (d + 1) z).set ((i : Int)).toNat (mk (tm (rdT l (i : Int))))) = (l.take (i + 1)).map (fun x => mk (tm x)) ++ List.replicate d z := by
        rw [Int.toNat_natCast, List.set_append, if_neg (by rw [hlen]; omega), hlen, Nat.sub_self, List.take_add_one, hx]
        simp [List.replicate_succ]
      rw [hg, if_pos (by omega), if_pos (by omega), e, Option.bind_some, if_pos (by rw [List.length_append, hlen]; simp; omega), hset, w64s hi hl, e2]
theorem eqLoop (g : Nat → List α → List α → Int → Option Bool) (body : Nat → α → α → Option Bool)
    (hg : ∀ k x0 x1 x5, g (k + 1) x0 x1 x5 = if x5 < (x0.length : Int) then (if 0 ≤ x5 then (if x5 < (x1.length : Int) then ((body k (rdT x0 x5) (rdT x1 x5)).bind fun t => (if t = true then (g k x0 x1 (wrap64 (x5 + 1))) else (some false))) else (none)) else (none)) else (some true))
    (hd : ∀ (l : List α) (i : Nat), i < l.length → l.drop i = rdT l (i : Int) :: l.drop (i + 1))
    (l : List α) (hl : l.length ≤ 9223372036854775807) (hb : ∀ x ∈ l, Ev (fun k => body k x x) true) :
    ∀ d i : Nat, i + d = l.length → Ev (fun k => g k l l (i : Int)) true
  | 0, i, h => ev_succ ⟨0, fun k _ => by rw [hg, if_neg (by omega)]⟩
  | d + 1, i, h => by
      have hi : i < l.length := by omega
      have hm : rdT l (i : Int) ∈ l := List.mem_of_mem_drop (i := i) (by rw [hd l i hi]; exact List.mem_cons_self)
      obtain ⟨K, hK⟩ := hb _ hm
      obtain ⟨K2, hK2⟩ := eqLoop g body hg hd l hl hb d (i + 1) (by omega)
      refine ev_succ ⟨K + K2, fun k hk => ?_⟩
      have e := hK k (by omega)
      have e2 := hK2 k (by omega)
      dsimp only at e e2
      rw [hg, if_pos (by omega), if_pos (by omega), if_pos (by omega), e, Option.bind_some, if_pos rfl, w64s hi hl, e2]
end generic
theorem drop_LB (l : List S43) (i : Nat) (h : i < l.length) : l.drop i = rd_T43 l (i : Int) :: l.drop (i + 1) := by
  rw [List.drop_eq_getElem_cons h]
  congr 1
  unfold rd_T43
  rw [Int.toNat_natCast, List.getD_eq_getElem?_getD, List.getElem?_eq_getElem h]
  rfl
theorem drop_LI (l : List S97) (i : Nat) (h : i < l.length) : l.drop i = rd_T97 l (i : Int) :: l.drop (i + 1) := by
  rw [List.drop_eq_getElem_cons h]
  congr 1
  unfold rd_T97
  rw [Int.toNat_natCast, List.getD_eq_getElem?_getD, List.getElem?_eq_getElem h]
  rfl
theorem drop_LJ (l : List S99) (i : Nat) (h : i < l.length) : l.drop i = rd_T99 l (i : Int) :: l.drop (i + 1) := by
  rw [List.drop_eq_getElem_cons h]
  congr 1
  unfold rd_T99
  rw [Int.toNat_natCast, List.getD_eq_getElem?_getD, List.getElem?_eq_getElem h]
  rfl
def toI (x : S97) : S52 := ⟨x.f0, x.f1, x.f2⟩
def toJ (x : S99) : S61 := ⟨x.f0, x.f1⟩
def toB (b : S43) : S48 := ⟨b.f0, b.f1.map toI, b.f2, b.f3, b.f4.map toJ⟩
def lenB (L : Nat) (b : S43) : Prop := (b.f1.length ≤ L ∧ ∀ x ∈ b.f1, x.f2.length ≤ L) ∧ (b.f4.length ≤ L ∧ ∀ x ∈ b.f4, x.f1.length ≤ L)
def lenF (L : Nat) (l : List S43) : Prop := l.length ≤ L ∧ ∀ b ∈ l, lenB L b
theorem szIntS_ev (l : List Int) (a : Int) (h0 : 0 ≤ a) (h1 : a ≤ 1048576) (hl : l.length ≤ 9223372036854775807) :
    ∃ r, laws_szIntS.f l a = some r ∧ (r < 0 ∨ (0 ≤ r ∧ r ≤ a ∧ l.length ≤ 1048576)) := by
  unfold laws_szIntS.f
  rw [w64 (by omega) (by omega)]
  by_cases h : a - (l.length : Int) < 0
  · rw [if_pos h]
    exact ⟨_, rfl, .inl (by omega)⟩
  · rw [if_neg h]
    exact ⟨_, rfl, .inr ⟨by omega, by omega, by omega⟩⟩
theorem szInst_ev (x : S97) (a : Int) (hx : x.f2.length ≤ 9223372036854775807) (h0 : 0 ≤ a) (h1 : a ≤ 1048576) :
    ∃ r, Ev (fun k : Nat => laws_szInst.f x.f0 x.f1 x.f2 a) r ∧ (r < 0 ∨ (0 ≤ r ∧ r ≤ a ∧ x.f2.length ≤ 1048576)) := by
  obtain ⟨r, e, h⟩ := szIntS_ev x.f2 a h0 h1 hx
  unfold laws_szInst.f
  rw [e, Option.bind_some]
  by_cases hn : r < 0
  · rw [if_pos hn]
    exact ⟨-1, Ev.now _, .inl (by omega)⟩
  · rw [if_neg hn]
    exact ⟨r, Ev.now _, h⟩
theorem szJump_ev (x : S99) (a : Int) (hx : x.f1.length ≤ 9223372036854775807) (h0 : 0 ≤ a) (h1 : a ≤ 1048576) :
    ∃ r, Ev (fun k : Nat => laws_szJump.f x.f0 x.f1 a) r ∧ (r < 0 ∨ (0 ≤ r ∧ r ≤ a ∧ x.f1.length ≤ 1048576)) := by
  obtain ⟨r, e, h⟩ := szIntS_ev x.f1 a h0 h1 hx
  unfold laws_szJump.f
  rw [e, Option.bind_some]
  by_cases hn : r < 0
  · rw [if_pos hn]
    exact ⟨-1, Ev.now _, .inl (by omega)⟩
  · rw [if_neg hn]
    exact ⟨r, Ev.now _, h⟩
theorem szInstS_ev (l : List S97) (a : Int) (hl : l.length ≤ 9223372036854775807) (hx : ∀ x ∈ l, x.f2.length ≤ 9223372036854775807) (h0 : 0 ≤ a) (h1 : a ≤ 1048576) :
    ∃ r, Ev (fun k => laws_szInstS.f k l a) r ∧ (r < 0 ∨ (0 ≤ r ∧ r ≤ a ∧ l.length ≤ 1048576 ∧ ∀ x ∈ l, x.f2.length ≤ 1048576)) := by
  unfold laws_szInstS.f
  rw [w64 (by omega) (by omega)]
  by_cases h : a - (l.length : Int) < 0
  · simp only [if_pos h]
    exact ⟨-1, Ev.now _, .inl (by omega)⟩
  · simp only [if_neg h]
    obtain ⟨r, e, hr⟩ := szLoop rd_T97 laws_szInstS.l0 (fun _ x a => laws_szInst.f x.f0 x.f1 x.f2 a) (fun _ _ _ _ => rfl) drop_LI (fun x => x.f2.length ≤ 9223372036854775807) (fun x => x.f2.length ≤ 1048576) 1048576 szInst_ev l hl hx l.length 0 (a - (l.length : Int)) (by omega) (by omega) (by omega)
    refine ⟨r, e, hr.imp_right fun ⟨r0, r1, rq⟩ => ⟨r0, by omega, by omega, fun x hx => rq x hx⟩⟩
theorem szJumpS_ev (l : List S99) (a : Int) (hl : l.length ≤ 9223372036854775807) (hx : ∀ x ∈ l, x.f1.length ≤ 9223372036854775807) (h0 : 0 ≤ a) (h1 : a ≤ 1048576) :
    ∃ r, Ev (fun k => laws_szJumpS.f k l a) r ∧ (r < 0 ∨ (0 ≤ r ∧ r ≤ a ∧ l.length ≤ 1048576 ∧ ∀ x ∈ l, x.f1.length ≤ 1048576)) := by
  unfold laws_szJumpS.f
  rw [w64 (by omega) (by omega)]
  by_cases h : a - (l.length : Int) < 0
  · simp only [if_pos h]
    exact ⟨-1, Ev.now _, .inl (by omega)⟩
  · simp only [if_neg h]
    obtain ⟨r, e, hr⟩ := szLoop rd_T99 laws_szJumpS.l0 (fun _ x a => laws_szJump.f x.f0 x.f1 a) (fun _ _ _ _ => rfl) drop_LJ (fun x => x.f1.length ≤ 9223372036854775807) (fun x => x.f1.length ≤ 1048576) 1048576 szJump_ev l hl hx l.length 0 (a - (l.length : Int)) (by omega) (by omega) (by omega)
    refine ⟨r, e, hr.imp_right fun ⟨r0, r1, rq⟩ => ⟨r0, by omega, by omega, fun x hx => rq x hx⟩⟩
theorem szBlock_ev (b : S43) (a : Int) (hb : lenB 9223372036854775807 b) (h0 : 0 ≤ a) (h1 : a ≤ 1048576) :
    ∃ r, Ev (fun k => laws_szBlock.f k b.f0 b.f1 b.f2 b.f3 b.f4 a) r ∧ (r < 0 ∨ (0 ≤ r ∧ r ≤ a ∧ lenB 1048576 b)) := by
  obtain ⟨r, ⟨K, hK⟩, hr⟩ := szInstS_ev b.f1 a hb.1.1 hb.1.2 h0 h1
  by_cases hn : r < 0
  · refine ⟨-1, ⟨K, fun k hk => ?_⟩, .inl (by omega)⟩
    have e := hK k hk
    dsimp only at e ⊢
    unfold laws_szBlock.f
    rw [e, Option.bind_some, if_pos hn]
  · obtain ⟨r0, r1, q1, q2⟩ := hr.resolve_left hn
    obtain ⟨t, ⟨K2, hK2⟩, ht⟩ := szJumpS_ev b.f4 r hb.2.1 hb.2.2 r0 (by omega)
    by_cases hm : t < 0
    · refine ⟨-1, ⟨K + K2, fun k hk => ?_⟩, .inl (by omega)⟩
      have e := hK k (by omega)
      have e2 := hK2 k (by omega)
      dsimp only at e e2 ⊢
      unfold laws_szBlock.f
      rw [e, Option.bind_some, if_neg hn, e2, Option.bind_some, if_pos hm]
    · obtain ⟨t0, t1, q3, q4⟩ := ht.resolve_left hm
      refine ⟨t, ⟨K + K2, fun k hk => ?_⟩, .inr ⟨t0, by omega, ⟨q1, q2⟩, q3, q4⟩⟩
      have e := hK k (by omega)
      have e2 := hK2 k (by omega)
      dsimp only at e e2 ⊢
      unfold laws_szBlock.f
      rw [e, Option.bind_some, if_neg hn, e2, Option.bind_some, if_neg hm]
theorem szFunc_ev (p : Int) (l : List S43) (hl : lenF 9223372036854775807 l) : ∃ r, Ev (fun k => laws_szFunc.f k p l 1048576) r ∧ (r < 0 ∨ (0 ≤ r ∧ lenF 1048576 l)) := by
  have h9 : ∃ r, Ev (fun k => laws_szBlockS.f k l 1048576) r ∧ (r < 0 ∨ (0 ≤ r ∧ lenF 1048576 l)) := by
    have hl0 := hl.1
    unfold laws_szBlockS.f
    rw [w64 (by omega) (by omega)]
    by_cases h : 1048576 - (l.length : Int) < 0
    · simp only [if_pos h]
      exact ⟨-1, Ev.now _, .inl (by omega)⟩
    · simp only [if_neg h]
      obtain ⟨r, e, hr⟩ := szLoop rd_T43 laws_szBlockS.l0 (fun k b a => laws_szBlock.f k b.f0 b.f1 b.f2 b.f3 b.f4 a) (fun _ _ _ _ => rfl) drop_LB (lenB 9223372036854775807) (lenB 1048576) 1048576 szBlock_ev l hl0 hl.2 l.length 0 (1048576 - (l.length : Int)) (by omega) (by omega) (by omega)
      refine ⟨r, e, hr.imp_right fun ⟨r0, r1, rq⟩ => ⟨r0, by omega, fun x hx => rq x hx⟩⟩
  obtain ⟨r, ⟨K, hK⟩, hr⟩ := h9
  by_cases hn : r < 0
  · refine ⟨-1, ⟨K, fun k hk => ?_⟩, .inl (by omega)⟩
    have e := hK k hk
    dsimp only at e ⊢
    unfold laws_szFunc.f
    rw [e, Option.bind_some, if_pos hn]
  · refine ⟨r, ⟨K, fun k hk => ?_⟩, hr⟩
    have e := hK k hk
    dsimp only at e ⊢
    unfold laws_szFunc.f
    rw [e, Option.bind_some, if_neg hn]
theorem drop_rd (l : List Int) (i : Nat) (h : i < l.length) : l.drop i = rd l (i : Int) :: l.drop (i + 1) := rd_drop h
theorem toIntS_ev (l : List Int) (hl : l.length ≤ 1048576) : Ev (fun k => laws_toIntS.f k l) l := by
  have := toLoop rd laws_toIntS.l0 (fun _ x => some x) id id (fun _ _ _ _ => rfl) drop_rd l (by omega) (fun x _ => Ev.now _) 0 l.length 0 (by omega)
  unfold laws_toIntS.f
  simp only [if_pos (show 0 ≤ (l.length : Int) by omega), if_pos (show ((l.length : Int)).toNat ≤ 35184372088832 by omega)]
  simpa using this
theorem toInst_ev (x : S97) (hl : x.f2.length ≤ 1048576) : Ev (fun k => laws_toInst.f k x.f0 x.f1 x.f2) (x.f0, x.f1, x.f2) := by
  obtain ⟨K, hK⟩ := toIntS_ev x.f2 hl
  refine ⟨K, fun k hk => ?_⟩
  have e := hK k hk
  dsimp only at e ⊢
  unfold laws_toInst.f
  rw [e]
  rfl
theorem toJump_ev (x : S99) (hl : x.f1.length ≤ 1048576) : Ev (fun k => laws_toJump.f k x.f0 x.f1) (x.f0, x.f1) := by
  obtain ⟨K, hK⟩ := toIntS_ev x.f1 hl
  refine ⟨K, fun k hk => ?_⟩
  have e := hK k hk
  dsimp only at e ⊢
  unfold laws_toJump.f
  rw [e]
  rfl
theorem toInstS_ev (l : List S97) (hl : l.length ≤ 1048576) (hx : ∀ x ∈ l, x.f2.length ≤ 1048576) : Ev (fun k => laws_toInstS.f k l) (l.map toI) := by
  have := toLoop rd_T97 laws_toInstS.l0 (fun k x => laws_toInst.f k x.f0 x.f1 x.f2) (fun t => ⟨t.1, t.2.1, t.2.2⟩) (fun x => (x.f0, x.f1, x.f2)) (fun _ _ _ _ => rfl) drop_LI l (by omega) (fun x h => toInst_ev x (hx x h)) z52 l.length 0 (by omega)
  unfold laws_toInstS.f
  simp only [if_pos (show 0 ≤ (l.length : Int) by omega)]
  refine Ev.congr (fun k => ?_) this
  rw [if_pos (by omega)]
  rfl
theorem toJumpS_ev (l : List S99) (hl : l.length ≤ 1048576) (hx : ∀ x ∈ l, x.f1.length ≤ 1048576) : Ev (fun k => laws_toJumpS.f k l) (l.map toJ) := by
  have := toLoop rd_T99 laws_toJumpS.l0 (fun k x => laws_toJump.f k x.f0 x.f1) (fun t => ⟨t.1, t.2⟩) (fun x => (x.f0, x.f1)) (fun _ _ _ _ => rfl) drop_LJ l (by omega) (fun x h => toJump_ev x (hx x h)) z61 l.length 0 (by omega)
  unfold laws_toJumpS.f
  simp only [if_pos (show 0 ≤ (l.length : Int) by omega)]
  refine Ev.congr (fun k => ?_) this
  rw [if_pos (by omega)]
  rfl
theorem toBlock_ev (b : S43) (hb : lenB 1048576 b) : Ev (fun k => laws_toBlock.f k b.f0 b.f1 b.f2 b.f3 b.f4) (b.f0, b.f1.map toI, b.f2, b.f3, b.f4.map toJ) := by
  obtain ⟨K, hK⟩ := toInstS_ev b.f1 hb.1.1 hb.1.2
  obtain ⟨K2, hK2⟩ := toJumpS_ev b.f4 hb.2.1 hb.2.2
  refine ⟨K + K2, fun k hk => ?_⟩
  have e := hK k (by omega)
  have e2 := hK2 k (by omega)
  dsimp only at e e2 ⊢
  unfold laws_toBlock.f
  rw [e, Option.bind_some, e2]
  rfl
theorem toBlockS_ev (l : List S43) (hl : lenF 1048576 l) : Ev (fun k => laws_toBlockS.f k l) (l.map toB) := by
  have hl0 := hl.1
  have := toLoop rd_T43 laws_toBlockS.l0 (fun k b => laws_toBlock.f k b.f0 b.f1 b.f2 b.f3 b.f4) (fun t => ⟨t.1, t.2.1, t.2.2.1, t.2.2.2.1, t.2.2.2.2⟩) (fun b => (b.f0, b.f1.map toI, b.f2, b.f3, b.f4.map toJ)) (fun _ _ _ _ => rfl) drop_LB l (by omega) (fun x h => toBlock_ev x (hl.2 x h)) z48 l.length 0 (by omega)
  unfold laws_toBlockS.f
  simp only [if_pos (show 0 ≤ (l.length : Int) by omega)]
  refine Ev.congr (fun k => ?_) this
  rw [if_pos (by omega)]
  rfl
theorem toFunc_ev (p : Int) (l : List S43) (hl : lenF 1048576 l) : Ev (fun k => laws_toFunc.f k p l) (p, l.map toB) := by
  obtain ⟨K, hK⟩ := toBlockS_ev l hl
  refine ⟨K, fun k hk => ?_⟩
  have e := hK k hk
  dsimp only at e ⊢
  unfold laws_toFunc.f
  rw [e]
  rfl
theorem eqIntS_ev (l : List Int) (hl : l.length ≤ 1048576) : Ev (fun k => laws_eqIntS.f k l l) true := by
  have := eqLoop rd laws_eqIntS.l0 (fun _ a b => some (decide (a = b))) (fun k x0 x1 x5 => by simp [laws_eqIntS.l0]) drop_rd l (by omega) (fun x _ => by simp; exact Ev.now _) l.length 0 (by omega)
  unfold laws_eqIntS.f
  refine Ev.congr (fun k => ?_) this
  rw [if_pos rfl]
  rfl
theorem eqInst_ev (x : S52) (hl : x.f2.length ≤ 1048576) : Ev (fun k => laws_eqInst.f k x.f0 x.f1 x.f2 x.f0 x.f1 x.f2) true := by
  obtain ⟨K, hK⟩ := eqIntS_ev x.f2 hl
  refine ⟨K, fun k hk => ?_⟩
  have e := hK k hk
  dsimp only at e ⊢
  unfold laws_eqInst.f
  rw [if_pos rfl, if_pos rfl, e]
  rfl
theorem eqJump_ev (x : S61) (hl : x.f1.length ≤ 1048576) : Ev (fun k => laws_eqJump.f k x.f0 x.f1 x.f0 x.f1) true := by
  obtain ⟨K, hK⟩ := eqIntS_ev x.f1 hl
  refine ⟨K, fun k hk => ?_⟩
  have e := hK k hk
  dsimp only at e ⊢
  unfold laws_eqJump.f
  rw [if_pos rfl, e]
  rfl
theorem eqInstS_ev (l : List S52) (hl : l.length ≤ 1048576) (hx : ∀ x ∈ l, x.f2.length ≤ 1048576) : Ev (fun k => laws_eqInstS.f k l l) true := by
  have := eqLoop rd_T52 laws_eqInstS.l0 (fun k x y => laws_eqInst.f k x.f0 x.f1 x.f2 y.f0 y.f1 y.f2) (fun _ _ _ _ => rfl) (fun l i => drop_Ins) l (by omega) (fun x h => eqInst_ev x (hx x h)) l.length 0 (by omega)
  unfold laws_eqInstS.f
  refine Ev.congr (fun k => ?_) this
  rw [if_pos rfl]
  rfl
theorem eqJumpS_ev (l : List S61) (hl : l.length ≤ 1048576) (hx : ∀ x ∈ l, x.f1.length ≤ 1048576) : Ev (fun k => laws_eqJumpS.f k l l) true := by
  have := eqLoop rd_T61 laws_eqJumpS.l0 (fun k x y => laws_eqJump.f k x.f0 x.f1 y.f0 y.f1) (fun _ _ _ _ => rfl) (fun l i => drop_Jmp) l (by omega) (fun x h => eqJump_ev x (hx x h)) l.length 0 (by omega)
  unfold laws_eqJumpS.f
  refine Ev.congr (fun k => ?_) this
  rw [if_pos rfl]
  rfl
theorem eqBlock_ev (b : S43) (hb : lenB 1048576 b) : Ev (fun k => laws_eqBlock.f k (toB b).f0 (toB b).f1 (toB b).f2 (toB b).f3 (toB b).f4 (toB b).f0 (toB b).f1 (toB b).f2 (toB b).f3 (toB b).f4) true := by
  obtain ⟨K, hK⟩ := eqInstS_ev (toB b).f1 (by have := hb.1.1; simpa [toB] using this) (by intro x hx; obtain ⟨y, hy, rfl⟩ := List.mem_map.1 hx; exact hb.1.2 y hy)
  obtain ⟨K2, hK2⟩ := eqJumpS_ev (toB b).f4 (by have := hb.2.1; simpa [toB] using this) (by intro x hx; obtain ⟨y, hy, rfl⟩ := List.mem_map.1 hx; exact hb.2.2 y hy)
  refine ⟨K + K2, fun k hk => ?_⟩
  have e := hK k (by omega)
  have e2 := hK2 k (by omega)
  dsimp only at e e2 ⊢
  unfold laws_eqBlock.f
  rw [if_pos rfl, e, Option.bind_some, if_pos rfl, if_pos rfl, if_pos rfl, e2]
  rfl
theorem eqFunc_ev (p : Int) (l : List S43) (hl : lenF 1048576 l) : Ev (fun k => laws_eqFunc.f k p (l.map toB) p (l.map toB)) true := by
  have hl0 := hl.1
  obtain ⟨K, hK⟩ := eqLoop rd_T48 laws_eqBlockS.l0 (fun k x y => laws_eqBlock.f k x.f0 x.f1 x.f2 x.f3 x.f4 y.f0 y.f1 y.f2 y.f3 y.f4) (fun _ _ _ _ => rfl) (fun l i => drop_Blk) (l.map toB) (by simp; omega) (fun x h => by obtain ⟨y, hy, rfl⟩ := List.mem_map.1 h; exact eqBlock_ev y (hl.2 y hy)) (l.map toB).length 0 (by omega)
  refine ⟨K, fun k hk => ?_⟩
  have e := hK k hk
  dsimp only at e ⊢
  unfold laws_eqFunc.f laws_eqBlockS.f
  have e' : laws_eqBlockS.l0 k (l.map toB) (l.map toB) 0 = some true := e
  rw [if_pos rfl, if_pos rfl, e']
  rfl
end Go.Proofs.YtjpkcbkkjefekaaGreatDoor.V
