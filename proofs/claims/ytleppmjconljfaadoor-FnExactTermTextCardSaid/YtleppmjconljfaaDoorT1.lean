/- The first walks over trees; conditions as stated. -/
import Derived.Test.YtleppmjconljfaaDoorTree
import Derived.Test.YtleppmjconljfaaDoorPAx4
import Derived.WalkSpells
namespace Go.Proofs.YtleppmjconljfaaDoor.T1
open Go.RowKit Go.Proofs.YtleppmjconljfaaDoorW.PrintWords Go.Proofs.YtleppmjconljfaaDoorW.PrintLast Go.Proofs.YtleppmjconljfaaDoorW.PrintMore
open Go.Proofs.YtleppmjconljfaaDoor.Tree
set_option linter.unusedVariables false
set_option linter.unusedSimpArgs false

theorem info53 : (Tryd.prog.info? 53).map (fun i => (i.zero, i.size, i.bytes)) = some (some (.pointer none), 1, 8) := by kernel_rfl

abbrev kt : Kd T := kT 84 53

theorem below_of_none {w w1 : World} (h : w.grownBy w1 none) : Below w.heap.size w w1 := ⟨h.os, h.tape, h.output, h.size, fun i hi => h.block i hi (by simp)⟩
theorem reads_imp {α : Type} {R R' : α → List Value → Prop} {size : Nat} {w w1 : World} {A : Option Addr} {n : Nat} {ps : List α} (h : ReadsRow R size w A n ps) (hb : Below w.heap.size w w1) (hR : ∀ p c, R p c → R' p c) : ReadsRow R' size w1 A n ps := h.imp_ hb hR

/-- The world behind some draws under a new name, with what is known of it. -/
theorem gen_draw {P : Program} {c : Code} {Q : Exit → Act → World → Prop} {a : Act} {w0 : World} {q : Nat} (Φ : World → Prop) (h0 : ∀ q, Φ (w0.drewN q)) (h : ∀ W, Φ W → c.wp P Q a W) : c.wp P Q a (w0.drewN q) := h _ (h0 q)

/-- 'xs[j:]', elements of one cell: the address behind a name. -/
theorem cut_drop {P : Program} (t e : TypeId) {i : TypeInfo} (ht : P.underlying t = some (.slice e)) (hi : P.info? e = some i) (hsz : i.size = 1) (A : Option Addr) (n c m : Nat) (j : Int) (hj : j = m) (hm : m ≤ n) (hc : n ≤ c) :
    ∃ A' : Option Addr, (∀ W : World, (Instr.slice t (.slice A n c) (some (.int .i64 j)) none none).run P W = .ok (.slice A' (n - m) (c - m)) W) ∧
      ∀ {α : Type} {R : α → List Value → Prop} (w : World) (xs : List α), ReadsRow R 1 w A n xs → ReadsRow R 1 w A' (n - m) (xs.drop m) := by
  subst hj
  refine ⟨if c = m then A else A.map (·.add m), fun W => ?_, fun w xs h => ?_⟩
  · have h2 := cut_from (P := P) t e .i64 ht hi 1 hsz A n c (m : Int) (Int.natCast_nonneg _) (by omega) W
    simpa using h2
  · refine ⟨by rw [List.length_drop, h.1], by have := h.2.1; omega, fun hp => ?_⟩
    obtain ⟨ad, rfl, hcell⟩ := h.2.2 (by omega)
    rw [if_neg (by omega)]
    refine ⟨ad.add m, rfl, fun j p hj => ?_⟩
    rw [List.getElem?_drop] at hj
    obtain ⟨cs, h1, h2, h3⟩ := hcell (m + j) p hj
    refine ⟨cs, h1, h2, fun i u hu => ?_⟩
    have ha : (ad.add m).add (j * 1 + i) = ad.add ((m + j) * 1 + i) := by
      unfold Addr.add
      by_cases h1 : m = 0 <;> by_cases h2 : j * 1 + i = 0 <;> simp [h1, h2] <;> first | done | (split <;> simp <;> omega) | omega
    rw [ha]
    exact h3 i u hu

/-- 'xs[:j]'. -/
theorem cut_take {P : Program} (t e : TypeId) {i : TypeInfo} (ht : P.underlying t = some (.slice e)) (hi : P.info? e = some i) (A : Option Addr) (n c m : Nat) (j : Int) (hj : j = m) (hm : m ≤ n) (hc : n ≤ c) :
    ∀ W : World, (Instr.slice t (.slice A n c) none (some (.int .i64 j)) none).run P W = .ok (.slice A m c) W := by
  subst hj
  intro W
  have := cut_to (P := P) t e .i64 ht hi A n c (m : Int) (Int.natCast_nonneg _) (by omega) hc W
  simpa using this

set_option maxHeartbeats 1000000 in
set_option maxRecDepth 100000 in
theorem clone_calls (A : Option Addr) (n c : Nat) (ts : List T) (B : Nat) (okp : Nat → Prop) (w W0 : World) (h0 : Below W0.heap.size W0 w) (hr0 : ReadsRow (kt.M W0 B okp) 1 W0 A n ts) (hc : n ≤ c) (hB : B ≤ w.heap.size) (hl : n ≤ 1000) :
    Calls Tryd.prog 69 #[.slice A n c] w fun e w' => ∃ v : Value, e = .returned v ∧ kt.R 53 w' B (fun k => okp k ∨ w.heap.size ≤ k) v ts ∧ (∀ k, v.ownBlock = some k → w.heap.size ≤ k) ∧ Below w.heap.size w w' := by
  obtain rfl := hr0.1
  have HR := Aside0.mk (reads_imp hr0 h0 (fun _ _ h => Kd.M_below h h0))
  clear hr0 h0
  have HB := Aside0.mk (Below.refl w.heap.size w)
  have hs := fun (W : World) (A : Option Addr) (n : Nat) => Lib.run_eql_slice_nil (P := Tryd.prog) W 81 53 A n c 0 0 Tryd.underlying81
  rcases A with _ | ad
  · obtain rfl : ts = [] := by
      rcases Nat.eq_zero_or_pos ts.length with h | h
      · exact List.eq_nil_of_length_eq_zero h
      · obtain ⟨_, h2, _⟩ := HR.out.2.2 h
        cases h2
    go_enter Tryd.func69, Tryd.ntmps69
    go_wp2
    go_ret
    exact ⟨_, rfl, Kd.R_nil _ _ _ _ _, by simp [Value.ownBlock], HB.out⟩
  · go_enter Tryd.func69, Tryd.ntmps69
    go_wp2_with (first
      | ((with_reducible refine gate_dst (N := 5) rfl ?_); refine Kd.R_lit kt B 53 ?hg (N := 5) ?hd (xs := ([] : List T)) (inner := []) (ok := fun k => okp k ∨ w.heap.size ≤ k) (okp := fun _ => False) ?hr (Reps.none _ _) (fun _ hk => hk.elim) (.inr (Nat.le_refl _)) (Below.refl _ _) hB (by simp) ?_; (case hd => rfl); (case hg => rfl); (case hr => first | (go_simp; done) | (go_simp; rfl)); intro v5 w5 ho5 hb5 hg5 hn5)
      | ((with_reducible refine gate_builtin (b := .append) (xs := #[.tmp 5, .tmp 6]) rfl ?_); at_builtin; (refine Kd.R_append_rows kt (Rr := kt.M w5 B (fun k => okp k ∧ k < w.heap.size)) (w0 := w) B rfl (.tmp 5) (.tmp 6) 81 53 (.pointer none) 8 rfl Tryd.underlying81 info53 rfl (by decide) (by omega) v5 [] ts _ _ _ (fun k => okp k ∨ w.heap.size ≤ k) (fun k => okp k ∧ k < w.heap.size) rfl rfl ?aO ?aR (fun _ _ h => h) ?aP ?aF ?aB ?aS ?aL ?_; (case aO => exact ho5); (case aR => exact reads_imp HR.out (below_of_none hg5) (fun x cs h => Kd.M_grown (kt.M_mono (fun k hk => ⟨hk.1, hk.2.2.1⟩) (kt.M_bound h)) hg5 (by simp))); (case aP => exact fun k hk => ⟨.inl hk.1, fun he => by obtain ⟨b, hb, hle⟩ := hn5; rw [hb] at he; injection he with he; omega⟩); (case aF => exact fun k hk => .inr (Nat.le_trans hg5.size hk)); (case aB => exact hb5); (case aS => exact Nat.le_trans hB hg5.size); (case aL => simp only [List.length_nil]; omega)); intro v6 w6 ho6 hb6 hg6 hat6))
    go_ret
    refine ⟨v6, rfl, ho6, ?_, ?_⟩
    · intro k hk
      rcases hat6 with h | ⟨b, h, hle⟩
      · obtain ⟨b, hb, hle⟩ := hn5
        rw [h, hb] at hk
        injection hk with hk
        omega
      · rw [h] at hk
        injection hk with hk
        have := hg5.size
        omega
    · refine (below_of_none hg5).grown hg6 hg5.size (fun k hk => ?_)
      obtain ⟨b, hb, hle⟩ := hn5
      rw [hb] at hk
      injection hk with hk
      omega
end Go.Proofs.YtleppmjconljfaaDoor.T1
