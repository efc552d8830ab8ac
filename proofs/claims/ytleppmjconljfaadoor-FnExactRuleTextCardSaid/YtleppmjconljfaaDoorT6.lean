/- The walk of the reference's text of a node's tree; the premises: the tree's nodes stand there, it is as a term's. -/
import Derived.Test.YtleppmjconljfaaDoorTN
import Derived.Test.YtleppmjconljfaaDoorT5
namespace Go.Proofs.YtleppmjconljfaaDoor.T1
open Go.RowKit Go.Proofs.YtleppmjconljfaaDoorW.PrintWords Go.Proofs.YtleppmjconljfaaDoorW.PrintLast Go.Proofs.YtleppmjconljfaaDoorW.PrintMore
open Go.Proofs.YtleppmjconljfaaDoor.Tree Go.Proofs.YtleppmjconljfaaDoor.PA
set_option linter.unusedVariables false
set_option linter.unusedSimpArgs false

/-- A row of whole numbers of one's own: its cells. -/
theorem ints_at {w : World} {B e : Nat} {ok : Nat → Prop} {v : Value} {o : List Int} (h : (Kd.int .i64).R e w B ok v o) (hp : 0 < o.length) :
    ∃ g cap, v = .slice (some ⟨g, 0, none⟩) o.length cap ∧ ∀ j x, o[j]? = some x → w.cell? ⟨g, j, none⟩ = some (.int .i64 x) := by
  obtain ⟨g, cap, rfl, hg1, hg2, _⟩ := Kd.R_form h hp
  refine ⟨g, cap, rfl, fun j x hj => ?_⟩
  obtain ⟨hj1, rfl⟩ := List.getElem?_eq_some_iff.1 hj
  obtain ⟨cs, hc1, hc2, hc3, hc4⟩ := Kd.R_elem h (0 : Int) (j : Int) (by omega) (by omega)
  have hc2' : cs = [.int .i64 (o.getD (j : Int).toNat 0)] := hc2
  subst hc2'
  have := hc3 0 _ rfl
  simpa [show (Kd.int .i64).sz = 1 from rfl, List.getD_eq_getElem?_getD, List.getElem?_eq_getElem hj1] using this
theorem l2Parts_calls (A : Option Addr) (c : Nat) (l : List S50) (w : World) (hr : Kd.C k50 w A l.length l) (hc : l.length ≤ c) (hl : l.length ≤ 1000000) {op n : Int} {kids : List T} (hF : Fit (.mk op n kids)) (pre post : List Nd) (h : nds l = pre ++ flat (.mk op n kids) ++ post)
    (j : Int) (hj : j = ((pre.length + sizes kids : Nat) : Int)) :
    Calls Tryd.prog 42 #[.slice A l.length c, .int .i64 j] w fun e w' => ∃ v : Value, e = .returned v ∧ (Kd.int .i64).R 3 w' w.heap.size (fun _ => True) v (endsOf pre.length kids) ∧ Below w.heap.size w w' := by
  subst hj
  obtain ⟨k, hk⟩ := (l2Parts_ev l hl hF pre post h).rounds
  exact spec_l2Parts.calls k A c l _ _ w hr hc hk

def PartsPost (nk : Nat) (es : List Int) (op : Int) (w : World) (e : Ending) (w1 : World) : Prop :=
  ∃ gb cb, e = .returned (.slice (some ⟨gb, 0, none⟩) nk cb) ∧ (∀ i x, es[i]? = some x → w1.cell? ⟨gb, i, none⟩ = some (.int .i64 x)) ∧ w1.cell? ⟨w.heap.size, 0, none⟩ = some (.int .i64 op) ∧ Below w.heap.size w w1

set_option maxHeartbeats 8000000 in
set_option maxRecDepth 100000 in
theorem l3Text_calls (m : Nat) : ∀ (t : T) (A : Option Addr) (c : Nat) (l : List S50) (pre post : List Nd) (j : Int) (w : World), t.size ≤ m → t.size ≤ 40 → Fit t → nds l = pre ++ flat t ++ post → l.length ≤ 1000 → l.length ≤ c → j = ((pre.length + t.size : Nat) : Int) - 1 → Kd.C k50 w A l.length l →
    Calls Tryd.prog 24 #[.slice A l.length c, .int .i64 j] w (TextPost t w) := by
  induction m with
  | zero =>
    intro t A c l pre post j w h
    have := size_pos t
    omega
  | succ m ih =>
    intro t A c l pre post j w hm h40 hF hfl hl hc hj hR
    have IH := Aside0.mk ih
    clear ih
    have HR := Aside0.mk hR
    have HB := Aside0.mk (Below.refl w.heap.size w)
    clear hR
    have HFt := Aside0.mk hF
    have HFl := Aside0.mk hfl
    cases hF with
    | mk op n kids hok hn hkl hk =>
      rw [T.size] at hj hm h40
      obtain ⟨hrd, hlt⟩ := at_root hfl
      have hj0 : 0 ≤ j := by omega
      have hj1 : j < (l.length : Int) := by omega
      obtain ⟨ad, e, hx0, hx1⟩ := at_T50 HR.out j hj0 hj1
      have hj' : j = ((pre.length + sizes kids : Nat) : Int) := by omega
      rw [show rd_T50 l j = ⟨op, n⟩ by rw [hj']; exact hrd] at hx0 hx1
      simp only at hx0 hx1
      have HJ := Aside0.mk hj'
      have HK := Aside0.mk hk
      clear hj hj' hrd hk hfl
      subst e
      by_cases h1 : op = 1
      · subst h1
        go_enter Tryd.func24, Tryd.ntmps24
        go_wp2_with (first
          | (go_at_call 41; refine (specNum_calls n _ hn).mono ?_; rintro e w1 ⟨rfl, hb⟩; have HB1 := Aside0.mk (below_then (below_alloc HB.out _) (by simp) hb); clear hb))
        go_ret
        exact ⟨by simp [txt], HB1.out⟩
      · have b1 : (op == 1) = false := by simpa using h1
        by_cases h2 : op = 2
        · subst h2
          have hn4 : 0 ≤ n ∧ n < 4 := by simpa [okN] using hok
          go_enter Tryd.func24, Tryd.ntmps24
          go_wp2_with (first
            | ((with_reducible refine gate_dst (N := 24) rfl ?_); refine Kd.R_lit (Kd.int .u8) _ 5 ?hg (N := 24) ?hd (xs := ([97 + n] : List Int)) (inner := [.int .u8 (97 + n)]) (ok := fun _ => True) (okp := fun _ => True) ?hr ?hp (fun _ hk => hk) trivial (Below.refl _ _) (Nat.le_refl _) (by simp) ?_; (case hd => rfl); (case hg => rfl); (case hr => first | (go_simp; done) | (go_simp; rfl)); (case hp => exact (Reps.one (show Kd.M (Kd.int .u8) _ _ _ (97 + n) [.int .u8 (97 + n)] from rfl) (Reps.none _ _))); intro v1 w1 ho1 hb1 hg1 hn1; have hcv := own_string (P := Tryd.prog) Tryd.underlying39 Tryd.underlying5 Tryd.underlying9 (Kd.own_of_R ho1); have HB1 := Aside0.mk (below_then (below_alloc HB.out _) (by simp) hb1); clear ho1 hb1 hg1 hn1))
          go_ret
          exact ⟨by rw [txt, if_neg h1, if_pos rfl, ← strOfNums_byte n hn4]; rfl, HB1.out⟩
        · have b2 : (op == 2) = false := by simpa using h2
          have hkf := HK.out
          have hpos : 0 < (endsOf pre.length kids).length := by
            rw [endsOf_length, hkl]
            unfold arN
            rw [if_neg (by omega)]
            repeat' split
            all_goals omega
          have call : ∀ (i : Nat) (a : T), kids[i]? = some a → ∃ x, (endsOf pre.length kids)[i]? = some x ∧ (txt a).size ≤ 840 ∧ ∀ W, Below w.heap.size w W → Calls Tryd.prog 24 #[.slice (some ad) l.length c, .int .i64 x] W (TextPost a W) := by
            intro i a ha
            obtain ⟨hi1, rfl⟩ := List.getElem?_eq_some_iff.1 ha
            have hmem : kids[i] ∈ kids := List.getElem_mem hi1
            have hs := sizes_mem hmem
            have hz := txt_size _ (hkf _ hmem)
            have hsplit : kids = kids.take i ++ kids[i] :: kids.drop (i + 1) := by
              rw [← List.drop_eq_getElem_cons hi1, List.take_append_drop]
            have hx : (endsOf pre.length kids)[i]? = some ((((pre.length + sizes (kids.take i)) + kids[i].size : Nat) : Int) - 1) := by
              have h5 := congrArg (endsOf pre.length) hsplit
              rw [endsOf_append, endsOf] at h5
              rw [h5, List.getElem?_append_right (by rw [endsOf_length, List.length_take]; omega), endsOf_length, List.length_take, Nat.min_eq_left (by omega), Nat.sub_self]
              rfl
            refine ⟨_, hx, by omega, fun W hW => ?_⟩
            refine IH.out kids[i] (some ad) c l (pre ++ flats (kids.take i)) (flats (kids.drop (i + 1)) ++ [(op, n)] ++ post) _ W (by omega) (by omega) (hkf _ hmem) ?_ hl hc ?_ (Kd.C_below HR.out hW)
            · rw [HFl.out, flat]
              have h6 := congrArg flats hsplit
              rw [flats_append, flats] at h6
              rw [h6]
              simp
            · rw [List.length_append, flats_length]
          clear IH hkf
          have PC : Aside0 (Calls Tryd.prog 42 #[.slice (some ad) l.length c, .int .i64 j] (w.alloc (.cells #[.int .i64 op, .int .i64 n] 50)) (PartsPost kids.length (endsOf pre.length kids) op w)) := by
            refine ⟨(l2Parts_calls (some ad) c l _ (Kd.C_below HR.out (below_alloc HB.out _)) hc (by omega) HFt.out pre post HFl.out j HJ.out).mono ?_⟩
            rintro e w1 ⟨v1, rfl, ho1, hb1⟩
            obtain ⟨gb, cb, rfl, hcells⟩ := ints_at ho1 hpos
            refine ⟨gb, cb, by rw [endsOf_length], hcells, ?_, below_then (below_alloc HB.out _) (by simp) hb1⟩
            exact (hb1.cell (p := ⟨w.heap.size, 0, none⟩) (by simp)).trans (by simp)
          clear hpos
          have cellAt : ∀ (w W : World), Below w.heap.size w W → ∀ p v, w.cell? p = some v → W.cell? p = some v := fun w W hW p v hp => (hW.cell (World.block_lt_of_cell? w p hp)).trans hp
          by_cases h3 : op = 3
          · subst h3
            obtain ⟨a, rfl⟩ : ∃ a, kids = [a] := by
              match kids, hkl with
              | [a], _ => exact ⟨a, rfl⟩
            have PC1 : Aside0 (Calls Tryd.prog 42 #[.slice (some ad) l.length c, .int .i64 j] (w.alloc (.cells #[.int .i64 3, .int .i64 n] 50)) (PartsPost 1 (endsOf pre.length [a]) 3 w)) := PC
            clear PC
            obtain ⟨x0, hx0', hz0, call0⟩ := call 0 a rfl
            have C0 := Aside0.mk call0
            clear call0 call cellAt
            go_enter Tryd.func24, Tryd.ntmps24
            go_wp2_with (first
              | (go_at_call 42; refine PC1.out.mono ?_; rintro e w1 ⟨gb, cb, rfl, hcells, hbx, hb1⟩; have hq0 := hcells 0 x0 hx0'; have HB1 := Aside0.mk hb1; clear hcells hb1)
              | (go_at_call 24; refine (C0.out _ HB1.out).mono ?_; rintro e w2 ⟨rfl, hb⟩; have HB2 := Aside0.mk (below_then HB1.out HB1.out.size hb); clear hb))
            go_ret
            exact ⟨by rw [txt, if_neg h1, if_neg h2]; rfl, HB2.out⟩
          · have b3 : (op == 3) = false := by simpa using h3
            by_cases h11 : op = 11
            · subst h11
              obtain ⟨a, b, d, rfl⟩ : ∃ a b d, kids = [a, b, d] := by
                match kids, hkl with
                | [a, b, d], _ => exact ⟨a, b, d, rfl⟩
              have PC3 : Aside0 (Calls Tryd.prog 42 #[.slice (some ad) l.length c, .int .i64 j] (w.alloc (.cells #[.int .i64 11, .int .i64 n] 50)) (PartsPost 3 (endsOf pre.length [a, b, d]) 11 w)) := PC
              clear PC
              obtain ⟨x0, hx0', hz0, call0⟩ := call 0 a rfl
              obtain ⟨x1, hx1', hz1, call1⟩ := call 1 b rfl
              obtain ⟨x2, hx2', hz2, call2⟩ := call 2 d rfl
              have C0 := Aside0.mk call0
              have C1 := Aside0.mk call1
              have C2 := Aside0.mk call2
              clear call0 call1 call2 call
              have CA := Aside0.mk cellAt
              clear cellAt
              have q1 : (9223372036854775807 < 1 + (txt a).size) = False := eq_false (by omega)
              have q2 : (9223372036854775807 < 1 + (txt a).size + 1) = False := eq_false (by omega)
              have q3 : (9223372036854775807 < 1 + (txt a).size + 1 + (txt b).size) = False := eq_false (by omega)
              have q4 : (9223372036854775807 < 1 + (txt a).size + 1 + (txt b).size + 1) = False := eq_false (by omega)
              have q5 : (9223372036854775807 < 1 + (txt a).size + 1 + (txt b).size + 1 + (txt d).size) = False := eq_false (by omega)
              have q6 : (9223372036854775807 < 1 + (txt a).size + 1 + (txt b).size + 1 + (txt d).size + 1) = False := eq_false (by omega)
              go_enter Tryd.func24, Tryd.ntmps24
              go_wp2_with (first
                | (go_at_call 42; refine PC3.out.mono ?_; rintro e w1 ⟨gb, cb, rfl, hcells, hbx, hb1⟩; have r0 := hcells 0 x0 hx0'; have r1 := hcells 1 x1 hx1'; have r2 := hcells 2 x2 hx2'; have HB1 := Aside0.mk hb1; clear hcells hb1))
              go_region_held3 (fun w' => w'.cell? ⟨gb, 0, none⟩ = some (.int .i64 x0) ∧ w'.cell? ⟨gb, 1, none⟩ = some (.int .i64 x1) ∧ w'.cell? ⟨gb, 2, none⟩ = some (.int .i64 x2)) (go_keep)
                (first
                  | (go_at_call 24; (with_reducible refine (C0.out _ (below_drew HB1.out)).mono ?_); rintro e w2 ⟨rfl, hb⟩; have HB2 := Aside0.mk (below_then (below_drew HB1.out) HB1.out.size hb); have s0 := CA.out _ w2 hb _ _ r0; have s1 := CA.out _ w2 hb _ _ r1; have s2 := CA.out _ w2 hb _ _ r2; clear hb)
                  | (go_at_call 24; (with_reducible refine (C1.out _ HB2.out).mono ?_); rintro e w3 ⟨rfl, hb⟩; have HB3 := Aside0.mk (below_then HB2.out HB2.out.size hb); have t0 := CA.out _ w3 hb _ _ s0; have t1 := CA.out _ w3 hb _ _ s1; have t2 := CA.out _ w3 hb _ _ s2; clear hb)
                  | (go_at_call 24; (with_reducible refine (C2.out _ HB3.out).mono ?_); rintro e w4 ⟨rfl, hb⟩; have HB4 := Aside0.mk (below_then HB3.out HB3.out.size hb); have u0 := CA.out _ w4 hb _ _ t0; have u1 := CA.out _ w4 hb _ _ t1; have u2 := CA.out _ w4 hb _ _ t2; clear hb))
              go_wp2
              go_ret
              exact ⟨by rw [txt, if_neg h1, if_neg h2]; rfl, HB4.out⟩
            · have b11 : (op == 11) = false := by simpa using h11
              obtain ⟨a, b, rfl⟩ : ∃ a b, kids = [a, b] := by
                have hl2 : kids.length = 2 := by rw [hkl]; unfold arN; simp [h1, h2, h3, h11]
                match kids, hl2 with
                | [a, b], _ => exact ⟨a, b, rfl⟩
              have PC2 : Aside0 (Calls Tryd.prog 42 #[.slice (some ad) l.length c, .int .i64 j] (w.alloc (.cells #[.int .i64 op, .int .i64 n] 50)) (PartsPost 2 (endsOf pre.length [a, b]) op w)) := PC
              clear PC
              obtain ⟨x0, hx0', hz0, call0⟩ := call 0 a rfl
              obtain ⟨x1, hx1', hz1, call1⟩ := call 1 b rfl
              have C0 := Aside0.mk call0
              have C1 := Aside0.mk call1
              clear call0 call1 call
              have CA := Aside0.mk cellAt
              clear cellAt
              have hs2 := signTxt_size op
              have q1 : (9223372036854775807 < 1 + (txt a).size) = False := eq_false (by omega)
              have q2 : (9223372036854775807 < 1 + (txt a).size + (signTxt op).size) = False := eq_false (by omega)
              have q3 : (9223372036854775807 < 1 + (txt a).size + (signTxt op).size + (txt b).size) = False := eq_false (by omega)
              have q4 : (9223372036854775807 < 1 + (txt a).size + (signTxt op).size + (txt b).size + 1) = False := eq_false (by omega)
              go_enter Tryd.func24, Tryd.ntmps24
              go_wp2_with (first
                | (go_at_call 42; refine PC2.out.mono ?_; rintro e w1 ⟨gb, cb, rfl, hcells, hbx, hb1⟩; have r0 := hcells 0 x0 hx0'; have r1 := hcells 1 x1 hx1'; have HB1 := Aside0.mk hb1; clear hcells hb1))
              go_region_held3 (fun w' => w'.cell? ⟨gb, 0, none⟩ = some (.int .i64 x0) ∧ w'.cell? ⟨gb, 1, none⟩ = some (.int .i64 x1) ∧ w'.cell? ⟨w.heap.size, 0, none⟩ = some (.int .i64 op)) (go_keep)
                (first
                  | (go_at_call 24; (with_reducible refine (C0.out _ (below_drew HB1.out)).mono ?_); rintro e w2 ⟨rfl, hb⟩; have HB2 := Aside0.mk (below_then (below_drew HB1.out) HB1.out.size hb); have s0 := CA.out _ w2 hb _ _ r0; have s1 := CA.out _ w2 hb _ _ r1; have s2 := CA.out _ w2 hb _ _ hbx; clear hb)
                  | (go_at_call 43; refine (specSign_calls op _).mono ?_; rintro e w3 ⟨rfl, ⟨nq, rfl⟩⟩; have HB3 := Aside0.mk (pw_below_drewN HB2.out nq); have t0 := CA.out _ (w2.drewN nq) (pw_below_drewN (Below.refl _ _) nq) _ _ s0; have t1 := CA.out _ (w2.drewN nq) (pw_below_drewN (Below.refl _ _) nq) _ _ s1; have t2 := CA.out _ (w2.drewN nq) (pw_below_drewN (Below.refl _ _) nq) _ _ s2)
                  | (go_at_call 24; (with_reducible refine (C1.out _ HB3.out).mono ?_); rintro e w4 ⟨rfl, hb⟩; have HB4 := Aside0.mk (below_then HB3.out HB3.out.size hb); have u0 := CA.out _ w4 hb _ _ t0; have u1 := CA.out _ w4 hb _ _ t1; have u2 := CA.out _ w4 hb _ _ t2; clear hb))
              go_wp2
              go_ret
              exact ⟨by rw [txt, if_neg h1, if_neg h2]; rfl, HB4.out⟩
end Go.Proofs.YtleppmjconljfaaDoor.T1
