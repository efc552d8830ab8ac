/- The walk of a tree's text; the premises: the tree lies there and is as a term's, the table reads as laid. -/
import Derived.Test.YtleppmjconljfaaDoorT4
namespace Go.Proofs.YtleppmjconljfaaDoor.T1
open Go.RowKit Go.Proofs.YtleppmjconljfaaDoorW.PrintWords Go.Proofs.YtleppmjconljfaaDoorW.PrintLast Go.Proofs.YtleppmjconljfaaDoorW.PrintMore
open Go.Proofs.YtleppmjconljfaaDoor.Tree Go.Proofs.YtleppmjconljfaaDoor.PA
set_option linter.unusedVariables false
set_option linter.unusedSimpArgs false

theorem sign_f (op : Int) : impl_sign.f op = some (signTxt op) := by
  unfold impl_sign.f signTxt
  repeat' split
  all_goals rfl
theorem sign_calls (op : Int) (w : World) : Calls Tryd.prog 46 #[.int .i64 op] w fun e w' => e = .returned (.string (signTxt op)) ∧ Drawn0 w w' :=
  impl_sign.calls op _ w (sign_f op)

/-- What is read of a tree at a later world. -/
theorem tree_open {w : World} {g : Nat} {ok : Nat → Prop} {op n : Int} {kids : List T} (h : Lies 84 53 w 0 ok g (.mk op n kids)) :
    ∃ A c, w.cell? ⟨g, 0, none⟩ = some (.int .i64 op) ∧ w.cell? ⟨g, 1, none⟩ = some (.int .i64 n) ∧ w.cell? ⟨g, 2, none⟩ = some (.slice A kids.length c) ∧ kids.length ≤ c ∧
      ∀ j t, kids[j]? = some t → ∃ ad g' ok', A = some ad ∧ w.cell? (ad.add j) = some (ptr g') ∧ Lies 84 53 w 0 ok' g' t := by
  obtain ⟨A, c, hg, hc, hC⟩ := h.read
  refine ⟨A, c, (blk_cell hg 0).trans rfl, (blk_cell hg 1).trans rfl, (blk_cell hg 2).trans rfl, hc, fun j t hj => ?_⟩
  obtain ⟨hj1, rfl⟩ := List.getElem?_eq_some_iff.1 hj
  obtain ⟨ad, cs, e, hl, hK, hcells⟩ := Kd.C_get hC kids[j] (j : Int) (by omega) (by omega)
  obtain ⟨g', ok', rfl, hL⟩ := hK
  refine ⟨ad, g', ok', e, ?_, ?_⟩
  · have := hcells 0 _ rfl
    simpa [show (kT 84 53).sz = 1 from rfl] using this
  · simpa [List.getD_eq_getElem?_getD, List.getElem?_eq_getElem hj1] using hL

theorem strOfNums_byte (n : Int) (h : 0 ≤ n ∧ n < 4) : strOfNums [97 + n] = bs [UInt8.ofNat (97 + n.toNat)] := by
  obtain ⟨k, rfl⟩ := Int.eq_ofNat_of_zero_le h.1
  have hk : k < 4 := by omega
  match k, hk with
  | 0, _ => rfl
  | 1, _ => rfl
  | 2, _ => rfl
  | 3, _ => rfl

theorem add_off (a : Addr) (j : Nat) (h : 0 < j) : a.add j = ⟨a.block, a.off + j, none⟩ := by
  unfold Addr.add
  rw [if_neg (by omega)]

def TextPost (t : T) (w : World) (e : Ending) (w' : World) : Prop := e = .returned (.string (txt t)) ∧ Below w.heap.size w w'

set_option maxHeartbeats 8000000 in
set_option maxRecDepth 100000 in
theorem text_calls (m : Nat) : ∀ (t : T) (g : Nat) (ok : Nat → Prop) (w : World), t.size ≤ m → t.size ≤ 40 → Fit t → Tab w → Lies 84 53 w 0 ok g t →
    Calls Tryd.prog 27 #[ptr g] w (TextPost t w) := by
  induction m with
  | zero =>
    intro t g ok w h
    cases t
    rw [T.size] at h
    omega
  | succ m ih =>
    intro t g ok w hm h40 hF hT hL
    have IH := Aside0.mk ih
    clear ih
    have HT := Aside0.mk hT
    have HB := Aside0.mk (Below.refl w.heap.size w)
    clear hT
    cases hF with
    | mk op n kids hok hn hl hk =>
      obtain ⟨A, c, hx0, hx1, hx2, hcap, hkids⟩ := tree_open hL
      have HK := Aside0.mk hkids
      have HF := Aside0.mk hk
      clear hkids hk hL
      by_cases h1 : op = 1
      · subst h1
        go_enter Tryd.func27, Tryd.ntmps27
        go_wp2_with (first
          | (go_at_call 45; refine (numText_calls n _ HT.out hn).mono ?_; rintro e w1 ⟨rfl, hb⟩; have HB1 := Aside0.mk hb; clear hb))
        go_ret
        exact ⟨by simp [txt], HB1.out⟩
      · have b1 : (op == 1) = false := by simpa using h1
        by_cases h2 : op = 2
        · subst h2
          have hn4 : 0 ≤ n ∧ n < 4 := by simpa [okN] using hok
          go_enter Tryd.func27, Tryd.ntmps27
          go_wp2_with (first
            | ((with_reducible refine gate_dst (N := 22) rfl ?_); (refine Kd.R_lit (Kd.int .u8) (w0 := w) _ 5 ?hg (N := 22) ?hd (xs := ([97 + n] : List Int)) (inner := [.int .u8 (97 + n)]) (ok := fun _ => True) (okp := fun _ => True) ?hr ?hp (fun _ hk => hk) trivial (Below.refl _ _) (Nat.le_refl _) (by simp) ?_; (case hd => rfl); (case hg => rfl); (case hr => first | (go_simp; done) | (go_simp; rfl)); (case hp => exact (Reps.one (show Kd.M (Kd.int .u8) _ _ _ (97 + n) [.int .u8 (97 + n)] from rfl) (Reps.none _ _))); intro v1 w1 ho1 hb1 hg1 hn1; have hcv := own_string (P := Tryd.prog) Tryd.underlying39 Tryd.underlying5 Tryd.underlying9 (Kd.own_of_R ho1); have HB1 := Aside0.mk hb1; clear ho1 hb1 hg1 hn1)))
          go_ret
          exact ⟨by rw [txt, if_neg h1, if_pos rfl, ← strOfNums_byte n hn4]; rfl, HB1.out⟩
        · have b2 : (op == 2) = false := by simpa using h2
          have call : ∀ (j : Nat) (a : T), kids[j]? = some a → ∃ ad g0, A = some ad ∧ w.cell? (ad.add j) = some (ptr g0) ∧ (txt a).size ≤ 840 ∧ ∀ W, Below w.heap.size w W → Calls Tryd.prog 27 #[ptr g0] W (TextPost a W) := by
            intro j a ha
            obtain ⟨ad, g0, ok0, e, hc, hL⟩ := HK.out j a ha
            have hmem : a ∈ kids := List.mem_of_getElem? ha
            have hs := sizes_mem hmem
            rw [T.size] at hm h40
            have hz := txt_size a (HF.out a hmem)
            exact ⟨ad, g0, e, hc, by omega, fun W hW => IH.out a g0 ok0 W (by omega) (by omega) (HF.out a hmem) (HT.out.on hW) (hL.under hW)⟩
          clear HK HF IH
          by_cases h3 : op = 3
          · subst h3
            obtain ⟨a, rfl⟩ : ∃ a, kids = [a] := by
              match kids, hl with
              | [a], _ => exact ⟨a, rfl⟩
            obtain ⟨ad, g0, rfl, hc0, hz0, call0⟩ := call 0 a rfl
            have C0 := Aside0.mk call0
            clear call0 call
            have hc0' : w.cell? ad = some (ptr g0) := by simpa [Addr.add] using hc0
            go_enter Tryd.func27, Tryd.ntmps27
            go_wp2_with (first
              | (go_at_call 27; refine (C0.out _ (Below.refl _ _)).mono ?_; rintro e w1 ⟨rfl, hb⟩; have HB1 := Aside0.mk hb; clear hb))
            go_ret
            exact ⟨by simp [txt, txts, joinTxt], HB1.out⟩
          · have b3 : (op == 3) = false := by simpa using h3
            have cellAt : ∀ W, Below w.heap.size w W → ∀ p v, w.cell? p = some v → W.cell? p = some v := fun W hW p v hp => (hW.cell (World.block_lt_of_cell? w p hp)).trans hp
            by_cases h11 : op = 11
            · subst h11
              obtain ⟨a, b, d, rfl⟩ : ∃ a b d, kids = [a, b, d] := by
                match kids, hl with
                | [a, b, d], _ => exact ⟨a, b, d, rfl⟩
              obtain ⟨ad, g0, rfl, hc0, hz0, call0⟩ := call 0 a rfl
              obtain ⟨_, g1, e1, hc1, hz1, call1⟩ := call 1 b rfl
              obtain ⟨_, g2, e2, hc2, hz2, call2⟩ := call 2 d rfl
              injection e1 with e1; subst e1
              injection e2 with e2; subst e2
              have C0 := Aside0.mk call0
              have C1 := Aside0.mk call1
              have C2 := Aside0.mk call2
              clear call0 call1 call2 call
              have hc0' : w.cell? ad = some (ptr g0) := by simpa [Addr.add] using hc0
              clear hc0
              rw [add_off ad 1 (by omega)] at hc1
              rw [add_off ad 2 (by omega)] at hc2
              have HS : Aside0 (∀ W, Below w.heap.size w W → W.cell? ⟨g, 2, none⟩ = some (.slice (some ad) 3 c) ∧ W.cell? ad = some (ptr g0) ∧ W.cell? ⟨ad.block, ad.off + 1, none⟩ = some (ptr g1) ∧ W.cell? ⟨ad.block, ad.off + 2, none⟩ = some (ptr g2)) :=
                ⟨fun W hW => ⟨cellAt W hW _ _ hx2, cellAt W hW _ _ hc0', cellAt W hW _ _ hc1, cellAt W hW _ _ hc2⟩⟩
              have hx2' : w.cell? ⟨g, 2, none⟩ = some (.slice (some ad) 3 c) := hx2
              clear cellAt hx2
              have q1 : (9223372036854775807 < 1 + (txt a).size) = False := eq_false (by omega)
              have q2 : (9223372036854775807 < 1 + (txt a).size + 1) = False := eq_false (by omega)
              have q3 : (9223372036854775807 < 1 + (txt a).size + 1 + (txt b).size) = False := eq_false (by omega)
              have q4 : (9223372036854775807 < 1 + (txt a).size + 1 + (txt b).size + 1) = False := eq_false (by omega)
              have q5 : (9223372036854775807 < 1 + (txt a).size + 1 + (txt b).size + 1 + (txt d).size) = False := eq_false (by omega)
              have q6 : (9223372036854775807 < 1 + (txt a).size + 1 + (txt b).size + 1 + (txt d).size + 1) = False := eq_false (by omega)
              go_enter Tryd.func27, Tryd.ntmps27
              go_wp2
              go_region_held3 (fun w' => w'.cell? ⟨g, 2, none⟩ = some (.slice (some ad) 3 c) ∧ w'.cell? ad = some (ptr g0) ∧ w'.cell? ⟨ad.block, ad.off + 1, none⟩ = some (ptr g1) ∧ w'.cell? ⟨ad.block, ad.off + 2, none⟩ = some (ptr g2)) (go_keep)
                (first
                  | (go_at_call 27; (with_reducible refine (C0.out _ (below_drew HB.out)).mono ?_); rintro e w1 ⟨rfl, hb⟩; have HB1 := Aside0.mk (below_then (below_drew HB.out) (Nat.le_refl _) hb); obtain ⟨s1, s2, s3, s4⟩ := HS.out _ HB1.out; clear hb)
                  | (go_at_call 27; (with_reducible refine (C1.out _ HB1.out).mono ?_); rintro e w2 ⟨rfl, hb⟩; have HB2 := Aside0.mk (below_then HB1.out HB1.out.size hb); obtain ⟨s1, s2, s3, s4⟩ := HS.out _ HB2.out; clear hb)
                  | (go_at_call 27; (with_reducible refine (C2.out _ HB2.out).mono ?_); rintro e w3 ⟨rfl, hb⟩; have HB3 := Aside0.mk (below_then HB2.out HB2.out.size hb); obtain ⟨s1, s2, s3, s4⟩ := HS.out _ HB3.out; clear hb))
              go_wp2
              go_ret
              exact ⟨by rw [txt, if_neg h1, if_neg h2]; rfl, HB3.out⟩
            · have b11 : (op == 11) = false := by simpa using h11
              obtain ⟨a, b, rfl⟩ : ∃ a b, kids = [a, b] := by
                have hl2 : kids.length = 2 := by rw [hl]; unfold arN; simp [h1, h2, h3, h11]
                match kids, hl2 with
                | [a, b], _ => exact ⟨a, b, rfl⟩
              obtain ⟨ad, g0, rfl, hc0, hz0, call0⟩ := call 0 a rfl
              obtain ⟨_, g1, e1, hc1, hz1, call1⟩ := call 1 b rfl
              injection e1 with e1; subst e1
              have C0 := Aside0.mk call0
              have C1 := Aside0.mk call1
              clear call0 call1 call
              have hc0' : w.cell? ad = some (ptr g0) := by simpa [Addr.add] using hc0
              clear hc0
              rw [add_off ad 1 (by omega)] at hc1
              have HS : Aside0 (∀ W, Below w.heap.size w W → W.cell? ⟨g, 2, none⟩ = some (.slice (some ad) 2 c) ∧ W.cell? ad = some (ptr g0) ∧ W.cell? ⟨ad.block, ad.off + 1, none⟩ = some (ptr g1) ∧ W.cell? ⟨g, 0, none⟩ = some (.int .i64 op)) :=
                ⟨fun W hW => ⟨cellAt W hW _ _ hx2, cellAt W hW _ _ hc0', cellAt W hW _ _ hc1, cellAt W hW _ _ hx0⟩⟩
              have hx2' : w.cell? ⟨g, 2, none⟩ = some (.slice (some ad) 2 c) := hx2
              clear cellAt hx2
              have hs2 := signTxt_size op
              have q1 : (9223372036854775807 < 1 + (txt a).size) = False := eq_false (by omega)
              have q2 : (9223372036854775807 < 1 + (txt a).size + (signTxt op).size) = False := eq_false (by omega)
              have q3 : (9223372036854775807 < 1 + (txt a).size + (signTxt op).size + (txt b).size) = False := eq_false (by omega)
              have q4 : (9223372036854775807 < 1 + (txt a).size + (signTxt op).size + (txt b).size + 1) = False := eq_false (by omega)
              go_enter Tryd.func27, Tryd.ntmps27
              go_wp2
              go_region_held3 (fun w' => w'.cell? ⟨g, 2, none⟩ = some (.slice (some ad) 2 c) ∧ w'.cell? ad = some (ptr g0) ∧ w'.cell? ⟨ad.block, ad.off + 1, none⟩ = some (ptr g1) ∧ w'.cell? ⟨g, 0, none⟩ = some (.int .i64 op)) (go_keep)
                (first
                  | (go_at_call 27; (with_reducible refine (C0.out _ (below_drew HB.out)).mono ?_); rintro e w1 ⟨rfl, hb⟩; have HB1 := Aside0.mk (below_then (below_drew HB.out) (Nat.le_refl _) hb); obtain ⟨s1, s2, s3, s4⟩ := HS.out _ HB1.out; clear hb)
                  | (go_at_call 46; refine (sign_calls op _).mono ?_; rintro e w2 ⟨rfl, ⟨nq, rfl⟩⟩; have HB2 := Aside0.mk (pw_below_drewN HB1.out nq); obtain ⟨s1, s2, s3, s4⟩ := HS.out _ HB2.out)
                  | (go_at_call 27; (with_reducible refine (C1.out _ HB2.out).mono ?_); rintro e w3 ⟨rfl, hb⟩; have HB3 := Aside0.mk (below_then HB2.out HB2.out.size hb); obtain ⟨s1, s2, s3, s4⟩ := HS.out _ HB3.out; clear hb))
              go_wp2
              go_ret
              exact ⟨by rw [txt, if_neg h1, if_neg h2]; rfl, HB3.out⟩
end Go.Proofs.YtleppmjconljfaaDoor.T1
