/- A part of the session's texts, laid small by the session's shrink.py. -/
import Derived.Test.YtjpkcbkkjefekaaGreatDoorF3
import Derived.Test.YtjpkcbkkjefekaaGreatDoorVG
import Derived.Test.YtjpkcbkkjefekaaGreatDoorPAx8
namespace Go.Proofs.YtjpkcbkkjefekaaGreatDoor.V
open Go.RowKit Go.Proofs.YtjpkcbkkjefekaaGreatDoorW.PrintWords Go.Proofs.YtjpkcbkkjefekaaGreatDoorW.PrintLast Go.Proofs.YtjpkcbkkjefekaaGreatDoorW.PrintMore
open Go.Proofs.YtjpkcbkkjefekaaGreatDoor.PA
set_option linter.unusedVariables false
set_option linter.unusedSimpArgs false
def NumsOK (l : List S48) : Prop := ∀ b ∈ l, ∀ x ∈ b.f1, -9223372036854775808 ≤ x.f1 ∧ x.f1 ≤ 9223372036854775807
theorem arI_op {op : Int} (h : 0 ≤ arI op) : ∃ k : Nat, op = (k : Int) + 1 ∧ k < 13 := by
  unfold arI at h
  have : 1 ≤ op ∧ op ≤ 13 := by
    split at h
    · omega
    · split at h
      · omega
      · split at h
        · omega
        · split at h
          · omega
          · split at h
            · omega
            · split at h <;> omega
  exact ⟨(op - 1).toNat, by omega, by omega⟩
theorem arI_le (op : Int) : arI op ≤ 3 := by
  unfold arI
  split <;> (try split) <;> (try split) <;> (try split) <;> (try split) <;> (try split) <;> omega
theorem vals_small {tot : Int} (ht : tot ≤ 80) {l : List Int} (h : valsOK tot l = true) : smallI l := by
  intro n hn
  rw [valsOK_all] at h
  have := inB_is.1 (List.all_eq_true.1 h n hn)
  omega
theorem good_fine {p : Int} {l : List S48} (h : goodF p l = true) (hn : NumsOK l) : (0 ≤ p ∧ p < 100) ∧ l.length ≤ 8 ∧ ∀ b ∈ l, FineB b := by
  unfold goodF at h
  simp only [Bool.and_eq_true, decide_eq_true_eq] at h
  obtain ⟨⟨hok, h80⟩, hb⟩ := h
  rw [List.not_any_eq_all_not] at hb
  simp only [Bool.not_not] at hb
  obtain ⟨ho, hl, hl1, hp0, hp4⟩ := numOne_all hok
  refine ⟨⟨hp0, by omega⟩, hl, fun b hbm => ?_⟩
  have h1 := List.all_eq_true.1 ho b hbm
  simp only [numOne, Bool.and_eq_true, decide_eq_true_eq] at h1
  have h2 := List.all_eq_true.1 hb b hbm
  rw [blockOKp_is] at h2
  simp only [Bool.and_eq_true] at h2
  obtain ⟨hi, he⟩ := h2
  unfold endsP at he
  simp only [Bool.and_eq_true] at he
  obtain ⟨hj, hend⟩ := he
  refine ⟨by omega, by omega, fun x hx => ?_, ?_, fun j hjm => ?_, ?_, ?_⟩
  · have h3 := List.all_eq_true.1 hi x hx
    unfold instOKp at h3
    simp only [Bool.and_eq_true, beq_iff_eq] at h3
    obtain ⟨⟨h4, -⟩, h5⟩ := h3
    have h6 := arI_le x.f0
    exact ⟨arI_op (by omega), hn b hbm x hx, by omega, vals_small h80 h5⟩
  · intro h2
    have hv : valsOK (numTot p l) [b.f3] = true := by
      by_cases e1 : b.f2 = 1
      · rw [if_pos e1] at hend
        simp only [Bool.and_eq_true] at hend
        exact hend.2
      · rw [if_neg e1, if_neg h2] at hend
        simp only [Bool.and_eq_true] at hend
        exact hend.2
    exact vals_small h80 hv _ List.mem_cons_self
  · have h3 := List.all_eq_true.1 hj j hjm
    unfold jumpOKp at h3
    simp only [Bool.and_eq_true, decide_eq_true_eq, beq_iff_eq] at h3
    obtain ⟨⟨⟨h4, h5⟩, h6⟩, h7⟩ := h3
    have hto : numOne (rd_T48 l j.f0) = true := by
      obtain ⟨k, hk⟩ := Int.eq_ofNat_of_zero_le h4
      rw [hk]
      exact List.all_eq_true.1 ho _ (mem_Blk (by omega))
    simp only [numOne, Bool.and_eq_true, decide_eq_true_eq] at hto
    refine ⟨fun n hn' => ?_, by omega⟩
    rcases List.mem_append.1 hn' with h8 | h8
    · rw [List.mem_singleton.1 h8]
      omega
    · exact vals_small h80 h7 n h8
  · intro e2
    rw [if_neg (by omega), if_pos e2] at hend
    simp only [Bool.and_eq_true, beq_iff_eq] at hend
    omega
  · intro e1 e2
    rw [if_neg e1, if_neg e2] at hend
    simp only [Bool.and_eq_true, beq_iff_eq] at hend
    omega
theorem bytes_inj {a b : ByteArray} (h : bytes a = bytes b) : a = b := by
  unfold bytes at h
  cases a
  cases b
  simp only [ByteArray.mk.injEq]
  exact Array.toList_inj.1 h
theorem bytes_bs (l : List UInt8) : bytes (bs l) = l := rfl
theorem bytes_append (a b : ByteArray) : bytes (a ++ b) = bytes a ++ bytes b := by simp [bytes]
def tl (xs : List ByteArray) : List UInt8 := (xs.map fun x => 32 :: bytes x).flatten
theorem tl_join (xs : List ByteArray) : Lib.joinTail [32] (xs.map (·.data.toList)) = tl xs := by
  unfold Lib.joinTail tl
  rw [List.map_map]
  rfl
theorem line_bytes (w : ByteArray) (r : List ByteArray) : bytes (lineTxt ([w] ++ r)) = bytes w ++ tl r ++ [10] := by
  unfold lineTxt
  rw [bytes_append]
  have : bytes ⟨(Lib.join (([w] ++ r).map (·.data.toList)) [32]).toArray⟩ = bytes w ++ tl r := by
    show Lib.join (([w] ++ r).map (·.data.toList)) [32] = _
    rw [List.singleton_append, List.map_cons, Lib.join_cons, tl_join]
    rfl
  rw [this]
  rfl
def listTxt (w : ByteArray) (l : List Int) : ByteArray := bs (bytes w ++ tl (numTxts l))
theorem list_size {w : ByteArray} {l : List Int} (h : smallI l) : (listTxt w l).size ≤ w.size + 22 * l.length := by
  unfold listTxt
  rw [size_bs, List.length_append, bytes_len]
  have : (tl (numTxts l)).length ≤ 22 * l.length := by
    clear w
    induction l with
    | nil => simp [tl, numTxts]
    | cons n l ih =>
      have h1 := ih (fun m hm => h m (List.mem_cons_of_mem _ hm))
      have h2 := h n List.mem_cons_self
      have h3 := numTxt_size n (by omega)
      have h4 := bytes_len (numTxt n)
      simp only [tl, numTxts, List.map_cons, List.flatten_cons, List.length_append, List.length_cons] at h1 ⊢
      omega
  omega
theorem l20List_l (l : List Int) (hs : smallI l) (hl : l.length ≤ 1000) : ∀ (d i : Nat) (acc : ByteArray), i + d = l.length → acc.size + 30 * d ≤ 1000000000000 →
    Ev (fun k => spec_l20List.l0 k acc l (l.length : Int) (i : Int)) (listTxt acc (l.drop i))
  | 0, i, acc, h, _ => ev_succ ⟨0, fun k _ => by
      simp only [spec_l20List.l0]
      rw [if_neg (by omega), List.drop_of_length_le (by omega)]
      refine congrArg some (bytes_inj ?_)
      simp [listTxt, bytes_bs, tl, numTxts]⟩
  | d + 1, i, acc, h, hz => by
      have hi : i < l.length := by omega
      have hmem : rd l (i : Int) ∈ l := List.mem_of_mem_drop (i := i) (by rw [rd_drop hi]; exact List.mem_cons_self)
      have hn := hs _ hmem
      have hns := numTxt_size (rd l (i : Int)) (by omega)
      have h32 : (⟨#[32]⟩ : ByteArray).size = 1 := rfl
      obtain ⟨K, hK⟩ := l20List_l l hs hl d (i + 1) (acc ++ ((⟨#[32]⟩ : ByteArray) ++ numTxt (rd l (i : Int)))) (by omega) (by rw [size_append, size_append]; omega)
      obtain ⟨K2, hK2⟩ := l1Num_ev (rd l (i : Int)) (by omega)
      refine ev_succ ⟨K + K2, fun k hk => ?_⟩
      have e := hK k (by omega)
      have e2 := hK2 k (by omega)
      dsimp only at e e2
      simp only [spec_l20List.l0]
      rw [if_pos (by omega), if_pos (by omega), if_pos (by omega), e2, Option.bind_some, if_pos (by omega), if_pos (by rw [size_append]; omega), w64s hi (by omega), e, rd_drop hi]
      refine congrArg some (bytes_inj ?_)
      simp [listTxt, bytes_bs, tl, numTxts, bytes_append]
      rfl
theorem l20List_ev (w : ByteArray) (l : List Int) (hs : smallI l) (hl : l.length ≤ 1000) (hw : w.size ≤ 100000000000) : Ev (fun k => spec_l20List.f k w l) (listTxt w l) := by
  have := l20List_l l hs hl l.length 0 w (by omega) (by omega)
  exact this
theorem l20Jump_ev (w : ByteArray) (j : S61) (hj : smallI ([j.f0] ++ j.f1)) (hl : j.f1.length ≤ 50) (hw : w.size ≤ 1000000000) : Ev (fun k => spec_l20Jump.f k w j.f0 j.f1) (bs (bytes w ++ tl (jumpTxts j))) := by
  have h0 := hj j.f0 (by simp)
  have hns := numTxt_size j.f0 (by omega)
  have h32 : (⟨#[32]⟩ : ByteArray).size = 1 := rfl
  obtain ⟨K, hK⟩ := l1Num_ev j.f0 (by omega)
  obtain ⟨K2, hK2⟩ := l20List_ev ((w ++ (⟨#[32]⟩ : ByteArray)) ++ numTxt j.f0) j.f1 (fun n hn => hj n (by simp [hn])) (by omega) (by rw [size_append, size_append]; omega)
  refine ⟨K + K2, fun k hk => ?_⟩
  have e := hK k (by omega)
  have e2 := hK2 k (by omega)
  dsimp only at e e2 ⊢
  unfold spec_l20Jump.f
  rw [if_pos (by omega), e, Option.bind_some, if_pos (by rw [size_append]; omega), e2, Option.bind_some]
  refine congrArg some (bytes_inj ?_)
  simp [listTxt, bytes_bs, tl, numTxts, jumpTxts, bytes_append]
  rfl
theorem jumpB_size {w : ByteArray} {j : S61} (hj : smallI ([j.f0] ++ j.f1)) (hl : j.f1.length ≤ 50) : (bs (bytes w ++ tl (jumpTxts j))).size ≤ w.size + 22 * 51 := by
  have h := list_size (w := w) hj
  have e : bs (bytes w ++ tl (jumpTxts j)) = listTxt w ([j.f0] ++ j.f1) := rfl
  rw [e]
  simp only [List.length_append, List.length_singleton] at h
  omega
theorem word_f : ∀ k : Fin 13, spec_l20Word.f ((k.val : Int) + 1) = some (opTxt k.val) := by
  rintro ⟨k, hk⟩
  match k, hk with
  | 0, _ => rfl
  | 1, _ => rfl
  | 2, _ => rfl
  | 3, _ => rfl
  | 4, _ => rfl
  | 5, _ => rfl
  | 6, _ => rfl
  | 7, _ => rfl
  | 8, _ => rfl
  | 9, _ => rfl
  | 10, _ => rfl
  | 11, _ => rfl
  | 12, _ => rfl
theorem text_l1 (l : List S48) (hl8 : l.length ≤ 8) (i : Nat) (x : S48) (hx : FineB x) (hi : i < l.length)
    (hnext : ∀ acc : ByteArray, acc.size ≤ 300000 * (1 + 90 * (i + 1)) → Ev (fun k => spec_l20Text.l0 k acc l (l.length : Int) (wrap64 ((i : Int) + 1))) (bs (bytes acc ++ blksB (l.drop (i + 1))))) :
    ∀ (d j : Nat) (acc : ByteArray), j + d = x.f1.length → acc.size ≤ 300000 * (1 + 90 * i + 1 + j) →
      Ev (fun k => spec_l20Text.l1 k acc l (l.length : Int) (i : Int) x.f1 (x.f1.length : Int) (j : Int) x.f0 x.f1 x.f2 x.f3 x.f4) (bs (bytes acc ++ insB (x.f1.drop j) ++ bytes (endTxt x) ++ blksB (l.drop (i + 1))))
  | 0, j, acc, h, hz => by
      have hes := end_size hx
      obtain ⟨-, h80, -, hv, hj, h2, h3⟩ := hx
      have hdrop : x.f1.drop j = [] := List.drop_of_length_le (by omega)
      have hb10 : (⟨#[10]⟩ : ByteArray).size = 1 := rfl
      rw [hdrop]
      by_cases e1 : x.f2 = 1
      · have hva := hv (by omega)
        have hns := numTxt_size x.f3 (by omega)
        have h7 : (⟨#[114, 101, 116, 117, 114, 110, 32]⟩ : ByteArray).size = 7 := rfl
        have he : endTxt x = ((⟨#[114, 101, 116, 117, 114, 110, 32]⟩ : ByteArray) ++ numTxt x.f3) ++ (⟨#[10]⟩ : ByteArray) := by
          refine bytes_inj ?_
          unfold endTxt
          rw [if_pos e1, line_bytes]
          simp [bytes_append, tl, numTxts]
          rfl
        obtain ⟨K, hK⟩ := l1Num_ev x.f3 (by omega)
        obtain ⟨K2, hK2⟩ := hnext (acc ++ endTxt x) (by rw [size_append]; omega)
        refine ev_succ ⟨K + K2, fun k hk => ?_⟩
        have e := hK k (by omega)
        have e2 := hK2 k (by omega)
        dsimp only at e e2
        simp only [spec_l20Text.l1]
        rw [if_neg (by omega), if_pos e1, e, Option.bind_some, if_pos (by omega), if_pos (by rw [size_append]; omega), ← he, if_pos (by omega), e2]
        refine congrArg some (bytes_inj ?_)
        simp [bytes_bs, bytes_append, insB]
      · by_cases e2 : x.f2 = 2
        · have hle := h2 e2
          have hm := hj _ (memT (l := x.f4) (i := 0) (by omega))
          have hms : smallI ([(rd_T61 x.f4 0).f0] ++ (rd_T61 x.f4 0).f1) := hm.1
          have hml : (rd_T61 x.f4 0).f1.length ≤ 50 := hm.2
          have h4 : (⟨#[106, 117, 109, 112]⟩ : ByteArray).size = 4 := rfl
          have hjs := jumpB_size (w := (⟨#[106, 117, 109, 112]⟩ : ByteArray)) hms hml
          have he : endTxt x = bs (bytes (⟨#[106, 117, 109, 112]⟩ : ByteArray) ++ tl (jumpTxts (rd_T61 x.f4 0))) ++ (⟨#[10]⟩ : ByteArray) := by
            refine bytes_inj ?_
            unfold endTxt
            rw [if_neg e1, if_pos e2, line_bytes]
            rfl
          obtain ⟨K, hK⟩ := l20Jump_ev (⟨#[106, 117, 109, 112]⟩ : ByteArray) _ hms hml (by omega)
          obtain ⟨K2, hK2⟩ := hnext (acc ++ endTxt x) (by rw [size_append]; omega)
          refine ev_succ ⟨K + K2, fun k hk => ?_⟩
          have e := hK k (by omega)
          have e3 := hK2 k (by omega)
          dsimp only at e e3
          simp only [spec_l20Text.l1]
          rw [if_neg (by omega), if_neg e1, if_pos e2, if_pos (by omega), e, Option.bind_some, if_pos (by omega), ← he, if_pos (by omega), e3]
          refine congrArg some (bytes_inj ?_)
          simp [bytes_bs, bytes_append, insB]
        · have hva := hv e2
          have hle := h3 e1 e2
          have hns := numTxt_size x.f3 (by omega)
          have hm := hj _ (memT (l := x.f4) (i := 0) (by omega))
          have hm2 := hj _ (memT (l := x.f4) (i := 1) (by omega))
          have hms : smallI ([(rd_T61 x.f4 0).f0] ++ (rd_T61 x.f4 0).f1) := hm.1
          have hml : (rd_T61 x.f4 0).f1.length ≤ 50 := hm.2
          have hms2 : smallI ([(rd_T61 x.f4 1).f0] ++ (rd_T61 x.f4 1).f1) := hm2.1
          have hml2 : (rd_T61 x.f4 1).f1.length ≤ 50 := hm2.2
          have h7 : (⟨#[98, 114, 97, 110, 99, 104, 32]⟩ : ByteArray).size = 7 := rfl
          have hb2 : (⟨#[32, 124]⟩ : ByteArray).size = 2 := rfl
          obtain ⟨wa, hwa⟩ : ∃ a, a = (⟨#[98, 114, 97, 110, 99, 104, 32]⟩ : ByteArray) ++ numTxt x.f3 := ⟨_, rfl⟩
          have hwas : wa.size ≤ 40 := by rw [hwa, size_append]; omega
          have hj0 := jumpB_size (w := wa) hms hml
          obtain ⟨wb, hwb⟩ : ∃ a, a = bs (bytes wa ++ tl (jumpTxts (rd_T61 x.f4 0))) := ⟨_, rfl⟩
          rw [← hwb] at hj0
          have hj1 := jumpB_size (w := wb ++ (⟨#[32, 124]⟩ : ByteArray)) hms2 hml2
          obtain ⟨wc, hwc⟩ : ∃ a, a = bs (bytes (wb ++ (⟨#[32, 124]⟩ : ByteArray)) ++ tl (jumpTxts (rd_T61 x.f4 1))) := ⟨_, rfl⟩
          rw [← hwc, size_append] at hj1
          have he : endTxt x = wc ++ (⟨#[10]⟩ : ByteArray) := by
            refine bytes_inj ?_
            unfold endTxt
            rw [if_neg e1, if_neg e2, hwc, hwb, hwa]
            simp only [List.append_assoc]
            rw [line_bytes]
            simp [bytes_append, bytes_bs, tl, numTxts]
            rfl
          obtain ⟨K, hK⟩ := l1Num_ev x.f3 (by omega)
          obtain ⟨K1, hK1⟩ := l20Jump_ev wa _ hms hml (by omega)
          obtain ⟨K2, hK2⟩ := l20Jump_ev (wb ++ (⟨#[32, 124]⟩ : ByteArray)) _ hms2 hml2 (by rw [size_append]; omega)
          obtain ⟨K3, hK3⟩ := hnext (acc ++ endTxt x) (by rw [size_append]; omega)
          refine ev_succ ⟨K + K1 + K2 + K3, fun k hk => ?_⟩
          have e := hK k (by omega)
          have f1 := hK1 k (by omega)
          have f2 := hK2 k (by omega)
          have f3 := hK3 k (by omega)
          dsimp only at e f1 f2 f3
          rw [← hwb] at f1
          rw [← hwc] at f2
          simp only [spec_l20Text.l1]
          rw [if_neg (by omega), if_neg e1, if_neg e2, e, Option.bind_some, if_pos (by omega), if_pos (by omega), ← hwa, f1, Option.bind_some, if_pos (by omega), if_pos (by omega), f2, Option.bind_some, if_pos (by omega), ← he, if_pos (by omega), f3]
          refine congrArg some (bytes_inj ?_)
          simp [bytes_bs, bytes_append, insB]
  | d + 1, j, acc, h, hz => by
      have hjl : j < x.f1.length := by omega
      have h80 := hx.2.1
      have hb10 : (⟨#[10]⟩ : ByteArray).size = 1 := rfl
      have hmem : rd_T52 x.f1 (j : Int) ∈ x.f1 := List.mem_of_mem_drop (i := j) (by rw [drop_Ins hjl]; exact List.mem_cons_self)
      have hz0 := hx.2.2.1 _ hmem
      have hzs := inst_size hz0
      rw [drop_Ins hjl]
      generalize hzz : rd_T52 x.f1 (j : Int) = z at hz0 hzs
      obtain ⟨K, hK⟩ := text_l1 l hl8 i x hx hi hnext d (j + 1) (acc ++ instTxt z) (by omega) (by rw [size_append]; omega)
      obtain ⟨⟨kk, hk, hk13⟩, hn, hlz, hsz⟩ := hz0
      have hkt : (z.f0 - 1).toNat = kk := by omega
      by_cases e1 : z.f0 = 1
      · have hns := numTxt_size z.f1 hn
        have h4 : (⟨#[110, 117, 109, 32]⟩ : ByteArray).size = 4 := rfl
        have he : instTxt z = ((⟨#[110, 117, 109, 32]⟩ : ByteArray) ++ numTxt z.f1) ++ (⟨#[10]⟩ : ByteArray) := by
          refine bytes_inj ?_
          unfold instTxt
          rw [if_pos e1, line_bytes, hkt, show kk = 0 by omega]
          simp [bytes_append, tl]
          rfl
        obtain ⟨K2, hK2⟩ := numText_ev z.f1 hn
        refine ev_succ ⟨K + K2, fun k hk => ?_⟩
        have e := hK k (by omega)
        have e2 := hK2 k (by omega)
        dsimp only at e e2
        simp only [spec_l20Text.l1]
        rw [if_pos (by omega), if_pos (by omega), if_pos (by omega), hzz, if_pos e1, e2, Option.bind_some, if_pos (by omega), if_pos (by rw [size_append]; omega), ← he, if_pos (by omega), w64s hjl (by omega), e]
        refine congrArg some (bytes_inj ?_)
        simp [bytes_bs, bytes_append, insB]
      · have ho := opTxt_size ⟨kk, hk13⟩
        have ho2 : (opTxt kk).size ≤ 5 := ho
        have hls := list_size (w := opTxt kk) hsz
        have he : instTxt z = listTxt (opTxt kk) z.f2 ++ (⟨#[10]⟩ : ByteArray) := by
          refine bytes_inj ?_
          unfold instTxt
          rw [if_neg e1, line_bytes, hkt]
          simp [bytes_append, listTxt, bytes_bs]
          rfl
        obtain ⟨K2, hK2⟩ := l20List_ev (opTxt kk) z.f2 hsz (by omega) (by omega)
        have hw := word_f ⟨kk, hk13⟩
        simp only at hw
        rw [← hk] at hw
        refine ev_succ ⟨K + K2, fun k hk => ?_⟩
        have e := hK k (by omega)
        have e2 := hK2 k (by omega)
        dsimp only at e e2
        simp only [spec_l20Text.l1]
        rw [if_pos (by omega), if_pos (by omega), if_pos (by omega), hzz, if_neg e1, hw, Option.bind_some, e2, Option.bind_some, if_pos (by omega), ← he, if_pos (by omega), w64s hjl (by omega), e]
        refine congrArg some (bytes_inj ?_)
        simp [bytes_bs, bytes_append, insB]
theorem text_l0 (l : List S48) (hl8 : l.length ≤ 8) (hf : ∀ b ∈ l, FineB b) : ∀ (d i : Nat) (acc : ByteArray), i + d = l.length → acc.size ≤ 300000 * (1 + 90 * i) →
    Ev (fun k => spec_l20Text.l0 k acc l (l.length : Int) (i : Int)) (bs (bytes acc ++ blksB (l.drop i)))
  | 0, i, acc, h, hz => ev_succ ⟨0, fun k _ => by
      simp only [spec_l20Text.l0]
      rw [if_neg (by omega), List.drop_of_length_le (by omega)]
      refine congrArg some (bytes_inj ?_)
      simp [bytes_bs, blksB]⟩
  | d + 1, i, acc, h, hz => by
      have hi : i < l.length := by omega
      have hfx := hf _ (mem_Blk hi)
      rw [drop_Blk hi]
      generalize hxx : rd_T48 l (i : Int) = x at hfx
      have hx0 := hfx.1
      have hhs := head_size (w := wBlock) (n := x.f0) (by decide) hx0
      have hns := numTxt_size x.f0 (by omega)
      have h6 : (⟨#[98, 108, 111, 99, 107, 32]⟩ : ByteArray).size = 6 := rfl
      have h10 : (⟨#[10]⟩ : ByteArray).size = 1 := rfl
      have he : headTxt wBlock x.f0 = ((⟨#[98, 108, 111, 99, 107, 32]⟩ : ByteArray) ++ numTxt x.f0) ++ (⟨#[10]⟩ : ByteArray) := by
        refine bytes_inj ?_
        unfold headTxt
        rw [line_bytes]
        simp [bytes_append, tl, numTxts]
        rfl
      obtain ⟨K, hK⟩ := text_l1 l hl8 i x hfx hi (fun acc' ha => by
        have := text_l0 l hl8 hf d (i + 1) acc' (by omega) ha
        rw [← w64s hi (by omega)] at this
        exact this) x.f1.length 0 (acc ++ headTxt wBlock x.f0) (by omega) (by rw [size_append]; omega)
      obtain ⟨K2, hK2⟩ := l1Num_ev x.f0 (by omega)
      refine ev_succ ⟨K + K2, fun k hk => ?_⟩
      have e := hK k (by omega)
      have e2 := hK2 k (by omega)
      dsimp only at e e2
      simp only [spec_l20Text.l0]
      rw [if_pos (by omega), if_pos (by omega), if_pos (by omega), hxx, e2, Option.bind_some, if_pos (by omega), if_pos (by rw [size_append]; omega), ← he, if_pos (by omega)]
      refine e.trans (congrArg some (bytes_inj ?_))
      simp [bytes_bs, bytes_append, blksB, blkB]
theorem text_ev {p : Int} {l : List S48} (hp : 0 ≤ p ∧ p < 100) (hl8 : l.length ≤ 8) (hf : ∀ b ∈ l, FineB b) : Ev (fun k => spec_l20Text.f k p l) (bs (funB p l)) := by
  have hhs := head_size (w := wFunc) (n := p) (by decide) hp
  have hns := numTxt_size p (by omega)
  have h5 : (⟨#[102, 117, 110, 99, 32]⟩ : ByteArray).size = 5 := rfl
  have h10 : (⟨#[10]⟩ : ByteArray).size = 1 := rfl
  have he : headTxt wFunc p = ((⟨#[102, 117, 110, 99, 32]⟩ : ByteArray) ++ numTxt p) ++ (⟨#[10]⟩ : ByteArray) := by
    refine bytes_inj ?_
    unfold headTxt
    rw [line_bytes]
    simp [bytes_append, tl, numTxts]
    rfl
  obtain ⟨K, hK⟩ := text_l0 l hl8 hf l.length 0 (headTxt wFunc p) (by omega) (by omega)
  obtain ⟨K2, hK2⟩ := l1Num_ev p (by omega)
  refine ⟨K + K2, fun k hk => ?_⟩
  have e := hK k (by omega)
  have e2 := hK2 k (by omega)
  dsimp only at e e2 ⊢
  unfold spec_l20Text.f
  rw [e2, Option.bind_some, if_pos (by omega), if_pos (by rw [size_append]; omega), ← he]
  exact e
def textR (p : Int) (l : List S48) : ByteArray × Bool := if goodF p l then (if (bs (funB p l)).size ≤ 4000 then (bs (funB p l), true) else (⟨#[]⟩, false)) else (⟨#[]⟩, false)
theorem specText_ev (p : Int) (l : List S48) (hn : NumsOK l) : Ev (fun k => spec_FuncText.f k p l) (textR p l) := by
  unfold textR
  have hg := good_ev p l
  cases h : goodF p l with
  | false =>
    obtain ⟨K, hK⟩ := hg
    refine ⟨K, fun k hk => ?_⟩
    have e := hK k hk
    dsimp only at e ⊢
    unfold spec_FuncText.f
    rw [e, h, Option.bind_some]
    rfl
  | true =>
    obtain ⟨hp, hl8, hf⟩ := good_fine h hn
    obtain ⟨K, hK⟩ := ev_max hg (text_ev hp hl8 hf)
    refine ⟨K, fun k hk => ?_⟩
    obtain ⟨e1, e2⟩ := hK k hk
    dsimp only
    unfold spec_FuncText.f
    rw [e1, h, Option.bind_some, if_pos rfl, e2, Option.bind_some]
    by_cases h4 : (bs (funB p l)).size ≤ 4000
    · rw [if_neg (by omega), Option.bind_some, if_pos rfl, if_pos h4]
    · rw [if_pos (by omega), if_pos rfl, if_neg h4]
set_option maxHeartbeats 1000000 in
set_option maxRecDepth 100000 in
theorem implText_calls (A : Option Addr) (c : Nat) (p : Int) (l : List S48) (w : World) (ht : Tab w) (hr : k48.C w A l.length l) (hc : l.length ≤ c) (hn : NumsOK l) :
    Calls Tryz.prog 7 #[.agg #[.int .i64 p, .slice A l.length c]] w fun e w' => e = .returned (.tuple #[.string (textR p l).1, .bool (textR p l).2]) ∧ Below w.heap.size w w' := by
  have HG := Aside0.mk (fun W (hW : Below w.heap.size w W) => goodFunc_calls A c p l W (Kd.C_below hr hW) hc)
  have hm := Kd.C_max hr
  have hu := Tryz.underlying30
  cases h : goodF p l with
  | false =>
    have ht : textR p l = (⟨#[]⟩, false) := by unfold textR; rw [h]; rfl
    rw [ht]
    rw [h] at HG
    clear ht h hr hn
    go_enter Tryz.func7, Tryz.ntmps7
    go_wp2_with (first
      | ((with_reducible refine gate_dst (N := 1) rfl ?_); refine box_event ?hg (N := 1) ?hd (cs := #[.int .i64 p, .slice A l.length c]) (t := 30) ?hr ?_; (case hd => rfl); (case hg => rfl); (case hr => first | (go_simp; done) | (go_simp; rfl)); intro b hg w1 hbox hb; have x0 : w1.cell? ⟨b, 0, none⟩ = some (.int .i64 p) := (blk_cell hbox 0).trans rfl; have x1 : w1.cell? ⟨b, 1, none⟩ = some (.slice A l.length c) := (blk_cell hbox 1).trans rfl; have HB1 := Aside0.mk hb; clear hb hbox hg)
      | (go_at_call 13; refine (HG.out _ HB1.out).mono ?_; rintro e w2 ⟨rfl, hb⟩; have HB2 := Aside0.mk (below_then HB1.out HB1.out.size hb); clear hb))
    go_ret2
    exact ⟨rfl, HB2.out⟩
  | true =>
    obtain ⟨hp, hl8, hf⟩ := good_fine h hn
    have HF := Aside0.mk (fun W (hW : Below w.heap.size w W) => funcText_calls A c p l W (ht.on hW) (Kd.C_below hr hW) hc hp hl8 hf)
    have htx : textR p l = if (bs (funB p l)).size ≤ 4000 then (bs (funB p l), true) else (⟨#[]⟩, false) := by unfold textR; rw [h]; rfl
    rw [htx]
    rw [h] at HG
    have hsz : (bs (funB p l)).size ≤ 1000000000000 := by
      have key : ∀ (m : List S48), (∀ b ∈ m, FineB b) → (blksB m).length ≤ 30000000 * m.length := by
        intro m
        induction m with
        | nil => intro _; simp [blksB]
        | cons b m ih =>
          intro hm
          have h1 := ih (fun x hx => hm x (List.mem_cons_of_mem _ hx))
          have hb := hm b List.mem_cons_self
          have h2 := end_size hb
          have h3 := head_size (w := wBlock) (n := b.f0) (by decide) hb.1
          have h4 : (insB b.f1).length ≤ 200001 * b.f1.length := by
            have hI := hb.2.2.1
            clear h1 h2 h3 hb
            generalize b.f1 = li at hI
            induction li with
            | nil => simp [insB]
            | cons y li ih2 =>
              have g1 := ih2 (fun z hz => hI z (List.mem_cons_of_mem _ hz))
              have g2 := inst_size (hI y List.mem_cons_self)
              have g3 := bytes_len (instTxt y)
              simp only [insB, List.map_cons, List.flatten_cons, List.length_append, List.length_cons] at g1 ⊢
              omega
          have h5 := bytes_len (endTxt b)
          have h6 := bytes_len (headTxt wBlock b.f0)
          have h7 := hb.2.1
          have h8 : (blkB b).length ≤ 30000000 := by
            unfold blkB
            rw [List.length_append, List.length_append]
            omega
          simp only [blksB, List.map_cons, List.flatten_cons, List.length_append, List.length_cons] at h1 ⊢
          omega
      have h1 := key l hf
      have h2 := head_size (w := wFunc) (n := p) (by decide) hp
      have h3 := bytes_len (headTxt wFunc p)
      rw [size_bs]
      unfold funB
      rw [List.length_append]
      omega
    have hfun : (⟨(funB p l).toArray⟩ : ByteArray) = bs (funB p l) := rfl
    rw [hfun] at HF
    generalize bs (funB p l) = s at HF hsz ⊢
    clear htx h hr hn hf hfun hp ht
    by_cases h4 : s.size ≤ 4000
    · rw [if_pos h4]
      go_enter Tryz.func7, Tryz.ntmps7
      go_wp2_with (first
        | ((with_reducible refine gate_dst (N := 1) rfl ?_); refine box_event ?hg (N := 1) ?hd (cs := #[.int .i64 p, .slice A l.length c]) (t := 30) ?hr ?_; (case hd => rfl); (case hg => rfl); (case hr => first | (go_simp; done) | (go_simp; rfl)); intro b hg w1 hbox hb; have BK1 := Aside0.mk hbox; have x0 : w1.cell? ⟨b, 0, none⟩ = some (.int .i64 p) := (blk_cell hbox 0).trans rfl; have x1 : w1.cell? ⟨b, 1, none⟩ = some (.slice A l.length c) := (blk_cell hbox 1).trans rfl; have HB1 := Aside0.mk hb; clear hb hbox hg)
        | (go_at_call 13; refine (HG.out _ HB1.out).mono ?_; rintro e w2 ⟨rfl, hb⟩; have y0 : w2.cell? ⟨b, 0, none⟩ = some (.int .i64 p) := (blk_cell (blk_below BK1.out hb) 0).trans rfl; have y1 : w2.cell? ⟨b, 1, none⟩ = some (.slice A l.length c) := (blk_cell (blk_below BK1.out hb) 1).trans rfl; have HB2 := Aside0.mk (below_then HB1.out HB1.out.size hb); clear hb)
        | (go_at_call 14; refine (HF.out _ HB2.out).mono ?_; rintro e w3 ⟨rfl, hb⟩; have HB3 := Aside0.mk (below_then HB2.out HB2.out.size hb); clear hb))
      go_ret2
      exact ⟨rfl, HB3.out⟩
    · rw [if_neg h4]
      have h5 : 4000 < s.size := by omega
      go_enter Tryz.func7, Tryz.ntmps7
      go_wp2_with (first
        | ((with_reducible refine gate_dst (N := 1) rfl ?_); refine box_event ?hg (N := 1) ?hd (cs := #[.int .i64 p, .slice A l.length c]) (t := 30) ?hr ?_; (case hd => rfl); (case hg => rfl); (case hr => first | (go_simp; done) | (go_simp; rfl)); intro b hg w1 hbox hb; have BK1 := Aside0.mk hbox; have x0 : w1.cell? ⟨b, 0, none⟩ = some (.int .i64 p) := (blk_cell hbox 0).trans rfl; have x1 : w1.cell? ⟨b, 1, none⟩ = some (.slice A l.length c) := (blk_cell hbox 1).trans rfl; have HB1 := Aside0.mk hb; clear hb hbox hg)
        | (go_at_call 13; refine (HG.out _ HB1.out).mono ?_; rintro e w2 ⟨rfl, hb⟩; have y0 : w2.cell? ⟨b, 0, none⟩ = some (.int .i64 p) := (blk_cell (blk_below BK1.out hb) 0).trans rfl; have y1 : w2.cell? ⟨b, 1, none⟩ = some (.slice A l.length c) := (blk_cell (blk_below BK1.out hb) 1).trans rfl; have HB2 := Aside0.mk (below_then HB1.out HB1.out.size hb); clear hb)
        | (go_at_call 14; refine (HF.out _ HB2.out).mono ?_; rintro e w3 ⟨rfl, hb⟩; have HB3 := Aside0.mk (below_then HB2.out HB2.out.size hb); clear hb))
      go_ret2
      exact ⟨rfl, HB3.out⟩
end Go.Proofs.YtjpkcbkkjefekaaGreatDoor.V
