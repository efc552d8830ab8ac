/- A part of the session's texts, laid small by the session's shrink.py. -/
import Derived.Test.YtjpkcbkkjefekaaGreatDoorF5
import Derived.Test.YtjpkcbkkjefekaaGreatDoorOP
import Derived.Test.YtjpkcbkkjefekaaGreatDoorCards
import Derived.Test.YtjpkcbkkjefekaaGreatDoorTie
import Derived.WalkKit
import Derived.ProofKit
import Derived.OpenShut
import Derived.ChangeOld
import Derived.Below
import Derived.LaidMore
import Derived.LaidSub
import Derived.Deep.DeepHandedRow
import Derived.Lib.LaidTab
namespace Go.Proofs.YtjpkcbkkjefekaaGreatDoor.fnExactFuncText
open Go.ChangeShapes Go.WideShapes Go.ChangeAt Go.RowKit Go.Proofs.YtjpkcbkkjefekaaGreatDoorW.PrintWords Go.Proofs.YtjpkcbkkjefekaaGreatDoor.OP Go.Proofs.YtjpkcbkkjefekaaGreatDoor.PA
set_option linter.unusedVariables false
theorem own : ownKnob Tryz.prog.godebug = none := by kernel_rfl
theorem laidOut : laidOutB Tryz.prog = true := by kernel_rfl
theorem gTab : Tryz.prog.globalNamed "internal/strconv.uint64pow10" = some 1 := by kernel_rfl
theorem gTabType : (Tryz.prog.globals[1]?).map (·.type) = some 140 := by kernel_rfl
theorem cellsTab : Tryz.prog.cellsOf 140 = 20 := by kernel_rfl
theorem cellsU64 : Tryz.prog.cellsOf 83 = 1 := by kernel_rfl
theorem table {W : World} (h : laidMetH Tryz.prog Rows.fnExactFuncTextRow.laid W) : Lib.TabIs Tryz.prog W "internal/strconv.uint64pow10" .u64 Lib.pow10Tab := by
  have h2 := laidMetH.filter (fun x => x.1 == "internal/strconv.uint64pow10") h
  exact Lib.tabIs_of_head (rest := []) gTab gTabType Tryz.underlying140 Tryz.underlying83 cellsU64 cellsTab h2
section
variable {H : Type} {enc : TypeId × Value → H} {W : World}
theorem opensInst : Opens Tryz.prog enc W 97 k97 (fun x => (Lit.int .i64 x.f0).wf = true ∧ (Lit.int .i64 x.f1).wf = true ∧ ∀ a ∈ x.f2, (Lit.int .i64 a).wf = true) :=
  opens_iso (fun x : S97 => (x.f0, x.f1, x.f2)) (fun a => ⟨a.1, a.2.1, a.2.2⟩) (fun _ => rfl)
    (opens_struct Tryz.underlying97 (by kernel_rfl) (run_cons rfl rfl (by kernel_rfl) (opens_int Tryz.underlying3) (run_cons rfl rfl (by kernel_rfl) (opens_int Tryz.underlying2) (run_last rfl rfl (by kernel_rfl) (opens_slice Tryz.underlying50 (by kernel_rfl) (opens_int Tryz.underlying3))))))
theorem opensJump : Opens Tryz.prog enc W 99 k99 (fun x => (Lit.int .i64 x.f0).wf = true ∧ ∀ a ∈ x.f1, (Lit.int .i64 a).wf = true) :=
  opens_iso (fun x : S99 => (x.f0, x.f1)) (fun a => ⟨a.1, a.2⟩) (fun _ => rfl)
    (opens_struct Tryz.underlying99 (by kernel_rfl) (run_cons rfl rfl (by kernel_rfl) (opens_int Tryz.underlying3) (run_last rfl rfl (by kernel_rfl) (opens_slice Tryz.underlying50 (by kernel_rfl) (opens_int Tryz.underlying3)))))
def BlockOk (b : S43) : Prop := ∀ x ∈ b.f1, (Lit.int .i64 x.f1).wf = true
theorem opens_weak {P : Program} {t : TypeId} {α : Type} {d : Kd α} {ok ok' : α → Prop} (h : Opens P enc W t d ok) (hw : ∀ a, ok a → ok' a) : Opens P enc W t d ok' := by
  intro base spare held fuel cs x hx
  obtain ⟨a, h1, h2⟩ := h _ _ _ _ _ _ hx
  exact ⟨a, h1, hw a h2⟩
theorem opensBlock : Opens Tryz.prog enc W 43 k43 BlockOk :=
  opens_weak (opens_iso (fun x : S43 => (x.f0, x.f1, x.f2, x.f3, x.f4)) (fun a => ⟨a.1, a.2.1, a.2.2.1, a.2.2.2.1, a.2.2.2.2⟩) (fun _ => rfl)
    (opens_struct Tryz.underlying43 (by kernel_rfl) (run_cons rfl rfl (by kernel_rfl) (opens_int Tryz.underlying3) (run_cons rfl rfl (by kernel_rfl) (opens_slice Tryz.underlying40 (by kernel_rfl) opensInst) (run_cons rfl rfl (by kernel_rfl) (opens_int Tryz.underlying3) (run_cons rfl rfl (by kernel_rfl) (opens_int Tryz.underlying3) (run_last rfl rfl (by kernel_rfl) (opens_slice Tryz.underlying41 (by kernel_rfl) opensJump))))))))
    (fun a h x hx => (h.2.1 x hx).2.1)
set_option maxRecDepth 100000 in
theorem opensFunc : Opens Tryz.prog enc W 24 (Kd.pair (Kd.int .i64) (Kd.slice 43 k43)) (fun x => (Lit.int .i64 x.1).wf = true ∧ ∀ b ∈ x.2, BlockOk b) :=
  opens_weak (opens_struct Tryz.underlying24 (by kernel_rfl) (run_cons rfl rfl (by kernel_rfl) (opens_int Tryz.underlying3) (run_last rfl rfl (by kernel_rfl) (opens_slice Tryz.underlying22 (by kernel_rfl) opensBlock)))) (fun _ h => h)
end
set_option maxRecDepth 100000 in
theorem contract (H : Type) (enc : TypeId × Value → H) (W : World) (base : Nat) (args : Array Value) (ds gs : List (DataW H)) (before : List MemPlace)
    (hval : ∀ (j : Nat) t v, Tryz.f3.params[j]? = some t → args[j]? = some v → Value.okWide Tryz.prog W .any base t v)
    (hW : DataW.Whole enc Tryz.prog Tryz.f3.params.toList Rows.fnExactFuncTextSpec.vars false W args.toList ds gs before) (hL : laidMetH Tryz.prog Rows.fnExactFuncTextRow.laid W) :
    Calls Tryz.prog 3 args W fun e W' => ∃ v, e = .returned v ∧ Rows.fnExactFuncTextSpec.post enc Tryz.prog Tryz.f3 false true false false W args v W' := by
  have hW' := hW
  obtain ⟨p, q, hA0, hV, rfl, hfz, hnd⟩ := hW
  have hA : DataW.TrodAll enc Tryz.prog W 0 (fun _ => true) true Tryz.f3.params.toList args.toList ds p := hA0
  rw [Tryz.params3] at hA hval
  obtain ⟨v0, vs0, d0, ds0, p0, q0, hargs, rfl, rfl, h0, r0⟩ := trodAll_cons hA
  obtain ⟨rfl, rfl, rfl⟩ := trodAll_nil r0
  obtain rfl : args = #[v0] := by cases args; simp_all
  obtain ⟨rfl, rfl⟩ := trodVars_none hV
  obtain ⟨cs0, rfl, -⟩ := okWide_struct Tryz.underlying24 (hval 0 24 v0 rfl rfl)
  have k0 := h0
  have lt0 : ∀ x ∈ p0, x.block < W.heap.size := by
    obtain ⟨m, hm⟩ := k0
    exact DataW.trod_lt m _ _ _ hm
  obtain ⟨fuel, hf⟩ := h0
  obtain ⟨⟨p, l⟩, ⟨ca, cb, hcs, hca, ⟨A, c, hcb, hc, hC⟩⟩, hok⟩ := opensFunc _ _ _ _ _ _ hf
  obtain rfl : cs0 = #[.int .i64 p, .slice A l.length c] := by
    have h1 : (Value.agg cs0).cells.toList = [.int .i64 p, .slice A l.length c] := by rw [hcs, hca, hcb]; rfl
    have h2 : cs0.toList = [.int .i64 p, .slice A l.length c] := h1
    exact Array.toList_inj.1 h2
  clear hA0 hf
  refine (V.exactFuncText_walk A c p l W hC hc (fun b hb x hx => V.wf_i64 (hok.2 b hb x hx)) (Lib.tabBelow_of_tabIs (table hL))).mono fun e W' ⟨he, bel⟩ => ?_
  subst he
  exact ⟨_, rfl, _, _, _, [], _, [], hW', trodAll_mk1 (shut_bool Tryz.underlying4 _), (trodAll_cons_mk (Below.trod laidOut (by kernel_rfl) (of_decide_eq_true (by kernel_rfl)) k0 bel lt0) trodAll_mk0), rfl, bel.frame _, fun h => by cases h⟩
noncomputable def laidWorld (os : Os) : World := World.doorLaid Tryz.prog 400 os
theorem laid_met (os : Os) : laidMet Tryz.prog Rows.fnExactFuncTextRow.laid ((laidWorld os).forCall (fun _ _ => 0) ⟨#[], #[.agg #[.int .i64 0, .slice none 0 0]], []⟩).memory :=
  laidMet_of_run' 8 (by kernel_rfl) (by kernel_rfl)
theorem reads (os : Os) {H : Type} (enc : TypeId × Value → H) : ∃ places, DataW.whole enc Tryz.prog ((laidWorld os).forCall (fun _ _ => 0) ⟨#[], #[.agg #[.int .i64 0, .slice none 0 0]], []⟩).memory Tryz.f3.params.toList Rows.fnExactFuncTextSpec.vars false #[Value.agg #[.int .i64 0, .slice none 0 0]].toList 8 = some ([.agg [.lit (.int .i64 0), .nil]], [], places) :=
  ⟨[], by kernel_rfl⟩
set_option maxRecDepth 100000 in
theorem lifted (os : Os) (started : os.Started) (H : Type) (enc : TypeId × Value → H) (F : Stop.Interp) :
    ReturnsInHanded {} Tryz.checked os 3 .any ((OpenSpec.ofChange Rows.fnExactFuncTextSpec).preRow enc Tryz.prog Tryz.f3 Rows.fnExactFuncTextRow.domain false Rows.fnExactFuncTextRow.laid) (((OpenSpec.ofChange Rows.fnExactFuncTextSpec).at F).post enc Tryz.prog Tryz.f3 false true false false) := by
  obtain ⟨places, hx⟩ := reads os enc
  refine returnsInHanded_of_row (C := Tryz.checked) (s := OpenSpec.ofChange Rows.fnExactFuncTextSpec) own started (by kernel_rfl) Tryz.func3
    (witness_row_at (enc := enc) (C := Tryz.checked) false (laidWorld os) #[.agg #[.int .i64 0, .slice none 0 0]] rfl (by kernel_rfl) (by kernel_rfl) (by kernel_rfl)
      (OpenSpec.preRow_of_cond 8 hx (by kernel_rfl) (fun k hk => by cases hk) (by kernel_rfl) (laid_met os))) ?_
  intro W base args ds gs before hval hW _ _ _ hL _ _
  exact contract H enc W base args ds gs before hval hW hL
theorem said : Rows.FnExactFuncTextSaid :=
  OpenClaim.holds_of_cond 3 Tryz.f3 rfl rfl rfl rfl rfl rfl rfl ⟨rfl, rfl, rfl, rfl, rfl⟩ rfl rfl rfl rfl rfl (by kernel_rfl) Tryz.func3 (by kernel_rfl)
    (of_decide_eq_true (by kernel_rfl)) (by unfold Func.isWrapper; first | (rw [if_pos (by decide +kernel)]; kernel_rfl) | (rw [if_neg (by decide +kernel)]; exact ⟨rfl, rfl⟩))
    (fun os started H enc _ F => by rw [OpenClaim.pre_eq_preRow]; exact lifted os started H enc F)
theorem plain (f : FuncId) (fn : Func) (hf : Tryz.pinned.checked.prog.funcNamed "loop.example/g00694/laws.FnExactFuncText" = some f) (hfn : Tryz.pinned.checked.prog.funcs[f]? = some fn) :
    false = Tryz.pinned.checked.prog.looks [] ∧ ∀ (j : Nat) t, fn.params[j]? = some t → Tryz.pinned.checked.prog.wantsStandIn t = false := by
  obtain rfl : f = 3 := Option.some.inj ((show Tryz.prog.funcNamed "loop.example/g00694/laws.FnExactFuncText" = some 3 by kernel_rfl).symm.trans hf) |>.symm
  obtain rfl : fn = Tryz.f3 := (Option.some.inj (Tryz.func3.symm.trans hfn)).symm
  refine ⟨by kernel_rfl, fun j t ht => ?_⟩
  rw [Tryz.params3] at ht
  obtain rfl : t = 24 := by simpa using Array.mem_of_getElem? ht
  exact (show Tryz.prog.wantsStandIn 24 = false by kernel_rfl)
theorem card : Rows.FnExactFuncTextCardSaid :=
  Claim7.holds_tied_plain_at .later [] _ _ _ _ said (fun _ h => by cases h) (by kernel_rfl) (fun _ h => by cases h) fnExactFuncText_row_tie rfl ⟨rfl, rfl⟩ (by kernel_rfl) rfl plain (by kernel_rfl)
#print axioms card
end Go.Proofs.YtjpkcbkkjefekaaGreatDoor.fnExactFuncText
namespace Go.Proofs.YtjpkcbkkjefekaaGreatDoor
theorem fnExactFuncText_card : Rows.FnExactFuncTextCardSaid := fnExactFuncText.card
end Go.Proofs.YtjpkcbkkjefekaaGreatDoor
