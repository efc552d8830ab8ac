/- The walk of a number's text; the premise: the library's table reads as laid. -/
import Derived.Test.YtleppmjconljfaaDoorT3
import Derived.Test.YtleppmjconljfaaDoorTX
import Derived.Test.YtleppmjconljfaaDoorSh
import Derived.Lib.AppendIntMem
namespace Go.Proofs.YtleppmjconljfaaDoor.T1
open Go.RowKit Go.Proofs.YtleppmjconljfaaDoorW.PrintWords Go.Proofs.YtleppmjconljfaaDoorW.PrintLast Go.Proofs.YtleppmjconljfaaDoorW.PrintMore
open Go.Proofs.YtleppmjconljfaaDoor.Tree Go.Proofs.YtleppmjconljfaaDoor.PA
set_option linter.unusedVariables false
set_option linter.unusedSimpArgs false

/-- The table of powers of ten reads as laid, here and in whatever comes of this world. -/
def Tab (w : World) : Prop := Lib.TabBelow Tryd.prog w.heap.size w "internal/strconv.uint64pow10" .u64 Lib.pow10Tab
theorem Tab.here {w : World} (h : Tab w) : Lib.TabIs Tryd.prog w "internal/strconv.uint64pow10" .u64 Lib.pow10Tab := Lib.TabBelow.here h
theorem Tab.on {w w1 : World} (h : Tab w) (hb : Below w.heap.size w w1) : Tab w1 := fun w2 h2 => h w2 (below_then hb hb.size h2)

set_option maxHeartbeats 1000000 in
theorem numText_calls (n : Int) (w : World) (ht : Tab w) (hn : -9223372036854775808 ≤ n ∧ n ≤ 9223372036854775807) :
    Calls Tryd.prog 45 #[.int .i64 n] w fun e w' => e = .returned (.string (numTxt n)) ∧ Below w.heap.size w w' := by
  have HT := Aside0.mk ht.here
  clear ht
  go_enter Tryd.func45, Tryd.ntmps45
  go_wp2_with (first
    | (go_at_call 70; refine (Tryd.strconv_FormatInt_10 n hn.1 hn.2 _ HT.out).mono ?_; rintro e w1 ⟨rfl, hw1⟩; have HW := Aside0.mk hw1; clear hw1))
  go_ret
  refine ⟨rfl, ?_⟩
  obtain ⟨k, os, rfl⟩ := HW.out
  exact Lib.below_grow _ _ (Nat.le_refl _) _ _
end Go.Proofs.YtleppmjconljfaaDoor.T1
