/- A part of the session's texts, laid small by the session's shrink.py. -/
import Derived.Test.YtjpkcbkkjefekaaGreatDoorV0
namespace Go.Proofs.YtjpkcbkkjefekaaGreatDoor.V
open Go.RowKit Go.Proofs.YtjpkcbkkjefekaaGreatDoorW.PrintWords Go.Proofs.YtjpkcbkkjefekaaGreatDoorW.PrintLast Go.Proofs.YtjpkcbkkjefekaaGreatDoorW.PrintMore
set_option linter.unusedVariables false
set_option linter.unusedSimpArgs false
theorem store_step {P : Program} {ops : Array Oper} {o : Oper} {a : Act} {Q : Exit → Act → World → Prop} {Kc : Act → World → Prop} {W : World} (hw : Region.wanted o (yielded ops a.tmps) = true) (hN : o.dst = none) {t : TypeId} {p x : Operand} (ho : o.op = .store t p x) {g i : Nat} {e : TypeId} {cur : Array Value} {u : Value}
    (haddr : a.eval p = .pointer (some ⟨g, i, none⟩)) (hx : a.eval x = u) (hh : W.heap[g]? = some (.cells cur e (0, 0))) (hu : u.cells.toList = [u]) (h1 : u.oneCell' = true) (ht : (P.info? t).map (·.size) = some 1) (hfit : i < cur.size) (h : Kc a (W.setCell ⟨g, i, none⟩ u)) :
    if Region.wanted o (yielded ops a.tmps) = true then Oper.wp P o a W Kc Q else Kc (a.put none undef) W := by
 have hrun : (Instr.storeAt t (.pointer (some ⟨g, i, none⟩)) u).run P W = .ok () (W.setCell ⟨g, i, none⟩ u) := run_store_run (P := P) (o := i) t u [u] hh hu (by simpa using ht) (by simp only [List.length_singleton]; omega) (fun q hq => by rw [List.mem_singleton.1 hq]; exact h1)
 rw [if_pos hw]
 unfold Oper.wp execOp
 simp only [ho, haddr, hx, Sem.run_bind, Sem.run_pure, Result.andThen_ok, hrun]
 show Kc (a.put o.dst undef) _
 rw [hN]
 exact h
theorem ints_set {w : World} {base : Nat} {ok : Nat → Prop} {v : Value} {xs : List Int} {g t : Nat} {cells : Array Value} (h : (Kd.int .i64).R 3 w base ok v xs) (hb : w.heap[g]? = some (.cells cells t (0, 0))) (ht : 3 ≠ t) (j : Nat) (u : Value) :
    (Kd.int .i64).R 3 (w.setCell ⟨g, j, none⟩ u) base ok v xs :=
  Kd.R_set h hb (fun q hq => by
    have : q = 3 := by simpa [Kd.int, Kd.scalar] using hq
    rw [this]
    exact ht) j u
theorem size_ints : (Tryz.prog.info? 50).map (·.size) = some 1 := by kernel_rfl
end Go.Proofs.YtjpkcbkkjefekaaGreatDoor.V
