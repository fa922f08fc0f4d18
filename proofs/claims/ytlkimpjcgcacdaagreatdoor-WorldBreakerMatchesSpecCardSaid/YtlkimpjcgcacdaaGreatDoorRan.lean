/- The closed run of the law package (ran) answers true, in every world. -/
import Derived.Test.YtlkimpjcgcacdaaGreatDoorAxC
import Derived.Test.YtlkimpjcgcacdaaGreatDoorProg
import Derived.KernelRfl
namespace Go.Ax
open Go.Proofs
noncomputable def ranX : T Xt := ((T.nil.set 173 (some .clone)).set 366 (some (.fn ixE))).set 367 (some .same)
theorem ranX_ok : ∀ f k, ranX.get f = some k → XtOk Tryz.prog f k := by
  intro f k h
  unfold ranX at h
  by_cases h1 : f = 367
  · subst h1; rw [T.get_set_same] at h; cases h
    exact xt_same Tryz.func367 (by kernel_rfl) (by kernel_rfl) (by kernel_rfl) (by kernel_rfl)
  · rw [T.get_set_ne _ _ h1] at h
    by_cases h2 : f = 366
    · subst h2; rw [T.get_set_same] at h; cases h
      exact xt_ix Tryz.func366 (by kernel_rfl) (by kernel_rfl) (by kernel_rfl) (by kernel_rfl)
    · rw [T.get_set_ne _ _ h2] at h
      by_cases h3 : f = 173
      · subst h3; rw [T.get_set_same] at h; cases h
        exact xt_clone Tryz.func173 (by kernel_rfl) (by kernel_rfl) (by kernel_rfl) (by kernel_rfl)
      · rw [T.get_set_ne _ _ h3] at h; cases f <;> cases h
theorem ran_mixed : Tryz.prog.follows .mixedOrders = true := by kernel_rfl
theorem ran_names : plainNames Tryz.prog = true := by kernel_rfl
theorem ran_eval : okTrue (callG (ctxOf Tryz.prog ranX).noVars 100000 8 [] noHeap) = true := by kernel_rfl
theorem ran_closed (w : World) : Calls Tryz.prog 8 #[] w fun e w' => e = .returned (.bool true) ∧ RowKit.Below w.heap.size w w' := closed_prog ran_mixed ran_names ranX_ok ran_eval w
#print axioms ran_closed
end Go.Ax
