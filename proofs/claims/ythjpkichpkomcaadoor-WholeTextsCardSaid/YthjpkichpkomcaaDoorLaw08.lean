/- The law's turning of one kind of number into the other. -/
import Derived.Test.YthjpkichpkomcaaDoorRef08a
import Derived.Test.YthjpkichpkomcaaDoorWhole4
import Derived.Outline
namespace Go.Proofs.YthjpkichpkomcaaDoor
open Go.RowKit Go.Proofs.YthjpkichpkomcaaDoor.Big
set_option linter.unusedVariables false
set_option maxRecDepth 100000
attribute [local go_sem ↓] Go.wp_at_zero Go.wp_at_succ

set_option maxHeartbeats 1000000 in
theorem law_To (n : Bool) (A : Option Addr) (m c : Nat) (w : World) :
    Calls Tryd.prog 10 #[.agg #[.bool n, .slice A m c]] w fun e w' => e = .returned (.agg #[.bool n, .slice A m c]) ∧ Below w.heap.size w w' := by
  go_enter Tryd.func10, Tryd.ntmps10
  have R0 := Blk.new (w.alloc (.cells #[.bool n, .slice A m c] 24)) [.bool n, .slice A m c] 26
  simp only [World.size_alloc] at R0
  go_wp2
  refine bodyPost_ret (ret_blk rfl rfl R0 Tryd.underlying26 (by kernel_rfl)) rfl ?_
  exact ⟨rfl, ((Below.refl _ _).alloc (Nat.le_refl _) _).alloc (by simp) _⟩

set_option maxHeartbeats 1000000 in
theorem law_Of (n : Bool) (A : Option Addr) (m c : Nat) (w : World) :
    Calls Tryd.prog 12 #[.agg #[.bool n, .slice A m c]] w fun e w' => e = .returned (.agg #[.bool n, .slice A m c]) ∧ Below w.heap.size w w' := by
  go_enter Tryd.func12, Tryd.ntmps12
  have R0 := Blk.new (w.alloc (.cells #[.bool n, .slice A m c] 26)) [.bool n, .slice A m c] 24
  simp only [World.size_alloc] at R0
  go_wp2
  refine bodyPost_ret (ret_blk rfl rfl R0 Tryd.underlying24 (by kernel_rfl)) rfl ?_
  exact ⟨rfl, ((Below.refl _ _).alloc (Nat.le_refl _) _).alloc (by simp) _⟩

end Go.Proofs.YthjpkichpkomcaaDoor
