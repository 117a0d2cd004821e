/- The document's answer for layer 8: sameness (Same). -/
import Derived.Test.YthjpkichpkomcaaDoorRef08b
import Derived.Test.YthjpkichpkomcaaDoorRef02b
import Derived.Outline
namespace Go.Proofs.YthjpkichpkomcaaDoor
open Go.RowKit Go.Proofs.YthjpkichpkomcaaDoor.Big
set_option linter.unusedVariables false
set_option maxRecDepth 100000
attribute [local go_sem ↓] Go.wp_at_zero Go.wp_at_succ

set_option maxHeartbeats 1000000 in
theorem ref08_Same (ok ok' : Nat → Prop) (n : Bool) (A A' : Option Addr) (c c' : Nat) (l : List Int) (w : World) (h : Rd ok w A l) (h' : Rd ok' w A' l) (hc : l.length ≤ c) (hc' : l.length ≤ c') :
    Calls Tryd.prog 11 #[.agg #[.bool n, .slice A l.length c], .agg #[.bool n, .slice A' l.length c']] w fun e w' => e = .returned (.bool true) ∧ Below w.heap.size w w' := by
  go_enter Tryd.func11, Tryd.ntmps11
  go_wp2_with fail
  refine (ref02_Same ok ok' A A' c c' l _ ((h.alloc _).alloc _) ((h'.alloc _).alloc _) hc hc').mono ?_
  rintro e w1 ⟨hd, rfl⟩
  have hb := (((Below.refl w.heap.size w).alloc (Nat.le_refl _) (.cells #[.bool n, .slice A l.length c] 24)).alloc (by simp) (.cells #[.bool n, .slice A' l.length c'] 24)).trans (hd.below _)
  go_wp2
  go_ret
  exact ⟨rfl, hb⟩
end Go.Proofs.YthjpkichpkomcaaDoor
