/- The document's answer for layer 8: the other side of 0 (Neg). -/
import Derived.Test.YthjpkichpkomcaaDoorRef08a
import Derived.Test.YthjpkichpkomcaaDoorRef02b
import Derived.Outline
namespace Go.Proofs.YthjpkichpkomcaaDoor
open Go.RowKit Go.Proofs.YthjpkichpkomcaaDoor.Big
set_option linter.unusedVariables false
set_option maxRecDepth 100000
attribute [local go_sem ↓] Go.wp_at_zero Go.wp_at_succ

set_option maxHeartbeats 1000000 in
theorem ref08_Neg (ok : Nat → Prop) (n : Bool) (A : Option Addr) (c : Nat) (l : List Int) (w : World) (h : Rd ok w A l) (hc : l.length ≤ c) (hbig : l.length < 100000000000) :
    Calls Tryd.prog 16 #[.agg #[.bool n, .slice A l.length c]] w (WhOut (-zv n l) w) := by
  have HZ := Asd.mk (zv_not n l)
  go_enter Tryd.func16, Tryd.ntmps16
  go_wp2_with fail
  have R0 := Blk.new (w.alloc (.cells #[.bool n, .slice A l.length c] 24)) [.bool false, .slice none 0 0] 24
  have rh := (h.alloc (.cells #[.bool n, .slice A l.length c] 24)).alloc (.cells #[.bool false, .slice none 0 0] 24)
  have hb0 := ((Below.refl w.heap.size w).alloc (Nat.le_refl _) (.cells #[.bool n, .slice A l.length c] 24)).alloc (by simp) (.cells #[.bool false, .slice none 0 0] 24)
  simp only [World.size_alloc] at R0
  generalize (w.alloc (.cells #[.bool n, .slice A l.length c] 24)).alloc (.cells #[.bool false, .slice none 0 0] 24) = W at *
  clear h
  refine (ref08_Norm ok (!n) A c l _ rh hc hbig).mono ?_
  rintro e w1 ⟨A1, c1, rfl, hc1, hr1, hb1⟩
  rw [HZ.out] at hc1 hr1 ⊢
  have R1 := R0.below hb1
  have r0 := R1.c 0 rfl; have r1 := R1.c 1 rfl; have rf := R1.f; have rl := R1.lt
  have hlt := R0.lt
  go_wp2
  refine bodyPost_ret (ret_blk rfl rfl ((R1.set 0 _).set 1 _) Tryd.underlying24 (by kernel_rfl)) rfl ?_
  exact ⟨_, _, rfl, hc1, ((hr1.setCell (by simp; omega) _).setCell (by simp; omega) _).mono (fun k _ hk => by omega), ((below_go hb0 hb1).setCell (by simp) _).setCell (by simp) _⟩

end Go.Proofs.YthjpkichpkomcaaDoor
