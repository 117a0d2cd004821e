/- Layer 8: the machine's numbers (whole.Int). -/
import Derived.Test.YthjpkichpkomcaaDoorSmall
import Derived.Test.YthjpkichpkomcaaDoorWhole4
import Derived.Test.YthjpkichpkomcaaDoorFlLaw
import Derived.Outline
import Derived.WalkLawsBesides
namespace Go.Proofs.YthjpkichpkomcaaDoor
open Go.RowKit Go.Proofs.YthjpkichpkomcaaDoor.Big
set_option linter.unusedVariables false
set_option maxRecDepth 100000
attribute [local go_sem ↓] Go.wp_at_zero Go.wp_at_succ

set_option maxHeartbeats 1000000 in
theorem whole_Int_no (ok : Nat → Prop) (n : Bool) (A : Option Addr) (c : Nat) (l : List Int) (w : World) (h : Rd ok w A l) (hc : l.length ≤ c) (hz : 9223372036854775807 < zv n l ∨ zv n l < -9223372036854775808) :
    Calls Tryd.prog 32 #[.agg #[.bool n, .slice A l.length c]] w fun e w' => e = .returned (.tuple #[.int .i64 0, .bool false]) ∧ Below w.heap.size w w' := by
  have hv0 := val_nonneg h.wd
  by_cases h64 : 18446744073709551616 ≤ val l
  · go_enter Tryd.func32, Tryd.ntmps32
    go_wp2_with fail
    refine (nat_Small_no ok A c l _ (h.alloc _) hc h64).mono ?_
    rintro e w1 ⟨rfl, rfl⟩
    clear hz h64 h hv0
    go_wp2
    go_ret2
    exact ⟨rfl, (Below.refl _ _).alloc (Nat.le_refl _) _⟩
  · have hsm := nat_Small ok A c l (w.alloc (.cells #[.bool n, .slice A l.length c] 26)) (h.alloc _) hc (by omega)
    rcases n with _ | _
    · have hz2 : 9223372036854775807 < val l := by rcases hz with hz | hz <;> simp [zv] at hz <;> omega
      clear hz h
      generalize val l = v at *
      by_cases hgt : 9223372036854775808 < v
      · have hd : decide (9223372036854775808 < v) = true := decide_eq_true hgt
        have HSM := Asd.mk hsm
        clear hsm
        go_enter Tryd.func32, Tryd.ntmps32
        go_wp2_with fail
        refine HSM.out.mono ?_
        rintro e w1 ⟨rfl, rfl⟩
        go_wp2
        go_ret2
        exact ⟨rfl, (Below.refl _ _).alloc (Nat.le_refl _) _⟩
      · have hd : v = 9223372036854775808 := by omega
        subst hd
        have HSM := Asd.mk hsm
        clear hsm hz2 h64 hv0
        go_enter Tryd.func32, Tryd.ntmps32
        go_wp2_with fail
        refine HSM.out.mono ?_
        rintro e w1 ⟨rfl, rfl⟩
        go_wp2
        go_ret2
        exact ⟨rfl, (Below.refl _ _).alloc (Nat.le_refl _) _⟩
    · have hz2 : 9223372036854775808 < val l := by rcases hz with hz | hz <;> simp [zv] at hz <;> omega
      clear hz h
      generalize val l = v at *
      have hd : decide (9223372036854775808 < v) = true := decide_eq_true hz2
      have HSM := Asd.mk hsm
      clear hsm
      go_enter Tryd.func32, Tryd.ntmps32
      go_wp2_with fail
      refine HSM.out.mono ?_
      rintro e w1 ⟨rfl, rfl⟩
      go_wp2
      go_ret2
      exact ⟨rfl, (Below.refl _ _).alloc (Nat.le_refl _) _⟩

theorem neg_wrap {v : Int} (h0 : 0 ≤ v) (h1 : v ≤ 9223372036854775808) : wrap64 (IntKind.u64.wrap (-v)) = -v := by
  rw [IntKind.wrap_u64]; unfold wrap64; omega

set_option maxHeartbeats 1000000 in
theorem whole_Int (ok : Nat → Prop) (n : Bool) (A : Option Addr) (c : Nat) (l : List Int) (w : World) (h : Rd ok w A l) (hc : l.length ≤ c) (h1 : -9223372036854775808 ≤ zv n l) (h2 : zv n l ≤ 9223372036854775807) :
    Calls Tryd.prog 32 #[.agg #[.bool n, .slice A l.length c]] w fun e w' => e = .returned (.tuple #[.int .i64 (zv n l), .bool true]) ∧ Below w.heap.size w w' := by
  have hv0 := val_nonneg h.wd
  have hsm := fun hb => nat_Small ok A c l (w.alloc (.cells #[.bool n, .slice A l.length c] 26)) (h.alloc _) hc hb
  rcases n with _ | _
  · have hz : zv false l = val l := rfl
    rw [hz] at h1 h2 ⊢
    replace hsm := hsm (by omega)
    clear h hz
    generalize val l = v at *
    have HSM := Asd.mk hsm
    clear hsm
    go_enter Tryd.func32, Tryd.ntmps32
    go_wp2_with fail
    refine HSM.out.mono ?_
    rintro e w1 ⟨rfl, rfl⟩
    go_wp2
    all_goals go_ret2
    all_goals exact ⟨rfl, (Below.refl _ _).alloc (Nat.le_refl _) _⟩
  · have hz : zv true l = -val l := rfl
    rw [hz] at h1 h2 ⊢
    replace hsm := hsm (by omega)
    clear h hz
    generalize val l = v at *
    have HSM := Asd.mk hsm
    have HW := Asd.mk (neg_wrap hv0 (by omega))
    clear hsm
    by_cases he : v = 9223372036854775808
    · have hd : (v == 9223372036854775808) = true := by simp [he]
      have hd2 : decide (9223372036854775808 < v) = false := decide_eq_false (by omega)
      clear he h1 h2
      go_enter Tryd.func32, Tryd.ntmps32
      go_wp2_with fail
      refine HSM.out.mono ?_
      rintro e w1 ⟨rfl, rfl⟩
      go_wp2
      go_ret2
      exact ⟨congrArg (fun x => Ending.returned (.tuple #[.int .i64 x, .bool true])) HW.out, (Below.refl _ _).alloc (Nat.le_refl _) _⟩
    · have hd : (v == 9223372036854775808) = false := by simp [he]
      have hd2 : decide (9223372036854775808 < v) = false := decide_eq_false (by omega)
      clear he h1 h2
      go_enter Tryd.func32, Tryd.ntmps32
      go_wp2_with fail
      refine HSM.out.mono ?_
      rintro e w1 ⟨rfl, rfl⟩
      go_wp2
      go_ret2
      exact ⟨congrArg (fun x => Ending.returned (.tuple #[.int .i64 x, .bool true])) HW.out, (Below.refl _ _).alloc (Nat.le_refl _) _⟩
end Go.Proofs.YthjpkichpkomcaaDoor
