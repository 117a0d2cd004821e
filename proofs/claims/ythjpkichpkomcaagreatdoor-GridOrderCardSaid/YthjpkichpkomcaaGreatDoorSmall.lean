/- Layer 2: a list's value, if it is below 2^64 (nat.Small). -/
import Derived.Test.YthjpkichpkomcaaGreatDoorTwos
import Derived.Outline
import Derived.WalkLawsBesides
namespace Go.Proofs.YthjpkichpkomcaaGreatDoor
open Go.RowKit Go.Proofs.YthjpkichpkomcaaGreatDoor.Big
set_option linter.unusedVariables false
set_option maxRecDepth 100000

theorem rep_le_two {v : Int} (h0 : 0 ≤ v) : (rep v).length ≤ 2 ↔ v < 18446744073709551616 := by
  have e : pw 2 = 18446744073709551616 := by rw [pw_succ, pw_one]; rfl
  constructor
  · intro h
    have h1 := lt_pw_rep h0
    have h2 := pw_mono h
    omega
  · intro h
    exact rep_length_le (by omega)
theorem or_zero_u64 {y : Int} (hy0 : 0 ≤ y) (hy1 : y < 4294967296) : bits .or .u64 0 y = y := by
  have := or_u64 hy0 hy1 (Int.le_refl 0) (by decide)
  have e : bits .or .u64 0 y = bits .or .u64 y (0 * 4294967296) := by
    rw [Int.zero_mul]; unfold bits; simp
  rw [e, this]; omega

set_option maxHeartbeats 400000 in
theorem nat_Small_no (ok : Nat → Prop) (A : Option Addr) (c : Nat) (l : List Int) (w : World) (h : Rd ok w A l) (hc : l.length ≤ c) (hv : 18446744073709551616 ≤ val l) :
    Calls Tryz.prog 192 #[.slice A l.length c] w fun e w' => w = w' ∧ e = .returned (.tuple #[.int .u64 0, .bool false]) := by
  have hl : decide (2 < (rep (val l)).length) = true := decide_eq_true (by
    rcases Nat.lt_or_ge 2 (rep (val l)).length with h2 | h2
    · exact h2
    · have := (rep_le_two (val_nonneg h.wd)).1 h2; omega)
  have hl2 : decide ((2 : Int) < ((rep (val l)).length : Int)) = true := decide_eq_true (by have := of_decide_eq_true hl; omega)
  clear hv
  go_enter Tryz.func192, Tryz.ntmps192
  go_wp2_with fail
  refine (nat_trim ok A c l w h hc).mono ?_
  rintro e w1 ⟨rfl, rfl, he, hle⟩
  clear he hle h
  go_wp2
  go_ret2
  exact ⟨rfl, rfl⟩

set_option maxHeartbeats 1000000 in
theorem nat_Small (ok : Nat → Prop) (A : Option Addr) (c : Nat) (l : List Int) (w : World) (h : Rd ok w A l) (hc : l.length ≤ c) (hv : val l < 18446744073709551616) :
    Calls Tryz.prog 192 #[.slice A l.length c] w fun e w' => w = w' ∧ e = .returned (.tuple #[.int .u64 (val l), .bool true]) := by
  have hle2 := (rep_le_two (val_nonneg h.wd)).2 hv
  have hl2 : decide ((2 : Int) < ((rep (val l)).length : Int)) = false := decide_eq_false (by omega)
  have HVR := Asd.mk (val_rep (val_nonneg h.wd))
  clear hv
  go_enter Tryz.func192, Tryz.ntmps192
  go_wp2_with fail
  refine (nat_trim ok A c l w h hc).mono ?_
  rintro e w1 ⟨rfl, rfl, he, hle⟩
  have hr : Rd ok w A (rep (val l)) := by rw [he]; exact h.take _
  clear he hle h
  generalize rep (val l) = m at *
  go_wp2
  go_loop [4, 14] (fun v i => ∃ k : Nat, k ≤ m.length ∧ i = .int .i64 k ∧ v = .int .u64 (val (m.take k))) (fun _ i => m.length - (intOf i).toNat)
  case atStart => exact ⟨0, Nat.zero_le _, rfl, rfl⟩
  case round =>
    obtain ⟨k, hk, rfl, rfl⟩ := hrel
    by_cases hlt : k < m.length
    · obtain ⟨ad, x, rfl, ho, hcell, hx0, hx1, HX⟩ := hr.el k hlt
      have HN := Asd.mk (val_take_succ m k hlt)
      rw [HX.out] at HN
      have hv0 := val_nonneg (hr.wd.take k)
      have hv1 := val_lt (hr.wd.take k)
      rw [List.length_take, Nat.min_eq_left hk] at hv1
      generalize val (m.take k) = v at *
      have hk2 : k = 0 ∨ k = 1 := by omega
      have hor : bits .or .u64 v (x * pw k) = v + pw k * x := by
        rcases hk2 with h0 | h0
        · subst h0
          rw [pw_zero] at hv1 ⊢
          rw [show v = 0 by omega, Int.mul_one, or_zero_u64 hx0 hx1]; omega
        · subst h0
          rw [pw_one] at hv1 ⊢
          rw [or_u64 hv0 hv1 hx0 hx1]; omega
      have hpw : (2 : Int) ^ (32 * k) = pw k := by unfold pw; rw [Int.pow_mul]; rfl
      have hp1 : 0 ≤ pw k ∧ pw k ≤ 4294967296 := by rcases hk2 with h0 | h0 <;> subst h0 <;> decide
      have hb0 : 0 ≤ x * pw k := Int.mul_nonneg hx0 hp1.1
      have hb1 : x * pw k ≤ 4294967295 * 4294967296 := Int.mul_le_mul (by omega) hp1.2 hp1.1 (by decide)
      have hsh : (32 * (k : Int)).toNat = 32 * k := by omega
      have hw : IntKind.u64.wrap (x * pw k) = x * pw k := by rw [IntKind.wrap_u64]; omega
      have HP := Asd.mk hp1
      clear hp1
      generalize pw k = p at *
      have HW := Asd.mk (And.intro hw hor)
      clear hk2 hw hor
      go_wp2
      go_round
      case rel => exact ⟨k + 1, by omega, by go_num, by rw [HN.out]; first | rw [HW.out.2] | rw [HW.out.1, HW.out.2]⟩
      case measure => simp [intOf]; omega
    · have hkl : k = m.length := by omega
      subst hkl
      rw [List.take_of_length_le (Nat.le_refl _)]
      go_wp2
      go_ret2
      exact ⟨rfl, by rw [HVR.out]; rfl⟩
end Go.Proofs.YthjpkichpkomcaaGreatDoor
