/- Small · Quot -/
import Derived.Test.YthjpkichpkomcaaGreatDoorBRowFigureNear5
import Derived.Outline
import Derived.WalkLawsBesides
/- Layer 2: a list's value, if it is below 2^64 (nat.Small). -/
namespace Go.Proofs.YthjpkichpkomcaaGreatDoor
open Go.RowKit Go.Proofs.YthjpkichpkomcaaGreatDoor.Big
set_option linter.unusedVariables false
set_option maxRecDepth 100000

theorem rep_le_two {v : Int} (h0 : 0 ≤ v) : (rep v).length ≤ 2 ↔ v < 18446744073709551616 := by
  have e : pw 2 = 18446744073709551616 := by rw [pw_succ, pw_one]; rfl
  constructor
  · intro h
    have h1 := lt_pw_rep h0
    have h2 := pw_mono h
    omega
  · intro h
    exact rep_length_le (by omega)
theorem or_zero_u64 {y : Int} (hy0 : 0 ≤ y) (hy1 : y < 4294967296) : bits .or .u64 0 y = y := by
  have := or_u64 hy0 hy1 (Int.le_refl 0) (by decide)
  have e : bits .or .u64 0 y = bits .or .u64 y (0 * 4294967296) := by
    rw [Int.zero_mul]; unfold bits; simp
  rw [e, this]; omega

set_option maxHeartbeats 400000 in
theorem nat_Small_no (ok : Nat → Prop) (A : Option Addr) (c : Nat) (l : List Int) (w : World) (h : Rd ok w A l) (hc : l.length ≤ c) (hv : 18446744073709551616 ≤ val l) :
    Calls Tryz.prog 192 #[.slice A l.length c] w fun e w' => w = w' ∧ e = .returned (.tuple #[.int .u64 0, .bool false]) := by
  have hl : decide (2 < (rep (val l)).length) = true := decide_eq_true (by
    rcases Nat.lt_or_ge 2 (rep (val l)).length with h2 | h2
    · exact h2
    · have := (rep_le_two (val_nonneg h.wd)).1 h2; omega)
  have hl2 : decide ((2 : Int) < ((rep (val l)).length : Int)) = true := decide_eq_true (by have := of_decide_eq_true hl; omega)
  clear hv
  go_enter Tryz.func192, Tryz.ntmps192
  go_wp2_with fail
  refine (nat_trim ok A c l w h hc).mono ?_
  rintro e w1 ⟨rfl, rfl, he, hle⟩
  clear he hle h
  go_wp2
  go_ret2
  exact ⟨rfl, rfl⟩

set_option maxHeartbeats 1000000 in
theorem nat_Small (ok : Nat → Prop) (A : Option Addr) (c : Nat) (l : List Int) (w : World) (h : Rd ok w A l) (hc : l.length ≤ c) (hv : val l < 18446744073709551616) :
    Calls Tryz.prog 192 #[.slice A l.length c] w fun e w' => w = w' ∧ e = .returned (.tuple #[.int .u64 (val l), .bool true]) := by
  have hle2 := (rep_le_two (val_nonneg h.wd)).2 hv
  have hl2 : decide ((2 : Int) < ((rep (val l)).length : Int)) = false := decide_eq_false (by omega)
  have HVR := Asd.mk (val_rep (val_nonneg h.wd))
  clear hv
  go_enter Tryz.func192, Tryz.ntmps192
  go_wp2_with fail
  refine (nat_trim ok A c l w h hc).mono ?_
  rintro e w1 ⟨rfl, rfl, he, hle⟩
  have hr : Rd ok w A (rep (val l)) := by rw [he]; exact h.take _
  clear he hle h
  generalize rep (val l) = m at *
  go_wp2
  go_loop [4, 14] (fun v i => ∃ k : Nat, k ≤ m.length ∧ i = .int .i64 k ∧ v = .int .u64 (val (m.take k))) (fun _ i => m.length - (intOf i).toNat)
  case atStart => exact ⟨0, Nat.zero_le _, rfl, rfl⟩
  case round =>
    obtain ⟨k, hk, rfl, rfl⟩ := hrel
    by_cases hlt : k < m.length
    · obtain ⟨ad, x, rfl, ho, hcell, hx0, hx1, HX⟩ := hr.el k hlt
      have HN := Asd.mk (val_take_succ m k hlt)
      rw [HX.out] at HN
      have hv0 := val_nonneg (hr.wd.take k)
      have hv1 := val_lt (hr.wd.take k)
      rw [List.length_take, Nat.min_eq_left hk] at hv1
      generalize val (m.take k) = v at *
      have hk2 : k = 0 ∨ k = 1 := by omega
      have hor : bits .or .u64 v (x * pw k) = v + pw k * x := by
        rcases hk2 with h0 | h0
        · subst h0
          rw [pw_zero] at hv1 ⊢
          rw [show v = 0 by omega, Int.mul_one, or_zero_u64 hx0 hx1]; omega
        · subst h0
          rw [pw_one] at hv1 ⊢
          rw [or_u64 hv0 hv1 hx0 hx1]; omega
      have hpw : (2 : Int) ^ (32 * k) = pw k := by unfold pw; rw [Int.pow_mul]; rfl
      have hp1 : 0 ≤ pw k ∧ pw k ≤ 4294967296 := by rcases hk2 with h0 | h0 <;> subst h0 <;> decide
      have hb0 : 0 ≤ x * pw k := Int.mul_nonneg hx0 hp1.1
      have hb1 : x * pw k ≤ 4294967295 * 4294967296 := Int.mul_le_mul (by omega) hp1.2 hp1.1 (by decide)
      have hsh : (32 * (k : Int)).toNat = 32 * k := by omega
      have hw : IntKind.u64.wrap (x * pw k) = x * pw k := by rw [IntKind.wrap_u64]; omega
      have HP := Asd.mk hp1
      clear hp1
      generalize pw k = p at *
      have HW := Asd.mk (And.intro hw hor)
      clear hk2 hw hor
      go_wp2
      go_round
      case rel => exact ⟨k + 1, by omega, by go_num, by rw [HN.out]; first | rw [HW.out.2] | rw [HW.out.1, HW.out.2]⟩
      case measure => simp [intOf]; omega
    · have hkl : k = m.length := by omega
      subst hkl
      rw [List.take_of_length_le (Nat.le_refl _)]
      go_wp2
      go_ret2
      exact ⟨rfl, by rw [HVR.out]; rfl⟩
end Go.Proofs.YthjpkichpkomcaaGreatDoor
/- Layer 5: quotients of naturals (limb.Len, limb.Div, quot). -/
namespace Go.Proofs.YthjpkichpkomcaaGreatDoor
open Go.RowKit Go.Proofs.YthjpkichpkomcaaGreatDoor.Big
set_option linter.unusedVariables false
set_option maxRecDepth 100000

theorem or_u64' {x y : Int} (hx0 : 0 ≤ x) (hx1 : x < 4294967296) (hy0 : 0 ≤ y) (hy1 : y < 4294967296) : bits .or .u64 (y * 4294967296) x = y * 4294967296 + x := by
  have hw : ∀ n : Int, 0 ≤ n → n < 2 ^ 64 → IntKind.u64.wrap n = n := fun n h0 h1 => by rw [IntKind.wrap_u64]; omega
  exact bits_join .u64 64 (by decide) hw 32 (y * 4294967296) x (by omega) (by omega) (by omega) hx0 (by omega) (by omega)

set_option maxHeartbeats 400000 in
theorem limb_Div_no (a b y : Int) (h : y ≤ a) (w : World) :
    Calls Tryz.prog 160 #[.int .u32 a, .int .u32 b, .int .u32 y] w fun e w' => e = .returned (.tuple #[.int .u32 0, .int .u32 0, .bool false]) ∧ w = w' := by
  go_enter Tryz.func160, Tryz.ntmps160
  go_wp2
  go_ret3
  exact ⟨rfl, rfl⟩

set_option maxHeartbeats 400000 in
theorem limb_Div (a b y : Int) (ha0 : 0 ≤ a) (ha1 : a < 4294967296) (hb0 : 0 ≤ b) (hb1 : b < 4294967296) (hy1 : y < 4294967296) (h : a < y) (w : World) :
    Calls Tryz.prog 160 #[.int .u32 a, .int .u32 b, .int .u32 y] w fun e w' => ∃ q r : Int, e = .returned (.tuple #[.int .u32 q, .int .u32 r, .bool true]) ∧ a * 4294967296 + b = q * y + r ∧ 0 ≤ r ∧ r < y ∧ 0 ≤ q ∧ q < 4294967296 ∧ Dn w w' := by
  have hor := or_u64' hb0 hb1 ha0 ha1
  have hq1 : (a * 4294967296 + b) / y < 4294967296 := Int.ediv_lt_of_lt_mul (by omega) (by
    have : (a + 1) * 4294967296 ≤ y * 4294967296 := by omega
    rw [Int.mul_comm 4294967296 y]
    omega)
  have hq0 : 0 ≤ (a * 4294967296 + b) / y := Int.ediv_nonneg (by omega) (by omega)
  have hr0 : 0 ≤ (a * 4294967296 + b) % y := Int.emod_nonneg _ (by omega)
  have hr1 : (a * 4294967296 + b) % y < y := Int.emod_lt_of_pos _ (by omega)
  have HE : Asd (a * 4294967296 + b = (a * 4294967296 + b) / y * y + (a * 4294967296 + b) % y) := ⟨by have := Int.mul_ediv_add_emod (a * 4294967296 + b) y; rw [Int.mul_comm y] at this; exact this.symm⟩
  have hy0 : 0 < y := by omega
  go_enter Tryz.func160, Tryz.ntmps160
  go_wp2_with fail
  go_quiet (fail)
  go_wp2
  go_ret3
  exact ⟨_, _, rfl, HE.out, hr0, hr1, hq0, hq1, (Dn.refl _).step _⟩

theorem len_step {x0 : Int} (n s : Nat) : x0 / 2 ^ (n + s) = x0 / 2 ^ n / 2 ^ s := by
  rw [Int.pow_add, Int.ediv_ediv_of_nonneg (by have := two_pow_pos n; omega)]
theorem len_end {x0 : Int} {n : Nat} (h : x0 / 2 ^ n = 1) : 2 ^ n ≤ x0 ∧ x0 < 2 ^ (n + 1) := by
  have hp := two_pow_pos n
  have h1 := Int.mul_ediv_add_emod x0 (2 ^ n)
  have h2 := Int.emod_nonneg x0 (show (2 : Int) ^ n ≠ 0 by omega)
  have h3 := Int.emod_lt_of_pos x0 hp
  rw [h] at h1
  rw [Int.pow_succ]
  omega

set_option maxHeartbeats 1000000 in
theorem limb_Len (x0 : Int) (h0 : 0 < x0) (h1 : x0 < 4294967296) (w : World) :
    Calls Tryz.prog 175 #[.int .u32 x0] w fun e w' => ∃ n : Nat, e = .returned (.int .i64 ((n : Int) + 1)) ∧ n ≤ 31 ∧ 2 ^ n ≤ x0 ∧ x0 < 2 ^ (n + 1) ∧ w = w' := by
  go_enter Tryz.func175, Tryz.ntmps175
  go_wp2
  go_loop [0, 3, 4] (fun x m st => ∃ (xv : Int) (n : Nat) (s : Int), x = .int .u32 xv ∧ m = .int .i64 n ∧ st = .int .i64 s ∧ n ≤ 31 ∧ 0 < xv ∧ xv < 4294967296 ∧ Asd (x0 / 2 ^ n = xv) ∧ Asd ((s = 16 ∧ n ≤ 0) ∨ (s = 8 ∧ xv < 65536 ∧ n ≤ 16) ∨ (s = 4 ∧ xv < 256 ∧ n ≤ 24) ∨ (s = 2 ∧ xv < 16 ∧ n ≤ 28) ∨ (s = 1 ∧ xv < 4 ∧ n ≤ 30) ∨ (s = 0 ∧ xv < 2))) (fun _ _ st => (intOf st).toNat)
  case atStart => exact ⟨x0, 0, 16, rfl, rfl, rfl, by omega, h0, h1, ⟨by simp⟩, ⟨.inl ⟨rfl, Nat.le_refl _⟩⟩⟩
  case round =>
    obtain ⟨xv, n, s, rfl, rfl, rfl, hn, hx0, hx1, HX, HS⟩ := hrel
    rcases HS.out with ⟨rfl, hb⟩ | ⟨rfl, hb, hb2⟩ | ⟨rfl, hb, hb2⟩ | ⟨rfl, hb, hb2⟩ | ⟨rfl, hb, hb2⟩ | ⟨rfl, hb⟩
    · clear HS
      by_cases hx : xv < 65536
      · have hd : xv / 65536 = 0 := by omega
        go_wp2
        go_round
        case rel => exact ⟨xv, n, 8, rfl, rfl, rfl, by omega, by omega, by omega, HX, ⟨.inr (.inl ⟨rfl, by omega, by omega⟩)⟩⟩
        case measure => simp [intOf]
      · have hd : (xv / 65536 == 0) = false := by simp; omega
        have hd2 : 0 ≤ xv / 65536 := by omega
        have HX2 : Asd (x0 / 2 ^ (n + 16) = xv / 65536) := ⟨by rw [← HX.out]; exact len_step n 16⟩
        go_wp2
        go_round
        case rel => exact ⟨xv / 65536, n + 16, 8, rfl, by go_num, rfl, by omega, by omega, by omega, HX2, ⟨.inr (.inl ⟨rfl, by omega, by omega⟩)⟩⟩
        case measure => simp [intOf]
    · clear HS
      by_cases hx : xv < 256
      · have hd : xv / 256 = 0 := by omega
        go_wp2
        go_round
        case rel => exact ⟨xv, n, 4, rfl, rfl, rfl, by omega, by omega, by omega, HX, ⟨.inr (.inr (.inl ⟨rfl, by omega, by omega⟩))⟩⟩
        case measure => simp [intOf]
      · have hd : (xv / 256 == 0) = false := by simp; omega
        have hd2 : 0 ≤ xv / 256 := by omega
        have HX2 : Asd (x0 / 2 ^ (n + 8) = xv / 256) := ⟨by rw [← HX.out]; exact len_step n 8⟩
        go_wp2
        go_round
        case rel => exact ⟨xv / 256, n + 8, 4, rfl, by go_num, rfl, by omega, by omega, by omega, HX2, ⟨.inr (.inr (.inl ⟨rfl, by omega, by omega⟩))⟩⟩
        case measure => simp [intOf]
    · clear HS
      by_cases hx : xv < 16
      · have hd : xv / 16 = 0 := by omega
        go_wp2
        go_round
        case rel => exact ⟨xv, n, 2, rfl, rfl, rfl, by omega, by omega, by omega, HX, ⟨.inr (.inr (.inr (.inl ⟨rfl, by omega, by omega⟩)))⟩⟩
        case measure => simp [intOf]
      · have hd : (xv / 16 == 0) = false := by simp; omega
        have hd2 : 0 ≤ xv / 16 := by omega
        have HX2 : Asd (x0 / 2 ^ (n + 4) = xv / 16) := ⟨by rw [← HX.out]; exact len_step n 4⟩
        go_wp2
        go_round
        case rel => exact ⟨xv / 16, n + 4, 2, rfl, by go_num, rfl, by omega, by omega, by omega, HX2, ⟨.inr (.inr (.inr (.inl ⟨rfl, by omega, by omega⟩)))⟩⟩
        case measure => simp [intOf]
    · clear HS
      by_cases hx : xv < 4
      · have hd : xv / 4 = 0 := by omega
        go_wp2
        go_round
        case rel => exact ⟨xv, n, 1, rfl, rfl, rfl, by omega, by omega, by omega, HX, ⟨.inr (.inr (.inr (.inr (.inl ⟨rfl, by omega, by omega⟩))))⟩⟩
        case measure => simp [intOf]
      · have hd : (xv / 4 == 0) = false := by simp; omega
        have hd2 : 0 ≤ xv / 4 := by omega
        have HX2 : Asd (x0 / 2 ^ (n + 2) = xv / 4) := ⟨by rw [← HX.out]; exact len_step n 2⟩
        go_wp2
        go_round
        case rel => exact ⟨xv / 4, n + 2, 1, rfl, by go_num, rfl, by omega, by omega, by omega, HX2, ⟨.inr (.inr (.inr (.inr (.inl ⟨rfl, by omega, by omega⟩))))⟩⟩
        case measure => simp [intOf]
    · clear HS
      by_cases hx : xv < 2
      · have hd : xv / 2 = 0 := by omega
        go_wp2
        go_round
        case rel => exact ⟨xv, n, 0, rfl, rfl, rfl, by omega, by omega, by omega, HX, ⟨.inr (.inr (.inr (.inr (.inr ⟨rfl, by omega⟩))))⟩⟩
        case measure => simp [intOf]
      · have hd : (xv / 2 == 0) = false := by simp; omega
        have hd2 : 0 ≤ xv / 2 := by omega
        have HX2 : Asd (x0 / 2 ^ (n + 1) = xv / 2) := ⟨by rw [← HX.out]; exact len_step n 1⟩
        go_wp2
        go_round
        case rel => exact ⟨xv / 2, n + 1, 0, rfl, by go_num, rfl, by omega, by omega, by omega, HX2, ⟨.inr (.inr (.inr (.inr (.inr ⟨rfl, by omega⟩))))⟩⟩
        case measure => simp [intOf]
    · clear HS
      have hx : xv = 1 := by omega
      subst hx
      have HR := Asd.mk (len_end HX.out)
      go_wp2
      go_ret
      exact ⟨n, rfl, hn, HR.out.1, HR.out.2, rfl⟩

theorem word_step {D a Q r x q2 r2 : Int} (hx : 0 < x) (hQ : D / x = Q) (hr : D % x = r) (h : r * 4294967296 + a = q2 * x + r2) (h0 : 0 ≤ r2) (h1 : r2 < x) : (a + 4294967296 * D) / x = q2 + 4294967296 * Q ∧ (a + 4294967296 * D) % x = r2 := by
  have hD := Int.mul_ediv_add_emod D x
  rw [hQ, hr] at hD
  have e : a + 4294967296 * D = r2 + x * (q2 + 4294967296 * Q) := by grind
  rw [e]
  constructor
  · rw [Int.add_mul_ediv_left _ _ (by omega), Int.ediv_eq_zero_of_lt h0 h1]
    omega
  · rw [Int.add_mul_emod_self_left, Int.emod_eq_of_lt h0 h1]
theorem val_drop_set (q : List Int) (k : Nat) (x : Int) (hk : k < q.length) : val ((q.set k x).drop k) = x + 4294967296 * val (q.drop (k + 1)) := by
  rw [val_drop _ k (by rw [List.length_set]; omega), drop_set_succ]
  congr 1
  rw [List.getD_eq_getElem?_getD, List.getElem?_set_self hk]; rfl

set_option maxHeartbeats 1000000 in
theorem quot_Word (ok : Nat → Prop) (A : Option Addr) (cA : Nat) (l : List Int) (x : Int) (w : World) (h : Rd ok w A l) (hc : l.length ≤ cA) (hbig : l.length < 100000000000) (hx0 : 0 < x) (hx1 : x < 4294967296) :
    Calls Tryz.prog 114 #[.slice A l.length cA, .int .u32 x] w fun e w' => ∃ A1 c1, e = .returned (.tuple #[.slice A1 (rep (val l / x)).length c1, .int .u32 (val l % x), .bool true]) ∧ (rep (val l / x)).length ≤ c1 ∧ Rd (fun k => w.heap.size ≤ k) w' A1 (rep (val l / x)) ∧ Below w.heap.size w w' := by
  obtain ⟨hmk, how⟩ := make_u32 w l.length (by omega)
  have HOW := Asd.mk how
  clear how
  have hr := (h.mono (ok' := fun k => k < w.heap.size) (fun k hk _ => hk)).alloc (.cells (madeCells #[.int .u32 0] l.length) 125)
  have hb0 : Below w.heap.size w (w.alloc (.cells (madeCells #[.int .u32 0] l.length) 125)) := (Below.refl _ _).alloc (Nat.le_refl _) _
  have HSZ : Asd (w.heap.size < (w.alloc (.cells (madeCells #[.int .u32 0] l.length) 125)).heap.size) := ⟨by simp⟩
  have hxb : (x == 0) = false := by simp; omega
  clear h
  go_enter Tryz.func114, Tryz.ntmps114
  go_wp2
  generalize w.alloc (.cells (madeCells #[.int .u32 0] l.length) 125) = w0 at *
  clear hmk
  go_loopw [5, 7] (fun u v wr => ∃ (j r : Int) (q : List Int), -1 ≤ j ∧ j < l.length ∧ v = .int .i64 j ∧ u = .int .u32 r ∧ 0 ≤ r ∧ r < x ∧ Asd (Ow wr w.heap.size l.length q) ∧ Asd (q.length = l.length) ∧ Asd (val (l.drop (j + 1).toNat) / x = val (q.drop (j + 1).toNat)) ∧ Asd (val (l.drop (j + 1).toNat) % x = r) ∧ Asd (w0.grownBy wr (some w.heap.size))) (fun _ v _ => (intOf v + 1).toNat)
  case atStart => exact ⟨(l.length : Int) - 1, 0, _, by omega, by omega, by go_num, rfl, by omega, hx0, HOW, ⟨by simp⟩, ⟨by rw [val_drop_zero _ _ (by omega), val_drop_zero _ _ (by rw [List.length_replicate]; omega)]; simp⟩, ⟨by rw [val_drop_zero _ _ (by omega)]; simp⟩, ⟨grown_refl _ _⟩⟩
  case round =>
    obtain ⟨j, r, q, hj0, hj1, rfl, rfl, hr0, hr1, HO, HOL, HV, HR, HK⟩ := hrel
    have hcap := HO.out.lt
    by_cases hj : 0 ≤ j
    · obtain ⟨k, rfl⟩ := Int.eq_ofNat_of_zero_le hj
      have r1 := hr.grown HK.out (Nat.lt_irrefl _)
      obtain ⟨ad, a, rfl, ho, hcell, ha0, ha1, HA⟩ := r1.el k (by omega)
      obtain ⟨z, hz, hz0, hz1, HZ⟩ := HO.out.el k (by have := HOL.out; omega)
      have hfr := HO.out.free k
      clear r1
      go_wp2_with fail
      (with_reducible refine (limb_Div _ _ _ hr0 (by omega) ha0 ha1 hx1 hr1 _).mono ?_)
      rintro e w2 ⟨q2, r2, rfl, hs, h20, h21, h30, h31, n, rfl⟩
      have HS := Asd.mk hs
      clear hs
      have HN : Asd (Ow ((wr.drewN n).setCell ⟨w.heap.size, k, none⟩ (.int .u32 q2)) w.heap.size l.length (q.set k q2)) := ⟨(HO.out.drewN n).set k h30 h31⟩
      have HGN : Asd (w0.grownBy ((wr.drewN n).setCell ⟨w.heap.size, k, none⟩ (.int .u32 q2)) (some w.heap.size)) := ⟨grown_trans HK.out (grown_trans (grown_drewN _ _ n) ((HO.out.drewN n).2.2.stored _ _).2)⟩
      go_wp2
      go_roundw
      case rel =>
        have hl := HOL.out
        have hst := word_step hx0 HV.out HR.out HS.out h20 h21
        rw [show ((k : Int) + 1).toNat = k + 1 from by omega] at hst
        refine ⟨(k : Int) - 1, r2, _, by omega, by omega, rfl, rfl, h20, h21, HN, ⟨by rw [List.length_set]; exact hl⟩, ⟨?_⟩, ⟨?_⟩, HGN⟩
        · rw [show ((k : Int) - 1 + 1).toNat = k from by omega, val_drop l k (by omega), HA.out, val_drop_set q k q2 (by omega)]
          exact hst.1
        · rw [show ((k : Int) - 1 + 1).toNat = k from by omega, val_drop l k (by omega), HA.out]
          exact hst.2
      case measure => simp [intOf]
    · have hj4 : j = -1 := by omega
      subst hj4
      have HV2 : Asd (val q = val l / x) := ⟨by have := HV.out; simpa using this.symm⟩
      have HR2 : Asd (val l % x = r) := ⟨by have := HR.out; simpa using this⟩
      have hb1 : Below w.heap.size w wr := hb0.grown HK.out (by have := HSZ.out; omega) (fun k hk => by injection hk with hk; omega)
      have hsz := hb1.size
      go_wp2_with fail
      have hq := nat_Norm (fun k => k = w.heap.size) (some ⟨w.heap.size, 0, none⟩) l.length q wr (HO.out.rd rfl) (by rw [HOL.out]; omega)
      rw [HV2.out, HOL.out] at hq
      (with_reducible refine hq.mono ?_)
      rintro e w2 ⟨g, rfl, how2, hg2, hb2⟩
      clear hq
      go_wp2
      go_ret3
      rw [HR2.out]
      exact ⟨_, _, rfl, Nat.le_refl _, how2.rd (by omega), hb1.trans (hb2.mono hsz)⟩
end Go.Proofs.YthjpkichpkomcaaGreatDoor
