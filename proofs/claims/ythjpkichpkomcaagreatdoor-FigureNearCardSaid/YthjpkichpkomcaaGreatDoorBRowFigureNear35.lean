/- PowB -/
import Derived.Test.YthjpkichpkomcaaGreatDoorBRowFigureNear34
import Derived.Test.YthjpkichpkomcaaGreatDoorBRowFigureNear6
import Derived.Test.YthjpkichpkomcaaGreatDoorBRowFigureNear19
/- Layers 3, 4: how many bits a natural has (twos.Len); powers (prod.Pow). -/
namespace Go.Proofs.YthjpkichpkomcaaGreatDoor
open Go.RowKit Go.Proofs.YthjpkichpkomcaaGreatDoor.Big
set_option linter.unusedVariables false
set_option maxRecDepth 100000

/-- How many bits a number has. -/
def bl (z : Int) : Nat := if z ≤ 0 then 0 else Nat.log2 z.toNat + 1
theorem two_cast (n : Nat) : ((2 ^ n : Nat) : Int) = 2 ^ n := by simp
theorem bl_eq {z : Int} {n : Nat} (h0 : (2 : Int) ^ n ≤ z) (h1 : z < 2 ^ (n + 1)) : bl z = n + 1 := by
  have hp : (0 : Int) < 2 ^ n := Int.pow_pos (by decide)
  unfold bl
  rw [if_neg (by omega)]
  congr 1
  rw [Nat.log2_eq_iff (by omega)]
  rw [← two_cast] at h0 h1
  omega
theorem bl_bd {z : Int} (h : 0 < z) : (2 : Int) ^ (bl z - 1) ≤ z ∧ z < 2 ^ bl z ∧ 0 < bl z := by
  unfold bl
  rw [if_neg (by omega)]
  have := (Nat.log2_eq_iff (n := z.toNat) (k := Nat.log2 z.toNat) (by omega)).1 rfl
  rw [← two_cast, ← two_cast, Nat.add_sub_cancel]
  omega
theorem pw_two_pow (n : Nat) : pw n = 2 ^ (32 * n) := by unfold pw; rw [Int.pow_mul]; rfl
theorem bl_rep {z : Int} (h : 0 < z) {m : Nat} (h0 : 2 ^ m ≤ (rep z).getD ((rep z).length - 1) 0) (h1 : (rep z).getD ((rep z).length - 1) 0 < 2 ^ (m + 1)) : bl z = 32 * ((rep z).length - 1) + m + 1 := by
  have hl := rep_length_pos h
  have hv := val_rep (Int.le_of_lt h)
  have h2 := val_take_succ (rep z) ((rep z).length - 1) (by omega)
  rw [show (rep z).length - 1 + 1 = (rep z).length by omega, List.take_length, hv] at h2
  have h3 := val_lt ((Wd_rep z).take ((rep z).length - 1))
  have h4 := val_nonneg ((Wd_rep z).take ((rep z).length - 1))
  rw [List.length_take, Nat.min_eq_left (by omega)] at h3
  generalize (rep z).getD ((rep z).length - 1) 0 = x at *
  generalize (rep z).length - 1 = n at *
  generalize val ((rep z).take n) = lo at *
  have hp := pw_pos n
  refine bl_eq ?_ ?_
  · rw [Int.pow_add, ← pw_two_pow]
    have := Int.mul_le_mul_of_nonneg_left h0 (Int.le_of_lt hp)
    omega
  · rw [show 32 * n + m + 1 = 32 * n + (m + 1) by omega, Int.pow_add, ← pw_two_pow]
    have := Int.mul_le_mul_of_nonneg_left (show x + 1 ≤ 2 ^ (m + 1) by omega) (Int.le_of_lt hp)
    rw [Int.mul_add] at this
    omega

set_option maxHeartbeats 1000000 in
theorem twos_Len (ok : Nat → Prop) (A : Option Addr) (c : Nat) (l : List Int) (w : World) (h : Rd ok w A l) (hc : l.length ≤ c) (hbig : l.length < 1000000000) :
    Calls Tryz.prog 173 #[.slice A l.length c] w fun e w' => e = .returned (.int .i64 (bl (val l))) ∧ Below w.heap.size w w' := by
  have hv := val_nonneg h.wd
  have hlen : (rep (val l)).length ≤ l.length := rep_length_le (val_lt h.wd)
  go_enter Tryz.func173, Tryz.ntmps173
  go_wp2_with fail
  refine (nat_Norm _ A c l w h hc).mono ?_
  rintro e w1 ⟨g, rfl, ho, hg, hb1⟩
  by_cases hz : val l = 0
  · have HB : Asd (bl (val l) = 0) := ⟨by rw [hz]; rfl⟩
    have h0 : (rep (val l)).length = 0 := by rw [hz, rep_zero]; rfl
    rw [h0]
    go_wp2
    go_ret
    exact ⟨by rw [HB.out]; rfl, hb1⟩
  · have hl := rep_length_pos (z := val l) (by omega)
    obtain ⟨x, hx, hx0, hx1, HX⟩ := ho.el ((rep (val l)).length - 1) (by omega)
    have hxp : 0 < x := by
      have h1 := rep_last (z := val l) (by intro e; rw [e] at hl; simp at hl)
      rw [List.getLast_eq_getElem, ← getD_eq _ _ (by omega), HX.out] at h1
      omega
    have HBR := Asd.mk (fun (m : Nat) (h0 : 2 ^ m ≤ x) (h1 : x < 2 ^ (m + 1)) => bl_rep (z := val l) (by omega) (m := m) (by rw [HX.out]; exact h0) (by rw [HX.out]; exact h1))
    generalize hn : (rep (val l)).length = n at *
    have hn0 : ¬ ((n : Int) = 0) := by omega
    have hn1 : ((n : Int) - 1).toNat = n - 1 := by omega
    have hn2 : 0 ≤ (n : Int) - 1 := by omega
    go_wp2_with fail
    refine (limb_Len x hxp hx1 w1).mono ?_
    rintro e w2 ⟨m, rfl, hm, h0, h1, rfl⟩
    have HE := Asd.mk (HBR.out m h0 h1)
    clear h0 h1
    go_wp2
    go_ret
    exact ⟨congrArg (fun i => Ending.returned (.int .i64 i)) (by rw [HE.out]; omega), hb1⟩

/-- The bits of an exponent, from above. -/
theorem pow_bit {v : Int} {e j : Nat} (hj : 0 < j) : v ^ (e / 2 ^ (j - 1)) = (v ^ (e / 2 ^ j)) * (v ^ (e / 2 ^ j)) * (if e / 2 ^ (j - 1) % 2 = 1 then v else 1) := by
  obtain ⟨i, rfl⟩ := Nat.exists_eq_add_of_lt hj
  rw [show 0 + i + 1 = i + 1 by omega, show i + 1 - 1 = i by omega, Nat.pow_succ, ← Nat.div_div_eq_div_mul]
  generalize e / 2 ^ i = q
  rw [← Int.pow_add]
  split
  · rw [← Int.pow_succ]; congr 1; omega
  · rw [Int.mul_one]; congr 1; omega
theorem and_one {q : Nat} (h : q < 128) : bits .and .i64 (q : Int) 1 = ((q % 2 : Nat) : Int) := by
  have hw : ∀ n : Int, 0 ≤ n → n < 2 ^ 7 → IntKind.i64.wrap n = n := fun n h0 h1 => by rw [IntKind.wrap_i64]; omega
  have := (bits_nat .i64 7 (by decide) hw q 1 (by omega) (by decide)).1
  rw [Nat.and_one_is_mod] at this
  exact this
theorem ipow_mono {a : Int} (ha : 1 ≤ a) {m n : Nat} (h : m ≤ n) : a ^ m ≤ a ^ n := by
  obtain ⟨k, rfl⟩ := Nat.exists_eq_add_of_le h
  rw [Int.pow_add]
  have h1 : 0 < a ^ m := Int.pow_pos (by omega)
  have h2 : 0 < a ^ k := Int.pow_pos (by omega)
  have := Int.mul_le_mul_of_nonneg_left (show 1 ≤ a ^ k by omega) (Int.le_of_lt h1)
  omega
theorem ipow_le {a b : Int} (h0 : 0 ≤ a) (h : a ≤ b) : ∀ n : Nat, a ^ n ≤ b ^ n
  | 0 => by rw [Int.pow_zero, Int.pow_zero]; exact Int.le_refl _
  | n + 1 => by
    rw [Int.pow_succ, Int.pow_succ]
    exact Int.mul_le_mul (ipow_le h0 h n) h h0 (Int.pow_nonneg (by omega))
theorem pow_small {v : Int} (h : 2 ≤ v) (hv : v < 18446744073709551616) {n : Nat} (hn : n ≤ 60) : 0 < v ^ n ∧ (rep (v ^ n)).length ≤ 120 := by
  have hp : 0 < v ^ n := Int.pow_pos (by omega)
  refine ⟨hp, rep_length_le ?_⟩
  have h1 : v ^ n ≤ v ^ 60 := ipow_mono (by omega) hn
  have h2 : v ^ 60 ≤ 18446744073709551615 ^ 60 := ipow_le (by omega) (by omega) 60
  have h3 : (18446744073709551615 : Int) ^ 60 < pw 120 := by decide +kernel
  omega

set_option maxHeartbeats 2000000 in
theorem prod_Pow (ok : Nat → Prop) (A : Option Addr) (c : Nat) (l : List Int) (e : Nat) (w : World) (h : Rd ok w A l) (hc : l.length ≤ c) (hl : l.length ≤ 2) (hv : 2 ≤ val l) (he : e ≤ 60) :
    Calls Tryz.prog 130 #[.slice A l.length c, .int .i64 (e : Int)] w fun x w' => ∃ A1 c1, x = .returned (.tuple #[.slice A1 (rep (val l ^ e)).length c1, .bool true]) ∧ (rep (val l ^ e)).length ≤ c1 ∧ Rd (fun k => w.heap.size ≤ k) w' A1 (rep (val l ^ e)) ∧ Below w.heap.size w w' := by
  have hb := bl_bd (z := val l) (by omega)
  have hv64 : val l < 18446744073709551616 := by
    have h1 := val_lt h.wd
    have h2 := pw_mono hl
    have : pw 2 = 18446744073709551616 := by decide +kernel
    omega
  have hn1 : 2 ≤ bl (val l) := by
    rcases Nat.lt_or_ge (bl (val l)) 2 with h1 | h1
    · have : (2 : Int) ^ bl (val l) ≤ 2 ^ 1 := ipow_mono (by decide) (by omega)
      omega
    · exact h1
  have hn2 : bl (val l) ≤ 64 := by
    rcases Nat.lt_or_ge 64 (bl (val l)) with h1 | h1
    · have : (2 : Int) ^ 64 ≤ 2 ^ (bl (val l) - 1) := ipow_mono (by decide) (by omega)
      omega
    · exact h1
  have HPS := Asd.mk (fun (n : Nat) (hn : n ≤ 60) => pow_small hv hv64 hn)
  have HTL := Asd.mk (fun (W : World) (r : Rd ok W A l) => twos_Len ok A c l W r hc (by omega))
  generalize hbn : bl (val l) = n at *
  clear hbn hb
  have hdiv : ¬ (65536 / (n : Int) < (e : Int)) := by
    have h2 : (1024 : Int) ≤ 65536 / (n : Int) := by
      rw [Int.le_ediv_iff_mul_le (by omega)]; omega
    omega
  have hn0 : ¬ ((n : Int) = 0) := by omega
  have hn3 : (1 : Int) < (n : Int) := by omega
  have hn4 : ¬ ((n : Int) < 2) := by omega
  have he0 : ¬ ((e : Int) < 0) := by omega
  go_enter Tryz.func130, Tryz.ntmps130
  go_wp2_with fail
  refine (HTL.out w h).mono ?_
  rintro x w1 ⟨rfl, hb1⟩
  have hd1 : decide ((e : Int) < 0) = false := decide_eq_false (by omega)
  have hd2 : decide (65536 / (n : Int) < (e : Int)) = false := decide_eq_false (by omega)
  have HE : Asd (bl (e : Int) ≤ 6 ∧ e < 2 ^ bl (e : Int)) := ⟨by
    rcases Nat.eq_zero_or_pos e with rfl | h0
    · decide
    · have h1 := bl_bd (z := (e : Int)) (by omega)
      rw [← two_cast, ← two_cast] at h1
      refine ⟨?_, by omega⟩
      rcases Nat.lt_or_ge 6 (bl (e : Int)) with h2 | h2
      · have : 2 ^ 6 ≤ 2 ^ (bl (e : Int) - 1) := Nat.pow_le_pow_right (by decide) (by omega)
        omega
      · exact h2⟩
  have HTE := Asd.mk (fun (W : World) (X : Option Addr) (x : Nat) (r : Rd (fun k => w1.heap.size ≤ k) W X (rep (e : Int))) (hx : (rep (e : Int)).length ≤ x) => twos_Len _ X x (rep (e : Int)) W r hx (by have := rep_length_le (z := (e : Int)) (n := 1) (by rw [pw_one]; omega); omega))
  rw [val_rep (by omega)] at HTE
  generalize hL : bl (e : Int) = L at *
  have hL6 := HE.out.1
  go_wp2_with fail
  · refine (nat_Of 1 (by decide) (by decide) w1).mono ?_
    rintro x w2 ⟨A1, c1, rfl, hc1, hr1, hb2⟩
    have hs2 := hb2.size
    have hB2 := below_go hb1 hb2
    have hw := h.below hB2
    go_wp2_with fail
    refine (nat_Of (e : Int) (by omega) (by omega) w2).mono ?_
    rintro x w3 ⟨X, xc, rfl, hxc, hrx, hb3⟩
    have hs3 := hb3.size
    go_wp2_with fail
    refine (HTE.out w3 X xc (hrx.mono (fun k _ hk => by have := hb1.size; omega)) hxc).mono ?_
    rintro x w4 ⟨rfl, hb4⟩
    have hs4 := hb4.size
    have hB4 := below_go (below_go hB2 hb3) hb4
    have hr4 := (hr1.below hb3).below hb4
    replace hr4 := hr4.mono (ok' := fun k => w.heap.size ≤ k) (fun k _ hk => by have := hb1.size; omega)
    have h4 := h.below hB4
    clear hr1 hb1 hb2 hB2 hb3 hb4 hrx hw hs2 hs3 hs4
    go_wp2_with fail
    go_loopw [7, 8] (fun S i wq => ∃ (j : Nat) (B : Option Addr) (d : Nat), j ≤ L ∧ i = .int .i64 ((j : Int) - 1) ∧ S = .slice B (rep (val l ^ (e / 2 ^ j))).length d ∧ (rep (val l ^ (e / 2 ^ j))).length ≤ d ∧ Asd (Rd (fun k => w.heap.size ≤ k) wq B (rep (val l ^ (e / 2 ^ j)))) ∧ Asd (Below w.heap.size w wq)) (fun _ i _ => (intOf i + 1).toNat)
    case atStart =>
      have e0 : e / 2 ^ L = 0 := Nat.div_eq_of_lt HE.out.2
      refine ⟨L, A1, c1, Nat.le_refl _, rfl, ?_, ?_, ⟨?_⟩, ⟨hB4⟩⟩
      · rw [e0, Int.pow_zero]
      · rw [e0, Int.pow_zero]; exact hc1
      · rw [e0, Int.pow_zero]; exact hr4
    case round =>
      obtain ⟨j, B, d, hj, rfl, rfl, hd, HR, HB⟩ := hrel
      by_cases hj0 : 0 < j
      · have hj1 : 0 ≤ (j : Int) - 1 := by omega
        have HP := HPS.out (e / 2 ^ j) (Nat.le_trans (Nat.div_le_self _ _) he)
        have HPB := Asd.mk (pow_bit (v := val l) (e := e) hj0)
        have HQ := HPS.out (e / 2 ^ (j - 1)) (Nat.le_trans (Nat.div_le_self _ _) he)
        have hsq := prod_Square _ B d _ wr HR.out hd (by omega)
        rw [val_rep (Int.le_of_lt HP.1)] at hsq
        have HSQ := Asd.mk hsq
        have HPP := Asd.mk HP
        have hmul1 : (rep (val l ^ (e / 2 ^ j) * val l ^ (e / 2 ^ j))).length ≤ 1000 := by
          have h1 := len_mul (a := val l ^ (e / 2 ^ j)) (b := val l ^ (e / 2 ^ j)) (m := 120) (n := 120) (by unfold mag; rw [show ((val l ^ (e / 2 ^ j)).natAbs : Int) = val l ^ (e / 2 ^ j) by omega]; exact HP.2) (by unfold mag; rw [show ((val l ^ (e / 2 ^ j)).natAbs : Int) = val l ^ (e / 2 ^ j) by omega]; exact HP.2)
          have h2 := Int.mul_pos HP.1 HP.1
          unfold mag at h1
          rw [show ((val l ^ (e / 2 ^ j) * val l ^ (e / 2 ^ j)).natAbs : Int) = val l ^ (e / 2 ^ j) * val l ^ (e / 2 ^ j) by omega] at h1
          omega
        clear HP hsq
        go_wp2_with fail
        refine HSQ.out.mono ?_
        rintro x w5 ⟨D, dd, rfl, hdd, hrd, hb5⟩
        have HVP : Asd (val (rep (val l ^ (e / 2 ^ j) * val l ^ (e / 2 ^ j))) = val l ^ (e / 2 ^ j) * val l ^ (e / 2 ^ j)) := ⟨val_rep (Int.le_of_lt (Int.mul_pos HPP.out.1 HPP.out.1))⟩
        generalize val l ^ (e / 2 ^ j) * val l ^ (e / 2 ^ j) = PP at *
        have hs5 := hb5.size
        have hB5 := below_go HB.out hb5
        have hs6 := HB.out.size
        have h5 := h.below hB5
        have hq128 : e / 2 ^ (j - 1) < 128 := Nat.lt_of_le_of_lt (Nat.div_le_self _ _) (by omega)
        have hand := and_one hq128
        rw [Int.natCast_ediv, two_cast] at hand
        have hjz : (j : Int) - 1 - 1 = ((j - 1 : Nat) : Int) - 1 := by omega
        by_cases hbit : e / 2 ^ (j - 1) % 2 = 1
        · rw [if_pos hbit] at HPB
          rw [hbit] at hand
          have HMUL := Asd.mk (prod_Mul _ D dd (rep PP) ok A c l w5 hrd hdd h5 hc (by omega) (by omega))
          rw [HVP.out, ← HPB.out] at HMUL
          go_wp2_with fail
          refine HMUL.out.mono ?_
          rintro x w6 ⟨g, rfl, hog, hgl, hb6⟩
          go_wp2
          go_roundw
          case rel => exact ⟨j - 1, some ⟨g, 0, none⟩, (rep (val l ^ (e / 2 ^ (j - 1)))).length, by omega, rfl, rfl, Nat.le_refl _, ⟨hog.rd (show w.heap.size ≤ g by omega)⟩, ⟨below_go hB5 hb6⟩⟩
          case measure => simp [intOf]; omega
        · rw [if_neg hbit, Int.mul_one] at HPB
          rw [show e / 2 ^ (j - 1) % 2 = 0 by omega] at hand
          go_wp2
          go_roundw
          case rel => exact ⟨j - 1, D, dd, by omega, rfl, by rw [HPB.out], by rw [HPB.out]; exact hdd, ⟨by rw [HPB.out]; exact hrd.mono (fun k _ hk => by omega)⟩, ⟨hB5⟩⟩
          case measure => simp [intOf]; omega
      · have hj2 : j = 0 := by omega
        subst hj2
        have e1 : e / 2 ^ 0 = e := by simp
        rw [e1] at HR hd ⊢
        go_wp2
        go_ret2
        exact ⟨B, d, rfl, hd, HR.out, HB.out⟩
end Go.Proofs.YthjpkichpkomcaaGreatDoor
