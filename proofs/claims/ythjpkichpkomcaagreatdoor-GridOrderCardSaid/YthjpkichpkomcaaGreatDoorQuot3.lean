/- Layer 5: the guess at a quotient's next word, the long division, the division (quot.guess, long, Div). -/
import Derived.Test.YthjpkichpkomcaaGreatDoorQuot2
import Derived.Outline
import Derived.WalkMore
namespace Go.Proofs.YthjpkichpkomcaaGreatDoor
open Go.RowKit Go.Proofs.YthjpkichpkomcaaGreatDoor.Big
set_option linter.unusedVariables false
set_option maxRecDepth 100000

/-- What the guess x is good for: a2, a1, a0, b1, b0 the words. -/
def Good (a2 a1 a0 b1 b0 x : Int) : Prop := 0 ≤ x ∧ x < 4294967296 ∧ x * (b1 * 4294967296 + b0) ≤ (a2 * 4294967296 + a1) * 4294967296 + a0 ∧ (x = 4294967295 ∨ (a2 * 4294967296 + a1) * 4294967296 + a0 < (x + 1) * (b1 * 4294967296 + b0))

theorem good_exit {a2 a1 a0 b1 b0 q r : Int} (h : q * b1 + r = a2 * 4294967296 + a1) (hq0 : 0 ≤ q) (hq1 : q < 4294967296) (hu : q = 4294967295 ∨ (a2 * 4294967296 + a1) * 4294967296 + a0 < (q + 1) * (b1 * 4294967296 + b0)) (ht : q * b0 ≤ r * 4294967296 + a0) : Good a2 a1 a0 b1 b0 q := by
  refine ⟨hq0, hq1, ?_, hu⟩
  rw [← h]
  have e : q * (b1 * 4294967296 + b0) = (q * b1) * 4294967296 + q * b0 := by grind
  rw [e]
  omega
theorem good_carry {a2 a1 a0 b1 b0 q r : Int} (h : q * b1 + r = a2 * 4294967296 + a1) (hq0 : 0 ≤ q) (hq1 : q < 4294967296) (hb0 : 0 ≤ b0) (hb1 : b0 < 4294967296) (ha0 : 0 ≤ a0) (hu : q = 4294967295 ∨ (a2 * 4294967296 + a1) * 4294967296 + a0 < (q + 1) * (b1 * 4294967296 + b0)) (hr : 4294967296 ≤ r) : Good a2 a1 a0 b1 b0 q := by
  refine good_exit h hq0 hq1 hu ?_
  have : q * b0 ≤ 4294967296 * 4294967296 := Int.mul_le_mul (by omega) (by omega) hb0 (by omega)
  omega
/-- The test failed: one less is still not too small. -/
theorem good_less {a2 a1 a0 b1 b0 q r : Int} (h : q * b1 + r = a2 * 4294967296 + a1) (ht : r * 4294967296 + a0 < q * b0) : (a2 * 4294967296 + a1) * 4294967296 + a0 < (q - 1 + 1) * (b1 * 4294967296 + b0) := by
  have e : (q - 1 + 1) * (b1 * 4294967296 + b0) = (q * b1) * 4294967296 + q * b0 := by grind
  rw [e, ← h]
  omega
theorem good_first {a2 a1 a0 b1 b0 q r : Int} (h : a2 * 4294967296 + a1 = q * b1 + r) (hr : r < b1) (hq : 0 ≤ q) (hb : 0 ≤ b0) (ha : a0 < 4294967296) : (a2 * 4294967296 + a1) * 4294967296 + a0 < (q + 1) * (b1 * 4294967296 + b0) := by
  have h2 : 0 ≤ (q + 1) * b0 := Int.mul_nonneg (by omega) hb
  have e : (q + 1) * (b1 * 4294967296 + b0) = (q * b1) * 4294967296 + b1 * 4294967296 + (q + 1) * b0 := by grind
  rw [e, h]
  omega

set_option maxHeartbeats 2000000 in
theorem quot_guess (a2 a1 a0 b1 b0 : Int) (h20 : 0 ≤ a2) (h21 : a2 ≤ b1) (h10 : 0 ≤ a1) (h11 : a1 < 4294967296) (h00 : 0 ≤ a0) (h01 : a0 < 4294967296) (hb10 : 0 < b1) (hb11 : b1 < 4294967296) (hb00 : 0 ≤ b0) (hb01 : b0 < 4294967296) (w : World) :
    Calls Tryz.prog 199 #[.int .u32 a2, .int .u32 a1, .int .u32 a0, .int .u32 b1, .int .u32 b0] w fun e w' => ∃ x, e = .returned (.int .u32 x) ∧ Good a2 a1 a0 b1 b0 x ∧ Dn w w' := by
  by_cases hlt : a2 < b1
  · go_enter Tryz.func199, Tryz.ntmps199
    go_wp2
    go_step3
    go_wp2_with fail
    (with_reducible refine (limb_Div _ _ _ h20 (by omega) h10 h11 hb11 hlt _).mono ?_)
    rintro e w1 ⟨q, r, rfl, hs, hr0, hr1, hq0, hq1, hdn⟩
    have HS := Asd.mk hs
    clear hs
    go_wp2
    go_step3
    go_wp2
    go_loop [11, 12] (fun u v => ∃ q r : Int, u = .int .u32 q ∧ v = .int .u32 r ∧ 0 ≤ q ∧ q < 4294967296 ∧ 0 ≤ r ∧ r < 4294967296 ∧ Asd (q * b1 + r = a2 * 4294967296 + a1) ∧ Asd (q = 4294967295 ∨ (a2 * 4294967296 + a1) * 4294967296 + a0 < (q + 1) * (b1 * 4294967296 + b0))) (fun u _ => (intOf u).toNat)
    case atStart => exact ⟨q, r, rfl, rfl, hq0, hq1, hr0, by omega, ⟨HS.out.symm⟩, ⟨.inr (good_first HS.out hr1 hq0 hb00 h01)⟩⟩
    case round =>
      obtain ⟨q, r, rfl, rfl, hq0, hq1, hr0, hr1, HE, HU⟩ := hrel
      go_wp2_with fail
      (with_reducible refine (limb_Mul _ _ _ _ hq0 hq1 hb00 hb01 (by omega) (by omega) (by omega) (by omega) _).mono ?_)
      rintro e w2 ⟨rfl, hi, lo, rfl, hs, hlo0, hlo1, hhi0, hhi1⟩
      have HM : Asd (q * b0 = lo + 4294967296 * hi) := ⟨by omega⟩
      clear hs
      by_cases c1 : hi < r
      · have HG := Asd.mk (good_exit HE.out hq0 hq1 HU.out (by rw [HM.out]; omega))
        go_wp2
        rw [Exit.noGoto_ret]
        go_ret
        exact ⟨q, rfl, HG.out, hdn⟩
      have FAIL : r * 4294967296 + a0 < lo + 4294967296 * hi → _root_.True := fun _ => trivial
      by_cases c2 : hi = r
      · by_cases c3 : lo ≤ a0
        · have HG := Asd.mk (good_exit HE.out hq0 hq1 HU.out (by rw [HM.out]; omega))
          subst c2
          have hb : (hi == hi) = true := by simp
          clear FAIL
          go_wp2
          rw [Exit.noGoto_ret]
          go_ret
          exact ⟨q, rfl, HG.out, hdn⟩
        · have hb : (hi == r) = true := by simpa using c2
          have HF : Asd (r * 4294967296 + a0 < lo + 4294967296 * hi) := ⟨by omega⟩
          clear c2 FAIL
          have HL := Asd.mk (good_less HE.out (by rw [HM.out]; exact HF.out))
          have hqp : 1 ≤ q := by
            rcases Int.lt_or_le q 1 with h | h
            · have h0 : q = 0 := by omega
              have := HM.out
              have := HF.out
              rw [h0] at *
              omega
            · exact h
          clear HF HM
          go_wp2_with fail
          (with_reducible refine (limb_Add _ _ _ hr0 hr1 (by omega) hb11 (by omega) (by omega) _).mono ?_)
          rintro e w2 ⟨rfl, s, k2, rfl, hs, hs0, hs1⟩
          have HS := Asd.mk hs
          have hk : 0 ≤ k2 ∧ k2 ≤ 1 := by omega
          obtain ⟨hk0, hk1⟩ := hk
          clear hs
          have HE2 : Asd ((q - 1) * b1 + (r + b1) = a2 * 4294967296 + a1) := ⟨by rw [← HE.out]; grind⟩
          by_cases c4 : 0 < k2
          · have HG := Asd.mk (good_carry (b0 := b0) HE2.out (by omega) (by omega) hb00 hb01 h00 (.inr HL.out) (by have := HS.out; omega))
            go_wp2
            rw [Exit.noGoto_ret]
            go_ret
            exact ⟨q - 1, rfl, HG.out, hdn⟩
          · have HR : Asd (s = r + b1) := ⟨by have := HS.out; omega⟩
            have HE3 : Asd ((q - 1) * b1 + s = a2 * 4294967296 + a1) := ⟨by rw [HR.out]; exact HE2.out⟩
            go_wp2
            go_round
            case rel => exact ⟨q - 1, s, rfl, rfl, by omega, by omega, hs0, hs1, HE3, ⟨.inr HL.out⟩⟩
            case measure => simp [intOf]; omega
      · have hb : (hi == r) = false := by simpa using c2
        have HF : Asd (r * 4294967296 + a0 < lo + 4294967296 * hi) := ⟨by omega⟩
        clear c2 FAIL
        have HL := Asd.mk (good_less HE.out (by rw [HM.out]; exact HF.out))
        have hqp : 1 ≤ q := by
          rcases Int.lt_or_le q 1 with h | h
          · have h0 : q = 0 := by omega
            have := HM.out
            have := HF.out
            rw [h0] at *
            omega
          · exact h
        clear HF HM
        go_wp2_with fail
        (with_reducible refine (limb_Add _ _ _ hr0 hr1 (by omega) hb11 (by omega) (by omega) _).mono ?_)
        rintro e w2 ⟨rfl, s, k2, rfl, hs, hs0, hs1⟩
        have HS := Asd.mk hs
        have hk : 0 ≤ k2 ∧ k2 ≤ 1 := by omega
        obtain ⟨hk0, hk1⟩ := hk
        clear hs
        have HE2 : Asd ((q - 1) * b1 + (r + b1) = a2 * 4294967296 + a1) := ⟨by rw [← HE.out]; grind⟩
        by_cases c4 : 0 < k2
        · have HG := Asd.mk (good_carry (b0 := b0) HE2.out (by omega) (by omega) hb00 hb01 h00 (.inr HL.out) (by have := HS.out; omega))
          go_wp2
          rw [Exit.noGoto_ret]
          go_ret
          exact ⟨q - 1, rfl, HG.out, hdn⟩
        · have HR : Asd (s = r + b1) := ⟨by have := HS.out; omega⟩
          have HE3 : Asd ((q - 1) * b1 + s = a2 * 4294967296 + a1) := ⟨by rw [HR.out]; exact HE2.out⟩
          go_wp2
          go_round
          case rel => exact ⟨q - 1, s, rfl, rfl, by omega, by omega, hs0, hs1, HE3, ⟨.inr HL.out⟩⟩
          case measure => simp [intOf]; omega
  · have he : a2 = b1 := by omega
    subst he
    have HT : Asd (4294967295 * a2 + (a1 + a2) = a2 * 4294967296 + a1) := ⟨by omega⟩
    go_enter Tryz.func199, Tryz.ntmps199
    go_wp2
    go_step3
    go_wp2_with fail
    (with_reducible refine (limb_Div_no _ _ _ (Int.le_refl _) _).mono ?_)
    rintro e w1 ⟨rfl, rfl⟩
    go_wp2_with fail
    (with_reducible refine (limb_Add _ _ _ h10 h11 h20 hb11 (by omega) (by omega) _).mono ?_)
    rintro e w2 ⟨rfl, s, k, rfl, hs, hs0, hs1⟩
    have HS := Asd.mk hs
    have hk : 0 ≤ k ∧ k ≤ 1 := by omega
    obtain ⟨hk0, hk1⟩ := hk
    clear hs
    by_cases hc : 0 < k
    · have HG := Asd.mk (good_carry (b0 := b0) HT.out (by omega) (by omega) hb00 hb01 h00 (.inl rfl) (by have := HS.out; omega))
      go_wp2
      rw [Exit.noGoto_ret]
      go_ret
      exact ⟨4294967295, rfl, HG.out, Dn.refl _⟩
    have HR : Asd (s = a1 + a2) := ⟨by have := HS.out; omega⟩
    have HT2 : Asd (4294967295 * a2 + s = a2 * 4294967296 + a1) := ⟨by rw [HR.out]; exact HT.out⟩
    go_wp2
    go_step3
    go_wp2
    go_loop [11, 12] (fun u v => ∃ q r : Int, u = .int .u32 q ∧ v = .int .u32 r ∧ 0 ≤ q ∧ q < 4294967296 ∧ 0 ≤ r ∧ r < 4294967296 ∧ Asd (q * a2 + r = a2 * 4294967296 + a1) ∧ Asd (q = 4294967295 ∨ (a2 * 4294967296 + a1) * 4294967296 + a0 < (q + 1) * (a2 * 4294967296 + b0))) (fun u _ => (intOf u).toNat)
    case atStart => exact ⟨4294967295, s, rfl, rfl, by omega, by omega, hs0, hs1, HT2, ⟨.inl rfl⟩⟩
    case round =>
      obtain ⟨q, r, rfl, rfl, hq0, hq1, hr0, hr1, HE, HU⟩ := hrel
      go_wp2_with fail
      (with_reducible refine (limb_Mul _ _ _ _ hq0 hq1 hb00 hb01 (by omega) (by omega) (by omega) (by omega) _).mono ?_)
      rintro e w2 ⟨rfl, hi, lo, rfl, hs, hlo0, hlo1, hhi0, hhi1⟩
      have HM : Asd (q * b0 = lo + 4294967296 * hi) := ⟨by omega⟩
      clear hs
      by_cases c1 : hi < r
      · have HG := Asd.mk (good_exit HE.out hq0 hq1 HU.out (by rw [HM.out]; omega))
        go_wp2
        rw [Exit.noGoto_ret]
        go_ret
        exact ⟨q, rfl, HG.out, Dn.refl _⟩
      have FAIL : r * 4294967296 + a0 < lo + 4294967296 * hi → _root_.True := fun _ => trivial
      by_cases c2 : hi = r
      · by_cases c3 : lo ≤ a0
        · have HG := Asd.mk (good_exit HE.out hq0 hq1 HU.out (by rw [HM.out]; omega))
          subst c2
          have hb : (hi == hi) = true := by simp
          clear FAIL
          go_wp2
          rw [Exit.noGoto_ret]
          go_ret
          exact ⟨q, rfl, HG.out, Dn.refl _⟩
        · have hb : (hi == r) = true := by simpa using c2
          have HF : Asd (r * 4294967296 + a0 < lo + 4294967296 * hi) := ⟨by omega⟩
          clear c2 FAIL
          have HL := Asd.mk (good_less HE.out (by rw [HM.out]; exact HF.out))
          have hqp : 1 ≤ q := by
            rcases Int.lt_or_le q 1 with h | h
            · have h0 : q = 0 := by omega
              have := HM.out
              have := HF.out
              rw [h0] at *
              omega
            · exact h
          clear HF HM
          go_wp2_with fail
          (with_reducible refine (limb_Add _ _ _ hr0 hr1 (by omega) hb11 (by omega) (by omega) _).mono ?_)
          rintro e w2 ⟨rfl, s, k2, rfl, hs, hs0, hs1⟩
          have HS := Asd.mk hs
          have hk : 0 ≤ k2 ∧ k2 ≤ 1 := by omega
          obtain ⟨hk0, hk1⟩ := hk
          clear hs
          have HE2 : Asd ((q - 1) * a2 + (r + a2) = a2 * 4294967296 + a1) := ⟨by rw [← HE.out]; grind⟩
          by_cases c4 : 0 < k2
          · have HG := Asd.mk (good_carry (b0 := b0) HE2.out (by omega) (by omega) hb00 hb01 h00 (.inr HL.out) (by have := HS.out; omega))
            go_wp2
            rw [Exit.noGoto_ret]
            go_ret
            exact ⟨q - 1, rfl, HG.out, Dn.refl _⟩
          · have HR : Asd (s = r + a2) := ⟨by have := HS.out; omega⟩
            have HE3 : Asd ((q - 1) * a2 + s = a2 * 4294967296 + a1) := ⟨by rw [HR.out]; exact HE2.out⟩
            go_wp2
            go_round
            case rel => exact ⟨q - 1, s, rfl, rfl, by omega, by omega, hs0, hs1, HE3, ⟨.inr HL.out⟩⟩
            case measure => simp [intOf]; omega
      · have hb : (hi == r) = false := by simpa using c2
        have HF : Asd (r * 4294967296 + a0 < lo + 4294967296 * hi) := ⟨by omega⟩
        clear c2 FAIL
        have HL := Asd.mk (good_less HE.out (by rw [HM.out]; exact HF.out))
        have hqp : 1 ≤ q := by
          rcases Int.lt_or_le q 1 with h | h
          · have h0 : q = 0 := by omega
            have := HM.out
            have := HF.out
            rw [h0] at *
            omega
          · exact h
        clear HF HM
        go_wp2_with fail
        (with_reducible refine (limb_Add _ _ _ hr0 hr1 (by omega) hb11 (by omega) (by omega) _).mono ?_)
        rintro e w2 ⟨rfl, s, k2, rfl, hs, hs0, hs1⟩
        have HS := Asd.mk hs
        have hk : 0 ≤ k2 ∧ k2 ≤ 1 := by omega
        obtain ⟨hk0, hk1⟩ := hk
        clear hs
        have HE2 : Asd ((q - 1) * a2 + (r + a2) = a2 * 4294967296 + a1) := ⟨by rw [← HE.out]; grind⟩
        by_cases c4 : 0 < k2
        · have HG := Asd.mk (good_carry (b0 := b0) HE2.out (by omega) (by omega) hb00 hb01 h00 (.inr HL.out) (by have := HS.out; omega))
          go_wp2
          rw [Exit.noGoto_ret]
          go_ret
          exact ⟨q - 1, rfl, HG.out, Dn.refl _⟩
        · have HR : Asd (s = r + a2) := ⟨by have := HS.out; omega⟩
          have HE3 : Asd ((q - 1) * a2 + s = a2 * 4294967296 + a1) := ⟨by rw [HR.out]; exact HE2.out⟩
          go_wp2
          go_round
          case rel => exact ⟨q - 1, s, rfl, rfl, by omega, by omega, hs0, hs1, HE3, ⟨.inr HL.out⟩⟩
          case measure => simp [intOf]; omega
end Go.Proofs.YthjpkichpkomcaaGreatDoor
