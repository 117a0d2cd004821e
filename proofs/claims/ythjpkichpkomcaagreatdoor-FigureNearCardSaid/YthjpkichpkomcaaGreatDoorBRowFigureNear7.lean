/- Quot2 · Quot3 -/
import Derived.Test.YthjpkichpkomcaaGreatDoorBRowFigureNear6
import Derived.Outline
import Derived.WalkMore
/- Layer 5: Knuth's algorithm D (quot.guess, take, give, long). -/
namespace Go.Proofs.YthjpkichpkomcaaGreatDoor
open Go.RowKit Go.Proofs.YthjpkichpkomcaaGreatDoor.Big
set_option linter.unusedVariables false
set_option maxRecDepth 100000

theorem take_step {vq o ax pk carry borrow lo c2 b2 x y vt z s : Int} (h : vq - ax * pk * (carry + borrow) = o - ax * (x * vt)) (hm : lo + 4294967296 * c2 = x * y + carry + 0) (hs : s - 4294967296 * b2 = z - lo - borrow) :
    vq + ax * pk * (s - z) - ax * (4294967296 * pk) * (c2 + b2) = o - ax * (x * (vt + pk * y)) := by
  grind
theorem take_end {vq o ax pk carry borrow b2 x vt z s : Int} (h : vq - ax * pk * (carry + borrow) = o - ax * (x * vt)) (hs : s - 4294967296 * b2 = z - carry - borrow) :
    vq + ax * pk * (s - z) = o - ax * (x * vt) + ax * (4294967296 * pk) * b2 := by
  grind

set_option maxHeartbeats 1000000 in
theorem quot_take (ok : Nat → Prop) (g cap : Nat) (o : List Int) (at_ : Int) (A : Option Addr) (cA : Nat) (l : List Int) (x : Int) (w : World) (ho : Ow w g cap o) (h : Rd ok w A l) (hc : l.length ≤ cA) (hok : ¬ ok g) (hat : 0 ≤ at_) (hlen : at_ + l.length < o.length) (hx0 : 0 ≤ x) (hx1 : x < 4294967296) :
    Calls Tryz.prog 200 #[.slice (some ⟨g, 0, none⟩) o.length cap, .int .i64 at_, .slice A l.length cA, .int .u32 x] w fun e w' => ∃ (o' : List Int) (bf : Int), e = .returned (.bool (decide (0 < bf))) ∧ 0 ≤ bf ∧ bf ≤ 1 ∧ Ow w' g cap o' ∧ o'.length = o.length ∧ val o' = val o - pw at_.toNat * (x * val l) + pw at_.toNat * (4294967296 * pw l.length) * bf ∧ o'.drop (at_.toNat + l.length + 1) = o.drop (at_.toNat + l.length + 1) ∧ w.grownBy w' (some g) := by
  obtain ⟨m, rfl⟩ := Int.eq_ofNat_of_zero_le hat
  simp only [Int.toNat_natCast]
  have hl := h.len
  have hol := ho.len
  have HO0 := Asd.mk ho
  clear ho
  go_enter Tryz.func200, Tryz.ntmps200
  go_wp2
  go_loopw [9, 10, 17] (fun v u i wr => ∃ (k : Nat) (kc kb : Int) (q : List Int), k ≤ l.length ∧ i = .int .i64 k ∧ v = .int .u32 kc ∧ u = .int .u32 kb ∧ 0 ≤ kc ∧ kc < 4294967296 ∧ 0 ≤ kb ∧ kb ≤ 1 ∧ Asd (Ow wr g cap q) ∧ Asd (q.length = o.length) ∧ Asd (val q - pw m * pw k * (kc + kb) = val o - pw m * (x * val (l.take k))) ∧ Asd (q.drop (m + k) = o.drop (m + k)) ∧ Asd (w.grownBy wr (some g))) (fun _ _ i _ => l.length - (intOf i).toNat)
  case atStart => exact ⟨0, 0, 0, o, Nat.zero_le _, rfl, rfl, rfl, by omega, by omega, by omega, by omega, HO0, ⟨rfl⟩, ⟨by simp [val]⟩, ⟨rfl⟩, ⟨grown_refl _ _⟩⟩
  case round =>
    obtain ⟨k, kc, kb, q, hk, rfl, rfl, rfl, hk0, hk1, hb0, hb1, HO, HOL, HV, HD, HG⟩ := hrel
    have hcap := HO.out.lt
    by_cases hlt : k < l.length
    · have r1 : Rd ok wr A l := h.grown HG.out hok
      obtain ⟨ad, y, rfl, ho, hcell, hy0, hy1, HY⟩ := r1.el k hlt
      have hfr := HO.out.free (m + k)
      obtain ⟨z, hz, hz0, hz1, HZ2⟩ := HO.out.el (m + k) (by have := HOL.out; omega)
      have hmk : ((m : Int) + (k : Int)).toNat = m + k := by omega
      clear r1
      go_wp2_with fail
      (with_reducible refine (limb_Mul _ _ _ _ hx0 hx1 hy0 hy1 hk0 hk1 (by omega) (by omega) _).mono ?_)
      rintro e w2 ⟨rfl, hi, lo, rfl, hs, hlo0, hlo1, hhi0, hhi1⟩
      have HS := Asd.mk hs
      clear hs
      go_wp2_with fail
      (with_reducible refine (limb_Sub _ _ _ hz0 hz1 hlo0 hlo1 hb0 (by omega) _).mono ?_)
      rintro e w2 ⟨rfl, s, b2, rfl, hs, hs0, hs1⟩
      have hbb : 0 ≤ b2 ∧ b2 ≤ 1 := by omega
      obtain ⟨hb20, hb21⟩ := hbb
      have HS2 := Asd.mk hs
      clear hs
      go_wp2
      go_roundw
      case rel =>
        refine ⟨k + 1, hi, b2, q.set (m + k) s, hlt, by go_num, rfl, rfl, hhi0, hhi1, hb20, hb21, ⟨HO.out.set _ hs0 hs1⟩, ⟨by rw [List.length_set]; exact HOL.out⟩, ⟨?_⟩, ⟨?_⟩, ⟨?_⟩⟩
        · rw [val_set q (m + k) s (by have := HOL.out; omega), val_take_succ l k hlt, HY.out, HZ2.out, pw_succ, pw_add]
          exact take_step HV.out HS.out HS2.out
        · rw [show m + (k + 1) = m + k + 1 from by omega, drop_set_succ]
          exact drop_more HD.out _ (by omega)
        · exact grown_trans HG.out (HO.out.2.2.stored _ _).2
      case measure => simp [intOf]; omega
    · have hkl : k = l.length := by omega
      subst hkl
      have hfr := HO.out.free (m + l.length)
      obtain ⟨z, hz, hz0, hz1, HZ2⟩ := HO.out.el (m + l.length) (by have := HOL.out; omega)
      have hmk : ((m : Int) + (l.length : Int)).toNat = m + l.length := by omega
      have hqlt : m + l.length < o.length := by omega
      go_wp2_with fail
      (with_reducible refine (limb_Sub _ _ _ hz0 hz1 hk0 hk1 hb0 (by omega) _).mono ?_)
      rintro e w2 ⟨rfl, s, b2, rfl, hs, hs0, hs1⟩
      have hbb : 0 ≤ b2 ∧ b2 ≤ 1 := by omega
      obtain ⟨hb20, hb21⟩ := hbb
      have HS2 := Asd.mk hs
      clear hs
      go_wp2
      go_ret
      refine ⟨q.set (m + l.length) s, b2, rfl, hb20, hb21, HO.out.set _ hs0 hs1, by rw [List.length_set]; exact HOL.out, ?_, ?_, grown_trans HG.out (HO.out.2.2.stored _ _).2⟩
      · rw [val_set q _ s (by have := HOL.out; omega), HZ2.out, pw_add]
        have := HV.out
        rw [List.take_of_length_le (Nat.le_refl _)] at this
        exact take_end this HS2.out
      · rw [drop_set_succ]
        exact drop_more HD.out _ (by omega)

theorem give_step {vq o ax pk carry c2 y vt z s : Int} (h : vq + ax * pk * carry = o + ax * vt) (hs : s + 4294967296 * c2 = z + y + carry) :
    vq + ax * pk * (s - z) + ax * (4294967296 * pk) * c2 = o + ax * (vt + pk * y) := by
  grind
theorem give_end {vq o ax pk carry t vt z s : Int} (h : vq + ax * pk * carry = o + ax * vt) (hs : s + 4294967296 * t = z + carry) :
    vq + ax * pk * (s - z) = o + ax * vt - ax * (4294967296 * pk) * t := by
  grind

set_option maxHeartbeats 1000000 in
theorem quot_give (ok : Nat → Prop) (g cap : Nat) (o : List Int) (at_ : Int) (A : Option Addr) (cA : Nat) (l : List Int) (w : World) (ho : Ow w g cap o) (h : Rd ok w A l) (hc : l.length ≤ cA) (hok : ¬ ok g) (hat : 0 ≤ at_) (hlen : at_ + l.length < o.length) :
    Calls Tryz.prog 201 #[.slice (some ⟨g, 0, none⟩) o.length cap, .int .i64 at_, .slice A l.length cA] w fun e w' => ∃ (o' : List Int) (t : Int), e = .returned (.tuple #[]) ∧ 0 ≤ t ∧ t ≤ 1 ∧ Ow w' g cap o' ∧ o'.length = o.length ∧ val o' = val o + pw at_.toNat * val l - pw at_.toNat * (4294967296 * pw l.length) * t ∧ o'.drop (at_.toNat + l.length + 1) = o.drop (at_.toNat + l.length + 1) ∧ w.grownBy w' (some g) := by
  obtain ⟨m, rfl⟩ := Int.eq_ofNat_of_zero_le hat
  simp only [Int.toNat_natCast]
  have hl := h.len
  have hol := ho.len
  have HO0 := Asd.mk ho
  clear ho
  go_enter Tryz.func201, Tryz.ntmps201
  go_wp2
  go_loopw [6, 11] (fun v i wr => ∃ (k : Nat) (kc : Int) (q : List Int), k ≤ l.length ∧ i = .int .i64 k ∧ v = .int .u32 kc ∧ 0 ≤ kc ∧ kc ≤ 1 ∧ Asd (Ow wr g cap q) ∧ Asd (q.length = o.length) ∧ Asd (val q + pw m * pw k * kc = val o + pw m * val (l.take k)) ∧ Asd (q.drop (m + k) = o.drop (m + k)) ∧ Asd (w.grownBy wr (some g))) (fun _ i _ => l.length - (intOf i).toNat)
  case atStart => exact ⟨0, 0, o, Nat.zero_le _, rfl, rfl, by omega, by omega, HO0, ⟨rfl⟩, ⟨by simp [val]⟩, ⟨rfl⟩, ⟨grown_refl _ _⟩⟩
  case round =>
    obtain ⟨k, kc, q, hk, rfl, rfl, hk0, hk1, HO, HOL, HV, HD, HG⟩ := hrel
    have hcap := HO.out.lt
    by_cases hlt : k < l.length
    · have r1 : Rd ok wr A l := h.grown HG.out hok
      obtain ⟨ad, y, rfl, ho, hcell, hy0, hy1, HY⟩ := r1.el k hlt
      have hfr := HO.out.free (m + k)
      obtain ⟨z, hz, hz0, hz1, HZ2⟩ := HO.out.el (m + k) (by have := HOL.out; omega)
      have hmk : ((m : Int) + (k : Int)).toNat = m + k := by omega
      clear r1
      go_wp2_with fail
      (with_reducible refine (limb_Add _ _ _ hz0 hz1 hy0 hy1 hk0 (by omega) _).mono ?_)
      rintro e w2 ⟨rfl, s, c2, rfl, hs, hs0, hs1⟩
      have hbb : 0 ≤ c2 ∧ c2 ≤ 1 := by omega
      obtain ⟨hb20, hb21⟩ := hbb
      have HS2 := Asd.mk hs
      clear hs
      go_wp2
      go_roundw
      case rel =>
        refine ⟨k + 1, c2, q.set (m + k) s, hlt, by go_num, rfl, hb20, hb21, ⟨HO.out.set _ hs0 hs1⟩, ⟨by rw [List.length_set]; exact HOL.out⟩, ⟨?_⟩, ⟨?_⟩, ⟨?_⟩⟩
        · rw [val_set q (m + k) s (by have := HOL.out; omega), val_take_succ l k hlt, HY.out, HZ2.out, pw_succ, pw_add]
          exact give_step HV.out HS2.out
        · rw [show m + (k + 1) = m + k + 1 from by omega, drop_set_succ]
          exact drop_more HD.out _ (by omega)
        · exact grown_trans HG.out (HO.out.2.2.stored _ _).2
      case measure => simp [intOf]; omega
    · have hkl : k = l.length := by omega
      subst hkl
      have hfr := HO.out.free (m + l.length)
      obtain ⟨z, hz, hz0, hz1, HZ2⟩ := HO.out.el (m + l.length) (by have := HOL.out; omega)
      have hmk : ((m : Int) + (l.length : Int)).toNat = m + l.length := by omega
      have hqlt : m + l.length < o.length := by omega
      have HN : Asd (∃ t : Int, 0 ≤ t ∧ t ≤ 1 ∧ (z + kc) % 4294967296 + 4294967296 * t = z + kc) := ⟨⟨(z + kc) / 4294967296, by omega, by omega, by omega⟩⟩
      go_wp2
      go_end0
      obtain ⟨t, ht0, ht1, ht⟩ := HN.out
      refine ⟨q.set (m + l.length) ((z + kc) % 4294967296), t, rfl, ht0, ht1, HO.out.set _ (by omega) (by omega), by rw [List.length_set]; exact HOL.out, ?_, ?_, grown_trans HG.out (HO.out.2.2.stored _ _).2⟩
      · rw [val_set q _ _ (by have := HOL.out; omega), HZ2.out, pw_add]
        have := HV.out
        rw [List.take_of_length_le (Nat.le_refl _)] at this
        exact give_end this ht
      · rw [drop_set_succ]
        exact drop_more HD.out _ (by omega)
end Go.Proofs.YthjpkichpkomcaaGreatDoor
/- Layer 5: the guess at a quotient's next word, the long division, the division (quot.guess, long, Div). -/
namespace Go.Proofs.YthjpkichpkomcaaGreatDoor
open Go.RowKit Go.Proofs.YthjpkichpkomcaaGreatDoor.Big
set_option linter.unusedVariables false
set_option maxRecDepth 100000

/-- What the guess x is good for: a2, a1, a0, b1, b0 the words. -/
def Good (a2 a1 a0 b1 b0 x : Int) : Prop := 0 ≤ x ∧ x < 4294967296 ∧ x * (b1 * 4294967296 + b0) ≤ (a2 * 4294967296 + a1) * 4294967296 + a0 ∧ (x = 4294967295 ∨ (a2 * 4294967296 + a1) * 4294967296 + a0 < (x + 1) * (b1 * 4294967296 + b0))

theorem good_exit {a2 a1 a0 b1 b0 q r : Int} (h : q * b1 + r = a2 * 4294967296 + a1) (hq0 : 0 ≤ q) (hq1 : q < 4294967296) (hu : q = 4294967295 ∨ (a2 * 4294967296 + a1) * 4294967296 + a0 < (q + 1) * (b1 * 4294967296 + b0)) (ht : q * b0 ≤ r * 4294967296 + a0) : Good a2 a1 a0 b1 b0 q := by
  refine ⟨hq0, hq1, ?_, hu⟩
  rw [← h]
  have e : q * (b1 * 4294967296 + b0) = (q * b1) * 4294967296 + q * b0 := by grind
  rw [e]
  omega
theorem good_carry {a2 a1 a0 b1 b0 q r : Int} (h : q * b1 + r = a2 * 4294967296 + a1) (hq0 : 0 ≤ q) (hq1 : q < 4294967296) (hb0 : 0 ≤ b0) (hb1 : b0 < 4294967296) (ha0 : 0 ≤ a0) (hu : q = 4294967295 ∨ (a2 * 4294967296 + a1) * 4294967296 + a0 < (q + 1) * (b1 * 4294967296 + b0)) (hr : 4294967296 ≤ r) : Good a2 a1 a0 b1 b0 q := by
  refine good_exit h hq0 hq1 hu ?_
  have : q * b0 ≤ 4294967296 * 4294967296 := Int.mul_le_mul (by omega) (by omega) hb0 (by omega)
  omega
/-- The test failed: one less is still not too small. -/
theorem good_less {a2 a1 a0 b1 b0 q r : Int} (h : q * b1 + r = a2 * 4294967296 + a1) (ht : r * 4294967296 + a0 < q * b0) : (a2 * 4294967296 + a1) * 4294967296 + a0 < (q - 1 + 1) * (b1 * 4294967296 + b0) := by
  have e : (q - 1 + 1) * (b1 * 4294967296 + b0) = (q * b1) * 4294967296 + q * b0 := by grind
  rw [e, ← h]
  omega
theorem good_first {a2 a1 a0 b1 b0 q r : Int} (h : a2 * 4294967296 + a1 = q * b1 + r) (hr : r < b1) (hq : 0 ≤ q) (hb : 0 ≤ b0) (ha : a0 < 4294967296) : (a2 * 4294967296 + a1) * 4294967296 + a0 < (q + 1) * (b1 * 4294967296 + b0) := by
  have h2 : 0 ≤ (q + 1) * b0 := Int.mul_nonneg (by omega) hb
  have e : (q + 1) * (b1 * 4294967296 + b0) = (q * b1) * 4294967296 + b1 * 4294967296 + (q + 1) * b0 := by grind
  rw [e, h]
  omega

set_option maxHeartbeats 2000000 in
theorem quot_guess (a2 a1 a0 b1 b0 : Int) (h20 : 0 ≤ a2) (h21 : a2 ≤ b1) (h10 : 0 ≤ a1) (h11 : a1 < 4294967296) (h00 : 0 ≤ a0) (h01 : a0 < 4294967296) (hb10 : 0 < b1) (hb11 : b1 < 4294967296) (hb00 : 0 ≤ b0) (hb01 : b0 < 4294967296) (w : World) :
    Calls Tryz.prog 199 #[.int .u32 a2, .int .u32 a1, .int .u32 a0, .int .u32 b1, .int .u32 b0] w fun e w' => ∃ x, e = .returned (.int .u32 x) ∧ Good a2 a1 a0 b1 b0 x ∧ Dn w w' := by
  by_cases hlt : a2 < b1
  · go_enter Tryz.func199, Tryz.ntmps199
    go_wp2
    go_step3
    go_wp2_with fail
    (with_reducible refine (limb_Div _ _ _ h20 (by omega) h10 h11 hb11 hlt _).mono ?_)
    rintro e w1 ⟨q, r, rfl, hs, hr0, hr1, hq0, hq1, hdn⟩
    have HS := Asd.mk hs
    clear hs
    go_wp2
    go_step3
    go_wp2
    go_loop [11, 12] (fun u v => ∃ q r : Int, u = .int .u32 q ∧ v = .int .u32 r ∧ 0 ≤ q ∧ q < 4294967296 ∧ 0 ≤ r ∧ r < 4294967296 ∧ Asd (q * b1 + r = a2 * 4294967296 + a1) ∧ Asd (q = 4294967295 ∨ (a2 * 4294967296 + a1) * 4294967296 + a0 < (q + 1) * (b1 * 4294967296 + b0))) (fun u _ => (intOf u).toNat)
    case atStart => exact ⟨q, r, rfl, rfl, hq0, hq1, hr0, by omega, ⟨HS.out.symm⟩, ⟨.inr (good_first HS.out hr1 hq0 hb00 h01)⟩⟩
    case round =>
      obtain ⟨q, r, rfl, rfl, hq0, hq1, hr0, hr1, HE, HU⟩ := hrel
      go_wp2_with fail
      (with_reducible refine (limb_Mul _ _ _ _ hq0 hq1 hb00 hb01 (by omega) (by omega) (by omega) (by omega) _).mono ?_)
      rintro e w2 ⟨rfl, hi, lo, rfl, hs, hlo0, hlo1, hhi0, hhi1⟩
      have HM : Asd (q * b0 = lo + 4294967296 * hi) := ⟨by omega⟩
      clear hs
      by_cases c1 : hi < r
      · have HG := Asd.mk (good_exit HE.out hq0 hq1 HU.out (by rw [HM.out]; omega))
        go_wp2
        rw [Exit.noGoto_ret]
        go_ret
        exact ⟨q, rfl, HG.out, hdn⟩
      have FAIL : r * 4294967296 + a0 < lo + 4294967296 * hi → _root_.True := fun _ => trivial
      by_cases c2 : hi = r
      · by_cases c3 : lo ≤ a0
        · have HG := Asd.mk (good_exit HE.out hq0 hq1 HU.out (by rw [HM.out]; omega))
          subst c2
          have hb : (hi == hi) = true := by simp
          clear FAIL
          go_wp2
          rw [Exit.noGoto_ret]
          go_ret
          exact ⟨q, rfl, HG.out, hdn⟩
        · have hb : (hi == r) = true := by simpa using c2
          have HF : Asd (r * 4294967296 + a0 < lo + 4294967296 * hi) := ⟨by omega⟩
          clear c2 FAIL
          have HL := Asd.mk (good_less HE.out (by rw [HM.out]; exact HF.out))
          have hqp : 1 ≤ q := by
            rcases Int.lt_or_le q 1 with h | h
            · have h0 : q = 0 := by omega
              have := HM.out
              have := HF.out
              rw [h0] at *
              omega
            · exact h
          clear HF HM
          go_wp2_with fail
          (with_reducible refine (limb_Add _ _ _ hr0 hr1 (by omega) hb11 (by omega) (by omega) _).mono ?_)
          rintro e w2 ⟨rfl, s, k2, rfl, hs, hs0, hs1⟩
          have HS := Asd.mk hs
          have hk : 0 ≤ k2 ∧ k2 ≤ 1 := by omega
          obtain ⟨hk0, hk1⟩ := hk
          clear hs
          have HE2 : Asd ((q - 1) * b1 + (r + b1) = a2 * 4294967296 + a1) := ⟨by rw [← HE.out]; grind⟩
          by_cases c4 : 0 < k2
          · have HG := Asd.mk (good_carry (b0 := b0) HE2.out (by omega) (by omega) hb00 hb01 h00 (.inr HL.out) (by have := HS.out; omega))
            go_wp2
            rw [Exit.noGoto_ret]
            go_ret
            exact ⟨q - 1, rfl, HG.out, hdn⟩
          · have HR : Asd (s = r + b1) := ⟨by have := HS.out; omega⟩
            have HE3 : Asd ((q - 1) * b1 + s = a2 * 4294967296 + a1) := ⟨by rw [HR.out]; exact HE2.out⟩
            go_wp2
            go_round
            case rel => exact ⟨q - 1, s, rfl, rfl, by omega, by omega, hs0, hs1, HE3, ⟨.inr HL.out⟩⟩
            case measure => simp [intOf]; omega
      · have hb : (hi == r) = false := by simpa using c2
        have HF : Asd (r * 4294967296 + a0 < lo + 4294967296 * hi) := ⟨by omega⟩
        clear c2 FAIL
        have HL := Asd.mk (good_less HE.out (by rw [HM.out]; exact HF.out))
        have hqp : 1 ≤ q := by
          rcases Int.lt_or_le q 1 with h | h
          · have h0 : q = 0 := by omega
            have := HM.out
            have := HF.out
            rw [h0] at *
            omega
          · exact h
        clear HF HM
        go_wp2_with fail
        (with_reducible refine (limb_Add _ _ _ hr0 hr1 (by omega) hb11 (by omega) (by omega) _).mono ?_)
        rintro e w2 ⟨rfl, s, k2, rfl, hs, hs0, hs1⟩
        have HS := Asd.mk hs
        have hk : 0 ≤ k2 ∧ k2 ≤ 1 := by omega
        obtain ⟨hk0, hk1⟩ := hk
        clear hs
        have HE2 : Asd ((q - 1) * b1 + (r + b1) = a2 * 4294967296 + a1) := ⟨by rw [← HE.out]; grind⟩
        by_cases c4 : 0 < k2
        · have HG := Asd.mk (good_carry (b0 := b0) HE2.out (by omega) (by omega) hb00 hb01 h00 (.inr HL.out) (by have := HS.out; omega))
          go_wp2
          rw [Exit.noGoto_ret]
          go_ret
          exact ⟨q - 1, rfl, HG.out, hdn⟩
        · have HR : Asd (s = r + b1) := ⟨by have := HS.out; omega⟩
          have HE3 : Asd ((q - 1) * b1 + s = a2 * 4294967296 + a1) := ⟨by rw [HR.out]; exact HE2.out⟩
          go_wp2
          go_round
          case rel => exact ⟨q - 1, s, rfl, rfl, by omega, by omega, hs0, hs1, HE3, ⟨.inr HL.out⟩⟩
          case measure => simp [intOf]; omega
  · have he : a2 = b1 := by omega
    subst he
    have HT : Asd (4294967295 * a2 + (a1 + a2) = a2 * 4294967296 + a1) := ⟨by omega⟩
    go_enter Tryz.func199, Tryz.ntmps199
    go_wp2
    go_step3
    go_wp2_with fail
    (with_reducible refine (limb_Div_no _ _ _ (Int.le_refl _) _).mono ?_)
    rintro e w1 ⟨rfl, rfl⟩
    go_wp2_with fail
    (with_reducible refine (limb_Add _ _ _ h10 h11 h20 hb11 (by omega) (by omega) _).mono ?_)
    rintro e w2 ⟨rfl, s, k, rfl, hs, hs0, hs1⟩
    have HS := Asd.mk hs
    have hk : 0 ≤ k ∧ k ≤ 1 := by omega
    obtain ⟨hk0, hk1⟩ := hk
    clear hs
    by_cases hc : 0 < k
    · have HG := Asd.mk (good_carry (b0 := b0) HT.out (by omega) (by omega) hb00 hb01 h00 (.inl rfl) (by have := HS.out; omega))
      go_wp2
      rw [Exit.noGoto_ret]
      go_ret
      exact ⟨4294967295, rfl, HG.out, Dn.refl _⟩
    have HR : Asd (s = a1 + a2) := ⟨by have := HS.out; omega⟩
    have HT2 : Asd (4294967295 * a2 + s = a2 * 4294967296 + a1) := ⟨by rw [HR.out]; exact HT.out⟩
    go_wp2
    go_step3
    go_wp2
    go_loop [11, 12] (fun u v => ∃ q r : Int, u = .int .u32 q ∧ v = .int .u32 r ∧ 0 ≤ q ∧ q < 4294967296 ∧ 0 ≤ r ∧ r < 4294967296 ∧ Asd (q * a2 + r = a2 * 4294967296 + a1) ∧ Asd (q = 4294967295 ∨ (a2 * 4294967296 + a1) * 4294967296 + a0 < (q + 1) * (a2 * 4294967296 + b0))) (fun u _ => (intOf u).toNat)
    case atStart => exact ⟨4294967295, s, rfl, rfl, by omega, by omega, hs0, hs1, HT2, ⟨.inl rfl⟩⟩
    case round =>
      obtain ⟨q, r, rfl, rfl, hq0, hq1, hr0, hr1, HE, HU⟩ := hrel
      go_wp2_with fail
      (with_reducible refine (limb_Mul _ _ _ _ hq0 hq1 hb00 hb01 (by omega) (by omega) (by omega) (by omega) _).mono ?_)
      rintro e w2 ⟨rfl, hi, lo, rfl, hs, hlo0, hlo1, hhi0, hhi1⟩
      have HM : Asd (q * b0 = lo + 4294967296 * hi) := ⟨by omega⟩
      clear hs
      by_cases c1 : hi < r
      · have HG := Asd.mk (good_exit HE.out hq0 hq1 HU.out (by rw [HM.out]; omega))
        go_wp2
        rw [Exit.noGoto_ret]
        go_ret
        exact ⟨q, rfl, HG.out, Dn.refl _⟩
      have FAIL : r * 4294967296 + a0 < lo + 4294967296 * hi → _root_.True := fun _ => trivial
      by_cases c2 : hi = r
      · by_cases c3 : lo ≤ a0
        · have HG := Asd.mk (good_exit HE.out hq0 hq1 HU.out (by rw [HM.out]; omega))
          subst c2
          have hb : (hi == hi) = true := by simp
          clear FAIL
          go_wp2
          rw [Exit.noGoto_ret]
          go_ret
          exact ⟨q, rfl, HG.out, Dn.refl _⟩
        · have hb : (hi == r) = true := by simpa using c2
          have HF : Asd (r * 4294967296 + a0 < lo + 4294967296 * hi) := ⟨by omega⟩
          clear c2 FAIL
          have HL := Asd.mk (good_less HE.out (by rw [HM.out]; exact HF.out))
          have hqp : 1 ≤ q := by
            rcases Int.lt_or_le q 1 with h | h
            · have h0 : q = 0 := by omega
              have := HM.out
              have := HF.out
              rw [h0] at *
              omega
            · exact h
          clear HF HM
          go_wp2_with fail
          (with_reducible refine (limb_Add _ _ _ hr0 hr1 (by omega) hb11 (by omega) (by omega) _).mono ?_)
          rintro e w2 ⟨rfl, s, k2, rfl, hs, hs0, hs1⟩
          have HS := Asd.mk hs
          have hk : 0 ≤ k2 ∧ k2 ≤ 1 := by omega
          obtain ⟨hk0, hk1⟩ := hk
          clear hs
          have HE2 : Asd ((q - 1) * a2 + (r + a2) = a2 * 4294967296 + a1) := ⟨by rw [← HE.out]; grind⟩
          by_cases c4 : 0 < k2
          · have HG := Asd.mk (good_carry (b0 := b0) HE2.out (by omega) (by omega) hb00 hb01 h00 (.inr HL.out) (by have := HS.out; omega))
            go_wp2
            rw [Exit.noGoto_ret]
            go_ret
            exact ⟨q - 1, rfl, HG.out, Dn.refl _⟩
          · have HR : Asd (s = r + a2) := ⟨by have := HS.out; omega⟩
            have HE3 : Asd ((q - 1) * a2 + s = a2 * 4294967296 + a1) := ⟨by rw [HR.out]; exact HE2.out⟩
            go_wp2
            go_round
            case rel => exact ⟨q - 1, s, rfl, rfl, by omega, by omega, hs0, hs1, HE3, ⟨.inr HL.out⟩⟩
            case measure => simp [intOf]; omega
      · have hb : (hi == r) = false := by simpa using c2
        have HF : Asd (r * 4294967296 + a0 < lo + 4294967296 * hi) := ⟨by omega⟩
        clear c2 FAIL
        have HL := Asd.mk (good_less HE.out (by rw [HM.out]; exact HF.out))
        have hqp : 1 ≤ q := by
          rcases Int.lt_or_le q 1 with h | h
          · have h0 : q = 0 := by omega
            have := HM.out
            have := HF.out
            rw [h0] at *
            omega
          · exact h
        clear HF HM
        go_wp2_with fail
        (with_reducible refine (limb_Add _ _ _ hr0 hr1 (by omega) hb11 (by omega) (by omega) _).mono ?_)
        rintro e w2 ⟨rfl, s, k2, rfl, hs, hs0, hs1⟩
        have HS := Asd.mk hs
        have hk : 0 ≤ k2 ∧ k2 ≤ 1 := by omega
        obtain ⟨hk0, hk1⟩ := hk
        clear hs
        have HE2 : Asd ((q - 1) * a2 + (r + a2) = a2 * 4294967296 + a1) := ⟨by rw [← HE.out]; grind⟩
        by_cases c4 : 0 < k2
        · have HG := Asd.mk (good_carry (b0 := b0) HE2.out (by omega) (by omega) hb00 hb01 h00 (.inr HL.out) (by have := HS.out; omega))
          go_wp2
          rw [Exit.noGoto_ret]
          go_ret
          exact ⟨q - 1, rfl, HG.out, Dn.refl _⟩
        · have HR : Asd (s = r + a2) := ⟨by have := HS.out; omega⟩
          have HE3 : Asd ((q - 1) * a2 + s = a2 * 4294967296 + a1) := ⟨by rw [HR.out]; exact HE2.out⟩
          go_wp2
          go_round
          case rel => exact ⟨q - 1, s, rfl, rfl, by omega, by omega, hs0, hs1, HE3, ⟨.inr HL.out⟩⟩
          case measure => simp [intOf]; omega
end Go.Proofs.YthjpkichpkomcaaGreatDoor
