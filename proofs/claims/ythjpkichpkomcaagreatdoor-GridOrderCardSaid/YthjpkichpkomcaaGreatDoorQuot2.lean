/- Layer 5: Knuth's algorithm D (quot.guess, take, give, long). -/
import Derived.Test.YthjpkichpkomcaaGreatDoorQuot
import Derived.Outline
namespace Go.Proofs.YthjpkichpkomcaaGreatDoor
open Go.RowKit Go.Proofs.YthjpkichpkomcaaGreatDoor.Big
set_option linter.unusedVariables false
set_option maxRecDepth 100000

theorem take_step {vq o ax pk carry borrow lo c2 b2 x y vt z s : Int} (h : vq - ax * pk * (carry + borrow) = o - ax * (x * vt)) (hm : lo + 4294967296 * c2 = x * y + carry + 0) (hs : s - 4294967296 * b2 = z - lo - borrow) :
    vq + ax * pk * (s - z) - ax * (4294967296 * pk) * (c2 + b2) = o - ax * (x * (vt + pk * y)) := by
  grind
theorem take_end {vq o ax pk carry borrow b2 x vt z s : Int} (h : vq - ax * pk * (carry + borrow) = o - ax * (x * vt)) (hs : s - 4294967296 * b2 = z - carry - borrow) :
    vq + ax * pk * (s - z) = o - ax * (x * vt) + ax * (4294967296 * pk) * b2 := by
  grind

set_option maxHeartbeats 1000000 in
theorem quot_take (ok : Nat → Prop) (g cap : Nat) (o : List Int) (at_ : Int) (A : Option Addr) (cA : Nat) (l : List Int) (x : Int) (w : World) (ho : Ow w g cap o) (h : Rd ok w A l) (hc : l.length ≤ cA) (hok : ¬ ok g) (hat : 0 ≤ at_) (hlen : at_ + l.length < o.length) (hx0 : 0 ≤ x) (hx1 : x < 4294967296) :
    Calls Tryz.prog 200 #[.slice (some ⟨g, 0, none⟩) o.length cap, .int .i64 at_, .slice A l.length cA, .int .u32 x] w fun e w' => ∃ (o' : List Int) (bf : Int), e = .returned (.bool (decide (0 < bf))) ∧ 0 ≤ bf ∧ bf ≤ 1 ∧ Ow w' g cap o' ∧ o'.length = o.length ∧ val o' = val o - pw at_.toNat * (x * val l) + pw at_.toNat * (4294967296 * pw l.length) * bf ∧ o'.drop (at_.toNat + l.length + 1) = o.drop (at_.toNat + l.length + 1) ∧ w.grownBy w' (some g) := by
  obtain ⟨m, rfl⟩ := Int.eq_ofNat_of_zero_le hat
  simp only [Int.toNat_natCast]
  have hl := h.len
  have hol := ho.len
  have HO0 := Asd.mk ho
  clear ho
  go_enter Tryz.func200, Tryz.ntmps200
  go_wp2
  go_loopw [9, 10, 17] (fun v u i wr => ∃ (k : Nat) (kc kb : Int) (q : List Int), k ≤ l.length ∧ i = .int .i64 k ∧ v = .int .u32 kc ∧ u = .int .u32 kb ∧ 0 ≤ kc ∧ kc < 4294967296 ∧ 0 ≤ kb ∧ kb ≤ 1 ∧ Asd (Ow wr g cap q) ∧ Asd (q.length = o.length) ∧ Asd (val q - pw m * pw k * (kc + kb) = val o - pw m * (x * val (l.take k))) ∧ Asd (q.drop (m + k) = o.drop (m + k)) ∧ Asd (w.grownBy wr (some g))) (fun _ _ i _ => l.length - (intOf i).toNat)
  case atStart => exact ⟨0, 0, 0, o, Nat.zero_le _, rfl, rfl, rfl, by omega, by omega, by omega, by omega, HO0, ⟨rfl⟩, ⟨by simp [val]⟩, ⟨rfl⟩, ⟨grown_refl _ _⟩⟩
  case round =>
    obtain ⟨k, kc, kb, q, hk, rfl, rfl, rfl, hk0, hk1, hb0, hb1, HO, HOL, HV, HD, HG⟩ := hrel
    have hcap := HO.out.lt
    by_cases hlt : k < l.length
    · have r1 : Rd ok wr A l := h.grown HG.out hok
      obtain ⟨ad, y, rfl, ho, hcell, hy0, hy1, HY⟩ := r1.el k hlt
      have hfr := HO.out.free (m + k)
      obtain ⟨z, hz, hz0, hz1, HZ2⟩ := HO.out.el (m + k) (by have := HOL.out; omega)
      have hmk : ((m : Int) + (k : Int)).toNat = m + k := by omega
      clear r1
      go_wp2_with fail
      (with_reducible refine (limb_Mul _ _ _ _ hx0 hx1 hy0 hy1 hk0 hk1 (by omega) (by omega) _).mono ?_)
      rintro e w2 ⟨rfl, hi, lo, rfl, hs, hlo0, hlo1, hhi0, hhi1⟩
      have HS := Asd.mk hs
      clear hs
      go_wp2_with fail
      (with_reducible refine (limb_Sub _ _ _ hz0 hz1 hlo0 hlo1 hb0 (by omega) _).mono ?_)
      rintro e w2 ⟨rfl, s, b2, rfl, hs, hs0, hs1⟩
      have hbb : 0 ≤ b2 ∧ b2 ≤ 1 := by omega
      obtain ⟨hb20, hb21⟩ := hbb
      have HS2 := Asd.mk hs
      clear hs
      go_wp2
      go_roundw
      case rel =>
        refine ⟨k + 1, hi, b2, q.set (m + k) s, hlt, by go_num, rfl, rfl, hhi0, hhi1, hb20, hb21, ⟨HO.out.set _ hs0 hs1⟩, ⟨by rw [List.length_set]; exact HOL.out⟩, ⟨?_⟩, ⟨?_⟩, ⟨?_⟩⟩
        · rw [val_set q (m + k) s (by have := HOL.out; omega), val_take_succ l k hlt, HY.out, HZ2.out, pw_succ, pw_add]
          exact take_step HV.out HS.out HS2.out
        · rw [show m + (k + 1) = m + k + 1 from by omega, drop_set_succ]
          exact drop_more HD.out _ (by omega)
        · exact grown_trans HG.out (HO.out.2.2.stored _ _).2
      case measure => simp [intOf]; omega
    · have hkl : k = l.length := by omega
      subst hkl
      have hfr := HO.out.free (m + l.length)
      obtain ⟨z, hz, hz0, hz1, HZ2⟩ := HO.out.el (m + l.length) (by have := HOL.out; omega)
      have hmk : ((m : Int) + (l.length : Int)).toNat = m + l.length := by omega
      have hqlt : m + l.length < o.length := by omega
      go_wp2_with fail
      (with_reducible refine (limb_Sub _ _ _ hz0 hz1 hk0 hk1 hb0 (by omega) _).mono ?_)
      rintro e w2 ⟨rfl, s, b2, rfl, hs, hs0, hs1⟩
      have hbb : 0 ≤ b2 ∧ b2 ≤ 1 := by omega
      obtain ⟨hb20, hb21⟩ := hbb
      have HS2 := Asd.mk hs
      clear hs
      go_wp2
      go_ret
      refine ⟨q.set (m + l.length) s, b2, rfl, hb20, hb21, HO.out.set _ hs0 hs1, by rw [List.length_set]; exact HOL.out, ?_, ?_, grown_trans HG.out (HO.out.2.2.stored _ _).2⟩
      · rw [val_set q _ s (by have := HOL.out; omega), HZ2.out, pw_add]
        have := HV.out
        rw [List.take_of_length_le (Nat.le_refl _)] at this
        exact take_end this HS2.out
      · rw [drop_set_succ]
        exact drop_more HD.out _ (by omega)

theorem give_step {vq o ax pk carry c2 y vt z s : Int} (h : vq + ax * pk * carry = o + ax * vt) (hs : s + 4294967296 * c2 = z + y + carry) :
    vq + ax * pk * (s - z) + ax * (4294967296 * pk) * c2 = o + ax * (vt + pk * y) := by
  grind
theorem give_end {vq o ax pk carry t vt z s : Int} (h : vq + ax * pk * carry = o + ax * vt) (hs : s + 4294967296 * t = z + carry) :
    vq + ax * pk * (s - z) = o + ax * vt - ax * (4294967296 * pk) * t := by
  grind

set_option maxHeartbeats 1000000 in
theorem quot_give (ok : Nat → Prop) (g cap : Nat) (o : List Int) (at_ : Int) (A : Option Addr) (cA : Nat) (l : List Int) (w : World) (ho : Ow w g cap o) (h : Rd ok w A l) (hc : l.length ≤ cA) (hok : ¬ ok g) (hat : 0 ≤ at_) (hlen : at_ + l.length < o.length) :
    Calls Tryz.prog 201 #[.slice (some ⟨g, 0, none⟩) o.length cap, .int .i64 at_, .slice A l.length cA] w fun e w' => ∃ (o' : List Int) (t : Int), e = .returned (.tuple #[]) ∧ 0 ≤ t ∧ t ≤ 1 ∧ Ow w' g cap o' ∧ o'.length = o.length ∧ val o' = val o + pw at_.toNat * val l - pw at_.toNat * (4294967296 * pw l.length) * t ∧ o'.drop (at_.toNat + l.length + 1) = o.drop (at_.toNat + l.length + 1) ∧ w.grownBy w' (some g) := by
  obtain ⟨m, rfl⟩ := Int.eq_ofNat_of_zero_le hat
  simp only [Int.toNat_natCast]
  have hl := h.len
  have hol := ho.len
  have HO0 := Asd.mk ho
  clear ho
  go_enter Tryz.func201, Tryz.ntmps201
  go_wp2
  go_loopw [6, 11] (fun v i wr => ∃ (k : Nat) (kc : Int) (q : List Int), k ≤ l.length ∧ i = .int .i64 k ∧ v = .int .u32 kc ∧ 0 ≤ kc ∧ kc ≤ 1 ∧ Asd (Ow wr g cap q) ∧ Asd (q.length = o.length) ∧ Asd (val q + pw m * pw k * kc = val o + pw m * val (l.take k)) ∧ Asd (q.drop (m + k) = o.drop (m + k)) ∧ Asd (w.grownBy wr (some g))) (fun _ i _ => l.length - (intOf i).toNat)
  case atStart => exact ⟨0, 0, o, Nat.zero_le _, rfl, rfl, by omega, by omega, HO0, ⟨rfl⟩, ⟨by simp [val]⟩, ⟨rfl⟩, ⟨grown_refl _ _⟩⟩
  case round =>
    obtain ⟨k, kc, q, hk, rfl, rfl, hk0, hk1, HO, HOL, HV, HD, HG⟩ := hrel
    have hcap := HO.out.lt
    by_cases hlt : k < l.length
    · have r1 : Rd ok wr A l := h.grown HG.out hok
      obtain ⟨ad, y, rfl, ho, hcell, hy0, hy1, HY⟩ := r1.el k hlt
      have hfr := HO.out.free (m + k)
      obtain ⟨z, hz, hz0, hz1, HZ2⟩ := HO.out.el (m + k) (by have := HOL.out; omega)
      have hmk : ((m : Int) + (k : Int)).toNat = m + k := by omega
      clear r1
      go_wp2_with fail
      (with_reducible refine (limb_Add _ _ _ hz0 hz1 hy0 hy1 hk0 (by omega) _).mono ?_)
      rintro e w2 ⟨rfl, s, c2, rfl, hs, hs0, hs1⟩
      have hbb : 0 ≤ c2 ∧ c2 ≤ 1 := by omega
      obtain ⟨hb20, hb21⟩ := hbb
      have HS2 := Asd.mk hs
      clear hs
      go_wp2
      go_roundw
      case rel =>
        refine ⟨k + 1, c2, q.set (m + k) s, hlt, by go_num, rfl, hb20, hb21, ⟨HO.out.set _ hs0 hs1⟩, ⟨by rw [List.length_set]; exact HOL.out⟩, ⟨?_⟩, ⟨?_⟩, ⟨?_⟩⟩
        · rw [val_set q (m + k) s (by have := HOL.out; omega), val_take_succ l k hlt, HY.out, HZ2.out, pw_succ, pw_add]
          exact give_step HV.out HS2.out
        · rw [show m + (k + 1) = m + k + 1 from by omega, drop_set_succ]
          exact drop_more HD.out _ (by omega)
        · exact grown_trans HG.out (HO.out.2.2.stored _ _).2
      case measure => simp [intOf]; omega
    · have hkl : k = l.length := by omega
      subst hkl
      have hfr := HO.out.free (m + l.length)
      obtain ⟨z, hz, hz0, hz1, HZ2⟩ := HO.out.el (m + l.length) (by have := HOL.out; omega)
      have hmk : ((m : Int) + (l.length : Int)).toNat = m + l.length := by omega
      have hqlt : m + l.length < o.length := by omega
      have HN : Asd (∃ t : Int, 0 ≤ t ∧ t ≤ 1 ∧ (z + kc) % 4294967296 + 4294967296 * t = z + kc) := ⟨⟨(z + kc) / 4294967296, by omega, by omega, by omega⟩⟩
      go_wp2
      go_end0
      obtain ⟨t, ht0, ht1, ht⟩ := HN.out
      refine ⟨q.set (m + l.length) ((z + kc) % 4294967296), t, rfl, ht0, ht1, HO.out.set _ (by omega) (by omega), by rw [List.length_set]; exact HOL.out, ?_, ?_, grown_trans HG.out (HO.out.2.2.stored _ _).2⟩
      · rw [val_set q _ _ (by have := HOL.out; omega), HZ2.out, pw_add]
        have := HV.out
        rw [List.take_of_length_le (Nat.le_refl _)] at this
        exact give_end this ht
      · rw [drop_set_succ]
        exact drop_more HD.out _ (by omega)
end Go.Proofs.YthjpkichpkomcaaGreatDoor
