/- Common -/
import Derived.Test.YthjpkichpkomcaaGreatDoorBRowFigureNear6
import Derived.Test.YthjpkichpkomcaaGreatDoorBRowFigureNear9
import Derived.Outline
import Derived.Deep.LoopGhost
import Derived.WalkLawsBesides
/- Layer 6: common divisors (common.small, Gcd, one, Cancel). -/
namespace Go.Proofs.YthjpkichpkomcaaGreatDoor
open Go.RowKit Go.Proofs.YthjpkichpkomcaaGreatDoor.Big
set_option linter.unusedVariables false
set_option maxRecDepth 100000

/-- The common divisor of two numbers. -/
def gc (a b : Int) : Int := (Int.gcd a b : Int)
theorem gc_nonneg (a b : Int) : 0 ≤ gc a b := Int.natCast_nonneg _
theorem gc_step {a b : Int} (ha : 0 ≤ a) (hb : 0 ≤ b) : gc b (a % b) = gc a b := by
  obtain ⟨m, rfl⟩ := Int.eq_ofNat_of_zero_le ha
  obtain ⟨n, rfl⟩ := Int.eq_ofNat_of_zero_le hb
  unfold gc
  rw [← Int.natCast_emod, Int.gcd_natCast_natCast, Int.gcd_natCast_natCast, Nat.gcd_comm n, ← Nat.gcd_rec, Nat.gcd_comm]
theorem gc_zero {a : Int} (ha : 0 ≤ a) : gc a 0 = a := by unfold gc; rw [Int.gcd_zero]; omega
theorem gc_dvd_left (a b : Int) : gc a b ∣ a := Int.gcd_dvd_left ..
theorem gc_dvd_right (a b : Int) : gc a b ∣ b := Int.gcd_dvd_right ..
theorem gc_pos_right {a b : Int} (hb : 0 < b) : 0 < gc a b := by
  unfold gc; have := Int.gcd_pos_of_ne_zero_right a (show b ≠ 0 by omega); omega
theorem gc_le_right {a b : Int} (hb : 0 < b) : gc a b ≤ b := Int.le_of_dvd hb (gc_dvd_right a b)
theorem gc_le_left {a b : Int} (ha : 0 < a) : gc a b ≤ a := Int.le_of_dvd ha (gc_dvd_left a b)

set_option maxHeartbeats 400000 in
theorem common_small (x y : Int) (hx0 : 0 ≤ x) (hx1 : x < 18446744073709551616) (hy0 : 0 ≤ y) (hy1 : y < 18446744073709551616) (w : World) :
    Calls Tryz.prog 193 #[.int .u64 x, .int .u64 y] w fun e w' => Dn w w' ∧ e = .returned (.int .u64 (gc x y)) := by
  go_enter Tryz.func193, Tryz.ntmps193
  go_wp2
  go_loopw [0, 1] (fun u v wr => ∃ a b : Int, u = .int .u64 a ∧ v = .int .u64 b ∧ 0 ≤ a ∧ a < 18446744073709551616 ∧ 0 ≤ b ∧ b < 18446744073709551616 ∧ Asd (gc a b = gc x y) ∧ Asd (Dn w wr)) (fun _ v _ => (intOf v).toNat)
  case atStart => exact ⟨x, y, rfl, rfl, hx0, hx1, hy0, hy1, ⟨rfl⟩, ⟨Dn.refl _⟩⟩
  case round =>
    obtain ⟨a, b, rfl, rfl, ha0, ha1, hb0, hb1, HG, HD⟩ := hrel
    by_cases hb : b = 0
    · subst hb
      have HF := Asd.mk ((gc_zero ha0).symm.trans HG.out)
      go_wp2
      go_ret
      exact ⟨HD.out, by rw [← HF.out]; rfl⟩
    · have hbn : (b != 0) = true := by simpa using hb
      have hbn2 : (b == 0) = false := by simpa using hb
      have hr0 := Int.emod_nonneg a hb
      have hr1 := Int.emod_lt_of_pos a (show 0 < b by omega)
      have HN := Asd.mk ((gc_step ha0 hb0).trans HG.out)
      have hm : a.tmod b = a % b := IntWalk.rem_in _ _ ha0
      clear hb
      go_wp2
      go_quiet (fail)
      go_wp2
      go_roundw
      case rel => exact ⟨b, a % b, rfl, by first | rfl | rw [hm], hb0, hb1, hr0, by omega, HN, ⟨HD.out.step _⟩⟩
      case measure => simp [intOf]; omega

/-- What a call gives that hands back the right list of a number. -/
def NumOut (z : Int) (w : World) (e : Ending) (w' : World) : Prop := ∃ A1 c1, e = .returned (.slice A1 (rep z).length c1) ∧ (rep z).length ≤ c1 ∧ Rd (fun k => w.heap.size ≤ k) w' A1 (rep z) ∧ Below w.heap.size w w'

set_option maxHeartbeats 2000000 in
theorem common_Gcd (ok : Nat → Prop) (A : Option Addr) (c : Nat) (l : List Int) (ok' : Nat → Prop) (A' : Option Addr) (c' : Nat) (l' : List Int) (w : World) (h : Rd ok w A l) (hc : l.length ≤ c) (h' : Rd ok' w A' l') (hc' : l'.length ≤ c') (hbig : l.length < 1000000000) (hbig' : l'.length < 1000000000) :
    Calls Tryz.prog 158 #[.slice A l.length c, .slice A' l'.length c'] w (NumOut (gc (val l) (val l')) w) := by
  have HL1 : Asd ((rep (val l)).length ≤ l.length) := ⟨rep_length_le (val_lt h.wd)⟩
  have HL2 : Asd ((rep (val l')).length ≤ l'.length) := ⟨rep_length_le (val_lt h'.wd)⟩
  have HV := Asd.mk (And.intro (val_nonneg h.wd) (val_nonneg h'.wd))
  go_enter Tryz.func158, Tryz.ntmps158
  go_wp2_with fail
  refine (nat_Norm ok A c l w h hc).mono ?_
  rintro e w1 ⟨g, rfl, how, hg, hb⟩
  go_wp2_with fail
  refine (nat_Norm ok' A' c' l' w1 (h'.below hb) hc').mono ?_
  rintro e w2 ⟨g', rfl, how', hg', hb'⟩
  have HO := Asd.mk (how.below hb')
  have HO' := Asd.mk how'
  have HB := Asd.mk (below_go hb hb')
  have hgg : w.heap.size ≤ g' := by have := hb.size; omega
  clear how how' hb hb' h h'
  go_wp2
  go_loopg [0, 1] (val l').toNat (fun k u v wr => ∃ (A1 : Option Addr) (c1 : Nat) (A2 : Option Addr) (c2 : Nat) (a b : Int), u = .slice A1 (rep a).length c1 ∧ v = .slice A2 (rep b).length c2 ∧ (rep a).length ≤ c1 ∧ (rep b).length ≤ c2 ∧ (rep a).length < 1000000000 ∧ (rep b).length < 1000000000 ∧ Asd (0 ≤ a ∧ 0 ≤ b ∧ b.toNat ≤ k ∧ gc a b = gc (val l) (val l')) ∧ Asd (Rd (fun k => w.heap.size ≤ k) wr A1 (rep a)) ∧ Asd (Rd (fun k => w.heap.size ≤ k) wr A2 (rep b)) ∧ Asd (Below w.heap.size w wr))
  case atStart => exact ⟨_, _, _, _, val l, val l', rfl, rfl, Nat.le_refl _, Nat.le_refl _, by have := HL1.out; omega, by have := HL2.out; omega, ⟨HV.out.1, HV.out.2, Nat.le_refl _, rfl⟩, ⟨HO.out.rd hg⟩, ⟨HO'.out.rd hgg⟩, HB⟩
  case round =>
    obtain ⟨A1, c1, A2, c2, a, b, rfl, rfl, hc1, hc2, hl1, hl2, HAB, HA, HB1, HBW⟩ := hrel
    by_cases hlen : 2 < (rep b).length
    · have hd : decide ((2 : Int) < ((rep b).length : Int)) = true := decide_eq_true (by omega)
      have hbp : 0 < b := by
        rcases Int.lt_or_le 0 b with h1 | h1
        · exact h1
        · rw [rep_nil h1] at hlen; simp at hlen
      have HBP := Asd.mk hbp
      have hdv := quot_Div _ A1 c1 (rep a) _ A2 c2 (rep b) wr HA.out hc1 HB1.out hc2 (by rw [val_rep HAB.out.2.1]; exact hbp) (by omega)
      rw [val_rep HAB.out.1, val_rep HAB.out.2.1] at hdv
      have HDV := Asd.mk hdv
      clear hdv hbp
      go_wp2_with fail
      refine HDV.out.mono ?_
      rintro e w3 ⟨A3, c3, A4, c4, rfl, hc3, hc4, hr3, hr4, hb3⟩
      have HG2 : Asd (0 ≤ b ∧ 0 ≤ a % b ∧ (a % b).toNat < b.toNat ∧ gc b (a % b) = gc (val l) (val l')) := ⟨HAB.out.2.1, Int.emod_nonneg a (by have := HBP.out; omega), by
        have h1 := Int.emod_lt_of_pos a HBP.out
        have h2 := Int.emod_nonneg a (show b ≠ 0 by have := HBP.out; omega)
        omega, (gc_step HAB.out.1 HAB.out.2.1).trans HAB.out.2.2.2⟩
      have HL3 : (rep (a % b)).length < 1000000000 := Nat.lt_of_le_of_lt (rep_length_mono HG2.out.2.1 (Int.le_of_lt (Int.emod_lt_of_pos a HBP.out))) hl2
      have HA2 := Asd.mk (HB1.out.below hb3)
      have HB2 := Asd.mk (hr4.mono (ok' := fun k => w.heap.size ≤ k) (fun k _ hk => Nat.le_trans HBW.out.size hk))
      have HW2 := Asd.mk (below_go HBW.out hb3)
      clear hr3 hr4 hb3 HDV
      go_wp2
      go_roundg ((a % b).toNat)
      case measure => have := HG2.out.2.2.1; have := HAB.out.2.2.1; omega
      case rel => exact ⟨A2, c2, A4, c4, b, a % b, rfl, rfl, hc2, hc4, hl2, HL3, ⟨HG2.out.1, HG2.out.2.1, Nat.le_refl _, HG2.out.2.2.2⟩, HA2, HB2, HW2⟩
    · have hd : decide ((2 : Int) < ((rep b).length : Int)) = false := decide_eq_false (by omega)
      have hbm : b < 18446744073709551616 := (rep_le_two HAB.out.2.1).1 (by omega)
      by_cases hb0 : b = 0
      · have hl0 : (rep b).length = 0 := by rw [hb0, rep_zero]; rfl
        have HE : Asd (gc (val l) (val l') = a) := ⟨by rw [← HAB.out.2.2.2, hb0, gc_zero HAB.out.1]⟩
        have HRA := Asd.mk (And.intro HA.out HBW.out)
        clear hd hlen hbm hb0
        go_wp2
        go_ret
        exact ⟨A1, c1, by rw [HE.out]; rfl, by rw [HE.out]; exact hc1, by rw [HE.out]; exact HRA.out.1, HRA.out.2⟩
      · have hbp : 0 < b := by have := HAB.out.2.1; omega
        have hl0 : ¬ ((rep b).length = 0) := by have := rep_length_pos hbp; omega
        have hr0 := Int.emod_nonneg a hb0
        have hr1 := Int.emod_lt_of_pos a hbp
        have HE := Asd.mk ((gc_step HAB.out.1 HAB.out.2.1).trans HAB.out.2.2.2)
        have hgl := gc_nonneg b (a % b)
        have hgr := gc_le_left (b := a % b) hbp
        have HBS := Asd.mk (And.intro HAB.out.1 HAB.out.2.1)
        have hdv := quot_Div _ A1 c1 (rep a) _ A2 c2 (rep b) wr HA.out hc1 HB1.out hc2 (by rw [val_rep HAB.out.2.1]; exact hbp) (by omega)
        rw [val_rep HAB.out.1, val_rep HAB.out.2.1] at hdv
        have HDV := Asd.mk hdv
        clear hdv hb0 HAB
        go_wp2_with fail
        refine HDV.out.mono ?_
        rintro e w3 ⟨A3, c3, A4, c4, rfl, hc3, hc4, hr3, hr4, hb3⟩
        have HB2 := Asd.mk (HB1.out.below hb3)
        have hsm := nat_Small _ A2 c2 (rep b) w3 HB2.out hc2 (by rw [val_rep HBS.out.2]; exact hbm)
        rw [val_rep HBS.out.2] at hsm
        have HSM := Asd.mk hsm
        clear hsm HDV hr3
        go_wp2_with fail
        refine HSM.out.mono ?_
        rintro e w4 ⟨rfl, rfl⟩
        have hsm := nat_Small _ A4 c4 (rep (a % b)) w3 hr4 hc4 (by rw [val_rep hr0]; omega)
        rw [val_rep hr0] at hsm
        have HSM2 := Asd.mk hsm
        clear hsm HSM
        go_wp2_with fail
        refine HSM2.out.mono ?_
        rintro e w4 ⟨rfl, rfl⟩
        clear HSM2 hr4
        go_wp2_with fail
        refine (common_small b (a % b) (by omega) hbm hr0 (by omega) _).mono ?_
        rintro e w4 ⟨hdn, rfl⟩
        have HB5 := Asd.mk (below_go HBW.out (below_go hb3 (hdn.below _)))
        clear hb3 hdn
        go_wp2_with fail
        refine (nat_Of (gc b (a % b)) hgl (by omega) _).mono ?_
        rintro e w5 ⟨A5, c5, rfl, hc5, hr5, hb5⟩
        have HR5 := Asd.mk (hr5.mono (ok' := fun k => w.heap.size ≤ k) (fun k _ hk => Nat.le_trans HB5.out.size hk))
        have HB6 := Asd.mk (below_go HB5.out hb5)
        clear hr5 hb5
        go_wp2
        go_ret
        exact ⟨A5, c5, by rw [← HE.out]; rfl, by rw [← HE.out]; exact hc5, by rw [← HE.out]; exact HR5.out, HB6.out⟩

set_option maxHeartbeats 400000 in
theorem common_one (ok : Nat → Prop) (A : Option Addr) (c : Nat) (z : Int) (w : World) (h : Rd ok w A (rep z)) (hz : 0 ≤ z) :
    Calls Tryz.prog 159 #[.slice A (rep z).length c] w fun e w' => w = w' ∧ e = .returned (.bool (decide (z = 1))) := by
  by_cases hl : (rep z).length = 1
  · obtain ⟨ad, x, rfl, ho, hcell, hx0, hx1, HX⟩ := h.el 0 (by omega)
    have hv : val (rep z) = x := by
      have h1 := val_drop (rep z) 0 (by omega)
      rw [List.drop_zero, val_drop_zero _ 1 (by omega), HX.out] at h1
      omega
    rw [val_rep hz] at hv
    subst hv
    have HB : Asd ((z == 1) = decide (z = 1)) := ⟨by rw [Bool.eq_iff_iff]; simp⟩
    simp only [Addr.add, if_pos] at hcell
    clear HX h
    generalize hle : (rep z).length = len at *
    subst hl
    go_enter Tryz.func159, Tryz.ntmps159
    go_wp2
    go_ret
    exact ⟨rfl, by rw [← HB.out]; rfl⟩
  · have HB : Asd (decide (z = 1) = false) := ⟨decide_eq_false (fun e => hl (by rw [e, rep_word (by decide) (by decide)]; rfl))⟩
    have hle2 : (((rep z).length : Int) == 1) = false := by simp; omega
    clear h
    go_enter Tryz.func159, Tryz.ntmps159
    go_wp2
    go_ret
    exact ⟨rfl, by rw [HB.out]; rfl⟩

/-- What a call gives that hands back the right lists of two numbers. -/
def NumOut2 (z z' : Int) (w : World) (e : Ending) (w' : World) : Prop := ∃ A1 c1 A2 c2, e = .returned (.tuple #[.slice A1 (rep z).length c1, .slice A2 (rep z').length c2]) ∧ (rep z).length ≤ c1 ∧ (rep z').length ≤ c2 ∧ Rd (fun k => w.heap.size ≤ k) w' A1 (rep z) ∧ Rd (fun k => w.heap.size ≤ k) w' A2 (rep z') ∧ Below w.heap.size w w'

set_option maxHeartbeats 1000000 in
theorem common_Cancel (ok : Nat → Prop) (A : Option Addr) (c : Nat) (l : List Int) (ok' : Nat → Prop) (A' : Option Addr) (c' : Nat) (l' : List Int) (w : World) (h : Rd ok w A l) (hc : l.length ≤ c) (h' : Rd ok' w A' l') (hc' : l'.length ≤ c') (hbig : l.length < 1000000000) (hbig' : l'.length < 1000000000) (hpos : 0 < val l') :
    Calls Tryz.prog 111 #[.slice A l.length c, .slice A' l'.length c'] w (NumOut2 (val l / gc (val l) (val l')) (val l' / gc (val l) (val l')) w) := by
  have hgp := gc_pos_right (a := val l) hpos
  have hgl := rep_length_pos hgp
  have HGL : Asd ((rep (gc (val l) (val l'))).length ≤ l'.length) := ⟨Nat.le_trans (rep_length_mono (Int.le_of_lt hgp) (gc_le_right hpos)) (rep_length_le (val_lt h'.wd))⟩
  have HH := Asd.mk (And.intro h h')
  generalize hge : gc (val l) (val l') = g at *
  have HGE := Asd.mk hge
  have hgl0 : ¬ ((rep g).length = 0) := by omega
  clear hge h h'
  go_enter Tryz.func111, Tryz.ntmps111
  go_wp2_with fail
  refine (common_Gcd ok A c l ok' A' c' l' w HH.out.1 hc HH.out.2 hc' hbig hbig').mono ?_
  rw [HGE.out]
  rintro e w1 ⟨G, cg, rfl, hcg, hrg, hb1⟩
  have HR1 := Asd.mk (And.intro (HH.out.1.below hb1) (And.intro (HH.out.2.below hb1) hrg))
  have HB1 := Asd.mk hb1
  clear hrg hb1
  go_wp2_with fail
  refine (common_one _ G cg g w1 HR1.out.2.2 (by omega)).mono ?_
  rintro e w2 ⟨rfl, rfl⟩
  by_cases h1 : g = 1
  · have hd : decide (g = 1) = true := decide_eq_true h1
    have HE1 : Asd (val l / g = val l ∧ val l' / g = val l') := ⟨by rw [h1]; simp⟩
    rw [hd]
    clear hd h1
    go_wp2_with fail
    refine (nat_Norm ok A c l w1 HR1.out.1 hc).mono ?_
    rintro e w3 ⟨g1, rfl, how1, hg1, hb3⟩
    have HR3 := Asd.mk (And.intro how1 (HR1.out.2.1.below hb3))
    have HB3 := Asd.mk (below_go HB1.out hb3)
    have hg1' : w.heap.size ≤ g1 := by have := HB1.out.size; omega
    clear how1 hb3
    go_wp2_with fail
    refine (nat_Norm ok' A' c' l' w3 HR3.out.2 hc').mono ?_
    rintro e w4 ⟨g2, rfl, how2, hg2, hb4⟩
    have HB4 := Asd.mk (below_go HB3.out hb4)
    have HR4 := Asd.mk (And.intro (HR3.out.1.below hb4) how2)
    have hg2' : w.heap.size ≤ g2 := by have := HB3.out.size; omega
    clear how2 hb4
    go_wp2
    go_ret2
    exact ⟨some ⟨g1, 0, none⟩, (rep (val l)).length, some ⟨g2, 0, none⟩, (rep (val l')).length, by rw [HE1.out.1, HE1.out.2]; rfl, by rw [HE1.out.1]; exact Nat.le_refl _, by rw [HE1.out.2]; exact Nat.le_refl _, by rw [HE1.out.1]; exact HR4.out.1.rd hg1', by rw [HE1.out.2]; exact HR4.out.2.rd hg2', HB4.out⟩
  · have hd : decide (g = 1) = false := decide_eq_false h1
    rw [hd]
    have hdv := quot_Div ok A c l _ G cg (rep g) w1 HR1.out.1 hc HR1.out.2.2 hcg (by rw [val_rep (by omega)]; exact hgp) (by omega)
    rw [val_rep (by omega)] at hdv
    have HDV := Asd.mk hdv
    clear hd h1 hdv
    go_wp2_with fail
    refine HDV.out.mono ?_
    rintro e w3 ⟨A3, c3, A4, c4, rfl, hc3, hc4, hr3, hr4, hb3⟩
    have HR3 := Asd.mk (And.intro (HR1.out.2.1.below hb3) (And.intro (HR1.out.2.2.below hb3) hr3))
    have HB3 := Asd.mk (below_go HB1.out hb3)
    have hdv := quot_Div ok' A' c' l' _ G cg (rep g) w3 HR3.out.1 hc' HR3.out.2.1 hcg (by rw [val_rep (by omega)]; exact hgp) (by omega)
    rw [val_rep (by omega)] at hdv
    have HDV2 := Asd.mk hdv
    clear hr3 hr4 hb3 hdv HDV
    go_wp2_with fail
    refine HDV2.out.mono ?_
    rintro e w4 ⟨A5, c5, A6, c6, rfl, hc5, hc6, hr5, hr6, hb4⟩
    have hs1 := HB1.out.size
    have hs3 := HB3.out.size
    have HR4 := Asd.mk (And.intro ((HR3.out.2.2.below hb4).mono (ok' := fun k => w.heap.size ≤ k) (fun k _ hk => by omega)) (hr5.mono (ok' := fun k => w.heap.size ≤ k) (fun k _ hk => by omega)))
    have HB4 := Asd.mk (below_go HB3.out hb4)
    clear hr5 hr6 hb4 HDV2
    go_wp2
    go_ret2
    exact ⟨_, _, _, _, rfl, hc3, hc5, HR4.out.1, HR4.out.2, HB4.out⟩
end Go.Proofs.YthjpkichpkomcaaGreatDoor
