/- Quot4 -/
import Derived.Test.YthjpkichpkomcaaGreatDoorBRowFigureNear7
import Derived.Outline
import Derived.Deep.QuietTactic
import Derived.BigQuiet
/- Layer 5: the long division (quot.long). -/
namespace Go.Proofs.YthjpkichpkomcaaGreatDoor
open Go.RowKit Go.Proofs.YthjpkichpkomcaaGreatDoor.Big
set_option linter.unusedVariables false
set_option maxRecDepth 100000

/-- The guess, as a number. -/
def gs (a2 a1 a0 b1 b0 : Int) : Int := if ((a2 * 4294967296 + a1) * 4294967296 + a0) / (b1 * 4294967296 + b0) < 4294967295 then ((a2 * 4294967296 + a1) * 4294967296 + a0) / (b1 * 4294967296 + b0) else 4294967295
theorem good_gs {a2 a1 a0 b1 b0 x : Int} (hb : 0 < b1 * 4294967296 + b0) (h : Good a2 a1 a0 b1 b0 x) : x = gs a2 a1 a0 b1 b0 := by
  obtain ⟨h0, h1, h2, h3⟩ := h
  unfold gs
  generalize (a2 * 4294967296 + a1) * 4294967296 + a0 = A at *
  generalize b1 * 4294967296 + b0 = b at *
  have e1 : x ≤ A / b := (Int.le_ediv_iff_mul_le hb).2 h2
  rcases h3 with rfl | h3
  · rw [if_neg (by omega)]
  · have e2 : A / b < x + 1 := (Int.ediv_lt_iff_lt_mul hb).2 h3
    by_cases h4 : A / b < 4294967295
    · rw [if_pos h4]; omega
    · rw [if_neg h4]; omega

theorem quot_guess_v (a2 a1 a0 b1 b0 : Int) (h20 : 0 ≤ a2) (h21 : a2 ≤ b1) (h10 : 0 ≤ a1) (h11 : a1 < 4294967296) (h00 : 0 ≤ a0) (h01 : a0 < 4294967296) (hb10 : 0 < b1) (hb11 : b1 < 4294967296) (hb00 : 0 ≤ b0) (hb01 : b0 < 4294967296) (w : World) :
    Calls Tryz.prog 199 #[.int .u32 a2, .int .u32 a1, .int .u32 a0, .int .u32 b1, .int .u32 b0] w fun e w' => e = .returned (.int .u32 (gs a2 a1 a0 b1 b0)) ∧ Dn w w' := by
  refine (quot_guess a2 a1 a0 b1 b0 h20 h21 h10 h11 h00 h01 hb10 hb11 hb00 hb01 w).mono ?_
  rintro e w' ⟨x, rfl, hg, hd⟩
  rw [good_gs (by omega) hg]
  exact ⟨rfl, hd⟩
theorem gs_good {a2 a1 a0 b1 b0 : Int} (h20 : 0 ≤ a2) (h10 : 0 ≤ a1) (h00 : 0 ≤ a0) (hb : 0 < b1 * 4294967296 + b0) : Good a2 a1 a0 b1 b0 (gs a2 a1 a0 b1 b0) := by
  unfold Good gs
  have hA : 0 ≤ (a2 * 4294967296 + a1) * 4294967296 + a0 := by omega
  generalize (a2 * 4294967296 + a1) * 4294967296 + a0 = A at *
  generalize b1 * 4294967296 + b0 = b at *
  have e0 : 0 ≤ A / b := Int.ediv_nonneg hA (by omega)
  by_cases h4 : A / b < 4294967295
  · rw [if_pos h4]
    exact ⟨e0, by omega, (Int.le_ediv_iff_mul_le hb).1 (Int.le_refl _), .inr ((Int.ediv_lt_iff_lt_mul hb).1 (by omega))⟩
  · rw [if_neg h4]
    exact ⟨by omega, by omega, (Int.le_ediv_iff_mul_le hb).1 (by omega), .inl rfl⟩

/-- One round of the division, on values: vo what is left, D the divisor there, x the guess. -/
theorem long_round {vo D x a3 P A' b2 b' : Int} (hA : vo = a3 * P + A') (hD : D = b2 * P + b') (hP : 0 < P) (hA0 : 0 ≤ A') (hA1 : A' < P) (hb0 : 0 ≤ b') (hb1 : b' < P) (hb2 : 4294967296 ≤ b2) (hlt : vo < 4294967296 * D) (hx0 : 0 ≤ x) (hx1 : x < 4294967296) (h1 : x * b2 ≤ a3) (h2 : x = 4294967295 ∨ a3 < (x + 1) * b2) : x * D ≤ vo + D ∧ vo < (x + 1) * D := by
  refine ⟨guess_low hA hD hP hA0 hb0 hb1 hx0 hx1 hb2 h1, ?_⟩
  rcases h2 with rfl | h2
  · omega
  · exact guess_high hA hD hP hA1 hb0 hx0 h2

theorem top3 {o : List Int} {p : Nat} (hp : p + 2 < o.length) (hz : val (o.drop (p + 3)) = 0) : val o = ((o.getD (p + 2) 0 * 4294967296 + o.getD (p + 1) 0) * 4294967296 + o.getD p 0) * pw p + val (o.take p) := by
  rw [val_split o p (by omega), val_drop o p (by omega), val_drop o (p + 1) (by omega), val_drop o (p + 2) (by omega), hz]
  generalize o.getD (p + 2) 0 = x
  generalize o.getD (p + 1) 0 = y
  generalize o.getD p 0 = z
  grind
theorem top2 {l : List Int} {n : Nat} (hl : l.length = n + 2) : val l = (l.getD (n + 1) 0 * 4294967296 + l.getD n 0) * pw n + val (l.take n) := by
  rw [val_split l n (by omega), val_drop l n (by omega), val_drop l (n + 1) (by omega), val_drop_zero l (n + 2) (by omega)]
  generalize l.getD (n + 1) 0 = x
  generalize l.getD n 0 = y
  grind
theorem high_zero {o : List Int} (hw : Wd o) {p : Nat} (hp : p ≤ o.length) (h : val o < pw p) : val (o.drop p) = 0 := by
  have h1 := val_split o p hp
  have h2 := val_nonneg (hw.take p)
  have h3 := val_nonneg (hw.drop p)
  rcases Int.lt_or_le 0 (val (o.drop p)) with h4 | h4
  · have h5 : pw p * 1 ≤ pw p * val (o.drop p) := Int.mul_le_mul_of_nonneg_left (by omega) (by have := pw_pos p; omega)
    omega
  · omega
theorem val_lt_high {o : List Int} (hw : Wd o) {p : Nat} (hp : p ≤ o.length) (h : val (o.drop p) = 0) : val o < pw p := by
  have h1 := val_split o p hp
  have h2 := val_lt (hw.take p)
  rw [List.length_take, Nat.min_eq_left hp] at h2
  rw [h1, h]
  omega
/-- The highest word of what is left is at most the divisor's. -/
theorem top_le {vo vl a2 b1 r s pk pn : Int} (h : vo < vl * (4294967296 * pk)) (ho : vo = a2 * (pk * (4294967296 * pn)) + r) (hr : 0 ≤ r) (hl : vl = b1 * pn + s) (hs : s < pn) (hk : 0 < pk) (hn : 0 < pn) : a2 ≤ b1 := by
  rcases Int.lt_or_le b1 a2 with h1 | h1
  · have h2 : vl * (4294967296 * pk) ≤ ((b1 + 1) * pn) * (4294967296 * pk) := Int.mul_le_mul_of_nonneg_right (by rw [Int.add_mul]; omega) (by omega)
    have h3 : (b1 + 1) * (pk * (4294967296 * pn)) ≤ a2 * (pk * (4294967296 * pn)) := Int.mul_le_mul_of_nonneg_right (by omega) (Int.mul_nonneg (by omega) (by omega))
    have e : ((b1 + 1) * pn) * (4294967296 * pk) = (b1 + 1) * (pk * (4294967296 * pn)) := by grind
    rw [e] at h2
    omega
  · exact h1
theorem fin_no {vo D x E v2 : Int} (h : v2 = vo - x * D + E * 0) (hlt : vo < (x + 1) * D) (h0 : 0 ≤ v2) : v2 = vo - x * D ∧ v2 < D := by
  rw [Int.add_mul] at hlt
  omega
theorem fin_yes {vo D x E v2 v3 t : Int} (h : v2 = vo - x * D + E * 1) (h2 : v2 < E) (h3 : v3 = v2 + D - E * t) (ht0 : 0 ≤ t) (ht1 : t ≤ 1) (hlo : x * D ≤ vo + D) (hv0 : 0 ≤ v3) (hv : v3 < E) : v3 = vo - (x - 1) * D ∧ v3 < D := by
  rw [Int.sub_mul]
  have : t = 0 ∨ t = 1 := by omega
  rcases this with rfl | rfl
  · omega
  · omega

theorem al1 (a2 a1 a0 pk pn s : Int) : ((a2 * 4294967296 + a1) * 4294967296 + a0) * (pk * pn) + s = a2 * (pk * (4294967296 * (4294967296 * pn))) + ((a1 * 4294967296 + a0) * (pk * pn) + s) := by grind
theorem al2 (b1 b0 pn s : Int) : (b1 * 4294967296 + b0) * pn + s = b1 * (4294967296 * pn) + (b0 * pn + s) := by grind
theorem al3 (b2 pk pn s : Int) : pk * (b2 * pn) + pk * s = b2 * (pk * pn) + pk * s := by grind
theorem al4 (pk vl : Int) : 4294967296 * (pk * vl) = vl * (4294967296 * pk) := by grind
theorem al5 (v pk x vl E bf : Int) : v - pk * (x * vl) + pk * E * bf = v - x * (pk * vl) + pk * E * bf := by grind

theorem long_val (vo vl vq pk x : Int) : vo + vl * vq = vo - x * (pk * vl) + vl * (vq + pk * (x - 0)) := by grind
theorem long_end {r d q : Int} (h0 : 0 ≤ r) (h1 : r < d) : q = (r + d * q) / d ∧ r = (r + d * q) % d := by
  rw [Int.add_mul_ediv_left _ _ (by omega), Int.add_mul_emod_self_left, Int.ediv_eq_zero_of_lt h0 h1, Int.emod_eq_of_lt h0 h1]
  omega

set_option maxHeartbeats 2000000 in
theorem quot_long (ok : Nat → Prop) (g cap : Nat) (o : List Int) (A : Option Addr) (cA : Nat) (l : List Int) (w : World) (ho : Ow w g cap o) (h : Rd ok w A l) (hc : l.length ≤ cA) (hok : ¬ ok g) (hok2 : ∀ k, ok k → k < w.heap.size) (hn2 : 2 ≤ l.length) (hlen : l.length ≤ o.length) (hbig : o.length < 100000000000) (htop : 0 < l.getD (l.length - 1) 0) (hlt : val o < val l * pw (o.length - l.length)) :
    Calls Tryz.prog 177 #[.slice (some ⟨g, 0, none⟩) o.length cap, .slice A l.length cA] w fun e w' => ∃ (gq : Nat) (q o' : List Int), e = .returned (.slice (some ⟨gq, 0, none⟩) q.length q.length) ∧ w.heap.size ≤ gq ∧ Ow w' gq q.length q ∧ Ow w' g cap o' ∧ o'.length = o.length ∧ val q = val o / val l ∧ val o' = val o % val l ∧ w.grownBy w' (some g) := by
  obtain ⟨m, hm⟩ : ∃ m : Nat, o.length = m + l.length := ⟨o.length - l.length, by omega⟩
  have hgl := ho.lt
  obtain ⟨hmk, how⟩ := make_u32 w m (by omega)
  rw [show (m : Int) = (o.length : Int) - (l.length : Int) from by omega] at hmk
  have HOW := Asd.mk how
  have HM := Asd.mk hm
  have HLT : Asd (val o < val l * pw m) := ⟨by rwa [show o.length - l.length = m from by omega] at hlt⟩
  have HT := Asd.mk htop
  have HO0 := Asd.mk (ho.alloc (.cells (madeCells #[.int .u32 0] m) 125))
  have HSZ : Asd ((w.alloc (.cells (madeCells #[.int .u32 0] m) 125)).heap.size = w.heap.size + 1) := ⟨by simp⟩
  have HG0 : Asd (w.grownBy (w.alloc (.cells (madeCells #[.int .u32 0] m) 125)) (some g)) := ⟨World.grownBy_alloc _ _ _⟩
  have hm2 : m < 100000000000 := by omega
  clear hm htop hlt ho
  go_enter Tryz.func177, Tryz.ntmps177
  go_wp2
  generalize w.alloc (.cells (madeCells #[.int .u32 0] m) 125) = w0 at *
  clear hmk how
  go_loopw [7] (fun i wr => ∃ (j : Int) (o1 q1 : List Int), i = .int .i64 j ∧ -1 ≤ j ∧ j < m ∧ Asd (Ow wr g cap o1) ∧ Asd (o1.length = m + l.length) ∧ Asd (Ow wr w.heap.size m q1) ∧ Asd (q1.length = m) ∧ Asd (val o = val o1 + val l * val q1) ∧ Asd (val o1 < val l * pw (j + 1).toNat) ∧ Asd (∀ i : Nat, (i : Int) ≤ j → q1.getD i 0 = 0) ∧ Asd (w.grownBy wr (some g))) (fun i _ => (intOf i + 1).toNat)
  case atStart =>
    exact ⟨(m : Int) - 1, o, _, by go_num, by omega, by omega, HO0, HM, HOW, ⟨by simp⟩, ⟨by rw [val_replicate]; simp⟩, ⟨by rw [show ((m : Int) - 1 + 1).toNat = m from by omega]; exact HLT.out⟩, ⟨fun _ _ => getD_replicate _ _⟩, HG0⟩
  case round =>
    obtain ⟨j, o1, q1, rfl, hj0, hj1, HO, HOL, HQ, HQL, HV, HB, HZ, HG⟩ := hrel
    by_cases hj : 0 ≤ j
    · obtain ⟨k, rfl⟩ := Int.eq_ofNat_of_zero_le hj
      obtain ⟨a2, hc2, ha20, ha21, HA2⟩ := HO.out.el (k + l.length) (by have := HOL.out; omega)
      obtain ⟨a1, hc1, ha10, ha11, HA1⟩ := HO.out.el (k + l.length - 1) (by have := HOL.out; omega)
      obtain ⟨a0, hc0, ha00, ha01, HA0⟩ := HO.out.el (k + l.length - 2) (by have := HOL.out; omega)
      have hrl := (Rd.grown (by assumption) HG.out hok : Rd ok wr A l)
      obtain ⟨ad, b1, rfl, _, hd1, hb10, hb11, HB1⟩ := hrl.el (l.length - 1) (by omega)
      obtain ⟨b0, hd0, hb00, hb01, HB0⟩ : ∃ y : Int, wr.cell? (ad.add (l.length - 2)) = some (.int .u32 y) ∧ 0 ≤ y ∧ y < 4294967296 ∧ Asd (l.getD (l.length - 2) 0 = y) := ⟨_, hrl.cell _ (by omega), (hrl.wd.getD _).1, (hrl.wd.getD _).2, ⟨rfl⟩⟩
      have HV1 : Asd (val o1 < val l * (4294967296 * pw k)) := ⟨by have := HB.out; rwa [show ((k : Int) + 1).toNat = k + 1 from by omega, pw_succ] at this⟩
      have HHZ : Asd (val (o1.drop (k + l.length + 1)) = 0) := ⟨by
        refine high_zero HO.out.wd (by have := HOL.out; omega) ?_
        have h1 := val_lt hrl.wd
        have h2 : val l * (4294967296 * pw k) ≤ pw l.length * (4294967296 * pw k) := Int.mul_le_mul_of_nonneg_right (by omega) (by have := pw_pos k; omega)
        have h3 := HV1.out
        rw [show k + l.length + 1 = l.length + (k + 1) from by omega, pw_add, pw_succ]
        omega⟩
      have HE3 : Asd (val o1 = ((a2 * 4294967296 + a1) * 4294967296 + a0) * (pw k * pw (l.length - 2)) + val (o1.take (k + l.length - 2))) := ⟨by
        have := top3 (o := o1) (p := k + l.length - 2) (by have := HOL.out; omega) (by rw [show k + l.length - 2 + 3 = k + l.length + 1 from by omega]; exact HHZ.out)
        rw [show k + l.length - 2 + 2 = k + l.length from by omega, show k + l.length - 2 + 1 = k + l.length - 1 from by omega, HA2.out, HA1.out, HA0.out, show pw (k + l.length - 2) = pw k * pw (l.length - 2) from by rw [← pw_add]; congr 1; omega] at this
        exact this⟩
      have HE2 : Asd (val l = (b1 * 4294967296 + b0) * pw (l.length - 2) + val (l.take (l.length - 2))) := ⟨by
        have := top2 (l := l) (n := l.length - 2) (by omega)
        rw [show l.length - 2 + 1 = l.length - 1 from by omega, HB1.out, HB0.out] at this
        exact this⟩
      have hp1 := pw_pos k
      have hp2 := pw_pos (l.length - 2)
      have HP3 : Asd (0 ≤ val (o1.take (k + l.length - 2)) ∧ val (o1.take (k + l.length - 2)) < pw k * pw (l.length - 2)) := ⟨val_nonneg (HO.out.wd.take _), by
        have := val_lt (HO.out.wd.take (k + l.length - 2))
        rw [List.length_take, Nat.min_eq_left (by have := HOL.out; omega)] at this
        rwa [show pw (k + l.length - 2) = pw k * pw (l.length - 2) from by rw [← pw_add]; congr 1; omega] at this⟩
      have HP2 : Asd (0 ≤ val (l.take (l.length - 2)) ∧ val (l.take (l.length - 2)) < pw (l.length - 2)) := ⟨val_nonneg (hrl.wd.take _), by
        have := val_lt (hrl.wd.take (l.length - 2))
        rwa [List.length_take, Nat.min_eq_left (by omega)] at this⟩
      have hb1p : 0 < b1 := by have := HT.out; rwa [HB1.out] at this
      have ha2b : a2 ≤ b1 := by
        refine top_le (r := (a1 * 4294967296 + a0) * (pw k * pw (l.length - 2)) + val (o1.take (k + l.length - 2))) (s := b0 * pw (l.length - 2) + val (l.take (l.length - 2))) (pn := 4294967296 * pw (l.length - 2)) HV1.out ?_ ?_ ?_ ?_ hp1 (by omega)
        · rw [HE3.out]; exact al1 _ _ _ _ _ _
        · have h1 : 0 ≤ (a1 * 4294967296 + a0) * (pw k * pw (l.length - 2)) := Int.mul_nonneg (by omega) (Int.mul_nonneg (by omega) (by omega))
          have := HP3.out.1; omega
        · rw [HE2.out]; exact al2 _ _ _ _
        · have h1 : (b0 + 1) * pw (l.length - 2) ≤ 4294967296 * pw (l.length - 2) := Int.mul_le_mul_of_nonneg_right (by omega) (by omega)
          have := HP2.out.2
          rw [Int.add_mul] at h1
          omega
      have HGS := Asd.mk (gs_good (a2 := a2) (a1 := a1) (a0 := a0) (b1 := b1) (b0 := b0) ha20 ha10 ha00 (by omega))
      have HLR := Asd.mk (long_round (vo := val o1) (D := pw k * val l) (x := gs a2 a1 a0 b1 b0) (a3 := (a2 * 4294967296 + a1) * 4294967296 + a0) (P := pw k * pw (l.length - 2)) (b2 := b1 * 4294967296 + b0) (b' := pw k * val (l.take (l.length - 2))) HE3.out
        (by conv => lhs; rw [HE2.out, Int.mul_add]
            exact al3 _ _ _ _) (Int.mul_pos hp1 hp2) HP3.out.1 HP3.out.2 (Int.mul_nonneg (by omega) HP2.out.1) (Int.mul_lt_mul_of_pos_left HP2.out.2 hp1) (by omega) (by have := HV1.out; rw [al4]; exact this) HGS.out.1 HGS.out.2.1 HGS.out.2.2.1 HGS.out.2.2.2)
      clear hp1 hp2 HE3 HE2 HP3 HP2
      have e1 : ((k : Int) + (l.length : Int)).toNat = k + l.length := by omega
      have e2 : ((k : Int) + (l.length : Int) - 1).toNat = k + l.length - 1 := by omega
      have e3 : ((k : Int) + (l.length : Int) - 2).toNat = k + l.length - 2 := by omega
      have e4 : ((l.length : Int) - 2).toNat = l.length - 2 := by omega
      have b1_ : 0 ≤ (k : Int) + (l.length : Int) := by omega
      have b2_ : (k : Int) + (l.length : Int) < (o.length : Int) := by have := HM.out; omega
      have b3_ : 0 ≤ (k : Int) + (l.length : Int) - 1 := by omega
      have b4_ : (k : Int) + (l.length : Int) - 1 < (o.length : Int) := by have := HM.out; omega
      have b5_ : 0 ≤ (k : Int) + (l.length : Int) - 2 := by omega
      have b6_ : (k : Int) + (l.length : Int) - 2 < (o.length : Int) := by have := HM.out; omega
      have b7_ : 0 ≤ (l.length : Int) - 1 := by omega
      have b8_ : (l.length : Int) - 1 < (l.length : Int) := by omega
      have b9_ : 0 ≤ (l.length : Int) - 2 := by omega
      have b0_ : (l.length : Int) - 2 < (l.length : Int) := by omega
      have s1 : IntKind.i64.wrap ((k : Int) + (l.length : Int)) = (k : Int) + (l.length : Int) := IntWalk.i64_in _ (by omega)
      have s2 : IntKind.i64.wrap ((k : Int) + (l.length : Int) - 1) = (k : Int) + (l.length : Int) - 1 := IntWalk.i64_in _ (by omega)
      have s3 : IntKind.i64.wrap ((k : Int) + (l.length : Int) - 2) = (k : Int) + (l.length : Int) - 2 := IntWalk.i64_in _ (by omega)
      have s4 : IntKind.i64.wrap ((l.length : Int) - 1) = (l.length : Int) - 1 := IntWalk.i64_in _ (by omega)
      have s5 : IntKind.i64.wrap ((l.length : Int) - 2) = (l.length : Int) - 2 := IntWalk.i64_in _ (by omega)
      go_wp2_with fail
      go_quiet ((go_at_call 199; exact Calls.quiet_of (quot_guess_v _ _ _ _ _ ha20 ha2b ha10 ha11 ha00 ha01 hb1p hb11 hb00 hb01 _)))
      clear s1 s2 s3 s4 s5 e1 e2 e3 e4 b1_ b2_ b3_ b4_ b5_ b6_ b7_ b8_ b9_ b0_ hc0 hc1 hc2 hd0 hd1
      obtain ⟨x, hx⟩ : ∃ x, gs a2 a1 a0 b1 b0 = x := ⟨_, rfl⟩
      rw [hx] at HGS HLR
      simp only [hx]
      have hx0 := HGS.out.1
      have hx1 := HGS.out.2.1
      clear HGS hx
      have hp := quot_take ok g cap o1 k (some ad) cA l x (wr.drewN nq) (HO.out.drewN nq) (hrl.drewN nq) hc hok (by omega) (by rw [HOL.out]; omega) hx0 hx1
      rw [HOL.out, ← HM.out] at hp
      simp only [Int.toNat_natCast] at hp
      have HP := Asd.mk hp
      clear hp
      go_wp2_with fail
      (with_reducible refine HP.out.mono ?_)
      rintro e w1 ⟨o2, bf, rfl, hbf0, hbf1, ho2, hol2, hv2, hd2, hg2⟩
      have HO2 := Asd.mk ho2
      have HOL2 : Asd (o2.length = o.length) := ⟨hol2⟩
      have HG2 : Asd (w.grownBy w1 (some g)) := ⟨grown_trans HG.out (grown_trans (grown_drewN _ _ nq) hg2)⟩
      have HQ2 : Asd (Ow w1 w.heap.size m q1) := ⟨(HQ.out.drewN nq).grown hg2 (by omega)⟩
      have hz2 : val (o2.drop (k + l.length + 1)) = 0 := by rw [hd2]; exact HHZ.out
      have HE2 : Asd (0 ≤ val o2 ∧ val o2 < pw k * (4294967296 * pw l.length)) := ⟨val_nonneg ho2.wd, by
        have := val_lt_high ho2.wd (p := k + l.length + 1) (by rw [hol2]; have := HM.out; omega) hz2
        rwa [show pw (k + l.length + 1) = pw k * (4294967296 * pw l.length) from by rw [show k + l.length + 1 = k + (l.length + 1) from by omega, pw_add, pw_succ]] at this⟩
      have HV2 : Asd (val o2 = val o1 - x * (pw k * val l) + pw k * (4294967296 * pw l.length) * bf) := ⟨by rw [hv2]; exact al5 _ _ _ _ _ _⟩
      have HZ2 := Asd.mk hz2
      have HD2 : Asd (o2.drop (k + l.length + 1) = o1.drop (k + l.length + 1)) := ⟨hd2⟩
      have hw1 : w.heap.size < w1.heap.size := HQ2.out.lt
      have HO10 : Asd (0 ≤ val o1) := ⟨val_nonneg HO.out.wd⟩
      clear HP hv2 hd2 hg2 hz2 ho2 hol2 HG HQ HO HHZ hrl
      have hqk : Asd (q1.getD k 0 = 0) := ⟨HZ.out k (Int.le_refl _)⟩
      by_cases hbf : 0 < bf
      · have hb1' : bf = 1 := by omega
        subst hb1'
        have hvo : val o1 < x * (pw k * val l) := by
          have h1 := HE2.out.2
          have h2 := HV2.out
          omega
        have hxp : 1 ≤ x := by
          rcases Int.lt_or_le x 1 with h1 | h1
          · have h0 : x = 0 := by omega
            have h2 := HO10.out
            rw [h0, Int.zero_mul] at hvo
            omega
          · exact h1
        clear hvo
        have hrl2 := (Rd.grown (by assumption) HG2.out hok : Rd ok w1 (some ad) l)
        have hp := quot_give ok g cap o2 k (some ad) cA l w1 HO2.out hrl2 hc hok (by omega) (by rw [HOL2.out, HM.out]; omega)
        rw [HOL2.out] at hp
        simp only [Int.toNat_natCast] at hp
        have HP := Asd.mk hp
        clear hp hrl2
        have hbt : decide ((0 : Int) < 1) = true := rfl
        go_wp2_with fail
        (with_reducible refine HP.out.mono ?_)
        rintro e w2 ⟨o3, t, rfl, ht0, ht1, ho3, hol3, hv3, hd3, hg3⟩
        have hz3 : val (o3.drop (k + l.length + 1)) = 0 := by rw [hd3]; exact HZ2.out
        have hlt3 := val_lt_high ho3.wd (p := k + l.length + 1) (by rw [hol3]; have := HM.out; omega) hz3
        rw [show pw (k + l.length + 1) = pw k * (4294967296 * pw l.length) from by rw [show k + l.length + 1 = k + (l.length + 1) from by omega, pw_add, pw_succ]] at hlt3
        have HF := Asd.mk (fin_yes HV2.out HE2.out.2 hv3 ht0 ht1 HLR.out.1 (val_nonneg ho3.wd) hlt3)
        have HO3 := Asd.mk ho3
        have HOL3 : Asd (o3.length = m + l.length) := ⟨by rw [hol3]; exact HM.out⟩
        have HG3 : Asd (w.grownBy w2 (some g)) := ⟨grown_trans HG2.out hg3⟩
        have HQ3 : Asd (Ow w2 w.heap.size m q1) := ⟨HQ2.out.grown hg3 (by omega)⟩
        have hw2 : w.heap.size < w2.heap.size := HQ3.out.lt
        obtain ⟨zq, hzq, _, _, _⟩ := HQ3.out.el k (by rw [HQL.out]; omega)
        have hfq := HQ3.out.free k
        clear hv3 hd3 hg3 hz3 hlt3 ho3 hol3 HP
        go_wp2
        go_roundw
        case rel =>
          refine ⟨(k : Int) - 1, o3, q1.set k (x - 1), rfl, by omega, by omega, ⟨HO3.out.setCell (by simp; omega) _⟩, HOL3, ⟨HQ3.out.set k (by omega) (by omega)⟩, ⟨by rw [List.length_set]; exact HQL.out⟩, ⟨?_⟩, ⟨?_⟩, ⟨?_⟩, ⟨grown_new HG3.out (Nat.le_refl _) (HQ3.out.2.2.stored _ _).2⟩⟩
          · rw [val_set q1 k _ (by rw [HQL.out]; omega), hqk.out, HV.out, HF.out.1]
            exact long_val _ _ _ _ _
          · rw [show ((k : Int) - 1 + 1).toNat = k from by omega, Int.mul_comm]
            exact HF.out.2
          · intro i hi
            rw [List.getD_eq_getElem?_getD, List.getElem?_set_ne (by omega), ← List.getD_eq_getElem?_getD]
            exact HZ.out i (by omega)
        case measure => simp [intOf]
      · have hb0' : bf = 0 := by omega
        subst hb0'
        have HF := Asd.mk (fin_no HV2.out HLR.out.2 HE2.out.1)
        obtain ⟨zq, hzq, _, _, _⟩ := HQ2.out.el k (by rw [HQL.out]; omega)
        have hfq := HQ2.out.free k
        have HOL3 : Asd (o2.length = m + l.length) := ⟨by rw [HOL2.out]; exact HM.out⟩
        clear hbf hbf0 hbf1
        go_wp2
        go_roundw
        case rel =>
          refine ⟨(k : Int) - 1, o2, q1.set k x, rfl, by omega, by omega, ⟨HO2.out.setCell (by simp; omega) _⟩, HOL3, ⟨HQ2.out.set k (by omega) (by omega)⟩, ⟨by rw [List.length_set]; exact HQL.out⟩, ⟨?_⟩, ⟨?_⟩, ⟨?_⟩, ⟨grown_new HG2.out (Nat.le_refl _) (HQ2.out.2.2.stored _ _).2⟩⟩
          · rw [val_set q1 k _ (by rw [HQL.out]; omega), hqk.out, HV.out, HF.out.1]
            exact long_val _ _ _ _ _
          · rw [show ((k : Int) - 1 + 1).toNat = k from by omega, Int.mul_comm]
            exact HF.out.2
          · intro i hi
            rw [List.getD_eq_getElem?_getD, List.getElem?_set_ne (by omega), ← List.getD_eq_getElem?_getD]
            exact HZ.out i (by omega)
        case measure => simp [intOf]
    · have hj4 : j = -1 := by omega
      subst hj4
      have hv0 := val_nonneg HO.out.wd
      have hlt0 : val o1 < val l := by
        have := HB.out
        rw [show ((-1 : Int) + 1).toNat = 0 from rfl, pw_zero] at this
        omega
      have HD : Asd (val q1 = val o / val l ∧ val o1 = val o % val l) := ⟨by
        rw [HV.out]
        exact long_end hv0 hlt0⟩
      clear hv0 hlt0
      go_wp2
      go_ret
      exact ⟨w.heap.size, q1, by rw [HQL.out]; rfl, Nat.le_refl _, by rw [HQL.out]; exact HQ.out, o1, HO.out, by rw [HOL.out]; exact HM.out.symm, HD.out.1, HD.out.2, HG.out⟩
end Go.Proofs.YthjpkichpkomcaaGreatDoor
