/- FigN -/
import Derived.Test.YthjpkichpkomcaaGreatDoorBRowFigureNear44
import Derived.Test.YthjpkichpkomcaaGreatDoorBRowFigureNear41
import Derived.Test.YthjpkichpkomcaaGreatDoorBRowFigureNear46
/- What a fraction to some places is read as, and how near that is. -/
namespace Go.Proofs.YthjpkichpkomcaaGreatDoor
open Go.RowKit Go.Proofs.YthjpkichpkomcaaGreatDoor.Big
set_option linter.unusedVariables false

/-- The whole number of the last place, with its sign. -/
def roundM (q : Rat) (p : Nat) : Int := if q.num < 0 then -roundN q p else roundN q p

theorem behind_len {N : Int} {p : Nat} (h0 : 0 ≤ N) (hp : p ≠ 0) : (List.replicate (p - (decT (N % 10 ^ p)).length) 48 ++ decT (N % 10 ^ p)).length = p := by
  have h10 : (0 : Int) < 10 ^ p := Int.pow_pos (by decide)
  have := decT_short (Int.emod_nonneg N (Int.ne_of_gt h10)) (Int.emod_lt_of_pos N h10) hp
  rw [List.length_append, List.length_replicate]; omega
theorem decV_reps : ∀ (k : Nat) (l : List UInt8), decV (List.replicate k 48 ++ l) = decV l
  | 0, l => rfl
  | k + 1, l => by
    rw [List.replicate_succ, List.cons_append, decV_cons, decV_reps k l]
    have e : ((48 : UInt8).toNat : Int) - 48 = 0 := rfl
    rw [e, Int.zero_mul, Int.zero_add]
theorem digs_reps {k : Nat} {l : List UInt8} (h : Digs l) : Digs (List.replicate k 48 ++ l) := fun b hb => by
  rcases List.mem_append.1 hb with hb | hb
  · rw [(List.mem_replicate.1 hb).2]; decide
  · exact h b hb
theorem readV_neg {z : Int} (h : 0 ≤ z) : readV (45 :: decT z) = -z := by
  unfold readV
  rw [restOf_neg, decV_decT h, if_pos (by rfl)]
theorem readV_pos {z : Int} (h : 0 ≤ z) : readV (decT z) = z := by
  unfold readV
  rw [restOf_digs (digs_decT h), pre_digs (digs_decT h), decV_decT h]; rfl
theorem pre_app {l : List UInt8} (h : Digs l) (h0 : l ≠ []) (t : List UInt8) : Lib.hasPrefix (l ++ t) [45] = false := by
  unfold Lib.hasPrefix
  cases l with
  | nil => exact absurd rfl h0
  | cons b l =>
    have hb := h b List.mem_cons_self
    have : b ≠ 45 := by rintro rfl; simp at hb
    simp [List.isPrefixOf]; exact fun e => this e.symm
theorem neg_no {l : List UInt8} (h : ∀ b ∈ l, b ≠ 47 ∧ b ≠ 46) : ∀ b ∈ (45 :: l : List UInt8), b ≠ 47 ∧ b ≠ 46 := fun b hb => by
  rcases List.mem_cons.1 hb with rfl | hb
  · decide
  · exact h b hb

/-- Digits ahead of a point and digits behind it, read. -/
theorem readF_point {s : List UInt8} {W R : Int} {p : Nat} {beh : List UInt8} (hs : s = [45] ∨ s = []) (hW : 0 ≤ W) (hWl : (decT W).length ≤ 60) (hb : Digs beh) (hp : p ≠ 0) (hp60 : p ≤ 60) (hbl : beh.length = p) (hbv : decV beh = R) :
    readF (s ++ (decT W ++ 46 :: beh)) = (Rat.divInt (if s = [45] then -(W * 10 ^ p + R) else W * 10 ^ p + R) (10 ^ p), 0, 0) := by
  have hno := digs_no (digs_decT hW)
  have hw1 := wrongI_digs (digs_decT hW) (decT_ne hW) hWl
  have hw2 := wrongI_digs hb (by intro e; rw [e] at hbl; simp at hbl; omega) (by omega)
  rcases hs with rfl | rfl
  · have hh0 : ∀ b ∈ (45 :: decT W : List UInt8), b ≠ 47 ∧ b ≠ 46 := neg_no hno
    have e : ([45] ++ (decT W ++ 46 :: beh) : List UInt8) = (45 :: decT W) ++ 46 :: beh := rfl
    rw [e]
    have hk : kc ((45 :: decT W) ++ 46 :: beh) = (45 :: decT W : List UInt8).length := by
      rw [kc_app hh0]; show _ + 0 = _; omega
    have hh : hd ((45 :: decT W) ++ 46 :: beh) = 45 :: decT W := by unfold hd; rw [hk, List.take_left]
    have ht : tl ((45 :: decT W) ++ 46 :: beh) = beh := by unfold tl; rw [hk, ← List.drop_drop, List.drop_left]; rfl
    unfold readF
    rw [hh, ht, restOf_neg, if_neg (by omega), hk, if_neg (by simp), if_neg (by omega), if_neg (by simp [List.getD_eq_getElem?_getD]), readV_neg hW, if_pos rfl]
    unfold pointV
    rw [hbl, hbv, show ((-W).natAbs : Int) = W by omega, if_pos (by rfl)]
  · rw [List.nil_append, if_neg (by simp)]
    have hk : kc (decT W ++ 46 :: beh) = (decT W).length := by
      rw [kc_app hno]; show _ + 0 = _; omega
    have hh : hd (decT W ++ 46 :: beh) = decT W := by unfold hd; rw [hk, List.take_left]
    have ht : tl (decT W ++ 46 :: beh) = beh := by unfold tl; rw [hk, ← List.drop_drop, List.drop_left]; rfl
    unfold readF
    rw [hh, ht, restOf_digs (digs_decT hW), if_neg (by omega), hk, if_neg (by simp), if_neg (by omega), if_neg (by simp [List.getD_eq_getElem?_getD]), readV_pos hW]
    unfold pointV
    rw [hbl, hbv, show (W.natAbs : Int) = W by omega, pre_app (digs_decT hW) (decT_ne hW)]
    simp
/-- Digits alone, read. -/
theorem readF_whole {s : List UInt8} {W : Int} (hs : s = [45] ∨ s = []) (hW : 0 ≤ W) (hWl : (decT W).length ≤ 60) :
    readF (s ++ decT W) = (Rat.divInt (if s = [45] then -W else W) 1, 0, 0) := by
  have hno := digs_no (digs_decT hW)
  have hw1 := wrongI_digs (digs_decT hW) (decT_ne hW) hWl
  rcases hs with rfl | rfl
  · have hk : kc (45 :: decT W) = (45 :: decT W : List UInt8).length := by
      have := kc_app (neg_no hno) []
      rw [List.append_nil] at this
      rw [this]; rfl
    show readF (45 :: decT W) = _
    have hh : hd (45 :: decT W) = 45 :: decT W := by unfold hd; rw [hk, List.take_length]
    unfold readF
    rw [hh, restOf_neg, if_neg (by omega), hk, if_pos (by omega), readV_neg hW, if_pos rfl, rat_int]
  · have hk : kc (decT W) = (decT W).length := by
      have := kc_app hno []
      rw [List.append_nil] at this
      rw [this]; rfl
    rw [List.nil_append]
    have hh : hd (decT W) = decT W := by unfold hd; rw [hk, List.take_length]
    unfold readF
    rw [hh, restOf_digs (digs_decT hW), if_neg (by omega), hk, if_pos (by omega), readV_pos hW, if_neg (by simp), rat_int]

/-- What a fraction to p places is read as. -/
theorem readF_roundT (q : Rat) (p : Nat) (hp60 : p ≤ 60) (hWl : (decT (roundN q p / 10 ^ p)).length ≤ 60) : readF (roundT q p) = (Rat.divInt (roundM q p) (10 ^ p), 0, 0) := by
  have hN := roundN_nonneg q p
  have h10 : (0 : Int) < 10 ^ p := Int.pow_pos (by decide)
  have hW : 0 ≤ roundN q p / 10 ^ p := Int.ediv_nonneg hN (Int.le_of_lt h10)
  have hNW : roundN q p / 10 ^ p * 10 ^ p + roundN q p % 10 ^ p = roundN q p := by
    have := Int.mul_ediv_add_emod (roundN q p) (10 ^ p)
    rw [Int.mul_comm] at this; exact this
  have hs : signT q (roundN q p) = [45] ∨ signT q (roundN q p) = [] := by unfold signT; split <;> simp
  have hM : (if signT q (roundN q p) = [45] then -roundN q p else roundN q p) = roundM q p := by
    unfold roundM
    by_cases h1 : q.num < 0
    · rw [if_pos h1]
      by_cases h2 : roundN q p = 0
      · rw [h2, Int.neg_zero]; split <;> rfl
      · rw [show signT q (roundN q p) = [45] from if_pos ⟨h1, h2⟩, if_pos rfl]
    · rw [if_neg h1, show signT q (roundN q p) = [] from if_neg (fun h => h1 h.1), if_neg (by decide)]
  unfold roundT behindT
  by_cases hp : p = 0
  · rw [if_pos hp, List.append_nil, readF_whole hs hW hWl]
    subst hp
    rw [show (10 : Int) ^ 0 = 1 from rfl, Int.ediv_one, hM]
  · rw [if_neg hp, readF_point hs hW hWl (digs_reps (digs_decT (Int.emod_nonneg _ (Int.ne_of_gt h10)))) hp hp60 (behind_len hN hp) rfl, decV_reps, decV_decT (Int.emod_nonneg _ (Int.ne_of_gt h10)), hNW, hM]

/-- It is away by half a place at most. -/
theorem round_near (q : Rat) (p : Nat) : (absQ (Rat.divInt (roundM q p) (10 ^ p) - q) + absQ (Rat.divInt (roundM q p) (10 ^ p) - q)) * ((10 ^ p : Int) : Rat) ≤ 1 := by
  have h10 : (0 : Int) < 10 ^ p := Int.pow_pos (by decide)
  have ht : (0 : Rat) < ((10 ^ p : Int) : Rat) := by exact_mod_cast h10
  have h1 := Rat.floor_le (absQ q * ((10 ^ p : Int) : Rat) + 1 / 2)
  have h2 := Rat.lt_floor_add_one (absQ q * ((10 ^ p : Int) : Rat) + 1 / 2)
  rw [show (absQ q * ((10 ^ p : Int) : Rat) + 1 / 2).floor = roundN q p from rfl] at h1 h2
  rw [Rat.intCast_add] at h2
  have hv : Rat.divInt (roundM q p) (10 ^ p) * ((10 ^ p : Int) : Rat) = (roundM q p : Rat) := by
    rw [Rat.divInt_eq_div]; exact Rat.div_mul_cancel (by grind)
  generalize Rat.divInt (roundM q p) (10 ^ p) = v at *
  unfold roundM at hv
  unfold absQ at h1 h2 ⊢
  generalize ((10 ^ p : Int) : Rat) = t at *
  generalize roundN q p = N at *
  by_cases hq : q.num < 0
  · rw [if_pos hq] at h1 h2 hv
    rw [Rat.intCast_neg] at hv
    generalize (N : Rat) = n at *
    split <;> grind
  · rw [if_neg hq] at h1 h2 hv
    generalize (N : Rat) = n at *
    split <;> grind

theorem sz_neg {k : Nat} {q : Rat} (h : Sz k q) : Sz k (-q) := ⟨by rw [Rat.neg_num]; unfold mag; rw [Int.natAbs_neg]; exact h.1, by rw [Rat.neg_den]; exact h.2⟩
theorem round_pow (p : Nat) (hp : p ≤ 20) : (rep (10 ^ p)).length ≤ 120 := (pow_small (v := 10) (by decide) (by decide) (show p ≤ 60 by omega)).2
theorem round_ten (p : Nat) (hp : p ≤ 20) : Sz 120 ((10 ^ p : Int) : Rat) :=
  sz_int _ (by decide) (by unfold mag; rw [show (((10 : Int) ^ p).natAbs : Int) = 10 ^ p by have : (0 : Int) < 10 ^ p := Int.pow_pos (by decide); omega]; exact round_pow p hp)
theorem round_sz {q : Rat} {p : Nat} (h : Sz 3 q) (hp : p ≤ 20) : (mag (roundN q p)).length ≤ 200 := by
  have h2 : Sz 2 (1 / 2) := by
    rw [show (1 / 2 : Rat) = Rat.divInt 1 2 by decide +kernel]
    exact (sz_dv (k := 1) (by decide) (by unfold mag; rw [rep_word (by decide) (by decide)]; decide) (by rw [rep_word (by decide) (by decide)]; decide)).mono (by decide)
  unfold roundN
  exact Nat.le_trans (floor_sz (sz_add (sz_mul (sz_abs h) (round_ten p hp)) h2)) (by decide)
theorem round_v {q : Rat} {p : Nat} (h : Sz 3 q) (hp : p ≤ 20) : Sz 200 (Rat.divInt (roundM q p) (10 ^ p)) := by
  refine sz_dv (Int.pow_pos (by decide)) ?_ (Nat.le_trans (round_pow p hp) (by decide))
  have := round_sz h hp
  unfold mag at this ⊢
  rw [show ((roundM q p).natAbs : Int) = ((roundN q p).natAbs : Int) by unfold roundM; split <;> omega]
  exact this
theorem round_short {q : Rat} {p : Nat} (h : Sz 3 q) : (decT (roundN q p / 10 ^ p)).length ≤ 60 := by
  have h10 : (0 : Int) < 10 ^ p := Int.pow_pos (by decide)
  have hN := roundN_nonneg q p
  have hW : 0 ≤ roundN q p / 10 ^ p := Int.ediv_nonneg hN (Int.le_of_lt h10)
  have a1 := Int.ediv_mul_le (roundN q p) (Int.ne_of_gt h10)
  have h1 := Rat.floor_le (absQ q * ((10 ^ p : Int) : Rat) + 1 / 2)
  rw [show (absQ q * ((10 ^ p : Int) : Rat) + 1 / 2).floor = roundN q p from rfl] at h1
  have b1 : ((roundN q p / 10 ^ p : Int) : Rat) * ((10 ^ p : Int) : Rat) ≤ (roundN q p : Rat) := by
    rw [← Rat.intCast_mul, Rat.intCast_le_intCast]; exact a1
  have ht : (1 : Rat) ≤ ((10 ^ p : Int) : Rat) := by
    rw [show (1 : Rat) = ((1 : Int) : Rat) from rfl, Rat.intCast_le_intCast]; omega
  have c1 : ((roundN q p / 10 ^ p : Int) : Rat) ≤ absQ q + 1 := by
    by_cases h : ((roundN q p / 10 ^ p : Int) : Rat) ≤ absQ q + 1
    · exact h
    · replace h := Rat.not_le.1 h
      have := Rat.mul_nonneg (a := ((roundN q p / 10 ^ p : Int) : Rat) - (absQ q + 1)) (b := ((10 ^ p : Int) : Rat)) (by grind) (by grind)
      generalize ((roundN q p / 10 ^ p : Int) : Rat) = W at *
      generalize ((10 ^ p : Int) : Rat) = t at *
      grind
  have d1 : absQ q ≤ ((q.num.natAbs : Int) : Rat) := by
    have hd0 : (((q.den : Nat) : Int) : Rat) ≠ 0 := fun e => q.den_nz (by have := Rat.intCast_eq_zero_iff.1 e; omega)
    have e : absQ q * (((q.den : Nat) : Int) : Rat) = ((q.num.natAbs : Int) : Rat) := by
      have h := Rat.num_divInt_den (absQ q)
      rw [Rat.divInt_eq_div, absQ_num, absQ_den] at h
      rw [← Rat.div_mul_cancel (a := ((q.num.natAbs : Int) : Rat)) hd0, h]
    have hd : (1 : Rat) ≤ (((q.den : Nat) : Int) : Rat) := by
      have := q.den_pos
      rw [show (1 : Rat) = ((1 : Int) : Rat) from rfl, Rat.intCast_le_intCast]; omega
    have := Rat.mul_nonneg (a := absQ q) (b := (((q.den : Nat) : Int) : Rat) - 1) (absQ_nonneg q) (by grind)
    grind
  have f1 : roundN q p / 10 ^ p ≤ (q.num.natAbs : Int) + 1 := by
    rw [← Rat.intCast_le_intCast, Rat.intCast_add]
    show _ ≤ _ + (1 : Rat)
    grind
  have g1 := mag_len_of h.1
  rw [show pw 3 = 79228162514264337593543950336 by decide +kernel] at g1
  exact decT_short (p := 60) hW (by omega) (by decide)
theorem roundT_len {q : Rat} {p : Nat} (h : Sz 3 q) (hp : p ≤ 20) : (roundT q p).length ≤ 1000 := by
  have h1 := round_short (p := p) h
  have h2 : (signT q (roundN q p)).length ≤ 1 := by unfold signT; split <;> simp
  have h3 : (behindT (roundN q p) p).length ≤ 21 := by
    unfold behindT
    split
    · simp
    · next hp0 => rw [List.length_cons, behind_len (roundN_nonneg q p) hp0]; omega
  unfold roundT
  rw [List.length_append, List.length_append]; omega
/-- A rounded fraction, read. -/
theorem near_read {q : Rat} {p : Nat} (h : Sz 3 q) (hp : p ≤ 20) (w : World) : Calls Tryz.prog 16 #[.string ⟨(roundT q p).toArray⟩] w (FgOut (Rat.divInt (roundM q p) (10 ^ p)) 0 0 w) := by
  have := figure_Read (roundT q p) (roundT_len h hp) w
  rwa [readF_roundT q p (by omega) (round_short h)] at this
end Go.Proofs.YthjpkichpkomcaaGreatDoor
