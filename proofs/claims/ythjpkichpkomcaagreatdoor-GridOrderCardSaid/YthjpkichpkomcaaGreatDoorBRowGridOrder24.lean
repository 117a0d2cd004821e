/- Canon · FlLaw -/
import Derived.Test.YthjpkichpkomcaaGreatDoorWorks
/- Layer 8: the contracts at right whole numbers, by their values. -/
namespace Go.Proofs.YthjpkichpkomcaaGreatDoor
open Go.RowKit Go.Proofs.YthjpkichpkomcaaGreatDoor.Big
set_option linter.unusedVariables false
set_option maxRecDepth 100000

/-- A right whole number as a value. -/
abbrev wv (z : Int) (A : Option Addr) (c : Nat) : Value := .agg #[.bool (ng z), .slice A (mag z).length c]
theorem cSign {ok : Nat → Prop} {z : Int} {A : Option Addr} {c : Nat} {w : World} (h : Rd ok w A (mag z)) (hc : (mag z).length ≤ c) :
    Calls Tryz.prog 71 #[wv z A c] w fun e w' => e = .returned (.int .i64 (sgI z)) ∧ Below w.heap.size w w' := by
  have := whole_Sign ok (ng z) A c _ w h hc; rwa [zv_mag] at this
theorem cText {ok : Nat → Prop} {z : Int} {A : Option Addr} {c : Nat} {w : World} (h : Rd ok w A (mag z)) (hc : (mag z).length ≤ c) (hb : (mag z).length < 1000000000) :
    Calls Tryz.prog 69 #[wv z A c] w fun e w' => e = .returned (.string ⟨(wholeT z).toArray⟩) ∧ Below w.heap.size w w' := by
  have := whole_Text ok (ng z) A c _ w h hc hb; rwa [zv_mag] at this
theorem cNeg {ok : Nat → Prop} {z : Int} {A : Option Addr} {c : Nat} {w : World} (h : Rd ok w A (mag z)) (hc : (mag z).length ≤ c) :
    Calls Tryz.prog 136 #[wv z A c] w (WhOut (-z) w) := by
  have := whole_Neg ok (ng z) A c _ w h hc; rwa [zv_mag] at this
section
variable {ok ok' : Nat → Prop} {z z' : Int} {A A' : Option Addr} {c c' : Nat} {w : World}
theorem cAdd (h : Rd ok w A (mag z)) (hc : (mag z).length ≤ c) (h' : Rd ok' w A' (mag z')) (hc' : (mag z').length ≤ c') (hb : (mag z).length < 1000000) (hb' : (mag z').length < 1000000) :
    Calls Tryz.prog 80 #[wv z A c, wv z' A' c'] w (WhOut (z + z') w) := by
  have := whole_Add ok (ng z) A c _ ok' (ng z') A' c' _ w h hc h' hc' (by omega) (by omega); rwa [zv_mag, zv_mag] at this
theorem cSub (h : Rd ok w A (mag z)) (hc : (mag z).length ≤ c) (h' : Rd ok' w A' (mag z')) (hc' : (mag z').length ≤ c') (hb : (mag z).length < 1000000) (hb' : (mag z').length < 1000000) :
    Calls Tryz.prog 77 #[wv z A c, wv z' A' c'] w (WhOut (z - z') w) := by
  have := whole_Sub ok (ng z) A c _ ok' (ng z') A' c' _ w h hc h' hc' (by omega) (by omega); rwa [zv_mag, zv_mag] at this
theorem cMul (h : Rd ok w A (mag z)) (hc : (mag z).length ≤ c) (h' : Rd ok' w A' (mag z')) (hc' : (mag z').length ≤ c') (hb : (mag z).length < 1000000) (hb' : (mag z').length < 1000000) :
    Calls Tryz.prog 81 #[wv z A c, wv z' A' c'] w (WhOut (z * z') w) := by
  have := whole_Mul ok (ng z) A c _ ok' (ng z') A' c' _ w h hc h' hc' (by omega) (by omega); rwa [zv_mag, zv_mag] at this
theorem cCmp (h : Rd ok w A (mag z)) (hc : (mag z).length ≤ c) (h' : Rd ok' w A' (mag z')) (hc' : (mag z').length ≤ c') (hb : (mag z).length < 1000000) (hb' : (mag z').length < 1000000) :
    Calls Tryz.prog 83 #[wv z A c, wv z' A' c'] w fun e w' => e = .returned (.int .i64 (sgI (z - z'))) ∧ Below w.heap.size w w' := by
  have := whole_Cmp ok (ng z) A c _ ok' (ng z') A' c' _ w h hc h' hc' (by omega) (by omega); rwa [zv_mag, zv_mag] at this
/-- What whole.Floor gives. -/
def FlOut (q r : Int) (w : World) (e : Ending) (w' : World) : Prop := ∃ A1 c1 A2 c2, e = .returned (.tuple #[.agg #[.bool (ng q), .slice A1 (mag q).length c1], .agg #[.bool (ng r), .slice A2 (mag r).length c2], .bool true]) ∧ (mag q).length ≤ c1 ∧ (mag r).length ≤ c2 ∧ Rd (fun k => w.heap.size ≤ k) w' A1 (mag q) ∧ Rd (fun k => w.heap.size ≤ k) w' A2 (mag r) ∧ Below w.heap.size w w'
theorem cFloor (h : Rd ok w A (mag z)) (hc : (mag z).length ≤ c) (h' : Rd ok' w A' (mag z')) (hc' : (mag z').length ≤ c') (hb : (mag z).length < 1000000) (hb' : (mag z').length < 1000000) (hz : z' ≠ 0) :
    Calls Tryz.prog 75 #[wv z A c, wv z' A' c'] w (FlOut (fq z z') (fr z z') w) := by
  have := whole_Floor ok (ng z) A c _ ok' (ng z') A' c' _ w h hc h' hc' (by omega) (by omega) (by rw [val_mag]; omega); rwa [zv_mag, zv_mag] at this
end
end Go.Proofs.YthjpkichpkomcaaGreatDoor
/- Layer 8: what a floor and what is left are (plain laws); lengths of sums and products. -/
namespace Go.Proofs.YthjpkichpkomcaaGreatDoor
open Go.RowKit Go.Proofs.YthjpkichpkomcaaGreatDoor.Big

theorem mag_lt (z : Int) : (z.natAbs : Int) < pw (mag z).length := lt_pw_rep (by omega)
theorem mag_len_of {z : Int} {m : Nat} (h : (mag z).length ≤ m) : (z.natAbs : Int) < pw m := Int.lt_of_lt_of_le (mag_lt z) (pw_mono h)
theorem len_add {a b : Int} {m : Nat} (ha : (mag a).length ≤ m) (hb : (mag b).length ≤ m) : (mag (a + b)).length ≤ m + 1 := by
  have h1 := mag_len_of ha; have h2 := mag_len_of hb; have h3 := pw_pos m
  refine mag_len _ _ ?_
  rw [pw_succ]; omega
theorem len_sub {a b : Int} {m : Nat} (ha : (mag a).length ≤ m) (hb : (mag b).length ≤ m) : (mag (a - b)).length ≤ m + 1 := by
  have h1 := mag_len_of ha; have h2 := mag_len_of hb; have h3 := pw_pos m
  refine mag_len _ _ ?_
  rw [pw_succ]; omega
theorem len_mul {a b : Int} {m n : Nat} (ha : (mag a).length ≤ m) (hb : (mag b).length ≤ n) : (mag (a * b)).length ≤ m + n := by
  have h1 := mag_len_of ha; have h2 := mag_len_of hb; have h3 := pw_pos m; have h4 := pw_pos n
  refine mag_len _ _ ?_
  rw [Int.natAbs_mul, Int.natCast_mul, pw_add]
  rcases Int.lt_or_eq_of_le (show 0 ≤ (b.natAbs : Int) by omega) with h5 | h5
  · exact Int.lt_of_lt_of_le (Int.mul_lt_mul_of_pos_right h1 h5) (Int.mul_le_mul_of_nonneg_left (Int.le_of_lt h2) (Int.le_of_lt h3))
  · rw [← h5, Int.mul_zero]; exact Int.mul_pos h3 h4
theorem len_le {a b : Int} (h : (a.natAbs : Int) ≤ (b.natAbs : Int)) : (mag a).length ≤ (mag b).length := mag_len _ _ (Int.lt_of_le_of_lt h (mag_lt b))
theorem len_zv {n : Bool} {l : List Int} (hw : Wd l) {m : Nat} (h : l.length ≤ m) : (mag (zv n l)).length ≤ m := by
  refine mag_len _ _ ?_
  rw [natAbs_zv hw]; exact Int.lt_of_lt_of_le (val_lt hw) (pw_mono h)

theorem fr_pos {a b : Int} (hb : 0 < b) : 0 ≤ fr a b ∧ fr a b < b := by
  have h1 := Int.mul_ediv_add_emod a b
  have h2 := Int.emod_nonneg a (show b ≠ 0 by omega)
  have h3 := Int.emod_lt_of_pos a hb
  have h4 : a / b * b = b * (a / b) := Int.mul_comm _ _
  unfold fr fq
  rw [if_pos hb]
  omega
theorem fr_neg {a b : Int} (hb : b < 0) : fr a b ≤ 0 ∧ b < fr a b := by
  have h1 := Int.mul_ediv_add_emod (-a) (-b)
  have h2 := Int.emod_nonneg (-a) (show -b ≠ 0 by omega)
  have h3 := Int.emod_lt_of_pos (-a) (show 0 < -b by omega)
  have h4 : (-a) / (-b) * b = -((-b) * ((-a) / (-b))) := by rw [Int.neg_mul, Int.neg_neg, Int.mul_comm]
  unfold fr fq
  rw [if_neg (by omega)]
  omega
theorem fq_fr (a b : Int) : fq a b * b + fr a b = a := by unfold fr; omega
theorem fr_abs {a b : Int} (hb : b ≠ 0) : ((fr a b).natAbs : Int) < (b.natAbs : Int) := by
  rcases Int.lt_or_gt_of_ne hb with h | h
  · have := fr_neg (a := a) h; omega
  · have := fr_pos (a := a) h; omega
theorem fq_abs {a b : Int} (hb : b ≠ 0) : ((fq a b).natAbs : Int) ≤ ((fq a b * b).natAbs : Int) := by
  rw [Int.natAbs_mul, Int.natCast_mul]
  have h1 : (1 : Int) ≤ (b.natAbs : Int) := by omega
  have := Int.mul_le_mul_of_nonneg_left h1 (show 0 ≤ ((fq a b).natAbs : Int) by omega)
  omega
theorem len_fr {a b : Int} (hb : b ≠ 0) : (mag (fr a b)).length ≤ (mag b).length := len_le (Int.le_of_lt (fr_abs hb))
theorem len_fqb {a b : Int} (hb : b ≠ 0) {m : Nat} (h1 : (mag a).length ≤ m) (h2 : (mag b).length ≤ m) : (mag (fq a b * b)).length ≤ m + 1 := by
  have h := len_sub h1 (Nat.le_trans (len_fr (a := a) hb) h2)
  rwa [show a - fr a b = fq a b * b by have := fq_fr a b; omega] at h
theorem len_fq {a b : Int} (hb : b ≠ 0) {m : Nat} (h1 : (mag a).length ≤ m) (h2 : (mag b).length ≤ m) : (mag (fq a b)).length ≤ m + 1 :=
  Nat.le_trans (len_le (fq_abs hb)) (len_fqb hb h1 h2)

theorem floors_sum (a b : Int) : sgI (fq a b * b + fr a b - a) = 0 := by rw [fq_fr, Int.sub_self]; rfl
theorem floors_sign {a b : Int} (hb : b ≠ 0) : 0 ≤ sgI (fr a b) * sgI b := by
  rcases Int.lt_or_gt_of_ne hb with h | h
  · rw [sgI_neg h]
    have := fr_neg (a := a) h
    rcases Int.lt_or_eq_of_le this.1 with h2 | h2
    · rw [sgI_neg h2]; decide
    · rw [h2]; decide
  · rw [sgI_pos h]
    have := fr_pos (a := a) h
    rcases Int.lt_or_eq_of_le this.1 with h2 | h2
    · rw [sgI_pos h2]; decide
    · rw [← h2]; decide
theorem floors_near {a b : Int} (hb : b ≠ 0) : sgI (b * b - fr a b * fr a b) = 1 := by
  have h := fr_abs (a := a) hb
  refine sgI_pos ?_
  generalize fr a b = r at *
  have e1 : b * b = (b.natAbs : Int) * (b.natAbs : Int) := by rw [← Int.natCast_mul, Int.natAbs_mul_self]
  have e2 : r * r = (r.natAbs : Int) * (r.natAbs : Int) := by rw [← Int.natCast_mul, Int.natAbs_mul_self]
  rw [e1, e2]
  generalize (b.natAbs : Int) = x at *
  have hr : 0 ≤ (r.natAbs : Int) := by omega
  generalize (r.natAbs : Int) = y at *
  have h1 := Int.mul_lt_mul_of_pos_right h (show 0 < x by omega)
  have h2 := Int.mul_le_mul_of_nonneg_left (Int.le_of_lt h) hr
  omega
end Go.Proofs.YthjpkichpkomcaaGreatDoor
