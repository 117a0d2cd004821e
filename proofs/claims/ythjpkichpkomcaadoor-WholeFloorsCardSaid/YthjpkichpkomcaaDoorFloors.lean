/- Layer 8: the law of floors (WholeFloors), walked. -/
import Derived.Test.YthjpkichpkomcaaDoorFlLaw
import Derived.Test.YthjpkichpkomcaaDoorWorks2
import Derived.Test.YthjpkichpkomcaaDoorRef08a
import Derived.Outline
import Derived.Deep.RegionHeld3
import Derived.Deep.RegionWith
import Derived.Deep.DrawnRows
import Derived.Deep.DeepMust
namespace Go.Proofs.YthjpkichpkomcaaDoor
open Go.RowKit Go.Proofs.YthjpkichpkomcaaDoor.Big
set_option linter.unusedVariables false
set_option maxRecDepth 100000
attribute [local go_sem ↓] Go.wp_at_zero Go.wp_at_succ

set_option maxHeartbeats 1000000 in
theorem law_floors_long (n : Bool) (A : Option Addr) (c : Nat) (l : List Int) (n' : Bool) (A' : Option Addr) (c' : Nat) (l' : List Int) (w : World) (hlong : 40 < l.length ∨ 40 < l'.length) :
    Calls Tryd.prog 5 #[.agg #[.bool n, .slice A l.length c], .agg #[.bool n', .slice A' l'.length c']] w (fun e w' => e = .returned (.bool true) ∧ Below w.heap.size w w') := by
  by_cases h1 : 40 < l.length
  · have hd : decide ((40 : Int) < (l.length : Int)) = true := decide_eq_true (by omega)
    go_enter Tryd.func5, Tryd.ntmps5
    go_wp2_with fail
    have A0 := (Blk.new w [.bool n, .slice A l.length c] 24).alloc (.cells #[.bool n', .slice A' l'.length c'] 24)
    have B0 := Blk.new (w.alloc (.cells #[.bool n, .slice A l.length c] 24)) [.bool n', .slice A' l'.length c'] 24
    have hb0 := (((Below.refl w.heap.size w).alloc (Nat.le_refl _) (.cells #[.bool n, .slice A l.length c] 24)).alloc (by simp) (.cells #[.bool n', .slice A' l'.length c'] 24))
    simp only [World.size_alloc] at B0
    generalize (w.alloc (.cells #[.bool n, .slice A l.length c] 24)).alloc (.cells #[.bool n', .slice A' l'.length c'] 24) = W at *
    refine (law_works _).mono ?_
    rintro e w1 ⟨rfl, hb1⟩
    go_wp2
    go_ret
    exact ⟨rfl, below_go hb0 hb1⟩
  · have hd : decide ((40 : Int) < (l.length : Int)) = false := decide_eq_false (by omega)
    have h2 : 40 < l'.length := by omega
    have hd2 : decide ((40 : Int) < (l'.length : Int)) = true := decide_eq_true (by omega)
    go_enter Tryd.func5, Tryd.ntmps5
    go_wp2_with fail
    have A0 := (Blk.new w [.bool n, .slice A l.length c] 24).alloc (.cells #[.bool n', .slice A' l'.length c'] 24)
    have B0 := Blk.new (w.alloc (.cells #[.bool n, .slice A l.length c] 24)) [.bool n', .slice A' l'.length c'] 24
    have hb0 := (((Below.refl w.heap.size w).alloc (Nat.le_refl _) (.cells #[.bool n, .slice A l.length c] 24)).alloc (by simp) (.cells #[.bool n', .slice A' l'.length c'] 24))
    simp only [World.size_alloc] at B0
    generalize (w.alloc (.cells #[.bool n, .slice A l.length c] 24)).alloc (.cells #[.bool n', .slice A' l'.length c'] 24) = W at *
    refine (law_works _).mono ?_
    rintro e w1 ⟨rfl, hb1⟩
    go_wp2
    go_ret
    exact ⟨rfl, below_go hb0 hb1⟩

set_option maxHeartbeats 1000000 in
theorem law_floors_zero (ok : Nat → Prop) (n : Bool) (A : Option Addr) (c : Nat) (l : List Int) (ok' : Nat → Prop) (n' : Bool) (A' : Option Addr) (c' : Nat) (l' : List Int) (w : World) (h : Rd ok w A l) (hc : l.length ≤ c) (h' : Rd ok' w A' l') (hc' : l'.length ≤ c') (hs : l.length ≤ 40) (hs' : l'.length ≤ 40) (hz : zv n' l' = 0) :
    Calls Tryd.prog 5 #[.agg #[.bool n, .slice A l.length c], .agg #[.bool n', .slice A' l'.length c']] w (fun e w' => e = .returned (.bool true) ∧ Below w.heap.size w w') := by
  have hd : decide ((40 : Int) < (l.length : Int)) = false := decide_eq_false (by omega)
  have hd2 : decide ((40 : Int) < (l'.length : Int)) = false := decide_eq_false (by omega)
  go_enter Tryd.func5, Tryd.ntmps5
  go_wp2_with fail
  have A0 := (Blk.new w [.bool n, .slice A l.length c] 24).alloc (.cells #[.bool n', .slice A' l'.length c'] 24)
  have B0 := Blk.new (w.alloc (.cells #[.bool n, .slice A l.length c] 24)) [.bool n', .slice A' l'.length c'] 24
  have rh := ((h.alloc (.cells #[.bool n, .slice A l.length c] 24)).alloc (.cells #[.bool n', .slice A' l'.length c'] 24))
  have rh' := ((h'.alloc (.cells #[.bool n, .slice A l.length c] 24)).alloc (.cells #[.bool n', .slice A' l'.length c'] 24))
  have hb0 := (((Below.refl w.heap.size w).alloc (Nat.le_refl _) (.cells #[.bool n, .slice A l.length c] 24)).alloc (by simp) (.cells #[.bool n', .slice A' l'.length c'] 24))
  simp only [World.size_alloc] at B0
  generalize (w.alloc (.cells #[.bool n, .slice A l.length c] 24)).alloc (.cells #[.bool n', .slice A' l'.length c'] 24) = W at *
  clear h h'
  refine (ref08_Sign _ n' A' c' l' _ rh' hc' (by omega)).mono ?_
  rintro e w1 ⟨rfl, hb1⟩
  rw [hz, sgI_zero]
  go_wp2_with fail
  refine (law_works _).mono ?_
  rintro e w2 ⟨rfl, hb2⟩
  go_wp2
  go_ret
  exact ⟨rfl, below_go (below_go hb0 hb1) hb2⟩

set_option maxHeartbeats 4000000 in
theorem law_floors (ok : Nat → Prop) (n : Bool) (A : Option Addr) (c : Nat) (l : List Int) (ok' : Nat → Prop) (n' : Bool) (A' : Option Addr) (c' : Nat) (l' : List Int) (w : World) (h : Rd ok w A l) (hc : l.length ≤ c) (h' : Rd ok' w A' l') (hc' : l'.length ≤ c') (hs : l.length ≤ 40) (hs' : l'.length ≤ 40) (hz : zv n' l' ≠ 0) :
    Calls Tryd.prog 5 #[.agg #[.bool n, .slice A l.length c], .agg #[.bool n', .slice A' l'.length c']] w (fun e w' => e = .returned (.bool true) ∧ Below w.heap.size w w') := by
  have hd : decide ((40 : Int) < (l.length : Int)) = false := decide_eq_false (by omega)
  have hd2 : decide ((40 : Int) < (l'.length : Int)) = false := decide_eq_false (by omega)
  have hd3 : (sgI (zv n' l') == 0) = false := by
    rcases Int.lt_or_gt_of_ne hz with h | h
    · rw [sgI_neg h]; rfl
    · rw [sgI_pos h]; rfl
  have hpos : 0 < val l' := by have := val_nonneg h'.wd; have := natAbs_zv (n := n') h'.wd; omega
  have la := len_zv (n := n) h.wd hs
  have lb := len_zv (n := n') h'.wd hs'
  have lq := len_fq hz la lb
  have lqb := len_fqb hz la lb
  have lr := Nat.le_trans (len_fr (a := zv n l) hz) lb
  have lyy := len_mul lb lb
  have lrr := len_mul lr lr
  have HS1 := Asd.mk (floors_sum (zv n l) (zv n' l'))
  have hS2 := floors_sign (a := zv n l) hz
  have HS3 := Asd.mk (floors_near (a := zv n l) hz)
  have HFL := fun W h h' => whole_Floor (fun _ => True) n A c l (fun _ => True) n' A' c' l' W h hc h' hc' (by omega) (by omega) hpos
  generalize hqe : fq (zv n l) (zv n' l') = q at *
  generalize hre : fr (zv n l) (zv n' l') = r at *
  have HW2 := sgI_wrap r (zv n' l')
  have HD2 : decide (0 ≤ sgI r * sgI (zv n' l')) = true := decide_eq_true hS2
  have HFLA := Asd.mk HFL
  have hzq := Asd.mk (zv_mag q)
  replace h := h.mono (ok' := fun _ => True) (fun _ _ _ => trivial)
  replace h' := h'.mono (ok' := fun _ => True) (fun _ _ _ => trivial)
  have h1 : l.length < 1000 := by omega
  have h2 : l'.length < 1000 := by omega
  have h3 : (mag q).length < 1000 := by omega
  have h4 : (mag r).length < 1000 := by omega
  have h5 : (mag (q * zv n' l')).length < 1000 := by omega
  have h6 : (mag (zv n' l' * zv n' l')).length < 1000 := by omega
  have h7 : (mag (r * r)).length < 1000 := by omega
  have h8 : (mag (q * zv n' l' + r)).length < 1000 := by have := len_add (a := q * zv n' l') (b := r) (m := 50) (by omega) (by omega); omega
  clear HFL hqe hre hS2 hs hs' la lb lq lqb lr lyy lrr hpos hz
  go_enter Tryd.func5, Tryd.ntmps5
  go_wp2_with fail
  have A0 := (Blk.new w [.bool n, .slice A l.length c] 24).alloc (.cells #[.bool n', .slice A' l'.length c'] 24)
  have B0 := Blk.new (w.alloc (.cells #[.bool n, .slice A l.length c] 24)) [.bool n', .slice A' l'.length c'] 24
  have rh := ((h.alloc (.cells #[.bool n, .slice A l.length c] 24)).alloc (.cells #[.bool n', .slice A' l'.length c'] 24))
  have rh' := ((h'.alloc (.cells #[.bool n, .slice A l.length c] 24)).alloc (.cells #[.bool n', .slice A' l'.length c'] 24))
  have hb0 := (((Below.refl w.heap.size w).alloc (Nat.le_refl _) (.cells #[.bool n, .slice A l.length c] 24)).alloc (by simp) (.cells #[.bool n', .slice A' l'.length c'] 24))
  simp only [World.size_alloc] at B0
  generalize (w.alloc (.cells #[.bool n, .slice A l.length c] 24)).alloc (.cells #[.bool n', .slice A' l'.length c'] 24) = W at *
  clear h h'
  have c0 := A0.c 0 rfl
  have c1 := A0.c 1 rfl
  have d0 := B0.c 0 rfl
  have d1 := B0.c 1 rfl
  refine (ref08_Sign _ n' A' c' l' _ rh' hc' (by omega)).mono ?_
  rintro e w1 ⟨rfl, hb1⟩
  have A1 := A0.below hb1; have B1 := B0.below hb1; have rh1 := rh.below hb1; have rh1' := rh'.below hb1
  have e0 := A1.c 0 rfl; have e1 := A1.c 1 rfl; have e2 := B1.c 0 rfl; have e3 := B1.c 1 rfl
  clear c0 c1 d0 d1
  go_wp2_with fail
  refine (law_To n A l.length c _).mono ?_
  rintro e w2 ⟨rfl, hb2⟩
  have B2 := (B1.below hb2).alloc (.cells #[.bool n, .slice A l.length c] 26)
  have X0 := Blk.new w2 [.bool n, .slice A l.length c] 26
  have rh2 := (rh1.below hb2).alloc (.cells #[.bool n, .slice A l.length c] 26)
  have rh2' := (rh1'.below hb2).alloc (.cells #[.bool n, .slice A l.length c] 26)
  have hba := below_go (below_go hb0 hb1) hb2
  have hba2 := hba.alloc hba.size (.cells #[.bool n, .slice A l.length c] 26)
  have e2 := B2.c 0 rfl; have e3 := B2.c 1 rfl
  clear e0 e1 A1 A0 B0 rh rh' hb0 hb1 hb2 hba
  generalize hbx : w2.heap.size = bx at *
  go_wp2_with fail
  refine (law_To n' A' l'.length c' _).mono ?_
  rintro e w3 ⟨rfl, hb3⟩
  have X1 := (X0.below hb3).alloc (.cells #[.bool n', .slice A' l'.length c'] 26)
  have Y1 := Blk.new w3 [.bool n', .slice A' l'.length c'] 26
  have rx1 := (rh2.below hb3).alloc (.cells #[.bool n', .slice A' l'.length c'] 26)
  have ry1 := (rh2'.below hb3).alloc (.cells #[.bool n', .slice A' l'.length c'] 26)
  have hbb := below_go hba2 hb3
  have hbb2 := hbb.alloc hbb.size (.cells #[.bool n', .slice A' l'.length c'] 26)
  have cX0 := X1.c 0 rfl; have cX1 := X1.c 1 rfl
  go_wp2_with fail
  refine (HFLA.out _ rx1 ry1).mono ?_
  rintro e w5 ⟨S1, k1, S2, k2, rfl, hk1, hk2, hq, hr, hb5⟩
  go_wp2_with fail
  have X5 := ((X1.below hb5).alloc (.cells #[.bool (ng q), .slice S1 (mag q).length k1] 26)).alloc (.cells #[.bool (ng r), .slice S2 (mag r).length k2] 26)
  have Y5 := ((Y1.below hb5).alloc (.cells #[.bool (ng q), .slice S1 (mag q).length k1] 26)).alloc (.cells #[.bool (ng r), .slice S2 (mag r).length k2] 26)
  have Q5 := (Blk.new w5 [.bool (ng q), .slice S1 (mag q).length k1] 26).alloc (.cells #[.bool (ng r), .slice S2 (mag r).length k2] 26)
  have R5 := Blk.new (w5.alloc (.cells #[.bool (ng q), .slice S1 (mag q).length k1] 26)) [.bool (ng r), .slice S2 (mag r).length k2] 26
  have rx5 := ((rx1.below hb5).alloc (.cells #[.bool (ng q), .slice S1 (mag q).length k1] 26)).alloc (.cells #[.bool (ng r), .slice S2 (mag r).length k2] 26)
  have ry5 := ((ry1.below hb5).alloc (.cells #[.bool (ng q), .slice S1 (mag q).length k1] 26)).alloc (.cells #[.bool (ng r), .slice S2 (mag r).length k2] 26)
  have rq5 := ((hq.mono (ok' := fun _ => True) (fun _ _ _ => trivial)).alloc (.cells #[.bool (ng q), .slice S1 (mag q).length k1] 26)).alloc (.cells #[.bool (ng r), .slice S2 (mag r).length k2] 26)
  have rr5 := ((hr.mono (ok' := fun _ => True) (fun _ _ _ => trivial)).alloc (.cells #[.bool (ng q), .slice S1 (mag q).length k1] 26)).alloc (.cells #[.bool (ng r), .slice S2 (mag r).length k2] 26)
  have hbc := below_go hbb2 hb5
  have hbd := (hbc.alloc hbc.size (.cells #[.bool (ng q), .slice S1 (mag q).length k1] 26)).alloc (by have := hbc.size; simp; omega) (.cells #[.bool (ng r), .slice S2 (mag r).length k2] 26)
  simp only [World.size_alloc] at R5
  generalize hZ : (w5.alloc (.cells #[.bool (ng q), .slice S1 (mag q).length k1] 26)).alloc (.cells #[.bool (ng r), .slice S2 (mag r).length k2] 26) = Z at *
  generalize w5.heap.size = bq at *
  generalize hbr : bq + 1 = br at *
  generalize w3.heap.size = by_ at *
  clear hZ hbr hbx hba2 hbb hbb2 hbc hb5 hb3 hq hr rx1 ry1 X0 X1 Y1 cX0 cX1 B1 B2 e2 e3 rh1 rh1' rh2 rh2' HFLA
  have cX50 := X5.c 0 rfl; have cX51 := X5.c 1 rfl; have cY50 := Y5.c 0 rfl; have cY51 := Y5.c 1 rfl; have cQ50 := Q5.c 0 rfl; have cQ51 := Q5.c 1 rfl; have cR50 := R5.c 0 rfl; have cR51 := R5.c 1 rfl
  go_region_held3 (fun w' => w'.cell? ⟨bx, 0, none⟩ = some (.bool n) ∧ w'.cell? ⟨bx, 1, none⟩ = some (.slice A l.length c) ∧ w'.cell? ⟨by_, 0, none⟩ = some (.bool n') ∧ w'.cell? ⟨by_, 1, none⟩ = some (.slice A' l'.length c') ∧ w'.cell? ⟨bq, 0, none⟩ = some (.bool (ng q)) ∧ w'.cell? ⟨bq, 1, none⟩ = some (.slice S1 (mag q).length k1) ∧ w'.cell? ⟨br, 0, none⟩ = some (.bool (ng r)) ∧ w'.cell? ⟨br, 1, none⟩ = some (.slice S2 (mag r).length k2)) (go_keep)
    (first
      | (go_at_call_of 17 (Value.agg #[.bool (ng q), .slice S1 (mag q).length k1]); have hm := whole_Mul _ (ng q) S1 k1 (mag q) _ n' A' c' l' _ rq5.drew hk1 ry5.drew hc' (by omega) (by omega); refine hm.mono ?_; clear hm; rintro e w6 ⟨S6, k6, rfl, hc6, hr6, hb6⟩; rw [hzq.out] at hc6 hr6 ⊢; replace hb6 := undrew hb6; have X6 := X5.below hb6; have Y6 := Y5.below hb6; have Q6 := Q5.below hb6; have R6 := R5.below hb6; have rx6 := rx5.below hb6; have ry6 := ry5.below hb6; have rr6 := rr5.below hb6; have cX60 := X6.c 0 rfl; have cX61 := X6.c 1 rfl; have cY60 := Y6.c 0 rfl; have cY61 := Y6.c 1 rfl; have cQ60 := Q6.c 0 rfl; have cQ61 := Q6.c 1 rfl; have cR60 := R6.c 0 rfl; have cR61 := R6.c 1 rfl; clear cX50 cX51 cY50 cY51 cQ50 cQ51 cR50 cR51)
      | (go_at_call 13; have hm := cAdd hr6 hc6 rr6 hk2 (by omega) (by omega); refine hm.mono ?_; clear hm; rintro e w7 ⟨S7, k7, rfl, hc7, hr7, hb7⟩; have X7 := X6.below hb7; have Y7 := Y6.below hb7; have Q7 := Q6.below hb7; have R7 := R6.below hb7; have rx7 := rx6.below hb7; have ry7 := ry6.below hb7; have rr7 := rr6.below hb7; have cX70 := X7.c 0 rfl; have cX71 := X7.c 1 rfl; have cY70 := Y7.c 0 rfl; have cY71 := Y7.c 1 rfl; have cQ70 := Q7.c 0 rfl; have cQ71 := Q7.c 1 rfl; have cR70 := R7.c 0 rfl; have cR71 := R7.c 1 rfl; clear cX60 cX61 cY60 cY61 cQ60 cQ61 cR60 cR61)
      | (go_at_call 26; have hm := whole_Cmp _ (ng (q * zv n' l' + r)) _ _ _ _ n A c l _ hr7 hc7 rx7 hc (by omega) (by omega); refine hm.mono ?_; clear hm; rintro e w8 ⟨rfl, hb8⟩; rw [zv_mag, HS1.out]; have X8 := X7.below hb8; have Y8 := Y7.below hb8; have Q8 := Q7.below hb8; have R8 := R7.below hb8; have ry8 := ry7.below hb8; have rr8 := rr7.below hb8; have cX80 := X8.c 0 rfl; have cX81 := X8.c 1 rfl; have cY80 := Y8.c 0 rfl; have cY81 := Y8.c 1 rfl; have cQ80 := Q8.c 0 rfl; have cQ81 := Q8.c 1 rfl; have cR80 := R8.c 0 rfl; have cR81 := R8.c 1 rfl; clear cX70 cX71 cY70 cY71 cQ70 cQ71 cR70 cR71)
      | (go_at_call_of 27 (Value.agg #[.bool (ng r), .slice S2 (mag r).length k2]); have hm := cSign rr8 hk2; refine hm.mono ?_; clear hm; rintro e w9 ⟨rfl, hb9⟩; have X9 := X8.below hb9; have Y9 := Y8.below hb9; have Q9 := Q8.below hb9; have R9 := R8.below hb9; have ry9 := ry8.below hb9; have rr9 := rr8.below hb9; have cX90 := X9.c 0 rfl; have cX91 := X9.c 1 rfl; have cY90 := Y9.c 0 rfl; have cY91 := Y9.c 1 rfl; have cQ90 := Q9.c 0 rfl; have cQ91 := Q9.c 1 rfl; have cR90 := R9.c 0 rfl; have cR91 := R9.c 1 rfl; clear cX80 cX81 cY80 cY81 cQ80 cQ81 cR80 cR81)
      | (go_at_call_of 27 (Value.agg #[.bool n', .slice A' l'.length c']); have hm := whole_Sign _ n' A' c' l' _ ry9 hc'; refine hm.mono ?_; clear hm; rintro e w10 ⟨rfl, hb10⟩; have X10 := X9.below hb10; have Y10 := Y9.below hb10; have Q10 := Q9.below hb10; have R10 := R9.below hb10; have ry10 := ry9.below hb10; have rr10 := rr9.below hb10; have cX100 := X10.c 0 rfl; have cX101 := X10.c 1 rfl; have cY100 := Y10.c 0 rfl; have cY101 := Y10.c 1 rfl; have cQ100 := Q10.c 0 rfl; have cQ101 := Q10.c 1 rfl; have cR100 := R10.c 0 rfl; have cR101 := R10.c 1 rfl; clear cX90 cX91 cY90 cY91 cQ90 cQ91 cR90 cR91)
      | (go_at_call_of 17 (Value.agg #[.bool n', .slice A' l'.length c']); have hm := whole_Mul _ n' A' c' l' _ n' A' c' l' _ ry10 hc' ry10 hc' (by omega) (by omega); refine hm.mono ?_; clear hm; rintro e w11 ⟨S11, k11, rfl, hc11, hr11, hb11⟩; have X11 := X10.below hb11; have Y11 := Y10.below hb11; have Q11 := Q10.below hb11; have R11 := R10.below hb11; have rr11 := rr10.below hb11; have cX110 := X11.c 0 rfl; have cX111 := X11.c 1 rfl; have cY110 := Y11.c 0 rfl; have cY111 := Y11.c 1 rfl; have cQ110 := Q11.c 0 rfl; have cQ111 := Q11.c 1 rfl; have cR110 := R11.c 0 rfl; have cR111 := R11.c 1 rfl; clear cX100 cX101 cY100 cY101 cQ100 cQ101 cR100 cR101)
      | (go_at_call_of 17 (Value.agg #[.bool (ng r), .slice S2 (mag r).length k2]); have hm := cMul rr11 hk2 rr11 hk2 (by omega) (by omega); refine hm.mono ?_; clear hm; rintro e w12 ⟨S12, k12, rfl, hc12, hr12, hb12⟩; have hr12' := hr11.below hb12; have X12 := X11.below hb12; have Y12 := Y11.below hb12; have Q12 := Q11.below hb12; have R12 := R11.below hb12; have cX120 := X12.c 0 rfl; have cX121 := X12.c 1 rfl; have cY120 := Y12.c 0 rfl; have cY121 := Y12.c 1 rfl; have cQ120 := Q12.c 0 rfl; have cQ121 := Q12.c 1 rfl; have cR120 := R12.c 0 rfl; have cR121 := R12.c 1 rfl; clear cX110 cX111 cY110 cY111 cQ110 cQ111 cR110 cR111)
      | (go_at_call 15; have hm := cSub hr12' hc11 hr12 hc12 (by omega) (by omega); refine hm.mono ?_; clear hm; rintro e w13 ⟨S13, k13, rfl, hc13, hr13, hb13⟩; have X13 := X12.below hb13; have Y13 := Y12.below hb13; have Q13 := Q12.below hb13; have R13 := R12.below hb13; have cX130 := X13.c 0 rfl; have cX131 := X13.c 1 rfl; have cY130 := Y13.c 0 rfl; have cY131 := Y13.c 1 rfl; have cQ130 := Q13.c 0 rfl; have cQ131 := Q13.c 1 rfl; have cR130 := R13.c 0 rfl; have cR131 := R13.c 1 rfl; clear cX120 cX121 cY120 cY121 cQ120 cQ121 cR120 cR121)
      | (go_at_call 27; have hm := cSign hr13 hc13; refine hm.mono ?_; clear hm; rintro e w14 ⟨rfl, hb14⟩; rw [HS3.out]; have X14 := X13.below hb14; have Y14 := Y13.below hb14; have Q14 := Q13.below hb14; have R14 := R13.below hb14; have cX140 := X14.c 0 rfl; have cX141 := X14.c 1 rfl; have cY140 := Y14.c 0 rfl; have cY141 := Y14.c 1 rfl; have cQ140 := Q14.c 0 rfl; have cQ141 := Q14.c 1 rfl; have cR140 := R14.c 0 rfl; have cR141 := R14.c 1 rfl; clear cX130 cX131 cY130 cY131 cQ130 cQ131 cR130 cR131)
      | (go_at_call 9; refine (law_works _).mono ?_; rintro e w15 ⟨rfl, hb15⟩; have X15 := X14.below hb15; have Y15 := Y14.below hb15; have Q15 := Q14.below hb15; have R15 := R14.below hb15; have cX150 := X15.c 0 rfl; have cX151 := X15.c 1 rfl; have cY150 := Y15.c 0 rfl; have cY151 := Y15.c 1 rfl; have cQ150 := Q15.c 0 rfl; have cQ151 := Q15.c 1 rfl; have cR150 := R15.c 0 rfl; have cR151 := R15.c 1 rfl; clear cX140 cX141 cY140 cY141 cQ140 cQ141 cR140 cR141))
  go_wp2
  go_ret
  exact ⟨rfl, below_go (below_go (below_go (below_go (below_go (below_go (below_go (below_go (below_go (below_go hbd hb6) hb7) hb8) hb9) hb10) hb11) hb12) hb13) hb14) hb15⟩

theorem law_floors_all (n : Bool) (A : Option Addr) (c : Nat) (l : List Int) (n' : Bool) (A' : Option Addr) (c' : Nat) (l' : List Int) (w : World) (h : l.length ≤ 1099511627776 → Rd (fun _ => True) w A l) (hc : l.length ≤ c) (h' : l'.length ≤ 1099511627776 → Rd (fun _ => True) w A' l') (hc' : l'.length ≤ c') :
    Calls Tryd.prog 5 #[.agg #[.bool n, .slice A l.length c], .agg #[.bool n', .slice A' l'.length c']] w (fun e w' => e = .returned (.bool true) ∧ Below w.heap.size w w') := by
  by_cases h1 : 40 < l.length ∨ 40 < l'.length
  · exact law_floors_long n A c l n' A' c' l' w h1
  · by_cases hz : zv n' l' = 0
    · exact law_floors_zero _ n A c l _ n' A' c' l' w (h (by omega)) hc (h' (by omega)) hc' (by omega) (by omega) hz
    · exact law_floors _ n A c l _ n' A' c' l' w (h (by omega)) hc (h' (by omega)) hc' (by omega) (by omega) hz
end Go.Proofs.YthjpkichpkomcaaDoor
