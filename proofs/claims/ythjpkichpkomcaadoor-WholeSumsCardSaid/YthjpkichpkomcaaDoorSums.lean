/- Layer 8: the law of sums, products and floors (WholeSums), walked. -/
import Derived.Test.YthjpkichpkomcaaDoorFlLaw
import Derived.Test.YthjpkichpkomcaaDoorWorks2
import Derived.Test.YthjpkichpkomcaaDoorLaw08
import Derived.Test.YthjpkichpkomcaaDoorRef08s
import Derived.Test.YthjpkichpkomcaaDoorRef08d
import Derived.Outline
import Derived.Deep.RegionHeld3
import Derived.Deep.RegionWith
import Derived.Deep.DrawnRows
import Derived.Deep.DeepMust
namespace Go.Proofs.YthjpkichpkomcaaDoor
open Go.RowKit Go.Proofs.YthjpkichpkomcaaDoor.Big
set_option linter.unusedVariables false
set_option maxRecDepth 100000
attribute [local go_sem ↓] Go.wp_at_zero Go.wp_at_succ

set_option maxHeartbeats 1000000 in
theorem law_sums_long (n : Bool) (A : Option Addr) (c : Nat) (l : List Int) (n' : Bool) (A' : Option Addr) (c' : Nat) (l' : List Int) (w : World) (hlong : 40 < l.length ∨ 40 < l'.length) :
    Calls Tryd.prog 3 #[.agg #[.bool n, .slice A l.length c], .agg #[.bool n', .slice A' l'.length c']] w (fun e w' => e = .returned (.bool true) ∧ Below w.heap.size w w') := by
  by_cases h1 : 40 < l.length
  · have hd : decide ((40 : Int) < (l.length : Int)) = true := decide_eq_true (by omega)
    go_enter Tryd.func3, Tryd.ntmps3
    go_wp2_with fail
    have XA0 := (Blk.new w [.bool n, .slice A l.length c] 24).alloc (.cells #[.bool n', .slice A' l'.length c'] 24)
    have XB0 := Blk.new (w.alloc (.cells #[.bool n, .slice A l.length c] 24)) [.bool n', .slice A' l'.length c'] 24
    have hb0 := (((Below.refl w.heap.size w).alloc (Nat.le_refl _) (.cells #[.bool n, .slice A l.length c] 24)).alloc (by simp) (.cells #[.bool n', .slice A' l'.length c'] 24))
    simp only [World.size_alloc] at XB0
    generalize (w.alloc (.cells #[.bool n, .slice A l.length c] 24)).alloc (.cells #[.bool n', .slice A' l'.length c'] 24) = W at *
    refine (law_works _).mono ?_
    rintro e w1 ⟨rfl, hb1⟩
    go_wp2
    go_ret
    exact ⟨rfl, below_go hb0 hb1⟩
  · have hd : decide ((40 : Int) < (l.length : Int)) = false := decide_eq_false (by omega)
    have h2 : 40 < l'.length := by omega
    have hd2 : decide ((40 : Int) < (l'.length : Int)) = true := decide_eq_true (by omega)
    go_enter Tryd.func3, Tryd.ntmps3
    go_wp2_with fail
    have XA0 := (Blk.new w [.bool n, .slice A l.length c] 24).alloc (.cells #[.bool n', .slice A' l'.length c'] 24)
    have XB0 := Blk.new (w.alloc (.cells #[.bool n, .slice A l.length c] 24)) [.bool n', .slice A' l'.length c'] 24
    have hb0 := (((Below.refl w.heap.size w).alloc (Nat.le_refl _) (.cells #[.bool n, .slice A l.length c] 24)).alloc (by simp) (.cells #[.bool n', .slice A' l'.length c'] 24))
    simp only [World.size_alloc] at XB0
    generalize (w.alloc (.cells #[.bool n, .slice A l.length c] 24)).alloc (.cells #[.bool n', .slice A' l'.length c'] 24) = W at *
    refine (law_works _).mono ?_
    rintro e w1 ⟨rfl, hb1⟩
    go_wp2
    go_ret
    exact ⟨rfl, below_go hb0 hb1⟩

set_option maxHeartbeats 8000000 in
theorem law_sums (ok : Nat → Prop) (n : Bool) (A : Option Addr) (c : Nat) (l : List Int) (ok' : Nat → Prop) (n' : Bool) (A' : Option Addr) (c' : Nat) (l' : List Int) (w : World) (h : Rd ok w A l) (hc : l.length ≤ c) (h' : Rd ok' w A' l') (hc' : l'.length ≤ c') (hs : l.length ≤ 40) (hs' : l'.length ≤ 40) :
    Calls Tryd.prog 3 #[.agg #[.bool n, .slice A l.length c], .agg #[.bool n', .slice A' l'.length c']] w (fun e w' => e = .returned (.bool true) ∧ Below w.heap.size w w') := by
  have hd : decide ((40 : Int) < (l.length : Int)) = false := decide_eq_false (by omega)
  have hd2 : decide ((40 : Int) < (l'.length : Int)) = false := decide_eq_false (by omega)
  replace h := h.mono (ok' := fun _ => True) (fun k hk _ => trivial)
  replace h' := h'.mono (ok' := fun _ => True) (fun k hk _ => trivial)
  have la := len_zv (n := n) h.wd hs
  have lb := len_zv (n := n') h'.wd hs'
  have lnb : (mag (-zv n' l')).length < 1000 := by have := len_sub (a := 0) (b := zv n' l') (m := 40) (by rw [show mag 0 = [] from rep_zero]; simp) lb; rw [Int.zero_sub] at this; omega
  have hn0 := val_nonneg h'.wd
  have hna := natAbs_zv (n := n') h'.wd
  have HZN := Asd.mk (zv_mag (-zv n' l'))
  have HSUB : Asd (zv n l + -zv n' l' = zv n l - zv n' l') := ⟨by omega⟩
  go_enter Tryd.func3, Tryd.ntmps3
  go_wp2_with fail
  have XA0 := (Blk.new w [.bool n, .slice A l.length c] 24).alloc (.cells #[.bool n', .slice A' l'.length c'] 24)
  have XB0 := Blk.new (w.alloc (.cells #[.bool n, .slice A l.length c] 24)) [.bool n', .slice A' l'.length c'] 24
  have rh := ((h.alloc (.cells #[.bool n, .slice A l.length c] 24)).alloc (.cells #[.bool n', .slice A' l'.length c'] 24))
  have rh' := ((h'.alloc (.cells #[.bool n, .slice A l.length c] 24)).alloc (.cells #[.bool n', .slice A' l'.length c'] 24))
  have hb0 := (((Below.refl w.heap.size w).alloc (Nat.le_refl _) (.cells #[.bool n, .slice A l.length c] 24)).alloc (by simp) (.cells #[.bool n', .slice A' l'.length c'] 24))
  simp only [World.size_alloc] at XB0
  generalize (w.alloc (.cells #[.bool n, .slice A l.length c] 24)).alloc (.cells #[.bool n', .slice A' l'.length c'] 24) = W at *
  clear h h'
  have XA := XA0; have XB := XB0; have ra := rh; have rb := rh'; have hB := hb0
  clear XA0 XB0 rh rh' hb0
  have cXA0 := XA.c 0 rfl; have cXA1 := XA.c 1 rfl; have cXB0 := XB.c 0 rfl; have cXB1 := XB.c 1 rfl
  refine (law_To _ _ _ _ _).mono ?_
  rintro e w1 ⟨rfl, hb1⟩
  replace XA := XA.below hb1; replace XB := XB.below hb1; replace ra := ra.below hb1; replace rb := rb.below hb1; replace cXA0 := XA.c 0 rfl; replace cXA1 := XA.c 1 rfl; replace cXB0 := XB.c 0 rfl; replace cXB1 := XB.c 1 rfl; replace hB := below_go hB hb1
  replace XA := XA.alloc (.cells #[.bool n, .slice A l.length c] 26)
  replace XB := XB.alloc (.cells #[.bool n, .slice A l.length c] 26)
  replace ra := ra.alloc (.cells #[.bool n, .slice A l.length c] 26)
  replace rb := rb.alloc (.cells #[.bool n, .slice A l.length c] 26)
  have XX := Blk.new w1 [.bool n, .slice A l.length c] 26
  replace hB := hB.alloc hB.size (.cells #[.bool n, .slice A l.length c] 26)
  replace cXA0 := XA.c 0 rfl
  replace cXA1 := XA.c 1 rfl
  replace cXB0 := XB.c 0 rfl
  replace cXB1 := XB.c 1 rfl
  generalize hbx : w1.heap.size = bx at *
  go_wp2_with fail
  have cXX0 := XX.c 0 rfl; have cXX1 := XX.c 1 rfl
  refine (law_To _ _ _ _ _).mono ?_
  rintro e w1 ⟨rfl, hb1⟩
  replace XA := XA.below hb1; replace XB := XB.below hb1; replace XX := XX.below hb1; replace ra := ra.below hb1; replace rb := rb.below hb1; replace cXA0 := XA.c 0 rfl; replace cXA1 := XA.c 1 rfl; replace cXB0 := XB.c 0 rfl; replace cXB1 := XB.c 1 rfl; replace cXX0 := XX.c 0 rfl; replace cXX1 := XX.c 1 rfl; replace hB := below_go hB hb1
  replace XA := XA.alloc (.cells #[.bool n', .slice A' l'.length c'] 26)
  replace XB := XB.alloc (.cells #[.bool n', .slice A' l'.length c'] 26)
  replace XX := XX.alloc (.cells #[.bool n', .slice A' l'.length c'] 26)
  replace ra := ra.alloc (.cells #[.bool n', .slice A' l'.length c'] 26)
  replace rb := rb.alloc (.cells #[.bool n', .slice A' l'.length c'] 26)
  have XY := Blk.new w1 [.bool n', .slice A' l'.length c'] 26
  replace hB := hB.alloc hB.size (.cells #[.bool n', .slice A' l'.length c'] 26)
  replace cXA0 := XA.c 0 rfl
  replace cXA1 := XA.c 1 rfl
  replace cXB0 := XB.c 0 rfl
  replace cXB1 := XB.c 1 rfl
  replace cXX0 := XX.c 0 rfl
  replace cXX1 := XX.c 1 rfl
  generalize hbY : w1.heap.size = bY at *
  go_wp2_with fail
  have cXY0 := XY.c 0 rfl; have cXY1 := XY.c 1 rfl
  generalize (w1.alloc (.cells #[.bool n', .slice A' l'.length c'] 26)) = Z at *
  clear hbx hbY hb1
  replace XA := XA.drew; replace XB := XB.drew; replace XX := XX.drew; replace XY := XY.drew; replace ra := ra.drew; replace rb := rb.drew; replace hB := below_drewN hB 1
  go_region_held3 (fun w' => w'.cell? ⟨w.heap.size, 0, none⟩ = some (.bool n) ∧ w'.cell? ⟨w.heap.size, 1, none⟩ = some (.slice A l.length c) ∧ w'.cell? ⟨w.heap.size + 1, 0, none⟩ = some (.bool n') ∧ w'.cell? ⟨w.heap.size + 1, 1, none⟩ = some (.slice A' l'.length c') ∧ w'.cell? ⟨bx, 0, none⟩ = some (.bool n) ∧ w'.cell? ⟨bx, 1, none⟩ = some (.slice A l.length c) ∧ w'.cell? ⟨bY, 0, none⟩ = some (.bool n') ∧ w'.cell? ⟨bY, 1, none⟩ = some (.slice A' l'.length c')) (go_keep)
    (first
      | (go_at_call 12; refine (law_Of _ _ _ _ _).mono ?_; rintro e w1 ⟨rfl, hb1⟩; replace hp := hp.below hb1; replace XA := XA.below hb1; replace XB := XB.below hb1; replace XX := XX.below hb1; replace XY := XY.below hb1; replace ra := ra.below hb1; replace rb := rb.below hb1; replace cXA0 := XA.c 0 rfl; replace cXA1 := XA.c 1 rfl; replace cXB0 := XB.c 0 rfl; replace cXB1 := XB.c 1 rfl; replace cXX0 := XX.c 0 rfl; replace cXX1 := XX.c 1 rfl; replace cXY0 := XY.c 0 rfl; replace cXY1 := XY.c 1 rfl; replace hB := below_go hB hb1)
      | (go_at_call 13; have hm := whole_Add _ n A c l _ n' A' c' l' _ ra hc rb hc' (by omega) (by omega); refine hm.mono ?_; clear hm; rintro e w1 ⟨P1, p1, rfl, hp1, hp, hb1⟩; replace XA := XA.below hb1; replace XB := XB.below hb1; replace XX := XX.below hb1; replace XY := XY.below hb1; replace ra := ra.below hb1; replace rb := rb.below hb1; replace cXA0 := XA.c 0 rfl; replace cXA1 := XA.c 1 rfl; replace cXB0 := XB.c 0 rfl; replace cXB1 := XB.c 1 rfl; replace cXX0 := XX.c 0 rfl; replace cXX1 := XX.c 1 rfl; replace cXY0 := XY.c 0 rfl; replace cXY1 := XY.c 1 rfl; replace hB := below_go hB hb1)
      | (go_at_call_of 14 (Value.agg #[.bool n', .slice A' l'.length c']); have hm := ref08_Add _ n A c l _ n' A' c' l' _ ra hc rb hc' (by omega) (by omega); refine hm.mono ?_; clear hm; rintro e w1 ⟨Q1, q1, rfl, hq1, hq, hb1⟩; replace hp := hp.below hb1; replace XA := XA.below hb1; replace XB := XB.below hb1; replace XX := XX.below hb1; replace XY := XY.below hb1; replace ra := ra.below hb1; replace rb := rb.below hb1; replace cXA0 := XA.c 0 rfl; replace cXA1 := XA.c 1 rfl; replace cXB0 := XB.c 0 rfl; replace cXB1 := XB.c 1 rfl; replace cXX0 := XX.c 0 rfl; replace cXX1 := XX.c 1 rfl; replace cXY0 := XY.c 0 rfl; replace cXY1 := XY.c 1 rfl; replace hB := below_go hB hb1)
      | (go_at_call_of 11 (Value.bool (ng (zv n l + zv n' l'))); have hm := ref08_Same _ _ (ng (zv n l + zv n' l')) _ _ _ _ _ _ hp hq hp1 hq1; refine hm.mono ?_; clear hm; rintro e w1 ⟨rfl, hb1⟩; replace XA := XA.below hb1; replace XB := XB.below hb1; replace XX := XX.below hb1; replace XY := XY.below hb1; replace ra := ra.below hb1; replace rb := rb.below hb1; replace cXA0 := XA.c 0 rfl; replace cXA1 := XA.c 1 rfl; replace cXB0 := XB.c 0 rfl; replace cXB1 := XB.c 1 rfl; replace cXX0 := XX.c 0 rfl; replace cXX1 := XX.c 1 rfl; replace cXY0 := XY.c 0 rfl; replace cXY1 := XY.c 1 rfl; replace hB := below_go hB hb1; clear hp hq hp1 hq1)
      | (go_at_call 15; have hm := whole_Sub _ n A c l _ n' A' c' l' _ ra hc rb hc' (by omega) (by omega); refine hm.mono ?_; clear hm; rintro e w1 ⟨P1, p1, rfl, hp1, hp, hb1⟩; replace XA := XA.below hb1; replace XB := XB.below hb1; replace XX := XX.below hb1; replace XY := XY.below hb1; replace ra := ra.below hb1; replace rb := rb.below hb1; replace cXA0 := XA.c 0 rfl; replace cXA1 := XA.c 1 rfl; replace cXB0 := XB.c 0 rfl; replace cXB1 := XB.c 1 rfl; replace cXX0 := XX.c 0 rfl; replace cXX1 := XX.c 1 rfl; replace cXY0 := XY.c 0 rfl; replace cXY1 := XY.c 1 rfl; replace hB := below_go hB hb1)
      | (go_at_call 16; have hm := ref08_Neg _ n' A' c' l' _ rb hc' (by omega); refine hm.mono ?_; clear hm; rintro e w1 ⟨N1, k1, rfl, hk1, hn, hb1⟩; replace hp := hp.below hb1; replace XA := XA.below hb1; replace XB := XB.below hb1; replace XX := XX.below hb1; replace XY := XY.below hb1; replace ra := ra.below hb1; replace rb := rb.below hb1; replace cXA0 := XA.c 0 rfl; replace cXA1 := XA.c 1 rfl; replace cXB0 := XB.c 0 rfl; replace cXB1 := XB.c 1 rfl; replace cXX0 := XX.c 0 rfl; replace cXX1 := XX.c 1 rfl; replace cXY0 := XY.c 0 rfl; replace cXY1 := XY.c 1 rfl; replace hB := below_go hB hb1)
      | (go_at_call 14; have hm := ref08_Add _ n A c l _ (ng (-zv n' l')) N1 k1 (mag (-zv n' l')) _ ra hc hn hk1 (by omega) (by omega); rw [HZN.out, HSUB.out] at hm; refine hm.mono ?_; clear hm; rintro e w1 ⟨Q1, q1, rfl, hq1, hq, hb1⟩; replace hp := hp.below hb1; replace XA := XA.below hb1; replace XB := XB.below hb1; replace XX := XX.below hb1; replace XY := XY.below hb1; replace ra := ra.below hb1; replace rb := rb.below hb1; replace cXA0 := XA.c 0 rfl; replace cXA1 := XA.c 1 rfl; replace cXB0 := XB.c 0 rfl; replace cXB1 := XB.c 1 rfl; replace cXX0 := XX.c 0 rfl; replace cXX1 := XX.c 1 rfl; replace cXY0 := XY.c 0 rfl; replace cXY1 := XY.c 1 rfl; replace hB := below_go hB hb1; clear hn hk1)
      | (go_at_call_of 11 (Value.bool (ng (zv n l - zv n' l'))); have hm := ref08_Same _ _ (ng (zv n l - zv n' l')) _ _ _ _ _ _ hp hq hp1 hq1; refine hm.mono ?_; clear hm; rintro e w1 ⟨rfl, hb1⟩; replace XA := XA.below hb1; replace XB := XB.below hb1; replace XX := XX.below hb1; replace XY := XY.below hb1; replace ra := ra.below hb1; replace rb := rb.below hb1; replace cXA0 := XA.c 0 rfl; replace cXA1 := XA.c 1 rfl; replace cXB0 := XB.c 0 rfl; replace cXB1 := XB.c 1 rfl; replace cXX0 := XX.c 0 rfl; replace cXX1 := XX.c 1 rfl; replace cXY0 := XY.c 0 rfl; replace cXY1 := XY.c 1 rfl; replace hB := below_go hB hb1; clear hp hq hp1 hq1)
      | (go_at_call 17; have hm := whole_Mul _ n A c l _ n' A' c' l' _ ra hc rb hc' (by omega) (by omega); refine hm.mono ?_; clear hm; rintro e w1 ⟨P1, p1, rfl, hp1, hp, hb1⟩; replace XA := XA.below hb1; replace XB := XB.below hb1; replace XX := XX.below hb1; replace XY := XY.below hb1; replace ra := ra.below hb1; replace rb := rb.below hb1; replace cXA0 := XA.c 0 rfl; replace cXA1 := XA.c 1 rfl; replace cXB0 := XB.c 0 rfl; replace cXB1 := XB.c 1 rfl; replace cXX0 := XX.c 0 rfl; replace cXX1 := XX.c 1 rfl; replace cXY0 := XY.c 0 rfl; replace cXY1 := XY.c 1 rfl; replace hB := below_go hB hb1)
      | (go_at_call 18; have hm := ref08_Mul _ n A c l _ n' A' c' l' _ ra hc rb hc' (by omega) (by omega); refine hm.mono ?_; clear hm; rintro e w1 ⟨Q1, q1, rfl, hq1, hq, hb1⟩; replace hp := hp.below hb1; replace XA := XA.below hb1; replace XB := XB.below hb1; replace XX := XX.below hb1; replace XY := XY.below hb1; replace ra := ra.below hb1; replace rb := rb.below hb1; replace cXA0 := XA.c 0 rfl; replace cXA1 := XA.c 1 rfl; replace cXB0 := XB.c 0 rfl; replace cXB1 := XB.c 1 rfl; replace cXX0 := XX.c 0 rfl; replace cXX1 := XX.c 1 rfl; replace cXY0 := XY.c 0 rfl; replace cXY1 := XY.c 1 rfl; replace hB := below_go hB hb1)
      | (go_at_call_of 11 (Value.bool (ng (zv n l * zv n' l'))); have hm := ref08_Same _ _ (ng (zv n l * zv n' l')) _ _ _ _ _ _ hp hq hp1 hq1; refine hm.mono ?_; clear hm; rintro e w1 ⟨rfl, hb1⟩; replace XA := XA.below hb1; replace XB := XB.below hb1; replace XX := XX.below hb1; replace XY := XY.below hb1; replace ra := ra.below hb1; replace rb := rb.below hb1; replace cXA0 := XA.c 0 rfl; replace cXA1 := XA.c 1 rfl; replace cXB0 := XB.c 0 rfl; replace cXB1 := XB.c 1 rfl; replace cXX0 := XX.c 0 rfl; replace cXX1 := XX.c 1 rfl; replace cXY0 := XY.c 0 rfl; replace cXY1 := XY.c 1 rfl; replace hB := below_go hB hb1; clear hp hq hp1 hq1))
  go_wp2_with fail

  by_cases hz : zv n' l' = 0
  · have hm := whole_Floor_no _ n A c l _ n' A' c' l' _ ra hc rb hc' (by omega) (by omega) (by rw [hz] at hna; omega)
    refine hm.mono ?_; clear hm
    rintro e w1 ⟨rfl, hb1⟩
    replace XB := XB.below hb1; replace rb := rb.below hb1; replace cXB0 := XB.c 0 rfl; replace cXB1 := XB.c 1 rfl; replace hB := below_go hB hb1
    clear XA XX XY cXA0 cXA1 cXX0 cXX1 cXY0 cXY1
    replace XB := (XB.alloc (.cells #[.bool false, .slice none 0 0] 26)).alloc (.cells #[.bool false, .slice none 0 0] 26)
    replace rb := (rb.alloc (.cells #[.bool false, .slice none 0 0] 26)).alloc (.cells #[.bool false, .slice none 0 0] 26)
    have XQ := (Blk.new w1 [.bool false, .slice none 0 0] 26).alloc (.cells #[.bool false, .slice none 0 0] 26)
    have XR := Blk.new (w1.alloc (.cells #[.bool false, .slice none 0 0] 26)) [.bool false, .slice none 0 0] 26
    replace hB := (hB.alloc hB.size (.cells #[.bool false, .slice none 0 0] 26)).alloc (by have := hB.size; simp; omega) (.cells #[.bool false, .slice none 0 0] 26)
    simp only [World.size_alloc] at XR
    replace cXB0 := XB.c 0 rfl
    replace cXB1 := XB.c 1 rfl
    have cXQ0 := XQ.c 0 rfl
    have cXQ1 := XQ.c 1 rfl
    have cXR0 := XR.c 0 rfl
    have cXR1 := XR.c 1 rfl
    generalize hbq : w1.heap.size = bq at *
    go_wp2_with fail
    have hm := ref08_Sign _ n' A' c' l' _ rb hc' (by omega)
    rw [hz, sgI_zero] at hm
    refine hm.mono ?_; clear hm
    rintro e w1 ⟨rfl, hb1⟩
    replace XB := XB.below hb1; replace XQ := XQ.below hb1; replace XR := XR.below hb1; replace rb := rb.below hb1; replace cXB0 := XB.c 0 rfl; replace cXB1 := XB.c 1 rfl; replace cXQ0 := XQ.c 0 rfl; replace cXQ1 := XQ.c 1 rfl; replace cXR0 := XR.c 0 rfl; replace cXR1 := XR.c 1 rfl; replace hB := below_go hB hb1
    clear hbq
    go_wp2_with (first
      | (go_at_call 12; refine (law_Of _ _ _ _ _).mono ?_; rintro e w1 ⟨rfl, hb1⟩; replace XB := XB.below hb1; replace XQ := XQ.below hb1; replace XR := XR.below hb1; replace rb := rb.below hb1; replace cXB0 := XB.c 0 rfl; replace cXB1 := XB.c 1 rfl; replace cXQ0 := XQ.c 0 rfl; replace cXQ1 := XQ.c 1 rfl; replace cXR0 := XR.c 0 rfl; replace cXR1 := XR.c 1 rfl; replace hB := below_go hB hb1)
      | (go_at_call 11; refine (ref08_Same (fun _ => True) (fun _ => True) false none none 0 0 [] _ (Rd.nil _ _ _) (Rd.nil _ _ _) (Nat.le_refl _) (Nat.le_refl _)).mono ?_; rintro e w1 ⟨rfl, hb1⟩; replace XB := XB.below hb1; replace XQ := XQ.below hb1; replace XR := XR.below hb1; replace rb := rb.below hb1; replace cXB0 := XB.c 0 rfl; replace cXB1 := XB.c 1 rfl; replace cXQ0 := XQ.c 0 rfl; replace cXQ1 := XQ.c 1 rfl; replace cXR0 := XR.c 0 rfl; replace cXR1 := XR.c 1 rfl; replace hB := below_go hB hb1)
      | (go_at_call 9; refine (law_works _).mono ?_; rintro e w1 ⟨rfl, hb1⟩; replace XB := XB.below hb1; replace XQ := XQ.below hb1; replace XR := XR.below hb1; replace rb := rb.below hb1; replace cXB0 := XB.c 0 rfl; replace cXB1 := XB.c 1 rfl; replace cXQ0 := XQ.c 0 rfl; replace cXQ1 := XQ.c 1 rfl; replace cXR0 := XR.c 0 rfl; replace cXR1 := XR.c 1 rfl; replace hB := below_go hB hb1))
    go_ret
    exact ⟨rfl, hB⟩
  · have hpos : 0 < val l' := by omega
    have lq := len_fq hz la lb
    have lr := Nat.le_trans (len_fr (a := zv n l) hz) lb
    have hd3 : (sgI (zv n' l') == 0) = false := by
      rcases Int.lt_or_gt_of_ne hz with h | h
      · rw [sgI_neg h]; rfl
      · rw [sgI_pos h]; rfl
    obtain ⟨q, hqe⟩ : ∃ q, fq (zv n l) (zv n' l') = q := ⟨_, rfl⟩
    obtain ⟨r, hre⟩ : ∃ r, fr (zv n l) (zv n' l') = r := ⟨_, rfl⟩
    rw [hqe] at lq
    rw [hre] at lr
    have HQE := Asd.mk hqe; have HRE := Asd.mk hre
    clear hqe hre
    have hm := whole_Floor _ n A c l _ n' A' c' l' _ ra hc rb hc' (by omega) (by omega) hpos
    rw [HQE.out, HRE.out] at hm
    refine hm.mono ?_; clear hm
    rintro e w1 ⟨S1, k1, S2, k2, rfl, hk1, hk2, rq, rr, hb1⟩
    replace XA := XA.below hb1; replace XB := XB.below hb1; replace ra := ra.below hb1; replace rb := rb.below hb1; replace cXA0 := XA.c 0 rfl; replace cXA1 := XA.c 1 rfl; replace cXB0 := XB.c 0 rfl; replace cXB1 := XB.c 1 rfl; replace hB := below_go hB hb1
    clear XX XY cXX0 cXX1 cXY0 cXY1
    replace rq := rq.mono (ok' := fun _ => True) (fun _ _ _ => trivial); replace rr := rr.mono (ok' := fun _ => True) (fun _ _ _ => trivial)
    replace XA := (XA.alloc (.cells #[.bool (ng q), .slice S1 (mag q).length k1] 26)).alloc (.cells #[.bool (ng r), .slice S2 (mag r).length k2] 26)
    replace XB := (XB.alloc (.cells #[.bool (ng q), .slice S1 (mag q).length k1] 26)).alloc (.cells #[.bool (ng r), .slice S2 (mag r).length k2] 26)
    replace ra := (ra.alloc (.cells #[.bool (ng q), .slice S1 (mag q).length k1] 26)).alloc (.cells #[.bool (ng r), .slice S2 (mag r).length k2] 26)
    replace rb := (rb.alloc (.cells #[.bool (ng q), .slice S1 (mag q).length k1] 26)).alloc (.cells #[.bool (ng r), .slice S2 (mag r).length k2] 26)
    replace rq := (rq.alloc (.cells #[.bool (ng q), .slice S1 (mag q).length k1] 26)).alloc (.cells #[.bool (ng r), .slice S2 (mag r).length k2] 26)
    replace rr := (rr.alloc (.cells #[.bool (ng q), .slice S1 (mag q).length k1] 26)).alloc (.cells #[.bool (ng r), .slice S2 (mag r).length k2] 26)
    have XQ := (Blk.new w1 [.bool (ng q), .slice S1 (mag q).length k1] 26).alloc (.cells #[.bool (ng r), .slice S2 (mag r).length k2] 26)
    have XR := Blk.new (w1.alloc (.cells #[.bool (ng q), .slice S1 (mag q).length k1] 26)) [.bool (ng r), .slice S2 (mag r).length k2] 26
    replace hB := (hB.alloc hB.size (.cells #[.bool (ng q), .slice S1 (mag q).length k1] 26)).alloc (by have := hB.size; simp; omega) (.cells #[.bool (ng r), .slice S2 (mag r).length k2] 26)
    simp only [World.size_alloc] at XR
    replace cXA0 := XA.c 0 rfl
    replace cXA1 := XA.c 1 rfl
    replace cXB0 := XB.c 0 rfl
    replace cXB1 := XB.c 1 rfl
    have cXQ0 := XQ.c 0 rfl
    have cXQ1 := XQ.c 1 rfl
    have cXR0 := XR.c 0 rfl
    have cXR1 := XR.c 1 rfl
    generalize hbq : w1.heap.size = bq at *
    go_wp2_with fail
    have hm := ref08_Sign _ n' A' c' l' _ rb hc' (by omega)
    refine hm.mono ?_; clear hm
    rintro e w1 ⟨rfl, hb1⟩
    replace XA := XA.below hb1; replace XB := XB.below hb1; replace XQ := XQ.below hb1; replace XR := XR.below hb1; replace ra := ra.below hb1; replace rb := rb.below hb1; replace rq := rq.below hb1; replace rr := rr.below hb1; replace cXA0 := XA.c 0 rfl; replace cXA1 := XA.c 1 rfl; replace cXB0 := XB.c 0 rfl; replace cXB1 := XB.c 1 rfl; replace cXQ0 := XQ.c 0 rfl; replace cXQ1 := XQ.c 1 rfl; replace cXR0 := XR.c 0 rfl; replace cXR1 := XR.c 1 rfl; replace hB := below_go hB hb1
    clear hbq hb1
    go_wp2_with fail
    have hm := ref08_Floor _ n A c l _ n' A' c' l' _ ra hc rb hc' (by omega) (by omega) hpos
    rw [HQE.out, HRE.out] at hm
    refine hm.mono ?_; clear hm
    rintro e w1 ⟨S3, k3, S4, k4, rfl, hk3, hk4, rs, rt, hb1⟩
    replace XQ := XQ.below hb1; replace XR := XR.below hb1; replace rq := rq.below hb1; replace rr := rr.below hb1; replace cXQ0 := XQ.c 0 rfl; replace cXQ1 := XQ.c 1 rfl; replace cXR0 := XR.c 0 rfl; replace cXR1 := XR.c 1 rfl; replace hB := below_go hB hb1
    clear XA XB cXA0 cXA1 cXB0 cXB1
    replace rs := rs.mono (ok' := fun _ => True) (fun _ _ _ => trivial); replace rt := rt.mono (ok' := fun _ => True) (fun _ _ _ => trivial)
    replace XQ := (XQ.alloc (.cells #[.bool (ng q), .slice S3 (mag q).length k3] 24)).alloc (.cells #[.bool (ng r), .slice S4 (mag r).length k4] 24)
    replace XR := (XR.alloc (.cells #[.bool (ng q), .slice S3 (mag q).length k3] 24)).alloc (.cells #[.bool (ng r), .slice S4 (mag r).length k4] 24)
    replace rq := (rq.alloc (.cells #[.bool (ng q), .slice S3 (mag q).length k3] 24)).alloc (.cells #[.bool (ng r), .slice S4 (mag r).length k4] 24)
    replace rr := (rr.alloc (.cells #[.bool (ng q), .slice S3 (mag q).length k3] 24)).alloc (.cells #[.bool (ng r), .slice S4 (mag r).length k4] 24)
    replace rs := (rs.alloc (.cells #[.bool (ng q), .slice S3 (mag q).length k3] 24)).alloc (.cells #[.bool (ng r), .slice S4 (mag r).length k4] 24)
    replace rt := (rt.alloc (.cells #[.bool (ng q), .slice S3 (mag q).length k3] 24)).alloc (.cells #[.bool (ng r), .slice S4 (mag r).length k4] 24)
    have XS := (Blk.new w1 [.bool (ng q), .slice S3 (mag q).length k3] 24).alloc (.cells #[.bool (ng r), .slice S4 (mag r).length k4] 24)
    have XT := Blk.new (w1.alloc (.cells #[.bool (ng q), .slice S3 (mag q).length k3] 24)) [.bool (ng r), .slice S4 (mag r).length k4] 24
    replace hB := (hB.alloc hB.size (.cells #[.bool (ng q), .slice S3 (mag q).length k3] 24)).alloc (by have := hB.size; simp; omega) (.cells #[.bool (ng r), .slice S4 (mag r).length k4] 24)
    simp only [World.size_alloc] at XT
    replace cXQ0 := XQ.c 0 rfl
    replace cXQ1 := XQ.c 1 rfl
    replace cXR0 := XR.c 0 rfl
    replace cXR1 := XR.c 1 rfl
    have cXS0 := XS.c 0 rfl
    have cXS1 := XS.c 1 rfl
    have cXT0 := XT.c 0 rfl
    have cXT1 := XT.c 1 rfl
    generalize hbs : w1.heap.size = bs at *
    go_wp2_with fail
    generalize (w1.alloc (.cells #[.bool (ng q), .slice S3 (mag q).length k3] 24)).alloc (.cells #[.bool (ng r), .slice S4 (mag r).length k4] 24) = Z at *
    clear hbs hb1
    replace XQ := XQ.drew; replace XR := XR.drew; replace XS := XS.drew; replace XT := XT.drew; replace rq := rq.drew; replace rr := rr.drew; replace rs := rs.drew; replace rt := rt.drew; replace hB := below_drewN hB 1
    go_region_held3 (fun w' => w'.cell? ⟨bq, 0, none⟩ = some (.bool (ng q)) ∧ w'.cell? ⟨bq, 1, none⟩ = some (.slice S1 (mag q).length k1) ∧ w'.cell? ⟨bq + 1, 0, none⟩ = some (.bool (ng r)) ∧ w'.cell? ⟨bq + 1, 1, none⟩ = some (.slice S2 (mag r).length k2) ∧ w'.cell? ⟨bs, 0, none⟩ = some (.bool (ng q)) ∧ w'.cell? ⟨bs, 1, none⟩ = some (.slice S3 (mag q).length k3) ∧ w'.cell? ⟨bs + 1, 0, none⟩ = some (.bool (ng r)) ∧ w'.cell? ⟨bs + 1, 1, none⟩ = some (.slice S4 (mag r).length k4)) (go_keep)
      (first
      | (go_at_call 12; refine (law_Of _ _ _ _ _).mono ?_; rintro e w1 ⟨rfl, hb1⟩; replace XQ := XQ.below hb1; replace XR := XR.below hb1; replace XS := XS.below hb1; replace XT := XT.below hb1; replace rq := rq.below hb1; replace rr := rr.below hb1; replace rs := rs.below hb1; replace rt := rt.below hb1; replace cXQ0 := XQ.c 0 rfl; replace cXQ1 := XQ.c 1 rfl; replace cXR0 := XR.c 0 rfl; replace cXR1 := XR.c 1 rfl; replace cXS0 := XS.c 0 rfl; replace cXS1 := XS.c 1 rfl; replace cXT0 := XT.c 0 rfl; replace cXT1 := XT.c 1 rfl; replace hB := below_go hB hb1)
      | (go_at_call_of 11 (Value.bool (ng q)); have hm := ref08_Same _ _ (ng q) _ _ _ _ _ _ rq rs hk1 hk3; refine hm.mono ?_; clear hm; rintro e w1 ⟨rfl, hb1⟩; replace XQ := XQ.below hb1; replace XR := XR.below hb1; replace XS := XS.below hb1; replace XT := XT.below hb1; replace rq := rq.below hb1; replace rr := rr.below hb1; replace rs := rs.below hb1; replace rt := rt.below hb1; replace cXQ0 := XQ.c 0 rfl; replace cXQ1 := XQ.c 1 rfl; replace cXR0 := XR.c 0 rfl; replace cXR1 := XR.c 1 rfl; replace cXS0 := XS.c 0 rfl; replace cXS1 := XS.c 1 rfl; replace cXT0 := XT.c 0 rfl; replace cXT1 := XT.c 1 rfl; replace hB := below_go hB hb1)
      | (go_at_call_of 11 (Value.bool (ng r)); have hm := ref08_Same _ _ (ng r) _ _ _ _ _ _ rr rt hk2 hk4; refine hm.mono ?_; clear hm; rintro e w1 ⟨rfl, hb1⟩; replace XQ := XQ.below hb1; replace XR := XR.below hb1; replace XS := XS.below hb1; replace XT := XT.below hb1; replace rq := rq.below hb1; replace rr := rr.below hb1; replace rs := rs.below hb1; replace rt := rt.below hb1; replace cXQ0 := XQ.c 0 rfl; replace cXQ1 := XQ.c 1 rfl; replace cXR0 := XR.c 0 rfl; replace cXR1 := XR.c 1 rfl; replace cXS0 := XS.c 0 rfl; replace cXS1 := XS.c 1 rfl; replace cXT0 := XT.c 0 rfl; replace cXT1 := XT.c 1 rfl; replace hB := below_go hB hb1)
      | (go_at_call 9; refine (law_works _).mono ?_; rintro e w1 ⟨rfl, hb1⟩; replace XQ := XQ.below hb1; replace XR := XR.below hb1; replace XS := XS.below hb1; replace XT := XT.below hb1; replace rq := rq.below hb1; replace rr := rr.below hb1; replace rs := rs.below hb1; replace rt := rt.below hb1; replace cXQ0 := XQ.c 0 rfl; replace cXQ1 := XQ.c 1 rfl; replace cXR0 := XR.c 0 rfl; replace cXR1 := XR.c 1 rfl; replace cXS0 := XS.c 0 rfl; replace cXS1 := XS.c 1 rfl; replace cXT0 := XT.c 0 rfl; replace cXT1 := XT.c 1 rfl; replace hB := below_go hB hb1))
    go_wp2
    go_ret
    exact ⟨rfl, hB⟩

theorem law_sums_all (n : Bool) (A : Option Addr) (c : Nat) (l : List Int) (n' : Bool) (A' : Option Addr) (c' : Nat) (l' : List Int) (w : World) (h : l.length ≤ 1099511627776 → Rd (fun _ => True) w A l) (hc : l.length ≤ c) (h' : l'.length ≤ 1099511627776 → Rd (fun _ => True) w A' l') (hc' : l'.length ≤ c') :
    Calls Tryd.prog 3 #[.agg #[.bool n, .slice A l.length c], .agg #[.bool n', .slice A' l'.length c']] w (fun e w' => e = .returned (.bool true) ∧ Below w.heap.size w w') := by
  by_cases h1 : 40 < l.length ∨ 40 < l'.length
  · exact law_sums_long n A c l n' A' c' l' w h1
  · exact law_sums _ n A c l _ n' A' c' l' w (h (by omega)) hc (h' (by omega)) hc' (by omega) (by omega)
end Go.Proofs.YthjpkichpkomcaaDoor
