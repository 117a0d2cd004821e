/- Layer 8: the law of texts (WholeTexts), walked. -/
import Derived.Test.YthjpkichpkomcaaDoorRef08e
import Derived.Test.YthjpkichpkomcaaDoorWorks2
import Derived.Test.YthjpkichpkomcaaDoorLaw08
import Derived.Test.YthjpkichpkomcaaDoorRef08s
import Derived.Test.YthjpkichpkomcaaDoorFlLaw
import Derived.Outline
import Derived.Deep.RegionHeld3
import Derived.Deep.RegionWith
import Derived.Deep.DrawnRows
import Derived.Deep.DeepMust
namespace Go.Proofs.YthjpkichpkomcaaDoor
open Go.RowKit Go.Proofs.YthjpkichpkomcaaDoor.Big
set_option linter.unusedVariables false
set_option maxRecDepth 100000
attribute [local go_sem ↓] Go.wp_at_zero Go.wp_at_succ

set_option maxHeartbeats 1000000 in
theorem law_texts_long (n : Bool) (A : Option Addr) (c : Nat) (l : List Int) (s : List UInt8) (w : World) (hlong : 40 < l.length ∨ 500 < s.length) :
    Calls Tryd.prog 4 #[.agg #[.bool n, .slice A l.length c], .string ⟨s.toArray⟩] w (fun e w' => e = .returned (.bool true) ∧ Below w.heap.size w w') := by
  have hs1 : (⟨s.toArray⟩ : ByteArray).size = s.length := by simp [ByteArray.size]
  by_cases h1 : 40 < l.length
  · have hd : decide ((40 : Int) < (l.length : Int)) = true := decide_eq_true (by omega)
    go_enter Tryd.func4, Tryd.ntmps4
    go_wp2_with fail
    have XA0 := Blk.new w [.bool n, .slice A l.length c] 24
    have hb0 := ((Below.refl w.heap.size w).alloc (Nat.le_refl _) (.cells #[.bool n, .slice A l.length c] 24))
    generalize w.alloc (.cells #[.bool n, .slice A l.length c] 24) = W at *
    refine (law_works _).mono ?_
    rintro e w1 ⟨rfl, hb1⟩
    go_wp2
    go_ret
    exact ⟨rfl, below_go hb0 hb1⟩
  · have hd : decide ((40 : Int) < (l.length : Int)) = false := decide_eq_false (by omega)
    have hd2 : decide ((500 : Int) < (s.length : Int)) = true := decide_eq_true (by omega)
    go_enter Tryd.func4, Tryd.ntmps4
    go_wp2_with fail
    have XA0 := Blk.new w [.bool n, .slice A l.length c] 24
    have hb0 := ((Below.refl w.heap.size w).alloc (Nat.le_refl _) (.cells #[.bool n, .slice A l.length c] 24))
    generalize w.alloc (.cells #[.bool n, .slice A l.length c] 24) = W at *
    refine (law_works _).mono ?_
    rintro e w1 ⟨rfl, hb1⟩
    go_wp2
    go_ret
    exact ⟨rfl, below_go hb0 hb1⟩

set_option maxHeartbeats 4000000 in
theorem law_texts_yes (ok : Nat → Prop) (n : Bool) (A : Option Addr) (c : Nat) (l : List Int) (s : List UInt8) (w : World) (h : Rd ok w A l) (hc : l.length ≤ c) (hs : l.length ≤ 40) (hss : s.length ≤ 500) (hb : wrongI (restOf s) < 0) :
    Calls Tryd.prog 4 #[.agg #[.bool n, .slice A l.length c], .string ⟨s.toArray⟩] w (fun e w' => e = .returned (.bool true) ∧ Below w.heap.size w w') := by
  have hs1 : (⟨s.toArray⟩ : ByteArray).size = s.length := by simp [ByteArray.size]
  have hd : decide ((40 : Int) < (l.length : Int)) = false := decide_eq_false (by omega)
  have hd2 : decide ((500 : Int) < (s.length : Int)) = false := decide_eq_false (by omega)
  replace h := h.mono (ok' := fun _ => True) (fun k hk _ => trivial)
  have HR := Asd.mk (whole_Read s (by omega) hb)
  have HS := Asd.mk (ref08_Read s (by omega) hb)
  clear hb
  go_enter Tryd.func4, Tryd.ntmps4
  go_wp2_with fail
  have XA0 := Blk.new w [.bool n, .slice A l.length c] 24
  have rh := (h.alloc (.cells #[.bool n, .slice A l.length c] 24))
  have hb0 := ((Below.refl w.heap.size w).alloc (Nat.le_refl _) (.cells #[.bool n, .slice A l.length c] 24))
  generalize w.alloc (.cells #[.bool n, .slice A l.length c] 24) = W at *
  clear h
  have XA := XA0; have ra := rh; have hB := hb0
  clear XA0 rh hb0
  have cXA0 := XA.c 0 rfl; have cXA1 := XA.c 1 rfl
  refine (HR.out _).mono ?_
  rintro e w1 ⟨P1, p1, rfl, hp1, rb, hb1⟩
  replace XA := XA.below hb1; replace ra := ra.below hb1; replace cXA0 := XA.c 0 rfl; replace cXA1 := XA.c 1 rfl; replace hB := below_go hB hb1
  replace rb := rb.mono (ok' := fun _ => True) (fun _ _ _ => trivial)
  replace XA := (XA.alloc (.cells #[.bool (ng (readV s)), .slice P1 (mag (readV s)).length p1] 26)).alloc (.cells #[.int .i64 0, .int .i64 0, .int .i64 0, .int .i64 0] 39)
  replace ra := (ra.alloc (.cells #[.bool (ng (readV s)), .slice P1 (mag (readV s)).length p1] 26)).alloc (.cells #[.int .i64 0, .int .i64 0, .int .i64 0, .int .i64 0] 39)
  replace rb := (rb.alloc (.cells #[.bool (ng (readV s)), .slice P1 (mag (readV s)).length p1] 26)).alloc (.cells #[.int .i64 0, .int .i64 0, .int .i64 0, .int .i64 0] 39)
  have XB := (Blk.new w1 [.bool (ng (readV s)), .slice P1 (mag (readV s)).length p1] 26).alloc (.cells #[.int .i64 0, .int .i64 0, .int .i64 0, .int .i64 0] 39)
  have XF := Blk.new (w1.alloc (.cells #[.bool (ng (readV s)), .slice P1 (mag (readV s)).length p1] 26)) [.int .i64 0, .int .i64 0, .int .i64 0, .int .i64 0] 39
  replace hB := (hB.alloc hB.size (.cells #[.bool (ng (readV s)), .slice P1 (mag (readV s)).length p1] 26)).alloc (by have := hB.size; simp; omega) (.cells #[.int .i64 0, .int .i64 0, .int .i64 0, .int .i64 0] 39)
  simp only [World.size_alloc] at XF
  replace cXA0 := XA.c 0 rfl; replace cXA1 := XA.c 1 rfl
  have cXB0 := XB.c 0 rfl; have cXB1 := XB.c 1 rfl; have cXF0 := XF.c 0 rfl; have cXF1 := XF.c 1 rfl; have cXF2 := XF.c 2 rfl; have cXF3 := XF.c 3 rfl
  generalize hbb : w1.heap.size = bb at *
  go_wp2_with fail
  refine (HS.out _).mono ?_
  rintro e w1 ⟨Q1, q1, rfl, hq1, rc, hb1⟩
  replace XA := XA.below hb1; replace XB := XB.below hb1; replace XF := XF.below hb1; replace ra := ra.below hb1; replace rb := rb.below hb1; replace cXA0 := XA.c 0 rfl; replace cXA1 := XA.c 1 rfl; replace cXB0 := XB.c 0 rfl; replace cXB1 := XB.c 1 rfl; replace cXF0 := XF.c 0 rfl; replace cXF1 := XF.c 1 rfl; replace cXF2 := XF.c 2 rfl; replace cXF3 := XF.c 3 rfl; replace hB := below_go hB hb1
  replace rc := rc.mono (ok' := fun _ => True) (fun _ _ _ => trivial)
  clear hbb HR HS
  replace XA := XA.alloc (.cells #[.bool (ng (readV s)), .slice Q1 (mag (readV s)).length q1] 24)
  replace XB := XB.alloc (.cells #[.bool (ng (readV s)), .slice Q1 (mag (readV s)).length q1] 24)
  replace XF := XF.alloc (.cells #[.bool (ng (readV s)), .slice Q1 (mag (readV s)).length q1] 24)
  replace ra := ra.alloc (.cells #[.bool (ng (readV s)), .slice Q1 (mag (readV s)).length q1] 24)
  replace rb := rb.alloc (.cells #[.bool (ng (readV s)), .slice Q1 (mag (readV s)).length q1] 24)
  replace rc := rc.alloc (.cells #[.bool (ng (readV s)), .slice Q1 (mag (readV s)).length q1] 24)
  have XC := Blk.new w1 [.bool (ng (readV s)), .slice Q1 (mag (readV s)).length q1] 24
  replace hB := hB.alloc hB.size (.cells #[.bool (ng (readV s)), .slice Q1 (mag (readV s)).length q1] 24)
  replace cXA0 := XA.c 0 rfl
  replace cXA1 := XA.c 1 rfl
  replace cXB0 := XB.c 0 rfl
  replace cXB1 := XB.c 1 rfl
  replace cXF0 := XF.c 0 rfl
  replace cXF1 := XF.c 1 rfl
  replace cXF2 := XF.c 2 rfl
  replace cXF3 := XF.c 3 rfl
  have cXC0 := XC.c 0 rfl; have cXC1 := XC.c 1 rfl
  generalize hbc : w1.heap.size = bc at *
  go_wp2_with fail
  generalize w1.alloc (.cells #[.bool (ng (readV s)), .slice Q1 (mag (readV s)).length q1] 24) = Z at *
  clear hbc hb1 XF cXF0 cXF1 cXF2 cXF3
  replace XA := XA.drew; replace XB := XB.drew; replace XC := XC.drew; replace ra := ra.drew; replace rb := rb.drew; replace rc := rc.drew; replace hB := below_drewN hB 1
  go_region_held3 (fun w' => w'.cell? ⟨w.heap.size, 0, none⟩ = some (.bool n) ∧ w'.cell? ⟨w.heap.size, 1, none⟩ = some (.slice A l.length c) ∧ w'.cell? ⟨bb, 0, none⟩ = some (.bool (ng (readV s))) ∧ w'.cell? ⟨bb, 1, none⟩ = some (.slice P1 (mag (readV s)).length p1) ∧ w'.cell? ⟨bc, 0, none⟩ = some (.bool (ng (readV s))) ∧ w'.cell? ⟨bc, 1, none⟩ = some (.slice Q1 (mag (readV s)).length q1)) (go_keep)
    (first
      | (go_at_call 10; refine (law_To _ _ _ _ _).mono ?_; rintro e w1 ⟨rfl, hb1⟩; replace XA := XA.below hb1; replace XB := XB.below hb1; replace XC := XC.below hb1; replace ra := ra.below hb1; replace rb := rb.below hb1; replace rc := rc.below hb1; replace cXA0 := XA.c 0 rfl; replace cXA1 := XA.c 1 rfl; replace cXB0 := XB.c 0 rfl; replace cXB1 := XB.c 1 rfl; replace cXC0 := XC.c 0 rfl; replace cXC1 := XC.c 1 rfl; replace hB := below_go hB hb1)
      | (go_at_call 24; have hm := whole_Text _ n A c l _ ra hc (by omega); refine hm.mono ?_; clear hm; rintro e w1 ⟨rfl, hb1⟩; replace XA := XA.below hb1; replace XB := XB.below hb1; replace XC := XC.below hb1; replace ra := ra.below hb1; replace rb := rb.below hb1; replace rc := rc.below hb1; replace cXA0 := XA.c 0 rfl; replace cXA1 := XA.c 1 rfl; replace cXB0 := XB.c 0 rfl; replace cXB1 := XB.c 1 rfl; replace cXC0 := XC.c 0 rfl; replace cXC1 := XC.c 1 rfl; replace hB := below_go hB hb1)
      | (go_at_call 25; have hm := ref08_Text _ n A c l _ ra hc (by omega); refine hm.mono ?_; clear hm; rintro e w1 ⟨rfl, hb1⟩; replace XA := XA.below hb1; replace XB := XB.below hb1; replace XC := XC.below hb1; replace ra := ra.below hb1; replace rb := rb.below hb1; replace rc := rc.below hb1; replace cXA0 := XA.c 0 rfl; replace cXA1 := XA.c 1 rfl; replace cXB0 := XB.c 0 rfl; replace cXB1 := XB.c 1 rfl; replace cXC0 := XC.c 0 rfl; replace cXC1 := XC.c 1 rfl; replace hB := below_go hB hb1)
      | (go_at_call 12; refine (law_Of _ _ _ _ _).mono ?_; rintro e w1 ⟨rfl, hb1⟩; replace XA := XA.below hb1; replace XB := XB.below hb1; replace XC := XC.below hb1; replace ra := ra.below hb1; replace rb := rb.below hb1; replace rc := rc.below hb1; replace cXA0 := XA.c 0 rfl; replace cXA1 := XA.c 1 rfl; replace cXB0 := XB.c 0 rfl; replace cXB1 := XB.c 1 rfl; replace cXC0 := XC.c 0 rfl; replace cXC1 := XC.c 1 rfl; replace hB := below_go hB hb1)
      | (go_at_call 11; have hm := ref08_Same _ _ (ng (readV s)) _ _ _ _ _ _ rb rc hp1 hq1; refine hm.mono ?_; clear hm; rintro e w1 ⟨rfl, hb1⟩; replace XA := XA.below hb1; replace XB := XB.below hb1; replace XC := XC.below hb1; replace ra := ra.below hb1; replace rb := rb.below hb1; replace rc := rc.below hb1; replace cXA0 := XA.c 0 rfl; replace cXA1 := XA.c 1 rfl; replace cXB0 := XB.c 0 rfl; replace cXB1 := XB.c 1 rfl; replace cXC0 := XC.c 0 rfl; replace cXC1 := XC.c 1 rfl; replace hB := below_go hB hb1)
      | (go_at_call 9; refine (law_works _).mono ?_; rintro e w1 ⟨rfl, hb1⟩; replace XA := XA.below hb1; replace XB := XB.below hb1; replace XC := XC.below hb1; replace ra := ra.below hb1; replace rb := rb.below hb1; replace rc := rc.below hb1; replace cXA0 := XA.c 0 rfl; replace cXA1 := XA.c 1 rfl; replace cXB0 := XB.c 0 rfl; replace cXB1 := XB.c 1 rfl; replace cXC0 := XC.c 0 rfl; replace cXC1 := XC.c 1 rfl; replace hB := below_go hB hb1))
  go_wp2
  go_ret
  exact ⟨rfl, hB⟩

set_option maxHeartbeats 4000000 in
theorem law_texts_no (ok : Nat → Prop) (n : Bool) (A : Option Addr) (c : Nat) (l : List Int) (s : List UInt8) (w : World) (h : Rd ok w A l) (hc : l.length ≤ c) (hs : l.length ≤ 40) (hss : s.length ≤ 500) (hb : 0 ≤ wrongI (restOf s)) :
    Calls Tryd.prog 4 #[.agg #[.bool n, .slice A l.length c], .string ⟨s.toArray⟩] w (fun e w' => e = .returned (.bool true) ∧ Below w.heap.size w w') := by
  have hs1 : (⟨s.toArray⟩ : ByteArray).size = s.length := by simp [ByteArray.size]
  have hd : decide ((40 : Int) < (l.length : Int)) = false := decide_eq_false (by omega)
  have hd2 : decide ((500 : Int) < (s.length : Int)) = false := decide_eq_false (by omega)
  replace h := h.mono (ok' := fun _ => True) (fun k hk _ => trivial)
  have HR := Asd.mk (whole_Read_no s (by omega) hb)
  have HS := Asd.mk (ref08_Read_no s (by omega) hb)
  have hrl : (restOf s).length ≤ s.length := by unfold restOf Lib.trimPrefix; split <;> simp
  have hv0 : 0 ≤ wrongI (restOf s) + ((s.length : Int) - ((restOf s).length : Int)) := by omega
  generalize wrongI (restOf s) + ((s.length : Int) - ((restOf s).length : Int)) = v at *
  clear hb hrl
  go_enter Tryd.func4, Tryd.ntmps4
  go_wp2_with fail
  have XA0 := Blk.new w [.bool n, .slice A l.length c] 24
  have rh := (h.alloc (.cells #[.bool n, .slice A l.length c] 24))
  have hb0 := ((Below.refl w.heap.size w).alloc (Nat.le_refl _) (.cells #[.bool n, .slice A l.length c] 24))
  generalize w.alloc (.cells #[.bool n, .slice A l.length c] 24) = W at *
  clear h
  have XA := XA0; have ra := rh; have hB := hb0
  clear XA0 rh hb0
  have cXA0 := XA.c 0 rfl; have cXA1 := XA.c 1 rfl
  refine (HR.out _).mono ?_
  rintro e w1 ⟨rfl, hb1⟩
  replace XA := XA.below hb1; replace ra := ra.below hb1; replace cXA0 := XA.c 0 rfl; replace cXA1 := XA.c 1 rfl; replace hB := below_go hB hb1
  replace XA := (XA.alloc (.cells #[.bool false, .slice none 0 0] 26)).alloc (.cells #[.int .i64 1, .int .i64 0, .int .i64 0, .int .i64 v] 39)
  replace ra := (ra.alloc (.cells #[.bool false, .slice none 0 0] 26)).alloc (.cells #[.int .i64 1, .int .i64 0, .int .i64 0, .int .i64 v] 39)
  have XB := (Blk.new w1 [.bool false, .slice none 0 0] 26).alloc (.cells #[.int .i64 1, .int .i64 0, .int .i64 0, .int .i64 v] 39)
  have XF := Blk.new (w1.alloc (.cells #[.bool false, .slice none 0 0] 26)) [.int .i64 1, .int .i64 0, .int .i64 0, .int .i64 v] 39
  replace hB := (hB.alloc hB.size (.cells #[.bool false, .slice none 0 0] 26)).alloc (by have := hB.size; simp; omega) (.cells #[.int .i64 1, .int .i64 0, .int .i64 0, .int .i64 v] 39)
  simp only [World.size_alloc] at XF
  replace cXA0 := XA.c 0 rfl; replace cXA1 := XA.c 1 rfl
  have cXB0 := XB.c 0 rfl; have cXB1 := XB.c 1 rfl; have cXF0 := XF.c 0 rfl; have cXF1 := XF.c 1 rfl; have cXF2 := XF.c 2 rfl; have cXF3 := XF.c 3 rfl
  generalize hbb : w1.heap.size = bb at *
  go_wp2_with fail
  refine (HS.out _).mono ?_
  rintro e w1 ⟨rfl, hb1⟩
  replace XA := XA.below hb1; replace XB := XB.below hb1; replace XF := XF.below hb1; replace ra := ra.below hb1; replace cXA0 := XA.c 0 rfl; replace cXA1 := XA.c 1 rfl; replace cXB0 := XB.c 0 rfl; replace cXB1 := XB.c 1 rfl; replace cXF0 := XF.c 0 rfl; replace cXF1 := XF.c 1 rfl; replace cXF2 := XF.c 2 rfl; replace cXF3 := XF.c 3 rfl; replace hB := below_go hB hb1
  clear hbb HR HS
  replace XA := XA.alloc (.cells #[.bool false, .slice none 0 0] 24)
  replace XB := XB.alloc (.cells #[.bool false, .slice none 0 0] 24)
  replace XF := XF.alloc (.cells #[.bool false, .slice none 0 0] 24)
  replace ra := ra.alloc (.cells #[.bool false, .slice none 0 0] 24)
  have XC := Blk.new w1 [.bool false, .slice none 0 0] 24
  replace hB := hB.alloc hB.size (.cells #[.bool false, .slice none 0 0] 24)
  replace cXA0 := XA.c 0 rfl
  replace cXA1 := XA.c 1 rfl
  replace cXB0 := XB.c 0 rfl
  replace cXB1 := XB.c 1 rfl
  replace cXF0 := XF.c 0 rfl
  replace cXF1 := XF.c 1 rfl
  replace cXF2 := XF.c 2 rfl
  replace cXF3 := XF.c 3 rfl
  have cXC0 := XC.c 0 rfl; have cXC1 := XC.c 1 rfl
  generalize hbc : w1.heap.size = bc at *
  go_wp2_with fail
  generalize w1.alloc (.cells #[.bool false, .slice none 0 0] 24) = Z at *
  clear hbc hb1 XF cXF0 cXF1 cXF2 cXF3
  replace XA := XA.drew; replace XB := XB.drew; replace XC := XC.drew; replace ra := ra.drew; replace hB := below_drewN hB 1
  go_region_held3 (fun w' => w'.cell? ⟨w.heap.size, 0, none⟩ = some (.bool n) ∧ w'.cell? ⟨w.heap.size, 1, none⟩ = some (.slice A l.length c) ∧ w'.cell? ⟨bb, 0, none⟩ = some (.bool false) ∧ w'.cell? ⟨bb, 1, none⟩ = some (.slice none 0 0) ∧ w'.cell? ⟨bc, 0, none⟩ = some (.bool false) ∧ w'.cell? ⟨bc, 1, none⟩ = some (.slice none 0 0)) (go_keep)
    (first
      | (go_at_call 10; refine (law_To _ _ _ _ _).mono ?_; rintro e w1 ⟨rfl, hb1⟩; replace XA := XA.below hb1; replace XB := XB.below hb1; replace XC := XC.below hb1; replace ra := ra.below hb1; replace cXA0 := XA.c 0 rfl; replace cXA1 := XA.c 1 rfl; replace cXB0 := XB.c 0 rfl; replace cXB1 := XB.c 1 rfl; replace cXC0 := XC.c 0 rfl; replace cXC1 := XC.c 1 rfl; replace hB := below_go hB hb1)
      | (go_at_call 24; have hm := whole_Text _ n A c l _ ra hc (by omega); refine hm.mono ?_; clear hm; rintro e w1 ⟨rfl, hb1⟩; replace XA := XA.below hb1; replace XB := XB.below hb1; replace XC := XC.below hb1; replace ra := ra.below hb1; replace cXA0 := XA.c 0 rfl; replace cXA1 := XA.c 1 rfl; replace cXB0 := XB.c 0 rfl; replace cXB1 := XB.c 1 rfl; replace cXC0 := XC.c 0 rfl; replace cXC1 := XC.c 1 rfl; replace hB := below_go hB hb1)
      | (go_at_call 25; have hm := ref08_Text _ n A c l _ ra hc (by omega); refine hm.mono ?_; clear hm; rintro e w1 ⟨rfl, hb1⟩; replace XA := XA.below hb1; replace XB := XB.below hb1; replace XC := XC.below hb1; replace ra := ra.below hb1; replace cXA0 := XA.c 0 rfl; replace cXA1 := XA.c 1 rfl; replace cXB0 := XB.c 0 rfl; replace cXB1 := XB.c 1 rfl; replace cXC0 := XC.c 0 rfl; replace cXC1 := XC.c 1 rfl; replace hB := below_go hB hb1)
      | (go_at_call 12; refine (law_Of _ _ _ _ _).mono ?_; rintro e w1 ⟨rfl, hb1⟩; replace XA := XA.below hb1; replace XB := XB.below hb1; replace XC := XC.below hb1; replace ra := ra.below hb1; replace cXA0 := XA.c 0 rfl; replace cXA1 := XA.c 1 rfl; replace cXB0 := XB.c 0 rfl; replace cXB1 := XB.c 1 rfl; replace cXC0 := XC.c 0 rfl; replace cXC1 := XC.c 1 rfl; replace hB := below_go hB hb1)
      | (go_at_call 11; refine (ref08_Same (fun _ => True) (fun _ => True) false none none 0 0 [] _ (Rd.nil _ _ _) (Rd.nil _ _ _) (Nat.le_refl _) (Nat.le_refl _)).mono ?_; rintro e w1 ⟨rfl, hb1⟩; replace XA := XA.below hb1; replace XB := XB.below hb1; replace XC := XC.below hb1; replace ra := ra.below hb1; replace cXA0 := XA.c 0 rfl; replace cXA1 := XA.c 1 rfl; replace cXB0 := XB.c 0 rfl; replace cXB1 := XB.c 1 rfl; replace cXC0 := XC.c 0 rfl; replace cXC1 := XC.c 1 rfl; replace hB := below_go hB hb1)
      | (go_at_call 9; refine (law_works _).mono ?_; rintro e w1 ⟨rfl, hb1⟩; replace XA := XA.below hb1; replace XB := XB.below hb1; replace XC := XC.below hb1; replace ra := ra.below hb1; replace cXA0 := XA.c 0 rfl; replace cXA1 := XA.c 1 rfl; replace cXB0 := XB.c 0 rfl; replace cXB1 := XB.c 1 rfl; replace cXC0 := XC.c 0 rfl; replace cXC1 := XC.c 1 rfl; replace hB := below_go hB hb1))
  go_wp2
  go_ret
  exact ⟨rfl, hB⟩

theorem law_texts_all (n : Bool) (A : Option Addr) (c : Nat) (l : List Int) (s : ByteArray) (w : World) (h : l.length ≤ 1099511627776 → Rd (fun _ => True) w A l) (hc : l.length ≤ c) (hs : s.size ≤ maxLen) :
    Calls Tryd.prog 4 #[.agg #[.bool n, .slice A l.length c], .string s] w (fun e w' => e = .returned (.bool true) ∧ Below w.heap.size w w') := by
  have e : s = ⟨s.data.toList.toArray⟩ := by simp
  rw [e]
  generalize s.data.toList = t
  by_cases h1 : 40 < l.length ∨ 500 < t.length
  · exact law_texts_long n A c l t w h1
  · by_cases hb : 0 ≤ wrongI (restOf t)
    · exact law_texts_no _ n A c l t w (h (by omega)) hc (by omega) (by omega) hb
    · exact law_texts_yes _ n A c l t w (h (by omega)) hc (by omega) (by omega) (by omega)
end Go.Proofs.YthjpkichpkomcaaDoor
