/- FigD -/
import Derived.Test.YthjpkichpkomcaaGreatDoorBRowFigureNear37
import Derived.Test.YthjpkichpkomcaaGreatDoorBRowFigureNear38
import Derived.Test.YthjpkichpkomcaaGreatDoorBRowFigureNear39
/- Layer 10: fractions of texts (figure.Read, behind a cut). -/
namespace Go.Proofs.YthjpkichpkomcaaGreatDoor
open Go.RowKit Go.Proofs.YthjpkichpkomcaaGreatDoor.Big
set_option linter.unusedVariables false
set_option maxRecDepth 100000
attribute [local go_sem ↓] Go.wp_at_zero Go.wp_at_succ

theorem pointV_tl (neg : Bool) (z : Int) (l : List UInt8) : pointV neg z (tl l) = Rat.divInt (if neg = true then -(val (mag z) * 10 ^ (l.length - (kc l + 1)) + decV (l.drop (kc l + 1))) else val (mag z) * 10 ^ (l.length - (kc l + 1)) + decV (l.drop (kc l + 1))) (10 ^ (l.length - (kc l + 1))) := by
  unfold pointV
  rw [val_mag, show (tl l).length = l.length - (kc l + 1) from List.length_drop ..]
  rfl
theorem at_cut {l : List UInt8} (hk : kc l < l.length) (h : l.getD (kc l) 0 = 47) (hp : kc l < (⟨l.toArray⟩ : ByteArray).size) : (⟨l.toArray⟩ : ByteArray)[kc l]'hp = 47 := by
  rw [List.getD_eq_getElem?_getD, List.getElem?_eq_getElem hk] at h
  exact h
theorem at_dot {l : List UInt8} (hk : kc l < l.length) (h : ¬ l.getD (kc l) 0 = 47) (hp : kc l < (⟨l.toArray⟩ : ByteArray).size) : (⟨l.toArray⟩ : ByteArray)[kc l]'hp = 46 := by
  rw [List.getD_eq_getElem?_getD, List.getElem?_eq_getElem hk] at h
  have h2 := List.findIdx_getElem (p := fun b : UInt8 => b == 47 || b == 46) (xs := l) (w := hk)
  have h3 : l[kc l] = 46 := by
    have h2 : (l[kc l] == 47 || l[kc l] == 46) = true := h2
    rw [Bool.or_eq_true, beq_iff_eq, beq_iff_eq] at h2
    rcases h2 with h2 | h2
    · exact absurd h2 h
    · exact h2
  exact h3

set_option maxHeartbeats 2000000 in
theorem fig_Read_C1 (l : List UInt8) (hl : l.length ≤ 1000) (hk : kc l < l.length) (hb : wrongI (restOf (hd l)) < 0) (hs : l.getD (kc l) 0 = 47) (ht : 0 ≤ wrongI (tl l)) (w : World) :
    Calls Tryz.prog 16 #[.string ⟨l.toArray⟩] w (FgOut 0 1 ((kc l : Int) + 1 + wrongI (tl l)) w) := by
  have hat := at_cut hk hs (by simp [ByteArray.size]; exact hk)
  have htl : l.drop (kc l + 1) = tl l := rfl
  have hlh := hd_len l
  have HIX := Asd.mk (fig_index l (by omega))
  rw [cut_yes hk] at HIX
  have hsl := sl_to l (kc l) (by omega)
  rw [show l.take (kc l) = hd l from rfl] at hsl
  have HWR := Asd.mk (whole_Read (hd l) (by omega) hb)
  have hdg := digs_of_wrong hb
  have HRL : Asd ((mag (readV (hd l))).length ≤ 60 ∧ zv (ng (readV (hd l))) (mag (readV (hd l))) = readV (hd l)) := ⟨by
    refine Nat.le_trans (rep_length_le ?_) hdg.2.2
    have h1 := decV_lt_pw hdg.1
    have h2 := (decV_bd hdg.1).1
    unfold readV
    split <;> omega, zv_mag _⟩
  generalize hl0 : hd l = h0 at *
  go_enter Tryz.func16, Tryz.ntmps16
  go_wp2_with fail
  have XR0 := (Blk.new w [.bool false, .slice none 0 0, .slice none 0 0] 30).alloc (.cells #[.int .i64 0, .int .i64 0, .int .i64 0, .int .i64 0] 35)
  have XF0 := Blk.new (w.alloc (.cells #[.bool false, .slice none 0 0, .slice none 0 0] 30)) [.int .i64 0, .int .i64 0, .int .i64 0, .int .i64 0] 35
  have hb0 := (((Below.refl w.heap.size w).alloc (Nat.le_refl _) (.cells #[.bool false, .slice none 0 0, .slice none 0 0] 30)).alloc (by simp) (.cells #[.int .i64 0, .int .i64 0, .int .i64 0, .int .i64 0] 35))
  simp only [World.size_alloc] at XF0
  generalize (w.alloc (.cells #[.bool false, .slice none 0 0, .slice none 0 0] 30)).alloc (.cells #[.int .i64 0, .int .i64 0, .int .i64 0, .int .i64 0] 35) = W at *
  have XR := XR0; have XF := XF0; have hB := hb0; have hlt := XF0.lt
  clear XR0 XF0 hb0
  have cXR0 := XR.c 0 rfl; have cXR1 := XR.c 1 rfl; have cXR2 := XR.c 2 rfl; have cXF0 := XF.c 0 rfl; have cXF1 := XF.c 1 rfl; have cXF2 := XF.c 2 rfl; have cXF3 := XF.c 3 rfl
  refine (HIX.out W).mono ?_
  rintro e w1 ⟨rfl, hb1⟩
  have hsz1 := hb1.size
  replace XR := XR.below hb1; replace XF := XF.below hb1; replace cXR0 := XR.c 0 rfl; replace cXR1 := XR.c 1 rfl; replace cXR2 := XR.c 2 rfl; replace cXF0 := XF.c 0 rfl; replace cXF1 := XF.c 1 rfl; replace cXF2 := XF.c 2 rfl; replace cXF3 := XF.c 3 rfl; replace hB := below_go hB hb1
  go_wp2_with fail
  refine (HWR.out _).mono ?_
  rintro e w2 ⟨A, c, rfl, hc, hra, hb1⟩
  have hsz2 := hb1.size
  replace XR := XR.below hb1; replace XF := XF.below hb1; replace cXR0 := XR.c 0 rfl; replace cXR1 := XR.c 1 rfl; replace cXR2 := XR.c 2 rfl; replace cXF0 := XF.c 0 rfl; replace cXF1 := XF.c 1 rfl; replace cXF2 := XF.c 2 rfl; replace cXF3 := XF.c 3 rfl; replace hB := below_go hB hb1
  have N1 := (Blk.new w2 [.bool (ng (readV h0)), .slice A (mag (readV h0)).length c] 28).alloc (.cells #[.int .i64 0, .int .i64 0, .int .i64 0, .int .i64 0] 35)
  have N2 := Blk.new (w2.alloc (.cells #[.bool (ng (readV h0)), .slice A (mag (readV h0)).length c] 28)) [.int .i64 0, .int .i64 0, .int .i64 0, .int .i64 0] 35
  rw [World.size_alloc] at N2
  replace XR := (XR.alloc (.cells #[.bool (ng (readV h0)), .slice A (mag (readV h0)).length c] 28)).alloc (.cells #[.int .i64 0, .int .i64 0, .int .i64 0, .int .i64 0] 35)
  replace XF := (XF.alloc (.cells #[.bool (ng (readV h0)), .slice A (mag (readV h0)).length c] 28)).alloc (.cells #[.int .i64 0, .int .i64 0, .int .i64 0, .int .i64 0] 35)
  replace hra := (hra.alloc (.cells #[.bool (ng (readV h0)), .slice A (mag (readV h0)).length c] 28)).alloc (.cells #[.int .i64 0, .int .i64 0, .int .i64 0, .int .i64 0] 35)
  replace hB := (hB.alloc hB.size (.cells #[.bool (ng (readV h0)), .slice A (mag (readV h0)).length c] 28)).alloc (by have := hB.size; rw [World.size_alloc]; omega) (.cells #[.int .i64 0, .int .i64 0, .int .i64 0, .int .i64 0] 35)
  have hW2 : ((w2.alloc (.cells #[.bool (ng (readV h0)), .slice A (mag (readV h0)).length c] 28)).alloc (.cells #[.int .i64 0, .int .i64 0, .int .i64 0, .int .i64 0] 35)).heap.size = w2.heap.size + 2 := by rw [World.size_alloc, World.size_alloc]
  replace cXR0 := XR.c 0 rfl
  replace cXR1 := XR.c 1 rfl
  replace cXR2 := XR.c 2 rfl
  replace cXF0 := XF.c 0 rfl
  replace cXF1 := XF.c 1 rfl
  replace cXF2 := XF.c 2 rfl
  replace cXF3 := XF.c 3 rfl
  have cN10 := N1.c 0 rfl; have cN11 := N1.c 1 rfl
  have cN20 := N2.c 0 rfl; have cN21 := N2.c 1 rfl; have cN22 := N2.c 2 rfl; have cN23 := N2.c 3 rfl
  have HOV : Asd (∀ W : World, Rd (fun _ => True) W A (mag (readV h0)) → Calls Tryz.prog 66 #[.agg #[.bool (ng (readV h0)), .slice A (mag (readV h0)).length c], .string ⟨l.toArray⟩, .int .i64 ((kc l : Int) + 1)] W (FgOut 0 1 ((kc l : Int) + 1 + wrongI (tl l)) W)) := ⟨fun W r => by
    have hm := fig_over_no (ng (readV h0)) A c (mag (readV h0)) l (kc l + 1) (by omega) (by omega) ht W r hc
    rw [show ((kc l + 1 : Nat) : Int) = (kc l : Int) + 1 by omega] at hm
    exact hm⟩
  have HSV : Asd (w.heap.size + 1 < w2.heap.size ∧ w2.heap.size + 1 < ((w2.alloc (.cells #[.bool (ng (readV h0)), .slice A (mag (readV h0)).length c] 28)).alloc (.cells #[.int .i64 0, .int .i64 0, .int .i64 0, .int .i64 0] 35)).heap.size) := ⟨by omega, by omega⟩
  go_wp2_with fail
  generalize (w2.alloc (.cells #[.bool (ng (readV h0)), .slice A (mag (readV h0)).length c] 28)).alloc (.cells #[.int .i64 0, .int .i64 0, .int .i64 0, .int .i64 0] 35) = V2 at *
  refine (HOV.out _ (hra.mono (fun _ _ _ => trivial))).mono ?_
  rintro e w3 ⟨y, rfl, hq, hR, hok, hb1⟩
  replace XR := XR.below hb1; replace XF := XF.below hb1; replace cXR0 := XR.c 0 rfl; replace cXR1 := XR.c 1 rfl; replace cXR2 := XR.c 2 rfl; replace cXF0 := XF.c 0 rfl; replace cXF1 := XF.c 1 rfl; replace cXF2 := XF.c 2 rfl; replace cXF3 := XF.c 3 rfl; replace hB := below_go hB hb1
  have hs2 := hb1.size
  have rf := XR.f; have rl := XR.lt; have ff := XF.f; have fl := XF.lt
  go_wp2
  refine bodyPost_ret (ret_blk2 rfl rfl rfl (((((((XR.set 0 _).set 1 _).set 2 _).far (by simp) _).far (by simp) _).far (by simp) _).far (by simp) _) (((((((XF.far (by simp) _).far (by simp) _).far (by simp) _).set 0 _).set 1 _).set 2 _).set 3 _) Tryz.underlying30 (by kernel_rfl) Tryz.underlying35 (by kernel_rfl)) rfl ?_
  exact ⟨y, rfl, hq, hR, (((((((hok.setCell (by simp <;> omega) _).setCell (by simp <;> omega) _).setCell (by simp <;> omega) _).setCell (by simp <;> omega) _).setCell (by simp <;> omega) _).setCell (by simp <;> omega) _).setCell (by simp <;> omega) _).mono (fun k _ hk => by omega), (((((((hB.setCell (by simp <;> omega) _).setCell (by simp <;> omega) _).setCell (by simp <;> omega) _).setCell (by simp <;> omega) _).setCell (by simp <;> omega) _).setCell (by simp <;> omega) _).setCell (by simp <;> omega) _)⟩

set_option maxHeartbeats 2000000 in
theorem fig_Read_C2 (l : List UInt8) (hl : l.length ≤ 1000) (hk : kc l < l.length) (hb : wrongI (restOf (hd l)) < 0) (hs : l.getD (kc l) 0 = 47) (ht : wrongI (tl l) < 0) (hz : decV (tl l) = 0) (w : World) :
    Calls Tryz.prog 16 #[.string ⟨l.toArray⟩] w (FgOut 0 2 ((kc l : Int) + 1) w) := by
  have hat := at_cut hk hs (by simp [ByteArray.size]; exact hk)
  have htl : l.drop (kc l + 1) = tl l := rfl
  have hlh := hd_len l
  have HIX := Asd.mk (fig_index l (by omega))
  rw [cut_yes hk] at HIX
  have hsl := sl_to l (kc l) (by omega)
  rw [show l.take (kc l) = hd l from rfl] at hsl
  have HWR := Asd.mk (whole_Read (hd l) (by omega) hb)
  have hdg := digs_of_wrong hb
  have HRL : Asd ((mag (readV (hd l))).length ≤ 60 ∧ zv (ng (readV (hd l))) (mag (readV (hd l))) = readV (hd l)) := ⟨by
    refine Nat.le_trans (rep_length_le ?_) hdg.2.2
    have h1 := decV_lt_pw hdg.1
    have h2 := (decV_bd hdg.1).1
    unfold readV
    split <;> omega, zv_mag _⟩
  generalize hl0 : hd l = h0 at *
  go_enter Tryz.func16, Tryz.ntmps16
  go_wp2_with fail
  have XR0 := (Blk.new w [.bool false, .slice none 0 0, .slice none 0 0] 30).alloc (.cells #[.int .i64 0, .int .i64 0, .int .i64 0, .int .i64 0] 35)
  have XF0 := Blk.new (w.alloc (.cells #[.bool false, .slice none 0 0, .slice none 0 0] 30)) [.int .i64 0, .int .i64 0, .int .i64 0, .int .i64 0] 35
  have hb0 := (((Below.refl w.heap.size w).alloc (Nat.le_refl _) (.cells #[.bool false, .slice none 0 0, .slice none 0 0] 30)).alloc (by simp) (.cells #[.int .i64 0, .int .i64 0, .int .i64 0, .int .i64 0] 35))
  simp only [World.size_alloc] at XF0
  generalize (w.alloc (.cells #[.bool false, .slice none 0 0, .slice none 0 0] 30)).alloc (.cells #[.int .i64 0, .int .i64 0, .int .i64 0, .int .i64 0] 35) = W at *
  have XR := XR0; have XF := XF0; have hB := hb0; have hlt := XF0.lt
  clear XR0 XF0 hb0
  have cXR0 := XR.c 0 rfl; have cXR1 := XR.c 1 rfl; have cXR2 := XR.c 2 rfl; have cXF0 := XF.c 0 rfl; have cXF1 := XF.c 1 rfl; have cXF2 := XF.c 2 rfl; have cXF3 := XF.c 3 rfl
  refine (HIX.out W).mono ?_
  rintro e w1 ⟨rfl, hb1⟩
  have hsz1 := hb1.size
  replace XR := XR.below hb1; replace XF := XF.below hb1; replace cXR0 := XR.c 0 rfl; replace cXR1 := XR.c 1 rfl; replace cXR2 := XR.c 2 rfl; replace cXF0 := XF.c 0 rfl; replace cXF1 := XF.c 1 rfl; replace cXF2 := XF.c 2 rfl; replace cXF3 := XF.c 3 rfl; replace hB := below_go hB hb1
  go_wp2_with fail
  refine (HWR.out _).mono ?_
  rintro e w2 ⟨A, c, rfl, hc, hra, hb1⟩
  have hsz2 := hb1.size
  replace XR := XR.below hb1; replace XF := XF.below hb1; replace cXR0 := XR.c 0 rfl; replace cXR1 := XR.c 1 rfl; replace cXR2 := XR.c 2 rfl; replace cXF0 := XF.c 0 rfl; replace cXF1 := XF.c 1 rfl; replace cXF2 := XF.c 2 rfl; replace cXF3 := XF.c 3 rfl; replace hB := below_go hB hb1
  have N1 := (Blk.new w2 [.bool (ng (readV h0)), .slice A (mag (readV h0)).length c] 28).alloc (.cells #[.int .i64 0, .int .i64 0, .int .i64 0, .int .i64 0] 35)
  have N2 := Blk.new (w2.alloc (.cells #[.bool (ng (readV h0)), .slice A (mag (readV h0)).length c] 28)) [.int .i64 0, .int .i64 0, .int .i64 0, .int .i64 0] 35
  rw [World.size_alloc] at N2
  replace XR := (XR.alloc (.cells #[.bool (ng (readV h0)), .slice A (mag (readV h0)).length c] 28)).alloc (.cells #[.int .i64 0, .int .i64 0, .int .i64 0, .int .i64 0] 35)
  replace XF := (XF.alloc (.cells #[.bool (ng (readV h0)), .slice A (mag (readV h0)).length c] 28)).alloc (.cells #[.int .i64 0, .int .i64 0, .int .i64 0, .int .i64 0] 35)
  replace hra := (hra.alloc (.cells #[.bool (ng (readV h0)), .slice A (mag (readV h0)).length c] 28)).alloc (.cells #[.int .i64 0, .int .i64 0, .int .i64 0, .int .i64 0] 35)
  replace hB := (hB.alloc hB.size (.cells #[.bool (ng (readV h0)), .slice A (mag (readV h0)).length c] 28)).alloc (by have := hB.size; rw [World.size_alloc]; omega) (.cells #[.int .i64 0, .int .i64 0, .int .i64 0, .int .i64 0] 35)
  have hW2 : ((w2.alloc (.cells #[.bool (ng (readV h0)), .slice A (mag (readV h0)).length c] 28)).alloc (.cells #[.int .i64 0, .int .i64 0, .int .i64 0, .int .i64 0] 35)).heap.size = w2.heap.size + 2 := by rw [World.size_alloc, World.size_alloc]
  replace cXR0 := XR.c 0 rfl
  replace cXR1 := XR.c 1 rfl
  replace cXR2 := XR.c 2 rfl
  replace cXF0 := XF.c 0 rfl
  replace cXF1 := XF.c 1 rfl
  replace cXF2 := XF.c 2 rfl
  replace cXF3 := XF.c 3 rfl
  have cN10 := N1.c 0 rfl; have cN11 := N1.c 1 rfl
  have cN20 := N2.c 0 rfl; have cN21 := N2.c 1 rfl; have cN22 := N2.c 2 rfl; have cN23 := N2.c 3 rfl
  have HOV : Asd (∀ W : World, Rd (fun _ => True) W A (mag (readV h0)) → Calls Tryz.prog 66 #[.agg #[.bool (ng (readV h0)), .slice A (mag (readV h0)).length c], .string ⟨l.toArray⟩, .int .i64 ((kc l : Int) + 1)] W (FgOut 0 2 ((kc l : Int) + 1) W)) := ⟨fun W r => by
    have hm := fig_over_zero (ng (readV h0)) A c (mag (readV h0)) l (kc l + 1) (by omega) ht hz W r hc (by have := HRL.out.1; omega)
    rw [show ((kc l + 1 : Nat) : Int) = (kc l : Int) + 1 by omega] at hm
    exact hm⟩
  have HSV : Asd (w.heap.size + 1 < w2.heap.size ∧ w2.heap.size + 1 < ((w2.alloc (.cells #[.bool (ng (readV h0)), .slice A (mag (readV h0)).length c] 28)).alloc (.cells #[.int .i64 0, .int .i64 0, .int .i64 0, .int .i64 0] 35)).heap.size) := ⟨by omega, by omega⟩
  go_wp2_with fail
  generalize (w2.alloc (.cells #[.bool (ng (readV h0)), .slice A (mag (readV h0)).length c] 28)).alloc (.cells #[.int .i64 0, .int .i64 0, .int .i64 0, .int .i64 0] 35) = V2 at *
  refine (HOV.out _ (hra.mono (fun _ _ _ => trivial))).mono ?_
  rintro e w3 ⟨y, rfl, hq, hR, hok, hb1⟩
  replace XR := XR.below hb1; replace XF := XF.below hb1; replace cXR0 := XR.c 0 rfl; replace cXR1 := XR.c 1 rfl; replace cXR2 := XR.c 2 rfl; replace cXF0 := XF.c 0 rfl; replace cXF1 := XF.c 1 rfl; replace cXF2 := XF.c 2 rfl; replace cXF3 := XF.c 3 rfl; replace hB := below_go hB hb1
  have hs2 := hb1.size
  have rf := XR.f; have rl := XR.lt; have ff := XF.f; have fl := XF.lt
  go_wp2
  refine bodyPost_ret (ret_blk2 rfl rfl rfl (((((((XR.set 0 _).set 1 _).set 2 _).far (by simp) _).far (by simp) _).far (by simp) _).far (by simp) _) (((((((XF.far (by simp) _).far (by simp) _).far (by simp) _).set 0 _).set 1 _).set 2 _).set 3 _) Tryz.underlying30 (by kernel_rfl) Tryz.underlying35 (by kernel_rfl)) rfl ?_
  exact ⟨y, rfl, hq, hR, (((((((hok.setCell (by simp <;> omega) _).setCell (by simp <;> omega) _).setCell (by simp <;> omega) _).setCell (by simp <;> omega) _).setCell (by simp <;> omega) _).setCell (by simp <;> omega) _).setCell (by simp <;> omega) _).mono (fun k _ hk => by omega), (((((((hB.setCell (by simp <;> omega) _).setCell (by simp <;> omega) _).setCell (by simp <;> omega) _).setCell (by simp <;> omega) _).setCell (by simp <;> omega) _).setCell (by simp <;> omega) _).setCell (by simp <;> omega) _)⟩

set_option maxHeartbeats 2000000 in
theorem fig_Read_C3 (l : List UInt8) (hl : l.length ≤ 1000) (hk : kc l < l.length) (hb : wrongI (restOf (hd l)) < 0) (hs : l.getD (kc l) 0 = 47) (ht : wrongI (tl l) < 0) (hz : 0 < decV (tl l)) (w : World) :
    Calls Tryz.prog 16 #[.string ⟨l.toArray⟩] w (FgOut (Rat.divInt (readV (hd l)) (decV (tl l))) 0 0 w) := by
  have hat := at_cut hk hs (by simp [ByteArray.size]; exact hk)
  have htl : l.drop (kc l + 1) = tl l := rfl
  have hlh := hd_len l
  have HIX := Asd.mk (fig_index l (by omega))
  rw [cut_yes hk] at HIX
  have hsl := sl_to l (kc l) (by omega)
  rw [show l.take (kc l) = hd l from rfl] at hsl
  have HWR := Asd.mk (whole_Read (hd l) (by omega) hb)
  have hdg := digs_of_wrong hb
  have HRL : Asd ((mag (readV (hd l))).length ≤ 60 ∧ zv (ng (readV (hd l))) (mag (readV (hd l))) = readV (hd l)) := ⟨by
    refine Nat.le_trans (rep_length_le ?_) hdg.2.2
    have h1 := decV_lt_pw hdg.1
    have h2 := (decV_bd hdg.1).1
    unfold readV
    split <;> omega, zv_mag _⟩
  generalize hl0 : hd l = h0 at *
  go_enter Tryz.func16, Tryz.ntmps16
  go_wp2_with fail
  have XR0 := (Blk.new w [.bool false, .slice none 0 0, .slice none 0 0] 30).alloc (.cells #[.int .i64 0, .int .i64 0, .int .i64 0, .int .i64 0] 35)
  have XF0 := Blk.new (w.alloc (.cells #[.bool false, .slice none 0 0, .slice none 0 0] 30)) [.int .i64 0, .int .i64 0, .int .i64 0, .int .i64 0] 35
  have hb0 := (((Below.refl w.heap.size w).alloc (Nat.le_refl _) (.cells #[.bool false, .slice none 0 0, .slice none 0 0] 30)).alloc (by simp) (.cells #[.int .i64 0, .int .i64 0, .int .i64 0, .int .i64 0] 35))
  simp only [World.size_alloc] at XF0
  generalize (w.alloc (.cells #[.bool false, .slice none 0 0, .slice none 0 0] 30)).alloc (.cells #[.int .i64 0, .int .i64 0, .int .i64 0, .int .i64 0] 35) = W at *
  have XR := XR0; have XF := XF0; have hB := hb0; have hlt := XF0.lt
  clear XR0 XF0 hb0
  have cXR0 := XR.c 0 rfl; have cXR1 := XR.c 1 rfl; have cXR2 := XR.c 2 rfl; have cXF0 := XF.c 0 rfl; have cXF1 := XF.c 1 rfl; have cXF2 := XF.c 2 rfl; have cXF3 := XF.c 3 rfl
  refine (HIX.out W).mono ?_
  rintro e w1 ⟨rfl, hb1⟩
  have hsz1 := hb1.size
  replace XR := XR.below hb1; replace XF := XF.below hb1; replace cXR0 := XR.c 0 rfl; replace cXR1 := XR.c 1 rfl; replace cXR2 := XR.c 2 rfl; replace cXF0 := XF.c 0 rfl; replace cXF1 := XF.c 1 rfl; replace cXF2 := XF.c 2 rfl; replace cXF3 := XF.c 3 rfl; replace hB := below_go hB hb1
  go_wp2_with fail
  refine (HWR.out _).mono ?_
  rintro e w2 ⟨A, c, rfl, hc, hra, hb1⟩
  have hsz2 := hb1.size
  replace XR := XR.below hb1; replace XF := XF.below hb1; replace cXR0 := XR.c 0 rfl; replace cXR1 := XR.c 1 rfl; replace cXR2 := XR.c 2 rfl; replace cXF0 := XF.c 0 rfl; replace cXF1 := XF.c 1 rfl; replace cXF2 := XF.c 2 rfl; replace cXF3 := XF.c 3 rfl; replace hB := below_go hB hb1
  have N1 := (Blk.new w2 [.bool (ng (readV h0)), .slice A (mag (readV h0)).length c] 28).alloc (.cells #[.int .i64 0, .int .i64 0, .int .i64 0, .int .i64 0] 35)
  have N2 := Blk.new (w2.alloc (.cells #[.bool (ng (readV h0)), .slice A (mag (readV h0)).length c] 28)) [.int .i64 0, .int .i64 0, .int .i64 0, .int .i64 0] 35
  rw [World.size_alloc] at N2
  replace XR := (XR.alloc (.cells #[.bool (ng (readV h0)), .slice A (mag (readV h0)).length c] 28)).alloc (.cells #[.int .i64 0, .int .i64 0, .int .i64 0, .int .i64 0] 35)
  replace XF := (XF.alloc (.cells #[.bool (ng (readV h0)), .slice A (mag (readV h0)).length c] 28)).alloc (.cells #[.int .i64 0, .int .i64 0, .int .i64 0, .int .i64 0] 35)
  replace hra := (hra.alloc (.cells #[.bool (ng (readV h0)), .slice A (mag (readV h0)).length c] 28)).alloc (.cells #[.int .i64 0, .int .i64 0, .int .i64 0, .int .i64 0] 35)
  replace hB := (hB.alloc hB.size (.cells #[.bool (ng (readV h0)), .slice A (mag (readV h0)).length c] 28)).alloc (by have := hB.size; rw [World.size_alloc]; omega) (.cells #[.int .i64 0, .int .i64 0, .int .i64 0, .int .i64 0] 35)
  have hW2 : ((w2.alloc (.cells #[.bool (ng (readV h0)), .slice A (mag (readV h0)).length c] 28)).alloc (.cells #[.int .i64 0, .int .i64 0, .int .i64 0, .int .i64 0] 35)).heap.size = w2.heap.size + 2 := by rw [World.size_alloc, World.size_alloc]
  replace cXR0 := XR.c 0 rfl
  replace cXR1 := XR.c 1 rfl
  replace cXR2 := XR.c 2 rfl
  replace cXF0 := XF.c 0 rfl
  replace cXF1 := XF.c 1 rfl
  replace cXF2 := XF.c 2 rfl
  replace cXF3 := XF.c 3 rfl
  have cN10 := N1.c 0 rfl; have cN11 := N1.c 1 rfl
  have cN20 := N2.c 0 rfl; have cN21 := N2.c 1 rfl; have cN22 := N2.c 2 rfl; have cN23 := N2.c 3 rfl
  have HOV : Asd (∀ W : World, Rd (fun _ => True) W A (mag (readV h0)) → Calls Tryz.prog 66 #[.agg #[.bool (ng (readV h0)), .slice A (mag (readV h0)).length c], .string ⟨l.toArray⟩, .int .i64 ((kc l : Int) + 1)] W (FgOut (Rat.divInt (readV h0) (decV (tl l))) 0 0 W)) := ⟨fun W r => by
    have hm := fig_over (ng (readV h0)) A c (mag (readV h0)) l (kc l + 1) (by omega) ht hz W r hc (by have := HRL.out.1; omega)
    rw [show ((kc l + 1 : Nat) : Int) = (kc l : Int) + 1 by omega] at hm
    rw [HRL.out.2] at hm
    exact hm⟩
  have HSV : Asd (w.heap.size + 1 < w2.heap.size ∧ w2.heap.size + 1 < ((w2.alloc (.cells #[.bool (ng (readV h0)), .slice A (mag (readV h0)).length c] 28)).alloc (.cells #[.int .i64 0, .int .i64 0, .int .i64 0, .int .i64 0] 35)).heap.size) := ⟨by omega, by omega⟩
  go_wp2_with fail
  generalize (w2.alloc (.cells #[.bool (ng (readV h0)), .slice A (mag (readV h0)).length c] 28)).alloc (.cells #[.int .i64 0, .int .i64 0, .int .i64 0, .int .i64 0] 35) = V2 at *
  refine (HOV.out _ (hra.mono (fun _ _ _ => trivial))).mono ?_
  rintro e w3 ⟨y, rfl, hq, hR, hok, hb1⟩
  replace XR := XR.below hb1; replace XF := XF.below hb1; replace cXR0 := XR.c 0 rfl; replace cXR1 := XR.c 1 rfl; replace cXR2 := XR.c 2 rfl; replace cXF0 := XF.c 0 rfl; replace cXF1 := XF.c 1 rfl; replace cXF2 := XF.c 2 rfl; replace cXF3 := XF.c 3 rfl; replace hB := below_go hB hb1
  have hs2 := hb1.size
  have rf := XR.f; have rl := XR.lt; have ff := XF.f; have fl := XF.lt
  go_wp2
  refine bodyPost_ret (ret_blk2 rfl rfl rfl (((((((XR.set 0 _).set 1 _).set 2 _).far (by simp) _).far (by simp) _).far (by simp) _).far (by simp) _) (((((((XF.far (by simp) _).far (by simp) _).far (by simp) _).set 0 _).set 1 _).set 2 _).set 3 _) Tryz.underlying30 (by kernel_rfl) Tryz.underlying35 (by kernel_rfl)) rfl ?_
  exact ⟨y, rfl, hq, hR, (((((((hok.setCell (by simp <;> omega) _).setCell (by simp <;> omega) _).setCell (by simp <;> omega) _).setCell (by simp <;> omega) _).setCell (by simp <;> omega) _).setCell (by simp <;> omega) _).setCell (by simp <;> omega) _).mono (fun k _ hk => by omega), (((((((hB.setCell (by simp <;> omega) _).setCell (by simp <;> omega) _).setCell (by simp <;> omega) _).setCell (by simp <;> omega) _).setCell (by simp <;> omega) _).setCell (by simp <;> omega) _).setCell (by simp <;> omega) _)⟩

set_option maxHeartbeats 2000000 in
theorem fig_Read_D1 (l : List UInt8) (hl : l.length ≤ 1000) (hk : kc l < l.length) (hb : wrongI (restOf (hd l)) < 0) (hs : ¬ l.getD (kc l) 0 = 47) (ht : 0 ≤ wrongI (tl l)) (w : World) :
    Calls Tryz.prog 16 #[.string ⟨l.toArray⟩] w (FgOut 0 1 ((kc l : Int) + 1 + wrongI (tl l)) w) := by
  have hat := at_dot hk hs (by simp [ByteArray.size]; exact hk)
  have htl : l.drop (kc l + 1) = tl l := rfl
  obtain ⟨neg, hneg⟩ : ∃ neg, neg = Lib.hasPrefix l [45] := ⟨_, rfl⟩
  have HNG := Asd.mk hneg
  clear hneg
  have hlh := hd_len l
  have HIX := Asd.mk (fig_index l (by omega))
  rw [cut_yes hk] at HIX
  have hsl := sl_to l (kc l) (by omega)
  rw [show l.take (kc l) = hd l from rfl] at hsl
  have HWR := Asd.mk (whole_Read (hd l) (by omega) hb)
  have hdg := digs_of_wrong hb
  have HRL : Asd ((mag (readV (hd l))).length ≤ 60 ∧ zv (ng (readV (hd l))) (mag (readV (hd l))) = readV (hd l)) := ⟨by
    refine Nat.le_trans (rep_length_le ?_) hdg.2.2
    have h1 := decV_lt_pw hdg.1
    have h2 := (decV_bd hdg.1).1
    unfold readV
    split <;> omega, zv_mag _⟩
  generalize hl0 : hd l = h0 at *
  go_enter Tryz.func16, Tryz.ntmps16
  go_wp2_with fail
  have XR0 := (Blk.new w [.bool false, .slice none 0 0, .slice none 0 0] 30).alloc (.cells #[.int .i64 0, .int .i64 0, .int .i64 0, .int .i64 0] 35)
  have XF0 := Blk.new (w.alloc (.cells #[.bool false, .slice none 0 0, .slice none 0 0] 30)) [.int .i64 0, .int .i64 0, .int .i64 0, .int .i64 0] 35
  have hb0 := (((Below.refl w.heap.size w).alloc (Nat.le_refl _) (.cells #[.bool false, .slice none 0 0, .slice none 0 0] 30)).alloc (by simp) (.cells #[.int .i64 0, .int .i64 0, .int .i64 0, .int .i64 0] 35))
  simp only [World.size_alloc] at XF0
  generalize (w.alloc (.cells #[.bool false, .slice none 0 0, .slice none 0 0] 30)).alloc (.cells #[.int .i64 0, .int .i64 0, .int .i64 0, .int .i64 0] 35) = W at *
  have XR := XR0; have XF := XF0; have hB := hb0; have hlt := XF0.lt
  clear XR0 XF0 hb0
  have cXR0 := XR.c 0 rfl; have cXR1 := XR.c 1 rfl; have cXR2 := XR.c 2 rfl; have cXF0 := XF.c 0 rfl; have cXF1 := XF.c 1 rfl; have cXF2 := XF.c 2 rfl; have cXF3 := XF.c 3 rfl
  refine (HIX.out W).mono ?_
  rintro e w1 ⟨rfl, hb1⟩
  have hsz1 := hb1.size
  replace XR := XR.below hb1; replace XF := XF.below hb1; replace cXR0 := XR.c 0 rfl; replace cXR1 := XR.c 1 rfl; replace cXR2 := XR.c 2 rfl; replace cXF0 := XF.c 0 rfl; replace cXF1 := XF.c 1 rfl; replace cXF2 := XF.c 2 rfl; replace cXF3 := XF.c 3 rfl; replace hB := below_go hB hb1
  go_wp2_with fail
  refine (HWR.out _).mono ?_
  rintro e w2 ⟨A, c, rfl, hc, hra, hb1⟩
  have hsz2 := hb1.size
  replace XR := XR.below hb1; replace XF := XF.below hb1; replace cXR0 := XR.c 0 rfl; replace cXR1 := XR.c 1 rfl; replace cXR2 := XR.c 2 rfl; replace cXF0 := XF.c 0 rfl; replace cXF1 := XF.c 1 rfl; replace cXF2 := XF.c 2 rfl; replace cXF3 := XF.c 3 rfl; replace hB := below_go hB hb1
  have N1 := (Blk.new w2 [.bool (ng (readV h0)), .slice A (mag (readV h0)).length c] 28).alloc (.cells #[.int .i64 0, .int .i64 0, .int .i64 0, .int .i64 0] 35)
  have N2 := Blk.new (w2.alloc (.cells #[.bool (ng (readV h0)), .slice A (mag (readV h0)).length c] 28)) [.int .i64 0, .int .i64 0, .int .i64 0, .int .i64 0] 35
  rw [World.size_alloc] at N2
  replace XR := (XR.alloc (.cells #[.bool (ng (readV h0)), .slice A (mag (readV h0)).length c] 28)).alloc (.cells #[.int .i64 0, .int .i64 0, .int .i64 0, .int .i64 0] 35)
  replace XF := (XF.alloc (.cells #[.bool (ng (readV h0)), .slice A (mag (readV h0)).length c] 28)).alloc (.cells #[.int .i64 0, .int .i64 0, .int .i64 0, .int .i64 0] 35)
  replace hra := (hra.alloc (.cells #[.bool (ng (readV h0)), .slice A (mag (readV h0)).length c] 28)).alloc (.cells #[.int .i64 0, .int .i64 0, .int .i64 0, .int .i64 0] 35)
  replace hB := (hB.alloc hB.size (.cells #[.bool (ng (readV h0)), .slice A (mag (readV h0)).length c] 28)).alloc (by have := hB.size; rw [World.size_alloc]; omega) (.cells #[.int .i64 0, .int .i64 0, .int .i64 0, .int .i64 0] 35)
  have hW2 : ((w2.alloc (.cells #[.bool (ng (readV h0)), .slice A (mag (readV h0)).length c] 28)).alloc (.cells #[.int .i64 0, .int .i64 0, .int .i64 0, .int .i64 0] 35)).heap.size = w2.heap.size + 2 := by rw [World.size_alloc, World.size_alloc]
  replace cXR0 := XR.c 0 rfl
  replace cXR1 := XR.c 1 rfl
  replace cXR2 := XR.c 2 rfl
  replace cXF0 := XF.c 0 rfl
  replace cXF1 := XF.c 1 rfl
  replace cXF2 := XF.c 2 rfl
  replace cXF3 := XF.c 3 rfl
  have cN10 := N1.c 0 rfl; have cN11 := N1.c 1 rfl
  have cN20 := N2.c 0 rfl; have cN21 := N2.c 1 rfl; have cN22 := N2.c 2 rfl; have cN23 := N2.c 3 rfl
  have HOV : Asd (∀ W : World, Rd (fun _ => True) W A (mag (readV h0)) → Calls Tryz.prog 67 #[.agg #[.bool (ng (readV h0)), .slice A (mag (readV h0)).length c], .bool neg, .string ⟨l.toArray⟩, .int .i64 ((kc l : Int) + 1)] W (FgOut 0 1 ((kc l : Int) + 1 + wrongI (tl l)) W)) := ⟨fun W r => by
    have hm := fig_places_no (ng (readV h0)) neg A c (mag (readV h0)) l (kc l + 1) (by omega) (by omega) ht W r hc
    rw [show ((kc l + 1 : Nat) : Int) = (kc l : Int) + 1 by omega] at hm
    exact hm⟩
  have HSV : Asd (w.heap.size + 1 < w2.heap.size ∧ w2.heap.size + 1 < ((w2.alloc (.cells #[.bool (ng (readV h0)), .slice A (mag (readV h0)).length c] 28)).alloc (.cells #[.int .i64 0, .int .i64 0, .int .i64 0, .int .i64 0] 35)).heap.size) := ⟨by omega, by omega⟩
  go_wp2_with fail
  generalize (w2.alloc (.cells #[.bool (ng (readV h0)), .slice A (mag (readV h0)).length c] 28)).alloc (.cells #[.int .i64 0, .int .i64 0, .int .i64 0, .int .i64 0] 35) = V2 at *
  replace XR := XR.drew; replace XF := XF.drew; replace N1 := N1.drew; replace hra := hra.drew; replace hB := below_drewN hB 1; replace cXR0 := XR.c 0 rfl; replace cXR1 := XR.c 1 rfl; replace cXR2 := XR.c 2 rfl; replace cXF0 := XF.c 0 rfl; replace cXF1 := XF.c 1 rfl; replace cXF2 := XF.c 2 rfl; replace cXF3 := XF.c 3 rfl; replace cN10 := N1.c 0 rfl; replace cN11 := N1.c 1 rfl
  clear N2 cN20 cN21 cN22 cN23
  have hwr : IntKind.i64.wrap ((kc l : Int) + 1) = (kc l : Int) + 1 := by rw [IntKind.wrap_i64]; omega
  go_region_with
    (first
      | (go_at_call 68; refine (Sh.strings_HasPrefix _ _ _).mono ?_; rintro e w3 ⟨rfl, rfl⟩; rw [show Lib.hasPrefix (⟨l.toArray⟩ : ByteArray).data.toList (⟨#[45]⟩ : ByteArray).data.toList = neg from HNG.out.symm])
      | (go_at_call 67; refine (HOV.out _ (hra.mono (fun _ _ _ => trivial))).mono ?_; rintro e w3 ⟨y, rfl, hq, hR, hok, hb1⟩; replace XR := XR.below hb1; replace XF := XF.below hb1; replace cXR0 := XR.c 0 rfl; replace cXR1 := XR.c 1 rfl; replace cXR2 := XR.c 2 rfl; replace cXF0 := XF.c 0 rfl; replace cXF1 := XF.c 1 rfl; replace cXF2 := XF.c 2 rfl; replace cXF3 := XF.c 3 rfl; replace hB := below_go hB hb1; have hs2 : V2.heap.size ≤ w3.heap.size := hb1.size; have rf := XR.f; have rl := XR.lt; have ff := XF.f; have fl := XF.lt))
  all_goals go_wp2
  all_goals have hzz := HSV.out
  all_goals replace hok := RF.ok.mono (ok' := fun k => V2.heap.size ≤ k) hok (fun _ _ h => h)
  all_goals
    refine bodyPost_ret (ret_blk2 rfl rfl rfl (((((((XR.set 0 _).set 1 _).set 2 _).far (by simp) _).far (by simp) _).far (by simp) _).far (by simp) _) (((((((XF.far (by simp) _).far (by simp) _).far (by simp) _).set 0 _).set 1 _).set 2 _).set 3 _) Tryz.underlying30 (by kernel_rfl) Tryz.underlying35 (by kernel_rfl)) rfl ?_
    exact ⟨y, rfl, hq, hR, (((((((hok.setCell (by simp <;> omega) _).setCell (by simp <;> omega) _).setCell (by simp <;> omega) _).setCell (by simp <;> omega) _).setCell (by simp <;> omega) _).setCell (by simp <;> omega) _).setCell (by simp <;> omega) _).mono (fun k _ hk => by omega), (((((((hB.setCell (by simp <;> omega) _).setCell (by simp <;> omega) _).setCell (by simp <;> omega) _).setCell (by simp <;> omega) _).setCell (by simp <;> omega) _).setCell (by simp <;> omega) _).setCell (by simp <;> omega) _)⟩

set_option maxHeartbeats 2000000 in
theorem fig_Read_D2 (l : List UInt8) (hl : l.length ≤ 1000) (hk : kc l < l.length) (hb : wrongI (restOf (hd l)) < 0) (hs : ¬ l.getD (kc l) 0 = 47) (ht : wrongI (tl l) < 0) (w : World) :
    Calls Tryz.prog 16 #[.string ⟨l.toArray⟩] w (FgOut (pointV (Lib.hasPrefix l [45]) (readV (hd l)) (tl l)) 0 0 w) := by
  have hat := at_dot hk hs (by simp [ByteArray.size]; exact hk)
  have htl : l.drop (kc l + 1) = tl l := rfl
  obtain ⟨neg, hneg⟩ : ∃ neg, neg = Lib.hasPrefix l [45] := ⟨_, rfl⟩
  have HNG := Asd.mk hneg
  rw [← hneg, pointV_tl]
  clear hneg
  have hlh := hd_len l
  have HIX := Asd.mk (fig_index l (by omega))
  rw [cut_yes hk] at HIX
  have hsl := sl_to l (kc l) (by omega)
  rw [show l.take (kc l) = hd l from rfl] at hsl
  have HWR := Asd.mk (whole_Read (hd l) (by omega) hb)
  have hdg := digs_of_wrong hb
  have HRL : Asd ((mag (readV (hd l))).length ≤ 60 ∧ zv (ng (readV (hd l))) (mag (readV (hd l))) = readV (hd l)) := ⟨by
    refine Nat.le_trans (rep_length_le ?_) hdg.2.2
    have h1 := decV_lt_pw hdg.1
    have h2 := (decV_bd hdg.1).1
    unfold readV
    split <;> omega, zv_mag _⟩
  generalize hl0 : hd l = h0 at *
  obtain ⟨Q, hQ⟩ : ∃ Q, Q = (Rat.divInt (if neg = true then -(val (mag (readV h0)) * 10 ^ (l.length - (kc l + 1)) + decV (l.drop (kc l + 1))) else val (mag (readV h0)) * 10 ^ (l.length - (kc l + 1)) + decV (l.drop (kc l + 1))) (10 ^ (l.length - (kc l + 1)))) := ⟨_, rfl⟩
  have HQQ := Asd.mk hQ
  rw [← hQ]
  clear hQ
  go_enter Tryz.func16, Tryz.ntmps16
  go_wp2_with fail
  have XR0 := (Blk.new w [.bool false, .slice none 0 0, .slice none 0 0] 30).alloc (.cells #[.int .i64 0, .int .i64 0, .int .i64 0, .int .i64 0] 35)
  have XF0 := Blk.new (w.alloc (.cells #[.bool false, .slice none 0 0, .slice none 0 0] 30)) [.int .i64 0, .int .i64 0, .int .i64 0, .int .i64 0] 35
  have hb0 := (((Below.refl w.heap.size w).alloc (Nat.le_refl _) (.cells #[.bool false, .slice none 0 0, .slice none 0 0] 30)).alloc (by simp) (.cells #[.int .i64 0, .int .i64 0, .int .i64 0, .int .i64 0] 35))
  simp only [World.size_alloc] at XF0
  generalize (w.alloc (.cells #[.bool false, .slice none 0 0, .slice none 0 0] 30)).alloc (.cells #[.int .i64 0, .int .i64 0, .int .i64 0, .int .i64 0] 35) = W at *
  have XR := XR0; have XF := XF0; have hB := hb0; have hlt := XF0.lt
  clear XR0 XF0 hb0
  have cXR0 := XR.c 0 rfl; have cXR1 := XR.c 1 rfl; have cXR2 := XR.c 2 rfl; have cXF0 := XF.c 0 rfl; have cXF1 := XF.c 1 rfl; have cXF2 := XF.c 2 rfl; have cXF3 := XF.c 3 rfl
  refine (HIX.out W).mono ?_
  rintro e w1 ⟨rfl, hb1⟩
  have hsz1 := hb1.size
  replace XR := XR.below hb1; replace XF := XF.below hb1; replace cXR0 := XR.c 0 rfl; replace cXR1 := XR.c 1 rfl; replace cXR2 := XR.c 2 rfl; replace cXF0 := XF.c 0 rfl; replace cXF1 := XF.c 1 rfl; replace cXF2 := XF.c 2 rfl; replace cXF3 := XF.c 3 rfl; replace hB := below_go hB hb1
  go_wp2_with fail
  refine (HWR.out _).mono ?_
  rintro e w2 ⟨A, c, rfl, hc, hra, hb1⟩
  have hsz2 := hb1.size
  replace XR := XR.below hb1; replace XF := XF.below hb1; replace cXR0 := XR.c 0 rfl; replace cXR1 := XR.c 1 rfl; replace cXR2 := XR.c 2 rfl; replace cXF0 := XF.c 0 rfl; replace cXF1 := XF.c 1 rfl; replace cXF2 := XF.c 2 rfl; replace cXF3 := XF.c 3 rfl; replace hB := below_go hB hb1
  have N1 := (Blk.new w2 [.bool (ng (readV h0)), .slice A (mag (readV h0)).length c] 28).alloc (.cells #[.int .i64 0, .int .i64 0, .int .i64 0, .int .i64 0] 35)
  have N2 := Blk.new (w2.alloc (.cells #[.bool (ng (readV h0)), .slice A (mag (readV h0)).length c] 28)) [.int .i64 0, .int .i64 0, .int .i64 0, .int .i64 0] 35
  rw [World.size_alloc] at N2
  replace XR := (XR.alloc (.cells #[.bool (ng (readV h0)), .slice A (mag (readV h0)).length c] 28)).alloc (.cells #[.int .i64 0, .int .i64 0, .int .i64 0, .int .i64 0] 35)
  replace XF := (XF.alloc (.cells #[.bool (ng (readV h0)), .slice A (mag (readV h0)).length c] 28)).alloc (.cells #[.int .i64 0, .int .i64 0, .int .i64 0, .int .i64 0] 35)
  replace hra := (hra.alloc (.cells #[.bool (ng (readV h0)), .slice A (mag (readV h0)).length c] 28)).alloc (.cells #[.int .i64 0, .int .i64 0, .int .i64 0, .int .i64 0] 35)
  replace hB := (hB.alloc hB.size (.cells #[.bool (ng (readV h0)), .slice A (mag (readV h0)).length c] 28)).alloc (by have := hB.size; rw [World.size_alloc]; omega) (.cells #[.int .i64 0, .int .i64 0, .int .i64 0, .int .i64 0] 35)
  have hW2 : ((w2.alloc (.cells #[.bool (ng (readV h0)), .slice A (mag (readV h0)).length c] 28)).alloc (.cells #[.int .i64 0, .int .i64 0, .int .i64 0, .int .i64 0] 35)).heap.size = w2.heap.size + 2 := by rw [World.size_alloc, World.size_alloc]
  replace cXR0 := XR.c 0 rfl
  replace cXR1 := XR.c 1 rfl
  replace cXR2 := XR.c 2 rfl
  replace cXF0 := XF.c 0 rfl
  replace cXF1 := XF.c 1 rfl
  replace cXF2 := XF.c 2 rfl
  replace cXF3 := XF.c 3 rfl
  have cN10 := N1.c 0 rfl; have cN11 := N1.c 1 rfl
  have cN20 := N2.c 0 rfl; have cN21 := N2.c 1 rfl; have cN22 := N2.c 2 rfl; have cN23 := N2.c 3 rfl
  have HOV : Asd (∀ W : World, Rd (fun _ => True) W A (mag (readV h0)) → Calls Tryz.prog 67 #[.agg #[.bool (ng (readV h0)), .slice A (mag (readV h0)).length c], .bool neg, .string ⟨l.toArray⟩, .int .i64 ((kc l : Int) + 1)] W (FgOut Q 0 0 W)) := ⟨fun W r => by
    have hm := fig_places (ng (readV h0)) neg A c (mag (readV h0)) l (kc l + 1) (by omega) ht W r hc (by have := HRL.out.1; omega)
    rw [show ((kc l + 1 : Nat) : Int) = (kc l : Int) + 1 by omega] at hm
    rw [← HQQ.out] at hm
    exact hm⟩
  have HSV : Asd (w.heap.size + 1 < w2.heap.size ∧ w2.heap.size + 1 < ((w2.alloc (.cells #[.bool (ng (readV h0)), .slice A (mag (readV h0)).length c] 28)).alloc (.cells #[.int .i64 0, .int .i64 0, .int .i64 0, .int .i64 0] 35)).heap.size) := ⟨by omega, by omega⟩
  go_wp2_with fail
  generalize (w2.alloc (.cells #[.bool (ng (readV h0)), .slice A (mag (readV h0)).length c] 28)).alloc (.cells #[.int .i64 0, .int .i64 0, .int .i64 0, .int .i64 0] 35) = V2 at *
  replace XR := XR.drew; replace XF := XF.drew; replace N1 := N1.drew; replace hra := hra.drew; replace hB := below_drewN hB 1; replace cXR0 := XR.c 0 rfl; replace cXR1 := XR.c 1 rfl; replace cXR2 := XR.c 2 rfl; replace cXF0 := XF.c 0 rfl; replace cXF1 := XF.c 1 rfl; replace cXF2 := XF.c 2 rfl; replace cXF3 := XF.c 3 rfl; replace cN10 := N1.c 0 rfl; replace cN11 := N1.c 1 rfl
  clear N2 cN20 cN21 cN22 cN23
  have hwr : IntKind.i64.wrap ((kc l : Int) + 1) = (kc l : Int) + 1 := by rw [IntKind.wrap_i64]; omega
  go_region_with
    (first
      | (go_at_call 68; refine (Sh.strings_HasPrefix _ _ _).mono ?_; rintro e w3 ⟨rfl, rfl⟩; rw [show Lib.hasPrefix (⟨l.toArray⟩ : ByteArray).data.toList (⟨#[45]⟩ : ByteArray).data.toList = neg from HNG.out.symm])
      | (go_at_call 67; refine (HOV.out _ (hra.mono (fun _ _ _ => trivial))).mono ?_; rintro e w3 ⟨y, rfl, hq, hR, hok, hb1⟩; replace XR := XR.below hb1; replace XF := XF.below hb1; replace cXR0 := XR.c 0 rfl; replace cXR1 := XR.c 1 rfl; replace cXR2 := XR.c 2 rfl; replace cXF0 := XF.c 0 rfl; replace cXF1 := XF.c 1 rfl; replace cXF2 := XF.c 2 rfl; replace cXF3 := XF.c 3 rfl; replace hB := below_go hB hb1; have hs2 : V2.heap.size ≤ w3.heap.size := hb1.size; have rf := XR.f; have rl := XR.lt; have ff := XF.f; have fl := XF.lt))
  all_goals go_wp2
  all_goals have hzz := HSV.out
  all_goals replace hok := RF.ok.mono (ok' := fun k => V2.heap.size ≤ k) hok (fun _ _ h => h)
  all_goals
    refine bodyPost_ret (ret_blk2 rfl rfl rfl (((((((XR.set 0 _).set 1 _).set 2 _).far (by simp) _).far (by simp) _).far (by simp) _).far (by simp) _) (((((((XF.far (by simp) _).far (by simp) _).far (by simp) _).set 0 _).set 1 _).set 2 _).set 3 _) Tryz.underlying30 (by kernel_rfl) Tryz.underlying35 (by kernel_rfl)) rfl ?_
    exact ⟨y, rfl, hq, hR, (((((((hok.setCell (by simp <;> omega) _).setCell (by simp <;> omega) _).setCell (by simp <;> omega) _).setCell (by simp <;> omega) _).setCell (by simp <;> omega) _).setCell (by simp <;> omega) _).setCell (by simp <;> omega) _).mono (fun k _ hk => by omega), (((((((hB.setCell (by simp <;> omega) _).setCell (by simp <;> omega) _).setCell (by simp <;> omega) _).setCell (by simp <;> omega) _).setCell (by simp <;> omega) _).setCell (by simp <;> omega) _).setCell (by simp <;> omega) _)⟩
end Go.Proofs.YthjpkichpkomcaaGreatDoor
