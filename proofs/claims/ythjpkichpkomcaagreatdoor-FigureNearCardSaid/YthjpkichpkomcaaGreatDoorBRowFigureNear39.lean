/- FigC -/
import Derived.Test.YthjpkichpkomcaaGreatDoorBRowFigureNear37
import Derived.Test.YthjpkichpkomcaaGreatDoorBRowFigureNear38
import Derived.Test.YthjpkichpkomcaaGreatDoorBRowFigureNear27
/- Layer 10: fractions of texts (figure.Read). -/
namespace Go.Proofs.YthjpkichpkomcaaGreatDoor
open Go.RowKit Go.Proofs.YthjpkichpkomcaaGreatDoor.Big
set_option linter.unusedVariables false
set_option maxRecDepth 100000
attribute [local go_sem ↓] Go.wp_at_zero Go.wp_at_succ

theorem cut_yes {l : List UInt8} (h : kc l < l.length) : (if kc l < l.length then (kc l : Int) else -1) = (kc l : Int) := if_pos h
theorem cut_no {l : List UInt8} (h : ¬ kc l < l.length) : (if kc l < l.length then (kc l : Int) else -1) = -1 := if_neg h
theorem hd_no {l : List UInt8} (h : ¬ kc l < l.length) : hd l = l := by unfold hd; exact List.take_of_length_le (by omega)
theorem hd_len (l : List UInt8) : (hd l).length ≤ l.length := by unfold hd; rw [List.length_take]; omega

set_option maxHeartbeats 2000000 in
theorem fig_Read_A1 (l : List UInt8) (hl : l.length ≤ 1000) (hk : kc l < l.length) (hb : 0 ≤ wrongI (restOf (hd l))) (w : World) :
    Calls Tryz.prog 16 #[.string ⟨l.toArray⟩] w (FgOut 0 1 (wrongI (restOf (hd l)) + (((hd l).length : Int) - ((restOf (hd l)).length : Int))) w) := by
  have hlh := hd_len l
  have HIX := Asd.mk (fig_index l (by omega))
  rw [cut_yes hk] at HIX
  have hsl := sl_to l (kc l) (by omega)
  rw [show l.take (kc l) = hd l from rfl] at hsl
  have HWR := Asd.mk (whole_Read_no (hd l) (by omega) hb)
  have H0 := Asd.mk (frac_Of 0 (by decide) (by decide))
  rw [show ((0 : Int) : Rat) = 0 from rfl] at H0
  generalize wrongI (restOf (hd l)) + (((hd l).length : Int) - ((restOf (hd l)).length : Int)) = v at *
  generalize hl0 : hd l = h0 at *
  go_enter Tryz.func16, Tryz.ntmps16
  go_wp2_with fail
  have XR0 := (Blk.new w [.bool false, .slice none 0 0, .slice none 0 0] 30).alloc (.cells #[.int .i64 0, .int .i64 0, .int .i64 0, .int .i64 0] 35)
  have XF0 := Blk.new (w.alloc (.cells #[.bool false, .slice none 0 0, .slice none 0 0] 30)) [.int .i64 0, .int .i64 0, .int .i64 0, .int .i64 0] 35
  have hb0 := (((Below.refl w.heap.size w).alloc (Nat.le_refl _) (.cells #[.bool false, .slice none 0 0, .slice none 0 0] 30)).alloc (by simp) (.cells #[.int .i64 0, .int .i64 0, .int .i64 0, .int .i64 0] 35))
  simp only [World.size_alloc] at XF0
  generalize (w.alloc (.cells #[.bool false, .slice none 0 0, .slice none 0 0] 30)).alloc (.cells #[.int .i64 0, .int .i64 0, .int .i64 0, .int .i64 0] 35) = W at *
  have XR := XR0; have XF := XF0; have hB := hb0; have hlt := XF0.lt
  clear XR0 XF0 hb0
  have cXR0 := XR.c 0 rfl; have cXR1 := XR.c 1 rfl; have cXR2 := XR.c 2 rfl; have cXF0 := XF.c 0 rfl; have cXF1 := XF.c 1 rfl; have cXF2 := XF.c 2 rfl; have cXF3 := XF.c 3 rfl
  refine (HIX.out W).mono ?_
  rintro e w1 ⟨rfl, hb1⟩
  have hsz1 := hb1.size
  replace XR := XR.below hb1; replace XF := XF.below hb1; replace cXR0 := XR.c 0 rfl; replace cXR1 := XR.c 1 rfl; replace cXR2 := XR.c 2 rfl; replace cXF0 := XF.c 0 rfl; replace cXF1 := XF.c 1 rfl; replace cXF2 := XF.c 2 rfl; replace cXF3 := XF.c 3 rfl; replace hB := below_go hB hb1
  go_wp2_with fail
  refine (HWR.out _).mono ?_
  rintro e w2 ⟨rfl, hb1⟩
  have hsz2 := hb1.size
  replace XR := XR.below hb1; replace XF := XF.below hb1; replace cXR0 := XR.c 0 rfl; replace cXR1 := XR.c 1 rfl; replace cXR2 := XR.c 2 rfl; replace cXF0 := XF.c 0 rfl; replace cXF1 := XF.c 1 rfl; replace cXF2 := XF.c 2 rfl; replace cXF3 := XF.c 3 rfl; replace hB := below_go hB hb1
  have N1 := (Blk.new w2 [.bool false, .slice none 0 0] 28).alloc (.cells #[.int .i64 1, .int .i64 0, .int .i64 0, .int .i64 v] 35)
  have N2 := Blk.new (w2.alloc (.cells #[.bool false, .slice none 0 0] 28)) [.int .i64 1, .int .i64 0, .int .i64 0, .int .i64 v] 35
  rw [World.size_alloc] at N2
  replace XR := (XR.alloc (.cells #[.bool false, .slice none 0 0] 28)).alloc (.cells #[.int .i64 1, .int .i64 0, .int .i64 0, .int .i64 v] 35)
  replace XF := (XF.alloc (.cells #[.bool false, .slice none 0 0] 28)).alloc (.cells #[.int .i64 1, .int .i64 0, .int .i64 0, .int .i64 v] 35)
  replace hB := (hB.alloc hB.size (.cells #[.bool false, .slice none 0 0] 28)).alloc (by have := hB.size; rw [World.size_alloc]; omega) (.cells #[.int .i64 1, .int .i64 0, .int .i64 0, .int .i64 v] 35)
  have hW2 : ((w2.alloc (.cells #[.bool false, .slice none 0 0] 28)).alloc (.cells #[.int .i64 1, .int .i64 0, .int .i64 0, .int .i64 v] 35)).heap.size = w2.heap.size + 2 := by rw [World.size_alloc, World.size_alloc]
  replace cXR0 := XR.c 0 rfl
  replace cXR1 := XR.c 1 rfl
  replace cXR2 := XR.c 2 rfl
  replace cXF0 := XF.c 0 rfl
  replace cXF1 := XF.c 1 rfl
  replace cXF2 := XF.c 2 rfl
  replace cXF3 := XF.c 3 rfl
  have cN10 := N1.c 0 rfl; have cN11 := N1.c 1 rfl
  have cN20 := N2.c 0 rfl; have cN21 := N2.c 1 rfl; have cN22 := N2.c 2 rfl; have cN23 := N2.c 3 rfl
  go_wp2_with fail
  generalize (w2.alloc (.cells #[.bool false, .slice none 0 0] 28)).alloc (.cells #[.int .i64 1, .int .i64 0, .int .i64 0, .int .i64 v] 35) = V2 at *
  have n1 : ¬ w2.heap.size + 1 = w.heap.size := by omega
  have n2 : ¬ w2.heap.size + 1 = w.heap.size + 1 := by omega
  have n3 : ¬ w.heap.size = w2.heap.size + 1 := by omega
  have n4 : ¬ w.heap.size + 1 = w2.heap.size + 1 := by omega
  clear N1 cN10 cN11
  replace XR := XR.drew; replace XF := XF.drew; replace N2 := N2.drew; replace hB := below_drewN hB 1; replace cXR0 := XR.c 0 rfl; replace cXR1 := XR.c 1 rfl; replace cXR2 := XR.c 2 rfl; replace cXF0 := XF.c 0 rfl; replace cXF1 := XF.c 1 rfl; replace cXF2 := XF.c 2 rfl; replace cXF3 := XF.c 3 rfl; replace cN20 := N2.c 0 rfl; replace cN21 := N2.c 1 rfl; replace cN22 := N2.c 2 rfl; replace cN23 := N2.c 3 rfl
  have hgd : V2.drew.heap.size = V2.heap.size := rfl
  go_region_with
    (first
      | (go_at_call 25; refine (H0.out _).mono ?_; rintro e w3 hfo; obtain ⟨y, rfl, hq, hR, hok, hb1⟩ := hfo.rf (sz_zero.mono (by decide)); replace XR := XR.below hb1; replace XF := XF.below hb1; replace N2 := N2.below hb1; replace cXR0 := XR.c 0 rfl; replace cXR1 := XR.c 1 rfl; replace cXR2 := XR.c 2 rfl; replace cXF0 := XF.c 0 rfl; replace cXF1 := XF.c 1 rfl; replace cXF2 := XF.c 2 rfl; replace cXF3 := XF.c 3 rfl; replace cN20 := N2.c 0 rfl; replace cN21 := N2.c 1 rfl; replace cN22 := N2.c 2 rfl; replace cN23 := N2.c 3 rfl; replace hB := below_go hB hb1; have hs2 := hb1.size; have rf := XR.f; have rl := XR.lt; have ff := XF.f; have fl := XF.lt))
  all_goals go_wp2
  all_goals
    refine bodyPost_ret (ret_blk2 rfl rfl rfl (((((((XR.set 0 _).set 1 _).set 2 _).far (by simp) _).far (by simp) _).far (by simp) _).far (by simp) _) (((((((XF.far (by simp) _).far (by simp) _).far (by simp) _).set 0 _).set 1 _).set 2 _).set 3 _) Tryz.underlying30 (by kernel_rfl) Tryz.underlying35 (by kernel_rfl)) rfl ?_
    exact ⟨y, rfl, hq, hR, (((((((hok.setCell (by simp <;> omega) _).setCell (by simp <;> omega) _).setCell (by simp <;> omega) _).setCell (by simp <;> omega) _).setCell (by simp <;> omega) _).setCell (by simp <;> omega) _).setCell (by simp <;> omega) _).mono (fun k _ hk => by omega), (((((((hB.setCell (by simp <;> omega) _).setCell (by simp <;> omega) _).setCell (by simp <;> omega) _).setCell (by simp <;> omega) _).setCell (by simp <;> omega) _).setCell (by simp <;> omega) _).setCell (by simp <;> omega) _)⟩

set_option maxHeartbeats 2000000 in
theorem fig_Read_A2 (l : List UInt8) (hl : l.length ≤ 1000) (hk : ¬ kc l < l.length) (hb : 0 ≤ wrongI (restOf (hd l))) (w : World) :
    Calls Tryz.prog 16 #[.string ⟨l.toArray⟩] w (FgOut 0 1 (wrongI (restOf (hd l)) + (((hd l).length : Int) - ((restOf (hd l)).length : Int))) w) := by
  have hlh := hd_len l
  have HIX := Asd.mk (fig_index l (by omega))
  rw [cut_no hk] at HIX
  have HWR := Asd.mk (whole_Read_no (hd l) (by omega) hb)
  have H0 := Asd.mk (frac_Of 0 (by decide) (by decide))
  rw [show ((0 : Int) : Rat) = 0 from rfl] at H0
  generalize wrongI (restOf (hd l)) + (((hd l).length : Int) - ((restOf (hd l)).length : Int)) = v at *
  rw [hd_no hk] at *
  go_enter Tryz.func16, Tryz.ntmps16
  go_wp2_with fail
  have XR0 := (Blk.new w [.bool false, .slice none 0 0, .slice none 0 0] 30).alloc (.cells #[.int .i64 0, .int .i64 0, .int .i64 0, .int .i64 0] 35)
  have XF0 := Blk.new (w.alloc (.cells #[.bool false, .slice none 0 0, .slice none 0 0] 30)) [.int .i64 0, .int .i64 0, .int .i64 0, .int .i64 0] 35
  have hb0 := (((Below.refl w.heap.size w).alloc (Nat.le_refl _) (.cells #[.bool false, .slice none 0 0, .slice none 0 0] 30)).alloc (by simp) (.cells #[.int .i64 0, .int .i64 0, .int .i64 0, .int .i64 0] 35))
  simp only [World.size_alloc] at XF0
  generalize (w.alloc (.cells #[.bool false, .slice none 0 0, .slice none 0 0] 30)).alloc (.cells #[.int .i64 0, .int .i64 0, .int .i64 0, .int .i64 0] 35) = W at *
  have XR := XR0; have XF := XF0; have hB := hb0; have hlt := XF0.lt
  clear XR0 XF0 hb0
  have cXR0 := XR.c 0 rfl; have cXR1 := XR.c 1 rfl; have cXR2 := XR.c 2 rfl; have cXF0 := XF.c 0 rfl; have cXF1 := XF.c 1 rfl; have cXF2 := XF.c 2 rfl; have cXF3 := XF.c 3 rfl
  refine (HIX.out W).mono ?_
  rintro e w1 ⟨rfl, hb1⟩
  have hsz1 := hb1.size
  replace XR := XR.below hb1; replace XF := XF.below hb1; replace cXR0 := XR.c 0 rfl; replace cXR1 := XR.c 1 rfl; replace cXR2 := XR.c 2 rfl; replace cXF0 := XF.c 0 rfl; replace cXF1 := XF.c 1 rfl; replace cXF2 := XF.c 2 rfl; replace cXF3 := XF.c 3 rfl; replace hB := below_go hB hb1
  go_wp2_with fail
  refine (HWR.out _).mono ?_
  rintro e w2 ⟨rfl, hb1⟩
  have hsz2 := hb1.size
  replace XR := XR.below hb1; replace XF := XF.below hb1; replace cXR0 := XR.c 0 rfl; replace cXR1 := XR.c 1 rfl; replace cXR2 := XR.c 2 rfl; replace cXF0 := XF.c 0 rfl; replace cXF1 := XF.c 1 rfl; replace cXF2 := XF.c 2 rfl; replace cXF3 := XF.c 3 rfl; replace hB := below_go hB hb1
  have N1 := (Blk.new w2 [.bool false, .slice none 0 0] 28).alloc (.cells #[.int .i64 1, .int .i64 0, .int .i64 0, .int .i64 v] 35)
  have N2 := Blk.new (w2.alloc (.cells #[.bool false, .slice none 0 0] 28)) [.int .i64 1, .int .i64 0, .int .i64 0, .int .i64 v] 35
  rw [World.size_alloc] at N2
  replace XR := (XR.alloc (.cells #[.bool false, .slice none 0 0] 28)).alloc (.cells #[.int .i64 1, .int .i64 0, .int .i64 0, .int .i64 v] 35)
  replace XF := (XF.alloc (.cells #[.bool false, .slice none 0 0] 28)).alloc (.cells #[.int .i64 1, .int .i64 0, .int .i64 0, .int .i64 v] 35)
  replace hB := (hB.alloc hB.size (.cells #[.bool false, .slice none 0 0] 28)).alloc (by have := hB.size; rw [World.size_alloc]; omega) (.cells #[.int .i64 1, .int .i64 0, .int .i64 0, .int .i64 v] 35)
  have hW2 : ((w2.alloc (.cells #[.bool false, .slice none 0 0] 28)).alloc (.cells #[.int .i64 1, .int .i64 0, .int .i64 0, .int .i64 v] 35)).heap.size = w2.heap.size + 2 := by rw [World.size_alloc, World.size_alloc]
  replace cXR0 := XR.c 0 rfl
  replace cXR1 := XR.c 1 rfl
  replace cXR2 := XR.c 2 rfl
  replace cXF0 := XF.c 0 rfl
  replace cXF1 := XF.c 1 rfl
  replace cXF2 := XF.c 2 rfl
  replace cXF3 := XF.c 3 rfl
  have cN10 := N1.c 0 rfl; have cN11 := N1.c 1 rfl
  have cN20 := N2.c 0 rfl; have cN21 := N2.c 1 rfl; have cN22 := N2.c 2 rfl; have cN23 := N2.c 3 rfl
  go_wp2_with fail
  generalize (w2.alloc (.cells #[.bool false, .slice none 0 0] 28)).alloc (.cells #[.int .i64 1, .int .i64 0, .int .i64 0, .int .i64 v] 35) = V2 at *
  have n1 : ¬ w2.heap.size + 1 = w.heap.size := by omega
  have n2 : ¬ w2.heap.size + 1 = w.heap.size + 1 := by omega
  have n3 : ¬ w.heap.size = w2.heap.size + 1 := by omega
  have n4 : ¬ w.heap.size + 1 = w2.heap.size + 1 := by omega
  clear N1 cN10 cN11
  replace XR := XR.drew; replace XF := XF.drew; replace N2 := N2.drew; replace hB := below_drewN hB 1; replace cXR0 := XR.c 0 rfl; replace cXR1 := XR.c 1 rfl; replace cXR2 := XR.c 2 rfl; replace cXF0 := XF.c 0 rfl; replace cXF1 := XF.c 1 rfl; replace cXF2 := XF.c 2 rfl; replace cXF3 := XF.c 3 rfl; replace cN20 := N2.c 0 rfl; replace cN21 := N2.c 1 rfl; replace cN22 := N2.c 2 rfl; replace cN23 := N2.c 3 rfl
  have hgd : V2.drew.heap.size = V2.heap.size := rfl
  go_region_with
    (first
      | (go_at_call 25; refine (H0.out _).mono ?_; rintro e w3 hfo; obtain ⟨y, rfl, hq, hR, hok, hb1⟩ := hfo.rf (sz_zero.mono (by decide)); replace XR := XR.below hb1; replace XF := XF.below hb1; replace N2 := N2.below hb1; replace cXR0 := XR.c 0 rfl; replace cXR1 := XR.c 1 rfl; replace cXR2 := XR.c 2 rfl; replace cXF0 := XF.c 0 rfl; replace cXF1 := XF.c 1 rfl; replace cXF2 := XF.c 2 rfl; replace cXF3 := XF.c 3 rfl; replace cN20 := N2.c 0 rfl; replace cN21 := N2.c 1 rfl; replace cN22 := N2.c 2 rfl; replace cN23 := N2.c 3 rfl; replace hB := below_go hB hb1; have hs2 := hb1.size; have rf := XR.f; have rl := XR.lt; have ff := XF.f; have fl := XF.lt))
  all_goals go_wp2
  all_goals
    refine bodyPost_ret (ret_blk2 rfl rfl rfl (((((((XR.set 0 _).set 1 _).set 2 _).far (by simp) _).far (by simp) _).far (by simp) _).far (by simp) _) (((((((XF.far (by simp) _).far (by simp) _).far (by simp) _).set 0 _).set 1 _).set 2 _).set 3 _) Tryz.underlying30 (by kernel_rfl) Tryz.underlying35 (by kernel_rfl)) rfl ?_
    exact ⟨y, rfl, hq, hR, (((((((hok.setCell (by simp <;> omega) _).setCell (by simp <;> omega) _).setCell (by simp <;> omega) _).setCell (by simp <;> omega) _).setCell (by simp <;> omega) _).setCell (by simp <;> omega) _).setCell (by simp <;> omega) _).mono (fun k _ hk => by omega), (((((((hB.setCell (by simp <;> omega) _).setCell (by simp <;> omega) _).setCell (by simp <;> omega) _).setCell (by simp <;> omega) _).setCell (by simp <;> omega) _).setCell (by simp <;> omega) _).setCell (by simp <;> omega) _)⟩

set_option maxHeartbeats 2000000 in
theorem fig_Read_B (l : List UInt8) (hl : l.length ≤ 1000) (hk : ¬ kc l < l.length) (hb : wrongI (restOf (hd l)) < 0) (w : World) :
    Calls Tryz.prog 16 #[.string ⟨l.toArray⟩] w (FgOut ((readV (hd l) : Int) : Rat) 0 0 w) := by
  have hlh := hd_len l
  have HIX := Asd.mk (fig_index l (by omega))
  rw [cut_no hk] at HIX
  have HWR := Asd.mk (whole_Read (hd l) (by omega) hb)
  have hdg := digs_of_wrong hb
  have HRL : Asd ((mag (readV (hd l))).length ≤ 60 ∧ zv (ng (readV (hd l))) (mag (readV (hd l))) = readV (hd l)) := ⟨by
    refine Nat.le_trans (rep_length_le ?_) hdg.2.2
    have h1 := decV_lt_pw hdg.1
    have h2 := (decV_bd hdg.1).1
    unfold readV
    split <;> omega, zv_mag _⟩
  rw [hd_no hk] at *
  go_enter Tryz.func16, Tryz.ntmps16
  go_wp2_with fail
  have XR0 := (Blk.new w [.bool false, .slice none 0 0, .slice none 0 0] 30).alloc (.cells #[.int .i64 0, .int .i64 0, .int .i64 0, .int .i64 0] 35)
  have XF0 := Blk.new (w.alloc (.cells #[.bool false, .slice none 0 0, .slice none 0 0] 30)) [.int .i64 0, .int .i64 0, .int .i64 0, .int .i64 0] 35
  have hb0 := (((Below.refl w.heap.size w).alloc (Nat.le_refl _) (.cells #[.bool false, .slice none 0 0, .slice none 0 0] 30)).alloc (by simp) (.cells #[.int .i64 0, .int .i64 0, .int .i64 0, .int .i64 0] 35))
  simp only [World.size_alloc] at XF0
  generalize (w.alloc (.cells #[.bool false, .slice none 0 0, .slice none 0 0] 30)).alloc (.cells #[.int .i64 0, .int .i64 0, .int .i64 0, .int .i64 0] 35) = W at *
  have XR := XR0; have XF := XF0; have hB := hb0; have hlt := XF0.lt
  clear XR0 XF0 hb0
  have cXR0 := XR.c 0 rfl; have cXR1 := XR.c 1 rfl; have cXR2 := XR.c 2 rfl; have cXF0 := XF.c 0 rfl; have cXF1 := XF.c 1 rfl; have cXF2 := XF.c 2 rfl; have cXF3 := XF.c 3 rfl
  refine (HIX.out W).mono ?_
  rintro e w1 ⟨rfl, hb1⟩
  have hsz1 := hb1.size
  replace XR := XR.below hb1; replace XF := XF.below hb1; replace cXR0 := XR.c 0 rfl; replace cXR1 := XR.c 1 rfl; replace cXR2 := XR.c 2 rfl; replace cXF0 := XF.c 0 rfl; replace cXF1 := XF.c 1 rfl; replace cXF2 := XF.c 2 rfl; replace cXF3 := XF.c 3 rfl; replace hB := below_go hB hb1
  go_wp2_with fail
  refine (HWR.out _).mono ?_
  rintro e w2 ⟨A, c, rfl, hc, hra, hb1⟩
  have hsz2 := hb1.size
  replace XR := XR.below hb1; replace XF := XF.below hb1; replace cXR0 := XR.c 0 rfl; replace cXR1 := XR.c 1 rfl; replace cXR2 := XR.c 2 rfl; replace cXF0 := XF.c 0 rfl; replace cXF1 := XF.c 1 rfl; replace cXF2 := XF.c 2 rfl; replace cXF3 := XF.c 3 rfl; replace hB := below_go hB hb1
  have N1 := (Blk.new w2 [.bool (ng (readV l)), .slice A (mag (readV l)).length c] 28).alloc (.cells #[.int .i64 0, .int .i64 0, .int .i64 0, .int .i64 0] 35)
  have N2 := Blk.new (w2.alloc (.cells #[.bool (ng (readV l)), .slice A (mag (readV l)).length c] 28)) [.int .i64 0, .int .i64 0, .int .i64 0, .int .i64 0] 35
  rw [World.size_alloc] at N2
  replace XR := (XR.alloc (.cells #[.bool (ng (readV l)), .slice A (mag (readV l)).length c] 28)).alloc (.cells #[.int .i64 0, .int .i64 0, .int .i64 0, .int .i64 0] 35)
  replace XF := (XF.alloc (.cells #[.bool (ng (readV l)), .slice A (mag (readV l)).length c] 28)).alloc (.cells #[.int .i64 0, .int .i64 0, .int .i64 0, .int .i64 0] 35)
  replace hra := (hra.alloc (.cells #[.bool (ng (readV l)), .slice A (mag (readV l)).length c] 28)).alloc (.cells #[.int .i64 0, .int .i64 0, .int .i64 0, .int .i64 0] 35)
  replace hB := (hB.alloc hB.size (.cells #[.bool (ng (readV l)), .slice A (mag (readV l)).length c] 28)).alloc (by have := hB.size; rw [World.size_alloc]; omega) (.cells #[.int .i64 0, .int .i64 0, .int .i64 0, .int .i64 0] 35)
  have hW2 : ((w2.alloc (.cells #[.bool (ng (readV l)), .slice A (mag (readV l)).length c] 28)).alloc (.cells #[.int .i64 0, .int .i64 0, .int .i64 0, .int .i64 0] 35)).heap.size = w2.heap.size + 2 := by rw [World.size_alloc, World.size_alloc]
  replace cXR0 := XR.c 0 rfl
  replace cXR1 := XR.c 1 rfl
  replace cXR2 := XR.c 2 rfl
  replace cXF0 := XF.c 0 rfl
  replace cXF1 := XF.c 1 rfl
  replace cXF2 := XF.c 2 rfl
  replace cXF3 := XF.c 3 rfl
  have cN10 := N1.c 0 rfl; have cN11 := N1.c 1 rfl
  have cN20 := N2.c 0 rfl; have cN21 := N2.c 1 rfl; have cN22 := N2.c 2 rfl; have cN23 := N2.c 3 rfl
  go_wp2_with fail
  generalize (w2.alloc (.cells #[.bool (ng (readV l)), .slice A (mag (readV l)).length c] 28)).alloc (.cells #[.int .i64 0, .int .i64 0, .int .i64 0, .int .i64 0] 35) = V2 at *
  have HNEW : Asd (∀ (T : Option Addr) (t : Nat) (W : World), Rd (fun _ => True) W A (mag (readV l)) → Rd (fun _ => True) W T (rep 1) → (rep 1).length ≤ t → Calls Tryz.prog 64 #[.agg #[.bool (ng (readV l)), .slice A (mag (readV l)).length c], .slice T (rep 1).length t] W (RfOut2 ((readV l : Int) : Rat) true W)) := ⟨fun T t W r1 r2 ht => by
    have hm := (frac_New _ (ng (readV l)) A c (mag (readV l)) _ T t (rep 1) W r1 hc r2 ht (by have := HRL.out.1; omega) (by rw [rep_word (by decide) (by decide)]; decide) (by rw [val_rep (by decide)]; decide))
    rw [val_rep (by decide), HRL.out.2] at hm
    refine hm.mono ?_
    intro e w' h
    have := h.rf ((sz_dv (k := 60) (by decide) HRL.out.1 (by rw [rep_word (by decide) (by decide)]; decide)).mono (by decide))
    rwa [← rat_int] at this⟩
  have HOF := Asd.mk (nat_Of 1 (by decide) (by decide))
  generalize rep 1 = one at *
  generalize ((readV l : Int) : Rat) = q at *
  have n1 : ¬ w2.heap.size = w.heap.size := by omega
  have n2 : ¬ w2.heap.size = w.heap.size + 1 := by omega
  have n3 : ¬ w.heap.size = w2.heap.size := by omega
  have n4 : ¬ w.heap.size + 1 = w2.heap.size := by omega
  clear N2 cN20 cN21 cN22 cN23
  replace XR := XR.drew; replace XF := XF.drew; replace N1 := N1.drew; replace hra := hra.drew; replace hB := below_drewN hB 1; replace cXR0 := XR.c 0 rfl; replace cXR1 := XR.c 1 rfl; replace cXR2 := XR.c 2 rfl; replace cXF0 := XF.c 0 rfl; replace cXF1 := XF.c 1 rfl; replace cXF2 := XF.c 2 rfl; replace cXF3 := XF.c 3 rfl; replace cN10 := N1.c 0 rfl; replace cN11 := N1.c 1 rfl
  have hgd : V2.drew.heap.size = V2.heap.size := rfl
  have aV20 : ¬ V2.heap.size = w.heap.size := (by omega)
  have aV21 : ¬ V2.heap.size = w.heap.size + 1 := (by omega)
  have aV22 : ¬ V2.heap.size = w2.heap.size := (by omega)
  have bV20 : ¬ w.heap.size = V2.heap.size := (by omega)
  have bV21 : ¬ w.heap.size + 1 = V2.heap.size := (by omega)
  have bV22 : ¬ w2.heap.size = V2.heap.size := (by omega)
  have HSZ : Asd (w.heap.size + 1 < w2.heap.size ∧ w2.heap.size + 1 < V2.heap.size) := ⟨by omega, by omega⟩
  have hl3 := XR.lt; have hl4 := XF.lt; have hl5 := N1.lt
  have hl6 : w2.heap.size < V2.heap.size := by omega
  have hl7 : w.heap.size < V2.heap.size := by omega
  have hl8 : w.heap.size + 1 < V2.heap.size := by omega
  clear hW2
  have dN10 : (V2.alloc (.cells #[.bool false, .slice none 0 0, .slice none 0 0] 30)).drew.cell? ⟨w2.heap.size, 0, none⟩ = _ := (N1.alloc (.cells #[.bool false, .slice none 0 0, .slice none 0 0] 30)).c 0 rfl; have dN11 : (V2.alloc (.cells #[.bool false, .slice none 0 0, .slice none 0 0] 30)).drew.cell? ⟨w2.heap.size, 1, none⟩ = _ := (N1.alloc (.cells #[.bool false, .slice none 0 0, .slice none 0 0] 30)).c 1 rfl
  go_region_with
    (first
      | (go_at_call 65; refine (HOF.out _).mono ?_; rintro e w3 ⟨T, t, rfl, ht, hrt0, hb0⟩; have hb1 : Below V2.drew.heap.size V2.drew w3 := (by first | exact hb0 | exact below_go ((Below.refl V2.drew.heap.size V2.drew).alloc (Nat.le_refl _) (.cells #[.bool false, .slice none 0 0, .slice none 0 0] 30)) hb0); (try have L1 : Blk w3 V2.heap.size [.bool false, .slice none 0 0, .slice none 0 0] := (Blk.new V2.drew [.bool false, .slice none 0 0, .slice none 0 0] 30).below (w1 := w3) hb0); (try have l10 := L1.c 0 rfl); (try have l11 := L1.c 1 rfl); (try have l12 := L1.c 2 rfl); (try have l1f := L1.f); (try have l1l := L1.lt); have hrt : Rd (fun _ => True) w3 T one := hrt0.mono (fun _ _ _ => trivial); replace XR := XR.below hb1; replace XF := XF.below hb1; replace N1 := N1.below hb1; replace hra := hra.below hb1; replace cXR0 := XR.c 0 rfl; replace cXR1 := XR.c 1 rfl; replace cXR2 := XR.c 2 rfl; replace cXF0 := XF.c 0 rfl; replace cXF1 := XF.c 1 rfl; replace cXF2 := XF.c 2 rfl; replace cXF3 := XF.c 3 rfl; replace cN10 := N1.c 0 rfl; replace cN11 := N1.c 1 rfl; replace hB := below_go hB hb1; have hs3 : V2.heap.size ≤ w3.heap.size := hb1.size; have hz3 := HSZ.out; have eN10 := (N1.alloc (.cells #[.bool false, .slice none 0 0, .slice none 0 0] 30)).c 0 rfl; have eN11 := (N1.alloc (.cells #[.bool false, .slice none 0 0, .slice none 0 0] 30)).c 1 rfl; have hm3 := XR.lt; have hm4 := XF.lt; have hm5 := N1.lt; have aw30 : ¬ w3.heap.size = w.heap.size := (by omega); have aw31 : ¬ w3.heap.size = w.heap.size + 1 := (by omega); have aw32 : ¬ w3.heap.size = w2.heap.size := (by omega); have bw30 : ¬ w.heap.size = w3.heap.size := (by omega); have bw31 : ¬ w.heap.size + 1 = w3.heap.size := (by omega); have bw32 : ¬ w2.heap.size = w3.heap.size := (by omega))
      | (go_at_call 64; refine (HNEW.out T t _ ?_ ?_ ht).mono ?_; (first | exact hra.mono (fun _ _ _ => trivial) | exact (hra.alloc _).mono (fun _ _ _ => trivial)); (first | exact hrt | exact hrt.alloc _); rintro e w4 ⟨y, rfl, hq, hR, hok, hb0⟩; have hb1 : Below w3.heap.size w3 w4 := (by first | exact hb0 | exact below_go ((Below.refl _ _).alloc (Nat.le_refl _) _) hb0); (try have L2 := (Blk.new w3 [.bool false, .slice none 0 0, .slice none 0 0] 30).below hb0); (try have L2 := L1.below hb0); (try have l20 := L2.c 0 rfl); (try have l21 := L2.c 1 rfl); (try have l22 := L2.c 2 rfl); (try have l2f := L2.f); (try have l2l := L2.lt); replace XR := XR.below hb1; replace XF := XF.below hb1; replace N1 := N1.below hb1; replace hra := hra.below hb1; replace cXR0 := XR.c 0 rfl; replace cXR1 := XR.c 1 rfl; replace cXR2 := XR.c 2 rfl; replace cXF0 := XF.c 0 rfl; replace cXF1 := XF.c 1 rfl; replace cXF2 := XF.c 2 rfl; replace cXF3 := XF.c 3 rfl; replace cN10 := N1.c 0 rfl; replace cN11 := N1.c 1 rfl; replace hB := below_go hB hb1; have hs4 := hb1.size; have hk5 := N1.lt; have rf := XR.f; have rl := XR.lt; have ff := XF.f; have fl := XF.lt))
  all_goals have hz4 := HSZ.out
  all_goals first
    | (have XL : Blk (((w4.setCell ⟨w3.heap.size, 0, none⟩ (.bool y.n)).setCell ⟨w3.heap.size, 1, none⟩ (.slice y.A y.l.length y.c)).setCell ⟨w3.heap.size, 2, none⟩ (.slice y.A' y.d.length y.c')) (w3.heap.size) [.bool y.n, .slice y.A y.l.length y.c, .slice y.A' y.d.length y.c'] := ((L2.set 0 _).set 1 _).set 2 _
       have e1 : ¬ w3.heap.size = w.heap.size := by omega
       have e2 : ¬ w3.heap.size = w.heap.size + 1 := by omega
       have e3 : ¬ w.heap.size = w3.heap.size := by omega
       have e4 : ¬ w.heap.size + 1 = w3.heap.size := by omega
       have YR : Blk (((w4.setCell ⟨w3.heap.size, 0, none⟩ (.bool y.n)).setCell ⟨w3.heap.size, 1, none⟩ (.slice y.A y.l.length y.c)).setCell ⟨w3.heap.size, 2, none⟩ (.slice y.A' y.d.length y.c')) _ _ := ((XR.far (by first | (simp; done) | (simp; omega) | omega) _).far (by first | (simp; done) | (simp; omega) | omega) _).far (by first | (simp; done) | (simp; omega) | omega) _
       have YF : Blk (((w4.setCell ⟨w3.heap.size, 0, none⟩ (.bool y.n)).setCell ⟨w3.heap.size, 1, none⟩ (.slice y.A y.l.length y.c)).setCell ⟨w3.heap.size, 2, none⟩ (.slice y.A' y.d.length y.c')) _ _ := ((XF.far (by first | (simp; done) | (simp; omega) | omega) _).far (by first | (simp; done) | (simp; omega) | omega) _).far (by first | (simp; done) | (simp; omega) | omega) _
       have ho : RF.ok _ (((w4.setCell ⟨w3.heap.size, 0, none⟩ (.bool y.n)).setCell ⟨w3.heap.size, 1, none⟩ (.slice y.A y.l.length y.c)).setCell ⟨w3.heap.size, 2, none⟩ (.slice y.A' y.d.length y.c')) _ := (RF.ok.mono (ok' := fun k => k ≠ (w3.heap.size) ∧ w.heap.size + 2 ≤ k) hok (fun k _ hk => by first | omega | (simp at hk; omega))).setCell (by first | (simp; done) | (simp; omega) | omega) _ |>.setCell (by first | (simp; done) | (simp; omega) | omega) _ |>.setCell (by first | (simp; done) | (simp; omega) | omega) _
       have hB2 : Below _ _ (((w4.setCell ⟨w3.heap.size, 0, none⟩ (.bool y.n)).setCell ⟨w3.heap.size, 1, none⟩ (.slice y.A y.l.length y.c)).setCell ⟨w3.heap.size, 2, none⟩ (.slice y.A' y.d.length y.c')) := ((hB.setCell (by first | (simp; done) | (simp; omega) | omega) _).setCell (by first | (simp; done) | (simp; omega) | omega) _).setCell (by first | (simp; done) | (simp; omega) | omega) _
       generalize ((w4.setCell ⟨w3.heap.size, 0, none⟩ (.bool y.n)).setCell ⟨w3.heap.size, 1, none⟩ (.slice y.A y.l.length y.c)).setCell ⟨w3.heap.size, 2, none⟩ (.slice y.A' y.d.length y.c') = WZ at XL YR YF ho hB2 ⊢
       generalize w3.heap.size = bl at XL e1 e2 e3 e4 ⊢)
    | (have XL : Blk (((w4.setCell ⟨V2.heap.size, 0, none⟩ (.bool y.n)).setCell ⟨V2.heap.size, 1, none⟩ (.slice y.A y.l.length y.c)).setCell ⟨V2.heap.size, 2, none⟩ (.slice y.A' y.d.length y.c')) (V2.heap.size) [.bool y.n, .slice y.A y.l.length y.c, .slice y.A' y.d.length y.c'] := ((L2.set 0 _).set 1 _).set 2 _
       have e1 : ¬ V2.heap.size = w.heap.size := by omega
       have e2 : ¬ V2.heap.size = w.heap.size + 1 := by omega
       have e3 : ¬ w.heap.size = V2.heap.size := by omega
       have e4 : ¬ w.heap.size + 1 = V2.heap.size := by omega
       have YR : Blk (((w4.setCell ⟨V2.heap.size, 0, none⟩ (.bool y.n)).setCell ⟨V2.heap.size, 1, none⟩ (.slice y.A y.l.length y.c)).setCell ⟨V2.heap.size, 2, none⟩ (.slice y.A' y.d.length y.c')) _ _ := ((XR.far (by first | (simp; done) | (simp; omega) | omega) _).far (by first | (simp; done) | (simp; omega) | omega) _).far (by first | (simp; done) | (simp; omega) | omega) _
       have YF : Blk (((w4.setCell ⟨V2.heap.size, 0, none⟩ (.bool y.n)).setCell ⟨V2.heap.size, 1, none⟩ (.slice y.A y.l.length y.c)).setCell ⟨V2.heap.size, 2, none⟩ (.slice y.A' y.d.length y.c')) _ _ := ((XF.far (by first | (simp; done) | (simp; omega) | omega) _).far (by first | (simp; done) | (simp; omega) | omega) _).far (by first | (simp; done) | (simp; omega) | omega) _
       have ho : RF.ok _ (((w4.setCell ⟨V2.heap.size, 0, none⟩ (.bool y.n)).setCell ⟨V2.heap.size, 1, none⟩ (.slice y.A y.l.length y.c)).setCell ⟨V2.heap.size, 2, none⟩ (.slice y.A' y.d.length y.c')) _ := (RF.ok.mono (ok' := fun k => k ≠ (V2.heap.size) ∧ w.heap.size + 2 ≤ k) hok (fun k _ hk => by first | omega | (simp at hk; omega))).setCell (by first | (simp; done) | (simp; omega) | omega) _ |>.setCell (by first | (simp; done) | (simp; omega) | omega) _ |>.setCell (by first | (simp; done) | (simp; omega) | omega) _
       have hB2 : Below _ _ (((w4.setCell ⟨V2.heap.size, 0, none⟩ (.bool y.n)).setCell ⟨V2.heap.size, 1, none⟩ (.slice y.A y.l.length y.c)).setCell ⟨V2.heap.size, 2, none⟩ (.slice y.A' y.d.length y.c')) := ((hB.setCell (by first | (simp; done) | (simp; omega) | omega) _).setCell (by first | (simp; done) | (simp; omega) | omega) _).setCell (by first | (simp; done) | (simp; omega) | omega) _
       generalize ((w4.setCell ⟨V2.heap.size, 0, none⟩ (.bool y.n)).setCell ⟨V2.heap.size, 1, none⟩ (.slice y.A y.l.length y.c)).setCell ⟨V2.heap.size, 2, none⟩ (.slice y.A' y.d.length y.c') = WZ at XL YR YF ho hB2 ⊢
       generalize V2.heap.size = bl at XL e1 e2 e3 e4 ⊢)
    | (have XL := Blk.new w4 [.bool y.n, .slice y.A y.l.length y.c, .slice y.A' y.d.length y.c'] 30
       have YR := XR.alloc (.cells #[.bool y.n, .slice y.A y.l.length y.c, .slice y.A' y.d.length y.c'] 30)
       have YF := XF.alloc (.cells #[.bool y.n, .slice y.A y.l.length y.c, .slice y.A' y.d.length y.c'] 30)
       have ho := RF.ok.alloc hok (.cells #[.bool y.n, .slice y.A y.l.length y.c, .slice y.A' y.d.length y.c'] 30)
       have hB2 := hB.alloc hB.size (.cells #[.bool y.n, .slice y.A y.l.length y.c, .slice y.A' y.d.length y.c'] 30)
       have e1 : ¬ w4.heap.size = w.heap.size := by omega
       have e2 : ¬ w4.heap.size = w.heap.size + 1 := by omega
       have e3 : ¬ w.heap.size = w4.heap.size := by omega
       have e4 : ¬ w.heap.size + 1 = w4.heap.size := by omega
       generalize w4.alloc (.cells #[.bool y.n, .slice y.A y.l.length y.c, .slice y.A' y.d.length y.c'] 30) = WZ at XL YR YF ho hB2 ⊢
       generalize w4.heap.size = bl at XL e1 e2 e3 e4 ⊢)
  all_goals have hoz : RF.ok (fun k => w.heap.size + 2 ≤ k) WZ y := RF.ok.mono ho (fun k _ hk => by first | exact hk.2 | omega | (simp at hk; omega))
  all_goals clear XR XF N1 hra hB hok ho rf rl ff fl cXR0 cXR1 cXR2 cXF0 cXF1 cXF2 cXF3 cN10 cN11
  all_goals have cl0 := XL.c 0 rfl
  all_goals have cl1 := XL.c 1 rfl
  all_goals have cl2 := XL.c 2 rfl
  all_goals have cr0 := YR.c 0 rfl
  all_goals have cr1 := YR.c 1 rfl
  all_goals have cr2 := YR.c 2 rfl
  all_goals have cf0 := YF.c 0 rfl
  all_goals have cf1 := YF.c 1 rfl
  all_goals have cf2 := YF.c 2 rfl
  all_goals have cf3 := YF.c 3 rfl
  all_goals have yrf := YR.f
  all_goals have yrl := YR.lt
  all_goals have yff := YF.f
  all_goals have yfl := YF.lt
  all_goals go_wp2
  all_goals refine bodyPost_ret (ret_blk2 rfl rfl rfl (((((((YR.set 0 _).set 1 _).set 2 _).far (by simp) _).far (by simp) _).far (by simp) _).far (by simp) _) (((((((YF.far (by simp) _).far (by simp) _).far (by simp) _).set 0 _).set 1 _).set 2 _).set 3 _) Tryz.underlying30 (by kernel_rfl) Tryz.underlying35 (by kernel_rfl)) rfl ?_
  all_goals exact ⟨y, rfl, hq, hR, RF.ok.mono ((((((((hoz.setCell (by simp <;> omega) _).setCell (by simp <;> omega) _).setCell (by simp <;> omega) _).setCell (by simp <;> omega) _).setCell (by simp <;> omega) _).setCell (by simp <;> omega) _).setCell (by simp <;> omega) _)) (fun k _ hk => by omega), (((((((hB2.setCell (by simp <;> omega) _).setCell (by simp <;> omega) _).setCell (by simp <;> omega) _).setCell (by simp <;> omega) _).setCell (by simp <;> omega) _).setCell (by simp <;> omega) _).setCell (by simp <;> omega) _)⟩
end Go.Proofs.YthjpkichpkomcaaGreatDoor
