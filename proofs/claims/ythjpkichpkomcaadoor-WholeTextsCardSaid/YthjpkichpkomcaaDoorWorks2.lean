/- Layer 8: the law's examples (works). -/
import Derived.Test.YthjpkichpkomcaaDoorCanon
namespace Go.Proofs.YthjpkichpkomcaaDoor
open Go.RowKit Go.Proofs.YthjpkichpkomcaaDoor.Big
set_option linter.unusedVariables false
set_option maxRecDepth 100000
attribute [local go_sem ↓] Go.wp_at_zero Go.wp_at_succ

theorem wholeT_m4 : wholeT (-4) = [45, 52] := by decide
theorem wholeT_1 : wholeT 1 = [49] := by decide
theorem fq_ex : fq (-7) 2 = -4 := by decide
theorem fr_ex : fr (-7) 2 = 1 := by decide

theorem read_ex : wrongI (restOf [45]) + ((([45] : List UInt8).length : Int) - ((restOf [45]).length : Int)) = 1 := by decide

set_option maxHeartbeats 2000000 in
theorem law_works (w : World) : Calls Tryd.prog 9 #[] w fun e w' => e = .returned (.bool true) ∧ Below w.heap.size w w' := by
  have l7 := mag_len (-7) 1 (by decide)
  have l2 := mag_len 2 1 (by decide)
  have l4 := mag_len (-4) 1 (by decide)
  have l1 := mag_len 1 1 (by decide)
  go_enter Tryd.func9, Tryd.ntmps9
  go_wp2_with fail
  refine (whole_Of (-7) (by decide) (by decide) w).mono ?_
  rintro e w1 ⟨A1, c1, rfl, hc1, hr1, hb1⟩
  go_wp2_with fail
  refine (whole_Of 2 (by decide) (by decide) w1).mono ?_
  rintro e w2 ⟨A2, c2, rfl, hc2, hr2, hb2⟩
  have hr1' := hr1.below hb2
  have hf := cFloor hr1' hc1 hr2 hc2 (by omega) (by omega) (by decide)
  rw [fq_ex, fr_ex] at hf
  have HFL := Asd.mk hf
  clear hf
  go_wp2_with fail
  refine HFL.out.mono ?_
  rintro e w3 ⟨A3, c3, A4, c4, rfl, hc3, hc4, hr3, hr4, hb3⟩
  have hbb := below_go (below_go hb1 hb2) hb3
  clear hb1 hb2 HFL hr1 hr2 hr1'
  go_wp2_with fail
  have Q0 := (Blk.new w3 [.bool (ng (-4)), .slice A3 (mag (-4)).length c3] 26).alloc (.cells #[.bool (ng 1), .slice A4 (mag 1).length c4] 26)
  have R0 := Blk.new (w3.alloc (.cells #[.bool (ng (-4)), .slice A3 (mag (-4)).length c3] 26)) [.bool (ng 1), .slice A4 (mag 1).length c4] 26
  have hr3' := (hr3.alloc (.cells #[.bool (ng (-4)), .slice A3 (mag (-4)).length c3] 26)).alloc (.cells #[.bool (ng 1), .slice A4 (mag 1).length c4] 26)
  have hr4' := (hr4.alloc (.cells #[.bool (ng (-4)), .slice A3 (mag (-4)).length c3] 26)).alloc (.cells #[.bool (ng 1), .slice A4 (mag 1).length c4] 26)
  have hb4 := (hbb.alloc hbb.size (.cells #[.bool (ng (-4)), .slice A3 (mag (-4)).length c3] 26)).alloc (by have := hbb.size; simp; omega) (.cells #[.bool (ng 1), .slice A4 (mag 1).length c4] 26)
  simp only [World.size_alloc] at R0
  generalize (w3.alloc (.cells #[.bool (ng (-4)), .slice A3 (mag (-4)).length c3] 26)).alloc (.cells #[.bool (ng 1), .slice A4 (mag 1).length c4] 26) = W at *
  clear hr3 hr4 hbb
  have hrd := whole_Read_no [45] (by decide) (by decide) W
  rw [read_ex] at hrd
  refine hrd.mono ?_
  clear hrd
  rintro e w4 ⟨rfl, hb5⟩
  have Q1 := ((Q0.below hb5).alloc (.cells #[.bool false, .slice none 0 0] 26)).alloc (.cells #[.int .i64 1, .int .i64 0, .int .i64 0, .int .i64 1] 39)
  have R1 := ((R0.below hb5).alloc (.cells #[.bool false, .slice none 0 0] 26)).alloc (.cells #[.int .i64 1, .int .i64 0, .int .i64 0, .int .i64 1] 39)
  have F1 := Blk.new (w4.alloc (.cells #[.bool false, .slice none 0 0] 26)) [.int .i64 1, .int .i64 0, .int .i64 0, .int .i64 1] 39
  have hr5 := ((hr3'.below hb5).alloc (.cells #[.bool false, .slice none 0 0] 26)).alloc (.cells #[.int .i64 1, .int .i64 0, .int .i64 0, .int .i64 1] 39)
  have hr6 := ((hr4'.below hb5).alloc (.cells #[.bool false, .slice none 0 0] 26)).alloc (.cells #[.int .i64 1, .int .i64 0, .int .i64 0, .int .i64 1] 39)
  have hb6 := ((below_go hb4 hb5).alloc (below_go hb4 hb5).size (.cells #[.bool false, .slice none 0 0] 26)).alloc (by have := (below_go hb4 hb5).size; simp; omega) (.cells #[.int .i64 1, .int .i64 0, .int .i64 0, .int .i64 1] 39)
  simp only [World.size_alloc] at F1
  have q0 := Q1.c 0 rfl; have q1 := Q1.c 1 rfl; have r0 := R1.c 0 rfl; have r1 := R1.c 1 rfl
  clear hr3' hr4' hb4 hb5 Q0 R0
  go_wp2_with fail
  refine (cText hr5 hc3 (by omega)).mono ?_
  rintro e w6 ⟨rfl, hb7⟩
  rw [wholeT_m4]
  have Q2 := Q1.below hb7; have R2 := R1.below hb7; have F2 := F1.below hb7; have hr7 := hr6.below hb7
  have s0 := R2.c 0 rfl; have s1 := R2.c 1 rfl
  clear q0 q1 r0 r1
  go_wp2_with fail
  refine (cText hr7 hc4 (by omega)).mono ?_
  rintro e w7 ⟨rfl, hb8⟩
  rw [wholeT_1]
  have F3 := F2.below hb8
  have f0 := F3.c 0 rfl; have f1 := F3.c 1 rfl; have f2 := F3.c 2 rfl; have f3 := F3.c 3 rfl
  clear s0 s1
  go_wp2
  go_ret
  exact ⟨rfl, below_go (below_go hb6 hb7) hb8⟩
end Go.Proofs.YthjpkichpkomcaaDoor
