/- Works10 -/
import Derived.Test.YthjpkichpkomcaaGreatDoorBRowFigureNear41
import Derived.Test.YthjpkichpkomcaaGreatDoorBRowFigureNear44
import Derived.Test.YthjpkichpkomcaaGreatDoorBRowFigureNear31
/- Layer 10: the chapter's examples (law10.works). -/
namespace Go.Proofs.YthjpkichpkomcaaGreatDoor
open Go.RowKit Go.Proofs.YthjpkichpkomcaaGreatDoor.Big
set_option linter.unusedVariables false
set_option maxRecDepth 100000
attribute [local go_sem ↓] Go.wp_at_zero Go.wp_at_succ

theorem ex_read1 : readF [45, 49, 46, 50, 53] = (Rat.divInt (-5) 4, 0, 0) := by decide +kernel
theorem ex_read2 : readF [49, 47, 48] = (0, 2, 2) := by decide +kernel
theorem ex_text : figT (Rat.divInt (-5) 4) = [45, 53, 47, 52] := by decide +kernel
theorem ex_round : roundT (Rat.divInt (-5) 4) 1 = [45, 49, 46, 51] := by decide +kernel
theorem ex_sz : Sz 1000 (Rat.divInt (-5) 4) := (sz_dv (k := 1) (by decide) (by unfold mag; rw [rep_word (by decide) (by decide)]; decide) (by rw [rep_word (by decide) (by decide)]; decide)).mono (by decide)

set_option maxHeartbeats 4000000 in
theorem law10_works (w : World) :
    Calls Tryz.prog 12 #[] w fun e w' => e = .returned (.bool true) ∧ Below w.heap.size w w' := by
  have HR1 : Asd (∀ W, Calls Tryz.prog 16 #[.string ⟨#[45, 49, 46, 50, 53]⟩] W (FgOut (Rat.divInt (-5) 4) 0 0 W)) := ⟨fun W => by
    have := figure_Read [45, 49, 46, 50, 53] (by decide) W
    rwa [ex_read1] at this⟩
  have HR2 : Asd (∀ W, Calls Tryz.prog 16 #[.string ⟨#[49, 47, 48]⟩] W (FgOut 0 2 2 W)) := ⟨fun W => by
    have := figure_Read [49, 47, 48] (by decide) W
    rwa [ex_read2] at this⟩
  have hB := Below.refl w.heap.size w
  go_enter Tryz.func12, Tryz.ntmps12
  go_wp2_with fail
  refine (HR1.out _).mono ?_
  rintro e w1 ⟨y, rfl, hq, hR, hok, hb1⟩
  replace hB := below_go hB hb1
  go_wp2_with fail
  have XA := (Blk.new w1 [.bool y.n, .slice y.A y.l.length y.c, .slice y.A' y.d.length y.c'] 30).alloc (.cells #[.int .i64 0, .int .i64 0, .int .i64 0, .int .i64 0] 35)
  have XF := Blk.new (w1.alloc (.cells #[.bool y.n, .slice y.A y.l.length y.c, .slice y.A' y.d.length y.c'] 30)) [.int .i64 0, .int .i64 0, .int .i64 0, .int .i64 0] 35
  simp only [World.size_alloc] at XF
  replace hok := (hok.alloc (.cells #[.bool y.n, .slice y.A y.l.length y.c, .slice y.A' y.d.length y.c'] 30)).alloc (.cells #[.int .i64 0, .int .i64 0, .int .i64 0, .int .i64 0] 35)
  replace hB := (hB.alloc hB.size (.cells #[.bool y.n, .slice y.A y.l.length y.c, .slice y.A' y.d.length y.c'] 30)).alloc (by have := hB.size; rw [World.size_alloc]; omega) (.cells #[.int .i64 0, .int .i64 0, .int .i64 0, .int .i64 0] 35)
  generalize (w1.alloc (.cells #[.bool y.n, .slice y.A y.l.length y.c, .slice y.A' y.d.length y.c'] 30)).alloc (.cells #[.int .i64 0, .int .i64 0, .int .i64 0, .int .i64 0] 35) = V2 at *
  generalize hba : w1.heap.size = ba at *
  clear hb1 hba
  refine (HR2.out V2).mono ?_
  rintro e w2 ⟨y2, rfl, -, -, -, hb1⟩
  replace XA := XA.below hb1; replace XF := XF.below hb1; replace hok := hok.below hb1; replace hB := below_go hB hb1
  clear hb1
  replace XA := (XA.alloc (.cells #[.bool y2.n, .slice y2.A y2.l.length y2.c, .slice y2.A' y2.d.length y2.c'] 30)).alloc (.cells #[.int .i64 2, .int .i64 0, .int .i64 0, .int .i64 2] 35)
  replace XF := (XF.alloc (.cells #[.bool y2.n, .slice y2.A y2.l.length y2.c, .slice y2.A' y2.d.length y2.c'] 30)).alloc (.cells #[.int .i64 2, .int .i64 0, .int .i64 0, .int .i64 2] 35)
  replace hok := (hok.alloc (.cells #[.bool y2.n, .slice y2.A y2.l.length y2.c, .slice y2.A' y2.d.length y2.c'] 30)).alloc (.cells #[.int .i64 2, .int .i64 0, .int .i64 0, .int .i64 2] 35)
  replace hB := (hB.alloc hB.size (.cells #[.bool y2.n, .slice y2.A y2.l.length y2.c, .slice y2.A' y2.d.length y2.c'] 30)).alloc (by have := hB.size; rw [World.size_alloc]; omega) (.cells #[.int .i64 2, .int .i64 0, .int .i64 0, .int .i64 2] 35)
  have XG := Blk.new (w2.alloc (.cells #[.bool y2.n, .slice y2.A y2.l.length y2.c, .slice y2.A' y2.d.length y2.c'] 30)) [.int .i64 2, .int .i64 0, .int .i64 0, .int .i64 2] 35
  simp only [World.size_alloc] at XG
  have cXA0 := XA.c 0 rfl; have cXA1 := XA.c 1 rfl; have cXA2 := XA.c 2 rfl
  go_wp2_with fail
  generalize (w2.alloc (.cells #[.bool y2.n, .slice y2.A y2.l.length y2.c, .slice y2.A' y2.d.length y2.c'] 30)).alloc (.cells #[.int .i64 2, .int .i64 0, .int .i64 0, .int .i64 2] 35) = V3 at *
  generalize hbg : w2.heap.size = bg at *
  clear hbg
  have hm := figure_Text _ y V3 hok
  rw [hq, ex_text] at hm
  refine hm.mono ?_
  clear hm
  rintro e w3 ⟨rfl, hb1⟩
  replace XA := XA.below hb1; replace XF := XF.below hb1; replace XG := XG.below hb1; replace hok := hok.below hb1; replace hB := below_go hB hb1
  replace cXA0 := XA.c 0 rfl; replace cXA1 := XA.c 1 rfl; replace cXA2 := XA.c 2 rfl
  have f0 := XF.c 0 rfl; have f1 := XF.c 1 rfl; have f2 := XF.c 2 rfl; have f3 := XF.c 3 rfl
  have g0 := XG.c 0 rfl; have g1 := XG.c 1 rfl; have g2 := XG.c 2 rfl; have g3 := XG.c 3 rfl
  clear hb1
  go_wp2_with fail
  have hm := figure_Round _ y 1 1 w3 hok (by decide) (by decide) (by rw [hq]; exact ex_sz)
  rw [hq, ex_round] at hm
  refine hm.mono ?_
  clear hm
  rintro e w4 ⟨rfl, hb1⟩
  go_wp2
  go_ret
  exact ⟨rfl, below_go hB hb1⟩
end Go.Proofs.YthjpkichpkomcaaGreatDoor
