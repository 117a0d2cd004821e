/- Ref08a -/
import Derived.Test.YthjpkichpkomcaaGreatDoorRef02a
import Derived.Test.YthjpkichpkomcaaGreatDoorBRowFigureNear14
import Derived.Outline
/- The document's answer for layer 8: right numbers, signs (retrospectref08). -/
namespace Go.Proofs.YthjpkichpkomcaaGreatDoor
open Go.RowKit Go.Proofs.YthjpkichpkomcaaGreatDoor.Big
set_option linter.unusedVariables false
set_option maxRecDepth 100000
attribute [local go_sem ↓] Go.wp_at_zero Go.wp_at_succ

theorem norm_out {n : Bool} {l : List Int} (hw : Wd l) : (n && decide (0 < (rep (val l)).length)) = ng (zv n l) ∧ rep (val l) = mag (zv n l) :=
  ⟨by rw [rep_pos_len (val_nonneg hw), ng_zv hw], by rw [mag_zv hw]⟩

set_option maxHeartbeats 1000000 in
theorem ref08_Norm (ok : Nat → Prop) (n : Bool) (A : Option Addr) (c : Nat) (l : List Int) (w : World) (h : Rd ok w A l) (hc : l.length ≤ c) (hbig : l.length < 100000000000) :
    Calls Tryz.prog 155 #[.agg #[.bool n, .slice A l.length c]] w (WhOut (zv n l) w) := by
  have HP := Asd.mk (norm_out (n := n) h.wd)
  go_enter Tryz.func155, Tryz.ntmps155
  go_wp2_with fail
  have A0 := (Blk.new w [.bool n, .slice A l.length c] 128).alloc (.cells #[.bool false, .slice none 0 0] 128)
  have R0 := Blk.new (w.alloc (.cells #[.bool n, .slice A l.length c] 128)) [.bool false, .slice none 0 0] 128
  have rh := (h.alloc (.cells #[.bool n, .slice A l.length c] 128)).alloc (.cells #[.bool false, .slice none 0 0] 128)
  have hb0 := ((Below.refl w.heap.size w).alloc (Nat.le_refl _) (.cells #[.bool n, .slice A l.length c] 128)).alloc (by simp) (.cells #[.bool false, .slice none 0 0] 128)
  simp only [World.size_alloc] at R0
  generalize (w.alloc (.cells #[.bool n, .slice A l.length c] 128)).alloc (.cells #[.bool false, .slice none 0 0] 128) = W at *
  clear h
  refine (ref02_Norm ok A c l _ rh hc hbig).mono ?_
  rintro e w1 ⟨A1, c1, rfl, hc1, hr1, hb1⟩
  have A1' := A0.below hb1; have R1 := R0.below hb1
  have a0 := A1'.c 0 rfl; have a1 := A1'.c 1 rfl; have r0 := R1.c 0 rfl; have r1 := R1.c 1 rfl; have rf := R1.f; have rl := R1.lt
  rw [HP.out.2] at *
  have HP1 : Asd ((n && decide (0 < (mag (zv n l)).length)) = ng (zv n l)) := ⟨by rw [← HP.out.2]; exact HP.out.1⟩
  have hlt := R0.lt
  clear HP
  cases n
  · go_wp2
    refine bodyPost_ret (ret_blk rfl rfl ((R1.set 0 _).set 1 _) Tryz.underlying128 (by kernel_rfl)) rfl ?_
    exact ⟨_, _, by rw [← HP1.out]; rfl, hc1, ((hr1.setCell (by simp; omega) _).setCell (by simp; omega) _).mono (fun k _ hk => by omega), ((below_go hb0 hb1).setCell (by simp) _).setCell (by simp) _⟩
  · go_wp2
    refine bodyPost_ret (ret_blk rfl rfl ((R1.set 0 _).set 1 _) Tryz.underlying128 (by kernel_rfl)) rfl ?_
    exact ⟨_, _, by rw [← HP1.out]; rfl, hc1, ((hr1.setCell (by simp; omega) _).setCell (by simp; omega) _).mono (fun k _ hk => by omega), ((below_go hb0 hb1).setCell (by simp) _).setCell (by simp) _⟩

theorem mag_nil {z : Int} : ((((mag z).length : Nat) : Int) == 0) = decide (z = 0) := by
  rw [Bool.eq_iff_iff]
  simp only [beq_iff_eq, decide_eq_true_eq]
  constructor
  · intro h
    have h0 : mag z = [] := List.length_eq_zero_iff.1 (by omega)
    have := rep_eq_nil.1 h0
    omega
  · rintro rfl; simp [mag, rep_zero]

set_option maxHeartbeats 1000000 in
theorem ref08_Sign (ok : Nat → Prop) (n : Bool) (A : Option Addr) (c : Nat) (l : List Int) (w : World) (h : Rd ok w A l) (hc : l.length ≤ c) (hbig : l.length < 100000000000) :
    Calls Tryz.prog 151 #[.agg #[.bool n, .slice A l.length c]] w fun e w' => e = .returned (.int .i64 (sgI (zv n l))) ∧ Below w.heap.size w w' := by
  go_enter Tryz.func151, Tryz.ntmps151
  go_wp2_with fail
  refine (ref08_Norm ok n A c l _ (h.alloc _) hc hbig).mono ?_
  rintro e w1 ⟨A1, c1, rfl, hc1, hr1, hb1⟩
  have hb0 := below_go ((Below.refl w.heap.size w).alloc (Nat.le_refl _) _) hb1
  have hz := mag_nil (z := zv n l)
  clear hb1 hr1 h
  generalize hzv : zv n l = z at *
  rcases Int.lt_trichotomy z 0 with hlt | heq | hgt
  · have hz0 : decide (z = 0) = false := decide_eq_false (by omega)
    have hng : ng z = true := decide_eq_true hlt
    have hsg : sgI z = -1 := sgI_neg hlt
    rw [hz0] at hz
    rw [hng]
    have HSG : Asd (sgI (zv n l) = sgI z) := ⟨by rw [hzv]⟩
    have HS2 := Asd.mk hsg
    clear hng hsg hz0 hzv
    go_wp2
    go_ret
    exact ⟨by rw [HSG.out, HS2.out]; rfl, hb0.alloc hb0.size _⟩
  · have hz0 : decide (z = 0) = true := decide_eq_true heq
    rw [hz0] at hz
    have HSG : Asd (sgI (zv n l) = 0) := ⟨by rw [hzv, heq]; rfl⟩
    have HS2 : Asd True := ⟨trivial⟩
    subst heq
    clear hzv
    go_wp2
    go_ret
    exact ⟨by rw [HSG.out]; rfl, hb0.alloc hb0.size _⟩
  · have hz0 : decide (z = 0) = false := decide_eq_false (by omega)
    have hng : ng z = false := decide_eq_false (by omega)
    have hsg : sgI z = 1 := sgI_pos hgt
    rw [hz0] at hz
    rw [hng]
    have HSG : Asd (sgI (zv n l) = sgI z) := ⟨by rw [hzv]⟩
    have HS2 := Asd.mk hsg
    clear hng hsg hz0 hzv
    go_wp2
    go_ret
    exact ⟨by rw [HSG.out, HS2.out]; rfl, hb0.alloc hb0.size _⟩
end Go.Proofs.YthjpkichpkomcaaGreatDoor
