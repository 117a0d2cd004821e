/- WRead -/
import Derived.Test.YthjpkichpkomcaaGreatDoorBRowFigureNear19
import Derived.Test.YthjpkichpkomcaaGreatDoorBRowFigureNear24
import Derived.Test.YthjpkichpkomcaaGreatDoorBRowFigureNear26
import Derived.Outline
/- Layer 8: the number that a text is (whole.Read). -/
namespace Go.Proofs.YthjpkichpkomcaaGreatDoor
open Go.RowKit Go.Proofs.YthjpkichpkomcaaGreatDoor.Big
set_option linter.unusedVariables false
set_option maxRecDepth 100000
attribute [local go_sem ↓] Go.wp_at_zero Go.wp_at_succ

/-- The number that a text with a sign is. -/
def readV (l : List UInt8) : Int := if Lib.hasPrefix l [45] then -decV (restOf l) else decV (restOf l)

set_option maxHeartbeats 2000000 in
theorem whole_Read (l : List UInt8) (hl : l.length < 1000000000000) (hb : wrongI (restOf l) < 0) (w : World) :
    Calls Tryz.prog 63 #[.string ⟨l.toArray⟩] w fun e w' => ∃ A1 c1, e = .returned (.tuple #[.agg #[.bool (ng (readV l)), .slice A1 (mag (readV l)).length c1], .agg #[.int .i64 0, .int .i64 0, .int .i64 0, .int .i64 0]]) ∧ (mag (readV l)).length ≤ c1 ∧ Rd (fun k => w.heap.size ≤ k) w' A1 (mag (readV l)) ∧ Below w.heap.size w w' := by
  have hs1 : (⟨l.toArray⟩ : ByteArray).size = l.length := by simp [ByteArray.size]
  have hv := (decV_bd (digs_of_wrong hb).1).1
  have HRD := Asd.mk (digits_Read (restOf l) hb)
  have HRV : Asd (zv (Lib.hasPrefix l [45]) (rep (decV (restOf l))) = readV l) := ⟨by unfold readV zv; rw [val_rep hv]⟩
  generalize hneg : Lib.hasPrefix l [45] = neg at *
  have HNO := Asd.mk (norm_out (n := neg) (Wd_rep (decV (restOf l))))
  rw [HRV.out, val_rep hv] at HNO
  have HNG := Asd.mk hneg
  clear hneg hv
  go_enter Tryz.func63, Tryz.ntmps63
  go_wp2_with fail
  have R0 := (Blk.new w [.bool false, .slice none 0 0] 28).alloc (.cells #[.int .i64 0, .int .i64 0, .int .i64 0, .int .i64 0] 35)
  have F0 := Blk.new (w.alloc (.cells #[.bool false, .slice none 0 0] 28)) [.int .i64 0, .int .i64 0, .int .i64 0, .int .i64 0] 35
  have hb0 := (((Below.refl w.heap.size w).alloc (Nat.le_refl _) (.cells #[.bool false, .slice none 0 0] 28)).alloc (by simp) (.cells #[.int .i64 0, .int .i64 0, .int .i64 0, .int .i64 0] 35))
  simp only [World.size_alloc] at F0
  generalize (w.alloc (.cells #[.bool false, .slice none 0 0] 28)).alloc (.cells #[.int .i64 0, .int .i64 0, .int .i64 0, .int .i64 0] 35) = W at *
  refine (Sh.strings_CutPrefix _ _ _).mono ?_
  rintro e w1 ⟨rfl, rfl⟩
  rw [show Lib.trimPrefix (⟨l.toArray⟩ : ByteArray).data.toList (⟨#[45]⟩ : ByteArray).data.toList = restOf l from rfl]
  rw [show Lib.hasPrefix (⟨l.toArray⟩ : ByteArray).data.toList (⟨#[45]⟩ : ByteArray).data.toList = neg from HNG.out]
  generalize decV (restOf l) = v at *
  generalize restOf l = r at *
  go_wp2_with fail
  refine (HRD.out _).mono ?_
  rintro e w2 ⟨A1, c1, rfl, hc1, hr1, hb2⟩
  have R1 := (R0.below hb2).alloc (.cells #[.int .i64 0, .int .i64 0, .int .i64 0, .int .i64 0] 35)
  have F1 := (F0.below hb2).alloc (.cells #[.int .i64 0, .int .i64 0, .int .i64 0, .int .i64 0] 35)
  have G1 := Blk.new w2 [.int .i64 0, .int .i64 0, .int .i64 0, .int .i64 0] 35
  have hr3 := hr1.alloc (.cells #[.int .i64 0, .int .i64 0, .int .i64 0, .int .i64 0] 35)
  have hb3 := (below_go hb0 hb2).alloc (by have := hb0.size; have := hb2.size; omega) (.cells #[.int .i64 0, .int .i64 0, .int .i64 0, .int .i64 0] 35)
  have hlt1 := (R0.below hb2).lt
  have hlt2 := (F0.below hb2).lt
  have hltf := F0.lt
  generalize hgb : w2.heap.size = gb at *
  have g0 := G1.c 0 rfl; have g1 := G1.c 1 rfl; have g2 := G1.c 2 rfl; have g3 := G1.c 3 rfl
  go_wp2_with fail
  refine (whole_signed neg A1 c1 (rep v) _).mono ?_
  rintro e w3 ⟨rfl, hb4⟩
  rw [HNO.out.1]
  have R2 := R1.below hb4
  have F2 := F1.below hb4
  have hr4 := hr3.below hb4
  have hb5 := below_go hb3 hb4
  clear hr1 hr3 hb2 hb3 hb4 hb0 R0 R1 F0 F1 hgb
  have r0 := R2.c 0 rfl; have r1 := R2.c 1 rfl
  have f0 := F2.c 0 rfl; have f1 := F2.c 1 rfl; have f2 := F2.c 2 rfl; have f3 := F2.c 3 rfl
  have rf := R2.f; have ff := F2.f; have rl := R2.lt; have fl := F2.lt
  go_wp2
  refine bodyPost_ret (ret_blk2 rfl rfl rfl ((((((R2.set 0 _).set 1 _).far (by simp) _).far (by simp) _).far (by simp) _).far (by simp) _) (((((((F2.far (by simp) _).far (by simp) _).set 0 _).set 1 _).set 2 _).set 3 _)) Tryz.underlying28 (by kernel_rfl) Tryz.underlying35 (by kernel_rfl)) rfl ?_
  refine ⟨A1, c1, by rw [← HNO.out.2]; rfl, by rw [← HNO.out.2]; exact hc1, ?_, ?_⟩
  · rw [← HNO.out.2]
    exact ((((((hr4.setCell (by simp; omega) _).setCell (by simp; omega) _).setCell (by simp; omega) _).setCell (by simp; omega) _).setCell (by simp; omega) _).setCell (by simp; omega) _).mono (fun k _ hk => by omega)
  · exact (((((hb5.setCell (by simp) _).setCell (by simp) _).setCell (by simp) _).setCell (by simp) _).setCell (by simp) _).setCell (by simp) _
end Go.Proofs.YthjpkichpkomcaaGreatDoor
