/- Whole3 -/
import Derived.Test.YthjpkichpkomcaaGreatDoorBRowFigureNear12
import Derived.Outline
import Derived.Deep.RegionHeld3
import Derived.Deep.DrawnRows
import Derived.Deep.DeepMust
/- Layer 8: differences, order, the machine's numbers, floors of whole numbers (whole). -/
namespace Go.Proofs.YthjpkichpkomcaaGreatDoor
open Go.RowKit Go.Proofs.YthjpkichpkomcaaGreatDoor.Big
set_option linter.unusedVariables false
set_option maxRecDepth 100000
attribute [local go_sem ↓] Go.wp_at_zero Go.wp_at_succ

theorem mag_len (z : Int) (m : Nat) (h : (z.natAbs : Int) < pw m) : (mag z).length ≤ m := rep_length_le h
theorem natAbs_zv {n : Bool} {l : List Int} (hw : Wd l) : ((zv n l).natAbs : Int) = val l := by
  have := val_nonneg hw
  unfold zv; split <;> omega
theorem mag_zv_len {n : Bool} {l : List Int} (hw : Wd l) : (mag (-zv n l)).length ≤ l.length := by
  refine mag_len _ _ ?_
  rw [Int.natAbs_neg, natAbs_zv hw]; exact val_lt hw

set_option maxHeartbeats 1000000 in
theorem whole_Sub (ok : Nat → Prop) (n : Bool) (A : Option Addr) (c : Nat) (l : List Int) (ok' : Nat → Prop) (n' : Bool) (A' : Option Addr) (c' : Nat) (l' : List Int) (w : World) (h : Rd ok w A l) (hc : l.length ≤ c) (h' : Rd ok' w A' l') (hc' : l'.length ≤ c') (hbig : l.length < 100000000) (hbig' : l'.length < 100000000) :
    Calls Tryz.prog 77 #[.agg #[.bool n, .slice A l.length c], .agg #[.bool n', .slice A' l'.length c']] w (WhOut (zv n l - zv n' l') w) := by
  have HL := Asd.mk (mag_zv_len (n := n') h'.wd)
  have HP : Asd (zv n l + zv (ng (-zv n' l')) (mag (-zv n' l')) = zv n l - zv n' l') := ⟨by rw [zv_mag]; omega⟩
  go_enter Tryz.func77, Tryz.ntmps77
  go_wp2_with fail
  have A0 := ((Blk.new w [.bool n, .slice A l.length c] 28).alloc (.cells #[.bool n', .slice A' l'.length c'] 28)).alloc (.cells #[.bool false, .slice none 0 0] 28)
  have B0 := (Blk.new (w.alloc (.cells #[.bool n, .slice A l.length c] 28)) [.bool n', .slice A' l'.length c'] 28).alloc (.cells #[.bool false, .slice none 0 0] 28)
  have R0 := Blk.new ((w.alloc (.cells #[.bool n, .slice A l.length c] 28)).alloc (.cells #[.bool n', .slice A' l'.length c'] 28)) [.bool false, .slice none 0 0] 28
  have rh := (((h.alloc (.cells #[.bool n, .slice A l.length c] 28)).alloc (.cells #[.bool n', .slice A' l'.length c'] 28)).alloc (.cells #[.bool false, .slice none 0 0] 28))
  have rh' := (((h'.alloc (.cells #[.bool n, .slice A l.length c] 28)).alloc (.cells #[.bool n', .slice A' l'.length c'] 28)).alloc (.cells #[.bool false, .slice none 0 0] 28))
  have hb0 := ((((Below.refl w.heap.size w).alloc (Nat.le_refl _) (.cells #[.bool n, .slice A l.length c] 28)).alloc (by simp) (.cells #[.bool n', .slice A' l'.length c'] 28)).alloc (by simp; omega) (.cells #[.bool false, .slice none 0 0] 28))
  simp only [World.size_alloc] at B0 R0
  generalize ((w.alloc (.cells #[.bool n, .slice A l.length c] 28)).alloc (.cells #[.bool n', .slice A' l'.length c'] 28)).alloc (.cells #[.bool false, .slice none 0 0] 28) = W at *
  clear h h'
  have c0 := A0.c 0 rfl
  have c1 := A0.c 1 rfl
  have d0 := B0.c 0 rfl
  have d1 := B0.c 1 rfl
  have n1 : ¬ (w.heap.size = w.heap.size + 1 + 1) := by omega
  have n2 : ¬ (w.heap.size + 1 + 1 = w.heap.size) := by omega
  go_region_held3 (fun w' => w'.cell? ⟨w.heap.size, 0, none⟩ = some (.bool n) ∧ w'.cell? ⟨w.heap.size, 1, none⟩ = some (.slice A l.length c) ∧ w'.cell? ⟨w.heap.size + 1, 0, none⟩ = some (.bool n') ∧ w'.cell? ⟨w.heap.size + 1, 1, none⟩ = some (.slice A' l'.length c')) (go_keep)
    (first
      | (go_at_call 136; refine (whole_Neg ok' n' A' c' l' _ ?_ hc').mono ?_; (exact rh'.drew); rintro e w1 ⟨A1, c1, rfl, hc1, hr1, hb⟩; replace hb := undrew hb; replace hr1 : Rd (fun k => W.heap.size ≤ k) w1 A1 _ := hr1; have rh1 := rh.below hb; have A1 := A0.below hb; have B1 := B0.below hb; have R1 := R0.below hb; have qA10 := A1.c 0 rfl; have qA11 := A1.c 1 rfl; have qB10 := B1.c 0 rfl; have qB11 := B1.c 1 rfl)
      | (go_at_call 80; refine (whole_Add _ _ _ _ _ _ _ _ _ _ _ rh1 hc hr1 hc1 (by omega) (by have := HL.out; omega)).mono ?_; rintro e w2 ⟨A2, c2, rfl, hc2, hr2, hb2⟩; have A2 := A1.below hb2; have B2 := B1.below hb2; have R2 := R1.below hb2; have qA20 := A2.c 0 rfl; have qA21 := A2.c 1 rfl; have qB20 := B2.c 0 rfl; have qB21 := B2.c 1 rfl; have qR20 := R2.c 0 rfl; have qR21 := R2.c 1 rfl; have ef := R2.f; have ez := R2.lt))
  rw [HP.out] at hc2 hr2 ⊢
  go_wp2
  refine bodyPost_ret (ret_blk rfl rfl ((R2.set 0 _).set 1 _) Tryz.underlying28 (by kernel_rfl)) rfl ?_
  have hlt := R0.lt
  have hlt1 := hb.size
  refine ⟨_, _, rfl, hc2, ((hr2.setCell (by simp; omega) _).setCell (by simp; omega) _).mono (fun k _ hk => by omega), ((below_go (below_go hb0 hb) hb2).setCell (by simp; omega) _).setCell (by simp; omega) _⟩

set_option maxHeartbeats 1000000 in
theorem whole_Cmp (ok : Nat → Prop) (n : Bool) (A : Option Addr) (c : Nat) (l : List Int) (ok' : Nat → Prop) (n' : Bool) (A' : Option Addr) (c' : Nat) (l' : List Int) (w : World) (h : Rd ok w A l) (hc : l.length ≤ c) (h' : Rd ok' w A' l') (hc' : l'.length ≤ c') (hbig : l.length < 100000000) (hbig' : l'.length < 100000000) :
    Calls Tryz.prog 83 #[.agg #[.bool n, .slice A l.length c], .agg #[.bool n', .slice A' l'.length c']] w fun e w' => e = .returned (.int .i64 (sgI (zv n l - zv n' l'))) ∧ Below w.heap.size w w' := by
  have HP := Asd.mk (zv_mag (zv n l - zv n' l'))
  go_enter Tryz.func83, Tryz.ntmps83
  go_wp2_with fail
  have A0 := (Blk.new w [.bool n, .slice A l.length c] 28).alloc (.cells #[.bool n', .slice A' l'.length c'] 28)
  have B0 := Blk.new (w.alloc (.cells #[.bool n, .slice A l.length c] 28)) [.bool n', .slice A' l'.length c'] 28
  have rh := ((h.alloc (.cells #[.bool n, .slice A l.length c] 28)).alloc (.cells #[.bool n', .slice A' l'.length c'] 28))
  have rh' := ((h'.alloc (.cells #[.bool n, .slice A l.length c] 28)).alloc (.cells #[.bool n', .slice A' l'.length c'] 28))
  have hb0 := (((Below.refl w.heap.size w).alloc (Nat.le_refl _) (.cells #[.bool n, .slice A l.length c] 28)).alloc (by simp) (.cells #[.bool n', .slice A' l'.length c'] 28))
  simp only [World.size_alloc] at B0
  generalize (w.alloc (.cells #[.bool n, .slice A l.length c] 28)).alloc (.cells #[.bool n', .slice A' l'.length c'] 28) = W at *
  clear h h'
  refine (whole_Sub ok n A c l ok' n' A' c' l' _ rh hc rh' hc' hbig hbig').mono ?_
  rintro e w1 ⟨A1, c1, rfl, hc1, hr1, hb⟩
  go_wp2_with fail
  refine (whole_Sign _ _ _ _ _ _ hr1 hc1).mono ?_
  rintro e w2 ⟨rfl, hb2⟩
  rw [HP.out]
  go_wp2
  go_ret
  exact ⟨rfl, below_go (below_go hb0 hb) hb2⟩

theorem of_out {n : Int} (h : n < 0) : ((true && decide (0 < (rep (-n)).length)) = ng n ∧ rep (-n) = mag n) := by
  rw [rep_pos_len (by omega)]
  refine ⟨by simp [ng], by unfold mag; congr 1; omega⟩
theorem of_out' {n : Int} (h : 0 ≤ n) : ((false && decide (0 < (rep n).length)) = ng n ∧ rep n = mag n) := by
  refine ⟨by simp [ng]; omega, by unfold mag; congr 1; omega⟩

set_option maxHeartbeats 400000 in
theorem whole_Of (n : Int) (h0 : -9223372036854775808 ≤ n) (h1 : n ≤ 9223372036854775807) (w : World) :
    Calls Tryz.prog 82 #[.int .i64 n] w (WhOut n w) := by
  by_cases hn : n < 0
  · have hd : decide (n < 0) = true := decide_eq_true hn
    have HP := Asd.mk (of_out hn)
    have hw1 : IntKind.u64.wrap n = n + 18446744073709551616 := by rw [IntKind.wrap_u64]; omega
    have hw2 : IntKind.u64.wrap (-(n + 18446744073709551616)) = -n := by rw [IntKind.wrap_u64]; omega
    have HO := Asd.mk (fun w => nat_Of (-n) (by omega) (by omega) w)
    clear hn
    go_enter Tryz.func82, Tryz.ntmps82
    go_wp2_with fail
    have R0 := Blk.new w [.bool false, .slice none 0 0] 28
    have hb0 := ((Below.refl w.heap.size w).alloc (Nat.le_refl _) (.cells #[.bool false, .slice none 0 0] 28))
    generalize w.alloc (.cells #[.bool false, .slice none 0 0] 28) = W at *
    refine (HO.out _).mono ?_
    rintro e w1 ⟨A1, c1, rfl, hc1, hr1, hb⟩
    have R1 := R0.below hb
    go_wp2_with fail
    refine (whole_signed _ _ _ _ _).mono ?_
    rintro e w2 ⟨rfl, hb2⟩
    have R2 := R1.below hb2
    have r0 := R2.c 0 rfl; have r1 := R2.c 1 rfl
    have ef := R2.f; have ez := R2.lt
    go_wp2
    refine bodyPost_ret (ret_blk rfl rfl ((R2.set 0 _).set 1 _) Tryz.underlying28 (by kernel_rfl)) rfl ?_
    have hlt := R0.lt
    refine ⟨_, _, by rw [← HP.out.1, ← HP.out.2]; rfl, by rw [← HP.out.2]; exact hc1, by rw [← HP.out.2]; exact (((hr1.below hb2).setCell (by simp; omega) _).setCell (by simp; omega) _).mono (fun k _ hk => by omega), ((below_go (below_go hb0 hb) hb2).setCell (by simp) _).setCell (by simp) _⟩
  · have hd : decide (n < 0) = false := decide_eq_false hn
    have HP := Asd.mk (of_out' (show 0 ≤ n by omega))
    have hw1 : IntKind.u64.wrap n = n := by rw [IntKind.wrap_u64]; omega
    have HO := Asd.mk (fun w => nat_Of n (by omega) (by omega) w)
    clear hn
    go_enter Tryz.func82, Tryz.ntmps82
    go_wp2_with fail
    have R0 := Blk.new w [.bool false, .slice none 0 0] 28
    have hb0 := ((Below.refl w.heap.size w).alloc (Nat.le_refl _) (.cells #[.bool false, .slice none 0 0] 28))
    generalize w.alloc (.cells #[.bool false, .slice none 0 0] 28) = W at *
    refine (HO.out _).mono ?_
    rintro e w1 ⟨A1, c1, rfl, hc1, hr1, hb⟩
    have R1 := R0.below hb
    go_wp2_with fail
    refine (whole_signed _ _ _ _ _).mono ?_
    rintro e w2 ⟨rfl, hb2⟩
    have R2 := R1.below hb2
    have r0 := R2.c 0 rfl; have r1 := R2.c 1 rfl
    have ef := R2.f; have ez := R2.lt
    go_wp2
    refine bodyPost_ret (ret_blk rfl rfl ((R2.set 0 _).set 1 _) Tryz.underlying28 (by kernel_rfl)) rfl ?_
    have hlt := R0.lt
    refine ⟨_, _, by rw [← HP.out.1, ← HP.out.2]; rfl, by rw [← HP.out.2]; exact hc1, by rw [← HP.out.2]; exact (((hr1.below hb2).setCell (by simp; omega) _).setCell (by simp; omega) _).mono (fun k _ hk => by omega), ((below_go (below_go hb0 hb) hb2).setCell (by simp) _).setCell (by simp) _⟩
end Go.Proofs.YthjpkichpkomcaaGreatDoor
