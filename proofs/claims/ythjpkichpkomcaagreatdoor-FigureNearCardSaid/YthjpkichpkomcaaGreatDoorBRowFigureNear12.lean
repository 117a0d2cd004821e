/- Whole2 -/
import Derived.Test.YthjpkichpkomcaaGreatDoorBRowFigureNear11
import Derived.Outline
import Derived.Deep.RegionHeld3
import Derived.Deep.DrawnRows
import Derived.Deep.DeepMust
/- Layer 8: sums, differences, signs and order of whole numbers (whole). -/
namespace Go.Proofs.YthjpkichpkomcaaGreatDoor
open Go.RowKit Go.Proofs.YthjpkichpkomcaaGreatDoor.Big
set_option linter.unusedVariables false
set_option maxRecDepth 100000
attribute [local go_sem ↓] Go.wp_at_zero Go.wp_at_succ

/-- On which side of 0. -/
def sgI (z : Int) : Int := if z < 0 then -1 else if 0 < z then 1 else 0
theorem sgI_zv {n : Bool} {l : List Int} (hw : Wd l) : sgI (zv n l) = if val l = 0 then 0 else if n = true then -1 else 1 := by
  have := val_nonneg hw
  unfold sgI zv
  cases n
  · simp only [Bool.false_eq_true, if_false]
    by_cases h : val l = 0
    · rw [if_pos h, if_neg (by omega), if_neg (by omega)]
    · rw [if_neg h, if_neg (by omega), if_pos (by omega)]
  · simp only [if_true]
    by_cases h : val l = 0
    · rw [if_pos h, if_neg (by omega), if_neg (by omega)]
    · rw [if_neg h, if_pos (by omega)]

set_option maxHeartbeats 400000 in
theorem whole_Sign (ok : Nat → Prop) (n : Bool) (A : Option Addr) (c : Nat) (l : List Int) (w : World) (h : Rd ok w A l) (hc : l.length ≤ c) :
    Calls Tryz.prog 71 #[.agg #[.bool n, .slice A l.length c]] w fun e w' => e = .returned (.int .i64 (sgI (zv n l))) ∧ Below w.heap.size w w' := by
  have HS := Asd.mk (sgI_zv (n := n) h.wd)
  have HZ := Asd.mk (nat_Zero ok A c l _ (h.alloc (.cells #[.bool n, .slice A l.length c] 28)) hc)
  clear h
  go_enter Tryz.func71, Tryz.ntmps71
  go_wp2_with fail
  refine HZ.out.mono ?_
  rintro e w1 ⟨rfl, rfl⟩
  have hb0 := ((Below.refl w.heap.size w).alloc (Nat.le_refl _) (.cells #[.bool n, .slice A l.length c] 28))
  by_cases hz : val l = 0
  · have hs : sgI (zv n l) = 0 := by rw [HS.out, if_pos hz]
    have HS2 := Asd.mk hs
    have hd : decide (val l = 0) = true := decide_eq_true hz
    clear hs hz
    go_wp2
    go_ret
    rw [HS2.out]
    exact ⟨rfl, hb0⟩
  · have hd : decide (val l = 0) = false := decide_eq_false hz
    cases n
    · have hs : sgI (zv false l) = 1 := by rw [HS.out, if_neg hz, if_neg (by decide)]
      have HS2 := Asd.mk hs
      clear hs hz
      go_wp2
      go_ret
      rw [HS2.out]
      exact ⟨rfl, hb0⟩
    · have hs : sgI (zv true l) = -1 := by rw [HS.out, if_neg hz, if_pos rfl]
      have HS2 := Asd.mk hs
      clear hs hz
      go_wp2
      go_ret
      rw [HS2.out]
      exact ⟨rfl, hb0⟩

theorem Rd.fresh1 {W : World} {o : Obj} {w : World} {A : Option Addr} {l : List Int} (h : Rd (fun k => (W.alloc o).drew.heap.size ≤ k) w A l) : Rd (fun k => W.heap.size ≤ k) w A l := by
  refine h.mono fun k _ hk => ?_
  have h2 : (W.alloc o).drew.heap.size = W.heap.size + 1 := by simp
  omega
theorem pos_add {a b : List Int} (ha : Wd a) (hb : Wd b) (n : Bool) : (n && decide (0 < (rep (val a + val b)).length)) = ng (zv n a + zv n b) ∧ rep (val a + val b) = mag (zv n a + zv n b) := by
  have h1 := val_nonneg ha
  have h2 := val_nonneg hb
  rw [rep_pos_len (by omega)]
  refine ⟨?_, ?_⟩
  · rw [Bool.eq_iff_iff]; cases n <;> simp [ng, zv] <;> omega
  · unfold mag; congr 1; cases n <;> simp [zv] <;> omega
theorem gap_lt {a b : List Int} (ha : Wd a) (hb : Wd b) (n n' : Bool) (hn : n' = !n) (h : val a < val b) : (n' && decide (0 < (rep ((val a - val b).natAbs : Int)).length)) = ng (zv n a + zv n' b) ∧ rep ((val a - val b).natAbs : Int) = mag (zv n a + zv n' b)   := by
  subst hn
  have h1 := val_nonneg ha
  have h2 := val_nonneg hb
  rw [rep_pos_len (by omega)]
  refine ⟨?_, ?_⟩
  · rw [Bool.eq_iff_iff]; cases n <;> simp [ng, zv] <;> omega
  · unfold mag; congr 1; cases n <;> simp only [zv, Bool.not_false, Bool.not_true, if_true, if_false, Bool.false_eq_true] <;> omega
theorem gap_ge {a b : List Int} (ha : Wd a) (hb : Wd b) (n n' : Bool) (hn : n' = !n) (h : val b ≤ val a) : (n && decide (0 < (rep ((val a - val b).natAbs : Int)).length)) = ng (zv n a + zv n' b) ∧ rep ((val a - val b).natAbs : Int) = mag (zv n a + zv n' b)   := by
  subst hn
  have h1 := val_nonneg ha
  have h2 := val_nonneg hb
  rw [rep_pos_len (by omega)]
  refine ⟨?_, ?_⟩
  · rw [Bool.eq_iff_iff]; cases n <;> simp [ng, zv] <;> omega
  · unfold mag; congr 1; cases n <;> simp only [zv, Bool.not_false, Bool.not_true, if_true, if_false, Bool.false_eq_true] <;> omega

set_option maxHeartbeats 1000000 in
theorem whole_Add_same (ok : Nat → Prop) (n : Bool) (A : Option Addr) (c : Nat) (l : List Int) (ok' : Nat → Prop) (A' : Option Addr) (c' : Nat) (l' : List Int) (w : World) (h : Rd ok w A l) (hc : l.length ≤ c) (h' : Rd ok' w A' l') (hc' : l'.length ≤ c') (hbig : l.length < 1000000000) (hbig' : l'.length < 1000000000) :
    Calls Tryz.prog 80 #[.agg #[.bool n, .slice A l.length c], .agg #[.bool n, .slice A' l'.length c']] w (WhOut (zv n l + zv n l') w) := by
  have HP := Asd.mk (pos_add h.wd h'.wd n)
  go_enter Tryz.func80, Tryz.ntmps80
  go_wp2_with fail
  have A0 := ((Blk.new w [.bool n, .slice A l.length c] 28).alloc (.cells #[.bool n, .slice A' l'.length c'] 28)).alloc (.cells #[.bool false, .slice none 0 0] 28)
  have B0 := (Blk.new (w.alloc (.cells #[.bool n, .slice A l.length c] 28)) [.bool n, .slice A' l'.length c'] 28).alloc (.cells #[.bool false, .slice none 0 0] 28)
  have R0 := Blk.new ((w.alloc (.cells #[.bool n, .slice A l.length c] 28)).alloc (.cells #[.bool n, .slice A' l'.length c'] 28)) [.bool false, .slice none 0 0] 28
  have rh := (((h.alloc (.cells #[.bool n, .slice A l.length c] 28)).alloc (.cells #[.bool n, .slice A' l'.length c'] 28)).alloc (.cells #[.bool false, .slice none 0 0] 28))
  have rh' := (((h'.alloc (.cells #[.bool n, .slice A l.length c] 28)).alloc (.cells #[.bool n, .slice A' l'.length c'] 28)).alloc (.cells #[.bool false, .slice none 0 0] 28))
  have hb0 := ((((Below.refl w.heap.size w).alloc (Nat.le_refl _) (.cells #[.bool n, .slice A l.length c] 28)).alloc (by simp) (.cells #[.bool n, .slice A' l'.length c'] 28)).alloc (by simp; omega) (.cells #[.bool false, .slice none 0 0] 28))
  simp only [World.size_alloc] at B0 R0
  generalize ((w.alloc (.cells #[.bool n, .slice A l.length c] 28)).alloc (.cells #[.bool n, .slice A' l'.length c'] 28)).alloc (.cells #[.bool false, .slice none 0 0] 28) = W at *
  clear h h'
  have c0 := A0.c 0 rfl
  have c1 := A0.c 1 rfl
  have d0 := B0.c 0 rfl
  have d1 := B0.c 1 rfl
  have n1 : ¬ (w.heap.size = w.heap.size + 1 + 1) := by omega
  have n2 : ¬ (w.heap.size + 1 + 1 = w.heap.size) := by omega
  have HN := Asd.mk (nat_Add ok A c l ok' A' c' l' W.heap.size 2 (W.alloc (.cells #[.slice A l.length c, .slice A' l'.length c'] 22)).drew (rh.alloc _).drew hc (rh'.alloc _).drew hc' (by omega) (by omega) (by simp [go_sem]) (by simp [go_sem]))
  go_region_held3 (fun w' => w'.cell? ⟨w.heap.size, 0, none⟩ = some (.bool n) ∧ w'.cell? ⟨w.heap.size, 1, none⟩ = some (.slice A l.length c) ∧ w'.cell? ⟨w.heap.size + 1, 0, none⟩ = some (.bool n) ∧ w'.cell? ⟨w.heap.size + 1, 1, none⟩ = some (.slice A' l'.length c')) (go_keep)
    (first
      | (go_at_call 128; refine HN.out.mono ?_; rintro e w1 ⟨A1, c1, rfl, hc1, hr1, hb⟩; replace hb := below_go ((Below.refl W.heap.size W).alloc (Nat.le_refl _) _) (undrew hb); replace hr1 := hr1.fresh1; have A1 := A0.below hb; have B1 := B0.below hb; have R1 := R0.below hb; have a0 := A1.c 0 rfl; have a1 := A1.c 1 rfl; have a2 := B1.c 0 rfl; have a3 := B1.c 1 rfl)
      | (go_at_call 125; refine (whole_signed _ _ _ _ _).mono ?_; rintro e w2 ⟨rfl, hb2⟩; have A2 := A1.below hb2; have B2 := B1.below hb2; have R2 := R1.below hb2; have e0 := A2.c 0 rfl; have e1 := A2.c 1 rfl; have e2 := B2.c 0 rfl; have e3 := B2.c 1 rfl; have e4 := R2.c 0 rfl; have e5 := R2.c 1 rfl; have ef := R2.f; have ez := R2.lt))
  go_wp2
  refine bodyPost_ret (ret_blk rfl rfl ((R2.set 0 _).set 1 _) Tryz.underlying28 (by kernel_rfl)) rfl ?_
  have hlt := R0.lt
  refine ⟨_, _, by rw [← HP.out.1, ← HP.out.2]; rfl, by rw [← HP.out.2]; exact hc1, by rw [← HP.out.2]; exact (((hr1.below hb2).setCell (by simp; omega) _).setCell (by simp; omega) _).mono (fun k _ hk => by omega), ((below_go (below_go hb0 hb) hb2).setCell (by simp; omega) _).setCell (by simp; omega) _⟩

set_option maxHeartbeats 1000000 in
theorem whole_Add_lt_true (ok : Nat → Prop) (A : Option Addr) (c : Nat) (l : List Int) (ok' : Nat → Prop) (A' : Option Addr) (c' : Nat) (l' : List Int) (w : World) (h : Rd ok w A l) (hc : l.length ≤ c) (h' : Rd ok' w A' l') (hc' : l'.length ≤ c') (hbig : l.length < 1000000000) (hbig' : l'.length < 1000000000) (hlt : val l < val l') :
    Calls Tryz.prog 80 #[.agg #[.bool true, .slice A l.length c], .agg #[.bool false, .slice A' l'.length c']] w (WhOut (zv true l + zv false l') w) := by
  have HP := Asd.mk (gap_lt h.wd h'.wd true false rfl hlt)
  have HC : Asd (cmpI (val l) (val l') = -1) := ⟨by unfold cmpI; rw [if_pos hlt]⟩
  clear hlt
  go_enter Tryz.func80, Tryz.ntmps80
  go_wp2_with fail
  have A0 := ((Blk.new w [.bool true, .slice A l.length c] 28).alloc (.cells #[.bool false, .slice A' l'.length c'] 28)).alloc (.cells #[.bool false, .slice none 0 0] 28)
  have B0 := (Blk.new (w.alloc (.cells #[.bool true, .slice A l.length c] 28)) [.bool false, .slice A' l'.length c'] 28).alloc (.cells #[.bool false, .slice none 0 0] 28)
  have R0 := Blk.new ((w.alloc (.cells #[.bool true, .slice A l.length c] 28)).alloc (.cells #[.bool false, .slice A' l'.length c'] 28)) [.bool false, .slice none 0 0] 28
  have rh := (((h.alloc (.cells #[.bool true, .slice A l.length c] 28)).alloc (.cells #[.bool false, .slice A' l'.length c'] 28)).alloc (.cells #[.bool false, .slice none 0 0] 28))
  have rh' := (((h'.alloc (.cells #[.bool true, .slice A l.length c] 28)).alloc (.cells #[.bool false, .slice A' l'.length c'] 28)).alloc (.cells #[.bool false, .slice none 0 0] 28))
  have hb0 := ((((Below.refl w.heap.size w).alloc (Nat.le_refl _) (.cells #[.bool true, .slice A l.length c] 28)).alloc (by simp) (.cells #[.bool false, .slice A' l'.length c'] 28)).alloc (by simp; omega) (.cells #[.bool false, .slice none 0 0] 28))
  simp only [World.size_alloc] at B0 R0
  generalize ((w.alloc (.cells #[.bool true, .slice A l.length c] 28)).alloc (.cells #[.bool false, .slice A' l'.length c'] 28)).alloc (.cells #[.bool false, .slice none 0 0] 28) = W at *
  clear h h'
  have c0 := A0.c 0 rfl
  have c1 := A0.c 1 rfl
  have d0 := B0.c 0 rfl
  have d1 := B0.c 1 rfl
  have n1 : ¬ (w.heap.size = w.heap.size + 1 + 1) := by omega
  have n2 : ¬ (w.heap.size + 1 + 1 = w.heap.size) := by omega
  go_wp2_with fail
  refine (nat_Gap ok A c l ok' A' c' l' _ rh hc rh' hc' (by omega) (by omega)).mono ?_
  rintro e w1 ⟨A1, c1, rfl, hc1, hr1, hb⟩
  have A1 := A0.below hb; have B1 := B0.below hb; have R1 := R0.below hb
  rw [HC.out]
  have a0 := A1.c 0 rfl
  have a1 := A1.c 1 rfl
  have b0 := B1.c 0 rfl
  have b1 := B1.c 1 rfl
  go_wp2_with fail
  refine (whole_signed _ _ _ _ _).mono ?_
  rintro e w2 ⟨rfl, hb2⟩
  have A2 := A1.below hb2; have B2 := B1.below hb2; have R2 := R1.below hb2
  have f0 := A2.c 0 rfl
  have f1 := A2.c 1 rfl
  have k0 := B2.c 0 rfl
  have k1 := B2.c 1 rfl
  have r0 := R2.c 0 rfl
  have r1 := R2.c 1 rfl
  have ef := R2.f
  have ez := R2.lt
  go_wp2
  refine bodyPost_ret (ret_blk rfl rfl ((R2.set 0 _).set 1 _) Tryz.underlying28 (by kernel_rfl)) rfl ?_
  have hlt := R0.lt
  refine ⟨_, _, by rw [← HP.out.1, ← HP.out.2]; rfl, by rw [← HP.out.2]; exact hc1, by rw [← HP.out.2]; exact (((hr1.below hb2).setCell (by simp; omega) _).setCell (by simp; omega) _).mono (fun k _ hk => by omega), ((below_go (below_go hb0 hb) hb2).setCell (by simp; omega) _).setCell (by simp; omega) _⟩

set_option maxHeartbeats 1000000 in
theorem whole_Add_ge_true (ok : Nat → Prop) (A : Option Addr) (c : Nat) (l : List Int) (ok' : Nat → Prop) (A' : Option Addr) (c' : Nat) (l' : List Int) (w : World) (h : Rd ok w A l) (hc : l.length ≤ c) (h' : Rd ok' w A' l') (hc' : l'.length ≤ c') (hbig : l.length < 1000000000) (hbig' : l'.length < 1000000000) (hlt : val l' ≤ val l) :
    Calls Tryz.prog 80 #[.agg #[.bool true, .slice A l.length c], .agg #[.bool false, .slice A' l'.length c']] w (WhOut (zv true l + zv false l') w) := by
  have HP := Asd.mk (gap_ge h.wd h'.wd true false rfl hlt)
  have HC : Asd (cmpI (val l) (val l') = 0 ∨ cmpI (val l) (val l') = 1) := ⟨by unfold cmpI; split <;> first | omega | (split <;> simp)⟩
  clear hlt
  go_enter Tryz.func80, Tryz.ntmps80
  go_wp2_with fail
  have A0 := ((Blk.new w [.bool true, .slice A l.length c] 28).alloc (.cells #[.bool false, .slice A' l'.length c'] 28)).alloc (.cells #[.bool false, .slice none 0 0] 28)
  have B0 := (Blk.new (w.alloc (.cells #[.bool true, .slice A l.length c] 28)) [.bool false, .slice A' l'.length c'] 28).alloc (.cells #[.bool false, .slice none 0 0] 28)
  have R0 := Blk.new ((w.alloc (.cells #[.bool true, .slice A l.length c] 28)).alloc (.cells #[.bool false, .slice A' l'.length c'] 28)) [.bool false, .slice none 0 0] 28
  have rh := (((h.alloc (.cells #[.bool true, .slice A l.length c] 28)).alloc (.cells #[.bool false, .slice A' l'.length c'] 28)).alloc (.cells #[.bool false, .slice none 0 0] 28))
  have rh' := (((h'.alloc (.cells #[.bool true, .slice A l.length c] 28)).alloc (.cells #[.bool false, .slice A' l'.length c'] 28)).alloc (.cells #[.bool false, .slice none 0 0] 28))
  have hb0 := ((((Below.refl w.heap.size w).alloc (Nat.le_refl _) (.cells #[.bool true, .slice A l.length c] 28)).alloc (by simp) (.cells #[.bool false, .slice A' l'.length c'] 28)).alloc (by simp; omega) (.cells #[.bool false, .slice none 0 0] 28))
  simp only [World.size_alloc] at B0 R0
  generalize ((w.alloc (.cells #[.bool true, .slice A l.length c] 28)).alloc (.cells #[.bool false, .slice A' l'.length c'] 28)).alloc (.cells #[.bool false, .slice none 0 0] 28) = W at *
  clear h h'
  have c0 := A0.c 0 rfl
  have c1 := A0.c 1 rfl
  have d0 := B0.c 0 rfl
  have d1 := B0.c 1 rfl
  have n1 : ¬ (w.heap.size = w.heap.size + 1 + 1) := by omega
  have n2 : ¬ (w.heap.size + 1 + 1 = w.heap.size) := by omega
  go_wp2_with fail
  refine (nat_Gap ok A c l ok' A' c' l' _ rh hc rh' hc' (by omega) (by omega)).mono ?_
  rintro e w1 ⟨A1, c1, rfl, hc1, hr1, hb⟩
  have A1 := A0.below hb; have B1 := B0.below hb; have R1 := R0.below hb
  rcases HC.out with hC | hC <;> rw [hC] <;> clear hC
  all_goals
    have a0 := A1.c 0 rfl
    have a1 := A1.c 1 rfl
    have b0 := B1.c 0 rfl
    have b1 := B1.c 1 rfl
    go_wp2_with fail
    refine (whole_signed _ _ _ _ _).mono ?_
    rintro e w2 ⟨rfl, hb2⟩
    have A2 := A1.below hb2; have B2 := B1.below hb2; have R2 := R1.below hb2
    have f0 := A2.c 0 rfl
    have f1 := A2.c 1 rfl
    have k0 := B2.c 0 rfl
    have k1 := B2.c 1 rfl
    have r0 := R2.c 0 rfl
    have r1 := R2.c 1 rfl
    have ef := R2.f
    have ez := R2.lt
    go_wp2
    refine bodyPost_ret (ret_blk rfl rfl ((R2.set 0 _).set 1 _) Tryz.underlying28 (by kernel_rfl)) rfl ?_
    have hlt := R0.lt
    refine ⟨_, _, by rw [← HP.out.1, ← HP.out.2]; rfl, by rw [← HP.out.2]; exact hc1, by rw [← HP.out.2]; exact (((hr1.below hb2).setCell (by simp; omega) _).setCell (by simp; omega) _).mono (fun k _ hk => by omega), ((below_go (below_go hb0 hb) hb2).setCell (by simp; omega) _).setCell (by simp; omega) _⟩

set_option maxHeartbeats 1000000 in
theorem whole_Add_lt_false (ok : Nat → Prop) (A : Option Addr) (c : Nat) (l : List Int) (ok' : Nat → Prop) (A' : Option Addr) (c' : Nat) (l' : List Int) (w : World) (h : Rd ok w A l) (hc : l.length ≤ c) (h' : Rd ok' w A' l') (hc' : l'.length ≤ c') (hbig : l.length < 1000000000) (hbig' : l'.length < 1000000000) (hlt : val l < val l') :
    Calls Tryz.prog 80 #[.agg #[.bool false, .slice A l.length c], .agg #[.bool true, .slice A' l'.length c']] w (WhOut (zv false l + zv true l') w) := by
  have HP := Asd.mk (gap_lt h.wd h'.wd false true rfl hlt)
  have HC : Asd (cmpI (val l) (val l') = -1) := ⟨by unfold cmpI; rw [if_pos hlt]⟩
  clear hlt
  go_enter Tryz.func80, Tryz.ntmps80
  go_wp2_with fail
  have A0 := ((Blk.new w [.bool false, .slice A l.length c] 28).alloc (.cells #[.bool true, .slice A' l'.length c'] 28)).alloc (.cells #[.bool false, .slice none 0 0] 28)
  have B0 := (Blk.new (w.alloc (.cells #[.bool false, .slice A l.length c] 28)) [.bool true, .slice A' l'.length c'] 28).alloc (.cells #[.bool false, .slice none 0 0] 28)
  have R0 := Blk.new ((w.alloc (.cells #[.bool false, .slice A l.length c] 28)).alloc (.cells #[.bool true, .slice A' l'.length c'] 28)) [.bool false, .slice none 0 0] 28
  have rh := (((h.alloc (.cells #[.bool false, .slice A l.length c] 28)).alloc (.cells #[.bool true, .slice A' l'.length c'] 28)).alloc (.cells #[.bool false, .slice none 0 0] 28))
  have rh' := (((h'.alloc (.cells #[.bool false, .slice A l.length c] 28)).alloc (.cells #[.bool true, .slice A' l'.length c'] 28)).alloc (.cells #[.bool false, .slice none 0 0] 28))
  have hb0 := ((((Below.refl w.heap.size w).alloc (Nat.le_refl _) (.cells #[.bool false, .slice A l.length c] 28)).alloc (by simp) (.cells #[.bool true, .slice A' l'.length c'] 28)).alloc (by simp; omega) (.cells #[.bool false, .slice none 0 0] 28))
  simp only [World.size_alloc] at B0 R0
  generalize ((w.alloc (.cells #[.bool false, .slice A l.length c] 28)).alloc (.cells #[.bool true, .slice A' l'.length c'] 28)).alloc (.cells #[.bool false, .slice none 0 0] 28) = W at *
  clear h h'
  have c0 := A0.c 0 rfl
  have c1 := A0.c 1 rfl
  have d0 := B0.c 0 rfl
  have d1 := B0.c 1 rfl
  have n1 : ¬ (w.heap.size = w.heap.size + 1 + 1) := by omega
  have n2 : ¬ (w.heap.size + 1 + 1 = w.heap.size) := by omega
  go_wp2_with fail
  refine (nat_Gap ok A c l ok' A' c' l' _ rh hc rh' hc' (by omega) (by omega)).mono ?_
  rintro e w1 ⟨A1, c1, rfl, hc1, hr1, hb⟩
  have A1 := A0.below hb; have B1 := B0.below hb; have R1 := R0.below hb
  rw [HC.out]
  have a0 := A1.c 0 rfl
  have a1 := A1.c 1 rfl
  have b0 := B1.c 0 rfl
  have b1 := B1.c 1 rfl
  go_wp2_with fail
  refine (whole_signed _ _ _ _ _).mono ?_
  rintro e w2 ⟨rfl, hb2⟩
  have A2 := A1.below hb2; have B2 := B1.below hb2; have R2 := R1.below hb2
  have f0 := A2.c 0 rfl
  have f1 := A2.c 1 rfl
  have k0 := B2.c 0 rfl
  have k1 := B2.c 1 rfl
  have r0 := R2.c 0 rfl
  have r1 := R2.c 1 rfl
  have ef := R2.f
  have ez := R2.lt
  go_wp2
  refine bodyPost_ret (ret_blk rfl rfl ((R2.set 0 _).set 1 _) Tryz.underlying28 (by kernel_rfl)) rfl ?_
  have hlt := R0.lt
  refine ⟨_, _, by rw [← HP.out.1, ← HP.out.2]; rfl, by rw [← HP.out.2]; exact hc1, by rw [← HP.out.2]; exact (((hr1.below hb2).setCell (by simp; omega) _).setCell (by simp; omega) _).mono (fun k _ hk => by omega), ((below_go (below_go hb0 hb) hb2).setCell (by simp; omega) _).setCell (by simp; omega) _⟩

set_option maxHeartbeats 1000000 in
theorem whole_Add_ge_false (ok : Nat → Prop) (A : Option Addr) (c : Nat) (l : List Int) (ok' : Nat → Prop) (A' : Option Addr) (c' : Nat) (l' : List Int) (w : World) (h : Rd ok w A l) (hc : l.length ≤ c) (h' : Rd ok' w A' l') (hc' : l'.length ≤ c') (hbig : l.length < 1000000000) (hbig' : l'.length < 1000000000) (hlt : val l' ≤ val l) :
    Calls Tryz.prog 80 #[.agg #[.bool false, .slice A l.length c], .agg #[.bool true, .slice A' l'.length c']] w (WhOut (zv false l + zv true l') w) := by
  have HP := Asd.mk (gap_ge h.wd h'.wd false true rfl hlt)
  have HC : Asd (cmpI (val l) (val l') = 0 ∨ cmpI (val l) (val l') = 1) := ⟨by unfold cmpI; split <;> first | omega | (split <;> simp)⟩
  clear hlt
  go_enter Tryz.func80, Tryz.ntmps80
  go_wp2_with fail
  have A0 := ((Blk.new w [.bool false, .slice A l.length c] 28).alloc (.cells #[.bool true, .slice A' l'.length c'] 28)).alloc (.cells #[.bool false, .slice none 0 0] 28)
  have B0 := (Blk.new (w.alloc (.cells #[.bool false, .slice A l.length c] 28)) [.bool true, .slice A' l'.length c'] 28).alloc (.cells #[.bool false, .slice none 0 0] 28)
  have R0 := Blk.new ((w.alloc (.cells #[.bool false, .slice A l.length c] 28)).alloc (.cells #[.bool true, .slice A' l'.length c'] 28)) [.bool false, .slice none 0 0] 28
  have rh := (((h.alloc (.cells #[.bool false, .slice A l.length c] 28)).alloc (.cells #[.bool true, .slice A' l'.length c'] 28)).alloc (.cells #[.bool false, .slice none 0 0] 28))
  have rh' := (((h'.alloc (.cells #[.bool false, .slice A l.length c] 28)).alloc (.cells #[.bool true, .slice A' l'.length c'] 28)).alloc (.cells #[.bool false, .slice none 0 0] 28))
  have hb0 := ((((Below.refl w.heap.size w).alloc (Nat.le_refl _) (.cells #[.bool false, .slice A l.length c] 28)).alloc (by simp) (.cells #[.bool true, .slice A' l'.length c'] 28)).alloc (by simp; omega) (.cells #[.bool false, .slice none 0 0] 28))
  simp only [World.size_alloc] at B0 R0
  generalize ((w.alloc (.cells #[.bool false, .slice A l.length c] 28)).alloc (.cells #[.bool true, .slice A' l'.length c'] 28)).alloc (.cells #[.bool false, .slice none 0 0] 28) = W at *
  clear h h'
  have c0 := A0.c 0 rfl
  have c1 := A0.c 1 rfl
  have d0 := B0.c 0 rfl
  have d1 := B0.c 1 rfl
  have n1 : ¬ (w.heap.size = w.heap.size + 1 + 1) := by omega
  have n2 : ¬ (w.heap.size + 1 + 1 = w.heap.size) := by omega
  go_wp2_with fail
  refine (nat_Gap ok A c l ok' A' c' l' _ rh hc rh' hc' (by omega) (by omega)).mono ?_
  rintro e w1 ⟨A1, c1, rfl, hc1, hr1, hb⟩
  have A1 := A0.below hb; have B1 := B0.below hb; have R1 := R0.below hb
  rcases HC.out with hC | hC <;> rw [hC] <;> clear hC
  all_goals
    have a0 := A1.c 0 rfl
    have a1 := A1.c 1 rfl
    have b0 := B1.c 0 rfl
    have b1 := B1.c 1 rfl
    go_wp2_with fail
    refine (whole_signed _ _ _ _ _).mono ?_
    rintro e w2 ⟨rfl, hb2⟩
    have A2 := A1.below hb2; have B2 := B1.below hb2; have R2 := R1.below hb2
    have f0 := A2.c 0 rfl
    have f1 := A2.c 1 rfl
    have k0 := B2.c 0 rfl
    have k1 := B2.c 1 rfl
    have r0 := R2.c 0 rfl
    have r1 := R2.c 1 rfl
    have ef := R2.f
    have ez := R2.lt
    go_wp2
    refine bodyPost_ret (ret_blk rfl rfl ((R2.set 0 _).set 1 _) Tryz.underlying28 (by kernel_rfl)) rfl ?_
    have hlt := R0.lt
    refine ⟨_, _, by rw [← HP.out.1, ← HP.out.2]; rfl, by rw [← HP.out.2]; exact hc1, by rw [← HP.out.2]; exact (((hr1.below hb2).setCell (by simp; omega) _).setCell (by simp; omega) _).mono (fun k _ hk => by omega), ((below_go (below_go hb0 hb) hb2).setCell (by simp; omega) _).setCell (by simp; omega) _⟩

theorem whole_Add (ok : Nat → Prop) (n : Bool) (A : Option Addr) (c : Nat) (l : List Int) (ok' : Nat → Prop) (n' : Bool) (A' : Option Addr) (c' : Nat) (l' : List Int) (w : World) (h : Rd ok w A l) (hc : l.length ≤ c) (h' : Rd ok' w A' l') (hc' : l'.length ≤ c') (hbig : l.length < 1000000000) (hbig' : l'.length < 1000000000) :
    Calls Tryz.prog 80 #[.agg #[.bool n, .slice A l.length c], .agg #[.bool n', .slice A' l'.length c']] w (WhOut (zv n l + zv n' l') w) := by
  rcases n with _ | _ <;> rcases n' with _ | _
  · exact whole_Add_same ok _ A c l ok' A' c' l' w h hc h' hc' hbig hbig'
  · by_cases hlt : val l < val l'
    · exact whole_Add_lt_false ok A c l ok' A' c' l' w h hc h' hc' hbig hbig' hlt
    · exact whole_Add_ge_false ok A c l ok' A' c' l' w h hc h' hc' hbig hbig' (by omega)
  · by_cases hlt : val l < val l'
    · exact whole_Add_lt_true ok A c l ok' A' c' l' w h hc h' hc' hbig hbig' hlt
    · exact whole_Add_ge_true ok A c l ok' A' c' l' w h hc h' hc' hbig hbig' (by omega)
  · exact whole_Add_same ok _ A c l ok' A' c' l' w h hc h' hc' hbig hbig'
end Go.Proofs.YthjpkichpkomcaaGreatDoor
