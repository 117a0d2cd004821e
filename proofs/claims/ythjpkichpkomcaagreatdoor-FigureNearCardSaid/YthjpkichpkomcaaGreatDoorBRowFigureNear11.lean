/- Whole1 -/
import Derived.Test.YthjpkichpkomcaaGreatDoorBRowFigureNear9
import Derived.Outline
import Derived.Deep.RegionHeld3
import Derived.Deep.DrawnRows
/- Layer 8: whole numbers with a sign (whole). -/
namespace Go.Proofs.YthjpkichpkomcaaGreatDoor
open Go.RowKit Go.Proofs.YthjpkichpkomcaaGreatDoor.Big
set_option linter.unusedVariables false
set_option maxRecDepth 100000
attribute [local go_sem ↓] Go.wp_at_zero Go.wp_at_succ

set_option maxHeartbeats 400000 in
theorem whole_signed (n : Bool) (A : Option Addr) (c : Nat) (l : List Int) (w : World) :
    Calls Tryz.prog 125 #[.bool n, .slice A l.length c] w fun e w' => e = .returned (.agg #[.bool (n && decide (0 < l.length)), .slice A l.length c]) ∧ Below w.heap.size w w' := by
  cases n
  · go_enter Tryz.func125, Tryz.ntmps125
    go_wp2
    exact bodyPost_ret (v := .agg #[.bool false, .slice A l.length c]) (by simp [results, Tryz.results125, go_sem]) rfl ⟨rfl, (Below.refl _ _).alloc (Nat.le_refl _) _⟩
  · go_enter Tryz.func125, Tryz.ntmps125
    go_wp2
    exact bodyPost_ret (v := .agg #[.bool (decide (0 < l.length)), .slice A l.length c]) (by simp [results, Tryz.results125, go_sem]) rfl ⟨rfl, (Below.refl _ _).alloc (Nat.le_refl _) _⟩

/-- The value of a whole number; its sign and its words. -/
def zv (n : Bool) (l : List Int) : Int := if n = true then -(val l) else val l
def ng (z : Int) : Bool := decide (z < 0)
def mag (z : Int) : List Int := rep (z.natAbs : Int)
theorem val_mag (z : Int) : val (mag z) = (z.natAbs : Int) := val_rep (by omega)
theorem zv_mag (z : Int) : zv (ng z) (mag z) = z := by
  unfold zv ng
  rw [val_mag]
  by_cases h : z < 0
  · rw [decide_eq_true h, if_pos rfl]; omega
  · rw [decide_eq_false h, if_neg (by decide)]; omega
theorem mag_zv {n : Bool} {l : List Int} (hw : Wd l) : mag (zv n l) = rep (val l) := by
  have := val_nonneg hw
  unfold mag zv
  cases n
  · rw [if_neg (by decide)]; congr 1; omega
  · rw [if_pos rfl]; congr 1; omega
theorem ng_zv {n : Bool} {l : List Int} (hw : Wd l) : ng (zv n l) = (n && decide (0 < val l)) := by
  have := val_nonneg hw
  unfold ng zv
  cases n
  · rw [if_neg (by decide)]; simp; omega
  · rw [if_pos rfl]; simp
theorem zv_not (n : Bool) (l : List Int) : zv (!n) l = -zv n l := by cases n <;> simp [zv]
theorem rep_pos_len {z : Int} (h : 0 ≤ z) : decide (0 < (rep z).length) = decide (0 < z) := by
  by_cases hz : 0 < z
  · rw [decide_eq_true hz, decide_eq_true (rep_length_pos hz)]
  · rw [decide_eq_false hz, rep_nil (by omega)]; rfl
/-- What a right whole number of value z is returned as. -/
def WhOut (z : Int) (w : World) (e : Ending) (w' : World) : Prop := ∃ A1 c1, e = .returned (.agg #[.bool (ng z), .slice A1 (mag z).length c1]) ∧ (mag z).length ≤ c1 ∧ Rd (fun k => w.heap.size ≤ k) w' A1 (mag z) ∧ Below w.heap.size w w'

set_option maxHeartbeats 400000 in
theorem whole_Norm (ok : Nat → Prop) (n : Bool) (A : Option Addr) (c : Nat) (l : List Int) (w : World) (h : Rd ok w A l) (hc : l.length ≤ c) :
    Calls Tryz.prog 112 #[.agg #[.bool n, .slice A l.length c]] w (WhOut (zv n l) w) := by
  have HP : Asd ((n && decide (0 < (rep (val l)).length)) = ng (zv n l) ∧ rep (val l) = mag (zv n l)) := ⟨by rw [rep_pos_len (val_nonneg h.wd), ng_zv h.wd], by rw [mag_zv h.wd]⟩
  go_enter Tryz.func112, Tryz.ntmps112
  go_wp2_with fail
  have B0 := (Blk.new w [.bool n, .slice A l.length c] 28).alloc (.cells #[.bool false, .slice none 0 0] 28)
  have R0 := Blk.new (w.alloc (.cells #[.bool n, .slice A l.length c] 28)) [.bool false, .slice none 0 0] 28
  have hr := (h.alloc (.cells #[.bool n, .slice A l.length c] 28)).alloc (.cells #[.bool false, .slice none 0 0] 28)
  have hb0 := ((Below.refl w.heap.size w).alloc (Nat.le_refl _) (.cells #[.bool n, .slice A l.length c] 28)).alloc (by simp) (.cells #[.bool false, .slice none 0 0] 28)
  simp only [World.size_alloc] at R0
  generalize (w.alloc (.cells #[.bool n, .slice A l.length c] 28)).alloc (.cells #[.bool false, .slice none 0 0] 28) = W at *
  clear h
  have c0 := B0.c 0 rfl
  have c1 := B0.c 1 rfl
  go_region_held3 (fun w' => w'.cell? ⟨w.heap.size, 0, none⟩ = some (.bool n) ∧ w'.cell? ⟨w.heap.size, 1, none⟩ = some (.slice A l.length c)) (go_keep)
    (first
      | (go_at_call 138; refine (nat_Norm ok A c l _ ?_ hc).mono ?_; (exact hr.drew); rintro e w1 ⟨g, rfl, how, hg, hb⟩; replace hb := undrew hb; replace hg : W.heap.size ≤ g := hg; have B1 := B0.below hb; have R1 := R0.below hb; have d0 := B1.c 0 rfl; have d1 := B1.c 1 rfl)
      | (go_at_call 125; refine (whole_signed _ _ _ _ _).mono ?_; rintro e w2 ⟨rfl, hb2⟩; have B2 := B1.below hb2; have R2 := R1.below hb2; have e0 := B2.c 0 rfl; have e1 := B2.c 1 rfl; have e2 := R2.c 0 rfl; have e3 := R2.c 1 rfl; have ef := R2.f; have ez := R2.lt))
  go_wp2
  refine bodyPost_ret (ret_blk rfl rfl ((R2.set 0 _).set 1 _) Tryz.underlying28 (by kernel_rfl)) rfl ?_
  have hlt := R0.lt
  refine ⟨_, _, by rw [← HP.out.1, ← HP.out.2]; rfl, by rw [← HP.out.2]; exact Nat.le_refl _, by rw [← HP.out.2]; exact (((how.below hb2).setCell (by simp; omega) _).setCell (by simp; omega) _).rd (by omega), ((below_go (below_go hb0 hb) hb2).setCell (by simp) _).setCell (by simp) _⟩

set_option maxHeartbeats 400000 in
theorem whole_Neg (ok : Nat → Prop) (n : Bool) (A : Option Addr) (c : Nat) (l : List Int) (w : World) (h : Rd ok w A l) (hc : l.length ≤ c) :
    Calls Tryz.prog 136 #[.agg #[.bool n, .slice A l.length c]] w (WhOut (-zv n l) w) := by
  have HP : Asd ((!n && decide (0 < (rep (val l)).length)) = ng (-zv n l) ∧ rep (val l) = mag (-zv n l)) := ⟨by rw [rep_pos_len (val_nonneg h.wd), ← zv_not, ng_zv h.wd], by rw [← zv_not, mag_zv h.wd]⟩
  go_enter Tryz.func136, Tryz.ntmps136
  go_wp2_with fail
  have B0 := (Blk.new w [.bool n, .slice A l.length c] 28).alloc (.cells #[.bool false, .slice none 0 0] 28)
  have R0 := Blk.new (w.alloc (.cells #[.bool n, .slice A l.length c] 28)) [.bool false, .slice none 0 0] 28
  have hr := (h.alloc (.cells #[.bool n, .slice A l.length c] 28)).alloc (.cells #[.bool false, .slice none 0 0] 28)
  have hb0 := ((Below.refl w.heap.size w).alloc (Nat.le_refl _) (.cells #[.bool n, .slice A l.length c] 28)).alloc (by simp) (.cells #[.bool false, .slice none 0 0] 28)
  simp only [World.size_alloc] at R0
  generalize (w.alloc (.cells #[.bool n, .slice A l.length c] 28)).alloc (.cells #[.bool false, .slice none 0 0] 28) = W at *
  clear h
  have c0 := B0.c 0 rfl
  have c1 := B0.c 1 rfl
  go_region_held3 (fun w' => w'.cell? ⟨w.heap.size, 0, none⟩ = some (.bool n) ∧ w'.cell? ⟨w.heap.size, 1, none⟩ = some (.slice A l.length c)) (go_keep)
    (first
      | (go_at_call 138; refine (nat_Norm ok A c l _ ?_ hc).mono ?_; (exact hr.drew); rintro e w1 ⟨g, rfl, how, hg, hb⟩; replace hb := undrew hb; replace hg : W.heap.size ≤ g := hg; have B1 := B0.below hb; have R1 := R0.below hb; have d0 := B1.c 0 rfl; have d1 := B1.c 1 rfl)
      | (go_at_call 125; refine (whole_signed _ _ _ _ _).mono ?_; rintro e w2 ⟨rfl, hb2⟩; have B2 := B1.below hb2; have R2 := R1.below hb2; have e0 := B2.c 0 rfl; have e1 := B2.c 1 rfl; have e2 := R2.c 0 rfl; have e3 := R2.c 1 rfl; have ef := R2.f; have ez := R2.lt))
  go_wp2
  refine bodyPost_ret (ret_blk rfl rfl ((R2.set 0 _).set 1 _) Tryz.underlying28 (by kernel_rfl)) rfl ?_
  have hlt := R0.lt
  refine ⟨_, _, by rw [← HP.out.1, ← HP.out.2]; rfl, by rw [← HP.out.2]; exact Nat.le_refl _, by rw [← HP.out.2]; exact (((how.below hb2).setCell (by simp; omega) _).setCell (by simp; omega) _).rd (by omega), ((below_go (below_go hb0 hb) hb2).setCell (by simp) _).setCell (by simp) _⟩

theorem zv_mul (n n' : Bool) (l l' : List Int) : zv (n != n') (rep 0) = 0 ∧ zv n l * zv n' l' = (if n = n' then val l * val l' else -(val l * val l')) := by
  constructor
  · unfold zv; rw [rep_zero, val_nil]; split <;> rfl
  · cases n <;> cases n' <;> simp [zv, Int.mul_neg, Int.neg_mul]
theorem mul_out {n n' : Bool} {l l' : List Int} (hw : Wd l) (hw' : Wd l') : ((n != n') && decide (0 < (rep (val l * val l')).length)) = ng (zv n l * zv n' l') ∧ rep (val l * val l') = mag (zv n l * zv n' l') := by
  have hp := Int.mul_nonneg (val_nonneg hw) (val_nonneg hw')
  rw [rep_pos_len hp, (zv_mul n n' l l').2]
  unfold ng mag
  cases n <;> cases n' <;> simp <;> (try omega) <;> (first | (constructor <;> first | omega | (congr 1; omega)) | (congr 1; omega))

set_option maxHeartbeats 1000000 in
theorem whole_Mul (ok : Nat → Prop) (n : Bool) (A : Option Addr) (c : Nat) (l : List Int) (ok' : Nat → Prop) (n' : Bool) (A' : Option Addr) (c' : Nat) (l' : List Int) (w : World) (h : Rd ok w A l) (hc : l.length ≤ c) (h' : Rd ok' w A' l') (hc' : l'.length ≤ c') (hbig : l.length < 10000000000) (hbig' : l'.length < 10000000000) :
    Calls Tryz.prog 81 #[.agg #[.bool n, .slice A l.length c], .agg #[.bool n', .slice A' l'.length c']] w (WhOut (zv n l * zv n' l') w) := by
  have HP := Asd.mk (mul_out (n := n) (n' := n') h.wd h'.wd)
  go_enter Tryz.func81, Tryz.ntmps81
  go_wp2_with fail
  have A0 := ((Blk.new w [.bool n, .slice A l.length c] 28).alloc (.cells #[.bool n', .slice A' l'.length c'] 28)).alloc (.cells #[.bool false, .slice none 0 0] 28)
  have B0 := (Blk.new (w.alloc (.cells #[.bool n, .slice A l.length c] 28)) [.bool n', .slice A' l'.length c'] 28).alloc (.cells #[.bool false, .slice none 0 0] 28)
  have R0 := Blk.new ((w.alloc (.cells #[.bool n, .slice A l.length c] 28)).alloc (.cells #[.bool n', .slice A' l'.length c'] 28)) [.bool false, .slice none 0 0] 28
  have hr := ((h.alloc (.cells #[.bool n, .slice A l.length c] 28)).alloc (.cells #[.bool n', .slice A' l'.length c'] 28)).alloc (.cells #[.bool false, .slice none 0 0] 28)
  have hr' := ((h'.alloc (.cells #[.bool n, .slice A l.length c] 28)).alloc (.cells #[.bool n', .slice A' l'.length c'] 28)).alloc (.cells #[.bool false, .slice none 0 0] 28)
  have hb0 := (((Below.refl w.heap.size w).alloc (Nat.le_refl _) (.cells #[.bool n, .slice A l.length c] 28)).alloc (by simp) (.cells #[.bool n', .slice A' l'.length c'] 28)).alloc (by simp; omega) (.cells #[.bool false, .slice none 0 0] 28)
  simp only [World.size_alloc] at R0 B0
  generalize ((w.alloc (.cells #[.bool n, .slice A l.length c] 28)).alloc (.cells #[.bool n', .slice A' l'.length c'] 28)).alloc (.cells #[.bool false, .slice none 0 0] 28) = W at *
  clear h h'
  have c0 := A0.c 0 rfl
  have c1 := A0.c 1 rfl
  have c2 := B0.c 0 rfl
  have c3 := B0.c 1 rfl
  have n1 : ¬ (w.heap.size = w.heap.size + 1 + 1) := by omega
  have n2 : ¬ (w.heap.size + 1 + 1 = w.heap.size) := by omega
  go_region_held3 (fun w' => w'.cell? ⟨w.heap.size, 0, none⟩ = some (.bool n) ∧ w'.cell? ⟨w.heap.size, 1, none⟩ = some (.slice A l.length c) ∧ w'.cell? ⟨w.heap.size + 1, 0, none⟩ = some (.bool n') ∧ w'.cell? ⟨w.heap.size + 1, 1, none⟩ = some (.slice A' l'.length c')) (go_keep)
    (first
      | (go_at_call 79; refine (prod_Mul ok A c l ok' A' c' l' _ ?_ hc ?_ hc' (by omega) (by omega)).mono ?_; (exact hr.drew); (exact hr'.drew); rintro e w1 ⟨g, rfl, how, hg, hb⟩; replace hb := undrew hb; replace hg : W.heap.size ≤ g := hg; have R1 := R0.below hb; have A1 := A0.below hb; have B1 := B0.below hb; have d0 := A1.c 0 rfl; have d1 := A1.c 1 rfl; have d2 := B1.c 0 rfl; have d3 := B1.c 1 rfl)
      | (go_at_call 125; refine (whole_signed _ _ _ _ _).mono ?_; rintro e w2 ⟨rfl, hb2⟩; have A2 := A1.below hb2; have B2 := B1.below hb2; have R2 := R1.below hb2; have e0 := A2.c 0 rfl; have e1 := A2.c 1 rfl; have e2 := B2.c 0 rfl; have e3 := B2.c 1 rfl; have e4 := R2.c 0 rfl; have e5 := R2.c 1 rfl; have ef := R2.f; have ez := R2.lt))
  go_wp2
  refine bodyPost_ret (ret_blk rfl rfl ((R2.set 0 _).set 1 _) Tryz.underlying28 (by kernel_rfl)) rfl ?_
  have hlt := R0.lt
  refine ⟨_, _, by rw [← HP.out.1, ← HP.out.2]; rfl, by rw [← HP.out.2]; exact Nat.le_refl _, by rw [← HP.out.2]; exact (((how.below hb2).setCell (by simp; omega) _).setCell (by simp; omega) _).rd (by omega), ((below_go (below_go hb0 hb) hb2).setCell (by simp; omega) _).setCell (by simp; omega) _⟩
end Go.Proofs.YthjpkichpkomcaaGreatDoor
