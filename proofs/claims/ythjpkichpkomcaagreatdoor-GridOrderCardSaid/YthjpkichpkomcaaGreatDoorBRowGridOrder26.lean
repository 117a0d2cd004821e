/- FracA -/
import Derived.Test.YthjpkichpkomcaaGreatDoorCommon
import Derived.Test.YthjpkichpkomcaaGreatDoorWhole4
import Derived.Test.YthjpkichpkomcaaGreatDoorBRowGridOrder24
import Derived.Test.YthjpkichpkomcaaGreatDoorRet
import Derived.Outline
import Derived.Deep.RegionHeld3
import Derived.Deep.DrawnRows
/- Layer 9: fractions: what a right one is; cancel, parts, Norm (frac). -/
namespace Go.Proofs.YthjpkichpkomcaaGreatDoor
open Go.RowKit Go.Proofs.YthjpkichpkomcaaGreatDoor.Big
set_option linter.unusedVariables false
set_option maxRecDepth 100000
attribute [local go_sem ↓] Go.wp_at_zero Go.wp_at_succ

theorem dv_num {z d : Int} (hd : 0 < d) : (Rat.divInt z d).num = z / gc z d := by
  rw [Rat.num_divInt, Int.sign_eq_one_of_pos hd, Int.one_mul, Int.gcd_comm]; rfl
theorem dv_den {z d : Int} (hd : 0 < d) : ((Rat.divInt z d).den : Int) = d / gc z d := by
  rw [Rat.den_divInt, if_neg (by omega), Int.gcd_comm]
  unfold gc
  rw [Int.natCast_ediv]; congr 1; omega
theorem gc_zv {n : Bool} {l : List Int} (d : Int) : gc (zv n l) d = gc (val l) d := by
  unfold gc zv; split
  · rw [Int.neg_gcd]
  · rfl
theorem zv_ediv {n : Bool} {l : List Int} {g : Int} (h0 : 0 ≤ val l / g) (hg : g ∣ val l) : zv n (rep (val l / g)) = zv n l / g := by
  unfold zv
  rw [val_rep h0]
  split
  · rw [Int.neg_ediv_of_dvd hg]
  · rfl
theorem den_pos (q : Rat) : 0 < (q.den : Int) := by have := q.den_pos; omega
theorem cancel_num {n : Bool} {l : List Int} {d : Int} (hw : Wd l) (hd : 0 < d) : zv n (rep (val l / gc (val l) d)) = (Rat.divInt (zv n l) d).num := by
  rw [dv_num hd, gc_zv, zv_ediv (Int.ediv_nonneg (val_nonneg hw) (gc_nonneg _ _)) (gc_dvd_left _ _)]
theorem cancel_den {n : Bool} {l : List Int} {d : Int} (hd : 0 < d) : d / gc (val l) d = ((Rat.divInt (zv n l) d).den : Int) := by
  rw [dv_den hd, gc_zv]
theorem num_le {z d : Int} (hd : 0 < d) : ((Rat.divInt z d).num.natAbs : Int) ≤ z.natAbs := by
  rw [dv_num hd]
  have := Int.natAbs_ediv_le_natAbs z (gc z d)
  omega
theorem den_le {z d : Int} (hd : 0 < d) : ((Rat.divInt z d).den : Int) ≤ d := by
  rw [dv_den hd]; exact Int.ediv_le_self _ (by omega)

/-- How many words a fraction's numbers have at most. -/
def Sz (k : Nat) (q : Rat) : Prop := (mag q.num).length ≤ k ∧ (rep q.den).length ≤ k
theorem Sz.mono {k m : Nat} {q : Rat} (h : Sz k q) (hm : k ≤ m) : Sz m q := ⟨Nat.le_trans h.1 hm, Nat.le_trans h.2 hm⟩
theorem sz_dv {z d : Int} (hd : 0 < d) {k : Nat} (hz : (mag z).length ≤ k) (hdl : (rep d).length ≤ k) : Sz k (Rat.divInt z d) :=
  ⟨Nat.le_trans (len_le (num_le hd)) hz, Nat.le_trans (rep_length_mono (by omega) (den_le hd)) hdl⟩

/-- What a right fraction of value q is returned as. -/
def FrOut (q : Rat) (w : World) (e : Ending) (w' : World) : Prop := ∃ A1 c1 A2 c2, e = .returned (.agg #[.bool (ng q.num), .slice A1 (mag q.num).length c1, .slice A2 (rep q.den).length c2]) ∧ (mag q.num).length ≤ c1 ∧ (rep q.den).length ≤ c2 ∧ Rd (fun k => w.heap.size ≤ k) w' A1 (mag q.num) ∧ Rd (fun k => w.heap.size ≤ k) w' A2 (rep q.den) ∧ Below w.heap.size w w'

set_option maxHeartbeats 1000000 in
theorem frac_cancel (ok : Nat → Prop) (n : Bool) (A : Option Addr) (c : Nat) (l : List Int) (ok' : Nat → Prop) (A' : Option Addr) (c' : Nat) (l' : List Int) (w : World) (h : Rd ok w A l) (hc : l.length ≤ c) (h' : Rd ok' w A' l') (hc' : l'.length ≤ c') (hbig : l.length < 1000000000) (hbig' : l'.length < 1000000000) (hpos : 0 < val l') :
    Calls Tryz.prog 59 #[.agg #[.bool n, .slice A l.length c], .slice A' l'.length c'] w (FrOut (Rat.divInt (zv n l) (val l')) w) := by
  have HQ := Asd.mk (And.intro (cancel_num (n := n) h.wd hpos) (cancel_den (n := n) (l := l) hpos))
  go_enter Tryz.func59, Tryz.ntmps59
  go_wp2_with fail
  have A0 := (Blk.new w [.bool n, .slice A l.length c] 28).alloc (.cells #[.bool false, .slice none 0 0, .slice none 0 0] 30)
  have R0 := Blk.new (w.alloc (.cells #[.bool n, .slice A l.length c] 28)) [.bool false, .slice none 0 0, .slice none 0 0] 30
  have rh := (h.alloc (.cells #[.bool n, .slice A l.length c] 28)).alloc (.cells #[.bool false, .slice none 0 0, .slice none 0 0] 30)
  have rh' := (h'.alloc (.cells #[.bool n, .slice A l.length c] 28)).alloc (.cells #[.bool false, .slice none 0 0, .slice none 0 0] 30)
  have hb0 := ((Below.refl w.heap.size w).alloc (Nat.le_refl _) (.cells #[.bool n, .slice A l.length c] 28)).alloc (by simp) (.cells #[.bool false, .slice none 0 0, .slice none 0 0] 30)
  simp only [World.size_alloc] at R0
  generalize (w.alloc (.cells #[.bool n, .slice A l.length c] 28)).alloc (.cells #[.bool false, .slice none 0 0, .slice none 0 0] 30) = W at *
  clear h h'
  refine (common_Cancel _ A c l _ A' c' l' W rh hc rh' hc' hbig hbig' hpos).mono ?_
  rintro e w1 ⟨X, cx, Y, cy, rfl, hcx, hcy, hrx, hry, hb1⟩
  have A1 := A0.below hb1; have R1 := R0.below hb1
  have a0 := A1.c 0 rfl; have a1 := A1.c 1 rfl
  have hlx : (rep (val l / gc (val l) (val l'))).length ≤ l.length := rep_length_le (Int.lt_of_le_of_lt (Int.ediv_le_self _ (val_nonneg rh.wd)) (val_lt rh.wd))
  have hnum := whole_Norm _ n X cx _ w1 hrx hcx
  rw [HQ.out.1] at hnum
  rw [HQ.out.2] at hcy hry ⊢
  generalize Rat.divInt (zv n l) (val l') = q at *
  have HN := Asd.mk hnum
  clear hnum HQ
  go_wp2_with fail
  refine HN.out.mono ?_
  rintro e w2 ⟨P, cp, rfl, hcp, hrp, hb2⟩
  have R2 := R1.below hb2
  have r0 := R2.c 0 rfl; have r1 := R2.c 1 rfl; have r2 := R2.c 2 rfl; have rf := R2.f; have rl := R2.lt
  have hlt := R0.lt
  have hs1 := hb1.size
  go_wp2
  refine bodyPost_ret (ret_blk rfl rfl (((R2.set 0 _).set 1 _).set 2 _) Tryz.underlying30 (by kernel_rfl)) rfl ?_
  exact ⟨P, cp, Y, cy, rfl, hcp, hcy, (((hrp.setCell (by simp; omega) _).setCell (by simp; omega) _).setCell (by simp; omega) _).mono (fun k _ hk => by omega), ((((hry.below hb2).setCell (by simp; omega) _).setCell (by simp; omega) _).setCell (by simp; omega) _).mono (fun k _ hk => by omega), (((below_go (below_go hb0 hb1) hb2).setCell (by simp) _).setCell (by simp) _).setCell (by simp) _⟩

/-- A fraction's numbers, the lower one above 0. -/
def PartsOut (q : Rat) (k : Nat) (w : World) (e : Ending) (w' : World) : Prop := ∃ n A1 c1 l1 A2 c2 l2, e = .returned (.tuple #[.agg #[.bool n, .slice A1 (l1 : List Int).length c1], .slice A2 (l2 : List Int).length c2]) ∧ l1.length ≤ c1 ∧ l2.length ≤ c2 ∧ Rd (fun _ => True) w' A1 l1 ∧ Rd (fun _ => True) w' A2 l2 ∧ 0 < val l2 ∧ l1.length ≤ k ∧ l2.length ≤ k ∧ Rat.divInt (zv n l1) (val l2) = q ∧ Below w.heap.size w w'

set_option maxHeartbeats 1000000 in
theorem frac_parts (ok : Nat → Prop) (n : Bool) (A : Option Addr) (c : Nat) (l : List Int) (ok' : Nat → Prop) (A' : Option Addr) (c' : Nat) (l' : List Int) (k : Nat) (w : World) (h : Rd ok w A l) (hc : l.length ≤ c) (h' : Rd ok' w A' l') (hc' : l'.length ≤ c') (hk : l.length ≤ k) (hk' : l'.length ≤ k) (hk1 : 1 ≤ k) :
    Calls Tryz.prog 60 #[.agg #[.bool n, .slice A l.length c, .slice A' l'.length c']] w (PartsOut (Rat.divInt (zv n l) (val l')) k w) := by
  have hn' := val_nonneg h'.wd
  replace h := h.mono (ok' := fun k => k < w.heap.size) (fun k hk _ => hk)
  replace h' := h'.mono (ok' := fun k => k < w.heap.size) (fun k hk _ => hk)
  go_enter Tryz.func60, Tryz.ntmps60
  go_wp2_with fail
  have A0 := (Blk.new w [.bool n, .slice A l.length c, .slice A' l'.length c'] 30).alloc (.cells #[.bool false, .slice none 0 0] 28)
  have R0 := Blk.new (w.alloc (.cells #[.bool n, .slice A l.length c, .slice A' l'.length c'] 30)) [.bool false, .slice none 0 0] 28
  have rh := (h.alloc (.cells #[.bool n, .slice A l.length c, .slice A' l'.length c'] 30)).alloc (.cells #[.bool false, .slice none 0 0] 28)
  have rh' := (h'.alloc (.cells #[.bool n, .slice A l.length c, .slice A' l'.length c'] 30)).alloc (.cells #[.bool false, .slice none 0 0] 28)
  have hb0 := ((Below.refl w.heap.size w).alloc (Nat.le_refl _) (.cells #[.bool n, .slice A l.length c, .slice A' l'.length c'] 30)).alloc (by simp) (.cells #[.bool false, .slice none 0 0] 28)
  simp only [World.size_alloc] at R0
  generalize (w.alloc (.cells #[.bool n, .slice A l.length c, .slice A' l'.length c'] 30)).alloc (.cells #[.bool false, .slice none 0 0] 28) = W at *
  clear h h'
  refine (nat_Zero _ A' c' l' W rh' hc').mono ?_
  rintro e w1 ⟨rfl, rfl⟩
  have a0 := A0.c 0 rfl; have a1 := A0.c 1 rfl; have a2 := A0.c 2 rfl
  have r0 := R0.c 0 rfl; have r1 := R0.c 1 rfl; have rf := R0.f; have rl := R0.lt
  by_cases hz : val l' = 0
  · have hd : decide (val l' = 0) = true := decide_eq_true hz
    rw [hd]
    have HQ0 : Asd (Rat.divInt (zv n l) (val l') = 0) := ⟨by rw [hz, Rat.divInt_zero]⟩
    clear hd hz
    go_wp2_with fail
    refine (nat_Of 1 (by decide) (by decide) _).mono ?_
    rintro e w2 ⟨X, cx, rfl, hcx, hrx, hb2⟩
    have R2 := R0.below hb2
    have r0 := R2.c 0 rfl; have r1 := R2.c 1 rfl; have rf := R2.f; have rl2 := R2.lt
    have e1 : val (rep 1) = 1 := val_rep (by decide)
    have hl1 : (rep 1).length = 1 := by rw [rep_word (by decide) (by decide)]; rfl
    have HE := Asd.mk (And.intro e1 hl1)
    clear e1 hl1
    go_wp2
    refine bodyPost_ret (ret_blk_tmp rfl rfl rfl ((R2.set 0 _).set 1 _) Tryz.underlying28 (by kernel_rfl)) rfl ?_
    refine ⟨false, none, 0, [], X, cx, rep 1, rfl, Nat.le_refl _, hcx, Rd.nil _ _ _, ((hrx.setCell (by simp; omega) _).setCell (by simp; omega) _).mono (fun _ _ _ => trivial), by rw [HE.out.1]; decide, Nat.zero_le _, by rw [HE.out.2]; exact hk1, ?_, ((below_go hb0 hb2).setCell (by simp) _).setCell (by simp) _⟩
    rw [HQ0.out]; exact Rat.zero_divInt _
  · have hd : decide (val l' = 0) = false := decide_eq_false hz
    rw [hd]
    have HP : Asd (0 < val l') := ⟨by omega⟩
    clear hd hz
    have n1 : ¬ (w.heap.size = w.heap.size + 1) := by omega
    have n2 : ¬ (w.heap.size + 1 = w.heap.size) := by omega
    go_wp2_with fail
    go_region_held3 (fun w' => w'.cell? ⟨w.heap.size, 0, none⟩ = some (.bool n) ∧ w'.cell? ⟨w.heap.size, 1, none⟩ = some (.slice A l.length c) ∧ w'.cell? ⟨w.heap.size, 2, none⟩ = some (.slice A' l'.length c')) (go_keep) (fail)
    all_goals go_wp2
    all_goals refine bodyPost_ret (ret_blk_tmp rfl rfl rfl ((R0.set 0 _).set 1 _).drew Tryz.underlying28 (by kernel_rfl)) rfl ?_
    all_goals exact ⟨n, A, c, l, A', c', l', rfl, hc, hc', (((rh.setCell (by simp) _).setCell (by simp) _).drew.mono (fun _ _ _ => trivial)), (((rh'.setCell (by simp) _).setCell (by simp) _).drew.mono (fun _ _ _ => trivial)), HP.out, hk, hk', rfl, below_drewN ((hb0.setCell (by simp) _).setCell (by simp) _) 1⟩
end Go.Proofs.YthjpkichpkomcaaGreatDoor
