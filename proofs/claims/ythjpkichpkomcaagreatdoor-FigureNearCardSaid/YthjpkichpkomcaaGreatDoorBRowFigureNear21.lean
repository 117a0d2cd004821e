/- FracA · RFr · FracN -/
import Derived.Test.YthjpkichpkomcaaGreatDoorBRowFigureNear10
import Derived.Test.YthjpkichpkomcaaGreatDoorBRowFigureNear14
import Derived.Test.YthjpkichpkomcaaGreatDoorBRowFigureNear19
import Derived.Test.YthjpkichpkomcaaGreatDoorRet
import Derived.Outline
import Derived.Deep.RegionHeld3
import Derived.Deep.DrawnRows
import Derived.Deep.RegionWith
import Derived.WalkLawsBesides
/- Layer 9: fractions: what a right one is; cancel, parts, Norm (frac). -/
namespace Go.Proofs.YthjpkichpkomcaaGreatDoor
open Go.RowKit Go.Proofs.YthjpkichpkomcaaGreatDoor.Big
set_option linter.unusedVariables false
set_option maxRecDepth 100000
attribute [local go_sem ↓] Go.wp_at_zero Go.wp_at_succ

theorem dv_num {z d : Int} (hd : 0 < d) : (Rat.divInt z d).num = z / gc z d := by
  rw [Rat.num_divInt, Int.sign_eq_one_of_pos hd, Int.one_mul, Int.gcd_comm]; rfl
theorem dv_den {z d : Int} (hd : 0 < d) : ((Rat.divInt z d).den : Int) = d / gc z d := by
  rw [Rat.den_divInt, if_neg (by omega), Int.gcd_comm]
  unfold gc
  rw [Int.natCast_ediv]; congr 1; omega
theorem gc_zv {n : Bool} {l : List Int} (d : Int) : gc (zv n l) d = gc (val l) d := by
  unfold gc zv; split
  · rw [Int.neg_gcd]
  · rfl
theorem zv_ediv {n : Bool} {l : List Int} {g : Int} (h0 : 0 ≤ val l / g) (hg : g ∣ val l) : zv n (rep (val l / g)) = zv n l / g := by
  unfold zv
  rw [val_rep h0]
  split
  · rw [Int.neg_ediv_of_dvd hg]
  · rfl
theorem den_pos (q : Rat) : 0 < (q.den : Int) := by have := q.den_pos; omega
theorem cancel_num {n : Bool} {l : List Int} {d : Int} (hw : Wd l) (hd : 0 < d) : zv n (rep (val l / gc (val l) d)) = (Rat.divInt (zv n l) d).num := by
  rw [dv_num hd, gc_zv, zv_ediv (Int.ediv_nonneg (val_nonneg hw) (gc_nonneg _ _)) (gc_dvd_left _ _)]
theorem cancel_den {n : Bool} {l : List Int} {d : Int} (hd : 0 < d) : d / gc (val l) d = ((Rat.divInt (zv n l) d).den : Int) := by
  rw [dv_den hd, gc_zv]
theorem num_le {z d : Int} (hd : 0 < d) : ((Rat.divInt z d).num.natAbs : Int) ≤ z.natAbs := by
  rw [dv_num hd]
  have := Int.natAbs_ediv_le_natAbs z (gc z d)
  omega
theorem den_le {z d : Int} (hd : 0 < d) : ((Rat.divInt z d).den : Int) ≤ d := by
  rw [dv_den hd]; exact Int.ediv_le_self _ (by omega)

/-- How many words a fraction's numbers have at most. -/
def Sz (k : Nat) (q : Rat) : Prop := (mag q.num).length ≤ k ∧ (rep q.den).length ≤ k
theorem Sz.mono {k m : Nat} {q : Rat} (h : Sz k q) (hm : k ≤ m) : Sz m q := ⟨Nat.le_trans h.1 hm, Nat.le_trans h.2 hm⟩
theorem sz_dv {z d : Int} (hd : 0 < d) {k : Nat} (hz : (mag z).length ≤ k) (hdl : (rep d).length ≤ k) : Sz k (Rat.divInt z d) :=
  ⟨Nat.le_trans (len_le (num_le hd)) hz, Nat.le_trans (rep_length_mono (by omega) (den_le hd)) hdl⟩

/-- What a right fraction of value q is returned as. -/
def FrOut (q : Rat) (w : World) (e : Ending) (w' : World) : Prop := ∃ A1 c1 A2 c2, e = .returned (.agg #[.bool (ng q.num), .slice A1 (mag q.num).length c1, .slice A2 (rep q.den).length c2]) ∧ (mag q.num).length ≤ c1 ∧ (rep q.den).length ≤ c2 ∧ Rd (fun k => w.heap.size ≤ k) w' A1 (mag q.num) ∧ Rd (fun k => w.heap.size ≤ k) w' A2 (rep q.den) ∧ Below w.heap.size w w'

set_option maxHeartbeats 1000000 in
theorem frac_cancel (ok : Nat → Prop) (n : Bool) (A : Option Addr) (c : Nat) (l : List Int) (ok' : Nat → Prop) (A' : Option Addr) (c' : Nat) (l' : List Int) (w : World) (h : Rd ok w A l) (hc : l.length ≤ c) (h' : Rd ok' w A' l') (hc' : l'.length ≤ c') (hbig : l.length < 1000000000) (hbig' : l'.length < 1000000000) (hpos : 0 < val l') :
    Calls Tryz.prog 59 #[.agg #[.bool n, .slice A l.length c], .slice A' l'.length c'] w (FrOut (Rat.divInt (zv n l) (val l')) w) := by
  have HQ := Asd.mk (And.intro (cancel_num (n := n) h.wd hpos) (cancel_den (n := n) (l := l) hpos))
  go_enter Tryz.func59, Tryz.ntmps59
  go_wp2_with fail
  have A0 := (Blk.new w [.bool n, .slice A l.length c] 28).alloc (.cells #[.bool false, .slice none 0 0, .slice none 0 0] 30)
  have R0 := Blk.new (w.alloc (.cells #[.bool n, .slice A l.length c] 28)) [.bool false, .slice none 0 0, .slice none 0 0] 30
  have rh := (h.alloc (.cells #[.bool n, .slice A l.length c] 28)).alloc (.cells #[.bool false, .slice none 0 0, .slice none 0 0] 30)
  have rh' := (h'.alloc (.cells #[.bool n, .slice A l.length c] 28)).alloc (.cells #[.bool false, .slice none 0 0, .slice none 0 0] 30)
  have hb0 := ((Below.refl w.heap.size w).alloc (Nat.le_refl _) (.cells #[.bool n, .slice A l.length c] 28)).alloc (by simp) (.cells #[.bool false, .slice none 0 0, .slice none 0 0] 30)
  simp only [World.size_alloc] at R0
  generalize (w.alloc (.cells #[.bool n, .slice A l.length c] 28)).alloc (.cells #[.bool false, .slice none 0 0, .slice none 0 0] 30) = W at *
  clear h h'
  refine (common_Cancel _ A c l _ A' c' l' W rh hc rh' hc' hbig hbig' hpos).mono ?_
  rintro e w1 ⟨X, cx, Y, cy, rfl, hcx, hcy, hrx, hry, hb1⟩
  have A1 := A0.below hb1; have R1 := R0.below hb1
  have a0 := A1.c 0 rfl; have a1 := A1.c 1 rfl
  have hlx : (rep (val l / gc (val l) (val l'))).length ≤ l.length := rep_length_le (Int.lt_of_le_of_lt (Int.ediv_le_self _ (val_nonneg rh.wd)) (val_lt rh.wd))
  have hnum := whole_Norm _ n X cx _ w1 hrx hcx
  rw [HQ.out.1] at hnum
  rw [HQ.out.2] at hcy hry ⊢
  generalize Rat.divInt (zv n l) (val l') = q at *
  have HN := Asd.mk hnum
  clear hnum HQ
  go_wp2_with fail
  refine HN.out.mono ?_
  rintro e w2 ⟨P, cp, rfl, hcp, hrp, hb2⟩
  have R2 := R1.below hb2
  have r0 := R2.c 0 rfl; have r1 := R2.c 1 rfl; have r2 := R2.c 2 rfl; have rf := R2.f; have rl := R2.lt
  have hlt := R0.lt
  have hs1 := hb1.size
  go_wp2
  refine bodyPost_ret (ret_blk rfl rfl (((R2.set 0 _).set 1 _).set 2 _) Tryz.underlying30 (by kernel_rfl)) rfl ?_
  exact ⟨P, cp, Y, cy, rfl, hcp, hcy, (((hrp.setCell (by simp; omega) _).setCell (by simp; omega) _).setCell (by simp; omega) _).mono (fun k _ hk => by omega), ((((hry.below hb2).setCell (by simp; omega) _).setCell (by simp; omega) _).setCell (by simp; omega) _).mono (fun k _ hk => by omega), (((below_go (below_go hb0 hb1) hb2).setCell (by simp) _).setCell (by simp) _).setCell (by simp) _⟩

/-- A fraction's numbers, the lower one above 0. -/
def PartsOut (q : Rat) (k : Nat) (w : World) (e : Ending) (w' : World) : Prop := ∃ n A1 c1 l1 A2 c2 l2, e = .returned (.tuple #[.agg #[.bool n, .slice A1 (l1 : List Int).length c1], .slice A2 (l2 : List Int).length c2]) ∧ l1.length ≤ c1 ∧ l2.length ≤ c2 ∧ Rd (fun _ => True) w' A1 l1 ∧ Rd (fun _ => True) w' A2 l2 ∧ 0 < val l2 ∧ l1.length ≤ k ∧ l2.length ≤ k ∧ Rat.divInt (zv n l1) (val l2) = q ∧ Below w.heap.size w w'

set_option maxHeartbeats 1000000 in
theorem frac_parts (ok : Nat → Prop) (n : Bool) (A : Option Addr) (c : Nat) (l : List Int) (ok' : Nat → Prop) (A' : Option Addr) (c' : Nat) (l' : List Int) (k : Nat) (w : World) (h : Rd ok w A l) (hc : l.length ≤ c) (h' : Rd ok' w A' l') (hc' : l'.length ≤ c') (hk : l.length ≤ k) (hk' : l'.length ≤ k) (hk1 : 1 ≤ k) :
    Calls Tryz.prog 60 #[.agg #[.bool n, .slice A l.length c, .slice A' l'.length c']] w (PartsOut (Rat.divInt (zv n l) (val l')) k w) := by
  have hn' := val_nonneg h'.wd
  replace h := h.mono (ok' := fun k => k < w.heap.size) (fun k hk _ => hk)
  replace h' := h'.mono (ok' := fun k => k < w.heap.size) (fun k hk _ => hk)
  go_enter Tryz.func60, Tryz.ntmps60
  go_wp2_with fail
  have A0 := (Blk.new w [.bool n, .slice A l.length c, .slice A' l'.length c'] 30).alloc (.cells #[.bool false, .slice none 0 0] 28)
  have R0 := Blk.new (w.alloc (.cells #[.bool n, .slice A l.length c, .slice A' l'.length c'] 30)) [.bool false, .slice none 0 0] 28
  have rh := (h.alloc (.cells #[.bool n, .slice A l.length c, .slice A' l'.length c'] 30)).alloc (.cells #[.bool false, .slice none 0 0] 28)
  have rh' := (h'.alloc (.cells #[.bool n, .slice A l.length c, .slice A' l'.length c'] 30)).alloc (.cells #[.bool false, .slice none 0 0] 28)
  have hb0 := ((Below.refl w.heap.size w).alloc (Nat.le_refl _) (.cells #[.bool n, .slice A l.length c, .slice A' l'.length c'] 30)).alloc (by simp) (.cells #[.bool false, .slice none 0 0] 28)
  simp only [World.size_alloc] at R0
  generalize (w.alloc (.cells #[.bool n, .slice A l.length c, .slice A' l'.length c'] 30)).alloc (.cells #[.bool false, .slice none 0 0] 28) = W at *
  clear h h'
  refine (nat_Zero _ A' c' l' W rh' hc').mono ?_
  rintro e w1 ⟨rfl, rfl⟩
  have a0 := A0.c 0 rfl; have a1 := A0.c 1 rfl; have a2 := A0.c 2 rfl
  have r0 := R0.c 0 rfl; have r1 := R0.c 1 rfl; have rf := R0.f; have rl := R0.lt
  by_cases hz : val l' = 0
  · have hd : decide (val l' = 0) = true := decide_eq_true hz
    rw [hd]
    have HQ0 : Asd (Rat.divInt (zv n l) (val l') = 0) := ⟨by rw [hz, Rat.divInt_zero]⟩
    clear hd hz
    go_wp2_with fail
    refine (nat_Of 1 (by decide) (by decide) _).mono ?_
    rintro e w2 ⟨X, cx, rfl, hcx, hrx, hb2⟩
    have R2 := R0.below hb2
    have r0 := R2.c 0 rfl; have r1 := R2.c 1 rfl; have rf := R2.f; have rl2 := R2.lt
    have e1 : val (rep 1) = 1 := val_rep (by decide)
    have hl1 : (rep 1).length = 1 := by rw [rep_word (by decide) (by decide)]; rfl
    have HE := Asd.mk (And.intro e1 hl1)
    clear e1 hl1
    go_wp2
    refine bodyPost_ret (ret_blk_tmp rfl rfl rfl ((R2.set 0 _).set 1 _) Tryz.underlying28 (by kernel_rfl)) rfl ?_
    refine ⟨false, none, 0, [], X, cx, rep 1, rfl, Nat.le_refl _, hcx, Rd.nil _ _ _, ((hrx.setCell (by simp; omega) _).setCell (by simp; omega) _).mono (fun _ _ _ => trivial), by rw [HE.out.1]; decide, Nat.zero_le _, by rw [HE.out.2]; exact hk1, ?_, ((below_go hb0 hb2).setCell (by simp) _).setCell (by simp) _⟩
    rw [HQ0.out]; exact Rat.zero_divInt _
  · have hd : decide (val l' = 0) = false := decide_eq_false hz
    rw [hd]
    have HP : Asd (0 < val l') := ⟨by omega⟩
    clear hd hz
    have n1 : ¬ (w.heap.size = w.heap.size + 1) := by omega
    have n2 : ¬ (w.heap.size + 1 = w.heap.size) := by omega
    go_wp2_with fail
    go_region_held3 (fun w' => w'.cell? ⟨w.heap.size, 0, none⟩ = some (.bool n) ∧ w'.cell? ⟨w.heap.size, 1, none⟩ = some (.slice A l.length c) ∧ w'.cell? ⟨w.heap.size, 2, none⟩ = some (.slice A' l'.length c')) (go_keep) (fail)
    all_goals go_wp2
    all_goals refine bodyPost_ret (ret_blk_tmp rfl rfl rfl ((R0.set 0 _).set 1 _).drew Tryz.underlying28 (by kernel_rfl)) rfl ?_
    all_goals exact ⟨n, A, c, l, A', c', l', rfl, hc, hc', (((rh.setCell (by simp) _).setCell (by simp) _).drew.mono (fun _ _ _ => trivial)), (((rh'.setCell (by simp) _).setCell (by simp) _).drew.mono (fun _ _ _ => trivial)), HP.out, hk, hk', rfl, below_drewN ((hb0.setCell (by simp) _).setCell (by simp) _) 1⟩
end Go.Proofs.YthjpkichpkomcaaGreatDoor
/- A fraction as it lies in memory, and its value. -/
namespace Go.Proofs.YthjpkichpkomcaaGreatDoor
open Go.RowKit Go.Proofs.YthjpkichpkomcaaGreatDoor.Big
set_option linter.unusedVariables false
set_option maxRecDepth 100000
attribute [local go_sem ↓] Go.wp_at_zero Go.wp_at_succ

/-- A fraction as it lies: its sign, its upper number, its lower one. -/
structure RF where
  n : Bool
  A : Option Addr
  c : Nat
  l : List Int
  A' : Option Addr
  c' : Nat
  d : List Int
/-- Its value. -/
def RF.q (x : RF) : Rat := Rat.divInt (zv x.n x.l) (val x.d)
/-- It can be read; its numbers aren't too long. -/
def RF.ok (ok : Nat → Prop) (w : World) (x : RF) : Prop := Rd ok w x.A x.l ∧ x.l.length ≤ x.c ∧ Rd ok w x.A' x.d ∧ x.d.length ≤ x.c' ∧ x.l.length ≤ 10000 ∧ x.d.length ≤ 10000
section
variable {ok ok' : Nat → Prop} {w w1 : World} {x : RF}
theorem RF.ok.below (h : x.ok ok w) (hb : Below w.heap.size w w1) : x.ok ok w1 := ⟨h.1.below hb, h.2.1, h.2.2.1.below hb, h.2.2.2⟩
theorem RF.ok.alloc (h : x.ok ok w) (o : Obj) : x.ok ok (w.alloc o) := ⟨h.1.alloc o, h.2.1, h.2.2.1.alloc o, h.2.2.2⟩
theorem RF.ok.drew (h : x.ok ok w) : x.ok ok w.drew := ⟨h.1.drew, h.2.1, h.2.2.1.drew, h.2.2.2⟩
theorem RF.ok.mono (h : x.ok ok w) (hm : ∀ k, k < w.heap.size → ok k → ok' k) : x.ok ok' w := ⟨h.1.mono hm, h.2.1, h.2.2.1.mono hm, h.2.2.2⟩
theorem RF.ok.setCell (h : x.ok ok w) {p : Addr} (hp : ¬ ok p.block) (u : Value) : x.ok ok (w.setCell p u) := ⟨h.1.setCell hp u, h.2.1, h.2.2.1.setCell hp u, h.2.2.2⟩
end
/-- A right fraction as it lies. -/
def QF (q : Rat) (A : Option Addr) (c : Nat) (A' : Option Addr) (c' : Nat) : RF := ⟨ng q.num, A, c, mag q.num, A', c', rep q.den⟩
theorem QF_q (q : Rat) (A : Option Addr) (c : Nat) (A' : Option Addr) (c' : Nat) : (QF q A c A' c').q = q := by
  unfold QF RF.q
  rw [zv_mag, val_rep (Int.le_of_lt (den_pos q)), Rat.num_divInt_den]
theorem QF_ok {ok : Nat → Prop} {w : World} {q : Rat} {A : Option Addr} {c : Nat} {A' : Option Addr} {c' : Nat} (h : Rd ok w A (mag q.num)) (hc : (mag q.num).length ≤ c) (h' : Rd ok w A' (rep q.den)) (hc' : (rep q.den).length ≤ c') (hs : Sz 10000 q) : (QF q A c A' c').ok ok w := ⟨h, hc, h', hc', hs.1, hs.2⟩
theorem sz_raw {ok : Nat → Prop} {w : World} {x : RF} (h : x.ok ok w) {k : Nat} (h1 : x.l.length ≤ k) (h2 : x.d.length ≤ k) (hk : 1 ≤ k) : Sz k x.q := by
  unfold RF.q
  by_cases hz : val x.d = 0
  · rw [hz, Rat.divInt_zero]
    refine ⟨?_, ?_⟩
    · show (mag (0 : Rat).num).length ≤ k
      rw [show mag (0 : Rat).num = [] from rep_zero]; exact Nat.zero_le _
    · show (rep (((0 : Rat).den : Nat) : Int)).length ≤ k
      rw [show (((0 : Rat).den : Nat) : Int) = 1 from rfl, rep_word (by decide) (by decide)]; exact hk
  · refine sz_dv (by have := val_nonneg h.2.2.1.wd; omega) (len_zv h.1.wd h1) (Nat.le_trans (rep_length_le (val_lt h.2.2.1.wd)) h2)
theorem dv_add (z z' : Int) {d d' : Int} (h : 0 < d) (h' : 0 < d') : Rat.divInt (z * d' + z' * d) (d * d') = Rat.divInt z d + Rat.divInt z' d' := (Rat.divInt_add_divInt z z' (by omega) (by omega)).symm
theorem dv_sub (z z' : Int) {d d' : Int} (h : 0 < d) (h' : 0 < d') : Rat.divInt (z * d' - z' * d) (d * d') = Rat.divInt z d - Rat.divInt z' d' := (Rat.divInt_sub_divInt z z' (by omega) (by omega)).symm
theorem dv_mul (z z' : Int) {d d' : Int} : Rat.divInt (z * z') (d * d') = Rat.divInt z d * Rat.divInt z' d' := (Rat.divInt_mul_divInt z z').symm
theorem sgI_ediv {z g : Int} (hg : 0 < g) (hd : g ∣ z) : sgI (z / g) = sgI z := by
  obtain ⟨c, rfl⟩ := hd
  rw [Int.mul_ediv_cancel_left _ (by omega)]
  rcases Int.lt_trichotomy c 0 with h | h | h
  · rw [sgI_neg h, sgI_neg (Int.mul_neg_of_pos_of_neg hg h)]
  · subst h; rw [Int.mul_zero]
  · rw [sgI_pos h, sgI_pos (Int.mul_pos hg h)]
theorem sgI_dv {z d : Int} (hd : 0 < d) : sgI (Rat.divInt z d).num = sgI z := by
  rw [dv_num hd]; exact sgI_ediv (gc_pos_right hd) (gc_dvd_left z d)
theorem sgI_eq0 {z : Int} : sgI z = 0 ↔ z = 0 := by
  constructor
  · intro h
    rcases Int.lt_trichotomy z 0 with h2 | h2 | h2
    · rw [sgI_neg h2] at h; omega
    · exact h2
    · rw [sgI_pos h2] at h; omega
  · rintro rfl; rfl
theorem same_sub (p q : Rat) : (sgI (p - q).num == 0) = decide (p = q) := by
  rw [Bool.eq_iff_iff]
  simp only [beq_iff_eq, decide_eq_true_eq, sgI_eq0, Rat.num_eq_zero]
  constructor
  · intro h; grind
  · rintro rfl; grind
end Go.Proofs.YthjpkichpkomcaaGreatDoor
/- Layer 9: fractions (frac.Norm). -/
namespace Go.Proofs.YthjpkichpkomcaaGreatDoor
open Go.RowKit Go.Proofs.YthjpkichpkomcaaGreatDoor.Big
set_option linter.unusedVariables false
set_option maxRecDepth 100000
attribute [local go_sem ↓] Go.wp_at_zero Go.wp_at_succ


set_option maxHeartbeats 1000000 in
theorem frac_Norm (ok : Nat → Prop) (x : RF) (w : World) (hx : x.ok ok w) :
    Calls Tryz.prog 13 #[.agg #[.bool x.n, .slice x.A x.l.length x.c, .slice x.A' x.d.length x.c']] w (FrOut x.q w) := by
  go_enter Tryz.func13, Tryz.ntmps13
  go_wp2_with fail
  have XA0 := (Blk.new w [.bool x.n, .slice x.A x.l.length x.c, .slice x.A' x.d.length x.c'] 30).alloc (.cells #[.bool false, .slice none 0 0, .slice none 0 0] 30)
  have XR0 := Blk.new (w.alloc (.cells #[.bool x.n, .slice x.A x.l.length x.c, .slice x.A' x.d.length x.c'] 30)) [.bool false, .slice none 0 0, .slice none 0 0] 30
  have rhx := ((hx.alloc (.cells #[.bool x.n, .slice x.A x.l.length x.c, .slice x.A' x.d.length x.c'] 30)).alloc (.cells #[.bool false, .slice none 0 0, .slice none 0 0] 30))
  have hb0 := (((Below.refl w.heap.size w).alloc (Nat.le_refl _) (.cells #[.bool x.n, .slice x.A x.l.length x.c, .slice x.A' x.d.length x.c'] 30)).alloc (by simp) (.cells #[.bool false, .slice none 0 0, .slice none 0 0] 30))
  simp only [World.size_alloc] at XR0
  generalize (w.alloc (.cells #[.bool x.n, .slice x.A x.l.length x.c, .slice x.A' x.d.length x.c'] 30)).alloc (.cells #[.bool false, .slice none 0 0, .slice none 0 0] 30) = W at *
  clear hx
  have XR := XR0; have XA := XA0; have hB := hb0; have rx := rhx
  have hlt := XR0.lt
  clear XA0 XR0 hb0 rhx
  have cXA0 := XA.c 0 rfl; have cXA1 := XA.c 1 rfl; have cXA2 := XA.c 2 rfl; have cXR0 := XR.c 0 rfl; have cXR1 := XR.c 1 rfl; have cXR2 := XR.c 2 rfl
  refine (frac_parts _ x.n x.A x.c x.l _ x.A' x.c' x.d 10000 _ rx.1 rx.2.1 rx.2.2.1 rx.2.2.2.1 rx.2.2.2.2.1 rx.2.2.2.2.2 (by decide)).mono ?_
  rintro e w1 ⟨n1, P1, p1, l1, D1, e1, d1, rfl, hp1, he1, rp1, rd1, hd1, hl1, hld1, hq1, hb1⟩
  replace XR := XR.below hb1; replace cXR0 := XR.c 0 rfl; replace cXR1 := XR.c 1 rfl; replace cXR2 := XR.c 2 rfl; replace hB := below_go hB hb1
  have hlt2 := XR.lt
  have hm := frac_cancel _ n1 P1 p1 l1 _ D1 e1 d1 w1 rp1 hp1 rd1 he1 (by omega) (by omega) hd1
  rw [hq1] at hm
  go_wp2_with fail
  refine hm.mono ?_
  clear hm
  rintro e w2 ⟨X, cx, Y, cy, rfl, hcx, hcy, hrx, hry, hb1⟩
  have hs1 := hB.size
  replace XR := XR.below hb1; replace cXR0 := XR.c 0 rfl; replace cXR1 := XR.c 1 rfl; replace cXR2 := XR.c 2 rfl; replace hB := below_go hB hb1
  have rf := XR.f; have rl := XR.lt
  have hz := hb1.size
  go_wp2
  refine bodyPost_ret (ret_blk rfl rfl (((XR.set 0 _).set 1 _).set 2 _) Tryz.underlying30 (by kernel_rfl)) rfl ?_
  exact ⟨X, cx, Y, cy, rfl, hcx, hcy, (((hrx.setCell (by simp; omega) _).setCell (by simp; omega) _).setCell (by simp; omega) _).mono (fun k _ hk => by omega), (((hry.setCell (by simp; omega) _).setCell (by simp; omega) _).setCell (by simp; omega) _).mono (fun k _ hk => by omega), ((hB.setCell (by simp) _).setCell (by simp) _).setCell (by simp) _⟩
end Go.Proofs.YthjpkichpkomcaaGreatDoor
