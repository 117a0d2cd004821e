/- FracC -/
import Derived.Test.YthjpkichpkomcaaGreatDoorBRowGridOrder27
/- Layer 9: fractions (frac: Of, Same), and how long sums and products are. -/
namespace Go.Proofs.YthjpkichpkomcaaGreatDoor
open Go.RowKit Go.Proofs.YthjpkichpkomcaaGreatDoor.Big
set_option linter.unusedVariables false
set_option maxRecDepth 100000
attribute [local go_sem ↓] Go.wp_at_zero Go.wp_at_succ

theorem sz_int (n : Int) {k : Nat} (hk : 1 ≤ k) (h : (mag n).length ≤ k) : Sz k (n : Rat) := by
  refine ⟨by rw [Rat.num_intCast]; exact h, ?_⟩
  rw [Rat.den_intCast, show ((1 : Nat) : Int) = 1 from rfl, rep_word (by decide) (by decide)]; exact hk
theorem mag_den (d : Nat) : (mag (d : Int)).length = (rep (d : Int)).length := by
  unfold mag; congr 2
theorem sz_add {a b : Nat} {p q : Rat} (h : Sz a p) (h' : Sz b q) : Sz (a + b + 1) (p + q) := by
  have e : p + q = Rat.divInt (p.num * (q.den : Int) + q.num * (p.den : Int)) ((p.den : Int) * (q.den : Int)) := by
    rw [dv_add _ _ (den_pos p) (den_pos q), Rat.num_divInt_den, Rat.num_divInt_den]
  rw [e]
  have h1 : (mag (q.den : Int)).length ≤ b := by rw [mag_den]; exact h'.2
  have h2 : (mag (p.den : Int)).length ≤ a := by rw [mag_den]; exact h.2
  refine sz_dv (Int.mul_pos (den_pos p) (den_pos q)) ?_ ?_
  · have l2 := len_mul h'.1 h2
    rw [Nat.add_comm b a] at l2
    have := len_add (len_mul h.1 h1) l2
    omega
  · have := len_mul h2 h1
    rw [← Int.natCast_mul, mag_den] at this
    rw [← Int.natCast_mul]
    omega
theorem sz_mul {a b : Nat} {p q : Rat} (h : Sz a p) (h' : Sz b q) : Sz (a + b) (p * q) := by
  have e : p * q = Rat.divInt (p.num * q.num) ((p.den : Int) * (q.den : Int)) := by
    rw [dv_mul, Rat.num_divInt_den, Rat.num_divInt_den]
  rw [e]
  have h1 : (mag (q.den : Int)).length ≤ b := by rw [mag_den]; exact h'.2
  have h2 : (mag (p.den : Int)).length ≤ a := by rw [mag_den]; exact h.2
  refine sz_dv (Int.mul_pos (den_pos p) (den_pos q)) ?_ ?_
  · exact len_mul h.1 h'.1
  · have := len_mul h2 h1
    rw [← Int.natCast_mul, mag_den] at this
    rw [← Int.natCast_mul]
    omega

set_option maxHeartbeats 1000000 in
theorem frac_Of (n : Int) (h0 : -9223372036854775808 ≤ n) (h1 : n ≤ 9223372036854775807) (w : World) :
    Calls Tryz.prog 25 #[.int .i64 n] w (FrOut (n : Rat) w) := by
  have HN := Asd.mk (And.intro (Rat.num_intCast n) (Rat.den_intCast n))
  go_enter Tryz.func25, Tryz.ntmps25
  go_wp2_with fail
  have XR0 := Blk.new w [.bool false, .slice none 0 0, .slice none 0 0] 30
  have hb0 := ((Below.refl w.heap.size w).alloc (Nat.le_refl _) (.cells #[.bool false, .slice none 0 0, .slice none 0 0] 30))
  generalize w.alloc (.cells #[.bool false, .slice none 0 0, .slice none 0 0] 30) = W at *
  have XR := XR0; have hB := hb0; have hlt := XR0.lt
  clear XR0 hb0
  have cXR0 := XR.c 0 rfl; have cXR1 := XR.c 1 rfl; have cXR2 := XR.c 2 rfl
  refine (whole_Of n h0 h1 W).mono ?_
  rintro e w1 ⟨P, p, rfl, hp, hr, hb1⟩
  replace XR := XR.below hb1; replace cXR0 := XR.c 0 rfl; replace cXR1 := XR.c 1 rfl; replace cXR2 := XR.c 2 rfl; replace hB := below_go hB hb1
  have hs1 := hb1.size
  go_wp2_with fail
  refine (nat_Of 1 (by decide) (by decide) w1).mono ?_
  rintro e w2 ⟨Y, y, rfl, hy, hry, hb1⟩
  replace XR := XR.below hb1; replace hr := hr.below hb1; replace cXR0 := XR.c 0 rfl; replace cXR1 := XR.c 1 rfl; replace cXR2 := XR.c 2 rfl; replace hB := below_go hB hb1
  have rf := XR.f; have rl := XR.lt
  have hs2 := hb1.size
  rw [← HN.out.1] at hr hp ⊢
  have e1 : (1 : Int) = (((n : Rat).den : Nat) : Int) := by rw [HN.out.2]; rfl
  rw [e1] at hry hy ⊢
  clear e1
  generalize (n : Rat) = q at *
  clear HN
  go_wp2
  refine bodyPost_ret (ret_blk rfl rfl (((XR.set 0 _).set 1 _).set 2 _) Tryz.underlying30 (by kernel_rfl)) rfl ?_
  exact ⟨P, p, Y, y, rfl, hp, hy, (((hr.setCell (by simp; omega) _).setCell (by simp; omega) _).setCell (by simp; omega) _).mono (fun k _ hk => by omega), (((hry.setCell (by simp; omega) _).setCell (by simp; omega) _).setCell (by simp; omega) _).mono (fun k _ hk => by omega), ((hB.setCell (by simp) _).setCell (by simp) _).setCell (by simp) _⟩

set_option maxHeartbeats 1000000 in
theorem frac_Same (ok ok' : Nat → Prop) (x y : RF) (w : World) (hx : x.ok ok w) (hy : y.ok ok' w) :
    Calls Tryz.prog 18 #[.agg #[.bool x.n, .slice x.A x.l.length x.c, .slice x.A' x.d.length x.c'], .agg #[.bool y.n, .slice y.A y.l.length y.c, .slice y.A' y.d.length y.c']] w fun e w' => e = .returned (.bool (decide (x.q = y.q))) ∧ Below w.heap.size w w' := by
  have HS := Asd.mk (same_sub x.q y.q)
  go_enter Tryz.func18, Tryz.ntmps18
  go_wp2_with fail
  have XA0 := (Blk.new w [.bool x.n, .slice x.A x.l.length x.c, .slice x.A' x.d.length x.c'] 30).alloc (.cells #[.bool y.n, .slice y.A y.l.length y.c, .slice y.A' y.d.length y.c'] 30)
  have XB0 := Blk.new (w.alloc (.cells #[.bool x.n, .slice x.A x.l.length x.c, .slice x.A' x.d.length x.c'] 30)) [.bool y.n, .slice y.A y.l.length y.c, .slice y.A' y.d.length y.c'] 30
  have rhx := ((hx.alloc (.cells #[.bool x.n, .slice x.A x.l.length x.c, .slice x.A' x.d.length x.c'] 30)).alloc (.cells #[.bool y.n, .slice y.A y.l.length y.c, .slice y.A' y.d.length y.c'] 30))
  have rhy := ((hy.alloc (.cells #[.bool x.n, .slice x.A x.l.length x.c, .slice x.A' x.d.length x.c'] 30)).alloc (.cells #[.bool y.n, .slice y.A y.l.length y.c, .slice y.A' y.d.length y.c'] 30))
  have hb0 := (((Below.refl w.heap.size w).alloc (Nat.le_refl _) (.cells #[.bool x.n, .slice x.A x.l.length x.c, .slice x.A' x.d.length x.c'] 30)).alloc (by simp) (.cells #[.bool y.n, .slice y.A y.l.length y.c, .slice y.A' y.d.length y.c'] 30))
  simp only [World.size_alloc] at XB0
  generalize (w.alloc (.cells #[.bool x.n, .slice x.A x.l.length x.c, .slice x.A' x.d.length x.c'] 30)).alloc (.cells #[.bool y.n, .slice y.A y.l.length y.c, .slice y.A' y.d.length y.c'] 30) = W at *
  clear hx hy
  have XA := XA0; have XB := XB0; have hB := hb0; have rx := rhx; have ry := rhy
  clear XA0 XB0 hb0 rhx rhy
  have cXA0 := XA.c 0 rfl; have cXA1 := XA.c 1 rfl; have cXA2 := XA.c 2 rfl; have cXB0 := XB.c 0 rfl; have cXB1 := XB.c 1 rfl; have cXB2 := XB.c 2 rfl
  refine (frac_Cmp _ _ x y W rx ry).mono ?_
  rintro e w1 ⟨rfl, hb1⟩
  replace hB := below_go hB hb1
  go_wp2
  go_ret
  exact ⟨congrArg (fun b => Ending.returned (.bool b)) HS.out, hB⟩
end Go.Proofs.YthjpkichpkomcaaGreatDoor
