/- FracQ -/
import Derived.Test.YthjpkichpkomcaaGreatDoorBRowFigureNear33
/- Layer 9: fractions (frac: Quo, Ratio). -/
namespace Go.Proofs.YthjpkichpkomcaaGreatDoor
open Go.RowKit Go.Proofs.YthjpkichpkomcaaGreatDoor.Big
set_option linter.unusedVariables false
set_option maxRecDepth 100000
attribute [local go_sem ↓] Go.wp_at_zero Go.wp_at_succ

theorem zv_flip (U : Int) (n : Bool) : zv (ng U != n) (mag U) = if n = true then -U else U := by
  have h := zv_mag U
  cases n
  · rw [show (ng U != false) = ng U by cases ng U <;> rfl, h]; rfl
  · rw [if_pos rfl]
    unfold zv at h ⊢
    cases hn : ng U
    · rw [hn] at h; simp at h ⊢; omega
    · rw [hn] at h; simp at h ⊢; omega
theorem dv_quo {z1 d1 d2 : Int} {n2 : Bool} {l2 : List Int} : Rat.divInt (if n2 = true then -(z1 * d2) else z1 * d2) (d1 * val l2) = Rat.divInt z1 d1 / Rat.divInt (zv n2 l2) d2 := by
  rw [Rat.div_def, Rat.inv_divInt, Rat.divInt_mul_divInt]
  unfold zv
  cases n2
  · rfl
  · rw [if_pos rfl, if_pos rfl, Int.mul_neg, ← Rat.neg_divInt_neg (-(z1 * d2)), Int.neg_neg]
theorem sg_ne {n : Bool} {l : List Int} {d : Int} (hw : Wd l) (h : Rat.divInt (zv n l) d ≠ 0) : 0 < val l := by
  have := val_nonneg hw
  rcases Int.lt_or_le 0 (val l) with h1 | h1
  · exact h1
  · exfalso
    apply h
    have : zv n l = 0 := by unfold zv; split <;> omega
    rw [this, Rat.zero_divInt]

set_option maxHeartbeats 2000000 in
theorem frac_Quo (ok ok' : Nat → Prop) (x y : RF) (w : World) (hx : x.ok ok w) (hy : y.ok ok' w) (hy0 : y.q ≠ 0) :
    Calls Tryz.prog 131 #[.agg #[.bool x.n, .slice x.A x.l.length x.c, .slice x.A' x.d.length x.c'], .agg #[.bool y.n, .slice y.A y.l.length y.c, .slice y.A' y.d.length y.c']] w (FrOut2 (x.q / y.q) true w) := by
  go_enter Tryz.func131, Tryz.ntmps131
  go_wp2_with fail
  have XA0 := ((Blk.new w [.bool x.n, .slice x.A x.l.length x.c, .slice x.A' x.d.length x.c'] 30).alloc (.cells #[.bool y.n, .slice y.A y.l.length y.c, .slice y.A' y.d.length y.c'] 30)).alloc (.cells #[.bool false, .slice none 0 0, .slice none 0 0] 30)
  have XB0 := (Blk.new (w.alloc (.cells #[.bool x.n, .slice x.A x.l.length x.c, .slice x.A' x.d.length x.c'] 30)) [.bool y.n, .slice y.A y.l.length y.c, .slice y.A' y.d.length y.c'] 30).alloc (.cells #[.bool false, .slice none 0 0, .slice none 0 0] 30)
  have XR0 := Blk.new ((w.alloc (.cells #[.bool x.n, .slice x.A x.l.length x.c, .slice x.A' x.d.length x.c'] 30)).alloc (.cells #[.bool y.n, .slice y.A y.l.length y.c, .slice y.A' y.d.length y.c'] 30)) [.bool false, .slice none 0 0, .slice none 0 0] 30
  have rhx := (((hx.alloc (.cells #[.bool x.n, .slice x.A x.l.length x.c, .slice x.A' x.d.length x.c'] 30)).alloc (.cells #[.bool y.n, .slice y.A y.l.length y.c, .slice y.A' y.d.length y.c'] 30)).alloc (.cells #[.bool false, .slice none 0 0, .slice none 0 0] 30))
  have rhy := (((hy.alloc (.cells #[.bool x.n, .slice x.A x.l.length x.c, .slice x.A' x.d.length x.c'] 30)).alloc (.cells #[.bool y.n, .slice y.A y.l.length y.c, .slice y.A' y.d.length y.c'] 30)).alloc (.cells #[.bool false, .slice none 0 0, .slice none 0 0] 30))
  have hb0 := ((((Below.refl w.heap.size w).alloc (Nat.le_refl _) (.cells #[.bool x.n, .slice x.A x.l.length x.c, .slice x.A' x.d.length x.c'] 30)).alloc (by simp) (.cells #[.bool y.n, .slice y.A y.l.length y.c, .slice y.A' y.d.length y.c'] 30)).alloc (by simp; omega) (.cells #[.bool false, .slice none 0 0, .slice none 0 0] 30))
  simp only [World.size_alloc] at XB0 XR0
  generalize ((w.alloc (.cells #[.bool x.n, .slice x.A x.l.length x.c, .slice x.A' x.d.length x.c'] 30)).alloc (.cells #[.bool y.n, .slice y.A y.l.length y.c, .slice y.A' y.d.length y.c'] 30)).alloc (.cells #[.bool false, .slice none 0 0, .slice none 0 0] 30) = W at *
  clear hx hy
  have XA := XA0; have XB := XB0; have hB := hb0; have rx := rhx; have ry := rhy; have XR := XR0; have hlt := XR0.lt
  clear XA0 XB0 hb0 rhx rhy XR0
  have cXA0 := XA.c 0 rfl; have cXA1 := XA.c 1 rfl; have cXA2 := XA.c 2 rfl; have cXB0 := XB.c 0 rfl; have cXB1 := XB.c 1 rfl; have cXB2 := XB.c 2 rfl; have cXR0 := XR.c 0 rfl; have cXR1 := XR.c 1 rfl; have cXR2 := XR.c 2 rfl
  refine (frac_parts _ x.n x.A x.c x.l _ x.A' x.c' x.d 10000 _ rx.1 rx.2.1 rx.2.2.1 rx.2.2.2.1 rx.2.2.2.2.1 rx.2.2.2.2.2 (by decide)).mono ?_
  rintro e w1 ⟨n1, P1, p1, l1, D1, e1, d1, rfl, hp1, he1, rp1, rd1, hd1, hl1, hld1, hq1, hb1⟩
  replace XA := XA.below hb1; replace XB := XB.below hb1; replace XR := XR.below hb1; replace ry := ry.below hb1; replace cXA0 := XA.c 0 rfl; replace cXA1 := XA.c 1 rfl; replace cXA2 := XA.c 2 rfl; replace cXB0 := XB.c 0 rfl; replace cXB1 := XB.c 1 rfl; replace cXB2 := XB.c 2 rfl; replace cXR0 := XR.c 0 rfl; replace cXR1 := XR.c 1 rfl; replace cXR2 := XR.c 2 rfl; replace hB := below_go hB hb1
  have HQ1 := Asd.mk hq1
  clear hq1
  have hlk1 := XR.lt
  replace XA := XA.alloc (.cells #[.bool n1, .slice P1 l1.length p1] 28)
  replace XB := XB.alloc (.cells #[.bool n1, .slice P1 l1.length p1] 28)
  replace XR := XR.alloc (.cells #[.bool n1, .slice P1 l1.length p1] 28)
  replace ry := ry.alloc (.cells #[.bool n1, .slice P1 l1.length p1] 28)
  replace rp1 := rp1.alloc (.cells #[.bool n1, .slice P1 l1.length p1] 28)
  replace rd1 := rd1.alloc (.cells #[.bool n1, .slice P1 l1.length p1] 28)
  have N1 := Blk.new w1 [.bool n1, .slice P1 l1.length p1] 28
  replace hB := hB.alloc hB.size (.cells #[.bool n1, .slice P1 l1.length p1] 28)
  replace cXA0 := XA.c 0 rfl
  replace cXA1 := XA.c 1 rfl
  replace cXA2 := XA.c 2 rfl
  replace cXB0 := XB.c 0 rfl
  replace cXB1 := XB.c 1 rfl
  replace cXB2 := XB.c 2 rfl
  replace cXR0 := XR.c 0 rfl
  replace cXR1 := XR.c 1 rfl
  replace cXR2 := XR.c 2 rfl
  have cN10 := N1.c 0 rfl
  have cN11 := N1.c 1 rfl
  generalize hbk1 : w1.heap.size = bk1 at *
  go_wp2_with fail
  refine (frac_parts _ y.n y.A y.c y.l _ y.A' y.c' y.d 10000 _ ry.1 ry.2.1 ry.2.2.1 ry.2.2.2.1 ry.2.2.2.2.1 ry.2.2.2.2.2 (by decide)).mono ?_
  rintro e w1 ⟨n2, P2, p2, l2, D2, e2, d2, rfl, hp2, he2, rp2, rd2, hd2, hl2, hld2, hq2, hb1⟩
  replace XR := XR.below hb1; replace N1 := N1.below hb1; replace rp1 := rp1.below hb1; replace rd1 := rd1.below hb1; replace cXR0 := XR.c 0 rfl; replace cXR1 := XR.c 1 rfl; replace cXR2 := XR.c 2 rfl; replace cN10 := N1.c 0 rfl; replace cN11 := N1.c 1 rfl; replace hB := below_go hB hb1
  have hv2 : 0 < val l2 := sg_ne rp2.wd (by rw [hq2]; exact hy0)
  have HQ2 := Asd.mk hq2
  clear hq2
  have hlk2 := XR.lt
  have hlk3 := N1.lt
  replace XR := XR.alloc (.cells #[.bool n2, .slice P2 l2.length p2] 28)
  replace N1 := N1.alloc (.cells #[.bool n2, .slice P2 l2.length p2] 28)
  replace rp1 := rp1.alloc (.cells #[.bool n2, .slice P2 l2.length p2] 28)
  replace rd1 := rd1.alloc (.cells #[.bool n2, .slice P2 l2.length p2] 28)
  replace rp2 := rp2.alloc (.cells #[.bool n2, .slice P2 l2.length p2] 28)
  replace rd2 := rd2.alloc (.cells #[.bool n2, .slice P2 l2.length p2] 28)
  have N2 := Blk.new w1 [.bool n2, .slice P2 l2.length p2] 28
  replace hB := hB.alloc hB.size (.cells #[.bool n2, .slice P2 l2.length p2] 28)
  replace cXR0 := XR.c 0 rfl
  replace cXR1 := XR.c 1 rfl
  replace cXR2 := XR.c 2 rfl
  replace cN10 := N1.c 0 rfl
  replace cN11 := N1.c 1 rfl
  have cN20 := N2.c 0 rfl
  have cN21 := N2.c 1 rfl
  generalize hbk2 : w1.heap.size = bk2 at *
  have HRES := Asd.mk (dv_quo (z1 := zv n1 l1) (d1 := val d1) (d2 := val d2) (n2 := n2) (l2 := l2))
  rw [HQ1.out, HQ2.out] at HRES
  have HSG : Asd (¬ sgI (zv n2 l2) = 0) := ⟨by
    rw [sgI_zv rp2.wd, if_neg (by omega)]; split <;> omega⟩
  go_wp2_with fail
  have hm := whole_Sign _ n2 P2 p2 l2 _ rp2 hp2
  generalize hsg : sgI (zv n2 l2) = sg at *
  refine hm.mono ?_
  clear hm
  rintro e w3 ⟨rfl, hb1⟩
  replace XR := XR.below hb1; replace N1 := N1.below hb1; replace N2 := N2.below hb1; replace rp1 := rp1.below hb1; replace rd1 := rd1.below hb1; replace rp2 := rp2.below hb1; replace rd2 := rd2.below hb1; replace cXR0 := XR.c 0 rfl; replace cXR1 := XR.c 1 rfl; replace cXR2 := XR.c 2 rfl; replace cN10 := N1.c 0 rfl; replace cN11 := N1.c 1 rfl; replace cN20 := N2.c 0 rfl; replace cN21 := N2.c 1 rfl; replace hB := below_go hB hb1
  have hsg0 : (sg == 0) = false := beq_eq_false_iff_ne.2 HSG.out
  go_wp2_with fail
  have hm := frac_cross _ n1 P1 p1 l1 _ D2 e2 d2 w3 rp1 hp1 rd2 he2 (by omega) (by omega)
  have HLU := Asd.mk (len_mul (len_zv (n := n1) rp1.wd hl1) (len_zv (n := false) rd2.wd hld2))
  rw [show zv false d2 = val d2 from rfl] at HLU
  generalize hU : zv n1 l1 * val d2 = U at *
  refine hm.mono ?_
  clear hm
  rintro e w4 ⟨P3, p3, rfl, hp3, rp3, hb1⟩
  replace XR := XR.below hb1; replace N1 := N1.below hb1; replace N2 := N2.below hb1; replace rp1 := rp1.below hb1; replace rd1 := rd1.below hb1; replace rp2 := rp2.below hb1; replace rd2 := rd2.below hb1; replace cXR0 := XR.c 0 rfl; replace cXR1 := XR.c 1 rfl; replace cXR2 := XR.c 2 rfl; replace cN10 := N1.c 0 rfl; replace cN11 := N1.c 1 rfl; replace cN20 := N2.c 0 rfl; replace cN21 := N2.c 1 rfl; replace hB := below_go hB hb1
  have M2 := N2.alloc (.cells #[.bool (ng U), .slice P3 (mag U).length p3] 28)
  have m0 := M2.c 0 rfl; have m1 := M2.c 1 rfl
  go_wp2_with fail
  clear M2 m0 m1
  have hlk4 := N2.lt; have hlk5 := XR.lt
  replace XR := XR.alloc (.cells #[.bool (!(ng U == n2)), .slice P3 (mag U).length p3] 28)
  replace N2 := N2.alloc (.cells #[.bool (!(ng U == n2)), .slice P3 (mag U).length p3] 28)
  replace rp1 := rp1.alloc (.cells #[.bool (!(ng U == n2)), .slice P3 (mag U).length p3] 28)
  replace rd1 := rd1.alloc (.cells #[.bool (!(ng U == n2)), .slice P3 (mag U).length p3] 28)
  replace rp2 := rp2.alloc (.cells #[.bool (!(ng U == n2)), .slice P3 (mag U).length p3] 28)
  replace rd2 := rd2.alloc (.cells #[.bool (!(ng U == n2)), .slice P3 (mag U).length p3] 28)
  replace rp3 := rp3.alloc (.cells #[.bool (!(ng U == n2)), .slice P3 (mag U).length p3] 28)
  have N3 := Blk.new w4 [.bool (!(ng U == n2)), .slice P3 (mag U).length p3] 28
  replace hB := hB.alloc hB.size (.cells #[.bool (!(ng U == n2)), .slice P3 (mag U).length p3] 28)
  generalize w4.alloc (.cells #[.bool (!(ng U == n2)), .slice P3 (mag U).length p3] 28) = Z at *
  generalize hbk3 : w4.heap.size = bk3 at *
  have HFL := Asd.mk (zv_flip U n2)
  rw [show (ng U != n2) = (!(ng U == n2)) from rfl] at HFL
  generalize (!(ng U == n2)) = sb at *
  have hvd : val (rep (val d1 * val l2)) = val d1 * val l2 := val_rep (Int.le_of_lt (Int.mul_pos hd1 hv2))
  have HVD := Asd.mk hvd
  have HDD := Asd.mk (Int.mul_pos hd1 hv2)
  have HLD := Asd.mk (len_mul (len_zv (n := false) rd1.wd hld1) (len_zv (n := false) rp2.wd hl2))
  rw [show zv false d1 = val d1 from rfl, show zv false l2 = val l2 from rfl] at HLD
  have lmd2 : (rep (val d1 * val l2)).length ≤ 20000 := by
    have e : mag (val d1 * val l2) = rep (val d1 * val l2) := by unfold mag; congr 1; have := HDD.out; omega
    rw [← e]; exact HLD.out
  have lu : (mag U).length ≤ 20000 := HLU.out
  clear hvd hv2
  replace XR := XR.drew; replace N2 := N2.drew; replace N3 := N3.drew; replace rp1 := rp1.drew; replace rd1 := rd1.drew; replace rp2 := rp2.drew; replace rd2 := rd2.drew; replace rp3 := rp3.drew; replace hB := below_drewN hB 1
  have hltz := XR.lt
  clear cXR0 cXR1 cXR2 cN20 cN21
  have cXR0 := XR.c 0 rfl; have cXR1 := XR.c 1 rfl; have cXR2 := XR.c 2 rfl; have cN20 := N2.c 0 rfl; have cN21 := N2.c 1 rfl; have cN30 := N3.c 0 rfl; have cN31 := N3.c 1 rfl
  have m1 : ¬ (bk2 = w.heap.size + 1 + 1) := by omega
  have m2 : ¬ (bk3 = w.heap.size + 1 + 1) := by omega
  have m3 : ¬ (w.heap.size + 1 + 1 = bk2) := by omega
  have m4 : ¬ (w.heap.size + 1 + 1 = bk3) := by omega
  go_region_held3 (fun w' => w'.cell? ⟨bk2, 0, none⟩ = some (.bool n2) ∧ w'.cell? ⟨bk2, 1, none⟩ = some (.slice P2 l2.length p2) ∧ w'.cell? ⟨bk3, 0, none⟩ = some (.bool sb) ∧ w'.cell? ⟨bk3, 1, none⟩ = some (.slice P3 (mag U).length p3)) (go_keep)
    (first
      | (go_at_call 79; have hm := prod_Mul _ D1 e1 d1 _ P2 p2 l2 _ rd1 he1 rp2 hp2 (by omega) (by omega); refine hm.mono ?_; clear hm; rintro e w1 ⟨gp, rfl, rpd, hgp, hb1⟩; replace rp3 := rp3.below hb1; replace XR := XR.below hb1; replace N2 := N2.below hb1; replace N3 := N3.below hb1; replace rp1 := rp1.below hb1; replace rd1 := rd1.below hb1; replace rp2 := rp2.below hb1; replace rd2 := rd2.below hb1; replace cXR0 := XR.c 0 rfl; replace cXR1 := XR.c 1 rfl; replace cXR2 := XR.c 2 rfl; replace cN20 := N2.c 0 rfl; replace cN21 := N2.c 1 rfl; replace cN30 := N3.c 0 rfl; replace cN31 := N3.c 1 rfl; replace hB := below_go hB hb1)
      | (go_at_call 59; have hm := frac_cancel _ sb P3 p3 (mag U) _ (some ⟨gp, 0, none⟩) (rep (val d1 * val l2)).length (rep (val d1 * val l2)) _ rp3 hp3 (rpd.rd (ok := fun _ => True) trivial) (Nat.le_refl _) (by omega) (by omega) (by rw [HVD.out]; exact HDD.out); rw [HFL.out, HVD.out, HRES.out] at hm; refine hm.mono ?_; clear hm; rintro e w1 ⟨V1, v1, V2, v2, rfl, hv1, hv2, rv1, rv2, hb1⟩; have hszb := XR.lt; clear rp3 rpd; replace XR := XR.below hb1; replace N2 := N2.below hb1; replace N3 := N3.below hb1; replace rp1 := rp1.below hb1; replace rd1 := rd1.below hb1; replace rp2 := rp2.below hb1; replace rd2 := rd2.below hb1; replace cXR0 := XR.c 0 rfl; replace cXR1 := XR.c 1 rfl; replace cXR2 := XR.c 2 rfl; replace cN20 := N2.c 0 rfl; replace cN21 := N2.c 1 rfl; replace cN30 := N3.c 0 rfl; replace cN31 := N3.c 1 rfl; replace hB := below_go hB hb1; have rf := XR.f; have rl := XR.lt))
  go_wp2
  refine bodyPost_ret (ret_blk_tmp rfl rfl rfl (((XR.set 0 _).set 1 _).set 2 _) Tryz.underlying30 (by kernel_rfl)) rfl ?_
  exact ⟨V1, v1, V2, v2, rfl, hv1, hv2, (((rv1.setCell (by simp; omega) _).setCell (by simp; omega) _).setCell (by simp; omega) _).mono (fun k _ hk => by omega), (((rv2.setCell (by simp; omega) _).setCell (by simp; omega) _).setCell (by simp; omega) _).mono (fun k _ hk => by omega), ((hB.setCell (by simp <;> omega) _).setCell (by simp <;> omega) _).setCell (by simp <;> omega) _⟩
end Go.Proofs.YthjpkichpkomcaaGreatDoor
