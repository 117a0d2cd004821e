/- FracB -/
import Derived.Test.YthjpkichpkomcaaGreatDoorBRowFigureNear21
import Derived.Outline
import Derived.Deep.RegionHeld3
import Derived.Deep.RegionWith
import Derived.Deep.DrawnRows
import Derived.WalkLawsBesides
/- Layer 9: fractions (frac: cross, Sign, Cmp, Add, Sub, Mul). -/
namespace Go.Proofs.YthjpkichpkomcaaGreatDoor
open Go.RowKit Go.Proofs.YthjpkichpkomcaaGreatDoor.Big
set_option linter.unusedVariables false
set_option maxRecDepth 100000
attribute [local go_sem ↓] Go.wp_at_zero Go.wp_at_succ


set_option maxHeartbeats 1000000 in
theorem frac_cross (ok : Nat → Prop) (n : Bool) (A : Option Addr) (c : Nat) (l : List Int) (ok' : Nat → Prop) (A' : Option Addr) (c' : Nat) (l' : List Int) (w : World) (h : Rd ok w A l) (hc : l.length ≤ c) (h' : Rd ok' w A' l') (hc' : l'.length ≤ c') (hbig : l.length < 1000000000) (hbig' : l'.length < 1000000000) :
    Calls Tryz.prog 78 #[.agg #[.bool n, .slice A l.length c], .slice A' l'.length c'] w (WhOut (zv n l * val l') w) := by
  go_enter Tryz.func78, Tryz.ntmps78
  go_wp2_with fail
  have XA0 := (Blk.new w [.bool n, .slice A l.length c] 28).alloc (.cells #[.bool false, .slice none 0 0] 28)
  have XR0 := Blk.new (w.alloc (.cells #[.bool n, .slice A l.length c] 28)) [.bool false, .slice none 0 0] 28
  have rh := ((h.alloc (.cells #[.bool n, .slice A l.length c] 28)).alloc (.cells #[.bool false, .slice none 0 0] 28))
  have rh' := ((h'.alloc (.cells #[.bool n, .slice A l.length c] 28)).alloc (.cells #[.bool false, .slice none 0 0] 28))
  have hb0 := (((Below.refl w.heap.size w).alloc (Nat.le_refl _) (.cells #[.bool n, .slice A l.length c] 28)).alloc (by simp) (.cells #[.bool false, .slice none 0 0] 28))
  simp only [World.size_alloc] at XR0
  generalize (w.alloc (.cells #[.bool n, .slice A l.length c] 28)).alloc (.cells #[.bool false, .slice none 0 0] 28) = W at *
  clear h h'
  have hm := whole_Mul _ n A c l _ false A' c' l' W rh hc rh' hc' (by omega) (by omega)
  rw [show zv false l' = val l' from rfl] at hm
  refine hm.mono ?_
  rintro e w1 ⟨P, p, rfl, hp, hr, hb1⟩
  have R1 := XR0.below hb1
  have r0 := R1.c 0 rfl; have r1 := R1.c 1 rfl; have rf := R1.f; have rl := R1.lt
  have hlt := XR0.lt
  go_wp2
  refine bodyPost_ret (ret_blk rfl rfl ((R1.set 0 _).set 1 _) Tryz.underlying28 (by kernel_rfl)) rfl ?_
  exact ⟨P, p, rfl, hp, ((hr.setCell (by simp; omega) _).setCell (by simp; omega) _).mono (fun k _ hk => by omega), ((below_go hb0 hb1).setCell (by simp) _).setCell (by simp) _⟩

set_option maxHeartbeats 1000000 in
theorem frac_Sign (ok : Nat → Prop) (x : RF) (w : World) (hx : x.ok ok w) :
    Calls Tryz.prog 19 #[.agg #[.bool x.n, .slice x.A x.l.length x.c, .slice x.A' x.d.length x.c']] w fun e w' => e = .returned (.int .i64 (sgI x.q.num)) ∧ Below w.heap.size w w' := by
  go_enter Tryz.func19, Tryz.ntmps19
  go_wp2_with fail
  have XA0 := Blk.new w [.bool x.n, .slice x.A x.l.length x.c, .slice x.A' x.d.length x.c'] 30
  have rhx := (hx.alloc (.cells #[.bool x.n, .slice x.A x.l.length x.c, .slice x.A' x.d.length x.c'] 30))
  have hb0 := ((Below.refl w.heap.size w).alloc (Nat.le_refl _) (.cells #[.bool x.n, .slice x.A x.l.length x.c, .slice x.A' x.d.length x.c'] 30))
  generalize w.alloc (.cells #[.bool x.n, .slice x.A x.l.length x.c, .slice x.A' x.d.length x.c'] 30) = W at *
  clear hx
  have XA := XA0; have hB := hb0; have rx := rhx
  clear XA0 hb0 rhx
  have cXA0 := XA.c 0 rfl; have cXA1 := XA.c 1 rfl; have cXA2 := XA.c 2 rfl
  refine (frac_parts _ x.n x.A x.c x.l _ x.A' x.c' x.d 10000 _ rx.1 rx.2.1 rx.2.2.1 rx.2.2.2.1 rx.2.2.2.2.1 rx.2.2.2.2.2 (by decide)).mono ?_
  rintro e w1 ⟨n1, P1, p1, l1, D1, e1, d1, rfl, hp1, he1, rp1, rd1, hd1, hl1, hld1, hq1, hb1⟩
  replace hB := below_go hB hb1
  have HQ1 := Asd.mk ((sgI_dv hd1).symm.trans (congrArg (fun q : Rat => sgI q.num) hq1))
  replace rp1 := rp1.alloc (.cells #[.bool n1, .slice P1 l1.length p1] 28)
  replace rd1 := rd1.alloc (.cells #[.bool n1, .slice P1 l1.length p1] 28)
  have N1 := Blk.new w1 [.bool n1, .slice P1 l1.length p1] 28
  replace hB := hB.alloc hB.size (.cells #[.bool n1, .slice P1 l1.length p1] 28)
  have cN10 := N1.c 0 rfl
  have cN11 := N1.c 1 rfl
  generalize hbk1 : w1.heap.size = bk1 at *
  go_wp2_with fail
  have hm := whole_Sign _ n1 P1 p1 l1 _ rp1 hp1
  rw [HQ1.out] at hm
  refine hm.mono ?_
  rintro e w2 ⟨rfl, hb1⟩
  replace hB := below_go hB hb1
  clear hbk1 hm
  go_wp2
  go_ret
  exact ⟨rfl, hB⟩

set_option maxHeartbeats 2000000 in
theorem frac_Add (ok ok' : Nat → Prop) (x y : RF) (w : World) (hx : x.ok ok w) (hy : y.ok ok' w) :
    Calls Tryz.prog 23 #[.agg #[.bool x.n, .slice x.A x.l.length x.c, .slice x.A' x.d.length x.c'], .agg #[.bool y.n, .slice y.A y.l.length y.c, .slice y.A' y.d.length y.c']] w (FrOut (x.q + y.q) w) := by
  go_enter Tryz.func23, Tryz.ntmps23
  go_wp2_with fail
  have XA0 := ((Blk.new w [.bool x.n, .slice x.A x.l.length x.c, .slice x.A' x.d.length x.c'] 30).alloc (.cells #[.bool y.n, .slice y.A y.l.length y.c, .slice y.A' y.d.length y.c'] 30)).alloc (.cells #[.bool false, .slice none 0 0, .slice none 0 0] 30)
  have XB0 := (Blk.new (w.alloc (.cells #[.bool x.n, .slice x.A x.l.length x.c, .slice x.A' x.d.length x.c'] 30)) [.bool y.n, .slice y.A y.l.length y.c, .slice y.A' y.d.length y.c'] 30).alloc (.cells #[.bool false, .slice none 0 0, .slice none 0 0] 30)
  have XR0 := Blk.new ((w.alloc (.cells #[.bool x.n, .slice x.A x.l.length x.c, .slice x.A' x.d.length x.c'] 30)).alloc (.cells #[.bool y.n, .slice y.A y.l.length y.c, .slice y.A' y.d.length y.c'] 30)) [.bool false, .slice none 0 0, .slice none 0 0] 30
  have rhx := (((hx.alloc (.cells #[.bool x.n, .slice x.A x.l.length x.c, .slice x.A' x.d.length x.c'] 30)).alloc (.cells #[.bool y.n, .slice y.A y.l.length y.c, .slice y.A' y.d.length y.c'] 30)).alloc (.cells #[.bool false, .slice none 0 0, .slice none 0 0] 30))
  have rhy := (((hy.alloc (.cells #[.bool x.n, .slice x.A x.l.length x.c, .slice x.A' x.d.length x.c'] 30)).alloc (.cells #[.bool y.n, .slice y.A y.l.length y.c, .slice y.A' y.d.length y.c'] 30)).alloc (.cells #[.bool false, .slice none 0 0, .slice none 0 0] 30))
  have hb0 := ((((Below.refl w.heap.size w).alloc (Nat.le_refl _) (.cells #[.bool x.n, .slice x.A x.l.length x.c, .slice x.A' x.d.length x.c'] 30)).alloc (by simp) (.cells #[.bool y.n, .slice y.A y.l.length y.c, .slice y.A' y.d.length y.c'] 30)).alloc (by simp; omega) (.cells #[.bool false, .slice none 0 0, .slice none 0 0] 30))
  simp only [World.size_alloc] at XB0 XR0
  generalize ((w.alloc (.cells #[.bool x.n, .slice x.A x.l.length x.c, .slice x.A' x.d.length x.c'] 30)).alloc (.cells #[.bool y.n, .slice y.A y.l.length y.c, .slice y.A' y.d.length y.c'] 30)).alloc (.cells #[.bool false, .slice none 0 0, .slice none 0 0] 30) = W at *
  clear hx hy
  have XA := XA0; have XB := XB0; have hB := hb0; have rx := rhx; have ry := rhy; have XR := XR0; have hlt := XR0.lt
  clear XA0 XB0 hb0 rhx rhy XR0
  have cXA0 := XA.c 0 rfl; have cXA1 := XA.c 1 rfl; have cXA2 := XA.c 2 rfl; have cXB0 := XB.c 0 rfl; have cXB1 := XB.c 1 rfl; have cXB2 := XB.c 2 rfl; have cXR0 := XR.c 0 rfl; have cXR1 := XR.c 1 rfl; have cXR2 := XR.c 2 rfl
  refine (frac_parts _ x.n x.A x.c x.l _ x.A' x.c' x.d 10000 _ rx.1 rx.2.1 rx.2.2.1 rx.2.2.2.1 rx.2.2.2.2.1 rx.2.2.2.2.2 (by decide)).mono ?_
  rintro e w1 ⟨n1, P1, p1, l1, D1, e1, d1, rfl, hp1, he1, rp1, rd1, hd1, hl1, hld1, hq1, hb1⟩
  replace XA := XA.below hb1; replace XB := XB.below hb1; replace XR := XR.below hb1; replace ry := ry.below hb1; replace cXA0 := XA.c 0 rfl; replace cXA1 := XA.c 1 rfl; replace cXA2 := XA.c 2 rfl; replace cXB0 := XB.c 0 rfl; replace cXB1 := XB.c 1 rfl; replace cXB2 := XB.c 2 rfl; replace cXR0 := XR.c 0 rfl; replace cXR1 := XR.c 1 rfl; replace cXR2 := XR.c 2 rfl; replace hB := below_go hB hb1
  have HQ1 := Asd.mk hq1
  clear hq1
  have hlk1 := XR.lt
  replace XA := XA.alloc (.cells #[.bool n1, .slice P1 l1.length p1] 28)
  replace XB := XB.alloc (.cells #[.bool n1, .slice P1 l1.length p1] 28)
  replace XR := XR.alloc (.cells #[.bool n1, .slice P1 l1.length p1] 28)
  replace ry := ry.alloc (.cells #[.bool n1, .slice P1 l1.length p1] 28)
  replace rp1 := rp1.alloc (.cells #[.bool n1, .slice P1 l1.length p1] 28)
  replace rd1 := rd1.alloc (.cells #[.bool n1, .slice P1 l1.length p1] 28)
  have N1 := Blk.new w1 [.bool n1, .slice P1 l1.length p1] 28
  replace hB := hB.alloc hB.size (.cells #[.bool n1, .slice P1 l1.length p1] 28)
  replace cXA0 := XA.c 0 rfl
  replace cXA1 := XA.c 1 rfl
  replace cXA2 := XA.c 2 rfl
  replace cXB0 := XB.c 0 rfl
  replace cXB1 := XB.c 1 rfl
  replace cXB2 := XB.c 2 rfl
  replace cXR0 := XR.c 0 rfl
  replace cXR1 := XR.c 1 rfl
  replace cXR2 := XR.c 2 rfl
  have cN10 := N1.c 0 rfl
  have cN11 := N1.c 1 rfl
  generalize hbk1 : w1.heap.size = bk1 at *
  go_wp2_with fail
  refine (frac_parts _ y.n y.A y.c y.l _ y.A' y.c' y.d 10000 _ ry.1 ry.2.1 ry.2.2.1 ry.2.2.2.1 ry.2.2.2.2.1 ry.2.2.2.2.2 (by decide)).mono ?_
  rintro e w1 ⟨n2, P2, p2, l2, D2, e2, d2, rfl, hp2, he2, rp2, rd2, hd2, hl2, hld2, hq2, hb1⟩
  replace XR := XR.below hb1; replace N1 := N1.below hb1; replace rp1 := rp1.below hb1; replace rd1 := rd1.below hb1; replace cXR0 := XR.c 0 rfl; replace cXR1 := XR.c 1 rfl; replace cXR2 := XR.c 2 rfl; replace cN10 := N1.c 0 rfl; replace cN11 := N1.c 1 rfl; replace hB := below_go hB hb1
  have HQ2 := Asd.mk hq2
  clear hq2
  have hlk2 := XR.lt
  replace XR := XR.alloc (.cells #[.bool n2, .slice P2 l2.length p2] 28)
  replace N1 := N1.alloc (.cells #[.bool n2, .slice P2 l2.length p2] 28)
  replace rp1 := rp1.alloc (.cells #[.bool n2, .slice P2 l2.length p2] 28)
  replace rd1 := rd1.alloc (.cells #[.bool n2, .slice P2 l2.length p2] 28)
  replace rp2 := rp2.alloc (.cells #[.bool n2, .slice P2 l2.length p2] 28)
  replace rd2 := rd2.alloc (.cells #[.bool n2, .slice P2 l2.length p2] 28)
  have N2 := Blk.new w1 [.bool n2, .slice P2 l2.length p2] 28
  replace hB := hB.alloc hB.size (.cells #[.bool n2, .slice P2 l2.length p2] 28)
  replace cXR0 := XR.c 0 rfl
  replace cXR1 := XR.c 1 rfl
  replace cXR2 := XR.c 2 rfl
  replace cN10 := N1.c 0 rfl
  replace cN11 := N1.c 1 rfl
  have cN20 := N2.c 0 rfl
  have cN21 := N2.c 1 rfl
  generalize hbk2 : w1.heap.size = bk2 at *
  have HRES := Asd.mk (dv_add (zv n1 l1) (zv n2 l2) hd1 hd2)
  rw [HQ1.out, HQ2.out] at HRES
  have lz1 := len_zv (n := n1) rp1.wd hl1
  have lz2 := len_zv (n := n2) rp2.wd hl2
  have lm1 := len_mul lz1 (len_zv (n := false) rd2.wd hld2)
  have lm2 := len_mul lz2 (len_zv (n := false) rd1.wd hld1)
  have lm3 := len_mul lz1 lz2
  have lmd := len_mul (len_zv (n := false) rd1.wd hld1) (len_zv (n := false) rd2.wd hld2)
  have la1 := len_add lm1 lm2
  have la2 := len_sub lm1 lm2
  rw [show zv false d1 = val d1 from rfl] at lm2 lmd la1 la2
  rw [show zv false d2 = val d2 from rfl] at lm1 lmd la1 la2
  have hdd := Int.mul_pos hd1 hd2
  have hvd : val (rep (val d1 * val d2)) = val d1 * val d2 := val_rep (Int.le_of_lt hdd)
  have lmd2 : (rep (val d1 * val d2)).length ≤ 20000 := by
    have e : mag (val d1 * val d2) = rep (val d1 * val d2) := by unfold mag; congr 1; omega
    rw [← e]; exact lmd
  have ZM1 := Asd.mk (zv_mag (zv n1 l1 * val d2)); have ZM2 := Asd.mk (zv_mag (zv n2 l2 * val d1)); have ZM3 := Asd.mk (zv_mag (zv n1 l1 * val d2 + zv n2 l2 * val d1))
  have HVD := Asd.mk hvd
  have HDD := Asd.mk hdd
  clear hvd hdd lz1 lz2 lmd
  go_wp2_with fail
  generalize w1.alloc (.cells #[.bool n2, .slice P2 l2.length p2] 28) = Z at *
  clear hbk2 hb1
  replace XR := XR.drew; replace N1 := N1.drew; replace N2 := N2.drew; replace rp1 := rp1.drew; replace rd1 := rd1.drew; replace rp2 := rp2.drew; replace rd2 := rd2.drew; replace hB := below_drewN hB 1
  have hltz := XR.lt

  have m1 : ¬ (bk1 = w.heap.size + 1 + 1) := by omega
  have m2 : ¬ (bk2 = w.heap.size + 1 + 1) := by omega
  have m3 : ¬ (w.heap.size + 1 + 1 = bk1) := by omega
  have m4 : ¬ (w.heap.size + 1 + 1 = bk2) := by omega
  go_region_held3 (fun w' => w'.cell? ⟨bk1, 0, none⟩ = some (.bool n1) ∧ w'.cell? ⟨bk1, 1, none⟩ = some (.slice P1 l1.length p1) ∧ w'.cell? ⟨bk2, 0, none⟩ = some (.bool n2) ∧ w'.cell? ⟨bk2, 1, none⟩ = some (.slice P2 l2.length p2)) (go_keep)
    (first
      | (go_at_call_of 78 (Value.slice D2 d2.length e2); have hm := frac_cross _ n1 P1 p1 l1 _ D2 e2 d2 _ rp1 hp1 rd2 he2 (by omega) (by omega); refine hm.mono ?_; clear hm; rintro e w1 ⟨U1, u1, rfl, hu1, rc1, hb1⟩; replace XR := XR.below hb1; replace N1 := N1.below hb1; replace N2 := N2.below hb1; replace rp1 := rp1.below hb1; replace rd1 := rd1.below hb1; replace rp2 := rp2.below hb1; replace rd2 := rd2.below hb1; replace cXR0 := XR.c 0 rfl; replace cXR1 := XR.c 1 rfl; replace cXR2 := XR.c 2 rfl; replace cN10 := N1.c 0 rfl; replace cN11 := N1.c 1 rfl; replace cN20 := N2.c 0 rfl; replace cN21 := N2.c 1 rfl; replace hB := below_go hB hb1)
      | (go_at_call_of 78 (Value.slice D1 d1.length e1); have hm := frac_cross _ n2 P2 p2 l2 _ D1 e1 d1 _ rp2 hp2 rd1 he1 (by omega) (by omega); refine hm.mono ?_; clear hm; rintro e w1 ⟨U2, u2, rfl, hu2, rc2, hb1⟩; replace rc1 := rc1.below hb1; replace XR := XR.below hb1; replace N1 := N1.below hb1; replace N2 := N2.below hb1; replace rp1 := rp1.below hb1; replace rd1 := rd1.below hb1; replace rp2 := rp2.below hb1; replace rd2 := rd2.below hb1; replace cXR0 := XR.c 0 rfl; replace cXR1 := XR.c 1 rfl; replace cXR2 := XR.c 2 rfl; replace cN10 := N1.c 0 rfl; replace cN11 := N1.c 1 rfl; replace cN20 := N2.c 0 rfl; replace cN21 := N2.c 1 rfl; replace hB := below_go hB hb1)
      | (go_at_call 80; have hm := whole_Add _ (ng (zv n1 l1 * val d2)) U1 u1 (mag (zv n1 l1 * val d2)) _ (ng (zv n2 l2 * val d1)) U2 u2 (mag (zv n2 l2 * val d1)) _ rc1 hu1 rc2 hu2 (by omega) (by omega); rw [ZM1.out, ZM2.out] at hm; refine hm.mono ?_; clear hm; rintro e w1 ⟨U3, u3, rfl, hu3, rs, hb1⟩; clear rc1 rc2; replace XR := XR.below hb1; replace N1 := N1.below hb1; replace N2 := N2.below hb1; replace rp1 := rp1.below hb1; replace rd1 := rd1.below hb1; replace rp2 := rp2.below hb1; replace rd2 := rd2.below hb1; replace cXR0 := XR.c 0 rfl; replace cXR1 := XR.c 1 rfl; replace cXR2 := XR.c 2 rfl; replace cN10 := N1.c 0 rfl; replace cN11 := N1.c 1 rfl; replace cN20 := N2.c 0 rfl; replace cN21 := N2.c 1 rfl; replace hB := below_go hB hb1)
      | (go_at_call 79; have hm := prod_Mul _ D1 e1 d1 _ D2 e2 d2 _ rd1 he1 rd2 he2 (by omega) (by omega); refine hm.mono ?_; clear hm; rintro e w1 ⟨gp, rfl, rpd, hgp, hb1⟩; replace rs := rs.below hb1; replace XR := XR.below hb1; replace N1 := N1.below hb1; replace N2 := N2.below hb1; replace rp1 := rp1.below hb1; replace rd1 := rd1.below hb1; replace rp2 := rp2.below hb1; replace rd2 := rd2.below hb1; replace cXR0 := XR.c 0 rfl; replace cXR1 := XR.c 1 rfl; replace cXR2 := XR.c 2 rfl; replace cN10 := N1.c 0 rfl; replace cN11 := N1.c 1 rfl; replace cN20 := N2.c 0 rfl; replace cN21 := N2.c 1 rfl; replace hB := below_go hB hb1)
      | (go_at_call 59; have hm := frac_cancel _ (ng (zv n1 l1 * val d2 + zv n2 l2 * val d1)) U3 u3 (mag (zv n1 l1 * val d2 + zv n2 l2 * val d1)) _ (some ⟨gp, 0, none⟩) (rep (val d1 * val d2)).length (rep (val d1 * val d2)) _ rs hu3 (rpd.rd (ok := fun _ => True) trivial) (Nat.le_refl _) (by omega) (by omega) (by rw [HVD.out]; exact HDD.out); rw [ZM3.out, HVD.out, HRES.out] at hm; refine hm.mono ?_; clear hm; rintro e w1 ⟨V1, v1, V2, v2, rfl, hv1, hv2, rv1, rv2, hb1⟩; have hszb := XR.lt; clear rs rpd; replace XR := XR.below hb1; replace N1 := N1.below hb1; replace N2 := N2.below hb1; replace rp1 := rp1.below hb1; replace rd1 := rd1.below hb1; replace rp2 := rp2.below hb1; replace rd2 := rd2.below hb1; replace cXR0 := XR.c 0 rfl; replace cXR1 := XR.c 1 rfl; replace cXR2 := XR.c 2 rfl; replace cN10 := N1.c 0 rfl; replace cN11 := N1.c 1 rfl; replace cN20 := N2.c 0 rfl; replace cN21 := N2.c 1 rfl; replace hB := below_go hB hb1; have rf := XR.f; have rl := XR.lt))
  go_wp2
  refine bodyPost_ret (ret_blk rfl rfl (((XR.set 0 _).set 1 _).set 2 _) Tryz.underlying30 (by kernel_rfl)) rfl ?_
  exact ⟨V1, v1, V2, v2, rfl, hv1, hv2, (((rv1.setCell (by simp; omega) _).setCell (by simp; omega) _).setCell (by simp; omega) _).mono (fun k _ hk => by omega), (((rv2.setCell (by simp; omega) _).setCell (by simp; omega) _).setCell (by simp; omega) _).mono (fun k _ hk => by omega), ((hB.setCell (by simp; omega) _).setCell (by simp; omega) _).setCell (by simp; omega) _⟩

set_option maxHeartbeats 2000000 in
theorem frac_Sub (ok ok' : Nat → Prop) (x y : RF) (w : World) (hx : x.ok ok w) (hy : y.ok ok' w) :
    Calls Tryz.prog 22 #[.agg #[.bool x.n, .slice x.A x.l.length x.c, .slice x.A' x.d.length x.c'], .agg #[.bool y.n, .slice y.A y.l.length y.c, .slice y.A' y.d.length y.c']] w (FrOut (x.q - y.q) w) := by
  go_enter Tryz.func22, Tryz.ntmps22
  go_wp2_with fail
  have XA0 := ((Blk.new w [.bool x.n, .slice x.A x.l.length x.c, .slice x.A' x.d.length x.c'] 30).alloc (.cells #[.bool y.n, .slice y.A y.l.length y.c, .slice y.A' y.d.length y.c'] 30)).alloc (.cells #[.bool false, .slice none 0 0, .slice none 0 0] 30)
  have XB0 := (Blk.new (w.alloc (.cells #[.bool x.n, .slice x.A x.l.length x.c, .slice x.A' x.d.length x.c'] 30)) [.bool y.n, .slice y.A y.l.length y.c, .slice y.A' y.d.length y.c'] 30).alloc (.cells #[.bool false, .slice none 0 0, .slice none 0 0] 30)
  have XR0 := Blk.new ((w.alloc (.cells #[.bool x.n, .slice x.A x.l.length x.c, .slice x.A' x.d.length x.c'] 30)).alloc (.cells #[.bool y.n, .slice y.A y.l.length y.c, .slice y.A' y.d.length y.c'] 30)) [.bool false, .slice none 0 0, .slice none 0 0] 30
  have rhx := (((hx.alloc (.cells #[.bool x.n, .slice x.A x.l.length x.c, .slice x.A' x.d.length x.c'] 30)).alloc (.cells #[.bool y.n, .slice y.A y.l.length y.c, .slice y.A' y.d.length y.c'] 30)).alloc (.cells #[.bool false, .slice none 0 0, .slice none 0 0] 30))
  have rhy := (((hy.alloc (.cells #[.bool x.n, .slice x.A x.l.length x.c, .slice x.A' x.d.length x.c'] 30)).alloc (.cells #[.bool y.n, .slice y.A y.l.length y.c, .slice y.A' y.d.length y.c'] 30)).alloc (.cells #[.bool false, .slice none 0 0, .slice none 0 0] 30))
  have hb0 := ((((Below.refl w.heap.size w).alloc (Nat.le_refl _) (.cells #[.bool x.n, .slice x.A x.l.length x.c, .slice x.A' x.d.length x.c'] 30)).alloc (by simp) (.cells #[.bool y.n, .slice y.A y.l.length y.c, .slice y.A' y.d.length y.c'] 30)).alloc (by simp; omega) (.cells #[.bool false, .slice none 0 0, .slice none 0 0] 30))
  simp only [World.size_alloc] at XB0 XR0
  generalize ((w.alloc (.cells #[.bool x.n, .slice x.A x.l.length x.c, .slice x.A' x.d.length x.c'] 30)).alloc (.cells #[.bool y.n, .slice y.A y.l.length y.c, .slice y.A' y.d.length y.c'] 30)).alloc (.cells #[.bool false, .slice none 0 0, .slice none 0 0] 30) = W at *
  clear hx hy
  have XA := XA0; have XB := XB0; have hB := hb0; have rx := rhx; have ry := rhy; have XR := XR0; have hlt := XR0.lt
  clear XA0 XB0 hb0 rhx rhy XR0
  have cXA0 := XA.c 0 rfl; have cXA1 := XA.c 1 rfl; have cXA2 := XA.c 2 rfl; have cXB0 := XB.c 0 rfl; have cXB1 := XB.c 1 rfl; have cXB2 := XB.c 2 rfl; have cXR0 := XR.c 0 rfl; have cXR1 := XR.c 1 rfl; have cXR2 := XR.c 2 rfl
  refine (frac_parts _ x.n x.A x.c x.l _ x.A' x.c' x.d 10000 _ rx.1 rx.2.1 rx.2.2.1 rx.2.2.2.1 rx.2.2.2.2.1 rx.2.2.2.2.2 (by decide)).mono ?_
  rintro e w1 ⟨n1, P1, p1, l1, D1, e1, d1, rfl, hp1, he1, rp1, rd1, hd1, hl1, hld1, hq1, hb1⟩
  replace XA := XA.below hb1; replace XB := XB.below hb1; replace XR := XR.below hb1; replace ry := ry.below hb1; replace cXA0 := XA.c 0 rfl; replace cXA1 := XA.c 1 rfl; replace cXA2 := XA.c 2 rfl; replace cXB0 := XB.c 0 rfl; replace cXB1 := XB.c 1 rfl; replace cXB2 := XB.c 2 rfl; replace cXR0 := XR.c 0 rfl; replace cXR1 := XR.c 1 rfl; replace cXR2 := XR.c 2 rfl; replace hB := below_go hB hb1
  have HQ1 := Asd.mk hq1
  clear hq1
  have hlk1 := XR.lt
  replace XA := XA.alloc (.cells #[.bool n1, .slice P1 l1.length p1] 28)
  replace XB := XB.alloc (.cells #[.bool n1, .slice P1 l1.length p1] 28)
  replace XR := XR.alloc (.cells #[.bool n1, .slice P1 l1.length p1] 28)
  replace ry := ry.alloc (.cells #[.bool n1, .slice P1 l1.length p1] 28)
  replace rp1 := rp1.alloc (.cells #[.bool n1, .slice P1 l1.length p1] 28)
  replace rd1 := rd1.alloc (.cells #[.bool n1, .slice P1 l1.length p1] 28)
  have N1 := Blk.new w1 [.bool n1, .slice P1 l1.length p1] 28
  replace hB := hB.alloc hB.size (.cells #[.bool n1, .slice P1 l1.length p1] 28)
  replace cXA0 := XA.c 0 rfl
  replace cXA1 := XA.c 1 rfl
  replace cXA2 := XA.c 2 rfl
  replace cXB0 := XB.c 0 rfl
  replace cXB1 := XB.c 1 rfl
  replace cXB2 := XB.c 2 rfl
  replace cXR0 := XR.c 0 rfl
  replace cXR1 := XR.c 1 rfl
  replace cXR2 := XR.c 2 rfl
  have cN10 := N1.c 0 rfl
  have cN11 := N1.c 1 rfl
  generalize hbk1 : w1.heap.size = bk1 at *
  go_wp2_with fail
  refine (frac_parts _ y.n y.A y.c y.l _ y.A' y.c' y.d 10000 _ ry.1 ry.2.1 ry.2.2.1 ry.2.2.2.1 ry.2.2.2.2.1 ry.2.2.2.2.2 (by decide)).mono ?_
  rintro e w1 ⟨n2, P2, p2, l2, D2, e2, d2, rfl, hp2, he2, rp2, rd2, hd2, hl2, hld2, hq2, hb1⟩
  replace XR := XR.below hb1; replace N1 := N1.below hb1; replace rp1 := rp1.below hb1; replace rd1 := rd1.below hb1; replace cXR0 := XR.c 0 rfl; replace cXR1 := XR.c 1 rfl; replace cXR2 := XR.c 2 rfl; replace cN10 := N1.c 0 rfl; replace cN11 := N1.c 1 rfl; replace hB := below_go hB hb1
  have HQ2 := Asd.mk hq2
  clear hq2
  have hlk2 := XR.lt
  replace XR := XR.alloc (.cells #[.bool n2, .slice P2 l2.length p2] 28)
  replace N1 := N1.alloc (.cells #[.bool n2, .slice P2 l2.length p2] 28)
  replace rp1 := rp1.alloc (.cells #[.bool n2, .slice P2 l2.length p2] 28)
  replace rd1 := rd1.alloc (.cells #[.bool n2, .slice P2 l2.length p2] 28)
  replace rp2 := rp2.alloc (.cells #[.bool n2, .slice P2 l2.length p2] 28)
  replace rd2 := rd2.alloc (.cells #[.bool n2, .slice P2 l2.length p2] 28)
  have N2 := Blk.new w1 [.bool n2, .slice P2 l2.length p2] 28
  replace hB := hB.alloc hB.size (.cells #[.bool n2, .slice P2 l2.length p2] 28)
  replace cXR0 := XR.c 0 rfl
  replace cXR1 := XR.c 1 rfl
  replace cXR2 := XR.c 2 rfl
  replace cN10 := N1.c 0 rfl
  replace cN11 := N1.c 1 rfl
  have cN20 := N2.c 0 rfl
  have cN21 := N2.c 1 rfl
  generalize hbk2 : w1.heap.size = bk2 at *
  have HRES := Asd.mk (dv_sub (zv n1 l1) (zv n2 l2) hd1 hd2)
  rw [HQ1.out, HQ2.out] at HRES
  have lz1 := len_zv (n := n1) rp1.wd hl1
  have lz2 := len_zv (n := n2) rp2.wd hl2
  have lm1 := len_mul lz1 (len_zv (n := false) rd2.wd hld2)
  have lm2 := len_mul lz2 (len_zv (n := false) rd1.wd hld1)
  have lm3 := len_mul lz1 lz2
  have lmd := len_mul (len_zv (n := false) rd1.wd hld1) (len_zv (n := false) rd2.wd hld2)
  have la1 := len_add lm1 lm2
  have la2 := len_sub lm1 lm2
  rw [show zv false d1 = val d1 from rfl] at lm2 lmd la1 la2
  rw [show zv false d2 = val d2 from rfl] at lm1 lmd la1 la2
  have hdd := Int.mul_pos hd1 hd2
  have hvd : val (rep (val d1 * val d2)) = val d1 * val d2 := val_rep (Int.le_of_lt hdd)
  have lmd2 : (rep (val d1 * val d2)).length ≤ 20000 := by
    have e : mag (val d1 * val d2) = rep (val d1 * val d2) := by unfold mag; congr 1; omega
    rw [← e]; exact lmd
  have ZM1 := Asd.mk (zv_mag (zv n1 l1 * val d2)); have ZM2 := Asd.mk (zv_mag (zv n2 l2 * val d1)); have ZM3 := Asd.mk (zv_mag (zv n1 l1 * val d2 - zv n2 l2 * val d1))
  have HVD := Asd.mk hvd
  have HDD := Asd.mk hdd
  clear hvd hdd lz1 lz2 lmd
  go_wp2_with fail
  generalize w1.alloc (.cells #[.bool n2, .slice P2 l2.length p2] 28) = Z at *
  clear hbk2 hb1
  replace XR := XR.drew; replace N1 := N1.drew; replace N2 := N2.drew; replace rp1 := rp1.drew; replace rd1 := rd1.drew; replace rp2 := rp2.drew; replace rd2 := rd2.drew; replace hB := below_drewN hB 1
  have hltz := XR.lt

  have m1 : ¬ (bk1 = w.heap.size + 1 + 1) := by omega
  have m2 : ¬ (bk2 = w.heap.size + 1 + 1) := by omega
  have m3 : ¬ (w.heap.size + 1 + 1 = bk1) := by omega
  have m4 : ¬ (w.heap.size + 1 + 1 = bk2) := by omega
  go_region_held3 (fun w' => w'.cell? ⟨bk1, 0, none⟩ = some (.bool n1) ∧ w'.cell? ⟨bk1, 1, none⟩ = some (.slice P1 l1.length p1) ∧ w'.cell? ⟨bk2, 0, none⟩ = some (.bool n2) ∧ w'.cell? ⟨bk2, 1, none⟩ = some (.slice P2 l2.length p2)) (go_keep)
    (first
      | (go_at_call_of 78 (Value.slice D2 d2.length e2); have hm := frac_cross _ n1 P1 p1 l1 _ D2 e2 d2 _ rp1 hp1 rd2 he2 (by omega) (by omega); refine hm.mono ?_; clear hm; rintro e w1 ⟨U1, u1, rfl, hu1, rc1, hb1⟩; replace XR := XR.below hb1; replace N1 := N1.below hb1; replace N2 := N2.below hb1; replace rp1 := rp1.below hb1; replace rd1 := rd1.below hb1; replace rp2 := rp2.below hb1; replace rd2 := rd2.below hb1; replace cXR0 := XR.c 0 rfl; replace cXR1 := XR.c 1 rfl; replace cXR2 := XR.c 2 rfl; replace cN10 := N1.c 0 rfl; replace cN11 := N1.c 1 rfl; replace cN20 := N2.c 0 rfl; replace cN21 := N2.c 1 rfl; replace hB := below_go hB hb1)
      | (go_at_call_of 78 (Value.slice D1 d1.length e1); have hm := frac_cross _ n2 P2 p2 l2 _ D1 e1 d1 _ rp2 hp2 rd1 he1 (by omega) (by omega); refine hm.mono ?_; clear hm; rintro e w1 ⟨U2, u2, rfl, hu2, rc2, hb1⟩; replace rc1 := rc1.below hb1; replace XR := XR.below hb1; replace N1 := N1.below hb1; replace N2 := N2.below hb1; replace rp1 := rp1.below hb1; replace rd1 := rd1.below hb1; replace rp2 := rp2.below hb1; replace rd2 := rd2.below hb1; replace cXR0 := XR.c 0 rfl; replace cXR1 := XR.c 1 rfl; replace cXR2 := XR.c 2 rfl; replace cN10 := N1.c 0 rfl; replace cN11 := N1.c 1 rfl; replace cN20 := N2.c 0 rfl; replace cN21 := N2.c 1 rfl; replace hB := below_go hB hb1)
      | (go_at_call 77; have hm := whole_Sub _ (ng (zv n1 l1 * val d2)) U1 u1 (mag (zv n1 l1 * val d2)) _ (ng (zv n2 l2 * val d1)) U2 u2 (mag (zv n2 l2 * val d1)) _ rc1 hu1 rc2 hu2 (by omega) (by omega); rw [ZM1.out, ZM2.out] at hm; refine hm.mono ?_; clear hm; rintro e w1 ⟨U3, u3, rfl, hu3, rs, hb1⟩; clear rc1 rc2; replace XR := XR.below hb1; replace N1 := N1.below hb1; replace N2 := N2.below hb1; replace rp1 := rp1.below hb1; replace rd1 := rd1.below hb1; replace rp2 := rp2.below hb1; replace rd2 := rd2.below hb1; replace cXR0 := XR.c 0 rfl; replace cXR1 := XR.c 1 rfl; replace cXR2 := XR.c 2 rfl; replace cN10 := N1.c 0 rfl; replace cN11 := N1.c 1 rfl; replace cN20 := N2.c 0 rfl; replace cN21 := N2.c 1 rfl; replace hB := below_go hB hb1)
      | (go_at_call 79; have hm := prod_Mul _ D1 e1 d1 _ D2 e2 d2 _ rd1 he1 rd2 he2 (by omega) (by omega); refine hm.mono ?_; clear hm; rintro e w1 ⟨gp, rfl, rpd, hgp, hb1⟩; replace rs := rs.below hb1; replace XR := XR.below hb1; replace N1 := N1.below hb1; replace N2 := N2.below hb1; replace rp1 := rp1.below hb1; replace rd1 := rd1.below hb1; replace rp2 := rp2.below hb1; replace rd2 := rd2.below hb1; replace cXR0 := XR.c 0 rfl; replace cXR1 := XR.c 1 rfl; replace cXR2 := XR.c 2 rfl; replace cN10 := N1.c 0 rfl; replace cN11 := N1.c 1 rfl; replace cN20 := N2.c 0 rfl; replace cN21 := N2.c 1 rfl; replace hB := below_go hB hb1)
      | (go_at_call 59; have hm := frac_cancel _ (ng (zv n1 l1 * val d2 - zv n2 l2 * val d1)) U3 u3 (mag (zv n1 l1 * val d2 - zv n2 l2 * val d1)) _ (some ⟨gp, 0, none⟩) (rep (val d1 * val d2)).length (rep (val d1 * val d2)) _ rs hu3 (rpd.rd (ok := fun _ => True) trivial) (Nat.le_refl _) (by omega) (by omega) (by rw [HVD.out]; exact HDD.out); rw [ZM3.out, HVD.out, HRES.out] at hm; refine hm.mono ?_; clear hm; rintro e w1 ⟨V1, v1, V2, v2, rfl, hv1, hv2, rv1, rv2, hb1⟩; have hszb := XR.lt; clear rs rpd; replace XR := XR.below hb1; replace N1 := N1.below hb1; replace N2 := N2.below hb1; replace rp1 := rp1.below hb1; replace rd1 := rd1.below hb1; replace rp2 := rp2.below hb1; replace rd2 := rd2.below hb1; replace cXR0 := XR.c 0 rfl; replace cXR1 := XR.c 1 rfl; replace cXR2 := XR.c 2 rfl; replace cN10 := N1.c 0 rfl; replace cN11 := N1.c 1 rfl; replace cN20 := N2.c 0 rfl; replace cN21 := N2.c 1 rfl; replace hB := below_go hB hb1; have rf := XR.f; have rl := XR.lt))
  go_wp2
  refine bodyPost_ret (ret_blk rfl rfl (((XR.set 0 _).set 1 _).set 2 _) Tryz.underlying30 (by kernel_rfl)) rfl ?_
  exact ⟨V1, v1, V2, v2, rfl, hv1, hv2, (((rv1.setCell (by simp; omega) _).setCell (by simp; omega) _).setCell (by simp; omega) _).mono (fun k _ hk => by omega), (((rv2.setCell (by simp; omega) _).setCell (by simp; omega) _).setCell (by simp; omega) _).mono (fun k _ hk => by omega), ((hB.setCell (by simp; omega) _).setCell (by simp; omega) _).setCell (by simp; omega) _⟩

set_option maxHeartbeats 2000000 in
theorem frac_Cmp (ok ok' : Nat → Prop) (x y : RF) (w : World) (hx : x.ok ok w) (hy : y.ok ok' w) :
    Calls Tryz.prog 26 #[.agg #[.bool x.n, .slice x.A x.l.length x.c, .slice x.A' x.d.length x.c'], .agg #[.bool y.n, .slice y.A y.l.length y.c, .slice y.A' y.d.length y.c']] w fun e w' => e = .returned (.int .i64 (sgI (x.q - y.q).num)) ∧ Below w.heap.size w w' := by
  go_enter Tryz.func26, Tryz.ntmps26
  go_wp2_with fail
  have XA0 := (Blk.new w [.bool x.n, .slice x.A x.l.length x.c, .slice x.A' x.d.length x.c'] 30).alloc (.cells #[.bool y.n, .slice y.A y.l.length y.c, .slice y.A' y.d.length y.c'] 30)
  have XB0 := Blk.new (w.alloc (.cells #[.bool x.n, .slice x.A x.l.length x.c, .slice x.A' x.d.length x.c'] 30)) [.bool y.n, .slice y.A y.l.length y.c, .slice y.A' y.d.length y.c'] 30
  have rhx := ((hx.alloc (.cells #[.bool x.n, .slice x.A x.l.length x.c, .slice x.A' x.d.length x.c'] 30)).alloc (.cells #[.bool y.n, .slice y.A y.l.length y.c, .slice y.A' y.d.length y.c'] 30))
  have rhy := ((hy.alloc (.cells #[.bool x.n, .slice x.A x.l.length x.c, .slice x.A' x.d.length x.c'] 30)).alloc (.cells #[.bool y.n, .slice y.A y.l.length y.c, .slice y.A' y.d.length y.c'] 30))
  have hb0 := (((Below.refl w.heap.size w).alloc (Nat.le_refl _) (.cells #[.bool x.n, .slice x.A x.l.length x.c, .slice x.A' x.d.length x.c'] 30)).alloc (by simp) (.cells #[.bool y.n, .slice y.A y.l.length y.c, .slice y.A' y.d.length y.c'] 30))
  simp only [World.size_alloc] at XB0
  generalize (w.alloc (.cells #[.bool x.n, .slice x.A x.l.length x.c, .slice x.A' x.d.length x.c'] 30)).alloc (.cells #[.bool y.n, .slice y.A y.l.length y.c, .slice y.A' y.d.length y.c'] 30) = W at *
  clear hx hy
  have XA := XA0; have XB := XB0; have hB := hb0; have rx := rhx; have ry := rhy
  clear XA0 XB0 hb0 rhx rhy
  have cXA0 := XA.c 0 rfl; have cXA1 := XA.c 1 rfl; have cXA2 := XA.c 2 rfl; have cXB0 := XB.c 0 rfl; have cXB1 := XB.c 1 rfl; have cXB2 := XB.c 2 rfl
  refine (frac_parts _ x.n x.A x.c x.l _ x.A' x.c' x.d 10000 _ rx.1 rx.2.1 rx.2.2.1 rx.2.2.2.1 rx.2.2.2.2.1 rx.2.2.2.2.2 (by decide)).mono ?_
  rintro e w1 ⟨n1, P1, p1, l1, D1, e1, d1, rfl, hp1, he1, rp1, rd1, hd1, hl1, hld1, hq1, hb1⟩
  replace XA := XA.below hb1; replace XB := XB.below hb1; replace ry := ry.below hb1; replace cXA0 := XA.c 0 rfl; replace cXA1 := XA.c 1 rfl; replace cXA2 := XA.c 2 rfl; replace cXB0 := XB.c 0 rfl; replace cXB1 := XB.c 1 rfl; replace cXB2 := XB.c 2 rfl; replace hB := below_go hB hb1
  have HQ1 := Asd.mk hq1
  clear hq1
  replace XA := XA.alloc (.cells #[.bool n1, .slice P1 l1.length p1] 28)
  replace XB := XB.alloc (.cells #[.bool n1, .slice P1 l1.length p1] 28)
  replace ry := ry.alloc (.cells #[.bool n1, .slice P1 l1.length p1] 28)
  replace rp1 := rp1.alloc (.cells #[.bool n1, .slice P1 l1.length p1] 28)
  replace rd1 := rd1.alloc (.cells #[.bool n1, .slice P1 l1.length p1] 28)
  have N1 := Blk.new w1 [.bool n1, .slice P1 l1.length p1] 28
  replace hB := hB.alloc hB.size (.cells #[.bool n1, .slice P1 l1.length p1] 28)
  replace cXA0 := XA.c 0 rfl
  replace cXA1 := XA.c 1 rfl
  replace cXA2 := XA.c 2 rfl
  replace cXB0 := XB.c 0 rfl
  replace cXB1 := XB.c 1 rfl
  replace cXB2 := XB.c 2 rfl
  have cN10 := N1.c 0 rfl
  have cN11 := N1.c 1 rfl
  generalize hbk1 : w1.heap.size = bk1 at *
  go_wp2_with fail
  refine (frac_parts _ y.n y.A y.c y.l _ y.A' y.c' y.d 10000 _ ry.1 ry.2.1 ry.2.2.1 ry.2.2.2.1 ry.2.2.2.2.1 ry.2.2.2.2.2 (by decide)).mono ?_
  rintro e w1 ⟨n2, P2, p2, l2, D2, e2, d2, rfl, hp2, he2, rp2, rd2, hd2, hl2, hld2, hq2, hb1⟩
  replace N1 := N1.below hb1; replace rp1 := rp1.below hb1; replace rd1 := rd1.below hb1; replace cN10 := N1.c 0 rfl; replace cN11 := N1.c 1 rfl; replace hB := below_go hB hb1
  have HQ2 := Asd.mk hq2
  clear hq2
  replace N1 := N1.alloc (.cells #[.bool n2, .slice P2 l2.length p2] 28)
  replace rp1 := rp1.alloc (.cells #[.bool n2, .slice P2 l2.length p2] 28)
  replace rd1 := rd1.alloc (.cells #[.bool n2, .slice P2 l2.length p2] 28)
  replace rp2 := rp2.alloc (.cells #[.bool n2, .slice P2 l2.length p2] 28)
  replace rd2 := rd2.alloc (.cells #[.bool n2, .slice P2 l2.length p2] 28)
  have N2 := Blk.new w1 [.bool n2, .slice P2 l2.length p2] 28
  replace hB := hB.alloc hB.size (.cells #[.bool n2, .slice P2 l2.length p2] 28)
  replace cN10 := N1.c 0 rfl
  replace cN11 := N1.c 1 rfl
  have cN20 := N2.c 0 rfl
  have cN21 := N2.c 1 rfl
  generalize hbk2 : w1.heap.size = bk2 at *
  have HRES := Asd.mk (dv_sub (zv n1 l1) (zv n2 l2) hd1 hd2)
  rw [HQ1.out, HQ2.out] at HRES
  have lz1 := len_zv (n := n1) rp1.wd hl1
  have lz2 := len_zv (n := n2) rp2.wd hl2
  have lm1 := len_mul lz1 (len_zv (n := false) rd2.wd hld2)
  have lm2 := len_mul lz2 (len_zv (n := false) rd1.wd hld1)
  have lm3 := len_mul lz1 lz2
  have lmd := len_mul (len_zv (n := false) rd1.wd hld1) (len_zv (n := false) rd2.wd hld2)
  have la1 := len_add lm1 lm2
  have la2 := len_sub lm1 lm2
  rw [show zv false d1 = val d1 from rfl] at lm2 lmd la1 la2
  rw [show zv false d2 = val d2 from rfl] at lm1 lmd la1 la2
  have hdd := Int.mul_pos hd1 hd2
  have hvd : val (rep (val d1 * val d2)) = val d1 * val d2 := val_rep (Int.le_of_lt hdd)
  have lmd2 : (rep (val d1 * val d2)).length ≤ 20000 := by
    have e : mag (val d1 * val d2) = rep (val d1 * val d2) := by unfold mag; congr 1; omega
    rw [← e]; exact lmd
  have ZM1 := Asd.mk (zv_mag (zv n1 l1 * val d2)); have ZM2 := Asd.mk (zv_mag (zv n2 l2 * val d1)); have ZM3 := Asd.mk (zv_mag (zv n1 l1 * val d2 - zv n2 l2 * val d1))
  have HVD := Asd.mk hvd
  have HDD := Asd.mk hdd
  clear hvd hdd lz1 lz2 lmd
  go_wp2_with fail
  generalize w1.alloc (.cells #[.bool n2, .slice P2 l2.length p2] 28) = Z at *
  clear hbk2 hb1
  replace N1 := N1.drew; replace N2 := N2.drew; replace rp1 := rp1.drew; replace rd1 := rd1.drew; replace rp2 := rp2.drew; replace rd2 := rd2.drew; replace hB := below_drewN hB 1
  have HCS := Asd.mk ((sgI_dv HDD.out).symm.trans (congrArg (fun q : Rat => sgI q.num) HRES.out))
  go_region_held3 (fun w' => w'.cell? ⟨bk1, 0, none⟩ = some (.bool n1) ∧ w'.cell? ⟨bk1, 1, none⟩ = some (.slice P1 l1.length p1) ∧ w'.cell? ⟨bk2, 0, none⟩ = some (.bool n2) ∧ w'.cell? ⟨bk2, 1, none⟩ = some (.slice P2 l2.length p2)) (go_keep)
    (first
      | (go_at_call_of 78 (Value.slice D2 d2.length e2); have hm := frac_cross _ n1 P1 p1 l1 _ D2 e2 d2 _ rp1 hp1 rd2 he2 (by omega) (by omega); refine hm.mono ?_; clear hm; rintro e w1 ⟨U1, u1, rfl, hu1, rc1, hb1⟩; replace N1 := N1.below hb1; replace N2 := N2.below hb1; replace rp1 := rp1.below hb1; replace rd1 := rd1.below hb1; replace rp2 := rp2.below hb1; replace rd2 := rd2.below hb1; replace cN10 := N1.c 0 rfl; replace cN11 := N1.c 1 rfl; replace cN20 := N2.c 0 rfl; replace cN21 := N2.c 1 rfl; replace hB := below_go hB hb1)
      | (go_at_call_of 78 (Value.slice D1 d1.length e1); have hm := frac_cross _ n2 P2 p2 l2 _ D1 e1 d1 _ rp2 hp2 rd1 he1 (by omega) (by omega); refine hm.mono ?_; clear hm; rintro e w1 ⟨U2, u2, rfl, hu2, rc2, hb1⟩; replace rc1 := rc1.below hb1; replace N1 := N1.below hb1; replace N2 := N2.below hb1; replace rp1 := rp1.below hb1; replace rd1 := rd1.below hb1; replace rp2 := rp2.below hb1; replace rd2 := rd2.below hb1; replace cN10 := N1.c 0 rfl; replace cN11 := N1.c 1 rfl; replace cN20 := N2.c 0 rfl; replace cN21 := N2.c 1 rfl; replace hB := below_go hB hb1)
      | (go_at_call 83; have hm := whole_Cmp _ (ng (zv n1 l1 * val d2)) U1 u1 (mag (zv n1 l1 * val d2)) _ (ng (zv n2 l2 * val d1)) U2 u2 (mag (zv n2 l2 * val d1)) _ rc1 hu1 rc2 hu2 (by omega) (by omega); rw [ZM1.out, ZM2.out] at hm; refine hm.mono ?_; clear hm; rintro e w1 ⟨rfl, hb1⟩; clear rc1 rc2; replace N1 := N1.below hb1; replace N2 := N2.below hb1; replace rp1 := rp1.below hb1; replace rd1 := rd1.below hb1; replace rp2 := rp2.below hb1; replace rd2 := rd2.below hb1; replace cN10 := N1.c 0 rfl; replace cN11 := N1.c 1 rfl; replace cN20 := N2.c 0 rfl; replace cN21 := N2.c 1 rfl; replace hB := below_go hB hb1))
  go_wp2
  go_ret
  exact ⟨congrArg (fun i => Ending.returned (.int .i64 i)) HCS.out, hB⟩

set_option maxHeartbeats 2000000 in
theorem frac_Mul (ok ok' : Nat → Prop) (x y : RF) (w : World) (hx : x.ok ok w) (hy : y.ok ok' w) :
    Calls Tryz.prog 24 #[.agg #[.bool x.n, .slice x.A x.l.length x.c, .slice x.A' x.d.length x.c'], .agg #[.bool y.n, .slice y.A y.l.length y.c, .slice y.A' y.d.length y.c']] w (FrOut (x.q * y.q) w) := by
  go_enter Tryz.func24, Tryz.ntmps24
  go_wp2_with fail
  have XA0 := ((Blk.new w [.bool x.n, .slice x.A x.l.length x.c, .slice x.A' x.d.length x.c'] 30).alloc (.cells #[.bool y.n, .slice y.A y.l.length y.c, .slice y.A' y.d.length y.c'] 30)).alloc (.cells #[.bool false, .slice none 0 0, .slice none 0 0] 30)
  have XB0 := (Blk.new (w.alloc (.cells #[.bool x.n, .slice x.A x.l.length x.c, .slice x.A' x.d.length x.c'] 30)) [.bool y.n, .slice y.A y.l.length y.c, .slice y.A' y.d.length y.c'] 30).alloc (.cells #[.bool false, .slice none 0 0, .slice none 0 0] 30)
  have XR0 := Blk.new ((w.alloc (.cells #[.bool x.n, .slice x.A x.l.length x.c, .slice x.A' x.d.length x.c'] 30)).alloc (.cells #[.bool y.n, .slice y.A y.l.length y.c, .slice y.A' y.d.length y.c'] 30)) [.bool false, .slice none 0 0, .slice none 0 0] 30
  have rhx := (((hx.alloc (.cells #[.bool x.n, .slice x.A x.l.length x.c, .slice x.A' x.d.length x.c'] 30)).alloc (.cells #[.bool y.n, .slice y.A y.l.length y.c, .slice y.A' y.d.length y.c'] 30)).alloc (.cells #[.bool false, .slice none 0 0, .slice none 0 0] 30))
  have rhy := (((hy.alloc (.cells #[.bool x.n, .slice x.A x.l.length x.c, .slice x.A' x.d.length x.c'] 30)).alloc (.cells #[.bool y.n, .slice y.A y.l.length y.c, .slice y.A' y.d.length y.c'] 30)).alloc (.cells #[.bool false, .slice none 0 0, .slice none 0 0] 30))
  have hb0 := ((((Below.refl w.heap.size w).alloc (Nat.le_refl _) (.cells #[.bool x.n, .slice x.A x.l.length x.c, .slice x.A' x.d.length x.c'] 30)).alloc (by simp) (.cells #[.bool y.n, .slice y.A y.l.length y.c, .slice y.A' y.d.length y.c'] 30)).alloc (by simp; omega) (.cells #[.bool false, .slice none 0 0, .slice none 0 0] 30))
  simp only [World.size_alloc] at XB0 XR0
  generalize ((w.alloc (.cells #[.bool x.n, .slice x.A x.l.length x.c, .slice x.A' x.d.length x.c'] 30)).alloc (.cells #[.bool y.n, .slice y.A y.l.length y.c, .slice y.A' y.d.length y.c'] 30)).alloc (.cells #[.bool false, .slice none 0 0, .slice none 0 0] 30) = W at *
  clear hx hy
  have XA := XA0; have XB := XB0; have hB := hb0; have rx := rhx; have ry := rhy; have XR := XR0; have hlt := XR0.lt
  clear XA0 XB0 hb0 rhx rhy XR0
  have cXA0 := XA.c 0 rfl; have cXA1 := XA.c 1 rfl; have cXA2 := XA.c 2 rfl; have cXB0 := XB.c 0 rfl; have cXB1 := XB.c 1 rfl; have cXB2 := XB.c 2 rfl; have cXR0 := XR.c 0 rfl; have cXR1 := XR.c 1 rfl; have cXR2 := XR.c 2 rfl
  refine (frac_parts _ x.n x.A x.c x.l _ x.A' x.c' x.d 10000 _ rx.1 rx.2.1 rx.2.2.1 rx.2.2.2.1 rx.2.2.2.2.1 rx.2.2.2.2.2 (by decide)).mono ?_
  rintro e w1 ⟨n1, P1, p1, l1, D1, e1, d1, rfl, hp1, he1, rp1, rd1, hd1, hl1, hld1, hq1, hb1⟩
  replace XA := XA.below hb1; replace XB := XB.below hb1; replace XR := XR.below hb1; replace ry := ry.below hb1; replace cXA0 := XA.c 0 rfl; replace cXA1 := XA.c 1 rfl; replace cXA2 := XA.c 2 rfl; replace cXB0 := XB.c 0 rfl; replace cXB1 := XB.c 1 rfl; replace cXB2 := XB.c 2 rfl; replace cXR0 := XR.c 0 rfl; replace cXR1 := XR.c 1 rfl; replace cXR2 := XR.c 2 rfl; replace hB := below_go hB hb1
  have HQ1 := Asd.mk hq1
  clear hq1
  have hlk1 := XR.lt
  replace XA := XA.alloc (.cells #[.bool n1, .slice P1 l1.length p1] 28)
  replace XB := XB.alloc (.cells #[.bool n1, .slice P1 l1.length p1] 28)
  replace XR := XR.alloc (.cells #[.bool n1, .slice P1 l1.length p1] 28)
  replace ry := ry.alloc (.cells #[.bool n1, .slice P1 l1.length p1] 28)
  replace rp1 := rp1.alloc (.cells #[.bool n1, .slice P1 l1.length p1] 28)
  replace rd1 := rd1.alloc (.cells #[.bool n1, .slice P1 l1.length p1] 28)
  have N1 := Blk.new w1 [.bool n1, .slice P1 l1.length p1] 28
  replace hB := hB.alloc hB.size (.cells #[.bool n1, .slice P1 l1.length p1] 28)
  replace cXA0 := XA.c 0 rfl
  replace cXA1 := XA.c 1 rfl
  replace cXA2 := XA.c 2 rfl
  replace cXB0 := XB.c 0 rfl
  replace cXB1 := XB.c 1 rfl
  replace cXB2 := XB.c 2 rfl
  replace cXR0 := XR.c 0 rfl
  replace cXR1 := XR.c 1 rfl
  replace cXR2 := XR.c 2 rfl
  have cN10 := N1.c 0 rfl
  have cN11 := N1.c 1 rfl
  generalize hbk1 : w1.heap.size = bk1 at *
  go_wp2_with fail
  refine (frac_parts _ y.n y.A y.c y.l _ y.A' y.c' y.d 10000 _ ry.1 ry.2.1 ry.2.2.1 ry.2.2.2.1 ry.2.2.2.2.1 ry.2.2.2.2.2 (by decide)).mono ?_
  rintro e w1 ⟨n2, P2, p2, l2, D2, e2, d2, rfl, hp2, he2, rp2, rd2, hd2, hl2, hld2, hq2, hb1⟩
  replace XR := XR.below hb1; replace N1 := N1.below hb1; replace rp1 := rp1.below hb1; replace rd1 := rd1.below hb1; replace cXR0 := XR.c 0 rfl; replace cXR1 := XR.c 1 rfl; replace cXR2 := XR.c 2 rfl; replace cN10 := N1.c 0 rfl; replace cN11 := N1.c 1 rfl; replace hB := below_go hB hb1
  have HQ2 := Asd.mk hq2
  clear hq2
  have hlk2 := XR.lt
  replace XR := XR.alloc (.cells #[.bool n2, .slice P2 l2.length p2] 28)
  replace N1 := N1.alloc (.cells #[.bool n2, .slice P2 l2.length p2] 28)
  replace rp1 := rp1.alloc (.cells #[.bool n2, .slice P2 l2.length p2] 28)
  replace rd1 := rd1.alloc (.cells #[.bool n2, .slice P2 l2.length p2] 28)
  replace rp2 := rp2.alloc (.cells #[.bool n2, .slice P2 l2.length p2] 28)
  replace rd2 := rd2.alloc (.cells #[.bool n2, .slice P2 l2.length p2] 28)
  have N2 := Blk.new w1 [.bool n2, .slice P2 l2.length p2] 28
  replace hB := hB.alloc hB.size (.cells #[.bool n2, .slice P2 l2.length p2] 28)
  replace cXR0 := XR.c 0 rfl
  replace cXR1 := XR.c 1 rfl
  replace cXR2 := XR.c 2 rfl
  replace cN10 := N1.c 0 rfl
  replace cN11 := N1.c 1 rfl
  have cN20 := N2.c 0 rfl
  have cN21 := N2.c 1 rfl
  generalize hbk2 : w1.heap.size = bk2 at *
  have HRES := Asd.mk (dv_mul (zv n1 l1) (zv n2 l2) (d := val d1) (d' := val d2))
  rw [HQ1.out, HQ2.out] at HRES
  have lz1 := len_zv (n := n1) rp1.wd hl1
  have lz2 := len_zv (n := n2) rp2.wd hl2
  have lm1 := len_mul lz1 (len_zv (n := false) rd2.wd hld2)
  have lm2 := len_mul lz2 (len_zv (n := false) rd1.wd hld1)
  have lm3 := len_mul lz1 lz2
  have lmd := len_mul (len_zv (n := false) rd1.wd hld1) (len_zv (n := false) rd2.wd hld2)
  have la1 := len_add lm1 lm2
  have la2 := len_sub lm1 lm2
  rw [show zv false d1 = val d1 from rfl] at lm2 lmd la1 la2
  rw [show zv false d2 = val d2 from rfl] at lm1 lmd la1 la2
  have hdd := Int.mul_pos hd1 hd2
  have hvd : val (rep (val d1 * val d2)) = val d1 * val d2 := val_rep (Int.le_of_lt hdd)
  have lmd2 : (rep (val d1 * val d2)).length ≤ 20000 := by
    have e : mag (val d1 * val d2) = rep (val d1 * val d2) := by unfold mag; congr 1; omega
    rw [← e]; exact lmd
  have ZM1 := Asd.mk (zv_mag (zv n1 l1 * val d2)); have ZM2 := Asd.mk (zv_mag (zv n2 l2 * val d1)); have ZM3 := Asd.mk (zv_mag (zv n1 l1 * zv n2 l2))
  have HVD := Asd.mk hvd
  have HDD := Asd.mk hdd
  clear hvd hdd lz1 lz2 lmd
  have hltz := XR.lt
  go_wp2_with (first
      | (go_at_call 81; have hm := whole_Mul _ n1 P1 p1 l1 _ n2 P2 p2 l2 _ rp1 hp1 rp2 hp2 (by omega) (by omega); refine hm.mono ?_; clear hm; rintro e w1 ⟨U3, u3, rfl, hu3, rs, hb1⟩; replace XR := XR.below hb1; replace N1 := N1.below hb1; replace N2 := N2.below hb1; replace rp1 := rp1.below hb1; replace rd1 := rd1.below hb1; replace rp2 := rp2.below hb1; replace rd2 := rd2.below hb1; replace cXR0 := XR.c 0 rfl; replace cXR1 := XR.c 1 rfl; replace cXR2 := XR.c 2 rfl; replace cN10 := N1.c 0 rfl; replace cN11 := N1.c 1 rfl; replace cN20 := N2.c 0 rfl; replace cN21 := N2.c 1 rfl; replace hB := below_go hB hb1)
      | (go_at_call 79; have hm := prod_Mul _ D1 e1 d1 _ D2 e2 d2 _ rd1 he1 rd2 he2 (by omega) (by omega); refine hm.mono ?_; clear hm; rintro e w1 ⟨gp, rfl, rpd, hgp, hb1⟩; replace rs := rs.below hb1; replace XR := XR.below hb1; replace N1 := N1.below hb1; replace N2 := N2.below hb1; replace rp1 := rp1.below hb1; replace rd1 := rd1.below hb1; replace rp2 := rp2.below hb1; replace rd2 := rd2.below hb1; replace cXR0 := XR.c 0 rfl; replace cXR1 := XR.c 1 rfl; replace cXR2 := XR.c 2 rfl; replace cN10 := N1.c 0 rfl; replace cN11 := N1.c 1 rfl; replace cN20 := N2.c 0 rfl; replace cN21 := N2.c 1 rfl; replace hB := below_go hB hb1)
      | (go_at_call 59; have hm := frac_cancel _ (ng (zv n1 l1 * zv n2 l2)) U3 u3 (mag (zv n1 l1 * zv n2 l2)) _ (some ⟨gp, 0, none⟩) (rep (val d1 * val d2)).length (rep (val d1 * val d2)) _ rs hu3 (rpd.rd (ok := fun _ => True) trivial) (Nat.le_refl _) (by omega) (by omega) (by rw [HVD.out]; exact HDD.out); rw [ZM3.out, HVD.out, HRES.out] at hm; refine hm.mono ?_; clear hm; rintro e w1 ⟨V1, v1, V2, v2, rfl, hv1, hv2, rv1, rv2, hb1⟩; have hszb := XR.lt; clear rs rpd; replace XR := XR.below hb1; replace N1 := N1.below hb1; replace N2 := N2.below hb1; replace rp1 := rp1.below hb1; replace rd1 := rd1.below hb1; replace rp2 := rp2.below hb1; replace rd2 := rd2.below hb1; replace cXR0 := XR.c 0 rfl; replace cXR1 := XR.c 1 rfl; replace cXR2 := XR.c 2 rfl; replace cN10 := N1.c 0 rfl; replace cN11 := N1.c 1 rfl; replace cN20 := N2.c 0 rfl; replace cN21 := N2.c 1 rfl; replace hB := below_go hB hb1; have rf := XR.f; have rl := XR.lt))
  refine bodyPost_ret (ret_blk rfl rfl (((XR.set 0 _).set 1 _).set 2 _) Tryz.underlying30 (by kernel_rfl)) rfl ?_
  exact ⟨V1, v1, V2, v2, rfl, hv1, hv2, (((rv1.setCell (by simp; omega) _).setCell (by simp; omega) _).setCell (by simp; omega) _).mono (fun k _ hk => by omega), (((rv2.setCell (by simp; omega) _).setCell (by simp; omega) _).setCell (by simp; omega) _).mono (fun k _ hk => by omega), ((hB.setCell (by simp; omega) _).setCell (by simp; omega) _).setCell (by simp; omega) _⟩
end Go.Proofs.YthjpkichpkomcaaGreatDoor
