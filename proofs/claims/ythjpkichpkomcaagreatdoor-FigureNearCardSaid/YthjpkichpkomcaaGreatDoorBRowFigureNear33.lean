/- FracD · FracE -/
import Derived.Test.YthjpkichpkomcaaGreatDoorBRowFigureNear29
import Derived.Test.YthjpkichpkomcaaGreatDoorBRowFigureNear30
import Derived.Test.YthjpkichpkomcaaGreatDoorBRowFigureNear14
import Derived.Test.YthjpkichpkomcaaGreatDoorBRowFigureNear19
/- Layer 9: fractions (frac: New, Abs, Floor). -/
namespace Go.Proofs.YthjpkichpkomcaaGreatDoor
open Go.RowKit Go.Proofs.YthjpkichpkomcaaGreatDoor.Big
set_option linter.unusedVariables false
set_option maxRecDepth 100000
attribute [local go_sem ↓] Go.wp_at_zero Go.wp_at_succ

/-- A right fraction and a word, returned. -/
def FrOut2 (q : Rat) (b : Bool) (w : World) (e : Ending) (w' : World) : Prop := ∃ A1 c1 A2 c2, e = .returned (.tuple #[.agg #[.bool (ng q.num), .slice A1 (mag q.num).length c1, .slice A2 (rep q.den).length c2], .bool b]) ∧ (mag q.num).length ≤ c1 ∧ (rep q.den).length ≤ c2 ∧ Rd (fun k => w.heap.size ≤ k) w' A1 (mag q.num) ∧ Rd (fun k => w.heap.size ≤ k) w' A2 (rep q.den) ∧ Below w.heap.size w w'
theorem FrOut2.rf {q : Rat} {b : Bool} {w w' : World} {e : Ending} (h : FrOut2 q b w e w') (hs : Sz 10000 q) : RfOut2 q b w e w' := by
  obtain ⟨A, c, A', c', rfl, hc, hc', hr, hr', hb⟩ := h
  exact ⟨QF q A c A' c', rfl, QF_q _ _ _ _ _, QF_Rt _ _ _ _ _, QF_ok hr hc hr' hc' hs, hb⟩
/-- A fraction without its sign. -/
def absQ (q : Rat) : Rat := if q.num < 0 then -q else q
theorem absQ_num (q : Rat) : (absQ q).num = (q.num.natAbs : Int) := by
  unfold absQ
  split
  · rw [Rat.neg_num]; omega
  · omega
theorem absQ_den (q : Rat) : (absQ q).den = q.den := by
  unfold absQ
  split
  · rw [Rat.neg_den]
  · rfl
theorem absQ_mag (q : Rat) : mag (absQ q).num = mag q.num := by rw [absQ_num]; unfold mag; congr 1
theorem floor_dv {z d : Int} (hd : 0 < d) : z / d = (Rat.divInt z d).floor := by
  rw [Rat.floor_def, dv_num hd, dv_den hd]
  obtain ⟨a, ha⟩ := gc_dvd_left z d
  obtain ⟨b, hb⟩ := gc_dvd_right z d
  have hg : 0 < gc z d := gc_pos_right hd
  generalize gc z d = g at *
  subst ha
  subst hb
  rw [Int.mul_ediv_cancel_left _ (by omega), Int.mul_ediv_cancel_left _ (by omega), Int.mul_ediv_mul_of_pos _ _ hg]

set_option maxHeartbeats 1000000 in
theorem frac_New (ok : Nat → Prop) (n : Bool) (A : Option Addr) (c : Nat) (l : List Int) (ok' : Nat → Prop) (A' : Option Addr) (c' : Nat) (l' : List Int) (w : World) (h : Rd ok w A l) (hc : l.length ≤ c) (h' : Rd ok' w A' l') (hc' : l'.length ≤ c') (hbig : l.length < 1000000000) (hbig' : l'.length < 1000000000) (hpos : 0 < val l') :
    Calls Tryz.prog 64 #[.agg #[.bool n, .slice A l.length c], .slice A' l'.length c'] w (FrOut2 (Rat.divInt (zv n l) (val l')) true w) := by
  go_enter Tryz.func64, Tryz.ntmps64
  go_wp2_with fail
  have XA0 := (Blk.new w [.bool n, .slice A l.length c] 28).alloc (.cells #[.bool false, .slice none 0 0, .slice none 0 0] 30)
  have XR0 := Blk.new (w.alloc (.cells #[.bool n, .slice A l.length c] 28)) [.bool false, .slice none 0 0, .slice none 0 0] 30
  have rh := ((h.alloc (.cells #[.bool n, .slice A l.length c] 28)).alloc (.cells #[.bool false, .slice none 0 0, .slice none 0 0] 30))
  have rh' := ((h'.alloc (.cells #[.bool n, .slice A l.length c] 28)).alloc (.cells #[.bool false, .slice none 0 0, .slice none 0 0] 30))
  have hb0 := (((Below.refl w.heap.size w).alloc (Nat.le_refl _) (.cells #[.bool n, .slice A l.length c] 28)).alloc (by simp) (.cells #[.bool false, .slice none 0 0, .slice none 0 0] 30))
  simp only [World.size_alloc] at XR0
  generalize (w.alloc (.cells #[.bool n, .slice A l.length c] 28)).alloc (.cells #[.bool false, .slice none 0 0, .slice none 0 0] 30) = W at *
  clear h h'
  have XR := XR0; have XA := XA0; have hB := hb0
  have hlt := XR0.lt
  clear XA0 XR0 hb0
  have cXA0 := XA.c 0 rfl; have cXA1 := XA.c 1 rfl; have cXR0 := XR.c 0 rfl; have cXR1 := XR.c 1 rfl; have cXR2 := XR.c 2 rfl
  have hz := nat_Zero _ A' c' l' W rh' hc'
  rw [show decide (val l' = 0) = false from decide_eq_false (by omega)] at hz
  refine hz.mono ?_
  clear hz
  rintro e w1 ⟨rfl, rfl⟩
  go_wp2_with fail
  refine (frac_cancel _ n A c l _ A' c' l' _ rh hc rh' hc' hbig hbig' hpos).mono ?_
  rintro e w2 ⟨X, cx, Y, cy, rfl, hcx, hcy, hrx, hry, hb1⟩
  have hs1 := hB.size
  replace XR := XR.below hb1; replace cXR0 := XR.c 0 rfl; replace cXR1 := XR.c 1 rfl; replace cXR2 := XR.c 2 rfl; replace hB := below_go hB hb1
  have rf := XR.f; have rl := XR.lt
  have hz := hb1.size
  generalize Rat.divInt (zv n l) (val l') = q at *
  go_wp2
  refine bodyPost_ret (ret_blk_tmp rfl rfl rfl (((XR.set 0 _).set 1 _).set 2 _) Tryz.underlying30 (by kernel_rfl)) rfl ?_
  exact ⟨X, cx, Y, cy, rfl, hcx, hcy, (((hrx.setCell (by simp; omega) _).setCell (by simp; omega) _).setCell (by simp; omega) _).mono (fun k _ hk => by omega), (((hry.setCell (by simp; omega) _).setCell (by simp; omega) _).setCell (by simp; omega) _).mono (fun k _ hk => by omega), ((hB.setCell (by simp) _).setCell (by simp) _).setCell (by simp) _⟩

set_option maxHeartbeats 1000000 in
theorem frac_New_no (ok : Nat → Prop) (n : Bool) (A : Option Addr) (c : Nat) (l : List Int) (ok' : Nat → Prop) (A' : Option Addr) (c' : Nat) (l' : List Int) (w : World) (h : Rd ok w A l) (hc : l.length ≤ c) (h' : Rd ok' w A' l') (hc' : l'.length ≤ c') (hpos : val l' = 0) :
    Calls Tryz.prog 64 #[.agg #[.bool n, .slice A l.length c], .slice A' l'.length c'] w (FrOut2 0 false w) := by
  go_enter Tryz.func64, Tryz.ntmps64
  go_wp2_with fail
  have XA0 := (Blk.new w [.bool n, .slice A l.length c] 28).alloc (.cells #[.bool false, .slice none 0 0, .slice none 0 0] 30)
  have XR0 := Blk.new (w.alloc (.cells #[.bool n, .slice A l.length c] 28)) [.bool false, .slice none 0 0, .slice none 0 0] 30
  have rh := ((h.alloc (.cells #[.bool n, .slice A l.length c] 28)).alloc (.cells #[.bool false, .slice none 0 0, .slice none 0 0] 30))
  have rh' := ((h'.alloc (.cells #[.bool n, .slice A l.length c] 28)).alloc (.cells #[.bool false, .slice none 0 0, .slice none 0 0] 30))
  have hb0 := (((Below.refl w.heap.size w).alloc (Nat.le_refl _) (.cells #[.bool n, .slice A l.length c] 28)).alloc (by simp) (.cells #[.bool false, .slice none 0 0, .slice none 0 0] 30))
  simp only [World.size_alloc] at XR0
  generalize (w.alloc (.cells #[.bool n, .slice A l.length c] 28)).alloc (.cells #[.bool false, .slice none 0 0, .slice none 0 0] 30) = W at *
  clear h h'
  have XR := XR0; have XA := XA0; have hB := hb0
  have hlt := XR0.lt
  clear XA0 XR0 hb0
  have cXA0 := XA.c 0 rfl; have cXA1 := XA.c 1 rfl; have cXR0 := XR.c 0 rfl; have cXR1 := XR.c 1 rfl; have cXR2 := XR.c 2 rfl
  have hz := nat_Zero _ A' c' l' W rh' hc'
  rw [show decide (val l' = 0) = true from decide_eq_true hpos] at hz
  refine hz.mono ?_
  clear hz
  rintro e w1 ⟨rfl, rfl⟩
  go_wp2_with fail
  have hm := frac_Of 0 (by decide) (by decide) W
  rw [show ((0 : Int) : Rat) = 0 from rfl] at hm
  refine hm.mono ?_
  rintro e w2 ⟨X, cx, Y, cy, rfl, hcx, hcy, hrx, hry, hb1⟩
  have hs1 := hB.size
  replace XR := XR.below hb1; replace cXR0 := XR.c 0 rfl; replace cXR1 := XR.c 1 rfl; replace cXR2 := XR.c 2 rfl; replace hB := below_go hB hb1
  have rf := XR.f; have rl := XR.lt
  have hz := hb1.size
  generalize (0 : Rat) = q at *
  go_wp2
  refine bodyPost_ret (ret_blk_tmp rfl rfl rfl (((XR.set 0 _).set 1 _).set 2 _) Tryz.underlying30 (by kernel_rfl)) rfl ?_
  exact ⟨X, cx, Y, cy, rfl, hcx, hcy, (((hrx.setCell (by simp; omega) _).setCell (by simp; omega) _).setCell (by simp; omega) _).mono (fun k _ hk => by omega), (((hry.setCell (by simp; omega) _).setCell (by simp; omega) _).setCell (by simp; omega) _).mono (fun k _ hk => by omega), ((hB.setCell (by simp) _).setCell (by simp) _).setCell (by simp) _⟩
end Go.Proofs.YthjpkichpkomcaaGreatDoor
/- Layer 9: fractions (frac: Abs, Floor). -/
namespace Go.Proofs.YthjpkichpkomcaaGreatDoor
open Go.RowKit Go.Proofs.YthjpkichpkomcaaGreatDoor.Big
set_option linter.unusedVariables false
set_option maxRecDepth 100000
attribute [local go_sem ↓] Go.wp_at_zero Go.wp_at_succ

set_option maxHeartbeats 1000000 in
theorem frac_Abs (ok : Nat → Prop) (x : RF) (w : World) (hx : x.ok ok w) :
    Calls Tryz.prog 21 #[.agg #[.bool x.n, .slice x.A x.l.length x.c, .slice x.A' x.d.length x.c']] w (FrOut (absQ x.q) w) := by
  go_enter Tryz.func21, Tryz.ntmps21
  go_wp2_with fail
  have XA0 := (Blk.new w [.bool x.n, .slice x.A x.l.length x.c, .slice x.A' x.d.length x.c'] 30).alloc (.cells #[.bool false, .slice none 0 0, .slice none 0 0] 30)
  have XR0 := Blk.new (w.alloc (.cells #[.bool x.n, .slice x.A x.l.length x.c, .slice x.A' x.d.length x.c'] 30)) [.bool false, .slice none 0 0, .slice none 0 0] 30
  have rhx := ((hx.alloc (.cells #[.bool x.n, .slice x.A x.l.length x.c, .slice x.A' x.d.length x.c'] 30)).alloc (.cells #[.bool false, .slice none 0 0, .slice none 0 0] 30))
  have hb0 := (((Below.refl w.heap.size w).alloc (Nat.le_refl _) (.cells #[.bool x.n, .slice x.A x.l.length x.c, .slice x.A' x.d.length x.c'] 30)).alloc (by simp) (.cells #[.bool false, .slice none 0 0, .slice none 0 0] 30))
  simp only [World.size_alloc] at XR0
  generalize (w.alloc (.cells #[.bool x.n, .slice x.A x.l.length x.c, .slice x.A' x.d.length x.c'] 30)).alloc (.cells #[.bool false, .slice none 0 0, .slice none 0 0] 30) = W at *
  clear hx
  have XR := XR0; have XA := XA0; have hB := hb0; have rx := rhx
  have hlt := XR0.lt
  clear XA0 XR0 hb0 rhx
  have cXA0 := XA.c 0 rfl; have cXA1 := XA.c 1 rfl; have cXA2 := XA.c 2 rfl; have cXR0 := XR.c 0 rfl; have cXR1 := XR.c 1 rfl; have cXR2 := XR.c 2 rfl
  refine (frac_Norm _ x W rx).mono ?_
  rintro e w1 ⟨X, cx, Y, cy, rfl, hcx, hcy, hrx, hry, hb1⟩
  have hs1 := hB.size
  replace XR := XR.below hb1; replace cXR0 := XR.c 0 rfl; replace cXR1 := XR.c 1 rfl; replace cXR2 := XR.c 2 rfl; replace hB := below_go hB hb1
  have HA : Asd (ng (absQ x.q).num = false ∧ mag (absQ x.q).num = mag x.q.num ∧ (absQ x.q).den = x.q.den) := ⟨by rw [absQ_num]; unfold ng; exact decide_eq_false (by omega), absQ_mag _, absQ_den _⟩
  have hz := hb1.size
  have XRa := XR.alloc (.cells #[.bool false, .slice X (mag x.q.num).length cx, .slice Y (rep (x.q.den : Int)).length cy] 30)
  have hBa := hB.alloc hB.size (.cells #[.bool false, .slice X (mag x.q.num).length cx, .slice Y (rep (x.q.den : Int)).length cy] 30)
  replace hrx := hrx.alloc (.cells #[.bool false, .slice X (mag x.q.num).length cx, .slice Y (rep (x.q.den : Int)).length cy] 30)
  replace hry := hry.alloc (.cells #[.bool false, .slice X (mag x.q.num).length cx, .slice Y (rep (x.q.den : Int)).length cy] 30)
  clear cXR0 cXR1 cXR2 cXA0 cXA1 cXA2
  have cXR0 := XRa.c 0 rfl; have cXR1 := XRa.c 1 rfl; have cXR2 := XRa.c 2 rfl; have rf := XRa.f; have rl := XRa.lt
  go_wp2
  refine bodyPost_ret (ret_blk rfl rfl (((XRa.set 0 _).set 1 _).set 2 _) Tryz.underlying30 (by kernel_rfl)) rfl ?_
  refine ⟨X, cx, Y, cy, by rw [HA.out.1, HA.out.2.1, HA.out.2.2]; rfl, by rw [HA.out.2.1]; exact hcx, by rw [HA.out.2.2]; exact hcy, by rw [HA.out.2.1]; exact (((hrx.setCell (by simp; omega) _).setCell (by simp; omega) _).setCell (by simp; omega) _).mono (fun k _ hk => by omega), by rw [HA.out.2.2]; exact (((hry.setCell (by simp; omega) _).setCell (by simp; omega) _).setCell (by simp; omega) _).mono (fun k _ hk => by omega), ((hBa.setCell (by simp) _).setCell (by simp) _).setCell (by simp) _⟩

set_option maxHeartbeats 1000000 in
theorem frac_Floor (ok : Nat → Prop) (x : RF) (w : World) (hx : x.ok ok w) :
    Calls Tryz.prog 74 #[.agg #[.bool x.n, .slice x.A x.l.length x.c, .slice x.A' x.d.length x.c']] w (WhOut x.q.floor w) := by
  go_enter Tryz.func74, Tryz.ntmps74
  go_wp2_with fail
  have XA0 := (Blk.new w [.bool x.n, .slice x.A x.l.length x.c, .slice x.A' x.d.length x.c'] 30).alloc (.cells #[.bool false, .slice none 0 0] 28)
  have XR0 := Blk.new (w.alloc (.cells #[.bool x.n, .slice x.A x.l.length x.c, .slice x.A' x.d.length x.c'] 30)) [.bool false, .slice none 0 0] 28
  have rhx := ((hx.alloc (.cells #[.bool x.n, .slice x.A x.l.length x.c, .slice x.A' x.d.length x.c'] 30)).alloc (.cells #[.bool false, .slice none 0 0] 28))
  have hb0 := (((Below.refl w.heap.size w).alloc (Nat.le_refl _) (.cells #[.bool x.n, .slice x.A x.l.length x.c, .slice x.A' x.d.length x.c'] 30)).alloc (by simp) (.cells #[.bool false, .slice none 0 0] 28))
  simp only [World.size_alloc] at XR0
  generalize (w.alloc (.cells #[.bool x.n, .slice x.A x.l.length x.c, .slice x.A' x.d.length x.c'] 30)).alloc (.cells #[.bool false, .slice none 0 0] 28) = W at *
  clear hx
  have XR := XR0; have XA := XA0; have hB := hb0; have rx := rhx
  have hlt := XR0.lt
  clear XA0 XR0 hb0 rhx
  have cXA0 := XA.c 0 rfl; have cXA1 := XA.c 1 rfl; have cXA2 := XA.c 2 rfl; have cXR0 := XR.c 0 rfl; have cXR1 := XR.c 1 rfl
  refine (frac_parts _ x.n x.A x.c x.l _ x.A' x.c' x.d 10000 _ rx.1 rx.2.1 rx.2.2.1 rx.2.2.2.1 rx.2.2.2.2.1 rx.2.2.2.2.2 (by decide)).mono ?_
  rintro e w1 ⟨n1, P1, p1, l1, D1, e1, d1, rfl, hp1, he1, rp1, rd1, hd1, hl1, hld1, hq1, hb1⟩
  replace XR := XR.below hb1; replace cXR0 := XR.c 0 rfl; replace cXR1 := XR.c 1 rfl; replace hB := below_go hB hb1
  have HFL : Asd (zv n1 l1 / val d1 = x.q.floor) := Asd.mk ((floor_dv (z := zv n1 l1) hd1).trans (congrArg Rat.floor hq1))
  clear hq1 cXA0 cXA1 cXA2
  have hltr := XR.lt
  have O1 := Blk.new w1 [.bool n1, .slice P1 l1.length p1] 28
  go_wp2_with fail
  have XR1 := XR.alloc (.cells #[.bool n1, .slice P1 l1.length p1] 28)
  have hB1 := hB.alloc hB.size (.cells #[.bool n1, .slice P1 l1.length p1] 28)
  have rp2 := rp1.alloc (.cells #[.bool n1, .slice P1 l1.length p1] 28)
  have rd2 := rd1.alloc (.cells #[.bool n1, .slice P1 l1.length p1] 28)
  have hm := whole_Floor _ n1 P1 p1 l1 _ false D1 e1 d1 _ rp2 hp1 rd2 he1 (by omega) (by omega) hd1
  rw [show fq (zv n1 l1) (zv false d1) = x.q.floor by rw [← HFL.out]; unfold fq; rw [if_pos (show 0 < zv false d1 from hd1)]; rfl] at hm
  refine hm.mono ?_
  clear hm
  generalize hf : x.q.floor = F at *
  generalize fr (zv n1 l1) (zv false d1) = G at *
  rintro e w2 ⟨X, cx, Y, cy, rfl, hcx, hcy, hrx, -, hb2⟩
  have hs1 := hB1.size
  have hs2 := hb2.size
  have XR2 := ((XR1.below hb2).alloc (.cells #[.bool (ng F), .slice X (mag F).length cx] 28)).alloc (.cells #[.bool (ng G), .slice Y (mag G).length cy] 28)
  have hB2 := ((below_go hB1 hb2).alloc (by omega) (.cells #[.bool (ng F), .slice X (mag F).length cx] 28)).alloc (by rw [World.size_alloc]; omega) (.cells #[.bool (ng G), .slice Y (mag G).length cy] 28)
  have hr3 := (hrx.alloc (.cells #[.bool (ng F), .slice X (mag F).length cx] 28)).alloc (.cells #[.bool (ng G), .slice Y (mag G).length cy] 28)
  have N2 := (Blk.new w2 [.bool (ng F), .slice X (mag F).length cx] 28).alloc (.cells #[.bool (ng G), .slice Y (mag G).length cy] 28)
  have r0 := XR2.c 0 rfl; have r1 := XR2.c 1 rfl; have rf := XR2.f; have rl := XR2.lt
  have m0 := N2.c 0 rfl; have m1 := N2.c 1 rfl
  have hW1 := hb1.size
  have hW2 : (w1.alloc (.cells #[.bool n1, .slice P1 l1.length p1] 28)).heap.size = w1.heap.size + 1 := World.size_alloc _ _
  go_wp2
  refine bodyPost_ret (ret_blk rfl rfl ((XR2.set 0 _).set 1 _) Tryz.underlying28 (by kernel_rfl)) rfl ?_
  exact ⟨X, cx, rfl, hcx, ((hr3.setCell (by simp; omega) _).setCell (by simp; omega) _).mono (fun k _ hk => by omega), (hB2.setCell (by simp) _).setCell (by simp) _⟩
end Go.Proofs.YthjpkichpkomcaaGreatDoor
