/- FNear -/
import Derived.Test.YthjpkichpkomcaaGreatDoorBRowFigureNear45
import Derived.Test.YthjpkichpkomcaaGreatDoorBRowFigureNear47
import Derived.Test.YthjpkichpkomcaaGreatDoorBRowFigureNear51
import Derived.Test.YthjpkichpkomcaaGreatDoorBRowFigureNear50
import Derived.Deep.RegionWith
import Derived.Deep.RegionHeld3
/- The law FigureNear, walked. -/
namespace Go.Proofs.YthjpkichpkomcaaGreatDoor
open Go.RowKit Go.Proofs.YthjpkichpkomcaaGreatDoor.Big
set_option linter.unusedVariables false
set_option maxRecDepth 100000
attribute [local go_sem ↓] Go.wp_at_zero Go.wp_at_succ

theorem sg_le {q : Rat} (h : q ≤ 1) : sgI (q - 1).num ≤ 0 := by
  have h1 : (0 : Rat) ≤ 1 - q := by grind
  have h2 : q - 1 = -(1 - q) := by grind
  rw [← Rat.num_nonneg] at h1
  rw [h2, Rat.neg_num]
  rcases Int.lt_or_eq_of_le h1 with h | h
  · rw [sgI_neg (by omega)]; decide
  · rw [← h]; decide

set_option maxHeartbeats 4000000 in
theorem law_FigureNear (x : RC) (n : Int) (w : World) (hx : x.ok (fun _ => True) w) (hn0 : -9223372036854775808 ≤ n) (hn1 : n ≤ 9223372036854775807) :
    Calls Tryz.prog 4 #[.agg #[.bool x.x.n, .slice x.x.A x.x.l.length x.x.c, .slice x.x.A' x.x.d.length x.x.c'], .int .i64 n] w fun e w' => e = .returned (.bool true) ∧ Below w.heap.size w w' := by
  have HX := Asd.mk hx
  obtain ⟨x⟩ := x
  have hB := (Below.refl w.heap.size w).alloc (Nat.le_refl _) (.cells #[.bool x.n, .slice x.A x.l.length x.c, .slice x.A' x.d.length x.c'] 24)
  have XX := Blk.new w [.bool x.n, .slice x.A x.l.length x.c, .slice x.A' x.d.length x.c'] 24
  have cXX0 := XX.c 0 rfl; have cXX1 := XX.c 1 rfl; have cXX2 := XX.c 2 rfl
  go_enter Tryz.func4, Tryz.ntmps4
  go_wp2_with fail
  by_cases hG : (decide (3 < x.l.length) || decide (3 < x.d.length)) = true
  ·
    have hm := ref09_Long x.n x.A x.l.length x.c x.A' x.d.length x.c' 3 (w.alloc (.cells #[.bool x.n, .slice x.A x.l.length x.c, .slice x.A' x.d.length x.c'] 24))
    rw [hG] at hm
    refine hm.mono ?_
    clear hm
    rintro e w1 ⟨rfl, hb1⟩
    replace XX := XX.below hb1; replace cXX0 := XX.c 0 rfl; replace cXX1 := XX.c 1 rfl; replace cXX2 := XX.c 2 rfl; replace hB := below_go hB hb1
    clear hb1
    go_wp2_with fail
    refine (law10_works _).mono ?_
    rintro e wz ⟨rfl, hbz⟩
    go_wp2
    go_ret
    exact ⟨rfl, below_go hB hbz⟩
  replace hG : (decide (3 < x.l.length) || decide (3 < x.d.length)) = false := by simpa using hG
  have hm := ref09_Long x.n x.A x.l.length x.c x.A' x.d.length x.c' 3 (w.alloc (.cells #[.bool x.n, .slice x.A x.l.length x.c, .slice x.A' x.d.length x.c'] 24))
  rw [hG] at hm
  refine hm.mono ?_
  clear hm
  rintro e w1 ⟨rfl, hb1⟩
  replace XX := XX.below hb1; replace cXX0 := XX.c 0 rfl; replace cXX1 := XX.c 1 rfl; replace cXX2 := XX.c 2 rfl; replace hB := below_go hB hb1
  have hb0 := hb1
  clear hb1
  have hl6 : x.l.length ≤ 3 ∧ x.d.length ≤ 3 := by
    rw [Bool.or_eq_false_iff, decide_eq_false_iff_not, decide_eq_false_iff_not] at hG
    omega
  have rx : x.ok (fun _ => True) w1 := ((rc_rf HX.out (by show x.l.length ≤ 10000; omega) (by show x.d.length ≤ 10000; omega)).alloc _).below hb0
  have HSX := Asd.mk (sz_raw rx hl6.1 hl6.2 (by decide))
  clear hG hx
  by_cases hS : n < 0
  · have hd : decide (n < 0) = true := decide_eq_true hS
    go_wp2_with fail
    refine (law10_works _).mono ?_
    rintro e wz ⟨rfl, hbz⟩
    go_wp2
    go_ret
    exact ⟨rfl, below_go hB hbz⟩
  have hd : decide (n < 0) = false := decide_eq_false hS
  by_cases hS2 : 20 < n
  · have hd2 : decide (20 < n) = true := decide_eq_true hS2
    go_wp2_with fail
    refine (law10_works _).mono ?_
    rintro e wz ⟨rfl, hbz⟩
    go_wp2
    go_ret
    exact ⟨rfl, below_go hB hbz⟩
  have hd2 : decide (20 < n) = false := decide_eq_false hS2
  go_wp2_with fail
  clear XX cXX0 cXX1 cXX2 hb0 hd hd2 HX
  obtain ⟨p, rfl⟩ : ∃ p : Nat, n = (p : Int) := ⟨n.toNat, by omega⟩
  have hp20 : p ≤ 20 := by omega
  refine (law09_To x.n x.A x.l.length x.c x.A' x.d.length x.c' w1).mono ?_
  rintro e w2 ⟨rfl, hb1⟩
  replace rx := rx.below hb1; replace hB := below_go hB hb1
  clear hb1
  replace rx := rx.alloc (.cells #[.bool x.n, .slice x.A x.l.length x.c, .slice x.A' x.d.length x.c'] 30); have XV := Blk.new w2 [.bool x.n, .slice x.A x.l.length x.c, .slice x.A' x.d.length x.c'] 30; replace hB := hB.alloc hB.size (.cells #[.bool x.n, .slice x.A x.l.length x.c, .slice x.A' x.d.length x.c'] 30)
  have cXV0 := XV.c 0 rfl; have cXV1 := XV.c 1 rfl; have cXV2 := XV.c 2 rfl
  go_wp2_with fail
  generalize (w2.alloc (.cells #[.bool x.n, .slice x.A x.l.length x.c, .slice x.A' x.d.length x.c'] 30)) = V at *
  have hlV := XV.lt
  generalize w2.heap.size = bv at *
  have hm := figure_Round _ x (p : Int) p V rx (by omega) (by omega) (HSX.out.mono (by decide))
  refine hm.mono ?_
  clear hm
  rintro e w3 ⟨rfl, hb1⟩
  replace rx := rx.below hb1; replace XV := XV.below hb1; replace cXV0 := XV.c 0 rfl; replace cXV1 := XV.c 1 rfl; replace cXV2 := XV.c 2 rfl; replace hB := below_go hB hb1
  clear hb1
  go_wp2_with fail
  have hm := near_read HSX.out hp20 w3
  refine hm.mono ?_
  clear hm
  rintro e w4 ⟨y, rfl, hqy, hRy, oky, hb1⟩
  have HQY := Asd.mk hqy
  clear hqy
  replace oky := oky.mono (ok' := fun _ => True) (fun _ _ _ => trivial)
  replace rx := rx.below hb1; replace XV := XV.below hb1; replace cXV0 := XV.c 0 rfl; replace cXV1 := XV.c 1 rfl; replace cXV2 := XV.c 2 rfl; replace hB := below_go hB hb1
  clear hb1
  have hl3 := XV.lt
  replace rx := rx.alloc (.cells #[.bool y.n, .slice y.A y.l.length y.c, .slice y.A' y.d.length y.c'] 30); replace XV := XV.alloc (.cells #[.bool y.n, .slice y.A y.l.length y.c, .slice y.A' y.d.length y.c'] 30); replace oky := oky.alloc (.cells #[.bool y.n, .slice y.A y.l.length y.c, .slice y.A' y.d.length y.c'] 30); have XY := Blk.new w4 [.bool y.n, .slice y.A y.l.length y.c, .slice y.A' y.d.length y.c'] 30; replace hB := hB.alloc hB.size (.cells #[.bool y.n, .slice y.A y.l.length y.c, .slice y.A' y.d.length y.c'] 30)
  replace rx := rx.alloc (.cells #[.int .i64 0, .int .i64 0, .int .i64 0, .int .i64 0] 35); replace XV := XV.alloc (.cells #[.int .i64 0, .int .i64 0, .int .i64 0, .int .i64 0] 35); replace oky := oky.alloc (.cells #[.int .i64 0, .int .i64 0, .int .i64 0, .int .i64 0] 35); replace XY := XY.alloc (.cells #[.int .i64 0, .int .i64 0, .int .i64 0, .int .i64 0] 35); have XF := Blk.new (w4.alloc (.cells #[.bool y.n, .slice y.A y.l.length y.c, .slice y.A' y.d.length y.c'] 30)) [.int .i64 0, .int .i64 0, .int .i64 0, .int .i64 0] 35; simp only [World.size_alloc] at XF; replace hB := hB.alloc hB.size (.cells #[.int .i64 0, .int .i64 0, .int .i64 0, .int .i64 0] 35)
  have cXV0 := XV.c 0 rfl; have cXV1 := XV.c 1 rfl; have cXV2 := XV.c 2 rfl; have cXY0 := XY.c 0 rfl; have cXY1 := XY.c 1 rfl; have cXY2 := XY.c 2 rfl; have cXF0 := XF.c 0 rfl; have cXF1 := XF.c 1 rfl; have cXF2 := XF.c 2 rfl; have cXF3 := XF.c 3 rfl
  go_wp2_with fail
  generalize ((w4.alloc (.cells #[.bool y.n, .slice y.A y.l.length y.c, .slice y.A' y.d.length y.c'] 30)).alloc (.cells #[.int .i64 0, .int .i64 0, .int .i64 0, .int .i64 0] 35)) = V2 at *
  have hlY := XY.lt
  have hlF := XF.lt
  have hby : bv < w4.heap.size := hl3
  generalize w4.heap.size = by_ at *
  have hm := frac_Sub _ _ y x V2 oky rx
  refine hm.mono ?_
  clear hm
  rintro e w5 hfo
  obtain ⟨s, rfl, hqs, hRs, oks, hb1⟩ := hfo.rf (by rw [HQY.out, Rat.sub_eq_add_neg]; exact (sz_add (round_v HSX.out hp20) (sz_neg HSX.out)).mono (by decide))
  have HQS := Asd.mk hqs
  clear hqs hfo
  replace oks := oks.mono (ok' := fun _ => True) (fun _ _ _ => trivial)
  replace rx := rx.below hb1; replace XV := XV.below hb1; replace oky := oky.below hb1; replace XY := XY.below hb1; replace XF := XF.below hb1; replace cXV0 := XV.c 0 rfl; replace cXV1 := XV.c 1 rfl; replace cXV2 := XV.c 2 rfl; replace cXY0 := XY.c 0 rfl; replace cXY1 := XY.c 1 rfl; replace cXY2 := XY.c 2 rfl; replace cXF0 := XF.c 0 rfl; replace cXF1 := XF.c 1 rfl; replace cXF2 := XF.c 2 rfl; replace cXF3 := XF.c 3 rfl; replace hB := below_go hB hb1
  clear hb1
  go_wp2_with fail
  have HSS : Asd (Sz 204 s.q) := ⟨by rw [HQS.out, HQY.out, Rat.sub_eq_add_neg]; exact sz_add (round_v HSX.out hp20) (sz_neg HSX.out)⟩
  have hm := frac_Abs _ s w5 oks
  refine hm.mono ?_
  clear hm
  rintro e w6 hfo
  obtain ⟨u, rfl, hqu, hRu, oku, hb1⟩ := hfo.rf ((sz_abs HSS.out).mono (by decide))
  have HQU := Asd.mk hqu
  clear hqu hfo oks
  replace oku := oku.mono (ok' := fun _ => True) (fun _ _ _ => trivial)
  replace XF := XF.below hb1; replace cXF0 := XF.c 0 rfl; replace cXF1 := XF.c 1 rfl; replace cXF2 := XF.c 2 rfl; replace cXF3 := XF.c 3 rfl; replace hB := below_go hB hb1
  clear hb1
  have hl6 := XF.lt
  replace XF := XF.alloc (.cells #[.bool u.n, .slice u.A u.l.length u.c, .slice u.A' u.d.length u.c'] 30); replace oku := oku.alloc (.cells #[.bool u.n, .slice u.A u.l.length u.c, .slice u.A' u.d.length u.c'] 30); have XU := Blk.new w6 [.bool u.n, .slice u.A u.l.length u.c, .slice u.A' u.d.length u.c'] 30; replace hB := hB.alloc hB.size (.cells #[.bool u.n, .slice u.A u.l.length u.c, .slice u.A' u.d.length u.c'] 30)
  have cXF0 := XF.c 0 rfl; have cXF1 := XF.c 1 rfl; have cXF2 := XF.c 2 rfl; have cXF3 := XF.c 3 rfl; have cXU0 := XU.c 0 rfl; have cXU1 := XU.c 1 rfl; have cXU2 := XU.c 2 rfl
  go_wp2_with fail
  generalize (w6.alloc (.cells #[.bool u.n, .slice u.A u.l.length u.c, .slice u.A' u.d.length u.c'] 30)) = V3 at *
  have hbu : by_ + 1 < w6.heap.size := hl6
  generalize w6.heap.size = bu at *
  have HSU : Asd (Sz 409 (u.q + u.q)) := ⟨by rw [HQU.out]; exact sz_add (sz_abs HSS.out) (sz_abs HSS.out)⟩
  have hm := frac_Add _ _ u u V3 oku oku
  refine hm.mono ?_
  clear hm
  rintro e w7 hfo
  obtain ⟨t, rfl, hqt, hRt, okt, hb1⟩ := hfo.rf (HSU.out.mono (by decide))
  have HQT : Asd (t.q = absQ (x.q |> fun q => Rat.divInt (roundM q p) (10 ^ p) - q) + absQ (x.q |> fun q => Rat.divInt (roundM q p) (10 ^ p) - q)) := ⟨by rw [hqt, HQU.out, HQS.out, HQY.out]⟩
  have HST : Asd (Sz 409 t.q) := ⟨by rw [hqt]; exact HSU.out⟩
  clear hqt hfo oku
  replace XF := XF.below hb1; replace cXF0 := XF.c 0 rfl; replace cXF1 := XF.c 1 rfl; replace cXF2 := XF.c 2 rfl; replace cXF3 := XF.c 3 rfl; replace hB := below_go hB hb1
  have hl7 := XF.lt
  have hwt := hB.size
  have okt2 : t.ok (fun k => k ≠ w7.heap.size) w7 := okt.mono (fun k hk _ => by omega)
  clear hb1 okt
  replace XF := XF.alloc (.cells #[.bool t.n, .slice t.A t.l.length t.c, .slice t.A' t.d.length t.c'] 30); replace okt2 := okt2.alloc (.cells #[.bool t.n, .slice t.A t.l.length t.c, .slice t.A' t.d.length t.c'] 30); have XT := Blk.new w7 [.bool t.n, .slice t.A t.l.length t.c, .slice t.A' t.d.length t.c'] 30; replace hB := hB.alloc hB.size (.cells #[.bool t.n, .slice t.A t.l.length t.c, .slice t.A' t.d.length t.c'] 30)
  have cXF0 := XF.c 0 rfl; have cXF1 := XF.c 1 rfl; have cXF2 := XF.c 2 rfl; have cXF3 := XF.c 3 rfl; have cXT0 := XT.c 0 rfl; have cXT1 := XT.c 1 rfl; have cXT2 := XT.c 2 rfl
  go_wp2_with fail
  generalize (w7.alloc (.cells #[.bool t.n, .slice t.A t.l.length t.c, .slice t.A' t.d.length t.c'] 30)) = V4 at *
  have hlT := XT.lt
  have hbt : by_ + 1 < w7.heap.size := hl7
  generalize w7.heap.size = bt at *
  have HNR : Asd (t.q * ((10 ^ p : Int) : Rat) ≤ 1) := ⟨by rw [HQT.out]; exact round_near x.q p⟩
  have HTS : Asd (∀ k : Nat, k ≤ 20 → Sz 10000 (t.q * ((10 ^ k : Int) : Rat))) := ⟨fun k hk => (sz_mul HST.out (round_ten k hk)).mono (by decide)⟩
  have HSTEP : Asd (∀ k : Nat, t.q * ((10 ^ k : Int) : Rat) * ((10 : Int) : Rat) = t.q * ((10 ^ (k + 1) : Int) : Rat)) := ⟨fun k => by rw [Rat.mul_assoc, ← Rat.intCast_mul, Int.pow_succ]⟩
  have HS10 : Asd (Sz 10000 ((10 : Int) : Rat)) := ⟨(sz_int 10 (k := 1) (Nat.le_refl _) (by unfold mag; rw [show (((10 : Int).natAbs : Nat) : Int) = 10 from rfl, rep_word (by decide) (by decide)]; decide)).mono (by decide)⟩
  have HBW : Asd (by_ + 1 < bt ∧ w.heap.size ≤ bt) := ⟨hbt, hwt⟩
  have okt3 : t.ok (fun k => k ≠ bt) V4 := okt2
  clear okt2 HQT HST HSS HSU HQU HQS HQY HSX
  go_loopw [10] (fun i wq => ∃ (k : Nat) (y : RF), k ≤ p ∧ i = .int .i64 (k : Int) ∧ Asd (Blk wq bt [.bool y.n, .slice y.A y.l.length y.c, .slice y.A' y.d.length y.c']) ∧ Asd (y.ok (fun a => a ≠ bt) wq) ∧ Asd (y.q = t.q * ((10 ^ k : Int) : Rat)) ∧ Asd (Blk wq (by_ + 1) [.int .i64 0, .int .i64 0, .int .i64 0, .int .i64 0]) ∧ Asd (Below w.heap.size w wq)) (fun i _ => (p - intOf i).toNat)
  case atStart => exact ⟨0, t, Nat.zero_le _, rfl, ⟨XT⟩, ⟨okt3⟩, ⟨by rw [show ((10 ^ 0 : Int) : Rat) = 1 from rfl, Rat.mul_one]⟩, ⟨XF⟩, ⟨hB⟩⟩
  case round =>
    obtain ⟨k, y, hk, rfl, HT, HY, HQ, HF, HB⟩ := hrel
    clear XT XF hB okt3 cXT0 cXT1 cXT2 cXF0 cXF1 cXF2 cXF3
    have XT := HT.out; have XF := HF.out; have hB := HB.out; have oky := HY.out
    clear HT HF HB HY
    by_cases hkp : k < p
    ·
      have hd : decide ((k : Int) < (p : Int)) = true := decide_eq_true (by omega)
      have HS1 : Asd (Sz 10000 (y.q * ((10 : Int) : Rat))) := ⟨by rw [HQ.out, HSTEP.out]; exact HTS.out (k + 1) (by omega)⟩
      have HQ1 : Asd (y.q * ((10 : Int) : Rat) = t.q * ((10 ^ (k + 1) : Int) : Rat)) := ⟨by rw [HQ.out, HSTEP.out]⟩
      replace XT := XT.drew; replace XF := XF.drew; replace oky := oky.drew; replace hB := below_drewN hB 1
      have hlw := XT.lt
      have t0 := XT.c 0 rfl; have t1 := XT.c 1 rfl; have t2 := XT.c 2 rfl; have tf := XT.f; have tl := XT.lt
      go_wp2_with fail
      go_region_with
        (first
          | (go_at_call 25; refine (frac_Of 10 (by decide) (by decide) _).mono ?_; rintro e w8 hfo; obtain ⟨z, rfl, hqz, hRz, hoz, hb1⟩ := hfo.rf HS10.out; have HQZ := Asd.mk hqz; clear hqz hfo; replace XT := XT.below hb1; replace XF := XF.below hb1; replace oky := oky.below hb1; replace hB := below_go hB hb1; replace t0 := XT.c 0 rfl; replace t1 := XT.c 1 rfl; replace t2 := XT.c 2 rfl; replace tf := XT.f; replace tl := XT.lt; clear hb1)
          | (go_at_call 24; refine (frac_Mul _ _ y z _ oky hoz).mono ?_; rintro e w9 hfo; obtain ⟨m, rfl, hqm, hRm, hom, hb1⟩ := hfo.rf (by rw [HQZ.out]; exact HS1.out); have HQM := Asd.mk hqm; clear hqm hfo; have hlo := XT.lt; replace XT := XT.below hb1; replace XF := XF.below hb1; replace hB := below_go hB hb1; replace t0 := XT.c 0 rfl; replace t1 := XT.c 1 rfl; replace t2 := XT.c 2 rfl; replace tf := XT.f; replace tl := XT.lt; clear hb1))
      all_goals go_wp2
      all_goals go_roundw
      all_goals first
        | (simp only [intOf]; go_num; done)
        | exact ⟨k + 1, m, by omega, by go_num, ⟨((XT.set 0 _).set 1 _).set 2 _⟩, ⟨(((hom.setCell (by simp; omega) _).setCell (by simp; omega) _).setCell (by simp; omega) _).mono (fun a ha hk => by omega)⟩, ⟨by rw [HQM.out, HQZ.out]; exact HQ1.out⟩, ⟨((XF.far (by have := HBW.out; simp; omega) _).far (by have := HBW.out; simp; omega) _).far (by have := HBW.out; simp; omega) _⟩, ⟨((hB.setCell (by have := HBW.out; simp; omega) _).setCell (by have := HBW.out; simp; omega) _).setCell (by have := HBW.out; simp; omega) _⟩⟩
    ·
      have hkp2 : k = p := by omega
      have hd : decide ((k : Int) < (p : Int)) = false := decide_eq_false (by omega)
      have HLE : Asd (y.q ≤ 1) := ⟨by rw [HQ.out, hkp2]; exact HNR.out⟩
      have hsg : decide (sgI (y.q - ((1 : Int) : Rat)).num ≤ 0) = true := decide_eq_true (sg_le HLE.out)
      generalize hsge : sgI (y.q - ((1 : Int) : Rat)).num = sg at *
      have HSG := Asd.mk hsge
      clear hsge
      subst hkp2
      have t0 := XT.c 0 rfl; have t1 := XT.c 1 rfl; have t2 := XT.c 2 rfl
      have f0 := XF.c 0 rfl; have f1 := XF.c 1 rfl; have f2 := XF.c 2 rfl; have f3 := XF.c 3 rfl
      go_wp2_with fail
      replace XT := XT.drew; replace XF := XF.drew; replace oky := oky.drew; replace hB := below_drewN hB 1
      replace t0 := XT.c 0 rfl; replace t1 := XT.c 1 rfl; replace t2 := XT.c 2 rfl
      replace f0 := XF.c 0 rfl; replace f1 := XF.c 1 rfl; replace f2 := XF.c 2 rfl; replace f3 := XF.c 3 rfl
      have HS1 : Asd (Sz 10000 ((1 : Int) : Rat)) := ⟨(sz_int 1 (k := 1) (Nat.le_refl _) (by unfold mag; rw [show (((1 : Int).natAbs : Nat) : Int) = 1 from rfl, rep_word (by decide) (by decide)]; decide)).mono (by decide)⟩
      go_region_held3 (fun w' => w'.cell? ⟨by_ + 1, 0, none⟩ = some (.int .i64 0) ∧ w'.cell? ⟨by_ + 1, 1, none⟩ = some (.int .i64 0) ∧ w'.cell? ⟨by_ + 1, 2, none⟩ = some (.int .i64 0) ∧ w'.cell? ⟨by_ + 1, 3, none⟩ = some (.int .i64 0) ∧ w'.cell? ⟨bt, 0, none⟩ = some (.bool y.n) ∧ w'.cell? ⟨bt, 1, none⟩ = some (.slice y.A y.l.length y.c) ∧ w'.cell? ⟨bt, 2, none⟩ = some (.slice y.A' y.d.length y.c')) (go_keep)
        (first
          | (go_at_call 25; refine (frac_Of 1 (by decide) (by decide) _).mono ?_; rintro e w8 hfo; obtain ⟨z, rfl, hqz, hRz, hoz, hb1⟩ := hfo.rf HS1.out; have HQZ := Asd.mk hqz; clear hqz hfo; replace XT := XT.below hb1; replace XF := XF.below hb1; replace oky := oky.below hb1; replace hB := below_go hB hb1; replace t0 := XT.c 0 rfl; replace t1 := XT.c 1 rfl; replace t2 := XT.c 2 rfl; replace f0 := XF.c 0 rfl; replace f1 := XF.c 1 rfl; replace f2 := XF.c 2 rfl; replace f3 := XF.c 3 rfl; clear hb1)
          | (go_at_call 26; have hm := frac_Cmp _ _ y z _ oky hoz; rw [HQZ.out, HSG.out] at hm; refine hm.mono ?_; clear hm; rintro e w9 ⟨rfl, hb1⟩; replace XT := XT.below hb1; replace XF := XF.below hb1; replace oky := oky.below hb1; replace hB := below_go hB hb1; replace t0 := XT.c 0 rfl; replace t1 := XT.c 1 rfl; replace t2 := XT.c 2 rfl; replace f0 := XF.c 0 rfl; replace f1 := XF.c 1 rfl; replace f2 := XF.c 2 rfl; replace f3 := XF.c 3 rfl; clear hb1)
          | (go_at_call 12; refine (law10_works _).mono ?_; rintro e w10 ⟨rfl, hb1⟩; replace XT := XT.below hb1; replace XF := XF.below hb1; replace oky := oky.below hb1; replace hB := below_go hB hb1; replace t0 := XT.c 0 rfl; replace t1 := XT.c 1 rfl; replace t2 := XT.c 2 rfl; replace f0 := XF.c 0 rfl; replace f1 := XF.c 1 rfl; replace f2 := XF.c 2 rfl; replace f3 := XF.c 3 rfl; clear hb1))
      go_wp2
      first | go_ret | go_end0
      exact ⟨rfl, hB⟩
end Go.Proofs.YthjpkichpkomcaaGreatDoor
