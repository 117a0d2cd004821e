/- FBack -/
import Derived.Test.YthjpkichpkomcaaGreatDoorBRowFigureNear45
import Derived.Test.YthjpkichpkomcaaGreatDoorBRowFigureNear50
/- The law FigureBack, walked; digits.Len. -/
namespace Go.Proofs.YthjpkichpkomcaaGreatDoor
open Go.RowKit Go.Proofs.YthjpkichpkomcaaGreatDoor.Big
set_option linter.unusedVariables false
set_option maxRecDepth 100000
attribute [local go_sem ↓] Go.wp_at_zero Go.wp_at_succ

theorem digits_Len (ok : Nat → Prop) (A : Option Addr) (c : Nat) (l : List Int) (w : World) (h : Rd ok w A l) (hc : l.length ≤ c) (hbig : l.length < 1000000000) :
    Calls Tryz.prog 15 #[.slice A l.length c] w fun e w' => e = .returned (.int .i64 ((decT (val l)).length : Int)) ∧ Below w.heap.size w w' := by
  go_enter Tryz.func15, Tryz.ntmps15
  go_wp2_with fail
  refine (digits_Text ok A c l w h hc hbig).mono ?_
  rintro e w1 ⟨rfl, hb1⟩
  go_wp2
  go_ret
  exact ⟨rfl, hb1⟩

theorem readF_cases (l : List UInt8) : (∃ q, readF l = (q, 0, 0)) ∨ (∃ a, readF l = (0, 1, a)) ∨ (∃ a, readF l = (0, 2, a)) := by
  unfold readF
  split
  · exact Or.inr (Or.inl ⟨_, rfl⟩)
  · split
    · exact Or.inl ⟨_, rfl⟩
    · split
      · exact Or.inr (Or.inl ⟨_, rfl⟩)
      · split
        · split
          · exact Or.inr (Or.inr ⟨_, rfl⟩)
          · exact Or.inl ⟨_, rfl⟩
        · exact Or.inl ⟨_, rfl⟩
theorem figT_short {q : Rat} (h1 : (decT (q.num.natAbs : Int)).length ≤ 60) (h2 : (decT (q.den : Int)).length ≤ 60) : (figT q).length ≤ 1000 := by
  have hw : (wholeT q.num).length ≤ 61 := by
    unfold wholeT
    split
    · rw [List.length_cons, show (-q.num) = (q.num.natAbs : Int) by omega]; omega
    · rw [show q.num = (q.num.natAbs : Int) by omega]; omega
  unfold figT
  rw [List.length_append]
  split
  · simp; omega
  · rw [List.length_cons]; omega
/-- What is written of a fraction of short numbers is read again. -/
theorem back_read {q : Rat} (h1 : (decT (q.num.natAbs : Int)).length ≤ 60) (h2 : (decT (q.den : Int)).length ≤ 60) (w : World) : Calls Tryz.prog 16 #[.string ⟨(figT q).toArray⟩] w (FgOut q 0 0 w) := by
  have := figure_Read (figT q) (figT_short h1 h2) w
  rwa [readF_figT q h1 h2] at this
theorem rt_len {x : RF} (h : Rt x) : val x.l = (x.q.num.natAbs : Int) ∧ val x.d = (x.q.den : Int) := by
  rw [h.2.1, h.2.2, val_mag, val_rep (by omega)]
  exact ⟨rfl, rfl⟩
theorem rc_rf {p : Nat → Prop} {w : World} {r : RC} (h : r.ok p w) (hl : r.x.l.length ≤ 10000) (hd : r.x.d.length ≤ 10000) : r.x.ok p w := ⟨h.2.2.1 hl, h.1, h.2.2.2 hd, h.2.1, hl, hd⟩

set_option maxHeartbeats 4000000 in
theorem law_FigureBack (x : RC) (s : ByteArray) (w : World) (hx : x.ok (fun _ => True) w) (hs : s.size ≤ maxLen) :
    Calls Tryz.prog 3 #[.agg #[.bool x.x.n, .slice x.x.A x.x.l.length x.x.c, .slice x.x.A' x.x.d.length x.x.c'], .string s] w fun e w' => e = .returned (.bool true) ∧ Below w.heap.size w w' := by
  obtain ⟨l, rfl⟩ : ∃ l : List UInt8, s = ⟨l.toArray⟩ := ⟨s.data.toList, by simp⟩
  have hs1 : (⟨l.toArray⟩ : ByteArray).size = l.length := by simp [ByteArray.size]
  have HX := Asd.mk hx
  obtain ⟨x⟩ := x
  have hB := (Below.refl w.heap.size w).alloc (Nat.le_refl _) (.cells #[.bool x.n, .slice x.A x.l.length x.c, .slice x.A' x.d.length x.c'] 24)
  have XX := Blk.new w [.bool x.n, .slice x.A x.l.length x.c, .slice x.A' x.d.length x.c'] 24
  have cXX0 := XX.c 0 rfl; have cXX1 := XX.c 1 rfl; have cXX2 := XX.c 2 rfl
  go_enter Tryz.func3, Tryz.ntmps3
  go_wp2_with fail
  by_cases hG : (decide (6 < x.l.length) || decide (6 < x.d.length)) = true
  ·
    have hm := ref09_Long x.n x.A x.l.length x.c x.A' x.d.length x.c' 6 (w.alloc (.cells #[.bool x.n, .slice x.A x.l.length x.c, .slice x.A' x.d.length x.c'] 24))
    rw [hG] at hm
    refine hm.mono ?_
    clear hm
    rintro e w1 ⟨rfl, hb1⟩
    replace XX := XX.below hb1; replace cXX0 := XX.c 0 rfl; replace cXX1 := XX.c 1 rfl; replace cXX2 := XX.c 2 rfl; replace hB := below_go hB hb1
    clear hb1
    go_wp2_with fail
    refine (law10_works _).mono ?_
    rintro e wz ⟨rfl, hbz⟩
    go_wp2
    go_ret
    exact ⟨rfl, below_go hB hbz⟩
  replace hG : (decide (6 < x.l.length) || decide (6 < x.d.length)) = false := by simpa using hG
  have hm := ref09_Long x.n x.A x.l.length x.c x.A' x.d.length x.c' 6 (w.alloc (.cells #[.bool x.n, .slice x.A x.l.length x.c, .slice x.A' x.d.length x.c'] 24))
  rw [hG] at hm
  refine hm.mono ?_
  clear hm
  rintro e w1 ⟨rfl, hb1⟩
  replace XX := XX.below hb1; replace cXX0 := XX.c 0 rfl; replace cXX1 := XX.c 1 rfl; replace cXX2 := XX.c 2 rfl; replace hB := below_go hB hb1
  have hb0 := hb1
  clear hb1
  have hl6 : x.l.length ≤ 6 ∧ x.d.length ≤ 6 := by
    rw [Bool.or_eq_false_iff, decide_eq_false_iff_not, decide_eq_false_iff_not] at hG
    omega
  have rx : x.ok (fun _ => True) w1 := ((rc_rf HX.out (by show x.l.length ≤ 10000; omega) (by show x.d.length ≤ 10000; omega)).alloc _).below hb0
  clear hG hx
  by_cases hS : 200 < l.length
  · have hd : decide ((200 : Int) < (l.length : Int)) = true := decide_eq_true (by omega)
    have hd' : 200 < l.length := hS
    go_wp2_with fail
    refine (law10_works _).mono ?_
    rintro e wz ⟨rfl, hbz⟩
    go_wp2
    go_ret
    exact ⟨rfl, below_go hB hbz⟩
  have hd : decide ((200 : Int) < (l.length : Int)) = false := decide_eq_false (by omega)
  go_wp2_with fail
  clear XX cXX0 cXX1 cXX2 hb0
  refine (law09_To x.n x.A x.l.length x.c x.A' x.d.length x.c' w1).mono ?_
  rintro e w2 ⟨rfl, hb1⟩
  replace rx := rx.below hb1; replace hB := below_go hB hb1
  clear hb1
  go_wp2_with fail
  refine (frac_Norm _ x w2 rx).mono ?_
  rintro e w3 hfn
  obtain ⟨y, rfl, hqy, hRy, oky, hb1⟩ := hfn.rf (sz_ok rx)
  replace oky := oky.mono (ok' := fun _ => True) (fun _ _ _ => trivial)
  replace hB := below_go hB hb1
  clear hb1 hfn rx HX hqy
  replace oky := oky.alloc (.cells #[.bool y.n, .slice y.A y.l.length y.c, .slice y.A' y.d.length y.c'] 30); have XY := Blk.new w3 [.bool y.n, .slice y.A y.l.length y.c, .slice y.A' y.d.length y.c'] 30; replace hB := hB.alloc hB.size (.cells #[.bool y.n, .slice y.A y.l.length y.c, .slice y.A' y.d.length y.c'] 30)
  have cXY0 := XY.c 0 rfl; have cXY1 := XY.c 1 rfl; have cXY2 := XY.c 2 rfl
  go_wp2_with fail
  generalize (w3.alloc (.cells #[.bool y.n, .slice y.A y.l.length y.c, .slice y.A' y.d.length y.c'] 30)) = V at *
  have hlY := XY.lt
  generalize w3.heap.size = by_ at *
  have hm := digits_Len _ y.A y.c y.l V oky.1 oky.2.1 (by have := oky.2.2.2.2; omega)
  rw [(rt_len hRy).1] at hm
  by_cases hA : (decT (y.q.num.natAbs : Int)).length ≤ 60
  ·
    have he2 : decide (((decT (y.q.num.natAbs : Int)).length : Int) ≤ 60) = true := decide_eq_true (by omega)
    refine hm.mono ?_
    clear hm
    rintro e w11 ⟨rfl, hb1⟩
    replace oky := oky.below hb1; replace XY := XY.below hb1; replace cXY0 := XY.c 0 rfl; replace cXY1 := XY.c 1 rfl; replace cXY2 := XY.c 2 rfl; replace hB := below_go hB hb1
    clear hb1
    go_wp2_with fail
    have hm := digits_Len _ y.A' y.c' y.d w11 oky.2.2.1 oky.2.2.2.1 (by have := oky.2.2.2.2; omega)
    rw [(rt_len hRy).2] at hm
    by_cases hD0 : (decT (y.q.den : Int)).length ≤ 60
    ·
      have he4 : decide (((decT (y.q.den : Int)).length : Int) ≤ 60) = true := decide_eq_true (by omega)
      refine hm.mono ?_
      clear hm
      rintro e w12 ⟨rfl, hb1⟩
      replace oky := oky.below hb1; replace XY := XY.below hb1; replace cXY0 := XY.c 0 rfl; replace cXY1 := XY.c 1 rfl; replace cXY2 := XY.c 2 rfl; replace hB := below_go hB hb1
      clear hb1
      go_wp2_with fail
      have hm := figure_Text _ y w12 oky
      refine hm.mono ?_
      clear hm
      rintro e w13 ⟨rfl, hb1⟩
      replace oky := oky.below hb1; replace XY := XY.below hb1; replace cXY0 := XY.c 0 rfl; replace cXY1 := XY.c 1 rfl; replace cXY2 := XY.c 2 rfl; replace hB := below_go hB hb1
      clear hb1
      go_wp2_with fail
      have hm := back_read hA hD0 w13
      refine hm.mono ?_
      clear hm
      rintro e w14 ⟨d, rfl, hqd, hRd, okd, hb1⟩
      have HQD := Asd.mk hqd
      clear hqd
      replace okd := okd.mono (ok' := fun _ => True) (fun _ _ _ => trivial)
      replace oky := oky.below hb1; replace XY := XY.below hb1; replace cXY0 := XY.c 0 rfl; replace cXY1 := XY.c 1 rfl; replace cXY2 := XY.c 2 rfl; replace hB := below_go hB hb1
      clear hb1
      replace oky := oky.alloc (.cells #[.bool d.n, .slice d.A d.l.length d.c, .slice d.A' d.d.length d.c'] 30); replace XY := XY.alloc (.cells #[.bool d.n, .slice d.A d.l.length d.c, .slice d.A' d.d.length d.c'] 30); replace okd := okd.alloc (.cells #[.bool d.n, .slice d.A d.l.length d.c, .slice d.A' d.d.length d.c'] 30); have XD := Blk.new w14 [.bool d.n, .slice d.A d.l.length d.c, .slice d.A' d.d.length d.c'] 30; replace hB := hB.alloc hB.size (.cells #[.bool d.n, .slice d.A d.l.length d.c, .slice d.A' d.d.length d.c'] 30)
      replace oky := oky.alloc (.cells #[.int .i64 0, .int .i64 0, .int .i64 0, .int .i64 0] 35); replace XY := XY.alloc (.cells #[.int .i64 0, .int .i64 0, .int .i64 0, .int .i64 0] 35); replace okd := okd.alloc (.cells #[.int .i64 0, .int .i64 0, .int .i64 0, .int .i64 0] 35); replace XD := XD.alloc (.cells #[.int .i64 0, .int .i64 0, .int .i64 0, .int .i64 0] 35); have XH := Blk.new (w14.alloc (.cells #[.bool d.n, .slice d.A d.l.length d.c, .slice d.A' d.d.length d.c'] 30)) [.int .i64 0, .int .i64 0, .int .i64 0, .int .i64 0] 35; simp only [World.size_alloc] at XH; replace hB := hB.alloc hB.size (.cells #[.int .i64 0, .int .i64 0, .int .i64 0, .int .i64 0] 35)
      have cXY0 := XY.c 0 rfl; have cXY1 := XY.c 1 rfl; have cXY2 := XY.c 2 rfl; have cXD0 := XD.c 0 rfl; have cXD1 := XD.c 1 rfl; have cXD2 := XD.c 2 rfl; have cXH0 := XH.c 0 rfl; have cXH1 := XH.c 1 rfl; have cXH2 := XH.c 2 rfl; have cXH3 := XH.c 3 rfl
      go_wp2_with fail
      generalize ((w14.alloc (.cells #[.bool d.n, .slice d.A d.l.length d.c, .slice d.A' d.d.length d.c'] 30)).alloc (.cells #[.int .i64 0, .int .i64 0, .int .i64 0, .int .i64 0] 35)) = V4 at *
      have hm := frac_Same _ _ d y V4 okd oky
      rw [HQD.out, decide_eq_true (show y.q = y.q from rfl)] at hm
      refine hm.mono ?_
      clear hm
      rintro e w15 ⟨rfl, hb1⟩
      replace oky := oky.below hb1; replace XY := XY.below hb1; replace okd := okd.below hb1; replace XD := XD.below hb1; replace XH := XH.below hb1; replace cXY0 := XY.c 0 rfl; replace cXY1 := XY.c 1 rfl; replace cXY2 := XY.c 2 rfl; replace cXD0 := XD.c 0 rfl; replace cXD1 := XD.c 1 rfl; replace cXD2 := XD.c 2 rfl; replace cXH0 := XH.c 0 rfl; replace cXH1 := XH.c 1 rfl; replace cXH2 := XH.c 2 rfl; replace cXH3 := XH.c 3 rfl; replace hB := below_go hB hb1
      clear hb1
      go_wp2_with fail
      clear cXY0 cXY1 cXY2
      clear cXD0 cXD1 cXD2
      clear cXH0 cXH1 cXH2 cXH3
      have hm := figure_Read l (by omega) w15
      rcases readF_cases l with ⟨q, hrd⟩ | ⟨at_, hrd⟩ | ⟨at_, hrd⟩
      ·
        rw [hrd] at hm
        refine hm.mono ?_
        clear hm
        rintro e w16 ⟨c, rfl, hqc, hRc, okc, hb1⟩
        replace okc := okc.mono (ok' := fun _ => True) (fun _ _ _ => trivial)
        replace hB := below_go hB hb1
        clear hb1
        have HQC := Asd.mk hqc
        clear hqc
        replace okc := okc.alloc (.cells #[.bool c.n, .slice c.A c.l.length c.c, .slice c.A' c.d.length c.c'] 30); have XC := Blk.new w16 [.bool c.n, .slice c.A c.l.length c.c, .slice c.A' c.d.length c.c'] 30; replace hB := hB.alloc hB.size (.cells #[.bool c.n, .slice c.A c.l.length c.c, .slice c.A' c.d.length c.c'] 30)
        replace okc := okc.alloc (.cells #[.int .i64 0, .int .i64 0, .int .i64 0, .int .i64 0] 35); replace XC := XC.alloc (.cells #[.int .i64 0, .int .i64 0, .int .i64 0, .int .i64 0] 35); have XG := Blk.new (w16.alloc (.cells #[.bool c.n, .slice c.A c.l.length c.c, .slice c.A' c.d.length c.c'] 30)) [.int .i64 0, .int .i64 0, .int .i64 0, .int .i64 0] 35; simp only [World.size_alloc] at XG; replace hB := hB.alloc hB.size (.cells #[.int .i64 0, .int .i64 0, .int .i64 0, .int .i64 0] 35)
        have cXC0 := XC.c 0 rfl; have cXC1 := XC.c 1 rfl; have cXC2 := XC.c 2 rfl; have cXG0 := XG.c 0 rfl; have cXG1 := XG.c 1 rfl; have cXG2 := XG.c 2 rfl; have cXG3 := XG.c 3 rfl
        go_wp2_with fail
        generalize ((w16.alloc (.cells #[.bool c.n, .slice c.A c.l.length c.c, .slice c.A' c.d.length c.c'] 30)).alloc (.cells #[.int .i64 0, .int .i64 0, .int .i64 0, .int .i64 0] 35)) = V2 at *
        have hlC := XC.lt
        generalize w16.heap.size = bc at *
        have hm := digits_Len _ c.A c.c c.l V2 okc.1 okc.2.1 (by have := okc.2.2.2.2; omega)
        rw [(rt_len hRc).1] at hm
        by_cases hC : (decT (c.q.num.natAbs : Int)).length ≤ 60
        ·
          have hd2 : decide ((60 : Int) < ((decT (c.q.num.natAbs : Int)).length : Int)) = false := decide_eq_false (by omega)
          have hd3 : ¬ 60 < (decT (c.q.num.natAbs : Int)).length := by omega
          refine hm.mono ?_
          clear hm
          rintro e w17 ⟨rfl, hb1⟩
          replace okc := okc.below hb1; replace XC := XC.below hb1; replace XG := XG.below hb1; replace cXC0 := XC.c 0 rfl; replace cXC1 := XC.c 1 rfl; replace cXC2 := XC.c 2 rfl; replace cXG0 := XG.c 0 rfl; replace cXG1 := XG.c 1 rfl; replace cXG2 := XG.c 2 rfl; replace cXG3 := XG.c 3 rfl; replace hB := below_go hB hb1
          clear hb1
          go_wp2_with fail
          have hm := digits_Len _ c.A' c.c' c.d w17 okc.2.2.1 okc.2.2.2.1 (by have := okc.2.2.2.2; omega)
          rw [(rt_len hRc).2] at hm
          by_cases hD : (decT (c.q.den : Int)).length ≤ 60
          ·
            have hd4 : decide ((60 : Int) < ((decT (c.q.den : Int)).length : Int)) = false := decide_eq_false (by omega)
            have hd5 : ¬ 60 < (decT (c.q.den : Int)).length := by omega
            refine hm.mono ?_
            clear hm
            rintro e w18 ⟨rfl, hb1⟩
            replace okc := okc.below hb1; replace XC := XC.below hb1; replace XG := XG.below hb1; replace cXC0 := XC.c 0 rfl; replace cXC1 := XC.c 1 rfl; replace cXC2 := XC.c 2 rfl; replace cXG0 := XG.c 0 rfl; replace cXG1 := XG.c 1 rfl; replace cXG2 := XG.c 2 rfl; replace cXG3 := XG.c 3 rfl; replace hB := below_go hB hb1
            clear hb1
            go_wp2_with fail
            have hm := figure_Text _ c w18 okc
            refine hm.mono ?_
            clear hm
            rintro e w19 ⟨rfl, hb1⟩
            replace okc := okc.below hb1; replace XC := XC.below hb1; replace XG := XG.below hb1; replace cXC0 := XC.c 0 rfl; replace cXC1 := XC.c 1 rfl; replace cXC2 := XC.c 2 rfl; replace cXG0 := XG.c 0 rfl; replace cXG1 := XG.c 1 rfl; replace cXG2 := XG.c 2 rfl; replace cXG3 := XG.c 3 rfl; replace hB := below_go hB hb1
            clear hb1
            go_wp2_with fail
            have hm := back_read hC hD w19
            refine hm.mono ?_
            clear hm
            rintro e w20 ⟨d, rfl, hqd, hRd, okd, hb1⟩
            have HQD := Asd.mk hqd
            clear hqd
            replace okd := okd.mono (ok' := fun _ => True) (fun _ _ _ => trivial)
            replace okc := okc.below hb1; replace XC := XC.below hb1; replace XG := XG.below hb1; replace cXC0 := XC.c 0 rfl; replace cXC1 := XC.c 1 rfl; replace cXC2 := XC.c 2 rfl; replace cXG0 := XG.c 0 rfl; replace cXG1 := XG.c 1 rfl; replace cXG2 := XG.c 2 rfl; replace cXG3 := XG.c 3 rfl; replace hB := below_go hB hb1
            clear hb1
            clear cXC0; clear cXC1; clear cXC2; clear cXG0; clear cXG1; clear cXG2; clear cXG3
            replace okc := okc.alloc (.cells #[.bool d.n, .slice d.A d.l.length d.c, .slice d.A' d.d.length d.c'] 30); replace XC := XC.alloc (.cells #[.bool d.n, .slice d.A d.l.length d.c, .slice d.A' d.d.length d.c'] 30); replace XG := XG.alloc (.cells #[.bool d.n, .slice d.A d.l.length d.c, .slice d.A' d.d.length d.c'] 30); replace okd := okd.alloc (.cells #[.bool d.n, .slice d.A d.l.length d.c, .slice d.A' d.d.length d.c'] 30); have XD := Blk.new w20 [.bool d.n, .slice d.A d.l.length d.c, .slice d.A' d.d.length d.c'] 30; replace hB := hB.alloc hB.size (.cells #[.bool d.n, .slice d.A d.l.length d.c, .slice d.A' d.d.length d.c'] 30)
            replace okc := okc.alloc (.cells #[.int .i64 0, .int .i64 0, .int .i64 0, .int .i64 0] 35); replace XC := XC.alloc (.cells #[.int .i64 0, .int .i64 0, .int .i64 0, .int .i64 0] 35); replace XG := XG.alloc (.cells #[.int .i64 0, .int .i64 0, .int .i64 0, .int .i64 0] 35); replace okd := okd.alloc (.cells #[.int .i64 0, .int .i64 0, .int .i64 0, .int .i64 0] 35); replace XD := XD.alloc (.cells #[.int .i64 0, .int .i64 0, .int .i64 0, .int .i64 0] 35); have XH := Blk.new (w20.alloc (.cells #[.bool d.n, .slice d.A d.l.length d.c, .slice d.A' d.d.length d.c'] 30)) [.int .i64 0, .int .i64 0, .int .i64 0, .int .i64 0] 35; simp only [World.size_alloc] at XH; replace hB := hB.alloc hB.size (.cells #[.int .i64 0, .int .i64 0, .int .i64 0, .int .i64 0] 35)
            have cXC0 := XC.c 0 rfl; have cXC1 := XC.c 1 rfl; have cXC2 := XC.c 2 rfl; have cXG0 := XG.c 0 rfl; have cXG1 := XG.c 1 rfl; have cXG2 := XG.c 2 rfl; have cXG3 := XG.c 3 rfl; have cXD0 := XD.c 0 rfl; have cXD1 := XD.c 1 rfl; have cXD2 := XD.c 2 rfl; have cXH0 := XH.c 0 rfl; have cXH1 := XH.c 1 rfl; have cXH2 := XH.c 2 rfl; have cXH3 := XH.c 3 rfl
            go_wp2_with fail
            generalize ((w20.alloc (.cells #[.bool d.n, .slice d.A d.l.length d.c, .slice d.A' d.d.length d.c'] 30)).alloc (.cells #[.int .i64 0, .int .i64 0, .int .i64 0, .int .i64 0] 35)) = V4 at *
            have hm := frac_Same _ _ c d V4 okc okd
            rw [HQD.out, decide_eq_true (show c.q = c.q from rfl)] at hm
            refine hm.mono ?_
            clear hm
            rintro e w21 ⟨rfl, hb1⟩
            replace okc := okc.below hb1; replace XC := XC.below hb1; replace XG := XG.below hb1; replace okd := okd.below hb1; replace XD := XD.below hb1; replace XH := XH.below hb1; replace cXC0 := XC.c 0 rfl; replace cXC1 := XC.c 1 rfl; replace cXC2 := XC.c 2 rfl; replace cXG0 := XG.c 0 rfl; replace cXG1 := XG.c 1 rfl; replace cXG2 := XG.c 2 rfl; replace cXG3 := XG.c 3 rfl; replace cXD0 := XD.c 0 rfl; replace cXD1 := XD.c 1 rfl; replace cXD2 := XD.c 2 rfl; replace cXH0 := XH.c 0 rfl; replace cXH1 := XH.c 1 rfl; replace cXH2 := XH.c 2 rfl; replace cXH3 := XH.c 3 rfl; replace hB := below_go hB hb1
            clear hb1
            go_wp2_with fail
            refine (law10_works _).mono ?_
            rintro e wz ⟨rfl, hbz⟩
            go_wp2
            go_ret
            exact ⟨rfl, below_go hB hbz⟩
          ·
            have hd4 : decide ((60 : Int) < ((decT (c.q.den : Int)).length : Int)) = true := decide_eq_true (by omega)
            have hd5 : 60 < (decT (c.q.den : Int)).length := by omega
            refine hm.mono ?_
            clear hm
            rintro e w22 ⟨rfl, hb1⟩
            replace okc := okc.below hb1; replace XC := XC.below hb1; replace XG := XG.below hb1; replace cXC0 := XC.c 0 rfl; replace cXC1 := XC.c 1 rfl; replace cXC2 := XC.c 2 rfl; replace cXG0 := XG.c 0 rfl; replace cXG1 := XG.c 1 rfl; replace cXG2 := XG.c 2 rfl; replace cXG3 := XG.c 3 rfl; replace hB := below_go hB hb1
            clear hb1
            go_wp2_with fail
            refine (law10_works _).mono ?_
            rintro e wz ⟨rfl, hbz⟩
            go_wp2
            go_ret
            exact ⟨rfl, below_go hB hbz⟩
        ·
          have hd2 : decide ((60 : Int) < ((decT (c.q.num.natAbs : Int)).length : Int)) = true := decide_eq_true (by omega)
          have hd3 : 60 < (decT (c.q.num.natAbs : Int)).length := by omega
          refine hm.mono ?_
          clear hm
          rintro e w23 ⟨rfl, hb1⟩
          replace okc := okc.below hb1; replace XC := XC.below hb1; replace XG := XG.below hb1; replace cXC0 := XC.c 0 rfl; replace cXC1 := XC.c 1 rfl; replace cXC2 := XC.c 2 rfl; replace cXG0 := XG.c 0 rfl; replace cXG1 := XG.c 1 rfl; replace cXG2 := XG.c 2 rfl; replace cXG3 := XG.c 3 rfl; replace hB := below_go hB hb1
          clear hb1
          go_wp2_with fail
          refine (law10_works _).mono ?_
          rintro e wz ⟨rfl, hbz⟩
          go_wp2
          go_ret
          exact ⟨rfl, below_go hB hbz⟩
      ·
        rw [hrd] at hm
        refine hm.mono ?_
        clear hm
        rintro e w24 ⟨c, rfl, hqc, hRc, okc, hb1⟩
        replace okc := okc.mono (ok' := fun _ => True) (fun _ _ _ => trivial)
        replace hB := below_go hB hb1
        clear hb1
        have HQC := Asd.mk hqc
        clear hqc
        replace okc := okc.alloc (.cells #[.bool c.n, .slice c.A c.l.length c.c, .slice c.A' c.d.length c.c'] 30); have XC := Blk.new w24 [.bool c.n, .slice c.A c.l.length c.c, .slice c.A' c.d.length c.c'] 30; replace hB := hB.alloc hB.size (.cells #[.bool c.n, .slice c.A c.l.length c.c, .slice c.A' c.d.length c.c'] 30)
        replace okc := okc.alloc (.cells #[.int .i64 1, .int .i64 0, .int .i64 0, .int .i64 at_] 35); replace XC := XC.alloc (.cells #[.int .i64 1, .int .i64 0, .int .i64 0, .int .i64 at_] 35); have XG := Blk.new (w24.alloc (.cells #[.bool c.n, .slice c.A c.l.length c.c, .slice c.A' c.d.length c.c'] 30)) [.int .i64 1, .int .i64 0, .int .i64 0, .int .i64 at_] 35; simp only [World.size_alloc] at XG; replace hB := hB.alloc hB.size (.cells #[.int .i64 1, .int .i64 0, .int .i64 0, .int .i64 at_] 35)
        have cXC0 := XC.c 0 rfl; have cXC1 := XC.c 1 rfl; have cXC2 := XC.c 2 rfl; have cXG0 := XG.c 0 rfl; have cXG1 := XG.c 1 rfl; have cXG2 := XG.c 2 rfl; have cXG3 := XG.c 3 rfl
        go_wp2_with fail
        generalize ((w24.alloc (.cells #[.bool c.n, .slice c.A c.l.length c.c, .slice c.A' c.d.length c.c'] 30)).alloc (.cells #[.int .i64 1, .int .i64 0, .int .i64 0, .int .i64 at_] 35)) = V2 at *
        have hlC := XC.lt
        generalize w24.heap.size = bc at *
        have hm := frac_Sign _ c V2 okc
        rw [HQC.out, show sgI (Rat.num 0) = 0 from rfl] at hm
        refine hm.mono ?_
        clear hm
        rintro e w25 ⟨rfl, hb1⟩
        replace okc := okc.below hb1; replace XC := XC.below hb1; replace XG := XG.below hb1; replace cXC0 := XC.c 0 rfl; replace cXC1 := XC.c 1 rfl; replace cXC2 := XC.c 2 rfl; replace cXG0 := XG.c 0 rfl; replace cXG1 := XG.c 1 rfl; replace cXG2 := XG.c 2 rfl; replace cXG3 := XG.c 3 rfl; replace hB := below_go hB hb1
        clear hb1
        go_wp2_with fail
        refine (law10_works _).mono ?_
        rintro e wz ⟨rfl, hbz⟩
        go_wp2
        go_ret
        exact ⟨rfl, below_go hB hbz⟩
      ·
        rw [hrd] at hm
        refine hm.mono ?_
        clear hm
        rintro e w26 ⟨c, rfl, hqc, hRc, okc, hb1⟩
        replace okc := okc.mono (ok' := fun _ => True) (fun _ _ _ => trivial)
        replace hB := below_go hB hb1
        clear hb1
        have HQC := Asd.mk hqc
        clear hqc
        replace okc := okc.alloc (.cells #[.bool c.n, .slice c.A c.l.length c.c, .slice c.A' c.d.length c.c'] 30); have XC := Blk.new w26 [.bool c.n, .slice c.A c.l.length c.c, .slice c.A' c.d.length c.c'] 30; replace hB := hB.alloc hB.size (.cells #[.bool c.n, .slice c.A c.l.length c.c, .slice c.A' c.d.length c.c'] 30)
        replace okc := okc.alloc (.cells #[.int .i64 2, .int .i64 0, .int .i64 0, .int .i64 at_] 35); replace XC := XC.alloc (.cells #[.int .i64 2, .int .i64 0, .int .i64 0, .int .i64 at_] 35); have XG := Blk.new (w26.alloc (.cells #[.bool c.n, .slice c.A c.l.length c.c, .slice c.A' c.d.length c.c'] 30)) [.int .i64 2, .int .i64 0, .int .i64 0, .int .i64 at_] 35; simp only [World.size_alloc] at XG; replace hB := hB.alloc hB.size (.cells #[.int .i64 2, .int .i64 0, .int .i64 0, .int .i64 at_] 35)
        have cXC0 := XC.c 0 rfl; have cXC1 := XC.c 1 rfl; have cXC2 := XC.c 2 rfl; have cXG0 := XG.c 0 rfl; have cXG1 := XG.c 1 rfl; have cXG2 := XG.c 2 rfl; have cXG3 := XG.c 3 rfl
        go_wp2_with fail
        generalize ((w26.alloc (.cells #[.bool c.n, .slice c.A c.l.length c.c, .slice c.A' c.d.length c.c'] 30)).alloc (.cells #[.int .i64 2, .int .i64 0, .int .i64 0, .int .i64 at_] 35)) = V2 at *
        have hlC := XC.lt
        generalize w26.heap.size = bc at *
        have hm := frac_Sign _ c V2 okc
        rw [HQC.out, show sgI (Rat.num 0) = 0 from rfl] at hm
        refine hm.mono ?_
        clear hm
        rintro e w27 ⟨rfl, hb1⟩
        replace okc := okc.below hb1; replace XC := XC.below hb1; replace XG := XG.below hb1; replace cXC0 := XC.c 0 rfl; replace cXC1 := XC.c 1 rfl; replace cXC2 := XC.c 2 rfl; replace cXG0 := XG.c 0 rfl; replace cXG1 := XG.c 1 rfl; replace cXG2 := XG.c 2 rfl; replace cXG3 := XG.c 3 rfl; replace hB := below_go hB hb1
        clear hb1
        go_wp2_with fail
        refine (law10_works _).mono ?_
        rintro e wz ⟨rfl, hbz⟩
        go_wp2
        go_ret
        exact ⟨rfl, below_go hB hbz⟩
    ·
      have he4 : decide (((decT (y.q.den : Int)).length : Int) ≤ 60) = false := decide_eq_false (by omega)
      have he5 : ¬ (decT (y.q.den : Int)).length ≤ 60 := hD0
      refine hm.mono ?_
      clear hm
      rintro e w28 ⟨rfl, hb1⟩
      replace oky := oky.below hb1; replace XY := XY.below hb1; replace cXY0 := XY.c 0 rfl; replace cXY1 := XY.c 1 rfl; replace cXY2 := XY.c 2 rfl; replace hB := below_go hB hb1
      clear hb1
      go_wp2_with fail
      clear cXY0 cXY1 cXY2
      have hm := figure_Read l (by omega) w28
      rcases readF_cases l with ⟨q, hrd⟩ | ⟨at_, hrd⟩ | ⟨at_, hrd⟩
      ·
        rw [hrd] at hm
        refine hm.mono ?_
        clear hm
        rintro e w29 ⟨c, rfl, hqc, hRc, okc, hb1⟩
        replace okc := okc.mono (ok' := fun _ => True) (fun _ _ _ => trivial)
        replace hB := below_go hB hb1
        clear hb1
        have HQC := Asd.mk hqc
        clear hqc
        replace okc := okc.alloc (.cells #[.bool c.n, .slice c.A c.l.length c.c, .slice c.A' c.d.length c.c'] 30); have XC := Blk.new w29 [.bool c.n, .slice c.A c.l.length c.c, .slice c.A' c.d.length c.c'] 30; replace hB := hB.alloc hB.size (.cells #[.bool c.n, .slice c.A c.l.length c.c, .slice c.A' c.d.length c.c'] 30)
        replace okc := okc.alloc (.cells #[.int .i64 0, .int .i64 0, .int .i64 0, .int .i64 0] 35); replace XC := XC.alloc (.cells #[.int .i64 0, .int .i64 0, .int .i64 0, .int .i64 0] 35); have XG := Blk.new (w29.alloc (.cells #[.bool c.n, .slice c.A c.l.length c.c, .slice c.A' c.d.length c.c'] 30)) [.int .i64 0, .int .i64 0, .int .i64 0, .int .i64 0] 35; simp only [World.size_alloc] at XG; replace hB := hB.alloc hB.size (.cells #[.int .i64 0, .int .i64 0, .int .i64 0, .int .i64 0] 35)
        have cXC0 := XC.c 0 rfl; have cXC1 := XC.c 1 rfl; have cXC2 := XC.c 2 rfl; have cXG0 := XG.c 0 rfl; have cXG1 := XG.c 1 rfl; have cXG2 := XG.c 2 rfl; have cXG3 := XG.c 3 rfl
        go_wp2_with fail
        generalize ((w29.alloc (.cells #[.bool c.n, .slice c.A c.l.length c.c, .slice c.A' c.d.length c.c'] 30)).alloc (.cells #[.int .i64 0, .int .i64 0, .int .i64 0, .int .i64 0] 35)) = V2 at *
        have hlC := XC.lt
        generalize w29.heap.size = bc at *
        have hm := digits_Len _ c.A c.c c.l V2 okc.1 okc.2.1 (by have := okc.2.2.2.2; omega)
        rw [(rt_len hRc).1] at hm
        by_cases hC : (decT (c.q.num.natAbs : Int)).length ≤ 60
        ·
          have hd2 : decide ((60 : Int) < ((decT (c.q.num.natAbs : Int)).length : Int)) = false := decide_eq_false (by omega)
          have hd3 : ¬ 60 < (decT (c.q.num.natAbs : Int)).length := by omega
          refine hm.mono ?_
          clear hm
          rintro e w30 ⟨rfl, hb1⟩
          replace okc := okc.below hb1; replace XC := XC.below hb1; replace XG := XG.below hb1; replace cXC0 := XC.c 0 rfl; replace cXC1 := XC.c 1 rfl; replace cXC2 := XC.c 2 rfl; replace cXG0 := XG.c 0 rfl; replace cXG1 := XG.c 1 rfl; replace cXG2 := XG.c 2 rfl; replace cXG3 := XG.c 3 rfl; replace hB := below_go hB hb1
          clear hb1
          go_wp2_with fail
          have hm := digits_Len _ c.A' c.c' c.d w30 okc.2.2.1 okc.2.2.2.1 (by have := okc.2.2.2.2; omega)
          rw [(rt_len hRc).2] at hm
          by_cases hD : (decT (c.q.den : Int)).length ≤ 60
          ·
            have hd4 : decide ((60 : Int) < ((decT (c.q.den : Int)).length : Int)) = false := decide_eq_false (by omega)
            have hd5 : ¬ 60 < (decT (c.q.den : Int)).length := by omega
            refine hm.mono ?_
            clear hm
            rintro e w31 ⟨rfl, hb1⟩
            replace okc := okc.below hb1; replace XC := XC.below hb1; replace XG := XG.below hb1; replace cXC0 := XC.c 0 rfl; replace cXC1 := XC.c 1 rfl; replace cXC2 := XC.c 2 rfl; replace cXG0 := XG.c 0 rfl; replace cXG1 := XG.c 1 rfl; replace cXG2 := XG.c 2 rfl; replace cXG3 := XG.c 3 rfl; replace hB := below_go hB hb1
            clear hb1
            go_wp2_with fail
            have hm := figure_Text _ c w31 okc
            refine hm.mono ?_
            clear hm
            rintro e w32 ⟨rfl, hb1⟩
            replace okc := okc.below hb1; replace XC := XC.below hb1; replace XG := XG.below hb1; replace cXC0 := XC.c 0 rfl; replace cXC1 := XC.c 1 rfl; replace cXC2 := XC.c 2 rfl; replace cXG0 := XG.c 0 rfl; replace cXG1 := XG.c 1 rfl; replace cXG2 := XG.c 2 rfl; replace cXG3 := XG.c 3 rfl; replace hB := below_go hB hb1
            clear hb1
            go_wp2_with fail
            have hm := back_read hC hD w32
            refine hm.mono ?_
            clear hm
            rintro e w33 ⟨d, rfl, hqd, hRd, okd, hb1⟩
            have HQD := Asd.mk hqd
            clear hqd
            replace okd := okd.mono (ok' := fun _ => True) (fun _ _ _ => trivial)
            replace okc := okc.below hb1; replace XC := XC.below hb1; replace XG := XG.below hb1; replace cXC0 := XC.c 0 rfl; replace cXC1 := XC.c 1 rfl; replace cXC2 := XC.c 2 rfl; replace cXG0 := XG.c 0 rfl; replace cXG1 := XG.c 1 rfl; replace cXG2 := XG.c 2 rfl; replace cXG3 := XG.c 3 rfl; replace hB := below_go hB hb1
            clear hb1
            clear cXC0; clear cXC1; clear cXC2; clear cXG0; clear cXG1; clear cXG2; clear cXG3
            replace okc := okc.alloc (.cells #[.bool d.n, .slice d.A d.l.length d.c, .slice d.A' d.d.length d.c'] 30); replace XC := XC.alloc (.cells #[.bool d.n, .slice d.A d.l.length d.c, .slice d.A' d.d.length d.c'] 30); replace XG := XG.alloc (.cells #[.bool d.n, .slice d.A d.l.length d.c, .slice d.A' d.d.length d.c'] 30); replace okd := okd.alloc (.cells #[.bool d.n, .slice d.A d.l.length d.c, .slice d.A' d.d.length d.c'] 30); have XD := Blk.new w33 [.bool d.n, .slice d.A d.l.length d.c, .slice d.A' d.d.length d.c'] 30; replace hB := hB.alloc hB.size (.cells #[.bool d.n, .slice d.A d.l.length d.c, .slice d.A' d.d.length d.c'] 30)
            replace okc := okc.alloc (.cells #[.int .i64 0, .int .i64 0, .int .i64 0, .int .i64 0] 35); replace XC := XC.alloc (.cells #[.int .i64 0, .int .i64 0, .int .i64 0, .int .i64 0] 35); replace XG := XG.alloc (.cells #[.int .i64 0, .int .i64 0, .int .i64 0, .int .i64 0] 35); replace okd := okd.alloc (.cells #[.int .i64 0, .int .i64 0, .int .i64 0, .int .i64 0] 35); replace XD := XD.alloc (.cells #[.int .i64 0, .int .i64 0, .int .i64 0, .int .i64 0] 35); have XH := Blk.new (w33.alloc (.cells #[.bool d.n, .slice d.A d.l.length d.c, .slice d.A' d.d.length d.c'] 30)) [.int .i64 0, .int .i64 0, .int .i64 0, .int .i64 0] 35; simp only [World.size_alloc] at XH; replace hB := hB.alloc hB.size (.cells #[.int .i64 0, .int .i64 0, .int .i64 0, .int .i64 0] 35)
            have cXC0 := XC.c 0 rfl; have cXC1 := XC.c 1 rfl; have cXC2 := XC.c 2 rfl; have cXG0 := XG.c 0 rfl; have cXG1 := XG.c 1 rfl; have cXG2 := XG.c 2 rfl; have cXG3 := XG.c 3 rfl; have cXD0 := XD.c 0 rfl; have cXD1 := XD.c 1 rfl; have cXD2 := XD.c 2 rfl; have cXH0 := XH.c 0 rfl; have cXH1 := XH.c 1 rfl; have cXH2 := XH.c 2 rfl; have cXH3 := XH.c 3 rfl
            go_wp2_with fail
            generalize ((w33.alloc (.cells #[.bool d.n, .slice d.A d.l.length d.c, .slice d.A' d.d.length d.c'] 30)).alloc (.cells #[.int .i64 0, .int .i64 0, .int .i64 0, .int .i64 0] 35)) = V4 at *
            have hm := frac_Same _ _ c d V4 okc okd
            rw [HQD.out, decide_eq_true (show c.q = c.q from rfl)] at hm
            refine hm.mono ?_
            clear hm
            rintro e w34 ⟨rfl, hb1⟩
            replace okc := okc.below hb1; replace XC := XC.below hb1; replace XG := XG.below hb1; replace okd := okd.below hb1; replace XD := XD.below hb1; replace XH := XH.below hb1; replace cXC0 := XC.c 0 rfl; replace cXC1 := XC.c 1 rfl; replace cXC2 := XC.c 2 rfl; replace cXG0 := XG.c 0 rfl; replace cXG1 := XG.c 1 rfl; replace cXG2 := XG.c 2 rfl; replace cXG3 := XG.c 3 rfl; replace cXD0 := XD.c 0 rfl; replace cXD1 := XD.c 1 rfl; replace cXD2 := XD.c 2 rfl; replace cXH0 := XH.c 0 rfl; replace cXH1 := XH.c 1 rfl; replace cXH2 := XH.c 2 rfl; replace cXH3 := XH.c 3 rfl; replace hB := below_go hB hb1
            clear hb1
            go_wp2_with fail
            refine (law10_works _).mono ?_
            rintro e wz ⟨rfl, hbz⟩
            go_wp2
            go_ret
            exact ⟨rfl, below_go hB hbz⟩
          ·
            have hd4 : decide ((60 : Int) < ((decT (c.q.den : Int)).length : Int)) = true := decide_eq_true (by omega)
            have hd5 : 60 < (decT (c.q.den : Int)).length := by omega
            refine hm.mono ?_
            clear hm
            rintro e w35 ⟨rfl, hb1⟩
            replace okc := okc.below hb1; replace XC := XC.below hb1; replace XG := XG.below hb1; replace cXC0 := XC.c 0 rfl; replace cXC1 := XC.c 1 rfl; replace cXC2 := XC.c 2 rfl; replace cXG0 := XG.c 0 rfl; replace cXG1 := XG.c 1 rfl; replace cXG2 := XG.c 2 rfl; replace cXG3 := XG.c 3 rfl; replace hB := below_go hB hb1
            clear hb1
            go_wp2_with fail
            refine (law10_works _).mono ?_
            rintro e wz ⟨rfl, hbz⟩
            go_wp2
            go_ret
            exact ⟨rfl, below_go hB hbz⟩
        ·
          have hd2 : decide ((60 : Int) < ((decT (c.q.num.natAbs : Int)).length : Int)) = true := decide_eq_true (by omega)
          have hd3 : 60 < (decT (c.q.num.natAbs : Int)).length := by omega
          refine hm.mono ?_
          clear hm
          rintro e w36 ⟨rfl, hb1⟩
          replace okc := okc.below hb1; replace XC := XC.below hb1; replace XG := XG.below hb1; replace cXC0 := XC.c 0 rfl; replace cXC1 := XC.c 1 rfl; replace cXC2 := XC.c 2 rfl; replace cXG0 := XG.c 0 rfl; replace cXG1 := XG.c 1 rfl; replace cXG2 := XG.c 2 rfl; replace cXG3 := XG.c 3 rfl; replace hB := below_go hB hb1
          clear hb1
          go_wp2_with fail
          refine (law10_works _).mono ?_
          rintro e wz ⟨rfl, hbz⟩
          go_wp2
          go_ret
          exact ⟨rfl, below_go hB hbz⟩
      ·
        rw [hrd] at hm
        refine hm.mono ?_
        clear hm
        rintro e w37 ⟨c, rfl, hqc, hRc, okc, hb1⟩
        replace okc := okc.mono (ok' := fun _ => True) (fun _ _ _ => trivial)
        replace hB := below_go hB hb1
        clear hb1
        have HQC := Asd.mk hqc
        clear hqc
        replace okc := okc.alloc (.cells #[.bool c.n, .slice c.A c.l.length c.c, .slice c.A' c.d.length c.c'] 30); have XC := Blk.new w37 [.bool c.n, .slice c.A c.l.length c.c, .slice c.A' c.d.length c.c'] 30; replace hB := hB.alloc hB.size (.cells #[.bool c.n, .slice c.A c.l.length c.c, .slice c.A' c.d.length c.c'] 30)
        replace okc := okc.alloc (.cells #[.int .i64 1, .int .i64 0, .int .i64 0, .int .i64 at_] 35); replace XC := XC.alloc (.cells #[.int .i64 1, .int .i64 0, .int .i64 0, .int .i64 at_] 35); have XG := Blk.new (w37.alloc (.cells #[.bool c.n, .slice c.A c.l.length c.c, .slice c.A' c.d.length c.c'] 30)) [.int .i64 1, .int .i64 0, .int .i64 0, .int .i64 at_] 35; simp only [World.size_alloc] at XG; replace hB := hB.alloc hB.size (.cells #[.int .i64 1, .int .i64 0, .int .i64 0, .int .i64 at_] 35)
        have cXC0 := XC.c 0 rfl; have cXC1 := XC.c 1 rfl; have cXC2 := XC.c 2 rfl; have cXG0 := XG.c 0 rfl; have cXG1 := XG.c 1 rfl; have cXG2 := XG.c 2 rfl; have cXG3 := XG.c 3 rfl
        go_wp2_with fail
        generalize ((w37.alloc (.cells #[.bool c.n, .slice c.A c.l.length c.c, .slice c.A' c.d.length c.c'] 30)).alloc (.cells #[.int .i64 1, .int .i64 0, .int .i64 0, .int .i64 at_] 35)) = V2 at *
        have hlC := XC.lt
        generalize w37.heap.size = bc at *
        have hm := frac_Sign _ c V2 okc
        rw [HQC.out, show sgI (Rat.num 0) = 0 from rfl] at hm
        refine hm.mono ?_
        clear hm
        rintro e w38 ⟨rfl, hb1⟩
        replace okc := okc.below hb1; replace XC := XC.below hb1; replace XG := XG.below hb1; replace cXC0 := XC.c 0 rfl; replace cXC1 := XC.c 1 rfl; replace cXC2 := XC.c 2 rfl; replace cXG0 := XG.c 0 rfl; replace cXG1 := XG.c 1 rfl; replace cXG2 := XG.c 2 rfl; replace cXG3 := XG.c 3 rfl; replace hB := below_go hB hb1
        clear hb1
        go_wp2_with fail
        refine (law10_works _).mono ?_
        rintro e wz ⟨rfl, hbz⟩
        go_wp2
        go_ret
        exact ⟨rfl, below_go hB hbz⟩
      ·
        rw [hrd] at hm
        refine hm.mono ?_
        clear hm
        rintro e w39 ⟨c, rfl, hqc, hRc, okc, hb1⟩
        replace okc := okc.mono (ok' := fun _ => True) (fun _ _ _ => trivial)
        replace hB := below_go hB hb1
        clear hb1
        have HQC := Asd.mk hqc
        clear hqc
        replace okc := okc.alloc (.cells #[.bool c.n, .slice c.A c.l.length c.c, .slice c.A' c.d.length c.c'] 30); have XC := Blk.new w39 [.bool c.n, .slice c.A c.l.length c.c, .slice c.A' c.d.length c.c'] 30; replace hB := hB.alloc hB.size (.cells #[.bool c.n, .slice c.A c.l.length c.c, .slice c.A' c.d.length c.c'] 30)
        replace okc := okc.alloc (.cells #[.int .i64 2, .int .i64 0, .int .i64 0, .int .i64 at_] 35); replace XC := XC.alloc (.cells #[.int .i64 2, .int .i64 0, .int .i64 0, .int .i64 at_] 35); have XG := Blk.new (w39.alloc (.cells #[.bool c.n, .slice c.A c.l.length c.c, .slice c.A' c.d.length c.c'] 30)) [.int .i64 2, .int .i64 0, .int .i64 0, .int .i64 at_] 35; simp only [World.size_alloc] at XG; replace hB := hB.alloc hB.size (.cells #[.int .i64 2, .int .i64 0, .int .i64 0, .int .i64 at_] 35)
        have cXC0 := XC.c 0 rfl; have cXC1 := XC.c 1 rfl; have cXC2 := XC.c 2 rfl; have cXG0 := XG.c 0 rfl; have cXG1 := XG.c 1 rfl; have cXG2 := XG.c 2 rfl; have cXG3 := XG.c 3 rfl
        go_wp2_with fail
        generalize ((w39.alloc (.cells #[.bool c.n, .slice c.A c.l.length c.c, .slice c.A' c.d.length c.c'] 30)).alloc (.cells #[.int .i64 2, .int .i64 0, .int .i64 0, .int .i64 at_] 35)) = V2 at *
        have hlC := XC.lt
        generalize w39.heap.size = bc at *
        have hm := frac_Sign _ c V2 okc
        rw [HQC.out, show sgI (Rat.num 0) = 0 from rfl] at hm
        refine hm.mono ?_
        clear hm
        rintro e w40 ⟨rfl, hb1⟩
        replace okc := okc.below hb1; replace XC := XC.below hb1; replace XG := XG.below hb1; replace cXC0 := XC.c 0 rfl; replace cXC1 := XC.c 1 rfl; replace cXC2 := XC.c 2 rfl; replace cXG0 := XG.c 0 rfl; replace cXG1 := XG.c 1 rfl; replace cXG2 := XG.c 2 rfl; replace cXG3 := XG.c 3 rfl; replace hB := below_go hB hb1
        clear hb1
        go_wp2_with fail
        refine (law10_works _).mono ?_
        rintro e wz ⟨rfl, hbz⟩
        go_wp2
        go_ret
        exact ⟨rfl, below_go hB hbz⟩
  ·
    have he2 : decide (((decT (y.q.num.natAbs : Int)).length : Int) ≤ 60) = false := decide_eq_false (by omega)
    have he3 : ¬ (decT (y.q.num.natAbs : Int)).length ≤ 60 := hA
    refine hm.mono ?_
    clear hm
    rintro e w41 ⟨rfl, hb1⟩
    replace oky := oky.below hb1; replace XY := XY.below hb1; replace cXY0 := XY.c 0 rfl; replace cXY1 := XY.c 1 rfl; replace cXY2 := XY.c 2 rfl; replace hB := below_go hB hb1
    clear hb1
    go_wp2_with fail
    clear cXY0 cXY1 cXY2
    have hm := figure_Read l (by omega) w41
    rcases readF_cases l with ⟨q, hrd⟩ | ⟨at_, hrd⟩ | ⟨at_, hrd⟩
    ·
      rw [hrd] at hm
      refine hm.mono ?_
      clear hm
      rintro e w42 ⟨c, rfl, hqc, hRc, okc, hb1⟩
      replace okc := okc.mono (ok' := fun _ => True) (fun _ _ _ => trivial)
      replace hB := below_go hB hb1
      clear hb1
      have HQC := Asd.mk hqc
      clear hqc
      replace okc := okc.alloc (.cells #[.bool c.n, .slice c.A c.l.length c.c, .slice c.A' c.d.length c.c'] 30); have XC := Blk.new w42 [.bool c.n, .slice c.A c.l.length c.c, .slice c.A' c.d.length c.c'] 30; replace hB := hB.alloc hB.size (.cells #[.bool c.n, .slice c.A c.l.length c.c, .slice c.A' c.d.length c.c'] 30)
      replace okc := okc.alloc (.cells #[.int .i64 0, .int .i64 0, .int .i64 0, .int .i64 0] 35); replace XC := XC.alloc (.cells #[.int .i64 0, .int .i64 0, .int .i64 0, .int .i64 0] 35); have XG := Blk.new (w42.alloc (.cells #[.bool c.n, .slice c.A c.l.length c.c, .slice c.A' c.d.length c.c'] 30)) [.int .i64 0, .int .i64 0, .int .i64 0, .int .i64 0] 35; simp only [World.size_alloc] at XG; replace hB := hB.alloc hB.size (.cells #[.int .i64 0, .int .i64 0, .int .i64 0, .int .i64 0] 35)
      have cXC0 := XC.c 0 rfl; have cXC1 := XC.c 1 rfl; have cXC2 := XC.c 2 rfl; have cXG0 := XG.c 0 rfl; have cXG1 := XG.c 1 rfl; have cXG2 := XG.c 2 rfl; have cXG3 := XG.c 3 rfl
      go_wp2_with fail
      generalize ((w42.alloc (.cells #[.bool c.n, .slice c.A c.l.length c.c, .slice c.A' c.d.length c.c'] 30)).alloc (.cells #[.int .i64 0, .int .i64 0, .int .i64 0, .int .i64 0] 35)) = V2 at *
      have hlC := XC.lt
      generalize w42.heap.size = bc at *
      have hm := digits_Len _ c.A c.c c.l V2 okc.1 okc.2.1 (by have := okc.2.2.2.2; omega)
      rw [(rt_len hRc).1] at hm
      by_cases hC : (decT (c.q.num.natAbs : Int)).length ≤ 60
      ·
        have hd2 : decide ((60 : Int) < ((decT (c.q.num.natAbs : Int)).length : Int)) = false := decide_eq_false (by omega)
        have hd3 : ¬ 60 < (decT (c.q.num.natAbs : Int)).length := by omega
        refine hm.mono ?_
        clear hm
        rintro e w43 ⟨rfl, hb1⟩
        replace okc := okc.below hb1; replace XC := XC.below hb1; replace XG := XG.below hb1; replace cXC0 := XC.c 0 rfl; replace cXC1 := XC.c 1 rfl; replace cXC2 := XC.c 2 rfl; replace cXG0 := XG.c 0 rfl; replace cXG1 := XG.c 1 rfl; replace cXG2 := XG.c 2 rfl; replace cXG3 := XG.c 3 rfl; replace hB := below_go hB hb1
        clear hb1
        go_wp2_with fail
        have hm := digits_Len _ c.A' c.c' c.d w43 okc.2.2.1 okc.2.2.2.1 (by have := okc.2.2.2.2; omega)
        rw [(rt_len hRc).2] at hm
        by_cases hD : (decT (c.q.den : Int)).length ≤ 60
        ·
          have hd4 : decide ((60 : Int) < ((decT (c.q.den : Int)).length : Int)) = false := decide_eq_false (by omega)
          have hd5 : ¬ 60 < (decT (c.q.den : Int)).length := by omega
          refine hm.mono ?_
          clear hm
          rintro e w44 ⟨rfl, hb1⟩
          replace okc := okc.below hb1; replace XC := XC.below hb1; replace XG := XG.below hb1; replace cXC0 := XC.c 0 rfl; replace cXC1 := XC.c 1 rfl; replace cXC2 := XC.c 2 rfl; replace cXG0 := XG.c 0 rfl; replace cXG1 := XG.c 1 rfl; replace cXG2 := XG.c 2 rfl; replace cXG3 := XG.c 3 rfl; replace hB := below_go hB hb1
          clear hb1
          go_wp2_with fail
          have hm := figure_Text _ c w44 okc
          refine hm.mono ?_
          clear hm
          rintro e w45 ⟨rfl, hb1⟩
          replace okc := okc.below hb1; replace XC := XC.below hb1; replace XG := XG.below hb1; replace cXC0 := XC.c 0 rfl; replace cXC1 := XC.c 1 rfl; replace cXC2 := XC.c 2 rfl; replace cXG0 := XG.c 0 rfl; replace cXG1 := XG.c 1 rfl; replace cXG2 := XG.c 2 rfl; replace cXG3 := XG.c 3 rfl; replace hB := below_go hB hb1
          clear hb1
          go_wp2_with fail
          have hm := back_read hC hD w45
          refine hm.mono ?_
          clear hm
          rintro e w46 ⟨d, rfl, hqd, hRd, okd, hb1⟩
          have HQD := Asd.mk hqd
          clear hqd
          replace okd := okd.mono (ok' := fun _ => True) (fun _ _ _ => trivial)
          replace okc := okc.below hb1; replace XC := XC.below hb1; replace XG := XG.below hb1; replace cXC0 := XC.c 0 rfl; replace cXC1 := XC.c 1 rfl; replace cXC2 := XC.c 2 rfl; replace cXG0 := XG.c 0 rfl; replace cXG1 := XG.c 1 rfl; replace cXG2 := XG.c 2 rfl; replace cXG3 := XG.c 3 rfl; replace hB := below_go hB hb1
          clear hb1
          clear cXC0; clear cXC1; clear cXC2; clear cXG0; clear cXG1; clear cXG2; clear cXG3
          replace okc := okc.alloc (.cells #[.bool d.n, .slice d.A d.l.length d.c, .slice d.A' d.d.length d.c'] 30); replace XC := XC.alloc (.cells #[.bool d.n, .slice d.A d.l.length d.c, .slice d.A' d.d.length d.c'] 30); replace XG := XG.alloc (.cells #[.bool d.n, .slice d.A d.l.length d.c, .slice d.A' d.d.length d.c'] 30); replace okd := okd.alloc (.cells #[.bool d.n, .slice d.A d.l.length d.c, .slice d.A' d.d.length d.c'] 30); have XD := Blk.new w46 [.bool d.n, .slice d.A d.l.length d.c, .slice d.A' d.d.length d.c'] 30; replace hB := hB.alloc hB.size (.cells #[.bool d.n, .slice d.A d.l.length d.c, .slice d.A' d.d.length d.c'] 30)
          replace okc := okc.alloc (.cells #[.int .i64 0, .int .i64 0, .int .i64 0, .int .i64 0] 35); replace XC := XC.alloc (.cells #[.int .i64 0, .int .i64 0, .int .i64 0, .int .i64 0] 35); replace XG := XG.alloc (.cells #[.int .i64 0, .int .i64 0, .int .i64 0, .int .i64 0] 35); replace okd := okd.alloc (.cells #[.int .i64 0, .int .i64 0, .int .i64 0, .int .i64 0] 35); replace XD := XD.alloc (.cells #[.int .i64 0, .int .i64 0, .int .i64 0, .int .i64 0] 35); have XH := Blk.new (w46.alloc (.cells #[.bool d.n, .slice d.A d.l.length d.c, .slice d.A' d.d.length d.c'] 30)) [.int .i64 0, .int .i64 0, .int .i64 0, .int .i64 0] 35; simp only [World.size_alloc] at XH; replace hB := hB.alloc hB.size (.cells #[.int .i64 0, .int .i64 0, .int .i64 0, .int .i64 0] 35)
          have cXC0 := XC.c 0 rfl; have cXC1 := XC.c 1 rfl; have cXC2 := XC.c 2 rfl; have cXG0 := XG.c 0 rfl; have cXG1 := XG.c 1 rfl; have cXG2 := XG.c 2 rfl; have cXG3 := XG.c 3 rfl; have cXD0 := XD.c 0 rfl; have cXD1 := XD.c 1 rfl; have cXD2 := XD.c 2 rfl; have cXH0 := XH.c 0 rfl; have cXH1 := XH.c 1 rfl; have cXH2 := XH.c 2 rfl; have cXH3 := XH.c 3 rfl
          go_wp2_with fail
          generalize ((w46.alloc (.cells #[.bool d.n, .slice d.A d.l.length d.c, .slice d.A' d.d.length d.c'] 30)).alloc (.cells #[.int .i64 0, .int .i64 0, .int .i64 0, .int .i64 0] 35)) = V4 at *
          have hm := frac_Same _ _ c d V4 okc okd
          rw [HQD.out, decide_eq_true (show c.q = c.q from rfl)] at hm
          refine hm.mono ?_
          clear hm
          rintro e w47 ⟨rfl, hb1⟩
          replace okc := okc.below hb1; replace XC := XC.below hb1; replace XG := XG.below hb1; replace okd := okd.below hb1; replace XD := XD.below hb1; replace XH := XH.below hb1; replace cXC0 := XC.c 0 rfl; replace cXC1 := XC.c 1 rfl; replace cXC2 := XC.c 2 rfl; replace cXG0 := XG.c 0 rfl; replace cXG1 := XG.c 1 rfl; replace cXG2 := XG.c 2 rfl; replace cXG3 := XG.c 3 rfl; replace cXD0 := XD.c 0 rfl; replace cXD1 := XD.c 1 rfl; replace cXD2 := XD.c 2 rfl; replace cXH0 := XH.c 0 rfl; replace cXH1 := XH.c 1 rfl; replace cXH2 := XH.c 2 rfl; replace cXH3 := XH.c 3 rfl; replace hB := below_go hB hb1
          clear hb1
          go_wp2_with fail
          refine (law10_works _).mono ?_
          rintro e wz ⟨rfl, hbz⟩
          go_wp2
          go_ret
          exact ⟨rfl, below_go hB hbz⟩
        ·
          have hd4 : decide ((60 : Int) < ((decT (c.q.den : Int)).length : Int)) = true := decide_eq_true (by omega)
          have hd5 : 60 < (decT (c.q.den : Int)).length := by omega
          refine hm.mono ?_
          clear hm
          rintro e w48 ⟨rfl, hb1⟩
          replace okc := okc.below hb1; replace XC := XC.below hb1; replace XG := XG.below hb1; replace cXC0 := XC.c 0 rfl; replace cXC1 := XC.c 1 rfl; replace cXC2 := XC.c 2 rfl; replace cXG0 := XG.c 0 rfl; replace cXG1 := XG.c 1 rfl; replace cXG2 := XG.c 2 rfl; replace cXG3 := XG.c 3 rfl; replace hB := below_go hB hb1
          clear hb1
          go_wp2_with fail
          refine (law10_works _).mono ?_
          rintro e wz ⟨rfl, hbz⟩
          go_wp2
          go_ret
          exact ⟨rfl, below_go hB hbz⟩
      ·
        have hd2 : decide ((60 : Int) < ((decT (c.q.num.natAbs : Int)).length : Int)) = true := decide_eq_true (by omega)
        have hd3 : 60 < (decT (c.q.num.natAbs : Int)).length := by omega
        refine hm.mono ?_
        clear hm
        rintro e w49 ⟨rfl, hb1⟩
        replace okc := okc.below hb1; replace XC := XC.below hb1; replace XG := XG.below hb1; replace cXC0 := XC.c 0 rfl; replace cXC1 := XC.c 1 rfl; replace cXC2 := XC.c 2 rfl; replace cXG0 := XG.c 0 rfl; replace cXG1 := XG.c 1 rfl; replace cXG2 := XG.c 2 rfl; replace cXG3 := XG.c 3 rfl; replace hB := below_go hB hb1
        clear hb1
        go_wp2_with fail
        refine (law10_works _).mono ?_
        rintro e wz ⟨rfl, hbz⟩
        go_wp2
        go_ret
        exact ⟨rfl, below_go hB hbz⟩
    ·
      rw [hrd] at hm
      refine hm.mono ?_
      clear hm
      rintro e w50 ⟨c, rfl, hqc, hRc, okc, hb1⟩
      replace okc := okc.mono (ok' := fun _ => True) (fun _ _ _ => trivial)
      replace hB := below_go hB hb1
      clear hb1
      have HQC := Asd.mk hqc
      clear hqc
      replace okc := okc.alloc (.cells #[.bool c.n, .slice c.A c.l.length c.c, .slice c.A' c.d.length c.c'] 30); have XC := Blk.new w50 [.bool c.n, .slice c.A c.l.length c.c, .slice c.A' c.d.length c.c'] 30; replace hB := hB.alloc hB.size (.cells #[.bool c.n, .slice c.A c.l.length c.c, .slice c.A' c.d.length c.c'] 30)
      replace okc := okc.alloc (.cells #[.int .i64 1, .int .i64 0, .int .i64 0, .int .i64 at_] 35); replace XC := XC.alloc (.cells #[.int .i64 1, .int .i64 0, .int .i64 0, .int .i64 at_] 35); have XG := Blk.new (w50.alloc (.cells #[.bool c.n, .slice c.A c.l.length c.c, .slice c.A' c.d.length c.c'] 30)) [.int .i64 1, .int .i64 0, .int .i64 0, .int .i64 at_] 35; simp only [World.size_alloc] at XG; replace hB := hB.alloc hB.size (.cells #[.int .i64 1, .int .i64 0, .int .i64 0, .int .i64 at_] 35)
      have cXC0 := XC.c 0 rfl; have cXC1 := XC.c 1 rfl; have cXC2 := XC.c 2 rfl; have cXG0 := XG.c 0 rfl; have cXG1 := XG.c 1 rfl; have cXG2 := XG.c 2 rfl; have cXG3 := XG.c 3 rfl
      go_wp2_with fail
      generalize ((w50.alloc (.cells #[.bool c.n, .slice c.A c.l.length c.c, .slice c.A' c.d.length c.c'] 30)).alloc (.cells #[.int .i64 1, .int .i64 0, .int .i64 0, .int .i64 at_] 35)) = V2 at *
      have hlC := XC.lt
      generalize w50.heap.size = bc at *
      have hm := frac_Sign _ c V2 okc
      rw [HQC.out, show sgI (Rat.num 0) = 0 from rfl] at hm
      refine hm.mono ?_
      clear hm
      rintro e w51 ⟨rfl, hb1⟩
      replace okc := okc.below hb1; replace XC := XC.below hb1; replace XG := XG.below hb1; replace cXC0 := XC.c 0 rfl; replace cXC1 := XC.c 1 rfl; replace cXC2 := XC.c 2 rfl; replace cXG0 := XG.c 0 rfl; replace cXG1 := XG.c 1 rfl; replace cXG2 := XG.c 2 rfl; replace cXG3 := XG.c 3 rfl; replace hB := below_go hB hb1
      clear hb1
      go_wp2_with fail
      refine (law10_works _).mono ?_
      rintro e wz ⟨rfl, hbz⟩
      go_wp2
      go_ret
      exact ⟨rfl, below_go hB hbz⟩
    ·
      rw [hrd] at hm
      refine hm.mono ?_
      clear hm
      rintro e w52 ⟨c, rfl, hqc, hRc, okc, hb1⟩
      replace okc := okc.mono (ok' := fun _ => True) (fun _ _ _ => trivial)
      replace hB := below_go hB hb1
      clear hb1
      have HQC := Asd.mk hqc
      clear hqc
      replace okc := okc.alloc (.cells #[.bool c.n, .slice c.A c.l.length c.c, .slice c.A' c.d.length c.c'] 30); have XC := Blk.new w52 [.bool c.n, .slice c.A c.l.length c.c, .slice c.A' c.d.length c.c'] 30; replace hB := hB.alloc hB.size (.cells #[.bool c.n, .slice c.A c.l.length c.c, .slice c.A' c.d.length c.c'] 30)
      replace okc := okc.alloc (.cells #[.int .i64 2, .int .i64 0, .int .i64 0, .int .i64 at_] 35); replace XC := XC.alloc (.cells #[.int .i64 2, .int .i64 0, .int .i64 0, .int .i64 at_] 35); have XG := Blk.new (w52.alloc (.cells #[.bool c.n, .slice c.A c.l.length c.c, .slice c.A' c.d.length c.c'] 30)) [.int .i64 2, .int .i64 0, .int .i64 0, .int .i64 at_] 35; simp only [World.size_alloc] at XG; replace hB := hB.alloc hB.size (.cells #[.int .i64 2, .int .i64 0, .int .i64 0, .int .i64 at_] 35)
      have cXC0 := XC.c 0 rfl; have cXC1 := XC.c 1 rfl; have cXC2 := XC.c 2 rfl; have cXG0 := XG.c 0 rfl; have cXG1 := XG.c 1 rfl; have cXG2 := XG.c 2 rfl; have cXG3 := XG.c 3 rfl
      go_wp2_with fail
      generalize ((w52.alloc (.cells #[.bool c.n, .slice c.A c.l.length c.c, .slice c.A' c.d.length c.c'] 30)).alloc (.cells #[.int .i64 2, .int .i64 0, .int .i64 0, .int .i64 at_] 35)) = V2 at *
      have hlC := XC.lt
      generalize w52.heap.size = bc at *
      have hm := frac_Sign _ c V2 okc
      rw [HQC.out, show sgI (Rat.num 0) = 0 from rfl] at hm
      refine hm.mono ?_
      clear hm
      rintro e w53 ⟨rfl, hb1⟩
      replace okc := okc.below hb1; replace XC := XC.below hb1; replace XG := XG.below hb1; replace cXC0 := XC.c 0 rfl; replace cXC1 := XC.c 1 rfl; replace cXC2 := XC.c 2 rfl; replace cXG0 := XG.c 0 rfl; replace cXG1 := XG.c 1 rfl; replace cXG2 := XG.c 2 rfl; replace cXG3 := XG.c 3 rfl; replace hB := below_go hB hb1
      clear hb1
      go_wp2_with fail
      refine (law10_works _).mono ?_
      rintro e wz ⟨rfl, hbz⟩
      go_wp2
      go_ret
      exact ⟨rfl, below_go hB hbz⟩
end Go.Proofs.YthjpkichpkomcaaGreatDoor
