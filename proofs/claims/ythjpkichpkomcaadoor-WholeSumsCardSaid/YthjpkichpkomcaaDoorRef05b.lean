/- The document's answer for layer 5: quotients, bit by bit (retrospectref05.Div). -/
import Derived.Test.YthjpkichpkomcaaDoorRef05
import Derived.Outline
import Derived.Deep.RegionHeld3
import Derived.WalkLawsBesides
namespace Go.Proofs.YthjpkichpkomcaaDoor
open Go.RowKit Go.Proofs.YthjpkichpkomcaaDoor.Big
set_option linter.unusedVariables false
set_option maxRecDepth 100000

theorem bit_more {v : Int} (m : Nat) : v / 2 ^ m = 2 * (v / 2 ^ (m + 1)) + (if bitI v m then 1 else 0) := by
  have h1 : v / 2 ^ (m + 1) = v / 2 ^ m / 2 := by rw [Int.pow_succ, Int.ediv_ediv_of_nonneg (Int.pow_nonneg (by decide))]
  rw [h1]
  unfold bitI
  generalize v / 2 ^ m = x
  by_cases h : x % 2 = 1
  · rw [decide_eq_true h, if_pos rfl]; omega
  · rw [decide_eq_false h, if_neg (by decide)]; omega
theorem div_bit {q r d v v' b : Int} (h : q * d + r = v) (hv : v' = 2 * v + b) : 2 * q * d + (2 * r + b) = v' := by
  rw [hv, ← h]; grind
theorem div_bit1 {q r d v v' b : Int} (h : q * d + r = v) (hv : v' = 2 * v + b) : (2 * q + 1) * d + (2 * r + b - d) = v' := by
  rw [hv, ← h]; grind
theorem div_q_lt {q r d v P : Int} (h : 2 * q * d + r = v) (hr : 0 ≤ r) (hq : 0 ≤ q) (hd : 0 < d) (hv : v < P) : 2 * q < P := by
  have h1 : 2 * q * 1 ≤ 2 * q * d := Int.mul_le_mul_of_nonneg_left hd (by omega)
  omega
theorem div_fin {q r d v : Int} (h : q * d + r = v) (h0 : 0 ≤ r) (h1 : r < d) : v / d = q ∧ v % d = r := by
  have hd : 0 < d := by omega
  rw [Int.mul_comm] at h
  exact Int.ediv_emod_unique hd |>.2 ⟨by omega, h0, h1⟩
theorem ediv_pow_le {v : Int} (m : Nat) (h : 0 ≤ v) : v / 2 ^ m ≤ v := Int.ediv_le_self _ h

set_option maxHeartbeats 4000000 in
theorem ref05_Div (ok ok' : Nat → Prop) (A A' : Option Addr) (c c' : Nat) (l l' : List Int) (w : World) (h : Rd ok w A l) (h' : Rd ok' w A' l') (hbig : l.length < 100000000) (hbig' : l'.length < 100000000) (hpos : 0 < val l') :
    Calls Tryd.prog 50 #[.slice A l.length c, .slice A' l'.length c'] w fun e w' => ∃ A1 c1 A2 c2, e = .returned (.tuple #[.slice A1 (rep (val l / val l')).length c1, .slice A2 (rep (val l % val l')).length c2]) ∧ (rep (val l / val l')).length ≤ c1 ∧ (rep (val l % val l')).length ≤ c2 ∧ Rd (fun k => w.heap.size ≤ k) w' A1 (rep (val l / val l')) ∧ Rd (fun k => w.heap.size ≤ k) w' A2 (rep (val l % val l')) ∧ Below w.heap.size w w' := by
  obtain ⟨hmk, how⟩ := make_u32 w l.length (by omega)
  obtain ⟨hmk2, how2⟩ := make_u32 (w.alloc (.cells (madeCells #[.int .u32 0] l.length) 84)) (l'.length + 1) (by omega)
  rw [show ((l'.length + 1 : Nat) : Int) = (l'.length : Int) + 1 by omega] at hmk2
  simp only [World.size_alloc] at hmk2 how2
  replace how := how.alloc (.cells (madeCells #[.int .u32 0] (l'.length + 1)) 84)
  have hr := ((h.mono (ok' := fun k => k < w.heap.size) (fun k hk _ => hk)).alloc (.cells (madeCells #[.int .u32 0] l.length) 84)).alloc (.cells (madeCells #[.int .u32 0] (l'.length + 1)) 84)
  have hr' := ((h'.mono (ok' := fun k => k < w.heap.size) (fun k hk _ => hk)).alloc (.cells (madeCells #[.int .u32 0] l.length) 84)).alloc (.cells (madeCells #[.int .u32 0] (l'.length + 1)) 84)
  have hb0 : Below w.heap.size w ((w.alloc (.cells (madeCells #[.int .u32 0] l.length) 84)).alloc (.cells (madeCells #[.int .u32 0] (l'.length + 1)) 84)) := ((Below.refl _ _).alloc (Nat.le_refl _) _).alloc (by simp) _
  have HOW := Asd.mk how; have HOW2 := Asd.mk how2
  have HR := Asd.mk hr; have HR' := Asd.mk hr'; have HB0 := Asd.mk hb0
  have HPOS := Asd.mk hpos
  have HVL := Asd.mk (And.intro (val_nonneg h.wd) (val_lt h.wd))
  have HVB := Asd.mk (val_lt h'.wd)
  clear how how2 hr hr' hb0 h h' hpos
  go_enter Tryd.func50, Tryd.ntmps50
  go_wp2_with fail
  generalize (w.alloc (.cells (madeCells #[.int .u32 0] l.length) 84)).alloc (.cells (madeCells #[.int .u32 0] (l'.length + 1)) 84) = W at *
  clear hmk hmk2
  refine (ref03_Len _ A c l _ HR.out (by omega)).mono ?_
  rintro e w1 ⟨rfl, n, rfl, hn, hvn⟩
  have HVN := Asd.mk hvn
  clear hvn
  go_wp2
  go_loopw [8] (fun i wr => ∃ (j : Nat) (q r : List Int), j ≤ n ∧ i = .int .i64 ((j : Int) - 1) ∧ Asd (Ow wr w.heap.size l.length q) ∧ Asd (q.length = l.length) ∧ Asd (Ow wr (w.heap.size + 1) (l'.length + 1) r) ∧ Asd (r.length = l'.length + 1) ∧ Asd (val q * val l' + val r = val l / 2 ^ j) ∧ Asd (val r < val l') ∧ Asd (Rd (fun k => k < w.heap.size) wr A l) ∧ Asd (Rd (fun k => k < w.heap.size) wr A' l') ∧ Asd (Below w.heap.size w wr)) (fun i _ => (intOf i + 1).toNat)
  case atStart =>
    refine ⟨n, _, _, Nat.le_refl _, rfl, HOW, ⟨by simp⟩, HOW2, ⟨by simp⟩, ⟨?_⟩, ⟨by rw [val_replicate]; exact HPOS.out⟩, HR, HR', HB0⟩
    rw [val_replicate, val_replicate, Int.ediv_eq_zero_of_lt HVL.out.1 HVN.out, Int.zero_mul]; rfl
  case round =>
    obtain ⟨j, q, r, hj, rfl, HQ, HQL, HRR, HRL, HV, HLT, HX, HY, HBW⟩ := hrel
    by_cases hj0 : j = 0
    · subst hj0
      have hfin := div_fin (show val q * val l' + val r = val l by have := HV.out; simpa using this) (val_nonneg HRR.out.wd) HLT.out
      have hN := ref02_Norm (fun _ => True) (some ⟨w.heap.size, 0, none⟩) l.length q wr (HQ.out.rd trivial) (by rw [HQL.out]; exact Nat.le_refl _) (by have := HQL.out; omega)
      rw [← hfin.1, HQL.out] at hN
      have HN := Asd.mk hN
      clear hN
      go_wp2_with fail
      refine HN.out.mono ?_
      rintro e w1 ⟨A1, c1, rfl, hc1, hr1, hb1⟩
      have hN := ref02_Norm (fun _ => True) (some ⟨w.heap.size + 1, 0, none⟩) (l'.length + 1) r w1 ((HRR.out.below hb1).rd trivial) (by rw [HRL.out]; exact Nat.le_refl _) (by have := HRL.out; omega)
      rw [← hfin.2, HRL.out] at hN
      have HN2 := Asd.mk hN
      clear hN hfin
      go_wp2_with fail
      refine HN2.out.mono ?_
      rintro e w2 ⟨A2, c2, rfl, hc2, hr2, hb2⟩
      have hbs := HBW.out.size
      have hbs1 := hb1.size
      go_wp2
      go_ret2
      exact ⟨_, _, _, _, rfl, hc1, hc2, (hr1.below hb2).mono (fun k _ hk => Nat.le_trans hbs hk), hr2.mono (fun k _ hk => by omega), below_go (below_go HBW.out hb1) hb2⟩
    · have e : (j : Int) - 1 = ((j - 1 : Nat) : Int) := by omega
      rw [e]
      have hj1 : j = j - 1 + 1 := by omega
      generalize hjm : j - 1 = m at *
      subst hj1
      obtain ⟨mj, hmj⟩ : ∃ mj : Nat, m / 32 = mj := ⟨_, rfl⟩
      obtain ⟨mr, hmr⟩ : ∃ mr : Nat, m % 32 = mr := ⟨_, rfl⟩
      have hml : mj < l.length := by omega
      have hm32 : mr < 32 := by omega
      obtain ⟨ad, x, rfl, ho, hcell, hx0, hx1, HX1⟩ := HX.out.el mj hml
      have HB : Asd (bitI (val l) m = (x / 2 ^ mr % 2 == 1)) := ⟨by unfold bitI; rw [word_bit HX.out.wd, hmj, HX1.out, hmr]; rfl⟩
      have hp0 := two_pow_pos mr
      have hp1 := two_pow_le hm32
      have hq1 : IntKind.i64.wrap ((m : Int) / 32) = (mj : Int) := by rw [IntWalk.i64_in _ (by omega)]; omega
      have hq2 : (m : Int).tmod 32 = (mr : Int) := by rw [IntWalk.rem_in _ _ (by omega)]; omega
      have hj0 : (0 : Int) ≤ (mj : Int) := by omega
      have hj1 : (mj : Int) < (l.length : Int) := by omega
      have hr0 : (0 : Int) ≤ (mr : Int) := by omega
      have hr1 : (mr : Int) ≤ 32 := by omega
      have hs1 : IntKind.u32.wrap (2 ^ mr) = 2 ^ mr := by rw [IntKind.wrap_u32]; omega
      generalize hpe : (2 : Int) ^ mr = p at *
      have hne : (p == 0) = false := by simp; omega
      have hs2 : IntKind.u32.wrap (x.tdiv p) = x / p := IntWalk.u32_quo _ _ (by omega)
      have hne2 : ¬ (p = 0) := by omega
      have hs4 : IntKind.u32.wrap (x / p) = x / p := IntWalk.u32_in _ (by have := Int.ediv_nonneg hx0 (show 0 ≤ p by omega); have := Int.ediv_le_self p hx0; omega)
      have hs3 : (x / p).tmod 2 = x / p % 2 := IntWalk.rem_in _ _ (Int.ediv_nonneg hx0 (by omega))
      generalize hbv : (x / p % 2 == 1) = bv at *
      have HBV := Asd.mk HB.out
      obtain ⟨bi, hbi⟩ : ∃ bi : Int, bi = if bv then 1 else 0 := ⟨_, rfl⟩
      have hbi2 : 0 ≤ bi ∧ bi ≤ 1 := by rw [hbi]; cases bv <;> simp
      have hmore := bit_more (v := val l) m
      rw [HB.out, ← hbi] at hmore
      have HR1 := Asd.mk (val_nonneg HRR.out.wd)
      have HQ1 := Asd.mk (val_nonneg HQ.out.wd)
      have hdb := ref05_Double (w.heap.size + 1) (l'.length + 1) r bv wr.drew (HRR.out.drewN 1) (by have := HRL.out; omega) (by
        rw [← hbi, HRL.out, pw_succ]
        have h1 := HLT.out; have h2 := HVB.out; have h3 := HR1.out; omega)
      rw [HRL.out, ← hbi] at hdb
      have HDB := Asd.mk hdb
      have HM := Asd.mk hmore
      clear e hj0 hjm hdb hmore hbi HRR
      go_wp2
      have HDV := Asd.mk (div_bit HV.out HM.out)
      have HQLT : Asd (2 * val q + 0 < pw l.length) := ⟨by
        have h1 := div_q_lt HDV.out (by have := HR1.out; omega) HQ1.out HPOS.out (Int.lt_of_le_of_lt (ediv_pow_le m HVL.out.1) HVL.out.2)
        omega⟩
      go_region_held3 (fun w' => w'.cell? (ad.add mj) = some (.int .u32 x)) (go_keep) ((go_at_call 77; refine HDB.out.mono ?_; rintro e w2 ⟨r1, rfl, hr1o, hr1l, hr1v, hr1g⟩; have hcx2 := ((HX.out.drewN 1).grown hr1g (by omega)).cell mj hml; rw [HX1.out] at hcx2))
      have HQ2 := Asd.mk ((HQ.out.drewN 1).grown hr1g (by omega))
      have HX2 := Asd.mk ((HX.out.drewN 1).grown hr1g (by omega))
      have HY2 := Asd.mk ((HY.out.drewN 1).grown hr1g (by omega))
      have HB2 := Asd.mk ((below_drewN HBW.out 1).grown hr1g (by have := HBW.out.size; simpa using this) (fun k hk => by injection hk with hk; omega))
      have HR2 := Asd.mk (And.intro hr1o (And.intro hr1l hr1v))
      clear hr1o hr1l hr1v hr1g HQ HX HY HBW HDB hcell
      have hdq := ref05_Double w.heap.size l.length q false w2 HQ2.out (by have := HQL.out; omega) (by rw [HQL.out]; exact HQLT.out)
      rw [HQL.out] at hdq
      have HDQ := Asd.mk hdq
      clear hdq
      go_wp2_with fail
      refine HDQ.out.mono ?_
      rintro e w3 ⟨q1, rfl, hq1o, hq1l, hq1v, hq1g⟩
      have hr1l := HR2.out.2.1
      have hcm := ref02_Cmp (fun _ => True) (fun _ => True) (some ⟨w.heap.size + 1, 0, none⟩) A' (l'.length + 1) c' r1 l' w3 ((HR2.out.1.grown hq1g (by omega)).rd trivial) ((HY2.out.grown hq1g (by omega)).mono (fun _ _ _ => trivial)) (by omega) (by omega)
      rw [hr1l] at hcm
      have HCM := Asd.mk hcm
      have HR3 := Asd.mk (And.intro (HR2.out.1.grown hq1g (by omega)) (HR2.out.2))
      have HX3 := Asd.mk (HX2.out.grown hq1g (by omega))
      have HY3 := Asd.mk (HY2.out.grown hq1g (by omega))
      have HB3 := Asd.mk (HB2.out.grown hq1g (by have := HB2.out.size; simpa using this) (fun k hk => by injection hk with hk; omega))
      have HQ3 := Asd.mk (And.intro hq1o (And.intro hq1l (show val q1 = 2 * val q by rw [hq1v]; simp)))
      clear hq1o hq1l hq1v hq1g hcm hr1l HR2 HX2 HY2 HB2 HQ2 HDQ
      go_wp2_with fail
      refine HCM.out.mono ?_
      rintro e w4 ⟨rfl, rfl⟩
      by_cases hge : val l' ≤ val r1
      · have hcv : 0 ≤ cmpI (val r1) (val l') := by unfold cmpI; rw [if_neg (by omega)]; split <;> omega
        generalize cmpI (val r1) (val l') = cv at *
        have hls := ref05_Less (w.heap.size + 1) (l'.length + 1) r1 (fun k => k < w.heap.size) A' c' l' w3 HR3.out.1 HY3.out (by omega) (by have := HR3.out.2.1; omega) hge
        rw [HR3.out.2.1] at hls
        have HLS := Asd.mk hls
        have HGE := Asd.mk hge
        clear hls hge
        go_wp2_with fail
        refine HLS.out.mono ?_
        rintro e w5 ⟨r2, rfl, hr2o, hr2l, hr2v, hr2g⟩
        have HQ5 := Asd.mk (HQ3.out.1.grown hr2g (by omega))
        have HX5 := Asd.mk (HX3.out.grown hr2g (by omega))
        have HY5 := Asd.mk (HY3.out.grown hr2g (by omega))
        have HB5 := Asd.mk (HB3.out.grown hr2g (by have := HB3.out.size; simpa using this) (fun k hk => by injection hk with hk; omega))
        have HR5 := Asd.mk (And.intro hr2o (And.intro hr2l hr2v))
        have hl0 : 0 < l.length := by omega
        obtain ⟨z, hcz, hz0, hz1, HZ⟩ := HQ5.out.el 0 (by have := HQ3.out.2.1; omega)
        have hfr := HQ5.out.free 0
        have hzev : z % 2 = 0 := by
          have h1 := val_drop q1 0 (by have := HQ3.out.2.1; omega)
          rw [List.drop_zero, HQ3.out.2.2, HZ.out] at h1
          omega
        clear hr2o hr2l hr2v hr2g HLS HQ1
        go_wp2
        go_roundw
        case rel =>
          refine ⟨m, q1.set 0 (z + 1), r2, by omega, by go_num, ⟨HQ5.out.set 0 (by omega) (by omega)⟩, ⟨by rw [List.length_set, HQ3.out.2.1]⟩, ⟨HR5.out.1.setCell (by simp) _⟩, ⟨HR5.out.2.1⟩, ⟨?_⟩, ⟨?_⟩, ⟨HX5.out.setCell (by simp) _⟩, ⟨HY5.out.setCell (by simp) _⟩, ⟨HB5.out.setCell (by simp) _⟩⟩
          · rw [val_set q1 0 _ (by have := HQ3.out.2.1; omega), HZ.out, HQ3.out.2.2, HR5.out.2.2, HR3.out.2.2, pw_zero, show 2 * val q + 1 * (z + 1 - z) = 2 * val q + 1 by omega]
            exact div_bit1 HV.out HM.out
          · have h1 := HLT.out
            rw [HR5.out.2.2, HR3.out.2.2]; omega
        case measure => simp [intOf]
      · have hcv : cmpI (val r1) (val l') < 0 := by unfold cmpI; rw [if_pos (by omega)]; decide
        generalize cmpI (val r1) (val l') = cv at *
        have HGE := Asd.mk hge
        clear hge
        go_wp2
        go_roundw
        case rel =>
          refine ⟨m, q1, r1, by omega, by go_num, ⟨HQ3.out.1⟩, ⟨HQ3.out.2.1⟩, ⟨HR3.out.1⟩, ⟨HR3.out.2.1⟩, ⟨?_⟩, HGE, HX3, HY3, HB3⟩
          rw [HQ3.out.2.2, HR3.out.2.2]
          exact HDV.out
        case measure => simp [intOf]
end Go.Proofs.YthjpkichpkomcaaDoor
