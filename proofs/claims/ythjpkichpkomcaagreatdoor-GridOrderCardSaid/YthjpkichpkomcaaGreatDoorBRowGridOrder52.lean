/- GOrder -/
import Derived.Test.YthjpkichpkomcaaGreatDoorBRowGridOrder46
import Derived.Test.YthjpkichpkomcaaGreatDoorBRowGridOrder48
import Derived.Test.YthjpkichpkomcaaGreatDoorBRowGridOrder51
/- The law GridOrder, walked. -/
namespace Go.Proofs.YthjpkichpkomcaaGreatDoor
open Go.RowKit Go.Proofs.YthjpkichpkomcaaGreatDoor.Big
set_option linter.unusedVariables false
set_option maxRecDepth 100000
attribute [local go_sem ↓] Go.wp_at_zero Go.wp_at_succ


set_option maxHeartbeats 4000000 in
theorem law_GridOrder (A : Option Addr) (c : Nat) (a : List (RV RC)) (A' : Option Addr) (c' : Nat) (b : List (RV RC)) (A2 : Option Addr) (c2 : Nat) (r : List RC) (w : World) (ha : Rw (fun _ => True) w A a) (hca : a.length ≤ c) (hb : Rw (fun _ => True) w A' b) (hcb : b.length ≤ c') (hr : Rw (fun _ => True) w A2 r) (hcr : r.length ≤ c2) :
    Calls Tryz.prog 8 #[.slice A a.length c, .slice A' b.length c', .slice A2 r.length c2] w fun e w' => e = .returned (.bool true) ∧ Below w.heap.size w w' := by
  have hB := Below.refl w.heap.size w
  go_enter Tryz.func8, Tryz.ntmps8
  by_cases hG : longM 4 2 a = true
  · have hm := ref12_Long _ A c a 4 2 _ ha hca (by decide)
    rw [hG] at hm
    go_wp2_with fail
    refine hm.mono ?_
    rintro e w1 ⟨rfl, hb1⟩
    replace ha := ha.below hb1; replace hb := hb.below hb1; replace hr := hr.below hb1; replace hB := below_go hB hb1
    go_wp2_with fail
    refine (law12_works _).mono ?_
    rintro e wz ⟨rfl, hbz⟩
    go_wp2
    go_ret
    exact ⟨rfl, below_go hB hbz⟩
  replace hG : longM 4 2 a = false := by simpa using hG
  have hm := ref12_Long _ A c a 4 2 _ ha hca (by decide)
  rw [hG] at hm
  go_wp2_with fail
  refine hm.mono ?_
  rintro e w1 ⟨rfl, hb1⟩
  replace ha := ha.below hb1; replace hb := hb.below hb1; replace hr := hr.below hb1; replace hB := below_go hB hb1
  clear hm
  have HLA := Asd.mk hG
  clear hG
  by_cases hG : longM 4 2 b = true
  · have hm := ref12_Long _ A' c' b 4 2 _ hb hcb (by decide)
    rw [hG] at hm
    go_wp2_with fail
    refine hm.mono ?_
    rintro e w1 ⟨rfl, hb1⟩
    replace ha := ha.below hb1; replace hb := hb.below hb1; replace hr := hr.below hb1; replace hB := below_go hB hb1
    go_wp2_with fail
    refine (law12_works _).mono ?_
    rintro e wz ⟨rfl, hbz⟩
    go_wp2
    go_ret
    exact ⟨rfl, below_go hB hbz⟩
  replace hG : longM 4 2 b = false := by simpa using hG
  have hm := ref12_Long _ A' c' b 4 2 _ hb hcb (by decide)
  rw [hG] at hm
  go_wp2_with fail
  refine hm.mono ?_
  rintro e w1 ⟨rfl, hb1⟩
  replace ha := ha.below hb1; replace hb := hb.below hb1; replace hr := hr.below hb1; replace hB := below_go hB hb1
  clear hm
  have HLB := Asd.mk hG
  clear hG
  by_cases hG : longR 4 2 r = true
  · have hm := ref11_Long _ A2 c2 r 4 2 _ hr hcr (by decide)
    rw [hG] at hm
    go_wp2_with fail
    refine hm.mono ?_
    rintro e w1 ⟨rfl, hb1⟩
    replace ha := ha.below hb1; replace hb := hb.below hb1; replace hr := hr.below hb1; replace hB := below_go hB hb1
    go_wp2_with fail
    refine (law12_works _).mono ?_
    rintro e wz ⟨rfl, hbz⟩
    go_wp2
    go_ret
    exact ⟨rfl, below_go hB hbz⟩
  replace hG : longR 4 2 r = false := by simpa using hG
  have hm := ref11_Long _ A2 c2 r 4 2 _ hr hcr (by decide)
  rw [hG] at hm
  go_wp2_with fail
  refine hm.mono ?_
  rintro e w1 ⟨rfl, hb1⟩
  replace ha := ha.below hb1; replace hb := hb.below hb1; replace hr := hr.below hb1; replace hB := below_go hB hb1
  clear hm
  have HLR := Asd.mk hG
  clear hG
  obtain ⟨hxa, hla, hwa, hsa⟩ := rw_in ha HLA.out (by decide) (by decide)
  obtain ⟨hxb, hlb, hwb, hsb⟩ := rw_in hb HLB.out (by decide) (by decide)
  obtain ⟨hxr, hlr, hsr⟩ := rw_in1 hr HLR.out (by decide) (by decide)
  have eX : (a.map rvx).length = a.length := List.length_map ..
  have eY : (b.map rvx).length = b.length := List.length_map ..
  have eR : (r.map RC.x).length = r.length := List.length_map ..
  generalize a.map rvx = X at *
  generalize b.map rvx = Y at *
  generalize r.map RC.x = R at *
  have hcX : X.length ≤ c := by omega
  have hcY : Y.length ≤ c' := by omega
  have hcR : R.length ≤ c2 := by omega
  have HWA := Asd.mk hwa; have HWB := Asd.mk hwb; have HSA := Asd.mk hsa; have HSB := Asd.mk hsb; have HSR := Asd.mk hsr
  rw [← eX, ← eY, ← eR]
  clear HLA HLB HLR ha hb hr hwa hwb hsa hsb hsr eX eY eR hca hcb hcr
  by_cases hG : rightM X = false
  · have hm := ref12_Right _ A c X _ hxa hcX (by omega)
    rw [hG] at hm
    go_wp2_with fail
    refine hm.mono ?_
    rintro e w1 ⟨rfl, hb1⟩
    replace hxa := hxa.below hb1; replace hxb := hxb.below hb1; replace hxr := hxr.below hb1; replace hB := below_go hB hb1
    go_wp2_with fail
    refine (law12_works _).mono ?_
    rintro e wz ⟨rfl, hbz⟩
    go_wp2
    go_ret
    exact ⟨rfl, below_go hB hbz⟩
  replace hG : rightM X = true := by simpa using hG
  have hm := ref12_Right _ A c X _ hxa hcX (by omega)
  rw [hG] at hm
  go_wp2_with fail
  refine hm.mono ?_
  rintro e w1 ⟨rfl, hb1⟩
  replace hxa := hxa.below hb1; replace hxb := hxb.below hb1; replace hxr := hxr.below hb1; replace hB := below_go hB hb1
  clear hm
  have HRX := Asd.mk hG
  clear hG
  by_cases hG : rightM Y = false
  · have hm := ref12_Right _ A' c' Y _ hxb hcY (by omega)
    rw [hG] at hm
    go_wp2_with fail
    refine hm.mono ?_
    rintro e w1 ⟨rfl, hb1⟩
    replace hxa := hxa.below hb1; replace hxb := hxb.below hb1; replace hxr := hxr.below hb1; replace hB := below_go hB hb1
    go_wp2_with fail
    refine (law12_works _).mono ?_
    rintro e wz ⟨rfl, hbz⟩
    go_wp2
    go_ret
    exact ⟨rfl, below_go hB hbz⟩
  replace hG : rightM Y = true := by simpa using hG
  have hm := ref12_Right _ A' c' Y _ hxb hcY (by omega)
  rw [hG] at hm
  go_wp2_with fail
  refine hm.mono ?_
  rintro e w1 ⟨rfl, hb1⟩
  replace hxa := hxa.below hb1; replace hxb := hxb.below hb1; replace hxr := hxr.below hb1; replace hB := below_go hB hb1
  clear hm
  have HRY := Asd.mk hG
  clear hG
  by_cases hG : ¬ X.length = R.length
  · have hGi : ¬ (X.length : Int) = (R.length : Int) := by omega
    go_wp2_with fail
    refine (law12_works _).mono ?_
    rintro e wz ⟨rfl, hbz⟩
    go_wp2
    go_ret
    exact ⟨rfl, below_go hB hbz⟩
  replace hG : X.length = R.length := by omega
  have HXR := Asd.mk hG; have hXi : (X.length : Int) = (R.length : Int) := by omega
  clear hG
  by_cases hG : ¬ Y.length = R.length
  · have hGi : ¬ (Y.length : Int) = (R.length : Int) := by omega
    go_wp2_with fail
    refine (law12_works _).mono ?_
    rintro e wz ⟨rfl, hbz⟩
    go_wp2
    go_ret
    exact ⟨rfl, below_go hB hbz⟩
  replace hG : Y.length = R.length := by omega
  have HYR := Asd.mk hG; have hYi : (Y.length : Int) = (R.length : Int) := by omega
  clear hG
  by_cases hG : ¬ widthM X = R.length
  · have hGi : ¬ (widthM X : Int) = (R.length : Int) := by omega
    have hm := ref12_Width _ A c X _ hxa hcX
    go_wp2_with fail
    refine hm.mono ?_
    rintro e w1 ⟨rfl, rfl⟩
    go_wp2_with fail
    refine (law12_works _).mono ?_
    rintro e wz ⟨rfl, hbz⟩
    go_wp2
    go_ret
    exact ⟨rfl, below_go hB hbz⟩
  replace hG : widthM X = R.length := by omega
  have hm := ref12_Width _ A c X _ hxa hcX
  rw [hG] at hm
  go_wp2_with fail
  refine hm.mono ?_
  rintro e w1 ⟨rfl, rfl⟩
  clear hm
  have HMX := Asd.mk hG
  clear hG
  by_cases hG : ¬ widthM Y = R.length
  · have hGi : ¬ (widthM Y : Int) = (R.length : Int) := by omega
    have hm := ref12_Width _ A' c' Y _ hxb hcY
    go_wp2_with fail
    refine hm.mono ?_
    rintro e w1 ⟨rfl, rfl⟩
    go_wp2_with fail
    refine (law12_works _).mono ?_
    rintro e wz ⟨rfl, hbz⟩
    go_wp2
    go_ret
    exact ⟨rfl, below_go hB hbz⟩
  replace hG : widthM Y = R.length := by omega
  have hm := ref12_Width _ A' c' Y _ hxb hcY
  rw [hG] at hm
  go_wp2_with fail
  refine hm.mono ?_
  rintro e w1 ⟨rfl, rfl⟩
  clear hm
  have HMY := Asd.mk hG
  clear hG
  obtain ⟨n, hn⟩ : ∃ n, n = R.length := ⟨_, rfl⟩
  rw [HXR.out, HYR.out, ← hn]
  have hn4 : n ≤ 4 := by omega
  have hX : Mx _ A n c (X.map rowQ) 2 := mx_in hxa (HXR.out.trans hn.symm) (by have := HXR.out; omega) (right_len HRX.out (HMX.out.trans hn.symm)) HSA.out
  have hY : Mx _ A' n c' (Y.map rowQ) 2 := mx_in hxb (HYR.out.trans hn.symm) (by have := HYR.out; omega) (right_len HRY.out (HMY.out.trans hn.symm)) HSB.out
  have hV : Vx _ A2 n c2 (R.map RF.q) 2 := vx_in hxr hn.symm (by omega) HSR.out
  clear HXR HYR HMX HMY HRX HRY HSA HSB HSR HWA HWB hxa hxb hxr hla hlb hlr hcX hcY hcR hXi hYi
  generalize X.map rowQ = x at *
  generalize Y.map rowQ = y at *
  generalize R.map RF.q = u at *
  clear hn
  have hm := to_Mx hX hn4
  go_wp2_with fail
  refine hm.mono ?_
  clear hm
  rintro e w1 ⟨Bx, bx, rfl, gX, hb1⟩
  replace hX := hX.below hb1; replace hY := hY.below hb1; replace hV := hV.below hb1; replace hB := below_go hB hb1
  have hm := to_Mx hY hn4
  go_wp2_with fail
  refine hm.mono ?_
  clear hm
  rintro e w1 ⟨By, by_, rfl, gY, hb1⟩
  replace hY := hY.below hb1; replace hV := hV.below hb1; replace gX := gX.below hb1; replace hB := below_go hB hb1
  have hm := to_Vx hV hn4
  go_wp2_with fail
  refine hm.mono ?_
  clear hm
  rintro e w1 ⟨Bv, bv, rfl, gV, hb1⟩
  replace hV := hV.below hb1; replace gX := gX.below hb1; replace gY := gY.below hb1; replace hB := below_go hB hb1
  have hm := left_Mx gV gX hn4 (by decide)
  go_wp2_with fail
  refine hm.mono ?_
  clear hm
  rintro e w1 ⟨Bl, bl, rfl, gL, hb1⟩
  replace gX := gX.below hb1; replace gY := gY.below hb1; replace gV := gV.below hb1; replace hB := below_go hB hb1
  have hm := apply_Mx gX gV hn4 (by decide)
  go_wp2_with fail
  refine hm.mono ?_
  clear hm
  rintro e w1 ⟨Br, br, rfl, gR, hb1⟩
  replace gX := gX.below hb1; replace gY := gY.below hb1; replace gV := gV.below hb1; replace gL := gL.below hb1; replace hB := below_go hB hb1
  have hm := dot_Vx gL gV hn4 (by decide)
  go_wp2_with fail
  refine hm.mono ?_
  clear hm
  rintro e w1 ⟨ys, rfl, hqs, -, oks, hb1⟩
  replace gX := gX.below hb1; replace gY := gY.below hb1; replace gV := gV.below hb1; replace gL := gL.below hb1; replace gR := gR.below hb1; replace hB := below_go hB hb1
  replace oks := oks.mono (ok' := fun _ => True) (fun _ _ _ => trivial)
  replace gX := gX.alloc (.cells #[.bool ys.n, .slice ys.A ys.l.length ys.c, .slice ys.A' ys.d.length ys.c'] 30); replace gY := gY.alloc (.cells #[.bool ys.n, .slice ys.A ys.l.length ys.c, .slice ys.A' ys.d.length ys.c'] 30); replace gV := gV.alloc (.cells #[.bool ys.n, .slice ys.A ys.l.length ys.c, .slice ys.A' ys.d.length ys.c'] 30); replace gR := gR.alloc (.cells #[.bool ys.n, .slice ys.A ys.l.length ys.c, .slice ys.A' ys.d.length ys.c'] 30); replace oks := oks.alloc (.cells #[.bool ys.n, .slice ys.A ys.l.length ys.c, .slice ys.A' ys.d.length ys.c'] 30); have XS := Blk.new w1 [.bool ys.n, .slice ys.A ys.l.length ys.c, .slice ys.A' ys.d.length ys.c'] 30; replace hB := hB.alloc hB.size (.cells #[.bool ys.n, .slice ys.A ys.l.length ys.c, .slice ys.A' ys.d.length ys.c'] 30)
  go_wp2_with fail
  generalize w1.alloc (.cells #[.bool ys.n, .slice ys.A ys.l.length ys.c, .slice ys.A' ys.d.length ys.c'] 30) = W1 at *
  generalize w1.heap.size = bXS at *
  clear hb1
  have hm := dot_Vx gV gR hn4 (by decide)
  refine hm.mono ?_
  clear hm
  rintro e w1 ⟨yt, rfl, hqt, -, okt, hb1⟩
  replace gX := gX.below hb1; replace gY := gY.below hb1; replace gV := gV.below hb1; replace gR := gR.below hb1; replace oks := oks.below hb1; replace XS := XS.below hb1; replace hB := below_go hB hb1
  replace okt := okt.mono (ok' := fun _ => True) (fun _ _ _ => trivial)
  have HQ : Asd (ys.q = yt.q) := ⟨by rw [hqs, hqt]; exact order_dot gV.len gX.sq⟩
  clear hqs hqt
  clear gV gR
  replace gX := gX.alloc (.cells #[.bool yt.n, .slice yt.A yt.l.length yt.c, .slice yt.A' yt.d.length yt.c'] 30); replace gY := gY.alloc (.cells #[.bool yt.n, .slice yt.A yt.l.length yt.c, .slice yt.A' yt.d.length yt.c'] 30); replace oks := oks.alloc (.cells #[.bool yt.n, .slice yt.A yt.l.length yt.c, .slice yt.A' yt.d.length yt.c'] 30); replace XS := XS.alloc (.cells #[.bool yt.n, .slice yt.A yt.l.length yt.c, .slice yt.A' yt.d.length yt.c'] 30); replace okt := okt.alloc (.cells #[.bool yt.n, .slice yt.A yt.l.length yt.c, .slice yt.A' yt.d.length yt.c'] 30); have XT := Blk.new w1 [.bool yt.n, .slice yt.A yt.l.length yt.c, .slice yt.A' yt.d.length yt.c'] 30; replace hB := hB.alloc hB.size (.cells #[.bool yt.n, .slice yt.A yt.l.length yt.c, .slice yt.A' yt.d.length yt.c'] 30)
  have cXS0 := XS.c 0 rfl; have cXS1 := XS.c 1 rfl; have cXS2 := XS.c 2 rfl; have cXT0 := XT.c 0 rfl; have cXT1 := XT.c 1 rfl; have cXT2 := XT.c 2 rfl
  go_wp2_with fail
  generalize w1.alloc (.cells #[.bool yt.n, .slice yt.A yt.l.length yt.c, .slice yt.A' yt.d.length yt.c'] 30) = W1 at *
  generalize w1.heap.size = bXT at *
  clear hb1
  have hm := frac_Same _ _ ys yt _ oks okt
  rw [decide_eq_true HQ.out] at hm
  clear cXS0 cXS1 cXS2 cXT0 cXT1 cXT2
  clear XS XT
  refine hm.mono ?_
  clear hm oks okt HQ
  rintro e w1 ⟨rfl, hb1⟩
  replace gX := gX.below hb1; replace gY := gY.below hb1; replace hB := below_go hB hb1
  have hm := mul_Mx gX gY hn4 (by decide)
  go_wp2_with fail
  refine hm.mono ?_
  clear hm
  rintro e w1 ⟨B1, b1, rfl, gXY, hb1⟩
  replace gX := gX.below hb1; replace gY := gY.below hb1; replace hB := below_go hB hb1
  have hm := turn_Mx gY hn4
  go_wp2_with fail
  refine hm.mono ?_
  clear hm
  rintro e w1 ⟨B2, b2, rfl, gTY, hb1⟩
  replace gX := gX.below hb1; replace gY := gY.below hb1; replace gXY := gXY.below hb1; replace hB := below_go hB hb1
  have hm := turn_Mx gX hn4
  go_wp2_with fail
  refine hm.mono ?_
  clear hm
  rintro e w1 ⟨B3, b3, rfl, gTX, hb1⟩
  replace gX := gX.below hb1; replace gY := gY.below hb1; replace gXY := gXY.below hb1; replace gTY := gTY.below hb1; replace hB := below_go hB hb1
  have hm := mul_Mx gTY gTX hn4 (by decide)
  go_wp2_with fail
  refine hm.mono ?_
  clear hm
  rintro e w1 ⟨B4, b4, rfl, gT, hb1⟩
  replace gX := gX.below hb1; replace gY := gY.below hb1; replace gXY := gXY.below hb1; replace gTY := gTY.below hb1; replace gTX := gTX.below hb1; replace hB := below_go hB hb1
  have hm := mul_Mx gXY gX hn4 (by decide)
  go_wp2_with fail
  refine hm.mono ?_
  clear hm
  rintro e w1 ⟨B5, b5, rfl, g1, hb1⟩
  replace gX := gX.below hb1; replace gY := gY.below hb1; replace gXY := gXY.below hb1; replace gT := gT.below hb1; replace hB := below_go hB hb1
  have hm := mul_Mx gY gX hn4 (by decide)
  go_wp2_with fail
  refine hm.mono ?_
  clear hm
  rintro e w1 ⟨B6, b6, rfl, gYX, hb1⟩
  replace gX := gX.below hb1; replace gY := gY.below hb1; replace gXY := gXY.below hb1; replace gT := gT.below hb1; replace g1 := g1.below hb1; replace hB := below_go hB hb1
  have hm := mul_Mx gX gYX hn4 (by decide)
  go_wp2_with fail
  refine hm.mono ?_
  clear hm
  rintro e w1 ⟨B7, b7, rfl, g2, hb1⟩
  replace gX := gX.below hb1; replace gY := gY.below hb1; replace gXY := gXY.below hb1; replace gT := gT.below hb1; replace g1 := g1.below hb1; replace gYX := gYX.below hb1; replace hB := below_go hB hb1
  have HT := Asd.mk (order_turn gX.sq gY.sq); have HM := Asd.mk (order_mul gX.sq gY.sq gX.sq)
  have hm := turn_Mx gXY hn4
  go_wp2_with fail
  refine hm.mono ?_
  clear hm
  rintro e w1 ⟨B8, b8, rfl, gTXY, hb1⟩
  replace gX := gX.below hb1; replace gY := gY.below hb1; replace gXY := gXY.below hb1; replace gT := gT.below hb1; replace g1 := g1.below hb1; replace gYX := gYX.below hb1; replace g2 := g2.below hb1; replace hB := below_go hB hb1
  have hm := same_Mx gTXY gT hn4 HT.out
  go_wp2_with fail
  refine hm.mono ?_
  clear hm
  rintro e w1 ⟨rfl, hb1⟩
  replace gX := gX.below hb1; replace gY := gY.below hb1; replace gXY := gXY.below hb1; replace gT := gT.below hb1; replace g1 := g1.below hb1; replace gYX := gYX.below hb1; replace g2 := g2.below hb1; replace gTXY := gTXY.below hb1; replace hB := below_go hB hb1
  have hm := same_Mx g1 g2 hn4 HM.out
  go_wp2_with fail
  refine hm.mono ?_
  clear hm
  rintro e w1 ⟨rfl, hb1⟩
  replace gX := gX.below hb1; replace gY := gY.below hb1; replace gXY := gXY.below hb1; replace gT := gT.below hb1; replace g1 := g1.below hb1; replace gYX := gYX.below hb1; replace g2 := g2.below hb1; replace gTXY := gTXY.below hb1; replace hB := below_go hB hb1
  go_wp2_with fail
  refine (law12_works _).mono ?_
  rintro e wz ⟨rfl, hbz⟩
  go_wp2
  go_ret
  exact ⟨rfl, below_go hB hbz⟩
end Go.Proofs.YthjpkichpkomcaaGreatDoor
