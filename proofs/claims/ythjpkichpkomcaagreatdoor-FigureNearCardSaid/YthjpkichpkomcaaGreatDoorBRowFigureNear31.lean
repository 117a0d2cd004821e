/- FigT -/
import Derived.Test.YthjpkichpkomcaaGreatDoorBRowFigureNear30
import Derived.Test.YthjpkichpkomcaaGreatDoorBRowFigureNear19
/- A fraction's text (figure.Text). -/
namespace Go.Proofs.YthjpkichpkomcaaGreatDoor
open Go.RowKit Go.Proofs.YthjpkichpkomcaaGreatDoor.Big
set_option linter.unusedVariables false
set_option maxRecDepth 100000
attribute [local go_sem ↓] Go.wp_at_zero Go.wp_at_succ

/-- A right fraction's text. -/
def figT (q : Rat) : List UInt8 := wholeT q.num ++ (if q.den = 1 then [] else 47 :: decT (q.den : Int))

set_option maxHeartbeats 2000000 in
theorem figure_Text (ok : Nat → Prop) (x : RF) (w : World) (hx : x.ok ok w) :
    Calls Tryz.prog 17 #[.agg #[.bool x.n, .slice x.A x.l.length x.c, .slice x.A' x.d.length x.c']] w fun e w' => e = .returned (.string ⟨(figT x.q).toArray⟩) ∧ Below w.heap.size w w' := by
  go_enter Tryz.func17, Tryz.ntmps17
  go_wp2_with fail
  have XA := Blk.new w [.bool x.n, .slice x.A x.l.length x.c, .slice x.A' x.d.length x.c'] 30
  have rx := hx.alloc (.cells #[.bool x.n, .slice x.A x.l.length x.c, .slice x.A' x.d.length x.c'] 30)
  have hB := (Below.refl w.heap.size w).alloc (Nat.le_refl _) (.cells #[.bool x.n, .slice x.A x.l.length x.c, .slice x.A' x.d.length x.c'] 30)
  have hs0 : (w.alloc (.cells #[.bool x.n, .slice x.A x.l.length x.c, .slice x.A' x.d.length x.c'] 30)).heap.size = w.heap.size + 1 := World.size_alloc _ _
  generalize w.alloc (.cells #[.bool x.n, .slice x.A x.l.length x.c, .slice x.A' x.d.length x.c'] 30) = W at *
  have a0 := XA.c 0 rfl; have a1 := XA.c 1 rfl; have a2 := XA.c 2 rfl
  refine (frac_Norm _ x W rx).mono ?_
  rintro e w1 hfn
  obtain ⟨y, rfl, hqy, hRy, hyok, hb1⟩ := hfn.rf (sz_ok hx)
  have XA1 := XA.below hb1
  have rf := XA1.f; have rl := XA1.lt
  have hs1 := hb1.size
  have hFT : figT x.q = wholeT (zv y.n y.l) ++ (if val y.d = 1 then [] else 47 :: decT (val y.d)) := by
    unfold figT
    rw [hRy.1, hRy.2.1, hRy.2.2, hqy, zv_mag, val_rep (Int.le_of_lt (den_pos _))]
    congr 1
    by_cases h1 : x.q.den = 1
    · rw [if_pos h1, if_pos (by omega)]
    · rw [if_neg h1, if_neg (by omega)]
  have HFT := Asd.mk hFT
  clear hFT a0 a1 a2
  have hd0 := val_nonneg hyok.2.2.1.wd
  have c0 := XA1.c 0 rfl; have c1 := XA1.c 1 rfl; have c2 := XA1.c 2 rfl
  have XB : Blk (((w1.setCell ⟨w.heap.size, 0, none⟩ (.bool y.n)).setCell ⟨w.heap.size, 1, none⟩ (.slice y.A y.l.length y.c)).setCell ⟨w.heap.size, 2, none⟩ (.slice y.A' y.d.length y.c')) w.heap.size [.bool y.n, .slice y.A y.l.length y.c, .slice y.A' y.d.length y.c'] := ((XA1.set 0 _).set 1 _).set 2 _
  have hyB : y.ok (fun k => W.heap.size ≤ k) (((w1.setCell ⟨w.heap.size, 0, none⟩ (.bool y.n)).setCell ⟨w.heap.size, 1, none⟩ (.slice y.A y.l.length y.c)).setCell ⟨w.heap.size, 2, none⟩ (.slice y.A' y.d.length y.c')) := ((hyok.setCell (by simp; omega) _).setCell (by simp; omega) _).setCell (by simp; omega) _
  have hBB := (((below_go hB hb1).setCell (p := ⟨w.heap.size, 0, none⟩) (by simp) (.bool y.n)).setCell (p := ⟨w.heap.size, 1, none⟩) (by simp) (.slice y.A y.l.length y.c)).setCell (p := ⟨w.heap.size, 2, none⟩) (by simp) (.slice y.A' y.d.length y.c')
  have d0 := XB.c 0 rfl; have d1 := XB.c 1 rfl; have d2 := XB.c 2 rfl
  have hne : (((w1.setCell ⟨w.heap.size, 0, none⟩ (.bool y.n)).setCell ⟨w.heap.size, 1, none⟩ (.slice y.A y.l.length y.c)).setCell ⟨w.heap.size, 2, none⟩ (.slice y.A' y.d.length y.c')).heap.size = w1.heap.size := by simp
  go_wp2_with fail
  generalize ((w1.setCell ⟨w.heap.size, 0, none⟩ (.bool y.n)).setCell ⟨w.heap.size, 1, none⟩ (.slice y.A y.l.length y.c)).setCell ⟨w.heap.size, 2, none⟩ (.slice y.A' y.d.length y.c') = V at *
  clear c0 c1 c2 XA1 XA rf rl
  refine (whole_Text _ y.n y.A y.c y.l V hyB.1 hyB.2.1 (by have := hyB.2.2.2.2.1; omega)).mono ?_
  rintro e w2 ⟨rfl, hb2⟩
  replace XB := (XB.below hb2).drew; replace hyB := (hyB.below hb2).drew; replace hBB := below_drewN (below_go hBB hb2) 1
  replace d0 := XB.c 0 rfl; replace d1 := XB.c 1 rfl; replace d2 := XB.c 2 rfl
  have hlV := XB.lt
  generalize hdl : decT (val y.d) = dt at *
  by_cases h1 : val y.d = 1
  · rw [if_pos h1, List.append_nil] at HFT
    have hcm : cmpI (val y.d) (val (rep 1)) = 0 := cmpI_eq (by rw [h1, val_rep (by decide)])
    go_wp2_with fail
    go_region_held3 (fun w' => w'.cell? ⟨w.heap.size, 0, none⟩ = some (.bool y.n) ∧ w'.cell? ⟨w.heap.size, 1, none⟩ = some (.slice y.A y.l.length y.c) ∧ w'.cell? ⟨w.heap.size, 2, none⟩ = some (.slice y.A' y.d.length y.c')) (go_keep)
      (first
        | (go_at_call 65; refine (nat_Of 1 (by decide) (by decide) _).mono ?_; rintro e w3 ⟨Y, cY, rfl, hcY, hrY, hb3⟩; replace XB := XB.below hb3; replace hyB := hyB.below hb3; replace hBB := below_go hBB hb3; replace d0 := XB.c 0 rfl; replace d1 := XB.c 1 rfl; replace d2 := XB.c 2 rfl)
        | (go_at_call 70; have hm := nat_Cmp _ y.A' y.c' y.d _ Y cY (rep 1) _ hyB.2.2.1 hyB.2.2.2.1 hrY hcY; rw [hcm] at hm; refine hm.mono ?_; clear hm; rintro e w4 ⟨rfl, nd, rfl⟩; replace XB := XB.drewN nd; replace hBB := below_drewN hBB nd; replace d0 := XB.c 0 rfl; replace d1 := XB.c 1 rfl; replace d2 := XB.c 2 rfl))
    go_wp2
    go_ret
    exact ⟨congrArg (fun t : List UInt8 => Ending.returned (.string ⟨t.toArray⟩)) HFT.out.symm, hBB⟩
  · rw [if_neg h1, ← hdl] at HFT
    have hlen2 : y.d.length < 1000000000 := by have := hyB.2.2.2.2.2; omega
    have hl0 := decT_len hyB.2.2.1.wd
    rw [hdl] at hl0
    have hlw : (wholeT (zv y.n y.l)).length ≤ 1000000 := by
      have h3 := decT_len hyB.1.wd
      have h4 := hyB.2.2.2.2.1
      rw [zv_text hyB.1.wd]
      split <;> simp <;> omega
    have hl1 : ¬ 9223372036854775807 < 1 + dt.length := by have := hyB.2.2.2.2.2; omega
    have hl2 : ¬ 9223372036854775807 < (wholeT (zv y.n y.l)).length + (1 + dt.length) := by have := hyB.2.2.2.2.2; omega
    have hl3 : ¬ 9223372036854775807 < (wholeT (zv y.n y.l)).length + (dt.length + 1) := by have := hyB.2.2.2.2.2; omega
    by_cases h2 : val y.d < 1
    · have hcm : cmpI (val y.d) (val (rep 1)) = -1 := cmpI_lt (by rw [val_rep (by decide)]; exact h2)
      go_wp2_with fail
      go_region_held3 (fun w' => w'.cell? ⟨w.heap.size, 0, none⟩ = some (.bool y.n) ∧ w'.cell? ⟨w.heap.size, 1, none⟩ = some (.slice y.A y.l.length y.c) ∧ w'.cell? ⟨w.heap.size, 2, none⟩ = some (.slice y.A' y.d.length y.c')) (go_keep)
        (first
          | (go_at_call 65; refine (nat_Of 1 (by decide) (by decide) _).mono ?_; rintro e w3 ⟨Y, cY, rfl, hcY, hrY, hb3⟩; replace XB := XB.below hb3; replace hyB := hyB.below hb3; replace hBB := below_go hBB hb3; replace d0 := XB.c 0 rfl; replace d1 := XB.c 1 rfl; replace d2 := XB.c 2 rfl)
          | (go_at_call 70; have hm := nat_Cmp _ y.A' y.c' y.d _ Y cY (rep 1) _ hyB.2.2.1 hyB.2.2.2.1 hrY hcY; rw [hcm] at hm; refine hm.mono ?_; clear hm; rintro e w4 ⟨rfl, nd, rfl⟩; replace XB := XB.drewN nd; replace hyB : y.ok _ _ := ⟨hyB.1.drewN nd, hyB.2.1, hyB.2.2.1.drewN nd, hyB.2.2.2⟩; replace hBB := below_drewN hBB nd; replace d0 := XB.c 0 rfl; replace d1 := XB.c 1 rfl; replace d2 := XB.c 2 rfl))
      go_wp2_with fail
      refine (digits_Text _ y.A' y.c' y.d _ hyB.2.2.1 hyB.2.2.2.1 hlen2).mono ?_
      rintro e w5 ⟨rfl, hb5⟩
      go_wp2
      go_ret
      refine ⟨?_, below_go hBB hb5⟩
      rw [HFT.out, hdl]
      show Ending.returned (.string (_ ++ (_ ++ _))) = _
      congr 2
    · have hcm : cmpI (val y.d) (val (rep 1)) = 1 := cmpI_gt (by rw [val_rep (by decide)]; omega)
      go_wp2_with fail
      go_region_held3 (fun w' => w'.cell? ⟨w.heap.size, 0, none⟩ = some (.bool y.n) ∧ w'.cell? ⟨w.heap.size, 1, none⟩ = some (.slice y.A y.l.length y.c) ∧ w'.cell? ⟨w.heap.size, 2, none⟩ = some (.slice y.A' y.d.length y.c')) (go_keep)
        (first
          | (go_at_call 65; refine (nat_Of 1 (by decide) (by decide) _).mono ?_; rintro e w3 ⟨Y, cY, rfl, hcY, hrY, hb3⟩; replace XB := XB.below hb3; replace hyB := hyB.below hb3; replace hBB := below_go hBB hb3; replace d0 := XB.c 0 rfl; replace d1 := XB.c 1 rfl; replace d2 := XB.c 2 rfl)
          | (go_at_call 70; have hm := nat_Cmp _ y.A' y.c' y.d _ Y cY (rep 1) _ hyB.2.2.1 hyB.2.2.2.1 hrY hcY; rw [hcm] at hm; refine hm.mono ?_; clear hm; rintro e w4 ⟨rfl, nd, rfl⟩; replace XB := XB.drewN nd; replace hyB : y.ok _ _ := ⟨hyB.1.drewN nd, hyB.2.1, hyB.2.2.1.drewN nd, hyB.2.2.2⟩; replace hBB := below_drewN hBB nd; replace d0 := XB.c 0 rfl; replace d1 := XB.c 1 rfl; replace d2 := XB.c 2 rfl))
      go_wp2_with fail
      refine (digits_Text _ y.A' y.c' y.d _ hyB.2.2.1 hyB.2.2.2.1 hlen2).mono ?_
      rintro e w5 ⟨rfl, hb5⟩
      go_wp2
      go_ret
      refine ⟨?_, below_go hBB hb5⟩
      rw [HFT.out, hdl]
      show Ending.returned (.string (_ ++ (_ ++ _))) = _
      congr 2
end Go.Proofs.YthjpkichpkomcaaGreatDoor
