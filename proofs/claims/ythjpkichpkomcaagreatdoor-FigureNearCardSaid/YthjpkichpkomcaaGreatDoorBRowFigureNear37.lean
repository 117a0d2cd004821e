/- FigB -/
import Derived.Test.YthjpkichpkomcaaGreatDoorBRowFigureNear36
/- Layer 10: fractions of texts (figure: digitsBehind where there is a fault, over, places). -/
namespace Go.Proofs.YthjpkichpkomcaaGreatDoor
open Go.RowKit Go.Proofs.YthjpkichpkomcaaGreatDoor.Big
set_option linter.unusedVariables false
set_option maxRecDepth 100000
attribute [local go_sem ↓] Go.wp_at_zero Go.wp_at_succ

/-- A fraction and a fault, returned. -/
def FgOut (q : Rat) (kind at_ : Int) (w : World) (e : Ending) (w' : World) : Prop := ∃ y : RF, e = .returned (.tuple #[.agg #[.bool y.n, .slice y.A y.l.length y.c, .slice y.A' y.d.length y.c'], .agg #[.int .i64 kind, .int .i64 0, .int .i64 0, .int .i64 at_]]) ∧ y.q = q ∧ Rt y ∧ y.ok (fun k => w.heap.size ≤ k) w' ∧ Below w.heap.size w w'

set_option maxHeartbeats 1000000 in
theorem fig_behind_no (l : List UInt8) (k : Nat) (hk : k ≤ l.length) (hl : l.length < 1000000) (hb : 0 ≤ wrongI (l.drop k)) (w : World) :
    Calls Tryz.prog 127 #[.string ⟨l.toArray⟩, .int .i64 (k : Int)] w fun e w' => e = .returned (.tuple #[.slice none 0 0, .agg #[.int .i64 1, .int .i64 0, .int .i64 0, .int .i64 ((k : Int) + wrongI (l.drop k))]]) ∧ Below w.heap.size w w' := by
  have hsl := sl_from l k hk
  have HRD := Asd.mk (digits_Read_no (l.drop k) (by rw [List.length_drop]; omega) hb)
  have hle := wrongI_le (l.drop k)
  rw [List.length_drop] at hle
  generalize wrongI (l.drop k) = v at *
  have hv : v + (k : Int) = (k : Int) + v := by omega
  go_enter Tryz.func127, Tryz.ntmps127
  go_wp2_with fail
  have XF0 := Blk.new w [.int .i64 0, .int .i64 0, .int .i64 0, .int .i64 0] 35
  have hb0 := ((Below.refl w.heap.size w).alloc (Nat.le_refl _) (.cells #[.int .i64 0, .int .i64 0, .int .i64 0, .int .i64 0] 35))
  generalize w.alloc (.cells #[.int .i64 0, .int .i64 0, .int .i64 0, .int .i64 0] 35) = W at *
  have XF := XF0; have hB := hb0; have hlt := XF0.lt
  clear XF0 hb0
  have cXF0 := XF.c 0 rfl; have cXF1 := XF.c 1 rfl; have cXF2 := XF.c 2 rfl; have cXF3 := XF.c 3 rfl
  refine (HRD.out W).mono ?_
  rintro e w1 ⟨rfl, hb1⟩
  replace XF := XF.below hb1; replace cXF0 := XF.c 0 rfl; replace cXF1 := XF.c 1 rfl; replace cXF2 := XF.c 2 rfl; replace cXF3 := XF.c 3 rfl; replace hB := below_go hB hb1
  replace XF := XF.alloc (.cells #[.int .i64 1, .int .i64 0, .int .i64 0, .int .i64 ((k : Int) + v)] 35)
  have N1 := Blk.new w1 [.int .i64 1, .int .i64 0, .int .i64 0, .int .i64 ((k : Int) + v)] 35
  replace hB := hB.alloc hB.size (.cells #[.int .i64 1, .int .i64 0, .int .i64 0, .int .i64 ((k : Int) + v)] 35)
  replace cXF0 := XF.c 0 rfl
  replace cXF1 := XF.c 1 rfl
  replace cXF2 := XF.c 2 rfl
  replace cXF3 := XF.c 3 rfl
  have cN10 := N1.c 0 rfl; have cN11 := N1.c 1 rfl; have cN12 := N1.c 2 rfl; have cN13 := N1.c 3 rfl
  have ff := XF.f; have fl := XF.lt
  go_wp2_with fail
  go_region_with (fail)
  all_goals
    go_wp2
    refine bodyPost_ret (ret_tmp_blk rfl rfl rfl ((((XF.set 0 _).set 1 _).set 2 _).set 3 _).drew Tryz.underlying35 (by kernel_rfl)) rfl ?_
    exact ⟨rfl, below_drewN ((((hB.setCell (by simp) _).setCell (by simp) _).setCell (by simp) _).setCell (by simp) _) 1⟩

set_option maxHeartbeats 2000000 in
theorem fig_over (n : Bool) (A : Option Addr) (c : Nat) (z : List Int) (l : List UInt8) (k : Nat) (hk : k ≤ l.length) (hb : wrongI (l.drop k) < 0) (h0 : 0 < decV (l.drop k)) (w : World) (h : Rd (fun _ => True) w A z) (hc : z.length ≤ c) (hz : z.length ≤ 1000) :
    Calls Tryz.prog 66 #[.agg #[.bool n, .slice A z.length c], .string ⟨l.toArray⟩, .int .i64 (k : Int)] w (FgOut (Rat.divInt (zv n z) (decV (l.drop k))) 0 0 w) := by
  have HBH := Asd.mk (fig_behind l k hk hb)
  have hdg := digs_of_wrong hb
  have hlv : (rep (decV (l.drop k))).length ≤ 60 := Nat.le_trans (rep_length_le (decV_lt_pw hdg.1)) hdg.2.2
  generalize hV : decV (l.drop k) = V at *
  have HV := Asd.mk hV
  have HVR : Asd (val (rep V) = V) := ⟨val_rep (by omega)⟩
  clear hV hdg
  go_enter Tryz.func66, Tryz.ntmps66
  go_wp2_with fail
  have XA0 := ((Blk.new w [.bool n, .slice A z.length c] 28).alloc (.cells #[.bool false, .slice none 0 0, .slice none 0 0] 30)).alloc (.cells #[.int .i64 0, .int .i64 0, .int .i64 0, .int .i64 0] 35)
  have XR0 := (Blk.new (w.alloc (.cells #[.bool n, .slice A z.length c] 28)) [.bool false, .slice none 0 0, .slice none 0 0] 30).alloc (.cells #[.int .i64 0, .int .i64 0, .int .i64 0, .int .i64 0] 35)
  have XF0 := Blk.new ((w.alloc (.cells #[.bool n, .slice A z.length c] 28)).alloc (.cells #[.bool false, .slice none 0 0, .slice none 0 0] 30)) [.int .i64 0, .int .i64 0, .int .i64 0, .int .i64 0] 35
  have rh := (((h.alloc (.cells #[.bool n, .slice A z.length c] 28)).alloc (.cells #[.bool false, .slice none 0 0, .slice none 0 0] 30)).alloc (.cells #[.int .i64 0, .int .i64 0, .int .i64 0, .int .i64 0] 35))
  have hb0 := ((((Below.refl w.heap.size w).alloc (Nat.le_refl _) (.cells #[.bool n, .slice A z.length c] 28)).alloc (by simp) (.cells #[.bool false, .slice none 0 0, .slice none 0 0] 30)).alloc (by simp; omega) (.cells #[.int .i64 0, .int .i64 0, .int .i64 0, .int .i64 0] 35))
  simp only [World.size_alloc] at XR0 XF0
  generalize ((w.alloc (.cells #[.bool n, .slice A z.length c] 28)).alloc (.cells #[.bool false, .slice none 0 0, .slice none 0 0] 30)).alloc (.cells #[.int .i64 0, .int .i64 0, .int .i64 0, .int .i64 0] 35) = W at *
  clear h
  have XA := XA0; have XR := XR0; have XF := XF0; have hB := hb0; have hlt := XF0.lt
  clear XA0 XR0 XF0 hb0
  have cXA0 := XA.c 0 rfl; have cXA1 := XA.c 1 rfl; have cXR0 := XR.c 0 rfl; have cXR1 := XR.c 1 rfl; have cXR2 := XR.c 2 rfl; have cXF0 := XF.c 0 rfl; have cXF1 := XF.c 1 rfl; have cXF2 := XF.c 2 rfl; have cXF3 := XF.c 3 rfl
  refine (HBH.out W).mono ?_
  rintro e w1 ⟨D, d, rfl, hd, hrd, hb1⟩
  have hsz1 := hb1.size
  replace XA := XA.below hb1; replace XR := XR.below hb1; replace XF := XF.below hb1; replace rh := rh.below hb1; replace cXA0 := XA.c 0 rfl; replace cXA1 := XA.c 1 rfl; replace cXR0 := XR.c 0 rfl; replace cXR1 := XR.c 1 rfl; replace cXR2 := XR.c 2 rfl; replace cXF0 := XF.c 0 rfl; replace cXF1 := XF.c 1 rfl; replace cXF2 := XF.c 2 rfl; replace cXF3 := XF.c 3 rfl; replace hB := below_go hB hb1
  replace XA := XA.alloc (.cells #[.int .i64 0, .int .i64 0, .int .i64 0, .int .i64 0] 35)
  replace XR := XR.alloc (.cells #[.int .i64 0, .int .i64 0, .int .i64 0, .int .i64 0] 35)
  replace XF := XF.alloc (.cells #[.int .i64 0, .int .i64 0, .int .i64 0, .int .i64 0] 35)
  replace rh := rh.alloc (.cells #[.int .i64 0, .int .i64 0, .int .i64 0, .int .i64 0] 35)
  replace hrd := hrd.alloc (.cells #[.int .i64 0, .int .i64 0, .int .i64 0, .int .i64 0] 35)
  have N1 := Blk.new w1 [.int .i64 0, .int .i64 0, .int .i64 0, .int .i64 0] 35
  replace hB := hB.alloc hB.size (.cells #[.int .i64 0, .int .i64 0, .int .i64 0, .int .i64 0] 35)
  replace cXA0 := XA.c 0 rfl
  replace cXA1 := XA.c 1 rfl
  replace cXR0 := XR.c 0 rfl
  replace cXR1 := XR.c 1 rfl
  replace cXR2 := XR.c 2 rfl
  replace cXF0 := XF.c 0 rfl
  replace cXF1 := XF.c 1 rfl
  replace cXF2 := XF.c 2 rfl
  replace cXF3 := XF.c 3 rfl
  have cN10 := N1.c 0 rfl; have cN11 := N1.c 1 rfl; have cN12 := N1.c 2 rfl; have cN13 := N1.c 3 rfl
  go_wp2_with fail
  have hHV := HV.out
  have hm := (frac_New _ n A c z _ D d (rep V) _ rh hc hrd hd (by omega) (by omega) (by rw [HVR.out]; exact h0))
  rw [HVR.out] at hm
  refine hm.mono ?_
  clear hm hHV
  rintro e w2 hfo
  obtain ⟨y, rfl, hq, hR, hok, hb1⟩ := hfo.rf ((sz_dv h0 (len_zv rh.wd hz) (Nat.le_trans hlv (by decide))).mono (by decide))
  have hs1 := hB.size
  replace XR := XR.below hb1; replace XF := XF.below hb1; replace cXR0 := XR.c 0 rfl; replace cXR1 := XR.c 1 rfl; replace cXR2 := XR.c 2 rfl; replace cXF0 := XF.c 0 rfl; replace cXF1 := XF.c 1 rfl; replace cXF2 := XF.c 2 rfl; replace cXF3 := XF.c 3 rfl; replace hB := below_go hB hb1
  have hs2 := hb1.size
  have hw1 : (w1.alloc (.cells #[.int .i64 0, .int .i64 0, .int .i64 0, .int .i64 0] 35)).heap.size = w1.heap.size + 1 := World.size_alloc _ _
  have rf := XR.f; have rl := XR.lt; have ff := XF.f; have fl := XF.lt
  go_wp2
  refine bodyPost_ret (ret_blk2 rfl rfl rfl ((((((((XR.set 0 _).set 1 _).set 2 _).far (by simp) _).far (by simp) _).far (by simp) _).far (by simp) _).alloc (.cells #[.bool y.n, .slice y.A y.l.length y.c, .slice y.A' y.d.length y.c'] 30)) ((((((((XF.far (by simp) _).far (by simp) _).far (by simp) _).set 0 _).set 1 _).set 2 _).set 3 _).alloc (.cells #[.bool y.n, .slice y.A y.l.length y.c, .slice y.A' y.d.length y.c'] 30)) Tryz.underlying30 (by kernel_rfl) Tryz.underlying35 (by kernel_rfl)) rfl ?_
  exact ⟨y, rfl, hq, hR, ((((((((hok.setCell (by simp <;> omega) _).setCell (by simp <;> omega) _).setCell (by simp <;> omega) _).setCell (by simp <;> omega) _).setCell (by simp <;> omega) _).setCell (by simp <;> omega) _).setCell (by simp <;> omega) _).alloc (.cells #[.bool y.n, .slice y.A y.l.length y.c, .slice y.A' y.d.length y.c'] 30)).mono (fun k _ hk => by omega), ((((((((hB.setCell (by simp <;> omega) _).setCell (by simp <;> omega) _).setCell (by simp <;> omega) _).setCell (by simp <;> omega) _).setCell (by simp <;> omega) _).setCell (by simp <;> omega) _).setCell (by simp <;> omega) _).alloc (by simp; omega) (.cells #[.bool y.n, .slice y.A y.l.length y.c, .slice y.A' y.d.length y.c'] 30))⟩

set_option maxHeartbeats 2000000 in
theorem fig_over_no (n : Bool) (A : Option Addr) (c : Nat) (z : List Int) (l : List UInt8) (k : Nat) (hk : k ≤ l.length) (hl : l.length < 1000000) (hb : 0 ≤ wrongI (l.drop k)) (w : World) (h : Rd (fun _ => True) w A z) (hc : z.length ≤ c) :
    Calls Tryz.prog 66 #[.agg #[.bool n, .slice A z.length c], .string ⟨l.toArray⟩, .int .i64 (k : Int)] w (FgOut 0 1 ((k : Int) + wrongI (l.drop k)) w) := by
  have HBH := Asd.mk (fig_behind_no l k hk hl hb)
  have H0 := Asd.mk (frac_Of 0 (by decide) (by decide))
  rw [show ((0 : Int) : Rat) = 0 from rfl] at H0
  generalize (k : Int) + wrongI (l.drop k) = v at *
  go_enter Tryz.func66, Tryz.ntmps66
  go_wp2_with fail
  have XA0 := ((Blk.new w [.bool n, .slice A z.length c] 28).alloc (.cells #[.bool false, .slice none 0 0, .slice none 0 0] 30)).alloc (.cells #[.int .i64 0, .int .i64 0, .int .i64 0, .int .i64 0] 35)
  have XR0 := (Blk.new (w.alloc (.cells #[.bool n, .slice A z.length c] 28)) [.bool false, .slice none 0 0, .slice none 0 0] 30).alloc (.cells #[.int .i64 0, .int .i64 0, .int .i64 0, .int .i64 0] 35)
  have XF0 := Blk.new ((w.alloc (.cells #[.bool n, .slice A z.length c] 28)).alloc (.cells #[.bool false, .slice none 0 0, .slice none 0 0] 30)) [.int .i64 0, .int .i64 0, .int .i64 0, .int .i64 0] 35
  have rh := (((h.alloc (.cells #[.bool n, .slice A z.length c] 28)).alloc (.cells #[.bool false, .slice none 0 0, .slice none 0 0] 30)).alloc (.cells #[.int .i64 0, .int .i64 0, .int .i64 0, .int .i64 0] 35))
  have hb0 := ((((Below.refl w.heap.size w).alloc (Nat.le_refl _) (.cells #[.bool n, .slice A z.length c] 28)).alloc (by simp) (.cells #[.bool false, .slice none 0 0, .slice none 0 0] 30)).alloc (by simp; omega) (.cells #[.int .i64 0, .int .i64 0, .int .i64 0, .int .i64 0] 35))
  simp only [World.size_alloc] at XR0 XF0
  generalize ((w.alloc (.cells #[.bool n, .slice A z.length c] 28)).alloc (.cells #[.bool false, .slice none 0 0, .slice none 0 0] 30)).alloc (.cells #[.int .i64 0, .int .i64 0, .int .i64 0, .int .i64 0] 35) = W at *
  clear h
  have XA := XA0; have XR := XR0; have XF := XF0; have hB := hb0; have hlt := XF0.lt
  clear XA0 XR0 XF0 hb0
  have cXA0 := XA.c 0 rfl; have cXA1 := XA.c 1 rfl; have cXR0 := XR.c 0 rfl; have cXR1 := XR.c 1 rfl; have cXR2 := XR.c 2 rfl; have cXF0 := XF.c 0 rfl; have cXF1 := XF.c 1 rfl; have cXF2 := XF.c 2 rfl; have cXF3 := XF.c 3 rfl
  refine (HBH.out W).mono ?_
  rintro e w1 ⟨rfl, hb1⟩
  have hsz1 := hb1.size
  replace XA := XA.below hb1; replace XR := XR.below hb1; replace XF := XF.below hb1; replace rh := rh.below hb1; replace cXA0 := XA.c 0 rfl; replace cXA1 := XA.c 1 rfl; replace cXR0 := XR.c 0 rfl; replace cXR1 := XR.c 1 rfl; replace cXR2 := XR.c 2 rfl; replace cXF0 := XF.c 0 rfl; replace cXF1 := XF.c 1 rfl; replace cXF2 := XF.c 2 rfl; replace cXF3 := XF.c 3 rfl; replace hB := below_go hB hb1
  replace XA := XA.alloc (.cells #[.int .i64 1, .int .i64 0, .int .i64 0, .int .i64 v] 35)
  replace XR := XR.alloc (.cells #[.int .i64 1, .int .i64 0, .int .i64 0, .int .i64 v] 35)
  replace XF := XF.alloc (.cells #[.int .i64 1, .int .i64 0, .int .i64 0, .int .i64 v] 35)
  replace rh := rh.alloc (.cells #[.int .i64 1, .int .i64 0, .int .i64 0, .int .i64 v] 35)
  have N1 := Blk.new w1 [.int .i64 1, .int .i64 0, .int .i64 0, .int .i64 v] 35
  replace hB := hB.alloc hB.size (.cells #[.int .i64 1, .int .i64 0, .int .i64 0, .int .i64 v] 35)
  replace cXA0 := XA.c 0 rfl
  replace cXA1 := XA.c 1 rfl
  replace cXR0 := XR.c 0 rfl
  replace cXR1 := XR.c 1 rfl
  replace cXR2 := XR.c 2 rfl
  replace cXF0 := XF.c 0 rfl
  replace cXF1 := XF.c 1 rfl
  replace cXF2 := XF.c 2 rfl
  replace cXF3 := XF.c 3 rfl
  have cN10 := N1.c 0 rfl; have cN11 := N1.c 1 rfl; have cN12 := N1.c 2 rfl; have cN13 := N1.c 3 rfl
  go_wp2_with fail
  generalize hg : w1.heap.size = g at *
  generalize w1.alloc (.cells #[.int .i64 1, .int .i64 0, .int .i64 0, .int .i64 v] 35) = W2 at *
  have n1 : ¬ g = w.heap.size + 1 := by omega
  have n2 : ¬ g = w.heap.size + 1 + 1 := by omega
  have n3 : ¬ w.heap.size + 1 = g := by omega
  have n4 : ¬ w.heap.size + 1 + 1 = g := by omega
  have hgl := N1.lt
  replace XR := XR.drew; replace XF := XF.drew; replace N1 := N1.drew; replace hB := below_drewN hB 1; replace cXR0 := XR.c 0 rfl; replace cXR1 := XR.c 1 rfl; replace cXR2 := XR.c 2 rfl; replace cXF0 := XF.c 0 rfl; replace cXF1 := XF.c 1 rfl; replace cXF2 := XF.c 2 rfl; replace cXF3 := XF.c 3 rfl; replace cN10 := N1.c 0 rfl; replace cN11 := N1.c 1 rfl; replace cN12 := N1.c 2 rfl; replace cN13 := N1.c 3 rfl
  have hgd : W2.drew.heap.size = W2.heap.size := rfl
  go_region_with
    (first
      | (go_at_call 25; refine (H0.out _).mono ?_; rintro e w2 hfo; obtain ⟨y, rfl, hq, hR, hok, hb1⟩ := hfo.rf (sz_zero.mono (by decide)); replace XR := XR.below hb1; replace XF := XF.below hb1; replace N1 := N1.below hb1; replace cXR0 := XR.c 0 rfl; replace cXR1 := XR.c 1 rfl; replace cXR2 := XR.c 2 rfl; replace cXF0 := XF.c 0 rfl; replace cXF1 := XF.c 1 rfl; replace cXF2 := XF.c 2 rfl; replace cXF3 := XF.c 3 rfl; replace cN10 := N1.c 0 rfl; replace cN11 := N1.c 1 rfl; replace cN12 := N1.c 2 rfl; replace cN13 := N1.c 3 rfl; replace hB := below_go hB hb1; have hs2 := hb1.size; have rf := XR.f; have rl := XR.lt; have ff := XF.f; have fl := XF.lt))
  all_goals go_wp2
  all_goals
    refine bodyPost_ret (ret_blk2 rfl rfl rfl (((((((XR.set 0 _).set 1 _).set 2 _).far (by simp) _).far (by simp) _).far (by simp) _).far (by simp) _) (((((((XF.far (by simp) _).far (by simp) _).far (by simp) _).set 0 _).set 1 _).set 2 _).set 3 _) Tryz.underlying30 (by kernel_rfl) Tryz.underlying35 (by kernel_rfl)) rfl ?_
    exact ⟨y, rfl, hq, hR, (((((((hok.setCell (by simp <;> omega) _).setCell (by simp <;> omega) _).setCell (by simp <;> omega) _).setCell (by simp <;> omega) _).setCell (by simp <;> omega) _).setCell (by simp <;> omega) _).setCell (by simp <;> omega) _).mono (fun k _ hk => by omega), (((((((hB.setCell (by simp <;> omega) _).setCell (by simp <;> omega) _).setCell (by simp <;> omega) _).setCell (by simp <;> omega) _).setCell (by simp <;> omega) _).setCell (by simp <;> omega) _).setCell (by simp <;> omega) _)⟩

set_option maxHeartbeats 2000000 in
theorem fig_over_zero (n : Bool) (A : Option Addr) (c : Nat) (z : List Int) (l : List UInt8) (k : Nat) (hk : k ≤ l.length) (hb : wrongI (l.drop k) < 0) (h0 : decV (l.drop k) = 0) (w : World) (h : Rd (fun _ => True) w A z) (hc : z.length ≤ c) (hz : z.length ≤ 1000) :
    Calls Tryz.prog 66 #[.agg #[.bool n, .slice A z.length c], .string ⟨l.toArray⟩, .int .i64 (k : Int)] w (FgOut 0 2 (k : Int) w) := by
  have HBH := Asd.mk (fig_behind l k hk hb)
  have hdg := digs_of_wrong hb
  have hlv : (rep (decV (l.drop k))).length ≤ 60 := Nat.le_trans (rep_length_le (decV_lt_pw hdg.1)) hdg.2.2
  generalize hV : decV (l.drop k) = V at *
  have HV := Asd.mk hV
  have HVR : Asd (val (rep V) = 0) := ⟨by rw [h0, rep_zero]; rfl⟩
  have H0 := Asd.mk h0
  clear hV hdg h0
  go_enter Tryz.func66, Tryz.ntmps66
  go_wp2_with fail
  have XA0 := ((Blk.new w [.bool n, .slice A z.length c] 28).alloc (.cells #[.bool false, .slice none 0 0, .slice none 0 0] 30)).alloc (.cells #[.int .i64 0, .int .i64 0, .int .i64 0, .int .i64 0] 35)
  have XR0 := (Blk.new (w.alloc (.cells #[.bool n, .slice A z.length c] 28)) [.bool false, .slice none 0 0, .slice none 0 0] 30).alloc (.cells #[.int .i64 0, .int .i64 0, .int .i64 0, .int .i64 0] 35)
  have XF0 := Blk.new ((w.alloc (.cells #[.bool n, .slice A z.length c] 28)).alloc (.cells #[.bool false, .slice none 0 0, .slice none 0 0] 30)) [.int .i64 0, .int .i64 0, .int .i64 0, .int .i64 0] 35
  have rh := (((h.alloc (.cells #[.bool n, .slice A z.length c] 28)).alloc (.cells #[.bool false, .slice none 0 0, .slice none 0 0] 30)).alloc (.cells #[.int .i64 0, .int .i64 0, .int .i64 0, .int .i64 0] 35))
  have hb0 := ((((Below.refl w.heap.size w).alloc (Nat.le_refl _) (.cells #[.bool n, .slice A z.length c] 28)).alloc (by simp) (.cells #[.bool false, .slice none 0 0, .slice none 0 0] 30)).alloc (by simp; omega) (.cells #[.int .i64 0, .int .i64 0, .int .i64 0, .int .i64 0] 35))
  simp only [World.size_alloc] at XR0 XF0
  generalize ((w.alloc (.cells #[.bool n, .slice A z.length c] 28)).alloc (.cells #[.bool false, .slice none 0 0, .slice none 0 0] 30)).alloc (.cells #[.int .i64 0, .int .i64 0, .int .i64 0, .int .i64 0] 35) = W at *
  clear h
  have XA := XA0; have XR := XR0; have XF := XF0; have hB := hb0; have hlt := XF0.lt
  clear XA0 XR0 XF0 hb0
  have cXA0 := XA.c 0 rfl; have cXA1 := XA.c 1 rfl; have cXR0 := XR.c 0 rfl; have cXR1 := XR.c 1 rfl; have cXR2 := XR.c 2 rfl; have cXF0 := XF.c 0 rfl; have cXF1 := XF.c 1 rfl; have cXF2 := XF.c 2 rfl; have cXF3 := XF.c 3 rfl
  refine (HBH.out W).mono ?_
  rintro e w1 ⟨D, d, rfl, hd, hrd, hb1⟩
  have hsz1 := hb1.size
  replace XA := XA.below hb1; replace XR := XR.below hb1; replace XF := XF.below hb1; replace rh := rh.below hb1; replace cXA0 := XA.c 0 rfl; replace cXA1 := XA.c 1 rfl; replace cXR0 := XR.c 0 rfl; replace cXR1 := XR.c 1 rfl; replace cXR2 := XR.c 2 rfl; replace cXF0 := XF.c 0 rfl; replace cXF1 := XF.c 1 rfl; replace cXF2 := XF.c 2 rfl; replace cXF3 := XF.c 3 rfl; replace hB := below_go hB hb1
  replace XA := XA.alloc (.cells #[.int .i64 0, .int .i64 0, .int .i64 0, .int .i64 0] 35)
  replace XR := XR.alloc (.cells #[.int .i64 0, .int .i64 0, .int .i64 0, .int .i64 0] 35)
  replace XF := XF.alloc (.cells #[.int .i64 0, .int .i64 0, .int .i64 0, .int .i64 0] 35)
  replace rh := rh.alloc (.cells #[.int .i64 0, .int .i64 0, .int .i64 0, .int .i64 0] 35)
  replace hrd := hrd.alloc (.cells #[.int .i64 0, .int .i64 0, .int .i64 0, .int .i64 0] 35)
  have N1 := Blk.new w1 [.int .i64 0, .int .i64 0, .int .i64 0, .int .i64 0] 35
  replace hB := hB.alloc hB.size (.cells #[.int .i64 0, .int .i64 0, .int .i64 0, .int .i64 0] 35)
  replace cXA0 := XA.c 0 rfl
  replace cXA1 := XA.c 1 rfl
  replace cXR0 := XR.c 0 rfl
  replace cXR1 := XR.c 1 rfl
  replace cXR2 := XR.c 2 rfl
  replace cXF0 := XF.c 0 rfl
  replace cXF1 := XF.c 1 rfl
  replace cXF2 := XF.c 2 rfl
  replace cXF3 := XF.c 3 rfl
  have cN10 := N1.c 0 rfl; have cN11 := N1.c 1 rfl; have cN12 := N1.c 2 rfl; have cN13 := N1.c 3 rfl
  go_wp2_with fail
  refine (frac_New_no _ n A c z _ D d (rep V) _ rh hc hrd hd HVR.out).mono ?_
  rintro e w2 hfo
  obtain ⟨y, rfl, hq, hR, hok, hb1⟩ := hfo.rf (sz_zero.mono (by decide))
  have hs1 := hB.size
  replace XR := XR.below hb1; replace XF := XF.below hb1; replace cXR0 := XR.c 0 rfl; replace cXR1 := XR.c 1 rfl; replace cXR2 := XR.c 2 rfl; replace cXF0 := XF.c 0 rfl; replace cXF1 := XF.c 1 rfl; replace cXF2 := XF.c 2 rfl; replace cXF3 := XF.c 3 rfl; replace hB := below_go hB hb1
  have hs2 := hb1.size
  have hw1 : (w1.alloc (.cells #[.int .i64 0, .int .i64 0, .int .i64 0, .int .i64 0] 35)).heap.size = w1.heap.size + 1 := World.size_alloc _ _
  have rf := XR.f; have rl := XR.lt; have ff := XF.f; have fl := XF.lt
  go_wp2
  refine bodyPost_ret (ret_blk2 rfl rfl rfl ((((((((XR.set 0 _).set 1 _).set 2 _).far (by simp) _).far (by simp) _).far (by simp) _).far (by simp) _).alloc (.cells #[.bool y.n, .slice y.A y.l.length y.c, .slice y.A' y.d.length y.c'] 30)) ((((((((XF.far (by simp) _).far (by simp) _).far (by simp) _).set 0 _).set 1 _).set 2 _).set 3 _).alloc (.cells #[.bool y.n, .slice y.A y.l.length y.c, .slice y.A' y.d.length y.c'] 30)) Tryz.underlying30 (by kernel_rfl) Tryz.underlying35 (by kernel_rfl)) rfl ?_
  exact ⟨y, rfl, hq, hR, ((((((((hok.setCell (by simp <;> omega) _).setCell (by simp <;> omega) _).setCell (by simp <;> omega) _).setCell (by simp <;> omega) _).setCell (by simp <;> omega) _).setCell (by simp <;> omega) _).setCell (by simp <;> omega) _).alloc (.cells #[.bool y.n, .slice y.A y.l.length y.c, .slice y.A' y.d.length y.c'] 30)).mono (fun k _ hk => by omega), ((((((((hB.setCell (by simp <;> omega) _).setCell (by simp <;> omega) _).setCell (by simp <;> omega) _).setCell (by simp <;> omega) _).setCell (by simp <;> omega) _).setCell (by simp <;> omega) _).setCell (by simp <;> omega) _).alloc (by simp; omega) (.cells #[.bool y.n, .slice y.A y.l.length y.c, .slice y.A' y.d.length y.c'] 30))⟩

set_option maxHeartbeats 2000000 in
theorem fig_places (n neg : Bool) (A : Option Addr) (c : Nat) (z : List Int) (l : List UInt8) (k : Nat) (hk : k ≤ l.length) (hb : wrongI (l.drop k) < 0) (w : World) (h : Rd (fun _ => True) w A z) (hc : z.length ≤ c) (hz : z.length ≤ 1000) :
    Calls Tryz.prog 67 #[.agg #[.bool n, .slice A z.length c], .bool neg, .string ⟨l.toArray⟩, .int .i64 (k : Int)] w (FgOut (Rat.divInt (if neg = true then -(val z * 10 ^ (l.length - k) + decV (l.drop k)) else val z * 10 ^ (l.length - k) + decV (l.drop k)) (10 ^ (l.length - k))) 0 0 w) := by
  have HBH := Asd.mk (fig_behind l k hk hb)
  have hdg0 := digs_of_wrong hb
  have hlk : l.length - k ≤ 60 := by have := hdg0.2.2; rw [List.length_drop] at this; exact this
  have hv0 := (decV_bd hdg0.1).1
  have hdg := digs_of_wrong hb
  have hlv : (rep (decV (l.drop k))).length ≤ 60 := Nat.le_trans (rep_length_le (decV_lt_pw hdg.1)) hdg.2.2
  generalize hV : decV (l.drop k) = V at *
  have HV := Asd.mk hV
  have HVR : Asd (val (rep V) = V) := ⟨val_rep hv0⟩
  clear hV hdg hdg0
  have hs0 : (⟨l.toArray⟩ : ByteArray).size = l.length := by simp [ByteArray.size]
  obtain ⟨m, hm⟩ : ∃ m : Nat, m = l.length - k := ⟨_, rfl⟩
  have hmi : (l.length : Int) - (k : Int) = (m : Int) := by omega
  rw [← hm]
  have HTN := Asd.mk (fig_tens m (by omega))
  obtain ⟨hp, hlp0⟩ := pow_small (v := 10) (by decide) (by decide) (n := m) (by omega)
  have HPR : Asd (val (rep (10 ^ m)) = 10 ^ m) := ⟨val_rep (Int.le_of_lt hp)⟩
  have HP0 := Asd.mk hp
  clear hp hm
  generalize hP : (10 : Int) ^ m = P at *
  have hlp := hlp0
  clear hlp0 hP
  have hzn := val_nonneg h.wd
  have HS : Asd (zv neg (rep (val z * P + V)) = if neg = true then -(val z * P + V) else val z * P + V) := ⟨by
    have := Int.mul_nonneg hzn (Int.le_of_lt HP0.out)
    unfold zv; rw [val_rep (by omega)]⟩
  have HMN := Asd.mk (Int.mul_nonneg hzn (Int.le_of_lt HP0.out))
  rw [← HS.out]
  have HLS : Asd ((rep (val z * P)).length ≤ 1120 ∧ (rep (val z * P + V)).length ≤ 1121) := ⟨by
    have e1 : ∀ a : Int, 0 ≤ a → mag a = rep a := fun a h => by unfold mag; rw [show ((a.natAbs : Nat) : Int) = a by omega]
    have h1 := len_mul (a := val z) (b := P) (m := 1000) (n := 120) (by rw [e1 _ hzn]; exact Nat.le_trans (rep_length_le (val_lt h.wd)) hz) (by rw [e1 _ (Int.le_of_lt HP0.out)]; exact hlp)
    have h2 := len_add h1 (b := V) (by rw [e1 _ hv0]; omega)
    rw [e1 _ HMN.out] at h1
    rw [e1 _ (by have := HMN.out; omega)] at h2
    exact ⟨h1, h2⟩⟩
  go_enter Tryz.func67, Tryz.ntmps67
  go_wp2_with fail
  have XA0 := ((Blk.new w [.bool n, .slice A z.length c] 28).alloc (.cells #[.bool false, .slice none 0 0, .slice none 0 0] 30)).alloc (.cells #[.int .i64 0, .int .i64 0, .int .i64 0, .int .i64 0] 35)
  have XR0 := (Blk.new (w.alloc (.cells #[.bool n, .slice A z.length c] 28)) [.bool false, .slice none 0 0, .slice none 0 0] 30).alloc (.cells #[.int .i64 0, .int .i64 0, .int .i64 0, .int .i64 0] 35)
  have XF0 := Blk.new ((w.alloc (.cells #[.bool n, .slice A z.length c] 28)).alloc (.cells #[.bool false, .slice none 0 0, .slice none 0 0] 30)) [.int .i64 0, .int .i64 0, .int .i64 0, .int .i64 0] 35
  have rh := (((h.alloc (.cells #[.bool n, .slice A z.length c] 28)).alloc (.cells #[.bool false, .slice none 0 0, .slice none 0 0] 30)).alloc (.cells #[.int .i64 0, .int .i64 0, .int .i64 0, .int .i64 0] 35))
  have hb0 := ((((Below.refl w.heap.size w).alloc (Nat.le_refl _) (.cells #[.bool n, .slice A z.length c] 28)).alloc (by simp) (.cells #[.bool false, .slice none 0 0, .slice none 0 0] 30)).alloc (by simp; omega) (.cells #[.int .i64 0, .int .i64 0, .int .i64 0, .int .i64 0] 35))
  simp only [World.size_alloc] at XR0 XF0
  generalize ((w.alloc (.cells #[.bool n, .slice A z.length c] 28)).alloc (.cells #[.bool false, .slice none 0 0, .slice none 0 0] 30)).alloc (.cells #[.int .i64 0, .int .i64 0, .int .i64 0, .int .i64 0] 35) = W at *
  clear h
  have XA := XA0; have XR := XR0; have XF := XF0; have hB := hb0; have hlt := XF0.lt
  clear XA0 XR0 XF0 hb0
  have cXA0 := XA.c 0 rfl; have cXA1 := XA.c 1 rfl; have cXR0 := XR.c 0 rfl; have cXR1 := XR.c 1 rfl; have cXR2 := XR.c 2 rfl; have cXF0 := XF.c 0 rfl; have cXF1 := XF.c 1 rfl; have cXF2 := XF.c 2 rfl; have cXF3 := XF.c 3 rfl
  refine (HBH.out W).mono ?_
  rintro e w1 ⟨D, d, rfl, hd, hrd, hb1⟩
  have hsz1 := hb1.size
  replace XA := XA.below hb1; replace XR := XR.below hb1; replace XF := XF.below hb1; replace rh := rh.below hb1; replace cXA0 := XA.c 0 rfl; replace cXA1 := XA.c 1 rfl; replace cXR0 := XR.c 0 rfl; replace cXR1 := XR.c 1 rfl; replace cXR2 := XR.c 2 rfl; replace cXF0 := XF.c 0 rfl; replace cXF1 := XF.c 1 rfl; replace cXF2 := XF.c 2 rfl; replace cXF3 := XF.c 3 rfl; replace hB := below_go hB hb1
  replace XA := XA.alloc (.cells #[.int .i64 0, .int .i64 0, .int .i64 0, .int .i64 0] 35)
  replace XR := XR.alloc (.cells #[.int .i64 0, .int .i64 0, .int .i64 0, .int .i64 0] 35)
  replace XF := XF.alloc (.cells #[.int .i64 0, .int .i64 0, .int .i64 0, .int .i64 0] 35)
  replace rh := rh.alloc (.cells #[.int .i64 0, .int .i64 0, .int .i64 0, .int .i64 0] 35)
  replace hrd := hrd.alloc (.cells #[.int .i64 0, .int .i64 0, .int .i64 0, .int .i64 0] 35)
  have N1 := Blk.new w1 [.int .i64 0, .int .i64 0, .int .i64 0, .int .i64 0] 35
  replace hB := hB.alloc hB.size (.cells #[.int .i64 0, .int .i64 0, .int .i64 0, .int .i64 0] 35)
  replace cXA0 := XA.c 0 rfl
  replace cXA1 := XA.c 1 rfl
  replace cXR0 := XR.c 0 rfl
  replace cXR1 := XR.c 1 rfl
  replace cXR2 := XR.c 2 rfl
  replace cXF0 := XF.c 0 rfl
  replace cXF1 := XF.c 1 rfl
  replace cXF2 := XF.c 2 rfl
  replace cXF3 := XF.c 3 rfl
  have cN10 := N1.c 0 rfl; have cN11 := N1.c 1 rfl; have cN12 := N1.c 2 rfl; have cN13 := N1.c 3 rfl
  go_wp2_with fail
  have hmx := hB.size
  have hsw : (w1.alloc (.cells #[.int .i64 0, .int .i64 0, .int .i64 0, .int .i64 0] 35)).heap.size = w1.heap.size + 1 := World.size_alloc _ _
  generalize w1.alloc (.cells #[.int .i64 0, .int .i64 0, .int .i64 0, .int .i64 0] 35) = W2 at *
  refine (HTN.out W2).mono ?_
  rintro e w2 ⟨T, t, rfl, ht, hrt, hb1⟩
  have hsz2 := hb1.size
  replace XA := XA.below hb1; replace XR := XR.below hb1; replace XF := XF.below hb1; replace rh := rh.below hb1; replace hrd := hrd.below hb1; replace cXA0 := XA.c 0 rfl; replace cXA1 := XA.c 1 rfl; replace cXR0 := XR.c 0 rfl; replace cXR1 := XR.c 1 rfl; replace cXR2 := XR.c 2 rfl; replace cXF0 := XF.c 0 rfl; replace cXF1 := XF.c 1 rfl; replace cXF2 := XF.c 2 rfl; replace cXF3 := XF.c 3 rfl; replace hB := below_go hB hb1
  go_wp2_with fail
  have hm := prod_Mul _ A c z _ T t (rep P) w2 rh hc hrt ht (by omega) (by omega)
  rw [HPR.out] at hm
  refine hm.mono ?_
  clear hm
  rintro e w3 ⟨gm, rfl, hgm, hgl, hb1⟩
  have hsz3 := hb1.size
  replace XR := XR.below hb1; replace XF := XF.below hb1; replace hrt := hrt.below hb1; replace hrd := hrd.below hb1; replace cXR0 := XR.c 0 rfl; replace cXR1 := XR.c 1 rfl; replace cXR2 := XR.c 2 rfl; replace cXF0 := XF.c 0 rfl; replace cXF1 := XF.c 1 rfl; replace cXF2 := XF.c 2 rfl; replace cXF3 := XF.c 3 rfl; replace hB := below_go hB hb1
  clear XA rh cXA0 cXA1
  go_wp2_with fail
  have hrm := (hgm.rd (ok := fun _ => True) trivial).alloc (.cells #[.slice (some ⟨gm, 0, none⟩) (rep (val z * P)).length (rep (val z * P)).length, .slice D (rep V).length d] 22)
  replace XR := XR.alloc (.cells #[.slice (some ⟨gm, 0, none⟩) (rep (val z * P)).length (rep (val z * P)).length, .slice D (rep V).length d] 22); replace XF := XF.alloc (.cells #[.slice (some ⟨gm, 0, none⟩) (rep (val z * P)).length (rep (val z * P)).length, .slice D (rep V).length d] 22)
  replace hrt := hrt.alloc (.cells #[.slice (some ⟨gm, 0, none⟩) (rep (val z * P)).length (rep (val z * P)).length, .slice D (rep V).length d] 22); replace hrd := hrd.alloc (.cells #[.slice (some ⟨gm, 0, none⟩) (rep (val z * P)).length (rep (val z * P)).length, .slice D (rep V).length d] 22)
  replace hB := hB.alloc hB.size (.cells #[.slice (some ⟨gm, 0, none⟩) (rep (val z * P)).length (rep (val z * P)).length, .slice D (rep V).length d] 22)
  have HA := Asd.mk (nat_Add (fun _ => True) (some ⟨gm, 0, none⟩) (rep (val z * P)).length (rep (val z * P)) (fun _ => True) D d (rep V) w3.heap.size 2
    (w3.alloc (.cells #[.slice (some ⟨gm, 0, none⟩) (rep (val z * P)).length (rep (val z * P)).length, .slice D (rep V).length d] 22)) hrm (Nat.le_refl _) (hrd.mono (fun _ _ _ => trivial)) hd (by have := HLS.out; omega) (by omega) (by simp [go_sem]) (by simp [go_sem]))
  rw [HVR.out, val_rep HMN.out] at HA
  have hw3 : (w3.alloc (.cells #[.slice (some ⟨gm, 0, none⟩) (rep (val z * P)).length (rep (val z * P)).length, .slice D (rep V).length d] 22)).heap.size = w3.heap.size + 1 := World.size_alloc _ _
  clear hrm hgm hrd
  refine HA.out.mono ?_
  clear HA
  generalize w3.alloc (.cells #[.slice (some ⟨gm, 0, none⟩) (rep (val z * P)).length (rep (val z * P)).length, .slice D (rep V).length d] 22) = W4 at *
  rintro e w4 ⟨E, ec, rfl, hec, hre, hb1⟩
  have hsz4 := hb1.size
  replace XR := XR.below hb1; replace XF := XF.below hb1; replace hrt := hrt.below hb1; replace cXR0 := XR.c 0 rfl; replace cXR1 := XR.c 1 rfl; replace cXR2 := XR.c 2 rfl; replace cXF0 := XF.c 0 rfl; replace cXF1 := XF.c 1 rfl; replace cXF2 := XF.c 2 rfl; replace cXF3 := XF.c 3 rfl; replace hB := below_go hB hb1
  go_wp2_with fail
  have hm := (frac_New _ neg E ec (rep (val z * P + V)) _ T t (rep P) w4 hre hec hrt ht (by have := HLS.out; omega) (by omega) (by rw [HPR.out]; exact HP0.out))
  rw [HPR.out] at hm
  have HSZ := Asd.mk (sz_dv (z := zv neg (rep (val z * P + V))) (d := P) HP0.out (k := 2000) (len_zv (Wd_rep _) (by have := HLS.out; omega)) (by omega))
  refine hm.mono ?_
  clear hm
  rintro e w5 hfo
  obtain ⟨y, rfl, hq, hR, hok, hb1⟩ := hfo.rf (HSZ.out.mono (by decide))
  have hs1 := hB.size
  replace XR := XR.below hb1; replace XF := XF.below hb1; replace cXR0 := XR.c 0 rfl; replace cXR1 := XR.c 1 rfl; replace cXR2 := XR.c 2 rfl; replace cXF0 := XF.c 0 rfl; replace cXF1 := XF.c 1 rfl; replace cXF2 := XF.c 2 rfl; replace cXF3 := XF.c 3 rfl; replace hB := below_go hB hb1
  have hs2 := hb1.size
  have rf := XR.f; have rl := XR.lt; have ff := XF.f; have fl := XF.lt
  go_wp2
  refine bodyPost_ret (ret_blk2 rfl rfl rfl ((((((((XR.set 0 _).set 1 _).set 2 _).far (by simp) _).far (by simp) _).far (by simp) _).far (by simp) _).alloc (.cells #[.bool y.n, .slice y.A y.l.length y.c, .slice y.A' y.d.length y.c'] 30)) ((((((((XF.far (by simp) _).far (by simp) _).far (by simp) _).set 0 _).set 1 _).set 2 _).set 3 _).alloc (.cells #[.bool y.n, .slice y.A y.l.length y.c, .slice y.A' y.d.length y.c'] 30)) Tryz.underlying30 (by kernel_rfl) Tryz.underlying35 (by kernel_rfl)) rfl ?_
  exact ⟨y, rfl, hq, hR, ((((((((hok.setCell (by simp <;> omega) _).setCell (by simp <;> omega) _).setCell (by simp <;> omega) _).setCell (by simp <;> omega) _).setCell (by simp <;> omega) _).setCell (by simp <;> omega) _).setCell (by simp <;> omega) _).alloc (.cells #[.bool y.n, .slice y.A y.l.length y.c, .slice y.A' y.d.length y.c'] 30)).mono (fun k _ hk => by omega), ((((((((hB.setCell (by simp <;> omega) _).setCell (by simp <;> omega) _).setCell (by simp <;> omega) _).setCell (by simp <;> omega) _).setCell (by simp <;> omega) _).setCell (by simp <;> omega) _).setCell (by simp <;> omega) _).alloc (by simp; omega) (.cells #[.bool y.n, .slice y.A y.l.length y.c, .slice y.A' y.d.length y.c'] 30))⟩

set_option maxHeartbeats 2000000 in
theorem fig_places_no (n neg : Bool) (A : Option Addr) (c : Nat) (z : List Int) (l : List UInt8) (k : Nat) (hk : k ≤ l.length) (hl : l.length < 1000000) (hb : 0 ≤ wrongI (l.drop k)) (w : World) (h : Rd (fun _ => True) w A z) (hc : z.length ≤ c) :
    Calls Tryz.prog 67 #[.agg #[.bool n, .slice A z.length c], .bool neg, .string ⟨l.toArray⟩, .int .i64 (k : Int)] w (FgOut 0 1 ((k : Int) + wrongI (l.drop k)) w) := by
  have HBH := Asd.mk (fig_behind_no l k hk hl hb)
  have H0 := Asd.mk (frac_Of 0 (by decide) (by decide))
  rw [show ((0 : Int) : Rat) = 0 from rfl] at H0
  generalize (k : Int) + wrongI (l.drop k) = v at *
  go_enter Tryz.func67, Tryz.ntmps67
  go_wp2_with fail
  have XA0 := ((Blk.new w [.bool n, .slice A z.length c] 28).alloc (.cells #[.bool false, .slice none 0 0, .slice none 0 0] 30)).alloc (.cells #[.int .i64 0, .int .i64 0, .int .i64 0, .int .i64 0] 35)
  have XR0 := (Blk.new (w.alloc (.cells #[.bool n, .slice A z.length c] 28)) [.bool false, .slice none 0 0, .slice none 0 0] 30).alloc (.cells #[.int .i64 0, .int .i64 0, .int .i64 0, .int .i64 0] 35)
  have XF0 := Blk.new ((w.alloc (.cells #[.bool n, .slice A z.length c] 28)).alloc (.cells #[.bool false, .slice none 0 0, .slice none 0 0] 30)) [.int .i64 0, .int .i64 0, .int .i64 0, .int .i64 0] 35
  have rh := (((h.alloc (.cells #[.bool n, .slice A z.length c] 28)).alloc (.cells #[.bool false, .slice none 0 0, .slice none 0 0] 30)).alloc (.cells #[.int .i64 0, .int .i64 0, .int .i64 0, .int .i64 0] 35))
  have hb0 := ((((Below.refl w.heap.size w).alloc (Nat.le_refl _) (.cells #[.bool n, .slice A z.length c] 28)).alloc (by simp) (.cells #[.bool false, .slice none 0 0, .slice none 0 0] 30)).alloc (by simp; omega) (.cells #[.int .i64 0, .int .i64 0, .int .i64 0, .int .i64 0] 35))
  simp only [World.size_alloc] at XR0 XF0
  generalize ((w.alloc (.cells #[.bool n, .slice A z.length c] 28)).alloc (.cells #[.bool false, .slice none 0 0, .slice none 0 0] 30)).alloc (.cells #[.int .i64 0, .int .i64 0, .int .i64 0, .int .i64 0] 35) = W at *
  clear h
  have XA := XA0; have XR := XR0; have XF := XF0; have hB := hb0; have hlt := XF0.lt
  clear XA0 XR0 XF0 hb0
  have cXA0 := XA.c 0 rfl; have cXA1 := XA.c 1 rfl; have cXR0 := XR.c 0 rfl; have cXR1 := XR.c 1 rfl; have cXR2 := XR.c 2 rfl; have cXF0 := XF.c 0 rfl; have cXF1 := XF.c 1 rfl; have cXF2 := XF.c 2 rfl; have cXF3 := XF.c 3 rfl
  refine (HBH.out W).mono ?_
  rintro e w1 ⟨rfl, hb1⟩
  have hsz1 := hb1.size
  replace XA := XA.below hb1; replace XR := XR.below hb1; replace XF := XF.below hb1; replace rh := rh.below hb1; replace cXA0 := XA.c 0 rfl; replace cXA1 := XA.c 1 rfl; replace cXR0 := XR.c 0 rfl; replace cXR1 := XR.c 1 rfl; replace cXR2 := XR.c 2 rfl; replace cXF0 := XF.c 0 rfl; replace cXF1 := XF.c 1 rfl; replace cXF2 := XF.c 2 rfl; replace cXF3 := XF.c 3 rfl; replace hB := below_go hB hb1
  replace XA := XA.alloc (.cells #[.int .i64 1, .int .i64 0, .int .i64 0, .int .i64 v] 35)
  replace XR := XR.alloc (.cells #[.int .i64 1, .int .i64 0, .int .i64 0, .int .i64 v] 35)
  replace XF := XF.alloc (.cells #[.int .i64 1, .int .i64 0, .int .i64 0, .int .i64 v] 35)
  replace rh := rh.alloc (.cells #[.int .i64 1, .int .i64 0, .int .i64 0, .int .i64 v] 35)
  have N1 := Blk.new w1 [.int .i64 1, .int .i64 0, .int .i64 0, .int .i64 v] 35
  replace hB := hB.alloc hB.size (.cells #[.int .i64 1, .int .i64 0, .int .i64 0, .int .i64 v] 35)
  replace cXA0 := XA.c 0 rfl
  replace cXA1 := XA.c 1 rfl
  replace cXR0 := XR.c 0 rfl
  replace cXR1 := XR.c 1 rfl
  replace cXR2 := XR.c 2 rfl
  replace cXF0 := XF.c 0 rfl
  replace cXF1 := XF.c 1 rfl
  replace cXF2 := XF.c 2 rfl
  replace cXF3 := XF.c 3 rfl
  have cN10 := N1.c 0 rfl; have cN11 := N1.c 1 rfl; have cN12 := N1.c 2 rfl; have cN13 := N1.c 3 rfl
  go_wp2_with fail
  generalize hg : w1.heap.size = g at *
  generalize w1.alloc (.cells #[.int .i64 1, .int .i64 0, .int .i64 0, .int .i64 v] 35) = W2 at *
  have n1 : ¬ g = w.heap.size + 1 := by omega
  have n2 : ¬ g = w.heap.size + 1 + 1 := by omega
  have n3 : ¬ w.heap.size + 1 = g := by omega
  have n4 : ¬ w.heap.size + 1 + 1 = g := by omega
  have hgl := N1.lt
  replace XR := XR.drew; replace XF := XF.drew; replace N1 := N1.drew; replace hB := below_drewN hB 1; replace cXR0 := XR.c 0 rfl; replace cXR1 := XR.c 1 rfl; replace cXR2 := XR.c 2 rfl; replace cXF0 := XF.c 0 rfl; replace cXF1 := XF.c 1 rfl; replace cXF2 := XF.c 2 rfl; replace cXF3 := XF.c 3 rfl; replace cN10 := N1.c 0 rfl; replace cN11 := N1.c 1 rfl; replace cN12 := N1.c 2 rfl; replace cN13 := N1.c 3 rfl
  have hgd : W2.drew.heap.size = W2.heap.size := rfl
  go_region_with
    (first
      | (go_at_call 25; refine (H0.out _).mono ?_; rintro e w2 hfo; obtain ⟨y, rfl, hq, hR, hok, hb1⟩ := hfo.rf (sz_zero.mono (by decide)); replace XR := XR.below hb1; replace XF := XF.below hb1; replace N1 := N1.below hb1; replace cXR0 := XR.c 0 rfl; replace cXR1 := XR.c 1 rfl; replace cXR2 := XR.c 2 rfl; replace cXF0 := XF.c 0 rfl; replace cXF1 := XF.c 1 rfl; replace cXF2 := XF.c 2 rfl; replace cXF3 := XF.c 3 rfl; replace cN10 := N1.c 0 rfl; replace cN11 := N1.c 1 rfl; replace cN12 := N1.c 2 rfl; replace cN13 := N1.c 3 rfl; replace hB := below_go hB hb1; have hs2 := hb1.size; have rf := XR.f; have rl := XR.lt; have ff := XF.f; have fl := XF.lt))
  all_goals go_wp2
  all_goals
    refine bodyPost_ret (ret_blk2 rfl rfl rfl (((((((XR.set 0 _).set 1 _).set 2 _).far (by simp) _).far (by simp) _).far (by simp) _).far (by simp) _) (((((((XF.far (by simp) _).far (by simp) _).far (by simp) _).set 0 _).set 1 _).set 2 _).set 3 _) Tryz.underlying30 (by kernel_rfl) Tryz.underlying35 (by kernel_rfl)) rfl ?_
    exact ⟨y, rfl, hq, hR, (((((((hok.setCell (by simp <;> omega) _).setCell (by simp <;> omega) _).setCell (by simp <;> omega) _).setCell (by simp <;> omega) _).setCell (by simp <;> omega) _).setCell (by simp <;> omega) _).setCell (by simp <;> omega) _).mono (fun k _ hk => by omega), (((((((hB.setCell (by simp <;> omega) _).setCell (by simp <;> omega) _).setCell (by simp <;> omega) _).setCell (by simp <;> omega) _).setCell (by simp <;> omega) _).setCell (by simp <;> omega) _).setCell (by simp <;> omega) _)⟩

end Go.Proofs.YthjpkichpkomcaaGreatDoor
