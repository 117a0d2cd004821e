/- RowO -/
import Derived.Test.YthjpkichpkomcaaGreatDoorBRowGridOrder47
import Derived.Test.YthjpkichpkomcaaGreatDoorWorks
import Derived.BigQuiet
import Derived.Deep.RegionHeld3
/- Matrices that came in: ref12.Width, Right; a fraction's text (figure.Text). -/
namespace Go.Proofs.YthjpkichpkomcaaGreatDoor
open Go.RowKit Go.Proofs.YthjpkichpkomcaaGreatDoor.Big
set_option linter.unusedVariables false
set_option maxRecDepth 100000
attribute [local go_sem ↓] Go.wp_at_zero Go.wp_at_succ

set_option maxHeartbeats 1000000 in
theorem ref12_Width (p : Nat → Prop) (A : Option Addr) (c : Nat) (rows : List (RV RF)) (w : World) (h : Rw p w A rows) (hc : rows.length ≤ c) :
    Calls Tryz.prog 33 #[.slice A rows.length c] w fun e w' => w = w' ∧ e = .returned (.int .i64 (widthM rows : Int)) := by
  go_enter Tryz.func33, Tryz.ntmps33
  by_cases h0 : rows.length = 0
  · have HW : Asd (widthM rows = 0) := ⟨by rw [List.eq_nil_of_length_eq_zero h0]; rfl⟩
    rw [h0]
    go_wp2
    go_ret
    exact ⟨rfl, by rw [HW.out]; rfl⟩
  · obtain ⟨r, hr⟩ : ∃ r, rows[0]? = some r := ⟨_, List.getElem?_eq_getElem (by omega)⟩
    have HW := Asd.mk (widthM_some hr)
    obtain ⟨ad, rfl, hp, hrr, hrc, hc0⟩ := h.cells1 hr
    have e0 : ad.add 0 = ad := by simp [Addr.add]
    rw [e0] at hc0
    have h1 : ¬ (rows.length : Int) = 0 := by omega
    have h2 : (0 : Int) < (rows.length : Int) := by omega
    go_wp2
    go_ret
    exact ⟨rfl, congrArg (fun n : Nat => Ending.returned (.int .i64 (n : Int))) HW.out.symm⟩

set_option maxHeartbeats 1000000 in
theorem ref12_Right (p : Nat → Prop) (A : Option Addr) (c : Nat) (rows : List (RV RF)) (w : World) (h : Rw p w A rows) (hc : rows.length ≤ c) (hl : rows.length ≤ 100000) :
    Calls Tryz.prog 32 #[.slice A rows.length c] w fun e w' => e = .returned (.bool (rightM rows)) ∧ Below w.heap.size w w' := by
  go_enter Tryz.func32, Tryz.ntmps32
  go_wp2_with fail
  go_loopw [3] (fun i wq => ∃ k : Nat, k ≤ rows.length ∧ i = .int .i64 (k : Int) ∧ Asd ((rows.take k).all (fun r => decide (r.l.length = widthM rows)) = true) ∧ Asd (Below w.heap.size w wq)) (fun i _ => (rows.length - intOf i).toNat)
  case atStart => exact ⟨0, Nat.zero_le _, rfl, ⟨by simp⟩, ⟨Below.refl _ _⟩⟩
  case round =>
    obtain ⟨k, hk, rfl, HA, HB⟩ := hrel
    by_cases hkl : k < rows.length
    · obtain ⟨r, hr⟩ : ∃ r, rows[k]? = some r := ⟨_, List.getElem?_eq_getElem hkl⟩
      obtain ⟨r0, hr0⟩ : ∃ r, rows[0]? = some r := ⟨_, List.getElem?_eq_getElem (by omega)⟩
      have hw0 := widthM_some hr0
      have hd := (h.below HB.out).drew
      obtain ⟨ad, hA, hp, hrr, hrc, hc0⟩ := hd.cells1 hr
      obtain ⟨ad0, hA0, _, _, _, hc1⟩ := hd.cells1 hr0
      have HM : Asd ((rows.take (k + 1)).all (fun r => decide (r.l.length = widthM rows)) = decide (r.l.length = widthM rows)) := ⟨by rw [take_more hr, List.all_append, HA.out]; simp⟩
      have HN : Asd (¬ r.l.length = widthM rows → rightM rows = false) := ⟨fun hn => by
        unfold rightM
        rw [List.all_eq_false]
        exact ⟨r, List.mem_of_getElem? hr, by simpa using hn⟩⟩
      subst hA
      injection hA0 with hA0
      subst hA0
      have e0 : ad.add 0 = ad := by simp [Addr.add]
      rw [e0] at hc1
      rw [← hw0] at hc1
      clear hw0 hr0 hrr hrc hd
      generalize r.l.length = rl at *
      generalize hwm : widthM rows = wm at *
      have h0k : 0 < rows.length := by omega
      have hBd := below_drewN HB.out 1
      by_cases hq : rl = wm
      · rw [decide_eq_true hq] at HM
        subst hq
        go_wp2_with fail
        go_region_held3 (fun w' => w'.cell? (ad.add k) = some (.slice r.A rl r.c) ∧ w'.cell? ad = some (.slice r0.A rl r0.c)) (exact ⟨hc0, hc1⟩) (fail)
        go_wp2
        go_roundw
        case rel => exact ⟨k + 1, by omega, by go_num, HM, ⟨hBd⟩⟩
        case measure => simp [intOf]; omega
      · have HN2 := Asd.mk (HN.out hq)
        have hq1 : ¬ (rl : Int) = (wm : Int) := by omega
        clear HN
        go_wp2_with fail
        go_region_held3 (fun w' => w'.cell? (ad.add k) = some (.slice r.A rl r.c) ∧ w'.cell? ad = some (.slice r0.A wm r0.c)) (exact ⟨hc0, hc1⟩) (fail)
        go_wp2
        go_ret
        exact ⟨congrArg (fun b => Ending.returned (.bool b)) HN2.out.symm, hBd⟩
    · have e : rows.take k = rows := List.take_of_length_le (by omega)
      rw [e] at HA
      have HR : Asd (rightM rows = true) := ⟨HA.out⟩
      go_wp2
      go_ret
      exact ⟨congrArg (fun b => Ending.returned (.bool b)) HR.out.symm, HB.out⟩
end Go.Proofs.YthjpkichpkomcaaGreatDoor
