/- RowH -/
import Derived.Test.YthjpkichpkomcaaGreatDoorBRowGridOrder34
import Derived.Test.YthjpkichpkomcaaGreatDoorBRowGridOrder36
/- Matrices of fractions (grid): Width, Right, Same. -/
namespace Go.Proofs.YthjpkichpkomcaaGreatDoor
open Go.RowKit Go.Proofs.YthjpkichpkomcaaGreatDoor.Big
set_option linter.unusedVariables false
set_option maxRecDepth 100000
attribute [local go_sem ↓] Go.wp_at_zero Go.wp_at_succ

def widthM (rows : List (RV RF)) : Nat := match rows[0]? with | none => 0 | some r => r.l.length
def rightM (rows : List (RV RF)) : Bool := rows.all (fun r => decide (r.l.length = widthM rows))
theorem widthM_some {rows : List (RV RF)} {r : RV RF} (h : rows[0]? = some r) : widthM rows = r.l.length := by unfold widthM; rw [h]

set_option maxHeartbeats 1000000 in
theorem grid_Width (p : Nat → Prop) (A : Option Addr) (c : Nat) (rows : List (RV RF)) (w : World) (h : Rw p w A rows) (hc : rows.length ≤ c) :
    Calls Tryz.prog 41 #[.slice A rows.length c] w fun e w' => w = w' ∧ e = .returned (.int .i64 (widthM rows : Int)) := by
  go_enter Tryz.func41, Tryz.ntmps41
  by_cases h0 : rows.length = 0
  · have HW : Asd (widthM rows = 0) := ⟨by rw [List.eq_nil_of_length_eq_zero h0]; rfl⟩
    rw [h0]
    go_wp2
    go_ret
    exact ⟨rfl, by rw [HW.out]; rfl⟩
  · obtain ⟨r, hr⟩ : ∃ r, rows[0]? = some r := ⟨_, List.getElem?_eq_getElem (by omega)⟩
    have HW := Asd.mk (widthM_some hr)
    obtain ⟨ad, rfl, hp, hrr, hrc, hc0⟩ := h.cells1 hr
    have e0 : ad.add 0 = ad := by simp [Addr.add]
    rw [e0] at hc0
    have h1 : ¬ (rows.length : Int) = 0 := by omega
    have h2 : (0 : Int) < (rows.length : Int) := by omega
    go_wp2
    go_ret
    exact ⟨rfl, congrArg (fun n : Nat => Ending.returned (.int .i64 (n : Int))) HW.out.symm⟩

set_option maxHeartbeats 1000000 in
theorem grid_Right (p : Nat → Prop) (A : Option Addr) (c : Nat) (rows : List (RV RF)) (w : World) (h : Rw p w A rows) (hc : rows.length ≤ c) (hl : rows.length ≤ 100000) :
    Calls Tryz.prog 40 #[.slice A rows.length c] w fun e w' => w = w' ∧ e = .returned (.bool (rightM rows)) := by
  go_enter Tryz.func40, Tryz.ntmps40
  go_wp2_with fail
  go_loopw [7] (fun i wq => w = wq ∧ ∃ k : Nat, k ≤ rows.length ∧ i = .int .i64 (k : Int) ∧ Asd ((rows.take k).all (fun r => decide (r.l.length = widthM rows)) = true)) (fun i _ => (rows.length - intOf i).toNat)
  case atStart => exact ⟨rfl, 0, Nat.zero_le _, rfl, ⟨by simp⟩⟩
  case round =>
    obtain ⟨rfl, k, hk, rfl, HA⟩ := hrel
    by_cases hkl : k < rows.length
    · obtain ⟨r, hr⟩ : ∃ r, rows[k]? = some r := ⟨_, List.getElem?_eq_getElem hkl⟩
      have hgw := Asd.mk (grid_Width p A c rows w h hc)
      obtain ⟨ad, hA, hp, hrr, hrc, hc0⟩ := h.cells1 hr
      have HM : Asd ((rows.take (k + 1)).all (fun r => decide (r.l.length = widthM rows)) = decide (r.l.length = widthM rows)) := ⟨by rw [take_more hr, List.all_append, HA.out]; simp⟩
      have HN : Asd (¬ r.l.length = widthM rows → rightM rows = false) := ⟨fun hn => by
        unfold rightM
        rw [List.all_eq_false]
        exact ⟨r, List.mem_of_getElem? hr, by simpa using hn⟩⟩
      subst hA
      generalize r.l.length = rl at *
      generalize hwm : widthM rows = wm at *
      by_cases hq : rl = wm
      · rw [decide_eq_true hq] at HM
        subst hq
        go_wp2_with fail
        refine hgw.out.mono ?_
        rintro e w1 ⟨rfl, rfl⟩
        go_wp2
        go_roundw
        case rel => exact ⟨trivial, k + 1, by omega, by go_num, HM⟩
        case measure => simp [intOf]; omega
      · have HN2 := Asd.mk (HN.out hq)
        have hq1 : ¬ (rl : Int) = (wm : Int) := by omega
        clear HN
        go_wp2_with fail
        refine hgw.out.mono ?_
        rintro e w1 ⟨rfl, rfl⟩
        go_wp2
        go_ret
        exact ⟨rfl, congrArg (fun b => Ending.returned (.bool b)) HN2.out.symm⟩
    · have e : rows.take k = rows := List.take_of_length_le (by omega)
      rw [e] at HA
      have HR : Asd (rightM rows = true) := ⟨HA.out⟩
      go_wp2
      go_ret
      exact ⟨rfl, congrArg (fun b => Ending.returned (.bool b)) HR.out.symm⟩
end Go.Proofs.YthjpkichpkomcaaGreatDoor
