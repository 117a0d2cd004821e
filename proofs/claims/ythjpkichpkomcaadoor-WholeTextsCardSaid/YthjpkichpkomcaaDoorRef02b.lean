/- The document's answer for layer 2: a word at a place (At), the same list (Same). -/
import Derived.Test.YthjpkichpkomcaaDoorRef02a
import Derived.Outline
import Derived.WalkLawsBesides
import Derived.Deep.QuietTactic
import Derived.BigQuiet
namespace Go.Proofs.YthjpkichpkomcaaDoor
open Go.RowKit Go.Proofs.YthjpkichpkomcaaDoor.Big
set_option linter.unusedVariables false
set_option maxRecDepth 100000

set_option maxHeartbeats 400000 in
theorem ref02_At (ok : Nat → Prop) (A : Option Addr) (c : Nat) (l : List Int) (i : Nat) (w : World) (h : Rd ok w A l) :
    Calls Tryd.prog 69 #[.slice A l.length c, .int .i64 i] w fun e w' => w = w' ∧ e = .returned (.int .u32 (l.getD i 0)) := by
  by_cases hi : i < l.length
  · obtain ⟨ad, x, rfl, ho, hcell, hx0, hx1, HX⟩ := h.el i hi
    have hd : decide ((i : Int) < (l.length : Int)) = true := decide_eq_true (by omega)
    clear h
    go_enter Tryd.func69, Tryd.ntmps69
    go_wp2
    go_ret
    exact ⟨rfl, by rw [HX.out]; rfl⟩
  · have hd : decide ((i : Int) < (l.length : Int)) = false := decide_eq_false (by omega)
    have HX : Asd (l.getD i 0 = 0) := ⟨by rw [List.getD_eq_getElem?_getD, List.getElem?_eq_none (by omega)]; rfl⟩
    clear h
    go_enter Tryd.func69, Tryd.ntmps69
    go_wp2
    go_ret
    exact ⟨rfl, by rw [HX.out]; rfl⟩

set_option maxHeartbeats 1000000 in
theorem ref02_Same (ok ok' : Nat → Prop) (A A' : Option Addr) (c c' : Nat) (l : List Int) (w : World) (h : Rd ok w A l) (h' : Rd ok' w A' l) (hc : l.length ≤ c) (hc' : l.length ≤ c') :
    Calls Tryd.prog 40 #[.slice A l.length c, .slice A' l.length c'] w fun e w' => Dn w w' ∧ e = .returned (.bool true) := by
  have hlen := h.len
  go_enter Tryd.func40, Tryd.ntmps40
  go_wp2
  go_loopw [5] (fun i wr => ∃ k : Nat, k ≤ l.length ∧ i = .int .i64 k ∧ Asd (Dn w wr)) (fun i _ => l.length - (intOf i).toNat)
  case atStart => exact ⟨0, Nat.zero_le _, rfl, ⟨Dn.refl _⟩⟩
  case round =>
    obtain ⟨k, hk, rfl, HD⟩ := hrel
    by_cases hlt : k < l.length
    · have r1 := h.below (HD.out.below _)
      have r2 := h'.below (HD.out.below _)
      obtain ⟨ad, x, rfl, ho, hcell, hx0, hx1, HX⟩ := r1.el k hlt
      obtain ⟨ad', y, rfl, ho', hcell', hy0, hy1, HY⟩ := r2.el k hlt
      have hxy : x = y := by rw [← HX.out, HY.out]
      subst hxy
      have hd : decide ((k : Int) < (l.length : Int)) = true := decide_eq_true (by omega)
      clear r1 r2
      go_wp2
      go_quiet (fail)
      go_wp2
      go_roundw
      case rel => exact ⟨k + 1, hlt, by go_num, ⟨HD.out.step _⟩⟩
      case measure => simp [intOf]; omega
    · have hkl : k = l.length := by omega
      subst hkl
      go_wp2
      go_ret
      exact ⟨HD.out, rfl⟩
end Go.Proofs.YthjpkichpkomcaaDoor
