/- RowE -/
import Derived.Test.YthjpkichpkomcaaGreatDoorBRowGridOrder33
/- Rows of fractions (row): Same. -/
namespace Go.Proofs.YthjpkichpkomcaaGreatDoor
open Go.RowKit Go.Proofs.YthjpkichpkomcaaGreatDoor.Big
set_option linter.unusedVariables false
set_option maxRecDepth 100000
attribute [local go_sem ↓] Go.wp_at_zero Go.wp_at_succ

theorem same_more {xs ys : List RF} {k : Nat} {x y : RF} (hx : xs[k]? = some x) (hy : ys[k]? = some y) (h : (xs.take k).map RF.q = (ys.take k).map RF.q) (hq : x.q = y.q) : (xs.take (k + 1)).map RF.q = (ys.take (k + 1)).map RF.q := by
  rw [take_more hx, take_more hy, List.map_append, List.map_append, h]; simp [hq]
theorem not_same {xs ys : List RF} {k : Nat} {x y : RF} (hx : xs[k]? = some x) (hy : ys[k]? = some y) (hq : x.q ≠ y.q) : ¬ xs.map RF.q = ys.map RF.q := by
  intro e
  have h1 := congrArg (fun l => l[k]?) e
  simp only [List.getElem?_map, hx, hy, Option.map_some, Option.some.injEq] at h1
  exact hq h1

set_option maxHeartbeats 2000000 in
theorem row_Same (p p' : Nat → Prop) (A : Option Addr) (c : Nat) (xs : List RF) (A' : Option Addr) (c' : Nat) (ys : List RF) (w : World) (h : Rw p w A xs) (hc : xs.length ≤ c) (h' : Rw p' w A' ys) (hc' : ys.length ≤ c') (hl : xs.length ≤ 100000) :
    Calls Tryz.prog 89 #[.slice A xs.length c, .slice A' ys.length c'] w fun e w' => e = .returned (.bool (decide (xs.map RF.q = ys.map RF.q))) ∧ Below w.heap.size w w' := by
  go_enter Tryz.func89, Tryz.ntmps89
  by_cases hxy : xs.length = ys.length
  · rw [← hxy]
    have HXY := Asd.mk hxy
    clear hxy
    go_wp2_with fail
    go_loopw [13] (fun i wq => ∃ k : Nat, k ≤ xs.length ∧ i = .int .i64 (k : Int) ∧ Asd ((xs.take k).map RF.q = (ys.take k).map RF.q) ∧ Asd (Below w.heap.size w wq)) (fun i _ => (xs.length - intOf i).toNat)
    case atStart => exact ⟨0, Nat.zero_le _, rfl, ⟨by simp⟩, ⟨Below.refl _ _⟩⟩
    case round =>
      obtain ⟨k, hk, rfl, HQ, HB⟩ := hrel
      by_cases hkl : k < xs.length
      · obtain ⟨x, hx⟩ : ∃ x, xs[k]? = some x := ⟨_, List.getElem?_eq_getElem hkl⟩
        obtain ⟨y, hy⟩ : ∃ y, ys[k]? = some y := ⟨_, List.getElem?_eq_getElem (by have := HXY.out; omega)⟩
        obtain ⟨ad, rfl, hp, hox, hc0, hc1, hc2⟩ := (h.below HB.out).drew.cells3 hx
        obtain ⟨ad', rfl, hp', hoy, hd0, hd1, hd2⟩ := (h'.below HB.out).drew.cells3 hy
        have hB := below_drewN HB.out 1
        have hsz : w.heap.size ≤ wr.drew.heap.size := HB.out.size
        have HD : Asd ((x.q = y.q → (xs.take (k + 1)).map RF.q = (ys.take (k + 1)).map RF.q) ∧ (x.q ≠ y.q → decide (xs.map RF.q = ys.map RF.q) = false)) := ⟨fun e => same_more hx hy HQ.out e, fun e => decide_eq_false (not_same hx hy e)⟩
        by_cases hq : x.q = y.q
        · have hd : decide (x.q = y.q) = true := decide_eq_true hq
          replace HD := Asd.mk (HD.out.1 hq)
          go_wp2_with fail
          go_region_held3 (fun w' => w'.cell? (ad'.add (k * 3)) = some (.bool y.n) ∧ w'.cell? ⟨(ad'.add (k * 3)).block, (ad'.add (k * 3)).off + 1, none⟩ = some (.slice y.A y.l.length y.c) ∧ w'.cell? ⟨(ad'.add (k * 3)).block, (ad'.add (k * 3)).off + 2, none⟩ = some (.slice y.A' y.d.length y.c') ∧ w'.cell? (ad.add (k * 3)) = some (.bool x.n) ∧ w'.cell? ⟨(ad.add (k * 3)).block, (ad.add (k * 3)).off + 1, none⟩ = some (.slice x.A x.l.length x.c) ∧ w'.cell? ⟨(ad.add (k * 3)).block, (ad.add (k * 3)).off + 2, none⟩ = some (.slice x.A' x.d.length x.c')) (first | exact ⟨hd0, hd1, hd2, hc0, hc1, hc2⟩ | exact ⟨(Below.cell hb1 (World.block_lt_of_cell? _ _ hd0)).trans hd0, (Below.cell hb1 (World.block_lt_of_cell? _ _ hd1)).trans hd1, (Below.cell hb1 (World.block_lt_of_cell? _ _ hd2)).trans hd2, (Below.cell hb1 (World.block_lt_of_cell? _ _ hc0)).trans hc0, (Below.cell hb1 (World.block_lt_of_cell? _ _ hc1)).trans hc1, (Below.cell hb1 (World.block_lt_of_cell? _ _ hc2)).trans hc2⟩)
            (first | (go_at_call 18; have hm := frac_Same _ _ x y _ hox hoy; rw [hd] at hm; refine hm.mono ?_; rintro e w2 ⟨rfl, hb1⟩))
          go_wp2
          go_roundw
          case rel => exact ⟨k + 1, by omega, by go_num, HD, ⟨hB.trans (hb1.mono (by omega))⟩⟩
          case measure => simp [intOf]; omega
        · have hd : decide (x.q = y.q) = false := decide_eq_false hq
          replace HD := Asd.mk (HD.out.2 hq)
          go_wp2_with fail
          go_region_held3 (fun w' => w'.cell? (ad'.add (k * 3)) = some (.bool y.n) ∧ w'.cell? ⟨(ad'.add (k * 3)).block, (ad'.add (k * 3)).off + 1, none⟩ = some (.slice y.A y.l.length y.c) ∧ w'.cell? ⟨(ad'.add (k * 3)).block, (ad'.add (k * 3)).off + 2, none⟩ = some (.slice y.A' y.d.length y.c') ∧ w'.cell? (ad.add (k * 3)) = some (.bool x.n) ∧ w'.cell? ⟨(ad.add (k * 3)).block, (ad.add (k * 3)).off + 1, none⟩ = some (.slice x.A x.l.length x.c) ∧ w'.cell? ⟨(ad.add (k * 3)).block, (ad.add (k * 3)).off + 2, none⟩ = some (.slice x.A' x.d.length x.c')) (first | exact ⟨hd0, hd1, hd2, hc0, hc1, hc2⟩ | exact ⟨(Below.cell hb1 (World.block_lt_of_cell? _ _ hd0)).trans hd0, (Below.cell hb1 (World.block_lt_of_cell? _ _ hd1)).trans hd1, (Below.cell hb1 (World.block_lt_of_cell? _ _ hd2)).trans hd2, (Below.cell hb1 (World.block_lt_of_cell? _ _ hc0)).trans hc0, (Below.cell hb1 (World.block_lt_of_cell? _ _ hc1)).trans hc1, (Below.cell hb1 (World.block_lt_of_cell? _ _ hc2)).trans hc2⟩)
            (first | (go_at_call 18; have hm := frac_Same _ _ x y _ hox hoy; rw [hd] at hm; refine hm.mono ?_; rintro e w2 ⟨rfl, hb1⟩))
          go_wp2
          go_ret
          exact ⟨congrArg (fun b => Ending.returned (.bool b)) HD.out.symm, hB.trans (hb1.mono (by omega))⟩
      · have e1 : xs.take k = xs := List.take_of_length_le (by omega)
        have e2 : ys.take k = ys := List.take_of_length_le (by have := HXY.out; omega)
        rw [e1, e2] at HQ
        go_wp2
        go_ret
        exact ⟨congrArg (fun b => Ending.returned (.bool b)) (decide_eq_true HQ.out).symm, HB.out⟩
  · have hne : decide (xs.map RF.q = ys.map RF.q) = false := decide_eq_false (fun e => hxy (by have := congrArg List.length e; simpa using this))
    rw [hne]
    have h1 : ¬ (xs.length : Int) = (ys.length : Int) := by omega
    go_wp2
    go_ret
    exact ⟨rfl, Below.refl _ _⟩
end Go.Proofs.YthjpkichpkomcaaGreatDoor
