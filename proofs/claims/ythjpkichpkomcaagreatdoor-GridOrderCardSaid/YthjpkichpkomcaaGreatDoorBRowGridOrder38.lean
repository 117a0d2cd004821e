/- RowI -/
import Derived.Test.YthjpkichpkomcaaGreatDoorBRowGridOrder37
/- Matrices of fractions (grid): Turn. -/
namespace Go.Proofs.YthjpkichpkomcaaGreatDoor
open Go.RowKit Go.Proofs.YthjpkichpkomcaaGreatDoor.Big
set_option linter.unusedVariables false
set_option maxRecDepth 100000
attribute [local go_sem ↓] Go.wp_at_zero Go.wp_at_succ

theorem info_row : (Tryz.prog.info? 68).map (fun i => (i.zero, i.size, i.bytes)) = some (some (.slice none 0 0), 1, 24) := by kernel_rfl

/-- A matrix that was made, of right fractions of these values. -/
def MatOut (m : List (List Rat)) (w : World) (e : Ending) (w' : World) : Prop := ∃ v rows, e = .returned v ∧ OwE 68 w.heap.size (fun k => w.heap.size ≤ k) w' v (rows : List (RV RF)) ∧ rows.map rowQ = m ∧ (∀ r ∈ rows, ∀ x ∈ r.l, Rt x) ∧ Below w.heap.size w w'
def colQ (m : List (RV RF)) (i : Nat) : List Rat := m.map (fun r => (rowQ r).getD i 0)
def turnQ (m : List (RV RF)) (n : Nat) : List (List Rat) := (List.range n).map (colQ m)

set_option maxHeartbeats 2000000 in
theorem grid_Turn (p : Nat → Prop) (A : Option Addr) (c : Nat) (rows : List (RV RF)) (w : World) (h : Rw p w A rows) (hc : rows.length ≤ c) (hl : rows.length ≤ 1000) (hr : rightM rows = true) (hw : widthM rows ≤ 1000) :
    Calls Tryz.prog 38 #[.slice A rows.length c] w (MatOut (turnQ rows (widthM rows)) w) := by
  obtain ⟨i0, hi, hi0, hi1, hi2⟩ := info_parts info_frac
  obtain ⟨j0, hJ, hJ0, hJ1, hJ2⟩ := info_parts info_row
  have HRL : Asd (∀ r ∈ rows, r.l.length = widthM rows) := ⟨fun r h1 => by
    unfold rightM at hr
    simpa using List.all_eq_true.1 hr r h1⟩
  have hright := grid_Right p A c rows w h hc (by omega)
  have hwidth := grid_Width p A c rows w h hc
  rw [hr] at hright
  generalize hn : widthM rows = n at *
  have HG := Asd.mk hright; have HW := Asd.mk hwidth
  clear hright hwidth hn hr
  go_enter Tryz.func38, Tryz.ntmps38
  go_wp2_with fail
  refine HG.out.mono ?_
  rintro e w1 ⟨rfl, rfl⟩
  go_wp2_with fail
  refine HW.out.mono ?_
  rintro e w1 ⟨rfl, rfl⟩
  go_wp2_with fail
  go_loopw [3, 13] (fun v i wq => ∃ (k : Nat) (ms : List (RV RF)), k ≤ n ∧ i = .int .i64 (k : Int) ∧ Asd (OwE 68 w.heap.size (fun k => w.heap.size ≤ k) wq v ms) ∧ Asd (ms.map rowQ = (List.range k).map (colQ rows)) ∧ Asd (∀ r ∈ ms, ∀ x ∈ r.l, Rt x) ∧ Asd (Below w.heap.size w wq)) (fun _ i _ => (n - intOf i).toNat)
  case atStart => exact ⟨0, [], Nat.zero_le _, rfl, ⟨OwE.nil _ _ _ _⟩, ⟨rfl⟩, ⟨by simp⟩, ⟨Below.refl _ _⟩⟩
  case round =>
    obtain ⟨k, ms, hk, rfl, HO, HQ, HR, HB⟩ := hrel
    by_cases hkl : k < n
    · have hszV := HB.out.size
      have hml : ms.length = k := by have := congrArg List.length HQ.out; simpa using this
      have hrV := Asd.mk (h.below HB.out)
      generalize wr = V at *
      go_wp2_with fail
      go_loopw [5, 18] (fun v i wq => ∃ (j : Nat) (ys : List RF), j ≤ rows.length ∧ i = .int .i64 (j : Int) ∧ Asd (OwE 30 V.heap.size (fun k => V.heap.size ≤ k) wq v ys) ∧ Asd (ys.map RF.q = (rows.take j).map (fun r => (rowQ r).getD k 0)) ∧ Asd (∀ y ∈ ys, Rt y) ∧ Asd (Below V.heap.size V wq)) (fun _ i _ => (rows.length - intOf i).toNat)
      case atStart => exact ⟨0, [], Nat.zero_le _, rfl, ⟨OwE.nil _ _ _ _⟩, ⟨rfl⟩, ⟨by simp⟩, ⟨Below.refl _ _⟩⟩
      case round =>
        obtain ⟨j, ys, hj, rfl, HY, HQ2, HR2, HB2⟩ := hrel
        by_cases hjl : j < rows.length
        · obtain ⟨r, hr⟩ : ∃ r, rows[j]? = some r := ⟨_, List.getElem?_eq_getElem hjl⟩
          have HRL2 := Asd.mk (HRL.out r (List.mem_of_getElem? hr))
          obtain ⟨x, hx⟩ : ∃ x, r.l[k]? = some x := ⟨_, List.getElem?_eq_getElem (by rw [HRL2.out]; exact hkl)⟩
          obtain ⟨ad, hA, hp, hrr, hrc, hc0⟩ := (hrV.out.below HB2.out).cells1 hr
          obtain ⟨rA, rc, rl⟩ := r
          dsimp only at hrr hrc hx HRL2 hc0
          obtain ⟨ad2, hA2, hp2, hox, hd0, hd1, hd2⟩ := hrr.cells3 hx
          subst hA hA2
          have hgx : Asd ((rowQ ⟨some ad2, rc, rl⟩).getD k 0 = x.q) := ⟨by unfold rowQ; rw [List.getD_eq_getElem?_getD, List.getElem?_map, hx]; rfl⟩
          have hyl : ys.length = j := by have := congrArg List.length HQ2.out; simp at this; omega
          have hlt := fun g e => (HY.out.lt g e).2
          have hsz2 := HB2.out.size
          rw [HRL2.out] at hc0
          go_wp2_with fail
          refine (frac_Norm _ x _ hox).mono ?_
          rintro e w1 hfn
          obtain ⟨y, rfl, hqy, hRy, hyok, hb1⟩ := hfn.rf (sz_ok hox)
          have hO1 := HY.out.below hb1
          have hB1 := below_go HB2.out hb1
          have hs1 := hb1.size
          go_wp2_with (at_builtin; refine wpList_push rfl _ _ 68 rfl _ _ 30 i0 _ 56 Tryz.underlying68 hi hi0 hi1 hi2 rfl _ _ rfl y w1 rfl hO1 (Elm.mono (α := RF) hyok (fun k _ hk => ⟨by omega, .inr fun e => by have := hlt k e; omega⟩)) (by omega) (by omega) (by decide) ?_)
          intro v' w4 hP hgrow hown
          go_wp2
          go_roundw
          case rel => exact ⟨j + 1, _, by omega, by go_num, ⟨hP⟩, ⟨by rw [take_more hr, List.map_append, List.map_append, HQ2.out]; simp only [List.map_cons, List.map_nil, hqy]; rw [hgx.out]⟩, ⟨fun z hz => by
            rcases List.mem_append.1 hz with h1 | h1
            · exact HR2.out z h1
            · rw [List.mem_singleton.1 h1]; exact hRy⟩, ⟨hB1.grown hgrow (by omega) (fun g hg => (hown g hg).1)⟩⟩
          case measure => simp [intOf]; omega
        · have e : rows.take j = rows := List.take_of_length_le (by omega)
          rw [e] at HQ2
          obtain ⟨Ac, cc, rfl, hcc, hRw⟩ := HY.out.rd
          have hO1 := HO.out.below HB2.out
          have hsz2 := HB2.out.size
          have hlt := fun g e => (HO.out.lt g e).2
          have hB1 := below_go HB.out HB2.out
          have hok : Elm.ok (α := RV RF) (fun k => w.heap.size ≤ k ∧ (k < w.heap.size ∨ Value.ownBlock u3 ≠ some k)) wr ⟨Ac, cc, ys⟩ := ⟨hRw.mono (fun k _ hk => ⟨by omega, .inr fun e => by have := hlt k e; omega⟩), hcc⟩
          go_wp2_with (at_builtin; go_loud (refine wpList_push rfl _ _ 48 rfl _ _ 68 j0 _ 24 Tryz.underlying48 hJ hJ0 hJ1 hJ2 rfl _ _ rfl (⟨Ac, cc, ys⟩ : RV RF) wr rfl hO1 hok (by omega) (by omega) (by decide) ?_))
          intro v' w4 hP hgrow hown
          go_wp2
          go_roundw
          case rel => exact ⟨k + 1, _, by omega, by go_num, ⟨hP⟩, ⟨by rw [List.range_succ, List.map_append, List.map_append, HQ.out]; simp [rowQ, colQ, HQ2.out]⟩, ⟨fun z hz => by
            rcases List.mem_append.1 hz with h1 | h1
            · exact HR.out z h1
            · rw [List.mem_singleton.1 h1]; exact HR2.out⟩, ⟨hB1.grown hgrow (by omega) (fun g hg => (hown g hg).1)⟩⟩
          case measure => simp [intOf]; omega
    · have hk2 : k = n := by omega
      subst hk2
      go_wp2
      go_ret
      exact ⟨_, ms, rfl, HO.out, HQ.out, HR.out, HB.out⟩
end Go.Proofs.YthjpkichpkomcaaGreatDoor
