/- RowH · RowI · RowJ -/
import Derived.Test.YthjpkichpkomcaaGreatDoorBRowFigureNear48
/- Matrices of fractions (grid): Width, Right, Same. -/
namespace Go.Proofs.YthjpkichpkomcaaGreatDoor
open Go.RowKit Go.Proofs.YthjpkichpkomcaaGreatDoor.Big
set_option linter.unusedVariables false
set_option maxRecDepth 100000
attribute [local go_sem ↓] Go.wp_at_zero Go.wp_at_succ

def widthM (rows : List (RV RF)) : Nat := match rows[0]? with | none => 0 | some r => r.l.length
def rightM (rows : List (RV RF)) : Bool := rows.all (fun r => decide (r.l.length = widthM rows))
theorem widthM_some {rows : List (RV RF)} {r : RV RF} (h : rows[0]? = some r) : widthM rows = r.l.length := by unfold widthM; rw [h]

set_option maxHeartbeats 1000000 in
theorem grid_Width (p : Nat → Prop) (A : Option Addr) (c : Nat) (rows : List (RV RF)) (w : World) (h : Rw p w A rows) (hc : rows.length ≤ c) :
    Calls Tryz.prog 41 #[.slice A rows.length c] w fun e w' => w = w' ∧ e = .returned (.int .i64 (widthM rows : Int)) := by
  go_enter Tryz.func41, Tryz.ntmps41
  by_cases h0 : rows.length = 0
  · have HW : Asd (widthM rows = 0) := ⟨by rw [List.eq_nil_of_length_eq_zero h0]; rfl⟩
    rw [h0]
    go_wp2
    go_ret
    exact ⟨rfl, by rw [HW.out]; rfl⟩
  · obtain ⟨r, hr⟩ : ∃ r, rows[0]? = some r := ⟨_, List.getElem?_eq_getElem (by omega)⟩
    have HW := Asd.mk (widthM_some hr)
    obtain ⟨ad, rfl, hp, hrr, hrc, hc0⟩ := h.cells1 hr
    have e0 : ad.add 0 = ad := by simp [Addr.add]
    rw [e0] at hc0
    have h1 : ¬ (rows.length : Int) = 0 := by omega
    have h2 : (0 : Int) < (rows.length : Int) := by omega
    go_wp2
    go_ret
    exact ⟨rfl, congrArg (fun n : Nat => Ending.returned (.int .i64 (n : Int))) HW.out.symm⟩

set_option maxHeartbeats 1000000 in
theorem grid_Right (p : Nat → Prop) (A : Option Addr) (c : Nat) (rows : List (RV RF)) (w : World) (h : Rw p w A rows) (hc : rows.length ≤ c) (hl : rows.length ≤ 100000) :
    Calls Tryz.prog 40 #[.slice A rows.length c] w fun e w' => w = w' ∧ e = .returned (.bool (rightM rows)) := by
  go_enter Tryz.func40, Tryz.ntmps40
  go_wp2_with fail
  go_loopw [7] (fun i wq => w = wq ∧ ∃ k : Nat, k ≤ rows.length ∧ i = .int .i64 (k : Int) ∧ Asd ((rows.take k).all (fun r => decide (r.l.length = widthM rows)) = true)) (fun i _ => (rows.length - intOf i).toNat)
  case atStart => exact ⟨rfl, 0, Nat.zero_le _, rfl, ⟨by simp⟩⟩
  case round =>
    obtain ⟨rfl, k, hk, rfl, HA⟩ := hrel
    by_cases hkl : k < rows.length
    · obtain ⟨r, hr⟩ : ∃ r, rows[k]? = some r := ⟨_, List.getElem?_eq_getElem hkl⟩
      have hgw := Asd.mk (grid_Width p A c rows w h hc)
      obtain ⟨ad, hA, hp, hrr, hrc, hc0⟩ := h.cells1 hr
      have HM : Asd ((rows.take (k + 1)).all (fun r => decide (r.l.length = widthM rows)) = decide (r.l.length = widthM rows)) := ⟨by rw [take_more hr, List.all_append, HA.out]; simp⟩
      have HN : Asd (¬ r.l.length = widthM rows → rightM rows = false) := ⟨fun hn => by
        unfold rightM
        rw [List.all_eq_false]
        exact ⟨r, List.mem_of_getElem? hr, by simpa using hn⟩⟩
      subst hA
      generalize r.l.length = rl at *
      generalize hwm : widthM rows = wm at *
      by_cases hq : rl = wm
      · rw [decide_eq_true hq] at HM
        subst hq
        go_wp2_with fail
        refine hgw.out.mono ?_
        rintro e w1 ⟨rfl, rfl⟩
        go_wp2
        go_roundw
        case rel => exact ⟨trivial, k + 1, by omega, by go_num, HM⟩
        case measure => simp [intOf]; omega
      · have HN2 := Asd.mk (HN.out hq)
        have hq1 : ¬ (rl : Int) = (wm : Int) := by omega
        clear HN
        go_wp2_with fail
        refine hgw.out.mono ?_
        rintro e w1 ⟨rfl, rfl⟩
        go_wp2
        go_ret
        exact ⟨rfl, congrArg (fun b => Ending.returned (.bool b)) HN2.out.symm⟩
    · have e : rows.take k = rows := List.take_of_length_le (by omega)
      rw [e] at HA
      have HR : Asd (rightM rows = true) := ⟨HA.out⟩
      go_wp2
      go_ret
      exact ⟨rfl, congrArg (fun b => Ending.returned (.bool b)) HR.out.symm⟩
end Go.Proofs.YthjpkichpkomcaaGreatDoor
/- Matrices of fractions (grid): Turn. -/
namespace Go.Proofs.YthjpkichpkomcaaGreatDoor
open Go.RowKit Go.Proofs.YthjpkichpkomcaaGreatDoor.Big
set_option linter.unusedVariables false
set_option maxRecDepth 100000
attribute [local go_sem ↓] Go.wp_at_zero Go.wp_at_succ

theorem info_row : (Tryz.prog.info? 68).map (fun i => (i.zero, i.size, i.bytes)) = some (some (.slice none 0 0), 1, 24) := by kernel_rfl

/-- A matrix that was made, of right fractions of these values. -/
def MatOut (m : List (List Rat)) (w : World) (e : Ending) (w' : World) : Prop := ∃ v rows, e = .returned v ∧ OwE 68 w.heap.size (fun k => w.heap.size ≤ k) w' v (rows : List (RV RF)) ∧ rows.map rowQ = m ∧ (∀ r ∈ rows, ∀ x ∈ r.l, Rt x) ∧ Below w.heap.size w w'
def colQ (m : List (RV RF)) (i : Nat) : List Rat := m.map (fun r => (rowQ r).getD i 0)
def turnQ (m : List (RV RF)) (n : Nat) : List (List Rat) := (List.range n).map (colQ m)

set_option maxHeartbeats 2000000 in
theorem grid_Turn (p : Nat → Prop) (A : Option Addr) (c : Nat) (rows : List (RV RF)) (w : World) (h : Rw p w A rows) (hc : rows.length ≤ c) (hl : rows.length ≤ 1000) (hr : rightM rows = true) (hw : widthM rows ≤ 1000) :
    Calls Tryz.prog 38 #[.slice A rows.length c] w (MatOut (turnQ rows (widthM rows)) w) := by
  obtain ⟨i0, hi, hi0, hi1, hi2⟩ := info_parts info_frac
  obtain ⟨j0, hJ, hJ0, hJ1, hJ2⟩ := info_parts info_row
  have HRL : Asd (∀ r ∈ rows, r.l.length = widthM rows) := ⟨fun r h1 => by
    unfold rightM at hr
    simpa using List.all_eq_true.1 hr r h1⟩
  have hright := grid_Right p A c rows w h hc (by omega)
  have hwidth := grid_Width p A c rows w h hc
  rw [hr] at hright
  generalize hn : widthM rows = n at *
  have HG := Asd.mk hright; have HW := Asd.mk hwidth
  clear hright hwidth hn hr
  go_enter Tryz.func38, Tryz.ntmps38
  go_wp2_with fail
  refine HG.out.mono ?_
  rintro e w1 ⟨rfl, rfl⟩
  go_wp2_with fail
  refine HW.out.mono ?_
  rintro e w1 ⟨rfl, rfl⟩
  go_wp2_with fail
  go_loopw [3, 13] (fun v i wq => ∃ (k : Nat) (ms : List (RV RF)), k ≤ n ∧ i = .int .i64 (k : Int) ∧ Asd (OwE 68 w.heap.size (fun k => w.heap.size ≤ k) wq v ms) ∧ Asd (ms.map rowQ = (List.range k).map (colQ rows)) ∧ Asd (∀ r ∈ ms, ∀ x ∈ r.l, Rt x) ∧ Asd (Below w.heap.size w wq)) (fun _ i _ => (n - intOf i).toNat)
  case atStart => exact ⟨0, [], Nat.zero_le _, rfl, ⟨OwE.nil _ _ _ _⟩, ⟨rfl⟩, ⟨by simp⟩, ⟨Below.refl _ _⟩⟩
  case round =>
    obtain ⟨k, ms, hk, rfl, HO, HQ, HR, HB⟩ := hrel
    by_cases hkl : k < n
    · have hszV := HB.out.size
      have hml : ms.length = k := by have := congrArg List.length HQ.out; simpa using this
      have hrV := Asd.mk (h.below HB.out)
      generalize wr = V at *
      go_wp2_with fail
      go_loopw [5, 18] (fun v i wq => ∃ (j : Nat) (ys : List RF), j ≤ rows.length ∧ i = .int .i64 (j : Int) ∧ Asd (OwE 30 V.heap.size (fun k => V.heap.size ≤ k) wq v ys) ∧ Asd (ys.map RF.q = (rows.take j).map (fun r => (rowQ r).getD k 0)) ∧ Asd (∀ y ∈ ys, Rt y) ∧ Asd (Below V.heap.size V wq)) (fun _ i _ => (rows.length - intOf i).toNat)
      case atStart => exact ⟨0, [], Nat.zero_le _, rfl, ⟨OwE.nil _ _ _ _⟩, ⟨rfl⟩, ⟨by simp⟩, ⟨Below.refl _ _⟩⟩
      case round =>
        obtain ⟨j, ys, hj, rfl, HY, HQ2, HR2, HB2⟩ := hrel
        by_cases hjl : j < rows.length
        · obtain ⟨r, hr⟩ : ∃ r, rows[j]? = some r := ⟨_, List.getElem?_eq_getElem hjl⟩
          have HRL2 := Asd.mk (HRL.out r (List.mem_of_getElem? hr))
          obtain ⟨x, hx⟩ : ∃ x, r.l[k]? = some x := ⟨_, List.getElem?_eq_getElem (by rw [HRL2.out]; exact hkl)⟩
          obtain ⟨ad, hA, hp, hrr, hrc, hc0⟩ := (hrV.out.below HB2.out).cells1 hr
          obtain ⟨rA, rc, rl⟩ := r
          dsimp only at hrr hrc hx HRL2 hc0
          obtain ⟨ad2, hA2, hp2, hox, hd0, hd1, hd2⟩ := hrr.cells3 hx
          subst hA hA2
          have hgx : Asd ((rowQ ⟨some ad2, rc, rl⟩).getD k 0 = x.q) := ⟨by unfold rowQ; rw [List.getD_eq_getElem?_getD, List.getElem?_map, hx]; rfl⟩
          have hyl : ys.length = j := by have := congrArg List.length HQ2.out; simp at this; omega
          have hlt := fun g e => (HY.out.lt g e).2
          have hsz2 := HB2.out.size
          rw [HRL2.out] at hc0
          go_wp2_with fail
          refine (frac_Norm _ x _ hox).mono ?_
          rintro e w1 hfn
          obtain ⟨y, rfl, hqy, hRy, hyok, hb1⟩ := hfn.rf (sz_ok hox)
          have hO1 := HY.out.below hb1
          have hB1 := below_go HB2.out hb1
          have hs1 := hb1.size
          go_wp2_with (at_builtin; refine wpList_push rfl _ _ 68 rfl _ _ 30 i0 _ 56 Tryz.underlying68 hi hi0 hi1 hi2 rfl _ _ rfl y w1 rfl hO1 (Elm.mono (α := RF) hyok (fun k _ hk => ⟨by omega, .inr fun e => by have := hlt k e; omega⟩)) (by omega) (by omega) (by decide) ?_)
          intro v' w4 hP hgrow hown
          go_wp2
          go_roundw
          case rel => exact ⟨j + 1, _, by omega, by go_num, ⟨hP⟩, ⟨by rw [take_more hr, List.map_append, List.map_append, HQ2.out]; simp only [List.map_cons, List.map_nil, hqy]; rw [hgx.out]⟩, ⟨fun z hz => by
            rcases List.mem_append.1 hz with h1 | h1
            · exact HR2.out z h1
            · rw [List.mem_singleton.1 h1]; exact hRy⟩, ⟨hB1.grown hgrow (by omega) (fun g hg => (hown g hg).1)⟩⟩
          case measure => simp [intOf]; omega
        · have e : rows.take j = rows := List.take_of_length_le (by omega)
          rw [e] at HQ2
          obtain ⟨Ac, cc, rfl, hcc, hRw⟩ := HY.out.rd
          have hO1 := HO.out.below HB2.out
          have hsz2 := HB2.out.size
          have hlt := fun g e => (HO.out.lt g e).2
          have hB1 := below_go HB.out HB2.out
          have hok : Elm.ok (α := RV RF) (fun k => w.heap.size ≤ k ∧ (k < w.heap.size ∨ Value.ownBlock u3 ≠ some k)) wr ⟨Ac, cc, ys⟩ := ⟨hRw.mono (fun k _ hk => ⟨by omega, .inr fun e => by have := hlt k e; omega⟩), hcc⟩
          go_wp2_with (at_builtin; go_loud (refine wpList_push rfl _ _ 48 rfl _ _ 68 j0 _ 24 Tryz.underlying48 hJ hJ0 hJ1 hJ2 rfl _ _ rfl (⟨Ac, cc, ys⟩ : RV RF) wr rfl hO1 hok (by omega) (by omega) (by decide) ?_))
          intro v' w4 hP hgrow hown
          go_wp2
          go_roundw
          case rel => exact ⟨k + 1, _, by omega, by go_num, ⟨hP⟩, ⟨by rw [List.range_succ, List.map_append, List.map_append, HQ.out]; simp [rowQ, colQ, HQ2.out]⟩, ⟨fun z hz => by
            rcases List.mem_append.1 hz with h1 | h1
            · exact HR.out z h1
            · rw [List.mem_singleton.1 h1]; exact HR2.out⟩, ⟨hB1.grown hgrow (by omega) (fun g hg => (hown g hg).1)⟩⟩
          case measure => simp [intOf]; omega
    · have hk2 : k = n := by omega
      subst hk2
      go_wp2
      go_ret
      exact ⟨_, ms, rfl, HO.out, HQ.out, HR.out, HB.out⟩
end Go.Proofs.YthjpkichpkomcaaGreatDoor
/- Matrices of fractions (grid): Left. -/
namespace Go.Proofs.YthjpkichpkomcaaGreatDoor
open Go.RowKit Go.Proofs.YthjpkichpkomcaaGreatDoor.Big
set_option linter.unusedVariables false
set_option maxRecDepth 100000
attribute [local go_sem ↓] Go.wp_at_zero Go.wp_at_succ

def sumM : List (List Rat) → List Rat
  | [] => []
  | r :: rs => rs.foldl addQ r
def scaledQ (xs : List RF) (rows : List (RV RF)) : List (List Rat) := List.zipWith (fun x r => (rowQ r).map (x.q * ·)) xs rows
def leftQ (xs : List RF) (rows : List (RV RF)) : List Rat := sumM (scaledQ xs rows)

set_option maxHeartbeats 400000 in
theorem row_Add_nil (A : Option Addr) (c : Nat) (w : World) :
    Calls Tryz.prog 87 #[.slice A 0 c] w (RowOut2 [] true w) := by
  go_enter Tryz.func87, Tryz.ntmps87
  go_wp2
  go_ret2
  exact ⟨_, [], rfl, OwE.nil _ _ _ _, rfl, by simp, Below.refl _ _⟩

set_option maxHeartbeats 2000000 in
theorem grid_Left (p p' : Nat → Prop) (A : Option Addr) (c : Nat) (xs : List RF) (A' : Option Addr) (c' : Nat) (rows : List (RV RF)) (n a b : Nat) (w : World) (h : Rw p w A xs) (hc : xs.length ≤ c) (h' : Rw p' w A' rows) (hc' : rows.length ≤ c') (hxr : xs.length = rows.length) (hl : rows.length ≤ 1000) (hw : ∀ r ∈ rows, r.l.length = n) (hn : n ≤ 1000) (hsx : ∀ x ∈ xs, Sz a x.q) (hsr : ∀ r ∈ rows, ∀ x ∈ r.l, Sz b x.q) (hb : rows.length * (a + b + 1) ≤ 10000) :
    Calls Tryz.prog 47 #[.slice A xs.length c, .slice A' rows.length c'] w (RowOut2 (leftQ xs rows) true w) := by
  obtain ⟨j0, hJ, hJ0, hJ1, hJ2⟩ := info_parts info_row
  have hright : rightM rows = true := by
    unfold rightM
    rw [List.all_eq_true]
    intro r hr
    cases h0 : rows[0]? with
    | none => have : rows = [] := by cases rows with | nil => rfl | cons => simp at h0
              rw [this] at hr; simp at hr
    | some r0 => rw [decide_eq_true_eq, widthM_some h0, hw r hr, hw r0 (List.mem_of_getElem? h0)]
  have hgr := grid_Right p' A' c' rows w h' hc' (by omega)
  rw [hright] at hgr
  have HG := Asd.mk hgr
  have HW := Asd.mk hw; have HSX := Asd.mk hsx; have HSR := Asd.mk hsr
  rw [hxr]
  have HXR := Asd.mk hxr
  have hcx : rows.length ≤ c := by omega
  have hab : ∀ k : Nat, k < rows.length → a + b ≤ 10000 := fun k hk => by
    have : 1 * (a + b + 1) ≤ rows.length * (a + b + 1) := Nat.mul_le_mul_right _ (by omega)
    omega
  have HAB := Asd.mk hab
  clear hgr hright hw hsx hsr hxr hab hc
  go_enter Tryz.func47, Tryz.ntmps47
  go_wp2_with fail
  refine HG.out.mono ?_
  rintro e w1 ⟨rfl, rfl⟩
  go_wp2_with fail
  go_loopw [6, 21] (fun v i wq => ∃ (k : Nat) (ms : List (RV RF)), k ≤ rows.length ∧ i = .int .i64 (k : Int) ∧ Asd (OwE 68 w.heap.size (fun k => w.heap.size ≤ k) wq v ms) ∧ Asd (ms.map rowQ = (scaledQ xs rows).take k) ∧ Asd (∀ r ∈ ms, r.l.length = n ∧ ∀ x ∈ r.l, Sz (a + b) x.q) ∧ Asd (Below w.heap.size w wq)) (fun _ i _ => (rows.length - intOf i).toNat)
  case atStart => exact ⟨0, [], Nat.zero_le _, rfl, ⟨OwE.nil _ _ _ _⟩, ⟨rfl⟩, ⟨by simp⟩, ⟨Below.refl _ _⟩⟩
  case round =>
    obtain ⟨k, ms, hk, rfl, HO, HQ, HR, HB⟩ := hrel
    by_cases hkl : k < rows.length
    · obtain ⟨x, hx⟩ : ∃ x, xs[k]? = some x := ⟨_, List.getElem?_eq_getElem (by rw [HXR.out]; exact hkl)⟩
      obtain ⟨r, hr⟩ : ∃ r, rows[k]? = some r := ⟨_, List.getElem?_eq_getElem hkl⟩
      have HSC : Asd ((scaledQ xs rows)[k]? = some ((rowQ r).map (x.q * ·))) := ⟨by unfold scaledQ; rw [List.getElem?_zipWith, hx, hr]⟩
      have HRL := Asd.mk (HW.out r (List.mem_of_getElem? hr))
      have HSX1 := Asd.mk (HSX.out x (List.mem_of_getElem? hx))
      have HSR1 := Asd.mk (HSR.out r (List.mem_of_getElem? hr))
      obtain ⟨ad, hA, hp, hox, hc0, hc1, hc2⟩ := (h.below HB.out).cells3 hx
      obtain ⟨ad2, hA2, hp2, hrr, hrc, hd0⟩ := (h'.below HB.out).cells1 hr
      have hml : ms.length = k := by
        have := congrArg List.length HQ.out
        rw [List.length_map, List.length_take] at this
        have h2 : (scaledQ xs rows).length = rows.length := by unfold scaledQ; rw [List.length_zipWith, HXR.out]; exact Nat.min_self _
        omega
      subst hA hA2
      have hszV := HB.out.size
      have hlt := fun g e => (HO.out.lt g e).2
      have hab1 := HAB.out k hkl
      go_wp2_with fail
      refine (row_Scale _ _ x r.A r.c r.l wr hox hrr hrc (by rw [HRL.out]; omega) (fun y hy => (sz_mul HSX1.out (HSR1.out y hy)).mono hab1)).mono ?_
      rintro e w1 ⟨v, ys, rfl, hOy, hQy, hRy, hb1⟩
      obtain ⟨Ay, cy, rfl, hcy, hRwy⟩ := hOy.rd
      have hO1 := HO.out.below hb1
      have hB1 := below_go HB.out hb1
      have hs1 := hb1.size
      have hYL : Asd (ys.length = n) := ⟨by have := congrArg List.length hQy; simp at this; rw [this]; exact HRL.out⟩
      have hYS : Asd (∀ z ∈ ys, Sz (a + b) z.q) := ⟨fun z hz => by
        have h1 : z.q ∈ ys.map RF.q := List.mem_map_of_mem hz
        rw [hQy] at h1
        obtain ⟨y, hy, e⟩ := List.mem_map.1 h1
        rw [← e]; exact sz_mul HSX1.out (HSR1.out y hy)⟩
      have HQy : Asd (rowQ ⟨Ay, cy, ys⟩ = (rowQ r).map (x.q * ·)) := ⟨by unfold rowQ; rw [hQy, List.map_map]; rfl⟩
      have hok : Elm.ok (α := RV RF) (fun k => w.heap.size ≤ k ∧ (k < w.heap.size ∨ Value.ownBlock u6 ≠ some k)) w1 ⟨Ay, cy, ys⟩ := ⟨hRwy.mono (fun k _ hk => ⟨by omega, .inr fun e => by have := hlt k e; omega⟩), hcy⟩
      clear hQy
      go_wp2_with (at_builtin; go_loud (refine wpList_push rfl _ _ 48 rfl _ _ 68 j0 _ 24 Tryz.underlying48 hJ hJ0 hJ1 hJ2 rfl _ _ rfl (⟨Ay, cy, ys⟩ : RV RF) w1 rfl hO1 hok (by omega) (by omega) (by decide) ?_))
      intro v' w4 hP hgrow hown
      go_wp2
      go_roundw
      case rel => exact ⟨k + 1, _, by omega, by go_num, ⟨hP⟩, ⟨by rw [take_more HSC.out, List.map_append, HQ.out, ← HQy.out]; rfl⟩, ⟨fun z hz => by
        rcases List.mem_append.1 hz with h1 | h1
        · exact HR.out z h1
        · rw [List.mem_singleton.1 h1]; exact ⟨hYL.out, hYS.out⟩⟩, ⟨hB1.grown hgrow (by omega) (fun g hg => (hown g hg).1)⟩⟩
      case measure => simp [intOf]; omega
    · have e : (scaledQ xs rows).take k = scaledQ xs rows := List.take_of_length_le (by unfold scaledQ; rw [List.length_zipWith]; omega)
      rw [e] at HQ
      obtain ⟨Am, cm, rfl, hcm, hRm⟩ := HO.out.rd
      have hml : ms.length = rows.length := by
        have := congrArg List.length HQ.out
        rw [List.length_map] at this
        have h2 : (scaledQ xs rows).length = rows.length := by unfold scaledQ; rw [List.length_zipWith, HXR.out]; exact Nat.min_self _
        omega
      have HADD : Asd (Calls Tryz.prog 87 #[.slice Am ms.length cm] wr (RowOut2 (leftQ xs rows) true wr)) := ⟨by
        cases hms : ms with
        | nil =>
          have : leftQ xs rows = [] := by unfold leftQ; rw [← HQ.out, hms]; rfl
          rw [this]
          exact row_Add_nil Am cm wr
        | cons r0 rs =>
          have := row_Add _ Am cm ms r0 rs n (a + b) wr hRm hms hcm (by omega) (fun r hr => (HR.out r hr).1) hn (fun r hr => (HR.out r hr).2) (by rw [hml]; exact hb)
          have e2 : leftQ xs rows = (rs.map rowQ).foldl addQ (rowQ r0) := by unfold leftQ; rw [← HQ.out, hms]; rfl
          rw [e2, ← hms]
          exact this⟩
      have hszV := HB.out.size
      clear hml
      go_wp2_with fail
      refine HADD.out.mono ?_
      rintro e w1 ⟨v, ys, rfl, hOy, hQy, hRy, hb1⟩
      go_wp2
      go_ret2
      exact ⟨v, ys, rfl, hOy.low hszV (fun k _ hk => by omega), hQy, hRy, below_go HB.out hb1⟩
end Go.Proofs.YthjpkichpkomcaaGreatDoor
