/- RowK · RowL · RowM · RowN · RowO -/
import Derived.Test.YthjpkichpkomcaaGreatDoorBRowFigureNear49
import Derived.Test.YthjpkichpkomcaaGreatDoorBRowFigureNear19
import Derived.BigQuiet
import Derived.Deep.RegionHeld3
/- Matrices of fractions (grid): Apply. -/
namespace Go.Proofs.YthjpkichpkomcaaGreatDoor
open Go.RowKit Go.Proofs.YthjpkichpkomcaaGreatDoor.Big
set_option linter.unusedVariables false
set_option maxRecDepth 100000
attribute [local go_sem ↓] Go.wp_at_zero Go.wp_at_succ

def applyQ (rows : List (RV RF)) (ys : List RF) : List Rat := rows.map (fun r => sumQ (prodsQ r.l ys))
theorem right_of {rows : List (RV RF)} {n : Nat} (hw : ∀ r ∈ rows, r.l.length = n) : rightM rows = true := by
  unfold rightM
  rw [List.all_eq_true]
  intro r hr
  cases h0 : rows[0]? with
  | none =>
    have : rows = [] := by
      cases rows with
      | nil => rfl
      | cons => simp at h0
    rw [this] at hr; simp at hr
  | some r0 => rw [decide_eq_true_eq, widthM_some h0, hw r hr, hw r0 (List.mem_of_getElem? h0)]

set_option maxHeartbeats 2000000 in
theorem grid_Apply (p p' : Nat → Prop) (A : Option Addr) (c : Nat) (rows : List (RV RF)) (A' : Option Addr) (c' : Nat) (ys : List RF) (a b : Nat) (w : World) (h : Rw p w A rows) (hc : rows.length ≤ c) (h' : Rw p' w A' ys) (hc' : ys.length ≤ c') (hl : rows.length ≤ 1000) (hn : ys.length ≤ 1000) (hw : ∀ r ∈ rows, r.l.length = ys.length) (hwm : widthM rows = ys.length) (hsr : ∀ r ∈ rows, ∀ x ∈ r.l, Sz a x.q) (hsy : ∀ x ∈ ys, Sz b x.q) (hb : 1 + ys.length * (a + b + 1) ≤ 10000) :
    Calls Tryz.prog 49 #[.slice A rows.length c, .slice A' ys.length c'] w (RowOut2 (applyQ rows ys) true w) := by
  obtain ⟨i0, hi, hi0, hi1, hi2⟩ := info_parts info_frac
  have hgr := grid_Right p A c rows w h hc (by omega)
  rw [right_of hw] at hgr
  have hgw := grid_Width p A c rows w h hc
  rw [hwm] at hgw
  have HG := Asd.mk hgr; have HGW := Asd.mk hgw
  have HW := Asd.mk hw; have HSR := Asd.mk hsr; have HSY := Asd.mk hsy
  clear hgr hgw hw hsr hsy hwm
  go_enter Tryz.func49, Tryz.ntmps49
  go_wp2_with fail
  refine HGW.out.mono ?_
  rintro e w1 ⟨rfl, rfl⟩
  go_wp2_with fail
  refine HG.out.mono ?_
  rintro e w1 ⟨rfl, rfl⟩
  go_wp2_with fail
  go_loopw [6, 23] (fun v i wq => ∃ (k : Nat) (zs : List RF), k ≤ rows.length ∧ i = .int .i64 (k : Int) ∧ Asd (OwE 30 w.heap.size (fun k => w.heap.size ≤ k) wq v zs) ∧ Asd (zs.map RF.q = (applyQ rows ys).take k) ∧ Asd (∀ z ∈ zs, Rt z) ∧ Asd (Below w.heap.size w wq)) (fun _ i _ => (rows.length - intOf i).toNat)
  case atStart => exact ⟨0, [], Nat.zero_le _, rfl, ⟨OwE.nil _ _ _ _⟩, ⟨rfl⟩, ⟨by simp⟩, ⟨Below.refl _ _⟩⟩
  case round =>
    obtain ⟨k, zs, hk, rfl, HO, HQ, HR, HB⟩ := hrel
    by_cases hkl : k < rows.length
    · obtain ⟨r, hr⟩ : ∃ r, rows[k]? = some r := ⟨_, List.getElem?_eq_getElem hkl⟩
      have HSC : Asd ((applyQ rows ys)[k]? = some (sumQ (prodsQ r.l ys))) := ⟨by unfold applyQ; rw [List.getElem?_map, hr]; rfl⟩
      have HRL := Asd.mk (HW.out r (List.mem_of_getElem? hr))
      have HSR1 := Asd.mk (HSR.out r (List.mem_of_getElem? hr))
      obtain ⟨ad, hA, hp, hrr, hrc, hc0⟩ := (h.below HB.out).cells1 hr
      have hyw := h'.below HB.out
      have hzl : zs.length = k := by
        have := congrArg List.length HQ.out
        rw [List.length_map, List.length_take] at this
        have h2 : (applyQ rows ys).length = rows.length := by unfold applyQ; rw [List.length_map]
        omega
      subst hA
      have hszV := HB.out.size
      have hlt := fun g e => (HO.out.lt g e).2
      go_wp2_with fail
      refine (row_Dot _ _ r.A r.c r.l A' c' ys wr hrr hrc hyw hc' HRL.out (by rw [HRL.out]; omega) a b HSR1.out HSY.out (by rw [HRL.out]; exact hb)).mono ?_
      rintro e w1 ⟨y, rfl, hqy, hRy, hyok, hb1⟩
      have hO1 := (HO.out.below hb1).alloc (.cells #[.bool y.n, .slice y.A y.l.length y.c, .slice y.A' y.d.length y.c'] 30)
      have hs1 := hb1.size
      have hB1 := (below_go HB.out hb1).alloc (by omega) (.cells #[.bool y.n, .slice y.A y.l.length y.c, .slice y.A' y.d.length y.c'] 30)
      have hyok1 := hyok.alloc (.cells #[.bool y.n, .slice y.A y.l.length y.c, .slice y.A' y.d.length y.c'] 30)
      have hs3 : (w1.alloc (.cells #[.bool y.n, .slice y.A y.l.length y.c, .slice y.A' y.d.length y.c'] 30)).heap.size = w1.heap.size + 1 := World.size_alloc _ _
      go_wp2_with (at_builtin; go_loud (refine wpList_push rfl _ _ 68 rfl _ _ 30 i0 _ 56 Tryz.underlying68 hi hi0 hi1 hi2 rfl _ _ rfl y (w1.alloc (.cells #[.bool y.n, .slice y.A y.l.length y.c, .slice y.A' y.d.length y.c'] 30)) (by rw [World.size_alloc]; rfl) hO1 (Elm.mono (α := RF) hyok1 (fun k _ hk => ⟨by omega, .inr fun e => by have := hlt k e; omega⟩)) (by omega) (by omega) (by decide) ?_))
      intro v' w4 hP hgrow hown
      go_wp2
      go_roundw
      case rel => exact ⟨k + 1, _, by omega, by go_num, ⟨hP⟩, ⟨by rw [take_more HSC.out, List.map_append, HQ.out, ← hqy]; rfl⟩, ⟨fun z hz => by
        rcases List.mem_append.1 hz with h1 | h1
        · exact HR.out z h1
        · rw [List.mem_singleton.1 h1]; exact hRy⟩, ⟨hB1.grown hgrow (by omega) (fun g hg => (hown g hg).1)⟩⟩
      case measure => simp [intOf]; omega
    · have e : (applyQ rows ys).take k = applyQ rows ys := List.take_of_length_le (by unfold applyQ; rw [List.length_map]; omega)
      rw [e] at HQ
      go_wp2
      go_ret2
      exact ⟨_, zs, rfl, HO.out, HQ.out, HR.out, HB.out⟩
end Go.Proofs.YthjpkichpkomcaaGreatDoor
/- Matrices of fractions (grid): Mul. -/
namespace Go.Proofs.YthjpkichpkomcaaGreatDoor
open Go.RowKit Go.Proofs.YthjpkichpkomcaaGreatDoor.Big
set_option linter.unusedVariables false
set_option maxRecDepth 100000
attribute [local go_sem ↓] Go.wp_at_zero Go.wp_at_succ

/-- A matrix that was made, and a word. -/
def MatOut2 (m : List (List Rat)) (b : Bool) (w : World) (e : Ending) (w' : World) : Prop := ∃ v rows, e = .returned (.tuple #[v, .bool b]) ∧ OwE 68 w.heap.size (fun k => w.heap.size ≤ k) w' v (rows : List (RV RF)) ∧ rows.map rowQ = m ∧ (∀ r ∈ rows, ∀ x ∈ r.l, Rt x) ∧ Below w.heap.size w w'
def mulQ (rows rows' : List (RV RF)) : List (List Rat) := rows.map (fun r => leftQ r.l rows')

set_option maxHeartbeats 2000000 in
theorem grid_Mul (p p' : Nat → Prop) (A : Option Addr) (c : Nat) (rows : List (RV RF)) (A' : Option Addr) (c' : Nat) (rows' : List (RV RF)) (n a b : Nat) (w : World) (h : Rw p w A rows) (hc : rows.length ≤ c) (h' : Rw p' w A' rows') (hc' : rows'.length ≤ c') (hl : rows.length ≤ 1000) (hl' : rows'.length ≤ 1000) (hn : n ≤ 1000) (hw : ∀ r ∈ rows, r.l.length = rows'.length) (hwm : widthM rows = rows'.length) (hw' : ∀ r ∈ rows', r.l.length = n) (hsr : ∀ r ∈ rows, ∀ x ∈ r.l, Sz a x.q) (hsy : ∀ r ∈ rows', ∀ x ∈ r.l, Sz b x.q) (hb : rows'.length * (a + b + 1) ≤ 10000) :
    Calls Tryz.prog 29 #[.slice A rows.length c, .slice A' rows'.length c'] w (MatOut2 (mulQ rows rows') true w) := by
  obtain ⟨i0, hi, hi0, hi1, hi2⟩ := info_parts info_row
  have hgr := grid_Right p A c rows w h hc (by omega)
  rw [right_of hw] at hgr
  have hgr' := grid_Right p' A' c' rows' w h' hc' (by omega)
  rw [right_of hw'] at hgr'
  have hgw := grid_Width p A c rows w h hc
  rw [hwm] at hgw
  have HG := Asd.mk hgr; have HG' := Asd.mk hgr'; have HGW := Asd.mk hgw
  have HW := Asd.mk hw; have HSR := Asd.mk hsr; have HSY := Asd.mk hsy; have HW' := Asd.mk hw'
  clear hgr hgw hw hsr hsy hwm hgr' hw'
  go_enter Tryz.func29, Tryz.ntmps29
  go_wp2_with fail
  refine HG.out.mono ?_
  rintro e w1 ⟨rfl, rfl⟩
  go_wp2_with fail
  refine HG'.out.mono ?_
  rintro e w1 ⟨rfl, rfl⟩
  go_wp2_with fail
  refine HGW.out.mono ?_
  rintro e w1 ⟨rfl, rfl⟩
  go_wp2_with fail
  go_loopw [6, 28] (fun v i wq => ∃ (k : Nat) (zs : List (RV RF)), k ≤ rows.length ∧ i = .int .i64 (k : Int) ∧ Asd (OwE 68 w.heap.size (fun k => w.heap.size ≤ k) wq v zs) ∧ Asd (zs.map rowQ = (mulQ rows rows').take k) ∧ Asd (∀ r ∈ zs, ∀ z ∈ r.l, Rt z) ∧ Asd (Below w.heap.size w wq)) (fun _ i _ => (rows.length - intOf i).toNat)
  case atStart => exact ⟨0, [], Nat.zero_le _, rfl, ⟨OwE.nil _ _ _ _⟩, ⟨rfl⟩, ⟨by simp⟩, ⟨Below.refl _ _⟩⟩
  case round =>
    obtain ⟨k, zs, hk, rfl, HO, HQ, HR, HB⟩ := hrel
    by_cases hkl : k < rows.length
    · obtain ⟨r, hr⟩ : ∃ r, rows[k]? = some r := ⟨_, List.getElem?_eq_getElem hkl⟩
      have HSC : Asd ((mulQ rows rows')[k]? = some (leftQ r.l rows')) := ⟨by unfold mulQ; rw [List.getElem?_map, hr]; rfl⟩
      have HRL := Asd.mk (HW.out r (List.mem_of_getElem? hr))
      have HSR1 := Asd.mk (HSR.out r (List.mem_of_getElem? hr))
      obtain ⟨ad, hA, hp, hrr, hrc, hc0⟩ := (h.below HB.out).cells1 hr
      have hyw := h'.below HB.out
      have hzl : zs.length = k := by
        have := congrArg List.length HQ.out
        rw [List.length_map, List.length_take] at this
        have h2 : (mulQ rows rows').length = rows.length := by unfold mulQ; rw [List.length_map]
        omega
      subst hA
      have hszV := HB.out.size
      have hlt := fun g e => (HO.out.lt g e).2
      go_wp2_with fail
      refine (grid_Left _ _ r.A r.c r.l A' c' rows' n a b wr hrr hrc hyw hc' HRL.out hl' HW'.out hn HSR1.out HSY.out hb).mono ?_
      rintro e w1 ⟨v, ys, rfl, hOy, hQy, hRy, hb1⟩
      obtain ⟨Ay, cy, rfl, hcy, hRwy⟩ := hOy.rd
      have hO1 := HO.out.below hb1
      have hB1 := below_go HB.out hb1
      have hs1 := hb1.size
      have HQy : Asd (rowQ ⟨Ay, cy, ys⟩ = leftQ r.l rows') := ⟨hQy⟩
      have hok : Elm.ok (α := RV RF) (fun k => w.heap.size ≤ k ∧ (k < w.heap.size ∨ Value.ownBlock u6 ≠ some k)) w1 ⟨Ay, cy, ys⟩ := ⟨hRwy.mono (fun k _ hk => ⟨by omega, .inr fun e => by have := hlt k e; omega⟩), hcy⟩
      clear hQy
      go_wp2_with (at_builtin; go_loud (refine wpList_push rfl _ _ 48 rfl _ _ 68 i0 _ 24 Tryz.underlying48 hi hi0 hi1 hi2 rfl _ _ rfl (⟨Ay, cy, ys⟩ : RV RF) w1 rfl hO1 hok (by omega) (by omega) (by decide) ?_))
      intro v' w4 hP hgrow hown
      go_wp2
      go_roundw
      case rel => exact ⟨k + 1, _, by omega, by go_num, ⟨hP⟩, ⟨by rw [take_more HSC.out, List.map_append, HQ.out, ← HQy.out]; rfl⟩, ⟨fun z hz => by
        rcases List.mem_append.1 hz with h1 | h1
        · exact HR.out z h1
        · rw [List.mem_singleton.1 h1]; exact hRy⟩, ⟨hB1.grown hgrow (by omega) (fun g hg => (hown g hg).1)⟩⟩
      case measure => simp [intOf]; omega
    · have e : (mulQ rows rows').take k = mulQ rows rows' := List.take_of_length_le (by unfold mulQ; rw [List.length_map]; omega)
      rw [e] at HQ
      go_wp2
      go_ret2
      exact ⟨_, zs, rfl, HO.out, HQ.out, HR.out, HB.out⟩
end Go.Proofs.YthjpkichpkomcaaGreatDoor
/- Matrices of fractions (grid): Same, Ident. -/
namespace Go.Proofs.YthjpkichpkomcaaGreatDoor
open Go.RowKit Go.Proofs.YthjpkichpkomcaaGreatDoor.Big
set_option linter.unusedVariables false
set_option maxRecDepth 100000
attribute [local go_sem ↓] Go.wp_at_zero Go.wp_at_succ

theorem same_moreM {xs ys : List (RV RF)} {k : Nat} {x y : RV RF} (hx : xs[k]? = some x) (hy : ys[k]? = some y) (h : (xs.take k).map rowQ = (ys.take k).map rowQ) (hq : rowQ x = rowQ y) : (xs.take (k + 1)).map rowQ = (ys.take (k + 1)).map rowQ := by
  rw [take_more hx, take_more hy, List.map_append, List.map_append, h]; simp [hq]
theorem not_sameM {xs ys : List (RV RF)} {k : Nat} {x y : RV RF} (hx : xs[k]? = some x) (hy : ys[k]? = some y) (hq : rowQ x ≠ rowQ y) : ¬ xs.map rowQ = ys.map rowQ := by
  intro e
  have h1 := congrArg (fun l => l[k]?) e
  simp only [List.getElem?_map, hx, hy, Option.map_some, Option.some.injEq] at h1
  exact hq h1

set_option maxHeartbeats 2000000 in
theorem grid_Same (p p' : Nat → Prop) (A : Option Addr) (c : Nat) (xs : List (RV RF)) (A' : Option Addr) (c' : Nat) (ys : List (RV RF)) (w : World) (h : Rw p w A xs) (hc : xs.length ≤ c) (h' : Rw p' w A' ys) (hc' : ys.length ≤ c') (hl : xs.length ≤ 100000) (hw : ∀ r ∈ xs, r.l.length ≤ 1000) :
    Calls Tryz.prog 42 #[.slice A xs.length c, .slice A' ys.length c'] w fun e w' => e = .returned (.bool (decide (xs.map rowQ = ys.map rowQ))) ∧ Below w.heap.size w w' := by
  go_enter Tryz.func42, Tryz.ntmps42
  by_cases hxy : xs.length = ys.length
  · rw [← hxy]
    have HXY := Asd.mk hxy
    have HW := Asd.mk hw
    clear hxy hw
    go_wp2_with fail
    go_loopw [14] (fun i wq => ∃ k : Nat, k ≤ xs.length ∧ i = .int .i64 (k : Int) ∧ Asd ((xs.take k).map rowQ = (ys.take k).map rowQ) ∧ Asd (Below w.heap.size w wq)) (fun i _ => (xs.length - intOf i).toNat)
    case atStart => exact ⟨0, Nat.zero_le _, rfl, ⟨by simp⟩, ⟨Below.refl _ _⟩⟩
    case round =>
      obtain ⟨k, hk, rfl, HQ, HB⟩ := hrel
      by_cases hkl : k < xs.length
      · obtain ⟨x, hx⟩ : ∃ x, xs[k]? = some x := ⟨_, List.getElem?_eq_getElem hkl⟩
        obtain ⟨y, hy⟩ : ∃ y, ys[k]? = some y := ⟨_, List.getElem?_eq_getElem (by have := HXY.out; omega)⟩
        obtain ⟨ad, hA, hp, hox, hoc, hc0⟩ := (h.below HB.out).cells1 hx
        obtain ⟨ad', hA', hp', hoy, hoc', hd0⟩ := (h'.below HB.out).cells1 hy
        have hxl := HW.out x (List.mem_of_getElem? hx)
        have hsz := HB.out.size
        have HD : Asd ((rowQ x = rowQ y → (xs.take (k + 1)).map rowQ = (ys.take (k + 1)).map rowQ) ∧ (rowQ x ≠ rowQ y → decide (xs.map rowQ = ys.map rowQ) = false)) := ⟨fun e => same_moreM hx hy HQ.out e, fun e => decide_eq_false (not_sameM hx hy e)⟩
        have hms := row_Same _ _ x.A x.c x.l y.A y.c y.l wr hox hoc hoy hoc' (by omega)
        subst hA hA'
        by_cases hq : rowQ x = rowQ y
        · have hd : decide (x.l.map RF.q = y.l.map RF.q) = true := decide_eq_true hq
          replace HD := Asd.mk (HD.out.1 hq)
          rw [hd] at hms
          have HMS := Asd.mk hms
          clear hms hd hq
          go_wp2_with fail
          refine HMS.out.mono ?_
          rintro e w2 ⟨rfl, hb1⟩
          go_wp2
          go_roundw
          case rel => exact ⟨k + 1, by omega, by go_num, HD, ⟨below_go HB.out hb1⟩⟩
          case measure => simp [intOf]; omega
        · have hd : decide (x.l.map RF.q = y.l.map RF.q) = false := decide_eq_false hq
          replace HD := Asd.mk (HD.out.2 hq)
          rw [hd] at hms
          have HMS := Asd.mk hms
          clear hms hd hq
          go_wp2_with fail
          refine HMS.out.mono ?_
          rintro e w2 ⟨rfl, hb1⟩
          go_wp2
          go_ret
          exact ⟨congrArg (fun b => Ending.returned (.bool b)) HD.out.symm, below_go HB.out hb1⟩
      · have e1 : xs.take k = xs := List.take_of_length_le (by omega)
        have e2 : ys.take k = ys := List.take_of_length_le (by have := HXY.out; omega)
        rw [e1, e2] at HQ
        go_wp2
        go_ret
        exact ⟨congrArg (fun b => Ending.returned (.bool b)) (decide_eq_true HQ.out).symm, HB.out⟩
  · have hne : decide (xs.map rowQ = ys.map rowQ) = false := decide_eq_false (fun e => hxy (by have := congrArg List.length e; simpa using this))
    rw [hne]
    have h1 : ¬ (xs.length : Int) = (ys.length : Int) := by omega
    go_wp2
    go_ret
    exact ⟨rfl, Below.refl _ _⟩

def identQ (n : Nat) : List (List Rat) := (List.range n).map (fun i => (List.replicate n 0).set i 1)

set_option maxHeartbeats 2000000 in
theorem grid_Ident (z : Int) (n : Nat) (hz : min (max z 0) 6 = (n : Int)) (hn : n ≤ 6) (w : World) :
    Calls Tryz.prog 44 #[.int .i64 z] w (MatOut (identQ n) w) := by
  obtain ⟨i0, hi, hi0, hi1, hi2⟩ := info_parts info_row
  go_enter Tryz.func44, Tryz.ntmps44
  go_wp2_with fail
  go_loopw [3, 9] (fun v i wq => ∃ (k : Nat) (zs : List (RV RF)), k ≤ n ∧ i = .int .i64 (k : Int) ∧ Asd (OwE 68 w.heap.size (fun k => w.heap.size ≤ k) wq v zs) ∧ Asd (zs.map rowQ = (List.range k).map (fun i => (List.replicate n 0).set i 1)) ∧ Asd (∀ r ∈ zs, ∀ z ∈ r.l, Rt z) ∧ Asd (Below w.heap.size w wq)) (fun _ i _ => (n - intOf i).toNat)
  case atStart => exact ⟨0, [], Nat.zero_le _, rfl, ⟨OwE.nil _ _ _ _⟩, ⟨rfl⟩, ⟨by simp⟩, ⟨Below.refl _ _⟩⟩
  case round =>
    obtain ⟨k, zs, hk, rfl, HO, HQ, HR, HB⟩ := hrel
    by_cases hkl : k < n
    · have hzl : zs.length = k := by have := congrArg List.length HQ.out; simpa using this
      have hszV := HB.out.size
      have hlt := fun g e => (HO.out.lt g e).2
      go_wp2_with fail
      refine (row_Unit n k (by omega) hkl wr).mono ?_
      rintro e w1 ⟨v, ys, rfl, hOy, hQy, hRy, hb1⟩
      obtain ⟨Ay, cy, rfl, hcy, hRwy⟩ := hOy.rd
      have hO1 := HO.out.below hb1
      have hB1 := below_go HB.out hb1
      have hs1 := hb1.size
      have HQy : Asd (rowQ ⟨Ay, cy, ys⟩ = (List.replicate n 0).set k 1) := ⟨hQy⟩
      have hok : Elm.ok (α := RV RF) (fun k => w.heap.size ≤ k ∧ (k < w.heap.size ∨ Value.ownBlock u3 ≠ some k)) w1 ⟨Ay, cy, ys⟩ := ⟨hRwy.mono (fun k _ hk => ⟨by omega, .inr fun e => by have := hlt k e; omega⟩), hcy⟩
      clear hQy
      go_wp2_with (at_builtin; go_loud (refine wpList_push rfl _ _ 48 rfl _ _ 68 i0 _ 24 Tryz.underlying48 hi hi0 hi1 hi2 rfl _ _ rfl (⟨Ay, cy, ys⟩ : RV RF) w1 rfl hO1 hok (by omega) (by omega) (by decide) ?_))
      intro v' w4 hP hgrow hown
      go_wp2
      go_roundw
      case rel => exact ⟨k + 1, _, by omega, by go_num, ⟨hP⟩, ⟨by rw [List.range_succ, List.map_append, List.map_append, HQ.out, List.map_cons, HQy.out]; rfl⟩, ⟨fun z hz => by
        rcases List.mem_append.1 hz with h1 | h1
        · exact HR.out z h1
        · rw [List.mem_singleton.1 h1]; exact hRy⟩, ⟨hB1.grown hgrow (by omega) (fun g hg => (hown g hg).1)⟩⟩
      case measure => simp [intOf]; omega
    · have hk2 : k = n := by omega
      subst hk2
      go_wp2
      go_ret
      exact ⟨_, zs, rfl, HO.out, HQ.out, HR.out, HB.out⟩
end Go.Proofs.YthjpkichpkomcaaGreatDoor
/- Matrices that came in: law12.To, ref12.Long. -/
namespace Go.Proofs.YthjpkichpkomcaaGreatDoor
open Go.RowKit Go.Proofs.YthjpkichpkomcaaGreatDoor.Big
set_option linter.unusedVariables false
set_option maxRecDepth 100000
attribute [local go_sem ↓] Go.wp_at_zero Go.wp_at_succ

set_option maxHeartbeats 1000000 in
theorem law12_To (p : Nat → Prop) (A : Option Addr) (c : Nat) (xs : List (RV RF)) (w : World) (h : Rw p w A xs) (hc : xs.length ≤ c) (hl : xs.length ≤ 100000) (hw : ∀ r ∈ xs, r.l.length ≤ 1000) :
    Calls Tryz.prog 30 #[.slice A xs.length c] w fun e w' => ∃ v ms, e = .returned v ∧ OwE 68 w.heap.size (fun _ => True) w' v (ms : List (RV RF)) ∧ ms.map RV.l = xs.map RV.l ∧ Below w.heap.size w w' := by
  obtain ⟨i0, hi, hi0, hi1, hi2⟩ := info_parts info_row
  replace h := h.mono (p' := fun k => k < w.heap.size) (fun k hk _ => hk)
  go_enter Tryz.func30, Tryz.ntmps30
  go_wp2_with fail
  go_loopw [3, 4] (fun v i wq => ∃ (k : Nat) (ms : List (RV RF)), k ≤ xs.length ∧ i = .int .i64 (k : Int) ∧ Asd (OwE 68 w.heap.size (fun _ => True) wq v ms) ∧ Asd (ms.map RV.l = (xs.take k).map RV.l) ∧ Asd (Below w.heap.size w wq)) (fun _ i _ => (xs.length - intOf i).toNat)
  case atStart => exact ⟨0, [], Nat.zero_le _, rfl, ⟨OwE.nil _ _ _ _⟩, ⟨rfl⟩, ⟨Below.refl _ _⟩⟩
  case round =>
    obtain ⟨k, ms, hk, rfl, HO, HQ, HB⟩ := hrel
    by_cases hkl : k < xs.length
    · obtain ⟨r, hr⟩ : ∃ r, xs[k]? = some r := ⟨_, List.getElem?_eq_getElem hkl⟩
      obtain ⟨ad, hA, hp, hrr, hrc, hc0⟩ := (h.below HB.out).cells1 hr
      have HRL := Asd.mk (hw r (List.mem_of_getElem? hr))
      subst hA
      have hml : ms.length = k := by
        have := congrArg List.length HQ.out
        rw [List.length_map, List.length_map, List.length_take] at this
        omega
      have hsz := HB.out.size
      have hlt := fun g e => (HO.out.lt g e).2
      go_wp2_with fail
      refine (law11_To _ r.A r.c r.l wr hrr hrc (by have := HRL.out; omega)).mono ?_
      rintro e w1 ⟨v, rfl, hOy, hb1⟩
      obtain ⟨Ay, cy, rfl, hcy, hRwy⟩ := hOy.rd
      have hO1 := HO.out.below hb1
      have hs1 := hb1.size
      have hB1 := below_go HB.out hb1
      have hok : Elm.ok (α := RV RF) (fun k => True ∧ (k < w.heap.size ∨ Value.ownBlock u3 ≠ some k)) w1 ⟨Ay, cy, r.l⟩ := ⟨hRwy.mono (fun k _ hk => ⟨trivial, by
        rcases hk with hk | hk
        · exact .inr fun e => by have := hlt k e; omega
        · exact .inl hk.1⟩), hcy⟩
      go_wp2_with (at_builtin; go_loud (refine wpList_push rfl _ _ 48 rfl _ _ 68 i0 _ 24 Tryz.underlying48 hi hi0 hi1 hi2 rfl _ _ rfl (⟨Ay, cy, r.l⟩ : RV RF) w1 rfl hO1 hok (by omega) (by omega) (by decide) ?_))
      intro v' w4 hP hgrow hown
      go_wp2
      go_roundw
      case rel => exact ⟨k + 1, _, by omega, by go_num, ⟨hP⟩, ⟨by rw [take_more hr, List.map_append, List.map_append, HQ.out]; rfl⟩, ⟨hB1.grown hgrow (by omega) (fun g hg => (hown g hg).1)⟩⟩
      case measure => simp [intOf]; omega
    · have e : xs.take k = xs := List.take_of_length_le (by omega)
      rw [e] at HQ
      go_wp2
      go_ret
      exact ⟨_, ms, rfl, HO.out, HQ.out, HB.out⟩

/-- Long, of a matrix that came in. -/
def longM (many words : Nat) (rs : List (RV RC)) : Bool := (rs.take many).any (fun r => longR many words r.l) || decide (many < rs.length)

set_option maxHeartbeats 1000000 in
theorem ref12_Long (p : Nat → Prop) (A : Option Addr) (c : Nat) (cs : List (RV RC)) (many words : Nat) (w : World) (h : Rw p w A cs) (hc : cs.length ≤ c) (hm : many ≤ 100000) :
    Calls Tryz.prog 27 #[.slice A cs.length c, .int .i64 (many : Int), .int .i64 (words : Int)] w fun e w' => e = .returned (.bool (longM many words cs)) ∧ Below w.heap.size w w' := by
  go_enter Tryz.func27, Tryz.ntmps27
  go_wp2_with fail
  go_loopw [7] (fun i wq => ∃ k : Nat, k ≤ cs.length ∧ k ≤ many ∧ i = .int .i64 (k : Int) ∧ Asd ((cs.take k).any (fun r => longR many words r.l) = false) ∧ Asd (Below w.heap.size w wq)) (fun i _ => (many - intOf i).toNat)
  case atStart => exact ⟨0, Nat.zero_le _, Nat.zero_le _, rfl, ⟨by simp⟩, ⟨Below.refl _ _⟩⟩
  case round =>
    obtain ⟨k, hk, hk2, rfl, HN, HB⟩ := hrel
    by_cases hkl : k < cs.length ∧ k < many
    · obtain ⟨hkl, hkm⟩ := hkl
      obtain ⟨r, hr⟩ : ∃ r, cs[k]? = some r := ⟨_, List.getElem?_eq_getElem hkl⟩
      obtain ⟨ad, hA, hp, hrr, hrc, hc0⟩ := (h.below HB.out).cells1 hr
      have hsz := HB.out.size
      have HA := any_take_more hr HN.out
      have hrl := ref11_Long _ r.A r.c r.l many words wr hrr hrc hm
      subst hA
      by_cases hL : longR many words r.l = true
      · rw [hL] at hrl
        have HT : Asd (longM many words cs = true) := ⟨by
          have : (cs.take many).any (fun r => longR many words r.l) = true := by
            rw [List.any_eq_true]
            refine ⟨r, ?_, hL⟩
            have : (cs.take many)[k]? = some r := by rw [List.getElem?_take, if_pos hkm]; exact hr
            exact List.mem_of_getElem? this
          unfold longM; rw [this]; rfl⟩
        go_wp2_with fail
        refine hrl.mono ?_
        rintro e w1 ⟨rfl, hb1⟩
        go_wp2
        go_ret
        exact ⟨congrArg (fun b => Ending.returned (.bool b)) HT.out.symm, below_go HB.out hb1⟩
      · have hL2 : longR many words r.l = false := by simpa using hL
        rw [hL2] at HA hrl
        have HA2 := Asd.mk HA
        clear HA
        go_wp2_with fail
        refine hrl.mono ?_
        rintro e w1 ⟨rfl, hb1⟩
        go_wp2
        go_roundw
        case rel => exact ⟨k + 1, by omega, by omega, by go_num, HA2, ⟨below_go HB.out hb1⟩⟩
        case measure => simp [intOf]; omega
    · have HL : Asd (longM many words cs = decide (many < cs.length)) := ⟨by
        unfold longM
        have e : cs.take many = cs.take k := by
          by_cases h1 : k < cs.length
          · have : k = many := by omega
            rw [this]
          · rw [List.take_of_length_le (by omega), List.take_of_length_le (by omega)]
        rw [e, HN.out]; rfl⟩
      by_cases h1 : k < cs.length
      · have h2 : ¬ (k < many) := by omega
        go_wp2
        go_ret
        exact ⟨by rw [HL.out]; simp; try omega, HB.out⟩
      · go_wp2
        go_ret
        exact ⟨by rw [HL.out]; simp; try omega, HB.out⟩
end Go.Proofs.YthjpkichpkomcaaGreatDoor
/- Matrices that came in: ref12.Width, Right; a fraction's text (figure.Text). -/
namespace Go.Proofs.YthjpkichpkomcaaGreatDoor
open Go.RowKit Go.Proofs.YthjpkichpkomcaaGreatDoor.Big
set_option linter.unusedVariables false
set_option maxRecDepth 100000
attribute [local go_sem ↓] Go.wp_at_zero Go.wp_at_succ

set_option maxHeartbeats 1000000 in
theorem ref12_Width (p : Nat → Prop) (A : Option Addr) (c : Nat) (rows : List (RV RF)) (w : World) (h : Rw p w A rows) (hc : rows.length ≤ c) :
    Calls Tryz.prog 33 #[.slice A rows.length c] w fun e w' => w = w' ∧ e = .returned (.int .i64 (widthM rows : Int)) := by
  go_enter Tryz.func33, Tryz.ntmps33
  by_cases h0 : rows.length = 0
  · have HW : Asd (widthM rows = 0) := ⟨by rw [List.eq_nil_of_length_eq_zero h0]; rfl⟩
    rw [h0]
    go_wp2
    go_ret
    exact ⟨rfl, by rw [HW.out]; rfl⟩
  · obtain ⟨r, hr⟩ : ∃ r, rows[0]? = some r := ⟨_, List.getElem?_eq_getElem (by omega)⟩
    have HW := Asd.mk (widthM_some hr)
    obtain ⟨ad, rfl, hp, hrr, hrc, hc0⟩ := h.cells1 hr
    have e0 : ad.add 0 = ad := by simp [Addr.add]
    rw [e0] at hc0
    have h1 : ¬ (rows.length : Int) = 0 := by omega
    have h2 : (0 : Int) < (rows.length : Int) := by omega
    go_wp2
    go_ret
    exact ⟨rfl, congrArg (fun n : Nat => Ending.returned (.int .i64 (n : Int))) HW.out.symm⟩

set_option maxHeartbeats 1000000 in
theorem ref12_Right (p : Nat → Prop) (A : Option Addr) (c : Nat) (rows : List (RV RF)) (w : World) (h : Rw p w A rows) (hc : rows.length ≤ c) (hl : rows.length ≤ 100000) :
    Calls Tryz.prog 32 #[.slice A rows.length c] w fun e w' => e = .returned (.bool (rightM rows)) ∧ Below w.heap.size w w' := by
  go_enter Tryz.func32, Tryz.ntmps32
  go_wp2_with fail
  go_loopw [3] (fun i wq => ∃ k : Nat, k ≤ rows.length ∧ i = .int .i64 (k : Int) ∧ Asd ((rows.take k).all (fun r => decide (r.l.length = widthM rows)) = true) ∧ Asd (Below w.heap.size w wq)) (fun i _ => (rows.length - intOf i).toNat)
  case atStart => exact ⟨0, Nat.zero_le _, rfl, ⟨by simp⟩, ⟨Below.refl _ _⟩⟩
  case round =>
    obtain ⟨k, hk, rfl, HA, HB⟩ := hrel
    by_cases hkl : k < rows.length
    · obtain ⟨r, hr⟩ : ∃ r, rows[k]? = some r := ⟨_, List.getElem?_eq_getElem hkl⟩
      obtain ⟨r0, hr0⟩ : ∃ r, rows[0]? = some r := ⟨_, List.getElem?_eq_getElem (by omega)⟩
      have hw0 := widthM_some hr0
      have hd := (h.below HB.out).drew
      obtain ⟨ad, hA, hp, hrr, hrc, hc0⟩ := hd.cells1 hr
      obtain ⟨ad0, hA0, _, _, _, hc1⟩ := hd.cells1 hr0
      have HM : Asd ((rows.take (k + 1)).all (fun r => decide (r.l.length = widthM rows)) = decide (r.l.length = widthM rows)) := ⟨by rw [take_more hr, List.all_append, HA.out]; simp⟩
      have HN : Asd (¬ r.l.length = widthM rows → rightM rows = false) := ⟨fun hn => by
        unfold rightM
        rw [List.all_eq_false]
        exact ⟨r, List.mem_of_getElem? hr, by simpa using hn⟩⟩
      subst hA
      injection hA0 with hA0
      subst hA0
      have e0 : ad.add 0 = ad := by simp [Addr.add]
      rw [e0] at hc1
      rw [← hw0] at hc1
      clear hw0 hr0 hrr hrc hd
      generalize r.l.length = rl at *
      generalize hwm : widthM rows = wm at *
      have h0k : 0 < rows.length := by omega
      have hBd := below_drewN HB.out 1
      by_cases hq : rl = wm
      · rw [decide_eq_true hq] at HM
        subst hq
        go_wp2_with fail
        go_region_held3 (fun w' => w'.cell? (ad.add k) = some (.slice r.A rl r.c) ∧ w'.cell? ad = some (.slice r0.A rl r0.c)) (exact ⟨hc0, hc1⟩) (fail)
        go_wp2
        go_roundw
        case rel => exact ⟨k + 1, by omega, by go_num, HM, ⟨hBd⟩⟩
        case measure => simp [intOf]; omega
      · have HN2 := Asd.mk (HN.out hq)
        have hq1 : ¬ (rl : Int) = (wm : Int) := by omega
        clear HN
        go_wp2_with fail
        go_region_held3 (fun w' => w'.cell? (ad.add k) = some (.slice r.A rl r.c) ∧ w'.cell? ad = some (.slice r0.A wm r0.c)) (exact ⟨hc0, hc1⟩) (fail)
        go_wp2
        go_ret
        exact ⟨congrArg (fun b => Ending.returned (.bool b)) HN2.out.symm, hBd⟩
    · have e : rows.take k = rows := List.take_of_length_le (by omega)
      rw [e] at HA
      have HR : Asd (rightM rows = true) := ⟨HA.out⟩
      go_wp2
      go_ret
      exact ⟨congrArg (fun b => Ending.returned (.bool b)) HR.out.symm, HB.out⟩
end Go.Proofs.YthjpkichpkomcaaGreatDoor
