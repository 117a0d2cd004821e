/- RowJ -/
import Derived.Test.YthjpkichpkomcaaGreatDoorBRowGridOrder38
/- Matrices of fractions (grid): Left. -/
namespace Go.Proofs.YthjpkichpkomcaaGreatDoor
open Go.RowKit Go.Proofs.YthjpkichpkomcaaGreatDoor.Big
set_option linter.unusedVariables false
set_option maxRecDepth 100000
attribute [local go_sem ↓] Go.wp_at_zero Go.wp_at_succ

def sumM : List (List Rat) → List Rat
  | [] => []
  | r :: rs => rs.foldl addQ r
def scaledQ (xs : List RF) (rows : List (RV RF)) : List (List Rat) := List.zipWith (fun x r => (rowQ r).map (x.q * ·)) xs rows
def leftQ (xs : List RF) (rows : List (RV RF)) : List Rat := sumM (scaledQ xs rows)

set_option maxHeartbeats 400000 in
theorem row_Add_nil (A : Option Addr) (c : Nat) (w : World) :
    Calls Tryz.prog 87 #[.slice A 0 c] w (RowOut2 [] true w) := by
  go_enter Tryz.func87, Tryz.ntmps87
  go_wp2
  go_ret2
  exact ⟨_, [], rfl, OwE.nil _ _ _ _, rfl, by simp, Below.refl _ _⟩

set_option maxHeartbeats 2000000 in
theorem grid_Left (p p' : Nat → Prop) (A : Option Addr) (c : Nat) (xs : List RF) (A' : Option Addr) (c' : Nat) (rows : List (RV RF)) (n a b : Nat) (w : World) (h : Rw p w A xs) (hc : xs.length ≤ c) (h' : Rw p' w A' rows) (hc' : rows.length ≤ c') (hxr : xs.length = rows.length) (hl : rows.length ≤ 1000) (hw : ∀ r ∈ rows, r.l.length = n) (hn : n ≤ 1000) (hsx : ∀ x ∈ xs, Sz a x.q) (hsr : ∀ r ∈ rows, ∀ x ∈ r.l, Sz b x.q) (hb : rows.length * (a + b + 1) ≤ 10000) :
    Calls Tryz.prog 47 #[.slice A xs.length c, .slice A' rows.length c'] w (RowOut2 (leftQ xs rows) true w) := by
  obtain ⟨j0, hJ, hJ0, hJ1, hJ2⟩ := info_parts info_row
  have hright : rightM rows = true := by
    unfold rightM
    rw [List.all_eq_true]
    intro r hr
    cases h0 : rows[0]? with
    | none => have : rows = [] := by cases rows with | nil => rfl | cons => simp at h0
              rw [this] at hr; simp at hr
    | some r0 => rw [decide_eq_true_eq, widthM_some h0, hw r hr, hw r0 (List.mem_of_getElem? h0)]
  have hgr := grid_Right p' A' c' rows w h' hc' (by omega)
  rw [hright] at hgr
  have HG := Asd.mk hgr
  have HW := Asd.mk hw; have HSX := Asd.mk hsx; have HSR := Asd.mk hsr
  rw [hxr]
  have HXR := Asd.mk hxr
  have hcx : rows.length ≤ c := by omega
  have hab : ∀ k : Nat, k < rows.length → a + b ≤ 10000 := fun k hk => by
    have : 1 * (a + b + 1) ≤ rows.length * (a + b + 1) := Nat.mul_le_mul_right _ (by omega)
    omega
  have HAB := Asd.mk hab
  clear hgr hright hw hsx hsr hxr hab hc
  go_enter Tryz.func47, Tryz.ntmps47
  go_wp2_with fail
  refine HG.out.mono ?_
  rintro e w1 ⟨rfl, rfl⟩
  go_wp2_with fail
  go_loopw [6, 21] (fun v i wq => ∃ (k : Nat) (ms : List (RV RF)), k ≤ rows.length ∧ i = .int .i64 (k : Int) ∧ Asd (OwE 68 w.heap.size (fun k => w.heap.size ≤ k) wq v ms) ∧ Asd (ms.map rowQ = (scaledQ xs rows).take k) ∧ Asd (∀ r ∈ ms, r.l.length = n ∧ ∀ x ∈ r.l, Sz (a + b) x.q) ∧ Asd (Below w.heap.size w wq)) (fun _ i _ => (rows.length - intOf i).toNat)
  case atStart => exact ⟨0, [], Nat.zero_le _, rfl, ⟨OwE.nil _ _ _ _⟩, ⟨rfl⟩, ⟨by simp⟩, ⟨Below.refl _ _⟩⟩
  case round =>
    obtain ⟨k, ms, hk, rfl, HO, HQ, HR, HB⟩ := hrel
    by_cases hkl : k < rows.length
    · obtain ⟨x, hx⟩ : ∃ x, xs[k]? = some x := ⟨_, List.getElem?_eq_getElem (by rw [HXR.out]; exact hkl)⟩
      obtain ⟨r, hr⟩ : ∃ r, rows[k]? = some r := ⟨_, List.getElem?_eq_getElem hkl⟩
      have HSC : Asd ((scaledQ xs rows)[k]? = some ((rowQ r).map (x.q * ·))) := ⟨by unfold scaledQ; rw [List.getElem?_zipWith, hx, hr]⟩
      have HRL := Asd.mk (HW.out r (List.mem_of_getElem? hr))
      have HSX1 := Asd.mk (HSX.out x (List.mem_of_getElem? hx))
      have HSR1 := Asd.mk (HSR.out r (List.mem_of_getElem? hr))
      obtain ⟨ad, hA, hp, hox, hc0, hc1, hc2⟩ := (h.below HB.out).cells3 hx
      obtain ⟨ad2, hA2, hp2, hrr, hrc, hd0⟩ := (h'.below HB.out).cells1 hr
      have hml : ms.length = k := by
        have := congrArg List.length HQ.out
        rw [List.length_map, List.length_take] at this
        have h2 : (scaledQ xs rows).length = rows.length := by unfold scaledQ; rw [List.length_zipWith, HXR.out]; exact Nat.min_self _
        omega
      subst hA hA2
      have hszV := HB.out.size
      have hlt := fun g e => (HO.out.lt g e).2
      have hab1 := HAB.out k hkl
      go_wp2_with fail
      refine (row_Scale _ _ x r.A r.c r.l wr hox hrr hrc (by rw [HRL.out]; omega) (fun y hy => (sz_mul HSX1.out (HSR1.out y hy)).mono hab1)).mono ?_
      rintro e w1 ⟨v, ys, rfl, hOy, hQy, hRy, hb1⟩
      obtain ⟨Ay, cy, rfl, hcy, hRwy⟩ := hOy.rd
      have hO1 := HO.out.below hb1
      have hB1 := below_go HB.out hb1
      have hs1 := hb1.size
      have hYL : Asd (ys.length = n) := ⟨by have := congrArg List.length hQy; simp at this; rw [this]; exact HRL.out⟩
      have hYS : Asd (∀ z ∈ ys, Sz (a + b) z.q) := ⟨fun z hz => by
        have h1 : z.q ∈ ys.map RF.q := List.mem_map_of_mem hz
        rw [hQy] at h1
        obtain ⟨y, hy, e⟩ := List.mem_map.1 h1
        rw [← e]; exact sz_mul HSX1.out (HSR1.out y hy)⟩
      have HQy : Asd (rowQ ⟨Ay, cy, ys⟩ = (rowQ r).map (x.q * ·)) := ⟨by unfold rowQ; rw [hQy, List.map_map]; rfl⟩
      have hok : Elm.ok (α := RV RF) (fun k => w.heap.size ≤ k ∧ (k < w.heap.size ∨ Value.ownBlock u6 ≠ some k)) w1 ⟨Ay, cy, ys⟩ := ⟨hRwy.mono (fun k _ hk => ⟨by omega, .inr fun e => by have := hlt k e; omega⟩), hcy⟩
      clear hQy
      go_wp2_with (at_builtin; go_loud (refine wpList_push rfl _ _ 48 rfl _ _ 68 j0 _ 24 Tryz.underlying48 hJ hJ0 hJ1 hJ2 rfl _ _ rfl (⟨Ay, cy, ys⟩ : RV RF) w1 rfl hO1 hok (by omega) (by omega) (by decide) ?_))
      intro v' w4 hP hgrow hown
      go_wp2
      go_roundw
      case rel => exact ⟨k + 1, _, by omega, by go_num, ⟨hP⟩, ⟨by rw [take_more HSC.out, List.map_append, HQ.out, ← HQy.out]; rfl⟩, ⟨fun z hz => by
        rcases List.mem_append.1 hz with h1 | h1
        · exact HR.out z h1
        · rw [List.mem_singleton.1 h1]; exact ⟨hYL.out, hYS.out⟩⟩, ⟨hB1.grown hgrow (by omega) (fun g hg => (hown g hg).1)⟩⟩
      case measure => simp [intOf]; omega
    · have e : (scaledQ xs rows).take k = scaledQ xs rows := List.take_of_length_le (by unfold scaledQ; rw [List.length_zipWith]; omega)
      rw [e] at HQ
      obtain ⟨Am, cm, rfl, hcm, hRm⟩ := HO.out.rd
      have hml : ms.length = rows.length := by
        have := congrArg List.length HQ.out
        rw [List.length_map] at this
        have h2 : (scaledQ xs rows).length = rows.length := by unfold scaledQ; rw [List.length_zipWith, HXR.out]; exact Nat.min_self _
        omega
      have HADD : Asd (Calls Tryz.prog 87 #[.slice Am ms.length cm] wr (RowOut2 (leftQ xs rows) true wr)) := ⟨by
        cases hms : ms with
        | nil =>
          have : leftQ xs rows = [] := by unfold leftQ; rw [← HQ.out, hms]; rfl
          rw [this]
          exact row_Add_nil Am cm wr
        | cons r0 rs =>
          have := row_Add _ Am cm ms r0 rs n (a + b) wr hRm hms hcm (by omega) (fun r hr => (HR.out r hr).1) hn (fun r hr => (HR.out r hr).2) (by rw [hml]; exact hb)
          have e2 : leftQ xs rows = (rs.map rowQ).foldl addQ (rowQ r0) := by unfold leftQ; rw [← HQ.out, hms]; rfl
          rw [e2, ← hms]
          exact this⟩
      have hszV := HB.out.size
      clear hml
      go_wp2_with fail
      refine HADD.out.mono ?_
      rintro e w1 ⟨v, ys, rfl, hOy, hQy, hRy, hb1⟩
      go_wp2
      go_ret2
      exact ⟨v, ys, rfl, hOy.low hszV (fun k _ hk => by omega), hQy, hRy, below_go HB.out hb1⟩
end Go.Proofs.YthjpkichpkomcaaGreatDoor
