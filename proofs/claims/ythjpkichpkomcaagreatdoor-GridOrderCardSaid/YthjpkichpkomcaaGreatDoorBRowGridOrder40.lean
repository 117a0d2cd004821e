/- RowK -/
import Derived.Test.YthjpkichpkomcaaGreatDoorBRowGridOrder39
/- Matrices of fractions (grid): Apply. -/
namespace Go.Proofs.YthjpkichpkomcaaGreatDoor
open Go.RowKit Go.Proofs.YthjpkichpkomcaaGreatDoor.Big
set_option linter.unusedVariables false
set_option maxRecDepth 100000
attribute [local go_sem ↓] Go.wp_at_zero Go.wp_at_succ

def applyQ (rows : List (RV RF)) (ys : List RF) : List Rat := rows.map (fun r => sumQ (prodsQ r.l ys))
theorem right_of {rows : List (RV RF)} {n : Nat} (hw : ∀ r ∈ rows, r.l.length = n) : rightM rows = true := by
  unfold rightM
  rw [List.all_eq_true]
  intro r hr
  cases h0 : rows[0]? with
  | none =>
    have : rows = [] := by
      cases rows with
      | nil => rfl
      | cons => simp at h0
    rw [this] at hr; simp at hr
  | some r0 => rw [decide_eq_true_eq, widthM_some h0, hw r hr, hw r0 (List.mem_of_getElem? h0)]

set_option maxHeartbeats 2000000 in
theorem grid_Apply (p p' : Nat → Prop) (A : Option Addr) (c : Nat) (rows : List (RV RF)) (A' : Option Addr) (c' : Nat) (ys : List RF) (a b : Nat) (w : World) (h : Rw p w A rows) (hc : rows.length ≤ c) (h' : Rw p' w A' ys) (hc' : ys.length ≤ c') (hl : rows.length ≤ 1000) (hn : ys.length ≤ 1000) (hw : ∀ r ∈ rows, r.l.length = ys.length) (hwm : widthM rows = ys.length) (hsr : ∀ r ∈ rows, ∀ x ∈ r.l, Sz a x.q) (hsy : ∀ x ∈ ys, Sz b x.q) (hb : 1 + ys.length * (a + b + 1) ≤ 10000) :
    Calls Tryz.prog 49 #[.slice A rows.length c, .slice A' ys.length c'] w (RowOut2 (applyQ rows ys) true w) := by
  obtain ⟨i0, hi, hi0, hi1, hi2⟩ := info_parts info_frac
  have hgr := grid_Right p A c rows w h hc (by omega)
  rw [right_of hw] at hgr
  have hgw := grid_Width p A c rows w h hc
  rw [hwm] at hgw
  have HG := Asd.mk hgr; have HGW := Asd.mk hgw
  have HW := Asd.mk hw; have HSR := Asd.mk hsr; have HSY := Asd.mk hsy
  clear hgr hgw hw hsr hsy hwm
  go_enter Tryz.func49, Tryz.ntmps49
  go_wp2_with fail
  refine HGW.out.mono ?_
  rintro e w1 ⟨rfl, rfl⟩
  go_wp2_with fail
  refine HG.out.mono ?_
  rintro e w1 ⟨rfl, rfl⟩
  go_wp2_with fail
  go_loopw [6, 23] (fun v i wq => ∃ (k : Nat) (zs : List RF), k ≤ rows.length ∧ i = .int .i64 (k : Int) ∧ Asd (OwE 30 w.heap.size (fun k => w.heap.size ≤ k) wq v zs) ∧ Asd (zs.map RF.q = (applyQ rows ys).take k) ∧ Asd (∀ z ∈ zs, Rt z) ∧ Asd (Below w.heap.size w wq)) (fun _ i _ => (rows.length - intOf i).toNat)
  case atStart => exact ⟨0, [], Nat.zero_le _, rfl, ⟨OwE.nil _ _ _ _⟩, ⟨rfl⟩, ⟨by simp⟩, ⟨Below.refl _ _⟩⟩
  case round =>
    obtain ⟨k, zs, hk, rfl, HO, HQ, HR, HB⟩ := hrel
    by_cases hkl : k < rows.length
    · obtain ⟨r, hr⟩ : ∃ r, rows[k]? = some r := ⟨_, List.getElem?_eq_getElem hkl⟩
      have HSC : Asd ((applyQ rows ys)[k]? = some (sumQ (prodsQ r.l ys))) := ⟨by unfold applyQ; rw [List.getElem?_map, hr]; rfl⟩
      have HRL := Asd.mk (HW.out r (List.mem_of_getElem? hr))
      have HSR1 := Asd.mk (HSR.out r (List.mem_of_getElem? hr))
      obtain ⟨ad, hA, hp, hrr, hrc, hc0⟩ := (h.below HB.out).cells1 hr
      have hyw := h'.below HB.out
      have hzl : zs.length = k := by
        have := congrArg List.length HQ.out
        rw [List.length_map, List.length_take] at this
        have h2 : (applyQ rows ys).length = rows.length := by unfold applyQ; rw [List.length_map]
        omega
      subst hA
      have hszV := HB.out.size
      have hlt := fun g e => (HO.out.lt g e).2
      go_wp2_with fail
      refine (row_Dot _ _ r.A r.c r.l A' c' ys wr hrr hrc hyw hc' HRL.out (by rw [HRL.out]; omega) a b HSR1.out HSY.out (by rw [HRL.out]; exact hb)).mono ?_
      rintro e w1 ⟨y, rfl, hqy, hRy, hyok, hb1⟩
      have hO1 := (HO.out.below hb1).alloc (.cells #[.bool y.n, .slice y.A y.l.length y.c, .slice y.A' y.d.length y.c'] 30)
      have hs1 := hb1.size
      have hB1 := (below_go HB.out hb1).alloc (by omega) (.cells #[.bool y.n, .slice y.A y.l.length y.c, .slice y.A' y.d.length y.c'] 30)
      have hyok1 := hyok.alloc (.cells #[.bool y.n, .slice y.A y.l.length y.c, .slice y.A' y.d.length y.c'] 30)
      have hs3 : (w1.alloc (.cells #[.bool y.n, .slice y.A y.l.length y.c, .slice y.A' y.d.length y.c'] 30)).heap.size = w1.heap.size + 1 := World.size_alloc _ _
      go_wp2_with (at_builtin; go_loud (refine wpList_push rfl _ _ 68 rfl _ _ 30 i0 _ 56 Tryz.underlying68 hi hi0 hi1 hi2 rfl _ _ rfl y (w1.alloc (.cells #[.bool y.n, .slice y.A y.l.length y.c, .slice y.A' y.d.length y.c'] 30)) (by rw [World.size_alloc]; rfl) hO1 (Elm.mono (α := RF) hyok1 (fun k _ hk => ⟨by omega, .inr fun e => by have := hlt k e; omega⟩)) (by omega) (by omega) (by decide) ?_))
      intro v' w4 hP hgrow hown
      go_wp2
      go_roundw
      case rel => exact ⟨k + 1, _, by omega, by go_num, ⟨hP⟩, ⟨by rw [take_more HSC.out, List.map_append, HQ.out, ← hqy]; rfl⟩, ⟨fun z hz => by
        rcases List.mem_append.1 hz with h1 | h1
        · exact HR.out z h1
        · rw [List.mem_singleton.1 h1]; exact hRy⟩, ⟨hB1.grown hgrow (by omega) (fun g hg => (hown g hg).1)⟩⟩
      case measure => simp [intOf]; omega
    · have e : (applyQ rows ys).take k = applyQ rows ys := List.take_of_length_le (by unfold applyQ; rw [List.length_map]; omega)
      rw [e] at HQ
      go_wp2
      go_ret2
      exact ⟨_, zs, rfl, HO.out, HQ.out, HR.out, HB.out⟩
end Go.Proofs.YthjpkichpkomcaaGreatDoor
