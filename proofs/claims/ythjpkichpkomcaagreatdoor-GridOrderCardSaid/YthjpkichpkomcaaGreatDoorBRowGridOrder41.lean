/- RowL -/
import Derived.Test.YthjpkichpkomcaaGreatDoorBRowGridOrder40
/- Matrices of fractions (grid): Mul. -/
namespace Go.Proofs.YthjpkichpkomcaaGreatDoor
open Go.RowKit Go.Proofs.YthjpkichpkomcaaGreatDoor.Big
set_option linter.unusedVariables false
set_option maxRecDepth 100000
attribute [local go_sem ↓] Go.wp_at_zero Go.wp_at_succ

/-- A matrix that was made, and a word. -/
def MatOut2 (m : List (List Rat)) (b : Bool) (w : World) (e : Ending) (w' : World) : Prop := ∃ v rows, e = .returned (.tuple #[v, .bool b]) ∧ OwE 68 w.heap.size (fun k => w.heap.size ≤ k) w' v (rows : List (RV RF)) ∧ rows.map rowQ = m ∧ (∀ r ∈ rows, ∀ x ∈ r.l, Rt x) ∧ Below w.heap.size w w'
def mulQ (rows rows' : List (RV RF)) : List (List Rat) := rows.map (fun r => leftQ r.l rows')

set_option maxHeartbeats 2000000 in
theorem grid_Mul (p p' : Nat → Prop) (A : Option Addr) (c : Nat) (rows : List (RV RF)) (A' : Option Addr) (c' : Nat) (rows' : List (RV RF)) (n a b : Nat) (w : World) (h : Rw p w A rows) (hc : rows.length ≤ c) (h' : Rw p' w A' rows') (hc' : rows'.length ≤ c') (hl : rows.length ≤ 1000) (hl' : rows'.length ≤ 1000) (hn : n ≤ 1000) (hw : ∀ r ∈ rows, r.l.length = rows'.length) (hwm : widthM rows = rows'.length) (hw' : ∀ r ∈ rows', r.l.length = n) (hsr : ∀ r ∈ rows, ∀ x ∈ r.l, Sz a x.q) (hsy : ∀ r ∈ rows', ∀ x ∈ r.l, Sz b x.q) (hb : rows'.length * (a + b + 1) ≤ 10000) :
    Calls Tryz.prog 29 #[.slice A rows.length c, .slice A' rows'.length c'] w (MatOut2 (mulQ rows rows') true w) := by
  obtain ⟨i0, hi, hi0, hi1, hi2⟩ := info_parts info_row
  have hgr := grid_Right p A c rows w h hc (by omega)
  rw [right_of hw] at hgr
  have hgr' := grid_Right p' A' c' rows' w h' hc' (by omega)
  rw [right_of hw'] at hgr'
  have hgw := grid_Width p A c rows w h hc
  rw [hwm] at hgw
  have HG := Asd.mk hgr; have HG' := Asd.mk hgr'; have HGW := Asd.mk hgw
  have HW := Asd.mk hw; have HSR := Asd.mk hsr; have HSY := Asd.mk hsy; have HW' := Asd.mk hw'
  clear hgr hgw hw hsr hsy hwm hgr' hw'
  go_enter Tryz.func29, Tryz.ntmps29
  go_wp2_with fail
  refine HG.out.mono ?_
  rintro e w1 ⟨rfl, rfl⟩
  go_wp2_with fail
  refine HG'.out.mono ?_
  rintro e w1 ⟨rfl, rfl⟩
  go_wp2_with fail
  refine HGW.out.mono ?_
  rintro e w1 ⟨rfl, rfl⟩
  go_wp2_with fail
  go_loopw [6, 28] (fun v i wq => ∃ (k : Nat) (zs : List (RV RF)), k ≤ rows.length ∧ i = .int .i64 (k : Int) ∧ Asd (OwE 68 w.heap.size (fun k => w.heap.size ≤ k) wq v zs) ∧ Asd (zs.map rowQ = (mulQ rows rows').take k) ∧ Asd (∀ r ∈ zs, ∀ z ∈ r.l, Rt z) ∧ Asd (Below w.heap.size w wq)) (fun _ i _ => (rows.length - intOf i).toNat)
  case atStart => exact ⟨0, [], Nat.zero_le _, rfl, ⟨OwE.nil _ _ _ _⟩, ⟨rfl⟩, ⟨by simp⟩, ⟨Below.refl _ _⟩⟩
  case round =>
    obtain ⟨k, zs, hk, rfl, HO, HQ, HR, HB⟩ := hrel
    by_cases hkl : k < rows.length
    · obtain ⟨r, hr⟩ : ∃ r, rows[k]? = some r := ⟨_, List.getElem?_eq_getElem hkl⟩
      have HSC : Asd ((mulQ rows rows')[k]? = some (leftQ r.l rows')) := ⟨by unfold mulQ; rw [List.getElem?_map, hr]; rfl⟩
      have HRL := Asd.mk (HW.out r (List.mem_of_getElem? hr))
      have HSR1 := Asd.mk (HSR.out r (List.mem_of_getElem? hr))
      obtain ⟨ad, hA, hp, hrr, hrc, hc0⟩ := (h.below HB.out).cells1 hr
      have hyw := h'.below HB.out
      have hzl : zs.length = k := by
        have := congrArg List.length HQ.out
        rw [List.length_map, List.length_take] at this
        have h2 : (mulQ rows rows').length = rows.length := by unfold mulQ; rw [List.length_map]
        omega
      subst hA
      have hszV := HB.out.size
      have hlt := fun g e => (HO.out.lt g e).2
      go_wp2_with fail
      refine (grid_Left _ _ r.A r.c r.l A' c' rows' n a b wr hrr hrc hyw hc' HRL.out hl' HW'.out hn HSR1.out HSY.out hb).mono ?_
      rintro e w1 ⟨v, ys, rfl, hOy, hQy, hRy, hb1⟩
      obtain ⟨Ay, cy, rfl, hcy, hRwy⟩ := hOy.rd
      have hO1 := HO.out.below hb1
      have hB1 := below_go HB.out hb1
      have hs1 := hb1.size
      have HQy : Asd (rowQ ⟨Ay, cy, ys⟩ = leftQ r.l rows') := ⟨hQy⟩
      have hok : Elm.ok (α := RV RF) (fun k => w.heap.size ≤ k ∧ (k < w.heap.size ∨ Value.ownBlock u6 ≠ some k)) w1 ⟨Ay, cy, ys⟩ := ⟨hRwy.mono (fun k _ hk => ⟨by omega, .inr fun e => by have := hlt k e; omega⟩), hcy⟩
      clear hQy
      go_wp2_with (at_builtin; go_loud (refine wpList_push rfl _ _ 48 rfl _ _ 68 i0 _ 24 Tryz.underlying48 hi hi0 hi1 hi2 rfl _ _ rfl (⟨Ay, cy, ys⟩ : RV RF) w1 rfl hO1 hok (by omega) (by omega) (by decide) ?_))
      intro v' w4 hP hgrow hown
      go_wp2
      go_roundw
      case rel => exact ⟨k + 1, _, by omega, by go_num, ⟨hP⟩, ⟨by rw [take_more HSC.out, List.map_append, HQ.out, ← HQy.out]; rfl⟩, ⟨fun z hz => by
        rcases List.mem_append.1 hz with h1 | h1
        · exact HR.out z h1
        · rw [List.mem_singleton.1 h1]; exact hRy⟩, ⟨hB1.grown hgrow (by omega) (fun g hg => (hown g hg).1)⟩⟩
      case measure => simp [intOf]; omega
    · have e : (mulQ rows rows').take k = mulQ rows rows' := List.take_of_length_le (by unfold mulQ; rw [List.length_map]; omega)
      rw [e] at HQ
      go_wp2
      go_ret2
      exact ⟨_, zs, rfl, HO.out, HQ.out, HR.out, HB.out⟩
end Go.Proofs.YthjpkichpkomcaaGreatDoor
