/- RowN · RowO -/
import Derived.Test.YthjpkichpkomcaaGreatDoorBRowFigureBack50
import Derived.Test.YthjpkichpkomcaaGreatDoorBRowFigureBack20
import Derived.BigQuiet
import Derived.Deep.RegionHeld3
/- Matrices that came in: law12.To, ref12.Long. -/
namespace Go.Proofs.YthjpkichpkomcaaGreatDoor
open Go.RowKit Go.Proofs.YthjpkichpkomcaaGreatDoor.Big
set_option linter.unusedVariables false
set_option maxRecDepth 100000
attribute [local go_sem ↓] Go.wp_at_zero Go.wp_at_succ

set_option maxHeartbeats 1000000 in
theorem law12_To (p : Nat → Prop) (A : Option Addr) (c : Nat) (xs : List (RV RF)) (w : World) (h : Rw p w A xs) (hc : xs.length ≤ c) (hl : xs.length ≤ 100000) (hw : ∀ r ∈ xs, r.l.length ≤ 1000) :
    Calls Tryz.prog 30 #[.slice A xs.length c] w fun e w' => ∃ v ms, e = .returned v ∧ OwE 68 w.heap.size (fun _ => True) w' v (ms : List (RV RF)) ∧ ms.map RV.l = xs.map RV.l ∧ Below w.heap.size w w' := by
  obtain ⟨i0, hi, hi0, hi1, hi2⟩ := info_parts info_row
  replace h := h.mono (p' := fun k => k < w.heap.size) (fun k hk _ => hk)
  go_enter Tryz.func30, Tryz.ntmps30
  go_wp2_with fail
  go_loopw [3, 4] (fun v i wq => ∃ (k : Nat) (ms : List (RV RF)), k ≤ xs.length ∧ i = .int .i64 (k : Int) ∧ Asd (OwE 68 w.heap.size (fun _ => True) wq v ms) ∧ Asd (ms.map RV.l = (xs.take k).map RV.l) ∧ Asd (Below w.heap.size w wq)) (fun _ i _ => (xs.length - intOf i).toNat)
  case atStart => exact ⟨0, [], Nat.zero_le _, rfl, ⟨OwE.nil _ _ _ _⟩, ⟨rfl⟩, ⟨Below.refl _ _⟩⟩
  case round =>
    obtain ⟨k, ms, hk, rfl, HO, HQ, HB⟩ := hrel
    by_cases hkl : k < xs.length
    · obtain ⟨r, hr⟩ : ∃ r, xs[k]? = some r := ⟨_, List.getElem?_eq_getElem hkl⟩
      obtain ⟨ad, hA, hp, hrr, hrc, hc0⟩ := (h.below HB.out).cells1 hr
      have HRL := Asd.mk (hw r (List.mem_of_getElem? hr))
      subst hA
      have hml : ms.length = k := by
        have := congrArg List.length HQ.out
        rw [List.length_map, List.length_map, List.length_take] at this
        omega
      have hsz := HB.out.size
      have hlt := fun g e => (HO.out.lt g e).2
      go_wp2_with fail
      refine (law11_To _ r.A r.c r.l wr hrr hrc (by have := HRL.out; omega)).mono ?_
      rintro e w1 ⟨v, rfl, hOy, hb1⟩
      obtain ⟨Ay, cy, rfl, hcy, hRwy⟩ := hOy.rd
      have hO1 := HO.out.below hb1
      have hs1 := hb1.size
      have hB1 := below_go HB.out hb1
      have hok : Elm.ok (α := RV RF) (fun k => True ∧ (k < w.heap.size ∨ Value.ownBlock u3 ≠ some k)) w1 ⟨Ay, cy, r.l⟩ := ⟨hRwy.mono (fun k _ hk => ⟨trivial, by
        rcases hk with hk | hk
        · exact .inr fun e => by have := hlt k e; omega
        · exact .inl hk.1⟩), hcy⟩
      go_wp2_with (at_builtin; go_loud (refine wpList_push rfl _ _ 48 rfl _ _ 68 i0 _ 24 Tryz.underlying48 hi hi0 hi1 hi2 rfl _ _ rfl (⟨Ay, cy, r.l⟩ : RV RF) w1 rfl hO1 hok (by omega) (by omega) (by decide) ?_))
      intro v' w4 hP hgrow hown
      go_wp2
      go_roundw
      case rel => exact ⟨k + 1, _, by omega, by go_num, ⟨hP⟩, ⟨by rw [take_more hr, List.map_append, List.map_append, HQ.out]; rfl⟩, ⟨hB1.grown hgrow (by omega) (fun g hg => (hown g hg).1)⟩⟩
      case measure => simp [intOf]; omega
    · have e : xs.take k = xs := List.take_of_length_le (by omega)
      rw [e] at HQ
      go_wp2
      go_ret
      exact ⟨_, ms, rfl, HO.out, HQ.out, HB.out⟩

/-- Long, of a matrix that came in. -/
def longM (many words : Nat) (rs : List (RV RC)) : Bool := (rs.take many).any (fun r => longR many words r.l) || decide (many < rs.length)

set_option maxHeartbeats 1000000 in
theorem ref12_Long (p : Nat → Prop) (A : Option Addr) (c : Nat) (cs : List (RV RC)) (many words : Nat) (w : World) (h : Rw p w A cs) (hc : cs.length ≤ c) (hm : many ≤ 100000) :
    Calls Tryz.prog 27 #[.slice A cs.length c, .int .i64 (many : Int), .int .i64 (words : Int)] w fun e w' => e = .returned (.bool (longM many words cs)) ∧ Below w.heap.size w w' := by
  go_enter Tryz.func27, Tryz.ntmps27
  go_wp2_with fail
  go_loopw [7] (fun i wq => ∃ k : Nat, k ≤ cs.length ∧ k ≤ many ∧ i = .int .i64 (k : Int) ∧ Asd ((cs.take k).any (fun r => longR many words r.l) = false) ∧ Asd (Below w.heap.size w wq)) (fun i _ => (many - intOf i).toNat)
  case atStart => exact ⟨0, Nat.zero_le _, Nat.zero_le _, rfl, ⟨by simp⟩, ⟨Below.refl _ _⟩⟩
  case round =>
    obtain ⟨k, hk, hk2, rfl, HN, HB⟩ := hrel
    by_cases hkl : k < cs.length ∧ k < many
    · obtain ⟨hkl, hkm⟩ := hkl
      obtain ⟨r, hr⟩ : ∃ r, cs[k]? = some r := ⟨_, List.getElem?_eq_getElem hkl⟩
      obtain ⟨ad, hA, hp, hrr, hrc, hc0⟩ := (h.below HB.out).cells1 hr
      have hsz := HB.out.size
      have HA := any_take_more hr HN.out
      have hrl := ref11_Long _ r.A r.c r.l many words wr hrr hrc hm
      subst hA
      by_cases hL : longR many words r.l = true
      · rw [hL] at hrl
        have HT : Asd (longM many words cs = true) := ⟨by
          have : (cs.take many).any (fun r => longR many words r.l) = true := by
            rw [List.any_eq_true]
            refine ⟨r, ?_, hL⟩
            have : (cs.take many)[k]? = some r := by rw [List.getElem?_take, if_pos hkm]; exact hr
            exact List.mem_of_getElem? this
          unfold longM; rw [this]; rfl⟩
        go_wp2_with fail
        refine hrl.mono ?_
        rintro e w1 ⟨rfl, hb1⟩
        go_wp2
        go_ret
        exact ⟨congrArg (fun b => Ending.returned (.bool b)) HT.out.symm, below_go HB.out hb1⟩
      · have hL2 : longR many words r.l = false := by simpa using hL
        rw [hL2] at HA hrl
        have HA2 := Asd.mk HA
        clear HA
        go_wp2_with fail
        refine hrl.mono ?_
        rintro e w1 ⟨rfl, hb1⟩
        go_wp2
        go_roundw
        case rel => exact ⟨k + 1, by omega, by omega, by go_num, HA2, ⟨below_go HB.out hb1⟩⟩
        case measure => simp [intOf]; omega
    · have HL : Asd (longM many words cs = decide (many < cs.length)) := ⟨by
        unfold longM
        have e : cs.take many = cs.take k := by
          by_cases h1 : k < cs.length
          · have : k = many := by omega
            rw [this]
          · rw [List.take_of_length_le (by omega), List.take_of_length_le (by omega)]
        rw [e, HN.out]; rfl⟩
      by_cases h1 : k < cs.length
      · have h2 : ¬ (k < many) := by omega
        go_wp2
        go_ret
        exact ⟨by rw [HL.out]; simp; try omega, HB.out⟩
      · go_wp2
        go_ret
        exact ⟨by rw [HL.out]; simp; try omega, HB.out⟩
end Go.Proofs.YthjpkichpkomcaaGreatDoor
/- Matrices that came in: ref12.Width, Right; a fraction's text (figure.Text). -/
namespace Go.Proofs.YthjpkichpkomcaaGreatDoor
open Go.RowKit Go.Proofs.YthjpkichpkomcaaGreatDoor.Big
set_option linter.unusedVariables false
set_option maxRecDepth 100000
attribute [local go_sem ↓] Go.wp_at_zero Go.wp_at_succ

set_option maxHeartbeats 1000000 in
theorem ref12_Width (p : Nat → Prop) (A : Option Addr) (c : Nat) (rows : List (RV RF)) (w : World) (h : Rw p w A rows) (hc : rows.length ≤ c) :
    Calls Tryz.prog 33 #[.slice A rows.length c] w fun e w' => w = w' ∧ e = .returned (.int .i64 (widthM rows : Int)) := by
  go_enter Tryz.func33, Tryz.ntmps33
  by_cases h0 : rows.length = 0
  · have HW : Asd (widthM rows = 0) := ⟨by rw [List.eq_nil_of_length_eq_zero h0]; rfl⟩
    rw [h0]
    go_wp2
    go_ret
    exact ⟨rfl, by rw [HW.out]; rfl⟩
  · obtain ⟨r, hr⟩ : ∃ r, rows[0]? = some r := ⟨_, List.getElem?_eq_getElem (by omega)⟩
    have HW := Asd.mk (widthM_some hr)
    obtain ⟨ad, rfl, hp, hrr, hrc, hc0⟩ := h.cells1 hr
    have e0 : ad.add 0 = ad := by simp [Addr.add]
    rw [e0] at hc0
    have h1 : ¬ (rows.length : Int) = 0 := by omega
    have h2 : (0 : Int) < (rows.length : Int) := by omega
    go_wp2
    go_ret
    exact ⟨rfl, congrArg (fun n : Nat => Ending.returned (.int .i64 (n : Int))) HW.out.symm⟩

set_option maxHeartbeats 1000000 in
theorem ref12_Right (p : Nat → Prop) (A : Option Addr) (c : Nat) (rows : List (RV RF)) (w : World) (h : Rw p w A rows) (hc : rows.length ≤ c) (hl : rows.length ≤ 100000) :
    Calls Tryz.prog 32 #[.slice A rows.length c] w fun e w' => e = .returned (.bool (rightM rows)) ∧ Below w.heap.size w w' := by
  go_enter Tryz.func32, Tryz.ntmps32
  go_wp2_with fail
  go_loopw [3] (fun i wq => ∃ k : Nat, k ≤ rows.length ∧ i = .int .i64 (k : Int) ∧ Asd ((rows.take k).all (fun r => decide (r.l.length = widthM rows)) = true) ∧ Asd (Below w.heap.size w wq)) (fun i _ => (rows.length - intOf i).toNat)
  case atStart => exact ⟨0, Nat.zero_le _, rfl, ⟨by simp⟩, ⟨Below.refl _ _⟩⟩
  case round =>
    obtain ⟨k, hk, rfl, HA, HB⟩ := hrel
    by_cases hkl : k < rows.length
    · obtain ⟨r, hr⟩ : ∃ r, rows[k]? = some r := ⟨_, List.getElem?_eq_getElem hkl⟩
      obtain ⟨r0, hr0⟩ : ∃ r, rows[0]? = some r := ⟨_, List.getElem?_eq_getElem (by omega)⟩
      have hw0 := widthM_some hr0
      have hd := (h.below HB.out).drew
      obtain ⟨ad, hA, hp, hrr, hrc, hc0⟩ := hd.cells1 hr
      obtain ⟨ad0, hA0, _, _, _, hc1⟩ := hd.cells1 hr0
      have HM : Asd ((rows.take (k + 1)).all (fun r => decide (r.l.length = widthM rows)) = decide (r.l.length = widthM rows)) := ⟨by rw [take_more hr, List.all_append, HA.out]; simp⟩
      have HN : Asd (¬ r.l.length = widthM rows → rightM rows = false) := ⟨fun hn => by
        unfold rightM
        rw [List.all_eq_false]
        exact ⟨r, List.mem_of_getElem? hr, by simpa using hn⟩⟩
      subst hA
      injection hA0 with hA0
      subst hA0
      have e0 : ad.add 0 = ad := by simp [Addr.add]
      rw [e0] at hc1
      rw [← hw0] at hc1
      clear hw0 hr0 hrr hrc hd
      generalize r.l.length = rl at *
      generalize hwm : widthM rows = wm at *
      have h0k : 0 < rows.length := by omega
      have hBd := below_drewN HB.out 1
      by_cases hq : rl = wm
      · rw [decide_eq_true hq] at HM
        subst hq
        go_wp2_with fail
        go_region_held3 (fun w' => w'.cell? (ad.add k) = some (.slice r.A rl r.c) ∧ w'.cell? ad = some (.slice r0.A rl r0.c)) (exact ⟨hc0, hc1⟩) (fail)
        go_wp2
        go_roundw
        case rel => exact ⟨k + 1, by omega, by go_num, HM, ⟨hBd⟩⟩
        case measure => simp [intOf]; omega
      · have HN2 := Asd.mk (HN.out hq)
        have hq1 : ¬ (rl : Int) = (wm : Int) := by omega
        clear HN
        go_wp2_with fail
        go_region_held3 (fun w' => w'.cell? (ad.add k) = some (.slice r.A rl r.c) ∧ w'.cell? ad = some (.slice r0.A wm r0.c)) (exact ⟨hc0, hc1⟩) (fail)
        go_wp2
        go_ret
        exact ⟨congrArg (fun b => Ending.returned (.bool b)) HN2.out.symm, hBd⟩
    · have e : rows.take k = rows := List.take_of_length_le (by omega)
      rw [e] at HA
      have HR : Asd (rightM rows = true) := ⟨HA.out⟩
      go_wp2
      go_ret
      exact ⟨congrArg (fun b => Ending.returned (.bool b)) HR.out.symm, HB.out⟩
end Go.Proofs.YthjpkichpkomcaaGreatDoor
