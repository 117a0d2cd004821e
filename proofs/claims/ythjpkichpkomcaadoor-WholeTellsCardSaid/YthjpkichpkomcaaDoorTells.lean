/- Layer 8: the law of signs and order (WholeTells), walked. -/
import Derived.Test.YthjpkichpkomcaaDoorFlLaw
import Derived.Test.YthjpkichpkomcaaDoorWorks2
import Derived.Test.YthjpkichpkomcaaDoorRef08c
import Derived.Outline
import Derived.Deep.RegionHeld3
import Derived.Deep.RegionWith
import Derived.Deep.DrawnRows
import Derived.Deep.DeepMust
import Derived.Deep.CutRange
namespace Go.Proofs.YthjpkichpkomcaaDoor
open Go.RowKit Go.Proofs.YthjpkichpkomcaaDoor.Big
set_option linter.unusedVariables false
set_option maxRecDepth 100000
attribute [local go_sem ↓] Go.wp_at_zero Go.wp_at_succ

theorem undrewA {W w1 : World} {o : Obj} (h : Below (W.drew.alloc o).heap.size (W.drew.alloc o) w1) : Below (W.alloc o).heap.size (W.alloc o) w1 := ⟨h.os, h.tape, h.output, h.size, h.block⟩

set_option maxHeartbeats 1000000 in
theorem law_tells_long (n : Bool) (A : Option Addr) (c : Nat) (l : List Int) (n' : Bool) (A' : Option Addr) (c' : Nat) (l' : List Int) (w : World) (hlong : 60 < l.length ∨ 60 < l'.length) :
    Calls Tryd.prog 6 #[.agg #[.bool n, .slice A l.length c], .agg #[.bool n', .slice A' l'.length c']] w (fun e w' => e = .returned (.bool true) ∧ Below w.heap.size w w') := by
  by_cases h1 : 60 < l.length
  · have hd : decide ((60 : Int) < (l.length : Int)) = true := decide_eq_true (by omega)
    go_enter Tryd.func6, Tryd.ntmps6
    go_wp2_with fail
    have A0 := (Blk.new w [.bool n, .slice A l.length c] 24).alloc (.cells #[.bool n', .slice A' l'.length c'] 24)
    have B0 := Blk.new (w.alloc (.cells #[.bool n, .slice A l.length c] 24)) [.bool n', .slice A' l'.length c'] 24
    have hb0 := (((Below.refl w.heap.size w).alloc (Nat.le_refl _) (.cells #[.bool n, .slice A l.length c] 24)).alloc (by simp) (.cells #[.bool n', .slice A' l'.length c'] 24))
    simp only [World.size_alloc] at B0
    generalize (w.alloc (.cells #[.bool n, .slice A l.length c] 24)).alloc (.cells #[.bool n', .slice A' l'.length c'] 24) = W at *
    refine (law_works _).mono ?_
    rintro e w1 ⟨rfl, hb1⟩
    go_wp2
    go_ret
    exact ⟨rfl, below_go hb0 hb1⟩
  · have hd : decide ((60 : Int) < (l.length : Int)) = false := decide_eq_false (by omega)
    have h2 : 60 < l'.length := by omega
    have hd2 : decide ((60 : Int) < (l'.length : Int)) = true := decide_eq_true (by omega)
    go_enter Tryd.func6, Tryd.ntmps6
    go_wp2_with fail
    have A0 := (Blk.new w [.bool n, .slice A l.length c] 24).alloc (.cells #[.bool n', .slice A' l'.length c'] 24)
    have B0 := Blk.new (w.alloc (.cells #[.bool n, .slice A l.length c] 24)) [.bool n', .slice A' l'.length c'] 24
    have hb0 := (((Below.refl w.heap.size w).alloc (Nat.le_refl _) (.cells #[.bool n, .slice A l.length c] 24)).alloc (by simp) (.cells #[.bool n', .slice A' l'.length c'] 24))
    simp only [World.size_alloc] at B0
    generalize (w.alloc (.cells #[.bool n, .slice A l.length c] 24)).alloc (.cells #[.bool n', .slice A' l'.length c'] 24) = W at *
    refine (law_works _).mono ?_
    rintro e w1 ⟨rfl, hb1⟩
    go_wp2
    go_ret
    exact ⟨rfl, below_go hb0 hb1⟩

/-- Where the difference lies, and what is known there. -/
def TellsMid (w : World) (n : Bool) (A : Option Addr) (c : Nat) (l : List Int) (n' : Bool) (A' : Option Addr) (c' : Nat) (l' : List Int) (p : Value) (wx : World) : Prop :=
  ∃ (bl : Nat) (S2 : Option Addr) (k2 : Nat), p = .pointer (some ⟨bl, 0, none⟩) ∧ w.heap.size + 2 ≤ bl ∧ (mag (zv n l - zv n' l')).length ≤ k2 ∧ Blk wx w.heap.size [.bool n, .slice A l.length c] ∧ Blk wx (w.heap.size + 1) [.bool n', .slice A' l'.length c'] ∧ Blk wx bl [.bool (ng (zv n l - zv n' l')), .slice S2 (mag (zv n l - zv n' l')).length k2] ∧ Rd (fun _ => True) wx A l ∧ Rd (fun _ => True) wx A' l' ∧ Rd (fun _ => True) wx S2 (mag (zv n l - zv n' l')) ∧ Below w.heap.size w wx

set_option maxHeartbeats 4000000 in
theorem law_tells (ok : Nat → Prop) (n : Bool) (A : Option Addr) (c : Nat) (l : List Int) (ok' : Nat → Prop) (n' : Bool) (A' : Option Addr) (c' : Nat) (l' : List Int) (w : World) (h : Rd ok w A l) (hc : l.length ≤ c) (h' : Rd ok' w A' l') (hc' : l'.length ≤ c') (hs : l.length ≤ 60) (hs' : l'.length ≤ 60) :
    Calls Tryd.prog 6 #[.agg #[.bool n, .slice A l.length c], .agg #[.bool n', .slice A' l'.length c']] w (fun e w' => e = .returned (.bool true) ∧ Below w.heap.size w w') := by
  have hd : decide ((60 : Int) < (l.length : Int)) = false := decide_eq_false (by omega)
  have hd2 : decide ((60 : Int) < (l'.length : Int)) = false := decide_eq_false (by omega)
  replace h := h.mono (ok' := fun k => k < w.heap.size) (fun k hk _ => hk)
  replace h' := h'.mono (ok' := fun k => k < w.heap.size) (fun k hk _ => hk)
  go_enter Tryd.func6, Tryd.ntmps6
  go_wp2_with fail
  have A0 := (Blk.new w [.bool n, .slice A l.length c] 24).alloc (.cells #[.bool n', .slice A' l'.length c'] 24)
  have B0 := Blk.new (w.alloc (.cells #[.bool n, .slice A l.length c] 24)) [.bool n', .slice A' l'.length c'] 24
  have rh := ((h.alloc (.cells #[.bool n, .slice A l.length c] 24)).alloc (.cells #[.bool n', .slice A' l'.length c'] 24))
  have rh' := ((h'.alloc (.cells #[.bool n, .slice A l.length c] 24)).alloc (.cells #[.bool n', .slice A' l'.length c'] 24))
  have hb0 := (((Below.refl w.heap.size w).alloc (Nat.le_refl _) (.cells #[.bool n, .slice A l.length c] 24)).alloc (by simp) (.cells #[.bool n', .slice A' l'.length c'] 24))
  simp only [World.size_alloc] at B0
  generalize (w.alloc (.cells #[.bool n, .slice A l.length c] 24)).alloc (.cells #[.bool n', .slice A' l'.length c'] 24) = W at *
  clear h h'
  have c0 := A0.c 0 rfl
  have c1 := A0.c 1 rfl
  have d0 := B0.c 0 rfl
  have d1 := B0.c 1 rfl
  have hsz := hb0.size
  have la := len_zv (n := n) rh.wd hs
  have lb := len_zv (n := n') rh'.wd hs'
  have lnb : (mag (-zv n' l')).length < 1000 := by have := len_sub (a := 0) (b := zv n' l') (m := 60) (by rw [show mag 0 = [] from rep_zero]; simp) lb; rw [Int.zero_sub] at this; omega
  have hlt1 := A0.lt; have hlt2 := B0.lt
  have pW0 : ¬ (w.heap.size = W.heap.size) := (by have := A0.lt; omega); have qW0 : ¬ (W.heap.size = w.heap.size) := (by have := A0.lt; omega); have pW1 : ¬ (w.heap.size + 1 = W.heap.size) := (by have := B0.lt; omega); have qW1 : ¬ (W.heap.size = w.heap.size + 1) := (by have := B0.lt; omega)
  have hzm := Asd.mk (zv_mag (-zv n' l'))
  go_cut [5] from 17 to 20 (fun p wx => TellsMid w n A c l n' A' c' l' p wx)
  case first =>
    go_region_held3 (fun w' => w'.cell? ⟨w.heap.size, 0, none⟩ = some (.bool n) ∧ w'.cell? ⟨w.heap.size, 1, none⟩ = some (.slice A l.length c) ∧ w'.cell? ⟨w.heap.size + 1, 0, none⟩ = some (.bool n') ∧ w'.cell? ⟨w.heap.size + 1, 1, none⟩ = some (.slice A' l'.length c')) (go_keep) (first
        | (go_at_call 16; refine (ref08_Neg (fun k => k < w.heap.size) n' A' c' l' _ ?_ hc' (by omega)).mono ?_; (first | exact rh'.drew | exact rh'.drew.alloc _); rintro e w1 ⟨S1, k1, rfl, hk1, hr1, hb1⟩; have hb1' : Below W.heap.size W w1 := (by first | exact undrew hb1 | exact below_go ((Below.refl W.heap.size W).alloc (Nat.le_refl _) _) (undrewA hb1)); have A1 := A0.below hb1'; have B1 := B0.below hb1'; have rh1 := rh.below hb1'; have rh1' := rh'.below hb1'; have a10 := A1.c 0 rfl; have a11 := A1.c 1 rfl; have b10 := B1.c 0 rfl; have b11 := B1.c 1 rfl; have hr1' : Rd (fun k => W.heap.size ≤ k) w1 S1 (mag (-zv n' l')) := hr1.mono (fun k _ hk => by first | exact hk | (simp at hk; omega)); (try have L1 : Blk w1 W.heap.size [.bool false, .slice none 0 0] := (Blk.new W.drew [.bool false, .slice none 0 0] 24).below hb1); have pw10 : ¬ (w.heap.size = w1.heap.size) := (by have := A1.lt; omega); have qw10 : ¬ (w1.heap.size = w.heap.size) := (by have := A1.lt; omega); have pw11 : ¬ (w.heap.size + 1 = w1.heap.size) := (by have := B1.lt; omega); have qw11 : ¬ (w1.heap.size = w.heap.size + 1) := (by have := B1.lt; omega); (try have l10 := L1.c 0 rfl); (try have l11 := L1.c 1 rfl); (try have l1l := L1.lt))
        | (go_at_call 14; refine (ref08_Add (fun k => k < w.heap.size) n A c l (fun k => W.heap.size ≤ k) (ng (-zv n' l')) S1 k1 (mag (-zv n' l')) _ ?_ hc ?_ hk1 (by omega) (by omega)).mono ?_; (first | exact rh1 | exact rh1.alloc _); (first | exact hr1' | exact hr1'.alloc _); rw [hzm.out]; rintro e w2 ⟨S2, k2, rfl, hk2, hr2, hb2⟩; have hb2' : Below w1.heap.size w1 w2 := (by first | exact hb2 | exact below_go ((Below.refl w1.heap.size w1).alloc (Nat.le_refl _) _) hb2); have A2 := A1.below hb2'; have B2 := B1.below hb2'; have rh2 := rh1.below hb2'; have rh2' := rh1'.below hb2'; have a20 := A2.c 0 rfl; have a21 := A2.c 1 rfl; have b20 := B2.c 0 rfl; have b21 := B2.c 1 rfl; have hr2' : Rd (fun k => w1.heap.size ≤ k) w2 S2 (mag (zv n l + -zv n' l')) := hr2.mono (fun k _ hk => by first | exact hk | (simp at hk; omega)); (try have L2 := (Blk.new w1 [.bool false, .slice none 0 0] 24).below hb2); (try have L2 := L1.below hb2); have pw20 : ¬ (w.heap.size = w2.heap.size) := (by have := A2.lt; omega); have qw20 : ¬ (w2.heap.size = w.heap.size) := (by have := A2.lt; omega); have pw21 : ¬ (w.heap.size + 1 = w2.heap.size) := (by have := B2.lt; omega); have qw21 : ¬ (w2.heap.size = w.heap.size + 1) := (by have := B2.lt; omega); (try have l20 := L2.c 0 rfl); (try have l21 := L2.c 1 rfl); (try have l2f := L2.f); (try have l2l := L2.lt)))
    all_goals clear c0 c1 d0 d1 a10 a11 b10 b11
    all_goals have HSUB : Asd (zv n l + -zv n' l' = zv n l - zv n' l') := ⟨by omega⟩
    all_goals rw [HSUB.out] at hk2 hr2 ⊢
    all_goals have hbw := below_go hb0 hb1'
    all_goals have hbw2 := below_go hbw hb2'
    all_goals have hzs := hbw2.size
    all_goals have hzl := Asd.mk (zv_mag (zv n l - zv n' l'))
    all_goals have lsub : (mag (zv n l - zv n' l')).length < 1000 := by have := len_sub la lb; omega

    all_goals first
      | (have XL : Blk ((w2.setCell ⟨w1.heap.size, 0, none⟩ (.bool (ng (zv n l - zv n' l')))).setCell ⟨w1.heap.size, 1, none⟩ (.slice S2 (mag (zv n l - zv n' l')).length k2)) (w1.heap.size) [.bool (ng (zv n l - zv n' l')), .slice S2 (mag (zv n l - zv n' l')).length k2] := (L2.set 0 _).set 1 _
         have LL := L2.lt
         have hle : w.heap.size + 2 ≤ w1.heap.size := by have := B1.lt; have := B0.lt; omega
         have XA := (((A2.far (by first | (simp; omega) | simp | omega) _).far (by first | (simp; omega) | simp | omega) _) : Blk ((w2.setCell ⟨w1.heap.size, 0, none⟩ (.bool (ng (zv n l - zv n' l')))).setCell ⟨w1.heap.size, 1, none⟩ (.slice S2 (mag (zv n l - zv n' l')).length k2)) _ _)
         have XB := (((B2.far (by first | (simp; omega) | simp | omega) _).far (by first | (simp; omega) | simp | omega) _) : Blk ((w2.setCell ⟨w1.heap.size, 0, none⟩ (.bool (ng (zv n l - zv n' l')))).setCell ⟨w1.heap.size, 1, none⟩ (.slice S2 (mag (zv n l - zv n' l')).length k2)) _ _)
         have ra := (((rh2.setCell (by first | (simp; omega) | simp | omega) _).setCell (by first | (simp; omega) | simp | omega) _) : Rd _ ((w2.setCell ⟨w1.heap.size, 0, none⟩ (.bool (ng (zv n l - zv n' l')))).setCell ⟨w1.heap.size, 1, none⟩ (.slice S2 (mag (zv n l - zv n' l')).length k2)) _ _)
         have rb := (((rh2'.setCell (by first | (simp; omega) | simp | omega) _).setCell (by first | (simp; omega) | simp | omega) _) : Rd _ ((w2.setCell ⟨w1.heap.size, 0, none⟩ (.bool (ng (zv n l - zv n' l')))).setCell ⟨w1.heap.size, 1, none⟩ (.slice S2 (mag (zv n l - zv n' l')).length k2)) _ _)
         have hB := (((hbw2.setCell (by first | (simp; omega) | simp | omega) _).setCell (by first | (simp; omega) | simp | omega) _) : Below _ _ ((w2.setCell ⟨w1.heap.size, 0, none⟩ (.bool (ng (zv n l - zv n' l')))).setCell ⟨w1.heap.size, 1, none⟩ (.slice S2 (mag (zv n l - zv n' l')).length k2)))
         have rl := ((((Rd.mono hr2 (ok' := fun k => (w1.heap.size) ≠ k ∧ w.heap.size ≤ k) (fun k _ hk => by first | (simp at hk; omega) | omega)).setCell (by first | (simp; omega) | simp | omega) _).setCell (by first | (simp; omega) | simp | omega) _) : Rd _ ((w2.setCell ⟨w1.heap.size, 0, none⟩ (.bool (ng (zv n l - zv n' l')))).setCell ⟨w1.heap.size, 1, none⟩ (.slice S2 (mag (zv n l - zv n' l')).length k2)) _ _).mono (ok' := fun _ => True) (fun _ _ _ => trivial)
         have hneA : ¬ (w.heap.size = w1.heap.size) := by omega
         generalize (w2.setCell ⟨w1.heap.size, 0, none⟩ (.bool (ng (zv n l - zv n' l')))).setCell ⟨w1.heap.size, 1, none⟩ (.slice S2 (mag (zv n l - zv n' l')).length k2) = WZ at XL XA XB ra rb rl hB ⊢
         generalize w1.heap.size = bl at XL hle hneA ⊢)
      | (have XL : Blk ((w2.setCell ⟨W.heap.size, 0, none⟩ (.bool (ng (zv n l - zv n' l')))).setCell ⟨W.heap.size, 1, none⟩ (.slice S2 (mag (zv n l - zv n' l')).length k2)) (W.heap.size) [.bool (ng (zv n l - zv n' l')), .slice S2 (mag (zv n l - zv n' l')).length k2] := (L2.set 0 _).set 1 _
         have LL := L2.lt
         have hle : w.heap.size + 2 ≤ W.heap.size := by have := B1.lt; have := B0.lt; omega
         have XA := (((A2.far (by first | (simp; omega) | simp | omega) _).far (by first | (simp; omega) | simp | omega) _) : Blk ((w2.setCell ⟨W.heap.size, 0, none⟩ (.bool (ng (zv n l - zv n' l')))).setCell ⟨W.heap.size, 1, none⟩ (.slice S2 (mag (zv n l - zv n' l')).length k2)) _ _)
         have XB := (((B2.far (by first | (simp; omega) | simp | omega) _).far (by first | (simp; omega) | simp | omega) _) : Blk ((w2.setCell ⟨W.heap.size, 0, none⟩ (.bool (ng (zv n l - zv n' l')))).setCell ⟨W.heap.size, 1, none⟩ (.slice S2 (mag (zv n l - zv n' l')).length k2)) _ _)
         have ra := (((rh2.setCell (by first | (simp; omega) | simp | omega) _).setCell (by first | (simp; omega) | simp | omega) _) : Rd _ ((w2.setCell ⟨W.heap.size, 0, none⟩ (.bool (ng (zv n l - zv n' l')))).setCell ⟨W.heap.size, 1, none⟩ (.slice S2 (mag (zv n l - zv n' l')).length k2)) _ _)
         have rb := (((rh2'.setCell (by first | (simp; omega) | simp | omega) _).setCell (by first | (simp; omega) | simp | omega) _) : Rd _ ((w2.setCell ⟨W.heap.size, 0, none⟩ (.bool (ng (zv n l - zv n' l')))).setCell ⟨W.heap.size, 1, none⟩ (.slice S2 (mag (zv n l - zv n' l')).length k2)) _ _)
         have hB := (((hbw2.setCell (by first | (simp; omega) | simp | omega) _).setCell (by first | (simp; omega) | simp | omega) _) : Below _ _ ((w2.setCell ⟨W.heap.size, 0, none⟩ (.bool (ng (zv n l - zv n' l')))).setCell ⟨W.heap.size, 1, none⟩ (.slice S2 (mag (zv n l - zv n' l')).length k2)))
         have rl := ((((Rd.mono hr2 (ok' := fun k => (W.heap.size) ≠ k ∧ w.heap.size ≤ k) (fun k _ hk => by first | (simp at hk; omega) | omega)).setCell (by first | (simp; omega) | simp | omega) _).setCell (by first | (simp; omega) | simp | omega) _) : Rd _ ((w2.setCell ⟨W.heap.size, 0, none⟩ (.bool (ng (zv n l - zv n' l')))).setCell ⟨W.heap.size, 1, none⟩ (.slice S2 (mag (zv n l - zv n' l')).length k2)) _ _).mono (ok' := fun _ => True) (fun _ _ _ => trivial)
         have hneA : ¬ (w.heap.size = W.heap.size) := by omega
         generalize (w2.setCell ⟨W.heap.size, 0, none⟩ (.bool (ng (zv n l - zv n' l')))).setCell ⟨W.heap.size, 1, none⟩ (.slice S2 (mag (zv n l - zv n' l')).length k2) = WZ at XL XA XB ra rb rl hB ⊢
         generalize W.heap.size = bl at XL hle hneA ⊢)
      | (have XL := Blk.new w2 [.bool (ng (zv n l - zv n' l')), .slice S2 (mag (zv n l - zv n' l')).length k2] 24
         have hle : w.heap.size + 2 ≤ w2.heap.size := by have := B2.lt; omega
         have XA := A2.alloc (.cells #[.bool (ng (zv n l - zv n' l')), .slice S2 (mag (zv n l - zv n' l')).length k2] 24)
         have XB := B2.alloc (.cells #[.bool (ng (zv n l - zv n' l')), .slice S2 (mag (zv n l - zv n' l')).length k2] 24)
         have ra := rh2.alloc (.cells #[.bool (ng (zv n l - zv n' l')), .slice S2 (mag (zv n l - zv n' l')).length k2] 24)
         have rb := rh2'.alloc (.cells #[.bool (ng (zv n l - zv n' l')), .slice S2 (mag (zv n l - zv n' l')).length k2] 24)
         have hB := hbw2.alloc hzs (.cells #[.bool (ng (zv n l - zv n' l')), .slice S2 (mag (zv n l - zv n' l')).length k2] 24)
         have rl := (hr2.alloc (.cells #[.bool (ng (zv n l - zv n' l')), .slice S2 (mag (zv n l - zv n' l')).length k2] 24)).mono (ok' := fun _ => True) (fun _ _ _ => trivial)
         have hneA : ¬ (w.heap.size = w2.heap.size) := by omega
         generalize w2.alloc (.cells #[.bool (ng (zv n l - zv n' l')), .slice S2 (mag (zv n l - zv n' l')).length k2] 24) = WZ at *
         generalize w2.heap.size = bl at *)
    all_goals go_wp2_with fail
    all_goals go_meet
    all_goals exact ⟨_, _, _, rfl, hle, hk2, XA, XB, XL, ra.mono (fun _ _ _ => trivial), rb.mono (fun _ _ _ => trivial), rl, hB⟩
  case rest =>
  obtain ⟨bl, S2, k2, rfl, hle, hk2, XA, XB, XL, ra, rb, rl, hB⟩ := hcut
  have lsub : (mag (zv n l - zv n' l')).length < 1000 := by have := len_sub la lb; omega
  have hzl := Asd.mk (zv_mag (zv n l - zv n' l'))
  clear rh rh' A0 B0 c0 c1 d0 d1 hb0
  have cXA0 := XA.c 0 rfl; have cXA1 := XA.c 1 rfl; have cXB0 := XB.c 0 rfl; have cXB1 := XB.c 1 rfl; have cXL0 := XL.c 0 rfl; have cXL1 := XL.c 1 rfl
  go_wp2_with fail
  replace XA := XA.drew; replace XB := XB.drew; replace XL := XL.drew; replace ra := ra.drew; replace rb := rb.drew; replace rl := rl.drew; replace hB := below_drewN hB 1
  go_region_held3 (fun w' => w'.cell? ⟨w.heap.size, 0, none⟩ = some (.bool n) ∧ w'.cell? ⟨w.heap.size, 1, none⟩ = some (.slice A l.length c) ∧ w'.cell? ⟨w.heap.size + 1, 0, none⟩ = some (.bool n') ∧ w'.cell? ⟨w.heap.size + 1, 1, none⟩ = some (.slice A' l'.length c') ∧ w'.cell? ⟨bl, 0, none⟩ = some (.bool (ng (zv n l - zv n' l'))) ∧ w'.cell? ⟨bl, 1, none⟩ = some (.slice S2 (mag (zv n l - zv n' l')).length k2)) (go_keep)
    (first
      | (go_at_call 10; refine (law_To _ _ _ _ _).mono ?_; rintro e w1 ⟨rfl, hb1⟩; replace XA := XA.below hb1; replace XB := XB.below hb1; replace XL := XL.below hb1; replace ra := ra.below hb1; replace rb := rb.below hb1; replace rl := rl.below hb1; replace cXA0 := XA.c 0 rfl; replace cXA1 := XA.c 1 rfl; replace cXB0 := XB.c 0 rfl; replace cXB1 := XB.c 1 rfl; replace cXL0 := XL.c 0 rfl; replace cXL1 := XL.c 1 rfl; replace hB := below_go hB hb1)
      | (go_at_call 28; have hm := whole_Norm _ n A c l _ ra hc; refine hm.mono ?_; clear hm; rintro e w1 ⟨P1, p1, rfl, hp1, hp, hb1⟩; replace XA := XA.below hb1; replace XB := XB.below hb1; replace XL := XL.below hb1; replace ra := ra.below hb1; replace rb := rb.below hb1; replace rl := rl.below hb1; replace cXA0 := XA.c 0 rfl; replace cXA1 := XA.c 1 rfl; replace cXB0 := XB.c 0 rfl; replace cXB1 := XB.c 1 rfl; replace cXL0 := XL.c 0 rfl; replace cXL1 := XL.c 1 rfl; replace hB := below_go hB hb1)
      | (go_at_call 12; refine (law_Of _ _ _ _ _).mono ?_; rintro e w1 ⟨rfl, hb1⟩; replace hp := hp.below hb1; replace XA := XA.below hb1; replace XB := XB.below hb1; replace XL := XL.below hb1; replace ra := ra.below hb1; replace rb := rb.below hb1; replace rl := rl.below hb1; replace cXA0 := XA.c 0 rfl; replace cXA1 := XA.c 1 rfl; replace cXB0 := XB.c 0 rfl; replace cXB1 := XB.c 1 rfl; replace cXL0 := XL.c 0 rfl; replace cXL1 := XL.c 1 rfl; replace hB := below_go hB hb1)
      | (go_at_call 29; have hm := ref08_Norm _ n A c l _ ra hc (by omega); refine hm.mono ?_; clear hm; rintro e w1 ⟨Q1, q1, rfl, hq1, hq, hb1⟩; replace hp := hp.below hb1; replace XA := XA.below hb1; replace XB := XB.below hb1; replace XL := XL.below hb1; replace ra := ra.below hb1; replace rb := rb.below hb1; replace rl := rl.below hb1; replace cXA0 := XA.c 0 rfl; replace cXA1 := XA.c 1 rfl; replace cXB0 := XB.c 0 rfl; replace cXB1 := XB.c 1 rfl; replace cXL0 := XL.c 0 rfl; replace cXL1 := XL.c 1 rfl; replace hB := below_go hB hb1)
      | (go_at_call_of 11 (Value.bool (ng (zv n l))); have hm := ref08_Same _ _ (ng (zv n l)) _ _ _ _ _ _ hp hq hp1 hq1; refine hm.mono ?_; clear hm; rintro e w1 ⟨rfl, hb1⟩; replace XA := XA.below hb1; replace XB := XB.below hb1; replace XL := XL.below hb1; replace ra := ra.below hb1; replace rb := rb.below hb1; replace rl := rl.below hb1; replace cXA0 := XA.c 0 rfl; replace cXA1 := XA.c 1 rfl; replace cXB0 := XB.c 0 rfl; replace cXB1 := XB.c 1 rfl; replace cXL0 := XL.c 0 rfl; replace cXL1 := XL.c 1 rfl; replace hB := below_go hB hb1; clear hp hq hp1 hq1)
      | (go_at_call_of 11 (Value.bool (ng (-zv n l))); have hm := ref08_Same _ _ (ng (-zv n l)) _ _ _ _ _ _ hp hq hp1 hq1; refine hm.mono ?_; clear hm; rintro e w1 ⟨rfl, hb1⟩; replace XA := XA.below hb1; replace XB := XB.below hb1; replace XL := XL.below hb1; replace ra := ra.below hb1; replace rb := rb.below hb1; replace rl := rl.below hb1; replace cXA0 := XA.c 0 rfl; replace cXA1 := XA.c 1 rfl; replace cXB0 := XB.c 0 rfl; replace cXB1 := XB.c 1 rfl; replace cXL0 := XL.c 0 rfl; replace cXL1 := XL.c 1 rfl; replace hB := below_go hB hb1; clear hp hq hp1 hq1)
      | (go_at_call 27; have hm := whole_Sign _ n A c l _ ra hc; refine hm.mono ?_; clear hm; rintro e w1 ⟨rfl, hb1⟩; replace XA := XA.below hb1; replace XB := XB.below hb1; replace XL := XL.below hb1; replace ra := ra.below hb1; replace rb := rb.below hb1; replace rl := rl.below hb1; replace cXA0 := XA.c 0 rfl; replace cXA1 := XA.c 1 rfl; replace cXB0 := XB.c 0 rfl; replace cXB1 := XB.c 1 rfl; replace cXL0 := XL.c 0 rfl; replace cXL1 := XL.c 1 rfl; replace hB := below_go hB hb1)
      | (go_at_call_of 20 (Value.agg #[.bool n, .slice A l.length c]); have hm := ref08_Sign _ n A c l _ ra hc (by omega); refine hm.mono ?_; clear hm; rintro e w1 ⟨rfl, hb1⟩; replace XA := XA.below hb1; replace XB := XB.below hb1; replace XL := XL.below hb1; replace ra := ra.below hb1; replace rb := rb.below hb1; replace rl := rl.below hb1; replace cXA0 := XA.c 0 rfl; replace cXA1 := XA.c 1 rfl; replace cXB0 := XB.c 0 rfl; replace cXB1 := XB.c 1 rfl; replace cXL0 := XL.c 0 rfl; replace cXL1 := XL.c 1 rfl; replace hB := below_go hB hb1)
      | (go_at_call 20; have hm := ref08_Sign _ (ng (zv n l - zv n' l')) S2 k2 (mag (zv n l - zv n' l')) _ rl hk2 (by omega); rw [hzl.out] at hm; refine hm.mono ?_; clear hm; rintro e w1 ⟨rfl, hb1⟩; replace XA := XA.below hb1; replace XB := XB.below hb1; replace XL := XL.below hb1; replace ra := ra.below hb1; replace rb := rb.below hb1; replace rl := rl.below hb1; replace cXA0 := XA.c 0 rfl; replace cXA1 := XA.c 1 rfl; replace cXB0 := XB.c 0 rfl; replace cXB1 := XB.c 1 rfl; replace cXL0 := XL.c 0 rfl; replace cXL1 := XL.c 1 rfl; replace hB := below_go hB hb1)
      | (go_at_call 26; have hm := whole_Cmp _ n A c l _ n' A' c' l' _ ra hc rb hc' (by omega) (by omega); refine hm.mono ?_; clear hm; rintro e w1 ⟨rfl, hb1⟩; replace XA := XA.below hb1; replace XB := XB.below hb1; replace XL := XL.below hb1; replace ra := ra.below hb1; replace rb := rb.below hb1; replace rl := rl.below hb1; replace cXA0 := XA.c 0 rfl; replace cXA1 := XA.c 1 rfl; replace cXB0 := XB.c 0 rfl; replace cXB1 := XB.c 1 rfl; replace cXL0 := XL.c 0 rfl; replace cXL1 := XL.c 1 rfl; replace hB := below_go hB hb1)
      | (go_at_call 30; have hm := whole_Neg _ n A c l _ ra hc; refine hm.mono ?_; clear hm; rintro e w1 ⟨P1, p1, rfl, hp1, hp, hb1⟩; replace XA := XA.below hb1; replace XB := XB.below hb1; replace XL := XL.below hb1; replace ra := ra.below hb1; replace rb := rb.below hb1; replace rl := rl.below hb1; replace cXA0 := XA.c 0 rfl; replace cXA1 := XA.c 1 rfl; replace cXB0 := XB.c 0 rfl; replace cXB1 := XB.c 1 rfl; replace cXL0 := XL.c 0 rfl; replace cXL1 := XL.c 1 rfl; replace hB := below_go hB hb1)
      | (go_at_call 16; have hm := ref08_Neg _ n A c l _ ra hc (by omega); refine hm.mono ?_; clear hm; rintro e w1 ⟨Q1, q1, rfl, hq1, hq, hb1⟩; replace hp := hp.below hb1; replace XA := XA.below hb1; replace XB := XB.below hb1; replace XL := XL.below hb1; replace ra := ra.below hb1; replace rb := rb.below hb1; replace rl := rl.below hb1; replace cXA0 := XA.c 0 rfl; replace cXA1 := XA.c 1 rfl; replace cXB0 := XB.c 0 rfl; replace cXB1 := XB.c 1 rfl; replace cXL0 := XL.c 0 rfl; replace cXL1 := XL.c 1 rfl; replace hB := below_go hB hb1)
      | (go_at_call 9; refine (law_works _).mono ?_; rintro e w1 ⟨rfl, hb1⟩; replace XA := XA.below hb1; replace XB := XB.below hb1; replace XL := XL.below hb1; replace ra := ra.below hb1; replace rb := rb.below hb1; replace rl := rl.below hb1; replace cXA0 := XA.c 0 rfl; replace cXA1 := XA.c 1 rfl; replace cXB0 := XB.c 0 rfl; replace cXB1 := XB.c 1 rfl; replace cXL0 := XL.c 0 rfl; replace cXL1 := XL.c 1 rfl; replace hB := below_go hB hb1))
  go_wp2
  go_ret
  exact ⟨rfl, hB⟩

theorem law_tells_all (n : Bool) (A : Option Addr) (c : Nat) (l : List Int) (n' : Bool) (A' : Option Addr) (c' : Nat) (l' : List Int) (w : World) (h : l.length ≤ 1099511627776 → Rd (fun _ => True) w A l) (hc : l.length ≤ c) (h' : l'.length ≤ 1099511627776 → Rd (fun _ => True) w A' l') (hc' : l'.length ≤ c') :
    Calls Tryd.prog 6 #[.agg #[.bool n, .slice A l.length c], .agg #[.bool n', .slice A' l'.length c']] w (fun e w' => e = .returned (.bool true) ∧ Below w.heap.size w w') := by
  by_cases h1 : 60 < l.length ∨ 60 < l'.length
  · exact law_tells_long n A c l n' A' c' l' w h1
  · exact law_tells _ n A c l _ n' A' c' l' w (h (by omega)) hc (h' (by omega)) hc' (by omega) (by omega)
end Go.Proofs.YthjpkichpkomcaaDoor
