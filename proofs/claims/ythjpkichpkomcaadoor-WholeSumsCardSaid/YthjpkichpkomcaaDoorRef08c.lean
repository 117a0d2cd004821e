/- The document's answer for layer 8: sums (retrospectref08.Add). -/
import Derived.Test.YthjpkichpkomcaaDoorRef08b
import Derived.Test.YthjpkichpkomcaaDoorRef02d
import Derived.Test.YthjpkichpkomcaaDoorRef02e
import Derived.Outline
import Derived.Deep.RegionHeld3
import Derived.Deep.DrawnRows
import Derived.Deep.DeepMust
namespace Go.Proofs.YthjpkichpkomcaaDoor
open Go.RowKit Go.Proofs.YthjpkichpkomcaaDoor.Big
set_option linter.unusedVariables false
set_option maxRecDepth 100000
attribute [local go_sem ↓] Go.wp_at_zero Go.wp_at_succ

set_option maxHeartbeats 1000000 in
theorem ref08_Add_same (ok : Nat → Prop) (n : Bool) (A : Option Addr) (c : Nat) (l : List Int) (ok' : Nat → Prop) (A' : Option Addr) (c' : Nat) (l' : List Int) (w : World) (h : Rd ok w A l) (hc : l.length ≤ c) (h' : Rd ok' w A' l') (hc' : l'.length ≤ c') (hbig : l.length < 100000000) (hbig' : l'.length < 100000000) :
    Calls Tryd.prog 14 #[.agg #[.bool n, .slice A l.length c], .agg #[.bool n, .slice A' l'.length c']] w (WhOut (zv n l + zv n l') w) := by
  have hv := val_nonneg h.wd; have hv' := val_nonneg h'.wd
  have hw := val_lt h.wd; have hw' := val_lt h'.wd
  have HL : Asd ((rep (val l + val l')).length < 1000000000) := ⟨Nat.lt_of_le_of_lt (rep_length_le (n := l.length + l'.length + 1) (by have h1 := pw_mono (show l.length ≤ l.length + l'.length by omega); have h2 := pw_mono (show l'.length ≤ l.length + l'.length by omega); have h3 := pw_pos (l.length + l'.length); rw [pw_succ]; omega)) (by omega)⟩
  have HZ : Asd (zv n (rep (val l + val l')) = zv n l + zv n l') := ⟨by unfold zv; rw [val_rep (by omega)]; split <;> omega⟩
  clear hv hv' hw hw'
  go_enter Tryd.func14, Tryd.ntmps14
  go_wp2_with fail
  have A0 := ((Blk.new w [.bool n, .slice A l.length c] 24).alloc (.cells #[.bool n, .slice A' l'.length c'] 24)).alloc (.cells #[.bool false, .slice none 0 0] 24)
  have B0 := (Blk.new (w.alloc (.cells #[.bool n, .slice A l.length c] 24)) [.bool n, .slice A' l'.length c'] 24).alloc (.cells #[.bool false, .slice none 0 0] 24)
  have R0 := Blk.new ((w.alloc (.cells #[.bool n, .slice A l.length c] 24)).alloc (.cells #[.bool n, .slice A' l'.length c'] 24)) [.bool false, .slice none 0 0] 24
  have rh := (((h.alloc (.cells #[.bool n, .slice A l.length c] 24)).alloc (.cells #[.bool n, .slice A' l'.length c'] 24)).alloc (.cells #[.bool false, .slice none 0 0] 24))
  have rh' := (((h'.alloc (.cells #[.bool n, .slice A l.length c] 24)).alloc (.cells #[.bool n, .slice A' l'.length c'] 24)).alloc (.cells #[.bool false, .slice none 0 0] 24))
  have hb0 := ((((Below.refl w.heap.size w).alloc (Nat.le_refl _) (.cells #[.bool n, .slice A l.length c] 24)).alloc (by simp) (.cells #[.bool n, .slice A' l'.length c'] 24)).alloc (by simp; omega) (.cells #[.bool false, .slice none 0 0] 24))
  simp only [World.size_alloc] at B0 R0
  generalize ((w.alloc (.cells #[.bool n, .slice A l.length c] 24)).alloc (.cells #[.bool n, .slice A' l'.length c'] 24)).alloc (.cells #[.bool false, .slice none 0 0] 24) = W at *
  clear h h'
  have c0 := A0.c 0 rfl
  have c1 := A0.c 1 rfl
  have d0 := B0.c 0 rfl
  have d1 := B0.c 1 rfl
  have n1 : ¬ (w.heap.size = w.heap.size + 1 + 1) := by omega
  have n2 : ¬ (w.heap.size + 1 + 1 = w.heap.size) := by omega
  have HN := Asd.mk (ref02_Add _ _ A A' c c' l l' W.drew rh.drew hc rh'.drew hc' (by omega) (by omega))
  go_region_held3 (fun w' => w'.cell? ⟨w.heap.size, 0, none⟩ = some (.bool n) ∧ w'.cell? ⟨w.heap.size, 1, none⟩ = some (.slice A l.length c) ∧ w'.cell? ⟨w.heap.size + 1, 0, none⟩ = some (.bool n) ∧ w'.cell? ⟨w.heap.size + 1, 1, none⟩ = some (.slice A' l'.length c')) (go_keep)
    (first
      | (go_at_call 44; refine HN.out.mono ?_; rintro e w2 ⟨A1, c1, rfl, hc1, hr1, hb2⟩; replace hb2 := undrew hb2; replace hr1 : Rd (fun k => W.heap.size ≤ k) w2 A1 _ := hr1; have A2 := A0.below hb2; have B2 := B0.below hb2; have R2 := R0.below hb2; have qA20 := A2.c 0 rfl; have qA21 := A2.c 1 rfl; have qB20 := B2.c 0 rfl; have qB21 := B2.c 1 rfl)
      | (go_at_call 29; refine (ref08_Norm _ n A1 c1 (rep (val l + val l')) _ hr1 hc1 (by have := HL.out; omega)).mono ?_; rintro e w3 ⟨A3, c3, rfl, hc3, hr3, hb3⟩; rw [HZ.out] at hc3 hr3 ⊢; have A3 := A2.below hb3; have B3 := B2.below hb3; have R3 := R2.below hb3; have qA30 := A3.c 0 rfl; have qA31 := A3.c 1 rfl; have qB30 := B3.c 0 rfl; have qB31 := B3.c 1 rfl; have qR30 := R3.c 0 rfl; have qR31 := R3.c 1 rfl; have ef := R3.f; have ez := R3.lt))
  go_wp2
  refine bodyPost_ret (ret_blk rfl rfl ((R3.set 0 _).set 1 _) Tryd.underlying24 (by kernel_rfl)) rfl ?_
  have hlt := R0.lt
  have hlt1 := hb2.size
  exact ⟨_, _, rfl, hc3, ((hr3.setCell (by simp; omega) _).setCell (by simp; omega) _).mono (fun k _ hk => by omega), ((below_go (below_go hb0 hb2) hb3).setCell (by simp; omega) _).setCell (by simp; omega) _⟩

set_option maxHeartbeats 1000000 in
theorem ref08_Add_lt_true (ok : Nat → Prop) (A : Option Addr) (c : Nat) (l : List Int) (ok' : Nat → Prop) (A' : Option Addr) (c' : Nat) (l' : List Int) (w : World) (h : Rd ok w A l) (hc : l.length ≤ c) (h' : Rd ok' w A' l') (hc' : l'.length ≤ c') (hbig : l.length < 100000000) (hbig' : l'.length < 100000000) (hlt : val l < val l') :
    Calls Tryd.prog 14 #[.agg #[.bool true, .slice A l.length c], .agg #[.bool false, .slice A' l'.length c']] w (WhOut (zv true l + zv false l') w) := by
  have hv := val_nonneg h.wd; have hv' := val_nonneg h'.wd
  have hw := val_lt h.wd; have hw' := val_lt h'.wd
  have HL : Asd ((rep (val l' - val l)).length < 1000000000) := ⟨Nat.lt_of_le_of_lt (rep_length_le (n := l.length + l'.length + 1) (by have h1 := pw_mono (show l.length ≤ l.length + l'.length by omega); have h2 := pw_mono (show l'.length ≤ l.length + l'.length by omega); have h3 := pw_pos (l.length + l'.length); rw [pw_succ]; omega)) (by omega)⟩
  have HZ : Asd (zv false (rep (val l' - val l)) = zv true l + zv false l') := ⟨by unfold zv; rw [val_rep (by omega)]; simp; omega⟩
  have HC : Asd (cmpI (val l) (val l') = -1) := ⟨by unfold cmpI; rw [if_pos hlt]⟩
  have HG : Asd (val l ≤ val l') := ⟨by omega⟩
  clear hlt
  clear hv hv' hw hw'
  go_enter Tryd.func14, Tryd.ntmps14
  go_wp2_with fail
  have A0 := ((Blk.new w [.bool true, .slice A l.length c] 24).alloc (.cells #[.bool false, .slice A' l'.length c'] 24)).alloc (.cells #[.bool false, .slice none 0 0] 24)
  have B0 := (Blk.new (w.alloc (.cells #[.bool true, .slice A l.length c] 24)) [.bool false, .slice A' l'.length c'] 24).alloc (.cells #[.bool false, .slice none 0 0] 24)
  have R0 := Blk.new ((w.alloc (.cells #[.bool true, .slice A l.length c] 24)).alloc (.cells #[.bool false, .slice A' l'.length c'] 24)) [.bool false, .slice none 0 0] 24
  have rh := (((h.alloc (.cells #[.bool true, .slice A l.length c] 24)).alloc (.cells #[.bool false, .slice A' l'.length c'] 24)).alloc (.cells #[.bool false, .slice none 0 0] 24))
  have rh' := (((h'.alloc (.cells #[.bool true, .slice A l.length c] 24)).alloc (.cells #[.bool false, .slice A' l'.length c'] 24)).alloc (.cells #[.bool false, .slice none 0 0] 24))
  have hb0 := ((((Below.refl w.heap.size w).alloc (Nat.le_refl _) (.cells #[.bool true, .slice A l.length c] 24)).alloc (by simp) (.cells #[.bool false, .slice A' l'.length c'] 24)).alloc (by simp; omega) (.cells #[.bool false, .slice none 0 0] 24))
  simp only [World.size_alloc] at B0 R0
  generalize ((w.alloc (.cells #[.bool true, .slice A l.length c] 24)).alloc (.cells #[.bool false, .slice A' l'.length c'] 24)).alloc (.cells #[.bool false, .slice none 0 0] 24) = W at *
  clear h h'
  have c0 := A0.c 0 rfl
  have c1 := A0.c 1 rfl
  have d0 := B0.c 0 rfl
  have d1 := B0.c 1 rfl
  have n1 : ¬ (w.heap.size = w.heap.size + 1 + 1) := by omega
  have n2 : ¬ (w.heap.size + 1 + 1 = w.heap.size) := by omega
  refine (ref02_Cmp _ _ A A' c c' l l' _ rh rh' (by omega) (by omega)).mono ?_
  rintro e w1 ⟨rfl, rfl⟩
  have HN := Asd.mk (ref02_Sub _ _ A' A c' c l' l W.drew rh'.drew hc' rh.drew hc (by omega) (by omega) HG.out)
  rw [HC.out]
  go_wp2_with fail
  go_region_held3 (fun w' => w'.cell? ⟨w.heap.size, 0, none⟩ = some (.bool true) ∧ w'.cell? ⟨w.heap.size, 1, none⟩ = some (.slice A l.length c) ∧ w'.cell? ⟨w.heap.size + 1, 0, none⟩ = some (.bool false) ∧ w'.cell? ⟨w.heap.size + 1, 1, none⟩ = some (.slice A' l'.length c')) (go_keep)
    (first
      | (go_at_call 46; refine HN.out.mono ?_; rintro e w2 ⟨A1, c1, rfl, hc1, hr1, hb2⟩; replace hb2 := undrew hb2; replace hr1 : Rd (fun k => W.heap.size ≤ k) w2 A1 _ := hr1; have A2 := A0.below hb2; have B2 := B0.below hb2; have R2 := R0.below hb2; have qA20 := A2.c 0 rfl; have qA21 := A2.c 1 rfl; have qB20 := B2.c 0 rfl; have qB21 := B2.c 1 rfl)
      | (go_at_call 29; refine (ref08_Norm _ false A1 c1 (rep (val l' - val l)) _ hr1 hc1 (by have := HL.out; omega)).mono ?_; rintro e w3 ⟨A3, c3, rfl, hc3, hr3, hb3⟩; rw [HZ.out] at hc3 hr3 ⊢; have A3 := A2.below hb3; have B3 := B2.below hb3; have R3 := R2.below hb3; have qA30 := A3.c 0 rfl; have qA31 := A3.c 1 rfl; have qB30 := B3.c 0 rfl; have qB31 := B3.c 1 rfl; have qR30 := R3.c 0 rfl; have qR31 := R3.c 1 rfl; have ef := R3.f; have ez := R3.lt))
  go_wp2
  refine bodyPost_ret (ret_blk rfl rfl ((R3.set 0 _).set 1 _) Tryd.underlying24 (by kernel_rfl)) rfl ?_
  have hlt := R0.lt
  have hlt1 := hb2.size
  exact ⟨_, _, rfl, hc3, ((hr3.setCell (by simp; omega) _).setCell (by simp; omega) _).mono (fun k _ hk => by omega), ((below_go (below_go hb0 hb2) hb3).setCell (by simp; omega) _).setCell (by simp; omega) _⟩

set_option maxHeartbeats 1000000 in
theorem ref08_Add_ge_true (ok : Nat → Prop) (A : Option Addr) (c : Nat) (l : List Int) (ok' : Nat → Prop) (A' : Option Addr) (c' : Nat) (l' : List Int) (w : World) (h : Rd ok w A l) (hc : l.length ≤ c) (h' : Rd ok' w A' l') (hc' : l'.length ≤ c') (hbig : l.length < 100000000) (hbig' : l'.length < 100000000) (hlt : val l' ≤ val l) :
    Calls Tryd.prog 14 #[.agg #[.bool true, .slice A l.length c], .agg #[.bool false, .slice A' l'.length c']] w (WhOut (zv true l + zv false l') w) := by
  have hv := val_nonneg h.wd; have hv' := val_nonneg h'.wd
  have hw := val_lt h.wd; have hw' := val_lt h'.wd
  have HL : Asd ((rep (val l - val l')).length < 1000000000) := ⟨Nat.lt_of_le_of_lt (rep_length_le (n := l.length + l'.length + 1) (by have h1 := pw_mono (show l.length ≤ l.length + l'.length by omega); have h2 := pw_mono (show l'.length ≤ l.length + l'.length by omega); have h3 := pw_pos (l.length + l'.length); rw [pw_succ]; omega)) (by omega)⟩
  have HZ : Asd (zv true (rep (val l - val l')) = zv true l + zv false l') := ⟨by unfold zv; rw [val_rep (by omega)]; simp; omega⟩
  have HC : Asd (cmpI (val l) (val l') = 0 ∨ cmpI (val l) (val l') = 1) := ⟨by unfold cmpI; split <;> first | omega | (split <;> simp)⟩
  have HG : Asd (val l' ≤ val l) := ⟨by omega⟩
  clear hlt
  clear hv hv' hw hw'
  go_enter Tryd.func14, Tryd.ntmps14
  go_wp2_with fail
  have A0 := ((Blk.new w [.bool true, .slice A l.length c] 24).alloc (.cells #[.bool false, .slice A' l'.length c'] 24)).alloc (.cells #[.bool false, .slice none 0 0] 24)
  have B0 := (Blk.new (w.alloc (.cells #[.bool true, .slice A l.length c] 24)) [.bool false, .slice A' l'.length c'] 24).alloc (.cells #[.bool false, .slice none 0 0] 24)
  have R0 := Blk.new ((w.alloc (.cells #[.bool true, .slice A l.length c] 24)).alloc (.cells #[.bool false, .slice A' l'.length c'] 24)) [.bool false, .slice none 0 0] 24
  have rh := (((h.alloc (.cells #[.bool true, .slice A l.length c] 24)).alloc (.cells #[.bool false, .slice A' l'.length c'] 24)).alloc (.cells #[.bool false, .slice none 0 0] 24))
  have rh' := (((h'.alloc (.cells #[.bool true, .slice A l.length c] 24)).alloc (.cells #[.bool false, .slice A' l'.length c'] 24)).alloc (.cells #[.bool false, .slice none 0 0] 24))
  have hb0 := ((((Below.refl w.heap.size w).alloc (Nat.le_refl _) (.cells #[.bool true, .slice A l.length c] 24)).alloc (by simp) (.cells #[.bool false, .slice A' l'.length c'] 24)).alloc (by simp; omega) (.cells #[.bool false, .slice none 0 0] 24))
  simp only [World.size_alloc] at B0 R0
  generalize ((w.alloc (.cells #[.bool true, .slice A l.length c] 24)).alloc (.cells #[.bool false, .slice A' l'.length c'] 24)).alloc (.cells #[.bool false, .slice none 0 0] 24) = W at *
  clear h h'
  have c0 := A0.c 0 rfl
  have c1 := A0.c 1 rfl
  have d0 := B0.c 0 rfl
  have d1 := B0.c 1 rfl
  have n1 : ¬ (w.heap.size = w.heap.size + 1 + 1) := by omega
  have n2 : ¬ (w.heap.size + 1 + 1 = w.heap.size) := by omega
  refine (ref02_Cmp _ _ A A' c c' l l' _ rh rh' (by omega) (by omega)).mono ?_
  rintro e w1 ⟨rfl, rfl⟩
  have HN := Asd.mk (ref02_Sub _ _ A A' c c' l l' W.drew rh.drew hc rh'.drew hc' (by omega) (by omega) HG.out)
  rcases HC.out with hC | hC <;> rw [hC] <;> clear hC
  all_goals
    go_wp2_with fail
    go_region_held3 (fun w' => w'.cell? ⟨w.heap.size, 0, none⟩ = some (.bool true) ∧ w'.cell? ⟨w.heap.size, 1, none⟩ = some (.slice A l.length c) ∧ w'.cell? ⟨w.heap.size + 1, 0, none⟩ = some (.bool false) ∧ w'.cell? ⟨w.heap.size + 1, 1, none⟩ = some (.slice A' l'.length c')) (go_keep)
      (first
        | (go_at_call 46; refine HN.out.mono ?_; rintro e w2 ⟨A1, c1, rfl, hc1, hr1, hb2⟩; replace hb2 := undrew hb2; replace hr1 : Rd (fun k => W.heap.size ≤ k) w2 A1 _ := hr1; have A2 := A0.below hb2; have B2 := B0.below hb2; have R2 := R0.below hb2; have qA20 := A2.c 0 rfl; have qA21 := A2.c 1 rfl; have qB20 := B2.c 0 rfl; have qB21 := B2.c 1 rfl)
        | (go_at_call 29; refine (ref08_Norm _ true A1 c1 (rep (val l - val l')) _ hr1 hc1 (by have := HL.out; omega)).mono ?_; rintro e w3 ⟨A3, c3, rfl, hc3, hr3, hb3⟩; rw [HZ.out] at hc3 hr3 ⊢; have A3 := A2.below hb3; have B3 := B2.below hb3; have R3 := R2.below hb3; have qA30 := A3.c 0 rfl; have qA31 := A3.c 1 rfl; have qB30 := B3.c 0 rfl; have qB31 := B3.c 1 rfl; have qR30 := R3.c 0 rfl; have qR31 := R3.c 1 rfl; have ef := R3.f; have ez := R3.lt))
    go_wp2
    refine bodyPost_ret (ret_blk rfl rfl ((R3.set 0 _).set 1 _) Tryd.underlying24 (by kernel_rfl)) rfl ?_
    have hlt := R0.lt
    have hlt1 := hb2.size
    exact ⟨_, _, rfl, hc3, ((hr3.setCell (by simp; omega) _).setCell (by simp; omega) _).mono (fun k _ hk => by omega), ((below_go (below_go hb0 hb2) hb3).setCell (by simp; omega) _).setCell (by simp; omega) _⟩

set_option maxHeartbeats 1000000 in
theorem ref08_Add_lt_false (ok : Nat → Prop) (A : Option Addr) (c : Nat) (l : List Int) (ok' : Nat → Prop) (A' : Option Addr) (c' : Nat) (l' : List Int) (w : World) (h : Rd ok w A l) (hc : l.length ≤ c) (h' : Rd ok' w A' l') (hc' : l'.length ≤ c') (hbig : l.length < 100000000) (hbig' : l'.length < 100000000) (hlt : val l < val l') :
    Calls Tryd.prog 14 #[.agg #[.bool false, .slice A l.length c], .agg #[.bool true, .slice A' l'.length c']] w (WhOut (zv false l + zv true l') w) := by
  have hv := val_nonneg h.wd; have hv' := val_nonneg h'.wd
  have hw := val_lt h.wd; have hw' := val_lt h'.wd
  have HL : Asd ((rep (val l' - val l)).length < 1000000000) := ⟨Nat.lt_of_le_of_lt (rep_length_le (n := l.length + l'.length + 1) (by have h1 := pw_mono (show l.length ≤ l.length + l'.length by omega); have h2 := pw_mono (show l'.length ≤ l.length + l'.length by omega); have h3 := pw_pos (l.length + l'.length); rw [pw_succ]; omega)) (by omega)⟩
  have HZ : Asd (zv true (rep (val l' - val l)) = zv false l + zv true l') := ⟨by unfold zv; rw [val_rep (by omega)]; simp; omega⟩
  have HC : Asd (cmpI (val l) (val l') = -1) := ⟨by unfold cmpI; rw [if_pos hlt]⟩
  have HG : Asd (val l ≤ val l') := ⟨by omega⟩
  clear hlt
  clear hv hv' hw hw'
  go_enter Tryd.func14, Tryd.ntmps14
  go_wp2_with fail
  have A0 := ((Blk.new w [.bool false, .slice A l.length c] 24).alloc (.cells #[.bool true, .slice A' l'.length c'] 24)).alloc (.cells #[.bool false, .slice none 0 0] 24)
  have B0 := (Blk.new (w.alloc (.cells #[.bool false, .slice A l.length c] 24)) [.bool true, .slice A' l'.length c'] 24).alloc (.cells #[.bool false, .slice none 0 0] 24)
  have R0 := Blk.new ((w.alloc (.cells #[.bool false, .slice A l.length c] 24)).alloc (.cells #[.bool true, .slice A' l'.length c'] 24)) [.bool false, .slice none 0 0] 24
  have rh := (((h.alloc (.cells #[.bool false, .slice A l.length c] 24)).alloc (.cells #[.bool true, .slice A' l'.length c'] 24)).alloc (.cells #[.bool false, .slice none 0 0] 24))
  have rh' := (((h'.alloc (.cells #[.bool false, .slice A l.length c] 24)).alloc (.cells #[.bool true, .slice A' l'.length c'] 24)).alloc (.cells #[.bool false, .slice none 0 0] 24))
  have hb0 := ((((Below.refl w.heap.size w).alloc (Nat.le_refl _) (.cells #[.bool false, .slice A l.length c] 24)).alloc (by simp) (.cells #[.bool true, .slice A' l'.length c'] 24)).alloc (by simp; omega) (.cells #[.bool false, .slice none 0 0] 24))
  simp only [World.size_alloc] at B0 R0
  generalize ((w.alloc (.cells #[.bool false, .slice A l.length c] 24)).alloc (.cells #[.bool true, .slice A' l'.length c'] 24)).alloc (.cells #[.bool false, .slice none 0 0] 24) = W at *
  clear h h'
  have c0 := A0.c 0 rfl
  have c1 := A0.c 1 rfl
  have d0 := B0.c 0 rfl
  have d1 := B0.c 1 rfl
  have n1 : ¬ (w.heap.size = w.heap.size + 1 + 1) := by omega
  have n2 : ¬ (w.heap.size + 1 + 1 = w.heap.size) := by omega
  refine (ref02_Cmp _ _ A A' c c' l l' _ rh rh' (by omega) (by omega)).mono ?_
  rintro e w1 ⟨rfl, rfl⟩
  have HN := Asd.mk (ref02_Sub _ _ A' A c' c l' l W.drew rh'.drew hc' rh.drew hc (by omega) (by omega) HG.out)
  rw [HC.out]
  go_wp2_with fail
  go_region_held3 (fun w' => w'.cell? ⟨w.heap.size, 0, none⟩ = some (.bool false) ∧ w'.cell? ⟨w.heap.size, 1, none⟩ = some (.slice A l.length c) ∧ w'.cell? ⟨w.heap.size + 1, 0, none⟩ = some (.bool true) ∧ w'.cell? ⟨w.heap.size + 1, 1, none⟩ = some (.slice A' l'.length c')) (go_keep)
    (first
      | (go_at_call 46; refine HN.out.mono ?_; rintro e w2 ⟨A1, c1, rfl, hc1, hr1, hb2⟩; replace hb2 := undrew hb2; replace hr1 : Rd (fun k => W.heap.size ≤ k) w2 A1 _ := hr1; have A2 := A0.below hb2; have B2 := B0.below hb2; have R2 := R0.below hb2; have qA20 := A2.c 0 rfl; have qA21 := A2.c 1 rfl; have qB20 := B2.c 0 rfl; have qB21 := B2.c 1 rfl)
      | (go_at_call 29; refine (ref08_Norm _ true A1 c1 (rep (val l' - val l)) _ hr1 hc1 (by have := HL.out; omega)).mono ?_; rintro e w3 ⟨A3, c3, rfl, hc3, hr3, hb3⟩; rw [HZ.out] at hc3 hr3 ⊢; have A3 := A2.below hb3; have B3 := B2.below hb3; have R3 := R2.below hb3; have qA30 := A3.c 0 rfl; have qA31 := A3.c 1 rfl; have qB30 := B3.c 0 rfl; have qB31 := B3.c 1 rfl; have qR30 := R3.c 0 rfl; have qR31 := R3.c 1 rfl; have ef := R3.f; have ez := R3.lt))
  go_wp2
  refine bodyPost_ret (ret_blk rfl rfl ((R3.set 0 _).set 1 _) Tryd.underlying24 (by kernel_rfl)) rfl ?_
  have hlt := R0.lt
  have hlt1 := hb2.size
  exact ⟨_, _, rfl, hc3, ((hr3.setCell (by simp; omega) _).setCell (by simp; omega) _).mono (fun k _ hk => by omega), ((below_go (below_go hb0 hb2) hb3).setCell (by simp; omega) _).setCell (by simp; omega) _⟩

set_option maxHeartbeats 1000000 in
theorem ref08_Add_ge_false (ok : Nat → Prop) (A : Option Addr) (c : Nat) (l : List Int) (ok' : Nat → Prop) (A' : Option Addr) (c' : Nat) (l' : List Int) (w : World) (h : Rd ok w A l) (hc : l.length ≤ c) (h' : Rd ok' w A' l') (hc' : l'.length ≤ c') (hbig : l.length < 100000000) (hbig' : l'.length < 100000000) (hlt : val l' ≤ val l) :
    Calls Tryd.prog 14 #[.agg #[.bool false, .slice A l.length c], .agg #[.bool true, .slice A' l'.length c']] w (WhOut (zv false l + zv true l') w) := by
  have hv := val_nonneg h.wd; have hv' := val_nonneg h'.wd
  have hw := val_lt h.wd; have hw' := val_lt h'.wd
  have HL : Asd ((rep (val l - val l')).length < 1000000000) := ⟨Nat.lt_of_le_of_lt (rep_length_le (n := l.length + l'.length + 1) (by have h1 := pw_mono (show l.length ≤ l.length + l'.length by omega); have h2 := pw_mono (show l'.length ≤ l.length + l'.length by omega); have h3 := pw_pos (l.length + l'.length); rw [pw_succ]; omega)) (by omega)⟩
  have HZ : Asd (zv false (rep (val l - val l')) = zv false l + zv true l') := ⟨by unfold zv; rw [val_rep (by omega)]; simp; omega⟩
  have HC : Asd (cmpI (val l) (val l') = 0 ∨ cmpI (val l) (val l') = 1) := ⟨by unfold cmpI; split <;> first | omega | (split <;> simp)⟩
  have HG : Asd (val l' ≤ val l) := ⟨by omega⟩
  clear hlt
  clear hv hv' hw hw'
  go_enter Tryd.func14, Tryd.ntmps14
  go_wp2_with fail
  have A0 := ((Blk.new w [.bool false, .slice A l.length c] 24).alloc (.cells #[.bool true, .slice A' l'.length c'] 24)).alloc (.cells #[.bool false, .slice none 0 0] 24)
  have B0 := (Blk.new (w.alloc (.cells #[.bool false, .slice A l.length c] 24)) [.bool true, .slice A' l'.length c'] 24).alloc (.cells #[.bool false, .slice none 0 0] 24)
  have R0 := Blk.new ((w.alloc (.cells #[.bool false, .slice A l.length c] 24)).alloc (.cells #[.bool true, .slice A' l'.length c'] 24)) [.bool false, .slice none 0 0] 24
  have rh := (((h.alloc (.cells #[.bool false, .slice A l.length c] 24)).alloc (.cells #[.bool true, .slice A' l'.length c'] 24)).alloc (.cells #[.bool false, .slice none 0 0] 24))
  have rh' := (((h'.alloc (.cells #[.bool false, .slice A l.length c] 24)).alloc (.cells #[.bool true, .slice A' l'.length c'] 24)).alloc (.cells #[.bool false, .slice none 0 0] 24))
  have hb0 := ((((Below.refl w.heap.size w).alloc (Nat.le_refl _) (.cells #[.bool false, .slice A l.length c] 24)).alloc (by simp) (.cells #[.bool true, .slice A' l'.length c'] 24)).alloc (by simp; omega) (.cells #[.bool false, .slice none 0 0] 24))
  simp only [World.size_alloc] at B0 R0
  generalize ((w.alloc (.cells #[.bool false, .slice A l.length c] 24)).alloc (.cells #[.bool true, .slice A' l'.length c'] 24)).alloc (.cells #[.bool false, .slice none 0 0] 24) = W at *
  clear h h'
  have c0 := A0.c 0 rfl
  have c1 := A0.c 1 rfl
  have d0 := B0.c 0 rfl
  have d1 := B0.c 1 rfl
  have n1 : ¬ (w.heap.size = w.heap.size + 1 + 1) := by omega
  have n2 : ¬ (w.heap.size + 1 + 1 = w.heap.size) := by omega
  refine (ref02_Cmp _ _ A A' c c' l l' _ rh rh' (by omega) (by omega)).mono ?_
  rintro e w1 ⟨rfl, rfl⟩
  have HN := Asd.mk (ref02_Sub _ _ A A' c c' l l' W.drew rh.drew hc rh'.drew hc' (by omega) (by omega) HG.out)
  rcases HC.out with hC | hC <;> rw [hC] <;> clear hC
  all_goals
    go_wp2_with fail
    go_region_held3 (fun w' => w'.cell? ⟨w.heap.size, 0, none⟩ = some (.bool false) ∧ w'.cell? ⟨w.heap.size, 1, none⟩ = some (.slice A l.length c) ∧ w'.cell? ⟨w.heap.size + 1, 0, none⟩ = some (.bool true) ∧ w'.cell? ⟨w.heap.size + 1, 1, none⟩ = some (.slice A' l'.length c')) (go_keep)
      (first
        | (go_at_call 46; refine HN.out.mono ?_; rintro e w2 ⟨A1, c1, rfl, hc1, hr1, hb2⟩; replace hb2 := undrew hb2; replace hr1 : Rd (fun k => W.heap.size ≤ k) w2 A1 _ := hr1; have A2 := A0.below hb2; have B2 := B0.below hb2; have R2 := R0.below hb2; have qA20 := A2.c 0 rfl; have qA21 := A2.c 1 rfl; have qB20 := B2.c 0 rfl; have qB21 := B2.c 1 rfl)
        | (go_at_call 29; refine (ref08_Norm _ false A1 c1 (rep (val l - val l')) _ hr1 hc1 (by have := HL.out; omega)).mono ?_; rintro e w3 ⟨A3, c3, rfl, hc3, hr3, hb3⟩; rw [HZ.out] at hc3 hr3 ⊢; have A3 := A2.below hb3; have B3 := B2.below hb3; have R3 := R2.below hb3; have qA30 := A3.c 0 rfl; have qA31 := A3.c 1 rfl; have qB30 := B3.c 0 rfl; have qB31 := B3.c 1 rfl; have qR30 := R3.c 0 rfl; have qR31 := R3.c 1 rfl; have ef := R3.f; have ez := R3.lt))
    go_wp2
    refine bodyPost_ret (ret_blk rfl rfl ((R3.set 0 _).set 1 _) Tryd.underlying24 (by kernel_rfl)) rfl ?_
    have hlt := R0.lt
    have hlt1 := hb2.size
    exact ⟨_, _, rfl, hc3, ((hr3.setCell (by simp; omega) _).setCell (by simp; omega) _).mono (fun k _ hk => by omega), ((below_go (below_go hb0 hb2) hb3).setCell (by simp; omega) _).setCell (by simp; omega) _⟩

theorem ref08_Add (ok : Nat → Prop) (n : Bool) (A : Option Addr) (c : Nat) (l : List Int) (ok' : Nat → Prop) (n' : Bool) (A' : Option Addr) (c' : Nat) (l' : List Int) (w : World) (h : Rd ok w A l) (hc : l.length ≤ c) (h' : Rd ok' w A' l') (hc' : l'.length ≤ c') (hbig : l.length < 100000000) (hbig' : l'.length < 100000000) :
    Calls Tryd.prog 14 #[.agg #[.bool n, .slice A l.length c], .agg #[.bool n', .slice A' l'.length c']] w (WhOut (zv n l + zv n' l') w) := by
  rcases n with _ | _ <;> rcases n' with _ | _
  · exact ref08_Add_same ok _ A c l ok' A' c' l' w h hc h' hc' hbig hbig'
  · by_cases hlt : val l < val l'
    · exact ref08_Add_lt_false ok A c l ok' A' c' l' w h hc h' hc' hbig hbig' hlt
    · exact ref08_Add_ge_false ok A c l ok' A' c' l' w h hc h' hc' hbig hbig' (by omega)
  · by_cases hlt : val l < val l'
    · exact ref08_Add_lt_true ok A c l ok' A' c' l' w h hc h' hc' hbig hbig' hlt
    · exact ref08_Add_ge_true ok A c l ok' A' c' l' w h hc h' hc' hbig hbig' (by omega)
  · exact ref08_Add_same ok _ A c l ok' A' c' l' w h hc h' hc' hbig hbig'
end Go.Proofs.YthjpkichpkomcaaDoor
