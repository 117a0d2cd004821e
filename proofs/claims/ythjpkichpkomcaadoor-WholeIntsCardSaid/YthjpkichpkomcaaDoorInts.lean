/- Layer 8: the law of the machine's numbers (WholeInts), walked. -/
import Derived.Test.YthjpkichpkomcaaDoorInts1
import Derived.Test.YthjpkichpkomcaaDoorWorks2
import Derived.Test.YthjpkichpkomcaaDoorLaw08
import Derived.Outline
import Derived.Deep.RegionHeld3
import Derived.Deep.RegionWith
import Derived.Deep.DrawnRows
import Derived.Deep.DeepMust
namespace Go.Proofs.YthjpkichpkomcaaDoor
open Go.RowKit Go.Proofs.YthjpkichpkomcaaDoor.Big
set_option linter.unusedVariables false
set_option maxRecDepth 100000
attribute [local go_sem ↓] Go.wp_at_zero Go.wp_at_succ

theorem tdiv2_bd {m : Int} (h0 : -9223372036854775808 ≤ m) (h1 : m ≤ 9223372036854775807) : -4611686018427387904 ≤ m.tdiv 2 ∧ m.tdiv 2 ≤ 4611686018427387903 := by
  rcases Int.le_total 0 m with h | h
  · rw [Int.tdiv_eq_ediv_of_nonneg h]; omega
  · rw [show m = -(-m) by omega, Int.neg_tdiv, Int.tdiv_eq_ediv_of_nonneg (by omega)]; omega

set_option maxHeartbeats 1000000 in
theorem law_ints_long (m k : Int) (hm0 : -9223372036854775808 ≤ m) (hm1 : m ≤ 9223372036854775807) (hk0 : -9223372036854775808 ≤ k) (hk1 : k ≤ 9223372036854775807) (n : Bool) (A : Option Addr) (c : Nat) (l : List Int) (w : World) (hlong : 60 < l.length) :
    Calls Tryd.prog 7 #[.int .i64 m, .int .i64 k, .agg #[.bool n, .slice A l.length c]] w (fun e w' => e = .returned (.bool true) ∧ Below w.heap.size w w') := by
  have hd : decide ((60 : Int) < (l.length : Int)) = true := decide_eq_true (by omega)
  go_enter Tryd.func7, Tryd.ntmps7
  go_wp2_with fail
  have XA0 := Blk.new w [.bool n, .slice A l.length c] 24
  have hb0 := ((Below.refl w.heap.size w).alloc (Nat.le_refl _) (.cells #[.bool n, .slice A l.length c] 24))
  generalize w.alloc (.cells #[.bool n, .slice A l.length c] 24) = W at *
  refine (law_works _).mono ?_
  rintro e w1 ⟨rfl, hb1⟩
  go_wp2
  go_ret
  exact ⟨rfl, below_go hb0 hb1⟩

set_option maxHeartbeats 4000000 in
theorem law_ints_in (ok : Nat → Prop) (m k : Int) (hm0 : -9223372036854775808 ≤ m) (hm1 : m ≤ 9223372036854775807) (hk0 : -9223372036854775808 ≤ k) (hk1 : k ≤ 9223372036854775807) (n : Bool) (A : Option Addr) (c : Nat) (l : List Int) (w : World) (h : Rd ok w A l) (hc : l.length ≤ c) (hs : l.length ≤ 60) (h1 : -9223372036854775808 ≤ zv n l) (h2 : zv n l ≤ 9223372036854775807) :
    Calls Tryd.prog 7 #[.int .i64 m, .int .i64 k, .agg #[.bool n, .slice A l.length c]] w (fun e w' => e = .returned (.bool true) ∧ Below w.heap.size w w') := by
  have hd : decide ((60 : Int) < (l.length : Int)) = false := decide_eq_false (by omega)
  replace h := h.mono (ok' := fun _ => True) (fun k hk _ => trivial)
  have hv0 := val_nonneg h.wd
  have hna := natAbs_zv (n := n) h.wd
  obtain ⟨mh, hmh⟩ : ∃ x, m.tdiv 2 = x := ⟨_, rfl⟩
  obtain ⟨kh, hkh⟩ : ∃ x, k.tdiv 2 = x := ⟨_, rfl⟩
  have bm : -4611686018427387904 ≤ mh ∧ mh ≤ 4611686018427387903 := by rw [← hmh]; exact tdiv2_bd hm0 hm1
  have bk : -4611686018427387904 ≤ kh ∧ kh ≤ 4611686018427387903 := by rw [← hkh]; exact tdiv2_bd hk0 hk1
  obtain ⟨bm0, bm1⟩ := bm
  obtain ⟨bk0, bk1⟩ := bk
  have p2 : pw 2 = 18446744073709551616 := by rw [pw_succ, pw_one]; rfl
  have lm : (mag m).length ≤ 2 := mag_len _ _ (by omega)
  have lmh : (mag mh).length ≤ 2 := mag_len _ _ (by omega)
  have lkh : (mag kh).length ≤ 2 := mag_len _ _ (by omega)
  have lmax : (mag 9223372036854775807).length ≤ 2 := mag_len _ _ (by omega)
  have lmin : (mag (-9223372036854775808)).length ≤ 2 := mag_len _ _ (by omega)
  have ZM := Asd.mk (zv_mag m); have ZH := Asd.mk (zv_mag (mh + kh))
  clear p2
  go_enter Tryd.func7, Tryd.ntmps7
  go_wp2_with fail
  have XA0 := Blk.new w [.bool n, .slice A l.length c] 24
  have rh := (h.alloc (.cells #[.bool n, .slice A l.length c] 24))
  have hb0 := ((Below.refl w.heap.size w).alloc (Nat.le_refl _) (.cells #[.bool n, .slice A l.length c] 24))
  generalize w.alloc (.cells #[.bool n, .slice A l.length c] 24) = W at *
  clear h
  have XA := XA0; have ra := rh; have hB := hb0
  clear XA0 rh hb0
  have cXA0 := XA.c 0 rfl; have cXA1 := XA.c 1 rfl
  refine (whole_Of m hm0 hm1 _).mono ?_
  rintro e w1 ⟨P1, p1, rfl, hp1, rx, hb1⟩
  replace XA := XA.below hb1; replace ra := ra.below hb1; replace cXA0 := XA.c 0 rfl; replace cXA1 := XA.c 1 rfl; replace hB := below_go hB hb1
  replace rx := rx.mono (ok' := fun _ => True) (fun _ _ _ => trivial)
  replace XA := XA.alloc (.cells #[.bool (ng (m)), .slice P1 (mag (m)).length p1] 26)
  replace ra := ra.alloc (.cells #[.bool (ng (m)), .slice P1 (mag (m)).length p1] 26)
  replace rx := rx.alloc (.cells #[.bool (ng (m)), .slice P1 (mag (m)).length p1] 26)
  have XX := Blk.new w1 [.bool (ng (m)), .slice P1 (mag (m)).length p1] 26
  replace hB := hB.alloc hB.size (.cells #[.bool (ng (m)), .slice P1 (mag (m)).length p1] 26)
  replace cXA0 := XA.c 0 rfl
  replace cXA1 := XA.c 1 rfl
  have cXX0 := XX.c 0 rfl; have cXX1 := XX.c 1 rfl
  generalize hbx : w1.heap.size = bx at *
  go_wp2_with fail
  have hm := whole_Int _ (ng m) P1 p1 (mag m) _ rx hp1 (by rw [ZM.out]; exact hm0) (by rw [ZM.out]; exact hm1)
  rw [ZM.out] at hm
  refine hm.mono ?_; clear hm
  rintro e w1 ⟨rfl, hb1⟩
  replace XA := XA.below hb1; replace ra := ra.below hb1; replace cXA0 := XA.c 0 rfl; replace cXA1 := XA.c 1 rfl; replace hB := below_go hB hb1
  clear XX cXX0 cXX1 hbx rx hp1
  go_wp2_with fail
  refine (whole_Of mh (by omega) (by omega) _).mono ?_
  rintro e w1 ⟨P1, p1, rfl, hp1, rx, hb1⟩
  replace XA := XA.below hb1; replace ra := ra.below hb1; replace cXA0 := XA.c 0 rfl; replace cXA1 := XA.c 1 rfl; replace hB := below_go hB hb1
  replace rx := rx.mono (ok' := fun _ => True) (fun _ _ _ => trivial)
  go_wp2_with fail
  refine (whole_Of kh (by omega) (by omega) _).mono ?_
  rintro e w1 ⟨P2, p2, rfl, hp2, ry, hb1⟩
  replace XA := XA.below hb1; replace ra := ra.below hb1; replace rx := rx.below hb1; replace cXA0 := XA.c 0 rfl; replace cXA1 := XA.c 1 rfl; replace hB := below_go hB hb1
  go_wp2_with fail
  refine (cAdd rx hp1 ry hp2 (by omega) (by omega)).mono ?_
  rintro e w1 ⟨P3, p3, rfl, hp3, rz, hb1⟩
  replace XA := XA.below hb1; replace ra := ra.below hb1; replace cXA0 := XA.c 0 rfl; replace cXA1 := XA.c 1 rfl; replace hB := below_go hB hb1
  replace rz := rz.mono (ok' := fun _ => True) (fun _ _ _ => trivial)
  clear rx ry hp1 hp2
  replace XA := XA.alloc (.cells #[.bool (ng (mh + kh)), .slice P3 (mag (mh + kh)).length p3] 26)
  replace ra := ra.alloc (.cells #[.bool (ng (mh + kh)), .slice P3 (mag (mh + kh)).length p3] 26)
  replace rz := rz.alloc (.cells #[.bool (ng (mh + kh)), .slice P3 (mag (mh + kh)).length p3] 26)
  have XH := Blk.new w1 [.bool (ng (mh + kh)), .slice P3 (mag (mh + kh)).length p3] 26
  replace hB := hB.alloc hB.size (.cells #[.bool (ng (mh + kh)), .slice P3 (mag (mh + kh)).length p3] 26)
  replace cXA0 := XA.c 0 rfl
  replace cXA1 := XA.c 1 rfl
  have cXH0 := XH.c 0 rfl; have cXH1 := XH.c 1 rfl
  generalize hbh : w1.heap.size = bh at *
  go_wp2_with fail
  have hm := whole_Int _ (ng (mh + kh)) P3 p3 (mag (mh + kh)) _ rz hp3 (by rw [ZH.out]; omega) (by rw [ZH.out]; omega)
  rw [ZH.out] at hm
  refine hm.mono ?_; clear hm
  rintro e w1 ⟨rfl, hb1⟩
  replace XA := XA.below hb1; replace ra := ra.below hb1; replace cXA0 := XA.c 0 rfl; replace cXA1 := XA.c 1 rfl; replace hB := below_go hB hb1
  clear XH cXH0 cXH1 hbh rz hp3
  go_wp2_with fail
  refine (law_To _ _ _ _ _).mono ?_
  rintro e w1 ⟨rfl, hb1⟩
  replace XA := XA.below hb1; replace ra := ra.below hb1; replace cXA0 := XA.c 0 rfl; replace cXA1 := XA.c 1 rfl; replace hB := below_go hB hb1
  go_wp2_with fail
  refine (whole_Int _ n A c l _ ra hc h1 h2).mono ?_
  rintro e w1 ⟨rfl, hb1⟩
  replace XA := XA.below hb1; replace ra := ra.below hb1; replace cXA0 := XA.c 0 rfl; replace cXA1 := XA.c 1 rfl; replace hB := below_go hB hb1
  go_wp2_with fail
  refine (ref02_Norm _ A c l _ ra hc (by omega)).mono ?_
  rintro e w1 ⟨P1, p1, rfl, hp1, rx, hb1⟩
  replace XA := XA.below hb1; replace ra := ra.below hb1; replace cXA0 := XA.c 0 rfl; replace cXA1 := XA.c 1 rfl; replace hB := below_go hB hb1
  clear rx

  have hsm : (rep (val l)).length ≤ 2 := (rep_le_two hv0).2 (by omega)
  have hsmd : decide ((rep (val l)).length ≤ 2) = true := decide_eq_true hsm
  have hsub : sgI (zv n l - zv n l) = 0 := by rw [Int.sub_self]; rfl
  have HSB := Asd.mk hsub
  have ZA := Asd.mk (zv_mag (zv n l))
  have lz : (mag (zv n l)).length < 1000 := by have := len_zv (n := n) ra.wd hs; omega
  clear hsub
  go_wp2_with fail
  replace XA := XA.drew; replace ra := ra.drew; replace hB := below_drewN hB 1
  first
    | go_region_with
        (first
      | (go_at_call 31; have hm := whole_Of (zv n l) h1 h2; refine (hm _).mono ?_; clear hm; rintro e w1 ⟨P1, p1, rfl, hp1, rx, hb1⟩; replace XA := XA.below hb1; replace ra := ra.below hb1; replace cXA0 := XA.c 0 rfl; replace cXA1 := XA.c 1 rfl; replace hB := below_go hB hb1)
      | (go_at_call 10; refine (law_To _ _ _ _ _).mono ?_; rintro e w1 ⟨rfl, hb1⟩; (try replace rx := rx.below hb1); replace XA := XA.below hb1; replace ra := ra.below hb1; replace cXA0 := XA.c 0 rfl; replace cXA1 := XA.c 1 rfl; replace hB := below_go hB hb1)
      | (go_at_call 26; have hm := whole_Cmp _ (ng (zv n l)) P1 p1 (mag (zv n l)) _ n A c l _ rx hp1 ra hc (by omega) (by omega); rw [ZA.out, HSB.out] at hm; refine hm.mono ?_; clear hm; rintro e w1 ⟨rfl, hb1⟩; replace XA := XA.below hb1; replace ra := ra.below hb1; replace cXA0 := XA.c 0 rfl; replace cXA1 := XA.c 1 rfl; replace hB := below_go hB hb1)
      | (go_at_call 9; refine (law_works _).mono ?_; rintro e w1 ⟨rfl, hb1⟩; replace XA := XA.below hb1; replace ra := ra.below hb1; replace cXA0 := XA.c 0 rfl; replace cXA1 := XA.c 1 rfl; replace hB := below_go hB hb1))
    | fail

  all_goals go_wp2
  all_goals go_ret
  all_goals exact ⟨rfl, hB⟩

set_option maxHeartbeats 4000000 in
theorem law_ints_gt (ok : Nat → Prop) (m k : Int) (hm0 : -9223372036854775808 ≤ m) (hm1 : m ≤ 9223372036854775807) (hk0 : -9223372036854775808 ≤ k) (hk1 : k ≤ 9223372036854775807) (n : Bool) (A : Option Addr) (c : Nat) (l : List Int) (w : World) (h : Rd ok w A l) (hc : l.length ≤ c) (hs : l.length ≤ 60) (h1 : 9223372036854775807 < zv n l) :
    Calls Tryd.prog 7 #[.int .i64 m, .int .i64 k, .agg #[.bool n, .slice A l.length c]] w (fun e w' => e = .returned (.bool true) ∧ Below w.heap.size w w') := by
  have hd : decide ((60 : Int) < (l.length : Int)) = false := decide_eq_false (by omega)
  replace h := h.mono (ok' := fun _ => True) (fun k hk _ => trivial)
  have hv0 := val_nonneg h.wd
  have hna := natAbs_zv (n := n) h.wd
  obtain ⟨mh, hmh⟩ : ∃ x, m.tdiv 2 = x := ⟨_, rfl⟩
  obtain ⟨kh, hkh⟩ : ∃ x, k.tdiv 2 = x := ⟨_, rfl⟩
  have bm : -4611686018427387904 ≤ mh ∧ mh ≤ 4611686018427387903 := by rw [← hmh]; exact tdiv2_bd hm0 hm1
  have bk : -4611686018427387904 ≤ kh ∧ kh ≤ 4611686018427387903 := by rw [← hkh]; exact tdiv2_bd hk0 hk1
  obtain ⟨bm0, bm1⟩ := bm
  obtain ⟨bk0, bk1⟩ := bk
  have p2 : pw 2 = 18446744073709551616 := by rw [pw_succ, pw_one]; rfl
  have lm : (mag m).length ≤ 2 := mag_len _ _ (by omega)
  have lmh : (mag mh).length ≤ 2 := mag_len _ _ (by omega)
  have lkh : (mag kh).length ≤ 2 := mag_len _ _ (by omega)
  have lmax : (mag 9223372036854775807).length ≤ 2 := mag_len _ _ (by omega)
  have lmin : (mag (-9223372036854775808)).length ≤ 2 := mag_len _ _ (by omega)
  have ZM := Asd.mk (zv_mag m); have ZH := Asd.mk (zv_mag (mh + kh))
  clear p2
  go_enter Tryd.func7, Tryd.ntmps7
  go_wp2_with fail
  have XA0 := Blk.new w [.bool n, .slice A l.length c] 24
  have rh := (h.alloc (.cells #[.bool n, .slice A l.length c] 24))
  have hb0 := ((Below.refl w.heap.size w).alloc (Nat.le_refl _) (.cells #[.bool n, .slice A l.length c] 24))
  generalize w.alloc (.cells #[.bool n, .slice A l.length c] 24) = W at *
  clear h
  have XA := XA0; have ra := rh; have hB := hb0
  clear XA0 rh hb0
  have cXA0 := XA.c 0 rfl; have cXA1 := XA.c 1 rfl
  refine (whole_Of m hm0 hm1 _).mono ?_
  rintro e w1 ⟨P1, p1, rfl, hp1, rx, hb1⟩
  replace XA := XA.below hb1; replace ra := ra.below hb1; replace cXA0 := XA.c 0 rfl; replace cXA1 := XA.c 1 rfl; replace hB := below_go hB hb1
  replace rx := rx.mono (ok' := fun _ => True) (fun _ _ _ => trivial)
  replace XA := XA.alloc (.cells #[.bool (ng (m)), .slice P1 (mag (m)).length p1] 26)
  replace ra := ra.alloc (.cells #[.bool (ng (m)), .slice P1 (mag (m)).length p1] 26)
  replace rx := rx.alloc (.cells #[.bool (ng (m)), .slice P1 (mag (m)).length p1] 26)
  have XX := Blk.new w1 [.bool (ng (m)), .slice P1 (mag (m)).length p1] 26
  replace hB := hB.alloc hB.size (.cells #[.bool (ng (m)), .slice P1 (mag (m)).length p1] 26)
  replace cXA0 := XA.c 0 rfl
  replace cXA1 := XA.c 1 rfl
  have cXX0 := XX.c 0 rfl; have cXX1 := XX.c 1 rfl
  generalize hbx : w1.heap.size = bx at *
  go_wp2_with fail
  have hm := whole_Int _ (ng m) P1 p1 (mag m) _ rx hp1 (by rw [ZM.out]; exact hm0) (by rw [ZM.out]; exact hm1)
  rw [ZM.out] at hm
  refine hm.mono ?_; clear hm
  rintro e w1 ⟨rfl, hb1⟩
  replace XA := XA.below hb1; replace ra := ra.below hb1; replace cXA0 := XA.c 0 rfl; replace cXA1 := XA.c 1 rfl; replace hB := below_go hB hb1
  clear XX cXX0 cXX1 hbx rx hp1
  go_wp2_with fail
  refine (whole_Of mh (by omega) (by omega) _).mono ?_
  rintro e w1 ⟨P1, p1, rfl, hp1, rx, hb1⟩
  replace XA := XA.below hb1; replace ra := ra.below hb1; replace cXA0 := XA.c 0 rfl; replace cXA1 := XA.c 1 rfl; replace hB := below_go hB hb1
  replace rx := rx.mono (ok' := fun _ => True) (fun _ _ _ => trivial)
  go_wp2_with fail
  refine (whole_Of kh (by omega) (by omega) _).mono ?_
  rintro e w1 ⟨P2, p2, rfl, hp2, ry, hb1⟩
  replace XA := XA.below hb1; replace ra := ra.below hb1; replace rx := rx.below hb1; replace cXA0 := XA.c 0 rfl; replace cXA1 := XA.c 1 rfl; replace hB := below_go hB hb1
  go_wp2_with fail
  refine (cAdd rx hp1 ry hp2 (by omega) (by omega)).mono ?_
  rintro e w1 ⟨P3, p3, rfl, hp3, rz, hb1⟩
  replace XA := XA.below hb1; replace ra := ra.below hb1; replace cXA0 := XA.c 0 rfl; replace cXA1 := XA.c 1 rfl; replace hB := below_go hB hb1
  replace rz := rz.mono (ok' := fun _ => True) (fun _ _ _ => trivial)
  clear rx ry hp1 hp2
  replace XA := XA.alloc (.cells #[.bool (ng (mh + kh)), .slice P3 (mag (mh + kh)).length p3] 26)
  replace ra := ra.alloc (.cells #[.bool (ng (mh + kh)), .slice P3 (mag (mh + kh)).length p3] 26)
  replace rz := rz.alloc (.cells #[.bool (ng (mh + kh)), .slice P3 (mag (mh + kh)).length p3] 26)
  have XH := Blk.new w1 [.bool (ng (mh + kh)), .slice P3 (mag (mh + kh)).length p3] 26
  replace hB := hB.alloc hB.size (.cells #[.bool (ng (mh + kh)), .slice P3 (mag (mh + kh)).length p3] 26)
  replace cXA0 := XA.c 0 rfl
  replace cXA1 := XA.c 1 rfl
  have cXH0 := XH.c 0 rfl; have cXH1 := XH.c 1 rfl
  generalize hbh : w1.heap.size = bh at *
  go_wp2_with fail
  have hm := whole_Int _ (ng (mh + kh)) P3 p3 (mag (mh + kh)) _ rz hp3 (by rw [ZH.out]; omega) (by rw [ZH.out]; omega)
  rw [ZH.out] at hm
  refine hm.mono ?_; clear hm
  rintro e w1 ⟨rfl, hb1⟩
  replace XA := XA.below hb1; replace ra := ra.below hb1; replace cXA0 := XA.c 0 rfl; replace cXA1 := XA.c 1 rfl; replace hB := below_go hB hb1
  clear XH cXH0 cXH1 hbh rz hp3
  go_wp2_with fail
  refine (law_To _ _ _ _ _).mono ?_
  rintro e w1 ⟨rfl, hb1⟩
  replace XA := XA.below hb1; replace ra := ra.below hb1; replace cXA0 := XA.c 0 rfl; replace cXA1 := XA.c 1 rfl; replace hB := below_go hB hb1
  go_wp2_with fail
  refine (whole_Int_no _ n A c l _ ra hc (Or.inl h1)).mono ?_
  rintro e w1 ⟨rfl, hb1⟩
  replace XA := XA.below hb1; replace ra := ra.below hb1; replace cXA0 := XA.c 0 rfl; replace cXA1 := XA.c 1 rfl; replace hB := below_go hB hb1
  go_wp2_with fail
  refine (ref02_Norm _ A c l _ ra hc (by omega)).mono ?_
  rintro e w1 ⟨P1, p1, rfl, hp1, rx, hb1⟩
  replace XA := XA.below hb1; replace ra := ra.below hb1; replace cXA0 := XA.c 0 rfl; replace cXA1 := XA.c 1 rfl; replace hB := below_go hB hb1
  clear rx

  obtain ⟨mx, hmx⟩ : ∃ x : Int, x = 9223372036854775807 := ⟨_, rfl⟩; have Hmx : Asd (mx = 9223372036854775807 ∧ ∀ W : World, Calls Tryd.prog 31 #[.int .i64 (9223372036854775807)] W (WhOut mx W)) := ⟨hmx, fun W => by rw [hmx]; exact whole_Of (9223372036854775807) (by decide) (by decide) W⟩; have Zmx := Asd.mk (zv_mag mx); have lmx : (mag mx).length ≤ 2 := (by rw [hmx]; exact lmax)
  have HC : Asd (sgI (zv n l - mx) = 1) := ⟨sgI_pos (by omega)⟩
  clear hmx
  by_cases hsm : (rep (val l)).length ≤ 2
  all_goals
    first
      | have hsmd : decide ((rep (val l)).length ≤ 2) = true := decide_eq_true hsm
      | have hsmd : decide ((rep (val l)).length ≤ 2) = false := decide_eq_false hsm
    go_wp2_with fail
    replace XA := XA.drew; replace ra := ra.drew; replace hB := below_drewN hB 1
    first
      | go_region_with
          (first
      | (go_at_call 10; refine (law_To _ _ _ _ _).mono ?_; rintro e w1 ⟨rfl, hb1⟩; (try replace rx := rx.below hb1); replace XA := XA.below hb1; replace ra := ra.below hb1; replace cXA0 := XA.c 0 rfl; replace cXA1 := XA.c 1 rfl; replace hB := below_go hB hb1)
      | (go_at_call 31; (with_reducible refine (Hmx.out.2 _).mono ?_); rintro e w1 ⟨P1, p1, rfl, hp1, rx, hb1⟩; replace XA := XA.below hb1; replace ra := ra.below hb1; replace cXA0 := XA.c 0 rfl; replace cXA1 := XA.c 1 rfl; replace hB := below_go hB hb1)
      | (go_at_call_of 26 (Value.bool (ng mx)); have hm := whole_Cmp _ n A c l _ (ng mx) P1 p1 (mag mx) _ ra hc rx hp1 (by omega) (by omega); rw [Zmx.out, HC.out] at hm; refine hm.mono ?_; clear hm; rintro e w1 ⟨rfl, hb1⟩; replace XA := XA.below hb1; replace ra := ra.below hb1; replace cXA0 := XA.c 0 rfl; replace cXA1 := XA.c 1 rfl; replace hB := below_go hB hb1)
      | (go_at_call 9; refine (law_works _).mono ?_; rintro e w1 ⟨rfl, hb1⟩; replace XA := XA.below hb1; replace ra := ra.below hb1; replace cXA0 := XA.c 0 rfl; replace cXA1 := XA.c 1 rfl; replace hB := below_go hB hb1))
      | fail

    all_goals go_wp2
    all_goals go_ret
    all_goals exact ⟨rfl, hB⟩

set_option maxHeartbeats 4000000 in
theorem law_ints_lt (ok : Nat → Prop) (m k : Int) (hm0 : -9223372036854775808 ≤ m) (hm1 : m ≤ 9223372036854775807) (hk0 : -9223372036854775808 ≤ k) (hk1 : k ≤ 9223372036854775807) (n : Bool) (A : Option Addr) (c : Nat) (l : List Int) (w : World) (h : Rd ok w A l) (hc : l.length ≤ c) (hs : l.length ≤ 60) (h1 : zv n l < -9223372036854775808) :
    Calls Tryd.prog 7 #[.int .i64 m, .int .i64 k, .agg #[.bool n, .slice A l.length c]] w (fun e w' => e = .returned (.bool true) ∧ Below w.heap.size w w') := by
  have hd : decide ((60 : Int) < (l.length : Int)) = false := decide_eq_false (by omega)
  replace h := h.mono (ok' := fun _ => True) (fun k hk _ => trivial)
  have hv0 := val_nonneg h.wd
  have hna := natAbs_zv (n := n) h.wd
  obtain ⟨mh, hmh⟩ : ∃ x, m.tdiv 2 = x := ⟨_, rfl⟩
  obtain ⟨kh, hkh⟩ : ∃ x, k.tdiv 2 = x := ⟨_, rfl⟩
  have bm : -4611686018427387904 ≤ mh ∧ mh ≤ 4611686018427387903 := by rw [← hmh]; exact tdiv2_bd hm0 hm1
  have bk : -4611686018427387904 ≤ kh ∧ kh ≤ 4611686018427387903 := by rw [← hkh]; exact tdiv2_bd hk0 hk1
  obtain ⟨bm0, bm1⟩ := bm
  obtain ⟨bk0, bk1⟩ := bk
  have p2 : pw 2 = 18446744073709551616 := by rw [pw_succ, pw_one]; rfl
  have lm : (mag m).length ≤ 2 := mag_len _ _ (by omega)
  have lmh : (mag mh).length ≤ 2 := mag_len _ _ (by omega)
  have lkh : (mag kh).length ≤ 2 := mag_len _ _ (by omega)
  have lmax : (mag 9223372036854775807).length ≤ 2 := mag_len _ _ (by omega)
  have lmin : (mag (-9223372036854775808)).length ≤ 2 := mag_len _ _ (by omega)
  have ZM := Asd.mk (zv_mag m); have ZH := Asd.mk (zv_mag (mh + kh))
  clear p2
  go_enter Tryd.func7, Tryd.ntmps7
  go_wp2_with fail
  have XA0 := Blk.new w [.bool n, .slice A l.length c] 24
  have rh := (h.alloc (.cells #[.bool n, .slice A l.length c] 24))
  have hb0 := ((Below.refl w.heap.size w).alloc (Nat.le_refl _) (.cells #[.bool n, .slice A l.length c] 24))
  generalize w.alloc (.cells #[.bool n, .slice A l.length c] 24) = W at *
  clear h
  have XA := XA0; have ra := rh; have hB := hb0
  clear XA0 rh hb0
  have cXA0 := XA.c 0 rfl; have cXA1 := XA.c 1 rfl
  refine (whole_Of m hm0 hm1 _).mono ?_
  rintro e w1 ⟨P1, p1, rfl, hp1, rx, hb1⟩
  replace XA := XA.below hb1; replace ra := ra.below hb1; replace cXA0 := XA.c 0 rfl; replace cXA1 := XA.c 1 rfl; replace hB := below_go hB hb1
  replace rx := rx.mono (ok' := fun _ => True) (fun _ _ _ => trivial)
  replace XA := XA.alloc (.cells #[.bool (ng (m)), .slice P1 (mag (m)).length p1] 26)
  replace ra := ra.alloc (.cells #[.bool (ng (m)), .slice P1 (mag (m)).length p1] 26)
  replace rx := rx.alloc (.cells #[.bool (ng (m)), .slice P1 (mag (m)).length p1] 26)
  have XX := Blk.new w1 [.bool (ng (m)), .slice P1 (mag (m)).length p1] 26
  replace hB := hB.alloc hB.size (.cells #[.bool (ng (m)), .slice P1 (mag (m)).length p1] 26)
  replace cXA0 := XA.c 0 rfl
  replace cXA1 := XA.c 1 rfl
  have cXX0 := XX.c 0 rfl; have cXX1 := XX.c 1 rfl
  generalize hbx : w1.heap.size = bx at *
  go_wp2_with fail
  have hm := whole_Int _ (ng m) P1 p1 (mag m) _ rx hp1 (by rw [ZM.out]; exact hm0) (by rw [ZM.out]; exact hm1)
  rw [ZM.out] at hm
  refine hm.mono ?_; clear hm
  rintro e w1 ⟨rfl, hb1⟩
  replace XA := XA.below hb1; replace ra := ra.below hb1; replace cXA0 := XA.c 0 rfl; replace cXA1 := XA.c 1 rfl; replace hB := below_go hB hb1
  clear XX cXX0 cXX1 hbx rx hp1
  go_wp2_with fail
  refine (whole_Of mh (by omega) (by omega) _).mono ?_
  rintro e w1 ⟨P1, p1, rfl, hp1, rx, hb1⟩
  replace XA := XA.below hb1; replace ra := ra.below hb1; replace cXA0 := XA.c 0 rfl; replace cXA1 := XA.c 1 rfl; replace hB := below_go hB hb1
  replace rx := rx.mono (ok' := fun _ => True) (fun _ _ _ => trivial)
  go_wp2_with fail
  refine (whole_Of kh (by omega) (by omega) _).mono ?_
  rintro e w1 ⟨P2, p2, rfl, hp2, ry, hb1⟩
  replace XA := XA.below hb1; replace ra := ra.below hb1; replace rx := rx.below hb1; replace cXA0 := XA.c 0 rfl; replace cXA1 := XA.c 1 rfl; replace hB := below_go hB hb1
  go_wp2_with fail
  refine (cAdd rx hp1 ry hp2 (by omega) (by omega)).mono ?_
  rintro e w1 ⟨P3, p3, rfl, hp3, rz, hb1⟩
  replace XA := XA.below hb1; replace ra := ra.below hb1; replace cXA0 := XA.c 0 rfl; replace cXA1 := XA.c 1 rfl; replace hB := below_go hB hb1
  replace rz := rz.mono (ok' := fun _ => True) (fun _ _ _ => trivial)
  clear rx ry hp1 hp2
  replace XA := XA.alloc (.cells #[.bool (ng (mh + kh)), .slice P3 (mag (mh + kh)).length p3] 26)
  replace ra := ra.alloc (.cells #[.bool (ng (mh + kh)), .slice P3 (mag (mh + kh)).length p3] 26)
  replace rz := rz.alloc (.cells #[.bool (ng (mh + kh)), .slice P3 (mag (mh + kh)).length p3] 26)
  have XH := Blk.new w1 [.bool (ng (mh + kh)), .slice P3 (mag (mh + kh)).length p3] 26
  replace hB := hB.alloc hB.size (.cells #[.bool (ng (mh + kh)), .slice P3 (mag (mh + kh)).length p3] 26)
  replace cXA0 := XA.c 0 rfl
  replace cXA1 := XA.c 1 rfl
  have cXH0 := XH.c 0 rfl; have cXH1 := XH.c 1 rfl
  generalize hbh : w1.heap.size = bh at *
  go_wp2_with fail
  have hm := whole_Int _ (ng (mh + kh)) P3 p3 (mag (mh + kh)) _ rz hp3 (by rw [ZH.out]; omega) (by rw [ZH.out]; omega)
  rw [ZH.out] at hm
  refine hm.mono ?_; clear hm
  rintro e w1 ⟨rfl, hb1⟩
  replace XA := XA.below hb1; replace ra := ra.below hb1; replace cXA0 := XA.c 0 rfl; replace cXA1 := XA.c 1 rfl; replace hB := below_go hB hb1
  clear XH cXH0 cXH1 hbh rz hp3
  go_wp2_with fail
  refine (law_To _ _ _ _ _).mono ?_
  rintro e w1 ⟨rfl, hb1⟩
  replace XA := XA.below hb1; replace ra := ra.below hb1; replace cXA0 := XA.c 0 rfl; replace cXA1 := XA.c 1 rfl; replace hB := below_go hB hb1
  go_wp2_with fail
  refine (whole_Int_no _ n A c l _ ra hc (Or.inr h1)).mono ?_
  rintro e w1 ⟨rfl, hb1⟩
  replace XA := XA.below hb1; replace ra := ra.below hb1; replace cXA0 := XA.c 0 rfl; replace cXA1 := XA.c 1 rfl; replace hB := below_go hB hb1
  go_wp2_with fail
  refine (ref02_Norm _ A c l _ ra hc (by omega)).mono ?_
  rintro e w1 ⟨P1, p1, rfl, hp1, rx, hb1⟩
  replace XA := XA.below hb1; replace ra := ra.below hb1; replace cXA0 := XA.c 0 rfl; replace cXA1 := XA.c 1 rfl; replace hB := below_go hB hb1
  clear rx

  obtain ⟨mx, hmx⟩ : ∃ x : Int, x = 9223372036854775807 := ⟨_, rfl⟩; have Hmx : Asd (mx = 9223372036854775807 ∧ ∀ W : World, Calls Tryd.prog 31 #[.int .i64 (9223372036854775807)] W (WhOut mx W)) := ⟨hmx, fun W => by rw [hmx]; exact whole_Of (9223372036854775807) (by decide) (by decide) W⟩; have Zmx := Asd.mk (zv_mag mx); have lmx : (mag mx).length ≤ 2 := (by rw [hmx]; exact lmax)
  obtain ⟨mn, hmn⟩ : ∃ x : Int, x = -9223372036854775808 := ⟨_, rfl⟩; have Hmn : Asd (mn = -9223372036854775808 ∧ ∀ W : World, Calls Tryd.prog 31 #[.int .i64 (-9223372036854775808)] W (WhOut mn W)) := ⟨hmn, fun W => by rw [hmn]; exact whole_Of (-9223372036854775808) (by decide) (by decide) W⟩; have Zmn := Asd.mk (zv_mag mn); have lmn : (mag mn).length ≤ 2 := (by rw [hmn]; exact lmin)
  have HC : Asd (sgI (zv n l - mx) = -1) := ⟨sgI_neg (by omega)⟩
  have HD : Asd (sgI (zv n l - mn) = -1) := ⟨sgI_neg (by omega)⟩
  clear hmx hmn
  by_cases hsm : (rep (val l)).length ≤ 2
  all_goals
    first
      | have hsmd : decide ((rep (val l)).length ≤ 2) = true := decide_eq_true hsm
      | have hsmd : decide ((rep (val l)).length ≤ 2) = false := decide_eq_false hsm
    go_wp2_with fail
    replace XA := XA.drew; replace ra := ra.drew; replace hB := below_drewN hB 1
    first
      | go_region_with
          (first
      | (go_at_call 10; refine (law_To _ _ _ _ _).mono ?_; rintro e w1 ⟨rfl, hb1⟩; (try replace rx := rx.below hb1); replace XA := XA.below hb1; replace ra := ra.below hb1; replace cXA0 := XA.c 0 rfl; replace cXA1 := XA.c 1 rfl; replace hB := below_go hB hb1)
      | (go_at_call 31; (with_reducible refine (Hmx.out.2 _).mono ?_); rintro e w1 ⟨P1, p1, rfl, hp1, rx, hb1⟩; replace XA := XA.below hb1; replace ra := ra.below hb1; replace cXA0 := XA.c 0 rfl; replace cXA1 := XA.c 1 rfl; replace hB := below_go hB hb1)
      | (go_at_call_of 26 (Value.bool (ng mx)); have hm := whole_Cmp _ n A c l _ (ng mx) P1 p1 (mag mx) _ ra hc rx hp1 (by omega) (by omega); rw [Zmx.out, HC.out] at hm; refine hm.mono ?_; clear hm; rintro e w1 ⟨rfl, hb1⟩; replace XA := XA.below hb1; replace ra := ra.below hb1; replace cXA0 := XA.c 0 rfl; replace cXA1 := XA.c 1 rfl; replace hB := below_go hB hb1)
      | (go_at_call 31; (with_reducible refine (Hmn.out.2 _).mono ?_); rintro e w1 ⟨P1, p1, rfl, hp1, rx, hb1⟩; replace XA := XA.below hb1; replace ra := ra.below hb1; replace cXA0 := XA.c 0 rfl; replace cXA1 := XA.c 1 rfl; replace hB := below_go hB hb1)
      | (go_at_call_of 26 (Value.bool (ng mn)); have hm := whole_Cmp _ n A c l _ (ng mn) P1 p1 (mag mn) _ ra hc rx hp1 (by omega) (by omega); rw [Zmn.out, HD.out] at hm; refine hm.mono ?_; clear hm; rintro e w1 ⟨rfl, hb1⟩; replace XA := XA.below hb1; replace ra := ra.below hb1; replace cXA0 := XA.c 0 rfl; replace cXA1 := XA.c 1 rfl; replace hB := below_go hB hb1)
      | (go_at_call 9; refine (law_works _).mono ?_; rintro e w1 ⟨rfl, hb1⟩; replace XA := XA.below hb1; replace ra := ra.below hb1; replace cXA0 := XA.c 0 rfl; replace cXA1 := XA.c 1 rfl; replace hB := below_go hB hb1))
      | fail

    all_goals go_wp2
    all_goals go_ret
    all_goals exact ⟨rfl, hB⟩

theorem law_ints_all (m k : Int) (hm0 : -9223372036854775808 ≤ m) (hm1 : m ≤ 9223372036854775807) (hk0 : -9223372036854775808 ≤ k) (hk1 : k ≤ 9223372036854775807) (n : Bool) (A : Option Addr) (c : Nat) (l : List Int) (w : World) (h : l.length ≤ 1099511627776 → Rd (fun _ => True) w A l) (hc : l.length ≤ c) :
    Calls Tryd.prog 7 #[.int .i64 m, .int .i64 k, .agg #[.bool n, .slice A l.length c]] w (fun e w' => e = .returned (.bool true) ∧ Below w.heap.size w w') := by
  by_cases h1 : 60 < l.length
  · exact law_ints_long m k hm0 hm1 hk0 hk1 n A c l w h1
  · by_cases h2 : 9223372036854775807 < zv n l
    · exact law_ints_gt _ m k hm0 hm1 hk0 hk1 n A c l w (h (by omega)) hc (by omega) h2
    · by_cases h3 : zv n l < -9223372036854775808
      · exact law_ints_lt _ m k hm0 hm1 hk0 hk1 n A c l w (h (by omega)) hc (by omega) h3
      · exact law_ints_in _ m k hm0 hm1 hk0 hk1 n A c l w (h (by omega)) hc (by omega) (by omega) (by omega)
end Go.Proofs.YthjpkichpkomcaaDoor
