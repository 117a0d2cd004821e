/- The document's answer for layer 2: order (retrospectref02.Cmp). -/
import Derived.Test.YthjpkichpkomcaaDoorRef02c
import Derived.Outline
import Derived.WalkLawsBesides
namespace Go.Proofs.YthjpkichpkomcaaDoor
open Go.RowKit Go.Proofs.YthjpkichpkomcaaDoor.Big
set_option linter.unusedVariables false
set_option maxRecDepth 100000

theorem drop_more_all (l : List Int) (k : Nat) : val (l.drop k) = l.getD k 0 + 4294967296 * val (l.drop (k + 1)) := by
  rcases Nat.lt_or_ge k l.length with h | h
  · exact val_drop l k h
  · rw [List.drop_eq_nil_of_le h, List.drop_eq_nil_of_le (by omega), List.getD_eq_getElem?_getD, List.getElem?_eq_none h]; rfl
theorem rsplit_all (l : List Int) (k : Nat) : val l = val (l.take k) + pw k * val (l.drop k) := by
  rcases Nat.lt_or_ge k l.length with h | h
  · exact val_split l k (by omega)
  · rw [List.take_of_length_le h, List.drop_eq_nil_of_le h, val_nil, Int.mul_zero, Int.add_zero]
theorem rtake_lt {l : List Int} (hw : Wd l) (k : Nat) : 0 ≤ val (l.take k) ∧ val (l.take k) < pw k :=
  ⟨val_nonneg (hw.take k), Int.lt_of_lt_of_le (val_lt (hw.take k)) (pw_mono (by rw [List.length_take]; omega))⟩
theorem rlt_at {a b : List Int} (ha : Wd a) (hb : Wd b) {k : Nat} (hd : val (a.drop (k + 1)) = val (b.drop (k + 1))) (h : a.getD k 0 < b.getD k 0) : val a < val b := by
  have h1 := rsplit_all a k; have h2 := rsplit_all b k
  have h3 := drop_more_all a k; have h4 := drop_more_all b k
  have h5 := rtake_lt ha k; have h6 := rtake_lt hb k
  have hp := pw_pos k
  have h7 : val (a.drop k) + 1 ≤ val (b.drop k) := by rw [h3, h4, hd]; omega
  have h8 := Int.mul_le_mul_of_nonneg_left h7 (Int.le_of_lt hp)
  rw [Int.mul_add, Int.mul_one] at h8
  omega

set_option maxHeartbeats 1000000 in
theorem ref02_Cmp (ok ok' : Nat → Prop) (A A' : Option Addr) (c c' : Nat) (l l' : List Int) (w : World) (hrd : Rd ok w A l) (hrd' : Rd ok' w A' l') (hbig : l.length < 1000000000) (hbig' : l'.length < 1000000000) :
    Calls Tryd.prog 45 #[.slice A l.length c, .slice A' l'.length c'] w fun e w' => w = w' ∧ e = .returned (.int .i64 (cmpI (val l) (val l'))) := by
  obtain ⟨n, hm⟩ : ∃ n : Nat, n = max l.length l'.length := ⟨_, rfl⟩
  have HD0 : Asd (val (l.drop n) = val (l'.drop n)) := ⟨by rw [List.drop_eq_nil_of_le (by omega), List.drop_eq_nil_of_le (by omega)]⟩
  have hnb : n < 1000000000 := by omega
  go_enter Tryd.func45, Tryd.ntmps45
  go_wp2
  all_goals
    go_loop [5] (fun i => ∃ k : Nat, k ≤ n ∧ i = .int .i64 ((k : Int) - 1) ∧ Asd (val (l.drop k) = val (l'.drop k))) (fun i => (intOf i + 1).toNat)
    case atStart => exact ⟨n, Nat.le_refl _, by congr 1; omega, HD0⟩
    case round =>
      obtain ⟨k, hk, rfl, HV⟩ := hrel
      by_cases hk0 : k = 0
      · subst hk0
        have HC : Asd (cmpI (val l) (val l') = 0) := ⟨by
          have := HV.out
          simp only [List.drop_zero] at this
          rw [this]; unfold cmpI; rw [if_neg (by omega)]; split <;> omega⟩
        go_wp2
        go_ret
        exact ⟨rfl, by rw [HC.out]; rfl⟩
      · have e : (k : Int) - 1 = ((k - 1 : Nat) : Int) := by omega
        rw [e]
        have hp1 := ref02_At _ A c l (k - 1) w hrd
        have hp2 := ref02_At _ A' c' l' (k - 1) w hrd'
        have HLT := Asd.mk (@rlt_at l l' hrd.wd hrd'.wd (k - 1) (by rw [show k - 1 + 1 = k by omega]; exact HV.out))
        have HGT := Asd.mk (@rlt_at l' l hrd'.wd hrd.wd (k - 1) (by rw [show k - 1 + 1 = k by omega]; exact HV.out.symm))
        have HDR := Asd.mk (And.intro (drop_more_all l (k - 1)) (drop_more_all l' (k - 1)))
        rw [show k - 1 + 1 = k by omega] at HDR
        generalize hjm : k - 1 = j at *
        generalize hxe : l.getD j 0 = x at *
        generalize hye : l'.getD j 0 = y at *
        have HP1 := Asd.mk hp1; have HP2 := Asd.mk hp2
        clear hp1 hp2 hxe hye
        go_wp2_with fail
        refine HP1.out.mono ?_
        rintro e w1 ⟨rfl, rfl⟩
        go_wp2_with fail
        refine HP2.out.mono ?_
        rintro e w1 ⟨rfl, rfl⟩
        rcases Int.lt_trichotomy x y with hlt | heq | hgt
        · have HC : Asd (cmpI (val l) (val l') = -1) := ⟨cmpI_lt (HLT.out hlt)⟩
          have hd : decide (x < y) = true := decide_eq_true hlt
          go_wp2
          go_ret
          exact ⟨rfl, by rw [HC.out]; rfl⟩
        · subst heq
          go_wp2
          go_round
          case rel => exact ⟨j, by omega, by go_num, ⟨by rw [HDR.out.1, HDR.out.2, HV.out]⟩⟩
          case measure => simp [intOf]
        · have HC : Asd (cmpI (val l) (val l') = 1) := ⟨by have := HGT.out hgt; unfold cmpI; rw [if_neg (by omega), if_pos (by omega)]⟩
          have hd : decide (x < y) = false := decide_eq_false (by omega)
          have hd2 : decide (y < x) = true := decide_eq_true hgt
          go_wp2
          go_ret
          exact ⟨rfl, by rw [HC.out]; rfl⟩
end Go.Proofs.YthjpkichpkomcaaDoor
