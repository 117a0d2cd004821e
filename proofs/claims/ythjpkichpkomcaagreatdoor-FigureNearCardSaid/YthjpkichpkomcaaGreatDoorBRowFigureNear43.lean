/- RepA -/
import Derived.Test.YthjpkichpkomcaaGreatDoorBRowFigureNear42
import Derived.Test.YthjpkichpkomcaaGreatDoorShelf
import Derived.Test.YthjpkichpkomcaaGreatDoorBRowFigureNear36
/- frac.Ratio; strings.Repeat of noughts. -/
namespace Go.Proofs.YthjpkichpkomcaaGreatDoor
open Go.RowKit Go.Proofs.YthjpkichpkomcaaGreatDoor.Big
set_option linter.unusedVariables false
set_option maxRecDepth 100000
attribute [local go_sem ↓] Go.wp_at_zero Go.wp_at_succ

set_option maxHeartbeats 1000000 in
theorem frac_Ratio (n d : Int) (hn : 0 ≤ n ∧ n < 4294967296) (hd : 0 < d ∧ d < 4294967296) (w : World) :
    Calls Tryz.prog 73 #[.int .i64 n, .int .i64 d] w (FrOut2 ((n : Rat) / (d : Rat)) true w) := by
  have hd0 : (d : Rat) ≠ 0 := by
    intro h
    have := Rat.intCast_eq_zero_iff.1 h
    omega
  have hw : ∀ z : Int, 0 ≤ z → z < 4294967296 → Sz 10000 (z : Rat) := fun z h0 h1 => by
    refine (sz_int z (k := 1) (Nat.le_refl _) (rep_length_le ?_)).mono (by decide)
    rw [pw_one]; omega
  have S1 := Asd.mk (hw n hn.1 hn.2); have S2 := Asd.mk (hw d (by omega) hd.2)
  have O1 := Asd.mk (frac_Of n (by omega) (by omega)); have O2 := Asd.mk (frac_Of d (by omega) (by omega))
  have HD0 := Asd.mk hd0
  clear hd0 hw hn hd
  go_enter Tryz.func73, Tryz.ntmps73
  go_wp2_with fail
  have XR := Blk.new w [.bool false, .slice none 0 0, .slice none 0 0] 30
  have hB := (Below.refl w.heap.size w).alloc (Nat.le_refl _) (.cells #[.bool false, .slice none 0 0, .slice none 0 0] 30)
  generalize w.alloc (.cells #[.bool false, .slice none 0 0, .slice none 0 0] 30) = W at *
  refine (O1.out W).mono ?_
  rintro e w1 hf1
  obtain ⟨y1, rfl, hq1, -, ok1, hb1⟩ := hf1.rf S1.out
  replace XR := XR.below hb1; replace hB := below_go hB hb1
  go_wp2_with fail
  refine (O2.out w1).mono ?_
  rintro e w2 hf2
  obtain ⟨y2, rfl, hq2, -, ok2, hb1⟩ := hf2.rf S2.out
  replace XR := XR.below hb1; replace hB := below_go hB hb1; replace ok1 := ok1.below hb1
  have HQ1 := Asd.mk hq1; have HQ2 := Asd.mk hq2
  have HNZ : Asd (y2.q ≠ 0) := ⟨by rw [hq2]; exact HD0.out⟩
  clear hq1 hq2
  go_wp2_with fail
  have hm := frac_Quo _ _ y1 y2 w2 ok1 ok2 HNZ.out
  rw [HQ1.out, HQ2.out] at hm
  refine hm.mono ?_
  clear hm
  rintro e w3 ⟨V1, v1, V2, v2, rfl, hv1, hv2, rv1, rv2, hb1⟩
  have hlt := XR.lt
  replace XR := XR.below hb1; replace hB := below_go hB hb1
  have hs3 := hb1.size
  have r0 := XR.c 0 rfl; have r1 := XR.c 1 rfl; have r2 := XR.c 2 rfl; have rf := XR.f; have rl := XR.lt
  go_wp2
  refine bodyPost_ret (ret_blk_tmp rfl rfl rfl (((XR.set 0 _).set 1 _).set 2 _) Tryz.underlying30 (by kernel_rfl)) rfl ?_
  exact ⟨V1, v1, V2, v2, rfl, hv1, hv2, (((rv1.setCell (by simp; omega) _).setCell (by simp; omega) _).setCell (by simp; omega) _).mono (fun k _ hk => by omega), (((rv2.setCell (by simp; omega) _).setCell (by simp; omega) _).setCell (by simp; omega) _).mono (fun k _ hk => by omega), ((hB.setCell (by simp <;> omega) _).setCell (by simp <;> omega) _).setCell (by simp <;> omega) _⟩

theorem noughts (L : ByteArray) (n : Nat) (hn : n ≤ 60) (h : L = ⟨(List.replicate 64 48).toArray⟩) : L.extract 0 n = ⟨(List.replicate n 48).toArray⟩ := by
  rw [h, ext_take, List.take_replicate, Nat.min_eq_left (by omega)]

set_option maxHeartbeats 4000000 in
theorem strings_Repeat0 (n : Nat) (hn : n ≤ 60) (w : World) :
    Calls Tryz.prog 76 #[.string ⟨#[48]⟩, .int .i64 (n : Int)] w fun e w' => e = .returned (.string ⟨(List.replicate n 48).toArray⟩) ∧ Below w.heap.size w w' := by
  by_cases h0 : n = 0
  · subst h0
    go_enter Tryz.func76, Tryz.ntmps76
    go_wp2
    go_ret
    exact ⟨rfl, Below.refl _ _⟩
  · by_cases h1 : n = 1
    · subst h1
      go_enter Tryz.func76, Tryz.ntmps76
      go_wp2
      go_ret
      exact ⟨rfl, Below.refl _ _⟩
    · have i0 : ¬ (n : Int) = 0 := by omega
      have i1 : ¬ (n : Int) = 1 := by omega
      have i2 : ¬ (n : Int) < 0 := by omega
      go_enter Tryz.func76, Tryz.ntmps76
      go_wp2_with fail
      have hm := Sh.bits_Mul 1 n (by decide) (by omega) w
      rw [Nat.one_mul, Nat.div_eq_of_lt (by omega), Nat.mod_eq_of_lt (by omega)] at hm
      refine (show Calls Tryz.prog 133 #[.int .u64 1, .int .u64 (n : Int)] w _ from hm).mono ?_
      rintro e w1 ⟨rfl, rfl⟩
      have i3 : ¬ (64 : Int) < (n : Int) := by omega
      have i4 : (n : Int) ≤ 64 := by omega
      go_wp2_with fail
      refine (Sh.strings_HasPrefix _ _ _).mono ?_
      rintro e w1 ⟨rfl, rfl⟩
      rw [show Lib.hasPrefix _ _ = false from rfl]
      go_wp2_with fail
      refine (Sh.strings_HasPrefix _ _ _).mono ?_
      rintro e w1 ⟨rfl, rfl⟩
      rw [show Lib.hasPrefix _ _ = false from rfl]
      go_wp2_with fail
      refine (Sh.strings_HasPrefix _ _ _).mono ?_
      rintro e w1 ⟨rfl, rfl⟩
      rw [show Lib.hasPrefix _ _ = true from rfl]
      go_wp2_with fail
      go_ret
      exact ⟨congrArg (fun s => Ending.returned (.string s)) (noughts _ n hn rfl), Below.refl _ _⟩
end Go.Proofs.YthjpkichpkomcaaGreatDoor
