/- The document's answer for layer 7: digits (retrospectref07: ten, Text, Wrong). -/
import Derived.Test.YthjpkichpkomcaaDoorRef02n
import Derived.Test.YthjpkichpkomcaaDoorDig2
import Derived.Test.YthjpkichpkomcaaDoorDig3
import Derived.Test.YthjpkichpkomcaaDoorWorks
import Derived.Outline
import Derived.Deep.LoopGhost
import Derived.WalkLawsBesides
namespace Go.Proofs.YthjpkichpkomcaaDoor
open Go.RowKit Go.Proofs.YthjpkichpkomcaaDoor.Big
set_option linter.unusedVariables false
set_option maxRecDepth 100000

theorem ten_step {D x L T : Int} (h : D * 10 + L = T) : ((L * 4294967296 + x) / 10 + 4294967296 * D) * 10 + (L * 4294967296 + x) % 10 = x + 4294967296 * T := by
  have e := Int.mul_ediv_add_emod (L * 4294967296 + x) 10
  omega

set_option maxHeartbeats 1000000 in
theorem ref07_ten (g cap : Nat) (o : List Int) (w : World) (ho : Ow w g cap o) (hbig : o.length < 1000000000) :
    Calls Tryd.prog 86 #[.slice (some ⟨g, 0, none⟩) o.length cap] w fun e w' => ∃ o', e = .returned (.int .u64 (val o % 10)) ∧ Ow w' g cap o' ∧ o'.length = o.length ∧ val o' = val o / 10 ∧ w.grownBy w' (some g) := by
  have HO0 := Asd.mk ho
  clear ho
  go_enter Tryd.func86, Tryd.ntmps86
  go_wp2
  go_loopw [3, 4] (fun v i wr => ∃ (j : Nat) (t : Int) (q : List Int), j ≤ o.length ∧ i = .int .i64 ((j : Int) - 1) ∧ v = .int .u64 t ∧ 0 ≤ t ∧ t < 10 ∧ Asd (Ow wr g cap q) ∧ Asd (q.length = o.length) ∧ Asd (q.take j = o.take j) ∧ Asd (val (q.drop j) * 10 + t = val (o.drop j)) ∧ Asd (w.grownBy wr (some g))) (fun _ i _ => (intOf i + 1).toNat)
  case atStart => exact ⟨o.length, 0, o, Nat.le_refl _, rfl, rfl, by omega, by omega, HO0, ⟨rfl⟩, ⟨rfl⟩, ⟨by rw [val_drop_zero _ _ (Nat.le_refl _)]; rfl⟩, ⟨grown_refl _ _⟩⟩
  case round =>
    obtain ⟨j, t, q, hj, rfl, rfl, ht0, ht1, HO, HOL, HT, HV, HG⟩ := hrel
    by_cases hj0 : j = 0
    · subst hj0
      have hv := HV.out
      rw [List.drop_zero, List.drop_zero] at hv
      have HE : Asd (val q = val o / 10 ∧ t = val o % 10) := ⟨by omega, by omega⟩
      clear hv
      go_wp2
      go_ret
      exact ⟨q, by rw [← HE.out.2]; rfl, HO.out, HOL.out, HE.out.1, HG.out⟩
    · have e : (j : Int) - 1 = ((j - 1 : Nat) : Int) := by omega
      rw [e]
      have hj1 : j = j - 1 + 1 := by omega
      generalize hjm : j - 1 = m at *
      subst hj1
      clear e hj0 hjm
      have hol := HOL.out
      obtain ⟨x, hcx, hx0, hx1, HX⟩ := HO.out.el m (by omega)
      have HX2 : Asd (o.getD m 0 = x) := ⟨by
        have h1 : (q.take (m + 1))[m]? = (o.take (m + 1))[m]? := by rw [HT.out]
        rw [List.getElem?_take_of_lt (by omega), List.getElem?_take_of_lt (by omega)] at h1
        rw [← HX.out, List.getD_eq_getElem?_getD, List.getD_eq_getElem?_getD, h1]⟩
      have hfr := HO.out.free m
      have HST := Asd.mk (ten_step (x := x) HV.out)
      have HDS := Asd.mk (And.intro (val_drop o m (by omega)) (val_drop_set q m ((t * 4294967296 + x) / 10) (by omega)))
      have hq0 : 0 ≤ (t * 4294967296 + x) / 10 := by omega
      have hq1 : (t * 4294967296 + x) / 10 < 4294967296 := by omega
      clear hol
      go_wp2
      go_roundw
      case rel =>
        refine ⟨m, (t * 4294967296 + x) % 10, q.set m ((t * 4294967296 + x) / 10), by omega, by go_num, rfl, by omega, by omega, ⟨HO.out.set _ hq0 hq1⟩, ⟨by rw [List.length_set]; exact HOL.out⟩, ⟨?_⟩, ⟨?_⟩, ⟨grown_trans HG.out (HO.out.2.2.stored _ _).2⟩⟩
        · rw [List.take_set_of_le (Nat.le_refl _)]
          have h1 : (q.take (m + 1)).take m = (o.take (m + 1)).take m := by rw [HT.out]
          rwa [List.take_take, List.take_take, Nat.min_eq_left (by omega)] at h1
        · rw [HDS.out.2, HDS.out.1, HX2.out]
          exact HST.out
      case measure => simp [intOf]

theorem digit_slice {d : Int} (h0 : 0 ≤ d) (h1 : d < 10) : (⟨#[48, 49, 50, 51, 52, 53, 54, 55, 56, 57]⟩ : ByteArray).extract d.toNat (d + 1).toNat = ⟨#[UInt8.ofNat (48 + d).toNat]⟩ := by
  have hd : d = 0 ∨ d = 1 ∨ d = 2 ∨ d = 3 ∨ d = 4 ∨ d = 5 ∨ d = 6 ∨ d = 7 ∨ d = 8 ∨ d = 9 := by omega
  rcases hd with h | h | h | h | h | h | h | h | h | h <;> subst h <;> rfl
theorem text_end {z : Int} {j : Nat} (h0 : 0 ≤ z) (hz : z / 10 ^ j = 0) (hj : 0 < j) (hs : z = 0 ∧ j = 1 ∨ 0 < z / 10 ^ (j - 1)) : padD j z = decT z := by
  have hp : (0 : Int) < 10 ^ j := Int.pow_pos (by decide)
  have hlt : z < 10 ^ j := by
    have h1 := Int.mul_ediv_add_emod z (10 ^ j)
    have h2 := Int.emod_lt_of_pos z hp
    rw [hz] at h1; omega
  rcases hs with ⟨rfl, rfl⟩ | hs
  · rfl
  · obtain ⟨k, rfl⟩ : ∃ k, j = k + 1 := ⟨j - 1, by omega⟩
    rw [show k + 1 - 1 = k by omega] at hs
    have hzp : 0 < z := by
      rcases Int.lt_or_eq_of_le h0 with h | h
      · exact h
      · rw [← h, Int.zero_ediv] at hs; omega
    rw [decT_pos hzp hlt, padD_cons]
    have hd : z / 10 ^ k < 10 := by
      rw [Int.pow_succ, ← Int.ediv_ediv_of_nonneg (Int.pow_nonneg (by decide))] at hz
      omega
    have hd2 : (z / 10 ^ k) % 10 = z / 10 ^ k := by omega
    rw [hd2]
    unfold Lib.trimLeftB
    rw [List.dropWhile_cons_of_neg]
    generalize z / 10 ^ k = d at *
    have h9 : d = 1 ∨ d = 2 ∨ d = 3 ∨ d = 4 ∨ d = 5 ∨ d = 6 ∨ d = 7 ∨ d = 8 ∨ d = 9 := by omega
    rcases h9 with h | h | h | h | h | h | h | h | h <;> subst h <;> decide

theorem ten_few {z : Int} {j n : Nat} (h : 0 < z / 10 ^ j) (hz : z < pw n) : j < 32 * n := by
  have hp : (0 : Int) < 10 ^ j := Int.pow_pos (by decide)
  have h1 := Int.ediv_mul_le z (Int.ne_of_gt hp)
  have h2 : 1 * (10 : Int) ^ j ≤ z / 10 ^ j * 10 ^ j := Int.mul_le_mul_of_nonneg_right h (Int.le_of_lt hp)
  have h3 : (10 : Int) ^ j < pw n := by omega
  rcases Nat.lt_or_ge j (32 * n) with h4 | h4
  · exact h4
  · exfalso
    have h5 : pw n ≤ 10 ^ j := by
      unfold pw
      rw [show (4294967296 : Int) = ((2 ^ 32 : Nat) : Int) from rfl, show (10 : Int) = ((10 : Nat) : Int) from rfl, ← Int.natCast_pow, ← Int.natCast_pow, ← Nat.pow_mul]
      exact Int.ofNat_le.mpr (Nat.le_trans (Nat.pow_le_pow_left (by decide) _) (Nat.pow_le_pow_right (by decide) h4))
    omega

set_option maxHeartbeats 2000000 in
theorem ref07_Text (ok : Nat → Prop) (A : Option Addr) (c : Nat) (l : List Int) (w : World) (h : Rd ok w A l) (hc : l.length ≤ c) (hbig : l.length < 1000000) :
    Calls Tryd.prog 56 #[.slice A l.length c] w fun e w' => e = .returned (.string ⟨(decT (val l)).toArray⟩) ∧ Below w.heap.size w w' := by
  have hz0 := val_nonneg h.wd
  have HZW := Asd.mk (val_lt h.wd)
  have HZL : Asd ((rep (val l)).length ≤ l.length) := ⟨rep_length_le (val_lt h.wd)⟩
  have HN := Asd.mk (ref02_Norm_own ok A c l w h hc (by omega))
  clear h
  generalize val l = z at *
  go_enter Tryd.func56, Tryd.ntmps56
  go_wp2_with fail
  refine HN.out.mono ?_
  rintro e w1 ⟨g, c1, rfl, ho, hg, hb⟩
  have HO := Asd.mk ho; have HB := Asd.mk hb
  clear ho hb HN
  go_wp2
  go_loopg [3, 4] (z.toNat + 1) (fun k x s wr => ∃ (j g c1 : Nat), x = .slice (some ⟨g, 0, none⟩) (rep (z / 10 ^ j)).length c1 ∧ s = .string ⟨(padD j z).toArray⟩ ∧ (rep (z / 10 ^ j)).length < 1000000 ∧ w.heap.size ≤ g ∧ Asd (Ow wr g c1 (rep (z / 10 ^ j))) ∧ Asd (Below w.heap.size w wr) ∧ Asd ((z / 10 ^ j).toNat + (if j = 0 then 1 else 0) ≤ k ∧ (j = 0 ∨ z = 0 ∧ j = 1 ∨ 0 < z / 10 ^ (j - 1))))
  case atStart => exact ⟨0, g, c1, by simp, rfl, by have := HZL.out; simp; omega, hg, ⟨by simpa using HO.out⟩, HB, ⟨by simp, Or.inl rfl⟩⟩
  case round =>
    obtain ⟨j, g2, c2, rfl, rfl, hlx, hg2, HO2, HB2, HJ⟩ := hrel
    have hy0 : 0 ≤ z / 10 ^ j := Int.ediv_nonneg hz0 (Int.pow_nonneg (by decide))
    have hnext : z / 10 ^ j / 10 = z / 10 ^ (j + 1) := by rw [Int.pow_succ, Int.ediv_ediv_of_nonneg (Int.pow_nonneg (by decide))]
    have HZ0 := Asd.mk hz0
    clear hz0
    by_cases hcont : 0 < z / 10 ^ j ∨ j = 0
    · have HVY := val_rep hy0
      have hol := HO2.out.len
      have hten := ref07_ten g2 c2 (rep (z / 10 ^ j)) wr HO2.out (by omega)
      rw [HVY] at hten
      have HTEN := Asd.mk hten
      have HPC := Asd.mk (padD_cons j z)
      have hlm := rep_length_mono (a := z / 10 ^ j / 10) (by omega) (Int.ediv_le_self _ hy0)
      have HNX := Asd.mk hnext
      have hd0 : 0 ≤ z / 10 ^ j % 10 := by omega
      have hd1 : z / 10 ^ j % 10 < 10 := by omega
      have hds : ∀ W : World, Sem.run Tryd.prog (Instr.slice 9 (Value.string ⟨#[48, 49, 50, 51, 52, 53, 54, 55, 56, 57]⟩) (some (Value.int .u64 (z / 10 ^ j % 10))) (some (Value.int .u64 (z / 10 ^ j % 10 + 1))) none) W = .ok (.string ⟨#[UInt8.ofNat (48 + z / 10 ^ j % 10).toNat]⟩) W := by
        intro W
        rw [← digit_slice hd0 hd1]
        exact run_slice_string W 9 _ .u64 .u64 _ _ Tryd.underlying9 hd0 (by omega) (by show _ ≤ (10 : Int); omega)
      have hbc := bytes_cons (UInt8.ofNat (48 + z / 10 ^ j % 10).toNat) (padD j z)
      have HC := Asd.mk hcont
      have hjn : (padD j z).isEmpty = decide (j = 0) := by cases j <;> simp [padD]
      have hlp : 0 < z / 10 ^ j → 0 < (rep (z / 10 ^ j)).length := rep_length_pos
      clear hnext hten hcont HVY
      have HJ2 : Asd ((z / 10 ^ (j + 1)).toNat < gk ∧ ((j + 1 = 0) ∨ z = 0 ∧ j + 1 = 1 ∨ 0 < z / 10 ^ j)) := ⟨by
        have h1 := HJ.out.1
        rw [← HNX.out]
        rcases HC.out with h2 | h2
        · omega
        · subst h2; simp at h1 ⊢; omega, by
        rcases Int.lt_or_eq_of_le hy0 with h2 | h2
        · exact Or.inr (Or.inr h2)
        · rcases HC.out with h3 | h3
          · omega
          · subst h3; simp at h2; exact Or.inr (Or.inl ⟨h2.symm, rfl⟩)⟩
      have hl1 : ¬ 9223372036854775807 < 1 + (padD j z).length := by
        rw [padD_length]
        rcases HC.out with h2 | h2
        · have := ten_few h2 HZW.out; omega
        · omega
      have hcase : (rep (z / 10 ^ j)).length ≠ 0 ∨ j = 0 := by
        rcases HC.out with h2 | h2
        · have := hlp h2; omega
        · exact Or.inr h2
      clear hlp HJ
      generalize hyv : z / 10 ^ j = y at *
      by_cases hl0 : 0 < (rep y).length
      all_goals
        first
          | have hd3 : decide (0 < (rep y).length) = true := decide_eq_true hl0
          | (have hd3 : decide (0 < (rep y).length) = false := decide_eq_false hl0
             have hj0 : j = 0 := by omega
             have hj1 : padD j z = [] := by rw [hj0]; rfl)
        go_wp2_with fail
        refine HTEN.out.mono ?_
        rintro e w2 ⟨o, rfl, ho, hol2, hov, hog⟩
        have HN3 := Asd.mk (ref02_Norm_own (fun _ => True) (some ⟨g2, 0, none⟩) c2 o w2 (ho.rd trivial) (by rw [hol2]; exact HO2.out.room) (by omega))
        rw [hov, hol2, HNX.out] at HN3
        have HB3 := Asd.mk (HB2.out.grown hog (by have := HB2.out.size; omega) (fun k hk => by injection hk with hk; omega))
        clear ho hol2 hov hog HTEN
        go_wp2_with fail
        refine HN3.out.mono ?_
        rintro e w3 ⟨g3, c3, rfl, ho3, hg3, hb3⟩
        have HO4 := Asd.mk ho3
        have HB4 := Asd.mk (below_go HB3.out hb3)
        have hg4 : w.heap.size ≤ g3 := by have := HB3.out.size; omega
        have HPC2 : Asd (Value.string ⟨(UInt8.ofNat (48 + y % 10).toNat :: padD j z).toArray⟩ = Value.string ⟨(padD (j + 1) z).toArray⟩) := ⟨by rw [HPC.out]⟩
        clear ho3 hb3 HN3 HB3 hg3
        go_wp2
        go_roundg ((z / 10 ^ (j + 1)).toNat)
        case measure => exact HJ2.out.1
        case rel =>
          refine ⟨j + 1, g3, c3, ?_, ?_, ?_, hg4, HO4, HB4, ⟨?_, HJ2.out.2.imp (fun h => h) (fun h => h.imp (fun h => h) (fun h => by rw [show j + 1 - 1 = j by omega]; rw [hyv]; exact h))⟩⟩
          · first | rfl | (rw [hj0]; rfl) | (rw [hj0]; simp)
          · (rw [← HPC2.out]) <;> first | exact congrArg Value.string hbc | (rw [hj0] at hbc ⊢; exact congrArg Value.string hbc) | (rw [hj0]; exact congrArg Value.string (bytes_cons _ _))
          · rw [← HNX.out]; exact Nat.lt_of_le_of_lt hlm hlx
          · simp
    · have hy : z / 10 ^ j = 0 := by omega
      have hjp : 0 < j := by omega
      have HTE := Asd.mk (text_end HZ0.out hy hjp (HJ.out.2.resolve_left (by omega)))
      have hl0 : (rep (z / 10 ^ j)).length = 0 := by rw [hy, rep_zero, List.length_nil]
      have hjn : (padD j z).isEmpty = false := by cases j <;> simp_all [padD]
      have HF := Asd.mk HB2.out
      clear hcont hy hnext hy0 HJ
      generalize z / 10 ^ j = y at *
      go_wp2
      go_ret
      exact ⟨by rw [← HTE.out]; rfl, HF.out⟩

set_option maxHeartbeats 1000000 in
theorem ref07_Wrong (l : List UInt8) (hl : l.length < 1000000000000) (w : World) : Calls Tryd.prog 53 #[.string ⟨l.toArray⟩] w fun e w' => e = .returned (.int .i64 (wrongI l)) ∧ w' = w := by
  have hsz : (⟨l.toArray⟩ : ByteArray).size = l.length := by simp [ByteArray.size]
  by_cases hnil : l = []
  · subst hnil
    go_enter Tryd.func53, Tryd.ntmps53
    go_wp2
    go_ret
    exact ⟨rfl, rfl⟩
  have hne : l.isEmpty = false := by cases l <;> simp_all
  have HNE := Asd.mk hnil
  clear hnil
  go_enter Tryd.func53, Tryd.ntmps53
  go_wp2
  go_loop [3] (fun i => ∃ k : Nat, k ≤ l.length ∧ k ≤ 60 ∧ i = .int .i64 k ∧ Asd (∀ j, j < k → badAt l j = false)) (fun i => l.length - (intOf i).toNat)
  case atStart => exact ⟨0, by omega, by omega, rfl, ⟨fun j hj => by omega⟩⟩
  case round =>
    obtain ⟨k, hk, hk60, rfl, HA⟩ := hrel
    by_cases hlt : k < l.length
    · have HBE := badAt_eq l k l[k] (List.getElem?_eq_getElem hlt)
      have HX : (⟨l.toArray⟩ : ByteArray)[k]'(by rw [hsz]; exact hlt) = l[k] := rfl
      go_wp2
      case roundEnd =>
        rename_i h1 h2 h3
        have h60 : k + 1 ≤ 60 := by omega
        refine ⟨⟨k + 1, hlt, h60, by go_num, ⟨fun j hj => ?_⟩⟩, by simp [intOf]; omega⟩
        rcases Nat.lt_or_eq_of_le (Nat.le_of_lt_succ hj) with h | rfl
        · exact HA.out j h
        · rw [HBE]
          simp at h3 ⊢
          omega
      all_goals
        go_ret
        refine ⟨?_, rfl⟩
        rw [wrongI_bad HA.out hlt ?_]
        · rfl
        · rw [HBE]
          simp only [Bool.or_eq_true, decide_eq_true_eq]
          try simp only [beq_iff_eq] at *
          first | assumption | omega
    · have hkl : k = l.length := by omega
      subst hkl
      have HG := Asd.mk (wrongI_good HA.out)
      rw [if_neg HNE.out] at HG
      clear HA
      go_wp2
      go_ret
      exact ⟨by rw [HG.out]; rfl, rfl⟩
end Go.Proofs.YthjpkichpkomcaaDoor
