/- The document's answer for layer 4: products (retrospectref04.Mul). -/
import Derived.Test.YthjpkichpkomcaaDoorRef02c
import Derived.Test.YthjpkichpkomcaaDoorProd
import Derived.Outline
import Derived.WalkLawsBesides
namespace Go.Proofs.YthjpkichpkomcaaDoor
open Go.RowKit Go.Proofs.YthjpkichpkomcaaDoor.Big
set_option linter.unusedVariables false
set_option maxRecDepth 100000

theorem val_take_setmid (q : List Int) (m j : Nat) (x : Int) (hj : j < m) (hm : m ≤ q.length) : val ((q.set j x).take m) = val (q.take m) + pw j * (x - q.getD j 0) := by
  rw [List.take_set, val_set _ _ _ (by rw [List.length_take]; omega)]
  congr 3
  rw [List.getD_eq_getElem?_getD, List.getD_eq_getElem?_getD, List.getElem?_take_of_lt hj]
theorem rmul_step {T V p pk x y z s S t : Int} (h : T + p * pk * s = V + p * (x * t)) (hS : S = s + (x * y + z)) :
    T + p * pk * (S % 4294967296 - z) + p * (4294967296 * pk) * (S / 4294967296) = V + p * (x * (t + pk * y)) := by
  have e := Int.mul_ediv_add_emod S 4294967296
  generalize S % 4294967296 = lo at *
  generalize S / 4294967296 = hi at *
  have e2 : p * pk * (4294967296 * hi + lo) = p * pk * (s + (x * y + z)) := by rw [e, hS]
  grind
theorem rmul_row {T p b a t x : Int} (h : T = a * b + p * (x * b)) (ht : t = a + p * x) : T = t * b := by
  subst ht; grind

set_option maxHeartbeats 2000000 in
theorem ref04_Mul (ok ok' : Nat → Prop) (A A' : Option Addr) (c c' : Nat) (l l' : List Int) (w : World) (h : Rd ok w A l) (hc : l.length ≤ c) (h' : Rd ok' w A' l') (hc' : l'.length ≤ c') (hbig : l.length < 1000000000) (hbig' : l'.length < 1000000000) :
    Calls Tryd.prog 48 #[.slice A l.length c, .slice A' l'.length c'] w fun e w' => ∃ A1 c1, e = .returned (.slice A1 (rep (val l * val l')).length c1) ∧ (rep (val l * val l')).length ≤ c1 ∧ Rd (fun k => w.heap.size ≤ k) w' A1 (rep (val l * val l')) ∧ Below w.heap.size w w' := by
  have hn : ((l.length + l'.length : Nat) : Int) = (l.length : Int) + (l'.length : Int) := by omega
  obtain ⟨hmk, how⟩ := make_u32 w (l.length + l'.length) (by omega)
  rw [hn] at hmk
  clear hn
  have hr := (h.mono (ok' := fun k => k < w.heap.size) (fun k hk _ => hk)).alloc (.cells (madeCells #[.int .u32 0] (l.length + l'.length)) 84)
  have hr' := (h'.mono (ok' := fun k => k < w.heap.size) (fun k hk _ => hk)).alloc (.cells (madeCells #[.int .u32 0] (l.length + l'.length)) 84)
  have hb0 : Below w.heap.size w (w.alloc (.cells (madeCells #[.int .u32 0] (l.length + l'.length)) 84)) := (Below.refl _ _).alloc (Nat.le_refl _) _
  have HOW := Asd.mk how
  have HR := Asd.mk hr; have HR' := Asd.mk hr'; have HB0 := Asd.mk hb0
  clear how hr hr' hb0 h h'
  go_enter Tryd.func48, Tryd.ntmps48
  go_wp2
  go_loopw [6] (fun i wr => ∃ (k : Nat) (q : List Int), k ≤ l.length ∧ i = .int .i64 k ∧ Asd (Ow wr w.heap.size (l.length + l'.length) q) ∧ Asd (q.length = l.length + l'.length) ∧ Asd (val (q.take (k + l'.length)) = val (l.take k) * val l') ∧ Asd (Rd (fun k => k < w.heap.size) wr A l) ∧ Asd (Rd (fun k => k < w.heap.size) wr A' l') ∧ Asd (Below w.heap.size w wr)) (fun i _ => l.length - (intOf i).toNat)
  case atStart => exact ⟨0, _, Nat.zero_le _, rfl, HOW, ⟨by simp⟩, ⟨by rw [List.take_replicate, val_replicate]; simp [val]⟩, HR, HR', HB0⟩
  case round =>
    obtain ⟨k, q, hk, rfl, HO, HOL, HV, HX, HY, HBW⟩ := hrel
    by_cases hlt : k < l.length
    · obtain ⟨ad, x, rfl, ho, hcell, hx0, hx1, HX1⟩ := HX.out.el k hlt
      clear hcell
      go_wp2
      go_loopw [7, 8] (fun s i wq => ∃ (j : Nat) (t : Int) (p : List Int), j ≤ l'.length ∧ i = .int .i64 j ∧ s = .int .u64 t ∧ 0 ≤ t ∧ t < 4294967296 ∧ Asd (Ow wq w.heap.size (l.length + l'.length) p) ∧ Asd (p.length = l.length + l'.length) ∧ Asd (val (p.take (k + l'.length)) + pw k * pw j * t = val (l.take k) * val l' + pw k * (x * val (l'.take j))) ∧ Asd (Rd (fun k => k < w.heap.size) wq (some ad) l) ∧ Asd (Rd (fun k => k < w.heap.size) wq A' l') ∧ Asd (Below w.heap.size w wq)) (fun _ i _ => l'.length - (intOf i).toNat)
      case atStart => exact ⟨0, 0, q, Nat.zero_le _, rfl, rfl, by omega, by omega, HO, HOL, ⟨by rw [HV.out]; simp [val]⟩, HX, HY, HBW⟩
      case round =>
        obtain ⟨j, t, p, hj, rfl, rfl, ht0, ht1, HP, HPL, HW, HX2, HY2, HB2⟩ := hrel
        have hnb : ((k : Int) + (j : Int)) = ((k + j : Nat) : Int) := by omega
        by_cases hj2 : j < l'.length
        · have hcx := HX2.out.cell k hlt
          rw [HX1.out] at hcx
          obtain ⟨ad', y, rfl, ho', hcy, hy0, hy1, HY1⟩ := HY2.out.el j hj2
          have hpl := HPL.out
          obtain ⟨z, hcz, hz0, hz1, HZ1⟩ := HP.out.el (k + j) (by omega)
          have hfr := HP.out.free (k + j)
          have hxy0 : 0 ≤ x * y := Int.mul_nonneg hx0 hy0
          have hxy1 : x * y ≤ 4294967295 * 4294967295 := Int.mul_le_mul (by omega) (by omega) hy0 (by omega)
          have HST := Asd.mk (rmul_step (y := y) (z := z) (S := t + (x * y + z)) HW.out rfl)
          have HTS := Asd.mk (val_take_setmid p (k + l'.length) (k + j) ((t + (x * y + z)) % 4294967296) (by omega) (by omega))
          generalize hm : x * y = m at *
          have hs0 : 0 ≤ (t + (m + z)) / 4294967296 := by omega
          have hs1 : (t + (m + z)) / 4294967296 < 4294967296 := by omega
          have hlo0 := Int.emod_nonneg (t + (m + z)) (show (4294967296 : Int) ≠ 0 by decide)
          have hlo1 := Int.emod_lt_of_pos (t + (m + z)) (show (0 : Int) < 4294967296 by decide)
          have hkj : ((k : Int) + (j : Int)).toNat = k + j := by omega
          have hw0 : IntKind.i64.wrap ((k : Int) + (j : Int)) = (k : Int) + (j : Int) := IntWalk.i64_in _ (by omega)
          have hw1 : IntKind.u64.wrap m = m := by rw [IntKind.wrap_u64]; omega
          have hw2 : IntKind.u64.wrap (m + z) = m + z := by rw [IntKind.wrap_u64]; omega
          have hw3 : IntKind.u64.wrap (t + (m + z)) = t + (m + z) := by rw [IntKind.wrap_u64]; omega
          clear hpl hnb
          go_wp2
          go_quiet (fail)
          clear hw0 hw1 hw2 hw3
          go_wp2
          go_roundw
          case rel =>
            refine ⟨j + 1, (t + (m + z)) / 4294967296, p.set (k + j) ((t + (m + z)) % 4294967296), by omega, by go_num, rfl, hs0, hs1, ⟨(HP.out.drewN _).set _ hlo0 hlo1⟩, ⟨by rw [List.length_set]; exact HPL.out⟩, ⟨?_⟩, ⟨(HX2.out.drewN _).setCell (by simp) _⟩, ⟨(HY2.out.drewN _).setCell (by simp) _⟩, ⟨(below_drewN HB2.out _).setCell (by simp) _⟩⟩
            rw [HTS.out, HZ1.out, val_take_succ l' j hj2, HY1.out, pw_succ, pw_add]
            exact HST.out
          case measure => simp [intOf]; omega
        · have hjl : j = l'.length := by omega
          subst hjl
          have hpl := HPL.out
          obtain ⟨z, hcz, hz0, hz1, HZ1⟩ := HP.out.el (k + l'.length) (by omega)
          have hfr := HP.out.free (k + l'.length)
          have hkj : ((k : Int) + (l'.length : Int)).toNat = k + l'.length := by omega
          have HF : Asd (val ((p.set (k + l'.length) t).take (k + 1 + l'.length)) = val (l.take (k + 1)) * val l') := ⟨by
            rw [show k + 1 + l'.length = k + l'.length + 1 by omega, val_set_take p _ t (by omega), val_take_succ l k hlt, HX1.out, pw_add]
            have := HW.out
            rw [List.take_of_length_le (Nat.le_refl _)] at this
            exact rmul_row this rfl⟩
          clear hpl hnb
          go_wp2
          go_roundw
          case rel =>
            exact ⟨k + 1, p.set (k + l'.length) t, by omega, by go_num, ⟨HP.out.set _ ht0 ht1⟩, ⟨by rw [List.length_set]; exact HPL.out⟩, HF, ⟨HX2.out.setCell (by simp) _⟩, ⟨HY2.out.setCell (by simp) _⟩, ⟨HB2.out.setCell (by simp) _⟩⟩
          case measure => simp [intOf]; omega
    · have hkl : k = l.length := by omega
      subst hkl
      have HE : Asd (val q = val l * val l') := ⟨by
        have := HV.out
        rwa [List.take_of_length_le (Nat.le_of_eq HOL.out), List.take_of_length_le (Nat.le_refl _)] at this⟩
      have hN := ref02_Norm (fun k => k = w.heap.size) (some ⟨w.heap.size, 0, none⟩) (l.length + l'.length) q wr (HO.out.rd rfl) (by rw [HOL.out]; exact Nat.le_refl _) (by have := HOL.out; omega)
      rw [HE.out, HOL.out] at hN
      have HN := Asd.mk hN
      clear hN HO HX HY HV
      go_wp2_with fail
      refine HN.out.mono ?_
      rintro e w1 ⟨A1, c1, rfl, hc1, hr1, hb1⟩
      have hbs := HBW.out.size
      go_wp2
      go_ret
      exact ⟨_, _, rfl, hc1, hr1.mono (fun k _ hk => Nat.le_trans hbs hk), below_go HBW.out hb1⟩
end Go.Proofs.YthjpkichpkomcaaDoor
