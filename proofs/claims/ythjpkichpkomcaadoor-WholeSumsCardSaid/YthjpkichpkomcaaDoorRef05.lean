/- The document's answer for layers 3 and 5: a number's bits (Has, Len), doubling and taking away in place (Double, Less). -/
import Derived.Test.YthjpkichpkomcaaDoorRef02e
import Derived.Test.YthjpkichpkomcaaDoorRef02d
import Derived.Test.YthjpkichpkomcaaDoorTwos
import Derived.Outline
import Derived.WalkLawsBesides
namespace Go.Proofs.YthjpkichpkomcaaDoor
open Go.RowKit Go.Proofs.YthjpkichpkomcaaDoor.Big
set_option linter.unusedVariables false
set_option maxRecDepth 100000

/-- The bit of a number at a place. -/
def bitI (v : Int) (i : Nat) : Bool := decide (v / 2 ^ i % 2 = 1)
theorem two_pow_split (i : Nat) : (2 : Int) ^ i = pw (i / 32) * 2 ^ (i % 32) := by
  unfold pw
  rw [show (4294967296 : Int) = 2 ^ 32 from rfl, ← Int.pow_mul, ← Int.pow_add]
  congr 1; omega
theorem word_bit {l : List Int} (hw : Wd l) (i : Nat) : val l / 2 ^ i % 2 = l.getD (i / 32) 0 / 2 ^ (i % 32) % 2 := by
  have h1 := rsplit_all l (i / 32)
  have h2 := rtake_lt hw (i / 32)
  have h3 := drop_more_all l (i / 32)
  have hp := pw_pos (i / 32)
  have hm : i % 32 < 32 := Nat.mod_lt _ (by decide)
  obtain ⟨d, hd0, hd⟩ := two_pow_dvd (i := i % 32 + 1) (by omega)
  have h4 : val l / pw (i / 32) = val (l.drop (i / 32)) := by
    rw [h1, Int.add_mul_ediv_left _ _ (by omega), Int.ediv_eq_zero_of_lt h2.1 h2.2, Int.zero_add]
  rw [two_pow_split, ← Int.ediv_ediv_of_nonneg (by omega), h4, h3]
  generalize l.getD (i / 32) 0 = x
  generalize val (l.drop (i / 32 + 1)) = y
  have e : x + 4294967296 * y = x + 2 ^ (i % 32) * (2 * (d * y)) := by rw [hd, Int.pow_succ]; grind
  rw [e, Int.add_mul_ediv_left _ _ (by have := two_pow_pos (i % 32); omega)]
  omega
theorem val_lt_bits {l : List Int} (hw : Wd l) : val l < 2 ^ (32 * l.length) := by
  have h := val_lt hw
  unfold pw at h
  rwa [show (4294967296 : Int) = 2 ^ 32 from rfl, ← Int.pow_mul] at h
theorem bits_less {v : Int} {k : Nat} (hv : 0 ≤ v) (h : v < 2 ^ (k + 1)) (hb : bitI v k = false) : v < 2 ^ k := by
  unfold bitI at hb
  rw [decide_eq_false_iff_not] at hb
  have hp := two_pow_pos k
  have h1 := Int.mul_ediv_add_emod v (2 ^ k)
  have h2 := Int.emod_lt_of_pos v hp
  have h0 : 0 ≤ v / 2 ^ k := Int.ediv_nonneg hv (by omega)
  have h3 : v / 2 ^ k < 2 := by
    refine Int.ediv_lt_of_lt_mul hp ?_
    rw [Int.pow_succ] at h; omega
  have h4 : v / 2 ^ k = 0 := by omega
  rw [h4] at h1; omega

set_option maxHeartbeats 1000000 in
theorem ref03_Has (ok : Nat → Prop) (A : Option Addr) (c : Nat) (l : List Int) (i : Nat) (w : World) (h : Rd ok w A l) (hi : i < 32 * l.length) (hbig : l.length < 1000000000) :
    Calls Tryd.prog 100 #[.slice A l.length c, .int .i64 i] w fun e w' => w = w' ∧ e = .returned (.bool (bitI (val l) i)) := by
  have hj : i / 32 < l.length := by omega
  obtain ⟨ad, x, rfl, ho, hcell, hx0, hx1, HX⟩ := h.el (i / 32) hj
  have HB : Asd (bitI (val l) i = decide (x / 2 ^ (i % 32) % 2 = 1)) := ⟨by unfold bitI; rw [word_bit h.wd, HX.out]⟩
  have hm : i % 32 < 32 := Nat.mod_lt _ (by decide)
  have hdv : ((i : Int) / 32) = ((i / 32 : Nat) : Int) := by omega
  have hmd : ((i : Int) % 32) = ((i % 32 : Nat) : Int) := by omega
  have hge : decide ((l.length : Int) ≤ ((i / 32 : Nat) : Int)) = false := decide_eq_false (by omega)
  have hge2 : decide (l.length ≤ i / 32) = false := decide_eq_false (by omega)
  clear h
  generalize hje : i / 32 = j at *
  generalize hme : i % 32 = m at *
  clear hje hme
  go_enter Tryd.func100, Tryd.ntmps100
  go_wp2
  go_loop [5, 6] (fun v i => ∃ k : Nat, k ≤ m ∧ i = .int .i64 k ∧ v = .int .u32 (x / 2 ^ k)) (fun _ i => m - (intOf i).toNat)
  case atStart => exact ⟨0, Nat.zero_le _, rfl, by simp⟩
  case round =>
    obtain ⟨k, hk, rfl, rfl⟩ := hrel
    have hnext : x / 2 ^ k / 2 = x / 2 ^ (k + 1) := by rw [Int.pow_succ, Int.ediv_ediv_of_nonneg (Int.pow_nonneg (by decide))]
    have hq0 : 0 ≤ x / 2 ^ k := Int.ediv_nonneg hx0 (Int.pow_nonneg (by decide))
    have hq1 : x / 2 ^ k ≤ x := Int.ediv_le_self _ hx0
    by_cases hlt : k < m
    · have HN := Asd.mk hnext
      clear hnext
      generalize hqe : x / 2 ^ k = q at *
      clear hqe
      go_wp2
      go_round
      case rel => exact ⟨k + 1, by omega, by go_num, by rw [HN.out]⟩
      case measure => simp [intOf]; omega
    · have hkm : k = m := by omega
      subst hkm
      clear hnext
      generalize hqe : x / 2 ^ k = q at *
      clear hqe
      go_wp2
      go_ret
      exact ⟨rfl, by rw [HB.out]; rfl⟩

set_option maxHeartbeats 1000000 in
theorem ref03_Len (ok : Nat → Prop) (A : Option Addr) (c : Nat) (l : List Int) (w : World) (h : Rd ok w A l) (hbig : l.length < 1000000000) :
    Calls Tryd.prog 76 #[.slice A l.length c] w fun e w' => w = w' ∧ ∃ n : Nat, e = .returned (.int .i64 n) ∧ n ≤ 32 * l.length ∧ val l < 2 ^ n := by
  have HV := Asd.mk (val_lt_bits h.wd)
  have hv0 := val_nonneg h.wd
  have HV0 := Asd.mk hv0
  clear hv0
  go_enter Tryd.func76, Tryd.ntmps76
  go_wp2
  go_loop [3] (fun i => ∃ k : Nat, k ≤ 32 * l.length ∧ i = .int .i64 k ∧ Asd (val l < 2 ^ k)) (fun i => (intOf i).toNat)
  case atStart => exact ⟨32 * l.length, Nat.le_refl _, by go_num, HV⟩
  case round =>
    obtain ⟨k, hk, rfl, HK⟩ := hrel
    by_cases hk0 : k = 0
    · subst hk0
      go_wp2
      go_ret
      exact ⟨rfl, 0, rfl, Nat.zero_le _, HK.out⟩
    · have e : (k : Int) - 1 = ((k - 1 : Nat) : Int) := by omega
      have HH := Asd.mk (ref03_Has ok A c l (k - 1) w h (by omega) hbig)
      rw [show k = (k - 1) + 1 by omega] at HK hk
      have hk1 : k = k - 1 + 1 := by omega
      generalize hjm : k - 1 = j at *
      subst hk1
      have hlt : decide ((0 : Int) < ((j + 1 : Nat) : Int)) = true := decide_eq_true (by omega)
      rcases hbv : bitI (val l) j with _ | _
      · have HL := Asd.mk (bits_less HV0.out HK.out hbv)
        rw [hbv] at HH
        clear hbv
        go_wp2_with fail
        refine HH.out.mono ?_
        rintro e w1 ⟨rfl, rfl⟩
        go_wp2
        go_round
        case rel => exact ⟨j, by omega, by go_num, HL⟩
        case measure => simp [intOf]
      · rw [hbv] at HH
        clear hbv
        go_wp2_with fail
        refine HH.out.mono ?_
        rintro e w1 ⟨rfl, rfl⟩
        go_wp2
        go_ret
        exact ⟨rfl, j + 1, by first | rfl | (congr 1), hk, HK.out⟩

theorem dbl_step {v p t o m x new nx : Int} (h : v + p * t = 2 * o + m) (hn : new + 4294967296 * nx = 2 * x + t) : v + p * new + 4294967296 * p * nx = 2 * (o + p * x) + m := by
  have e : p * (new + 4294967296 * nx) = p * (2 * x + t) := by rw [hn]
  grind
theorem dbl_end {v p t o m : Int} (h : v + p * t = 2 * o + m) (hv : 0 ≤ v) (ht0 : 0 ≤ t) (ht1 : t ≤ 1) (hlt : 2 * o + m < p) : v = 2 * o + m := by
  rcases (by omega : t = 0 ∨ t = 1) with h3 | h3
  · rw [h3] at h; omega
  · rw [h3] at h; omega

set_option maxHeartbeats 1000000 in
theorem ref05_Double (g cap : Nat) (o : List Int) (more : Bool) (w : World) (ho : Ow w g cap o) (hbig : o.length < 1000000000) (hlt : 2 * val o + (if more then 1 else 0) < pw o.length) :
    Calls Tryd.prog 77 #[.slice (some ⟨g, 0, none⟩) o.length cap, .bool more] w fun e w' => ∃ o', e = .returned (.tuple #[]) ∧ Ow w' g cap o' ∧ o'.length = o.length ∧ val o' = 2 * val o + (if more then 1 else 0) ∧ w.grownBy w' (some g) := by
  have HLT := Asd.mk hlt
  have HO0 := Asd.mk ho
  clear ho hlt
  obtain ⟨m, hm⟩ : ∃ m : Int, m = if more then 1 else 0 := ⟨_, rfl⟩
  rw [← hm] at HLT ⊢
  have hm01 : 0 ≤ m ∧ m ≤ 1 := by rw [hm]; cases more <;> simp
  obtain ⟨hm0, hm1⟩ := hm01
  have hmv : (more = true ∧ m = 1) ∨ (more = false ∧ m = 0) := by rw [hm]; cases more <;> simp
  clear hm
  go_enter Tryd.func77, Tryd.ntmps77
  rcases hmv with ⟨rfl, rfl⟩ | ⟨rfl, rfl⟩
  all_goals
    go_wp2
    go_loopw [4, 5] (fun v i wr => ∃ (k : Nat) (t : Int) (q : List Int), k ≤ o.length ∧ i = .int .i64 k ∧ v = .int .u32 t ∧ 0 ≤ t ∧ t ≤ 1 ∧ Asd (Ow wr g cap q) ∧ Asd (q.length = o.length) ∧ Asd (q.drop k = o.drop k) ∧ Asd (val (q.take k) + pw k * t = 2 * val (o.take k) + _) ∧ Asd (w.grownBy wr (some g))) (fun _ i _ => o.length - (intOf i).toNat)
    case atStart => exact ⟨0, _, o, Nat.zero_le _, rfl, rfl, by omega, by omega, HO0, ⟨rfl⟩, ⟨rfl⟩, ⟨by simp [val, pw_zero]; rfl⟩, ⟨grown_refl _ _⟩⟩
    case round =>
      obtain ⟨k, t, q, hk, rfl, rfl, ht0, ht1, HO, HOL, HD, HV, HG⟩ := hrel
      by_cases hlt : k < o.length
      · have hol := HOL.out
        obtain ⟨x, hcx, hx0, hx1, HX⟩ := HO.out.el k (by omega)
        have HX2 : Asd (o.getD k 0 = x) := ⟨by rw [← HX.out]; exact (getD_of_drop HD.out k (Nat.le_refl _)).symm⟩
        have hfr := HO.out.free k
        by_cases hxs : x < 2147483648
        · have hd0 : x / 2147483648 = 0 := by omega
          have HN := Asd.mk (dbl_step (x := x) (new := x * 2 + t) (nx := 0) HV.out (by omega))
          have HSV := Asd.mk (val_set_take q k (x * 2 + t) (by omega))
          clear hol
          go_wp2
          go_roundw
          case rel =>
            refine ⟨k + 1, 0, q.set k (x * 2 + t), by omega, by go_num, by rw [hd0], by omega, by omega, ⟨HO.out.set _ (by omega) (by omega)⟩, ⟨by rw [List.length_set]; exact HOL.out⟩, ⟨by rw [drop_set_succ]; exact drop_more HD.out _ (by omega)⟩, ⟨?_⟩, ⟨grown_trans HG.out (HO.out.2.2.stored _ _).2⟩⟩
            rw [HSV.out, pw_succ, val_take_succ o k hlt, HX2.out]
            exact HN.out
          case measure => simp [intOf]; omega
        · have hd0 : x / 2147483648 = 1 := by omega
          have HN := Asd.mk (dbl_step (x := x) (new := x * 2 - 4294967296 + t) (nx := 1) HV.out (by omega))
          have HSV := Asd.mk (val_set_take q k (x * 2 - 4294967296 + t) (by omega))
          have hw : IntKind.u32.wrap (x * 2) = x * 2 - 4294967296 := by rw [IntKind.wrap_u32]; omega
          clear hol
          go_wp2
          go_roundw
          case rel =>
            refine ⟨k + 1, 1, q.set k (x * 2 - 4294967296 + t), by omega, by go_num, by rw [hd0], by omega, by omega, ⟨HO.out.set _ (by omega) (by omega)⟩, ⟨by rw [List.length_set]; exact HOL.out⟩, ⟨by rw [drop_set_succ]; exact drop_more HD.out _ (by omega)⟩, ⟨?_⟩, ⟨grown_trans HG.out (HO.out.2.2.stored _ _).2⟩⟩
            rw [HSV.out, pw_succ, val_take_succ o k hlt, HX2.out]
            exact HN.out
          case measure => simp [intOf]; omega
      · have hkl : k = o.length := by omega
        subst hkl
        have hol := HOL.out
        have hv := HV.out
        rw [List.take_of_length_le (by omega), List.take_of_length_le (Nat.le_refl _)] at hv
        have hn := val_nonneg HO.out.wd
        have HE := Asd.mk (dbl_end hv hn ht0 ht1 HLT.out)
        clear hv hn hol
        go_wp2
        go_end0
        exact ⟨q, rfl, HO.out, HOL.out, HE.out, HG.out⟩

set_option maxHeartbeats 1000000 in
theorem ref05_Less (g cap : Nat) (o : List Int) (ok : Nat → Prop) (A : Option Addr) (c : Nat) (l : List Int) (w : World) (ho : Ow w g cap o) (h : Rd ok w A l) (hok : ¬ ok g) (hbig : o.length < 1000000000) (hge : val l ≤ val o) :
    Calls Tryd.prog 78 #[.slice (some ⟨g, 0, none⟩) o.length cap, .slice A l.length c] w fun e w' => ∃ o', e = .returned (.tuple #[]) ∧ Ow w' g cap o' ∧ o'.length = o.length ∧ val o' = val o - val l ∧ w.grownBy w' (some g) := by
  have HL : Asd (val (l.take o.length) = val l) := ⟨by
    have h1 := rsplit_all l o.length
    have h2 := val_lt ho.wd
    have h3 := val_nonneg (h.wd.drop o.length)
    have h4 := (rtake_lt h.wd o.length).1
    have hp := pw_pos o.length
    rcases Int.lt_or_le 0 (val (l.drop o.length)) with h5 | h5
    · have h6 := Int.mul_le_mul_of_nonneg_left h5 (Int.le_of_lt hp)
      rw [Int.zero_add, Int.mul_one] at h6
      omega
    · have h6 : val (l.drop o.length) = 0 := by omega
      rw [h6] at h1; omega⟩
  have HGE := Asd.mk hge
  have HO0 := Asd.mk ho
  clear ho hge
  go_enter Tryd.func78, Tryd.ntmps78
  go_wp2
  go_loopw [4, 5] (fun v i wr => ∃ (k : Nat) (t : Int) (q : List Int), k ≤ o.length ∧ i = .int .i64 k ∧ v = .int .u64 t ∧ 0 ≤ t ∧ t ≤ 1 ∧ Asd (Ow wr g cap q) ∧ Asd (q.length = o.length) ∧ Asd (q.drop k = o.drop k) ∧ Asd (val (q.take k) = val (o.take k) - val (l.take k) + pw k * t) ∧ Asd (w.grownBy wr (some g))) (fun _ i _ => o.length - (intOf i).toNat)
  case atStart => exact ⟨0, _, o, Nat.zero_le _, rfl, rfl, by omega, by omega, HO0, ⟨rfl⟩, ⟨rfl⟩, ⟨by simp [val]⟩, ⟨grown_refl _ _⟩⟩
  case round =>
    obtain ⟨k, t, q, hk, rfl, rfl, ht0, ht1, HO, HOL, HD, HV, HG⟩ := hrel
    by_cases hlt : k < o.length
    · have hol := HOL.out
      obtain ⟨x, hcx, hx0, hx1, HX⟩ := HO.out.el k (by omega)
      have HX2 : Asd (o.getD k 0 = x) := ⟨by rw [← HX.out]; exact (getD_of_drop HD.out k (Nat.le_refl _)).symm⟩
      have hfr := HO.out.free k
      have r1 : Rd ok wr A l := h.grown HG.out hok
      have hy := h.wd.getD k
      have hp2 := ref02_At _ A c l k wr r1
      have HVS := Asd.mk (And.intro (rval_take_more o k) (rval_take_more l k))
      rw [HX2.out] at HVS
      have hST := fun y o' => @rsub_carry (val (o.take k)) (val (l.take k)) (pw k) t x y (val (q.take k)) o' HV.out
      generalize hye : l.getD k 0 = y at *
      have HST := Asd.mk (hST y)
      have HP2 := Asd.mk hp2
      obtain ⟨hy0, hy1⟩ := hy
      clear hST hye hp2 r1
      by_cases hxy : x < y + t
      · have hd2 : decide (x < y + t) = true := decide_eq_true hxy
        have hw3 : IntKind.u32.wrap (x + 4294967296 - (y + t)) = x + 4294967296 - (y + t) := by rw [IntKind.wrap_u32]; omega
        have HSV := Asd.mk (val_set_take q k (x + 4294967296 - (y + t)) (by omega))
        clear hol
        go_wp2_with fail
        refine HP2.out.mono ?_
        rintro e w1 ⟨rfl, rfl⟩
        go_wp2
        go_roundw
        case rel =>
          refine ⟨k + 1, 1, q.set k (x + 4294967296 - (y + t)), by omega, by go_num, rfl, by omega, by omega, ⟨HO.out.set _ (by omega) (by omega)⟩, ⟨by rw [List.length_set]; exact HOL.out⟩, ⟨by rw [drop_set_succ]; exact drop_more HD.out _ (by omega)⟩, ⟨?_⟩, ⟨grown_trans HG.out (HO.out.2.2.stored _ _).2⟩⟩
          rw [HSV.out, HVS.out.1, HVS.out.2, pw_succ, Int.mul_comm 4294967296 (pw k)]
          have h1 := HST.out 1
          rw [Int.mul_one] at h1
          exact h1
        case measure => simp [intOf]; omega
      · have hd2 : decide (x < y + t) = false := decide_eq_false hxy
        have hw3 : IntKind.u32.wrap (x - (y + t)) = x - (y + t) := by rw [IntKind.wrap_u32]; omega
        have HSV := Asd.mk (val_set_take q k (x - (y + t)) (by omega))
        clear hol
        go_wp2_with fail
        refine HP2.out.mono ?_
        rintro e w1 ⟨rfl, rfl⟩
        go_wp2
        go_roundw
        case rel =>
          refine ⟨k + 1, 0, q.set k (x - (y + t)), by omega, by go_num, rfl, by omega, by omega, ⟨HO.out.set _ (by omega) (by omega)⟩, ⟨by rw [List.length_set]; exact HOL.out⟩, ⟨by rw [drop_set_succ]; exact drop_more HD.out _ (by omega)⟩, ⟨?_⟩, ⟨grown_trans HG.out (HO.out.2.2.stored _ _).2⟩⟩
          rw [HSV.out, HVS.out.1, HVS.out.2, pw_succ, Int.mul_comm 4294967296 (pw k)]
          have h1 := HST.out 0
          rw [Int.mul_zero, Int.add_zero] at h1
          exact h1
        case measure => simp [intOf]; omega
    · have hkl : k = o.length := by omega
      subst hkl
      have HE : Asd (val q = val o - val l) := ⟨by
        have h1 := HV.out
        rw [List.take_of_length_le (by have := HOL.out; omega), List.take_of_length_le (Nat.le_refl _), HL.out] at h1
        have h2 := val_lt HO.out.wd
        rw [HOL.out] at h2
        exact rsub_end h1 h2 ht0 ht1 HGE.out⟩
      go_wp2
      go_end0
      exact ⟨q, rfl, HO.out, HOL.out, HE.out, HG.out⟩
end Go.Proofs.YthjpkichpkomcaaDoor
