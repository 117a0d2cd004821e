/- Twos -/
import Derived.Test.YthjpkichpkomcaaGreatDoorBRowFigureNear4
import Derived.Outline
import Derived.WalkLawsBesides
import Derived.Laws.BitsLemmas
/- Layer 3: bits and shifts (limb.Len, twos.Up, twos.Down), and a number of the machine's as a list (nat.Of). -/
namespace Go.Proofs.YthjpkichpkomcaaGreatDoor
open Go.RowKit Go.Proofs.YthjpkichpkomcaaGreatDoor.Big
set_option linter.unusedVariables false
set_option maxRecDepth 100000

theorem of_two {n : Int} (h0 : 0 ≤ n) (h1 : n < 18446744073709551616) : val [n % 4294967296, n / 4294967296] = n ∧ Wd [n % 4294967296, n / 4294967296] := by
  constructor
  · simp only [val]; omega
  · exact Wd.cons (by omega) (by omega) (Wd.cons (by omega) (by omega) Wd.nil)

set_option maxHeartbeats 400000 in
theorem nat_Of (n : Int) (h0 : 0 ≤ n) (h1 : n < 18446744073709551616) (w : World) :
    Calls Tryz.prog 65 #[.int .u64 n] w fun e w' => ∃ A c, e = .returned (.slice A (rep n).length c) ∧ (rep n).length ≤ c ∧ Rd (fun k => w.heap.size ≤ k) w' A (rep n) ∧ Below w.heap.size w w' := by
  obtain ⟨hv, hw⟩ := of_two h0 h1
  have HV := Asd.mk hv
  have h2 : n ≤ 18446744073709551615 := by omega
  clear h1 hv
  go_enter Tryz.func65, Tryz.ntmps65
  go_wp2_with fail
  have ho : Ow (w.alloc (.cells #[.int .u32 (n % 4294967296), .int .u32 (n / 4294967296)] 125)) w.heap.size 2 [n % 4294967296, n / 4294967296] := by
    refine Ow.of_block hw (by simp) ?_
    rw [heap_alloc_new]
    rfl
  have hp := nat_trim _ (some ⟨w.heap.size, 0, none⟩) 2 _ _ (ho.rd (ok := fun k => w.heap.size ≤ k) (Nat.le_refl _)) (by simp)
  simp only [List.length_cons, List.length_nil, Nat.zero_add] at hp
  rw [HV.out] at hp
  (with_reducible refine hp.mono ?_)
  rintro e w1 ⟨rfl, rfl, he, hle⟩
  have hr : Rd (fun k => w.heap.size ≤ k) (w.alloc (.cells #[.int .u32 (n % 4294967296), .int .u32 (n / 4294967296)] 125)) (some ⟨w.heap.size, 0, none⟩) (rep n) := by
    rw [he]; exact (ho.rd (ok := fun k => w.heap.size ≤ k) (Nat.le_refl _)).take _
  have HR := Asd.mk hr
  clear hr he ho hp
  go_wp2
  go_ret
  exact ⟨_, _, rfl, by simpa using hle, HR.out, (Below.refl _ _).alloc (Nat.le_refl _) _⟩

theorem or_u32 {i : Nat} (hi : i < 32) {z y : Int} (hz0 : 0 ≤ z) (hz : z < 2 ^ i) (hy0 : 0 ≤ y) (hy1 : y < 4294967296) (hy : y % 2 ^ i = 0) : bits .or .u32 z y = z + y := by
  have hw : ∀ n : Int, 0 ≤ n → n < 2 ^ 32 → IntKind.u32.wrap n = n := fun n h0 h1 => by rw [IntKind.wrap_u32]; omega
  have hpi : (2 : Int) ^ i ≤ 2 ^ 32 := by
    have : (2 : Nat) ^ i ≤ 2 ^ 32 := Nat.pow_le_pow_right (by decide) (by omega)
    exact_mod_cast this
  have h1 := bits_join .u32 32 (by decide) hw i y z hy0 hy (by omega) hz0 hz (by omega)
  obtain ⟨a, rfl⟩ := Int.eq_ofNat_of_zero_le hz0
  obtain ⟨b, rfl⟩ := Int.eq_ofNat_of_zero_le hy0
  have ha : a < 2 ^ 32 := by omega
  have hb : b < 2 ^ 32 := by omega
  rw [(bits_nat .u32 32 (by decide) hw b a hb ha).2] at h1
  rw [(bits_nat .u32 32 (by decide) hw a b ha hb).2, Nat.or_comm, h1]
  omega
theorem two_pow_pos (i : Nat) : (0 : Int) < 2 ^ i := Int.pow_pos (by decide)
theorem two_pow_dvd {i : Nat} (hi : i ≤ 32) : ∃ q : Int, 0 < q ∧ 4294967296 = 2 ^ i * q := by
  refine ⟨2 ^ (32 - i), two_pow_pos _, ?_⟩
  rw [← Int.pow_add, show i + (32 - i) = 32 from by omega]
  rfl
theorem two_pow_le {i : Nat} (hi : i < 32) : (2 : Int) ^ i ≤ 2147483648 := by
  have : (2 : Nat) ^ i ≤ 2 ^ 31 := Nat.pow_le_pow_right (by decide) (by omega)
  have h2 : ((2 ^ i : Nat) : Int) ≤ ((2 ^ 31 : Nat) : Int) := by omega
  simpa using h2
/-- The parts of a word that is shifted up. -/
theorem up_parts {i : Nat} (hi : i < 32) {x : Int} (h0 : 0 ≤ x) (h1 : x < 4294967296) : 0 ≤ x * 2 ^ i ∧ x * 2 ^ i < 9223372036854775808 ∧ x * 2 ^ i % 4294967296 % 2 ^ i = 0 ∧ x * 2 ^ i / 4294967296 < 2 ^ i ∧ x * 2 ^ i % 4294967296 + 2 ^ i ≤ 4294967296 := by
  have hp := two_pow_pos i
  have hle := two_pow_le hi
  obtain ⟨q, hq0, hq⟩ := two_pow_dvd (i := i) (by omega)
  generalize (2 : Int) ^ i = p at *
  have hx0 : 0 ≤ x * p := Int.mul_nonneg h0 (by omega)
  have hx1 : x * p ≤ 4294967295 * p := Int.mul_le_mul_of_nonneg_right (by omega) (by omega)
  have hm : x * p % 4294967296 = (x % q) * p := by
    rw [hq, Int.mul_comm x p, Int.mul_emod_mul_of_pos _ _ hp, Int.mul_comm]
  have hd : x * p / 4294967296 < p := Int.ediv_lt_of_lt_mul (by decide) (by omega)
  refine ⟨hx0, by omega, ?_, hd, ?_⟩
  · rw [hm, Int.mul_emod_left]
  · rw [hm]
    have h2 : x % q + 1 ≤ q := by have := Int.emod_lt_of_pos x hq0; omega
    have h3 : (x % q + 1) * p ≤ q * p := Int.mul_le_mul_of_nonneg_right h2 (by omega)
    rw [Int.add_mul, Int.mul_comm q p, ← hq] at h3
    omega

theorem up_step {vq vt pk p x z lo hi : Int} (h : vq + pk * z = vt * p) (hx : x * p = lo + 4294967296 * hi) : vq + pk * (z + lo) + 4294967296 * pk * hi = (vt + pk * x) * p := by
  grind

set_option maxHeartbeats 1000000 in
theorem twos_Up (ok : Nat → Prop) (A : Option Addr) (cA : Nat) (l : List Int) (s : Int) (i : Nat) (w : World) (h : Rd ok w A l) (hc : l.length ≤ cA) (hbig : l.length < 100000000000) (hi : i < 32) (hs : s = (i : Int)) :
    Calls Tryz.prog 176 #[.slice A l.length cA, .int .i64 s] w fun e w' => ∃ g, e = .returned (.slice (some ⟨g, 0, none⟩) (rep (val l * 2 ^ i)).length (rep (val l * 2 ^ i)).length) ∧ Ow w' g (rep (val l * 2 ^ i)).length (rep (val l * 2 ^ i)) ∧ w.heap.size ≤ g ∧ Below w.heap.size w w' := by
  subst hs
  obtain ⟨hmk, how⟩ := make_u32 w (l.length + 1) (by omega)
  rw [show ((l.length + 1 : Nat) : Int) = (l.length : Int) + 1 from by omega] at hmk
  have HOW := Asd.mk how
  clear how
  have hr := (h.mono (ok' := fun k => k < w.heap.size) (fun k hk _ => hk)).alloc (.cells (madeCells #[.int .u32 0] (l.length + 1)) 125)
  have hb0 : Below w.heap.size w (w.alloc (.cells (madeCells #[.int .u32 0] (l.length + 1)) 125)) := (Below.refl _ _).alloc (Nat.le_refl _) _
  have HSZ : Asd (w.heap.size < (w.alloc (.cells (madeCells #[.int .u32 0] (l.length + 1)) 125)).heap.size) := ⟨by simp⟩
  have hq : (i : Int) / 32 = 0 := by omega
  have hq2 : (i : Int) % 32 = (i : Int) := by omega
  have hmin : min i 64 = i := by omega
  clear h
  go_enter Tryz.func176, Tryz.ntmps176
  go_wp2
  generalize w.alloc (.cells (madeCells #[.int .u32 0] (l.length + 1)) 125) = w0 at *
  clear hmk
  go_loopw [26] (fun v wr => ∃ (k : Nat) (q : List Int), k ≤ l.length ∧ v = .int .i64 k ∧ Asd (Ow wr w.heap.size (l.length + 1) q) ∧ Asd (q.length = l.length + 1) ∧ Asd (val (q.take k) + pw k * q.getD k 0 = val (l.take k) * 2 ^ i) ∧ Asd (q.getD k 0 < 2 ^ i) ∧ Asd (w0.grownBy wr (some w.heap.size))) (fun v _ => l.length - (intOf v).toNat)
  case atStart => exact ⟨0, _, Nat.zero_le _, rfl, HOW, ⟨by simp⟩, ⟨by rw [getD_replicate]; simp [val]⟩, ⟨by rw [getD_replicate]; exact two_pow_pos i⟩, ⟨grown_refl _ _⟩⟩
  case round =>
    obtain ⟨k, q, hk, rfl, HO, HOL, HV, HP, HG⟩ := hrel
    have hcap := HO.out.lt
    by_cases hlt : k < l.length
    · have r1 := hr.grown HG.out (Nat.lt_irrefl _)
      obtain ⟨ad, x, rfl, ho, hcell, hx0, hx1, HX⟩ := r1.el k hlt
      obtain ⟨z, hz, hz0, hz1, HZ⟩ := HO.out.el k (by have := HOL.out; omega)
      have hfr := HO.out.free k
      obtain ⟨u1, u2, u3, u4, u5⟩ := up_parts hi hx0 hx1
      have hzp : z < 2 ^ i := by rw [← HZ.out]; exact HP.out
      have hor : bits .or .u32 z (x * 2 ^ i % 4294967296) = z + x * 2 ^ i % 4294967296 := or_u32 hi hz0 hzp (by omega) (by omega) u3
      obtain ⟨z2, hz2, _, _, _⟩ := HO.out.el (k + 1) (by have := HOL.out; omega)
      have hfr2 := HO.out.free (k + 1)
      have HN : Asd (Ow ((wr.setCell ⟨w.heap.size, k, none⟩ (.int .u32 (z + x * 2 ^ i % 4294967296))).setCell ⟨w.heap.size, k + 1, none⟩ (.int .u32 (x * 2 ^ i / 4294967296))) w.heap.size (l.length + 1) ((q.set k (z + x * 2 ^ i % 4294967296)).set (k + 1) (x * 2 ^ i / 4294967296))) :=
        ⟨(HO.out.set k (by omega) (by omega)).set (k + 1) (by omega) (by have := two_pow_le hi; omega)⟩
      have HU2 : Asd (0 ≤ z + x * 2 ^ i % 4294967296 ∧ z + x * 2 ^ i % 4294967296 < 4294967296) := ⟨by omega, by omega⟩
      have HU : Asd (x * 2 ^ i = x * 2 ^ i % 4294967296 + 4294967296 * (x * 2 ^ i / 4294967296) ∧ x * 2 ^ i / 4294967296 < 2 ^ i) := ⟨by omega, u4⟩
      clear r1 u3 u4 u5 hzp
      go_wp2
      go_roundw
      case rel =>
        refine ⟨k + 1, _, hlt, by go_num, HN, ⟨by rw [List.length_set, List.length_set]; exact HOL.out⟩, ⟨?_⟩, ⟨?_⟩, ⟨grown_trans HG.out (grown_trans (HO.out.2.2.stored _ _).2 ((HO.out.set (x := z + x * 2 ^ i % 4294967296) k HU2.out.1 HU2.out.2).2.2.stored _ _).2)⟩⟩
        · have hl := HOL.out
          rw [take_set_lt, val_take_set _ _ _ (by omega), val_take_succ l k hlt, HX.out]
          have e : ((q.set k (z + x * 2 ^ i % 4294967296)).set (k + 1) (x * 2 ^ i / 4294967296)).getD (k + 1) 0 = x * 2 ^ i / 4294967296 := by
            rw [List.getD_eq_getElem?_getD, List.getElem?_set_self (by rw [List.length_set]; omega)]; rfl
          rw [e, pw_succ]
          have hv := HV.out
          rw [HZ.out] at hv
          exact up_step hv HU.out.1
        · have hl := HOL.out
          rw [List.getD_eq_getElem?_getD, List.getElem?_set_self (by rw [List.length_set]; omega)]
          exact HU.out.2
      case measure => simp [intOf]; omega
    · have hkl : k = l.length := by omega
      subst hkl
      have HV2 : Asd (val q = val l * 2 ^ i) := ⟨by
        have hl := HOL.out
        have hv := HV.out
        rw [List.take_of_length_le (l := l) (Nat.le_refl _), ← val_take_succ q _ (by omega), List.take_of_length_le (by omega)] at hv
        exact hv⟩
      have hb1 : Below w.heap.size w wr := hb0.grown HG.out (by have := HSZ.out; omega) (fun k hk => by injection hk with hk; omega)
      have hsz := hb1.size
      go_wp2_with fail
      have hq := nat_Norm (fun k => k = w.heap.size) (some ⟨w.heap.size, 0, none⟩) (l.length + 1) q wr (HO.out.rd rfl) (by rw [HOL.out]; omega)
      rw [HV2.out, HOL.out] at hq
      (with_reducible refine hq.mono ?_)
      rintro e w2 ⟨g, rfl, how2, hg2, hb2⟩
      clear hq
      go_wp2
      go_ret
      exact ⟨g, rfl, how2, by omega, hb1.trans (hb2.mono hsz)⟩

theorem or_u64 {x y : Int} (hx0 : 0 ≤ x) (hx1 : x < 4294967296) (hy0 : 0 ≤ y) (hy1 : y < 4294967296) : bits .or .u64 x (y * 4294967296) = x + y * 4294967296 := by
  have hw : ∀ n : Int, 0 ≤ n → n < 2 ^ 64 → IntKind.u64.wrap n = n := fun n h0 h1 => by rw [IntKind.wrap_u64]; omega
  have h1 := bits_join .u64 64 (by decide) hw 32 (y * 4294967296) x (by omega) (by omega) (by omega) hx0 (by omega) (by omega)
  have e1 : y * 4294967296 = ((y.toNat * 4294967296 : Nat) : Int) := by omega
  obtain ⟨a, rfl⟩ := Int.eq_ofNat_of_zero_le hx0
  rw [e1] at h1 ⊢
  rw [(bits_nat .u64 64 (by decide) hw _ a (by omega) (by omega)).2] at h1
  rw [(bits_nat .u64 64 (by decide) hw a _ (by omega) (by omega)).2, Nat.or_comm, h1]
  omega
/-- One word of what is shifted down. -/
theorem down_word {i : Nat} (hi : i < 32) {x y d2 : Int} : (x + y * 4294967296) / 2 ^ i % 4294967296 = (x + 4294967296 * (y + 4294967296 * d2)) / 2 ^ i % 4294967296 := by
  obtain ⟨q, hq0, hq⟩ := two_pow_dvd (i := i) (by omega)
  have hp := two_pow_pos i
  generalize (2 : Int) ^ i = p at *
  have e : x + 4294967296 * (y + 4294967296 * d2) = (x + y * 4294967296) + p * (4294967296 * (q * d2)) := by grind
  rw [e, Int.add_mul_ediv_left _ _ (by omega), Int.add_mul_emod_self_left]
theorem down_rest {i : Nat} {x d : Int} (h0 : 0 ≤ x) (h1 : x < 4294967296) : (x + 4294967296 * d) / 2 ^ i / 4294967296 = d / 2 ^ i := by
  have hp := two_pow_pos i
  generalize (2 : Int) ^ i = p at *
  rw [Int.ediv_ediv_of_nonneg (by omega), Int.mul_comm p, ← Int.ediv_ediv_of_nonneg (by omega)]
  congr 1
  omega
theorem down_step {vq pk D lo D2 t : Int} (h : vq + pk * D = t) (hlo : lo = D % 4294967296) (hD : D / 4294967296 = D2) : vq + pk * lo + 4294967296 * pk * D2 = t := by
  have e : D = lo + 4294967296 * D2 := by omega
  rw [e] at h
  grind

set_option maxHeartbeats 1000000 in
theorem twos_Down (ok : Nat → Prop) (A : Option Addr) (cA : Nat) (l : List Int) (s : Int) (i : Nat) (w : World) (h : Rd ok w A l) (hc : l.length ≤ cA) (hbig : l.length < 100000000000) (hi : i < 32) (hs : s = (i : Int)) :
    Calls Tryz.prog 178 #[.slice A l.length cA, .int .i64 s] w fun e w' => ∃ A1 c1, e = .returned (.slice A1 (rep (val l / 2 ^ i)).length c1) ∧ (rep (val l / 2 ^ i)).length ≤ c1 ∧ Rd (fun k => w.heap.size ≤ k) w' A1 (rep (val l / 2 ^ i)) ∧ Below w.heap.size w w' := by
  subst hs
  have hq : (i : Int) / 32 = 0 := by omega
  have hq2 : (i : Int) % 32 = (i : Int) := by omega
  by_cases hn : l = []
  · subst hn
    have HE : Asd (rep (val [] / 2 ^ i) = []) := ⟨by rw [val_nil, Int.zero_ediv, rep_zero]⟩
    go_enter Tryz.func178, Tryz.ntmps178
    go_wp2
    go_ret
    rw [HE.out]
    exact ⟨none, 0, rfl, Nat.le_refl _, Rd.nil _ _ _, Below.refl _ _⟩
  have hpos : 0 < l.length := List.length_pos_iff.2 hn
  have hd0 : decide (l = []) = false := decide_eq_false hn
  clear hn
  obtain ⟨hmk, how⟩ := make_u32 w l.length (by omega)
  have HOW := Asd.mk how
  clear how
  have hr := (h.mono (ok' := fun k => k < w.heap.size) (fun k hk _ => hk)).alloc (.cells (madeCells #[.int .u32 0] l.length) 125)
  have hb0 : Below w.heap.size w (w.alloc (.cells (madeCells #[.int .u32 0] l.length) 125)) := (Below.refl _ _).alloc (Nat.le_refl _) _
  have HSZ : Asd (w.heap.size < (w.alloc (.cells (madeCells #[.int .u32 0] l.length) 125)).heap.size) := ⟨by simp⟩
  have hmin : min i 64 = i := by omega
  clear h
  go_enter Tryz.func178, Tryz.ntmps178
  go_wp2
  generalize w.alloc (.cells (madeCells #[.int .u32 0] l.length) 125) = w0 at *
  clear hmk
  go_loopw [27] (fun v wr => ∃ (k : Nat) (q : List Int), k ≤ l.length ∧ v = .int .i64 k ∧ Asd (Ow wr w.heap.size l.length q) ∧ Asd (q.length = l.length) ∧ Asd (val (q.take k) + pw k * (val (l.drop k) / 2 ^ i) = val l / 2 ^ i) ∧ Asd (w0.grownBy wr (some w.heap.size))) (fun v _ => l.length - (intOf v).toNat)
  case atStart => exact ⟨0, _, Nat.zero_le _, rfl, HOW, ⟨by simp⟩, ⟨by simp [val, pw_zero]⟩, ⟨grown_refl _ _⟩⟩
  case round =>
    obtain ⟨k, q, hk, rfl, HO, HOL, HV, HG⟩ := hrel
    have hcap := HO.out.lt
    by_cases hlt : k < l.length
    · have r1 := hr.grown HG.out (Nat.lt_irrefl _)
      obtain ⟨ad, x, rfl, ho, hcell, hx0, hx1, HX⟩ := r1.el k hlt
      obtain ⟨z, hz, hz0, hz1, HZ⟩ := HO.out.el k (by have := HOL.out; omega)
      have hfr := HO.out.free k
      by_cases hlt2 : k + 1 < l.length
      · obtain ⟨y, hcy, hy0, hy1, HY⟩ : ∃ y : Int, wr.cell? ⟨ad.block, ad.off + (k + 1), none⟩ = some (.int .u32 y) ∧ 0 ≤ y ∧ y < 4294967296 ∧ Asd (l.getD (k + 1) 0 = y) := ⟨_, r1.cell (k + 1) hlt2, (r1.wd.getD _).1, (r1.wd.getD _).2, ⟨rfl⟩⟩
        have hor := or_u64 hx0 hx1 hy0 hy1
        have HN : Asd (Ow (wr.setCell ⟨w.heap.size, k, none⟩ (.int .u32 ((x + y * 4294967296) / 2 ^ i % 4294967296))) w.heap.size l.length (q.set k ((x + y * 4294967296) / 2 ^ i % 4294967296))) := ⟨HO.out.set k (by omega) (by omega)⟩
        clear r1
        go_wp2
        go_roundw
        case rel =>
          refine ⟨k + 1, _, hlt, by go_num, HN, ⟨by rw [List.length_set]; exact HOL.out⟩, ⟨?_⟩, ⟨grown_trans HG.out (HO.out.2.2.stored _ _).2⟩⟩
          have hl := HOL.out
          have hv := HV.out
          rw [val_take_set _ _ _ (by omega), pw_succ]
          refine down_step hv ?_ ?_
          · rw [val_drop l k hlt, val_drop l (k + 1) hlt2, HX.out, HY.out]
            exact down_word hi
          · rw [val_drop l k hlt, HX.out]
            exact down_rest hx0 hx1
        case measure => simp [intOf]; omega
      · have HN : Asd (Ow (wr.setCell ⟨w.heap.size, k, none⟩ (.int .u32 (x / 2 ^ i % 4294967296))) w.heap.size l.length (q.set k (x / 2 ^ i % 4294967296))) := ⟨HO.out.set k (by omega) (by omega)⟩
        clear r1
        go_wp2
        go_roundw
        case rel =>
          refine ⟨k + 1, _, hlt, by go_num, HN, ⟨by rw [List.length_set]; exact HOL.out⟩, ⟨?_⟩, ⟨grown_trans HG.out (HO.out.2.2.stored _ _).2⟩⟩
          have hl := HOL.out
          have hv := HV.out
          rw [val_take_set _ _ _ (by omega), pw_succ]
          refine down_step hv ?_ ?_
          · rw [val_drop l k hlt, val_drop_zero l (k + 1) (by omega), HX.out]
            simp
          · rw [val_drop l k hlt, HX.out]
            exact down_rest hx0 hx1
        case measure => simp [intOf]; omega
    · have hkl : k = l.length := by omega
      subst hkl
      have HV2 : Asd (val q = val l / 2 ^ i) := ⟨by
        have hl := HOL.out
        have hv := HV.out
        rw [val_drop_zero l _ (Nat.le_refl _), List.take_of_length_le (by omega)] at hv
        rw [← hv]; simp⟩
      have hb1 : Below w.heap.size w wr := hb0.grown HG.out (by have := HSZ.out; omega) (fun k hk => by injection hk with hk; omega)
      have hsz := hb1.size
      go_wp2_with fail
      have hq := nat_Norm (fun k => k = w.heap.size) (some ⟨w.heap.size, 0, none⟩) l.length q wr (HO.out.rd rfl) (by rw [HOL.out]; omega)
      rw [HV2.out, HOL.out] at hq
      (with_reducible refine hq.mono ?_)
      rintro e w2 ⟨g, rfl, how2, hg2, hb2⟩
      clear hq
      go_wp2
      go_ret
      exact ⟨_, _, rfl, Nat.le_refl _, how2.rd (by omega), hb1.trans (hb2.mono hsz)⟩
end Go.Proofs.YthjpkichpkomcaaGreatDoor
