/- The document's answer for layer 2: sums (retrospectref02.Add). -/
import Derived.Test.YthjpkichpkomcaaDoorRef02b
import Derived.Outline
import Derived.WalkLawsBesides
namespace Go.Proofs.YthjpkichpkomcaaDoor
open Go.RowKit Go.Proofs.YthjpkichpkomcaaDoor.Big
set_option linter.unusedVariables false
set_option maxRecDepth 100000

theorem rval_take_more (l : List Int) (k : Nat) : val (l.take (k + 1)) = val (l.take k) + pw k * l.getD k 0 := by
  rcases Nat.lt_or_ge k l.length with h | h
  · exact val_take_succ l k h
  · rw [List.take_of_length_le (by omega), List.take_of_length_le h, List.getD_eq_getElem?_getD, List.getElem?_eq_none h]; simp
theorem take_set_succ (q : List Int) (k : Nat) (x : Int) (h : k < q.length) : (q.set k x).take (k + 1) = q.take k ++ [x] := by
  rw [take_snoc _ k (by simpa using h)]
  congr 1
  · rw [List.take_set_of_le (Nat.le_refl k)]
  · simp [h]
theorem val_set_take (q : List Int) (k : Nat) (x : Int) (h : k < q.length) : val ((q.set k x).take (k + 1)) = val (q.take k) + pw k * x := by
  rw [take_set_succ q k x h, val_snoc, List.length_take, Nat.min_eq_left (by omega)]
theorem radd_carry {a b p s x y v t : Int} (h : v + p * s = a + b) (ht : t = s + (x + y)) : v + p * (t % 4294967296) + p * 4294967296 * (t / 4294967296) = a + p * x + (b + p * y) := by
  have e := Int.mul_ediv_add_emod t 4294967296
  have e2 : p * t = p * (4294967296 * (t / 4294967296) + t % 4294967296) := by rw [e]
  rw [Int.mul_add] at e2
  have e3 : p * 4294967296 * (t / 4294967296) = p * (4294967296 * (t / 4294967296)) := Int.mul_assoc _ _ _
  have e4 : p * t = p * s + (p * x + p * y) := by rw [ht, Int.mul_add, Int.mul_add]
  omega
theorem radd_end {n : Nat} {v s a b : Int} (h : v + pw n * s = a + b) (hv : 0 ≤ v) (hs0 : 0 ≤ s) (hs : s ≤ 1) {m : Nat} (hn : n = m + 1) (ha : a < pw m) (hb : b < pw m) : v = a + b := by
  have h1 := pw_pos m
  have h2 : pw n = 4294967296 * pw m := by rw [hn, pw_succ]
  rcases (by omega : s = 0 ∨ s = 1) with h3 | h3
  · rw [h3] at h; omega
  · rw [h3, h2] at h; omega

set_option maxHeartbeats 2000000 in
theorem ref02_Add (ok ok' : Nat → Prop) (A A' : Option Addr) (c c' : Nat) (l l' : List Int) (w : World) (h : Rd ok w A l) (hc : l.length ≤ c) (h' : Rd ok' w A' l') (hc' : l'.length ≤ c') (hbig : l.length < 1000000000) (hbig' : l'.length < 1000000000) :
    Calls Tryd.prog 44 #[.slice A l.length c, .slice A' l'.length c'] w fun e w' => ∃ A1 c1, e = .returned (.slice A1 (rep (val l + val l')).length c1) ∧ (rep (val l + val l')).length ≤ c1 ∧ Rd (fun k => w.heap.size ≤ k) w' A1 (rep (val l + val l')) ∧ Below w.heap.size w w' := by
  obtain ⟨n, hm⟩ : ∃ n : Nat, n = max l.length l'.length := ⟨_, rfl⟩
  obtain ⟨hmk, how⟩ := make_u32 w (n + 1) (by omega)
  rw [show ((n + 1 : Nat) : Int) = (n : Int) + 1 by omega] at hmk
  have hr := (h.mono (ok' := fun k => k < w.heap.size) (fun k hk _ => hk)).alloc (.cells (madeCells #[.int .u32 0] (n + 1)) 84)
  have hr' := (h'.mono (ok' := fun k => k < w.heap.size) (fun k hk _ => hk)).alloc (.cells (madeCells #[.int .u32 0] (n + 1)) 84)
  have hb0 : Below w.heap.size w (w.alloc (.cells (madeCells #[.int .u32 0] (n + 1)) 84)) := (Below.refl _ _).alloc (Nat.le_refl _) _
  have HOW := Asd.mk how
  have HR := Asd.mk hr; have HR' := Asd.mk hr'; have HB0 := Asd.mk hb0
  have ha := val_lt h.wd; have hb := val_lt h'.wd
  have HA := Asd.mk (Int.lt_of_lt_of_le ha (pw_mono (show l.length ≤ n by omega)))
  have HB := Asd.mk (Int.lt_of_lt_of_le hb (pw_mono (show l'.length ≤ n by omega)))
  have HNN := Asd.mk (And.intro (val_nonneg h.wd) (val_nonneg h'.wd))
  clear how hr hr' hb0 h h' ha hb
  have hnb : n < 1000000000 := by omega
  by_cases hle : l'.length ≤ l.length
  · have hnl : n = l.length := by omega
    clear hm
    subst hnl
    have hng : ¬ ((l.length : Int) < (l'.length : Int)) := by omega
    go_enter Tryd.func44, Tryd.ntmps44
    go_wp2
    go_loopw [7, 8] (fun v i wr => ∃ (k : Nat) (t : Int) (q : List Int), k ≤ l.length + 1 ∧ i = .int .i64 k ∧ v = .int .u64 t ∧ 0 ≤ t ∧ t ≤ 1 ∧ Asd (Ow wr w.heap.size (l.length + 1) q) ∧ Asd (q.length = l.length + 1) ∧ Asd (val (q.take k) + pw k * t = val (l.take k) + val (l'.take k)) ∧ Asd (Rd (fun k => k < w.heap.size) wr A l) ∧ Asd (Rd (fun k => k < w.heap.size) wr A' l') ∧ Asd (Below w.heap.size w wr)) (fun _ i _ => l.length + 1 - (intOf i).toNat)
    case atStart => exact ⟨0, 0, _, Nat.zero_le _, rfl, rfl, by omega, by omega, HOW, ⟨by simp⟩, ⟨by simp [val]⟩, HR, HR', HB0⟩
    case round =>
      obtain ⟨k, t, q, hk, rfl, rfl, ht0, ht1, HO, HOL, HV, HX, HY, HBW⟩ := hrel
      by_cases hlt : k < l.length + 1
      · have hx := HX.out.wd.getD k
        have hy := HY.out.wd.getD k
        have hp1 := ref02_At _ A c l k wr HX.out
        have hp2 := ref02_At _ A' c' l' k wr HY.out
        have hST := fun x y v => @radd_carry (val (l.take k)) (val (l'.take k)) (pw k) t x y v (t + (x + y)) 
        have HVS := Asd.mk (And.intro (rval_take_more l k) (rval_take_more l' k))
        generalize hxe : l.getD k 0 = x at *
        generalize hye : l'.getD k 0 = y at *
        have HST := Asd.mk (hST x y (val (q.take k)) HV.out rfl)
        clear hST hxe hye
        have HP1 := Asd.mk hp1; have HP2 := Asd.mk hp2
        clear hp1 hp2
        have hd : decide ((k : Int) < (l.length : Int) + 1) = true := decide_eq_true (by omega)
        obtain ⟨z, hz, hz0, hz1, HZ2⟩ := HO.out.el k (by have := HOL.out; omega)
        have hfr := HO.out.free k
        have hlo0 := Int.emod_nonneg (t + (x + y)) (show (4294967296 : Int) ≠ 0 by decide)
        have hlo1 := Int.emod_lt_of_pos (t + (x + y)) (show (0 : Int) < 4294967296 by decide)
        have hw3 : IntKind.u32.wrap ((t + (x + y)) % 4294967296) = (t + (x + y)) % 4294967296 := by rw [IntKind.wrap_u32]; omega
        go_wp2_with fail
        refine HP1.out.mono ?_
        rintro e w1 ⟨rfl, rfl⟩
        go_wp2_with fail
        refine HP2.out.mono ?_
        rintro e w1 ⟨rfl, rfl⟩
        go_wp2
        go_roundw
        case rel =>
          refine ⟨k + 1, (t + (x + y)) / 4294967296, q.set k ((t + (x + y)) % 4294967296), by omega, by go_num, rfl, by omega, by omega, ⟨HO.out.set _ hlo0 hlo1⟩, ⟨by rw [List.length_set]; exact HOL.out⟩, ⟨?_⟩, ⟨HX.out.setCell (by simp) _⟩, ⟨HY.out.setCell (by simp) _⟩, ⟨HBW.out.setCell (by simp) _⟩⟩
          rw [val_set_take q k _ (by have := HOL.out; omega), HVS.out.1, HVS.out.2, pw_succ, Int.mul_comm 4294967296 (pw k)]
          exact HST.out
        case measure => simp [intOf]; omega
      · have hkl : k = l.length + 1 := by omega
        subst hkl
        have hd : decide (((l.length + 1 : Nat) : Int) < (l.length : Int) + 1) = false := decide_eq_false (by omega)
        have HE : Asd (val q = val l + val l') := ⟨by
          have h1 := HV.out
          rw [List.take_of_length_le (by have := HOL.out; omega), List.take_of_length_le (by omega), List.take_of_length_le (by omega)] at h1
          exact radd_end h1 (val_nonneg HO.out.wd) ht0 ht1 rfl HA.out HB.out⟩
        have hN := ref02_Norm (fun k => True) (some ⟨w.heap.size, 0, none⟩) (l.length + 1) q wr (HO.out.rd trivial) (by have := HOL.out; omega) (by have := HOL.out; omega)
        rw [HE.out, HOL.out] at hN
        have HN := Asd.mk hN
        clear hN HO HX HY HV
        go_wp2_with fail
        refine HN.out.mono ?_
        rintro e w1 ⟨A1, c1, rfl, hc1, hr1, hb1⟩
        have hbs := HBW.out.size
        go_wp2
        go_ret
        exact ⟨_, _, rfl, hc1, hr1.mono (fun k _ hk => Nat.le_trans hbs hk), below_go HBW.out hb1⟩
  · have hnl : n = l'.length := by omega
    clear hm
    subst hnl
    have hng : ¬ ((l'.length : Int) ≤ (l.length : Int)) := by omega
    go_enter Tryd.func44, Tryd.ntmps44
    go_wp2
    go_loopw [7, 8] (fun v i wr => ∃ (k : Nat) (t : Int) (q : List Int), k ≤ l'.length + 1 ∧ i = .int .i64 k ∧ v = .int .u64 t ∧ 0 ≤ t ∧ t ≤ 1 ∧ Asd (Ow wr w.heap.size (l'.length + 1) q) ∧ Asd (q.length = l'.length + 1) ∧ Asd (val (q.take k) + pw k * t = val (l.take k) + val (l'.take k)) ∧ Asd (Rd (fun k => k < w.heap.size) wr A l) ∧ Asd (Rd (fun k => k < w.heap.size) wr A' l') ∧ Asd (Below w.heap.size w wr)) (fun _ i _ => l'.length + 1 - (intOf i).toNat)
    case atStart => exact ⟨0, 0, _, Nat.zero_le _, rfl, rfl, by omega, by omega, HOW, ⟨by simp⟩, ⟨by simp [val]⟩, HR, HR', HB0⟩
    case round =>
      obtain ⟨k, t, q, hk, rfl, rfl, ht0, ht1, HO, HOL, HV, HX, HY, HBW⟩ := hrel
      by_cases hlt : k < l'.length + 1
      · have hx := HX.out.wd.getD k
        have hy := HY.out.wd.getD k
        have hp1 := ref02_At _ A c l k wr HX.out
        have hp2 := ref02_At _ A' c' l' k wr HY.out
        have hST := fun x y v => @radd_carry (val (l.take k)) (val (l'.take k)) (pw k) t x y v (t + (x + y)) 
        have HVS := Asd.mk (And.intro (rval_take_more l k) (rval_take_more l' k))
        generalize hxe : l.getD k 0 = x at *
        generalize hye : l'.getD k 0 = y at *
        have HST := Asd.mk (hST x y (val (q.take k)) HV.out rfl)
        clear hST hxe hye
        have HP1 := Asd.mk hp1; have HP2 := Asd.mk hp2
        clear hp1 hp2
        have hd : decide ((k : Int) < (l'.length : Int) + 1) = true := decide_eq_true (by omega)
        obtain ⟨z, hz, hz0, hz1, HZ2⟩ := HO.out.el k (by have := HOL.out; omega)
        have hfr := HO.out.free k
        have hlo0 := Int.emod_nonneg (t + (x + y)) (show (4294967296 : Int) ≠ 0 by decide)
        have hlo1 := Int.emod_lt_of_pos (t + (x + y)) (show (0 : Int) < 4294967296 by decide)
        have hw3 : IntKind.u32.wrap ((t + (x + y)) % 4294967296) = (t + (x + y)) % 4294967296 := by rw [IntKind.wrap_u32]; omega
        go_wp2_with fail
        refine HP1.out.mono ?_
        rintro e w1 ⟨rfl, rfl⟩
        go_wp2_with fail
        refine HP2.out.mono ?_
        rintro e w1 ⟨rfl, rfl⟩
        go_wp2
        go_roundw
        case rel =>
          refine ⟨k + 1, (t + (x + y)) / 4294967296, q.set k ((t + (x + y)) % 4294967296), by omega, by go_num, rfl, by omega, by omega, ⟨HO.out.set _ hlo0 hlo1⟩, ⟨by rw [List.length_set]; exact HOL.out⟩, ⟨?_⟩, ⟨HX.out.setCell (by simp) _⟩, ⟨HY.out.setCell (by simp) _⟩, ⟨HBW.out.setCell (by simp) _⟩⟩
          rw [val_set_take q k _ (by have := HOL.out; omega), HVS.out.1, HVS.out.2, pw_succ, Int.mul_comm 4294967296 (pw k)]
          exact HST.out
        case measure => simp [intOf]; omega
      · have hkl : k = l'.length + 1 := by omega
        subst hkl
        have hd : decide (((l'.length + 1 : Nat) : Int) < (l'.length : Int) + 1) = false := decide_eq_false (by omega)
        have HE : Asd (val q = val l + val l') := ⟨by
          have h1 := HV.out
          rw [List.take_of_length_le (by have := HOL.out; omega), List.take_of_length_le (by omega), List.take_of_length_le (by omega)] at h1
          exact radd_end h1 (val_nonneg HO.out.wd) ht0 ht1 rfl HA.out HB.out⟩
        have hN := ref02_Norm (fun k => True) (some ⟨w.heap.size, 0, none⟩) (l'.length + 1) q wr (HO.out.rd trivial) (by have := HOL.out; omega) (by have := HOL.out; omega)
        rw [HE.out, HOL.out] at hN
        have HN := Asd.mk hN
        clear hN HO HX HY HV
        go_wp2_with fail
        refine HN.out.mono ?_
        rintro e w1 ⟨A1, c1, rfl, hc1, hr1, hb1⟩
        have hbs := HBW.out.size
        go_wp2
        go_ret
        exact ⟨_, _, rfl, hc1, hr1.mono (fun k _ hk => Nat.le_trans hbs hk), below_go HBW.out hb1⟩
end Go.Proofs.YthjpkichpkomcaaDoor
