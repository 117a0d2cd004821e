/- The document's answer for layer 2: differences (retrospectref02.Sub). -/
import Derived.Test.YthjpkichpkomcaaDoorRef02c
import Derived.Outline
import Derived.WalkLawsBesides
namespace Go.Proofs.YthjpkichpkomcaaDoor
open Go.RowKit Go.Proofs.YthjpkichpkomcaaDoor.Big
set_option linter.unusedVariables false
set_option maxRecDepth 100000

theorem rsub_carry {a b p s x y v o : Int} (h : v = a - b + p * s) : v + p * (x + 4294967296 * o - (y + s)) = a + p * x - (b + p * y) + p * 4294967296 * o := by
  rw [Int.mul_sub, Int.mul_add, Int.mul_add, Int.mul_assoc p 4294967296 o]; omega
theorem rsub_end {n : Nat} {v s a b : Int} (h : v = a - b + pw n * s) (hv : v < pw n) (hs0 : 0 ≤ s) (hs : s ≤ 1) (hg : b ≤ a) : v = a - b := by
  rcases (by omega : s = 0 ∨ s = 1) with h3 | h3
  · rw [h3, Int.mul_zero] at h; omega
  · rw [h3, Int.mul_one] at h; omega

set_option maxHeartbeats 4000000 in
theorem ref02_Sub (ok ok' : Nat → Prop) (A A' : Option Addr) (c c' : Nat) (l l' : List Int) (w : World) (h : Rd ok w A l) (hc : l.length ≤ c) (h' : Rd ok' w A' l') (hc' : l'.length ≤ c') (hbig : l.length < 1000000000) (hbig' : l'.length < 1000000000) (hge : val l' ≤ val l) :
    Calls Tryd.prog 46 #[.slice A l.length c, .slice A' l'.length c'] w fun e w' => ∃ A1 c1, e = .returned (.slice A1 (rep (val l - val l')).length c1) ∧ (rep (val l - val l')).length ≤ c1 ∧ Rd (fun k => w.heap.size ≤ k) w' A1 (rep (val l - val l')) ∧ Below w.heap.size w w' := by
  have HG := Asd.mk hge
  clear hge
  obtain ⟨n, hm⟩ : ∃ n : Nat, n = max l.length l'.length := ⟨_, rfl⟩
  obtain ⟨hmk, how⟩ := make_u32 w n (by omega)
  have hr := (h.mono (ok' := fun k => k < w.heap.size) (fun k hk _ => hk)).alloc (.cells (madeCells #[.int .u32 0] n) 84)
  have hr' := (h'.mono (ok' := fun k => k < w.heap.size) (fun k hk _ => hk)).alloc (.cells (madeCells #[.int .u32 0] n) 84)
  have hb0 : Below w.heap.size w (w.alloc (.cells (madeCells #[.int .u32 0] n) 84)) := (Below.refl _ _).alloc (Nat.le_refl _) _
  have HOW := Asd.mk how
  have HR := Asd.mk hr; have HR' := Asd.mk hr'; have HB0 := Asd.mk hb0
  clear how hr hr' hb0 h h'
  have hnb : n < 1000000000 := by omega
  by_cases hle : l'.length ≤ l.length
  · have hnl : n = l.length := by omega
    clear hm
    subst hnl
    have hng : ¬ ((l.length : Int) < (l'.length : Int)) := by omega
    go_enter Tryd.func46, Tryd.ntmps46
    go_wp2
    go_loopw [7, 8] (fun v i wr => ∃ (k : Nat) (t : Int) (q : List Int), k ≤ l.length ∧ i = .int .i64 k ∧ v = .int .u64 t ∧ 0 ≤ t ∧ t ≤ 1 ∧ Asd (Ow wr w.heap.size l.length q) ∧ Asd (q.length = l.length) ∧ Asd (val (q.take k) = val (l.take k) - val (l'.take k) + pw k * t) ∧ Asd (Rd (fun k => k < w.heap.size) wr A l) ∧ Asd (Rd (fun k => k < w.heap.size) wr A' l') ∧ Asd (Below w.heap.size w wr)) (fun _ i _ => l.length - (intOf i).toNat)
    case atStart => exact ⟨0, 0, _, Nat.zero_le _, rfl, rfl, by omega, by omega, HOW, ⟨by simp⟩, ⟨by simp [val]⟩, HR, HR', HB0⟩
    case round =>
      obtain ⟨k, t, q, hk, rfl, rfl, ht0, ht1, HO, HOL, HV, HX, HY, HBW⟩ := hrel
      by_cases hlt : k < l.length
      · have hx := HX.out.wd.getD k
        have hy := HY.out.wd.getD k
        have hp1 := ref02_At _ A c l k wr HX.out
        have hp2 := ref02_At _ A' c' l' k wr HY.out
        have hST := fun x y o => @rsub_carry (val (l.take k)) (val (l'.take k)) (pw k) t x y (val (q.take k)) o HV.out
        have HVS := Asd.mk (And.intro (rval_take_more l k) (rval_take_more l' k))
        generalize hxe : l.getD k 0 = x at *
        generalize hye : l'.getD k 0 = y at *
        have HST := Asd.mk (hST x y)
        clear hST hxe hye
        have HP1 := Asd.mk hp1; have HP2 := Asd.mk hp2
        clear hp1 hp2
        obtain ⟨z, hz, hz0, hz1, HZ2⟩ := HO.out.el k (by have := HOL.out; omega)
        have hfr := HO.out.free k
        by_cases hxy : x < y + t
        · have hd2 : decide (x < y + t) = true := decide_eq_true hxy
          have hw3 : IntKind.u32.wrap (x + 4294967296 - (y + t)) = x + 4294967296 - (y + t) := by rw [IntKind.wrap_u32]; omega
          go_wp2_with fail
          refine HP1.out.mono ?_
          rintro e w1 ⟨rfl, rfl⟩
          go_wp2_with fail
          refine HP2.out.mono ?_
          rintro e w1 ⟨rfl, rfl⟩
          go_wp2
          go_roundw
          case rel =>
            refine ⟨k + 1, 1, q.set k (x + 4294967296 - (y + t)), by omega, by go_num, rfl, by omega, by omega, ⟨HO.out.set _ (by omega) (by omega)⟩, ⟨by rw [List.length_set]; exact HOL.out⟩, ⟨?_⟩, ⟨HX.out.setCell (by simp) _⟩, ⟨HY.out.setCell (by simp) _⟩, ⟨HBW.out.setCell (by simp) _⟩⟩
            rw [val_set_take q k _ (by have := HOL.out; omega), HVS.out.1, HVS.out.2, pw_succ, Int.mul_comm 4294967296 (pw k)]
            have h1 := HST.out 1
            rw [Int.mul_one] at h1
            exact h1
          case measure => simp [intOf]; omega
        · have hd2 : decide (x < y + t) = false := decide_eq_false hxy
          have hw3 : IntKind.u32.wrap (x - (y + t)) = x - (y + t) := by rw [IntKind.wrap_u32]; omega
          go_wp2_with fail
          refine HP1.out.mono ?_
          rintro e w1 ⟨rfl, rfl⟩
          go_wp2_with fail
          refine HP2.out.mono ?_
          rintro e w1 ⟨rfl, rfl⟩
          go_wp2
          go_roundw
          case rel =>
            refine ⟨k + 1, 0, q.set k (x - (y + t)), by omega, by go_num, rfl, by omega, by omega, ⟨HO.out.set _ (by omega) (by omega)⟩, ⟨by rw [List.length_set]; exact HOL.out⟩, ⟨?_⟩, ⟨HX.out.setCell (by simp) _⟩, ⟨HY.out.setCell (by simp) _⟩, ⟨HBW.out.setCell (by simp) _⟩⟩
            rw [val_set_take q k _ (by have := HOL.out; omega), HVS.out.1, HVS.out.2, pw_succ, Int.mul_comm 4294967296 (pw k)]
            have h1 := HST.out 0
            rw [Int.mul_zero, Int.add_zero] at h1
            exact h1
          case measure => simp [intOf]; omega
      · have hkl : k = l.length := by omega
        subst hkl
        have HE : Asd (val q = val l - val l') := ⟨by
          have h1 := HV.out
          rw [List.take_of_length_le (by have := HOL.out; omega), List.take_of_length_le (by omega), List.take_of_length_le (by omega)] at h1
          have h2 := val_lt HO.out.wd
          rw [HOL.out] at h2
          exact rsub_end h1 h2 ht0 ht1 HG.out⟩
        have hN := ref02_Norm (fun k => True) (some ⟨w.heap.size, 0, none⟩) l.length q wr (HO.out.rd trivial) (by have := HOL.out; omega) (by have := HOL.out; omega)
        rw [HE.out, HOL.out] at hN
        have HN := Asd.mk hN
        clear hN HO HX HY HV
        go_wp2_with fail
        refine HN.out.mono ?_
        rintro e w1 ⟨A1, c1, rfl, hc1, hr1, hb1⟩
        have hbs := HBW.out.size
        go_wp2
        go_ret
        exact ⟨_, _, rfl, hc1, hr1.mono (fun k _ hk => Nat.le_trans hbs hk), below_go HBW.out hb1⟩
  · have hnl : n = l'.length := by omega
    clear hm
    subst hnl
    have hng : ¬ ((l'.length : Int) ≤ (l.length : Int)) := by omega
    go_enter Tryd.func46, Tryd.ntmps46
    go_wp2
    go_loopw [7, 8] (fun v i wr => ∃ (k : Nat) (t : Int) (q : List Int), k ≤ l'.length ∧ i = .int .i64 k ∧ v = .int .u64 t ∧ 0 ≤ t ∧ t ≤ 1 ∧ Asd (Ow wr w.heap.size l'.length q) ∧ Asd (q.length = l'.length) ∧ Asd (val (q.take k) = val (l.take k) - val (l'.take k) + pw k * t) ∧ Asd (Rd (fun k => k < w.heap.size) wr A l) ∧ Asd (Rd (fun k => k < w.heap.size) wr A' l') ∧ Asd (Below w.heap.size w wr)) (fun _ i _ => l'.length - (intOf i).toNat)
    case atStart => exact ⟨0, 0, _, Nat.zero_le _, rfl, rfl, by omega, by omega, HOW, ⟨by simp⟩, ⟨by simp [val]⟩, HR, HR', HB0⟩
    case round =>
      obtain ⟨k, t, q, hk, rfl, rfl, ht0, ht1, HO, HOL, HV, HX, HY, HBW⟩ := hrel
      by_cases hlt : k < l'.length
      · have hx := HX.out.wd.getD k
        have hy := HY.out.wd.getD k
        have hp1 := ref02_At _ A c l k wr HX.out
        have hp2 := ref02_At _ A' c' l' k wr HY.out
        have hST := fun x y o => @rsub_carry (val (l.take k)) (val (l'.take k)) (pw k) t x y (val (q.take k)) o HV.out
        have HVS := Asd.mk (And.intro (rval_take_more l k) (rval_take_more l' k))
        generalize hxe : l.getD k 0 = x at *
        generalize hye : l'.getD k 0 = y at *
        have HST := Asd.mk (hST x y)
        clear hST hxe hye
        have HP1 := Asd.mk hp1; have HP2 := Asd.mk hp2
        clear hp1 hp2
        obtain ⟨z, hz, hz0, hz1, HZ2⟩ := HO.out.el k (by have := HOL.out; omega)
        have hfr := HO.out.free k
        by_cases hxy : x < y + t
        · have hd2 : decide (x < y + t) = true := decide_eq_true hxy
          have hw3 : IntKind.u32.wrap (x + 4294967296 - (y + t)) = x + 4294967296 - (y + t) := by rw [IntKind.wrap_u32]; omega
          go_wp2_with fail
          refine HP1.out.mono ?_
          rintro e w1 ⟨rfl, rfl⟩
          go_wp2_with fail
          refine HP2.out.mono ?_
          rintro e w1 ⟨rfl, rfl⟩
          go_wp2
          go_roundw
          case rel =>
            refine ⟨k + 1, 1, q.set k (x + 4294967296 - (y + t)), by omega, by go_num, rfl, by omega, by omega, ⟨HO.out.set _ (by omega) (by omega)⟩, ⟨by rw [List.length_set]; exact HOL.out⟩, ⟨?_⟩, ⟨HX.out.setCell (by simp) _⟩, ⟨HY.out.setCell (by simp) _⟩, ⟨HBW.out.setCell (by simp) _⟩⟩
            rw [val_set_take q k _ (by have := HOL.out; omega), HVS.out.1, HVS.out.2, pw_succ, Int.mul_comm 4294967296 (pw k)]
            have h1 := HST.out 1
            rw [Int.mul_one] at h1
            exact h1
          case measure => simp [intOf]; omega
        · have hd2 : decide (x < y + t) = false := decide_eq_false hxy
          have hw3 : IntKind.u32.wrap (x - (y + t)) = x - (y + t) := by rw [IntKind.wrap_u32]; omega
          go_wp2_with fail
          refine HP1.out.mono ?_
          rintro e w1 ⟨rfl, rfl⟩
          go_wp2_with fail
          refine HP2.out.mono ?_
          rintro e w1 ⟨rfl, rfl⟩
          go_wp2
          go_roundw
          case rel =>
            refine ⟨k + 1, 0, q.set k (x - (y + t)), by omega, by go_num, rfl, by omega, by omega, ⟨HO.out.set _ (by omega) (by omega)⟩, ⟨by rw [List.length_set]; exact HOL.out⟩, ⟨?_⟩, ⟨HX.out.setCell (by simp) _⟩, ⟨HY.out.setCell (by simp) _⟩, ⟨HBW.out.setCell (by simp) _⟩⟩
            rw [val_set_take q k _ (by have := HOL.out; omega), HVS.out.1, HVS.out.2, pw_succ, Int.mul_comm 4294967296 (pw k)]
            have h1 := HST.out 0
            rw [Int.mul_zero, Int.add_zero] at h1
            exact h1
          case measure => simp [intOf]; omega
      · have hkl : k = l'.length := by omega
        subst hkl
        have HE : Asd (val q = val l - val l') := ⟨by
          have h1 := HV.out
          rw [List.take_of_length_le (by have := HOL.out; omega), List.take_of_length_le (by omega), List.take_of_length_le (by omega)] at h1
          have h2 := val_lt HO.out.wd
          rw [HOL.out] at h2
          exact rsub_end h1 h2 ht0 ht1 HG.out⟩
        have hN := ref02_Norm (fun k => True) (some ⟨w.heap.size, 0, none⟩) l'.length q wr (HO.out.rd trivial) (by have := HOL.out; omega) (by have := HOL.out; omega)
        rw [HE.out, HOL.out] at hN
        have HN := Asd.mk hN
        clear hN HO HX HY HV
        go_wp2_with fail
        refine HN.out.mono ?_
        rintro e w1 ⟨A1, c1, rfl, hc1, hr1, hb1⟩
        have hbs := HBW.out.size
        go_wp2
        go_ret
        exact ⟨_, _, rfl, hc1, hr1.mono (fun k _ hk => Nat.le_trans hbs hk), below_go HBW.out hb1⟩
end Go.Proofs.YthjpkichpkomcaaDoor
