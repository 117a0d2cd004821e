/- PowA -/
import Derived.Test.YthjpkichpkomcaaGreatDoorBRowFigureNear4
import Derived.Test.YthjpkichpkomcaaGreatDoorBRowFigureNear5
/- Layer 4: squares of naturals (prod.Square). -/
namespace Go.Proofs.YthjpkichpkomcaaGreatDoor
open Go.RowKit Go.Proofs.YthjpkichpkomcaaGreatDoor.Big
set_option linter.unusedVariables false
set_option maxRecDepth 100000

def crossV : List Int → Int
  | [] => 0
  | x :: xs => 4294967296 * (x * val xs) + 18446744073709551616 * crossV xs
def diagV : List Int → Int
  | [] => 0
  | x :: xs => x * x + 18446744073709551616 * diagV xs
theorem sq_val : ∀ (l : List Int), val l * val l = crossV l * 2 + diagV l
  | [] => rfl
  | x :: xs => by
    have := sq_val xs
    rw [val_cons, crossV, diagV]
    grind
theorem crossV_drop (l : List Int) (k : Nat) (h : k < l.length) : crossV (l.drop k) = 4294967296 * (l.getD k 0 * val (l.drop (k + 1))) + 18446744073709551616 * crossV (l.drop (k + 1)) := by
  rw [drop_cons l k h]; rfl
theorem diagV_drop (l : List Int) (k : Nat) (h : k < l.length) : diagV (l.drop k) = l.getD k 0 * l.getD k 0 + 18446744073709551616 * diagV (l.drop (k + 1)) := by
  rw [drop_cons l k h]; rfl
theorem diagV_bd {l : List Int} (h : Wd l) : 0 ≤ diagV l := by
  induction l with
  | nil => exact Int.le_refl _
  | cons x xs ih =>
    have h1 := ih h.tail
    have h2 := Int.mul_nonneg h.head.1 h.head.1
    rw [diagV]; omega
theorem crossV_bd {l : List Int} (h : Wd l) : 0 ≤ crossV l := by
  induction l with
  | nil => exact Int.le_refl _
  | cons x xs ih =>
    have h1 := ih h.tail
    have h2 := Int.mul_nonneg h.head.1 (val_nonneg h.tail)
    rw [crossV]; omega
theorem pw_two (k : Nat) : pw (2 * (k + 1)) = pw (2 * k) * 18446744073709551616 ∧ pw (2 * k + 1) = pw (2 * k) * 4294967296 := by
  constructor
  · rw [show 2 * (k + 1) = 2 * k + 1 + 1 by omega, pw_succ, pw_succ]; omega
  · rw [pw_succ]; omega
theorem cross_step {vq cl cd cd1 p p1 p2 y v : Int} (h : vq + p * cd = cl) (hd : cd = 4294967296 * (y * v) + 18446744073709551616 * cd1) (h1 : p1 = p * 4294967296) (h2 : p2 = p * 18446744073709551616) : vq + p1 * (v * y + 0) + p2 * cd1 = cl := by
  grind
theorem diag_step {vq cl cd cd1 p p1 p2 y hi lo : Int} (h : vq + p * cd = cl) (hd : cd = y * y + 18446744073709551616 * cd1) (h1 : p1 = p * 4294967296) (h2 : p2 = p * 18446744073709551616) (hm : lo + 4294967296 * hi = y * y + 0 + 0) : vq + p1 * (hi - 0) + p * (lo - 0) + p2 * cd1 = cl := by
  grind

/-- 'a[j:]' -/
theorem from_u32 {ok : Nat → Prop} {w : World} {ad : Addr} {l : List Int} (h : Rd ok w (some ad) l) (c j : Nat) (hj : j ≤ l.length) (hc : l.length ≤ c) :
    ∃ A1 : Option Addr, (∀ W : World, (Instr.slice 22 (.slice (some ad) l.length c) (some (.int .i64 (j : Int))) none none).run Tryz.prog W = .ok (.slice A1 (l.drop j).length (c - j)) W) ∧ Rd ok w A1 (l.drop j) := by
  refine ⟨if c = j then some ad else some (ad.add j), fun W => ?_, ?_⟩
  · obtain ⟨i0, hi, _, hi1, _⟩ := info_parts info_u32
    have hel : Tryz.prog.elem 22 = 125 := by simp [Program.elem, Tryz.underlying22]
    have hu : Tryz.prog.underlying 22 = some (.slice (Tryz.prog.elem 22)) := by rw [hel]; exact Tryz.underlying22
    rw [run_slice_l W 22 (some ad) l.length c hu .i64 (j : Int) (by omega) (by omega), hel]
    simp [sizeOf, typeInfo, hi, hi1, sliced, Result.andThen, List.length_drop]
  · by_cases h1 : c = j
    · rw [if_pos h1, List.drop_of_length_le (by omega)]; exact Rd.nil _ _ _
    · rw [if_neg h1]; exact h.drop j

set_option maxHeartbeats 2000000 in
theorem prod_Square (ok : Nat → Prop) (A : Option Addr) (c : Nat) (l : List Int) (w : World) (h : Rd ok w A l) (hc : l.length ≤ c) (hbig : l.length < 1000000000) :
    Calls Tryz.prog 174 #[.slice A l.length c] w fun e w' => ∃ A1 c1, e = .returned (.slice A1 (rep (val l * val l)).length c1) ∧ (rep (val l * val l)).length ≤ c1 ∧ Rd (fun k => w.heap.size ≤ k) w' A1 (rep (val l * val l)) ∧ Below w.heap.size w w' := by
  obtain ⟨hmk, how⟩ := make_u32 w (2 * l.length + 1) (by omega)
  rw [show ((2 * l.length + 1 : Nat) : Int) = 2 * (l.length : Int) + 1 from by omega] at hmk
  have HOW := Asd.mk how
  clear how
  have hr := (h.mono (ok' := fun k => k < w.heap.size) (fun k hk _ => hk)).alloc (.cells (madeCells #[.int .u32 0] (2 * l.length + 1)) 125)
  have hb0 : Below w.heap.size w (w.alloc (.cells (madeCells #[.int .u32 0] (2 * l.length + 1)) 125)) := (Below.refl _ _).alloc (Nat.le_refl _) _
  have HSZ : Asd (w.heap.size < (w.alloc (.cells (madeCells #[.int .u32 0] (2 * l.length + 1)) 125)).heap.size) := ⟨by simp⟩
  have hw := h.wd
  clear h
  go_enter Tryz.func174, Tryz.ntmps174
  go_wp2
  generalize w.alloc (.cells (madeCells #[.int .u32 0] (2 * l.length + 1)) 125) = w0 at *
  clear hmk
  go_loopw [17] (fun i wr => ∃ (k : Nat) (q : List Int), k ≤ l.length ∧ i = .int .i64 k ∧ Asd (Ow wr w.heap.size (2 * l.length + 1) q) ∧ Asd (q.length = 2 * l.length + 1) ∧ Asd (val q + pw (2 * k) * crossV (l.drop k) = crossV l) ∧ Asd (q.drop (k + l.length) = (List.replicate (2 * l.length + 1) 0).drop (k + l.length)) ∧ Asd (w0.grownBy wr (some w.heap.size))) (fun i _ => l.length - (intOf i).toNat)
  case atStart => exact ⟨0, _, Nat.zero_le _, rfl, HOW, ⟨by simp⟩, ⟨by rw [val_replicate, List.drop_zero]; show 0 + pw 0 * _ = _; rw [pw_zero]; omega⟩, ⟨rfl⟩, ⟨grown_refl _ _⟩⟩
  case round =>
    obtain ⟨k, q, hk, rfl, HO, HOL, HV, HD, HG⟩ := hrel
    by_cases hlt : k < l.length
    · have r1 := hr.grown HG.out (Nat.lt_irrefl _)
      obtain ⟨ad, y, rfl, ho, hcell, hy0, hy1, HY⟩ := r1.el k hlt
      obtain ⟨A1, hsl, r2⟩ := from_u32 r1 c (k + 1) (by omega) hc
      have hz : q.getD (((2 * (k : Int) + 1)).toNat + (l.drop (k + 1)).length) 0 = 0 := by
        rw [show ((2 * (k : Int) + 1)).toNat = 2 * k + 1 by omega, List.length_drop, getD_of_drop HD.out _ (by omega)]
        exact getD_replicate _ _
      have hp := prod_row _ w.heap.size (2 * l.length + 1) q (2 * (k : Int) + 1) A1 (c - (k + 1)) (l.drop (k + 1)) y 0 wr HO.out r2 (by rw [List.length_drop]; omega) (Nat.lt_irrefl _) (by omega) (by rw [HOL.out, List.length_drop]; omega) hy0 hy1 (by omega) (by omega) hz
      rw [HOL.out, show ((2 * (k : Int) + 1)).toNat = 2 * k + 1 by omega] at hp
      rw [show (((k + 1 : Nat) : Int)) = (k : Int) + 1 by omega] at hsl
      have HP := Asd.mk hp
      have HLD : Asd (2 * k + 1 + (l.drop (k + 1)).length + 1 = k + l.length + 1) := ⟨by rw [List.length_drop]; omega⟩
      have HCD := Asd.mk (crossV_drop l k hlt)
      rw [HY.out] at HCD
      generalize hld : l.drop (k + 1) = ld at *
      clear hp hz r1
      go_wp2_with fail
      (with_reducible refine HP.out.mono ?_)
      rintro e w1 ⟨o, rfl, ho2, hol, hv, hd, hg⟩
      have HR : Asd (Ow w1 w.heap.size (2 * l.length + 1) o ∧ o.length = 2 * l.length + 1 ∧ val o + pw (2 * (k + 1)) * crossV (l.drop (k + 1)) = crossV l ∧ o.drop (k + 1 + l.length) = (List.replicate (2 * l.length + 1) 0).drop (k + 1 + l.length) ∧ w0.grownBy w1 (some w.heap.size)) := by
        refine ⟨ho2, hol, ?_, ?_, grown_trans HG.out hg⟩
        · rw [hld, hv]; exact cross_step HV.out HCD.out (pw_two k).2 (pw_two k).1
        · rw [HLD.out] at hd
          rw [show k + 1 + l.length = k + l.length + 1 from by omega, hd]
          exact drop_more HD.out _ (by omega)
      clear ho2 hol hv hd hg HP HO HOL HV HD HG hsl r2
      go_wp2
      go_roundw
      case rel =>
        obtain ⟨h1, h2, h3, h4, h5⟩ := HR.out
        exact ⟨k + 1, o, hlt, by go_num, ⟨h1⟩, ⟨h2⟩, ⟨h3⟩, ⟨h4⟩, ⟨h5⟩⟩
      case measure => simp [intOf]; omega
    · have hkl : k = l.length := by omega
      subst hkl
      have HV2 : Asd (val q = crossV l) := ⟨by have := HV.out; rw [List.drop_length] at this; simpa [crossV] using this⟩
      have hb1 : Below w.heap.size w wr := hb0.grown HG.out (by have := HSZ.out; omega) (fun k hk => by injection hk with hk; omega)
      have hsz := hb1.size
      have r1 := hr.grown HG.out (Nat.lt_irrefl _)
      go_wp2_with fail
      have hq := twos_Up (fun k => k = w.heap.size) (some ⟨w.heap.size, 0, none⟩) (2 * l.length + 1) q 1 1 wr (HO.out.rd rfl) (by rw [HOL.out]; omega) (by rw [HOL.out]; omega) (by decide) rfl
      rw [HV2.out, HOL.out, show (2 : Int) ^ 1 = 2 from rfl] at hq
      (with_reducible refine hq.mono ?_)
      rintro e w2 ⟨g, rfl, how2, hg2, hb2⟩
      have hqw := Asd.mk HO.out.wd
      clear hq HV HD HO
      have HLO : Asd ((rep (crossV l * 2)).length ≤ 2 * l.length + 2) := ⟨by rw [← HV2.out]; exact rep_length_le (by have h1 := val_lt (hqw.out); rw [HOL.out] at h1; have h2 := pw_pos (2 * l.length + 1); rw [show 2 * l.length + 2 = (2 * l.length + 1) + 1 from rfl, pw_succ]; omega)⟩
      have hs2 := hb2.size
      have hB2 : Below w.heap.size w w2 := hb1.trans (hb2.mono hsz)
      have r2 := r1.below hb2
      obtain ⟨hmk, how⟩ := make_u32 w2 (2 * l.length) (by omega)
      rw [show ((2 * l.length : Nat) : Int) = 2 * (l.length : Int) from by omega] at hmk
      have HOW2 := Asd.mk how
      have HOUT := Asd.mk (how2.alloc (.cells (madeCells #[.int .u32 0] (2 * l.length)) 125))
      have r3 := r2.alloc (.cells (madeCells #[.int .u32 0] (2 * l.length)) 125)
      have hB3 := hB2.alloc hB2.size (.cells (madeCells #[.int .u32 0] (2 * l.length)) 125)
      have HS3 : Asd (w2.heap.size < (w2.alloc (.cells (madeCells #[.int .u32 0] (2 * l.length)) 125)).heap.size) := ⟨by simp⟩
      have hglt := how2.lt
      clear how how2 r1 r2
      go_wp2
      generalize w2.alloc (.cells (madeCells #[.int .u32 0] (2 * l.length)) 125) = w3 at *
      clear hmk
      go_loopw [41] (fun i wq => ∃ (k : Nat) (d : List Int), k ≤ l.length ∧ i = .int .i64 k ∧ Asd (Ow wq w2.heap.size (2 * l.length) d) ∧ Asd (d.length = 2 * l.length) ∧ Asd (val d + pw (2 * k) * diagV (l.drop k) = diagV l) ∧ Asd (d.drop (2 * k) = (List.replicate (2 * l.length) 0).drop (2 * k)) ∧ Asd (w3.grownBy wq (some w2.heap.size))) (fun i _ => l.length - (intOf i).toNat)
      case atStart => exact ⟨0, _, Nat.zero_le _, rfl, HOW2, ⟨by simp⟩, ⟨by rw [val_replicate, List.drop_zero]; show 0 + pw 0 * _ = _; rw [pw_zero]; omega⟩, ⟨rfl⟩, ⟨grown_refl _ _⟩⟩
      case round =>
        obtain ⟨k, d, hk2, rfl, HO, HDL, HV, HD, HG2⟩ := hrel
        by_cases hlt2 : k < l.length
        · have r4 := r3.grown HG2.out (by omega)
          obtain ⟨ad, y, rfl, ho, hcell, hy0, hy1, HY⟩ := r4.el k hlt2
          have HDD := Asd.mk (diagV_drop l k hlt2)
          rw [HY.out] at HDD
          obtain ⟨z1, hz1, _, _, HZ1⟩ := HO.out.el (2 * k + 1) (by have := HDL.out; omega)
          obtain ⟨z0, hz0, _, _, HZ0⟩ := HO.out.el (2 * k) (by have := HDL.out; omega)
          have hf1 := HO.out.free (2 * k + 1)
          have hf0 := HO.out.free (2 * k)
          have hn1 : (2 * (k : Int) + 1).toNat = 2 * k + 1 := by omega
          have hn0 : (2 * (k : Int)).toNat = 2 * k := by omega
          have hcap := HO.out.lt
          have hm := limb_Mul y y 0 0 hy0 hy1 hy0 hy1 (by decide) (by decide) (by decide) (by decide) wr
          go_wp2_with fail
          refine hm.mono ?_
          rintro e w5 ⟨rfl, hi, lo, rfl, he, hlo0, hlo1, hhi0, hhi1⟩
          have HE := Asd.mk he
          clear he
          have HN := Asd.mk ((HO.out.set (2 * k + 1) hhi0 hhi1).set (2 * k) hlo0 hlo1)
          go_wp2
          have hd0 : d.getD (2 * k) 0 = 0 := by rw [getD_of_drop HD.out _ (Nat.le_refl _)]; exact getD_replicate _ _
          have hd1 : d.getD (2 * k + 1) 0 = 0 := by rw [getD_of_drop HD.out _ (by omega)]; exact getD_replicate _ _
          have hd2 : (d.set (2 * k + 1) hi).getD (2 * k) 0 = 0 := by
            rw [List.getD_eq_getElem?_getD, List.getElem?_set_ne (by omega), ← List.getD_eq_getElem?_getD]; exact hd0
          go_roundw
          case rel =>
            refine ⟨k + 1, _, hlt2, by go_num, HN, ⟨by rw [List.length_set, List.length_set]; exact HDL.out⟩, ⟨?_⟩, ⟨?_⟩, ⟨grown_trans HG2.out (grown_trans (HO.out.2.2.stored _ _).2 ((HO.out.set (x := hi) (2 * k + 1) hhi0 hhi1).2.2.stored _ _).2)⟩⟩
            · have hl := HDL.out
              rw [val_set _ _ _ (by rw [List.length_set]; omega), val_set _ _ _ (by omega), hd1, hd2]
              exact diag_step HV.out HDD.out (pw_two k).2 (pw_two k).1 HE.out
            · rw [List.drop_set_of_lt (by omega), List.drop_set_of_lt (by omega)]
              exact drop_more HD.out _ (by omega)
          case measure => simp [intOf]; omega
        · have hkl2 : k = l.length := by omega
          subst hkl2
          have HV3 : Asd (val d = diagV l) := ⟨by have := HV.out; rw [List.drop_length] at this; simpa [diagV] using this⟩
          have hb3 := hB3.grown HG2.out (by have := HS3.out; omega) (fun k hk => by injection hk with hk; omega)
          have rO := (HOUT.out.move (HG2.out.block g (by have := HS3.out; omega) (by intro e; injection e; omega)))
          go_wp2_with fail
          have hS := HO.out.lt
          have HVO : Asd (val (rep (crossV l * 2)) + val d = val l * val l) := ⟨by rw [HV3.out, val_rep (by have := crossV_bd hw; omega), sq_val]⟩
          have HA := Asd.mk (nat_Add (fun _ => True) (some ⟨g, 0, none⟩) (rep (crossV l * 2)).length (rep (crossV l * 2)) (fun _ => True) (some ⟨w2.heap.size, 0, none⟩) (2 * l.length) d wr.heap.size 2
            (wr.alloc (.cells #[.slice (some ⟨g, 0, none⟩) (rep (crossV l * 2)).length (rep (crossV l * 2)).length, .slice (some ⟨w2.heap.size, 0, none⟩) (2 * l.length) (2 * l.length)] 22))
            ((rO.rd trivial).alloc _) (Nat.le_refl _) ((HO.out.rd trivial).alloc _) (by rw [HDL.out]; exact Nat.le_refl _) (by have := HLO.out; omega) (by rw [HDL.out]; omega) (by simp [go_sem]) (by simp [go_sem, HDL.out]))
          rw [HVO.out] at HA
          refine HA.out.mono ?_
          rintro e w6 ⟨A1, c1, rfl, hc1, hr1, hb6⟩
          go_wp2
          go_ret
          have hB6 := hb3.alloc hb3.size (.cells #[.slice (some ⟨g, 0, none⟩) (rep (crossV l * 2)).length (rep (crossV l * 2)).length, .slice (some ⟨w2.heap.size, 0, none⟩) (2 * l.length) (2 * l.length)] 22)
          exact ⟨A1, c1, rfl, hc1, hr1.mono (fun k _ hk => by have := hB6.size; omega), below_go hB6 hb6⟩
end Go.Proofs.YthjpkichpkomcaaGreatDoor
