/- FigA -/
import Derived.Test.YthjpkichpkomcaaGreatDoorBRowFigureNear32
import Derived.Test.YthjpkichpkomcaaGreatDoorBRowFigureNear33
import Derived.Test.YthjpkichpkomcaaGreatDoorBRowFigureNear35
import Derived.Test.YthjpkichpkomcaaGreatDoorBRowFigureNear24
/- Layer 10: fractions of texts (figure: digitsBehind, over, places). -/
namespace Go.Proofs.YthjpkichpkomcaaGreatDoor
open Go.RowKit Go.Proofs.YthjpkichpkomcaaGreatDoor.Big
set_option linter.unusedVariables false
set_option maxRecDepth 100000
attribute [local go_sem ↓] Go.wp_at_zero Go.wp_at_succ

theorem rat_int (z : Int) : (z : Rat) = Rat.divInt z 1 := by
  have h := Rat.num_divInt_den (z : Rat)
  rw [Rat.num_intCast, Rat.den_intCast] at h
  exact h.symm
theorem ext_take (l : List UInt8) (k : Nat) : (⟨l.toArray⟩ : ByteArray).extract 0 k = ⟨(l.take k).toArray⟩ := by
  rw [Lib.extract_eq]; simp
theorem ext_drop (l : List UInt8) (k : Nat) : (⟨l.toArray⟩ : ByteArray).extract k (⟨l.toArray⟩ : ByteArray).size = ⟨(l.drop k).toArray⟩ := by
  rw [Lib.extract_eq]
  congr 2
  exact List.take_of_length_le (by simp [ByteArray.size])
/-- 's[k:]' -/
theorem sl_from (l : List UInt8) (k : Nat) (h : k ≤ l.length) (W : World) : Sem.run Tryz.prog (Instr.slice 9 (Value.string ⟨l.toArray⟩) (some (Value.int .i64 (k : Int))) none none) W = .ok (.string ⟨(l.drop k).toArray⟩) W := by
  have h := run_slice_string_l (P := Tryz.prog) W 9 ⟨l.toArray⟩ Tryz.underlying9 .i64 (k : Int) (by omega) (by show (k : Int) ≤ ((l.toArray.size : Nat) : Int); simp; omega)
  rw [h, Int.toNat_natCast, ext_drop]
/-- 's[:k]' -/
theorem sl_to (l : List UInt8) (k : Nat) (h : k ≤ l.length) (W : World) : Sem.run Tryz.prog (Instr.slice 9 (Value.string ⟨l.toArray⟩) none (some (Value.int .i64 (k : Int))) none) W = .ok (.string ⟨(l.take k).toArray⟩) W := by
  have h := run_slice_string_h (P := Tryz.prog) W 9 ⟨l.toArray⟩ Tryz.underlying9 .i64 (k : Int) (by omega) (by show (k : Int) ≤ ((l.toArray.size : Nat) : Int); simp; omega)
  rw [h, Int.toNat_natCast, ext_take]

set_option maxHeartbeats 1000000 in
theorem fig_behind (l : List UInt8) (k : Nat) (hk : k ≤ l.length) (hb : wrongI (l.drop k) < 0) (w : World) :
    Calls Tryz.prog 127 #[.string ⟨l.toArray⟩, .int .i64 (k : Int)] w fun e w' => ∃ A1 c1, e = .returned (.tuple #[.slice A1 (rep (decV (l.drop k))).length c1, .agg #[.int .i64 0, .int .i64 0, .int .i64 0, .int .i64 0]]) ∧ (rep (decV (l.drop k))).length ≤ c1 ∧ Rd (fun k => w.heap.size ≤ k) w' A1 (rep (decV (l.drop k))) ∧ Below w.heap.size w w' := by
  have hsl := sl_from l k hk
  have HRD := Asd.mk (digits_Read (l.drop k) hb)
  generalize decV (l.drop k) = V at *
  go_enter Tryz.func127, Tryz.ntmps127
  go_wp2_with fail
  have F0 := Blk.new w [.int .i64 0, .int .i64 0, .int .i64 0, .int .i64 0] 35
  have hb0 := (Below.refl w.heap.size w).alloc (Nat.le_refl _) (.cells #[.int .i64 0, .int .i64 0, .int .i64 0, .int .i64 0] 35)
  generalize w.alloc (.cells #[.int .i64 0, .int .i64 0, .int .i64 0, .int .i64 0] 35) = W at *
  refine (HRD.out W).mono ?_
  rintro e w1 ⟨A1, c1, rfl, hc1, hr1, hb1⟩
  have F1 := (F0.below hb1).alloc (.cells #[.int .i64 0, .int .i64 0, .int .i64 0, .int .i64 0] 35)
  have hr2 := hr1.alloc (.cells #[.int .i64 0, .int .i64 0, .int .i64 0, .int .i64 0] 35)
  have hb2 := (below_go hb0 hb1).alloc (by have := hb0.size; have := hb1.size; omega) (.cells #[.int .i64 0, .int .i64 0, .int .i64 0, .int .i64 0] 35)
  have N1 := Blk.new w1 [.int .i64 0, .int .i64 0, .int .i64 0, .int .i64 0] 35
  have n0 := N1.c 0 rfl; have n1 := N1.c 1 rfl; have n2 := N1.c 2 rfl; have n3 := N1.c 3 rfl
  have f0 := F1.c 0 rfl; have f1 := F1.c 1 rfl; have f2 := F1.c 2 rfl; have f3 := F1.c 3 rfl
  have ff := F1.f; have fl := F1.lt; have fl0 := F0.lt
  go_wp2_with fail
  go_region_with (fail)
  all_goals
    go_wp2
    refine bodyPost_ret (ret_tmp_blk rfl rfl rfl ((((F1.set 0 _).set 1 _).set 2 _).set 3 _).drew Tryz.underlying35 (by kernel_rfl)) rfl ?_
    exact ⟨A1, c1, rfl, hc1, ((((((hr2.setCell (by simp; omega) _).setCell (by simp; omega) _).setCell (by simp; omega) _).setCell (by simp; omega) _).drew).mono (fun k _ hk => by omega)), below_drewN ((((hb2.setCell (by simp) _).setCell (by simp) _).setCell (by simp) _).setCell (by simp) _) 1⟩

set_option maxHeartbeats 1000000 in
theorem fig_tens (n : Nat) (hn : n ≤ 60) (w : World) :
    Calls Tryz.prog 72 #[.int .i64 (n : Int)] w fun e w' => ∃ A1 c1, e = .returned (.slice A1 (rep (10 ^ n)).length c1) ∧ (rep (10 ^ n)).length ≤ c1 ∧ Rd (fun k => w.heap.size ≤ k) w' A1 (rep (10 ^ n)) ∧ Below w.heap.size w w' := by
  obtain ⟨T, hT, hT1, hT2⟩ : ∃ T, rep 10 = T ∧ T.length = 1 ∧ val T = 10 := ⟨rep 10, rfl, by rw [rep_word (by decide) (by decide)]; rfl, val_rep (by decide)⟩
  have hof := nat_Of 10 (by decide) (by decide) w
  rw [hT] at hof
  have HPW := Asd.mk (fun (A : Option Addr) (c : Nat) (W : World) (r : Rd (fun k => w.heap.size ≤ k) W A T) (hc : T.length ≤ c) => prod_Pow _ A c T n W r hc (by omega) (by omega) hn)
  rw [hT2] at HPW
  generalize (10 : Int) ^ n = P at *
  clear hT1 hT2 hT
  go_enter Tryz.func72, Tryz.ntmps72
  go_wp2_with fail
  refine hof.mono ?_
  rintro e w1 ⟨A, c, rfl, hc, hr, hb1⟩
  go_wp2_with fail
  refine (HPW.out A c w1 hr hc).mono ?_
  rintro e w2 ⟨A1, c1, rfl, hc1, hr1, hb2⟩
  have hs1 := hb1.size
  go_wp2
  go_ret
  exact ⟨A1, c1, rfl, hc1, hr1.mono (fun k _ hk => by omega), below_go hb1 hb2⟩
end Go.Proofs.YthjpkichpkomcaaGreatDoor
