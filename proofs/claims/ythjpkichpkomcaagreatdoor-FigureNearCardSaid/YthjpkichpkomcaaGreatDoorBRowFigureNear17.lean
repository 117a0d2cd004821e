/- Dig1 -/
import Derived.Test.YthjpkichpkomcaaGreatDoorBld
import Derived.Test.YthjpkichpkomcaaGreatDoorBRowFigureNear5
import Derived.Outline
import Derived.WalkLawsBesides
/- Layer 7: nine digits (digits.nine). -/
namespace Go.Proofs.YthjpkichpkomcaaGreatDoor
open Go.RowKit Go.Proofs.YthjpkichpkomcaaGreatDoor.Big
set_option linter.unusedVariables false
set_option maxRecDepth 100000

/-- The last k decimal digits of x, as bytes. -/
def padD : Nat → Int → List UInt8
  | 0, _ => []
  | k + 1, x => padD k (x / 10) ++ [UInt8.ofNat (48 + x % 10).toNat]

theorem padD_length : ∀ (k : Nat) (x : Int), (padD k x).length = k
  | 0, _ => rfl
  | k + 1, x => by simp [padD, padD_length k]

theorem padD_split : ∀ (k m : Nat) (x : Int), padD (k + m) x = padD k (x / 10 ^ m) ++ padD m x
  | k, 0, x => by simp [padD]
  | k, m + 1, x => by
    show padD (k + m) (x / 10) ++ _ = padD k _ ++ (padD m (x / 10) ++ _)
    rw [padD_split k m (x / 10), List.append_assoc, Int.pow_succ, Int.mul_comm (10 ^ m) 10, ← Int.ediv_ediv_of_nonneg (by decide : (0:Int) ≤ 10)]

theorem padD_cons (m : Nat) (x : Int) : padD (m + 1) x = UInt8.ofNat (48 + (x / 10 ^ m) % 10).toNat :: padD m x := by
  rw [Nat.add_comm, padD_split 1 m x]; rfl

/-- The array's cells when its last j digits stand. -/
def nineCells (j : Nat) (X : Int) : List Value := List.replicate (9 - j) (.int .u8 0) ++ Lib.byteCells (padD j X)
theorem nineCells_set (j : Nat) (X : Int) (hj : j < 9) : (nineCells j X).set (8 - j) (.int .u8 (48 + (X / 10 ^ j) % 10)) = nineCells (j + 1) X := by
  have h2 := Int.emod_nonneg (X / 10 ^ j) (show (10:Int) ≠ 0 by decide)
  have h3 := Int.emod_lt_of_pos (X / 10 ^ j) (show (0:Int) < 10 by decide)
  have hv : ((UInt8.ofNat (48 + (X / 10 ^ j) % 10).toNat).toNat : Int) = 48 + (X / 10 ^ j) % 10 := by
    rw [UInt8.toNat_ofNat']; omega
  unfold nineCells
  rw [padD_cons, show 9 - j = (8 - j) + 1 by omega, List.replicate_succ', List.append_assoc, List.set_append_right _ _ (by simp)]
  simp only [Lib.byteCells, show 9 - (j + 1) = 8 - j by omega, List.map_cons, hv, List.length_replicate, Nat.sub_self, List.singleton_append, List.set_cons_zero]

theorem nineCells_get (j : Nat) (X : Int) (hj : j < 9) : (nineCells j X)[8 - j]? = some (.int .u8 0) := by
  unfold nineCells
  rw [List.getElem?_append_left (by simp; omega), List.getElem?_replicate, if_pos (by omega)]

set_option maxHeartbeats 1000000 in
theorem digits_nine (X : Int) (h0 : 0 ≤ X) (h1 : X < 4294967296) (w : World) :
    Calls Tryz.prog 115 #[.int .u32 X] w fun e w' => e = .returned (.string ⟨(padD 9 X).toArray⟩) ∧ Below w.heap.size w w' := by
  go_enter Tryz.func115, Tryz.ntmps115
  go_wp2
  go_loopw [0, 4] (fun x i wr => ∃ j : Nat, j ≤ 9 ∧ i = .int .i64 (8 - j) ∧ x = .int .u32 (X / 10 ^ j) ∧ Asd (Blk wr w.heap.size (nineCells j X)) ∧ Asd (Below w.heap.size w wr)) (fun _ i _ => (intOf i + 1).toNat)
  case atStart => exact ⟨0, by omega, rfl, by simp, ⟨Blk.new w _ _⟩, ⟨(Below.refl _ _).alloc (Nat.le_refl _) _⟩⟩
  case round =>
    obtain ⟨j, hj, rfl, rfl, HB, HW⟩ := hrel
    have hnn : 0 ≤ X / 10 ^ j := Int.ediv_nonneg h0 (Int.pow_nonneg (by decide))
    have hle : X / 10 ^ j ≤ X := Int.ediv_le_self _ h0
    have h2 := Int.emod_nonneg (X / 10 ^ j) (show (10:Int) ≠ 0 by decide)
    have h3 := Int.emod_lt_of_pos (X / 10 ^ j) (show (0:Int) < 10 by decide)
    have hnext : X / 10 ^ j / 10 = X / 10 ^ (j + 1) := by rw [Int.pow_succ, Int.ediv_ediv_of_nonneg (Int.pow_nonneg (by decide))]
    generalize hx : X / 10 ^ j = x at *
    by_cases hlt : j < 9
    · have e : (8 : Int) - j = ((8 - j : Nat) : Int) := by omega
      rw [e]
      have HC := HB.out.c _ (nineCells_get j X hlt)
      have HF := HB.out.f
      have HS := Asd.mk (HB.out.set (8 - j) (.int .u8 (48 + x % 10)))
      have hsz := HB.out.lt
      have hset := nineCells_set j X hlt
      rw [hx] at hset
      have HST := Asd.mk hset
      clear hset
      generalize hm : 8 - j = m at *
      have hm9 : m < 9 := by omega
      have hw8 : IntKind.u8.wrap (48 + x % 10) = 48 + x % 10 := by rw [IntKind.wrap_u8]; omega
      go_wp2
      go_roundw
      case rel =>
        refine ⟨j + 1, by omega, by go_num, by rw [hnext], ⟨by rw [← HST.out]; exact HS.out⟩, ⟨HW.out.setCell (by simp) _⟩⟩
      case measure => simp [intOf]
    · have hj9 : j = 9 := by omega
      subst hj9
      have hcv : (convert 145 9 (.slice (some ⟨w.heap.size, 0, none⟩) 9 9)).run Tryz.prog wr = .ok (.string ⟨(padD 9 X).toArray⟩) wr := by
        have := run_convert_bytes_back (P := Tryz.prog) wr 145 9 5 ⟨w.heap.size, 0, none⟩ 9 (padD 9 X) Tryz.underlying145 Tryz.underlying5 Tryz.underlying9 (fun j hj => by
          rw [add_plain]
          refine HB.out.c j ?_
          unfold nineCells
          simp [Lib.byteCells, hj])
        rwa [padD_length] at this
      go_wp2
      go_ret
      exact ⟨rfl, HW.out⟩
end Go.Proofs.YthjpkichpkomcaaGreatDoor
