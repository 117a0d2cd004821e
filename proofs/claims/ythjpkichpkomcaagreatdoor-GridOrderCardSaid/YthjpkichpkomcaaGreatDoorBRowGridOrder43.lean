/- Join -/
import Derived.Test.YthjpkichpkomcaaGreatDoorBRowGridOrder36
import Derived.Test.YthjpkichpkomcaaGreatDoorBld
import Derived.Test.YthjpkichpkomcaaGreatDoorShelf
/- strings.Join of two strings, with a comma. -/
namespace Go.Proofs.YthjpkichpkomcaaGreatDoor
open Go.RowKit Go.Proofs.YthjpkichpkomcaaGreatDoor.Big
set_option linter.unusedVariables false
set_option maxRecDepth 100000
attribute [local go_sem ↓] Go.wp_at_zero Go.wp_at_succ

/-- A text in a row of texts. -/
structure TS where
  t : List UInt8
instance : Elm TS where
  sz := 1
  pos := by decide
  vals s := [.string ⟨s.t.toArray⟩]
  len _ := rfl
  one x u h := by
    simp only [List.mem_cons, List.not_mem_nil, or_false] at h
    subst h; rfl
  ok _ _ _ := True
  move _ _ := trivial
  mono _ _ := trivial
theorem Rw.cellT {p : Nat → Prop} {w : World} {A : Option Addr} {xs : List TS} (h : Rw p w A xs) {k : Nat} {s : TS} (hk : xs[k]? = some s) : ∃ ad, A = some ad ∧ p ad.block ∧ w.cell? (ad.add k) = some (.string ⟨s.t.toArray⟩) := by
  obtain ⟨ad, e, hp, ho, hc⟩ := h.get hk
  refine ⟨ad, e, hp, ?_⟩
  have := hc 0 _ rfl; simpa [Addr.add, show Elm.sz TS = 1 from rfl] using this

theorem tail_two (ad : Addr) (c : Nat) (hc : 2 ≤ c) (W : World) : (Instr.slice 140 (.slice (some ad) 2 c) (some (.int .i64 1)) none none).run Tryz.prog W = .ok (.slice (some (ad.add 1)) 1 (c - 1)) W := by
  have hi : (Tryz.prog.info? 9).map (·.size) = some 1 := by kernel_rfl
  obtain ⟨i0, hi0, hi1⟩ := Option.map_eq_some_iff.1 hi
  have hel : Tryz.prog.elem 140 = 9 := by simp [Program.elem, Tryz.underlying140]
  have hu : Tryz.prog.underlying 140 = some (.slice (Tryz.prog.elem 140)) := by rw [hel]; exact Tryz.underlying140
  rw [run_slice_l W 140 (some ad) 2 c hu .i64 1 (by decide) (by decide), hel]
  simp [sizeOf, typeInfo, hi0, hi1, sliced, Result.andThen, show ¬ c = 1 by omega]

theorem Lib.byteCells_append44 (s s' : List UInt8) : Go.Lib.strCells ⟨s.toArray⟩ = Go.Lib.byteCells s ∧ Go.Lib.byteCells s ++ Go.Lib.strCells ⟨#[44]⟩ ++ Go.Lib.strCells ⟨s'.toArray⟩ = Go.Lib.byteCells (s ++ 44 :: s') := by
  refine ⟨by rw [Go.Lib.strCells_eq], ?_⟩
  rw [Go.Lib.strCells_eq, Go.Lib.strCells_eq]
  simp [Go.Lib.byteCells]

set_option maxHeartbeats 2000000 in
theorem strings_Join2 (p : Nat → Prop) (A : Option Addr) (c : Nat) (s s' : List UInt8) (w : World) (h : Rw p w A [TS.mk s, TS.mk s']) (hc : 2 ≤ c) (hs : s.length ≤ 1000000) (hs' : s'.length ≤ 1000000) :
    Calls Tryz.prog 141 #[.slice A 2 c, .string ⟨#[44]⟩] w fun e w' => e = .returned (.string ⟨(s ++ 44 :: s').toArray⟩) ∧ Below w.heap.size w w' := by
  replace h := h.mono (p' := fun k => k < w.heap.size) (fun k hk _ => hk)
  obtain ⟨ad, rfl, hp, hc0⟩ := h.cellT (k := 0) rfl
  obtain ⟨ad', e, _, hc1⟩ := h.cellT (k := 1) rfl
  injection e with e
  subst e
  have e0 : ad.add 0 = ad := by simp [Addr.add]
  have hsl := tail_two ad c hc
  go_enter Tryz.func141, Tryz.ntmps141
  go_wp2_with fail
  go_loopw [5, 41] (fun n i wq => w = wq ∧ ∃ k m : Nat, k ≤ 2 ∧ i = .int .i64 (k : Int) ∧ n = .int .i64 (m : Int) ∧ m ≤ 1 + k * 1000000) (fun _ i _ => (2 - intOf i).toNat)
  case atStart => exact ⟨rfl, 0, 1, by omega, rfl, rfl, by omega⟩
  case round =>
    obtain ⟨rfl, k, m, hk, rfl, rfl, hm⟩ := hrel
    by_cases hk2 : k < 2
    · obtain ⟨t, ht, hkt⟩ : ∃ t : List UInt8, t.length ≤ 1000000 ∧ w.cell? (ad.add k) = some (.string ⟨t.toArray⟩) := by
        rcases (by omega : k = 0 ∨ k = 1) with rfl | rfl
        · exact ⟨s, hs, hc0⟩
        · exact ⟨s', hs', hc1⟩
      go_wp2
      all_goals first
        | omega
        | skip
      go_roundw
      case rel => exact ⟨trivial, k + 1, m + t.length, by omega, by go_num, by go_num, by omega⟩
      case measure => simp [intOf]; omega
    · have e2 : k = 2 := by omega
      subst e2
      have hbk := heap_alloc_new w (.cells #[.pointer none, .slice none 0 0] 147)
      have hB0 := (Below.refl w.heap.size w).alloc (Nat.le_refl _) (.cells #[.pointer none, .slice none 0 0] 147)
      have hs0 : (w.alloc (.cells #[.pointer none, .slice none 0 0] 147)).heap.size = w.heap.size + 1 := World.size_alloc _ _
      rw [e0] at hc0
      go_wp2_with fail
      generalize w.alloc (.cells #[.pointer none, .slice none 0 0] 147) = W at *
      refine (Sh.Builder_Grow_fresh w.heap.size w.heap.size m W (Nat.le_refl _) hbk (by omega) (by omega)).mono ?_
      rintro e w1 ⟨rfl, hI1, hb1⟩
      have hB1 := hB0.trans hb1
      have hs1 := hb1.size
      have hc0' := (hB1.cell (p := ad) hp).trans hc0
      have hsz : ∀ l : List UInt8, (⟨l.toArray⟩ : ByteArray).size = l.length := fun l => by simp [ByteArray.size]
      have HE := Asd.mk (Lib.byteCells_append44 s s')
      clear hB0 hbk
      go_wp2_with fail
      refine (Builder_WriteString w.heap.size w.heap.size [] ⟨s.toArray⟩ w1 (.inr hI1) (by rw [hsz]; simp; omega) hB1.size).mono ?_
      rintro e w2 ⟨rfl, hI2, hb2⟩
      have hB2 := hB1.trans hb2
      have hc1' := (hB2.cell (p := ad.add 1) (by rw [add_block]; exact hp)).trans hc1
      rw [List.nil_append, HE.out.1] at hI2
      clear hsl hc0' hc0 hI1
      go_wp2_with fail
      generalize w2 = V at *
      go_loopw [65] (fun i wq => ((i = .int .i64 0 ∧ Asd (Lib.BuilderAt 147 5 w.heap.size w.heap.size (.pointer (some ⟨w.heap.size, 0, none⟩)) (Lib.byteCells s) wq)) ∨ (i = .int .i64 1 ∧ Asd (Lib.BuilderAt 147 5 w.heap.size w.heap.size (.pointer (some ⟨w.heap.size, 0, none⟩)) (Lib.byteCells (s ++ 44 :: s')) wq))) ∧ Asd (Below w.heap.size w wq)) (fun i _ => (1 - intOf i).toNat)
      case atStart => exact ⟨.inl ⟨rfl, ⟨hI2⟩⟩, ⟨hB2⟩⟩
      case round =>
        obtain ⟨h1, HB⟩ := hrel
        rcases h1 with ⟨rfl, HI⟩ | ⟨rfl, HI⟩
        · have hc1d : wr.cell? ⟨ad.block, ad.off + 1, none⟩ = some (.string ⟨s'.toArray⟩) := by
            have := (HB.out.cell (p := ad.add 1) (by rw [add_block]; exact hp)).trans hc1
            simpa [Addr.add] using this
          have hc1'' : wr.cell? (ad.add 1) = some (.string ⟨s'.toArray⟩) := (HB.out.cell (p := ad.add 1) (by rw [add_block]; exact hp)).trans hc1
          go_wp2_with fail
          refine (Builder_WriteString w.heap.size w.heap.size _ ⟨#[44]⟩ wr (.inr HI.out) (by rw [Lib.byteCells_length]; show _ + 1 ≤ _; omega) HB.out.size).mono ?_
          rintro e w3 ⟨rfl, hI3, hb3⟩
          have hB3 := HB.out.trans hb3
          go_wp2_with fail
          refine (Builder_WriteString w.heap.size w.heap.size _ ⟨s'.toArray⟩ w3 (.inr hI3) (by rw [List.length_append, Lib.byteCells_length, Lib.strCells_length, hsz s']; show _ + 1 + _ ≤ _; omega) hB3.size).mono ?_
          rintro e w4 ⟨rfl, hI4, hb4⟩
          have hB4 := hB3.trans hb4
          rw [HE.out.2] at hI4
          go_wp2
          go_roundw
          case rel => exact ⟨.inr ⟨rfl, ⟨hI4⟩⟩, ⟨hB4⟩⟩
          case measure => simp [intOf]
        · go_wp2_with fail
          refine (Sh.Builder_String_any w.heap.size w.heap.size _ wr (.inr HI.out) HB.out.size).mono ?_
          rintro e w5 ⟨rfl, hb5⟩
          go_wp2
          go_ret
          exact ⟨rfl, HB.out.trans hb5⟩
end Go.Proofs.YthjpkichpkomcaaGreatDoor
