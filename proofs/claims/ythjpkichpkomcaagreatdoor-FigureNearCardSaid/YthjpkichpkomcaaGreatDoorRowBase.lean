/- What the rows of the Whole laws share: the witness' world, and a whole number that came in. -/
import Derived.Test.YthjpkichpkomcaaGreatDoorRows
import Derived.Test.YthjpkichpkomcaaGreatDoorVoc
import Derived.Lib.LaidIn
import Derived.Lib.LaidU8
import Derived.Lib.DecodeN
import Derived.Lib.SmallJoins
import Derived.ProofKit
import Derived.SizedLaws
import Derived.LaidLaws
import Derived.LaidHandle
import Derived.ChangeSame
import Derived.ChangeVars
import Derived.JoinedOf
import Derived.RowKit
import Derived.OpenShut
import Derived.ChangeOld
import Derived.Below
namespace Go.Proofs.YthjpkichpkomcaaGreatDoor
open Go.ChangeShapes Go.WideShapes Go.ChangeAt Go.RowKit Go.Lib Go.Proofs.YthjpkichpkomcaaGreatDoor.Big
set_option linter.unusedVariables false
set_option maxRecDepth 100000

theorem own : ownKnob Tryz.prog.godebug = none := by kernel_rfl
theorem laidOut : laidOutB Tryz.prog = true := by kernel_rfl

/-- THE WITNESS: the settled world, the two tables holding what their initialisers lay. -/
noncomputable def laidWorld (os : Os) : World :=
  let w0 := World.holding Tryz.prog os ⟨#[], #[], []⟩
  let put (h : Array Obj) (g : Nat) (cs : Array Value) : Array Obj := h.modify g fun
    | .cells _ t frozen => .cells cs t frozen
    | o => o
  let h1 := put w0.heap 1 (Lib.firstTab.map fun z => Value.int .u8 z).toArray
  let h2 := put h1 2 ((List.range 16).flatMap fun i => [Value.int .u8 (Lib.accLo i), Value.int .u8 (Lib.accHi i)]).toArray
  { w0 with heap := h2 }
theorem laidWorld_met (os : Os) (args : Array Value) : laidMetH Tryz.prog [("unicode/utf8.acceptRanges", Rows.laid_unicode_utf8_acceptRanges), ("unicode/utf8.first", Rows.laid_unicode_utf8_first)] ((laidWorld os).forCall (fun _ _ => 0) ⟨#[], args, []⟩).memory :=
  (LaidIn.of_run (l := [("unicode/utf8.acceptRanges", Rows.laid_unicode_utf8_acceptRanges), ("unicode/utf8.first", Rows.laid_unicode_utf8_first)]) [2, 1] 8 (by kernel_rfl) (by kernel_rfl) (by kernel_rfl) (by kernel_rfl)).met

/-- A list of words that came in, read. -/
theorem rd_of_ints {H : Type} {enc : TypeId × Value → H} {W : World} {base fuel : Nat} {spare : Nat → Bool} {held : Bool} {cs : List Value} {x : DataW H × List MemPlace}
    (h : DataW.trod enc Tryz.prog W base spare held fuel 22 cs = some x) (hs : ∀ b, spare b = true) : ∃ (A : Option Addr) (c : Nat) (l : List Int), cs = [.slice A l.length c] ∧ l.length ≤ c ∧ (l.length ≤ 1099511627776 → Rd (fun _ => True) W A l) := by
  rcases open_ints Tryz.underlying22 Tryz.underlying125 (by kernel_rfl) h with ⟨hcs, _⟩ | ⟨a, len, cap, zs, hcs, _, hl, _, hz, _, hcell, hwz⟩
  · exact ⟨none, 0, [], hcs, Nat.le_refl _, fun _ => Rd.nil _ _ _⟩
  · rw [hs, if_pos rfl] at hz
    have hlt : (zs.take len).length = len := by rw [List.length_take]; omega
    refine ⟨some a, cap, zs.take len, by rw [hlt]; exact hcs, by rw [hlt]; exact hl, fun hb => ⟨?_, hb, fun _ => ⟨a, rfl, trivial, fun j hj => ?_⟩⟩⟩
    · intro n hn
      have := hwz n (List.mem_of_mem_take hn)
      simp [Lit.wf] at this
      have e1 : IntKind.u32.min = 0 := rfl
      have e2 : IntKind.u32.max = 4294967295 := rfl
      omega
    · have hj2 : j < zs.length := by omega
      rw [hcell j hj2]
      have : (zs.take len).getD j 0 = zs.getD j 0 := by
        rw [List.getD_eq_getElem?_getD, List.getD_eq_getElem?_getD, List.getElem?_take_of_lt (by omega)]
      rw [this]

/-- A whole number that came in, read. -/
theorem open_whole {H : Type} {enc : TypeId × Value → H} {W : World} {v : Value} {d : DataW H} {p : List MemPlace} {held : Bool}
    (hv : Value.okWide Tryz.prog W .any 0 128 v) (h : DataW.Trod enc Tryz.prog W 0 (fun _ => true) held 128 v d p) :
    ∃ (n : Bool) (A : Option Addr) (c : Nat) (l : List Int), v = .agg #[.bool n, .slice A l.length c] ∧ l.length ≤ c ∧ (l.length ≤ 1099511627776 → Rd (fun _ => True) W A l) := by
  obtain ⟨v0, v1, y0, y1, m, rfl, -, -, t0, t1⟩ := Go.Joins.open_agg2 Tryz.underlying128 (by kernel_rfl) (by kernel_rfl) hv h
  obtain ⟨b, hb, -⟩ := DataW.trod_bool Tryz.underlying4 t0
  obtain ⟨A, c, l, hcs, hle, hr⟩ := rd_of_ints t1 (fun _ => rfl)
  simp only [List.cons.injEq, and_true] at hb hcs
  subst hb hcs
  exact ⟨b, A, c, l, rfl, hle, hr⟩
end Go.Proofs.YthjpkichpkomcaaGreatDoor
