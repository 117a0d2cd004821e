/- Layer 8: the contracts at right whole numbers, by their values. -/
import Derived.Test.YthjpkichpkomcaaDoorWorks
namespace Go.Proofs.YthjpkichpkomcaaDoor
open Go.RowKit Go.Proofs.YthjpkichpkomcaaDoor.Big
set_option linter.unusedVariables false
set_option maxRecDepth 100000

/-- A right whole number as a value. -/
abbrev wv (z : Int) (A : Option Addr) (c : Nat) : Value := .agg #[.bool (ng z), .slice A (mag z).length c]
theorem cSign {ok : Nat → Prop} {z : Int} {A : Option Addr} {c : Nat} {w : World} (h : Rd ok w A (mag z)) (hc : (mag z).length ≤ c) :
    Calls Tryd.prog 27 #[wv z A c] w fun e w' => e = .returned (.int .i64 (sgI z)) ∧ Below w.heap.size w w' := by
  have := whole_Sign ok (ng z) A c _ w h hc; rwa [zv_mag] at this
theorem cText {ok : Nat → Prop} {z : Int} {A : Option Addr} {c : Nat} {w : World} (h : Rd ok w A (mag z)) (hc : (mag z).length ≤ c) (hb : (mag z).length < 1000000000) :
    Calls Tryd.prog 24 #[wv z A c] w fun e w' => e = .returned (.string ⟨(wholeT z).toArray⟩) ∧ Below w.heap.size w w' := by
  have := whole_Text ok (ng z) A c _ w h hc hb; rwa [zv_mag] at this
theorem cNeg {ok : Nat → Prop} {z : Int} {A : Option Addr} {c : Nat} {w : World} (h : Rd ok w A (mag z)) (hc : (mag z).length ≤ c) :
    Calls Tryd.prog 30 #[wv z A c] w (WhOut (-z) w) := by
  have := whole_Neg ok (ng z) A c _ w h hc; rwa [zv_mag] at this
section
variable {ok ok' : Nat → Prop} {z z' : Int} {A A' : Option Addr} {c c' : Nat} {w : World}
theorem cAdd (h : Rd ok w A (mag z)) (hc : (mag z).length ≤ c) (h' : Rd ok' w A' (mag z')) (hc' : (mag z').length ≤ c') (hb : (mag z).length < 1000000) (hb' : (mag z').length < 1000000) :
    Calls Tryd.prog 13 #[wv z A c, wv z' A' c'] w (WhOut (z + z') w) := by
  have := whole_Add ok (ng z) A c _ ok' (ng z') A' c' _ w h hc h' hc' (by omega) (by omega); rwa [zv_mag, zv_mag] at this
theorem cSub (h : Rd ok w A (mag z)) (hc : (mag z).length ≤ c) (h' : Rd ok' w A' (mag z')) (hc' : (mag z').length ≤ c') (hb : (mag z).length < 1000000) (hb' : (mag z').length < 1000000) :
    Calls Tryd.prog 15 #[wv z A c, wv z' A' c'] w (WhOut (z - z') w) := by
  have := whole_Sub ok (ng z) A c _ ok' (ng z') A' c' _ w h hc h' hc' (by omega) (by omega); rwa [zv_mag, zv_mag] at this
theorem cMul (h : Rd ok w A (mag z)) (hc : (mag z).length ≤ c) (h' : Rd ok' w A' (mag z')) (hc' : (mag z').length ≤ c') (hb : (mag z).length < 1000000) (hb' : (mag z').length < 1000000) :
    Calls Tryd.prog 17 #[wv z A c, wv z' A' c'] w (WhOut (z * z') w) := by
  have := whole_Mul ok (ng z) A c _ ok' (ng z') A' c' _ w h hc h' hc' (by omega) (by omega); rwa [zv_mag, zv_mag] at this
theorem cCmp (h : Rd ok w A (mag z)) (hc : (mag z).length ≤ c) (h' : Rd ok' w A' (mag z')) (hc' : (mag z').length ≤ c') (hb : (mag z).length < 1000000) (hb' : (mag z').length < 1000000) :
    Calls Tryd.prog 26 #[wv z A c, wv z' A' c'] w fun e w' => e = .returned (.int .i64 (sgI (z - z'))) ∧ Below w.heap.size w w' := by
  have := whole_Cmp ok (ng z) A c _ ok' (ng z') A' c' _ w h hc h' hc' (by omega) (by omega); rwa [zv_mag, zv_mag] at this
/-- What whole.Floor gives. -/
def FlOut (q r : Int) (w : World) (e : Ending) (w' : World) : Prop := ∃ A1 c1 A2 c2, e = .returned (.tuple #[.agg #[.bool (ng q), .slice A1 (mag q).length c1], .agg #[.bool (ng r), .slice A2 (mag r).length c2], .bool true]) ∧ (mag q).length ≤ c1 ∧ (mag r).length ≤ c2 ∧ Rd (fun k => w.heap.size ≤ k) w' A1 (mag q) ∧ Rd (fun k => w.heap.size ≤ k) w' A2 (mag r) ∧ Below w.heap.size w w'
theorem cFloor (h : Rd ok w A (mag z)) (hc : (mag z).length ≤ c) (h' : Rd ok' w A' (mag z')) (hc' : (mag z').length ≤ c') (hb : (mag z).length < 1000000) (hb' : (mag z').length < 1000000) (hz : z' ≠ 0) :
    Calls Tryd.prog 19 #[wv z A c, wv z' A' c'] w (FlOut (fq z z') (fr z z') w) := by
  have := whole_Floor ok (ng z) A c _ ok' (ng z') A' c' _ w h hc h' hc' (by omega) (by omega) (by rw [val_mag]; omega); rwa [zv_mag, zv_mag] at this
end
end Go.Proofs.YthjpkichpkomcaaDoor
