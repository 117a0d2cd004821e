/- OpenA · OpenF -/
import Derived.Test.YthjpkichpkomcaaGreatDoorRowBase
import Derived.Test.YthjpkichpkomcaaGreatDoorBRowFigureNear22
import Derived.Deep.Slices
import Derived.Deep.Fields
/- What came in, as the walks read it: lists by their elements, structs of three. -/
namespace Go.Proofs.YthjpkichpkomcaaGreatDoor
open Go.ChangeShapes Go.WideShapes Go.ChangeAt Go.RowKit Go.Lib Go.Proofs.YthjpkichpkomcaaGreatDoor.Big Go.Deep
set_option linter.unusedVariables false
set_option maxRecDepth 100000

/-- From 'for every i below n there is one' to a list of them. -/
theorem list_of {α : Type} : ∀ (n : Nat) {p : Nat → α → Prop}, (∀ i, i < n → ∃ x, p i x) → ∃ l : List α, l.length = n ∧ ∀ (i : Nat) (x : α), l[i]? = some x → p i x
  | 0, _, _ => ⟨[], rfl, fun i x h => by simp at h⟩
  | n + 1, p, h => by
    obtain ⟨x, hx⟩ := h 0 (by omega)
    obtain ⟨l, hl, hp⟩ := list_of n (p := fun i => p (i + 1)) (fun i hi => h (i + 1) (by omega))
    refine ⟨x :: l, by simp [hl], fun i y hy => ?_⟩
    cases i with
    | zero => simp at hy; subst hy; exact hx
    | succ i => exact hp i y (by simpa using hy)

section
variable {H : Type} {enc : TypeId × Value → H} {W : World} {held : Bool}
theorem rc_of {neg nn dd : Value} {n : Nat} {y0 y1 y2 : DataW H × List MemPlace}
    (h0 : DataW.trod enc Tryz.prog W 0 (fun _ => true) held n 4 [neg] = some y0) (h1 : DataW.trod enc Tryz.prog W 0 (fun _ => true) held n 22 [nn] = some y1) (h2 : DataW.trod enc Tryz.prog W 0 (fun _ => true) held n 22 [dd] = some y2) :
    ∃ r : RC, neg = .bool r.x.n ∧ nn = .slice r.x.A r.x.l.length r.x.c ∧ dd = .slice r.x.A' r.x.d.length r.x.c' ∧ r.ok (fun _ => True) W := by
  obtain ⟨b, hb, -⟩ := DataW.trod_bool Tryz.underlying4 h0
  obtain ⟨A, c, l, hcs, hle, hr⟩ := rd_of_ints h1 (fun _ => rfl)
  obtain ⟨A', c', l', hcs', hle', hr'⟩ := rd_of_ints h2 (fun _ => rfl)
  simp only [List.cons.injEq, and_true] at hb hcs hcs'
  exact ⟨⟨⟨b, A, c, l, A', c', l'⟩⟩, hb, hcs, hcs', hle, hle', fun hl => hr (Nat.le_trans hl (by decide)), fun hl => hr' (Nat.le_trans hl (by decide))⟩

/-- A struct of three fields of one cell each, of cells. -/
theorem trod3 {e : TypeId} {f0 f1 f2 : Field} {c0 c1 c2 : Value} {n : Nat} {x : DataW H × List MemPlace} (he : Tryz.prog.underlying e = some (.struct #[f0, f1, f2])) (hone : oneCellFields Tryz.prog #[f0, f1, f2] = true)
    (ht : DataW.trod enc Tryz.prog W 0 (fun _ => true) held n e [c0, c1, c2] = some x) :
    ∃ (n' : Nat) (y0 y1 y2 : DataW H × List MemPlace), DataW.trod enc Tryz.prog W 0 (fun _ => true) held n' f0.type [c0] = some y0 ∧ DataW.trod enc Tryz.prog W 0 (fun _ => true) held n' f1.type [c1] = some y1 ∧ DataW.trod enc Tryz.prog W 0 (fun _ => true) held n' f2.type [c2] = some y2 := by
  obtain ⟨ys, n', -, -, -, hyl, hf⟩ := DataW.trod_struct he ht
  obtain ⟨o0, k0⟩ := hone_of hone 0 f0 rfl
  obtain ⟨o1, k1⟩ := hone_of hone 1 f1 rfl
  obtain ⟨o2, k2⟩ := hone_of hone 2 f2 rfl
  match ys, hyl with
  | [y0, y1, y2], _ => exact ⟨n', y0, y1, y2, by simpa [o0, k0] using hf 0 f0 rfl, by simpa [o1, k1] using hf 1 f1 rfl, by simpa [o2, k2] using hf 2 f2 rfl⟩

end
end Go.Proofs.YthjpkichpkomcaaGreatDoor
/- Fractions, rows and matrices that came in, as the walks read them. -/
namespace Go.Proofs.YthjpkichpkomcaaGreatDoor
open Go.ChangeShapes Go.WideShapes Go.ChangeAt Go.RowKit Go.Lib Go.Proofs.YthjpkichpkomcaaGreatDoor.Big Go.Deep
set_option linter.unusedVariables false
set_option maxRecDepth 100000

section
variable {H : Type} {enc : TypeId × Value → H} {W : World} {held : Bool}
/-- A fraction that came in. -/
theorem open_frac {v : Value} {d : DataW H} {p : List MemPlace} (hv : Value.okWide Tryz.prog W .any 0 24 v) (h : DataW.Trod enc Tryz.prog W 0 (fun _ => true) held 24 v d p) :
    ∃ r : RC, v = .agg #[.bool r.x.n, .slice r.x.A r.x.l.length r.x.c, .slice r.x.A' r.x.d.length r.x.c'] ∧ r.ok (fun _ => True) W := by
  obtain ⟨v0, v1, v2, y0, y1, y2, m, rfl, -, -, t0, t1, t2⟩ := Go.Joins.open_agg3 Tryz.underlying24 (by kernel_rfl) (by kernel_rfl) hv h
  obtain ⟨r, rfl, rfl, rfl, hr⟩ := rc_of t0 t1 t2
  exact ⟨r, rfl, hr⟩

/-- A row that came in, of cells. -/
theorem row_of {fuel : Nat} {cs : List Value} {x : DataW H × List MemPlace} (h : DataW.trod enc Tryz.prog W 0 (fun _ => true) held fuel 55 cs = some x) :
    ∃ (A : Option Addr) (c : Nat) (l : List RC), cs = [.slice A l.length c] ∧ l.length ≤ c ∧ Rw (fun _ => True) W A l := by
  rcases open_slice Tryz.underlying55 h with ⟨hcs, _⟩ | ⟨a, len, cap, m, n, D, Pl, hcs, -, hl, -, hm, -, hx⟩
  · exact ⟨none, 0, [], hcs, Nat.le_refl _, Rw.nil _ _ _⟩
  · have hC : Tryz.prog.cellsOf 24 = 3 := by kernel_rfl
    rw [hC] at hx
    replace hm : m = cap := by rw [hm]; rfl
    have key : ∀ i, i < len → ∃ r : RC, (∀ (j : Nat) (u : Value), (Elm.vals r)[j]? = some u → W.cell? (a.add (i * 3 + j)) = some u) ∧ r.ok (fun _ => True) W := fun i hi => by
      obtain ⟨cs', hc, ht⟩ := hx i (by omega)
      obtain ⟨_, hcl, hat⟩ := World.cells?_some hc
      match cs', hcl with
      | [c0, c1, c2], _ =>
        obtain ⟨n', y0, y1, y2, t0, t1, t2⟩ := trod3 Tryz.underlying24 (by kernel_rfl) ht
        obtain ⟨r, e0, e1, e2, hr⟩ := rc_of t0 t1 t2
        refine ⟨r, fun j u hu => ?_, hr⟩
        have h0 := hat 0 (by omega); have h1 := hat 1 (by omega); have h2 := hat 2 (by omega)
        rw [Go.Deep.add_add] at h0 h1 h2
        simp only [List.getElem?_cons_zero, List.getElem?_cons_succ] at h0 h1 h2
        rcases j with _ | _ | _ | j
        · rw [h0, e0]; exact hu
        · rw [h1, e1]; exact hu
        · rw [h2, e2]; exact hu
        · have := (List.getElem?_eq_some_iff.1 hu).1
          rw [Elm.len] at this
          exact absurd this (by show ¬ (j + 1 + 1 + 1 < 3); omega)
    obtain ⟨l, hll, hp⟩ := list_of len key
    refine ⟨some a, cap, l, by rw [hll]; exact hcs, by omega, fun _ => ⟨a, rfl, trivial, fun k x hk j u hu => (hp k x hk).1 j u hu⟩, fun x hx => ?_⟩
    obtain ⟨k, hk⟩ := List.mem_iff_getElem?.1 hx
    exact (hp k x hk).2

/-- A matrix that came in, of cells. -/
theorem mat_of {fuel : Nat} {cs : List Value} {x : DataW H × List MemPlace} (h : DataW.trod enc Tryz.prog W 0 (fun _ => true) held fuel 46 cs = some x) :
    ∃ (A : Option Addr) (c : Nat) (l : List (RV RC)), cs = [.slice A l.length c] ∧ l.length ≤ c ∧ Rw (fun _ => True) W A l := by
  rcases open_slice1 Tryz.underlying46 (by kernel_rfl) h with ⟨hcs, _⟩ | ⟨a, len, cap, m, n, V, D, Pl, hcs, -, hl, -, hm, -, hx⟩
  · exact ⟨none, 0, [], hcs, Nat.le_refl _, Rw.nil _ _ _⟩
  · replace hm : m = cap := by rw [hm]; rfl
    have key : ∀ i, i < len → ∃ r : RV RC, W.cell? (a.add i) = some (.slice r.A r.l.length r.c) ∧ Rw (fun _ => True) W r.A r.l ∧ r.l.length ≤ r.c := fun i hi => by
      obtain ⟨h1, h2⟩ := hx i (by omega)
      obtain ⟨A, c, l, e, hle, hr⟩ := row_of h2
      simp only [List.cons.injEq, and_true] at e
      exact ⟨⟨A, c, l⟩, by rw [h1, e], hr, hle⟩
    obtain ⟨l, hll, hp⟩ := list_of len key
    refine ⟨some a, cap, l, by rw [hll]; exact hcs, by omega, fun _ => ⟨a, rfl, trivial, fun k x hk j u hu => ?_⟩, fun x hx => ?_⟩
    · have := (List.getElem?_eq_some_iff.1 hu).1
      rw [Elm.len] at this
      have hj : j = 0 := by have : j < 1 := this; omega
      subst hj
      show W.cell? (a.add (k * 1 + 0)) = _
      rw [Nat.mul_one, Nat.add_zero, (hp k x hk).1]
      exact hu
    · obtain ⟨k, hk⟩ := List.mem_iff_getElem?.1 hx
      exact (hp k x hk).2

theorem open_row {v : Value} {d : DataW H} {p : List MemPlace} (hv : Value.okWide Tryz.prog W .any 0 55 v) (h : DataW.Trod enc Tryz.prog W 0 (fun _ => true) held 55 v d p) :
    ∃ (A : Option Addr) (c : Nat) (l : List RC), v = .slice A l.length c ∧ l.length ≤ c ∧ Rw (fun _ => True) W A l := by
  obtain ⟨a, len, cap, rfl⟩ := okWide_slice Tryz.underlying55 hv
  obtain ⟨fuel, hf⟩ := h
  obtain ⟨A, c, l, e, hc, hr⟩ := row_of hf
  exact ⟨A, c, l, by simpa [Value.cells] using e, hc, hr⟩
theorem open_mat {v : Value} {d : DataW H} {p : List MemPlace} (hv : Value.okWide Tryz.prog W .any 0 46 v) (h : DataW.Trod enc Tryz.prog W 0 (fun _ => true) held 46 v d p) :
    ∃ (A : Option Addr) (c : Nat) (l : List (RV RC)), v = .slice A l.length c ∧ l.length ≤ c ∧ Rw (fun _ => True) W A l := by
  obtain ⟨a, len, cap, rfl⟩ := okWide_slice Tryz.underlying46 hv
  obtain ⟨fuel, hf⟩ := h
  obtain ⟨A, c, l, e, hc, hr⟩ := mat_of hf
  exact ⟨A, c, l, by simpa [Value.cells] using e, hc, hr⟩
end
end Go.Proofs.YthjpkichpkomcaaGreatDoor
