/- GIn -/
import Derived.Test.YthjpkichpkomcaaGreatDoorBRowGridOrder47
/- Rows and matrices that came in and aren't too long: they can be read. -/
namespace Go.Proofs.YthjpkichpkomcaaGreatDoor
open Go.RowKit Go.Proofs.YthjpkichpkomcaaGreatDoor.Big
set_option linter.unusedVariables false

theorem longR_no {many words : Nat} {cs : List RC} (h : longR many words cs = false) : cs.length ≤ many ∧ ∀ r ∈ cs, r.x.l.length ≤ words ∧ r.x.d.length ≤ words := by
  unfold longR at h
  rw [Bool.or_eq_false_iff, decide_eq_false_iff_not] at h
  refine ⟨by omega, fun r hr => ?_⟩
  have h1 := List.any_eq_false.1 h.1 r (by rw [List.take_of_length_le (by omega)]; exact hr)
  simp only [Bool.or_eq_true, decide_eq_true_eq] at h1
  omega
theorem longM_no {many words : Nat} {rs : List (RV RC)} (h : longM many words rs = false) : rs.length ≤ many ∧ ∀ r ∈ rs, longR many words r.l = false := by
  unfold longM at h
  rw [Bool.or_eq_false_iff, decide_eq_false_iff_not] at h
  refine ⟨by omega, fun r hr => ?_⟩
  have h1 := List.any_eq_false.1 h.1 r (by rw [List.take_of_length_le (by omega)]; exact hr)
  simpa using h1
/-- A matrix that came in and isn't too long: it can be read. -/
theorem rw_in {p : Nat → Prop} {w : World} {A : Option Addr} {rs : List (RV RC)} {many words : Nat} (h : Rw p w A rs) (hL : longM many words rs = false) (hk : words ≤ 10000) (hk1 : 1 ≤ words) :
    Rw p w A (rs.map rvx) ∧ (rs.map rvx).length ≤ many ∧ (∀ r ∈ rs.map rvx, r.l.length ≤ many) ∧ (∀ r ∈ rs.map rvx, ∀ x ∈ r.l, Sz words x.q) := by
  obtain ⟨h1, h2⟩ := longM_no hL
  have hr := h.raw2 (fun r hr y hy => by have := (longR_no (h2 r hr)).2 y hy; omega)
  refine ⟨hr, by rw [List.length_map]; exact h1, fun r hr1 => ?_, fun r hr1 x hx => ?_⟩
  · obtain ⟨r0, hr0, rfl⟩ := List.mem_map.1 hr1
    show (r0.l.map RC.x).length ≤ many
    rw [List.length_map]; exact (longR_no (h2 r0 hr0)).1
  · have hm := (hr.mem hr1).1.mem hx
    obtain ⟨r0, hr0, rfl⟩ := List.mem_map.1 hr1
    obtain ⟨y, hy, rfl⟩ := List.mem_map.1 (show x ∈ r0.l.map RC.x from hx)
    have h3 := (longR_no (h2 r0 hr0)).2 y hy
    exact sz_raw (hm : y.x.ok p w) h3.1 h3.2 hk1
theorem rw_in1 {p : Nat → Prop} {w : World} {A : Option Addr} {cs : List RC} {many words : Nat} (h : Rw p w A cs) (hL : longR many words cs = false) (hk : words ≤ 10000) (hk1 : 1 ≤ words) :
    Rw p w A (cs.map RC.x) ∧ (cs.map RC.x).length ≤ many ∧ (∀ x ∈ cs.map RC.x, Sz words x.q) := by
  obtain ⟨h1, h2⟩ := longR_no hL
  have hr := h.raw (fun r hr => by have := h2 r hr; omega)
  refine ⟨hr, by rw [List.length_map]; exact h1, fun x hx => ?_⟩
  have hm := hr.mem hx
  obtain ⟨y, hy, rfl⟩ := List.mem_map.1 hx
  exact sz_raw (hm : y.x.ok p w) (h2 y hy).1 (h2 y hy).2 hk1
end Go.Proofs.YthjpkichpkomcaaGreatDoor
