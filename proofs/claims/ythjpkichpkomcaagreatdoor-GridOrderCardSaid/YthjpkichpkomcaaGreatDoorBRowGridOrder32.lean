/- RowC -/
import Derived.Test.YthjpkichpkomcaaGreatDoorBRowGridOrder31
/- Rows of fractions (row): norm, Scale, Dot. -/
namespace Go.Proofs.YthjpkichpkomcaaGreatDoor
open Go.RowKit Go.Proofs.YthjpkichpkomcaaGreatDoor.Big
set_option linter.unusedVariables false
set_option maxRecDepth 100000
attribute [local go_sem ↓] Go.wp_at_zero Go.wp_at_succ

/-- A right fraction, as it lies. -/
def Rt (x : RF) : Prop := x.n = ng x.q.num ∧ x.l = mag x.q.num ∧ x.d = rep x.q.den
theorem QF_Rt (q : Rat) (A : Option Addr) (c : Nat) (A' : Option Addr) (c' : Nat) : Rt (QF q A c A' c') := by
  unfold Rt
  rw [QF_q]
  exact ⟨rfl, rfl, rfl⟩
/-- A row that was made, of right fractions of these values. -/
def RowOut (qs : List Rat) (w : World) (e : Ending) (w' : World) : Prop := ∃ v ys, e = .returned v ∧ OwE 30 w.heap.size (fun k => w.heap.size ≤ k) w' v (ys : List RF) ∧ ys.map RF.q = qs ∧ (∀ y ∈ ys, Rt y) ∧ Below w.heap.size w w'
theorem sz_ok {p : Nat → Prop} {w : World} {x : RF} (h : x.ok p w) : Sz 10000 x.q := sz_raw h h.2.2.2.2.1 h.2.2.2.2.2 (by decide)

set_option maxHeartbeats 1000000 in
theorem row_norm (p : Nat → Prop) (A : Option Addr) (c : Nat) (xs : List RF) (w : World) (h : Rw p w A xs) (hc : xs.length ≤ c) (hl : xs.length ≤ 100000) :
    Calls Tryz.prog 142 #[.slice A xs.length c] w (RowOut (xs.map RF.q) w) := by
  obtain ⟨i0, hi, hi0, hi1, hi2⟩ := info_parts info_frac
  go_enter Tryz.func142, Tryz.ntmps142
  go_wp2_with fail
  go_loopw [3, 8] (fun v i wq => ∃ (k : Nat) (ys : List RF), k ≤ xs.length ∧ i = .int .i64 (k : Int) ∧ Asd (OwE 30 w.heap.size (fun k => w.heap.size ≤ k) wq v ys) ∧ Asd (ys.map RF.q = (xs.take k).map RF.q) ∧ Asd (∀ y ∈ ys, Rt y) ∧ Asd (Below w.heap.size w wq)) (fun _ i _ => (xs.length - intOf i).toNat)
  case atStart => exact ⟨0, [], Nat.zero_le _, rfl, ⟨OwE.nil _ _ _ _⟩, ⟨by simp⟩, ⟨by simp⟩, ⟨Below.refl _ _⟩⟩
  case round =>
    obtain ⟨k, ys, hk, rfl, HO, HQ, HR, HB⟩ := hrel
    by_cases hkl : k < xs.length
    · obtain ⟨x, hx⟩ : ∃ x, xs[k]? = some x := ⟨_, List.getElem?_eq_getElem hkl⟩
      obtain ⟨ad, rfl, hp, hok, hc0, hc1, hc2⟩ := (h.below HB.out).cells3 hx
      have hsz := HB.out.size
      have hyl : ys.length = k := by have := congrArg List.length HQ.out; simp at this; omega
      have hok1 := hok.alloc (.cells #[.bool x.n, .slice x.A x.l.length x.c, .slice x.A' x.d.length x.c'] 30)
      have HO1 := HO.out.alloc (.cells #[.bool x.n, .slice x.A x.l.length x.c, .slice x.A' x.d.length x.c'] 30)
      have HB1 := HB.out.alloc hsz (.cells #[.bool x.n, .slice x.A x.l.length x.c, .slice x.A' x.d.length x.c'] 30)
      have hs0 : (wr.alloc (.cells #[.bool x.n, .slice x.A x.l.length x.c, .slice x.A' x.d.length x.c'] 30)).heap.size = wr.heap.size + 1 := World.size_alloc _ _
      have hlt := fun g e => (HO.out.lt g e).2
      go_wp2_with fail
      refine (frac_Norm _ x _ hok1).mono ?_
      generalize wr.alloc (.cells #[.bool x.n, .slice x.A x.l.length x.c, .slice x.A' x.d.length x.c'] 30) = V at *
      rintro e w1 ⟨X, cx, Y, cy, rfl, hcx, hcy, hrx, hry, hb1⟩
      have hO1 := HO1.below hb1
      have hB1 := below_go HB1 hb1
      have hs1 := hb1.size
      have hyok := QF_ok (q := x.q) hrx hcx hry hcy (sz_ok hok)
      go_wp2_with (at_builtin; refine wpList_push rfl _ _ 68 rfl _ _ 30 i0 _ 56 Tryz.underlying68 hi hi0 hi1 hi2 rfl _ _ rfl (QF x.q X cx Y cy) w1 rfl hO1 (Elm.mono (α := RF) hyok (fun k _ hk => ⟨by omega, .inr fun e => by have := hlt k e; omega⟩)) (by omega) (by omega) (by decide) ?_)
      intro v' w4 hP hgrow hown
      go_wp2
      go_roundw
      case rel => exact ⟨k + 1, _, by omega, by go_num, ⟨hP⟩, ⟨by rw [take_more hx, List.map_append, List.map_append, HQ.out]; simp [QF_q]⟩, ⟨fun y hy => by
        rcases List.mem_append.1 hy with h1 | h1
        · exact HR.out y h1
        · rw [List.mem_singleton.1 h1]; exact QF_Rt _ _ _ _ _⟩, ⟨hB1.grown hgrow (by omega) (fun g hg => (hown g hg).1)⟩⟩
      case measure => simp [intOf]; omega
    · go_wp2
      go_ret
      have e : xs.take k = xs := List.take_of_length_le (by omega)
      rw [e] at HQ
      exact ⟨_, ys, rfl, HO.out, HQ.out, HR.out, HB.out⟩
set_option maxHeartbeats 1000000 in
theorem row_Scale (pc p : Nat → Prop) (x0 : RF) (A : Option Addr) (c : Nat) (xs : List RF) (w : World) (hx0 : x0.ok pc w) (h : Rw p w A xs) (hc : xs.length ≤ c) (hl : xs.length ≤ 100000) (hsm : ∀ x ∈ xs, Sz 10000 (x0.q * x.q)) :
    Calls Tryz.prog 85 #[.agg #[.bool x0.n, .slice x0.A x0.l.length x0.c, .slice x0.A' x0.d.length x0.c'], .slice A xs.length c] w (RowOut (xs.map (fun x => x0.q * x.q)) w) := by
  obtain ⟨i0, hi, hi0, hi1, hi2⟩ := info_parts info_frac
  go_enter Tryz.func85, Tryz.ntmps85
  go_wp2_with fail
  have XA0 := Blk.new w [.bool x0.n, .slice x0.A x0.l.length x0.c, .slice x0.A' x0.d.length x0.c'] 30
  have rx0 := hx0.alloc (.cells #[.bool x0.n, .slice x0.A x0.l.length x0.c, .slice x0.A' x0.d.length x0.c'] 30)
  have rh := h.alloc (.cells #[.bool x0.n, .slice x0.A x0.l.length x0.c, .slice x0.A' x0.d.length x0.c'] 30)
  have hb0 := (Below.refl w.heap.size w).alloc (Nat.le_refl _) (.cells #[.bool x0.n, .slice x0.A x0.l.length x0.c, .slice x0.A' x0.d.length x0.c'] 30)
  have hlW := XA0.lt
  generalize w.alloc (.cells #[.bool x0.n, .slice x0.A x0.l.length x0.c, .slice x0.A' x0.d.length x0.c'] 30) = W at *
  clear hx0 h
  go_loopw [5, 10] (fun v i wq => ∃ (k : Nat) (ys : List RF), k ≤ xs.length ∧ i = .int .i64 (k : Int) ∧ Asd (OwE 30 W.heap.size (fun k => W.heap.size ≤ k) wq v ys) ∧ Asd (ys.map RF.q = (xs.take k).map (fun x => x0.q * x.q)) ∧ Asd (∀ y ∈ ys, Rt y) ∧ Asd (Below W.heap.size W wq)) (fun _ i _ => (xs.length - intOf i).toNat)
  case atStart => exact ⟨0, [], Nat.zero_le _, rfl, ⟨OwE.nil _ _ _ _⟩, ⟨by simp⟩, ⟨by simp⟩, ⟨Below.refl _ _⟩⟩
  case round =>
    obtain ⟨k, ys, hk, rfl, HO, HQ, HR, HB⟩ := hrel
    by_cases hkl : k < xs.length
    · obtain ⟨x, hx⟩ : ∃ x, xs[k]? = some x := ⟨_, List.getElem?_eq_getElem hkl⟩
      obtain ⟨ad, rfl, hp, hok, hc0, hc1, hc2⟩ := (rh.below HB.out).cells3 hx
      have hszx := hsm x (List.mem_of_getElem? hx)
      have hsz := HB.out.size
      have hyl : ys.length = k := by have := congrArg List.length HQ.out; simp at this; omega
      have XA := (XA0.below HB.out).alloc (.cells #[.bool x.n, .slice x.A x.l.length x.c, .slice x.A' x.d.length x.c'] 30)
      have hoc := (rx0.below HB.out).alloc (.cells #[.bool x.n, .slice x.A x.l.length x.c, .slice x.A' x.d.length x.c'] 30)
      have hok1 := hok.alloc (.cells #[.bool x.n, .slice x.A x.l.length x.c, .slice x.A' x.d.length x.c'] 30)
      have HO1 := HO.out.alloc (.cells #[.bool x.n, .slice x.A x.l.length x.c, .slice x.A' x.d.length x.c'] 30)
      have HB1 := HB.out.alloc hsz (.cells #[.bool x.n, .slice x.A x.l.length x.c, .slice x.A' x.d.length x.c'] 30)
      have XE := Blk.new wr [.bool x.n, .slice x.A x.l.length x.c, .slice x.A' x.d.length x.c'] 30
      have hs0 : (wr.alloc (.cells #[.bool x.n, .slice x.A x.l.length x.c, .slice x.A' x.d.length x.c'] 30)).heap.size = wr.heap.size + 1 := World.size_alloc _ _
      have hlt := fun g e => (HO.out.lt g e).2
      have a0 := XA.c 0 rfl; have a1 := XA.c 1 rfl; have a2 := XA.c 2 rfl
      go_wp2_with fail
      refine (frac_Mul _ _ x0 x _ hoc hok1).mono ?_
      generalize wr.alloc (.cells #[.bool x.n, .slice x.A x.l.length x.c, .slice x.A' x.d.length x.c'] 30) = V at *
      rintro e w1 ⟨X, cx, Y, cy, rfl, hcx, hcy, hrx, hry, hb1⟩
      have hO1 := HO1.below hb1
      have hB1 := below_go HB1 hb1
      have hs1 := hb1.size
      have hyok := QF_ok (q := x0.q * x.q) hrx hcx hry hcy hszx
      clear XE XA a0 a1 a2
      go_wp2_with (at_builtin; refine wpList_push rfl _ _ 68 rfl _ _ 30 i0 _ 56 Tryz.underlying68 hi hi0 hi1 hi2 rfl _ _ rfl (QF (x0.q * x.q) X cx Y cy) w1 rfl hO1 (Elm.mono (α := RF) hyok (fun k _ hk => ⟨by omega, .inr fun e => by have := hlt k e; omega⟩)) (by omega) (by omega) (by decide) ?_)
      intro v' w4 hP hgrow hown
      go_wp2
      go_roundw
      case rel => exact ⟨k + 1, _, by omega, by go_num, ⟨hP⟩, ⟨by rw [take_more hx, List.map_append, List.map_append, HQ.out]; simp [QF_q]⟩, ⟨fun y hy => by
        rcases List.mem_append.1 hy with h1 | h1
        · exact HR.out y h1
        · rw [List.mem_singleton.1 h1]; exact QF_Rt _ _ _ _ _⟩, ⟨hB1.grown hgrow (by omega) (fun g hg => (hown g hg).1)⟩⟩
      case measure => simp [intOf]; omega
    · go_wp2
      go_ret
      have e : xs.take k = xs := List.take_of_length_le (by omega)
      rw [e] at HQ
      exact ⟨_, ys, rfl, HO.out.low (by omega) (fun k _ hk => by omega), HQ.out, HR.out, below_go hb0 HB.out⟩
end Go.Proofs.YthjpkichpkomcaaGreatDoor
