/- RowF -/
import Derived.Test.YthjpkichpkomcaaGreatDoorBRowFigureNear30
/- Rows of fractions (row): Zero, Unit: made at one go, written in place. -/
namespace Go.Proofs.YthjpkichpkomcaaGreatDoor
open Go.RowKit Go.Proofs.YthjpkichpkomcaaGreatDoor.Big
set_option linter.unusedVariables false
set_option maxRecDepth 100000
attribute [local go_sem ↓] Go.wp_at_zero Go.wp_at_succ

/-- What 'make' lays. -/
def zeroRF : RF := ⟨false, none, 0, [], none, 0, []⟩
theorem zeroRF_q : zeroRF.q = 0 := by
  unfold zeroRF RF.q
  show Rat.divInt (zv false []) (val []) = 0
  rw [show val [] = 0 from rfl, Rat.divInt_zero]
theorem zeroRF_ok (p : Nat → Prop) (w : World) : zeroRF.ok p w := ⟨Rd.nil _ _ _, Nat.le_refl _, Rd.nil _ _ _, Nat.le_refl _, Nat.zero_le _, Nat.zero_le _⟩
theorem made_len : ∀ n : Nat, ((List.replicate n zeroRF).flatMap Elm.vals).length = n * 3
  | 0 => rfl
  | n + 1 => by rw [List.replicate_succ, List.flatMap_cons, List.length_append, made_len n, show (Elm.vals zeroRF).length = 3 from rfl]; omega
theorem made3 (n : Nat) : (madeCells #[.bool false, .slice none 0 0, .slice none 0 0] (n * 3)).toList = (List.replicate n zeroRF).flatMap Elm.vals := by
  apply List.ext_getElem?
  intro i
  by_cases hi : i < n * 3
  · obtain ⟨m, r, rfl, hr, hm⟩ : ∃ m r, i = m * 3 + r ∧ r < 3 ∧ m < n := ⟨i / 3, i % 3, by omega, by omega, by omega⟩
    have h1 : (List.replicate n zeroRF)[m]? = some zeroRF := by rw [List.getElem?_replicate, if_pos hm]
    have h4 : (madeCells #[.bool false, .slice none 0 0, .slice none 0 0] (n * 3)).toList[m * 3 + r]? = some ((#[.bool false, .slice none 0 0, .slice none 0 0] : Array Value)[(m * 3 + r) % 3]!) := by
      simp [madeCells, hi]
    rw [h4, show (m * 3 + r) % 3 = r by omega]
    match r, hr with
    | 0, _ => exact (flat_get _ m zeroRF h1 0 _ rfl).symm
    | 1, _ => exact (flat_get _ m zeroRF h1 1 _ rfl).symm
    | 2, _ => exact (flat_get _ m zeroRF h1 2 _ rfl).symm
  · rw [List.getElem?_eq_none, List.getElem?_eq_none]
    · rw [made_len n]; omega
    · rw [Array.length_toList, size_madeCells]; omega

/-- 'make([]Frac, n)'. -/
theorem make_frac (w : World) (n : Nat) (hn : n ≤ 100000) : (Instr.makeSlice 68 (.int .i64 (n : Int)) (.int .i64 (n : Int))).run Tryz.prog w = .ok (.slice (some ⟨w.heap.size, 0, none⟩) n n) (w.alloc (.cells (madeCells #[.bool false, .slice none 0 0, .slice none 0 0] (n * 3)) 30)) ∧
    ∀ B q, B ≤ w.heap.size → OwE 30 B q (w.alloc (.cells (madeCells #[.bool false, .slice none 0 0, .slice none 0 0] (n * 3)) 30)) (.slice (some ⟨w.heap.size, 0, none⟩) n n) (List.replicate n zeroRF) := by
  obtain ⟨i0, hi, hz0, hz1, hz2⟩ := info_parts info_frac
  refine ⟨?_, ?_⟩
  · have hr := run_make (P := Tryz.prog) w 68 30 i0 (.agg #[.bool false, .slice none 0 0, .slice none 0 0]) Tryz.underlying68 hi hz0 .i64 .i64 n n (by omega) (Int.le_refl _) (by rw [hz2]; omega) (by omega)
    simp only [Int.toNat_natCast, hz1] at hr
    simpa [Value.cells] using hr
  · intro B q hB
    have h1 := World.ownsRow_lit (base := B) (e := 30) (size := 3) w (madeCells #[.bool false, .slice none 0 0, .slice none 0 0] (n * 3)) n hB (by unfold maxLen; omega) (size_madeCells _ _)
    rw [made3] at h1
    refine ⟨?_, fun x hx => ?_⟩
    · rw [List.length_replicate]; exact h1
    · rw [(List.mem_replicate.1 hx).2]; exact zeroRF_ok _ _

/-- One element of a row of the call's own, written. -/
theorem flat_set3 : ∀ (xs : List RF) (k : Nat) (y : RF), k < xs.length → (((xs.flatMap Elm.vals).set (k * 3) (.bool y.n)).set (k * 3 + 1) (.slice y.A y.l.length y.c)).set (k * 3 + 2) (.slice y.A' y.d.length y.c') = (xs.set k y).flatMap Elm.vals
  | [], k, y, hk => by simp at hk
  | x :: r, 0, y, hk => by
    rw [List.flatMap_cons, List.set_cons_zero, List.flatMap_cons]; rfl
  | x :: r, k + 1, y, hk => by
    have ih := flat_set3 r k y (by simpa using hk)
    rw [List.flatMap_cons, List.set_cons_succ, List.flatMap_cons, ← ih]
    have hl : (Elm.vals x).length = 3 := rfl
    rw [show (k + 1) * 3 = 3 + k * 3 by omega, List.set_append_right _ _ (by rw [hl]; omega), List.set_append_right _ _ (by rw [hl]; omega), List.set_append_right _ _ (by rw [hl]; omega), hl]
    congr 1
    rw [show 3 + k * 3 - 3 = k * 3 by omega, show 3 + k * 3 + 1 - 3 = k * 3 + 1 by omega, show 3 + k * 3 + 2 - 3 = k * 3 + 2 by omega]
theorem OwE.store {t : TypeId} {B : Nat} {q : Nat → Prop} {w : World} {g n cap : Nat} {xs : List RF} (h : OwE t B q w (.slice (some ⟨g, 0, none⟩) n cap) xs) (k : Nat) (hk : k < xs.length) {y : RF} (hy : y.ok (fun k => q k ∧ g ≠ k) w) :
    OwE t B q (((w.setCell ⟨g, k * 3, none⟩ (.bool y.n)).setCell ⟨g, k * 3 + 1, none⟩ (.slice y.A y.l.length y.c)).setCell ⟨g, k * 3 + 2, none⟩ (.slice y.A' y.d.length y.c')) (.slice (some ⟨g, 0, none⟩) n cap) (xs.set k y) := by
  have hn : n = xs.length := by
    rcases h.1.2 with ⟨h1, _⟩ | ⟨g', cap', cur, h1, _⟩
    · simp at h1
    · injection h1
  subst hn
  have h0 := h.1
  have h1 := (h0.stored (k * 3) (.bool y.n)).1
  have h2 := (h1.stored (k * 3 + 1) (.slice y.A y.l.length y.c)).1
  have h3 := (h2.stored (k * 3 + 2) (.slice y.A' y.d.length y.c')).1
  refine ⟨?_, fun x hx => ?_⟩
  · rw [List.length_set, ← flat_set3 xs k y hk]; exact h3
  · have hm : x.ok (fun k => q k ∧ g ≠ k) w := by
      rcases List.mem_or_eq_of_mem_set hx with h4 | h4
      · exact RF.ok.mono (h.2 x h4) (fun k _ hk => ⟨hk.1, fun e => hk.2 (by rw [← e]; rfl)⟩)
      · rw [h4]; exact hy
    exact RF.ok.mono (((hm.setCell (by simp) _).setCell (by simp) _).setCell (by simp) _) (fun k _ hk => ⟨hk.1, fun e => hk.2 (by simpa [Value.ownBlock] using e)⟩)
theorem OwE.blk {t : TypeId} {B : Nat} {q : Nat → Prop} {w : World} {v : Value} {xs : List RF} (h : OwE t B q w v xs) (hl : 0 < xs.length) : ∃ g cap, v = .slice (some ⟨g, 0, none⟩) xs.length cap ∧ B ≤ g ∧ g < w.heap.size ∧ xs.length ≤ cap := by
  rcases h.1.2 with ⟨_, h1⟩ | ⟨g', cap', cur, h1, hb, hg, hn, _⟩
  · omega
  · exact ⟨g', cap', h1, hb, (Array.getElem?_eq_some_iff.1 hg).1, hn⟩
theorem OwE.cellsOf {t : TypeId} {B : Nat} {q : Nat → Prop} {w : World} {g n cap : Nat} {xs : List RF} (h : OwE t B q w (.slice (some ⟨g, 0, none⟩) n cap) xs) {k : Nat} {x : RF} (hk : xs[k]? = some x) :
    w.cell? ⟨g, k * 3, none⟩ = some (.bool x.n) ∧ w.cell? ⟨g, k * 3 + 1, none⟩ = some (.slice x.A x.l.length x.c) ∧ w.cell? ⟨g, k * 3 + 2, none⟩ = some (.slice x.A' x.d.length x.c') ∧ (∀ j, w.frozen? ⟨g, j, none⟩ = false) := by
  have hn : n = xs.length := by
    rcases h.1.2 with ⟨h1, _⟩ | ⟨g', cap', cur, h1, _⟩
    · simp at h1
    · injection h1
  subst hn
  have hkl := (List.getElem?_eq_some_iff.1 hk).1
  refine ⟨?_, ?_, ?_, fun j => h.1.frozenAt j⟩
  · rw [h.1.cellAt (k * 3) (by show k * 3 < xs.length * 3; omega)]; exact flat_get xs k x hk 0 _ rfl
  · rw [h.1.cellAt (k * 3 + 1) (by show k * 3 + 1 < xs.length * 3; omega)]; exact flat_get xs k x hk 1 _ rfl
  · rw [h.1.cellAt (k * 3 + 2) (by show k * 3 + 2 < xs.length * 3; omega)]; exact flat_get xs k x hk 2 _ rfl
theorem take_set_more {α : Type} {xs : List α} {k : Nat} {x y : α} (h : xs[k]? = some x) : (xs.set k y).take (k + 1) = xs.take k ++ [y] := by
  have hk := (List.getElem?_eq_some_iff.1 h).1
  rw [take_more (x := y) (by rw [List.getElem?_set_self hk]), List.take_set, List.set_eq_of_length_le (by rw [List.length_take]; omega)]

theorem sz_one : Sz 1 1 := by
  refine ⟨?_, ?_⟩
  · show (mag (1 : Rat).num).length ≤ 1
    rw [show mag (1 : Rat).num = rep 1 from rfl, rep_word (by decide) (by decide)]; exact Nat.le_refl _
  · show (rep (((1 : Rat).den : Nat) : Int)).length ≤ 1
    rw [show (((1 : Rat).den : Nat) : Int) = 1 from rfl, rep_word (by decide) (by decide)]; exact Nat.le_refl _

set_option maxHeartbeats 1000000 in
theorem row_Zero (n : Nat) (hn : n ≤ 300) (w : World) :
    Calls Tryz.prog 140 #[.int .i64 (n : Int)] w (RowOut (List.replicate n 0) w) := by
  obtain ⟨hmk, how⟩ := make_frac w n (by omega)
  have HO := Asd.mk (how w.heap.size (fun k => w.heap.size ≤ k) (Nat.le_refl _))
  have hB0 := Asd.mk ((Below.refl w.heap.size w).alloc (Nat.le_refl _) (.cells (madeCells #[.bool false, .slice none 0 0, .slice none 0 0] (n * 3)) 30))
  clear how
  have hmx : max (n : Int) 0 = n := by omega
  have hmn : min (n : Int) 300 = n := by omega
  go_enter Tryz.func140, Tryz.ntmps140
  go_wp2_with fail
  generalize w.alloc (.cells (madeCells #[.bool false, .slice none 0 0, .slice none 0 0] (n * 3)) 30) = W at *
  go_loopw [11] (fun i wq => ∃ (k : Nat) (xs : List RF), k ≤ n ∧ i = .int .i64 (k : Int) ∧ Asd (xs.length = n) ∧ Asd (OwE 30 w.heap.size (fun k => w.heap.size ≤ k) wq (.slice (some ⟨w.heap.size, 0, none⟩) n n) xs) ∧ Asd (xs.map RF.q = List.replicate n 0) ∧ Asd (∀ x ∈ xs.take k, Rt x) ∧ Asd (Below w.heap.size w wq)) (fun i _ => (n - intOf i).toNat)
  case atStart => exact ⟨0, _, Nat.zero_le _, rfl, ⟨List.length_replicate⟩, HO, ⟨by rw [List.map_replicate, zeroRF_q]⟩, ⟨by simp⟩, hB0⟩
  case round =>
    obtain ⟨k, xs, hk, rfl, HL, HX, HQ, HR, HB⟩ := hrel
    by_cases hkl : k < n
    · obtain ⟨x, hx⟩ : ∃ x, xs[k]? = some x := ⟨_, List.getElem?_eq_getElem (by rw [HL.out]; omega)⟩
      have hsz := HB.out.size
      go_wp2_with fail
      refine (frac_Of 0 (by decide) (by decide) wr).mono ?_
      rintro e w1 hfo
      obtain ⟨y, rfl, hq, hR, hok, hb1⟩ := hfo.rf (by rw [show ((0 : Int) : Rat) = 0 from rfl]; exact sz_zero.mono (by decide))
      have hX1 := HX.out.below hb1
      have hs1 := hb1.size
      have hgl := (HX.out.lt w.heap.size rfl).2
      obtain ⟨d0, d1, d2, df⟩ := hX1.cellsOf hx
      have hB1 := HB.out.trans (hb1.mono (by omega))
      have hSt := hX1.store k (by rw [HL.out]; exact hkl) (y := y) (hok.mono (fun k _ hk => ⟨by omega, by omega⟩))
      go_wp2
      go_roundw
      case rel => exact ⟨k + 1, xs.set k y, by omega, by go_num, ⟨by rw [List.length_set]; exact HL.out⟩, ⟨hSt⟩, ⟨by rw [List.map_set, HQ.out, hq]; exact List.set_replicate_self⟩, ⟨by
          rw [take_set_more hx]
          intro z hz
          rcases List.mem_append.1 hz with h1 | h1
          · exact HR.out z h1
          · rw [List.mem_singleton.1 h1]; exact hR⟩, ⟨((hB1.setCell (by simp) _).setCell (by simp) _).setCell (by simp) _⟩⟩
      case measure => simp [intOf]; omega
    · have e : xs.take k = xs := List.take_of_length_le (by rw [HL.out]; omega)
      rw [e] at HR
      go_wp2
      go_ret
      exact ⟨_, xs, rfl, HX.out, HQ.out, HR.out, HB.out⟩
theorem Rt_set {xs : List RF} {k : Nat} {y : RF} (h : ∀ x ∈ xs, Rt x) (hy : Rt y) : ∀ x ∈ xs.set k y, Rt x := fun x hx => by
  rcases List.mem_or_eq_of_mem_set hx with h1 | h1
  · exact h x h1
  · rw [h1]; exact hy

set_option maxHeartbeats 1000000 in
theorem row_Unit (n i : Nat) (hn : n ≤ 300) (hi : i < n) (w : World) :
    Calls Tryz.prog 84 #[.int .i64 (n : Int), .int .i64 (i : Int)] w (RowOut ((List.replicate n 0).set i 1) w) := by
  go_enter Tryz.func84, Tryz.ntmps84
  go_wp2_with fail
  refine (row_Zero n hn w).mono ?_
  rintro e w1 ⟨v, xs, rfl, hO, hQ, hR, hb1⟩
  have hlen : xs.length = n := by have := congrArg List.length hQ; simpa using this
  obtain ⟨g, cap, rfl, hg, hgl, hcap⟩ := hO.blk (by omega)
  obtain ⟨x, hx⟩ : ∃ x, xs[i]? = some x := ⟨_, List.getElem?_eq_getElem (by omega)⟩
  have HQ := Asd.mk hQ; have HR := Asd.mk hR
  have hs1 := hb1.size
  rw [hlen] at hO ⊢
  have HL := Asd.mk hlen
  clear hQ hR hlen hcap
  go_wp2_with fail
  refine (frac_Of 1 (by decide) (by decide) w1).mono ?_
  rintro e w2 hfo
  obtain ⟨y, rfl, hq, hR, hok, hb2⟩ := hfo.rf (by rw [show ((1 : Int) : Rat) = 1 from rfl]; exact sz_one.mono (by decide))
  have hX1 := hO.below hb2
  have hs2 := hb2.size
  obtain ⟨d0, d1, d2, df⟩ := hX1.cellsOf hx
  have hgl2 : g < w2.heap.size := by omega
  have hB1 := hb1.trans (hb2.mono hs1)
  have hSt := hX1.store i (by rw [HL.out]; exact hi) (y := y) (hok.mono (fun k _ hk => ⟨by omega, by omega⟩))
  go_wp2
  go_ret
  exact ⟨_, xs.set i y, rfl, hSt, by rw [List.map_set, HQ.out, hq]; rfl, Rt_set HR.out hR, ((hB1.setCell (by simp; omega) _).setCell (by simp; omega) _).setCell (by simp; omega) _⟩
end Go.Proofs.YthjpkichpkomcaaGreatDoor
