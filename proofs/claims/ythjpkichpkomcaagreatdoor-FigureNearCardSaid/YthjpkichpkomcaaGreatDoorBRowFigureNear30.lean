/- RowC · RowD -/
import Derived.Test.YthjpkichpkomcaaGreatDoorBRowFigureNear29
/- Rows of fractions (row): norm, Scale, Dot. -/
namespace Go.Proofs.YthjpkichpkomcaaGreatDoor
open Go.RowKit Go.Proofs.YthjpkichpkomcaaGreatDoor.Big
set_option linter.unusedVariables false
set_option maxRecDepth 100000
attribute [local go_sem ↓] Go.wp_at_zero Go.wp_at_succ

/-- A right fraction, as it lies. -/
def Rt (x : RF) : Prop := x.n = ng x.q.num ∧ x.l = mag x.q.num ∧ x.d = rep x.q.den
theorem QF_Rt (q : Rat) (A : Option Addr) (c : Nat) (A' : Option Addr) (c' : Nat) : Rt (QF q A c A' c') := by
  unfold Rt
  rw [QF_q]
  exact ⟨rfl, rfl, rfl⟩
/-- A row that was made, of right fractions of these values. -/
def RowOut (qs : List Rat) (w : World) (e : Ending) (w' : World) : Prop := ∃ v ys, e = .returned v ∧ OwE 30 w.heap.size (fun k => w.heap.size ≤ k) w' v (ys : List RF) ∧ ys.map RF.q = qs ∧ (∀ y ∈ ys, Rt y) ∧ Below w.heap.size w w'
theorem sz_ok {p : Nat → Prop} {w : World} {x : RF} (h : x.ok p w) : Sz 10000 x.q := sz_raw h h.2.2.2.2.1 h.2.2.2.2.2 (by decide)

set_option maxHeartbeats 1000000 in
theorem row_norm (p : Nat → Prop) (A : Option Addr) (c : Nat) (xs : List RF) (w : World) (h : Rw p w A xs) (hc : xs.length ≤ c) (hl : xs.length ≤ 100000) :
    Calls Tryz.prog 142 #[.slice A xs.length c] w (RowOut (xs.map RF.q) w) := by
  obtain ⟨i0, hi, hi0, hi1, hi2⟩ := info_parts info_frac
  go_enter Tryz.func142, Tryz.ntmps142
  go_wp2_with fail
  go_loopw [3, 8] (fun v i wq => ∃ (k : Nat) (ys : List RF), k ≤ xs.length ∧ i = .int .i64 (k : Int) ∧ Asd (OwE 30 w.heap.size (fun k => w.heap.size ≤ k) wq v ys) ∧ Asd (ys.map RF.q = (xs.take k).map RF.q) ∧ Asd (∀ y ∈ ys, Rt y) ∧ Asd (Below w.heap.size w wq)) (fun _ i _ => (xs.length - intOf i).toNat)
  case atStart => exact ⟨0, [], Nat.zero_le _, rfl, ⟨OwE.nil _ _ _ _⟩, ⟨by simp⟩, ⟨by simp⟩, ⟨Below.refl _ _⟩⟩
  case round =>
    obtain ⟨k, ys, hk, rfl, HO, HQ, HR, HB⟩ := hrel
    by_cases hkl : k < xs.length
    · obtain ⟨x, hx⟩ : ∃ x, xs[k]? = some x := ⟨_, List.getElem?_eq_getElem hkl⟩
      obtain ⟨ad, rfl, hp, hok, hc0, hc1, hc2⟩ := (h.below HB.out).cells3 hx
      have hsz := HB.out.size
      have hyl : ys.length = k := by have := congrArg List.length HQ.out; simp at this; omega
      have hok1 := hok.alloc (.cells #[.bool x.n, .slice x.A x.l.length x.c, .slice x.A' x.d.length x.c'] 30)
      have HO1 := HO.out.alloc (.cells #[.bool x.n, .slice x.A x.l.length x.c, .slice x.A' x.d.length x.c'] 30)
      have HB1 := HB.out.alloc hsz (.cells #[.bool x.n, .slice x.A x.l.length x.c, .slice x.A' x.d.length x.c'] 30)
      have hs0 : (wr.alloc (.cells #[.bool x.n, .slice x.A x.l.length x.c, .slice x.A' x.d.length x.c'] 30)).heap.size = wr.heap.size + 1 := World.size_alloc _ _
      have hlt := fun g e => (HO.out.lt g e).2
      go_wp2_with fail
      refine (frac_Norm _ x _ hok1).mono ?_
      generalize wr.alloc (.cells #[.bool x.n, .slice x.A x.l.length x.c, .slice x.A' x.d.length x.c'] 30) = V at *
      rintro e w1 ⟨X, cx, Y, cy, rfl, hcx, hcy, hrx, hry, hb1⟩
      have hO1 := HO1.below hb1
      have hB1 := below_go HB1 hb1
      have hs1 := hb1.size
      have hyok := QF_ok (q := x.q) hrx hcx hry hcy (sz_ok hok)
      go_wp2_with (at_builtin; refine wpList_push rfl _ _ 68 rfl _ _ 30 i0 _ 56 Tryz.underlying68 hi hi0 hi1 hi2 rfl _ _ rfl (QF x.q X cx Y cy) w1 rfl hO1 (Elm.mono (α := RF) hyok (fun k _ hk => ⟨by omega, .inr fun e => by have := hlt k e; omega⟩)) (by omega) (by omega) (by decide) ?_)
      intro v' w4 hP hgrow hown
      go_wp2
      go_roundw
      case rel => exact ⟨k + 1, _, by omega, by go_num, ⟨hP⟩, ⟨by rw [take_more hx, List.map_append, List.map_append, HQ.out]; simp [QF_q]⟩, ⟨fun y hy => by
        rcases List.mem_append.1 hy with h1 | h1
        · exact HR.out y h1
        · rw [List.mem_singleton.1 h1]; exact QF_Rt _ _ _ _ _⟩, ⟨hB1.grown hgrow (by omega) (fun g hg => (hown g hg).1)⟩⟩
      case measure => simp [intOf]; omega
    · go_wp2
      go_ret
      have e : xs.take k = xs := List.take_of_length_le (by omega)
      rw [e] at HQ
      exact ⟨_, ys, rfl, HO.out, HQ.out, HR.out, HB.out⟩
set_option maxHeartbeats 1000000 in
theorem row_Scale (pc p : Nat → Prop) (x0 : RF) (A : Option Addr) (c : Nat) (xs : List RF) (w : World) (hx0 : x0.ok pc w) (h : Rw p w A xs) (hc : xs.length ≤ c) (hl : xs.length ≤ 100000) (hsm : ∀ x ∈ xs, Sz 10000 (x0.q * x.q)) :
    Calls Tryz.prog 85 #[.agg #[.bool x0.n, .slice x0.A x0.l.length x0.c, .slice x0.A' x0.d.length x0.c'], .slice A xs.length c] w (RowOut (xs.map (fun x => x0.q * x.q)) w) := by
  obtain ⟨i0, hi, hi0, hi1, hi2⟩ := info_parts info_frac
  go_enter Tryz.func85, Tryz.ntmps85
  go_wp2_with fail
  have XA0 := Blk.new w [.bool x0.n, .slice x0.A x0.l.length x0.c, .slice x0.A' x0.d.length x0.c'] 30
  have rx0 := hx0.alloc (.cells #[.bool x0.n, .slice x0.A x0.l.length x0.c, .slice x0.A' x0.d.length x0.c'] 30)
  have rh := h.alloc (.cells #[.bool x0.n, .slice x0.A x0.l.length x0.c, .slice x0.A' x0.d.length x0.c'] 30)
  have hb0 := (Below.refl w.heap.size w).alloc (Nat.le_refl _) (.cells #[.bool x0.n, .slice x0.A x0.l.length x0.c, .slice x0.A' x0.d.length x0.c'] 30)
  have hlW := XA0.lt
  generalize w.alloc (.cells #[.bool x0.n, .slice x0.A x0.l.length x0.c, .slice x0.A' x0.d.length x0.c'] 30) = W at *
  clear hx0 h
  go_loopw [5, 10] (fun v i wq => ∃ (k : Nat) (ys : List RF), k ≤ xs.length ∧ i = .int .i64 (k : Int) ∧ Asd (OwE 30 W.heap.size (fun k => W.heap.size ≤ k) wq v ys) ∧ Asd (ys.map RF.q = (xs.take k).map (fun x => x0.q * x.q)) ∧ Asd (∀ y ∈ ys, Rt y) ∧ Asd (Below W.heap.size W wq)) (fun _ i _ => (xs.length - intOf i).toNat)
  case atStart => exact ⟨0, [], Nat.zero_le _, rfl, ⟨OwE.nil _ _ _ _⟩, ⟨by simp⟩, ⟨by simp⟩, ⟨Below.refl _ _⟩⟩
  case round =>
    obtain ⟨k, ys, hk, rfl, HO, HQ, HR, HB⟩ := hrel
    by_cases hkl : k < xs.length
    · obtain ⟨x, hx⟩ : ∃ x, xs[k]? = some x := ⟨_, List.getElem?_eq_getElem hkl⟩
      obtain ⟨ad, rfl, hp, hok, hc0, hc1, hc2⟩ := (rh.below HB.out).cells3 hx
      have hszx := hsm x (List.mem_of_getElem? hx)
      have hsz := HB.out.size
      have hyl : ys.length = k := by have := congrArg List.length HQ.out; simp at this; omega
      have XA := (XA0.below HB.out).alloc (.cells #[.bool x.n, .slice x.A x.l.length x.c, .slice x.A' x.d.length x.c'] 30)
      have hoc := (rx0.below HB.out).alloc (.cells #[.bool x.n, .slice x.A x.l.length x.c, .slice x.A' x.d.length x.c'] 30)
      have hok1 := hok.alloc (.cells #[.bool x.n, .slice x.A x.l.length x.c, .slice x.A' x.d.length x.c'] 30)
      have HO1 := HO.out.alloc (.cells #[.bool x.n, .slice x.A x.l.length x.c, .slice x.A' x.d.length x.c'] 30)
      have HB1 := HB.out.alloc hsz (.cells #[.bool x.n, .slice x.A x.l.length x.c, .slice x.A' x.d.length x.c'] 30)
      have XE := Blk.new wr [.bool x.n, .slice x.A x.l.length x.c, .slice x.A' x.d.length x.c'] 30
      have hs0 : (wr.alloc (.cells #[.bool x.n, .slice x.A x.l.length x.c, .slice x.A' x.d.length x.c'] 30)).heap.size = wr.heap.size + 1 := World.size_alloc _ _
      have hlt := fun g e => (HO.out.lt g e).2
      have a0 := XA.c 0 rfl; have a1 := XA.c 1 rfl; have a2 := XA.c 2 rfl
      go_wp2_with fail
      refine (frac_Mul _ _ x0 x _ hoc hok1).mono ?_
      generalize wr.alloc (.cells #[.bool x.n, .slice x.A x.l.length x.c, .slice x.A' x.d.length x.c'] 30) = V at *
      rintro e w1 ⟨X, cx, Y, cy, rfl, hcx, hcy, hrx, hry, hb1⟩
      have hO1 := HO1.below hb1
      have hB1 := below_go HB1 hb1
      have hs1 := hb1.size
      have hyok := QF_ok (q := x0.q * x.q) hrx hcx hry hcy hszx
      clear XE XA a0 a1 a2
      go_wp2_with (at_builtin; refine wpList_push rfl _ _ 68 rfl _ _ 30 i0 _ 56 Tryz.underlying68 hi hi0 hi1 hi2 rfl _ _ rfl (QF (x0.q * x.q) X cx Y cy) w1 rfl hO1 (Elm.mono (α := RF) hyok (fun k _ hk => ⟨by omega, .inr fun e => by have := hlt k e; omega⟩)) (by omega) (by omega) (by decide) ?_)
      intro v' w4 hP hgrow hown
      go_wp2
      go_roundw
      case rel => exact ⟨k + 1, _, by omega, by go_num, ⟨hP⟩, ⟨by rw [take_more hx, List.map_append, List.map_append, HQ.out]; simp [QF_q]⟩, ⟨fun y hy => by
        rcases List.mem_append.1 hy with h1 | h1
        · exact HR.out y h1
        · rw [List.mem_singleton.1 h1]; exact QF_Rt _ _ _ _ _⟩, ⟨hB1.grown hgrow (by omega) (fun g hg => (hown g hg).1)⟩⟩
      case measure => simp [intOf]; omega
    · go_wp2
      go_ret
      have e : xs.take k = xs := List.take_of_length_le (by omega)
      rw [e] at HQ
      exact ⟨_, ys, rfl, HO.out.low (by omega) (fun k _ hk => by omega), HQ.out, HR.out, below_go hb0 HB.out⟩
end Go.Proofs.YthjpkichpkomcaaGreatDoor
/- Rows of fractions (row): Dot. -/
namespace Go.Proofs.YthjpkichpkomcaaGreatDoor
open Go.RowKit Go.Proofs.YthjpkichpkomcaaGreatDoor.Big
set_option linter.unusedVariables false
set_option maxRecDepth 100000
attribute [local go_sem ↓] Go.wp_at_zero Go.wp_at_succ

/-- The same, of a fraction that isn't told place by place. -/
def RfOut (q : Rat) (w : World) (e : Ending) (w' : World) : Prop := ∃ y : RF, e = .returned (.agg #[.bool y.n, .slice y.A y.l.length y.c, .slice y.A' y.d.length y.c']) ∧ y.q = q ∧ Rt y ∧ y.ok (fun k => w.heap.size ≤ k) w' ∧ Below w.heap.size w w'
theorem FrOut.rf {q : Rat} {w w' : World} {e : Ending} (h : FrOut q w e w') (hs : Sz 10000 q) : RfOut q w e w' := by
  obtain ⟨A, c, A', c', rfl, hc, hc', hr, hr', hb⟩ := h
  exact ⟨QF q A c A' c', rfl, QF_q _ _ _ _ _, QF_Rt _ _ _ _ _, QF_ok hr hc hr' hc' hs, hb⟩
/-- A fraction and a word, returned. -/
def RfOut2 (q : Rat) (b : Bool) (w : World) (e : Ending) (w' : World) : Prop := ∃ y : RF, e = .returned (.tuple #[.agg #[.bool y.n, .slice y.A y.l.length y.c, .slice y.A' y.d.length y.c'], .bool b]) ∧ y.q = q ∧ Rt y ∧ y.ok (fun k => w.heap.size ≤ k) w' ∧ Below w.heap.size w w'
theorem Rt.ok {p p' : Nat → Prop} {w : World} {x : RF} (h : x.ok p w) : x.ok p w := h
def sumQ (l : List Rat) : Rat := l.foldl (· + ·) 0
theorem sumQ_snoc (l : List Rat) (x : Rat) : sumQ (l ++ [x]) = sumQ l + x := by unfold sumQ; rw [List.foldl_append]; rfl
theorem sz_zero : Sz 1 0 := by
  refine ⟨?_, ?_⟩
  · show (mag (0 : Rat).num).length ≤ 1
    rw [show mag (0 : Rat).num = [] from rep_zero]; exact Nat.zero_le _
  · show (rep (((0 : Rat).den : Nat) : Int)).length ≤ 1
    rw [show (((0 : Rat).den : Nat) : Int) = 1 from rfl, rep_word (by decide) (by decide)]; exact Nat.le_refl _
theorem sz_fold {a : Nat} : ∀ (l : List Rat) (k : Nat) (s : Rat), Sz k s → (∀ x ∈ l, Sz a x) → Sz (k + l.length * (a + 1)) (l.foldl (· + ·) s)
  | [], k, s, hs, _ => by rw [List.length_nil, Nat.zero_mul]; exact hs
  | x :: l, k, s, hs, h => by
    rw [List.foldl_cons]
    refine (sz_fold l (k + a + 1) (s + x) (sz_add hs (h x List.mem_cons_self)) (fun y hy => h y (List.mem_cons_of_mem _ hy))).mono ?_
    rw [List.length_cons, Nat.add_mul]; omega
theorem sz_sum {a : Nat} (l : List Rat) (h : ∀ x ∈ l, Sz a x) : Sz (1 + l.length * (a + 1)) (sumQ l) := sz_fold l 1 0 sz_zero h

/-- The products of a row's and another one's fractions. -/
def prodsQ (xs ys : List RF) : List Rat := List.zipWith (fun x y : RF => x.q * y.q) xs ys

set_option maxHeartbeats 2000000 in
theorem row_Dot (p p' : Nat → Prop) (A : Option Addr) (c : Nat) (xs : List RF) (A' : Option Addr) (c' : Nat) (ys : List RF) (w : World) (h : Rw p w A xs) (hc : xs.length ≤ c) (h' : Rw p' w A' ys) (hc' : ys.length ≤ c') (hxy : xs.length = ys.length) (hl : xs.length ≤ 100000) (a b : Nat) (hsx : ∀ x ∈ xs, Sz a x.q) (hsy : ∀ x ∈ ys, Sz b x.q) (hab : 1 + xs.length * (a + b + 1) ≤ 10000) :
    Calls Tryz.prog 53 #[.slice A xs.length c, .slice A' ys.length c'] w (RfOut2 (sumQ (prodsQ xs ys)) true w) := by
  have hpl : (prodsQ xs ys).length = xs.length := by unfold prodsQ; rw [List.length_zipWith]; omega
  have hpg : ∀ (k : Nat) (x y : RF), xs[k]? = some x → ys[k]? = some y → (prodsQ xs ys)[k]? = some (x.q * y.q) := fun k x y hx hy => by
    unfold prodsQ; rw [List.getElem?_zipWith, hx, hy]
  have hszp : ∀ k x, (prodsQ xs ys)[k]? = some x → Sz (a + b) x := fun k z hz => by
    have hk : k < xs.length := by rw [← hpl]; exact (List.getElem?_eq_some_iff.1 hz).1
    have hx : xs[k]? = some xs[k] := List.getElem?_eq_getElem hk
    have hy : ys[k]? = some (ys[k]'(by omega)) := List.getElem?_eq_getElem (by omega)
    rw [hpg k _ _ hx hy] at hz
    cases hz
    exact sz_mul (hsx _ (List.mem_of_getElem? hx)) (hsy _ (List.mem_of_getElem? hy))
  have hsum : ∀ k, k ≤ xs.length → Sz 10000 (sumQ ((prodsQ xs ys).take k)) := fun k hk => by
    refine (sz_sum (a := a + b) _ (fun z hz => ?_)).mono ?_
    · obtain ⟨i, hi, e⟩ := List.mem_iff_getElem.1 (List.mem_of_mem_take hz)
      exact hszp i z (by rw [← e]; exact List.getElem?_eq_getElem hi)
    · have : ((prodsQ xs ys).take k).length ≤ xs.length := by rw [List.length_take]; omega
      have := Nat.mul_le_mul_right (a + b + 1) this
      omega
  have HSUM := Asd.mk hsum
  have HSZP := Asd.mk hszp
  have HPG := Asd.mk hpg
  clear hsum hszp hpg hsx hsy
  have hna : ∀ k : Nat, k < xs.length → a + b ≤ 10000 := fun k hk => by
    have : 1 * (a + b + 1) ≤ xs.length * (a + b + 1) := Nat.mul_le_mul_right _ (by omega)
    omega
  have HNA := Asd.mk hna
  clear hna hab
  replace h := h.mono (p' := fun k => k < w.heap.size) (fun k hk _ => hk)
  replace h' := h'.mono (p' := fun k => k < w.heap.size) (fun k hk _ => hk)
  go_enter Tryz.func53, Tryz.ntmps53
  go_wp2_with fail
  have XR0 := Blk.new w [.bool false, .slice none 0 0, .slice none 0 0] 30
  have rh := h.alloc (.cells #[.bool false, .slice none 0 0, .slice none 0 0] 30)
  have rh' := h'.alloc (.cells #[.bool false, .slice none 0 0, .slice none 0 0] 30)
  have hb0 := (Below.refl w.heap.size w).alloc (Nat.le_refl _) (.cells #[.bool false, .slice none 0 0, .slice none 0 0] 30)
  have hs0 : (w.alloc (.cells #[.bool false, .slice none 0 0, .slice none 0 0] 30)).heap.size = w.heap.size + 1 := World.size_alloc _ _
  generalize w.alloc (.cells #[.bool false, .slice none 0 0, .slice none 0 0] 30) = W at *
  clear h h'
  refine (frac_Of 0 (by decide) (by decide) W).mono ?_
  rintro e w1 hfo
  obtain ⟨y0, rfl, hq0, hR0, hok0, hb1⟩ := hfo.rf (by rw [show ((0 : Int) : Rat) = 0 from rfl]; exact sz_zero.mono (by decide))
  have hs1 := hb1.size
  replace rh := (rh.below hb1).alloc (.cells #[.bool y0.n, .slice y0.A y0.l.length y0.c, .slice y0.A' y0.d.length y0.c'] 30)
  replace rh' := (rh'.below hb1).alloc (.cells #[.bool y0.n, .slice y0.A y0.l.length y0.c, .slice y0.A' y0.d.length y0.c'] 30)
  have XR := (XR0.below hb1).alloc (.cells #[.bool y0.n, .slice y0.A y0.l.length y0.c, .slice y0.A' y0.d.length y0.c'] 30)
  have XS := Blk.new w1 [.bool y0.n, .slice y0.A y0.l.length y0.c, .slice y0.A' y0.d.length y0.c'] 30
  have hB := (below_go hb0 hb1).alloc (by omega) (.cells #[.bool y0.n, .slice y0.A y0.l.length y0.c, .slice y0.A' y0.d.length y0.c'] 30)
  have hyo : y0.ok (fun k => w.heap.size < k ∧ k ≠ w1.heap.size) (w1.alloc (.cells #[.bool y0.n, .slice y0.A y0.l.length y0.c, .slice y0.A' y0.d.length y0.c'] 30)) := (hok0.mono (fun k hk1 hk => ⟨by omega, by omega⟩)).alloc _
  have hsS : (w1.alloc (.cells #[.bool y0.n, .slice y0.A y0.l.length y0.c, .slice y0.A' y0.d.length y0.c'] 30)).heap.size = w1.heap.size + 1 := World.size_alloc _ _
  generalize hS : w1.heap.size = S at *
  go_wp2_with fail
  generalize w1.alloc (.cells #[.bool y0.n, .slice y0.A y0.l.length y0.c, .slice y0.A' y0.d.length y0.c'] 30) = V at *
  clear hb1 hfo hok0 hb0 XR0
  have hq00 : y0.q = sumQ ((prodsQ xs ys).take 0) := by rw [hq0]; rfl
  clear hq0
  go_loopw [18] (fun i wq => ∃ (k : Nat) (y : RF), k ≤ xs.length ∧ i = .int .i64 (k : Int) ∧ Asd (Blk wq S [.bool y.n, .slice y.A y.l.length y.c, .slice y.A' y.d.length y.c']) ∧ Asd (y.ok (fun k => w.heap.size < k ∧ k ≠ S) wq) ∧ Asd (y.q = sumQ ((prodsQ xs ys).take k)) ∧ Asd (Rt y) ∧ Asd (Below S V wq)) (fun i _ => (xs.length - intOf i).toNat)
  case atStart => exact ⟨0, y0, Nat.zero_le _, rfl, ⟨XS⟩, ⟨hyo⟩, ⟨hq00⟩, ⟨hR0⟩, ⟨Below.refl _ _⟩⟩
  case round =>
    obtain ⟨k, y, hk, rfl, HS, HY, HQ, HR, HB⟩ := hrel
    have hszV := HB.out.size
    have XRw := XR.move (HB.out.block _ (by omega))
    by_cases hkl : k < xs.length
    · obtain ⟨x, hx⟩ : ∃ x, xs[k]? = some x := ⟨_, List.getElem?_eq_getElem hkl⟩
      obtain ⟨z, hz⟩ : ∃ z, ys[k]? = some z := ⟨_, List.getElem?_eq_getElem (by omega)⟩
      have rhw := rh.move (w1 := wr) (fun k hk _ => HB.out.block k (by omega))
      have rhw' := rh'.move (w1 := wr) (fun k hk _ => HB.out.block k (by omega))
      obtain ⟨ad, rfl, hp, hox, hc0, hc1, hc2⟩ := rhw.cells3 hx
      have rhz := rhw'.alloc (.cells #[.bool x.n, .slice x.A x.l.length x.c, .slice x.A' x.d.length x.c'] 30)
      obtain ⟨ad', rfl, hp', hoz, hd0, hd1, hd2⟩ := rhz.cells3 hz
      have hpr := HPG.out k x z hx hz
      have HSP := Asd.mk (HSZP.out k _ hpr)
      have HS1 := Asd.mk (HSUM.out (k + 1) hkl)
      rw [take_more hpr, sumQ_snoc, ← HQ.out] at HS1
      have hab : a + b ≤ 10000 := HNA.out k hkl
      have XSa := HS.out.alloc (.cells #[.bool x.n, .slice x.A x.l.length x.c, .slice x.A' x.d.length x.c'] 30)
      have XRa := XRw.alloc (.cells #[.bool x.n, .slice x.A x.l.length x.c, .slice x.A' x.d.length x.c'] 30)
      have XE := Blk.new wr [.bool x.n, .slice x.A x.l.length x.c, .slice x.A' x.d.length x.c'] 30
      have hoxa := hox.alloc (.cells #[.bool x.n, .slice x.A x.l.length x.c, .slice x.A' x.d.length x.c'] 30)
      have hya := HY.out.alloc (.cells #[.bool x.n, .slice x.A x.l.length x.c, .slice x.A' x.d.length x.c'] 30)
      have HBa := HB.out.alloc (by omega) (.cells #[.bool x.n, .slice x.A x.l.length x.c, .slice x.A' x.d.length x.c'] 30)
      have hs3 : (wr.alloc (.cells #[.bool x.n, .slice x.A x.l.length x.c, .slice x.A' x.d.length x.c'] 30)).heap.size = wr.heap.size + 1 := World.size_alloc _ _
      have hSlt := HS.out.lt
      generalize hE : wr.heap.size = E at *
      go_wp2_with fail
      generalize wr.alloc (.cells #[.bool x.n, .slice x.A x.l.length x.c, .slice x.A' x.d.length x.c'] 30) = U at *
      clear hc0 hc1 hc2 rhw rhw' hE
      replace XSa := XSa.drew; replace XRa := XRa.drew; replace XE := XE.drew; replace hoxa := hoxa.drew; replace hoz := hoz.drew; replace hya := hya.drew
      replace hd0 : U.drew.cell? (ad'.add (k * 3)) = some (.bool z.n) := hd0
      replace hd1 : U.drew.cell? ⟨(ad'.add (k * 3)).block, (ad'.add (k * 3)).off + 1, none⟩ = some (.slice z.A z.l.length z.c) := hd1
      replace hd2 : U.drew.cell? ⟨(ad'.add (k * 3)).block, (ad'.add (k * 3)).off + 2, none⟩ = some (.slice z.A' z.d.length z.c') := hd2
      have hBd := below_drewN HBa 1
      have hbk : (ad'.add (k * 3)).block < w.heap.size := by rw [add_block]; exact hp'
      have hs3 : U.drew.heap.size = E + 1 := hs3
      have s0 := XSa.c 0 rfl; have s1 := XSa.c 1 rfl; have s2 := XSa.c 2 rfl
      have e0 := XE.c 0 rfl; have e1 := XE.c 1 rfl; have e2 := XE.c 2 rfl
      have sf := XSa.f; have sl := XSa.lt
      have n1 : ¬ S = E := by omega
      have n2 : ¬ E = S := by omega
      have n3 : ¬ (ad'.add (k * 3)).block = S := by omega
      have n4 : ¬ S = (ad'.add (k * 3)).block := by omega
      go_region_with
        (first
          | (go_at_call 24; refine (frac_Mul _ _ x z _ hoxa hoz).mono ?_; rintro e w2 hfm; obtain ⟨m, rfl, hqm, hRm, hom, hb1⟩ := hfm.rf (HSP.out.mono hab); have hz1 := hb1.size; replace hya := hya.below hb1; replace XE := XE.below hb1; replace e0 := XE.c 0 rfl; replace e1 := XE.c 1 rfl; replace e2 := XE.c 2 rfl; replace hd0 := (hb1.cell (p := ad'.add (k * 3)) (by omega)).trans hd0; replace hd1 := (hb1.cell (p := ⟨(ad'.add (k * 3)).block, (ad'.add (k * 3)).off + 1, none⟩) (by simp only []; omega)).trans hd1; replace hd2 := (hb1.cell (p := ⟨(ad'.add (k * 3)).block, (ad'.add (k * 3)).off + 2, none⟩) (by simp only []; omega)).trans hd2;  replace XSa := XSa.below hb1; replace XRa := XRa.below hb1; replace s0 := XSa.c 0 rfl; replace s1 := XSa.c 1 rfl; replace s2 := XSa.c 2 rfl; replace sf := XSa.f; replace sl := XSa.lt; replace hBd := hBd.trans (hb1.mono (by omega)))
          | (go_at_call 23; refine (frac_Add _ _ y m _ hya hom).mono ?_; rintro e w2 hfm; obtain ⟨n, rfl, hqn, hRn, hon, hb2⟩ := hfm.rf (by rw [hqm]; exact HS1.out); have hz2 := hb2.size; replace XE := XE.below hb2; replace e0 := XE.c 0 rfl; replace e1 := XE.c 1 rfl; replace e2 := XE.c 2 rfl; replace hd0 := (hb2.cell (p := ad'.add (k * 3)) (by omega)).trans hd0; replace hd1 := (hb2.cell (p := ⟨(ad'.add (k * 3)).block, (ad'.add (k * 3)).off + 1, none⟩) (by simp only []; omega)).trans hd1; replace hd2 := (hb2.cell (p := ⟨(ad'.add (k * 3)).block, (ad'.add (k * 3)).off + 2, none⟩) (by simp only []; omega)).trans hd2; replace s0 := (XSa.below hb2).c 0 rfl; replace s1 := (XSa.below hb2).c 1 rfl; replace s2 := (XSa.below hb2).c 2 rfl; replace XSa := XSa.below hb2; replace XRa := XRa.below hb2; replace sf := XSa.f; replace sl := XSa.lt; replace hBd := hBd.trans (hb2.mono (by omega))))
      all_goals go_wp2
      all_goals go_roundw
      all_goals first
        | (simp only [intOf]; go_num; done)
        | exact ⟨k + 1, n, by omega, by go_num, ⟨(((XSa.set 0 (.bool n.n)).set 1 (.slice n.A n.l.length n.c)).set 2 (.slice n.A' n.d.length n.c'))⟩, ⟨(((hon.setCell (by simp; omega) _).setCell (by simp; omega) _).setCell (by simp; omega) _).mono (fun k _ hk => ⟨by omega, by omega⟩)⟩, ⟨by rw [hqn, hqm, take_more hpr, sumQ_snoc, ← HQ.out]⟩, ⟨hRn⟩, ⟨((hBd.setCell (by simp) _).setCell (by simp) _).setCell (by simp) _⟩⟩
    · have e : (prodsQ xs ys).take k = prodsQ xs ys := List.take_of_length_le (by omega)
      rw [e] at HQ
      have s0 := HS.out.c 0 rfl; have s1 := HS.out.c 1 rfl; have s2 := HS.out.c 2 rfl
      have r0 := XRw.c 0 rfl; have r1 := XRw.c 1 rfl; have r2 := XRw.c 2 rfl; have rf := XRw.f; have rl := XRw.lt
      have n1 : ¬ S = w.heap.size := by omega
      have n2 : ¬ w.heap.size = S := by omega
      go_wp2
      refine bodyPost_ret (ret_blk_tmp rfl rfl rfl (((XRw.set 0 _).set 1 _).set 2 _) Tryz.underlying30 (by kernel_rfl)) rfl ?_
      exact ⟨y, rfl, HQ.out, HR.out, (((HY.out.setCell (by simp) _).setCell (by simp) _).setCell (by simp) _).mono (fun k _ hk => by omega), (((hB.trans (HB.out.mono (by omega))).setCell (by simp) _).setCell (by simp) _).setCell (by simp) _⟩
end Go.Proofs.YthjpkichpkomcaaGreatDoor
