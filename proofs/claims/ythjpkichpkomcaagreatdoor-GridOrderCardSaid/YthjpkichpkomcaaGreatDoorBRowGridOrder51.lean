/- GOrd -/
import Derived.Test.YthjpkichpkomcaaGreatDoorBRowGridOrder49
import Derived.Test.YthjpkichpkomcaaGreatDoorBRowGridOrder42
import Derived.Test.YthjpkichpkomcaaGreatDoorBRowGridOrder50
/- Square matrices that can be read, by their values: products, turned ones; the plain laws of their order. -/
namespace Go.Proofs.YthjpkichpkomcaaGreatDoor
open Go.RowKit Go.Proofs.YthjpkichpkomcaaGreatDoor.Big
set_option linter.unusedVariables false

theorem left_len {n : Nat} {v : List Rat} {m : List (List Rat)} (hv : v.length = m.length) (hm : ∀ r ∈ m, r.length = n) (h0 : m = [] → n = 0) : (leftL v m).length = n := by
  by_cases hm0 : m = []
  · subst hm0
    have : v = [] := List.eq_nil_of_length_eq_zero (by simpa using hv)
    subst this
    rw [h0 rfl]; rfl
  · rw [leftL_lin v m hv hm hm0]
    exact lin_len v m hm
theorem left_sz {a b : Nat} {v : List Rat} {m : List (List Rat)} (hv : ∀ x ∈ v, Sz a x) (hm : ∀ r ∈ m, ∀ x ∈ r, Sz b x) : ∀ x ∈ leftL v m, Sz (m.length * (a + b + 1)) x := by
  unfold leftL
  have hz : ∀ r ∈ List.zipWith (fun x (r : List Rat) => r.map (x * ·)) v m, ∀ x ∈ r, Sz (a + b) x := fun r hr x hx => by
    obtain ⟨i, hi, e⟩ := List.mem_iff_getElem.1 hr
    rw [List.getElem_zipWith] at e
    subst e
    obtain ⟨y, hy, rfl⟩ := List.mem_map.1 hx
    rw [List.length_zipWith] at hi
    exact sz_mul (hv _ (List.getElem_mem (by omega))) (hm _ (List.getElem_mem (by omega)) y hy)
  have hl : (List.zipWith (fun x (r : List Rat) => r.map (x * ·)) v m).length ≤ m.length := by rw [List.length_zipWith]; omega
  revert hz hl
  cases List.zipWith (fun x (r : List Rat) => r.map (x * ·)) v m with
  | nil => intro _ _ x hx; simp [sumM] at hx
  | cons r rs =>
    intro hz hl x hx
    refine (foldl_sz (a := a + b) rs r (a + b) (hz r List.mem_cons_self) (fun r hr => hz r (List.mem_cons_of_mem _ hr)) x hx).mono ?_
    rw [List.length_cons] at hl
    have := Nat.mul_le_mul_right (a + b + 1) hl
    rw [Nat.add_mul, Nat.one_mul] at this
    omega
theorem mul_lin {n : Nat} {m m' : List (List Rat)} (hm : ∀ r ∈ m, r.length = m'.length) (hm' : ∀ r ∈ m', r.length = n) (h0 : m' ≠ []) : mulL m m' = m.map (fun r => lin n r m') := by
  unfold mulL
  apply List.map_congr_left
  intro r hr
  exact leftL_lin r m' (hm r hr) hm' h0
/-- A square matrix. -/
def Sq (n : Nat) (m : List (List Rat)) : Prop := m.length = n ∧ ∀ r ∈ m, r.length = n
theorem Sq.zero {m : List (List Rat)} (h : Sq 0 m) : m = [] := List.eq_nil_of_length_eq_zero h.1
theorem Sq.mul {n : Nat} {m m' : List (List Rat)} (h : Sq n m) (h' : Sq n m') : Sq n (mulL m m') := by
  refine ⟨by unfold mulL; rw [List.length_map]; exact h.1, fun r hr => ?_⟩
  obtain ⟨r0, hr0, rfl⟩ := List.mem_map.1 hr
  exact left_len (by rw [h.2 r0 hr0, h'.1]) h'.2 (fun e => by have := h'.1; rw [e] at this; exact this.symm)
theorem Sq.turn {n : Nat} {m : List (List Rat)} (h : Sq n m) : Sq n (turnL m n) :=
  ⟨by unfold turnL; simp, fun r hr => (turn_len r hr).trans h.1⟩
theorem order_dot {n : Nat} {v : List Rat} {x : List (List Rat)} (hv : v.length = n) (hx : Sq n x) : dotL (leftL v x) v = dotL v (applyL x v) := by
  by_cases h0 : x = []
  · subst h0
    have : v = [] := List.eq_nil_of_length_eq_zero (by rw [hv, ← hx.1]; rfl)
    subst this; rfl
  · rw [leftL_lin v x (by rw [hv, hx.1]) hx.2 h0, dotL_dt, dotL_dt, lin_dt v x v hx.2]
    congr 1
    unfold applyL
    apply List.map_congr_left
    intro r _
    exact (dotL_dt r v).symm
theorem order_turn {n : Nat} {x y : List (List Rat)} (hx : Sq n x) (hy : Sq n y) : turnL (mulL x y) n = mulL (turnL y n) (turnL x n) := by
  rcases Nat.eq_zero_or_pos n with rfl | hn
  · rfl
  · have hy0 : y ≠ [] := fun e => by have := hy.1; rw [e] at this; simp at this; omega
    have ht0 : turnL x n ≠ [] := fun e => by have := hx.turn.1; rw [e] at this; simp at this; omega
    rw [mul_lin (fun r hr => by rw [hx.2 r hr, hy.1]) hy.2 hy0, mul_lin (fun r hr => by rw [hy.turn.2 r hr, hx.turn.1]) hx.turn.2 ht0, turn_mul hx.2 hy.2, hx.1]
theorem order_mul {n : Nat} {x y z : List (List Rat)} (hx : Sq n x) (hy : Sq n y) (hz : Sq n z) : mulL (mulL x y) z = mulL x (mulL y z) := by
  rcases Nat.eq_zero_or_pos n with rfl | hn
  · rw [hx.zero]; rfl
  · have hy0 : y ≠ [] := fun e => by have := hy.1; rw [e] at this; simp at this; omega
    have hz0 : z ≠ [] := fun e => by have := hz.1; rw [e] at this; simp at this; omega
    have hyz0 : mulL y z ≠ [] := fun e => by have := (hy.mul hz).1; rw [e] at this; simp at this; omega
    have e1 := mul_lin (m := mulL x y) (fun r hr => by rw [(hx.mul hy).2 r hr, hz.1]) hz.2 hz0
    have e2 := mul_lin (m := x) (fun r hr => by rw [hx.2 r hr, (hy.mul hz).1]) (hy.mul hz).2 hyz0
    rw [e1, e2, mul_lin (fun r hr => by rw [hx.2 r hr, hy.1]) hy.2 hy0, mul_lin (fun r hr => by rw [hy.2 r hr, hz.1]) hz.2 hz0, List.map_map]
    apply List.map_congr_left
    intro r _
    exact lin_lin r y z hy.2 hz.2

/-- A square matrix that can be read, by its values. -/
structure Mx (w : World) (A : Option Addr) (n c : Nat) (m : List (List Rat)) (a : Nat) : Prop where
  ex : ∃ rows : List (RV RF), Rw (fun _ => True) w A rows ∧ rows.map rowQ = m
  sq : Sq n m
  cap : n ≤ c
  sz : ∀ r ∈ m, ∀ x ∈ r, Sz a x
/-- A row that can be read, by its values. -/
structure Vx (w : World) (A : Option Addr) (n c : Nat) (u : List Rat) (a : Nat) : Prop where
  ex : ∃ xs : List RF, Rw (fun _ => True) w A xs ∧ xs.map RF.q = u
  len : u.length = n
  cap : n ≤ c
  sz : ∀ x ∈ u, Sz a x
theorem Mx.below {w w1 : World} {A : Option Addr} {n c : Nat} {m : List (List Rat)} {a : Nat} (h : Mx w A n c m a) (hb : Below w.heap.size w w1) : Mx w1 A n c m a := by
  obtain ⟨⟨rows, hr, e⟩, h2, h3, h4⟩ := h
  exact ⟨⟨rows, hr.below hb, e⟩, h2, h3, h4⟩
theorem Vx.below {w w1 : World} {A : Option Addr} {n c : Nat} {u : List Rat} {a : Nat} (h : Vx w A n c u a) (hb : Below w.heap.size w w1) : Vx w1 A n c u a := by
  obtain ⟨⟨xs, hr, e⟩, h2, h3, h4⟩ := h
  exact ⟨⟨xs, hr.below hb, e⟩, h2, h3, h4⟩
theorem Mx.alloc {w : World} {A : Option Addr} {n c : Nat} {m : List (List Rat)} {a : Nat} (h : Mx w A n c m a) (o : Obj) : Mx (w.alloc o) A n c m a := by
  obtain ⟨⟨rows, hr, e⟩, h2, h3, h4⟩ := h
  exact ⟨⟨rows, hr.alloc o, e⟩, h2, h3, h4⟩
theorem Vx.alloc {w : World} {A : Option Addr} {n c : Nat} {u : List Rat} {a : Nat} (h : Vx w A n c u a) (o : Obj) : Vx (w.alloc o) A n c u a := by
  obtain ⟨⟨xs, hr, e⟩, h2, h3, h4⟩ := h
  exact ⟨⟨xs, hr.alloc o, e⟩, h2, h3, h4⟩
theorem Mx.drew {w : World} {A : Option Addr} {n c : Nat} {m : List (List Rat)} {a : Nat} (h : Mx w A n c m a) : Mx w.drew A n c m a := by
  obtain ⟨⟨rows, hr, e⟩, h2, h3, h4⟩ := h
  exact ⟨⟨rows, hr.drew, e⟩, h2, h3, h4⟩
theorem map_len {α β : Type} {f : α → β} {l : List α} {m : List β} {n : Nat} (e : l.map f = m) (h : m.length = n) : n = l.length := by rw [← h, ← e, List.length_map]

theorem mul_Mx {A A' : Option Addr} {n c c' : Nat} {m m' : List (List Rat)} {a b : Nat} {w : World} (h : Mx w A n c m a) (h' : Mx w A' n c' m' b) (hn : n ≤ 4) (hb : 4 * (a + b + 1) ≤ 10000) :
    Calls Tryz.prog 29 #[.slice A n c, .slice A' n c'] w fun e w' => ∃ A2 c2, e = .returned (.tuple #[.slice A2 n c2, .bool true]) ∧ Mx w' A2 n c2 (mulL m m') (4 * (a + b + 1)) ∧ Below w.heap.size w w' := by
  obtain ⟨⟨rows, hr, e⟩, h2, h3, h4⟩ := h
  obtain ⟨⟨rows', hr', e'⟩, h2', h3', h4'⟩ := h'
  have hl := map_len e h2.1
  have hl' := map_len e' h2'.1
  have hmul : rows'.length * (a + b + 1) ≤ 4 * (a + b + 1) := Nat.mul_le_mul_right _ (by omega)
  have hm := grid_Mul _ _ A c rows A' c' rows' n a b w hr (by omega) hr' (by omega) (by omega) (by omega) (by omega) (by rw [← hl']; exact rows_len e h2.2) (by rw [← hl']; exact rows_width e h2.2 (fun e => by rw [e] at h2; exact h2.1.symm)) (rows_len e' h2'.2) (rows_sz e h4) (rows_sz e' h4') (by omega)
  rw [← hl, ← hl'] at hm
  refine hm.mono ?_
  rintro _ w' ⟨v, ps, rfl, hO, hQ, -, hb1⟩
  obtain ⟨A2, c2, rfl, hc2, hR⟩ := hO.rd
  have hQ2 : ps.map rowQ = mulL m m' := by rw [hQ, mulQ_eq, e, e']
  have hpl := map_len hQ2 (h2.mul h2').1
  rw [← hpl] at hc2 ⊢
  refine ⟨A2, c2, rfl, ⟨⟨ps, hR.mono (fun _ _ _ => trivial), hQ2⟩, h2.mul h2', hc2, fun r hr x hx => ?_⟩, hb1⟩
  obtain ⟨r0, hr0, rfl⟩ := List.mem_map.1 hr
  refine (left_sz (h4 r0 hr0) h4' x hx).mono ?_
  rw [h2'.1, hl']; exact hmul
theorem turn_Mx {A : Option Addr} {n c : Nat} {m : List (List Rat)} {a : Nat} {w : World} (h : Mx w A n c m a) (hn : n ≤ 4) :
    Calls Tryz.prog 38 #[.slice A n c] w fun e w' => ∃ A2 c2, e = .returned (.slice A2 n c2) ∧ Mx w' A2 n c2 (turnL m n) a ∧ Below w.heap.size w w' := by
  obtain ⟨⟨rows, hr, e⟩, h2, h3, h4⟩ := h
  have hl := map_len e h2.1
  have hwm : widthM rows = n := rows_width e h2.2 (fun e => by rw [e] at h2; exact h2.1.symm)
  have hm := grid_Turn _ A c rows w hr (by omega) (by omega) (right_of (rows_len e h2.2)) (by omega)
  rw [← hl, hwm] at hm
  refine hm.mono ?_
  rintro _ w' ⟨v, ps, rfl, hO, hQ, -, hb1⟩
  obtain ⟨A2, c2, rfl, hc2, hR⟩ := hO.rd
  have hQ2 : ps.map rowQ = turnL m n := by rw [hQ, turnQ_eq, e]
  have hpl := map_len hQ2 h2.turn.1
  rw [← hpl] at hc2 ⊢
  refine ⟨A2, c2, rfl, ⟨⟨ps, hR.mono (fun _ _ _ => trivial), hQ2⟩, h2.turn, hc2, fun r hr x hx => ?_⟩, hb1⟩
  obtain ⟨i, hi, rfl⟩ := List.mem_map.1 hr
  obtain ⟨r0, hr0, rfl⟩ := List.mem_map.1 hx
  have hi2 : i < r0.length := by rw [h2.2 r0 hr0]; exact List.mem_range.1 hi
  rw [List.getD_eq_getElem?_getD, List.getElem?_eq_getElem hi2]
  exact h4 r0 hr0 _ (List.getElem_mem hi2)
theorem same_Mx {A A' : Option Addr} {n c c' : Nat} {m m' : List (List Rat)} {a b : Nat} {w : World} (h : Mx w A n c m a) (h' : Mx w A' n c' m' b) (hn : n ≤ 4) (he : m = m') :
    Calls Tryz.prog 42 #[.slice A n c, .slice A' n c'] w fun e w' => e = .returned (.bool true) ∧ Below w.heap.size w w' := by
  obtain ⟨⟨rows, hr, e⟩, h2, h3, h4⟩ := h
  obtain ⟨⟨rows', hr', e'⟩, h2', h3', h4'⟩ := h'
  have hl := map_len e h2.1
  have hl' := map_len e' h2'.1
  have hm := grid_Same _ _ A c rows A' c' rows' w hr (by omega) hr' (by omega) (by omega) (fun r hr1 => by rw [rows_len e h2.2 r hr1]; omega)
  rw [← hl, ← hl', e, e', he, decide_eq_true rfl] at hm
  exact hm
theorem left_Mx {A A' : Option Addr} {n c c' : Nat} {u : List Rat} {m : List (List Rat)} {a b : Nat} {w : World} (h : Vx w A n c u a) (h' : Mx w A' n c' m b) (hn : n ≤ 4) (hb : 4 * (a + b + 1) ≤ 10000) :
    Calls Tryz.prog 47 #[.slice A n c, .slice A' n c'] w fun e w' => ∃ A2 c2, e = .returned (.tuple #[.slice A2 n c2, .bool true]) ∧ Vx w' A2 n c2 (leftL u m) (4 * (a + b + 1)) ∧ Below w.heap.size w w' := by
  obtain ⟨⟨xs, hr, e⟩, h2, h3, h4⟩ := h
  obtain ⟨⟨rows', hr', e'⟩, h2', h3', h4'⟩ := h'
  have hl := map_len e h2
  have hl' := map_len e' h2'.1
  have hmul : rows'.length * (a + b + 1) ≤ 4 * (a + b + 1) := Nat.mul_le_mul_right _ (by omega)
  have hm := grid_Left _ _ A c xs A' c' rows' n a b w hr (by omega) hr' (by omega) (by omega) (by omega) (rows_len e' h2'.2) (by omega) (row_sz e h4) (rows_sz e' h4') (by omega)
  rw [← hl, ← hl'] at hm
  refine hm.mono ?_
  rintro _ w' ⟨v, ps, rfl, hO, hQ, -, hb1⟩
  obtain ⟨A2, c2, rfl, hc2, hR⟩ := hO.rd
  have hQ2 : ps.map RF.q = leftL u m := by rw [hQ, leftQ_eq, e, e']
  have hll : (leftL u m).length = n := left_len (by rw [h2, h2'.1]) h2'.2 (fun e => by rw [e] at h2'; exact h2'.1.symm)
  have hpl := map_len hQ2 hll
  rw [← hpl] at hc2 ⊢
  refine ⟨A2, c2, rfl, ⟨⟨ps, hR.mono (fun _ _ _ => trivial), hQ2⟩, hll, hc2, fun x hx => ?_⟩, hb1⟩
  refine (left_sz h4 h4' x hx).mono ?_
  rw [h2'.1, hl']; exact hmul
theorem dot_sz {a b n : Nat} {u v : List Rat} (hu : ∀ x ∈ u, Sz a x) (hv : ∀ x ∈ v, Sz b x) (hl : u.length ≤ n) : Sz (1 + n * (a + b + 1)) (dotL u v) := by
  unfold dotL
  refine (sz_sum (a := a + b) _ (fun x hx => ?_)).mono ?_
  · obtain ⟨i, hi, e⟩ := List.mem_iff_getElem.1 hx
    rw [List.getElem_zipWith] at e
    subst e
    rw [List.length_zipWith] at hi
    exact sz_mul (hu _ (List.getElem_mem (by omega))) (hv _ (List.getElem_mem (by omega)))
  · rw [List.length_zipWith]
    have := Nat.mul_le_mul_right (a + b + 1) (show min u.length v.length ≤ n by omega)
    omega
theorem apply_Mx {A A' : Option Addr} {n c c' : Nat} {u : List Rat} {m : List (List Rat)} {a b : Nat} {w : World} (h : Mx w A n c m a) (h' : Vx w A' n c' u b) (hn : n ≤ 4) (hb : 1 + 4 * (a + b + 1) ≤ 10000) :
    Calls Tryz.prog 49 #[.slice A n c, .slice A' n c'] w fun e w' => ∃ A2 c2, e = .returned (.tuple #[.slice A2 n c2, .bool true]) ∧ Vx w' A2 n c2 (applyL m u) (1 + 4 * (a + b + 1)) ∧ Below w.heap.size w w' := by
  obtain ⟨⟨rows, hr, e⟩, h2, h3, h4⟩ := h
  obtain ⟨⟨xs, hr', e'⟩, h2', h3', h4'⟩ := h'
  have hl := map_len e h2.1
  have hl' := map_len e' h2'
  have hmul : xs.length * (a + b + 1) ≤ 4 * (a + b + 1) := Nat.mul_le_mul_right _ (by omega)
  have hm := grid_Apply _ _ A c rows A' c' xs a b w hr (by omega) hr' (by omega) (by omega) (by omega) (by rw [← hl']; exact rows_len e h2.2) (by rw [← hl']; exact rows_width e h2.2 (fun e => by rw [e] at h2; exact h2.1.symm)) (rows_sz e h4) (row_sz e' h4') (by omega)
  rw [← hl, ← hl'] at hm
  refine hm.mono ?_
  rintro _ w' ⟨v, ps, rfl, hO, hQ, -, hb1⟩
  obtain ⟨A2, c2, rfl, hc2, hR⟩ := hO.rd
  have hQ2 : ps.map RF.q = applyL m u := by rw [hQ, applyQ_eq, e, e']
  have hll : (applyL m u).length = n := by unfold applyL; rw [List.length_map]; exact h2.1
  have hpl := map_len hQ2 hll
  rw [← hpl] at hc2 ⊢
  refine ⟨A2, c2, rfl, ⟨⟨ps, hR.mono (fun _ _ _ => trivial), hQ2⟩, hll, hc2, fun x hx => ?_⟩, hb1⟩
  obtain ⟨r, hr, rfl⟩ := List.mem_map.1 hx
  exact dot_sz (h4 r hr) h4' (by rw [h2.2 r hr]; exact hn)
theorem dot_Vx {A A' : Option Addr} {n c c' : Nat} {u v : List Rat} {a b : Nat} {w : World} (h : Vx w A n c u a) (h' : Vx w A' n c' v b) (hn : n ≤ 4) (hb : 1 + 4 * (a + b + 1) ≤ 10000) :
    Calls Tryz.prog 53 #[.slice A n c, .slice A' n c'] w (RfOut2 (dotL u v) true w) := by
  obtain ⟨⟨xs, hr, e⟩, h2, h3, h4⟩ := h
  obtain ⟨⟨ys, hr', e'⟩, h2', h3', h4'⟩ := h'
  have hl := map_len e h2
  have hl' := map_len e' h2'
  have hmul : xs.length * (a + b + 1) ≤ 4 * (a + b + 1) := Nat.mul_le_mul_right _ (by omega)
  have hm := row_Dot _ _ A c xs A' c' ys w hr (by omega) hr' (by omega) (by omega) (by omega) a b (row_sz e h4) (row_sz e' h4') (by omega)
  rw [← hl, ← hl', dotQ_eq, e, e'] at hm
  exact hm
/-- What came in, as the program has it. -/
theorem to_Mx {A : Option Addr} {n c : Nat} {m : List (List Rat)} {a : Nat} {w : World} (h : Mx w A n c m a) (hn : n ≤ 4) :
    Calls Tryz.prog 30 #[.slice A n c] w fun e w' => ∃ A2 c2, e = .returned (.slice A2 n c2) ∧ Mx w' A2 n c2 m a ∧ Below w.heap.size w w' := by
  obtain ⟨⟨rows, hr, e⟩, h2, h3, h4⟩ := h
  have hl := map_len e h2.1
  have hm := law12_To _ A c rows w hr (by omega) (by omega) (fun r hr1 => by rw [rows_len e h2.2 r hr1]; omega)
  rw [← hl] at hm
  refine hm.mono ?_
  rintro _ w' ⟨v, ps, rfl, hO, hQ, hb1⟩
  obtain ⟨A2, c2, rfl, hc2, hR⟩ := hO.rd
  have hQ2 : ps.map rowQ = m := by
    have := congrArg (List.map (List.map RF.q)) hQ
    rw [List.map_map, List.map_map] at this
    rw [← e]; exact this
  have hpl := map_len hQ2 h2.1
  rw [← hpl] at hc2 ⊢
  exact ⟨A2, c2, rfl, ⟨⟨ps, hR.mono (fun _ _ _ => trivial), hQ2⟩, h2, hc2, h4⟩, hb1⟩
theorem to_Vx {A : Option Addr} {n c : Nat} {u : List Rat} {a : Nat} {w : World} (h : Vx w A n c u a) (hn : n ≤ 4) :
    Calls Tryz.prog 48 #[.slice A n c] w fun e w' => ∃ A2 c2, e = .returned (.slice A2 n c2) ∧ Vx w' A2 n c2 u a ∧ Below w.heap.size w w' := by
  obtain ⟨⟨xs, hr, e⟩, h2, h3, h4⟩ := h
  have hl := map_len e h2
  have hm := law11_To _ A c xs w hr (by omega) (by omega)
  rw [← hl] at hm
  refine hm.mono ?_
  rintro _ w' ⟨v, rfl, hO, hb1⟩
  obtain ⟨A2, c2, rfl, hc2, hR⟩ := hO.rd
  rw [← hl] at hc2 ⊢
  exact ⟨A2, c2, rfl, ⟨⟨xs, hR.mono (fun _ _ _ => trivial), e⟩, h2, hc2, h4⟩, hb1⟩
theorem right_len {rows : List (RV RF)} {n : Nat} (h : rightM rows = true) (hw : widthM rows = n) : ∀ r ∈ rows, r.l.length = n := fun r hr => by
  have := List.all_eq_true.1 h r hr
  rw [decide_eq_true_eq, hw] at this
  exact this
theorem mx_in {w : World} {A : Option Addr} {rows : List (RV RF)} {n c a : Nat} (h : Rw (fun _ => True) w A rows) (hl : rows.length = n) (hc : n ≤ c) (hr : ∀ r ∈ rows, r.l.length = n) (hs : ∀ r ∈ rows, ∀ x ∈ r.l, Sz a x.q) : Mx w A n c (rows.map rowQ) a :=
  ⟨⟨rows, h, rfl⟩, ⟨by rw [List.length_map]; exact hl, fun q hq => by
    obtain ⟨r, hr1, rfl⟩ := List.mem_map.1 hq
    unfold rowQ; rw [List.length_map]; exact hr r hr1⟩, hc, fun q hq x hx => by
    obtain ⟨r, hr1, rfl⟩ := List.mem_map.1 hq
    obtain ⟨y, hy, rfl⟩ := List.mem_map.1 (show x ∈ r.l.map RF.q from hx)
    exact hs r hr1 y hy⟩
theorem vx_in {w : World} {A : Option Addr} {xs : List RF} {n c a : Nat} (h : Rw (fun _ => True) w A xs) (hl : xs.length = n) (hc : n ≤ c) (hs : ∀ x ∈ xs, Sz a x.q) : Vx w A n c (xs.map RF.q) a :=
  ⟨⟨xs, h, rfl⟩, by rw [List.length_map]; exact hl, hc, fun x hx => by
    obtain ⟨y, hy, rfl⟩ := List.mem_map.1 hx
    exact hs y hy⟩
end Go.Proofs.YthjpkichpkomcaaGreatDoor
