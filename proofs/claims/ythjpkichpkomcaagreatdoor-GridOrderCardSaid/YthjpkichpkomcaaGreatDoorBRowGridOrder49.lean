/- GridP -/
import Derived.Test.YthjpkichpkomcaaGreatDoorBRowGridOrder45
/- The laws of matrices, on lists of values: no program in sight. -/
namespace Go.Proofs.YthjpkichpkomcaaGreatDoor
open Go.RowKit Go.Proofs.YthjpkichpkomcaaGreatDoor.Big
set_option linter.unusedVariables false

/-- A sum, from its end. -/
def sl : List Rat → Rat
  | [] => 0
  | x :: r => x + sl r
theorem foldl_sl : ∀ (l : List Rat) (s : Rat), l.foldl (· + ·) s = s + sl l
  | [], s => by simp [sl, Rat.add_zero]
  | x :: r, s => by rw [List.foldl_cons, foldl_sl r (s + x), sl, Rat.add_assoc]
theorem sumQ_sl (l : List Rat) : sumQ l = sl l := by unfold sumQ; rw [foldl_sl, Rat.zero_add]
def dt (a b : List Rat) : Rat := sl (List.zipWith (· * ·) a b)
theorem dotL_dt (a b : List Rat) : dotL a b = dt a b := sumQ_sl _
theorem dt_comm : ∀ (a b : List Rat), dt a b = dt b a
  | [], b => by cases b <;> rfl
  | x :: a, [] => rfl
  | x :: a, y :: b => by
    have := dt_comm a b
    unfold dt at this ⊢
    simp only [List.zipWith_cons_cons, sl]
    rw [this, Rat.mul_comm]
theorem dt_cons (x y : Rat) (a b : List Rat) : dt (x :: a) (y :: b) = x * y + dt a b := rfl
theorem dt_add : ∀ (p q u : List Rat), p.length = q.length → dt (addQ p q) u = dt p u + dt q u
  | [], [], u, _ => by simp [addQ, dt, sl, Rat.add_zero]
  | x :: p, y :: q, [], _ => by simp [addQ, dt, sl, Rat.add_zero]
  | x :: p, y :: q, z :: u, h => by
    have := dt_add p q u (by simpa using h)
    show (x + y) * z + dt (addQ p q) u = (x * z + dt p u) + (y * z + dt q u)
    rw [this]; grind
theorem dt_scale (x : Rat) : ∀ (r u : List Rat), dt (r.map (x * ·)) u = x * dt r u
  | [], u => by simp [dt, sl]
  | y :: r, [] => by simp [dt, sl]
  | y :: r, z :: u => by
    have := dt_scale x r u
    show x * y * z + dt (r.map (x * ·)) u = x * (y * z + dt r u)
    rw [this]; grind
theorem dt_zero : ∀ (k : Nat) (u : List Rat), dt (List.replicate k 0) u = 0
  | 0, u => by simp [dt, sl]
  | k + 1, [] => by simp [List.replicate_succ, dt, sl]
  | k + 1, z :: u => by
    have := dt_zero k u
    rw [List.replicate_succ, dt_cons, this]; grind

/-- A row times a matrix whose rows have k places. -/
def lin (k : Nat) : List Rat → List (List Rat) → List Rat
  | x :: v, r :: m => addQ (r.map (x * ·)) (lin k v m)
  | _, _ => List.replicate k 0
theorem lin_len {k : Nat} : ∀ (v : List Rat) (m : List (List Rat)), (∀ r ∈ m, r.length = k) → (lin k v m).length = k
  | [], m, _ => by cases m <;> simp [lin]
  | x :: v, [], _ => by simp [lin]
  | x :: v, r :: m, h => by
    unfold lin
    exact addQ_len (by rw [List.length_map]; exact h r List.mem_cons_self) (lin_len v m (fun r hr => h r (List.mem_cons_of_mem _ hr)))
theorem addQ_assoc : ∀ (a b c : List Rat), addQ (addQ a b) c = addQ a (addQ b c)
  | [], b, c => by simp [addQ]
  | x :: a, [], c => by simp [addQ]
  | x :: a, y :: b, [] => by simp [addQ]
  | x :: a, y :: b, z :: c => by
    have := addQ_assoc a b c
    show (x + y + z) :: addQ (addQ a b) c = (x + (y + z)) :: addQ a (addQ b c)
    rw [this, Rat.add_assoc]
theorem addQ_comm : ∀ (a b : List Rat), addQ a b = addQ b a
  | [], b => by cases b <;> rfl
  | x :: a, [] => rfl
  | x :: a, y :: b => by
    have := addQ_comm a b
    show (x + y) :: addQ a b = (y + x) :: addQ b a
    rw [this, Rat.add_comm]
theorem addQ_zero : ∀ (a : List Rat) (k : Nat), a.length = k → addQ a (List.replicate k 0) = a
  | [], k, h => by simp [addQ]
  | x :: a, 0, h => by simp at h
  | x :: a, k + 1, h => by
    have := addQ_zero a k (by simpa using h)
    rw [List.replicate_succ]
    show (x + 0) :: addQ a (List.replicate k 0) = x :: a
    rw [this, Rat.add_zero]
theorem foldl_addQ : ∀ (l : List (List Rat)) (p q : List Rat), l.foldl addQ (addQ p q) = addQ p (l.foldl addQ q)
  | [], p, q => rfl
  | r :: l, p, q => by rw [List.foldl_cons, List.foldl_cons, addQ_assoc, foldl_addQ l p (addQ q r)]
theorem leftL_lin {k : Nat} : ∀ (v : List Rat) (m : List (List Rat)), v.length = m.length → (∀ r ∈ m, r.length = k) → m ≠ [] → leftL v m = lin k v m
  | [], m, h, _, hm => by
    have : m = [] := List.eq_nil_of_length_eq_zero (by simpa using h.symm)
    exact absurd this hm
  | x :: v, [], h, _, hm => absurd rfl hm
  | x :: v, [r], h, hr, _ => by
    have : v = [] := List.eq_nil_of_length_eq_zero (by simpa using h)
    subst this
    show r.map (x * ·) = addQ (r.map (x * ·)) (List.replicate k 0)
    rw [addQ_zero _ k (by rw [List.length_map]; exact hr r List.mem_cons_self)]
  | x :: v, r :: r2 :: m, h, hr, _ => by
    obtain ⟨y, v2, rfl⟩ : ∃ y v2, v = y :: v2 := by
      cases v with
      | nil => simp at h
      | cons y v2 => exact ⟨y, v2, rfl⟩
    have ih := leftL_lin (k := k) (y :: v2) (r2 :: m) (by simpa using h) (fun r hr2 => hr r (List.mem_cons_of_mem _ hr2)) (by simp)
    show (List.zipWith _ v2 m).foldl addQ (addQ (r.map (x * ·)) (r2.map (y * ·))) = addQ (r.map (x * ·)) (lin k (y :: v2) (r2 :: m))
    rw [foldl_addQ, ← ih]; rfl
/-- A row, a matrix and a column have one product. -/
theorem lin_dt {k : Nat} : ∀ (v : List Rat) (m : List (List Rat)) (u : List Rat), (∀ r ∈ m, r.length = k) → dt (lin k v m) u = dt v (m.map (fun r => dt r u))
  | [], m, u, _ => by
    have e : lin k [] m = List.replicate k 0 := by cases m <;> rfl
    rw [e, dt_zero]; rfl
  | x :: v, [], u, _ => by
    show dt (List.replicate k 0) u = _
    rw [dt_zero]; rfl
  | x :: v, r :: m, u, h => by
    have hm : ∀ r ∈ m, r.length = k := fun r hr => h r (List.mem_cons_of_mem _ hr)
    unfold lin
    rw [dt_add _ _ _ (by rw [List.length_map, lin_len v m hm]; exact h r List.mem_cons_self), dt_scale, lin_dt v m u hm, List.map_cons, dt_cons]
theorem map_addQ (x : Rat) : ∀ (a b : List Rat), (addQ a b).map (x * ·) = addQ (a.map (x * ·)) (b.map (x * ·))
  | [], b => by simp [addQ]
  | y :: a, [] => by simp [addQ]
  | y :: a, z :: b => by
    have := map_addQ x a b
    show (x * (y + z)) :: (addQ a b).map (x * ·) = (x * y + x * z) :: addQ (a.map (x * ·)) (b.map (x * ·))
    rw [this, Rat.mul_add]
theorem map_zero (x : Rat) (k : Nat) : (List.replicate k (0 : Rat)).map (x * ·) = List.replicate k 0 := by
  rw [List.map_replicate, Rat.mul_zero]
theorem lin_scale {k : Nat} (x : Rat) : ∀ (v : List Rat) (m : List (List Rat)), lin k (v.map (x * ·)) m = (lin k v m).map (x * ·)
  | [], m => by
    have e : ∀ m, lin k [] m = List.replicate k 0 := fun m => by cases m <;> rfl
    rw [List.map_nil, e, map_zero]
  | y :: v, [] => (map_zero x k).symm
  | y :: v, r :: m => by
    show addQ (r.map (x * y * ·)) (lin k (v.map (x * ·)) m) = (addQ (r.map (y * ·)) (lin k v m)).map (x * ·)
    rw [map_addQ, lin_scale x v m, List.map_map]
    congr 1
    apply List.map_congr_left
    intro z _
    exact Rat.mul_assoc x y z
theorem lin_zero {k : Nat} : ∀ (n : Nat) (m : List (List Rat)), (∀ r ∈ m, r.length = k) → lin k (List.replicate n 0) m = List.replicate k 0
  | 0, m, _ => by cases m <;> rfl
  | n + 1, [], _ => rfl
  | n + 1, r :: m, h => by
    rw [List.replicate_succ]
    show addQ (r.map (0 * ·)) (lin k (List.replicate n 0) m) = _
    rw [lin_zero n m (fun r hr => h r (List.mem_cons_of_mem _ hr))]
    have e : r.map ((0 : Rat) * ·) = List.replicate k 0 := by
      rw [← h r List.mem_cons_self]
      apply List.ext_getElem?
      intro i
      rw [List.getElem?_map, List.getElem?_replicate]
      by_cases hi : i < r.length
      · rw [if_pos hi, List.getElem?_eq_getElem hi]; simp [Rat.zero_mul]
      · rw [if_neg hi, List.getElem?_eq_none (by omega)]; rfl
    rw [e, addQ_zero _ k (by simp)]
theorem lin_add {k : Nat} : ∀ (p q : List Rat) (m : List (List Rat)), p.length = q.length → (∀ r ∈ m, r.length = k) → lin k (addQ p q) m = addQ (lin k p m) (lin k q m)
  | [], [], m, _, _ => by
    have e : ∀ m, lin k [] m = List.replicate k 0 := fun m => by cases m <;> rfl
    show lin k [] m = _
    rw [e, addQ_zero _ k (by simp)]
  | x :: p, y :: q, [], _, _ => by
    show List.replicate k 0 = addQ (List.replicate k 0) (List.replicate k 0)
    rw [addQ_zero _ k (by simp)]
  | x :: p, y :: q, r :: m, h, hm => by
    show addQ (r.map ((x + y) * ·)) (lin k (addQ p q) m) = addQ (addQ (r.map (x * ·)) (lin k p m)) (addQ (r.map (y * ·)) (lin k q m))
    rw [lin_add p q m (by simpa using h) (fun r hr => hm r (List.mem_cons_of_mem _ hr))]
    have e : r.map ((x + y) * ·) = addQ (r.map (x * ·)) (r.map (y * ·)) := by
      clear h hm
      induction r with
      | nil => rfl
      | cons z r ih =>
        show ((x + y) * z) :: r.map ((x + y) * ·) = (x * z + y * z) :: addQ (r.map (x * ·)) (r.map (y * ·))
        rw [ih, Rat.add_mul]
    rw [e, addQ_assoc, addQ_assoc]
    congr 1
    rw [← addQ_assoc, ← addQ_assoc, addQ_comm (r.map (y * ·))]
/-- Behind a third one it doesn't hang on which two are multiplied first. -/
theorem lin_lin {n k : Nat} : ∀ (v : List Rat) (m m' : List (List Rat)), (∀ r ∈ m, r.length = n) → (∀ r ∈ m', r.length = k) → lin k (lin n v m) m' = lin k v (m.map (fun r => lin k r m'))
  | [], m, m', _, hm' => by
    have e : ∀ n m, lin n [] m = List.replicate n 0 := fun n m => by cases m <;> rfl
    rw [e, e, lin_zero n m' hm']
  | x :: v, [], m', _, hm' => lin_zero n m' hm'
  | x :: v, r :: m, m', hm, hm' => by
    have h2 : ∀ r ∈ m, r.length = n := fun r hr => hm r (List.mem_cons_of_mem _ hr)
    show lin k (addQ (r.map (x * ·)) (lin n v m)) m' = addQ ((lin k r m').map (x * ·)) (lin k v (m.map _))
    rw [lin_add _ _ _ (by rw [List.length_map, lin_len v m h2]; exact hm r List.mem_cons_self) hm', lin_scale, lin_lin v m m' h2 hm']
theorem addQ_getD {p q : List Rat} {k j : Nat} (h1 : p.length = k) (h2 : q.length = k) (hj : j < k) : (addQ p q).getD j 0 = p.getD j 0 + q.getD j 0 := by
  have hx : p[j]? = some (p[j]'(by omega)) := List.getElem?_eq_getElem _
  have hy : q[j]? = some (q[j]'(by omega)) := List.getElem?_eq_getElem _
  simp only [List.getD_eq_getElem?_getD, addQ_get hx hy, hx, hy, Option.getD_some]
theorem scale_getD {r : List Rat} {k j : Nat} (x : Rat) (h : r.length = k) (hj : j < k) : (r.map (x * ·)).getD j 0 = x * r.getD j 0 := by
  have hx : r[j]? = some (r[j]'(by omega)) := List.getElem?_eq_getElem _
  simp only [List.getD_eq_getElem?_getD, List.getElem?_map, hx, Option.map_some, Option.getD_some]
def colL (m : List (List Rat)) (j : Nat) : List Rat := m.map (fun r => r.getD j 0)
theorem lin_getD {k : Nat} : ∀ (v : List Rat) (m : List (List Rat)) (j : Nat), (∀ r ∈ m, r.length = k) → j < k → (lin k v m).getD j 0 = dt v (colL m j)
  | [], m, j, _, hj => by
    have e : lin k [] m = List.replicate k 0 := by cases m <;> rfl
    rw [e, List.getD_eq_getElem?_getD, List.getElem?_replicate, if_pos hj]; rfl
  | x :: v, [], j, _, hj => by
    show (List.replicate k (0 : Rat)).getD j 0 = _
    rw [List.getD_eq_getElem?_getD, List.getElem?_replicate, if_pos hj]; rfl
  | x :: v, r :: m, j, h, hj => by
    have h2 : ∀ r ∈ m, r.length = k := fun r hr => h r (List.mem_cons_of_mem _ hr)
    have hr := h r List.mem_cons_self
    show (addQ (r.map (x * ·)) (lin k v m)).getD j 0 = x * r.getD j 0 + dt v (colL m j)
    rw [addQ_getD (k := k) (by rw [List.length_map]; exact hr) (lin_len v m h2) hj, scale_getD x hr hj, lin_getD v m j h2 hj]
theorem list_range {l : List Rat} {k : Nat} (h : l.length = k) : (List.range k).map (fun j => l.getD j 0) = l := by
  apply List.ext_getElem?
  intro i
  rw [List.getElem?_map]
  by_cases hi : i < k
  · rw [List.getElem?_range hi, Option.map_some, List.getD_eq_getElem?_getD, List.getElem?_eq_getElem (by omega)]; rfl
  · rw [List.getElem?_eq_none (by simp; omega), List.getElem?_eq_none (by omega)]; rfl
theorem lin_range {k : Nat} (v : List Rat) (m : List (List Rat)) (h : ∀ r ∈ m, r.length = k) : lin k v m = (List.range k).map (fun j => dt v (colL m j)) := by
  rw [← list_range (lin_len v m h)]
  apply List.map_congr_left
  intro j hj
  exact lin_getD v m j h (List.mem_range.1 hj)
theorem turn_len {m : List (List Rat)} {n : Nat} : ∀ c ∈ turnL m n, c.length = m.length := fun c hc => by
  unfold turnL at hc
  obtain ⟨j, _, rfl⟩ := List.mem_map.1 hc
  rw [List.length_map]
theorem col_turn {m : List (List Rat)} {n i : Nat} {r : List Rat} (hi : m[i]? = some r) (hr : r.length = n) : colL (turnL m n) i = r := by
  unfold colL turnL
  rw [List.map_map, ← list_range hr]
  apply List.map_congr_left
  intro j _
  show (m.map (fun r => r.getD j 0)).getD i 0 = _
  rw [List.getD_eq_getElem?_getD, List.getElem?_map, hi]; rfl
/-- A product of two matrices, turned, is the product of what was turned, in the other order. -/
theorem turn_mul {n : Nat} {x y : List (List Rat)} (hx : ∀ r ∈ x, r.length = n) (hy : ∀ r ∈ y, r.length = n) :
    turnL (x.map (fun r => lin n r y)) n = (turnL y n).map (fun c => lin x.length c (turnL x n)) := by
  unfold turnL
  rw [List.map_map]
  apply List.map_congr_left
  intro j hj
  have hj2 := List.mem_range.1 hj
  show (x.map (fun r => lin n r y)).map (fun r => r.getD j 0) = lin x.length (colL y j) (turnL x n)
  rw [lin_range _ _ turn_len, List.map_map]
  apply List.ext_getElem?
  intro i
  rw [List.getElem?_map, List.getElem?_map]
  by_cases hi : i < x.length
  · have hxi : x[i]? = some x[i] := List.getElem?_eq_getElem hi
    rw [List.getElem?_range hi, hxi, Option.map_some, Option.map_some]
    congr 1
    show (lin n x[i] y).getD j 0 = dt (colL y j) (colL (turnL x n) i)
    rw [lin_getD _ _ _ hy hj2, col_turn hxi (hx _ (List.getElem_mem _)), dt_comm]
  · rw [List.getElem?_eq_none (by omega), List.getElem?_eq_none (by simp; omega)]; rfl
end Go.Proofs.YthjpkichpkomcaaGreatDoor
