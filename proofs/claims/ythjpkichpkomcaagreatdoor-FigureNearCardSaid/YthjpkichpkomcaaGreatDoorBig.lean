/- Plain facts on naturals as lists of words (base 2^32, lowest first): their value, the right list of a value, and how sums, differences and cuts go. -/
namespace Go.Proofs.YthjpkichpkomcaaGreatDoor.Big

def Wd (l : List Int) : Prop := ∀ x ∈ l, 0 ≤ x ∧ x < 4294967296

def val : List Int → Int
  | [] => 0
  | x :: xs => x + 4294967296 * val xs

def pw (n : Nat) : Int := 4294967296 ^ n

theorem pw_zero : pw 0 = 1 := rfl
theorem pw_succ (n : Nat) : pw (n + 1) = 4294967296 * pw n := by unfold pw; rw [Int.pow_succ, Int.mul_comm]
theorem pw_add (m n : Nat) : pw (m + n) = pw m * pw n := by unfold pw; rw [Int.pow_add]
theorem pw_pos (n : Nat) : 0 < pw n := by
  induction n with
  | zero => decide
  | succ n ih => rw [pw_succ]; omega
theorem pw_one : pw 1 = 4294967296 := by rw [pw_succ, pw_zero]; rfl

theorem val_nil : val [] = 0 := rfl
theorem val_cons (x : Int) (xs : List Int) : val (x :: xs) = x + 4294967296 * val xs := rfl
theorem val_append (a b : List Int) : val (a ++ b) = val a + pw a.length * val b := by
  induction a with
  | nil => simp [val, pw_zero]
  | cons x xs ih =>
    simp only [List.cons_append, val_cons, ih, List.length_cons, pw_succ, Int.mul_add, Int.mul_assoc]
    omega
theorem val_snoc (a : List Int) (x : Int) : val (a ++ [x]) = val a + pw a.length * x := by
  rw [val_append]; simp [val]
theorem val_replicate (n : Nat) : val (List.replicate n 0) = 0 := by
  induction n with
  | zero => rfl
  | succ n ih => rw [List.replicate_succ, val_cons, ih]; rfl

theorem Wd.nil : Wd [] := fun _ h => by cases h
theorem Wd.cons {x : Int} {xs : List Int} (h0 : 0 ≤ x) (h1 : x < 4294967296) (h : Wd xs) : Wd (x :: xs) := by
  intro y hy
  rcases List.mem_cons.1 hy with rfl | hy
  · exact ⟨h0, h1⟩
  · exact h y hy
theorem Wd.head {x : Int} {xs : List Int} (h : Wd (x :: xs)) : 0 ≤ x ∧ x < 4294967296 := h x List.mem_cons_self
theorem Wd.tail {x : Int} {xs : List Int} (h : Wd (x :: xs)) : Wd xs := fun y hy => h y (List.mem_cons_of_mem _ hy)
theorem Wd.append {a b : List Int} (ha : Wd a) (hb : Wd b) : Wd (a ++ b) := by
  intro y hy
  rcases List.mem_append.1 hy with h | h
  · exact ha y h
  · exact hb y h
theorem Wd.left {a b : List Int} (h : Wd (a ++ b)) : Wd a := fun y hy => h y (List.mem_append_left _ hy)
theorem Wd.right {a b : List Int} (h : Wd (a ++ b)) : Wd b := fun y hy => h y (List.mem_append_right _ hy)
theorem Wd.take {a : List Int} (h : Wd a) (n : Nat) : Wd (a.take n) := fun y hy => h y (List.mem_of_mem_take hy)
theorem Wd.drop {a : List Int} (h : Wd a) (n : Nat) : Wd (a.drop n) := fun y hy => h y (List.mem_of_mem_drop hy)
theorem Wd.replicate (n : Nat) : Wd (List.replicate n 0) := by
  intro y hy
  rw [List.eq_of_mem_replicate hy]
  omega
theorem Wd.set {a : List Int} (h : Wd a) (i : Nat) {x : Int} (h0 : 0 ≤ x) (h1 : x < 4294967296) : Wd (a.set i x) := by
  intro y hy
  rcases List.mem_or_eq_of_mem_set hy with h2 | rfl
  · exact h y h2
  · exact ⟨h0, h1⟩
theorem Wd.getD {a : List Int} (h : Wd a) (i : Nat) : 0 ≤ a.getD i 0 ∧ a.getD i 0 < 4294967296 := by
  rw [List.getD_eq_getElem?_getD]
  rcases Nat.lt_or_ge i a.length with hi | hi
  · rw [List.getElem?_eq_getElem hi]
    exact h _ (List.getElem_mem hi)
  · rw [List.getElem?_eq_none hi]
    exact ⟨by simp, by simp⟩

theorem val_nonneg {l : List Int} (h : Wd l) : 0 ≤ val l := by
  induction l with
  | nil => exact Int.le_refl 0
  | cons x xs ih =>
    have := h.head
    have := ih h.tail
    rw [val_cons]; omega
theorem val_lt {l : List Int} (h : Wd l) : val l < pw l.length := by
  induction l with
  | nil => rw [val_nil, List.length_nil, pw_zero]; omega
  | cons x xs ih =>
    have := h.head
    have := ih h.tail
    rw [val_cons, List.length_cons, pw_succ]; omega

/-- The words of a number. -/
def repN (n : Nat) : List Int := if h : n = 0 then [] else ((n % 4294967296 : Nat) : Int) :: repN (n / 4294967296)
termination_by n
decreasing_by exact Nat.div_lt_self (Nat.pos_of_ne_zero h) (by decide)
def rep (z : Int) : List Int := repN z.toNat

theorem repN_zero : repN 0 = [] := by unfold repN; rfl
theorem repN_pos {n : Nat} (h : n ≠ 0) : repN n = ((n % 4294967296 : Nat) : Int) :: repN (n / 4294967296) := by
  conv => lhs; unfold repN
  rw [dif_neg h]
theorem Wd_repN (n : Nat) : Wd (repN n) := by
  induction n using Nat.strongRecOn with
  | _ n ih =>
    by_cases h : n = 0
    · subst h; rw [repN_zero]; exact Wd.nil
    · rw [repN_pos h]
      exact Wd.cons (by omega) (by omega) (ih _ (Nat.div_lt_self (Nat.pos_of_ne_zero h) (by decide)))
theorem val_repN (n : Nat) : val (repN n) = n := by
  induction n using Nat.strongRecOn with
  | _ n ih =>
    by_cases h : n = 0
    · subst h; rw [repN_zero]; rfl
    · rw [repN_pos h, val_cons, ih _ (Nat.div_lt_self (Nat.pos_of_ne_zero h) (by decide))]
      omega
theorem Wd_rep (z : Int) : Wd (rep z) := Wd_repN _
theorem val_rep {z : Int} (h : 0 ≤ z) : val (rep z) = z := by unfold rep; rw [val_repN]; omega
theorem rep_zero : rep 0 = [] := repN_zero
theorem rep_nil {z : Int} (h : z ≤ 0) : rep z = [] := by unfold rep; rw [show z.toNat = 0 from by omega]; exact repN_zero
theorem rep_cons {x v : Int} (h0 : 0 ≤ x) (h1 : x < 4294967296) (hv : 0 < v) : rep (x + 4294967296 * v) = x :: rep v := by
  unfold rep
  rw [repN_pos (by omega), show (x + 4294967296 * v).toNat / 4294967296 = v.toNat from by omega]
  congr 1
  omega
theorem rep_word {x : Int} (h0 : 0 < x) (h1 : x < 4294967296) : rep x = [x] := by
  unfold rep
  rw [repN_pos (by omega), show x.toNat / 4294967296 = 0 from by omega, repN_zero]
  congr 1
  omega
theorem rep_eq_nil {z : Int} : rep z = [] ↔ z ≤ 0 := by
  constructor
  · intro h
    unfold rep at h
    by_cases hz : z.toNat = 0
    · omega
    · rw [repN_pos hz] at h; cases h
  · exact rep_nil
theorem rep_length_pos {z : Int} (h : 0 < z) : 0 < (rep z).length := by
  rcases Nat.eq_zero_or_pos (rep z).length with h0 | h0
  · have := rep_eq_nil.1 (List.eq_nil_of_length_eq_zero h0); omega
  · exact h0

/-- What stands in a list with noughts behind it is the right list of its value, if no nought stands at its own end. -/
theorem rep_val {l : List Int} (hw : Wd l) (hl : ∀ h : l ≠ [], l.getLast h ≠ 0) : rep (val l) = l := by
  induction l with
  | nil => exact rep_zero
  | cons x xs ih =>
    have hx := hw.head
    by_cases hn : xs = []
    · subst hn
      have := hl (by simp)
      simp only [List.getLast_singleton] at this
      rw [val_cons, val_nil]
      rw [show x + 4294967296 * 0 = x from by omega]
      exact rep_word (by omega) hx.2
    · have ih' := ih hw.tail (fun h => by have := hl (by simp); rwa [List.getLast_cons h] at this)
      have hpos : 0 < val xs := by
        rcases Int.lt_or_le 0 (val xs) with h | h
        · exact h
        · have := rep_nil h; rw [ih'] at this; exact absurd this hn
      rw [val_cons, rep_cons hx.1 hx.2 hpos, ih']
theorem rep_last {z : Int} (h : rep z ≠ []) : (rep z).getLast h ≠ 0 := by
  have key : ∀ n : Nat, ∀ h : repN n ≠ [], (repN n).getLast h ≠ 0 := by
    intro n
    induction n using Nat.strongRecOn with
    | _ n ih =>
      intro h
      by_cases hn : n = 0
      · subst hn; exact absurd repN_zero h
      · have e := repN_pos hn
        by_cases h2 : repN (n / 4294967296) = []
        · have h3 : n / 4294967296 = 0 := by
            by_cases h4 : n / 4294967296 = 0
            · exact h4
            · rw [repN_pos h4] at h2; cases h2
          have : (repN n).getLast h = ((n % 4294967296 : Nat) : Int) := by
            simp only [e, h2, List.getLast_singleton]
          rw [this]; omega
        · have : (repN n).getLast h = (repN (n / 4294967296)).getLast h2 := by
            simp only [e, List.getLast_cons h2]
          rw [this]
          exact ih _ (Nat.div_lt_self (Nat.pos_of_ne_zero hn) (by decide)) h2
  exact key _ h
theorem rep_inj {a b : Int} (ha : 0 ≤ a) (hb : 0 ≤ b) (h : rep a = rep b) : a = b := by
  rw [← val_rep ha, ← val_rep hb, h]
theorem rep_length_le {z : Int} {n : Nat} (h : z < pw n) : (rep z).length ≤ n := by
  induction n generalizing z with
  | zero => rw [pw_zero] at h; rw [rep_nil (by omega)]; simp
  | succ n ih =>
    rw [pw_succ] at h
    rcases Int.lt_or_le 0 z with hz | hz
    · have e : z = z % 4294967296 + 4294967296 * (z / 4294967296) := by omega
      by_cases hv : 0 < z / 4294967296
      · rw [e, rep_cons (by omega) (by omega) hv, List.length_cons]
        have := ih (z := z / 4294967296) (by omega)
        omega
      · have : z / 4294967296 = 0 := by omega
        rw [rep_word hz (by omega)]
        simp
    · rw [rep_nil hz]; simp
theorem lt_pw_rep {z : Int} (h : 0 ≤ z) : z < pw (rep z).length := by
  have := val_lt (Wd_rep z)
  rwa [val_rep h] at this
theorem pw_mono {m n : Nat} (h : m ≤ n) : pw m ≤ pw n := by
  obtain ⟨k, rfl⟩ := Nat.exists_eq_add_of_le h
  rw [pw_add]
  have h1 := pw_pos m
  have h2 := pw_pos k
  have : pw m * 1 ≤ pw m * pw k := Int.mul_le_mul_of_nonneg_left (by omega) (by omega)
  omega
/-- A right list that isn't empty is at least 2^32 to its length less one. -/
theorem rep_ge {z : Int} {n : Nat} (h : n < (rep z).length) : pw n ≤ z := by
  rcases Int.lt_or_le z (pw n) with h1 | h1
  · have := rep_length_le h1; omega
  · exact h1
theorem rep_length_lt {a b : Int} (h0 : 0 ≤ a) (h : (rep a).length < (rep b).length) : a < b := by
  have h1 := lt_pw_rep h0
  have h2 := rep_ge h
  omega
theorem rep_length_mono {a b : Int} (h0 : 0 ≤ a) (h : a ≤ b) : (rep a).length ≤ (rep b).length := by
  have h1 := lt_pw_rep (show 0 ≤ b by omega)
  exact rep_length_le (by omega)

/-! Cuts at a place. -/
theorem val_split (l : List Int) (n : Nat) (h : n ≤ l.length) : val l = val (l.take n) + pw n * val (l.drop n) := by
  conv => lhs; rw [← List.take_append_drop n l]
  rw [val_append, List.length_take, Nat.min_eq_left h]
theorem getD_eq (l : List Int) (i : Nat) (h : i < l.length) : l.getD i 0 = l[i] := by simp [h]
theorem take_snoc (l : List Int) (i : Nat) (h : i < l.length) : l.take (i + 1) = l.take i ++ [l.getD i 0] := by
  rw [List.take_succ_eq_append_getElem h, getD_eq l i h]
theorem val_take_succ (l : List Int) (i : Nat) (h : i < l.length) : val (l.take (i + 1)) = val (l.take i) + pw i * l.getD i 0 := by
  rw [take_snoc l i h, val_snoc, List.length_take, Nat.min_eq_left (by omega)]
theorem drop_cons (l : List Int) (i : Nat) (h : i < l.length) : l.drop i = l.getD i 0 :: l.drop (i + 1) := by
  rw [List.drop_eq_getElem_cons h, getD_eq l i h]
theorem val_drop (l : List Int) (i : Nat) (h : i < l.length) : val (l.drop i) = l.getD i 0 + 4294967296 * val (l.drop (i + 1)) := by
  rw [drop_cons l i h, val_cons]
theorem val_set (l : List Int) (i : Nat) (x : Int) (h : i < l.length) : val (l.set i x) = val l + pw i * (x - l.getD i 0) := by
  have e : l.set i x = l.take i ++ x :: l.drop (i + 1) := by
    rw [List.set_eq_take_append_cons_drop, if_pos h]
  rw [e, val_append, val_cons, List.length_take, Nat.min_eq_left (by omega)]
  rw [val_split l i (by omega), val_drop l i h, Int.mul_sub, Int.mul_add, Int.mul_add]
  omega
theorem val_eq_zero {l : List Int} (hw : Wd l) (h : val l = 0) : ∀ x ∈ l, x = 0 := by
  induction l with
  | nil => intro x hx; cases hx
  | cons y ys ih =>
    have h1 := hw.head
    have h2 := val_nonneg hw.tail
    rw [val_cons] at h
    intro x hx
    rcases List.mem_cons.1 hx with rfl | hx
    · omega
    · exact ih hw.tail (by omega) x hx
/-- From the end: a list of the same length is less if the words from a place on say so. -/
theorem val_take_zero (l : List Int) (i : Nat) (hi : i < l.length) (h : l.getD i 0 = 0) : val (l.take (i + 1)) = val (l.take i) := by
  rw [val_take_succ l i hi, h]; omega
end Go.Proofs.YthjpkichpkomcaaGreatDoor.Big
namespace Go.Proofs.YthjpkichpkomcaaGreatDoor.Big
/-- The trimmed list: behind place n stand noughts alone, ahead of it none. -/
theorem rep_trim {l : List Int} (hw : Wd l) {n : Nat} (hn : n ≤ l.length) (hz : val (l.drop n) = 0) (hl : n = 0 ∨ l.getD (n - 1) 0 ≠ 0) : rep (val l) = l.take n := by
  rw [val_split l n hn, hz, Int.mul_zero, Int.add_zero]
  refine rep_val (hw.take n) (fun h => ?_)
  rcases hl with rfl | hl
  · simp at h
  · have hpos : 0 < n := by
      rcases Nat.eq_zero_or_pos n with rfl | h0
      · simp at h
      · exact h0
    rw [List.getLast_eq_getElem, List.getElem_take]
    have e : (l.take n).length - 1 = n - 1 := by rw [List.length_take, Nat.min_eq_left hn]
    rw [getD_eq l (n - 1) (by omega)] at hl
    simpa only [e] using hl
theorem val_drop_zero (l : List Int) (n : Nat) (h : l.length ≤ n) : val (l.drop n) = 0 := by rw [List.drop_eq_nil_of_le h]; rfl
/-- Which of two lists of one length is less is told by the highest unlike words. -/
theorem val_lt_at {a b : List Int} (ha : Wd a) (hb : Wd b) {i : Nat} (hia : i < a.length) (hib : i < b.length) (hd : val (a.drop (i + 1)) ≤ val (b.drop (i + 1))) (h : a.getD i 0 < b.getD i 0) : val a < val b := by
  have h1 := val_lt (ha.take i)
  have h2 := val_nonneg (hb.take i)
  rw [List.length_take, Nat.min_eq_left (by omega)] at h1
  have h3 : pw i * (val (a.drop i) + 1) ≤ pw i * val (b.drop i) := by
    refine Int.mul_le_mul_of_nonneg_left ?_ (by have := pw_pos i; omega)
    rw [val_drop a i hia, val_drop b i hib]
    omega
  rw [val_split a i (by omega), val_split b i (by omega)]
  rw [Int.mul_add] at h3
  omega

/-! Knuth's guess. B: 2^32; a3: the three highest words of what is left, b2: the two of the divisor. -/
theorem guess_high {A b a3 b2 P A' b' q : Int} (hA : A = a3 * P + A') (hb : b = b2 * P + b') (hP : 0 < P) (hA' : A' < P) (hb' : 0 ≤ b') (hq : 0 ≤ q) (h : a3 < (q + 1) * b2) : A < (q + 1) * b := by
  have h1 : (a3 + 1) * P ≤ ((q + 1) * b2) * P := Int.mul_le_mul_of_nonneg_right (by omega) (by omega)
  have h2 : 0 ≤ (q + 1) * b' := Int.mul_nonneg (by omega) hb'
  have e : (q + 1) * b = ((q + 1) * b2) * P + (q + 1) * b' := by rw [hb, Int.mul_add, Int.mul_assoc]
  rw [e, hA]
  rw [Int.add_mul] at h1
  omega
theorem guess_low {A b a3 b2 P A' b' q : Int} (hA : A = a3 * P + A') (hb : b = b2 * P + b') (hP : 0 < P) (hA' : 0 ≤ A') (hb0 : 0 ≤ b') (hb' : b' < P) (hq : 0 ≤ q) (hq1 : q < 4294967296) (hb2 : 4294967296 ≤ b2) (h : q * b2 ≤ a3) : q * b ≤ A + b := by
  have h1 : (q * b2) * P ≤ a3 * P := Int.mul_le_mul_of_nonneg_right h (by omega)
  have h2 : q * b' ≤ 4294967296 * P := Int.mul_le_mul (by omega) (by omega) hb0 (by omega)
  have h3 : 4294967296 * P ≤ b2 * P := Int.mul_le_mul_of_nonneg_right hb2 (by omega)
  have e : q * b = (q * b2) * P + q * b' := by rw [hb, Int.mul_add, Int.mul_assoc]
  rw [e, hA]
  omega
end Go.Proofs.YthjpkichpkomcaaGreatDoor.Big
