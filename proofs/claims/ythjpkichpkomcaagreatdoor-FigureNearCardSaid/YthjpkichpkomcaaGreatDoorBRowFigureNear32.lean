/- FigP -/
import Derived.Test.YthjpkichpkomcaaGreatDoorBRowFigureNear24
import Derived.Test.YthjpkichpkomcaaGreatDoorBRowFigureNear27
import Derived.Test.YthjpkichpkomcaaGreatDoorBRowFigureNear31
import Derived.Lib.IndexAny
/- Fractions as texts, and back: what the walks compute, without the walks. -/
namespace Go.Proofs.YthjpkichpkomcaaGreatDoor
open Go.RowKit Go.Proofs.YthjpkichpkomcaaGreatDoor.Big
set_option linter.unusedVariables false

theorem digs_padD : ∀ (k : Nat) {x : Int}, 0 ≤ x → Digs (padD k x)
  | 0, _, _ => fun b hb => by simp [padD] at hb
  | k + 1, x, h => fun b hb => by
    rcases List.mem_append.1 hb with hb | hb
    · exact digs_padD k (by omega) b hb
    · rw [List.mem_singleton.1 hb]
      have e : (UInt8.ofNat (48 + x % 10).toNat).toNat = (48 + x % 10).toNat := by
        rw [UInt8.toNat_ofNat']; omega
      rw [e]; omega
theorem emod_ten (x : Int) (k : Nat) : x % (10 * 10 ^ k) = x % 10 + 10 * (x / 10 % 10 ^ k) := by
  have hm : (0 : Int) < 10 ^ k := Int.pow_pos (by decide)
  have h1 := Int.mul_ediv_add_emod (x / 10) (10 ^ k)
  have h2 := Int.emod_nonneg (x / 10) (show (10 : Int) ^ k ≠ 0 by omega)
  have h3 := Int.emod_lt_of_pos (x / 10) hm
  have e : x = (x % 10 + 10 * (x / 10 % 10 ^ k)) + (10 * 10 ^ k) * (x / 10 / 10 ^ k) := by
    rw [Int.mul_assoc]; omega
  conv => lhs; rw [e]
  rw [Int.add_mul_emod_self_left]
  exact Int.emod_eq_of_lt (by omega) (by omega)
theorem decV_padD : ∀ (k : Nat) {x : Int}, 0 ≤ x → decV (padD k x) = x % 10 ^ k
  | 0, x, _ => by simp [padD, decV_nil]
  | k + 1, x, h => by
    have e : (UInt8.ofNat (48 + x % 10).toNat).toNat = (48 + x % 10).toNat := by
      rw [UInt8.toNat_ofNat']; omega
    show decV (padD k (x / 10) ++ [_]) = _
    rw [decV_snoc, decV_padD k (by omega), e]
    have h1 := emod_ten x k
    rw [Int.pow_succ, Int.mul_comm (10 ^ k) 10]
    omega
theorem decV_trim : ∀ (l : List UInt8), decV (Lib.trimLeftB l 48) = decV l
  | [] => rfl
  | b :: l => by
    unfold Lib.trimLeftB
    by_cases hb : b = 48
    · subst hb
      rw [List.dropWhile_cons_of_pos (by decide), decV_cons]
      have := decV_trim l
      unfold Lib.trimLeftB at this
      rw [this]
      have e : ((48 : UInt8).toNat : Int) - 48 = 0 := rfl
      rw [e, Int.zero_mul, Int.zero_add]
    · rw [List.dropWhile_cons_of_neg (by simpa using hb)]
theorem digs_trim {l : List UInt8} (h : Digs l) : Digs (Lib.trimLeftB l 48) := fun b hb => h b (List.dropWhile_sublist _ |>.subset hb)
theorem digs_decT {z : Int} (h : 0 ≤ z) : Digs (decT z) := by
  unfold decT
  split
  · intro b hb
    rw [List.mem_singleton.1 hb]; decide
  · exact digs_trim (digs_padD _ h)
theorem decV_decT {z : Int} (h : 0 ≤ z) : decV (decT z) = z := by
  unfold decT
  split
  · next e => subst e; rfl
  · rw [decV_trim, decV_padD _ h]
    have := lt_ten z.toNat
    exact Int.emod_eq_of_lt h (by omega)
theorem decT_ne {z : Int} (h : 0 ≤ z) : decT z ≠ [] := fun e => by
  have h1 := decV_decT h
  rw [e, decV_nil] at h1
  subst h1
  simp [decT] at e
theorem wrongI_digs {l : List UInt8} (h : Digs l) (h0 : l ≠ []) (hl : l.length ≤ 60) : wrongI l < 0 := by
  rw [wrongI_good (fun j hj => ?_), if_neg h0]
  · decide
  · have hb := h l[j] (List.getElem_mem hj)
    rw [badAt_eq l j _ (List.getElem?_eq_getElem hj)]
    simp
    omega

/-- How long the text is ahead of the first '/' or '.'. -/
def kc (l : List UInt8) : Nat := l.findIdx (fun b => b == 47 || b == 46)
theorem kc_le (l : List UInt8) : kc l ≤ l.length := List.findIdx_le_length
theorem indexAny_kc : ∀ (l : List UInt8), Lib.indexAny l [47, 46] = if kc l < l.length then (kc l : Int) else -1
  | [] => rfl
  | b :: l => by
    have ih := indexAny_kc l
    have hc : ([47, 46] : List UInt8).contains b = (b == 47 || b == 46) := by simp [List.contains, List.elem]; cases b == 47 <;> cases b == 46 <;> rfl
    unfold Lib.indexAny
    rw [hc, ih]
    have hk : kc (b :: l) = if (b == 47 || b == 46) = true then 0 else kc l + 1 := by
      unfold kc; rw [List.findIdx_cons]; cases (b == 47 || b == 46) <;> rfl
    by_cases h : (b == 47 || b == 46) = true
    · rw [if_pos h] at hk
      rw [if_pos h, hk, if_pos (by simp)]; rfl
    · rw [if_neg h] at hk
      rw [if_neg h, hk, List.length_cons]
      by_cases h2 : kc l < l.length
      · rw [if_pos h2, if_neg (by first | (simp; done) | (simp; omega)), if_pos (by omega)]; omega
      · rw [if_neg h2, if_pos (by rfl), if_neg (by omega)]
theorem kc_app {l : List UInt8} (h : ∀ b ∈ l, b ≠ 47 ∧ b ≠ 46) (t : List UInt8) : kc (l ++ t) = l.length + kc t := by
  induction l with
  | nil => simp
  | cons b l ih =>
    have hb := h b List.mem_cons_self
    have e : (b == 47 || b == 46) = false := by simp [hb.1, hb.2]
    have := ih (fun b hb => h b (List.mem_cons_of_mem _ hb))
    unfold kc at this ⊢
    rw [List.cons_append, List.findIdx_cons, e, this, List.length_cons]
    show _ + 1 = _
    omega
theorem digs_no {l : List UInt8} (h : Digs l) : ∀ b ∈ l, b ≠ 47 ∧ b ≠ 46 := fun b hb => by
  have := h b hb
  constructor <;> rintro rfl <;> simp at this

/-- The text ahead of the cut. -/
def hd (l : List UInt8) : List UInt8 := l.take (kc l)
/-- The text behind it. -/
def tl (l : List UInt8) : List UInt8 := l.drop (kc l + 1)
/-- A number with places behind a point. -/
def pointV (neg : Bool) (z : Int) (t : List UInt8) : Rat := Rat.divInt (if neg = true then -((z.natAbs : Int) * 10 ^ t.length + decV t) else (z.natAbs : Int) * 10 ^ t.length + decV t) (10 ^ t.length)
/-- The fraction of a text, the kind of the fault and its place. -/
def readF (l : List UInt8) : Rat × Int × Int :=
  if 0 ≤ wrongI (restOf (hd l)) then (0, 1, wrongI (restOf (hd l)) + (((hd l).length : Int) - ((restOf (hd l)).length : Int)))
  else if ¬ kc l < l.length then ((readV (hd l) : Int), 0, 0)
  else if 0 ≤ wrongI (tl l) then (0, 1, (kc l : Int) + 1 + wrongI (tl l))
  else if l.getD (kc l) 0 = 47 then (if decV (tl l) = 0 then (0, 2, (kc l : Int) + 1) else (Rat.divInt (readV (hd l)) (decV (tl l)), 0, 0))
  else (pointV (Lib.hasPrefix l [45]) (readV (hd l)) (tl l), 0, 0)

theorem restOf_digs {l : List UInt8} (h : Digs l) : restOf l = l := by
  unfold restOf Lib.trimPrefix Lib.hasPrefix
  cases l with
  | nil => rfl
  | cons b l =>
    have hb := h b List.mem_cons_self
    have e : (List.isPrefixOf [45] (b :: l)) = false := by
      have : b ≠ 45 := by rintro rfl; simp at hb
      simp [List.isPrefixOf]; exact fun e => this e.symm
    rw [e]; rfl
theorem pre_digs {l : List UInt8} (h : Digs l) : Lib.hasPrefix l [45] = false := by
  unfold Lib.hasPrefix
  cases l with
  | nil => rfl
  | cons b l =>
    have hb := h b List.mem_cons_self
    have : b ≠ 45 := by rintro rfl; simp at hb
    simp [List.isPrefixOf]; exact fun e => this e.symm
theorem restOf_neg (l : List UInt8) : restOf (45 :: l) = l := rfl
theorem readV_wholeT (z : Int) : readV (wholeT z) = z := by
  unfold readV wholeT
  by_cases h : z < 0
  · rw [if_pos h, restOf_neg, decV_decT (by omega), if_pos (by rfl)]; omega
  · have hd := digs_decT (z := z) (by omega)
    rw [if_neg h, restOf_digs hd, pre_digs hd, decV_decT (by omega)]; rfl
theorem rest_wholeT (z : Int) : restOf (wholeT z) = decT (z.natAbs : Int) := by
  unfold wholeT
  by_cases h : z < 0
  · rw [if_pos h, restOf_neg]; congr 1; omega
  · rw [if_neg h, restOf_digs (digs_decT (by omega))]; congr 1; omega
theorem wholeT_no (z : Int) : ∀ b ∈ wholeT z, b ≠ 47 ∧ b ≠ 46 := by
  unfold wholeT
  by_cases h : z < 0
  · rw [if_pos h]
    intro b hb
    rcases List.mem_cons.1 hb with rfl | hb
    · decide
    · exact digs_no (digs_decT (by omega)) b hb
  · rw [if_neg h]; exact digs_no (digs_decT (by omega))
/-- What is written of a fraction is read as its value. -/
theorem readF_figT (q : Rat) (h1 : (decT (q.num.natAbs : Int)).length ≤ 60) (h2 : (decT (q.den : Int)).length ≤ 60) : readF (figT q) = (q, 0, 0) := by
  have hw1 := wrongI_digs (digs_decT (z := (q.num.natAbs : Int)) (by omega)) (decT_ne (by omega)) h1
  have hw2 := wrongI_digs (digs_decT (z := (q.den : Int)) (by omega)) (decT_ne (by omega)) h2
  unfold figT
  by_cases hq : q.den = 1
  · rw [if_pos hq, List.append_nil]
    have hk : kc (wholeT q.num) = (wholeT q.num).length := by
      have := kc_app (wholeT_no q.num) []
      rw [List.append_nil] at this
      rw [this]; rfl
    have hh : hd (wholeT q.num) = wholeT q.num := by unfold hd; rw [hk, List.take_length]
    unfold readF
    rw [hh, rest_wholeT, if_neg (by omega), hk, if_pos (by omega), readV_wholeT]
    have : ((q.num : Int) : Rat) = q := Rat.ext (Rat.num_intCast _) (by rw [Rat.den_intCast, hq])
    rw [this]
  · rw [if_neg hq]
    have hk : kc (wholeT q.num ++ 47 :: decT (q.den : Int)) = (wholeT q.num).length := by
      rw [kc_app (wholeT_no q.num)]
      show _ + 0 = _
      omega
    have hh : hd (wholeT q.num ++ 47 :: decT (q.den : Int)) = wholeT q.num := by unfold hd; rw [hk, List.take_left]
    have ht : tl (wholeT q.num ++ 47 :: decT (q.den : Int)) = decT (q.den : Int) := by
      unfold tl; rw [hk, ← List.drop_drop, List.drop_left]; rfl
    have hd0 := q.den_nz
    unfold readF
    rw [hh, ht, rest_wholeT, if_neg (by omega), hk, if_neg (by simp), if_neg (by omega), if_pos (by simp [List.getD_eq_getElem?_getD]), decV_decT (by omega), if_neg (by omega), readV_wholeT]
    rw [Rat.num_divInt_den]
end Go.Proofs.YthjpkichpkomcaaGreatDoor
