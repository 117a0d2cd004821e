/- Dig2 · Dig3 -/
import Derived.Test.YthjpkichpkomcaaGreatDoorBRowFigureNear17
import Derived.Test.YthjpkichpkomcaaGreatDoorBRowFigureNear6
import Derived.Test.YthjpkichpkomcaaGreatDoorBRowFigureNear11
import Derived.Deep.AppendLies
import Derived.Outline
import Derived.WalkLawsBesides
/- Layer 7: a number's digits (digits.Text). -/
namespace Go.Proofs.YthjpkichpkomcaaGreatDoor
open Go.RowKit Go.Proofs.YthjpkichpkomcaaGreatDoor.Big
set_option linter.unusedVariables false
set_option maxRecDepth 100000

def p9 (k : Nat) : Int := 1000000000 ^ k
theorem p9_pos (k : Nat) : 0 < p9 k := Int.pow_pos (by decide)
theorem p9_succ (k : Nat) : p9 (k + 1) = p9 k * 1000000000 := Int.pow_succ _ _
theorem p9_ten (k : Nat) : p9 k = 10 ^ (9 * k) := by unfold p9; rw [Int.pow_mul]; rfl
theorem padD_step (k : Nat) {a b : Int} (h1 : padD k (a / 10) = padD k (b / 10)) (h2 : a % 10 = b % 10) : padD (k + 1) a = padD (k + 1) b := by
  show padD k (a / 10) ++ _ = padD k (b / 10) ++ _
  rw [h1, h2]
theorem padD_nine (x : Int) : padD 9 (x % 1000000000) = padD 9 x := by
  refine padD_step 8 (padD_step 7 (padD_step 6 (padD_step 5 (padD_step 4 (padD_step 3 (padD_step 2 (padD_step 1 (padD_step 0 rfl ?_) ?_) ?_) ?_) ?_) ?_) ?_) ?_) ?_
  all_goals omega

/-- The pieces, the last first. -/
def pieces (z : Int) (k : Nat) : List Value := (List.range k).map fun j => .string ⟨(padD 9 (z / p9 j)).toArray⟩
theorem pieces_succ (z : Int) (k : Nat) : pieces z (k + 1) = pieces z k ++ [.string ⟨(padD 9 (z / p9 k)).toArray⟩] := by
  unfold pieces; rw [List.range_succ, List.map_append]; rfl
theorem pieces_len (z : Int) (k : Nat) : (pieces z k).length = k := by simp [pieces]
theorem pieces_get (z : Int) (k j : Nat) (h : j < k) : (pieces z k)[j]? = some (.string ⟨(padD 9 (z / p9 j)).toArray⟩) := by
  simp [pieces, List.getElem?_range h]

/-- A number's digits: its last K ones without leading zeros, where K are enough; 0's is one zero. -/
def decT (z : Int) : List UInt8 := if z = 0 then [48] else Lib.trimLeftB (padD (z.toNat + 1) z) 48

theorem padD_zero : ∀ k, padD k 0 = List.replicate k 48
  | 0 => rfl
  | k + 1 => by
    show padD k 0 ++ _ = _
    rw [padD_zero k, List.replicate_succ']; rfl
theorem trim_rep (k : Nat) (l : List UInt8) : Lib.trimLeftB (List.replicate k 48 ++ l) 48 = Lib.trimLeftB l 48 := by
  induction k with
  | zero => rfl
  | succ k ih => rw [List.replicate_succ, List.cons_append]; unfold Lib.trimLeftB at ih ⊢; rw [List.dropWhile_cons_of_pos (by decide)]; exact ih
theorem trim_more (z : Int) (K m : Nat) (h0 : 0 ≤ z) (h : z < 10 ^ K) : Lib.trimLeftB (padD (m + K) z) 48 = Lib.trimLeftB (padD K z) 48 := by
  rw [padD_split, Int.ediv_eq_zero_of_lt h0 h, padD_zero, trim_rep]
theorem lt_ten (n : Nat) : (n : Int) < 10 ^ (n + 1) := by
  have : n < 10 ^ (n + 1) := Nat.lt_trans (Nat.lt_pow_self (by decide : 1 < 10)) (Nat.pow_lt_pow_right (by decide) (Nat.lt_succ_self n))
  exact_mod_cast this
theorem decT_pos {z : Int} {K : Nat} (h0 : 0 < z) (h : z < 10 ^ K) : decT z = Lib.trimLeftB (padD K z) 48 := by
  unfold decT
  rw [if_neg (by omega)]
  have h2 : z < 10 ^ (z.toNat + 1) := by have := lt_ten z.toNat; omega
  generalize z.toNat + 1 = n at *
  rcases Nat.le_total K n with hk | hk
  · obtain ⟨m, hm⟩ := Nat.exists_eq_add_of_le hk
    rw [hm, Nat.add_comm, trim_more z K m (by omega) h]
  · obtain ⟨m, hm⟩ := Nat.exists_eq_add_of_le hk
    rw [hm, Nat.add_comm, trim_more z _ m (by omega) h2]

theorem p9_bound {z : Int} {n k : Nat} (h : z < pw n) (hk : p9 k ≤ z) : k < 2 * n := by
  rcases Nat.lt_or_ge k (2 * n) with h1 | h1
  · exact h1
  · exfalso
    have h2 : pw n ≤ p9 (2 * n) := by
      unfold pw p9
      rw [show (4294967296 : Int) = ((4294967296 : Nat) : Int) from rfl, show (1000000000 : Int) = ((1000000000 : Nat) : Int) from rfl, ← Int.natCast_pow, ← Int.natCast_pow, Nat.pow_mul]
      exact Int.ofNat_le.mpr (Nat.pow_le_pow_left (by decide) n)
    have h3 : p9 (2 * n) ≤ p9 k := by
      unfold p9
      rw [show (1000000000 : Int) = ((1000000000 : Nat) : Int) from rfl, ← Int.natCast_pow, ← Int.natCast_pow]
      exact Int.ofNat_le.mpr (Nat.pow_le_pow_right (by decide) h1)
    omega
theorem p9_le_of_pos {z : Int} {k : Nat} (h : 0 < z / p9 k) : p9 k ≤ z := by
  have := Int.ediv_mul_le z (Int.ne_of_gt (p9_pos k))
  have h2 : 1 * p9 k ≤ z / p9 k * p9 k := Int.mul_le_mul_of_nonneg_right (by omega) (Int.le_of_lt (p9_pos k))
  omega
theorem div_p9 (z : Int) (k : Nat) : z / p9 k / 1000000000 = z / p9 (k + 1) := by
  rw [p9_succ, Int.ediv_ediv_of_nonneg (Int.le_of_lt (p9_pos k))]

theorem Rd.grown' {ok : Nat → Prop} {w w1 : World} {A : Option Addr} {l : List Int} {r : Option Nat} (h : Rd ok w A l) (hg : w.grownBy w1 r) (hok : ∀ g, r = some g → ¬ ok g) : Rd ok w1 A l :=
  h.move fun k ho hk => hg.block k hk (fun e => hok k e.symm ho)
theorem ownsRow_below {w w1 : World} {B : Nat} {e : TypeId} {S : Value} {k : Nat} {xs : List Value} (h : w.ownsRow B e 1 S k xs) (hb : Below w.heap.size w w1) : w1.ownsRow B e 1 S k xs :=
  h.kept (grown_below (grown_refl w none) hb) (by cases hv : S.ownBlock <;> simp)
def slN : Value → Nat
  | .slice _ n _ => n
  | _ => 0
theorem info_string : (Tryz.prog.info? 9).map (fun i => (i.zero, i.size, i.bytes)) = some (some (.string ByteArray.empty), 1, 16) := by kernel_rfl
theorem ownsRow_slN {w : World} {B : Nat} {e : TypeId} {S : Value} {k : Nat} {xs : List Value} (h : w.ownsRow B e 1 S k xs) : ∃ ao cap, S = .slice ao k cap := by
  rcases h.2 with ⟨hv, h0⟩ | ⟨g, cap, cur, hv, _⟩
  · exact ⟨none, 0, by rw [hv, h0]⟩
  · exact ⟨_, _, hv⟩

set_option maxHeartbeats 2000000 in
theorem digits_Text (ok : Nat → Prop) (A : Option Addr) (c : Nat) (l : List Int) (w : World) (h : Rd ok w A l) (hc : l.length ≤ c) (hbig : l.length < 1000000000) :
    Calls Tryz.prog 61 #[.slice A l.length c] w fun e w' => e = .returned (.string ⟨(decT (val l)).toArray⟩) ∧ Below w.heap.size w w' := by
  have hz0 := val_nonneg h.wd
  have hzl := val_lt h.wd
  generalize hz : val l = z at *
  obtain ⟨i0, hi, hi0, hi1, hi2⟩ := info_parts info_string
  go_enter Tryz.func61, Tryz.ntmps61
  go_wp2_with fail
  refine (nat_Zero ok A c l _ h hc).mono ?_
  rintro e w1 ⟨rfl, rfl⟩
  rw [hz]
  by_cases hzz : z = 0
  · have hd : decide (z = 0) = true := decide_eq_true hzz
    go_wp2
    go_ret
    refine ⟨?_, Below.refl _ _⟩
    rw [hzz]; rfl
  · have hd : decide (z = 0) = false := decide_eq_false hzz
    have HR := Asd.mk (h.mono (ok' := fun _ => True) (fun _ _ _ => trivial))
    clear h
    go_wp2
    go_loopw [0, 3] (fun a s wr => ∃ (k : Nat) (A1 : Option Addr) (c1 : Nat) (m : List Int), a = .slice A1 m.length c1 ∧ m.length ≤ c1 ∧ m.length ≤ l.length ∧ Asd (val m = z / p9 k) ∧ Asd (Rd (fun _ => True) wr A1 m) ∧ k ≤ 2 * l.length ∧ Asd (wr.ownsRow w.heap.size 9 1 s k (pieces z k)) ∧ Asd (Below w.heap.size w wr)) (fun _ s _ => 2 * l.length - slN s)
    case atStart => exact ⟨0, A, c, l, rfl, hc, Nat.le_refl _, ⟨by rw [hz]; simp [p9]⟩, HR, Nat.zero_le _, ⟨⟨rfl, Or.inl ⟨rfl, rfl⟩⟩⟩, ⟨Below.refl _ _⟩⟩
    case round =>
      obtain ⟨k, A1, c1, m, rfl, hc1, hml, HV, HM, hk, HO, HB⟩ := hrel
      obtain ⟨ao, cap, rfl⟩ := ownsRow_slN HO.out
      by_cases hm0 : val m = 0
      · have hmd : decide (val m = 0) = true := decide_eq_true hm0
        have hzk : z / p9 k = 0 := by rw [← HV.out]; exact hm0
        have hk0 : k ≠ 0 := by rintro rfl; simp [p9] at hzk; omega
        have HZ : Asd (z < 10 ^ (9 * k)) := ⟨by
          rw [← p9_ten]
          have h1 := Int.mul_ediv_add_emod z (p9 k)
          have h2 := Int.emod_lt_of_pos z (p9_pos k)
          rw [hzk] at h1
          omega⟩
        obtain ⟨gl, cur, rfl, hgl⟩ : ∃ gl cur, ao = some ⟨gl, 0, none⟩ ∧ wr.heap[gl]? = some (.cells cur 9 (0, 0)) := by
          rcases HO.out.2 with ⟨_, h0⟩ | ⟨g, cap', cur, hv, _, hg, _⟩
          · exact absurd h0 hk0
          · injection hv with h1 h2 h3; exact ⟨g, cur, h1, hg⟩
        have hcells := HO.out.cells (g := gl) rfl
        have hgs := (HO.out.lt gl rfl).2
        have HCE : Asd (∀ j : Nat, j < k → wr.cell? ⟨gl, j, none⟩ = some (.string ⟨(padD 9 (z / p9 j)).toArray⟩)) := ⟨fun j hj => by have := hcells j _ (pieces_get z k j hj); rwa [add_plain] at this⟩
        clear hcells hgl HO hzk
        go_wp2_with fail
        refine (nat_Zero _ A1 c1 m _ HM.out hc1).mono ?_
        rintro e w1 ⟨rfl, rfl⟩
        rw [hmd]
        generalize wr = V at *
        go_wp2
        go_loopw [8] (fun i wq => ∃ j : Nat, j ≤ k ∧ i = .int .i64 ((j : Int) - 1) ∧ Asd (Lib.IsBuilder 147 5 V.heap.size V.heap.size (Lib.byteCells (padD (9 * (k - j)) (z / p9 j))) wq) ∧ Asd (Below V.heap.size V wq)) (fun i _ => (intOf i + 1).toNat)
        case atStart =>
          refine ⟨k, Nat.le_refl _, by go_num, ⟨Or.inl ⟨Nat.le_refl _, .slice none 0 0, heap_alloc_new _ _, ?_, by simp [Value.ownBlock]⟩⟩, ⟨(Below.refl _ _).alloc (Nat.le_refl _) _⟩⟩
          rw [Nat.sub_self]
          exact ⟨rfl, Or.inl ⟨rfl, rfl⟩⟩
        case round =>
          obtain ⟨j, hj, rfl, HI, HW⟩ := hrel
          have hsz := HW.out.size
          by_cases hj0 : j = 0
          · subst hj0
            have hst := Sh.Builder_String_any V.heap.size V.heap.size _ wr HI.out hsz
            have HTL := Asd.mk (decT_pos (by omega) HZ.out)
            go_wp2_with fail
            refine hst.mono ?_
            rintro e w5 ⟨rfl, hb5⟩
            go_wp2_with fail
            refine (Sh.strings_TrimLeft_one _ 48 (by decide) _).mono ?_
            rintro e w6 ⟨rfl, rfl⟩
            go_wp2
            go_ret
            refine ⟨?_, ?_⟩
            · rw [HTL.out]; simp [p9]
            · exact HB.out.trans (HW.out.mono HB.out.size |>.trans (hb5.mono HB.out.size))
          · have e : (j : Int) - 1 = ((j - 1 : Nat) : Int) := by omega
            rw [e]
            have hc := HCE.out (j - 1) (by omega)
            have hcell : wr.cell? ⟨gl, j - 1, none⟩ = some (.string ⟨(padD 9 (z / p9 (j - 1))).toArray⟩) := (HW.out.cell (p := ⟨gl, j - 1, none⟩) hgs).trans hc
            clear hc
            have HNX : Asd (Lib.byteCells (padD (9 * (k - j)) (z / p9 j)) ++ Lib.strCells ⟨(padD 9 (z / p9 (j - 1))).toArray⟩ = Lib.byteCells (padD (9 * (k - (j - 1))) (z / p9 (j - 1)))) := ⟨by
              have e1 : z / p9 j = z / p9 (j - 1) / 10 ^ 9 := by
                have := div_p9 z (j - 1)
                rw [show j - 1 + 1 = j by omega] at this
                exact this.symm
              rw [Lib.strCells_eq, e1, show 9 * (k - (j - 1)) = 9 * (k - j) + 9 by omega, padD_split (9 * (k - j)) 9]
              simp [Lib.byteCells]⟩
            have hws := Builder_WriteString V.heap.size V.heap.size _ ⟨(padD 9 (z / p9 (j - 1))).toArray⟩ wr HI.out (by rw [Lib.byteCells_length, padD_length]; show _ + (padD 9 _).toArray.size ≤ _; rw [List.size_toArray, padD_length]; omega) hsz
            rw [HNX.out] at hws
            have HWS := Asd.mk hws
            clear hws HI HNX
            have hj1 : ¬ (((j - 1 : Nat) : Int) < 0) := by omega
            have hjk : j - 1 < k := by omega
            generalize hjm : j - 1 = m at *
            go_wp2_with fail
            refine HWS.out.mono ?_
            rintro e w5 ⟨rfl, h5, hb5⟩
            go_wp2
            go_roundw
            case rel => exact ⟨m, by omega, by go_num, ⟨Or.inr h5⟩, ⟨HW.out.trans hb5⟩⟩
            case measure => simp [intOf]
      · have hmd : decide (val m = 0) = false := decide_eq_false hm0
        have hmp := val_nonneg HM.out.wd
        have hr0 := Int.emod_nonneg (val m) (show (1000000000 : Int) ≠ 0 by decide)
        have hr1 := Int.emod_lt_of_pos (val m) (show (0 : Int) < 1000000000 by decide)
        have hk2 : k < 2 * l.length := p9_bound hzl (p9_le_of_pos (by have := HV.out; omega))
        have hlen2 : (rep (val m / 1000000000)).length ≤ l.length := Nat.le_trans (rep_length_le (Int.lt_of_le_of_lt (Int.ediv_le_self _ hmp) (val_lt HM.out.wd))) hml
        go_wp2_with fail
        refine (nat_Zero _ A1 c1 m _ HM.out hc1).mono ?_
        rintro e w1 ⟨rfl, rfl⟩
        rw [hmd]
        go_wp2_with fail
        refine (quot_Word _ A1 c1 m 1000000000 _ HM.out hc1 (by omega) (by decide) (by decide)).mono ?_
        rintro e w2 ⟨A2, c2, rfl, hc2, hr2, hb2⟩
        go_wp2_with fail
        refine (digits_nine _ hr0 (by omega) _).mono ?_
        rintro e w3 ⟨rfl, hb3⟩
        have hO3 := ownsRow_below (ownsRow_below HO.out hb2) hb3
        have hs2 := hb2.size
        have hs3 := hb3.size
        have hBs := HB.out.size
        rw [HV.out, padD_nine]
        go_wp2_with (at_builtin; refine wpList_append_own _ rfl _ _ 140 rfl w.heap.size 9 i0 (.string ByteArray.empty) 1 16 Tryz.underlying140 hi hi0 hi1 hi2 rfl (by decide) _ _ _ rfl (hO3.alloc _) ⟨w3.heap.size, 0, none⟩ 1 1 [.string ⟨(padD 9 (z / p9 k)).toArray⟩] rfl rfl ?c1 ?c2 ?c3 ?c4 ?c5 ?_)
        case c1 =>
          intro j u hj
          match j, hj with
          | 0, hj => simp at hj; subst hj; simp [Addr.add]
        case c2 => intro u hu; simp at hu; subst hu; rfl
        case c3 => unfold maxLen; omega
        case c4 => omega
        case c5 => simp; omega
        intro v' w4 hown' hgrow _
        have hlt4 := fun g hg => (HO.out.lt g hg).2
        have hgt4 := fun g hg => (HO.out.lt g hg).1
        go_wp2
        go_roundw
        case rel =>
          refine ⟨k + 1, A2, c2, rep (val m / 1000000000), by rw [HV.out], hc2, hlen2, ⟨by rw [val_rep (Int.ediv_nonneg hmp (by decide)), HV.out, div_p9]⟩, ⟨?_⟩, by omega, ⟨by rw [pieces_succ]; exact hown'⟩, ⟨?_⟩⟩
          · refine Rd.mono (((hr2.below hb3).alloc _).grown' hgrow fun g hg hle => ?_) (fun _ _ _ => trivial)
            have := hlt4 g hg
            omega
          · exact ((below_go (below_go HB.out hb2) hb3).alloc (by omega) _).grown hgrow (by simp; omega) (fun g hg => hgt4 g hg)
        case measure =>
          obtain ⟨ao', cap', rfl⟩ := ownsRow_slN hown'
          simp [slN]; omega
end Go.Proofs.YthjpkichpkomcaaGreatDoor
/- Layer 7: the first wrong place of a text (digits.wrong); digits.Read at a wrong one. -/
namespace Go.Proofs.YthjpkichpkomcaaGreatDoor
open Go.RowKit Go.Proofs.YthjpkichpkomcaaGreatDoor.Big
set_option linter.unusedVariables false
set_option maxRecDepth 100000

/-- Is the i-th byte none of a digit, or one too many? -/
def badAt (l : List UInt8) (i : Nat) : Bool := decide ((l.getD i 0).toNat < 48) || decide (57 < (l.getD i 0).toNat) || decide (i = 60)
/-- The first place at which there is no digit, or one too many; below 0: there is none. -/
def wrongI (l : List UInt8) : Int := match (List.range l.length).find? (badAt l) with | some i => i | none => if l = [] then 0 else -1

theorem wrongI_bad {l : List UInt8} {k : Nat} (h : ∀ j, j < k → badAt l j = false) (hk : k < l.length) (hb : badAt l k = true) : wrongI l = k := by
  have : (List.range l.length).find? (badAt l) = some k := by
    rw [List.find?_range_eq_some]
    exact ⟨hb, List.mem_range.mpr hk, fun j hj => by rw [h j hj]; rfl⟩
  unfold wrongI; rw [this]
theorem wrongI_good {l : List UInt8} (h : ∀ j, j < l.length → badAt l j = false) : wrongI l = if l = [] then 0 else -1 := by
  have : (List.range l.length).find? (badAt l) = none := by
    rw [List.find?_range_eq_none]
    exact fun j hj => by rw [h j hj]; rfl
  unfold wrongI; rw [this]
theorem wrongI_le (l : List UInt8) : wrongI l ≤ l.length := by
  unfold wrongI
  split
  · rename_i i h
    have := List.mem_of_find?_eq_some h
    simp at this; omega
  · split <;> omega
theorem badAt_eq (l : List UInt8) (k : Nat) (x : UInt8) (hx : l[k]? = some x) : badAt l k = (decide ((x.toNat : Int) < 48) || decide (57 < (x.toNat : Int)) || decide ((k : Int) = 60)) := by
  unfold badAt
  rw [List.getD_eq_getElem?_getD, hx]
  simp only [Option.getD_some]
  congr 1
  · congr 1 <;> exact decide_eq_decide.mpr (by omega)
  · exact decide_eq_decide.mpr (by omega)

set_option maxHeartbeats 1000000 in
theorem digits_wrong (l : List UInt8) (hl : l.length < 1000000000000) (w : World) : Calls Tryz.prog 170 #[.string ⟨l.toArray⟩] w fun e w' => e = .returned (.int .i64 (wrongI l)) ∧ w' = w := by
  have hsz : (⟨l.toArray⟩ : ByteArray).size = l.length := by simp [ByteArray.size]
  go_enter Tryz.func170, Tryz.ntmps170
  go_wp2
  go_loop [6] (fun i => ∃ k : Nat, k ≤ l.length ∧ i = .int .i64 k ∧ Asd (∀ j, j < k → badAt l j = false)) (fun i => l.length - (intOf i).toNat)
  case atStart => exact ⟨0, by omega, rfl, ⟨fun j hj => by omega⟩⟩
  case round =>
    obtain ⟨k, hk, rfl, HA⟩ := hrel
    by_cases hlt : k < l.length
    · have HBE := badAt_eq l k l[k] (List.getElem?_eq_getElem hlt)
      have HX : (⟨l.toArray⟩ : ByteArray)[k]'(by rw [hsz]; exact hlt) = l[k] := rfl
      go_wp2
      case roundEnd =>
        rename_i h1 h2 h3
        refine ⟨⟨k + 1, hlt, by go_num, ⟨fun j hj => ?_⟩⟩, by simp [intOf]; omega⟩
        rcases Nat.lt_or_eq_of_le (Nat.le_of_lt_succ hj) with h | rfl
        · exact HA.out j h
        · rw [HBE]
          simp at h3 ⊢
          omega
      all_goals
        go_ret
        refine ⟨?_, rfl⟩
        rw [wrongI_bad HA.out hlt ?_]
        · rfl
        · rw [HBE]
          simp only [Bool.or_eq_true, decide_eq_true_eq]
          try simp only [beq_iff_eq] at *
          first | assumption | omega
    · have hkl : k = l.length := by omega
      subst hkl
      have HG := Asd.mk (wrongI_good HA.out)
      clear HA
      by_cases hnil : l = []
      · subst hnil
        go_wp2
        go_ret
        exact ⟨by rw [HG.out]; rfl, rfl⟩
      · have hne : l.isEmpty = false := by cases l <;> simp_all
        have hG2 : wrongI l = -1 := by rw [HG.out, if_neg hnil]
        go_wp2
        all_goals go_ret
        all_goals exact ⟨rfl, rfl⟩

theorem ret_tmp_blk {fn : Func} {p s : Tmp} {ty : TypeId} {v : Value} {tmps : Array Value} {w : World} {g : Nat} {vs : List Value} {fs} (h : fn.results = #[.tmp s, .cell p ty]) (hs : tmps.getD s undef = v) (hp : tmps.getD p undef = .pointer (some ⟨g, 0, none⟩)) (hb : Blk w g vs)
    (hu : Tryz.prog.underlying ty = some (.struct fs)) (hi : (Tryz.prog.info? ty).map (·.size) = some vs.length) : (results fn tmps).run Tryz.prog w = .ok (.tuple #[v, .agg vs.toArray]) w := by
  obtain ⟨t, hg⟩ := hb
  have e1 := run_loadVar_row w g t ty _ _ _ hg hu rfl (by simpa using hi)
  have hp2 : tmps[p]?.getD undef = .pointer (some ⟨g, 0, none⟩) := by simpa using hp
  have hs2 : tmps[s]?.getD undef = v := by simpa using hs
  simp [results, h, hp2, hs2, asAddr, e1]

set_option maxHeartbeats 1000000 in
theorem digits_Read_no (l : List UInt8) (hl : l.length < 1000000000000) (hb : 0 ≤ wrongI l) (w : World) : Calls Tryz.prog 124 #[.string ⟨l.toArray⟩] w fun e w' => e = .returned (.tuple #[.slice none 0 0, .agg #[.int .i64 1, .int .i64 0, .int .i64 0, .int .i64 (wrongI l)]]) ∧ Below w.heap.size w w' := by
  have hd : decide (0 ≤ wrongI l) = true := decide_eq_true hb
  go_enter Tryz.func124, Tryz.ntmps124
  go_wp2_with fail
  refine (digits_wrong l hl _).mono ?_
  rintro e w1 ⟨rfl, rfl⟩
  generalize hr : wrongI l = r at *
  go_wp2
  refine bodyPost_ret (ret_tmp_blk rfl rfl rfl (Blk.new w [.int .i64 1, .int .i64 0, .int .i64 0, .int .i64 r] 35) Tryz.underlying35 (by kernel_rfl)) rfl ?_
  rw [hr]
  exact ⟨rfl, (Below.refl _ _).alloc (Nat.le_refl _) _⟩
end Go.Proofs.YthjpkichpkomcaaGreatDoor
