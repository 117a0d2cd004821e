/- Dig4 -/
import Derived.Test.YthjpkichpkomcaaGreatDoorBRowFigureNear18
import Derived.Test.YthjpkichpkomcaaGreatDoorBRowFigureNear4
import Derived.Outline
import Derived.WalkLawsBesides
/- Layer 7: the number that digits are (digits.Read). -/
namespace Go.Proofs.YthjpkichpkomcaaGreatDoor
open Go.RowKit Go.Proofs.YthjpkichpkomcaaGreatDoor.Big
set_option linter.unusedVariables false
set_option maxRecDepth 100000

/-- What digits count. -/
def decV (l : List UInt8) : Int := l.foldl (fun a b => 10 * a + ((b.toNat : Int) - 48)) 0
theorem decV_nil : decV [] = 0 := rfl
theorem decV_snoc (l : List UInt8) (b : UInt8) : decV (l ++ [b]) = 10 * decV l + ((b.toNat : Int) - 48) := by unfold decV; rw [List.foldl_append]; rfl
/-- Digits alone. -/
def Digs (l : List UInt8) : Prop := ∀ b ∈ l, 48 ≤ b.toNat ∧ b.toNat ≤ 57
theorem decV_fold (l : List UInt8) : ∀ a : Int, l.foldl (fun a b => 10 * a + ((b.toNat : Int) - 48)) a = a * 10 ^ l.length + decV l := by
  induction l with
  | nil => intro a; simp [decV_nil]
  | cons b l ih =>
    intro a
    have e : decV (b :: l) = (10 * 0 + ((b.toNat : Int) - 48)) * 10 ^ l.length + decV l := ih _
    rw [List.foldl_cons, ih, e, List.length_cons, Int.pow_succ]
    grind
theorem decV_cons (b : UInt8) (l : List UInt8) : decV (b :: l) = ((b.toNat : Int) - 48) * 10 ^ l.length + decV l := by
  have e : decV (b :: l) = (10 * 0 + ((b.toNat : Int) - 48)) * 10 ^ l.length + decV l := decV_fold l _
  rw [e]; congr 2; omega
theorem decV_app (a b : List UInt8) : decV (a ++ b) = decV a * 10 ^ b.length + decV b := by
  unfold decV; rw [List.foldl_append, decV_fold]; rfl
theorem decV_bd {l : List UInt8} (h : Digs l) : 0 ≤ decV l ∧ decV l < 10 ^ l.length := by
  induction l with
  | nil => exact ⟨by decide, by decide⟩
  | cons b l ih =>
    have hb := h b (by simp)
    have h2 := ih (fun y hy => h y (by simp [hy]))
    have hp : (0 : Int) < 10 ^ l.length := Int.pow_pos (by decide)
    rw [decV_cons, List.length_cons, Int.pow_succ]
    have h3 : 0 ≤ ((b.toNat : Int) - 48) * 10 ^ l.length := Int.mul_nonneg (by omega) (by omega)
    have h4 : ((b.toNat : Int) - 48) * 10 ^ l.length ≤ 9 * 10 ^ l.length := Int.mul_le_mul_of_nonneg_right (by omega) (by omega)
    omega
theorem take_snoc8 (l : List UInt8) (k : Nat) (h : k < l.length) : l.take (k + 1) = l.take k ++ [l[k]] := List.take_succ_eq_append_getElem h
theorem digs_of_wrong {l : List UInt8} (h : wrongI l < 0) : Digs l ∧ l ≠ [] ∧ l.length ≤ 60 := by
  have h1 : ∀ i, i < l.length → badAt l i = false := by
    intro i hi
    unfold wrongI at h
    split at h
    · omega
    · rename_i hn
      rw [List.find?_range_eq_none] at hn
      have := hn i hi
      simpa using this
  refine ⟨fun b hb => ?_, ?_, ?_⟩
  · obtain ⟨i, hi, rfl⟩ := List.getElem_of_mem hb
    have := h1 i hi
    rw [badAt_eq l i _ (List.getElem?_eq_getElem hi)] at this
    simp at this
    omega
  · rintro rfl; simp [wrongI] at h
  · rcases Nat.lt_or_ge 60 l.length with h2 | h2
    · have := h1 60 h2
      unfold badAt at this
      simp at this
    · exact h2
theorem ten_pow_pos (k : Nat) : (0 : Int) < 10 ^ k := Int.pow_pos (by decide)
theorem ten_le_nine {k : Nat} (h : k ≤ 9) : (10 : Int) ^ k ≤ 1000000000 := by
  have : (10 : Nat) ^ k ≤ 10 ^ 9 := Nat.pow_le_pow_right (by decide) h
  have h2 : ((10 ^ k : Nat) : Int) ≤ ((10 ^ 9 : Nat) : Int) := by omega
  simpa using h2
theorem decV_lt_pw {l : List UInt8} (h : Digs l) : decV l < pw l.length := by
  have h1 := (decV_bd h).2
  have h2 : (10 : Int) ^ l.length ≤ pw l.length := by
    unfold pw
    rw [show (10 : Int) = ((10 : Nat) : Int) from rfl, show (4294967296 : Int) = ((4294967296 : Nat) : Int) from rfl, ← Int.natCast_pow, ← Int.natCast_pow]
    exact Int.ofNat_le.mpr (Nat.pow_le_pow_left (by decide) _)
  omega
theorem Digs.take {l : List UInt8} (h : Digs l) (k : Nat) : Digs (l.take k) := fun b hb => h b (List.mem_of_mem_take hb)
theorem Digs.drop {l : List UInt8} (h : Digs l) (k : Nat) : Digs (l.drop k) := fun b hb => h b (List.mem_of_mem_drop hb)

set_option maxHeartbeats 2000000 in
theorem digits_Read (l : List UInt8) (hb : wrongI l < 0) (w : World) : Calls Tryz.prog 124 #[.string ⟨l.toArray⟩] w fun e w' => ∃ A1 c1, e = .returned (.tuple #[.slice A1 (rep (decV l)).length c1, .agg #[.int .i64 0, .int .i64 0, .int .i64 0, .int .i64 0]]) ∧ (rep (decV l)).length ≤ c1 ∧ Rd (fun k => w.heap.size ≤ k) w' A1 (rep (decV l)) ∧ Below w.heap.size w w' := by
  obtain ⟨hdg, hne, hlen⟩ := digs_of_wrong hb
  have hsz : (⟨l.toArray⟩ : ByteArray).size = l.length := by simp [ByteArray.size]
  have HDG := Asd.mk hdg
  have HWR := Asd.mk (digits_wrong l (by omega))
  clear hdg hne
  generalize hrw : wrongI l = r at *
  go_enter Tryz.func124, Tryz.ntmps124
  go_wp2_with fail
  have R0 := Blk.new w [.int .i64 0, .int .i64 0, .int .i64 0, .int .i64 0] 35
  have hb0 := (Below.refl w.heap.size w).alloc (Nat.le_refl _) (.cells #[.int .i64 0, .int .i64 0, .int .i64 0, .int .i64 0] 35)
  generalize w.alloc (.cells #[.int .i64 0, .int .i64 0, .int .i64 0, .int .i64 0] 35) = W at *
  refine (HWR.out _).mono ?_
  rintro e w1 ⟨rfl, rfl⟩
  have HR0 := Asd.mk R0; have HB0 := Asd.mk hb0
  clear R0 hb0 HWR
  go_wp2
  go_loopw [5, 6] (fun o i wr => ∃ (j : Nat) (A1 : Option Addr) (c1 : Nat), j ≤ l.length ∧ i = .int .i64 j ∧ o = .slice A1 (rep (decV (l.take j))).length c1 ∧ (rep (decV (l.take j))).length ≤ c1 ∧ Asd (Rd (fun k => w.heap.size + 1 ≤ k) wr A1 (rep (decV (l.take j)))) ∧ Asd (Blk wr w.heap.size [.int .i64 0, .int .i64 0, .int .i64 0, .int .i64 0]) ∧ Asd (Below w.heap.size w wr)) (fun _ i _ => l.length - (intOf i).toNat)
  case atStart => exact ⟨0, none, 0, Nat.zero_le _, rfl, by rw [show decV (l.take 0) = 0 from rfl, rep_zero]; rfl, by rw [show decV (l.take 0) = 0 from rfl, rep_zero]; exact Nat.le_refl _, ⟨by rw [show decV (l.take 0) = 0 from rfl, rep_zero]; exact Rd.nil _ _ _⟩, HR0, HB0⟩
  case round =>
    obtain ⟨j, A1, c1, hj, rfl, rfl, hc1, HA, HR, HB⟩ := hrel
    by_cases hlt : j < l.length
    · go_wp2
      go_loop [6, 7, 8, 9] (fun i x t kk => ∃ k : Nat, k ≤ 9 ∧ j + k ≤ l.length ∧ i = .int .i64 ((j + k : Nat) : Int) ∧ kk = .int .i64 k ∧ x = .int .u32 (decV ((l.drop j).take k)) ∧ t = .int .u32 (10 ^ k)) (fun _ _ _ kk => 9 - (intOf kk).toNat)
      case atStart => exact ⟨0, by omega, by omega, rfl, rfl, rfl, by simp⟩
      case round =>
        obtain ⟨k, hk, hjk, rfl, rfl, rfl, rfl⟩ := hrel
        have hpt := ten_pow_pos k
        have hpl := ten_le_nine hk
        have hxb := decV_bd ((HDG.out.drop j).take k)
        have hxl : ((l.drop j).take k).length = k := by rw [List.length_take, List.length_drop]; omega
        rw [hxl] at hxb
        obtain ⟨hx0, hx1⟩ := hxb
        by_cases hmore : k < 9 ∧ j + k < l.length
        · obtain ⟨hm1, hm2⟩ := hmore
          have hpl2 := ten_le_nine (k := k + 1) (by omega)
          have hps : (10 : Int) ^ (k + 1) = 10 ^ k * 10 := Int.pow_succ _ _
          have hb1 := HDG.out _ (List.getElem_mem hm2)
          have HX : (⟨l.toArray⟩ : ByteArray)[j + k]'(by rw [hsz]; exact hm2) = l[j + k] := rfl
          have HN : Asd (decV ((l.drop j).take (k + 1)) = 10 * decV ((l.drop j).take k) + ((l[j + k].toNat : Int) - 48)) := ⟨by
            rw [take_snoc8 _ k (by rw [List.length_drop]; omega), decV_snoc, List.getElem_drop]⟩
          generalize hbe : l[j + k] = b at *
          generalize decV ((l.drop j).take k) = x at *
          have HPS := Asd.mk hps
          have hb2 : ((b.toNat : Int)) ≤ 57 := by omega
          have hb3 : (48 : Int) ≤ (b.toNat : Int) := by omega
          generalize (10 : Int) ^ k = p at *
          clear hps hxl hbe
          go_wp2
          refine ⟨⟨k + 1, by omega, by omega, by go_num, by go_num, ?_, ?_⟩, by simp [intOf]; omega⟩
          · rw [HN.out]; congr 1; rw [HPS.out] at hpl2; omega
          · rw [HPS.out] at hpl2 ⊢; congr 1; omega
        · have hk1 : 1 ≤ k := by omega
          have HST : Asd (decV (l.take (j + k)) = decV (l.take j) * 10 ^ k + decV ((l.drop j).take k)) := ⟨by
            rw [List.take_add, decV_app, hxl]⟩
          have hlt1 := decV_lt_pw (HDG.out.take j)
          have hl1 : (rep (decV (l.take j))).length ≤ 60 := Nat.le_trans (rep_length_le hlt1) (by rw [List.length_take]; omega)
          have hv1 := val_rep (decV_bd (HDG.out.take j)).1
          have hpw := prod_Word _ A1 c1 (rep (decV (l.take j))) (10 ^ k) (decV ((l.drop j).take k)) wr HA.out hc1 (by omega) (by omega) (by omega) hx0 (by omega)
          rw [hv1, ← HST.out] at hpw
          have HPW := Asd.mk hpw
          obtain ⟨z, hz⟩ : ∃ z, decV (l.take (j + k)) = z := ⟨_, rfl⟩
          rw [hz] at HPW
          have HZ := Asd.mk hz
          clear hpw hlt1 hl1 hv1 hxl hz HST
          have hno : (decide ((k : Int) < 9) && decide (((j + k : Nat) : Int) < (l.length : Int))) = false := by
            rcases Nat.lt_or_ge k 9 with h9 | h9
            · rw [decide_eq_false (show ¬ (((j + k : Nat) : Int) < (l.length : Int)) by omega), Bool.and_false]
            · rw [decide_eq_false (show ¬ ((k : Int) < 9) by omega), Bool.false_and]
          generalize (10 : Int) ^ k = p at *
          generalize decV ((l.drop j).take k) = x at *
          by_cases h9 : k < 9
          · have hjl : j + k = l.length := by omega
            go_wp2_with fail
            refine HPW.out.mono ?_
            rintro e w1 ⟨g, rfl, how, hg, hb1⟩
            have HA2 := Asd.mk (how.rd (ok := fun k => w.heap.size + 1 ≤ k) (by have := HR.out.lt; omega))
            have HR2 := Asd.mk (HR.out.below hb1)
            have HB2 := Asd.mk (below_go HB.out hb1)
            clear how hg hb1
            go_wp2
            go_roundw
            case rel => exact ⟨j + k, some ⟨g, 0, none⟩, (rep z).length, by omega, by first | rfl | (subst hk9; rfl) | go_num, by rw [HZ.out], by rw [HZ.out]; exact Nat.le_refl _, by rw [HZ.out]; exact HA2, HR2, HB2⟩
            case measure => simp [intOf]; omega
          · have hk9 : k = 9 := by omega
            go_wp2_with fail
            refine HPW.out.mono ?_
            rintro e w1 ⟨g, rfl, how, hg, hb1⟩
            have HA2 := Asd.mk (how.rd (ok := fun k => w.heap.size + 1 ≤ k) (by have := HR.out.lt; omega))
            have HR2 := Asd.mk (HR.out.below hb1)
            have HB2 := Asd.mk (below_go HB.out hb1)
            clear how hg hb1
            go_wp2
            go_roundw
            case rel => exact ⟨j + k, some ⟨g, 0, none⟩, (rep z).length, by omega, by first | rfl | (subst hk9; rfl) | go_num, by rw [HZ.out], by rw [HZ.out]; exact Nat.le_refl _, by rw [HZ.out]; exact HA2, HR2, HB2⟩
            case measure => simp [intOf]; omega
    · have hjl : j = l.length := by omega
      subst hjl
      rw [List.take_of_length_le (Nat.le_refl _)] at HA hc1 ⊢
      have R1 := HR.out
      have r0 := R1.c 0 rfl; have r1 := R1.c 1 rfl; have r2 := R1.c 2 rfl; have r3 := R1.c 3 rfl; have rf := R1.f; have rl := R1.lt
      go_wp2
      refine bodyPost_ret (ret_tmp_blk rfl rfl rfl ((((R1.set 0 _).set 1 _).set 2 _).set 3 _) Tryz.underlying35 (by kernel_rfl)) rfl ?_
      exact ⟨A1, c1, rfl, hc1, ((((HA.out.setCell (by simp) _).setCell (by simp) _).setCell (by simp) _).setCell (by simp) _).mono (fun k _ hk => by omega), (((HB.out.setCell (by simp) _).setCell (by simp) _).setCell (by simp) _).setCell (by simp) _⟩
end Go.Proofs.YthjpkichpkomcaaGreatDoor
