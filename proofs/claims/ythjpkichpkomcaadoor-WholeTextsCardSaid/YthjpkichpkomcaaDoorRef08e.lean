/- The document's answer for layer 8: texts (retrospectref08.Text, Read). -/
import Derived.Test.YthjpkichpkomcaaDoorRef07b
import Derived.Test.YthjpkichpkomcaaDoorRef08a
import Derived.Test.YthjpkichpkomcaaDoorWRead
import Derived.Test.YthjpkichpkomcaaDoorRet
import Derived.Outline
import Derived.WalkLawsBesides
namespace Go.Proofs.YthjpkichpkomcaaDoor
open Go.RowKit Go.Proofs.YthjpkichpkomcaaDoor.Big
set_option linter.unusedVariables false
set_option maxRecDepth 100000
attribute [local go_sem ↓] Go.wp_at_zero Go.wp_at_succ

set_option maxHeartbeats 1000000 in
theorem ref08_Text (ok : Nat → Prop) (n : Bool) (A : Option Addr) (c : Nat) (l : List Int) (w : World) (h : Rd ok w A l) (hc : l.length ≤ c) (hbig : l.length < 1000000) :
    Calls Tryd.prog 25 #[.agg #[.bool n, .slice A l.length c]] w fun e w' => e = .returned (.string ⟨(wholeT (zv n l)).toArray⟩) ∧ Below w.heap.size w w' := by
  have HT := Asd.mk (zv_text (n := n) h.wd)
  have HL := Asd.mk (decT_len h.wd)
  go_enter Tryd.func25, Tryd.ntmps25
  go_wp2_with fail
  have A0 := Blk.new w [.bool n, .slice A l.length c] 24
  have rh := h.alloc (.cells #[.bool n, .slice A l.length c] 24)
  have hb0 := ((Below.refl w.heap.size w).alloc (Nat.le_refl _) (.cells #[.bool n, .slice A l.length c] 24))
  generalize w.alloc (.cells #[.bool n, .slice A l.length c] 24) = W at *
  clear h
  refine (ref07_Text ok A c l _ rh hc hbig).mono ?_
  rintro e w1 ⟨rfl, hb1⟩
  have A1 := A0.below hb1
  have rh1 := rh.below hb1
  have c0 := A1.c 0 rfl
  have c1 := A1.c 1 rfl
  go_wp2_with fail
  refine (ref08_Sign ok n A c l _ rh1 hc (by omega)).mono ?_
  rintro e w2 ⟨rfl, hb2⟩
  have hs := sgI_lt (zv n l)
  by_cases hneg : zv n l < 0
  · have hd : decide (sgI (zv n l) < 0) = true := by rw [hs]; exact decide_eq_true hneg
    have HT2 : Asd (wholeT (zv n l) = 45 :: decT (val l)) := ⟨by rw [HT.out, if_pos hneg]⟩
    clear hs hneg
    have hl1 : ¬ 9223372036854775807 < 1 + (decT (val l)).length := by have := HL.out; omega
    go_wp2
    go_ret
    refine ⟨?_, below_go (below_go hb0 hb1) hb2⟩
    rw [HT2.out]
    show Ending.returned (.string (_ ++ _)) = _
    congr 2
  · have hd : decide (sgI (zv n l) < 0) = false := by rw [hs]; exact decide_eq_false hneg
    have HT2 : Asd (wholeT (zv n l) = decT (val l)) := ⟨by rw [HT.out, if_neg hneg]⟩
    clear hs hneg
    go_wp2
    go_ret
    exact ⟨by rw [HT2.out]; rfl, below_go (below_go hb0 hb1) hb2⟩

/-- A text's first byte is a sign, or it isn't. -/
theorem rest_cases (l : List UInt8) : (∃ t, l = 45 :: t ∧ restOf l = t ∧ Lib.hasPrefix l [45] = true) ∨ (restOf l = l ∧ Lib.hasPrefix l [45] = false ∧ (l = [] ∨ ∃ b t, l = b :: t ∧ b ≠ 45)) := by
  cases l with
  | nil => exact Or.inr ⟨rfl, rfl, Or.inl rfl⟩
  | cons b t =>
    by_cases hb : b = 45
    · subst hb
      exact Or.inl ⟨t, rfl, by simp [restOf, Lib.trimPrefix, Lib.hasPrefix], by simp [Lib.hasPrefix]⟩
    · refine Or.inr ⟨?_, ?_, Or.inr ⟨b, t, rfl, hb⟩⟩
      · have : ¬ 45 = b := fun e => hb e.symm
        simp [restOf, Lib.trimPrefix, Lib.hasPrefix, this]
      · have h2 : (45 == b) = false := beq_eq_false_iff_ne.2 fun e => hb e.symm
        show (45 == b && _) = false
        rw [h2]; rfl
theorem sl_rest1 (t : List UInt8) (W : World) : Sem.run Tryd.prog (Instr.slice 9 (Value.string ⟨(45 :: t).toArray⟩) (some (Value.int .i64 1)) none none) W = .ok (.string ⟨t.toArray⟩) W := by
  have h := run_slice_string_l (P := Tryd.prog) W 9 ⟨(45 :: t).toArray⟩ Tryd.underlying9 .i64 1 (by decide) (by show (1 : Int) ≤ (((45 :: t).toArray.size : Nat) : Int); simp; omega)
  rw [h]
  congr 2
  rw [show ((1 : Int)).toNat = 1 from rfl, ByteArray.extract_mk]
  congr 2
  show List.take ((45 :: t).toArray.size - 1) t = t
  simp
theorem sl_rest0 (l : List UInt8) (W : World) : Sem.run Tryd.prog (Instr.slice 9 (Value.string ⟨l.toArray⟩) (some (Value.int .i64 0)) none none) W = .ok (.string ⟨l.toArray⟩) W := by
  have h := run_slice_string_l (P := Tryd.prog) W 9 ⟨l.toArray⟩ Tryd.underlying9 .i64 0 (by decide) (by omega)
  rw [h]
  congr 2
  rw [show ((0 : Int)).toNat = 0 from rfl, ByteArray.extract_mk]
  congr 2
  show List.take (l.toArray.size - 0) l = l
  simp

set_option maxHeartbeats 1000000 in
theorem ref08_Read_neg_yes (t : List UInt8) (hl : t.length ≤ 1000) (hb : wrongI t < 0) (w : World) :
    Calls Tryd.prog 23 #[.string ⟨(45 :: t).toArray⟩] w fun e w' => ∃ A1 c1, e = .returned (.tuple #[.agg #[.bool (ng (zv true (rep (decV t)))), .slice A1 (mag (zv true (rep (decV t)))).length c1], .int .i64 (-1)]) ∧ (mag (zv true (rep (decV t)))).length ≤ c1 ∧ Rd (fun k => w.heap.size ≤ k) w' A1 (mag (zv true (rep (decV t)))) ∧ Below w.heap.size w w' := by
  have HDG := Asd.mk (digs_of_wrong hb)
  have hv0 := (decV_bd HDG.out.1).1
  have hwl := wrongI_le t
  have HW := Asd.mk (ref07_Wrong t (by omega))
  have hsl := sl_rest1 t
  have h0 : (⟨(45 :: t).toArray⟩ : ByteArray).size = t.length + 1 := by simp [ByteArray.size]
  have hx : (⟨(45 :: t).toArray⟩ : ByteArray)[0]'(by rw [h0]; omega) = 45 := rfl
  go_enter Tryd.func23, Tryd.ntmps23
  go_wp2_with fail
  have R1 := Blk.new w [.bool false, .slice none 0 0] 24
  have hb0 := (Below.refl w.heap.size w).alloc (Nat.le_refl _) (.cells #[.bool false, .slice none 0 0] 24)
  generalize w.alloc (.cells #[.bool false, .slice none 0 0] 24) = W at *
  refine (HW.out _).mono ?_
  rintro e w1 ⟨rfl, rfl⟩
  go_wp2_with fail
  refine (ref07_Read t HDG.out.1 hl _).mono ?_
  rintro e w2 ⟨A1, c1, rfl, hc1, hr1, hb2⟩
  have R2 := R1.below hb2
  have hlr : (rep (decV t)).length < 100000 := Nat.lt_of_le_of_lt (rep_length_le (decV_lt_pw HDG.out.1)) (by omega)
  go_wp2_with fail
  refine (ref08_Norm _ true A1 c1 (rep (decV t)) _ hr1 hc1 (by omega)).mono ?_
  rintro e w3 ⟨A3, c3, rfl, hc3, hr3, hb3⟩
  have R3 := R2.below hb3
  have r0 := R3.c 0 rfl; have r1 := R3.c 1 rfl; have rf := R3.f; have rl := R3.lt
  have rl2 := R1.lt
  have hs2 := hb2.size
  go_wp2
  refine bodyPost_ret (ret_blk_tmp rfl rfl rfl ((R3.set 0 _).set 1 _) Tryd.underlying24 (by kernel_rfl)) rfl ?_
  exact ⟨A3, c3, rfl, hc3, ((hr3.setCell (by simp; omega) _).setCell (by simp; omega) _).mono (fun k _ hk => by omega), ((below_go (below_go hb0 hb2) hb3).setCell (by simp) _).setCell (by simp) _⟩

set_option maxHeartbeats 1000000 in
theorem ref08_Read_neg_no (t : List UInt8) (hl : t.length ≤ 1000) (hb : 0 ≤ wrongI t) (w : World) :
    Calls Tryd.prog 23 #[.string ⟨(45 :: t).toArray⟩] w fun e w' => e = .returned (.tuple #[.agg #[.bool false, .slice none 0 0], .int .i64 (1 + wrongI t)]) ∧ Below w.heap.size w w' := by
  have hwl := wrongI_le t
  have HW := Asd.mk (ref07_Wrong t (by omega))
  have hsl := sl_rest1 t
  have h0 : (⟨(45 :: t).toArray⟩ : ByteArray).size = t.length + 1 := by simp [ByteArray.size]
  have hx : (⟨(45 :: t).toArray⟩ : ByteArray)[0]'(by rw [h0]; omega) = 45 := rfl
  go_enter Tryd.func23, Tryd.ntmps23
  go_wp2_with fail
  have R1 := Blk.new w [.bool false, .slice none 0 0] 24
  have hb0 := (Below.refl w.heap.size w).alloc (Nat.le_refl _) (.cells #[.bool false, .slice none 0 0] 24)
  generalize w.alloc (.cells #[.bool false, .slice none 0 0] 24) = W at *
  refine (HW.out _).mono ?_
  rintro e w1 ⟨rfl, rfl⟩
  have r0 := R1.c 0 rfl; have r1 := R1.c 1 rfl; have rf := R1.f; have rl := R1.lt
  generalize hwe : wrongI t = x at *
  go_wp2
  refine bodyPost_ret (ret_blk_tmp rfl rfl rfl ((R1.set 0 _).set 1 _) Tryd.underlying24 (by kernel_rfl)) rfl ?_
  exact ⟨by first | rfl | (rw [hwe]; rfl) | (rw [hwe, Int.zero_add]; rfl), (hb0.setCell (by simp) _).setCell (by simp) _⟩

set_option maxHeartbeats 1000000 in
theorem ref08_Read_pos_yes (t : List UInt8) (hne : t = [] ∨ ∃ b u, t = b :: u ∧ b ≠ 45) (hl : t.length ≤ 1000) (hb : wrongI t < 0) (w : World) :
    Calls Tryd.prog 23 #[.string ⟨t.toArray⟩] w fun e w' => ∃ A1 c1, e = .returned (.tuple #[.agg #[.bool (ng (zv false (rep (decV t)))), .slice A1 (mag (zv false (rep (decV t)))).length c1], .int .i64 (-1)]) ∧ (mag (zv false (rep (decV t)))).length ≤ c1 ∧ Rd (fun k => w.heap.size ≤ k) w' A1 (mag (zv false (rep (decV t)))) ∧ Below w.heap.size w w' := by
  have HDG := Asd.mk (digs_of_wrong hb)
  have hv0 := (decV_bd HDG.out.1).1
  have hwl := wrongI_le t
  have HW := Asd.mk (ref07_Wrong t (by omega))
  have hsl := sl_rest0 t
  have h0 : (⟨t.toArray⟩ : ByteArray).size = t.length := by simp [ByteArray.size]
  have hneg : ∀ P : Prop, (t = [] → P) → (∀ (h : 0 < t.length), ((t[0].toNat : Int) == 45) = false → P) → P := by
    intro P h1 h2
    rcases hne with h | ⟨b, u, rfl, hb2⟩
    · exact h1 h
    · refine h2 (by simp) ?_
      simp only [List.getElem_cons_zero, beq_eq_false_iff_ne, ne_eq]
      intro e; apply hb2; exact UInt8.toNat_inj.1 (by show b.toNat = 45; omega)
  refine hneg _ (fun hnil => ?_) (fun hp hx0 => ?_)
  · subst hnil
    exact absurd hb (by decide)
  · have hx : (⟨t.toArray⟩ : ByteArray)[0]'(by rw [h0]; exact hp) = t[0] := rfl
    have hp2 : decide ((0 : Int) < (t.length : Int)) = true := decide_eq_true (by omega)
    clear hneg hne
    go_enter Tryd.func23, Tryd.ntmps23
    go_wp2_with fail
    have R1 := Blk.new w [.bool false, .slice none 0 0] 24
    have hb0 := (Below.refl w.heap.size w).alloc (Nat.le_refl _) (.cells #[.bool false, .slice none 0 0] 24)
    generalize w.alloc (.cells #[.bool false, .slice none 0 0] 24) = W at *
    refine (HW.out _).mono ?_
    rintro e w1 ⟨rfl, rfl⟩
    go_wp2_with fail
    refine (ref07_Read t HDG.out.1 hl _).mono ?_
    rintro e w2 ⟨A1, c1, rfl, hc1, hr1, hb2⟩
    have R2 := R1.below hb2
    have hlr : (rep (decV t)).length < 100000 := Nat.lt_of_le_of_lt (rep_length_le (decV_lt_pw HDG.out.1)) (by omega)
    go_wp2_with fail
    refine (ref08_Norm _ false A1 c1 (rep (decV t)) _ hr1 hc1 (by omega)).mono ?_
    rintro e w3 ⟨A3, c3, rfl, hc3, hr3, hb3⟩
    have R3 := R2.below hb3
    have r0 := R3.c 0 rfl; have r1 := R3.c 1 rfl; have rf := R3.f; have rl := R3.lt
    have rl2 := R1.lt
    have hs2 := hb2.size
    go_wp2
    refine bodyPost_ret (ret_blk_tmp rfl rfl rfl ((R3.set 0 _).set 1 _) Tryd.underlying24 (by kernel_rfl)) rfl ?_
    exact ⟨A3, c3, rfl, hc3, ((hr3.setCell (by simp; omega) _).setCell (by simp; omega) _).mono (fun k _ hk => by omega), ((below_go (below_go hb0 hb2) hb3).setCell (by simp) _).setCell (by simp) _⟩

set_option maxHeartbeats 1000000 in
theorem ref08_Read_pos_no (t : List UInt8) (hne : t = [] ∨ ∃ b u, t = b :: u ∧ b ≠ 45) (hl : t.length ≤ 1000) (hb : 0 ≤ wrongI t) (w : World) :
    Calls Tryd.prog 23 #[.string ⟨t.toArray⟩] w fun e w' => e = .returned (.tuple #[.agg #[.bool false, .slice none 0 0], .int .i64 (0 + wrongI t)]) ∧ Below w.heap.size w w' := by
  have hwl := wrongI_le t
  have HW := Asd.mk (ref07_Wrong t (by omega))
  have hsl := sl_rest0 t
  have h0 : (⟨t.toArray⟩ : ByteArray).size = t.length := by simp [ByteArray.size]
  have hneg : ∀ P : Prop, (t = [] → P) → (∀ (h : 0 < t.length), ((t[0].toNat : Int) == 45) = false → P) → P := by
    intro P h1 h2
    rcases hne with h | ⟨b, u, rfl, hb2⟩
    · exact h1 h
    · refine h2 (by simp) ?_
      simp only [List.getElem_cons_zero, beq_eq_false_iff_ne, ne_eq]
      intro e; apply hb2; exact UInt8.toNat_inj.1 (by show b.toNat = 45; omega)
  refine hneg _ (fun hnil => ?_) (fun hp hx0 => ?_)
  · subst hnil
    clear hneg hne
    go_enter Tryd.func23, Tryd.ntmps23
    go_wp2_with fail
    have R1 := Blk.new w [.bool false, .slice none 0 0] 24
    have hb0 := (Below.refl w.heap.size w).alloc (Nat.le_refl _) (.cells #[.bool false, .slice none 0 0] 24)
    generalize w.alloc (.cells #[.bool false, .slice none 0 0] 24) = W at *
    refine (HW.out _).mono ?_
    rintro e w1 ⟨rfl, rfl⟩
    have r0 := R1.c 0 rfl; have r1 := R1.c 1 rfl; have rf := R1.f; have rl := R1.lt
    generalize hwe : wrongI [] = x at *
    go_wp2
    refine bodyPost_ret (ret_blk_tmp rfl rfl rfl ((R1.set 0 _).set 1 _) Tryd.underlying24 (by kernel_rfl)) rfl ?_
    exact ⟨by first | rfl | (rw [hwe]; rfl) | (rw [hwe, Int.zero_add]; rfl), (hb0.setCell (by simp) _).setCell (by simp) _⟩
  · have hx : (⟨t.toArray⟩ : ByteArray)[0]'(by rw [h0]; exact hp) = t[0] := rfl
    have hp2 : decide ((0 : Int) < (t.length : Int)) = true := decide_eq_true (by omega)
    clear hneg hne
    go_enter Tryd.func23, Tryd.ntmps23
    go_wp2_with fail
    have R1 := Blk.new w [.bool false, .slice none 0 0] 24
    have hb0 := (Below.refl w.heap.size w).alloc (Nat.le_refl _) (.cells #[.bool false, .slice none 0 0] 24)
    generalize w.alloc (.cells #[.bool false, .slice none 0 0] 24) = W at *
    refine (HW.out _).mono ?_
    rintro e w1 ⟨rfl, rfl⟩
    have r0 := R1.c 0 rfl; have r1 := R1.c 1 rfl; have rf := R1.f; have rl := R1.lt
    generalize hwe : wrongI t = x at *
    go_wp2
    refine bodyPost_ret (ret_blk_tmp rfl rfl rfl ((R1.set 0 _).set 1 _) Tryd.underlying24 (by kernel_rfl)) rfl ?_
    exact ⟨by first | rfl | (rw [hwe]; rfl) | (rw [hwe, Int.zero_add]; rfl), (hb0.setCell (by simp) _).setCell (by simp) _⟩

theorem readV_neg (t : List UInt8) (h : Lib.hasPrefix (45 :: t) [45] = true) (hr : restOf (45 :: t) = t) (hv : 0 ≤ decV t) : zv true (rep (decV t)) = readV (45 :: t) := by
  unfold readV zv; rw [h, hr, if_pos rfl, if_pos rfl, val_rep hv]
theorem readV_pos (l : List UInt8) (h : Lib.hasPrefix l [45] = false) (hr : restOf l = l) (hv : 0 ≤ decV l) : zv false (rep (decV l)) = readV l := by
  unfold readV zv; rw [h, hr, if_neg (by decide), if_neg (by decide), val_rep hv]
theorem ref08_Read (l : List UInt8) (hl : l.length ≤ 1000) (hb : wrongI (restOf l) < 0) (w : World) :
    Calls Tryd.prog 23 #[.string ⟨l.toArray⟩] w fun e w' => ∃ A1 c1, e = .returned (.tuple #[.agg #[.bool (ng (readV l)), .slice A1 (mag (readV l)).length c1], .int .i64 (-1)]) ∧ (mag (readV l)).length ≤ c1 ∧ Rd (fun k => w.heap.size ≤ k) w' A1 (mag (readV l)) ∧ Below w.heap.size w w' := by
  have hv := (decV_bd (digs_of_wrong hb).1).1
  rcases rest_cases l with ⟨t, rfl, hr, hp⟩ | ⟨hr, hp, hne⟩
  · rw [hr] at hb hv
    rw [← readV_neg t hp hr hv]
    exact ref08_Read_neg_yes t (by simp at hl; omega) hb w
  · rw [hr] at hb hv
    rw [← readV_pos l hp hr hv]
    exact ref08_Read_pos_yes l hne hl hb w
theorem ref08_Read_no (l : List UInt8) (hl : l.length ≤ 1000) (hb : 0 ≤ wrongI (restOf l)) (w : World) :
    Calls Tryd.prog 23 #[.string ⟨l.toArray⟩] w fun e w' => e = .returned (.tuple #[.agg #[.bool false, .slice none 0 0], .int .i64 (wrongI (restOf l) + ((l.length : Int) - ((restOf l).length : Int)))]) ∧ Below w.heap.size w w' := by
  rcases rest_cases l with ⟨t, rfl, hr, hp⟩ | ⟨hr, hp, hne⟩
  · rw [hr] at hb ⊢
    have h := ref08_Read_neg_no t (by simp at hl; omega) hb w
    rwa [show (1 : Int) + wrongI t = wrongI t + (((45 :: t).length : Int) - (t.length : Int)) by simp; omega] at h
  · rw [hr] at hb ⊢
    have h := ref08_Read_pos_no l hne hl hb w
    rwa [show (0 : Int) + wrongI l = wrongI l + ((l.length : Int) - (l.length : Int)) by omega] at h
end Go.Proofs.YthjpkichpkomcaaDoor
