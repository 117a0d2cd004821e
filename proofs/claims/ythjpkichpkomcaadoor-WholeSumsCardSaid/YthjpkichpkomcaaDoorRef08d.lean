/- The document's answer for layer 8: products, floors (retrospectref08.Mul, Floor). -/
import Derived.Test.YthjpkichpkomcaaDoorRef08c
import Derived.Test.YthjpkichpkomcaaDoorRef04
import Derived.Test.YthjpkichpkomcaaDoorRef05b
import Derived.Test.YthjpkichpkomcaaDoorFlLaw
import Derived.Outline
import Derived.Deep.RegionHeld3
import Derived.Deep.DrawnRows
import Derived.Deep.DeepMust
namespace Go.Proofs.YthjpkichpkomcaaDoor
open Go.RowKit Go.Proofs.YthjpkichpkomcaaDoor.Big
set_option linter.unusedVariables false
set_option maxRecDepth 100000
attribute [local go_sem ↓] Go.wp_at_zero Go.wp_at_succ

theorem rlen_mul {a b : List Int} (ha : Wd a) (hb : Wd b) : (rep (val a * val b)).length ≤ a.length + b.length := by
  refine rep_length_le ?_
  have h1 := val_lt ha; have h2 := val_lt hb; have h3 := val_nonneg ha; have h4 := val_nonneg hb
  rw [pw_add]
  rcases Int.lt_or_eq_of_le h4 with h5 | h5
  · exact Int.lt_of_lt_of_le (Int.mul_lt_mul_of_pos_right h1 h5) (Int.mul_le_mul_of_nonneg_left (Int.le_of_lt h2) (Int.le_of_lt (pw_pos _)))
  · rw [← h5, Int.mul_zero]; exact Int.mul_pos (pw_pos _) (pw_pos _)
theorem rmul_zv {n n' : Bool} {l l' : List Int} (hw : Wd l) (hw' : Wd l') : zv (n != n') (rep (val l * val l')) = zv n l * zv n' l' := by
  have h := Int.mul_nonneg (val_nonneg hw) (val_nonneg hw')
  rw [(zv_mul n n' l l').2]
  unfold zv
  rw [val_rep h]
  cases n <;> cases n' <;> simp

set_option maxHeartbeats 1000000 in
theorem ref08_Mul (ok : Nat → Prop) (n : Bool) (A : Option Addr) (c : Nat) (l : List Int) (ok' : Nat → Prop) (n' : Bool) (A' : Option Addr) (c' : Nat) (l' : List Int) (w : World) (h : Rd ok w A l) (hc : l.length ≤ c) (h' : Rd ok' w A' l') (hc' : l'.length ≤ c') (hbig : l.length < 1000000) (hbig' : l'.length < 1000000) :
    Calls Tryd.prog 18 #[.agg #[.bool n, .slice A l.length c], .agg #[.bool n', .slice A' l'.length c']] w (WhOut (zv n l * zv n' l') w) := by
  have HL := Asd.mk (rlen_mul h.wd h'.wd)
  have HZ := Asd.mk (rmul_zv (n := n) (n' := n') h.wd h'.wd)
  go_enter Tryd.func18, Tryd.ntmps18
  go_wp2_with fail
  have A0 := ((Blk.new w [.bool n, .slice A l.length c] 24).alloc (.cells #[.bool n', .slice A' l'.length c'] 24)).alloc (.cells #[.bool false, .slice none 0 0] 24)
  have B0 := (Blk.new (w.alloc (.cells #[.bool n, .slice A l.length c] 24)) [.bool n', .slice A' l'.length c'] 24).alloc (.cells #[.bool false, .slice none 0 0] 24)
  have R0 := Blk.new ((w.alloc (.cells #[.bool n, .slice A l.length c] 24)).alloc (.cells #[.bool n', .slice A' l'.length c'] 24)) [.bool false, .slice none 0 0] 24
  have rh := (((h.alloc (.cells #[.bool n, .slice A l.length c] 24)).alloc (.cells #[.bool n', .slice A' l'.length c'] 24)).alloc (.cells #[.bool false, .slice none 0 0] 24))
  have rh' := (((h'.alloc (.cells #[.bool n, .slice A l.length c] 24)).alloc (.cells #[.bool n', .slice A' l'.length c'] 24)).alloc (.cells #[.bool false, .slice none 0 0] 24))
  have hb0 := ((((Below.refl w.heap.size w).alloc (Nat.le_refl _) (.cells #[.bool n, .slice A l.length c] 24)).alloc (by simp) (.cells #[.bool n', .slice A' l'.length c'] 24)).alloc (by simp; omega) (.cells #[.bool false, .slice none 0 0] 24))
  simp only [World.size_alloc] at B0 R0
  generalize ((w.alloc (.cells #[.bool n, .slice A l.length c] 24)).alloc (.cells #[.bool n', .slice A' l'.length c'] 24)).alloc (.cells #[.bool false, .slice none 0 0] 24) = W at *
  clear h h'
  have c0 := A0.c 0 rfl
  have c1 := A0.c 1 rfl
  have d0 := B0.c 0 rfl
  have d1 := B0.c 1 rfl
  have n1 : ¬ (w.heap.size = w.heap.size + 1 + 1) := by omega
  have n2 : ¬ (w.heap.size + 1 + 1 = w.heap.size) := by omega
  have HN := Asd.mk (ref04_Mul _ _ A A' c c' l l' W.drew rh.drew hc rh'.drew hc' (by omega) (by omega))
  go_region_held3 (fun w' => w'.cell? ⟨w.heap.size, 0, none⟩ = some (.bool n) ∧ w'.cell? ⟨w.heap.size, 1, none⟩ = some (.slice A l.length c) ∧ w'.cell? ⟨w.heap.size + 1, 0, none⟩ = some (.bool n') ∧ w'.cell? ⟨w.heap.size + 1, 1, none⟩ = some (.slice A' l'.length c')) (go_keep)
    (first
      | (go_at_call 48; refine HN.out.mono ?_; rintro e w2 ⟨A1, c1, rfl, hc1, hr1, hb2⟩; replace hb2 := undrew hb2; replace hr1 : Rd (fun k => W.heap.size ≤ k) w2 A1 _ := hr1; have A2 := A0.below hb2; have B2 := B0.below hb2; have R2 := R0.below hb2; have qA20 := A2.c 0 rfl; have qA21 := A2.c 1 rfl; have qB20 := B2.c 0 rfl; have qB21 := B2.c 1 rfl)
      | (go_at_call 29; refine (ref08_Norm _ (n != n') A1 c1 (rep (val l * val l')) _ hr1 hc1 (by have := HL.out; omega)).mono ?_; rintro e w3 ⟨A3, c3, rfl, hc3, hr3, hb3⟩; rw [HZ.out] at hc3 hr3 ⊢; have A3 := A2.below hb3; have B3 := B2.below hb3; have R3 := R2.below hb3; have qA30 := A3.c 0 rfl; have qA31 := A3.c 1 rfl; have qB30 := B3.c 0 rfl; have qB31 := B3.c 1 rfl; have qR30 := R3.c 0 rfl; have qR31 := R3.c 1 rfl; have ef := R3.f; have ez := R3.lt))
  go_wp2
  refine bodyPost_ret (ret_blk rfl rfl ((R3.set 0 _).set 1 _) Tryd.underlying24 (by kernel_rfl)) rfl ?_
  have hlt := R0.lt
  have hlt1 := hb2.size
  exact ⟨_, _, rfl, hc3, ((hr3.setCell (by simp; omega) _).setCell (by simp; omega) _).mono (fun k _ hk => by omega), ((below_go (below_go hb0 hb2) hb3).setCell (by simp; omega) _).setCell (by simp; omega) _⟩

theorem fq_abs_val {a b : List Int} (ha : Wd a) (hb : Wd b) (hp : 0 < val b) (n n' : Bool) : fq (zv n a) (zv n' b) = if n = n' then val a / val b else if val a % val b = 0 then -(val a / val b) else -(val a / val b) - 1 := by
  have h0 := val_nonneg ha
  have h1 := ediv_neg' (val a) (val b) h0 hp
  have hz : ¬ (0 < -val b) := by omega
  unfold fq zv
  have hz2 : ¬ (val b < 0) := by omega
  cases n <;> cases n' <;> simp [hp, hz2] <;> exact h1
/-- The floor's number without its sign. -/
def flN (x y : Int) (b : Bool) : Int := if b then x / y + 1 else x / y
theorem flN_zv {a b : List Int} (ha : Wd a) (hb : Wd b) (hp : 0 < val b) (n n' : Bool) {m : Bool} (hm : m = (n != n' && decide (0 < val a % val b))) : zv (n != n') (rep (flN (val a) (val b) m)) = fq (zv n a) (zv n' b) := by
  have h0 := val_nonneg ha
  have h2 : 0 ≤ val a / val b := Int.ediv_nonneg h0 (by omega)
  have h3 := Int.emod_nonneg (val a) (show val b ≠ 0 by omega)
  rw [fq_abs_val ha hb hp, hm]
  by_cases hne : n = n'
  · subst hne
    simp only [bne_self_eq_false, Bool.false_and, flN, zv, Bool.false_eq_true, if_false, if_true]
    exact val_rep h2
  · have h4 : (n != n') = true := by simpa using hne
    rw [h4, if_neg hne, Bool.true_and]
    by_cases hmod : val a % val b = 0
    · rw [if_pos hmod, hmod, show decide ((0 : Int) < 0) = false from rfl]
      simp only [flN, zv, Bool.false_eq_true, if_false, if_true]
      rw [val_rep h2]
    · rw [if_neg hmod, decide_eq_true (show 0 < val a % val b by omega)]
      simp only [flN, zv, if_true]
      rw [val_rep (by omega)]; omega
theorem rep_len_pos {z : Int} : decide (0 < (rep z).length) = decide (0 < z) := by
  by_cases hz : 0 < z
  · rw [decide_eq_true hz, decide_eq_true (rep_length_pos hz)]
  · rw [decide_eq_false hz, rep_nil (by omega)]; rfl
theorem rep_val1 : rep (val [1]) = [1] := by rw [show val [1] = 1 from rfl]; exact rep_word (by decide) (by decide)
/-- What the document's floor gives. -/
def RFlOut (q r : Int) (w : World) (e : Ending) (w' : World) : Prop := ∃ A1 c1 A2 c2, e = .returned (.tuple #[.agg #[.bool (ng q), .slice A1 (mag q).length c1], .agg #[.bool (ng r), .slice A2 (mag r).length c2]]) ∧ (mag q).length ≤ c1 ∧ (mag r).length ≤ c2 ∧ Rd (fun k => w.heap.size ≤ k) w' A1 (mag q) ∧ Rd (fun k => w.heap.size ≤ k) w' A2 (mag r) ∧ Below w.heap.size w w'
theorem rd_one (w : World) (o : Obj) (ho : o = .cells #[.int .u32 1] 84) : Rd (fun k => w.heap.size ≤ k) (w.alloc o) (some ⟨w.heap.size, 0, none⟩) [1] := by
  subst ho
  refine ⟨Wd.cons (by decide) (by decide) Wd.nil, by decide, fun _ => ⟨_, rfl, Nat.le_refl _, fun j hj => ?_⟩⟩
  have hj0 : j = 0 := by simp at hj; omega
  subst hj0
  rw [add_plain]
  exact cell_of_row _ _ 0 _ _ _ (heap_alloc_new w _)

set_option maxHeartbeats 4000000 in
theorem ref08_Floor_same (ok : Nat → Prop) (n : Bool) (A : Option Addr) (c : Nat) (l : List Int) (ok' : Nat → Prop) (A' : Option Addr) (c' : Nat) (l' : List Int) (w : World) (h : Rd ok w A l) (hc : l.length ≤ c) (h' : Rd ok' w A' l') (hc' : l'.length ≤ c') (hbig : l.length < 100000) (hbig' : l'.length < 100000) (hpos : 0 < val l') :
    Calls Tryd.prog 21 #[.agg #[.bool n, .slice A l.length c], .agg #[.bool n, .slice A' l'.length c']] w (RFlOut (fq (zv n l) (zv n l')) (fr (zv n l) (zv n l')) w) := by
  have hzq := flN_zv h.wd h'.wd hpos n n (m := false) (by simp)
  have hq0 : 0 ≤ val l / val l' := Int.ediv_nonneg (val_nonneg h.wd) (by omega)
  have HQL : Asd ((rep (val l / val l')).length ≤ l.length) := ⟨rep_length_le (Int.lt_of_le_of_lt (Int.ediv_le_self _ (val_nonneg h.wd)) (val_lt h.wd))⟩
  have HNL : Asd ((rep (flN (val l) (val l') false)).length ≤ l.length + 1) := ⟨by
    refine rep_length_le ?_
    have h1 := Int.ediv_le_self (val l') (val_nonneg h.wd)
    have h2 := val_lt h.wd
    have h3 := pw_pos l.length
    rw [pw_succ]; simp only [flN, if_true, Bool.false_eq_true, if_false]; omega⟩
  have hlz := Nat.lt_of_le_of_lt (len_fq (a := zv n l) (b := zv n l') (m := l.length + l'.length) (by have := natAbs_zv (n := n) h'.wd; omega) (len_zv h.wd (by omega)) (len_zv h'.wd (by omega))) (show l.length + l'.length + 1 < 1000000 by omega)
  have lzb := len_zv (n := n) h'.wd (Nat.le_refl _)
  have lnb := Nat.lt_of_le_of_lt (len_mul (Nat.le_of_lt hlz) lzb) (show 1000000 + l'.length < 20000000 by omega)
  have hlen1 := rep_len_pos (z := val l % val l')
  
  have hfr : fr (zv n l) (zv n l') = zv n l + -(fq (zv n l) (zv n l') * zv n l') := by unfold fr; omega
  rw [hfr]
  generalize fq (zv n l) (zv n l') = q at *
  have HZQ : Asd (zv false (rep (val l / val l')) = q) := ⟨by first | exact hzq | (simp only [bne_self_eq_false] at hzq; exact hzq)⟩
  have hlz2 : (mag q).length < 1000000000 := by omega
  have hll : Asd (l.length < 100000 ∧ l'.length < 100000) := ⟨hbig, hbig'⟩
  have HZM := Asd.mk (zv_mag q)
  have HZN := Asd.mk (zv_mag (q * zv n l'))
  have HZN2 := Asd.mk (zv_mag (-(q * zv n l')))
  have lnn : (mag (-(q * zv n l'))).length < 20000000 := by unfold mag at lnb ⊢; rwa [Int.natAbs_neg]
  clear hzq hfr hq0 lzb
  go_enter Tryd.func21, Tryd.ntmps21
  go_wp2_with fail
  have A0 := (((Blk.new w [.bool n, .slice A l.length c] 24).alloc (.cells #[.bool n, .slice A' l'.length c'] 24)).alloc (.cells #[.bool false, .slice none 0 0] 24)).alloc (.cells #[.bool false, .slice none 0 0] 24)
  have B0 := ((Blk.new (w.alloc (.cells #[.bool n, .slice A l.length c] 24)) [.bool n, .slice A' l'.length c'] 24).alloc (.cells #[.bool false, .slice none 0 0] 24)).alloc (.cells #[.bool false, .slice none 0 0] 24)
  have R0 := (Blk.new ((w.alloc (.cells #[.bool n, .slice A l.length c] 24)).alloc (.cells #[.bool n, .slice A' l'.length c'] 24)) [.bool false, .slice none 0 0] 24).alloc (.cells #[.bool false, .slice none 0 0] 24)
  have S0 := Blk.new (((w.alloc (.cells #[.bool n, .slice A l.length c] 24)).alloc (.cells #[.bool n, .slice A' l'.length c'] 24)).alloc (.cells #[.bool false, .slice none 0 0] 24)) [.bool false, .slice none 0 0] 24
  have rh := ((((h.alloc (.cells #[.bool n, .slice A l.length c] 24)).alloc (.cells #[.bool n, .slice A' l'.length c'] 24)).alloc (.cells #[.bool false, .slice none 0 0] 24)).alloc (.cells #[.bool false, .slice none 0 0] 24))
  have rh' := ((((h'.alloc (.cells #[.bool n, .slice A l.length c] 24)).alloc (.cells #[.bool n, .slice A' l'.length c'] 24)).alloc (.cells #[.bool false, .slice none 0 0] 24)).alloc (.cells #[.bool false, .slice none 0 0] 24))
  have hb0 := (((((Below.refl w.heap.size w).alloc (Nat.le_refl _) (.cells #[.bool n, .slice A l.length c] 24)).alloc (by simp) (.cells #[.bool n, .slice A' l'.length c'] 24)).alloc (by simp; omega) (.cells #[.bool false, .slice none 0 0] 24)).alloc (by simp; omega) (.cells #[.bool false, .slice none 0 0] 24))
  simp only [World.size_alloc] at B0 R0 S0
  generalize (((w.alloc (.cells #[.bool n, .slice A l.length c] 24)).alloc (.cells #[.bool n, .slice A' l'.length c'] 24)).alloc (.cells #[.bool false, .slice none 0 0] 24)).alloc (.cells #[.bool false, .slice none 0 0] 24) = W at *
  clear h h'
  have c0 := A0.c 0 rfl; have c1 := A0.c 1 rfl; have d0 := B0.c 0 rfl; have d1 := B0.c 1 rfl
  refine (ref05_Div _ _ A A' c c' l l' _ rh rh' (by omega) (by omega) hpos).mono ?_
  rintro e w1 ⟨N1, k1, N2, k2, rfl, hk1, hk2, hr1, hr2, hb1⟩
  have A1 := A0.below hb1; have B1 := B0.below hb1; have R1 := R0.below hb1; have S1 := S0.below hb1
  have rh1 := rh.below hb1; have rh1' := rh'.below hb1
  have e0 := A1.c 0 rfl; have e1 := A1.c 1 rfl; have e2 := B1.c 0 rfl; have e3 := B1.c 1 rfl
  have hb01 := below_go hb0 hb1
  have hsz1 := hb01.size
  have rs1 := R1.lt; have ss1 := S1.lt
  clear c0 c1 d0 d1
  go_wp2_with fail

  have A2 := A1; have B2 := B1; have R2 := R1; have S2 := S1; have rh2 := rh1; have rh2' := rh1'
  have hb02 := hb01

  refine (ref08_Norm _ false N1 k1 (rep (val l / val l')) _ hr1 hk1 (by have := HNL.out; have := hll.out.1; have := HQL.out; omega)).mono ?_
  rintro e w3 ⟨Q1, k3, rfl, hk3, hq3, hb3⟩
  rw [HZQ.out] at hk3 hq3 ⊢
  have hb03 := below_go hb02 hb3
  have A3 := (A2.below hb3).alloc (.cells #[.bool (ng q), .slice Q1 (mag q).length k3] 24)
  have B3 := (B2.below hb3).alloc (.cells #[.bool (ng q), .slice Q1 (mag q).length k3] 24)
  have R3 := (R2.below hb3).alloc (.cells #[.bool (ng q), .slice Q1 (mag q).length k3] 24)
  have S3 := (S2.below hb3).alloc (.cells #[.bool (ng q), .slice Q1 (mag q).length k3] 24)
  have Q3 := Blk.new w3 [.bool (ng q), .slice Q1 (mag q).length k3] 24
  have rh3 := (rh2.below hb3).alloc (.cells #[.bool (ng q), .slice Q1 (mag q).length k3] 24)
  have rh3' := (rh2'.below hb3).alloc (.cells #[.bool (ng q), .slice Q1 (mag q).length k3] 24)
  have rq3 := (hq3.mono (ok' := fun k => w.heap.size + 4 ≤ k) (fun k _ hk => by have := S2.lt; omega)).alloc (.cells #[.bool (ng q), .slice Q1 (mag q).length k3] 24)
  have hb04 := hb03.alloc hb03.size (.cells #[.bool (ng q), .slice Q1 (mag q).length k3] 24)
  have sl := (S2.below hb3).lt
  clear e0 e1 e2 e3 A0 B0 R0 S0 A1 B1 R1 S1 A2 B2 R2 S2 rh rh' rh1 rh1' rh2 rh2' hb0 hb1 hb01 hb02 hb03 hb3 hq3
  go_wp2_with fail
  generalize hbq : w3.heap.size = bq at *
  generalize w3.alloc (.cells #[.bool (ng q), .slice Q1 (mag q).length k3] 24) = W3 at *
  have cA30 := A3.c 0 rfl; have cA31 := A3.c 1 rfl; have cB30 := B3.c 0 rfl; have cB31 := B3.c 1 rfl; have cQ30 := Q3.c 0 rfl; have cQ31 := Q3.c 1 rfl
  have m1 : ¬ (w.heap.size = w.heap.size + 1 + 1) := by omega
  have m2 : ¬ (w.heap.size + 1 + 1 = w.heap.size) := by omega
  have m3 : ¬ (w.heap.size = w.heap.size + 1 + 1 + 1) := by omega
  have m4 : ¬ (w.heap.size + 1 + 1 + 1 = w.heap.size) := by omega
  have m5 : ¬ (bq = w.heap.size + 1 + 1) := by omega
  have m6 : ¬ (bq = w.heap.size + 1 + 1 + 1) := by omega
  have m7 : ¬ (w.heap.size + 1 + 1 = bq) := by omega
  have m8 : ¬ (w.heap.size + 1 + 1 + 1 = bq) := by omega
  go_region_held3 (fun w' => w'.cell? ⟨w.heap.size, 0, none⟩ = some (.bool n) ∧ w'.cell? ⟨w.heap.size, 1, none⟩ = some (.slice A l.length c) ∧ w'.cell? ⟨w.heap.size + 1, 0, none⟩ = some (.bool n) ∧ w'.cell? ⟨w.heap.size + 1, 1, none⟩ = some (.slice A' l'.length c') ∧ w'.cell? ⟨bq, 0, none⟩ = some (.bool (ng q)) ∧ w'.cell? ⟨bq, 1, none⟩ = some (.slice Q1 (mag q).length k3)) (go_keep)
    (first
      | (go_at_call 18; have hm := ref08_Mul _ (ng q) Q1 k3 (mag q) _ n A' c' l' _ rq3.drew hk3 rh3'.drew hc' (by omega) (by have := hll.out.2; omega); rw [HZM.out] at hm; refine hm.mono ?_; clear hm; rintro e w4 ⟨U1, u1, rfl, hu1, hv1, hb4⟩; replace hb4 := undrew hb4; have A4 := A3.below hb4; have B4 := B3.below hb4; have R4 := R3.below hb4; have S4 := S3.below hb4; have Q4 := Q3.below hb4; have cA40 := A4.c 0 rfl; have cA41 := A4.c 1 rfl; have cB40 := B4.c 0 rfl; have cB41 := B4.c 1 rfl; have cQ40 := Q4.c 0 rfl; have cQ41 := Q4.c 1 rfl; have rh4 := rh3.below hb4; have rq4 := rq3.below hb4)
      | (go_at_call 16; have hm := ref08_Neg _ (ng (q * zv n l')) U1 u1 (mag (q * zv n l')) _ hv1 hu1 (by omega); rw [HZN.out] at hm; refine hm.mono ?_; clear hm; rintro e w5 ⟨U2, u2, rfl, hu2, hv2, hb5⟩; have A5 := A4.below hb5; have B5 := B4.below hb5; have R5 := R4.below hb5; have S5 := S4.below hb5; have Q5 := Q4.below hb5; have cA50 := A5.c 0 rfl; have cA51 := A5.c 1 rfl; have cB50 := B5.c 0 rfl; have cB51 := B5.c 1 rfl; have cQ50 := Q5.c 0 rfl; have cQ51 := Q5.c 1 rfl; have rh5 := rh4.below hb5; have rq5 := rq4.below hb5)
      | (go_at_call 14; have hm := ref08_Add _ n A c l _ (ng (-(q * zv n l'))) U2 u2 (mag (-(q * zv n l'))) _ rh5 hc hv2 hu2 (by have := hll.out.1; omega) (by omega); rw [HZN2.out] at hm; refine hm.mono ?_; clear hm; rintro e w6 ⟨U3, u3, rfl, hu3, hv3, hb6⟩; have A6 := A5.below hb6; have B6 := B5.below hb6; have R6 := R5.below hb6; have S6 := S5.below hb6; have Q6 := Q5.below hb6; have cA60 := A6.c 0 rfl; have cA61 := A6.c 1 rfl; have cB60 := B6.c 0 rfl; have cB61 := B6.c 1 rfl; have cQ60 := Q6.c 0 rfl; have cQ61 := Q6.c 1 rfl; have rq6 := rq5.below hb6; have ra := R6.c 0 rfl; have ra1 := R6.c 1 rfl; have sa := S6.c 0 rfl; have sa1 := S6.c 1 rfl; have rf := R6.f; have sf := S6.f; have rl := R6.lt; have sl6 := S6.lt))
  go_wp2
  refine bodyPost_ret (ret_blk2 rfl rfl rfl ((((R6.set 0 _).set 1 _).far (by simp) _).far (by simp) _) ((((S6.far (by simp) _).far (by simp) _).set 0 _).set 1 _) Tryd.underlying24 (by kernel_rfl) Tryd.underlying24 (by kernel_rfl)) rfl ?_
  have z4 := hb4.size; have z5 := hb5.size; have z6 := hb6.size; have z3 := S3.lt
  refine ⟨_, _, _, _, rfl, hk3, hu3, ((((rq6.setCell (by first | (simp; omega) | simp) _).setCell (by first | (simp; omega) | simp) _).setCell (by first | (simp; omega) | simp) _).setCell (by first | (simp; omega) | simp) _).mono (fun k _ hk => by omega), ((((hv3.setCell (by first | (simp; omega) | simp) _).setCell (by first | (simp; omega) | simp) _).setCell (by first | (simp; omega) | simp) _).setCell (by first | (simp; omega) | simp) _).mono (fun k _ hk => by omega), ?_⟩
  exact ((((below_go (below_go (below_go hb04 hb4) hb5) hb6).setCell (by first | (simp; omega) | simp) _).setCell (by first | (simp; omega) | simp) _).setCell (by first | (simp; omega) | simp) _).setCell (by first | (simp; omega) | simp) _

set_option maxHeartbeats 4000000 in
theorem ref08_Floor_more_true (ok : Nat → Prop) (A : Option Addr) (c : Nat) (l : List Int) (ok' : Nat → Prop) (A' : Option Addr) (c' : Nat) (l' : List Int) (w : World) (h : Rd ok w A l) (hc : l.length ≤ c) (h' : Rd ok' w A' l') (hc' : l'.length ≤ c') (hbig : l.length < 100000) (hbig' : l'.length < 100000) (hpos : 0 < val l') (hm : 0 < val l % val l') :
    Calls Tryd.prog 21 #[.agg #[.bool true, .slice A l.length c], .agg #[.bool false, .slice A' l'.length c']] w (RFlOut (fq (zv true l) (zv false l')) (fr (zv true l) (zv false l')) w) := by
  have hzq := flN_zv h.wd h'.wd hpos true false (m := true) (by rw [decide_eq_true hm]; rfl)
  have hq0 : 0 ≤ val l / val l' := Int.ediv_nonneg (val_nonneg h.wd) (by omega)
  have HQL : Asd ((rep (val l / val l')).length ≤ l.length) := ⟨rep_length_le (Int.lt_of_le_of_lt (Int.ediv_le_self _ (val_nonneg h.wd)) (val_lt h.wd))⟩
  have HNL : Asd ((rep (flN (val l) (val l') true)).length ≤ l.length + 1) := ⟨by
    refine rep_length_le ?_
    have h1 := Int.ediv_le_self (val l') (val_nonneg h.wd)
    have h2 := val_lt h.wd
    have h3 := pw_pos l.length
    rw [pw_succ]; simp only [flN, if_true, Bool.false_eq_true, if_false]; omega⟩
  have hlz := Nat.lt_of_le_of_lt (len_fq (a := zv true l) (b := zv false l') (m := l.length + l'.length) (by have := natAbs_zv (n := false) h'.wd; omega) (len_zv h.wd (by omega)) (len_zv h'.wd (by omega))) (show l.length + l'.length + 1 < 1000000 by omega)
  have lzb := len_zv (n := false) h'.wd (Nat.le_refl _)
  have lnb := Nat.lt_of_le_of_lt (len_mul (Nat.le_of_lt hlz) lzb) (show 1000000 + l'.length < 20000000 by omega)
  have hlen1 := rep_len_pos (z := val l % val l')
  rw [decide_eq_true hm] at hlen1
  have hfr : fr (zv true l) (zv false l') = zv true l + -(fq (zv true l) (zv false l') * zv false l') := by unfold fr; omega
  rw [hfr]
  generalize fq (zv true l) (zv false l') = q at *
  have HZQ : Asd (zv true (rep (flN (val l) (val l') true)) = q) := ⟨by first | exact hzq | (simp only [bne_self_eq_false] at hzq; exact hzq)⟩
  have hlz2 : (mag q).length < 1000000000 := by omega
  have hll : Asd (l.length < 100000 ∧ l'.length < 100000) := ⟨hbig, hbig'⟩
  have HZM := Asd.mk (zv_mag q)
  have HZN := Asd.mk (zv_mag (q * zv false l'))
  have HZN2 := Asd.mk (zv_mag (-(q * zv false l')))
  have lnn : (mag (-(q * zv false l'))).length < 20000000 := by unfold mag at lnb ⊢; rwa [Int.natAbs_neg]
  clear hzq hfr hq0 lzb
  go_enter Tryd.func21, Tryd.ntmps21
  go_wp2_with fail
  have A0 := (((Blk.new w [.bool true, .slice A l.length c] 24).alloc (.cells #[.bool false, .slice A' l'.length c'] 24)).alloc (.cells #[.bool false, .slice none 0 0] 24)).alloc (.cells #[.bool false, .slice none 0 0] 24)
  have B0 := ((Blk.new (w.alloc (.cells #[.bool true, .slice A l.length c] 24)) [.bool false, .slice A' l'.length c'] 24).alloc (.cells #[.bool false, .slice none 0 0] 24)).alloc (.cells #[.bool false, .slice none 0 0] 24)
  have R0 := (Blk.new ((w.alloc (.cells #[.bool true, .slice A l.length c] 24)).alloc (.cells #[.bool false, .slice A' l'.length c'] 24)) [.bool false, .slice none 0 0] 24).alloc (.cells #[.bool false, .slice none 0 0] 24)
  have S0 := Blk.new (((w.alloc (.cells #[.bool true, .slice A l.length c] 24)).alloc (.cells #[.bool false, .slice A' l'.length c'] 24)).alloc (.cells #[.bool false, .slice none 0 0] 24)) [.bool false, .slice none 0 0] 24
  have rh := ((((h.alloc (.cells #[.bool true, .slice A l.length c] 24)).alloc (.cells #[.bool false, .slice A' l'.length c'] 24)).alloc (.cells #[.bool false, .slice none 0 0] 24)).alloc (.cells #[.bool false, .slice none 0 0] 24))
  have rh' := ((((h'.alloc (.cells #[.bool true, .slice A l.length c] 24)).alloc (.cells #[.bool false, .slice A' l'.length c'] 24)).alloc (.cells #[.bool false, .slice none 0 0] 24)).alloc (.cells #[.bool false, .slice none 0 0] 24))
  have hb0 := (((((Below.refl w.heap.size w).alloc (Nat.le_refl _) (.cells #[.bool true, .slice A l.length c] 24)).alloc (by simp) (.cells #[.bool false, .slice A' l'.length c'] 24)).alloc (by simp; omega) (.cells #[.bool false, .slice none 0 0] 24)).alloc (by simp; omega) (.cells #[.bool false, .slice none 0 0] 24))
  simp only [World.size_alloc] at B0 R0 S0
  generalize (((w.alloc (.cells #[.bool true, .slice A l.length c] 24)).alloc (.cells #[.bool false, .slice A' l'.length c'] 24)).alloc (.cells #[.bool false, .slice none 0 0] 24)).alloc (.cells #[.bool false, .slice none 0 0] 24) = W at *
  clear h h'
  have c0 := A0.c 0 rfl; have c1 := A0.c 1 rfl; have d0 := B0.c 0 rfl; have d1 := B0.c 1 rfl
  refine (ref05_Div _ _ A A' c c' l l' _ rh rh' (by omega) (by omega) hpos).mono ?_
  rintro e w1 ⟨N1, k1, N2, k2, rfl, hk1, hk2, hr1, hr2, hb1⟩
  have A1 := A0.below hb1; have B1 := B0.below hb1; have R1 := R0.below hb1; have S1 := S0.below hb1
  have rh1 := rh.below hb1; have rh1' := rh'.below hb1
  have e0 := A1.c 0 rfl; have e1 := A1.c 1 rfl; have e2 := B1.c 0 rfl; have e3 := B1.c 1 rfl
  have hb01 := below_go hb0 hb1
  have hsz1 := hb01.size
  have rs1 := R1.lt; have ss1 := S1.lt
  clear c0 c1 d0 d1
  go_wp2_with fail

  have hone := rd_one w1 _ rfl
  have hadd := ref02_Add _ _ N1 (some ⟨w1.heap.size, 0, none⟩) k1 1 (rep (val l / val l')) [1] _ (hr1.alloc (.cells #[.int .u32 1] 84)) hk1 hone (by decide) (by have := HQL.out; have := hll.out.1; omega) (by decide)
  rw [show val (rep (val l / val l')) + val [1] = flN (val l) (val l') true by rw [val_rep (Int.ediv_nonneg (val_nonneg rh1.wd) (by omega))]; rfl] at hadd
  refine hadd.mono ?_
  clear hadd
  rintro e w2 ⟨P1, p1, rfl, hp1, hrp, hb2⟩
  have hb2' : Below w1.heap.size w1 w2 := below_go ((Below.refl _ _).alloc (Nat.le_refl _) _) hb2
  have hrp2 : Rd (fun k => w1.heap.size ≤ k) w2 P1 (rep (flN (val l) (val l') true)) := hrp.mono (fun k _ hk => by simp at hk; omega)

  have A2 := (A1.alloc (.cells #[.int .u32 1] 84)).below hb2; have B2 := (B1.alloc (.cells #[.int .u32 1] 84)).below hb2; have R2 := (R1.alloc (.cells #[.int .u32 1] 84)).below hb2; have S2 := (S1.alloc (.cells #[.int .u32 1] 84)).below hb2
  have rh2 := (rh1.alloc (.cells #[.int .u32 1] 84)).below hb2; have rh2' := (rh1'.alloc (.cells #[.int .u32 1] 84)).below hb2
  have hb02 := below_go hb01 hb2'
  have f0 := A2.c 0 rfl; have f1 := A2.c 1 rfl; have f2 := B2.c 0 rfl; have f3 := B2.c 1 rfl
  clear e0 e1 e2 e3
  go_wp2_with fail

  refine (ref08_Norm _ true P1 p1 (rep (flN (val l) (val l') true)) _ hrp2 hp1 (by have := HNL.out; have := hll.out.1; omega)).mono ?_
  rintro e w3 ⟨Q1, k3, rfl, hk3, hq3, hb3⟩
  rw [HZQ.out] at hk3 hq3 ⊢
  have hb03 := below_go hb02 hb3
  have A3 := (A2.below hb3).alloc (.cells #[.bool (ng q), .slice Q1 (mag q).length k3] 24)
  have B3 := (B2.below hb3).alloc (.cells #[.bool (ng q), .slice Q1 (mag q).length k3] 24)
  have R3 := (R2.below hb3).alloc (.cells #[.bool (ng q), .slice Q1 (mag q).length k3] 24)
  have S3 := (S2.below hb3).alloc (.cells #[.bool (ng q), .slice Q1 (mag q).length k3] 24)
  have Q3 := Blk.new w3 [.bool (ng q), .slice Q1 (mag q).length k3] 24
  have rh3 := (rh2.below hb3).alloc (.cells #[.bool (ng q), .slice Q1 (mag q).length k3] 24)
  have rh3' := (rh2'.below hb3).alloc (.cells #[.bool (ng q), .slice Q1 (mag q).length k3] 24)
  have rq3 := (hq3.mono (ok' := fun k => w.heap.size + 4 ≤ k) (fun k _ hk => by have := S2.lt; omega)).alloc (.cells #[.bool (ng q), .slice Q1 (mag q).length k3] 24)
  have hb04 := hb03.alloc hb03.size (.cells #[.bool (ng q), .slice Q1 (mag q).length k3] 24)
  have sl := (S2.below hb3).lt
  clear f0 f1 f2 f3 A0 B0 R0 S0 A1 B1 R1 S1 A2 B2 R2 S2 rh rh' rh1 rh1' rh2 rh2' hb0 hb1 hb01 hb02 hb03 hb3 hq3
  go_wp2_with fail
  generalize hbq : w3.heap.size = bq at *
  generalize w3.alloc (.cells #[.bool (ng q), .slice Q1 (mag q).length k3] 24) = W3 at *
  have cA30 := A3.c 0 rfl; have cA31 := A3.c 1 rfl; have cB30 := B3.c 0 rfl; have cB31 := B3.c 1 rfl; have cQ30 := Q3.c 0 rfl; have cQ31 := Q3.c 1 rfl
  have m1 : ¬ (w.heap.size = w.heap.size + 1 + 1) := by omega
  have m2 : ¬ (w.heap.size + 1 + 1 = w.heap.size) := by omega
  have m3 : ¬ (w.heap.size = w.heap.size + 1 + 1 + 1) := by omega
  have m4 : ¬ (w.heap.size + 1 + 1 + 1 = w.heap.size) := by omega
  have m5 : ¬ (bq = w.heap.size + 1 + 1) := by omega
  have m6 : ¬ (bq = w.heap.size + 1 + 1 + 1) := by omega
  have m7 : ¬ (w.heap.size + 1 + 1 = bq) := by omega
  have m8 : ¬ (w.heap.size + 1 + 1 + 1 = bq) := by omega
  go_region_held3 (fun w' => w'.cell? ⟨w.heap.size, 0, none⟩ = some (.bool true) ∧ w'.cell? ⟨w.heap.size, 1, none⟩ = some (.slice A l.length c) ∧ w'.cell? ⟨w.heap.size + 1, 0, none⟩ = some (.bool false) ∧ w'.cell? ⟨w.heap.size + 1, 1, none⟩ = some (.slice A' l'.length c') ∧ w'.cell? ⟨bq, 0, none⟩ = some (.bool (ng q)) ∧ w'.cell? ⟨bq, 1, none⟩ = some (.slice Q1 (mag q).length k3)) (go_keep)
    (first
      | (go_at_call 18; have hm := ref08_Mul _ (ng q) Q1 k3 (mag q) _ false A' c' l' _ rq3.drew hk3 rh3'.drew hc' (by omega) (by have := hll.out.2; omega); rw [HZM.out] at hm; refine hm.mono ?_; clear hm; rintro e w4 ⟨U1, u1, rfl, hu1, hv1, hb4⟩; replace hb4 := undrew hb4; have A4 := A3.below hb4; have B4 := B3.below hb4; have R4 := R3.below hb4; have S4 := S3.below hb4; have Q4 := Q3.below hb4; have cA40 := A4.c 0 rfl; have cA41 := A4.c 1 rfl; have cB40 := B4.c 0 rfl; have cB41 := B4.c 1 rfl; have cQ40 := Q4.c 0 rfl; have cQ41 := Q4.c 1 rfl; have rh4 := rh3.below hb4; have rq4 := rq3.below hb4)
      | (go_at_call 16; have hm := ref08_Neg _ (ng (q * zv false l')) U1 u1 (mag (q * zv false l')) _ hv1 hu1 (by omega); rw [HZN.out] at hm; refine hm.mono ?_; clear hm; rintro e w5 ⟨U2, u2, rfl, hu2, hv2, hb5⟩; have A5 := A4.below hb5; have B5 := B4.below hb5; have R5 := R4.below hb5; have S5 := S4.below hb5; have Q5 := Q4.below hb5; have cA50 := A5.c 0 rfl; have cA51 := A5.c 1 rfl; have cB50 := B5.c 0 rfl; have cB51 := B5.c 1 rfl; have cQ50 := Q5.c 0 rfl; have cQ51 := Q5.c 1 rfl; have rh5 := rh4.below hb5; have rq5 := rq4.below hb5)
      | (go_at_call 14; have hm := ref08_Add _ true A c l _ (ng (-(q * zv false l'))) U2 u2 (mag (-(q * zv false l'))) _ rh5 hc hv2 hu2 (by have := hll.out.1; omega) (by omega); rw [HZN2.out] at hm; refine hm.mono ?_; clear hm; rintro e w6 ⟨U3, u3, rfl, hu3, hv3, hb6⟩; have A6 := A5.below hb6; have B6 := B5.below hb6; have R6 := R5.below hb6; have S6 := S5.below hb6; have Q6 := Q5.below hb6; have cA60 := A6.c 0 rfl; have cA61 := A6.c 1 rfl; have cB60 := B6.c 0 rfl; have cB61 := B6.c 1 rfl; have cQ60 := Q6.c 0 rfl; have cQ61 := Q6.c 1 rfl; have rq6 := rq5.below hb6; have ra := R6.c 0 rfl; have ra1 := R6.c 1 rfl; have sa := S6.c 0 rfl; have sa1 := S6.c 1 rfl; have rf := R6.f; have sf := S6.f; have rl := R6.lt; have sl6 := S6.lt))
  go_wp2
  refine bodyPost_ret (ret_blk2 rfl rfl rfl ((((R6.set 0 _).set 1 _).far (by simp) _).far (by simp) _) ((((S6.far (by simp) _).far (by simp) _).set 0 _).set 1 _) Tryd.underlying24 (by kernel_rfl) Tryd.underlying24 (by kernel_rfl)) rfl ?_
  have z4 := hb4.size; have z5 := hb5.size; have z6 := hb6.size; have z3 := S3.lt
  refine ⟨_, _, _, _, rfl, hk3, hu3, ((((rq6.setCell (by first | (simp; omega) | simp) _).setCell (by first | (simp; omega) | simp) _).setCell (by first | (simp; omega) | simp) _).setCell (by first | (simp; omega) | simp) _).mono (fun k _ hk => by omega), ((((hv3.setCell (by first | (simp; omega) | simp) _).setCell (by first | (simp; omega) | simp) _).setCell (by first | (simp; omega) | simp) _).setCell (by first | (simp; omega) | simp) _).mono (fun k _ hk => by omega), ?_⟩
  exact ((((below_go (below_go (below_go hb04 hb4) hb5) hb6).setCell (by first | (simp; omega) | simp) _).setCell (by first | (simp; omega) | simp) _).setCell (by first | (simp; omega) | simp) _).setCell (by first | (simp; omega) | simp) _

set_option maxHeartbeats 4000000 in
theorem ref08_Floor_none_true (ok : Nat → Prop) (A : Option Addr) (c : Nat) (l : List Int) (ok' : Nat → Prop) (A' : Option Addr) (c' : Nat) (l' : List Int) (w : World) (h : Rd ok w A l) (hc : l.length ≤ c) (h' : Rd ok' w A' l') (hc' : l'.length ≤ c') (hbig : l.length < 100000) (hbig' : l'.length < 100000) (hpos : 0 < val l') (hm : ¬ 0 < val l % val l') :
    Calls Tryd.prog 21 #[.agg #[.bool true, .slice A l.length c], .agg #[.bool false, .slice A' l'.length c']] w (RFlOut (fq (zv true l) (zv false l')) (fr (zv true l) (zv false l')) w) := by
  have hzq := flN_zv h.wd h'.wd hpos true false (m := false) (by rw [decide_eq_false hm]; rfl)
  have hq0 : 0 ≤ val l / val l' := Int.ediv_nonneg (val_nonneg h.wd) (by omega)
  have HQL : Asd ((rep (val l / val l')).length ≤ l.length) := ⟨rep_length_le (Int.lt_of_le_of_lt (Int.ediv_le_self _ (val_nonneg h.wd)) (val_lt h.wd))⟩
  have HNL : Asd ((rep (flN (val l) (val l') false)).length ≤ l.length + 1) := ⟨by
    refine rep_length_le ?_
    have h1 := Int.ediv_le_self (val l') (val_nonneg h.wd)
    have h2 := val_lt h.wd
    have h3 := pw_pos l.length
    rw [pw_succ]; simp only [flN, if_true, Bool.false_eq_true, if_false]; omega⟩
  have hlz := Nat.lt_of_le_of_lt (len_fq (a := zv true l) (b := zv false l') (m := l.length + l'.length) (by have := natAbs_zv (n := false) h'.wd; omega) (len_zv h.wd (by omega)) (len_zv h'.wd (by omega))) (show l.length + l'.length + 1 < 1000000 by omega)
  have lzb := len_zv (n := false) h'.wd (Nat.le_refl _)
  have lnb := Nat.lt_of_le_of_lt (len_mul (Nat.le_of_lt hlz) lzb) (show 1000000 + l'.length < 20000000 by omega)
  have hlen1 := rep_len_pos (z := val l % val l')
  rw [decide_eq_false hm] at hlen1
  have hfr : fr (zv true l) (zv false l') = zv true l + -(fq (zv true l) (zv false l') * zv false l') := by unfold fr; omega
  rw [hfr]
  generalize fq (zv true l) (zv false l') = q at *
  have HZQ : Asd (zv true (rep (val l / val l')) = q) := ⟨by first | exact hzq | (simp only [bne_self_eq_false] at hzq; exact hzq)⟩
  have hlz2 : (mag q).length < 1000000000 := by omega
  have hll : Asd (l.length < 100000 ∧ l'.length < 100000) := ⟨hbig, hbig'⟩
  have HZM := Asd.mk (zv_mag q)
  have HZN := Asd.mk (zv_mag (q * zv false l'))
  have HZN2 := Asd.mk (zv_mag (-(q * zv false l')))
  have lnn : (mag (-(q * zv false l'))).length < 20000000 := by unfold mag at lnb ⊢; rwa [Int.natAbs_neg]
  clear hzq hfr hq0 lzb
  go_enter Tryd.func21, Tryd.ntmps21
  go_wp2_with fail
  have A0 := (((Blk.new w [.bool true, .slice A l.length c] 24).alloc (.cells #[.bool false, .slice A' l'.length c'] 24)).alloc (.cells #[.bool false, .slice none 0 0] 24)).alloc (.cells #[.bool false, .slice none 0 0] 24)
  have B0 := ((Blk.new (w.alloc (.cells #[.bool true, .slice A l.length c] 24)) [.bool false, .slice A' l'.length c'] 24).alloc (.cells #[.bool false, .slice none 0 0] 24)).alloc (.cells #[.bool false, .slice none 0 0] 24)
  have R0 := (Blk.new ((w.alloc (.cells #[.bool true, .slice A l.length c] 24)).alloc (.cells #[.bool false, .slice A' l'.length c'] 24)) [.bool false, .slice none 0 0] 24).alloc (.cells #[.bool false, .slice none 0 0] 24)
  have S0 := Blk.new (((w.alloc (.cells #[.bool true, .slice A l.length c] 24)).alloc (.cells #[.bool false, .slice A' l'.length c'] 24)).alloc (.cells #[.bool false, .slice none 0 0] 24)) [.bool false, .slice none 0 0] 24
  have rh := ((((h.alloc (.cells #[.bool true, .slice A l.length c] 24)).alloc (.cells #[.bool false, .slice A' l'.length c'] 24)).alloc (.cells #[.bool false, .slice none 0 0] 24)).alloc (.cells #[.bool false, .slice none 0 0] 24))
  have rh' := ((((h'.alloc (.cells #[.bool true, .slice A l.length c] 24)).alloc (.cells #[.bool false, .slice A' l'.length c'] 24)).alloc (.cells #[.bool false, .slice none 0 0] 24)).alloc (.cells #[.bool false, .slice none 0 0] 24))
  have hb0 := (((((Below.refl w.heap.size w).alloc (Nat.le_refl _) (.cells #[.bool true, .slice A l.length c] 24)).alloc (by simp) (.cells #[.bool false, .slice A' l'.length c'] 24)).alloc (by simp; omega) (.cells #[.bool false, .slice none 0 0] 24)).alloc (by simp; omega) (.cells #[.bool false, .slice none 0 0] 24))
  simp only [World.size_alloc] at B0 R0 S0
  generalize (((w.alloc (.cells #[.bool true, .slice A l.length c] 24)).alloc (.cells #[.bool false, .slice A' l'.length c'] 24)).alloc (.cells #[.bool false, .slice none 0 0] 24)).alloc (.cells #[.bool false, .slice none 0 0] 24) = W at *
  clear h h'
  have c0 := A0.c 0 rfl; have c1 := A0.c 1 rfl; have d0 := B0.c 0 rfl; have d1 := B0.c 1 rfl
  refine (ref05_Div _ _ A A' c c' l l' _ rh rh' (by omega) (by omega) hpos).mono ?_
  rintro e w1 ⟨N1, k1, N2, k2, rfl, hk1, hk2, hr1, hr2, hb1⟩
  have A1 := A0.below hb1; have B1 := B0.below hb1; have R1 := R0.below hb1; have S1 := S0.below hb1
  have rh1 := rh.below hb1; have rh1' := rh'.below hb1
  have e0 := A1.c 0 rfl; have e1 := A1.c 1 rfl; have e2 := B1.c 0 rfl; have e3 := B1.c 1 rfl
  have hb01 := below_go hb0 hb1
  have hsz1 := hb01.size
  have rs1 := R1.lt; have ss1 := S1.lt
  clear c0 c1 d0 d1
  go_wp2_with fail

  have A2 := A1; have B2 := B1; have R2 := R1; have S2 := S1; have rh2 := rh1; have rh2' := rh1'
  have hb02 := hb01

  refine (ref08_Norm _ true N1 k1 (rep (val l / val l')) _ hr1 hk1 (by have := HNL.out; have := hll.out.1; have := HQL.out; omega)).mono ?_
  rintro e w3 ⟨Q1, k3, rfl, hk3, hq3, hb3⟩
  rw [HZQ.out] at hk3 hq3 ⊢
  have hb03 := below_go hb02 hb3
  have A3 := (A2.below hb3).alloc (.cells #[.bool (ng q), .slice Q1 (mag q).length k3] 24)
  have B3 := (B2.below hb3).alloc (.cells #[.bool (ng q), .slice Q1 (mag q).length k3] 24)
  have R3 := (R2.below hb3).alloc (.cells #[.bool (ng q), .slice Q1 (mag q).length k3] 24)
  have S3 := (S2.below hb3).alloc (.cells #[.bool (ng q), .slice Q1 (mag q).length k3] 24)
  have Q3 := Blk.new w3 [.bool (ng q), .slice Q1 (mag q).length k3] 24
  have rh3 := (rh2.below hb3).alloc (.cells #[.bool (ng q), .slice Q1 (mag q).length k3] 24)
  have rh3' := (rh2'.below hb3).alloc (.cells #[.bool (ng q), .slice Q1 (mag q).length k3] 24)
  have rq3 := (hq3.mono (ok' := fun k => w.heap.size + 4 ≤ k) (fun k _ hk => by have := S2.lt; omega)).alloc (.cells #[.bool (ng q), .slice Q1 (mag q).length k3] 24)
  have hb04 := hb03.alloc hb03.size (.cells #[.bool (ng q), .slice Q1 (mag q).length k3] 24)
  have sl := (S2.below hb3).lt
  clear e0 e1 e2 e3 A0 B0 R0 S0 A1 B1 R1 S1 A2 B2 R2 S2 rh rh' rh1 rh1' rh2 rh2' hb0 hb1 hb01 hb02 hb03 hb3 hq3
  go_wp2_with fail
  generalize hbq : w3.heap.size = bq at *
  generalize w3.alloc (.cells #[.bool (ng q), .slice Q1 (mag q).length k3] 24) = W3 at *
  have cA30 := A3.c 0 rfl; have cA31 := A3.c 1 rfl; have cB30 := B3.c 0 rfl; have cB31 := B3.c 1 rfl; have cQ30 := Q3.c 0 rfl; have cQ31 := Q3.c 1 rfl
  have m1 : ¬ (w.heap.size = w.heap.size + 1 + 1) := by omega
  have m2 : ¬ (w.heap.size + 1 + 1 = w.heap.size) := by omega
  have m3 : ¬ (w.heap.size = w.heap.size + 1 + 1 + 1) := by omega
  have m4 : ¬ (w.heap.size + 1 + 1 + 1 = w.heap.size) := by omega
  have m5 : ¬ (bq = w.heap.size + 1 + 1) := by omega
  have m6 : ¬ (bq = w.heap.size + 1 + 1 + 1) := by omega
  have m7 : ¬ (w.heap.size + 1 + 1 = bq) := by omega
  have m8 : ¬ (w.heap.size + 1 + 1 + 1 = bq) := by omega
  go_region_held3 (fun w' => w'.cell? ⟨w.heap.size, 0, none⟩ = some (.bool true) ∧ w'.cell? ⟨w.heap.size, 1, none⟩ = some (.slice A l.length c) ∧ w'.cell? ⟨w.heap.size + 1, 0, none⟩ = some (.bool false) ∧ w'.cell? ⟨w.heap.size + 1, 1, none⟩ = some (.slice A' l'.length c') ∧ w'.cell? ⟨bq, 0, none⟩ = some (.bool (ng q)) ∧ w'.cell? ⟨bq, 1, none⟩ = some (.slice Q1 (mag q).length k3)) (go_keep)
    (first
      | (go_at_call 18; have hm := ref08_Mul _ (ng q) Q1 k3 (mag q) _ false A' c' l' _ rq3.drew hk3 rh3'.drew hc' (by omega) (by have := hll.out.2; omega); rw [HZM.out] at hm; refine hm.mono ?_; clear hm; rintro e w4 ⟨U1, u1, rfl, hu1, hv1, hb4⟩; replace hb4 := undrew hb4; have A4 := A3.below hb4; have B4 := B3.below hb4; have R4 := R3.below hb4; have S4 := S3.below hb4; have Q4 := Q3.below hb4; have cA40 := A4.c 0 rfl; have cA41 := A4.c 1 rfl; have cB40 := B4.c 0 rfl; have cB41 := B4.c 1 rfl; have cQ40 := Q4.c 0 rfl; have cQ41 := Q4.c 1 rfl; have rh4 := rh3.below hb4; have rq4 := rq3.below hb4)
      | (go_at_call 16; have hm := ref08_Neg _ (ng (q * zv false l')) U1 u1 (mag (q * zv false l')) _ hv1 hu1 (by omega); rw [HZN.out] at hm; refine hm.mono ?_; clear hm; rintro e w5 ⟨U2, u2, rfl, hu2, hv2, hb5⟩; have A5 := A4.below hb5; have B5 := B4.below hb5; have R5 := R4.below hb5; have S5 := S4.below hb5; have Q5 := Q4.below hb5; have cA50 := A5.c 0 rfl; have cA51 := A5.c 1 rfl; have cB50 := B5.c 0 rfl; have cB51 := B5.c 1 rfl; have cQ50 := Q5.c 0 rfl; have cQ51 := Q5.c 1 rfl; have rh5 := rh4.below hb5; have rq5 := rq4.below hb5)
      | (go_at_call 14; have hm := ref08_Add _ true A c l _ (ng (-(q * zv false l'))) U2 u2 (mag (-(q * zv false l'))) _ rh5 hc hv2 hu2 (by have := hll.out.1; omega) (by omega); rw [HZN2.out] at hm; refine hm.mono ?_; clear hm; rintro e w6 ⟨U3, u3, rfl, hu3, hv3, hb6⟩; have A6 := A5.below hb6; have B6 := B5.below hb6; have R6 := R5.below hb6; have S6 := S5.below hb6; have Q6 := Q5.below hb6; have cA60 := A6.c 0 rfl; have cA61 := A6.c 1 rfl; have cB60 := B6.c 0 rfl; have cB61 := B6.c 1 rfl; have cQ60 := Q6.c 0 rfl; have cQ61 := Q6.c 1 rfl; have rq6 := rq5.below hb6; have ra := R6.c 0 rfl; have ra1 := R6.c 1 rfl; have sa := S6.c 0 rfl; have sa1 := S6.c 1 rfl; have rf := R6.f; have sf := S6.f; have rl := R6.lt; have sl6 := S6.lt))
  go_wp2
  refine bodyPost_ret (ret_blk2 rfl rfl rfl ((((R6.set 0 _).set 1 _).far (by simp) _).far (by simp) _) ((((S6.far (by simp) _).far (by simp) _).set 0 _).set 1 _) Tryd.underlying24 (by kernel_rfl) Tryd.underlying24 (by kernel_rfl)) rfl ?_
  have z4 := hb4.size; have z5 := hb5.size; have z6 := hb6.size; have z3 := S3.lt
  refine ⟨_, _, _, _, rfl, hk3, hu3, ((((rq6.setCell (by first | (simp; omega) | simp) _).setCell (by first | (simp; omega) | simp) _).setCell (by first | (simp; omega) | simp) _).setCell (by first | (simp; omega) | simp) _).mono (fun k _ hk => by omega), ((((hv3.setCell (by first | (simp; omega) | simp) _).setCell (by first | (simp; omega) | simp) _).setCell (by first | (simp; omega) | simp) _).setCell (by first | (simp; omega) | simp) _).mono (fun k _ hk => by omega), ?_⟩
  exact ((((below_go (below_go (below_go hb04 hb4) hb5) hb6).setCell (by first | (simp; omega) | simp) _).setCell (by first | (simp; omega) | simp) _).setCell (by first | (simp; omega) | simp) _).setCell (by first | (simp; omega) | simp) _

set_option maxHeartbeats 4000000 in
theorem ref08_Floor_more_false (ok : Nat → Prop) (A : Option Addr) (c : Nat) (l : List Int) (ok' : Nat → Prop) (A' : Option Addr) (c' : Nat) (l' : List Int) (w : World) (h : Rd ok w A l) (hc : l.length ≤ c) (h' : Rd ok' w A' l') (hc' : l'.length ≤ c') (hbig : l.length < 100000) (hbig' : l'.length < 100000) (hpos : 0 < val l') (hm : 0 < val l % val l') :
    Calls Tryd.prog 21 #[.agg #[.bool false, .slice A l.length c], .agg #[.bool true, .slice A' l'.length c']] w (RFlOut (fq (zv false l) (zv true l')) (fr (zv false l) (zv true l')) w) := by
  have hzq := flN_zv h.wd h'.wd hpos false true (m := true) (by rw [decide_eq_true hm]; rfl)
  have hq0 : 0 ≤ val l / val l' := Int.ediv_nonneg (val_nonneg h.wd) (by omega)
  have HQL : Asd ((rep (val l / val l')).length ≤ l.length) := ⟨rep_length_le (Int.lt_of_le_of_lt (Int.ediv_le_self _ (val_nonneg h.wd)) (val_lt h.wd))⟩
  have HNL : Asd ((rep (flN (val l) (val l') true)).length ≤ l.length + 1) := ⟨by
    refine rep_length_le ?_
    have h1 := Int.ediv_le_self (val l') (val_nonneg h.wd)
    have h2 := val_lt h.wd
    have h3 := pw_pos l.length
    rw [pw_succ]; simp only [flN, if_true, Bool.false_eq_true, if_false]; omega⟩
  have hlz := Nat.lt_of_le_of_lt (len_fq (a := zv false l) (b := zv true l') (m := l.length + l'.length) (by have := natAbs_zv (n := true) h'.wd; omega) (len_zv h.wd (by omega)) (len_zv h'.wd (by omega))) (show l.length + l'.length + 1 < 1000000 by omega)
  have lzb := len_zv (n := true) h'.wd (Nat.le_refl _)
  have lnb := Nat.lt_of_le_of_lt (len_mul (Nat.le_of_lt hlz) lzb) (show 1000000 + l'.length < 20000000 by omega)
  have hlen1 := rep_len_pos (z := val l % val l')
  rw [decide_eq_true hm] at hlen1
  have hfr : fr (zv false l) (zv true l') = zv false l + -(fq (zv false l) (zv true l') * zv true l') := by unfold fr; omega
  rw [hfr]
  generalize fq (zv false l) (zv true l') = q at *
  have HZQ : Asd (zv true (rep (flN (val l) (val l') true)) = q) := ⟨by first | exact hzq | (simp only [bne_self_eq_false] at hzq; exact hzq)⟩
  have hlz2 : (mag q).length < 1000000000 := by omega
  have hll : Asd (l.length < 100000 ∧ l'.length < 100000) := ⟨hbig, hbig'⟩
  have HZM := Asd.mk (zv_mag q)
  have HZN := Asd.mk (zv_mag (q * zv true l'))
  have HZN2 := Asd.mk (zv_mag (-(q * zv true l')))
  have lnn : (mag (-(q * zv true l'))).length < 20000000 := by unfold mag at lnb ⊢; rwa [Int.natAbs_neg]
  clear hzq hfr hq0 lzb
  go_enter Tryd.func21, Tryd.ntmps21
  go_wp2_with fail
  have A0 := (((Blk.new w [.bool false, .slice A l.length c] 24).alloc (.cells #[.bool true, .slice A' l'.length c'] 24)).alloc (.cells #[.bool false, .slice none 0 0] 24)).alloc (.cells #[.bool false, .slice none 0 0] 24)
  have B0 := ((Blk.new (w.alloc (.cells #[.bool false, .slice A l.length c] 24)) [.bool true, .slice A' l'.length c'] 24).alloc (.cells #[.bool false, .slice none 0 0] 24)).alloc (.cells #[.bool false, .slice none 0 0] 24)
  have R0 := (Blk.new ((w.alloc (.cells #[.bool false, .slice A l.length c] 24)).alloc (.cells #[.bool true, .slice A' l'.length c'] 24)) [.bool false, .slice none 0 0] 24).alloc (.cells #[.bool false, .slice none 0 0] 24)
  have S0 := Blk.new (((w.alloc (.cells #[.bool false, .slice A l.length c] 24)).alloc (.cells #[.bool true, .slice A' l'.length c'] 24)).alloc (.cells #[.bool false, .slice none 0 0] 24)) [.bool false, .slice none 0 0] 24
  have rh := ((((h.alloc (.cells #[.bool false, .slice A l.length c] 24)).alloc (.cells #[.bool true, .slice A' l'.length c'] 24)).alloc (.cells #[.bool false, .slice none 0 0] 24)).alloc (.cells #[.bool false, .slice none 0 0] 24))
  have rh' := ((((h'.alloc (.cells #[.bool false, .slice A l.length c] 24)).alloc (.cells #[.bool true, .slice A' l'.length c'] 24)).alloc (.cells #[.bool false, .slice none 0 0] 24)).alloc (.cells #[.bool false, .slice none 0 0] 24))
  have hb0 := (((((Below.refl w.heap.size w).alloc (Nat.le_refl _) (.cells #[.bool false, .slice A l.length c] 24)).alloc (by simp) (.cells #[.bool true, .slice A' l'.length c'] 24)).alloc (by simp; omega) (.cells #[.bool false, .slice none 0 0] 24)).alloc (by simp; omega) (.cells #[.bool false, .slice none 0 0] 24))
  simp only [World.size_alloc] at B0 R0 S0
  generalize (((w.alloc (.cells #[.bool false, .slice A l.length c] 24)).alloc (.cells #[.bool true, .slice A' l'.length c'] 24)).alloc (.cells #[.bool false, .slice none 0 0] 24)).alloc (.cells #[.bool false, .slice none 0 0] 24) = W at *
  clear h h'
  have c0 := A0.c 0 rfl; have c1 := A0.c 1 rfl; have d0 := B0.c 0 rfl; have d1 := B0.c 1 rfl
  refine (ref05_Div _ _ A A' c c' l l' _ rh rh' (by omega) (by omega) hpos).mono ?_
  rintro e w1 ⟨N1, k1, N2, k2, rfl, hk1, hk2, hr1, hr2, hb1⟩
  have A1 := A0.below hb1; have B1 := B0.below hb1; have R1 := R0.below hb1; have S1 := S0.below hb1
  have rh1 := rh.below hb1; have rh1' := rh'.below hb1
  have e0 := A1.c 0 rfl; have e1 := A1.c 1 rfl; have e2 := B1.c 0 rfl; have e3 := B1.c 1 rfl
  have hb01 := below_go hb0 hb1
  have hsz1 := hb01.size
  have rs1 := R1.lt; have ss1 := S1.lt
  clear c0 c1 d0 d1
  go_wp2_with fail

  have hone := rd_one w1 _ rfl
  have hadd := ref02_Add _ _ N1 (some ⟨w1.heap.size, 0, none⟩) k1 1 (rep (val l / val l')) [1] _ (hr1.alloc (.cells #[.int .u32 1] 84)) hk1 hone (by decide) (by have := HQL.out; have := hll.out.1; omega) (by decide)
  rw [show val (rep (val l / val l')) + val [1] = flN (val l) (val l') true by rw [val_rep (Int.ediv_nonneg (val_nonneg rh1.wd) (by omega))]; rfl] at hadd
  refine hadd.mono ?_
  clear hadd
  rintro e w2 ⟨P1, p1, rfl, hp1, hrp, hb2⟩
  have hb2' : Below w1.heap.size w1 w2 := below_go ((Below.refl _ _).alloc (Nat.le_refl _) _) hb2
  have hrp2 : Rd (fun k => w1.heap.size ≤ k) w2 P1 (rep (flN (val l) (val l') true)) := hrp.mono (fun k _ hk => by simp at hk; omega)

  have A2 := (A1.alloc (.cells #[.int .u32 1] 84)).below hb2; have B2 := (B1.alloc (.cells #[.int .u32 1] 84)).below hb2; have R2 := (R1.alloc (.cells #[.int .u32 1] 84)).below hb2; have S2 := (S1.alloc (.cells #[.int .u32 1] 84)).below hb2
  have rh2 := (rh1.alloc (.cells #[.int .u32 1] 84)).below hb2; have rh2' := (rh1'.alloc (.cells #[.int .u32 1] 84)).below hb2
  have hb02 := below_go hb01 hb2'
  have f0 := A2.c 0 rfl; have f1 := A2.c 1 rfl; have f2 := B2.c 0 rfl; have f3 := B2.c 1 rfl
  clear e0 e1 e2 e3
  go_wp2_with fail

  refine (ref08_Norm _ true P1 p1 (rep (flN (val l) (val l') true)) _ hrp2 hp1 (by have := HNL.out; have := hll.out.1; omega)).mono ?_
  rintro e w3 ⟨Q1, k3, rfl, hk3, hq3, hb3⟩
  rw [HZQ.out] at hk3 hq3 ⊢
  have hb03 := below_go hb02 hb3
  have A3 := (A2.below hb3).alloc (.cells #[.bool (ng q), .slice Q1 (mag q).length k3] 24)
  have B3 := (B2.below hb3).alloc (.cells #[.bool (ng q), .slice Q1 (mag q).length k3] 24)
  have R3 := (R2.below hb3).alloc (.cells #[.bool (ng q), .slice Q1 (mag q).length k3] 24)
  have S3 := (S2.below hb3).alloc (.cells #[.bool (ng q), .slice Q1 (mag q).length k3] 24)
  have Q3 := Blk.new w3 [.bool (ng q), .slice Q1 (mag q).length k3] 24
  have rh3 := (rh2.below hb3).alloc (.cells #[.bool (ng q), .slice Q1 (mag q).length k3] 24)
  have rh3' := (rh2'.below hb3).alloc (.cells #[.bool (ng q), .slice Q1 (mag q).length k3] 24)
  have rq3 := (hq3.mono (ok' := fun k => w.heap.size + 4 ≤ k) (fun k _ hk => by have := S2.lt; omega)).alloc (.cells #[.bool (ng q), .slice Q1 (mag q).length k3] 24)
  have hb04 := hb03.alloc hb03.size (.cells #[.bool (ng q), .slice Q1 (mag q).length k3] 24)
  have sl := (S2.below hb3).lt
  clear f0 f1 f2 f3 A0 B0 R0 S0 A1 B1 R1 S1 A2 B2 R2 S2 rh rh' rh1 rh1' rh2 rh2' hb0 hb1 hb01 hb02 hb03 hb3 hq3
  go_wp2_with fail
  generalize hbq : w3.heap.size = bq at *
  generalize w3.alloc (.cells #[.bool (ng q), .slice Q1 (mag q).length k3] 24) = W3 at *
  have cA30 := A3.c 0 rfl; have cA31 := A3.c 1 rfl; have cB30 := B3.c 0 rfl; have cB31 := B3.c 1 rfl; have cQ30 := Q3.c 0 rfl; have cQ31 := Q3.c 1 rfl
  have m1 : ¬ (w.heap.size = w.heap.size + 1 + 1) := by omega
  have m2 : ¬ (w.heap.size + 1 + 1 = w.heap.size) := by omega
  have m3 : ¬ (w.heap.size = w.heap.size + 1 + 1 + 1) := by omega
  have m4 : ¬ (w.heap.size + 1 + 1 + 1 = w.heap.size) := by omega
  have m5 : ¬ (bq = w.heap.size + 1 + 1) := by omega
  have m6 : ¬ (bq = w.heap.size + 1 + 1 + 1) := by omega
  have m7 : ¬ (w.heap.size + 1 + 1 = bq) := by omega
  have m8 : ¬ (w.heap.size + 1 + 1 + 1 = bq) := by omega
  go_region_held3 (fun w' => w'.cell? ⟨w.heap.size, 0, none⟩ = some (.bool false) ∧ w'.cell? ⟨w.heap.size, 1, none⟩ = some (.slice A l.length c) ∧ w'.cell? ⟨w.heap.size + 1, 0, none⟩ = some (.bool true) ∧ w'.cell? ⟨w.heap.size + 1, 1, none⟩ = some (.slice A' l'.length c') ∧ w'.cell? ⟨bq, 0, none⟩ = some (.bool (ng q)) ∧ w'.cell? ⟨bq, 1, none⟩ = some (.slice Q1 (mag q).length k3)) (go_keep)
    (first
      | (go_at_call 18; have hm := ref08_Mul _ (ng q) Q1 k3 (mag q) _ true A' c' l' _ rq3.drew hk3 rh3'.drew hc' (by omega) (by have := hll.out.2; omega); rw [HZM.out] at hm; refine hm.mono ?_; clear hm; rintro e w4 ⟨U1, u1, rfl, hu1, hv1, hb4⟩; replace hb4 := undrew hb4; have A4 := A3.below hb4; have B4 := B3.below hb4; have R4 := R3.below hb4; have S4 := S3.below hb4; have Q4 := Q3.below hb4; have cA40 := A4.c 0 rfl; have cA41 := A4.c 1 rfl; have cB40 := B4.c 0 rfl; have cB41 := B4.c 1 rfl; have cQ40 := Q4.c 0 rfl; have cQ41 := Q4.c 1 rfl; have rh4 := rh3.below hb4; have rq4 := rq3.below hb4)
      | (go_at_call 16; have hm := ref08_Neg _ (ng (q * zv true l')) U1 u1 (mag (q * zv true l')) _ hv1 hu1 (by omega); rw [HZN.out] at hm; refine hm.mono ?_; clear hm; rintro e w5 ⟨U2, u2, rfl, hu2, hv2, hb5⟩; have A5 := A4.below hb5; have B5 := B4.below hb5; have R5 := R4.below hb5; have S5 := S4.below hb5; have Q5 := Q4.below hb5; have cA50 := A5.c 0 rfl; have cA51 := A5.c 1 rfl; have cB50 := B5.c 0 rfl; have cB51 := B5.c 1 rfl; have cQ50 := Q5.c 0 rfl; have cQ51 := Q5.c 1 rfl; have rh5 := rh4.below hb5; have rq5 := rq4.below hb5)
      | (go_at_call 14; have hm := ref08_Add _ false A c l _ (ng (-(q * zv true l'))) U2 u2 (mag (-(q * zv true l'))) _ rh5 hc hv2 hu2 (by have := hll.out.1; omega) (by omega); rw [HZN2.out] at hm; refine hm.mono ?_; clear hm; rintro e w6 ⟨U3, u3, rfl, hu3, hv3, hb6⟩; have A6 := A5.below hb6; have B6 := B5.below hb6; have R6 := R5.below hb6; have S6 := S5.below hb6; have Q6 := Q5.below hb6; have cA60 := A6.c 0 rfl; have cA61 := A6.c 1 rfl; have cB60 := B6.c 0 rfl; have cB61 := B6.c 1 rfl; have cQ60 := Q6.c 0 rfl; have cQ61 := Q6.c 1 rfl; have rq6 := rq5.below hb6; have ra := R6.c 0 rfl; have ra1 := R6.c 1 rfl; have sa := S6.c 0 rfl; have sa1 := S6.c 1 rfl; have rf := R6.f; have sf := S6.f; have rl := R6.lt; have sl6 := S6.lt))
  go_wp2
  refine bodyPost_ret (ret_blk2 rfl rfl rfl ((((R6.set 0 _).set 1 _).far (by simp) _).far (by simp) _) ((((S6.far (by simp) _).far (by simp) _).set 0 _).set 1 _) Tryd.underlying24 (by kernel_rfl) Tryd.underlying24 (by kernel_rfl)) rfl ?_
  have z4 := hb4.size; have z5 := hb5.size; have z6 := hb6.size; have z3 := S3.lt
  refine ⟨_, _, _, _, rfl, hk3, hu3, ((((rq6.setCell (by first | (simp; omega) | simp) _).setCell (by first | (simp; omega) | simp) _).setCell (by first | (simp; omega) | simp) _).setCell (by first | (simp; omega) | simp) _).mono (fun k _ hk => by omega), ((((hv3.setCell (by first | (simp; omega) | simp) _).setCell (by first | (simp; omega) | simp) _).setCell (by first | (simp; omega) | simp) _).setCell (by first | (simp; omega) | simp) _).mono (fun k _ hk => by omega), ?_⟩
  exact ((((below_go (below_go (below_go hb04 hb4) hb5) hb6).setCell (by first | (simp; omega) | simp) _).setCell (by first | (simp; omega) | simp) _).setCell (by first | (simp; omega) | simp) _).setCell (by first | (simp; omega) | simp) _

set_option maxHeartbeats 4000000 in
theorem ref08_Floor_none_false (ok : Nat → Prop) (A : Option Addr) (c : Nat) (l : List Int) (ok' : Nat → Prop) (A' : Option Addr) (c' : Nat) (l' : List Int) (w : World) (h : Rd ok w A l) (hc : l.length ≤ c) (h' : Rd ok' w A' l') (hc' : l'.length ≤ c') (hbig : l.length < 100000) (hbig' : l'.length < 100000) (hpos : 0 < val l') (hm : ¬ 0 < val l % val l') :
    Calls Tryd.prog 21 #[.agg #[.bool false, .slice A l.length c], .agg #[.bool true, .slice A' l'.length c']] w (RFlOut (fq (zv false l) (zv true l')) (fr (zv false l) (zv true l')) w) := by
  have hzq := flN_zv h.wd h'.wd hpos false true (m := false) (by rw [decide_eq_false hm]; rfl)
  have hq0 : 0 ≤ val l / val l' := Int.ediv_nonneg (val_nonneg h.wd) (by omega)
  have HQL : Asd ((rep (val l / val l')).length ≤ l.length) := ⟨rep_length_le (Int.lt_of_le_of_lt (Int.ediv_le_self _ (val_nonneg h.wd)) (val_lt h.wd))⟩
  have HNL : Asd ((rep (flN (val l) (val l') false)).length ≤ l.length + 1) := ⟨by
    refine rep_length_le ?_
    have h1 := Int.ediv_le_self (val l') (val_nonneg h.wd)
    have h2 := val_lt h.wd
    have h3 := pw_pos l.length
    rw [pw_succ]; simp only [flN, if_true, Bool.false_eq_true, if_false]; omega⟩
  have hlz := Nat.lt_of_le_of_lt (len_fq (a := zv false l) (b := zv true l') (m := l.length + l'.length) (by have := natAbs_zv (n := true) h'.wd; omega) (len_zv h.wd (by omega)) (len_zv h'.wd (by omega))) (show l.length + l'.length + 1 < 1000000 by omega)
  have lzb := len_zv (n := true) h'.wd (Nat.le_refl _)
  have lnb := Nat.lt_of_le_of_lt (len_mul (Nat.le_of_lt hlz) lzb) (show 1000000 + l'.length < 20000000 by omega)
  have hlen1 := rep_len_pos (z := val l % val l')
  rw [decide_eq_false hm] at hlen1
  have hfr : fr (zv false l) (zv true l') = zv false l + -(fq (zv false l) (zv true l') * zv true l') := by unfold fr; omega
  rw [hfr]
  generalize fq (zv false l) (zv true l') = q at *
  have HZQ : Asd (zv true (rep (val l / val l')) = q) := ⟨by first | exact hzq | (simp only [bne_self_eq_false] at hzq; exact hzq)⟩
  have hlz2 : (mag q).length < 1000000000 := by omega
  have hll : Asd (l.length < 100000 ∧ l'.length < 100000) := ⟨hbig, hbig'⟩
  have HZM := Asd.mk (zv_mag q)
  have HZN := Asd.mk (zv_mag (q * zv true l'))
  have HZN2 := Asd.mk (zv_mag (-(q * zv true l')))
  have lnn : (mag (-(q * zv true l'))).length < 20000000 := by unfold mag at lnb ⊢; rwa [Int.natAbs_neg]
  clear hzq hfr hq0 lzb
  go_enter Tryd.func21, Tryd.ntmps21
  go_wp2_with fail
  have A0 := (((Blk.new w [.bool false, .slice A l.length c] 24).alloc (.cells #[.bool true, .slice A' l'.length c'] 24)).alloc (.cells #[.bool false, .slice none 0 0] 24)).alloc (.cells #[.bool false, .slice none 0 0] 24)
  have B0 := ((Blk.new (w.alloc (.cells #[.bool false, .slice A l.length c] 24)) [.bool true, .slice A' l'.length c'] 24).alloc (.cells #[.bool false, .slice none 0 0] 24)).alloc (.cells #[.bool false, .slice none 0 0] 24)
  have R0 := (Blk.new ((w.alloc (.cells #[.bool false, .slice A l.length c] 24)).alloc (.cells #[.bool true, .slice A' l'.length c'] 24)) [.bool false, .slice none 0 0] 24).alloc (.cells #[.bool false, .slice none 0 0] 24)
  have S0 := Blk.new (((w.alloc (.cells #[.bool false, .slice A l.length c] 24)).alloc (.cells #[.bool true, .slice A' l'.length c'] 24)).alloc (.cells #[.bool false, .slice none 0 0] 24)) [.bool false, .slice none 0 0] 24
  have rh := ((((h.alloc (.cells #[.bool false, .slice A l.length c] 24)).alloc (.cells #[.bool true, .slice A' l'.length c'] 24)).alloc (.cells #[.bool false, .slice none 0 0] 24)).alloc (.cells #[.bool false, .slice none 0 0] 24))
  have rh' := ((((h'.alloc (.cells #[.bool false, .slice A l.length c] 24)).alloc (.cells #[.bool true, .slice A' l'.length c'] 24)).alloc (.cells #[.bool false, .slice none 0 0] 24)).alloc (.cells #[.bool false, .slice none 0 0] 24))
  have hb0 := (((((Below.refl w.heap.size w).alloc (Nat.le_refl _) (.cells #[.bool false, .slice A l.length c] 24)).alloc (by simp) (.cells #[.bool true, .slice A' l'.length c'] 24)).alloc (by simp; omega) (.cells #[.bool false, .slice none 0 0] 24)).alloc (by simp; omega) (.cells #[.bool false, .slice none 0 0] 24))
  simp only [World.size_alloc] at B0 R0 S0
  generalize (((w.alloc (.cells #[.bool false, .slice A l.length c] 24)).alloc (.cells #[.bool true, .slice A' l'.length c'] 24)).alloc (.cells #[.bool false, .slice none 0 0] 24)).alloc (.cells #[.bool false, .slice none 0 0] 24) = W at *
  clear h h'
  have c0 := A0.c 0 rfl; have c1 := A0.c 1 rfl; have d0 := B0.c 0 rfl; have d1 := B0.c 1 rfl
  refine (ref05_Div _ _ A A' c c' l l' _ rh rh' (by omega) (by omega) hpos).mono ?_
  rintro e w1 ⟨N1, k1, N2, k2, rfl, hk1, hk2, hr1, hr2, hb1⟩
  have A1 := A0.below hb1; have B1 := B0.below hb1; have R1 := R0.below hb1; have S1 := S0.below hb1
  have rh1 := rh.below hb1; have rh1' := rh'.below hb1
  have e0 := A1.c 0 rfl; have e1 := A1.c 1 rfl; have e2 := B1.c 0 rfl; have e3 := B1.c 1 rfl
  have hb01 := below_go hb0 hb1
  have hsz1 := hb01.size
  have rs1 := R1.lt; have ss1 := S1.lt
  clear c0 c1 d0 d1
  go_wp2_with fail

  have A2 := A1; have B2 := B1; have R2 := R1; have S2 := S1; have rh2 := rh1; have rh2' := rh1'
  have hb02 := hb01

  refine (ref08_Norm _ true N1 k1 (rep (val l / val l')) _ hr1 hk1 (by have := HNL.out; have := hll.out.1; have := HQL.out; omega)).mono ?_
  rintro e w3 ⟨Q1, k3, rfl, hk3, hq3, hb3⟩
  rw [HZQ.out] at hk3 hq3 ⊢
  have hb03 := below_go hb02 hb3
  have A3 := (A2.below hb3).alloc (.cells #[.bool (ng q), .slice Q1 (mag q).length k3] 24)
  have B3 := (B2.below hb3).alloc (.cells #[.bool (ng q), .slice Q1 (mag q).length k3] 24)
  have R3 := (R2.below hb3).alloc (.cells #[.bool (ng q), .slice Q1 (mag q).length k3] 24)
  have S3 := (S2.below hb3).alloc (.cells #[.bool (ng q), .slice Q1 (mag q).length k3] 24)
  have Q3 := Blk.new w3 [.bool (ng q), .slice Q1 (mag q).length k3] 24
  have rh3 := (rh2.below hb3).alloc (.cells #[.bool (ng q), .slice Q1 (mag q).length k3] 24)
  have rh3' := (rh2'.below hb3).alloc (.cells #[.bool (ng q), .slice Q1 (mag q).length k3] 24)
  have rq3 := (hq3.mono (ok' := fun k => w.heap.size + 4 ≤ k) (fun k _ hk => by have := S2.lt; omega)).alloc (.cells #[.bool (ng q), .slice Q1 (mag q).length k3] 24)
  have hb04 := hb03.alloc hb03.size (.cells #[.bool (ng q), .slice Q1 (mag q).length k3] 24)
  have sl := (S2.below hb3).lt
  clear e0 e1 e2 e3 A0 B0 R0 S0 A1 B1 R1 S1 A2 B2 R2 S2 rh rh' rh1 rh1' rh2 rh2' hb0 hb1 hb01 hb02 hb03 hb3 hq3
  go_wp2_with fail
  generalize hbq : w3.heap.size = bq at *
  generalize w3.alloc (.cells #[.bool (ng q), .slice Q1 (mag q).length k3] 24) = W3 at *
  have cA30 := A3.c 0 rfl; have cA31 := A3.c 1 rfl; have cB30 := B3.c 0 rfl; have cB31 := B3.c 1 rfl; have cQ30 := Q3.c 0 rfl; have cQ31 := Q3.c 1 rfl
  have m1 : ¬ (w.heap.size = w.heap.size + 1 + 1) := by omega
  have m2 : ¬ (w.heap.size + 1 + 1 = w.heap.size) := by omega
  have m3 : ¬ (w.heap.size = w.heap.size + 1 + 1 + 1) := by omega
  have m4 : ¬ (w.heap.size + 1 + 1 + 1 = w.heap.size) := by omega
  have m5 : ¬ (bq = w.heap.size + 1 + 1) := by omega
  have m6 : ¬ (bq = w.heap.size + 1 + 1 + 1) := by omega
  have m7 : ¬ (w.heap.size + 1 + 1 = bq) := by omega
  have m8 : ¬ (w.heap.size + 1 + 1 + 1 = bq) := by omega
  go_region_held3 (fun w' => w'.cell? ⟨w.heap.size, 0, none⟩ = some (.bool false) ∧ w'.cell? ⟨w.heap.size, 1, none⟩ = some (.slice A l.length c) ∧ w'.cell? ⟨w.heap.size + 1, 0, none⟩ = some (.bool true) ∧ w'.cell? ⟨w.heap.size + 1, 1, none⟩ = some (.slice A' l'.length c') ∧ w'.cell? ⟨bq, 0, none⟩ = some (.bool (ng q)) ∧ w'.cell? ⟨bq, 1, none⟩ = some (.slice Q1 (mag q).length k3)) (go_keep)
    (first
      | (go_at_call 18; have hm := ref08_Mul _ (ng q) Q1 k3 (mag q) _ true A' c' l' _ rq3.drew hk3 rh3'.drew hc' (by omega) (by have := hll.out.2; omega); rw [HZM.out] at hm; refine hm.mono ?_; clear hm; rintro e w4 ⟨U1, u1, rfl, hu1, hv1, hb4⟩; replace hb4 := undrew hb4; have A4 := A3.below hb4; have B4 := B3.below hb4; have R4 := R3.below hb4; have S4 := S3.below hb4; have Q4 := Q3.below hb4; have cA40 := A4.c 0 rfl; have cA41 := A4.c 1 rfl; have cB40 := B4.c 0 rfl; have cB41 := B4.c 1 rfl; have cQ40 := Q4.c 0 rfl; have cQ41 := Q4.c 1 rfl; have rh4 := rh3.below hb4; have rq4 := rq3.below hb4)
      | (go_at_call 16; have hm := ref08_Neg _ (ng (q * zv true l')) U1 u1 (mag (q * zv true l')) _ hv1 hu1 (by omega); rw [HZN.out] at hm; refine hm.mono ?_; clear hm; rintro e w5 ⟨U2, u2, rfl, hu2, hv2, hb5⟩; have A5 := A4.below hb5; have B5 := B4.below hb5; have R5 := R4.below hb5; have S5 := S4.below hb5; have Q5 := Q4.below hb5; have cA50 := A5.c 0 rfl; have cA51 := A5.c 1 rfl; have cB50 := B5.c 0 rfl; have cB51 := B5.c 1 rfl; have cQ50 := Q5.c 0 rfl; have cQ51 := Q5.c 1 rfl; have rh5 := rh4.below hb5; have rq5 := rq4.below hb5)
      | (go_at_call 14; have hm := ref08_Add _ false A c l _ (ng (-(q * zv true l'))) U2 u2 (mag (-(q * zv true l'))) _ rh5 hc hv2 hu2 (by have := hll.out.1; omega) (by omega); rw [HZN2.out] at hm; refine hm.mono ?_; clear hm; rintro e w6 ⟨U3, u3, rfl, hu3, hv3, hb6⟩; have A6 := A5.below hb6; have B6 := B5.below hb6; have R6 := R5.below hb6; have S6 := S5.below hb6; have Q6 := Q5.below hb6; have cA60 := A6.c 0 rfl; have cA61 := A6.c 1 rfl; have cB60 := B6.c 0 rfl; have cB61 := B6.c 1 rfl; have cQ60 := Q6.c 0 rfl; have cQ61 := Q6.c 1 rfl; have rq6 := rq5.below hb6; have ra := R6.c 0 rfl; have ra1 := R6.c 1 rfl; have sa := S6.c 0 rfl; have sa1 := S6.c 1 rfl; have rf := R6.f; have sf := S6.f; have rl := R6.lt; have sl6 := S6.lt))
  go_wp2
  refine bodyPost_ret (ret_blk2 rfl rfl rfl ((((R6.set 0 _).set 1 _).far (by simp) _).far (by simp) _) ((((S6.far (by simp) _).far (by simp) _).set 0 _).set 1 _) Tryd.underlying24 (by kernel_rfl) Tryd.underlying24 (by kernel_rfl)) rfl ?_
  have z4 := hb4.size; have z5 := hb5.size; have z6 := hb6.size; have z3 := S3.lt
  refine ⟨_, _, _, _, rfl, hk3, hu3, ((((rq6.setCell (by first | (simp; omega) | simp) _).setCell (by first | (simp; omega) | simp) _).setCell (by first | (simp; omega) | simp) _).setCell (by first | (simp; omega) | simp) _).mono (fun k _ hk => by omega), ((((hv3.setCell (by first | (simp; omega) | simp) _).setCell (by first | (simp; omega) | simp) _).setCell (by first | (simp; omega) | simp) _).setCell (by first | (simp; omega) | simp) _).mono (fun k _ hk => by omega), ?_⟩
  exact ((((below_go (below_go (below_go hb04 hb4) hb5) hb6).setCell (by first | (simp; omega) | simp) _).setCell (by first | (simp; omega) | simp) _).setCell (by first | (simp; omega) | simp) _).setCell (by first | (simp; omega) | simp) _

theorem ref08_Floor (ok : Nat → Prop) (n : Bool) (A : Option Addr) (c : Nat) (l : List Int) (ok' : Nat → Prop) (n' : Bool) (A' : Option Addr) (c' : Nat) (l' : List Int) (w : World) (h : Rd ok w A l) (hc : l.length ≤ c) (h' : Rd ok' w A' l') (hc' : l'.length ≤ c') (hbig : l.length < 100000) (hbig' : l'.length < 100000) (hpos : 0 < val l') :
    Calls Tryd.prog 21 #[.agg #[.bool n, .slice A l.length c], .agg #[.bool n', .slice A' l'.length c']] w (RFlOut (fq (zv n l) (zv n' l')) (fr (zv n l) (zv n' l')) w) := by
  by_cases hm : 0 < val l % val l'
  · rcases n with _ | _ <;> rcases n' with _ | _
    · exact ref08_Floor_same ok _ A c l ok' A' c' l' w h hc h' hc' hbig hbig' hpos
    · exact ref08_Floor_more_false ok A c l ok' A' c' l' w h hc h' hc' hbig hbig' hpos hm
    · exact ref08_Floor_more_true ok A c l ok' A' c' l' w h hc h' hc' hbig hbig' hpos hm
    · exact ref08_Floor_same ok _ A c l ok' A' c' l' w h hc h' hc' hbig hbig' hpos
  · rcases n with _ | _ <;> rcases n' with _ | _
    · exact ref08_Floor_same ok _ A c l ok' A' c' l' w h hc h' hc' hbig hbig' hpos
    · exact ref08_Floor_none_false ok A c l ok' A' c' l' w h hc h' hc' hbig hbig' hpos hm
    · exact ref08_Floor_none_true ok A c l ok' A' c' l' w h hc h' hc' hbig hbig' hpos hm
    · exact ref08_Floor_same ok _ A c l ok' A' c' l' w h hc h' hc' hbig hbig' hpos
end Go.Proofs.YthjpkichpkomcaaDoor
