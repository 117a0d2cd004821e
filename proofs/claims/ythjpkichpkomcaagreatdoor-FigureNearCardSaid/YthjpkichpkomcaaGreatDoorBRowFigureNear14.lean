/- Whole4 -/
import Derived.Test.YthjpkichpkomcaaGreatDoorBRowFigureNear13
import Derived.Outline
import Derived.Deep.RegionHeld3
import Derived.Deep.RegionWith
import Derived.Deep.DrawnRows
import Derived.Deep.DeepMust
/- Layer 8: floors of whole numbers (whole). -/
namespace Go.Proofs.YthjpkichpkomcaaGreatDoor
open Go.RowKit Go.Proofs.YthjpkichpkomcaaGreatDoor.Big
set_option linter.unusedVariables false
set_option maxRecDepth 100000
attribute [local go_sem ↓] Go.wp_at_zero Go.wp_at_succ

/-- The floor of a quotient and what is left. -/
def fq (a b : Int) : Int := if 0 < b then a / b else (-a) / (-b)
def fr (a b : Int) : Int := a - fq a b * b

theorem ediv_neg' (x y : Int) (h0 : 0 ≤ x) (hy : 0 < y) : (-x) / y = if x % y = 0 then -(x / y) else -(x / y) - 1 := by
  have h1 := Int.mul_ediv_add_emod x y
  have h2 := Int.emod_nonneg x (show y ≠ 0 by omega)
  have h3 := Int.emod_lt_of_pos x hy
  split
  · have : -x = (-(x / y)) * y := by grind
    rw [this, Int.mul_ediv_cancel _ (by omega)]
  · have : -x = (y - x % y) + (-(x / y) - 1) * y := by grind
    rw [this, Int.add_mul_ediv_right _ _ (by omega), Int.ediv_eq_zero_of_lt (by omega) (by omega)]; omega

theorem sgI_neg {z : Int} (h : z < 0) : sgI z = -1 := by unfold sgI; rw [if_pos h]
theorem sgI_pos {z : Int} (h : 0 < z) : sgI z = 1 := by unfold sgI; rw [if_neg (by omega), if_pos h]
theorem sgI_zero : sgI 0 = 0 := rfl
theorem floor_core (x y Q M : Int) (hy : 0 < y) (h1 : y * Q + M = x) (h2 : 0 ≤ M) (h3 : M < y) (h4 : (-x) / y = if M = 0 then -Q else -Q - 1) (hQ : x / y = Q) (n n' : Bool) (za zb q0 r0 : Int)
    (hza : za = if n = true then -x else x) (hzb : zb = if n' = true then -y else y) (hq0 : q0 = if (n != n') = true then -Q else Q) (hr0 : r0 = za - q0 * zb) :
    (sgI r0 * sgI zb < 0 → fq za zb = q0 - 1 ∧ fr za zb = r0 + zb) ∧ (¬ sgI r0 * sgI zb < 0 → fq za zb = q0 ∧ fr za zb = r0) := by
  have e0 : Q * y = y * Q := Int.mul_comm _ _
  rcases n with _ | _ <;> rcases n' with _ | _ <;> simp only [Bool.false_eq_true, if_false, if_true, bne_self_eq_false, bne_iff_ne, ne_eq, not_false_eq_true, Bool.true_eq_false, reduceCtorEq] at hza hzb hq0
  · have hr : r0 = M := by rw [hr0, hza, hzb, hq0]; omega
    have hs : ¬ sgI r0 * sgI zb < 0 := by rw [hr, hzb, sgI_pos hy]; rcases Int.lt_or_eq_of_le h2 with h | h; rw [sgI_pos h]; decide; rw [← h, sgI_zero]; decide
    refine ⟨fun h => absurd h hs, fun _ => ?_⟩
    have hf : fq za zb = q0 := by unfold fq; rw [if_pos (by omega), hza, hzb, hQ, hq0]
    exact ⟨hf, by unfold fr; rw [hf, hr0]⟩
  · have hr : r0 = M := by rw [hr0, hza, hzb, hq0, Int.neg_mul_neg]; omega
    rcases Int.lt_or_eq_of_le h2 with h | h
    · have hs : sgI r0 * sgI zb < 0 := by rw [hr, hzb, sgI_pos h, sgI_neg (by omega)]; decide
      refine ⟨fun _ => ?_, fun h => absurd hs h⟩
      have hf : fq za zb = q0 - 1 := by unfold fq; rw [if_neg (by omega), hza, hzb, Int.neg_neg, h4, if_neg (by omega), hq0]
      exact ⟨hf, by unfold fr; rw [hf, hr0, Int.sub_mul]; omega⟩
    · have hs : ¬ sgI r0 * sgI zb < 0 := by rw [hr, ← h, sgI_zero, Int.zero_mul]; decide
      refine ⟨fun h => absurd h hs, fun _ => ?_⟩
      have hf : fq za zb = q0 := by unfold fq; rw [if_neg (by omega), hza, hzb, Int.neg_neg, h4, if_pos h.symm, hq0]
      exact ⟨hf, by unfold fr; rw [hf, hr0]⟩
  · have hr : r0 = -M := by rw [hr0, hza, hzb, hq0, Int.neg_mul]; omega
    rcases Int.lt_or_eq_of_le h2 with h | h
    · have hs : sgI r0 * sgI zb < 0 := by rw [hr, hzb, sgI_pos hy, sgI_neg (by omega)]; decide
      refine ⟨fun _ => ?_, fun h => absurd hs h⟩
      have hf : fq za zb = q0 - 1 := by unfold fq; rw [if_pos (by omega), hza, hzb, h4, if_neg (by omega), hq0]
      exact ⟨hf, by unfold fr; rw [hf, hr0, Int.sub_mul]; omega⟩
    · have hs : ¬ sgI r0 * sgI zb < 0 := by rw [hr, ← h, Int.neg_zero, sgI_zero, Int.zero_mul]; decide
      refine ⟨fun h => absurd h hs, fun _ => ?_⟩
      have hf : fq za zb = q0 := by unfold fq; rw [if_pos (by omega), hza, hzb, h4, if_pos h.symm, hq0]
      exact ⟨hf, by unfold fr; rw [hf, hr0]⟩
  · have hr : r0 = -M := by rw [hr0, hza, hzb, hq0, Int.mul_neg]; omega
    have hs : ¬ sgI r0 * sgI zb < 0 := by rw [hr, hzb, sgI_neg (show -y < 0 by omega)]; rcases Int.lt_or_eq_of_le h2 with h | h; rw [sgI_neg (by omega)]; decide; rw [← h, Int.neg_zero, sgI_zero]; decide
    refine ⟨fun h => absurd h hs, fun _ => ?_⟩
    have hf : fq za zb = q0 := by unfold fq; rw [if_neg (by omega), hza, hzb, Int.neg_neg, Int.neg_neg, hQ, hq0]
    exact ⟨hf, by unfold fr; rw [hf, hr0]⟩
theorem floor_sign {a b : List Int} (ha : Wd a) (hb : Wd b) (n n' : Bool) (hp : 0 < val b) :
    let q0 := zv (n != n') (rep (val a / val b)); let r0 := zv n a - q0 * zv n' b
    (((n != n') && decide (0 < (rep (val a / val b)).length)) = ng q0 ∧ rep (val a / val b) = mag q0) ∧
    (sgI r0 * sgI (zv n' b) < 0 → fq (zv n a) (zv n' b) = q0 - 1 ∧ fr (zv n a) (zv n' b) = r0 + zv n' b) ∧
    (¬ sgI r0 * sgI (zv n' b) < 0 → fq (zv n a) (zv n' b) = q0 ∧ fr (zv n a) (zv n' b) = r0) := by
  intro q0 r0
  have hx := val_nonneg ha
  have hd : 0 ≤ val a / val b := Int.ediv_nonneg hx (by omega)
  have h1 := Int.mul_ediv_add_emod (val a) (val b)
  have h2 := Int.emod_nonneg (val a) (show val b ≠ 0 by omega)
  have h3 := Int.emod_lt_of_pos (val a) hp
  have h4 := ediv_neg' (val a) (val b) hx hp
  have hw := Wd_rep (val a / val b)
  refine ⟨⟨by rw [ng_zv hw, val_rep hd, rep_pos_len hd], by rw [mag_zv hw, val_rep hd]⟩, ?_⟩
  have hq0 : q0 = if (n != n') = true then -(val a / val b) else val a / val b := by
    show zv _ _ = _; unfold zv; rw [val_rep hd]
  exact floor_core (val a) (val b) _ _ hp h1 h2 h3 h4 rfl n n' _ _ q0 r0 rfl rfl hq0 rfl

theorem ret_blk3 {fn : Func} {p q s : Tmp} {ty ty' : TypeId} {v : Value} {tmps : Array Value} {w : World} {g g' : Nat} {vs vs' : List Value} {fs fs'} (h : fn.results = #[.cell p ty, .cell q ty', .tmp s]) (hp : tmps.getD p undef = .pointer (some ⟨g, 0, none⟩)) (hp' : tmps.getD q undef = .pointer (some ⟨g', 0, none⟩)) (hs : tmps.getD s undef = v) (hb : Blk w g vs) (hb' : Blk w g' vs')
    (hu : Tryz.prog.underlying ty = some (.struct fs)) (hi : (Tryz.prog.info? ty).map (·.size) = some vs.length) (hu' : Tryz.prog.underlying ty' = some (.struct fs')) (hi' : (Tryz.prog.info? ty').map (·.size) = some vs'.length) : (results fn tmps).run Tryz.prog w = .ok (.tuple #[.agg vs.toArray, .agg vs'.toArray, v]) w := by
  obtain ⟨t, hg⟩ := hb
  obtain ⟨t', hg'⟩ := hb'
  have e1 := run_loadVar_row w g t ty _ _ _ hg hu rfl (by simpa using hi)
  have e2 := run_loadVar_row w g' t' ty' _ _ _ hg' hu' rfl (by simpa using hi')
  have hp2 : tmps[p]?.getD undef = .pointer (some ⟨g, 0, none⟩) := by simpa using hp
  have hp3 : tmps[q]?.getD undef = .pointer (some ⟨g', 0, none⟩) := by simpa using hp'
  have hs2 : tmps[s]?.getD undef = v := by simpa using hs
  simp [results, h, hp2, hp3, hs2, asAddr, e1, e2, Sem.run_bind]

set_option maxHeartbeats 400000 in
theorem whole_Floor_no (ok : Nat → Prop) (n : Bool) (A : Option Addr) (c : Nat) (l : List Int) (ok' : Nat → Prop) (n' : Bool) (A' : Option Addr) (c' : Nat) (l' : List Int) (w : World) (h : Rd ok w A l) (hc : l.length ≤ c) (h' : Rd ok' w A' l') (hc' : l'.length ≤ c') (hbig : l.length < 100000000) (hbig' : l'.length < 100000000) (hz : val l' = 0) :
    Calls Tryz.prog 75 #[.agg #[.bool n, .slice A l.length c], .agg #[.bool n', .slice A' l'.length c']] w fun e w' => e = .returned (.tuple #[.agg #[.bool false, .slice none 0 0], .agg #[.bool false, .slice none 0 0], .bool false]) ∧ Below w.heap.size w w' := by
  go_enter Tryz.func75, Tryz.ntmps75
  go_wp2_with fail
  have A0 := (((Blk.new w [.bool n, .slice A l.length c] 28).alloc (.cells #[.bool n', .slice A' l'.length c'] 28)).alloc (.cells #[.bool false, .slice none 0 0] 28)).alloc (.cells #[.bool false, .slice none 0 0] 28)
  have B0 := ((Blk.new (w.alloc (.cells #[.bool n, .slice A l.length c] 28)) [.bool n', .slice A' l'.length c'] 28).alloc (.cells #[.bool false, .slice none 0 0] 28)).alloc (.cells #[.bool false, .slice none 0 0] 28)
  have Q0 := (Blk.new ((w.alloc (.cells #[.bool n, .slice A l.length c] 28)).alloc (.cells #[.bool n', .slice A' l'.length c'] 28)) [.bool false, .slice none 0 0] 28).alloc (.cells #[.bool false, .slice none 0 0] 28)
  have R0 := Blk.new (((w.alloc (.cells #[.bool n, .slice A l.length c] 28)).alloc (.cells #[.bool n', .slice A' l'.length c'] 28)).alloc (.cells #[.bool false, .slice none 0 0] 28)) [.bool false, .slice none 0 0] 28
  have rh := ((((h.alloc (.cells #[.bool n, .slice A l.length c] 28)).alloc (.cells #[.bool n', .slice A' l'.length c'] 28)).alloc (.cells #[.bool false, .slice none 0 0] 28)).alloc (.cells #[.bool false, .slice none 0 0] 28))
  have rh' := ((((h'.alloc (.cells #[.bool n, .slice A l.length c] 28)).alloc (.cells #[.bool n', .slice A' l'.length c'] 28)).alloc (.cells #[.bool false, .slice none 0 0] 28)).alloc (.cells #[.bool false, .slice none 0 0] 28))
  have hb0 := (((((Below.refl w.heap.size w).alloc (Nat.le_refl _) (.cells #[.bool n, .slice A l.length c] 28)).alloc (by simp) (.cells #[.bool n', .slice A' l'.length c'] 28)).alloc (by simp; omega) (.cells #[.bool false, .slice none 0 0] 28)).alloc (by simp; omega) (.cells #[.bool false, .slice none 0 0] 28))
  simp only [World.size_alloc] at B0 Q0 R0
  generalize (((w.alloc (.cells #[.bool n, .slice A l.length c] 28)).alloc (.cells #[.bool n', .slice A' l'.length c'] 28)).alloc (.cells #[.bool false, .slice none 0 0] 28)).alloc (.cells #[.bool false, .slice none 0 0] 28) = W at *
  clear h h'
  have c0 := A0.c 0 rfl
  have c1 := A0.c 1 rfl
  have d0 := B0.c 0 rfl
  have d1 := B0.c 1 rfl
  have n1 : ¬ (w.heap.size = w.heap.size + 1 + 1) := by omega
  have n2 : ¬ (w.heap.size + 1 + 1 = w.heap.size) := by omega
  have n3 : ¬ (w.heap.size = w.heap.size + 1 + 1 + 1) := by omega
  have n4 : ¬ (w.heap.size + 1 + 1 + 1 = w.heap.size) := by omega
  have n5 : ¬ (w.heap.size + 1 = w.heap.size + 1 + 1 + 1) := by omega
  have n6 : ¬ (w.heap.size + 1 + 1 + 1 = w.heap.size + 1) := by omega
  go_wp2_with fail
  refine (quot_Div_no ok A c l ok' A' c' l' _ rh hc rh' hc' hz).mono ?_
  rintro e w1 ⟨rfl, hb⟩
  have A1 := A0.below hb; have B1 := B0.below hb; have Q1 := Q0.below hb; have R1 := R0.below hb
  have qQ10 := Q1.c 0 rfl; have qQ11 := Q1.c 1 rfl; have qR10 := R1.c 0 rfl; have qR11 := R1.c 1 rfl
  have f1 := Q1.f
  have f2 := R1.f
  have f3 := Q1.lt
  have f4 := R1.lt
  go_wp2
  refine bodyPost_ret (ret_blk3 rfl rfl rfl rfl (((Q1.set 0 _).set 1 _).far (by simp) _ |>.far (by simp) _) ((((R1.far (by simp) _).far (by simp) _).set 0 _).set 1 _) Tryz.underlying28 (by kernel_rfl) Tryz.underlying28 (by kernel_rfl)) rfl ?_
  refine ⟨rfl, ?_⟩
  exact ((((below_go hb0 hb).setCell (by simp; omega) _).setCell (by simp; omega) _).setCell (by simp; omega) _).setCell (by simp; omega) _

theorem sgI_wrap (a b : Int) : IntKind.i64.wrap (sgI a * sgI b) = sgI a * sgI b := by
  unfold sgI; repeat' split
  all_goals rfl
theorem floor_lens {a b : List Int} (ha : Wd a) (hb : Wd b) (n n' : Bool) (hp : 0 < val b) :
    let q0 := zv (n != n') (rep (val a / val b)); let r0 := zv n a - q0 * zv n' b
    (mag q0).length ≤ a.length ∧ (mag (q0 * zv n' b)).length ≤ a.length ∧ (mag r0).length ≤ a.length + b.length := by
  intro q0 r0
  have hx := val_nonneg ha
  have hd : 0 ≤ val a / val b := Int.ediv_nonneg hx (by omega)
  have h1 := Int.mul_ediv_add_emod (val a) (val b)
  have h2 := Int.emod_nonneg (val a) (show val b ≠ 0 by omega)
  have h3 := Int.emod_lt_of_pos (val a) hp
  have ha2 := val_lt ha
  have hb2 := val_lt hb
  have hq : val a / val b ≤ val a := Int.ediv_le_self _ hx
  have hq0 : (q0.natAbs : Int) = val a / val b := by rw [natAbs_zv (Wd_rep _), val_rep hd]
  have hz := natAbs_zv (n := n') hb
  have hm : ((q0 * zv n' b).natAbs : Int) = val b * (val a / val b) := by rw [Int.natAbs_mul, Int.natCast_mul, hq0, hz, Int.mul_comm]
  refine ⟨mag_len _ _ (by omega), mag_len _ _ (by omega), mag_len _ _ ?_⟩
  have hzn := natAbs_zv (n := n) ha
  have hpw : pw b.length ≤ pw (a.length + b.length) := pw_mono (by omega)
  have hpa : pw a.length ≤ pw (a.length + b.length) := pw_mono (by omega)
  have hr0 : r0 = zv n a - q0 * zv n' b := rfl
  have : (r0.natAbs : Int) < pw b.length ∨ (r0.natAbs : Int) < pw a.length := by
    left
    have e : (r0.natAbs : Int) = val a % val b := by
      have hq1 : q0 = if (n != n') = true then -(val a / val b) else val a / val b := by show zv _ _ = _; unfold zv; rw [val_rep hd]
      have e0 : (val a / val b) * val b = val b * (val a / val b) := Int.mul_comm _ _
      rw [hr0, hq1]
      unfold zv
      rcases n with _ | _ <;> rcases n' with _ | _ <;> simp only [Bool.false_eq_true, if_false, if_true, bne_self_eq_false, bne_iff_ne, ne_eq, not_false_eq_true, Bool.true_eq_false, Int.neg_mul, Int.mul_neg, Int.neg_neg, reduceCtorEq] <;> omega
    omega
  omega
theorem setCell_idem {w : World} {b o : Nat} {v : Value} (h : w.cell? ⟨b, o, none⟩ = some v) : w.setCell ⟨b, o, none⟩ v = w := by
  have hh : w.heap.modify b (fun
      | .cells c elem frozen => .cells (if (none : Option Nat).isSome then c else c.setIfInBounds o v) elem frozen
      | x => x) = w.heap := by
    refine Array.ext (by simp) fun k h1 h2 => ?_
    rw [Array.getElem_modify]
    split
    · rename_i e
      subst e
      cases hb : w.heap[b] with
      | cells c t fr =>
        simp [World.cell?, hb, h2] at h
        obtain ⟨h3, h4⟩ := Array.getElem?_eq_some_iff.mp h
        simp
        refine Array.ext (by simp) fun j h5 h6 => ?_
        rw [Array.getElem_setIfInBounds]
        split
        · rename_i e; subst e; exact h4.symm
        · rfl
      | _ => rfl
    · rfl
  unfold World.setCell
  simp only at hh ⊢
  exact congrArg (fun H => { w with heap := H }) hh
attribute [local go_sem] setCell_idem
/-- The world after a store of a struct of two cells. -/
def wput (w : World) (b : Nat) (u v : Value) : World := (w.setCell ⟨b, 0, none⟩ u).setCell ⟨b, 1, none⟩ v
theorem wput_size (w : World) (b : Nat) (u v : Value) : (wput w b u v).heap.size = w.heap.size := by simp [wput]
theorem Blk.put2 {w : World} {b : Nat} {x y u v : Value} (h : Blk w b [x, y]) : Blk (wput w b u v) b [u, v] := (h.set 0 u).set 1 v
theorem Blk.far2 {w : World} {b b' : Nat} {vs : List Value} {u v : Value} (h : Blk w b vs) (hne : b ≠ b') : Blk (wput w b' u v) b vs := (h.far (p := ⟨b', 0, none⟩) hne u).far (p := ⟨b', 1, none⟩) hne v
theorem Rd.put2 {w : World} {ok : Nat → Prop} {A : Option Addr} {l : List Int} {b : Nat} {u v : Value} (h : Rd ok w A l) (hne : ¬ ok b) : Rd ok (wput w b u v) A l := (h.setCell (p := ⟨b, 0, none⟩) hne u).setCell (p := ⟨b, 1, none⟩) hne v
theorem below_put2 {a w : World} {B b : Nat} {u v : Value} (h : Below B a w) (hb : B ≤ b) : Below B a (wput w b u v) := (h.setCell (p := ⟨b, 0, none⟩) hb u).setCell (p := ⟨b, 1, none⟩) hb v

set_option maxHeartbeats 2000000 in
theorem whole_Floor (ok : Nat → Prop) (n : Bool) (A : Option Addr) (c : Nat) (l : List Int) (ok' : Nat → Prop) (n' : Bool) (A' : Option Addr) (c' : Nat) (l' : List Int) (w : World) (h : Rd ok w A l) (hc : l.length ≤ c) (h' : Rd ok' w A' l') (hc' : l'.length ≤ c') (hbig : l.length < 100000000) (hbig' : l'.length < 100000000) (hpos : 0 < val l') :
    Calls Tryz.prog 75 #[.agg #[.bool n, .slice A l.length c], .agg #[.bool n', .slice A' l'.length c']] w fun e w' => ∃ A1 c1 A2 c2, e = .returned (.tuple #[.agg #[.bool (ng (fq (zv n l) (zv n' l'))), .slice A1 (mag (fq (zv n l) (zv n' l'))).length c1], .agg #[.bool (ng (fr (zv n l) (zv n' l'))), .slice A2 (mag (fr (zv n l) (zv n' l'))).length c2], .bool true]) ∧ (mag (fq (zv n l) (zv n' l'))).length ≤ c1 ∧ (mag (fr (zv n l) (zv n' l'))).length ≤ c2 ∧ Rd (fun k => w.heap.size ≤ k) w' A1 (mag (fq (zv n l) (zv n' l'))) ∧ Rd (fun k => w.heap.size ≤ k) w' A2 (mag (fr (zv n l) (zv n' l'))) ∧ Below w.heap.size w w' := by
  have HF := floor_sign h.wd h'.wd n n' hpos
  have HZ := natAbs_zv (n := n') h'.wd
  have HLN := floor_lens h.wd h'.wd n n' hpos
  dsimp only at HF HLN
  generalize hq0 : zv (n != n') (rep (val l / val l')) = q0 at HF HLN
  generalize hr0 : zv n l - q0 * zv n' l' = r0 at HF HLN
  have HF1 := Asd.mk HF.1.1; have HF2 := Asd.mk HF.1.2; have HF3 := Asd.mk HF.2.1; have HF4 := Asd.mk HF.2.2; replace HLN := Asd.mk HLN; have Hr0 := Asd.mk hr0; have HZV := Asd.mk (zv_mag q0); have HZV2 := Asd.mk (zv_mag (q0 * zv n' l')); have HZV3 := Asd.mk (zv_mag r0)
  clear hq0 hr0 HZ HF
  replace h := h.mono (ok' := fun k => k < w.heap.size) (fun k hk _ => hk)
  replace h' := h'.mono (ok' := fun k => k < w.heap.size) (fun k hk _ => hk)
  go_enter Tryz.func75, Tryz.ntmps75
  go_wp2_with fail
  have A0 := (((Blk.new w [.bool n, .slice A l.length c] 28).alloc (.cells #[.bool n', .slice A' l'.length c'] 28)).alloc (.cells #[.bool false, .slice none 0 0] 28)).alloc (.cells #[.bool false, .slice none 0 0] 28)
  have B0 := ((Blk.new (w.alloc (.cells #[.bool n, .slice A l.length c] 28)) [.bool n', .slice A' l'.length c'] 28).alloc (.cells #[.bool false, .slice none 0 0] 28)).alloc (.cells #[.bool false, .slice none 0 0] 28)
  have Q0 := (Blk.new ((w.alloc (.cells #[.bool n, .slice A l.length c] 28)).alloc (.cells #[.bool n', .slice A' l'.length c'] 28)) [.bool false, .slice none 0 0] 28).alloc (.cells #[.bool false, .slice none 0 0] 28)
  have R0 := Blk.new (((w.alloc (.cells #[.bool n, .slice A l.length c] 28)).alloc (.cells #[.bool n', .slice A' l'.length c'] 28)).alloc (.cells #[.bool false, .slice none 0 0] 28)) [.bool false, .slice none 0 0] 28
  have rh := ((((h.alloc (.cells #[.bool n, .slice A l.length c] 28)).alloc (.cells #[.bool n', .slice A' l'.length c'] 28)).alloc (.cells #[.bool false, .slice none 0 0] 28)).alloc (.cells #[.bool false, .slice none 0 0] 28))
  have rh' := ((((h'.alloc (.cells #[.bool n, .slice A l.length c] 28)).alloc (.cells #[.bool n', .slice A' l'.length c'] 28)).alloc (.cells #[.bool false, .slice none 0 0] 28)).alloc (.cells #[.bool false, .slice none 0 0] 28))
  have hb0 := (((((Below.refl w.heap.size w).alloc (Nat.le_refl _) (.cells #[.bool n, .slice A l.length c] 28)).alloc (by simp) (.cells #[.bool n', .slice A' l'.length c'] 28)).alloc (by simp; omega) (.cells #[.bool false, .slice none 0 0] 28)).alloc (by simp; omega) (.cells #[.bool false, .slice none 0 0] 28))
  simp only [World.size_alloc] at B0 Q0 R0
  generalize (((w.alloc (.cells #[.bool n, .slice A l.length c] 28)).alloc (.cells #[.bool n', .slice A' l'.length c'] 28)).alloc (.cells #[.bool false, .slice none 0 0] 28)).alloc (.cells #[.bool false, .slice none 0 0] 28) = W at *
  clear h h'
  have c0 := A0.c 0 rfl
  have c1 := A0.c 1 rfl
  have d0 := B0.c 0 rfl
  have d1 := B0.c 1 rfl
  have n1 : ¬ (w.heap.size = w.heap.size + 1 + 1) := by omega
  have n2 : ¬ (w.heap.size + 1 + 1 = w.heap.size) := by omega
  have n3 : ¬ (w.heap.size = w.heap.size + 1 + 1 + 1) := by omega
  have n4 : ¬ (w.heap.size + 1 + 1 + 1 = w.heap.size) := by omega
  have n5 : ¬ (w.heap.size + 1 = w.heap.size + 1 + 1 + 1) := by omega
  have n6 : ¬ (w.heap.size + 1 + 1 + 1 = w.heap.size + 1) := by omega
  go_wp2_with fail
  refine (quot_Div _ A c l _ A' c' l' _ rh hc rh' hc' hpos (by omega)).mono ?_
  rintro e w1 ⟨S1, k1, S2, k2, rfl, hc1, -, hr1, -, hb⟩
  rw [HF2.out] at hr1 hc1 ⊢
  have rh1 := rh.below hb; have rh1' := rh'.below hb
  have A1 := A0.below hb; have B1 := B0.below hb; have Q1 := Q0.below hb; have R1 := R0.below hb
  have qA10 := A1.c 0 rfl; have qA11 := A1.c 1 rfl; have qB10 := B1.c 0 rfl; have qB11 := B1.c 1 rfl; have qQ10 := Q1.c 0 rfl; have qQ11 := Q1.c 1 rfl; have qR10 := R1.c 0 rfl; have qR11 := R1.c 1 rfl
  go_wp2_with fail
  refine (whole_signed _ _ _ _ _).mono ?_
  rintro e w2 ⟨rfl, hb2⟩
  have hs : ((!n == n') && decide (0 < (mag q0).length)) = ng q0 := by
    rw [← HF2.out, show (!n == n') = (n != n') from rfl]; exact HF1.out
  rw [hs]
  clear hs
  have rh2 := rh1.below hb2; have rh2' := rh1'.below hb2; have hr2 := hr1.below hb2
  have A2 := A1.below hb2; have B2 := B1.below hb2; have Q2 := Q1.below hb2; have R2 := R1.below hb2
  have qA20 := A2.c 0 rfl; have qA21 := A2.c 1 rfl; have qB20 := B2.c 0 rfl; have qB21 := B2.c 1 rfl; have qQ20 := Q2.c 0 rfl; have qQ21 := Q2.c 1 rfl; have qR20 := R2.c 0 rfl; have qR21 := R2.c 1 rfl
  have f1 := Q2.f
  have f3 := Q2.lt
  go_wp2_with fail
  have A3 := A2.far2 (b' := (w.heap.size + 1 + 1)) (u := (.bool (ng q0))) (v := (.slice S1 (mag q0).length k1)) (by omega)
  have B3 := B2.far2 (b' := (w.heap.size + 1 + 1)) (u := (.bool (ng q0))) (v := (.slice S1 (mag q0).length k1)) (by omega)
  have Q3 := Q2.put2 (u := (.bool (ng q0))) (v := (.slice S1 (mag q0).length k1))
  have R3 := R2.far2 (b' := (w.heap.size + 1 + 1)) (u := (.bool (ng q0))) (v := (.slice S1 (mag q0).length k1)) (by omega)
  have rh3 := (rh2.put2 (b := (w.heap.size + 1 + 1)) (u := (.bool (ng q0))) (v := (.slice S1 (mag q0).length k1)) (by simp only [Nat.not_lt, Nat.not_le]; have := R0.lt; omega))
  have rh3' := (rh2'.put2 (b := (w.heap.size + 1 + 1)) (u := (.bool (ng q0))) (v := (.slice S1 (mag q0).length k1)) (by simp only [Nat.not_lt, Nat.not_le]; have := R0.lt; omega))
  have hr3 := (hr2.put2 (b := (w.heap.size + 1 + 1)) (u := (.bool (ng q0))) (v := (.slice S1 (mag q0).length k1)) (by simp only [Nat.not_lt, Nat.not_le]; have := R0.lt; omega))
  have hb3 := below_put2 (b := (w.heap.size + 1 + 1)) (u := (.bool (ng q0))) (v := (.slice S1 (mag q0).length k1)) (below_go (below_go hb0 hb) hb2) (by omega)
  simp only [wput] at A3 B3 Q3 R3 rh3 rh3' hr3 hb3
  have hWz : ((w2.setCell ⟨(w.heap.size + 1 + 1), 0, none⟩ (.bool (ng q0))).setCell ⟨(w.heap.size + 1 + 1), 1, none⟩ (.slice S1 (mag q0).length k1)).heap.size = w2.heap.size := by simp
  generalize (w2.setCell ⟨(w.heap.size + 1 + 1), 0, none⟩ (.bool (ng q0))).setCell ⟨(w.heap.size + 1 + 1), 1, none⟩ (.slice S1 (mag q0).length k1) = W3 at *
  have qA30 := A3.c 0 rfl; have qA31 := A3.c 1 rfl; have qB30 := B3.c 0 rfl; have qB31 := B3.c 1 rfl; have qQ30 := Q3.c 0 rfl; have qQ31 := Q3.c 1 rfl; have qR30 := R3.c 0 rfl; have qR31 := R3.c 1 rfl
  have hWsz : W.heap.size ≤ w2.heap.size := Nat.le_trans hb.size hb2.size
  clear c0 d0 d1 hb hb2 rh rh' rh1 rh1' rh2 rh2' hr1 hr2 Q0 Q1 Q2 A1 A2 A0 B0 B1 B2 R1 R2 qA10 qA11 qB10 qB11 qQ10 qQ11 qR10 qR11 qA20 qA21 qB20 qB21 qQ20 qQ21 qR20 qR21 f1 f3
  have hWs : W.heap.size ≤ W3.heap.size := by have := hWsz; have := hWz; omega
  have hm := whole_Mul _ (ng q0) _ _ _ _ n' A' c' l' _ hr3.drew hc1 rh3'.drew hc' (by have := HLN.out; omega) (by omega)
  rw [HZV.out] at hm
  have HM := Asd.mk hm
  clear hm
  go_region_held3 (fun w' => w'.cell? ⟨w.heap.size, 0, none⟩ = some (.bool n) ∧ w'.cell? ⟨w.heap.size, 1, none⟩ = some (.slice A l.length c) ∧ w'.cell? ⟨w.heap.size + 1, 0, none⟩ = some (.bool n') ∧ w'.cell? ⟨w.heap.size + 1, 1, none⟩ = some (.slice A' l'.length c') ∧ w'.cell? ⟨w.heap.size + 1 + 1, 0, none⟩ = some (.bool (ng q0)) ∧ w'.cell? ⟨w.heap.size + 1 + 1, 1, none⟩ = some (.slice S1 (mag q0).length k1)) (go_keep)
    (first
      | (go_at_call 81; refine HM.out.mono ?_; rintro e w4 ⟨S4, k4, rfl, hc4, hr4, hb4⟩; replace hb4 := undrew hb4; replace hr4 : Rd (fun k => W3.heap.size ≤ k) w4 S4 _ := hr4; have rh4 := rh3.below hb4; have rh4' := rh3'.below hb4; have hq4 := hr3.below hb4; have A4 := A3.below hb4; have B4 := B3.below hb4; have Q4 := Q3.below hb4; have R4 := R3.below hb4; have qA40 := A4.c 0 rfl; have qA41 := A4.c 1 rfl; have qB40 := B4.c 0 rfl; have qB41 := B4.c 1 rfl; have qQ40 := Q4.c 0 rfl; have qQ41 := Q4.c 1 rfl)
      | (go_at_call 77; refine (whole_Sub _ _ _ _ _ _ _ _ _ _ _ rh4 hc hr4 hc4 (by omega) (by have := HLN.out; omega)).mono ?_; rintro e w5 ⟨S5, k5, rfl, hc5, hr5, hb5⟩; rw [HZV2.out, Hr0.out] at hc5 hr5 ⊢; have rh5 := rh4.below hb5; have rh5' := rh4'.below hb5; have hq5 := hq4.below hb5; have A5 := A4.below hb5; have B5 := B4.below hb5; have Q5 := Q4.below hb5; have R5 := R4.below hb5; have qA50 := A5.c 0 rfl; have qA51 := A5.c 1 rfl; have qB50 := B5.c 0 rfl; have qB51 := B5.c 1 rfl; have qQ50 := Q5.c 0 rfl; have qQ51 := Q5.c 1 rfl; have qR50 := R5.c 0 rfl; have qR51 := R5.c 1 rfl; have f5 := R5.f; have f6 := R5.lt))
  go_wp2_with fail
  replace hr5 := hr5.mono (ok' := fun k => W.heap.size ≤ k) (fun k _ hk => by have := hb3.size; have := hb4.size; have hW3 := hWs; omega)
  have A6 := A5.far2 (b' := (w.heap.size + 1 + 1 + 1)) (u := (.bool (ng r0))) (v := (.slice S5 (mag r0).length k5)) (by omega)
  have B6 := B5.far2 (b' := (w.heap.size + 1 + 1 + 1)) (u := (.bool (ng r0))) (v := (.slice S5 (mag r0).length k5)) (by omega)
  have Q6 := Q5.far2 (b' := (w.heap.size + 1 + 1 + 1)) (u := (.bool (ng r0))) (v := (.slice S5 (mag r0).length k5)) (by omega)
  have R6 := R5.put2 (u := (.bool (ng r0))) (v := (.slice S5 (mag r0).length k5))
  have rh6 := (rh5.put2 (b := (w.heap.size + 1 + 1 + 1)) (u := (.bool (ng r0))) (v := (.slice S5 (mag r0).length k5)) (by simp only [Nat.not_lt, Nat.not_le]; have := R0.lt; omega))
  have rh6' := (rh5'.put2 (b := (w.heap.size + 1 + 1 + 1)) (u := (.bool (ng r0))) (v := (.slice S5 (mag r0).length k5)) (by simp only [Nat.not_lt, Nat.not_le]; have := R0.lt; omega))
  have hq6 := (hq5.put2 (b := (w.heap.size + 1 + 1 + 1)) (u := (.bool (ng r0))) (v := (.slice S5 (mag r0).length k5)) (by simp only [Nat.not_lt, Nat.not_le]; have := R0.lt; omega))
  have hr6 := (hr5.put2 (b := (w.heap.size + 1 + 1 + 1)) (u := (.bool (ng r0))) (v := (.slice S5 (mag r0).length k5)) (by simp only [Nat.not_lt, Nat.not_le]; have := R0.lt; omega))
  have hb6 := below_put2 (b := (w.heap.size + 1 + 1 + 1)) (u := (.bool (ng r0))) (v := (.slice S5 (mag r0).length k5)) (below_go (below_go hb3 hb4) hb5) (by omega)
  simp only [wput] at A6 B6 Q6 R6 rh6 rh6' hq6 hr6 hb6
  have hWz : ((w5.setCell ⟨(w.heap.size + 1 + 1 + 1), 0, none⟩ (.bool (ng r0))).setCell ⟨(w.heap.size + 1 + 1 + 1), 1, none⟩ (.slice S5 (mag r0).length k5)).heap.size = w5.heap.size := by simp
  generalize (w5.setCell ⟨(w.heap.size + 1 + 1 + 1), 0, none⟩ (.bool (ng r0))).setCell ⟨(w.heap.size + 1 + 1 + 1), 1, none⟩ (.slice S5 (mag r0).length k5) = W6 at *
  have qA60 := A6.c 0 rfl; have qA61 := A6.c 1 rfl; have qB60 := B6.c 0 rfl; have qB61 := B6.c 1 rfl; have qQ60 := Q6.c 0 rfl; have qQ61 := Q6.c 1 rfl; have qR60 := R6.c 0 rfl; have qR61 := R6.c 1 rfl
  clear rh3 rh3' rh4 rh4' rh5 rh5' hr3 hr4 hr5 hq4 hq5 A3 B3 Q3 R3 A4 B4 Q4 R4 A5 B5 Q5 R5 qA30 qA31 qB30 qB31 qQ30 qQ31 qR30 qR31 qA40 qA41 qB40 qB41 qQ40 qQ41 qA50 qA51 qB50 qB51 qQ50 qQ51 qR50 qR51 f5 f6 HM
  have hs1 := whole_Sign _ (ng r0) _ _ _ _ hr6.drew hc5
  rw [HZV3.out] at hs1
  have HS1 := Asd.mk hs1
  clear hs1
  go_region_held3 (fun w' => w'.cell? ⟨w.heap.size + 1, 0, none⟩ = some (.bool n') ∧ w'.cell? ⟨w.heap.size + 1, 1, none⟩ = some (.slice A' l'.length c') ∧ w'.cell? ⟨w.heap.size + 1 + 1 + 1, 0, none⟩ = some (.bool (ng r0)) ∧ w'.cell? ⟨w.heap.size + 1 + 1 + 1, 1, none⟩ = some (.slice S5 (mag r0).length k5)) (go_keep)
    (first
      | (go_at_call 71; with_reducible refine HS1.out.mono ?_; rintro e w7 ⟨rfl, hb7⟩; replace hb7 := undrew hb7; have rh7' := rh6'.below hb7; have A7 := A6.below hb7; have B7 := B6.below hb7; have Q7 := Q6.below hb7; have R7 := R6.below hb7; have qA70 := A7.c 0 rfl; have qA71 := A7.c 1 rfl; have qB70 := B7.c 0 rfl; have qB71 := B7.c 1 rfl; have qQ70 := Q7.c 0 rfl; have qQ71 := Q7.c 1 rfl; have qR70 := R7.c 0 rfl; have qR71 := R7.c 1 rfl)
      | (go_at_call 71; refine (whole_Sign _ _ _ _ _ _ rh7' hc').mono ?_; rintro e w8 ⟨rfl, hb8⟩; have A8 := A7.below hb8; have B8 := B7.below hb8; have Q8 := Q7.below hb8; have R8 := R7.below hb8; have qA80 := A8.c 0 rfl; have qA81 := A8.c 1 rfl; have qB80 := B8.c 0 rfl; have qB81 := B8.c 1 rfl; have qQ80 := Q8.c 0 rfl; have qQ81 := Q8.c 1 rfl; have qR80 := R8.c 0 rfl; have qR81 := R8.c 1 rfl))
  rw [sgI_wrap]
  clear A6 B6 Q6 R6 A7 B7 Q7 R7 qA60 qA61 qB60 qB61 qQ60 qQ61 qR60 qR61 qA70 qA71 qB70 qB71 qQ70 qQ71 qR70 qR71 HS1
  have hS8 := hb7.size
  have hq8 := ((hq6.below hb7).below hb8)
  have hr8 := ((hr6.below hb7).below hb8)
  have rh8 := ((rh6.below hb7).below hb8)
  have rh8' := (rh7'.below hb8)
  have hbA := below_go (below_go hb6 hb7) hb8
  have hWW := hb0.size
  have hW8 : W.heap.size ≤ w8.heap.size := by have := hb3.size; have := hb4.size; have := hb5.size; have := hb7.size; have := hb8.size; omega
  clear hb3 hb4 hb5 hb6 hb7 hb8 hq6 hr6 rh6 rh6' rh7' hc4 Hr0 HZV2 hWsz hWs
  by_cases hneg : sgI r0 * sgI (zv n' l') < 0
  · have hd : decide (sgI r0 * sgI (zv n' l') < 0) = true := decide_eq_true hneg
    have HE := Asd.mk (HF3.out hneg)
    clear HF3 HF4 HF1 HF2
    go_wp2_with fail
    have hz1 := zv_mag 1
    go_region_with
      (first
        | (go_at_call 82; refine (whole_Of 1 (by decide) (by decide) _).mono ?_; rintro e w9 ⟨S9, k9, rfl, hc9, hr9, hb9⟩; replace hb9 := undrew hb9; replace hr9 : Rd (fun k => w8.heap.size ≤ k) w9 S9 _ := hr9; have hq9 := hq8.below hb9; have A9 := A8.below hb9; have B9 := B8.below hb9; have Q9 := Q8.below hb9; have R9 := R8.below hb9; have qB90 := B9.c 0 rfl; have qB91 := B9.c 1 rfl; have qQ90 := Q9.c 0 rfl; have qQ91 := Q9.c 1 rfl; have qR90 := R9.c 0 rfl; have qR91 := R9.c 1 rfl)
        | (go_at_call 77; refine (whole_Sub _ _ _ _ _ _ _ _ _ _ _ hq9 hc1 hr9 hc9 (by have := HLN.out; omega) (by have := mag_len 1 1 (by decide); omega)).mono ?_; rintro e w10 ⟨S10, k10, rfl, hc10, hr10, hb10⟩; rw [HZV.out, hz1] at hc10 hr10 ⊢; have A10 := A9.below hb10; have B10 := B9.below hb10; have Q10 := Q9.below hb10; have R10 := R9.below hb10; have qB100 := B10.c 0 rfl; have qB101 := B10.c 1 rfl; have qQ100 := Q10.c 0 rfl; have qQ101 := Q10.c 1 rfl; have qR100 := R10.c 0 rfl; have qR101 := R10.c 1 rfl; have f5 := Q10.f; have f6 := Q10.lt))
    all_goals
      have hr10' := hr8.below hb9 |>.below hb10
      have rh10' := rh8'.below hb9 |>.below hb10
      have hs9 := hb9.size
      replace hr10 := hr10.mono (ok' := fun k => W.heap.size ≤ k) (fun k _ hk => by omega)
      go_wp2_with fail
      have B11 := B10.far2 (b' := (w.heap.size + 1 + 1)) (u := (.bool (ng (q0 - 1)))) (v := (.slice S10 (mag (q0 - 1)).length k10)) (by omega)
      have Q11 := Q10.put2 (u := (.bool (ng (q0 - 1)))) (v := (.slice S10 (mag (q0 - 1)).length k10))
      have R11 := R10.far2 (b' := (w.heap.size + 1 + 1)) (u := (.bool (ng (q0 - 1)))) (v := (.slice S10 (mag (q0 - 1)).length k10)) (by omega)
      have rh11' := (rh10'.put2 (b := (w.heap.size + 1 + 1)) (u := (.bool (ng (q0 - 1)))) (v := (.slice S10 (mag (q0 - 1)).length k10)) (by simp only [Nat.not_lt, Nat.not_le]; have := R0.lt; omega))
      have hq11 := (hr10.put2 (b := (w.heap.size + 1 + 1)) (u := (.bool (ng (q0 - 1)))) (v := (.slice S10 (mag (q0 - 1)).length k10)) (by simp only [Nat.not_lt, Nat.not_le]; have := R0.lt; omega))
      have hr11 := (hr10'.put2 (b := (w.heap.size + 1 + 1)) (u := (.bool (ng (q0 - 1)))) (v := (.slice S10 (mag (q0 - 1)).length k10)) (by simp only [Nat.not_lt, Nat.not_le]; have := R0.lt; omega))
      have hb11 := below_put2 (b := (w.heap.size + 1 + 1)) (u := (.bool (ng (q0 - 1)))) (v := (.slice S10 (mag (q0 - 1)).length k10)) (below_go (below_go hbA hb9) hb10) (by omega)
      simp only [wput] at B11 Q11 R11 rh11' hq11 hr11 hb11
      have hWz : ((w10.setCell ⟨(w.heap.size + 1 + 1), 0, none⟩ (.bool (ng (q0 - 1)))).setCell ⟨(w.heap.size + 1 + 1), 1, none⟩ (.slice S10 (mag (q0 - 1)).length k10)).heap.size = w10.heap.size := by simp
      generalize (w10.setCell ⟨(w.heap.size + 1 + 1), 0, none⟩ (.bool (ng (q0 - 1)))).setCell ⟨(w.heap.size + 1 + 1), 1, none⟩ (.slice S10 (mag (q0 - 1)).length k10) = W11 at *
      have qB110 := B11.c 0 rfl; have qB111 := B11.c 1 rfl; have qQ110 := Q11.c 0 rfl; have qQ111 := Q11.c 1 rfl; have qR110 := R11.c 0 rfl; have qR111 := R11.c 1 rfl
      have hW11 : W.heap.size ≤ W11.heap.size := by have := hb10.size; omega
      refine (whole_Add _ _ _ _ _ _ _ _ _ _ _ hr11 hc5 rh11' hc' (by have := HLN.out; omega) (by omega)).mono ?_
      rintro e w12 ⟨S12, k12, rfl, hc12, hr12, hb12⟩
      rw [HZV3.out] at hc12 hr12 ⊢
      have hq12 := hq11.below hb12
      have Q12 := Q11.below hb12; have R12 := R11.below hb12; have qQ120 := Q12.c 0 rfl; have qQ121 := Q12.c 1 rfl; have qR120 := R12.c 0 rfl; have qR121 := R12.c 1 rfl; have f7 := R12.f; have f8 := R12.lt
      replace hr12 := hr12.mono (ok' := fun k => W.heap.size ≤ k) (fun k _ hk => by omega)
      go_wp2_with fail
      have Q13 := Q12.far2 (b' := (w.heap.size + 1 + 1 + 1)) (u := (.bool (ng (r0 + zv n' l')))) (v := (.slice S12 (mag (r0 + zv n' l')).length k12)) (by omega)
      have R13 := R12.put2 (u := (.bool (ng (r0 + zv n' l')))) (v := (.slice S12 (mag (r0 + zv n' l')).length k12))
      have hq13 := (hq12.put2 (b := (w.heap.size + 1 + 1 + 1)) (u := (.bool (ng (r0 + zv n' l')))) (v := (.slice S12 (mag (r0 + zv n' l')).length k12)) (by simp only [Nat.not_lt, Nat.not_le]; have := R0.lt; omega))
      have hr13 := (hr12.put2 (b := (w.heap.size + 1 + 1 + 1)) (u := (.bool (ng (r0 + zv n' l')))) (v := (.slice S12 (mag (r0 + zv n' l')).length k12)) (by simp only [Nat.not_lt, Nat.not_le]; have := R0.lt; omega))
      have hb13 := below_put2 (b := (w.heap.size + 1 + 1 + 1)) (u := (.bool (ng (r0 + zv n' l')))) (v := (.slice S12 (mag (r0 + zv n' l')).length k12)) (below_go hb11 hb12) (by omega)
      simp only [wput] at Q13 R13 hq13 hr13 hb13
      have hWz : ((w12.setCell ⟨(w.heap.size + 1 + 1 + 1), 0, none⟩ (.bool (ng (r0 + zv n' l')))).setCell ⟨(w.heap.size + 1 + 1 + 1), 1, none⟩ (.slice S12 (mag (r0 + zv n' l')).length k12)).heap.size = w12.heap.size := by simp
      generalize (w12.setCell ⟨(w.heap.size + 1 + 1 + 1), 0, none⟩ (.bool (ng (r0 + zv n' l')))).setCell ⟨(w.heap.size + 1 + 1 + 1), 1, none⟩ (.slice S12 (mag (r0 + zv n' l')).length k12) = W13 at *
      have qQ130 := Q13.c 0 rfl; have qQ131 := Q13.c 1 rfl; have qR130 := R13.c 0 rfl; have qR131 := R13.c 1 rfl
      clear A8 B8 Q8 R8 qA80 qA81 qB80 qB81 qQ80 qQ81 qR80 qR81
      have gq1 := Q13.f; have gq2 := R13.f; have gq3 := Q13.lt; have gq4 := R13.lt
      go_region_held3 (fun w' => w'.cell? ⟨w.heap.size + 1 + 1, 0, none⟩ = some (.bool (ng (q0 - 1))) ∧ w'.cell? ⟨w.heap.size + 1 + 1, 1, none⟩ = some (.slice S10 (mag (q0 - 1)).length k10) ∧ w'.cell? ⟨w.heap.size + 1 + 1 + 1, 0, none⟩ = some (.bool (ng (r0 + zv n' l'))) ∧ w'.cell? ⟨w.heap.size + 1 + 1 + 1, 1, none⟩ = some (.slice S12 (mag (r0 + zv n' l')).length k12)) (go_keep)
        (skip)
      go_wp2
      refine bodyPost_ret (ret_blk3 rfl rfl rfl rfl Q13.drew R13.drew Tryz.underlying28 (by kernel_rfl) Tryz.underlying28 (by kernel_rfl)) rfl ?_
      rw [HE.out.1, HE.out.2]
      exact ⟨_, _, _, _, rfl, hc10, hc12, hq13.drew.mono (fun k _ hk => by omega), hr13.drew.mono (fun k _ hk => by omega), below_drewN hb13 1⟩
  · have hd : decide (sgI r0 * sgI (zv n' l') < 0) = false := decide_eq_false hneg
    have HE := Asd.mk (HF4.out (by omega))
    clear HF3 HF4 HF1 HF2
    go_wp2_with fail
    have gq1 := Q8.f; have gq2 := R8.f; have gq3 := Q8.lt; have gq4 := R8.lt
    go_region_held3 (fun w' => w'.cell? ⟨w.heap.size + 1 + 1, 0, none⟩ = some (.bool (ng q0)) ∧ w'.cell? ⟨w.heap.size + 1 + 1, 1, none⟩ = some (.slice S1 (mag q0).length k1) ∧ w'.cell? ⟨w.heap.size + 1 + 1 + 1, 0, none⟩ = some (.bool (ng r0)) ∧ w'.cell? ⟨w.heap.size + 1 + 1 + 1, 1, none⟩ = some (.slice S5 (mag r0).length k5)) (go_keep)
      (skip)
    go_wp2
    refine bodyPost_ret (ret_blk3 rfl rfl rfl rfl Q8.drew R8.drew Tryz.underlying28 (by kernel_rfl) Tryz.underlying28 (by kernel_rfl)) rfl ?_
    rw [HE.out.1, HE.out.2]
    exact ⟨_, _, _, _, rfl, hc1, hc5, hq8.drew.mono (fun k _ hk => by omega), hr8.drew.mono (fun k _ hk => by omega), below_drewN hbA 1⟩
end Go.Proofs.YthjpkichpkomcaaGreatDoor
