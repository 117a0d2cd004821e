/- Works · Canon · FlLaw -/
import Derived.Test.YthjpkichpkomcaaGreatDoorBRowFigureNear18
import Derived.Test.YthjpkichpkomcaaGreatDoorBRowFigureNear14
import Derived.Outline
import Derived.WalkLawsBesides
import Derived.Deep.RegionWith
import Derived.Deep.RegionHeld3
import Derived.Deep.DrawnRows
import Derived.Deep.DeepMust
/- Layer 8: whole.Text; whole.Read of a lone sign; the law's examples (works). -/
namespace Go.Proofs.YthjpkichpkomcaaGreatDoor
open Go.RowKit Go.Proofs.YthjpkichpkomcaaGreatDoor.Big
set_option linter.unusedVariables false
set_option maxRecDepth 100000
attribute [local go_sem ↓] Go.wp_at_zero Go.wp_at_succ

theorem bytes_cons (b : UInt8) (l : List UInt8) : (⟨#[b]⟩ ++ ⟨l.toArray⟩ : ByteArray) = ⟨(b :: l).toArray⟩ := by
  apply ByteArray.ext
  simp
/-- A whole number's text. -/
def wholeT (z : Int) : List UInt8 := if z < 0 then 45 :: decT (-z) else decT z
theorem sgI_lt (z : Int) : decide (sgI z < 0) = decide (z < 0) := by
  unfold sgI; split
  · simp [*]
  · split <;> simp [*]
theorem zv_text {n : Bool} {l : List Int} (hw : Wd l) : wholeT (zv n l) = if zv n l < 0 then 45 :: decT (val l) else decT (val l) := by
  have := val_nonneg hw
  unfold wholeT
  split
  · rename_i h
    cases n
    · simp [zv] at h; omega
    · simp [zv]
  · rename_i h
    cases n
    · simp [zv]
    · simp [zv] at h ⊢
      rw [show val l = 0 by omega]; rfl

theorem decT_len {l : List Int} (hw : Wd l) : (decT (val l)).length ≤ 18 * l.length + 1 := by
  have h0 := val_nonneg hw
  rcases Int.lt_or_eq_of_le h0 with hp | hz
  · have hk : val l < 10 ^ (9 * (2 * l.length)) := by
      rcases Int.lt_or_le (val l) (10 ^ (9 * (2 * l.length))) with h1 | h1
      · exact h1
      · have := p9_bound (val_lt hw) (k := 2 * l.length) (by rw [p9_ten]; exact h1)
        omega
    rw [decT_pos hp hk]
    refine Nat.le_trans (List.IsSuffix.length_le (List.dropWhile_suffix _)) ?_
    rw [padD_length]; omega
  · rw [← hz]; simp [decT]

set_option maxHeartbeats 1000000 in
theorem whole_Text (ok : Nat → Prop) (n : Bool) (A : Option Addr) (c : Nat) (l : List Int) (w : World) (h : Rd ok w A l) (hc : l.length ≤ c) (hbig : l.length < 1000000000) :
    Calls Tryz.prog 69 #[.agg #[.bool n, .slice A l.length c]] w fun e w' => e = .returned (.string ⟨(wholeT (zv n l)).toArray⟩) ∧ Below w.heap.size w w' := by
  have HT := Asd.mk (zv_text (n := n) h.wd)
  have HL := Asd.mk (decT_len h.wd)
  go_enter Tryz.func69, Tryz.ntmps69
  go_wp2_with fail
  have A0 := Blk.new w [.bool n, .slice A l.length c] 28
  have rh := h.alloc (.cells #[.bool n, .slice A l.length c] 28)
  have hb0 := ((Below.refl w.heap.size w).alloc (Nat.le_refl _) (.cells #[.bool n, .slice A l.length c] 28))
  generalize w.alloc (.cells #[.bool n, .slice A l.length c] 28) = W at *
  clear h
  refine (digits_Text ok A c l _ rh hc hbig).mono ?_
  rintro e w1 ⟨rfl, hb1⟩
  have A1 := A0.below hb1
  have rh1 := rh.below hb1
  have c0 := A1.c 0 rfl
  have c1 := A1.c 1 rfl
  go_wp2_with fail
  refine (whole_Sign ok n A c l _ rh1 hc).mono ?_
  rintro e w2 ⟨rfl, hb2⟩
  have hs := sgI_lt (zv n l)
  by_cases hneg : zv n l < 0
  · have hd : decide (sgI (zv n l) < 0) = true := by rw [hs]; exact decide_eq_true hneg
    have HT2 : Asd (wholeT (zv n l) = 45 :: decT (val l)) := ⟨by rw [HT.out, if_pos hneg]⟩
    clear hs hneg
    have hl1 : ¬ 9223372036854775807 < 1 + (decT (val l)).length := by have := HL.out; omega
    go_wp2
    go_ret
    refine ⟨?_, below_go (below_go hb0 hb1) hb2⟩
    rw [HT2.out]
    show Ending.returned (.string (_ ++ _)) = _
    congr 2
  · have hd : decide (sgI (zv n l) < 0) = false := by rw [hs]; exact decide_eq_false hneg
    have HT2 : Asd (wholeT (zv n l) = decT (val l)) := ⟨by rw [HT.out, if_neg hneg]⟩
    clear hs hneg
    go_wp2
    go_ret
    exact ⟨by rw [HT2.out]; rfl, below_go (below_go hb0 hb1) hb2⟩

/- PART 2 -/
/-- What stands behind a sign. -/
def restOf (l : List UInt8) : List UInt8 := Lib.trimPrefix l [45]

theorem ret_blk2 {fn : Func} {p q : Tmp} {ty ty' : TypeId} {tmps : Array Value} {w : World} {g g' : Nat} {vs vs' : List Value} {fs fs'} (h : fn.results = #[.cell p ty, .cell q ty']) (hp : tmps.getD p undef = .pointer (some ⟨g, 0, none⟩)) (hp' : tmps.getD q undef = .pointer (some ⟨g', 0, none⟩)) (hb : Blk w g vs) (hb' : Blk w g' vs')
    (hu : Tryz.prog.underlying ty = some (.struct fs)) (hi : (Tryz.prog.info? ty).map (·.size) = some vs.length) (hu' : Tryz.prog.underlying ty' = some (.struct fs')) (hi' : (Tryz.prog.info? ty').map (·.size) = some vs'.length) : (results fn tmps).run Tryz.prog w = .ok (.tuple #[.agg vs.toArray, .agg vs'.toArray]) w := by
  obtain ⟨t, hg⟩ := hb
  obtain ⟨t', hg'⟩ := hb'
  have e1 := run_loadVar_row w g t ty _ _ _ hg hu rfl (by simpa using hi)
  have e2 := run_loadVar_row w g' t' ty' _ _ _ hg' hu' rfl (by simpa using hi')
  have hp2 : tmps[p]?.getD undef = .pointer (some ⟨g, 0, none⟩) := by simpa using hp
  have hp3 : tmps[q]?.getD undef = .pointer (some ⟨g', 0, none⟩) := by simpa using hp'
  simp [results, h, hp2, hp3, asAddr, e1, e2]

set_option maxHeartbeats 2000000 in
theorem whole_Read_no (l : List UInt8) (hl : l.length < 1000000000000) (hb : 0 ≤ wrongI (restOf l)) (w : World) :
    Calls Tryz.prog 63 #[.string ⟨l.toArray⟩] w fun e w' => e = .returned (.tuple #[.agg #[.bool false, .slice none 0 0], .agg #[.int .i64 1, .int .i64 0, .int .i64 0, .int .i64 (wrongI (restOf l) + ((l.length : Int) - ((restOf l).length : Int)))]]) ∧ Below w.heap.size w w' := by
  have hrl : (restOf l).length ≤ l.length := by unfold restOf Lib.trimPrefix; split <;> simp
  have hwl : wrongI (restOf l) ≤ (restOf l).length := wrongI_le _
  have HRD := Asd.mk (digits_Read_no (restOf l) (by omega) hb)
  have hs1 : (⟨l.toArray⟩ : ByteArray).size = l.length := by simp [ByteArray.size]
  have hs2 : (⟨(restOf l).toArray⟩ : ByteArray).size = (restOf l).length := by simp [ByteArray.size]
  go_enter Tryz.func63, Tryz.ntmps63
  go_wp2_with fail
  have R0 := (Blk.new w [.bool false, .slice none 0 0] 28).alloc (.cells #[.int .i64 0, .int .i64 0, .int .i64 0, .int .i64 0] 35)
  have F0 := Blk.new (w.alloc (.cells #[.bool false, .slice none 0 0] 28)) [.int .i64 0, .int .i64 0, .int .i64 0, .int .i64 0] 35
  have hb0 := (((Below.refl w.heap.size w).alloc (Nat.le_refl _) (.cells #[.bool false, .slice none 0 0] 28)).alloc (by simp) (.cells #[.int .i64 0, .int .i64 0, .int .i64 0, .int .i64 0] 35))
  simp only [World.size_alloc] at F0
  generalize (w.alloc (.cells #[.bool false, .slice none 0 0] 28)).alloc (.cells #[.int .i64 0, .int .i64 0, .int .i64 0, .int .i64 0] 35) = W at *
  refine (Sh.strings_CutPrefix _ _ _).mono ?_
  rintro e w1 ⟨rfl, rfl⟩
  rw [show Lib.trimPrefix (⟨l.toArray⟩ : ByteArray).data.toList (⟨#[45]⟩ : ByteArray).data.toList = restOf l from rfl]
  generalize Lib.hasPrefix _ _ = neg
  generalize hRS : restOf l = r at *
  go_wp2_with fail
  refine (HRD.out _).mono ?_
  rintro e w2 ⟨rfl, hb2⟩
  go_wp2_with fail
  generalize hv : wrongI r + ((l.length : Int) - (r.length : Int)) = v at *
  have R1 := (R0.below hb2).alloc (.cells #[.int .i64 1, .int .i64 0, .int .i64 0, .int .i64 v] 35)
  have F1 := (F0.below hb2).alloc (.cells #[.int .i64 1, .int .i64 0, .int .i64 0, .int .i64 v] 35)
  have G1 := Blk.new w2 [.int .i64 1, .int .i64 0, .int .i64 0, .int .i64 v] 35
  have hb3 := (below_go hb0 hb2).alloc (by have := hb0.size; have := hb2.size; omega) (.cells #[.int .i64 1, .int .i64 0, .int .i64 0, .int .i64 v] 35)
  have hlt1 := (R0.below hb2).lt
  have hlt2 := (F0.below hb2).lt
  generalize hgb : w2.heap.size = gb at *
  generalize w2.alloc (.cells #[.int .i64 1, .int .i64 0, .int .i64 0, .int .i64 v] 35) = W3 at *
  have g0 := G1.c 0 rfl; have g1 := G1.c 1 rfl; have g2 := G1.c 2 rfl; have g3 := G1.c 3 rfl
  have r0 := R1.c 0 rfl; have r1 := R1.c 1 rfl
  have f0 := F1.c 0 rfl; have f1 := F1.c 1 rfl; have f2 := F1.c 2 rfl; have f3 := F1.c 3 rfl
  have rf := R1.f; have ff := F1.f; have rl := R1.lt; have fl := F1.lt
  have n1 : ¬ (w.heap.size = gb) := by omega
  have n2 : ¬ (gb = w.heap.size) := by omega
  have n3 : ¬ (w.heap.size + 1 = gb) := by omega
  have n4 : ¬ (gb = w.heap.size + 1) := by omega
  go_region_with (fail)
  all_goals
    go_wp2
    refine bodyPost_ret (ret_blk2 rfl rfl rfl ((((((R1.set 0 _).set 1 _).far (by simp) _).far (by simp) _).far (by simp) _).far (by simp) _).drew (((((((F1.far (by simp) _).far (by simp) _).set 0 _).set 1 _).set 2 _).set 3 _).drew) Tryz.underlying28 (by kernel_rfl) Tryz.underlying35 (by kernel_rfl)) rfl ?_
    rw [hRS, hv]
    refine ⟨rfl, ?_⟩
    exact below_drewN ((((((hb3.setCell (by simp) _).setCell (by simp) _).setCell (by simp) _).setCell (by simp) _).setCell (by simp) _).setCell (by simp) _) 1
end Go.Proofs.YthjpkichpkomcaaGreatDoor
/- Layer 8: the contracts at right whole numbers, by their values. -/
namespace Go.Proofs.YthjpkichpkomcaaGreatDoor
open Go.RowKit Go.Proofs.YthjpkichpkomcaaGreatDoor.Big
set_option linter.unusedVariables false
set_option maxRecDepth 100000

/-- A right whole number as a value. -/
abbrev wv (z : Int) (A : Option Addr) (c : Nat) : Value := .agg #[.bool (ng z), .slice A (mag z).length c]
theorem cSign {ok : Nat → Prop} {z : Int} {A : Option Addr} {c : Nat} {w : World} (h : Rd ok w A (mag z)) (hc : (mag z).length ≤ c) :
    Calls Tryz.prog 71 #[wv z A c] w fun e w' => e = .returned (.int .i64 (sgI z)) ∧ Below w.heap.size w w' := by
  have := whole_Sign ok (ng z) A c _ w h hc; rwa [zv_mag] at this
theorem cText {ok : Nat → Prop} {z : Int} {A : Option Addr} {c : Nat} {w : World} (h : Rd ok w A (mag z)) (hc : (mag z).length ≤ c) (hb : (mag z).length < 1000000000) :
    Calls Tryz.prog 69 #[wv z A c] w fun e w' => e = .returned (.string ⟨(wholeT z).toArray⟩) ∧ Below w.heap.size w w' := by
  have := whole_Text ok (ng z) A c _ w h hc hb; rwa [zv_mag] at this
theorem cNeg {ok : Nat → Prop} {z : Int} {A : Option Addr} {c : Nat} {w : World} (h : Rd ok w A (mag z)) (hc : (mag z).length ≤ c) :
    Calls Tryz.prog 136 #[wv z A c] w (WhOut (-z) w) := by
  have := whole_Neg ok (ng z) A c _ w h hc; rwa [zv_mag] at this
section
variable {ok ok' : Nat → Prop} {z z' : Int} {A A' : Option Addr} {c c' : Nat} {w : World}
theorem cAdd (h : Rd ok w A (mag z)) (hc : (mag z).length ≤ c) (h' : Rd ok' w A' (mag z')) (hc' : (mag z').length ≤ c') (hb : (mag z).length < 1000000) (hb' : (mag z').length < 1000000) :
    Calls Tryz.prog 80 #[wv z A c, wv z' A' c'] w (WhOut (z + z') w) := by
  have := whole_Add ok (ng z) A c _ ok' (ng z') A' c' _ w h hc h' hc' (by omega) (by omega); rwa [zv_mag, zv_mag] at this
theorem cSub (h : Rd ok w A (mag z)) (hc : (mag z).length ≤ c) (h' : Rd ok' w A' (mag z')) (hc' : (mag z').length ≤ c') (hb : (mag z).length < 1000000) (hb' : (mag z').length < 1000000) :
    Calls Tryz.prog 77 #[wv z A c, wv z' A' c'] w (WhOut (z - z') w) := by
  have := whole_Sub ok (ng z) A c _ ok' (ng z') A' c' _ w h hc h' hc' (by omega) (by omega); rwa [zv_mag, zv_mag] at this
theorem cMul (h : Rd ok w A (mag z)) (hc : (mag z).length ≤ c) (h' : Rd ok' w A' (mag z')) (hc' : (mag z').length ≤ c') (hb : (mag z).length < 1000000) (hb' : (mag z').length < 1000000) :
    Calls Tryz.prog 81 #[wv z A c, wv z' A' c'] w (WhOut (z * z') w) := by
  have := whole_Mul ok (ng z) A c _ ok' (ng z') A' c' _ w h hc h' hc' (by omega) (by omega); rwa [zv_mag, zv_mag] at this
theorem cCmp (h : Rd ok w A (mag z)) (hc : (mag z).length ≤ c) (h' : Rd ok' w A' (mag z')) (hc' : (mag z').length ≤ c') (hb : (mag z).length < 1000000) (hb' : (mag z').length < 1000000) :
    Calls Tryz.prog 83 #[wv z A c, wv z' A' c'] w fun e w' => e = .returned (.int .i64 (sgI (z - z'))) ∧ Below w.heap.size w w' := by
  have := whole_Cmp ok (ng z) A c _ ok' (ng z') A' c' _ w h hc h' hc' (by omega) (by omega); rwa [zv_mag, zv_mag] at this
/-- What whole.Floor gives. -/
def FlOut (q r : Int) (w : World) (e : Ending) (w' : World) : Prop := ∃ A1 c1 A2 c2, e = .returned (.tuple #[.agg #[.bool (ng q), .slice A1 (mag q).length c1], .agg #[.bool (ng r), .slice A2 (mag r).length c2], .bool true]) ∧ (mag q).length ≤ c1 ∧ (mag r).length ≤ c2 ∧ Rd (fun k => w.heap.size ≤ k) w' A1 (mag q) ∧ Rd (fun k => w.heap.size ≤ k) w' A2 (mag r) ∧ Below w.heap.size w w'
theorem cFloor (h : Rd ok w A (mag z)) (hc : (mag z).length ≤ c) (h' : Rd ok' w A' (mag z')) (hc' : (mag z').length ≤ c') (hb : (mag z).length < 1000000) (hb' : (mag z').length < 1000000) (hz : z' ≠ 0) :
    Calls Tryz.prog 75 #[wv z A c, wv z' A' c'] w (FlOut (fq z z') (fr z z') w) := by
  have := whole_Floor ok (ng z) A c _ ok' (ng z') A' c' _ w h hc h' hc' (by omega) (by omega) (by rw [val_mag]; omega); rwa [zv_mag, zv_mag] at this
end
end Go.Proofs.YthjpkichpkomcaaGreatDoor
/- Layer 8: what a floor and what is left are (plain laws); lengths of sums and products. -/
namespace Go.Proofs.YthjpkichpkomcaaGreatDoor
open Go.RowKit Go.Proofs.YthjpkichpkomcaaGreatDoor.Big

theorem mag_lt (z : Int) : (z.natAbs : Int) < pw (mag z).length := lt_pw_rep (by omega)
theorem mag_len_of {z : Int} {m : Nat} (h : (mag z).length ≤ m) : (z.natAbs : Int) < pw m := Int.lt_of_lt_of_le (mag_lt z) (pw_mono h)
theorem len_add {a b : Int} {m : Nat} (ha : (mag a).length ≤ m) (hb : (mag b).length ≤ m) : (mag (a + b)).length ≤ m + 1 := by
  have h1 := mag_len_of ha; have h2 := mag_len_of hb; have h3 := pw_pos m
  refine mag_len _ _ ?_
  rw [pw_succ]; omega
theorem len_sub {a b : Int} {m : Nat} (ha : (mag a).length ≤ m) (hb : (mag b).length ≤ m) : (mag (a - b)).length ≤ m + 1 := by
  have h1 := mag_len_of ha; have h2 := mag_len_of hb; have h3 := pw_pos m
  refine mag_len _ _ ?_
  rw [pw_succ]; omega
theorem len_mul {a b : Int} {m n : Nat} (ha : (mag a).length ≤ m) (hb : (mag b).length ≤ n) : (mag (a * b)).length ≤ m + n := by
  have h1 := mag_len_of ha; have h2 := mag_len_of hb; have h3 := pw_pos m; have h4 := pw_pos n
  refine mag_len _ _ ?_
  rw [Int.natAbs_mul, Int.natCast_mul, pw_add]
  rcases Int.lt_or_eq_of_le (show 0 ≤ (b.natAbs : Int) by omega) with h5 | h5
  · exact Int.lt_of_lt_of_le (Int.mul_lt_mul_of_pos_right h1 h5) (Int.mul_le_mul_of_nonneg_left (Int.le_of_lt h2) (Int.le_of_lt h3))
  · rw [← h5, Int.mul_zero]; exact Int.mul_pos h3 h4
theorem len_le {a b : Int} (h : (a.natAbs : Int) ≤ (b.natAbs : Int)) : (mag a).length ≤ (mag b).length := mag_len _ _ (Int.lt_of_le_of_lt h (mag_lt b))
theorem len_zv {n : Bool} {l : List Int} (hw : Wd l) {m : Nat} (h : l.length ≤ m) : (mag (zv n l)).length ≤ m := by
  refine mag_len _ _ ?_
  rw [natAbs_zv hw]; exact Int.lt_of_lt_of_le (val_lt hw) (pw_mono h)

theorem fr_pos {a b : Int} (hb : 0 < b) : 0 ≤ fr a b ∧ fr a b < b := by
  have h1 := Int.mul_ediv_add_emod a b
  have h2 := Int.emod_nonneg a (show b ≠ 0 by omega)
  have h3 := Int.emod_lt_of_pos a hb
  have h4 : a / b * b = b * (a / b) := Int.mul_comm _ _
  unfold fr fq
  rw [if_pos hb]
  omega
theorem fr_neg {a b : Int} (hb : b < 0) : fr a b ≤ 0 ∧ b < fr a b := by
  have h1 := Int.mul_ediv_add_emod (-a) (-b)
  have h2 := Int.emod_nonneg (-a) (show -b ≠ 0 by omega)
  have h3 := Int.emod_lt_of_pos (-a) (show 0 < -b by omega)
  have h4 : (-a) / (-b) * b = -((-b) * ((-a) / (-b))) := by rw [Int.neg_mul, Int.neg_neg, Int.mul_comm]
  unfold fr fq
  rw [if_neg (by omega)]
  omega
theorem fq_fr (a b : Int) : fq a b * b + fr a b = a := by unfold fr; omega
theorem fr_abs {a b : Int} (hb : b ≠ 0) : ((fr a b).natAbs : Int) < (b.natAbs : Int) := by
  rcases Int.lt_or_gt_of_ne hb with h | h
  · have := fr_neg (a := a) h; omega
  · have := fr_pos (a := a) h; omega
theorem fq_abs {a b : Int} (hb : b ≠ 0) : ((fq a b).natAbs : Int) ≤ ((fq a b * b).natAbs : Int) := by
  rw [Int.natAbs_mul, Int.natCast_mul]
  have h1 : (1 : Int) ≤ (b.natAbs : Int) := by omega
  have := Int.mul_le_mul_of_nonneg_left h1 (show 0 ≤ ((fq a b).natAbs : Int) by omega)
  omega
theorem len_fr {a b : Int} (hb : b ≠ 0) : (mag (fr a b)).length ≤ (mag b).length := len_le (Int.le_of_lt (fr_abs hb))
theorem len_fqb {a b : Int} (hb : b ≠ 0) {m : Nat} (h1 : (mag a).length ≤ m) (h2 : (mag b).length ≤ m) : (mag (fq a b * b)).length ≤ m + 1 := by
  have h := len_sub h1 (Nat.le_trans (len_fr (a := a) hb) h2)
  rwa [show a - fr a b = fq a b * b by have := fq_fr a b; omega] at h
theorem len_fq {a b : Int} (hb : b ≠ 0) {m : Nat} (h1 : (mag a).length ≤ m) (h2 : (mag b).length ≤ m) : (mag (fq a b)).length ≤ m + 1 :=
  Nat.le_trans (len_le (fq_abs hb)) (len_fqb hb h1 h2)

theorem floors_sum (a b : Int) : sgI (fq a b * b + fr a b - a) = 0 := by rw [fq_fr, Int.sub_self]; rfl
theorem floors_sign {a b : Int} (hb : b ≠ 0) : 0 ≤ sgI (fr a b) * sgI b := by
  rcases Int.lt_or_gt_of_ne hb with h | h
  · rw [sgI_neg h]
    have := fr_neg (a := a) h
    rcases Int.lt_or_eq_of_le this.1 with h2 | h2
    · rw [sgI_neg h2]; decide
    · rw [h2]; decide
  · rw [sgI_pos h]
    have := fr_pos (a := a) h
    rcases Int.lt_or_eq_of_le this.1 with h2 | h2
    · rw [sgI_pos h2]; decide
    · rw [← h2]; decide
theorem floors_near {a b : Int} (hb : b ≠ 0) : sgI (b * b - fr a b * fr a b) = 1 := by
  have h := fr_abs (a := a) hb
  refine sgI_pos ?_
  generalize fr a b = r at *
  have e1 : b * b = (b.natAbs : Int) * (b.natAbs : Int) := by rw [← Int.natCast_mul, Int.natAbs_mul_self]
  have e2 : r * r = (r.natAbs : Int) * (r.natAbs : Int) := by rw [← Int.natCast_mul, Int.natAbs_mul_self]
  rw [e1, e2]
  generalize (b.natAbs : Int) = x at *
  have hr : 0 ≤ (r.natAbs : Int) := by omega
  generalize (r.natAbs : Int) = y at *
  have h1 := Int.mul_lt_mul_of_pos_right h (show 0 < x by omega)
  have h2 := Int.mul_le_mul_of_nonneg_left (Int.le_of_lt h) hr
  omega
end Go.Proofs.YthjpkichpkomcaaGreatDoor
