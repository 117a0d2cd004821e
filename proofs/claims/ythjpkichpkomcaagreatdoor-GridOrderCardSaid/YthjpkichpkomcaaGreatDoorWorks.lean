/- Layer 8: whole.Text; whole.Read of a lone sign; the law's examples (works). -/
import Derived.Test.YthjpkichpkomcaaGreatDoorDig3
import Derived.Test.YthjpkichpkomcaaGreatDoorWhole4
import Derived.Outline
import Derived.WalkLawsBesides
import Derived.Deep.RegionWith
import Derived.Deep.RegionHeld3
import Derived.Deep.DrawnRows
import Derived.Deep.DeepMust
namespace Go.Proofs.YthjpkichpkomcaaGreatDoor
open Go.RowKit Go.Proofs.YthjpkichpkomcaaGreatDoor.Big
set_option linter.unusedVariables false
set_option maxRecDepth 100000
attribute [local go_sem ↓] Go.wp_at_zero Go.wp_at_succ

theorem bytes_cons (b : UInt8) (l : List UInt8) : (⟨#[b]⟩ ++ ⟨l.toArray⟩ : ByteArray) = ⟨(b :: l).toArray⟩ := by
  apply ByteArray.ext
  simp
/-- A whole number's text. -/
def wholeT (z : Int) : List UInt8 := if z < 0 then 45 :: decT (-z) else decT z
theorem sgI_lt (z : Int) : decide (sgI z < 0) = decide (z < 0) := by
  unfold sgI; split
  · simp [*]
  · split <;> simp [*]
theorem zv_text {n : Bool} {l : List Int} (hw : Wd l) : wholeT (zv n l) = if zv n l < 0 then 45 :: decT (val l) else decT (val l) := by
  have := val_nonneg hw
  unfold wholeT
  split
  · rename_i h
    cases n
    · simp [zv] at h; omega
    · simp [zv]
  · rename_i h
    cases n
    · simp [zv]
    · simp [zv] at h ⊢
      rw [show val l = 0 by omega]; rfl

theorem decT_len {l : List Int} (hw : Wd l) : (decT (val l)).length ≤ 18 * l.length + 1 := by
  have h0 := val_nonneg hw
  rcases Int.lt_or_eq_of_le h0 with hp | hz
  · have hk : val l < 10 ^ (9 * (2 * l.length)) := by
      rcases Int.lt_or_le (val l) (10 ^ (9 * (2 * l.length))) with h1 | h1
      · exact h1
      · have := p9_bound (val_lt hw) (k := 2 * l.length) (by rw [p9_ten]; exact h1)
        omega
    rw [decT_pos hp hk]
    refine Nat.le_trans (List.IsSuffix.length_le (List.dropWhile_suffix _)) ?_
    rw [padD_length]; omega
  · rw [← hz]; simp [decT]

set_option maxHeartbeats 1000000 in
theorem whole_Text (ok : Nat → Prop) (n : Bool) (A : Option Addr) (c : Nat) (l : List Int) (w : World) (h : Rd ok w A l) (hc : l.length ≤ c) (hbig : l.length < 1000000000) :
    Calls Tryz.prog 69 #[.agg #[.bool n, .slice A l.length c]] w fun e w' => e = .returned (.string ⟨(wholeT (zv n l)).toArray⟩) ∧ Below w.heap.size w w' := by
  have HT := Asd.mk (zv_text (n := n) h.wd)
  have HL := Asd.mk (decT_len h.wd)
  go_enter Tryz.func69, Tryz.ntmps69
  go_wp2_with fail
  have A0 := Blk.new w [.bool n, .slice A l.length c] 28
  have rh := h.alloc (.cells #[.bool n, .slice A l.length c] 28)
  have hb0 := ((Below.refl w.heap.size w).alloc (Nat.le_refl _) (.cells #[.bool n, .slice A l.length c] 28))
  generalize w.alloc (.cells #[.bool n, .slice A l.length c] 28) = W at *
  clear h
  refine (digits_Text ok A c l _ rh hc hbig).mono ?_
  rintro e w1 ⟨rfl, hb1⟩
  have A1 := A0.below hb1
  have rh1 := rh.below hb1
  have c0 := A1.c 0 rfl
  have c1 := A1.c 1 rfl
  go_wp2_with fail
  refine (whole_Sign ok n A c l _ rh1 hc).mono ?_
  rintro e w2 ⟨rfl, hb2⟩
  have hs := sgI_lt (zv n l)
  by_cases hneg : zv n l < 0
  · have hd : decide (sgI (zv n l) < 0) = true := by rw [hs]; exact decide_eq_true hneg
    have HT2 : Asd (wholeT (zv n l) = 45 :: decT (val l)) := ⟨by rw [HT.out, if_pos hneg]⟩
    clear hs hneg
    have hl1 : ¬ 9223372036854775807 < 1 + (decT (val l)).length := by have := HL.out; omega
    go_wp2
    go_ret
    refine ⟨?_, below_go (below_go hb0 hb1) hb2⟩
    rw [HT2.out]
    show Ending.returned (.string (_ ++ _)) = _
    congr 2
  · have hd : decide (sgI (zv n l) < 0) = false := by rw [hs]; exact decide_eq_false hneg
    have HT2 : Asd (wholeT (zv n l) = decT (val l)) := ⟨by rw [HT.out, if_neg hneg]⟩
    clear hs hneg
    go_wp2
    go_ret
    exact ⟨by rw [HT2.out]; rfl, below_go (below_go hb0 hb1) hb2⟩

/- PART 2 -/
/-- What stands behind a sign. -/
def restOf (l : List UInt8) : List UInt8 := Lib.trimPrefix l [45]

theorem ret_blk2 {fn : Func} {p q : Tmp} {ty ty' : TypeId} {tmps : Array Value} {w : World} {g g' : Nat} {vs vs' : List Value} {fs fs'} (h : fn.results = #[.cell p ty, .cell q ty']) (hp : tmps.getD p undef = .pointer (some ⟨g, 0, none⟩)) (hp' : tmps.getD q undef = .pointer (some ⟨g', 0, none⟩)) (hb : Blk w g vs) (hb' : Blk w g' vs')
    (hu : Tryz.prog.underlying ty = some (.struct fs)) (hi : (Tryz.prog.info? ty).map (·.size) = some vs.length) (hu' : Tryz.prog.underlying ty' = some (.struct fs')) (hi' : (Tryz.prog.info? ty').map (·.size) = some vs'.length) : (results fn tmps).run Tryz.prog w = .ok (.tuple #[.agg vs.toArray, .agg vs'.toArray]) w := by
  obtain ⟨t, hg⟩ := hb
  obtain ⟨t', hg'⟩ := hb'
  have e1 := run_loadVar_row w g t ty _ _ _ hg hu rfl (by simpa using hi)
  have e2 := run_loadVar_row w g' t' ty' _ _ _ hg' hu' rfl (by simpa using hi')
  have hp2 : tmps[p]?.getD undef = .pointer (some ⟨g, 0, none⟩) := by simpa using hp
  have hp3 : tmps[q]?.getD undef = .pointer (some ⟨g', 0, none⟩) := by simpa using hp'
  simp [results, h, hp2, hp3, asAddr, e1, e2]

set_option maxHeartbeats 2000000 in
theorem whole_Read_no (l : List UInt8) (hl : l.length < 1000000000000) (hb : 0 ≤ wrongI (restOf l)) (w : World) :
    Calls Tryz.prog 63 #[.string ⟨l.toArray⟩] w fun e w' => e = .returned (.tuple #[.agg #[.bool false, .slice none 0 0], .agg #[.int .i64 1, .int .i64 0, .int .i64 0, .int .i64 (wrongI (restOf l) + ((l.length : Int) - ((restOf l).length : Int)))]]) ∧ Below w.heap.size w w' := by
  have hrl : (restOf l).length ≤ l.length := by unfold restOf Lib.trimPrefix; split <;> simp
  have hwl : wrongI (restOf l) ≤ (restOf l).length := wrongI_le _
  have HRD := Asd.mk (digits_Read_no (restOf l) (by omega) hb)
  have hs1 : (⟨l.toArray⟩ : ByteArray).size = l.length := by simp [ByteArray.size]
  have hs2 : (⟨(restOf l).toArray⟩ : ByteArray).size = (restOf l).length := by simp [ByteArray.size]
  go_enter Tryz.func63, Tryz.ntmps63
  go_wp2_with fail
  have R0 := (Blk.new w [.bool false, .slice none 0 0] 28).alloc (.cells #[.int .i64 0, .int .i64 0, .int .i64 0, .int .i64 0] 35)
  have F0 := Blk.new (w.alloc (.cells #[.bool false, .slice none 0 0] 28)) [.int .i64 0, .int .i64 0, .int .i64 0, .int .i64 0] 35
  have hb0 := (((Below.refl w.heap.size w).alloc (Nat.le_refl _) (.cells #[.bool false, .slice none 0 0] 28)).alloc (by simp) (.cells #[.int .i64 0, .int .i64 0, .int .i64 0, .int .i64 0] 35))
  simp only [World.size_alloc] at F0
  generalize (w.alloc (.cells #[.bool false, .slice none 0 0] 28)).alloc (.cells #[.int .i64 0, .int .i64 0, .int .i64 0, .int .i64 0] 35) = W at *
  refine (Sh.strings_CutPrefix _ _ _).mono ?_
  rintro e w1 ⟨rfl, rfl⟩
  rw [show Lib.trimPrefix (⟨l.toArray⟩ : ByteArray).data.toList (⟨#[45]⟩ : ByteArray).data.toList = restOf l from rfl]
  generalize Lib.hasPrefix _ _ = neg
  generalize hRS : restOf l = r at *
  go_wp2_with fail
  refine (HRD.out _).mono ?_
  rintro e w2 ⟨rfl, hb2⟩
  go_wp2_with fail
  generalize hv : wrongI r + ((l.length : Int) - (r.length : Int)) = v at *
  have R1 := (R0.below hb2).alloc (.cells #[.int .i64 1, .int .i64 0, .int .i64 0, .int .i64 v] 35)
  have F1 := (F0.below hb2).alloc (.cells #[.int .i64 1, .int .i64 0, .int .i64 0, .int .i64 v] 35)
  have G1 := Blk.new w2 [.int .i64 1, .int .i64 0, .int .i64 0, .int .i64 v] 35
  have hb3 := (below_go hb0 hb2).alloc (by have := hb0.size; have := hb2.size; omega) (.cells #[.int .i64 1, .int .i64 0, .int .i64 0, .int .i64 v] 35)
  have hlt1 := (R0.below hb2).lt
  have hlt2 := (F0.below hb2).lt
  generalize hgb : w2.heap.size = gb at *
  generalize w2.alloc (.cells #[.int .i64 1, .int .i64 0, .int .i64 0, .int .i64 v] 35) = W3 at *
  have g0 := G1.c 0 rfl; have g1 := G1.c 1 rfl; have g2 := G1.c 2 rfl; have g3 := G1.c 3 rfl
  have r0 := R1.c 0 rfl; have r1 := R1.c 1 rfl
  have f0 := F1.c 0 rfl; have f1 := F1.c 1 rfl; have f2 := F1.c 2 rfl; have f3 := F1.c 3 rfl
  have rf := R1.f; have ff := F1.f; have rl := R1.lt; have fl := F1.lt
  have n1 : ¬ (w.heap.size = gb) := by omega
  have n2 : ¬ (gb = w.heap.size) := by omega
  have n3 : ¬ (w.heap.size + 1 = gb) := by omega
  have n4 : ¬ (gb = w.heap.size + 1) := by omega
  go_region_with (fail)
  all_goals
    go_wp2
    refine bodyPost_ret (ret_blk2 rfl rfl rfl ((((((R1.set 0 _).set 1 _).far (by simp) _).far (by simp) _).far (by simp) _).far (by simp) _).drew (((((((F1.far (by simp) _).far (by simp) _).set 0 _).set 1 _).set 2 _).set 3 _).drew) Tryz.underlying28 (by kernel_rfl) Tryz.underlying35 (by kernel_rfl)) rfl ?_
    rw [hRS, hv]
    refine ⟨rfl, ?_⟩
    exact below_drewN ((((((hb3.setCell (by simp) _).setCell (by simp) _).setCell (by simp) _).setCell (by simp) _).setCell (by simp) _).setCell (by simp) _) 1
end Go.Proofs.YthjpkichpkomcaaGreatDoor
