/- FigR -/
import Derived.Test.YthjpkichpkomcaaGreatDoorBRowFigureNear43
import Derived.Test.YthjpkichpkomcaaGreatDoorBRowFigureNear36
import Derived.Test.YthjpkichpkomcaaGreatDoorBRowFigureNear19
import Derived.Deep.CutRange
import Derived.Deep.RegionWith
import Derived.Deep.RegionHeld3
/- Layer 10: fractions to so many places (figure.Round). -/
namespace Go.Proofs.YthjpkichpkomcaaGreatDoor
open Go.RowKit Go.Proofs.YthjpkichpkomcaaGreatDoor.Big
set_option linter.unusedVariables false
set_option maxRecDepth 100000
attribute [local go_sem ↓] Go.wp_at_zero Go.wp_at_succ

/-- A fraction to p places: how many of the last place. -/
def roundN (q : Rat) (p : Nat) : Int := (absQ q * ((10 ^ p : Int) : Rat) + 1 / 2).floor
/-- And as a text. -/
def behindT (N : Int) (p : Nat) : List UInt8 := if p = 0 then [] else 46 :: (List.replicate (p - (decT (N % 10 ^ p)).length) 48 ++ decT (N % 10 ^ p))
def signT (q : Rat) (N : Int) : List UInt8 := if q.num < 0 ∧ N ≠ 0 then [45] else []
def roundT (q : Rat) (p : Nat) : List UInt8 := signT q (roundN q p) ++ (decT (roundN q p / 10 ^ p) ++ behindT (roundN q p) p)

theorem absQ_nonneg (q : Rat) : 0 ≤ absQ q := by
  rw [← Rat.num_nonneg, absQ_num]; omega
theorem roundN_nonneg (q : Rat) (p : Nat) : 0 ≤ roundN q p := by
  unfold roundN
  rw [Rat.le_floor_iff]
  have h1 := absQ_nonneg q
  have h2 : (0 : Rat) ≤ ((10 ^ p : Int) : Rat) := by
    rw [← Rat.num_nonneg, Rat.num_intCast]
    exact Int.le_of_lt (Int.pow_pos (by decide))
  have h3 := Rat.mul_nonneg h1 h2
  have h4 : (0 : Rat) ≤ 1 / 2 := by decide +kernel
  have := Rat.add_nonneg h3 h4
  simpa using this
theorem sz_abs {k : Nat} {q : Rat} (h : Sz k q) : Sz k (absQ q) := ⟨by rw [absQ_mag]; exact h.1, by rw [absQ_den]; exact h.2⟩
theorem floor_sz {k : Nat} {q : Rat} (h : Sz k q) : (mag q.floor).length ≤ k + 1 := by
  rw [Rat.floor_def]
  have hd := q.den_pos
  refine mag_len _ _ ?_
  have h1 := mag_len_of h.1
  rw [pw_succ]
  have hp := pw_pos k
  have h2 : (q.num / (q.den : Int)).natAbs ≤ q.num.natAbs + 1 := by
    have hd1 : (0 : Int) < (q.den : Int) := by omega
    have a1 := Int.mul_ediv_add_emod q.num q.den
    have a2 := Int.emod_nonneg q.num (show (q.den : Int) ≠ 0 by omega)
    have a3 := Int.emod_lt_of_pos q.num hd1
    rcases Int.lt_or_le q.num 0 with hn | hn
    · have b1 : q.num / (q.den : Int) ≤ 0 := by
        exact Int.le_of_lt (Int.ediv_neg_of_neg_of_pos hn hd1)
      have b2 : q.num - 1 ≤ q.num / (q.den : Int) := by
        rw [Int.le_ediv_iff_mul_le hd1]
        have : (q.num - 1) * (q.den : Int) ≤ (q.num - 1) * 1 := by
          apply Int.mul_le_mul_of_nonpos_left <;> omega
        omega
      omega
    · have b1 := Int.ediv_nonneg hn (Int.le_of_lt hd1)
      have b2 : q.num / (q.den : Int) ≤ q.num := Int.ediv_le_self _ hn
      omega
  omega
theorem decT_short {z : Int} {p : Nat} (h0 : 0 ≤ z) (h : z < 10 ^ p) (hp : p ≠ 0) : (decT z).length ≤ p := by
  rcases Int.lt_or_eq_of_le h0 with h1 | h1
  · rw [decT_pos h1 h]
    refine Nat.le_trans (List.IsSuffix.length_le (List.dropWhile_suffix _)) ?_
    rw [padD_length]; omega
  · rw [← h1]; simp [decT]; omega
theorem decT_len_mag {z : Int} (h0 : 0 ≤ z) : (decT z).length ≤ 18 * (mag z).length + 1 := by
  have := decT_len (Wd_rep (z.natAbs : Int))
  rw [show rep ((z.natAbs : Nat) : Int) = mag z from rfl] at this
  rwa [val_mag, show ((z.natAbs : Nat) : Int) = z by omega] at this
theorem floor_facts {n : Int} {p : Nat} (h0 : 0 ≤ n) (hp : p ≤ 60) (hl : (mag n).length ≤ 10001) : 0 ≤ n / 10 ^ p ∧ 0 ≤ n % 10 ^ p ∧ (mag (n / 10 ^ p)).length ≤ 10001 ∧ (mag (n % 10 ^ p)).length ≤ 10001 ∧ (decT (n / 10 ^ p)).length ≤ 200000 ∧ (p ≠ 0 → (decT (n % 10 ^ p)).length ≤ p) := by
  have h10 : (0 : Int) < 10 ^ p := Int.pow_pos (by decide)
  have a1 : 0 ≤ n / 10 ^ p := Int.ediv_nonneg h0 (Int.le_of_lt h10)
  have a2 : 0 ≤ n % 10 ^ p := Int.emod_nonneg _ (Int.ne_of_gt h10)
  have a3 := Int.emod_lt_of_pos n h10
  have a4 : n / 10 ^ p ≤ n := Int.ediv_le_self _ h0
  have a5 : n % 10 ^ p ≤ n := by
    have := Int.mul_ediv_add_emod n (10 ^ p)
    have := Int.mul_nonneg (Int.le_of_lt h10) a1
    omega
  have hm := mag_len_of hl
  have b1 : (mag (n / 10 ^ p)).length ≤ 10001 := mag_len _ _ (by omega)
  have b2 : (mag (n % 10 ^ p)).length ≤ 10001 := mag_len _ _ (by omega)
  refine ⟨a1, a2, b1, b2, ?_, fun h => decT_short a2 a3 h⟩
  have := decT_len_mag a1
  omega

set_option maxHeartbeats 4000000 in
theorem figure_Round (ok : Nat → Prop) (x : RF) (z : Int) (p : Nat) (w : World) (hx : x.ok ok w) (hp : min (max z 0) 60 = (p : Int)) (hp60 : p ≤ 60) (hs : Sz 1000 x.q) :
    Calls Tryz.prog 20 #[.agg #[.bool x.n, .slice x.A x.l.length x.c, .slice x.A' x.d.length x.c'], .int .i64 z] w fun e w' => e = .returned (.string ⟨(roundT x.q p).toArray⟩) ∧ Below w.heap.size w w' := by
  have HTN := Asd.mk (fig_tens p hp60)
  obtain ⟨hp10, hlp⟩ := pow_small (v := 10) (by decide) (by decide) hp60
  have HV10 : Asd (val (rep (10 ^ p)) = 10 ^ p) := ⟨val_rep (Int.le_of_lt hp10)⟩
  have HP10 := Asd.mk hp10
  have HSX := Asd.mk hs
  generalize hR10 : rep (10 ^ p) = R10 at *
  have hR10e := Asd.mk hR10
  clear hR10 hp10
  have HSH : Asd (Sz 10000 (((1 : Int) : Rat) / ((2 : Int) : Rat))) := ⟨by
    rw [show ((1 : Int) : Rat) / ((2 : Int) : Rat) = Rat.divInt 1 2 by decide +kernel]
    exact (sz_dv (k := 1) (by decide) (by unfold mag; rw [rep_word (by decide) (by decide)]; decide) (by rw [rep_word (by decide) (by decide)]; decide)).mono (by decide)⟩
  have HSH1 : Asd (Sz 2 (((1 : Int) : Rat) / ((2 : Int) : Rat))) := ⟨by
    rw [show ((1 : Int) : Rat) / ((2 : Int) : Rat) = Rat.divInt 1 2 by decide +kernel]
    exact (sz_dv (k := 1) (by decide) (by unfold mag; rw [rep_word (by decide) (by decide)]; decide) (by rw [rep_word (by decide) (by decide)]; decide)).mono (by decide)⟩
  have HS10 : Asd (Sz 120 ((10 ^ p : Int) : Rat)) := ⟨sz_int _ (by decide) (by unfold mag; rw [show (((10 : Int) ^ p).natAbs : Int) = 10 ^ p by have := HP10.out; omega, hR10e.out]; exact hlp)⟩
  have HLN : Asd ((mag (roundN x.q p)).length ≤ 10001) := ⟨by
    unfold roundN
    refine floor_sz ?_
    have h2 := HSH1.out
    rw [show ((1 : Int) : Rat) / ((2 : Int) : Rat) = 1 / 2 by decide +kernel] at h2
    exact (sz_add (sz_mul (sz_abs HSX.out) HS10.out) h2).mono (by decide)⟩
  go_enter Tryz.func20, Tryz.ntmps20
  go_wp2_with fail
  have hB := (Below.refl w.heap.size w).alloc (Nat.le_refl _) (.cells #[.bool x.n, .slice x.A x.l.length x.c, .slice x.A' x.d.length x.c'] 30)
  have XA := Blk.new w [.bool x.n, .slice x.A x.l.length x.c, .slice x.A' x.d.length x.c'] 30
  have rx := hx.alloc (.cells #[.bool x.n, .slice x.A x.l.length x.c, .slice x.A' x.d.length x.c'] 30)
  have hbW : w.heap.size < (w.alloc (.cells #[.bool x.n, .slice x.A x.l.length x.c, .slice x.A' x.d.length x.c'] 30)).heap.size := by rw [World.size_alloc]; omega
  generalize w.alloc (.cells #[.bool x.n, .slice x.A x.l.length x.c, .slice x.A' x.d.length x.c'] 30) = W at *
  have cXA0 := XA.c 0 rfl; have cXA1 := XA.c 1 rfl; have cXA2 := XA.c 2 rfl
  clear hx hs
  have hm := HTN.out W
  refine hm.mono ?_
  clear hm
  rintro e w1 ⟨T, t, rfl, ht, hT, hb1⟩
  replace XA := XA.below hb1; replace rx := rx.below hb1; replace cXA0 := XA.c 0 rfl; replace cXA1 := XA.c 1 rfl; replace cXA2 := XA.c 2 rfl; replace hB := below_go hB hb1
  replace XA := XA.alloc (.cells #[.bool false, .slice T R10.length t] 28); replace rx := rx.alloc (.cells #[.bool false, .slice T R10.length t] 28); replace hT := hT.alloc (.cells #[.bool false, .slice T R10.length t] 28); have XT := Blk.new w1 [.bool false, .slice T R10.length t] 28; have hbsXT := hB.size; replace hB := hB.alloc hB.size (.cells #[.bool false, .slice T R10.length t] 28); replace cXA0 := XA.c 0 rfl; replace cXA1 := XA.c 1 rfl; replace cXA2 := XA.c 2 rfl; have cXT0 := XT.c 0 rfl; have cXT1 := XT.c 1 rfl
  skip
  go_wp2_with fail
  generalize hV2 : w1.alloc (.cells #[.bool false, .slice T R10.length t] 28) = V2 at *
  have hV2s : V2.heap.size = w1.heap.size + 1 := by rw [← hV2]; exact World.size_alloc _ _
  have hbT : w.heap.size < w1.heap.size := by have := hbW; have := hb1.size; omega
  generalize hbt : w1.heap.size = bT at *
  clear hb1 hV2 hbt
  have HNEW : Asd (∀ (S : Option Addr) (s : Nat) (W : World), Rd (fun _ => True) W T R10 → Rd (fun _ => True) W S (rep 1) → (rep 1).length ≤ s → Calls Tryz.prog 64 #[.agg #[.bool false, .slice T R10.length t], .slice S (rep 1).length s] W (RfOut2 ((10 ^ p : Int) : Rat) true W)) := ⟨fun S s W r1 r2 hs => by
    have hm := (frac_New _ false T t R10 _ S s (rep 1) W r1 ht r2 hs (by omega) (by rw [rep_word (by decide) (by decide)]; decide) (by rw [val_rep (by decide)]; decide))
    rw [val_rep (by decide), show zv false R10 = val R10 from rfl, HV10.out] at hm
    refine hm.mono ?_
    intro e w' h
    have := h.rf ((sz_dv (k := 120) (by decide) (by unfold mag; rw [show (((10 : Int) ^ p).natAbs : Int) = 10 ^ p by have := HP10.out; omega, ← HV10.out]; exact Nat.le_trans (rep_length_le (val_lt r1.wd)) hlp) (by rw [rep_word (by decide) (by decide)]; decide)).mono (by decide))
    rwa [← rat_int] at this⟩
  have HOF := Asd.mk (nat_Of 1 (by decide) (by decide))
  generalize rep 1 = one at *
  have HW0 := Asd.mk hbT
  go_cut [6, 7] from 22 to 27 (fun pp vv wx => ∃ (y : RF) (b : Nat), pp = .pointer (some ⟨b, 0, none⟩) ∧ vv = .bool true ∧ Asd (y.q = ((10 ^ p : Int) : Rat)) ∧ y.ok (fun k => w.heap.size ≤ k) wx ∧ Blk wx b [.bool y.n, .slice y.A y.l.length y.c, .slice y.A' y.d.length y.c'] ∧ Blk wx w.heap.size [.bool x.n, .slice x.A x.l.length x.c, .slice x.A' x.d.length x.c'] ∧ Blk wx bT [.bool false, .slice T R10.length t] ∧ Rd (fun _ => True) wx T R10 ∧ x.ok (fun _ => True) wx ∧ w.heap.size < b ∧ bT < b ∧ Below w.heap.size w wx)
  case first =>
    replace hT := hT.mono (ok' := fun k => k < V2.heap.size) (fun k hk _ => hk)
    replace rx := RF.ok.mono (ok' := fun k => k < V2.heap.size) rx (fun k hk _ => hk)
    have aV0 : ¬ V2.heap.size = bT := by omega
    have bV0 : ¬ bT = V2.heap.size := by omega
    have lV0 : bT < V2.heap.size := by omega
    have aV1 : ¬ V2.heap.size = w.heap.size := by omega
    have bV1 : ¬ w.heap.size = V2.heap.size := by omega
    have lV1 : w.heap.size < V2.heap.size := by omega
    have HSZ : Asd (bT < V2.heap.size ∧ w.heap.size < V2.heap.size ∧ w.heap.size < V2.heap.size) := ⟨by omega, by omega, by omega⟩
    clear hV2s
    replace XA := XA.drew; replace XT := XT.drew; replace hT := hT.drew; replace rx := rx.drew; replace hB := below_drewN hB 1; replace cXA0 := XA.c 0 rfl; replace cXA1 := XA.c 1 rfl; replace cXA2 := XA.c 2 rfl; replace cXT0 := XT.c 0 rfl; replace cXT1 := XT.c 1 rfl
    have hl5 := XT.lt
    have dXT0 : (V2.alloc (.cells #[.bool false, .slice none 0 0, .slice none 0 0] 30)).drew.cell? ⟨bT, 0, none⟩ = _ := (XT.alloc (.cells #[.bool false, .slice none 0 0, .slice none 0 0] 30)).c 0 rfl; have dXT1 : (V2.alloc (.cells #[.bool false, .slice none 0 0, .slice none 0 0] 30)).drew.cell? ⟨bT, 1, none⟩ = _ := (XT.alloc (.cells #[.bool false, .slice none 0 0, .slice none 0 0] 30)).c 1 rfl
    go_region_with
      (first
        | (go_at_call 65; refine (HOF.out _).mono ?_; rintro e w3 ⟨S1, s1, rfl, hs1, hrs0, hb0⟩; have hb1 : Below V2.drew.heap.size V2.drew w3 := (by first | exact hb0 | exact below_go ((Below.refl V2.drew.heap.size V2.drew).alloc (Nat.le_refl _) (.cells #[.bool false, .slice none 0 0, .slice none 0 0] 30)) hb0); (try have L1 : Blk w3 V2.heap.size [.bool false, .slice none 0 0, .slice none 0 0] := (Blk.new V2.drew [.bool false, .slice none 0 0, .slice none 0 0] 30).below (w1 := w3) hb0); (try have l10 := L1.c 0 rfl); (try have l11 := L1.c 1 rfl); (try have l12 := L1.c 2 rfl); (try have l1f := L1.f); (try have l1l := L1.lt); have hrs : Rd (fun _ => True) w3 S1 one := hrs0.mono (fun _ _ _ => trivial); replace XA := XA.below hb1; replace XT := XT.below hb1; replace hT := hT.below hb1; replace rx := rx.below hb1; replace cXA0 := XA.c 0 rfl; replace cXA1 := XA.c 1 rfl; replace cXA2 := XA.c 2 rfl; replace cXT0 := XT.c 0 rfl; replace cXT1 := XT.c 1 rfl; replace hB := below_go hB hb1; have hs3 : V2.heap.size ≤ w3.heap.size := hb1.size; have hz3 := HSZ.out; have eXT0 := (XT.alloc (.cells #[.bool false, .slice none 0 0, .slice none 0 0] 30)).c 0 rfl; have eXT1 := (XT.alloc (.cells #[.bool false, .slice none 0 0, .slice none 0 0] 30)).c 1 rfl; have hm5 := XT.lt; have a30 : ¬ w3.heap.size = bT := (by omega); have b30 : ¬ bT = w3.heap.size := (by omega); have a31 : ¬ w3.heap.size = w.heap.size := (by omega); have b31 : ¬ w.heap.size = w3.heap.size := (by omega))
        | (go_at_call 64; refine (HNEW.out S1 s1 _ ?_ ?_ hs1).mono ?_; (first | exact hT.mono (fun _ _ _ => trivial) | exact (hT.alloc _).mono (fun _ _ _ => trivial)); (first | exact hrs | exact hrs.alloc _); rintro e w4 ⟨y, rfl, hqy, hRy, hok, hb0⟩; have hb1 : Below w3.heap.size w3 w4 := (by first | exact hb0 | exact below_go ((Below.refl _ _).alloc (Nat.le_refl _) _) hb0); (try have L2 := (Blk.new w3 [.bool false, .slice none 0 0, .slice none 0 0] 30).below hb0); (try have L2 := L1.below hb0); (try have l20 := L2.c 0 rfl); (try have l21 := L2.c 1 rfl); (try have l22 := L2.c 2 rfl); (try have l2f := L2.f); (try have l2l := L2.lt); replace XA := XA.below hb1; replace XT := XT.below hb1; replace hT := hT.below hb1; replace rx := rx.below hb1; replace cXA0 := XA.c 0 rfl; replace cXA1 := XA.c 1 rfl; replace cXA2 := XA.c 2 rfl; replace cXT0 := XT.c 0 rfl; replace cXT1 := XT.c 1 rfl; replace hB := below_go hB hb1; have hs4 := hb1.size))
    all_goals have hz4 := HSZ.out
    all_goals first
      | (have YS : Blk (((w4.setCell ⟨w3.heap.size, 0, none⟩ (.bool y.n)).setCell ⟨w3.heap.size, 1, none⟩ (.slice y.A y.l.length y.c)).setCell ⟨w3.heap.size, 2, none⟩ (.slice y.A' y.d.length y.c')) (w3.heap.size) [.bool y.n, .slice y.A y.l.length y.c, .slice y.A' y.d.length y.c'] := ((L2.set 0 _).set 1 _).set 2 _
         have e0 : ¬ w3.heap.size = bT := by omega
         have e1 : ¬ bT = w3.heap.size := by omega
         have e2 : ¬ w3.heap.size = w.heap.size := by omega
         have e3 : ¬ w.heap.size = w3.heap.size := by omega
         have hgb : bT < w3.heap.size ∧ w.heap.size < w3.heap.size ∧ w.heap.size < w3.heap.size := by omega
         have hgl := YS.lt
         have YXA : Blk (((w4.setCell ⟨w3.heap.size, 0, none⟩ (.bool y.n)).setCell ⟨w3.heap.size, 1, none⟩ (.slice y.A y.l.length y.c)).setCell ⟨w3.heap.size, 2, none⟩ (.slice y.A' y.d.length y.c')) _ _ := ((XA.far (by first | (simp; done) | (simp; omega) | omega) _).far (by first | (simp; done) | (simp; omega) | omega) _).far (by first | (simp; done) | (simp; omega) | omega) _
         have YXT : Blk (((w4.setCell ⟨w3.heap.size, 0, none⟩ (.bool y.n)).setCell ⟨w3.heap.size, 1, none⟩ (.slice y.A y.l.length y.c)).setCell ⟨w3.heap.size, 2, none⟩ (.slice y.A' y.d.length y.c')) _ _ := ((XT.far (by first | (simp; done) | (simp; omega) | omega) _).far (by first | (simp; done) | (simp; omega) | omega) _).far (by first | (simp; done) | (simp; omega) | omega) _
         have YhT : Rd _ (((w4.setCell ⟨w3.heap.size, 0, none⟩ (.bool y.n)).setCell ⟨w3.heap.size, 1, none⟩ (.slice y.A y.l.length y.c)).setCell ⟨w3.heap.size, 2, none⟩ (.slice y.A' y.d.length y.c')) _ _ := ((hT.setCell (by first | (simp; done) | (simp; omega) | omega) _).setCell (by first | (simp; done) | (simp; omega) | omega) _).setCell (by first | (simp; done) | (simp; omega) | omega) _
         have Yrx : RF.ok _ (((w4.setCell ⟨w3.heap.size, 0, none⟩ (.bool y.n)).setCell ⟨w3.heap.size, 1, none⟩ (.slice y.A y.l.length y.c)).setCell ⟨w3.heap.size, 2, none⟩ (.slice y.A' y.d.length y.c')) _ := RF.ok.setCell (RF.ok.setCell (RF.ok.setCell rx (by first | (simp; done) | (simp; omega) | omega) _) (by first | (simp; done) | (simp; omega) | omega) _) (by first | (simp; done) | (simp; omega) | omega) _
         have ho : RF.ok _ (((w4.setCell ⟨w3.heap.size, 0, none⟩ (.bool y.n)).setCell ⟨w3.heap.size, 1, none⟩ (.slice y.A y.l.length y.c)).setCell ⟨w3.heap.size, 2, none⟩ (.slice y.A' y.d.length y.c')) _ := RF.ok.setCell (RF.ok.setCell (RF.ok.setCell (RF.ok.mono (ok' := fun k => k ≠ (w3.heap.size) ∧ w.heap.size ≤ k) hok (fun k _ hk => by first | omega | (simp at hk; omega))) (by first | (simp; done) | (simp; omega) | omega) _) (by first | (simp; done) | (simp; omega) | omega) _) (by first | (simp; done) | (simp; omega) | omega) _
         have hB2 : Below _ _ (((w4.setCell ⟨w3.heap.size, 0, none⟩ (.bool y.n)).setCell ⟨w3.heap.size, 1, none⟩ (.slice y.A y.l.length y.c)).setCell ⟨w3.heap.size, 2, none⟩ (.slice y.A' y.d.length y.c')) := ((hB.setCell (by first | (simp; done) | (simp; omega) | omega) _).setCell (by first | (simp; done) | (simp; omega) | omega) _).setCell (by first | (simp; done) | (simp; omega) | omega) _
         generalize ((w4.setCell ⟨w3.heap.size, 0, none⟩ (.bool y.n)).setCell ⟨w3.heap.size, 1, none⟩ (.slice y.A y.l.length y.c)).setCell ⟨w3.heap.size, 2, none⟩ (.slice y.A' y.d.length y.c') = WZ at YS YXA YXT YhT Yrx ho hB2 hgl ⊢
         generalize w3.heap.size = bS at YS hgb hgl e0 e1 e2 e3 ⊢)
      | (have YS : Blk (((w4.setCell ⟨V2.heap.size, 0, none⟩ (.bool y.n)).setCell ⟨V2.heap.size, 1, none⟩ (.slice y.A y.l.length y.c)).setCell ⟨V2.heap.size, 2, none⟩ (.slice y.A' y.d.length y.c')) (V2.heap.size) [.bool y.n, .slice y.A y.l.length y.c, .slice y.A' y.d.length y.c'] := ((L2.set 0 _).set 1 _).set 2 _
         have e0 : ¬ V2.heap.size = bT := by omega
         have e1 : ¬ bT = V2.heap.size := by omega
         have e2 : ¬ V2.heap.size = w.heap.size := by omega
         have e3 : ¬ w.heap.size = V2.heap.size := by omega
         have hgb : bT < V2.heap.size ∧ w.heap.size < V2.heap.size ∧ w.heap.size < V2.heap.size := by omega
         have hgl := YS.lt
         have YXA : Blk (((w4.setCell ⟨V2.heap.size, 0, none⟩ (.bool y.n)).setCell ⟨V2.heap.size, 1, none⟩ (.slice y.A y.l.length y.c)).setCell ⟨V2.heap.size, 2, none⟩ (.slice y.A' y.d.length y.c')) _ _ := ((XA.far (by first | (simp; done) | (simp; omega) | omega) _).far (by first | (simp; done) | (simp; omega) | omega) _).far (by first | (simp; done) | (simp; omega) | omega) _
         have YXT : Blk (((w4.setCell ⟨V2.heap.size, 0, none⟩ (.bool y.n)).setCell ⟨V2.heap.size, 1, none⟩ (.slice y.A y.l.length y.c)).setCell ⟨V2.heap.size, 2, none⟩ (.slice y.A' y.d.length y.c')) _ _ := ((XT.far (by first | (simp; done) | (simp; omega) | omega) _).far (by first | (simp; done) | (simp; omega) | omega) _).far (by first | (simp; done) | (simp; omega) | omega) _
         have YhT : Rd _ (((w4.setCell ⟨V2.heap.size, 0, none⟩ (.bool y.n)).setCell ⟨V2.heap.size, 1, none⟩ (.slice y.A y.l.length y.c)).setCell ⟨V2.heap.size, 2, none⟩ (.slice y.A' y.d.length y.c')) _ _ := ((hT.setCell (by first | (simp; done) | (simp; omega) | omega) _).setCell (by first | (simp; done) | (simp; omega) | omega) _).setCell (by first | (simp; done) | (simp; omega) | omega) _
         have Yrx : RF.ok _ (((w4.setCell ⟨V2.heap.size, 0, none⟩ (.bool y.n)).setCell ⟨V2.heap.size, 1, none⟩ (.slice y.A y.l.length y.c)).setCell ⟨V2.heap.size, 2, none⟩ (.slice y.A' y.d.length y.c')) _ := RF.ok.setCell (RF.ok.setCell (RF.ok.setCell rx (by first | (simp; done) | (simp; omega) | omega) _) (by first | (simp; done) | (simp; omega) | omega) _) (by first | (simp; done) | (simp; omega) | omega) _
         have ho : RF.ok _ (((w4.setCell ⟨V2.heap.size, 0, none⟩ (.bool y.n)).setCell ⟨V2.heap.size, 1, none⟩ (.slice y.A y.l.length y.c)).setCell ⟨V2.heap.size, 2, none⟩ (.slice y.A' y.d.length y.c')) _ := RF.ok.setCell (RF.ok.setCell (RF.ok.setCell (RF.ok.mono (ok' := fun k => k ≠ (V2.heap.size) ∧ w.heap.size ≤ k) hok (fun k _ hk => by first | omega | (simp at hk; omega))) (by first | (simp; done) | (simp; omega) | omega) _) (by first | (simp; done) | (simp; omega) | omega) _) (by first | (simp; done) | (simp; omega) | omega) _
         have hB2 : Below _ _ (((w4.setCell ⟨V2.heap.size, 0, none⟩ (.bool y.n)).setCell ⟨V2.heap.size, 1, none⟩ (.slice y.A y.l.length y.c)).setCell ⟨V2.heap.size, 2, none⟩ (.slice y.A' y.d.length y.c')) := ((hB.setCell (by first | (simp; done) | (simp; omega) | omega) _).setCell (by first | (simp; done) | (simp; omega) | omega) _).setCell (by first | (simp; done) | (simp; omega) | omega) _
         generalize ((w4.setCell ⟨V2.heap.size, 0, none⟩ (.bool y.n)).setCell ⟨V2.heap.size, 1, none⟩ (.slice y.A y.l.length y.c)).setCell ⟨V2.heap.size, 2, none⟩ (.slice y.A' y.d.length y.c') = WZ at YS YXA YXT YhT Yrx ho hB2 hgl ⊢
         generalize V2.heap.size = bS at YS hgb hgl e0 e1 e2 e3 ⊢)
      | (have YS := Blk.new w4 [.bool y.n, .slice y.A y.l.length y.c, .slice y.A' y.d.length y.c'] 30
         have e0 : ¬ w4.heap.size = bT := by omega
         have e1 : ¬ bT = w4.heap.size := by omega
         have e2 : ¬ w4.heap.size = w.heap.size := by omega
         have e3 : ¬ w.heap.size = w4.heap.size := by omega
         have hgb : bT < w4.heap.size ∧ w.heap.size < w4.heap.size ∧ w.heap.size < w4.heap.size := by omega
         have hgl := YS.lt
         have YXA := XA.alloc (.cells #[.bool y.n, .slice y.A y.l.length y.c, .slice y.A' y.d.length y.c'] 30)
         have YXT := XT.alloc (.cells #[.bool y.n, .slice y.A y.l.length y.c, .slice y.A' y.d.length y.c'] 30)
         have YhT := hT.alloc (.cells #[.bool y.n, .slice y.A y.l.length y.c, .slice y.A' y.d.length y.c'] 30)
         have Yrx := RF.ok.alloc rx (.cells #[.bool y.n, .slice y.A y.l.length y.c, .slice y.A' y.d.length y.c'] 30)
         have ho := RF.ok.alloc hok (.cells #[.bool y.n, .slice y.A y.l.length y.c, .slice y.A' y.d.length y.c'] 30)
         have hB2 := hB.alloc hB.size (.cells #[.bool y.n, .slice y.A y.l.length y.c, .slice y.A' y.d.length y.c'] 30)
         generalize w4.alloc (.cells #[.bool y.n, .slice y.A y.l.length y.c, .slice y.A' y.d.length y.c'] 30) = WZ at YS YXA YXT YhT Yrx ho hB2 hgl ⊢
         generalize w4.heap.size = bS at YS hgb hgl e0 e1 e2 e3 ⊢)
    all_goals have hoz : RF.ok (fun k => w.heap.size ≤ k) WZ y := RF.ok.mono ho (fun k _ hk => by first | exact hk.2 | omega | (simp at hk; omega))
    all_goals have HGB := Asd.mk hgb
    all_goals go_wp2_with fail
    all_goals go_meet
    all_goals exact ⟨y, bS, rfl, rfl, ⟨hqy⟩, hoz, YS, YXA, YXT, YhT.mono (fun _ _ _ => trivial), RF.ok.mono Yrx (fun _ _ _ => trivial), by have h1 := HGB.out; omega, by have h1 := HGB.out; omega, hB2⟩
  case rest =>
    obtain ⟨ys, bS, rfl, rfl, HQS, oks, XS, XA, XT, hT, rx, hbS, hbS2, hB⟩ := hcut
    have cXA0 := XA.c 0 rfl; have cXA1 := XA.c 1 rfl; have cXA2 := XA.c 2 rfl; have cXT0 := XT.c 0 rfl; have cXT1 := XT.c 1 rfl; have cXS0 := XS.c 0 rfl; have cXS1 := XS.c 1 rfl; have cXS2 := XS.c 2 rfl
    have hSc := XS.lt
    go_wp2_with fail
    have hm := frac_Ratio 1 2 (by decide) (by decide) wc
    refine hm.mono ?_
    clear hm
    rintro e w1 hfo
    obtain ⟨yh, rfl, hqh, -, okh, hb1⟩ := hfo.rf HSH.out
    replace XA := XA.below hb1; replace XT := XT.below hb1; replace XS := XS.below hb1; replace rx := rx.below hb1; replace oks := oks.below hb1; replace hT := hT.below hb1; replace cXA0 := XA.c 0 rfl; replace cXA1 := XA.c 1 rfl; replace cXA2 := XA.c 2 rfl; replace cXT0 := XT.c 0 rfl; replace cXT1 := XT.c 1 rfl; replace cXS0 := XS.c 0 rfl; replace cXS1 := XS.c 1 rfl; replace cXS2 := XS.c 2 rfl; replace hB := below_go hB hb1
    replace XA := XA.alloc (.cells #[.bool yh.n, .slice yh.A yh.l.length yh.c, .slice yh.A' yh.d.length yh.c'] 30); replace XT := XT.alloc (.cells #[.bool yh.n, .slice yh.A yh.l.length yh.c, .slice yh.A' yh.d.length yh.c'] 30); replace XS := XS.alloc (.cells #[.bool yh.n, .slice yh.A yh.l.length yh.c, .slice yh.A' yh.d.length yh.c'] 30); replace rx := rx.alloc (.cells #[.bool yh.n, .slice yh.A yh.l.length yh.c, .slice yh.A' yh.d.length yh.c'] 30); replace oks := oks.alloc (.cells #[.bool yh.n, .slice yh.A yh.l.length yh.c, .slice yh.A' yh.d.length yh.c'] 30); replace hT := hT.alloc (.cells #[.bool yh.n, .slice yh.A yh.l.length yh.c, .slice yh.A' yh.d.length yh.c'] 30); replace okh := okh.alloc (.cells #[.bool yh.n, .slice yh.A yh.l.length yh.c, .slice yh.A' yh.d.length yh.c'] 30); have XH := Blk.new w1 [.bool yh.n, .slice yh.A yh.l.length yh.c, .slice yh.A' yh.d.length yh.c'] 30; have hbsXH := hB.size; replace hB := hB.alloc hB.size (.cells #[.bool yh.n, .slice yh.A yh.l.length yh.c, .slice yh.A' yh.d.length yh.c'] 30); replace cXA0 := XA.c 0 rfl; replace cXA1 := XA.c 1 rfl; replace cXA2 := XA.c 2 rfl; replace cXT0 := XT.c 0 rfl; replace cXT1 := XT.c 1 rfl; replace cXS0 := XS.c 0 rfl; replace cXS1 := XS.c 1 rfl; replace cXS2 := XS.c 2 rfl; have cXH0 := XH.c 0 rfl; have cXH1 := XH.c 1 rfl; have cXH2 := XH.c 2 rfl
    go_wp2_with fail
    have hV1 := hb1.size
    have hV0 := XS.lt
    generalize hV2 : w1.alloc (.cells #[.bool yh.n, .slice yh.A yh.l.length yh.c, .slice yh.A' yh.d.length yh.c'] 30) = V2 at *
    have hV2s : V2.heap.size = w1.heap.size + 1 := by rw [← hV2]; exact World.size_alloc _ _
    have hbH : bS < w1.heap.size := by omega
    generalize hbh : w1.heap.size = bH at *
    clear hb1 hV2 hbh hV1
    have HQH := Asd.mk hqh
    have HQN : Asd ((absQ x.q * ys.q + yh.q).floor = roundN x.q p) := ⟨by rw [HQS.out, hqh]; unfold roundN; congr 2⟩
    have HS1 : Asd (Sz 10000 (absQ x.q)) := ⟨sz_abs (HSX.out.mono (by decide))⟩
    have HS2 : Asd (Sz 10000 (absQ x.q * ys.q)) := ⟨by rw [HQS.out]; exact (sz_mul (sz_abs HSX.out) HS10.out).mono (by decide)⟩
    have HS3 : Asd (Sz 10000 (absQ x.q * ys.q + yh.q)) := ⟨by rw [HQS.out, hqh]; exact (sz_add (sz_mul (sz_abs HSX.out) HS10.out) HSH1.out).mono (by decide)⟩
    clear hqh
    go_cut [10] from 32 to 38 (fun pp wx => ∃ (b : Nat) (N : Option Addr) (nc : Nat), pp = .pointer (some ⟨b, 0, none⟩) ∧ (mag (roundN x.q p)).length ≤ nc ∧ Blk wx b [.bool (ng (roundN x.q p)), .slice N (mag (roundN x.q p)).length nc] ∧ Rd (fun _ => True) wx N (mag (roundN x.q p)) ∧ Blk wx w.heap.size [.bool x.n, .slice x.A x.l.length x.c, .slice x.A' x.d.length x.c'] ∧ Blk wx bT [.bool false, .slice T R10.length t] ∧ Rd (fun _ => True) wx T R10 ∧ x.ok (fun _ => True) wx ∧ w.heap.size < b ∧ bT < b ∧ Below w.heap.size w wx)
    case first =>
      have HFL : ∀ (y : RF) (W : World), y.q.floor = roundN x.q p → y.ok (fun _ => True) W → Calls Tryz.prog 74 #[.agg #[.bool y.n, .slice y.A y.l.length y.c, .slice y.A' y.d.length y.c']] W (WhOut (roundN x.q p) W) := fun y W e r => by
        have := frac_Floor _ y W r
        rwa [e] at this
      have HFLA := Asd.mk HFL
      clear HFL
      replace hT := hT.mono (ok' := fun k => k < V2.heap.size) (fun k hk _ => hk)
      replace rx := RF.ok.mono (ok' := fun k => k < V2.heap.size) rx (fun k hk _ => hk)
      replace oks := RF.ok.mono (ok' := fun k => k < V2.heap.size) oks (fun k hk _ => hk)
      replace okh := RF.ok.mono (ok' := fun k => k < V2.heap.size) okh (fun k hk _ => hk)
      have aV0 : ¬ V2.heap.size = w.heap.size := by omega
      have bV0 : ¬ w.heap.size = V2.heap.size := by omega
      have lV0 : w.heap.size < V2.heap.size := by omega
      have aV1 : ¬ V2.heap.size = bT := by omega
      have bV1 : ¬ bT = V2.heap.size := by omega
      have lV1 : bT < V2.heap.size := by omega
      have aV2 : ¬ V2.heap.size = bS := by omega
      have bV2 : ¬ bS = V2.heap.size := by omega
      have lV2 : bS < V2.heap.size := by omega
      have aV3 : ¬ V2.heap.size = bH := by omega
      have bV3 : ¬ bH = V2.heap.size := by omega
      have lV3 : bH < V2.heap.size := by omega
      have HSZ : Asd (w.heap.size < V2.heap.size ∧ bT < V2.heap.size ∧ bS < V2.heap.size ∧ bH < V2.heap.size ∧ w.heap.size < V2.heap.size) := ⟨by omega, by omega, by omega, by omega, by omega⟩
      clear hV2s
      replace XA := XA.drew; replace XT := XT.drew; replace XS := XS.drew; replace XH := XH.drew; replace hT := hT.drew; replace rx := rx.drew; replace oks := oks.drew; replace okh := okh.drew; replace hB := below_drewN hB 1; replace cXA0 := XA.c 0 rfl; replace cXA1 := XA.c 1 rfl; replace cXA2 := XA.c 2 rfl; replace cXT0 := XT.c 0 rfl; replace cXT1 := XT.c 1 rfl; replace cXS0 := XS.c 0 rfl; replace cXS1 := XS.c 1 rfl; replace cXS2 := XS.c 2 rfl; replace cXH0 := XH.c 0 rfl; replace cXH1 := XH.c 1 rfl; replace cXH2 := XH.c 2 rfl
      have dXA0 : (V2.alloc (.cells #[.bool false, .slice none 0 0] 28)).drew.cell? ⟨w.heap.size, 0, none⟩ = _ := (XA.alloc (.cells #[.bool false, .slice none 0 0] 28)).c 0 rfl; have dXA1 : (V2.alloc (.cells #[.bool false, .slice none 0 0] 28)).drew.cell? ⟨w.heap.size, 1, none⟩ = _ := (XA.alloc (.cells #[.bool false, .slice none 0 0] 28)).c 1 rfl; have dXA2 : (V2.alloc (.cells #[.bool false, .slice none 0 0] 28)).drew.cell? ⟨w.heap.size, 2, none⟩ = _ := (XA.alloc (.cells #[.bool false, .slice none 0 0] 28)).c 2 rfl
      have dXT0 : (V2.alloc (.cells #[.bool false, .slice none 0 0] 28)).drew.cell? ⟨bT, 0, none⟩ = _ := (XT.alloc (.cells #[.bool false, .slice none 0 0] 28)).c 0 rfl; have dXT1 : (V2.alloc (.cells #[.bool false, .slice none 0 0] 28)).drew.cell? ⟨bT, 1, none⟩ = _ := (XT.alloc (.cells #[.bool false, .slice none 0 0] 28)).c 1 rfl
      have dXS0 : (V2.alloc (.cells #[.bool false, .slice none 0 0] 28)).drew.cell? ⟨bS, 0, none⟩ = _ := (XS.alloc (.cells #[.bool false, .slice none 0 0] 28)).c 0 rfl; have dXS1 : (V2.alloc (.cells #[.bool false, .slice none 0 0] 28)).drew.cell? ⟨bS, 1, none⟩ = _ := (XS.alloc (.cells #[.bool false, .slice none 0 0] 28)).c 1 rfl; have dXS2 : (V2.alloc (.cells #[.bool false, .slice none 0 0] 28)).drew.cell? ⟨bS, 2, none⟩ = _ := (XS.alloc (.cells #[.bool false, .slice none 0 0] 28)).c 2 rfl
      have dXH0 : (V2.alloc (.cells #[.bool false, .slice none 0 0] 28)).drew.cell? ⟨bH, 0, none⟩ = _ := (XH.alloc (.cells #[.bool false, .slice none 0 0] 28)).c 0 rfl; have dXH1 : (V2.alloc (.cells #[.bool false, .slice none 0 0] 28)).drew.cell? ⟨bH, 1, none⟩ = _ := (XH.alloc (.cells #[.bool false, .slice none 0 0] 28)).c 1 rfl; have dXH2 : (V2.alloc (.cells #[.bool false, .slice none 0 0] 28)).drew.cell? ⟨bH, 2, none⟩ = _ := (XH.alloc (.cells #[.bool false, .slice none 0 0] 28)).c 2 rfl
      go_region_held3 (fun w' => w'.cell? ⟨w.heap.size, 0, none⟩ = some (.bool x.n) ∧ w'.cell? ⟨w.heap.size, 1, none⟩ = some (.slice x.A x.l.length x.c) ∧ w'.cell? ⟨w.heap.size, 2, none⟩ = some (.slice x.A' x.d.length x.c') ∧ w'.cell? ⟨bS, 0, none⟩ = some (.bool ys.n) ∧ w'.cell? ⟨bS, 1, none⟩ = some (.slice ys.A ys.l.length ys.c) ∧ w'.cell? ⟨bS, 2, none⟩ = some (.slice ys.A' ys.d.length ys.c') ∧ w'.cell? ⟨bH, 0, none⟩ = some (.bool yh.n) ∧ w'.cell? ⟨bH, 1, none⟩ = some (.slice yh.A yh.l.length yh.c) ∧ w'.cell? ⟨bH, 2, none⟩ = some (.slice yh.A' yh.d.length yh.c')) (go_keep)
        (first
          | (go_at_call 21; refine (frac_Abs (fun _ => True) x _ ?_).mono ?_; (first | exact RF.ok.mono rx (fun _ _ _ => trivial) | exact RF.ok.mono (RF.ok.alloc rx _) (fun _ _ _ => trivial)); rintro e x1 hfo; obtain ⟨y1, rfl, hq1, -, ok1, hb0⟩ := hfo.rf HS1.out; have HQ1 := Asd.mk hq1; clear hq1; have hb1 : Below V2.drew.heap.size V2.drew x1 := (by first | exact hb0 | exact below_go ((Below.refl V2.drew.heap.size V2.drew).alloc (Nat.le_refl _) (.cells #[.bool false, .slice none 0 0] 28)) hb0); (try have L1 : Blk x1 (V2.heap.size) [.bool false, .slice none 0 0] := (Blk.new V2.drew [.bool false, .slice none 0 0] 28).below (w1 := x1) hb0); (try have l10 := L1.c 0 rfl); (try have l11 := L1.c 1 rfl); (try have l1f := L1.f); (try have l1l := L1.lt); replace XA := XA.below hb1; replace XT := XT.below hb1; replace XS := XS.below hb1; replace XH := XH.below hb1; replace hT := hT.below hb1; replace rx := rx.below hb1; replace oks := oks.below hb1; replace okh := okh.below hb1; replace cXA0 := XA.c 0 rfl; replace cXA1 := XA.c 1 rfl; replace cXA2 := XA.c 2 rfl; replace cXT0 := XT.c 0 rfl; replace cXT1 := XT.c 1 rfl; replace cXS0 := XS.c 0 rfl; replace cXS1 := XS.c 1 rfl; replace cXS2 := XS.c 2 rfl; replace cXH0 := XH.c 0 rfl; replace cXH1 := XH.c 1 rfl; replace cXH2 := XH.c 2 rfl; replace hB := below_go hB hb1; have e1XA0 := (XA.alloc (.cells #[.bool false, .slice none 0 0] 28)).c 0 rfl; have e1XA1 := (XA.alloc (.cells #[.bool false, .slice none 0 0] 28)).c 1 rfl; have e1XA2 := (XA.alloc (.cells #[.bool false, .slice none 0 0] 28)).c 2 rfl; have e1XT0 := (XT.alloc (.cells #[.bool false, .slice none 0 0] 28)).c 0 rfl; have e1XT1 := (XT.alloc (.cells #[.bool false, .slice none 0 0] 28)).c 1 rfl; have e1XS0 := (XS.alloc (.cells #[.bool false, .slice none 0 0] 28)).c 0 rfl; have e1XS1 := (XS.alloc (.cells #[.bool false, .slice none 0 0] 28)).c 1 rfl; have e1XS2 := (XS.alloc (.cells #[.bool false, .slice none 0 0] 28)).c 2 rfl; have e1XH0 := (XH.alloc (.cells #[.bool false, .slice none 0 0] 28)).c 0 rfl; have e1XH1 := (XH.alloc (.cells #[.bool false, .slice none 0 0] 28)).c 1 rfl; have e1XH2 := (XH.alloc (.cells #[.bool false, .slice none 0 0] 28)).c 2 rfl; have hs1 : V2.heap.size ≤ x1.heap.size := hb1.size; have hz1 := HSZ.out; have a10 : ¬ x1.heap.size = w.heap.size := (by omega); have b10 : ¬ w.heap.size = x1.heap.size := (by omega); have q10 : w.heap.size < x1.heap.size := (by omega); have a11 : ¬ x1.heap.size = bT := (by omega); have b11 : ¬ bT = x1.heap.size := (by omega); have q11 : bT < x1.heap.size := (by omega); have a12 : ¬ x1.heap.size = bS := (by omega); have b12 : ¬ bS = x1.heap.size := (by omega); have q12 : bS < x1.heap.size := (by omega); have a13 : ¬ x1.heap.size = bH := (by omega); have b13 : ¬ bH = x1.heap.size := (by omega); have q13 : bH < x1.heap.size := (by omega))
          | (go_at_call 24; refine (frac_Mul (fun _ => True) (fun _ => True) y1 ys _ ?_ ?_).mono ?_; (first | exact RF.ok.mono ok1 (fun _ _ _ => trivial) | exact RF.ok.mono (RF.ok.alloc ok1 _) (fun _ _ _ => trivial)); (first | exact RF.ok.mono oks (fun _ _ _ => trivial) | exact RF.ok.mono (RF.ok.alloc oks _) (fun _ _ _ => trivial)); rintro e x2 hfo; obtain ⟨y2, rfl, hq2, -, ok2, hb0⟩ := hfo.rf (by rw [HQ1.out]; exact HS2.out); have HQ2 := Asd.mk hq2; clear hq2; have hb1 : Below x1.heap.size x1 x2 := (by first | exact hb0 | exact below_go ((Below.refl x1.heap.size x1).alloc (Nat.le_refl _) (.cells #[.bool false, .slice none 0 0] 28)) hb0); (try have L2 : Blk x2 (x1.heap.size) [.bool false, .slice none 0 0] := (Blk.new x1 [.bool false, .slice none 0 0] 28).below (w1 := x2) hb0); (try have L2 := L1.below hb1); (try have l20 := L2.c 0 rfl); (try have l21 := L2.c 1 rfl); (try have l2f := L2.f); (try have l2l := L2.lt); replace XA := XA.below hb1; replace XT := XT.below hb1; replace XS := XS.below hb1; replace XH := XH.below hb1; replace hT := hT.below hb1; replace rx := rx.below hb1; replace oks := oks.below hb1; replace okh := okh.below hb1; replace ok1 := RF.ok.below ok1 hb1; replace cXA0 := XA.c 0 rfl; replace cXA1 := XA.c 1 rfl; replace cXA2 := XA.c 2 rfl; replace cXT0 := XT.c 0 rfl; replace cXT1 := XT.c 1 rfl; replace cXS0 := XS.c 0 rfl; replace cXS1 := XS.c 1 rfl; replace cXS2 := XS.c 2 rfl; replace cXH0 := XH.c 0 rfl; replace cXH1 := XH.c 1 rfl; replace cXH2 := XH.c 2 rfl; replace hB := below_go hB hb1; have e2XA0 := (XA.alloc (.cells #[.bool false, .slice none 0 0] 28)).c 0 rfl; have e2XA1 := (XA.alloc (.cells #[.bool false, .slice none 0 0] 28)).c 1 rfl; have e2XA2 := (XA.alloc (.cells #[.bool false, .slice none 0 0] 28)).c 2 rfl; have e2XT0 := (XT.alloc (.cells #[.bool false, .slice none 0 0] 28)).c 0 rfl; have e2XT1 := (XT.alloc (.cells #[.bool false, .slice none 0 0] 28)).c 1 rfl; have e2XS0 := (XS.alloc (.cells #[.bool false, .slice none 0 0] 28)).c 0 rfl; have e2XS1 := (XS.alloc (.cells #[.bool false, .slice none 0 0] 28)).c 1 rfl; have e2XS2 := (XS.alloc (.cells #[.bool false, .slice none 0 0] 28)).c 2 rfl; have e2XH0 := (XH.alloc (.cells #[.bool false, .slice none 0 0] 28)).c 0 rfl; have e2XH1 := (XH.alloc (.cells #[.bool false, .slice none 0 0] 28)).c 1 rfl; have e2XH2 := (XH.alloc (.cells #[.bool false, .slice none 0 0] 28)).c 2 rfl; have hs2 : x1.heap.size ≤ x2.heap.size := hb1.size; have hz2 := HSZ.out; have a20 : ¬ x2.heap.size = w.heap.size := (by omega); have b20 : ¬ w.heap.size = x2.heap.size := (by omega); have q20 : w.heap.size < x2.heap.size := (by omega); have a21 : ¬ x2.heap.size = bT := (by omega); have b21 : ¬ bT = x2.heap.size := (by omega); have q21 : bT < x2.heap.size := (by omega); have a22 : ¬ x2.heap.size = bS := (by omega); have b22 : ¬ bS = x2.heap.size := (by omega); have q22 : bS < x2.heap.size := (by omega); have a23 : ¬ x2.heap.size = bH := (by omega); have b23 : ¬ bH = x2.heap.size := (by omega); have q23 : bH < x2.heap.size := (by omega))
          | (go_at_call 23; refine (frac_Add (fun _ => True) (fun _ => True) y2 yh _ ?_ ?_).mono ?_; (first | exact RF.ok.mono ok2 (fun _ _ _ => trivial) | exact RF.ok.mono (RF.ok.alloc ok2 _) (fun _ _ _ => trivial)); (first | exact RF.ok.mono okh (fun _ _ _ => trivial) | exact RF.ok.mono (RF.ok.alloc okh _) (fun _ _ _ => trivial)); rintro e x3 hfo; obtain ⟨y3, rfl, hq3, -, ok3, hb0⟩ := hfo.rf (by rw [HQ2.out, HQ1.out]; exact HS3.out); have HQ3 : Asd (y3.q.floor = roundN x.q p) := ⟨by rw [hq3, HQ2.out, HQ1.out]; exact HQN.out⟩; clear hq3; have hb1 : Below x2.heap.size x2 x3 := (by first | exact hb0 | exact below_go ((Below.refl x2.heap.size x2).alloc (Nat.le_refl _) (.cells #[.bool false, .slice none 0 0] 28)) hb0); (try have L3 : Blk x3 (x2.heap.size) [.bool false, .slice none 0 0] := (Blk.new x2 [.bool false, .slice none 0 0] 28).below (w1 := x3) hb0); (try have L3 := L2.below hb1); (try have l30 := L3.c 0 rfl); (try have l31 := L3.c 1 rfl); (try have l3f := L3.f); (try have l3l := L3.lt); replace XA := XA.below hb1; replace XT := XT.below hb1; replace XS := XS.below hb1; replace XH := XH.below hb1; replace hT := hT.below hb1; replace rx := rx.below hb1; replace oks := oks.below hb1; replace okh := okh.below hb1; replace ok1 := RF.ok.below ok1 hb1; replace ok2 := RF.ok.below ok2 hb1; replace cXA0 := XA.c 0 rfl; replace cXA1 := XA.c 1 rfl; replace cXA2 := XA.c 2 rfl; replace cXT0 := XT.c 0 rfl; replace cXT1 := XT.c 1 rfl; replace cXS0 := XS.c 0 rfl; replace cXS1 := XS.c 1 rfl; replace cXS2 := XS.c 2 rfl; replace cXH0 := XH.c 0 rfl; replace cXH1 := XH.c 1 rfl; replace cXH2 := XH.c 2 rfl; replace hB := below_go hB hb1; have e3XA0 := (XA.alloc (.cells #[.bool false, .slice none 0 0] 28)).c 0 rfl; have e3XA1 := (XA.alloc (.cells #[.bool false, .slice none 0 0] 28)).c 1 rfl; have e3XA2 := (XA.alloc (.cells #[.bool false, .slice none 0 0] 28)).c 2 rfl; have e3XT0 := (XT.alloc (.cells #[.bool false, .slice none 0 0] 28)).c 0 rfl; have e3XT1 := (XT.alloc (.cells #[.bool false, .slice none 0 0] 28)).c 1 rfl; have e3XS0 := (XS.alloc (.cells #[.bool false, .slice none 0 0] 28)).c 0 rfl; have e3XS1 := (XS.alloc (.cells #[.bool false, .slice none 0 0] 28)).c 1 rfl; have e3XS2 := (XS.alloc (.cells #[.bool false, .slice none 0 0] 28)).c 2 rfl; have e3XH0 := (XH.alloc (.cells #[.bool false, .slice none 0 0] 28)).c 0 rfl; have e3XH1 := (XH.alloc (.cells #[.bool false, .slice none 0 0] 28)).c 1 rfl; have e3XH2 := (XH.alloc (.cells #[.bool false, .slice none 0 0] 28)).c 2 rfl; have hs3 : x2.heap.size ≤ x3.heap.size := hb1.size; have hz3 := HSZ.out; have a30 : ¬ x3.heap.size = w.heap.size := (by omega); have b30 : ¬ w.heap.size = x3.heap.size := (by omega); have q30 : w.heap.size < x3.heap.size := (by omega); have a31 : ¬ x3.heap.size = bT := (by omega); have b31 : ¬ bT = x3.heap.size := (by omega); have q31 : bT < x3.heap.size := (by omega); have a32 : ¬ x3.heap.size = bS := (by omega); have b32 : ¬ bS = x3.heap.size := (by omega); have q32 : bS < x3.heap.size := (by omega); have a33 : ¬ x3.heap.size = bH := (by omega); have b33 : ¬ bH = x3.heap.size := (by omega); have q33 : bH < x3.heap.size := (by omega))
          | (go_at_call 74; refine (HFLA.out y3 _ HQ3.out ?_).mono ?_; (first | exact RF.ok.mono ok3 (fun _ _ _ => trivial) | exact RF.ok.mono (RF.ok.alloc ok3 _) (fun _ _ _ => trivial)); rintro e x4 ⟨N, nc, rfl, hnc, rn, hb0⟩; have hb1 : Below x3.heap.size x3 x4 := (by first | exact hb0 | exact below_go ((Below.refl x3.heap.size x3).alloc (Nat.le_refl _) (.cells #[.bool false, .slice none 0 0] 28)) hb0); (try have L4 : Blk x4 (x3.heap.size) [.bool false, .slice none 0 0] := (Blk.new x3 [.bool false, .slice none 0 0] 28).below (w1 := x4) hb0); (try have L4 := L3.below hb1); (try have l40 := L4.c 0 rfl); (try have l41 := L4.c 1 rfl); (try have l4f := L4.f); (try have l4l := L4.lt); replace XA := XA.below hb1; replace XT := XT.below hb1; replace XS := XS.below hb1; replace XH := XH.below hb1; replace hT := hT.below hb1; replace rx := rx.below hb1; replace oks := oks.below hb1; replace okh := okh.below hb1; replace ok1 := RF.ok.below ok1 hb1; replace ok2 := RF.ok.below ok2 hb1; replace ok3 := RF.ok.below ok3 hb1; replace cXA0 := XA.c 0 rfl; replace cXA1 := XA.c 1 rfl; replace cXA2 := XA.c 2 rfl; replace cXT0 := XT.c 0 rfl; replace cXT1 := XT.c 1 rfl; replace cXS0 := XS.c 0 rfl; replace cXS1 := XS.c 1 rfl; replace cXS2 := XS.c 2 rfl; replace cXH0 := XH.c 0 rfl; replace cXH1 := XH.c 1 rfl; replace cXH2 := XH.c 2 rfl; replace hB := below_go hB hb1; have e4XA0 := (XA.alloc (.cells #[.bool false, .slice none 0 0] 28)).c 0 rfl; have e4XA1 := (XA.alloc (.cells #[.bool false, .slice none 0 0] 28)).c 1 rfl; have e4XA2 := (XA.alloc (.cells #[.bool false, .slice none 0 0] 28)).c 2 rfl; have e4XT0 := (XT.alloc (.cells #[.bool false, .slice none 0 0] 28)).c 0 rfl; have e4XT1 := (XT.alloc (.cells #[.bool false, .slice none 0 0] 28)).c 1 rfl; have e4XS0 := (XS.alloc (.cells #[.bool false, .slice none 0 0] 28)).c 0 rfl; have e4XS1 := (XS.alloc (.cells #[.bool false, .slice none 0 0] 28)).c 1 rfl; have e4XS2 := (XS.alloc (.cells #[.bool false, .slice none 0 0] 28)).c 2 rfl; have e4XH0 := (XH.alloc (.cells #[.bool false, .slice none 0 0] 28)).c 0 rfl; have e4XH1 := (XH.alloc (.cells #[.bool false, .slice none 0 0] 28)).c 1 rfl; have e4XH2 := (XH.alloc (.cells #[.bool false, .slice none 0 0] 28)).c 2 rfl; have hs4 : x3.heap.size ≤ x4.heap.size := hb1.size; have hz4 := HSZ.out; have a40 : ¬ x4.heap.size = w.heap.size := (by omega); have b40 : ¬ w.heap.size = x4.heap.size := (by omega); have q40 : w.heap.size < x4.heap.size := (by omega); have a41 : ¬ x4.heap.size = bT := (by omega); have b41 : ¬ bT = x4.heap.size := (by omega); have q41 : bT < x4.heap.size := (by omega); have a42 : ¬ x4.heap.size = bS := (by omega); have b42 : ¬ bS = x4.heap.size := (by omega); have q42 : bS < x4.heap.size := (by omega); have a43 : ¬ x4.heap.size = bH := (by omega); have b43 : ¬ bH = x4.heap.size := (by omega); have q43 : bH < x4.heap.size := (by omega)))
      all_goals have hz9 := HSZ.out
      all_goals first
        | (have YN : Blk ((x4.setCell ⟨x3.heap.size, 0, none⟩ (.bool (ng (roundN x.q p)))).setCell ⟨x3.heap.size, 1, none⟩ (.slice N (mag (roundN x.q p)).length nc)) (x3.heap.size) [.bool (ng (roundN x.q p)), .slice N (mag (roundN x.q p)).length nc] := ((L4.set 0 _).set 1 _)
           have e0 : ¬ x3.heap.size = w.heap.size := by omega
           have e1 : ¬ w.heap.size = x3.heap.size := by omega
           have e2 : ¬ x3.heap.size = bT := by omega
           have e3 : ¬ bT = x3.heap.size := by omega
           have e4 : ¬ x3.heap.size = bS := by omega
           have e5 : ¬ bS = x3.heap.size := by omega
           have e6 : ¬ x3.heap.size = bH := by omega
           have e7 : ¬ bH = x3.heap.size := by omega
           have hgb : w.heap.size < x3.heap.size ∧ bT < x3.heap.size ∧ bS < x3.heap.size ∧ bH < x3.heap.size ∧ w.heap.size < x3.heap.size := by omega
           have hVb : V2.heap.size ≤ x3.heap.size := by omega
           have hgl := YN.lt
           have YXA : Blk ((x4.setCell ⟨x3.heap.size, 0, none⟩ (.bool (ng (roundN x.q p)))).setCell ⟨x3.heap.size, 1, none⟩ (.slice N (mag (roundN x.q p)).length nc)) _ _ := ((XA.far (by first | (simp; done) | (simp; omega) | omega) _).far (by first | (simp; done) | (simp; omega) | omega) _)
           have YXT : Blk ((x4.setCell ⟨x3.heap.size, 0, none⟩ (.bool (ng (roundN x.q p)))).setCell ⟨x3.heap.size, 1, none⟩ (.slice N (mag (roundN x.q p)).length nc)) _ _ := ((XT.far (by first | (simp; done) | (simp; omega) | omega) _).far (by first | (simp; done) | (simp; omega) | omega) _)
           have YXS : Blk ((x4.setCell ⟨x3.heap.size, 0, none⟩ (.bool (ng (roundN x.q p)))).setCell ⟨x3.heap.size, 1, none⟩ (.slice N (mag (roundN x.q p)).length nc)) _ _ := ((XS.far (by first | (simp; done) | (simp; omega) | omega) _).far (by first | (simp; done) | (simp; omega) | omega) _)
           have YXH : Blk ((x4.setCell ⟨x3.heap.size, 0, none⟩ (.bool (ng (roundN x.q p)))).setCell ⟨x3.heap.size, 1, none⟩ (.slice N (mag (roundN x.q p)).length nc)) _ _ := ((XH.far (by first | (simp; done) | (simp; omega) | omega) _).far (by first | (simp; done) | (simp; omega) | omega) _)
           have YhT : Rd _ ((x4.setCell ⟨x3.heap.size, 0, none⟩ (.bool (ng (roundN x.q p)))).setCell ⟨x3.heap.size, 1, none⟩ (.slice N (mag (roundN x.q p)).length nc)) _ _ := ((hT.setCell (by first | (simp; done) | (simp; omega) | omega) _).setCell (by first | (simp; done) | (simp; omega) | omega) _)
           have Yrx : RF.ok _ ((x4.setCell ⟨x3.heap.size, 0, none⟩ (.bool (ng (roundN x.q p)))).setCell ⟨x3.heap.size, 1, none⟩ (.slice N (mag (roundN x.q p)).length nc)) _ := RF.ok.setCell (RF.ok.setCell (rx) (by first | (simp; done) | (simp; omega) | omega) _) (by first | (simp; done) | (simp; omega) | omega) _
           have Yoks : RF.ok _ ((x4.setCell ⟨x3.heap.size, 0, none⟩ (.bool (ng (roundN x.q p)))).setCell ⟨x3.heap.size, 1, none⟩ (.slice N (mag (roundN x.q p)).length nc)) _ := RF.ok.setCell (RF.ok.setCell (oks) (by first | (simp; done) | (simp; omega) | omega) _) (by first | (simp; done) | (simp; omega) | omega) _
           have Yokh : RF.ok _ ((x4.setCell ⟨x3.heap.size, 0, none⟩ (.bool (ng (roundN x.q p)))).setCell ⟨x3.heap.size, 1, none⟩ (.slice N (mag (roundN x.q p)).length nc)) _ := RF.ok.setCell (RF.ok.setCell (okh) (by first | (simp; done) | (simp; omega) | omega) _) (by first | (simp; done) | (simp; omega) | omega) _
           have Yrn : Rd _ ((x4.setCell ⟨x3.heap.size, 0, none⟩ (.bool (ng (roundN x.q p)))).setCell ⟨x3.heap.size, 1, none⟩ (.slice N (mag (roundN x.q p)).length nc)) _ _ := (((Rd.mono (ok' := fun k => k ≠ (x3.heap.size) ∧ w.heap.size ≤ k) rn (fun k _ hk => by first | omega | (simp at hk; omega))).setCell (by first | (simp; done) | (simp; omega) | omega) _).setCell (by first | (simp; done) | (simp; omega) | omega) _)
           have hB2 : Below _ _ ((x4.setCell ⟨x3.heap.size, 0, none⟩ (.bool (ng (roundN x.q p)))).setCell ⟨x3.heap.size, 1, none⟩ (.slice N (mag (roundN x.q p)).length nc)) := ((hB.setCell (by first | (simp; done) | (simp; omega) | omega) _).setCell (by first | (simp; done) | (simp; omega) | omega) _)
           generalize ((x4.setCell ⟨x3.heap.size, 0, none⟩ (.bool (ng (roundN x.q p)))).setCell ⟨x3.heap.size, 1, none⟩ (.slice N (mag (roundN x.q p)).length nc)) = WZ at YN YXA YXT YXS YXH YhT Yrx Yoks Yokh Yrn hB2 hgl ⊢
           generalize x3.heap.size = bN at YN hgb hgl e0 e1 e2 e3 e4 e5 e6 e7 ⊢)
        | (have YN : Blk ((x4.setCell ⟨x2.heap.size, 0, none⟩ (.bool (ng (roundN x.q p)))).setCell ⟨x2.heap.size, 1, none⟩ (.slice N (mag (roundN x.q p)).length nc)) (x2.heap.size) [.bool (ng (roundN x.q p)), .slice N (mag (roundN x.q p)).length nc] := ((L4.set 0 _).set 1 _)
           have e0 : ¬ x2.heap.size = w.heap.size := by omega
           have e1 : ¬ w.heap.size = x2.heap.size := by omega
           have e2 : ¬ x2.heap.size = bT := by omega
           have e3 : ¬ bT = x2.heap.size := by omega
           have e4 : ¬ x2.heap.size = bS := by omega
           have e5 : ¬ bS = x2.heap.size := by omega
           have e6 : ¬ x2.heap.size = bH := by omega
           have e7 : ¬ bH = x2.heap.size := by omega
           have hgb : w.heap.size < x2.heap.size ∧ bT < x2.heap.size ∧ bS < x2.heap.size ∧ bH < x2.heap.size ∧ w.heap.size < x2.heap.size := by omega
           have hVb : V2.heap.size ≤ x2.heap.size := by omega
           have hgl := YN.lt
           have YXA : Blk ((x4.setCell ⟨x2.heap.size, 0, none⟩ (.bool (ng (roundN x.q p)))).setCell ⟨x2.heap.size, 1, none⟩ (.slice N (mag (roundN x.q p)).length nc)) _ _ := ((XA.far (by first | (simp; done) | (simp; omega) | omega) _).far (by first | (simp; done) | (simp; omega) | omega) _)
           have YXT : Blk ((x4.setCell ⟨x2.heap.size, 0, none⟩ (.bool (ng (roundN x.q p)))).setCell ⟨x2.heap.size, 1, none⟩ (.slice N (mag (roundN x.q p)).length nc)) _ _ := ((XT.far (by first | (simp; done) | (simp; omega) | omega) _).far (by first | (simp; done) | (simp; omega) | omega) _)
           have YXS : Blk ((x4.setCell ⟨x2.heap.size, 0, none⟩ (.bool (ng (roundN x.q p)))).setCell ⟨x2.heap.size, 1, none⟩ (.slice N (mag (roundN x.q p)).length nc)) _ _ := ((XS.far (by first | (simp; done) | (simp; omega) | omega) _).far (by first | (simp; done) | (simp; omega) | omega) _)
           have YXH : Blk ((x4.setCell ⟨x2.heap.size, 0, none⟩ (.bool (ng (roundN x.q p)))).setCell ⟨x2.heap.size, 1, none⟩ (.slice N (mag (roundN x.q p)).length nc)) _ _ := ((XH.far (by first | (simp; done) | (simp; omega) | omega) _).far (by first | (simp; done) | (simp; omega) | omega) _)
           have YhT : Rd _ ((x4.setCell ⟨x2.heap.size, 0, none⟩ (.bool (ng (roundN x.q p)))).setCell ⟨x2.heap.size, 1, none⟩ (.slice N (mag (roundN x.q p)).length nc)) _ _ := ((hT.setCell (by first | (simp; done) | (simp; omega) | omega) _).setCell (by first | (simp; done) | (simp; omega) | omega) _)
           have Yrx : RF.ok _ ((x4.setCell ⟨x2.heap.size, 0, none⟩ (.bool (ng (roundN x.q p)))).setCell ⟨x2.heap.size, 1, none⟩ (.slice N (mag (roundN x.q p)).length nc)) _ := RF.ok.setCell (RF.ok.setCell (rx) (by first | (simp; done) | (simp; omega) | omega) _) (by first | (simp; done) | (simp; omega) | omega) _
           have Yoks : RF.ok _ ((x4.setCell ⟨x2.heap.size, 0, none⟩ (.bool (ng (roundN x.q p)))).setCell ⟨x2.heap.size, 1, none⟩ (.slice N (mag (roundN x.q p)).length nc)) _ := RF.ok.setCell (RF.ok.setCell (oks) (by first | (simp; done) | (simp; omega) | omega) _) (by first | (simp; done) | (simp; omega) | omega) _
           have Yokh : RF.ok _ ((x4.setCell ⟨x2.heap.size, 0, none⟩ (.bool (ng (roundN x.q p)))).setCell ⟨x2.heap.size, 1, none⟩ (.slice N (mag (roundN x.q p)).length nc)) _ := RF.ok.setCell (RF.ok.setCell (okh) (by first | (simp; done) | (simp; omega) | omega) _) (by first | (simp; done) | (simp; omega) | omega) _
           have Yrn : Rd _ ((x4.setCell ⟨x2.heap.size, 0, none⟩ (.bool (ng (roundN x.q p)))).setCell ⟨x2.heap.size, 1, none⟩ (.slice N (mag (roundN x.q p)).length nc)) _ _ := (((Rd.mono (ok' := fun k => k ≠ (x2.heap.size) ∧ w.heap.size ≤ k) rn (fun k _ hk => by first | omega | (simp at hk; omega))).setCell (by first | (simp; done) | (simp; omega) | omega) _).setCell (by first | (simp; done) | (simp; omega) | omega) _)
           have hB2 : Below _ _ ((x4.setCell ⟨x2.heap.size, 0, none⟩ (.bool (ng (roundN x.q p)))).setCell ⟨x2.heap.size, 1, none⟩ (.slice N (mag (roundN x.q p)).length nc)) := ((hB.setCell (by first | (simp; done) | (simp; omega) | omega) _).setCell (by first | (simp; done) | (simp; omega) | omega) _)
           generalize ((x4.setCell ⟨x2.heap.size, 0, none⟩ (.bool (ng (roundN x.q p)))).setCell ⟨x2.heap.size, 1, none⟩ (.slice N (mag (roundN x.q p)).length nc)) = WZ at YN YXA YXT YXS YXH YhT Yrx Yoks Yokh Yrn hB2 hgl ⊢
           generalize x2.heap.size = bN at YN hgb hgl e0 e1 e2 e3 e4 e5 e6 e7 ⊢)
        | (have YN : Blk ((x4.setCell ⟨x1.heap.size, 0, none⟩ (.bool (ng (roundN x.q p)))).setCell ⟨x1.heap.size, 1, none⟩ (.slice N (mag (roundN x.q p)).length nc)) (x1.heap.size) [.bool (ng (roundN x.q p)), .slice N (mag (roundN x.q p)).length nc] := ((L4.set 0 _).set 1 _)
           have e0 : ¬ x1.heap.size = w.heap.size := by omega
           have e1 : ¬ w.heap.size = x1.heap.size := by omega
           have e2 : ¬ x1.heap.size = bT := by omega
           have e3 : ¬ bT = x1.heap.size := by omega
           have e4 : ¬ x1.heap.size = bS := by omega
           have e5 : ¬ bS = x1.heap.size := by omega
           have e6 : ¬ x1.heap.size = bH := by omega
           have e7 : ¬ bH = x1.heap.size := by omega
           have hgb : w.heap.size < x1.heap.size ∧ bT < x1.heap.size ∧ bS < x1.heap.size ∧ bH < x1.heap.size ∧ w.heap.size < x1.heap.size := by omega
           have hVb : V2.heap.size ≤ x1.heap.size := by omega
           have hgl := YN.lt
           have YXA : Blk ((x4.setCell ⟨x1.heap.size, 0, none⟩ (.bool (ng (roundN x.q p)))).setCell ⟨x1.heap.size, 1, none⟩ (.slice N (mag (roundN x.q p)).length nc)) _ _ := ((XA.far (by first | (simp; done) | (simp; omega) | omega) _).far (by first | (simp; done) | (simp; omega) | omega) _)
           have YXT : Blk ((x4.setCell ⟨x1.heap.size, 0, none⟩ (.bool (ng (roundN x.q p)))).setCell ⟨x1.heap.size, 1, none⟩ (.slice N (mag (roundN x.q p)).length nc)) _ _ := ((XT.far (by first | (simp; done) | (simp; omega) | omega) _).far (by first | (simp; done) | (simp; omega) | omega) _)
           have YXS : Blk ((x4.setCell ⟨x1.heap.size, 0, none⟩ (.bool (ng (roundN x.q p)))).setCell ⟨x1.heap.size, 1, none⟩ (.slice N (mag (roundN x.q p)).length nc)) _ _ := ((XS.far (by first | (simp; done) | (simp; omega) | omega) _).far (by first | (simp; done) | (simp; omega) | omega) _)
           have YXH : Blk ((x4.setCell ⟨x1.heap.size, 0, none⟩ (.bool (ng (roundN x.q p)))).setCell ⟨x1.heap.size, 1, none⟩ (.slice N (mag (roundN x.q p)).length nc)) _ _ := ((XH.far (by first | (simp; done) | (simp; omega) | omega) _).far (by first | (simp; done) | (simp; omega) | omega) _)
           have YhT : Rd _ ((x4.setCell ⟨x1.heap.size, 0, none⟩ (.bool (ng (roundN x.q p)))).setCell ⟨x1.heap.size, 1, none⟩ (.slice N (mag (roundN x.q p)).length nc)) _ _ := ((hT.setCell (by first | (simp; done) | (simp; omega) | omega) _).setCell (by first | (simp; done) | (simp; omega) | omega) _)
           have Yrx : RF.ok _ ((x4.setCell ⟨x1.heap.size, 0, none⟩ (.bool (ng (roundN x.q p)))).setCell ⟨x1.heap.size, 1, none⟩ (.slice N (mag (roundN x.q p)).length nc)) _ := RF.ok.setCell (RF.ok.setCell (rx) (by first | (simp; done) | (simp; omega) | omega) _) (by first | (simp; done) | (simp; omega) | omega) _
           have Yoks : RF.ok _ ((x4.setCell ⟨x1.heap.size, 0, none⟩ (.bool (ng (roundN x.q p)))).setCell ⟨x1.heap.size, 1, none⟩ (.slice N (mag (roundN x.q p)).length nc)) _ := RF.ok.setCell (RF.ok.setCell (oks) (by first | (simp; done) | (simp; omega) | omega) _) (by first | (simp; done) | (simp; omega) | omega) _
           have Yokh : RF.ok _ ((x4.setCell ⟨x1.heap.size, 0, none⟩ (.bool (ng (roundN x.q p)))).setCell ⟨x1.heap.size, 1, none⟩ (.slice N (mag (roundN x.q p)).length nc)) _ := RF.ok.setCell (RF.ok.setCell (okh) (by first | (simp; done) | (simp; omega) | omega) _) (by first | (simp; done) | (simp; omega) | omega) _
           have Yrn : Rd _ ((x4.setCell ⟨x1.heap.size, 0, none⟩ (.bool (ng (roundN x.q p)))).setCell ⟨x1.heap.size, 1, none⟩ (.slice N (mag (roundN x.q p)).length nc)) _ _ := (((Rd.mono (ok' := fun k => k ≠ (x1.heap.size) ∧ w.heap.size ≤ k) rn (fun k _ hk => by first | omega | (simp at hk; omega))).setCell (by first | (simp; done) | (simp; omega) | omega) _).setCell (by first | (simp; done) | (simp; omega) | omega) _)
           have hB2 : Below _ _ ((x4.setCell ⟨x1.heap.size, 0, none⟩ (.bool (ng (roundN x.q p)))).setCell ⟨x1.heap.size, 1, none⟩ (.slice N (mag (roundN x.q p)).length nc)) := ((hB.setCell (by first | (simp; done) | (simp; omega) | omega) _).setCell (by first | (simp; done) | (simp; omega) | omega) _)
           generalize ((x4.setCell ⟨x1.heap.size, 0, none⟩ (.bool (ng (roundN x.q p)))).setCell ⟨x1.heap.size, 1, none⟩ (.slice N (mag (roundN x.q p)).length nc)) = WZ at YN YXA YXT YXS YXH YhT Yrx Yoks Yokh Yrn hB2 hgl ⊢
           generalize x1.heap.size = bN at YN hgb hgl e0 e1 e2 e3 e4 e5 e6 e7 ⊢)
        | (have YN : Blk ((x4.setCell ⟨V2.heap.size, 0, none⟩ (.bool (ng (roundN x.q p)))).setCell ⟨V2.heap.size, 1, none⟩ (.slice N (mag (roundN x.q p)).length nc)) (V2.heap.size) [.bool (ng (roundN x.q p)), .slice N (mag (roundN x.q p)).length nc] := ((L4.set 0 _).set 1 _)
           have e0 : ¬ V2.heap.size = w.heap.size := by omega
           have e1 : ¬ w.heap.size = V2.heap.size := by omega
           have e2 : ¬ V2.heap.size = bT := by omega
           have e3 : ¬ bT = V2.heap.size := by omega
           have e4 : ¬ V2.heap.size = bS := by omega
           have e5 : ¬ bS = V2.heap.size := by omega
           have e6 : ¬ V2.heap.size = bH := by omega
           have e7 : ¬ bH = V2.heap.size := by omega
           have hgb : w.heap.size < V2.heap.size ∧ bT < V2.heap.size ∧ bS < V2.heap.size ∧ bH < V2.heap.size ∧ w.heap.size < V2.heap.size := by omega
           have hVb : V2.heap.size ≤ V2.heap.size := by omega
           have hgl := YN.lt
           have YXA : Blk ((x4.setCell ⟨V2.heap.size, 0, none⟩ (.bool (ng (roundN x.q p)))).setCell ⟨V2.heap.size, 1, none⟩ (.slice N (mag (roundN x.q p)).length nc)) _ _ := ((XA.far (by first | (simp; done) | (simp; omega) | omega) _).far (by first | (simp; done) | (simp; omega) | omega) _)
           have YXT : Blk ((x4.setCell ⟨V2.heap.size, 0, none⟩ (.bool (ng (roundN x.q p)))).setCell ⟨V2.heap.size, 1, none⟩ (.slice N (mag (roundN x.q p)).length nc)) _ _ := ((XT.far (by first | (simp; done) | (simp; omega) | omega) _).far (by first | (simp; done) | (simp; omega) | omega) _)
           have YXS : Blk ((x4.setCell ⟨V2.heap.size, 0, none⟩ (.bool (ng (roundN x.q p)))).setCell ⟨V2.heap.size, 1, none⟩ (.slice N (mag (roundN x.q p)).length nc)) _ _ := ((XS.far (by first | (simp; done) | (simp; omega) | omega) _).far (by first | (simp; done) | (simp; omega) | omega) _)
           have YXH : Blk ((x4.setCell ⟨V2.heap.size, 0, none⟩ (.bool (ng (roundN x.q p)))).setCell ⟨V2.heap.size, 1, none⟩ (.slice N (mag (roundN x.q p)).length nc)) _ _ := ((XH.far (by first | (simp; done) | (simp; omega) | omega) _).far (by first | (simp; done) | (simp; omega) | omega) _)
           have YhT : Rd _ ((x4.setCell ⟨V2.heap.size, 0, none⟩ (.bool (ng (roundN x.q p)))).setCell ⟨V2.heap.size, 1, none⟩ (.slice N (mag (roundN x.q p)).length nc)) _ _ := ((hT.setCell (by first | (simp; done) | (simp; omega) | omega) _).setCell (by first | (simp; done) | (simp; omega) | omega) _)
           have Yrx : RF.ok _ ((x4.setCell ⟨V2.heap.size, 0, none⟩ (.bool (ng (roundN x.q p)))).setCell ⟨V2.heap.size, 1, none⟩ (.slice N (mag (roundN x.q p)).length nc)) _ := RF.ok.setCell (RF.ok.setCell (rx) (by first | (simp; done) | (simp; omega) | omega) _) (by first | (simp; done) | (simp; omega) | omega) _
           have Yoks : RF.ok _ ((x4.setCell ⟨V2.heap.size, 0, none⟩ (.bool (ng (roundN x.q p)))).setCell ⟨V2.heap.size, 1, none⟩ (.slice N (mag (roundN x.q p)).length nc)) _ := RF.ok.setCell (RF.ok.setCell (oks) (by first | (simp; done) | (simp; omega) | omega) _) (by first | (simp; done) | (simp; omega) | omega) _
           have Yokh : RF.ok _ ((x4.setCell ⟨V2.heap.size, 0, none⟩ (.bool (ng (roundN x.q p)))).setCell ⟨V2.heap.size, 1, none⟩ (.slice N (mag (roundN x.q p)).length nc)) _ := RF.ok.setCell (RF.ok.setCell (okh) (by first | (simp; done) | (simp; omega) | omega) _) (by first | (simp; done) | (simp; omega) | omega) _
           have Yrn : Rd _ ((x4.setCell ⟨V2.heap.size, 0, none⟩ (.bool (ng (roundN x.q p)))).setCell ⟨V2.heap.size, 1, none⟩ (.slice N (mag (roundN x.q p)).length nc)) _ _ := (((Rd.mono (ok' := fun k => k ≠ (V2.heap.size) ∧ w.heap.size ≤ k) rn (fun k _ hk => by first | omega | (simp at hk; omega))).setCell (by first | (simp; done) | (simp; omega) | omega) _).setCell (by first | (simp; done) | (simp; omega) | omega) _)
           have hB2 : Below _ _ ((x4.setCell ⟨V2.heap.size, 0, none⟩ (.bool (ng (roundN x.q p)))).setCell ⟨V2.heap.size, 1, none⟩ (.slice N (mag (roundN x.q p)).length nc)) := ((hB.setCell (by first | (simp; done) | (simp; omega) | omega) _).setCell (by first | (simp; done) | (simp; omega) | omega) _)
           generalize ((x4.setCell ⟨V2.heap.size, 0, none⟩ (.bool (ng (roundN x.q p)))).setCell ⟨V2.heap.size, 1, none⟩ (.slice N (mag (roundN x.q p)).length nc)) = WZ at YN YXA YXT YXS YXH YhT Yrx Yoks Yokh Yrn hB2 hgl ⊢
           generalize V2.heap.size = bN at YN hgb hgl e0 e1 e2 e3 e4 e5 e6 e7 ⊢)
        | (have YN := Blk.new x4 [.bool (ng (roundN x.q p)), .slice N (mag (roundN x.q p)).length nc] 28
           have e0 : ¬ x4.heap.size = w.heap.size := by omega
           have e1 : ¬ w.heap.size = x4.heap.size := by omega
           have e2 : ¬ x4.heap.size = bT := by omega
           have e3 : ¬ bT = x4.heap.size := by omega
           have e4 : ¬ x4.heap.size = bS := by omega
           have e5 : ¬ bS = x4.heap.size := by omega
           have e6 : ¬ x4.heap.size = bH := by omega
           have e7 : ¬ bH = x4.heap.size := by omega
           have hgb : w.heap.size < x4.heap.size ∧ bT < x4.heap.size ∧ bS < x4.heap.size ∧ bH < x4.heap.size ∧ w.heap.size < x4.heap.size := by omega
           have hgl := YN.lt
           have YXA := XA.alloc (.cells #[.bool (ng (roundN x.q p)), .slice N (mag (roundN x.q p)).length nc] 28)
           have YXT := XT.alloc (.cells #[.bool (ng (roundN x.q p)), .slice N (mag (roundN x.q p)).length nc] 28)
           have YXS := XS.alloc (.cells #[.bool (ng (roundN x.q p)), .slice N (mag (roundN x.q p)).length nc] 28)
           have YXH := XH.alloc (.cells #[.bool (ng (roundN x.q p)), .slice N (mag (roundN x.q p)).length nc] 28)
           have YhT := hT.alloc (.cells #[.bool (ng (roundN x.q p)), .slice N (mag (roundN x.q p)).length nc] 28)
           have Yrx := RF.ok.alloc rx (.cells #[.bool (ng (roundN x.q p)), .slice N (mag (roundN x.q p)).length nc] 28)
           have Yoks := RF.ok.alloc oks (.cells #[.bool (ng (roundN x.q p)), .slice N (mag (roundN x.q p)).length nc] 28)
           have Yokh := RF.ok.alloc okh (.cells #[.bool (ng (roundN x.q p)), .slice N (mag (roundN x.q p)).length nc] 28)
           have Yrn := (Rd.mono (ok' := fun k => k ≠ x4.heap.size ∧ w.heap.size ≤ k) rn (fun k hl hk => by first | omega | (simp at hk; omega))).alloc (.cells #[.bool (ng (roundN x.q p)), .slice N (mag (roundN x.q p)).length nc] 28)
           have hB2 := hB.alloc hB.size (.cells #[.bool (ng (roundN x.q p)), .slice N (mag (roundN x.q p)).length nc] 28)
           generalize x4.alloc (.cells #[.bool (ng (roundN x.q p)), .slice N (mag (roundN x.q p)).length nc] 28) = WZ at YN YXA YXT YXS YXH YhT Yrx Yoks Yokh Yrn hB2 hgl ⊢
           generalize x4.heap.size = bN at YN hgb hgl e0 e1 e2 e3 e4 e5 e6 e7 ⊢)
      all_goals have HGB := Asd.mk hgb
      all_goals go_wp2_with fail
      all_goals go_meet
      all_goals exact ⟨bN, N, nc, rfl, hnc, YN, Yrn.mono (fun _ _ _ => trivial), YXA, YXT, YhT.mono (fun _ _ _ => trivial), RF.ok.mono Yrx (fun _ _ _ => trivial), by have h1 := HGB.out; omega, by have h1 := HGB.out; omega, hB2⟩
    case rest =>
      obtain ⟨bN, N, nc, rfl, hnc, XN, rn, XA, XT, hT, rx, hbN, hbN2, hB⟩ := hcut
      have cXN0 := XN.c 0 rfl; have cXN1 := XN.c 1 rfl; have cXA0 := XA.c 0 rfl; have cXA1 := XA.c 1 rfl; have cXA2 := XA.c 2 rfl; have cXT0 := XT.c 0 rfl; have cXT1 := XT.c 1 rfl
      have HLN2 := HLN.out
      have HRT : Asd (roundT x.q p = signT x.q (roundN x.q p) ++ (decT (roundN x.q p / 10 ^ p) ++ behindT (roundN x.q p) p)) := ⟨rfl⟩
      have hN0 := roundN_nonneg x.q p
      clear HSX HQN HS1 HS2 HS3 HS10 HQS HLN HTN
      generalize roundN x.q p = n at *
      have HFA := floor_facts hN0 hp60 HLN2
      have HFLN : Asd (∀ W, Rd (fun _ => True) W N (mag n) → Rd (fun _ => True) W T R10 → Calls Tryz.prog 75 #[.agg #[.bool (ng n), .slice N (mag n).length nc], .agg #[.bool false, .slice T R10.length t]] W (FlOut (n / 10 ^ p) (n % 10 ^ p) W)) := ⟨fun W h h' => by
        have := whole_Floor _ (ng n) N nc _ _ false T t R10 W h hnc h' ht (by omega) (by omega) (by rw [HV10.out]; exact HP10.out)
        rwa [zv_mag, show zv false R10 = val R10 from rfl, HV10.out, show fq n (10 ^ p) = n / 10 ^ p from if_pos HP10.out, show fr n (10 ^ p) = n % 10 ^ p by unfold fr; rw [show fq n (10 ^ p) = n / 10 ^ p from if_pos HP10.out]; have := Int.mul_ediv_add_emod n (10 ^ p); rw [Int.mul_comm] at this; omega] at this⟩
      unfold behindT at HRT
      generalize n / 10 ^ p = Q at *
      generalize n % 10 ^ p = R at *
      obtain ⟨hQ0, hR0, hQm, hRm, hQd, hRd⟩ := HFA
      have HTQ : Asd (wholeT Q = decT Q) := ⟨by unfold wholeT; rw [if_neg (by omega)]⟩
      have HTR : Asd (wholeT R = decT R) := ⟨by unfold wholeT; rw [if_neg (by omega)]⟩
      have HRD := Asd.mk hRd
      have HN0 := Asd.mk hN0
      clear hRd hQ0 hR0 hN0
      go_wp2_with fail
      have hm := HFLN.out wc rn hT
      refine hm.mono ?_
      clear hm HFLN hT XT cXT0 cXT1
      rintro e w1 ⟨Q1, k1, Q2, k2, rfl, hk1, hk2, hq, hr, hb1⟩
      replace XA := XA.below hb1; replace XN := XN.below hb1; replace rx := rx.below hb1; replace rn := rn.below hb1; replace cXA0 := XA.c 0 rfl; replace cXA1 := XA.c 1 rfl; replace cXA2 := XA.c 2 rfl; replace cXN0 := XN.c 0 rfl; replace cXN1 := XN.c 1 rfl; replace hB := below_go hB hb1
      replace hq := hq.mono (ok' := fun _ => True) (fun _ _ _ => trivial)
      replace hr := hr.mono (ok' := fun _ => True) (fun _ _ _ => trivial)
      go_wp2_with fail
      have XR := Blk.new (w1.alloc (.cells #[.bool (ng Q), .slice Q1 (mag Q).length k1] 28)) [.bool (ng R), .slice Q2 (mag R).length k2] 28
      simp only [World.size_alloc] at XR
      replace XA := (XA.alloc (.cells #[.bool (ng Q), .slice Q1 (mag Q).length k1] 28)).alloc (.cells #[.bool (ng R), .slice Q2 (mag R).length k2] 28); replace XN := (XN.alloc (.cells #[.bool (ng Q), .slice Q1 (mag Q).length k1] 28)).alloc (.cells #[.bool (ng R), .slice Q2 (mag R).length k2] 28); replace rx := (rx.alloc (.cells #[.bool (ng Q), .slice Q1 (mag Q).length k1] 28)).alloc (.cells #[.bool (ng R), .slice Q2 (mag R).length k2] 28); replace rn := (rn.alloc (.cells #[.bool (ng Q), .slice Q1 (mag Q).length k1] 28)).alloc (.cells #[.bool (ng R), .slice Q2 (mag R).length k2] 28); replace hq := (hq.alloc (.cells #[.bool (ng Q), .slice Q1 (mag Q).length k1] 28)).alloc (.cells #[.bool (ng R), .slice Q2 (mag R).length k2] 28); replace hr := (hr.alloc (.cells #[.bool (ng Q), .slice Q1 (mag Q).length k1] 28)).alloc (.cells #[.bool (ng R), .slice Q2 (mag R).length k2] 28)
      replace hB := (hB.alloc hB.size (.cells #[.bool (ng Q), .slice Q1 (mag Q).length k1] 28)).alloc (by have := hB.size; rw [World.size_alloc]; omega) (.cells #[.bool (ng R), .slice Q2 (mag R).length k2] 28)
      generalize (w1.alloc (.cells #[.bool (ng Q), .slice Q1 (mag Q).length k1] 28)).alloc (.cells #[.bool (ng R), .slice Q2 (mag R).length k2] 28) = V3 at *
      generalize hbq : w1.heap.size = bq at *
      clear hb1 hbq
      have cXR0 := XR.c 0 rfl; have cXR1 := XR.c 1 rfl
      replace cXA0 := XA.c 0 rfl; replace cXA1 := XA.c 1 rfl; replace cXA2 := XA.c 2 rfl; replace cXN0 := XN.c 0 rfl; replace cXN1 := XN.c 1 rfl
      have hm := whole_Text _ (ng Q) Q1 k1 (mag Q) V3 hq hk1 (by omega)
      rw [zv_mag, HTQ.out] at hm
      refine hm.mono ?_
      clear hm hq
      rintro e w2 ⟨rfl, hb1⟩
      replace XA := XA.below hb1; replace XN := XN.below hb1; replace rx := rx.below hb1; replace rn := rn.below hb1; replace hr := hr.below hb1; replace XR := XR.below hb1; replace cXA0 := XA.c 0 rfl; replace cXA1 := XA.c 1 rfl; replace cXA2 := XA.c 2 rfl; replace cXN0 := XN.c 0 rfl; replace cXN1 := XN.c 1 rfl; replace cXR0 := XR.c 0 rfl; replace cXR1 := XR.c 1 rfl; replace hB := below_go hB hb1
      clear hb1
      generalize decT Q = dQ at *
      by_cases h0 : p = 0
      · have hd : decide ((0 : Int) < (p : Int)) = false := decide_eq_false (by omega)
        rw [if_pos h0, List.append_nil] at HRT
        have hl1 : ¬ 9223372036854775807 < 1 + dQ.length := by omega
        have hl2 : ¬ 9223372036854775807 < dQ.length + 1 := by omega
        go_wp2_with fail
        rcases Int.lt_or_le x.q.num 0 with hneg | hneg
        · have hsx : sgI x.q.num = -1 := sgI_neg hneg
          have hm := frac_Sign _ x _ rx
          rw [hsx] at hm
          refine hm.mono ?_
          clear hm
          rintro e w8 ⟨rfl, hb1⟩
          replace XA := XA.below hb1; replace XN := XN.below hb1; replace rx := rx.below hb1; replace rn := rn.below hb1; replace hr := hr.below hb1; replace XR := XR.below hb1; replace cXA0 := XA.c 0 rfl; replace cXA1 := XA.c 1 rfl; replace cXA2 := XA.c 2 rfl; replace cXN0 := XN.c 0 rfl; replace cXN1 := XN.c 1 rfl; replace cXR0 := XR.c 0 rfl; replace cXR1 := XR.c 1 rfl; replace hB := below_go hB hb1
          clear hb1
          go_wp2_with fail
          have hm := cSign rn hnc
          by_cases hn0 : n = 0
          · have hsn : sgI n = 0 := by rw [hn0]; exact sgI_zero
            rw [hsn] at hm
            refine hm.mono ?_
            clear hm
            rintro e w9 ⟨rfl, hb1⟩
            replace XA := XA.below hb1; replace XN := XN.below hb1; replace rx := rx.below hb1; replace rn := rn.below hb1; replace hr := hr.below hb1; replace XR := XR.below hb1; replace cXA0 := XA.c 0 rfl; replace cXA1 := XA.c 1 rfl; replace cXA2 := XA.c 2 rfl; replace cXN0 := XN.c 0 rfl; replace cXN1 := XN.c 1 rfl; replace cXR0 := XR.c 0 rfl; replace cXR1 := XR.c 1 rfl; replace hB := below_go hB hb1
            clear hb1
            go_wp2
            go_ret
            refine ⟨?_, hB⟩
            rw [HRT.out]
            unfold signT
            rw [if_neg (fun h => h.2 hn0)]
            exact congrArg (fun t => Ending.returned (.string t)) (by first | rfl | (apply ByteArray.ext; simp [ByteArray.data_append]))
          · have hsn : sgI n = 1 := sgI_pos (by have := HN0.out; omega)
            rw [hsn] at hm
            refine hm.mono ?_
            clear hm
            rintro e w9 ⟨rfl, hb1⟩
            replace XA := XA.below hb1; replace XN := XN.below hb1; replace rx := rx.below hb1; replace rn := rn.below hb1; replace hr := hr.below hb1; replace XR := XR.below hb1; replace cXA0 := XA.c 0 rfl; replace cXA1 := XA.c 1 rfl; replace cXA2 := XA.c 2 rfl; replace cXN0 := XN.c 0 rfl; replace cXN1 := XN.c 1 rfl; replace cXR0 := XR.c 0 rfl; replace cXR1 := XR.c 1 rfl; replace hB := below_go hB hb1
            clear hb1
            go_wp2
            go_ret
            refine ⟨?_, hB⟩
            rw [HRT.out]
            unfold signT
            rw [if_pos ⟨hneg, hn0⟩]
            exact congrArg (fun t => Ending.returned (.string t)) (by first | rfl | (apply ByteArray.ext; simp [ByteArray.data_append]))
        · have hsx : decide (sgI x.q.num < 0) = false := decide_eq_false (by rcases Int.lt_or_eq_of_le hneg with h | h; (rw [sgI_pos h]; decide); (rw [← h, sgI_zero]; decide))
          have hm := frac_Sign _ x _ rx
          generalize sgI x.q.num = sg at hm hsx
          refine hm.mono ?_
          clear hm
          rintro e w8 ⟨rfl, hb1⟩
          replace XA := XA.below hb1; replace XN := XN.below hb1; replace rx := rx.below hb1; replace rn := rn.below hb1; replace hr := hr.below hb1; replace XR := XR.below hb1; replace cXA0 := XA.c 0 rfl; replace cXA1 := XA.c 1 rfl; replace cXA2 := XA.c 2 rfl; replace cXN0 := XN.c 0 rfl; replace cXN1 := XN.c 1 rfl; replace cXR0 := XR.c 0 rfl; replace cXR1 := XR.c 1 rfl; replace hB := below_go hB hb1
          clear hb1
          go_wp2
          go_ret
          refine ⟨?_, hB⟩
          rw [HRT.out]
          unfold signT
          rw [if_neg (fun h => by have := h.1; omega)]
          exact congrArg (fun t => Ending.returned (.string t)) (by first | rfl | (apply ByteArray.ext; simp [ByteArray.data_append]))
      · have hd : decide ((0 : Int) < (p : Int)) = true := decide_eq_true (by omega)
        rw [if_neg h0] at HRT
        have hrl := HRD.out h0
        go_wp2_with fail
        have hm := whole_Text _ (ng R) Q2 k2 (mag R) _ hr hk2 (by omega)
        rw [zv_mag, HTR.out] at hm
        refine hm.mono ?_
        clear hm hr XR cXR0 cXR1
        rintro e w3 ⟨rfl, hb1⟩
        replace XA := XA.below hb1; replace XN := XN.below hb1; replace rx := rx.below hb1; replace rn := rn.below hb1; replace cXA0 := XA.c 0 rfl; replace cXA1 := XA.c 1 rfl; replace cXA2 := XA.c 2 rfl; replace cXN0 := XN.c 0 rfl; replace cXN1 := XN.c 1 rfl; replace hB := below_go hB hb1
        clear hb1
        clear HRD HTR
        generalize decT R = dR at *
        have hwr : IntKind.i64.wrap ((p : Int) - (dR.length : Int)) = ((p - dR.length : Nat) : Int) := by
          rw [show ((p : Int) - (dR.length : Int)) = ((p - dR.length : Nat) : Int) by omega]
          rw [IntKind.wrap_i64]; omega
        go_wp2_with fail
        have hm := strings_Repeat0 (p - dR.length) (by omega) w3
        have hzl : (List.replicate (p - dR.length) (48 : UInt8)).length ≤ 60 := by rw [List.length_replicate]; omega
        generalize List.replicate (p - dR.length) (48 : UInt8) = Zs at hm HRT hzl
        refine hm.mono ?_
        clear hm
        rintro e w4 ⟨rfl, hb1⟩
        replace XA := XA.below hb1; replace XN := XN.below hb1; replace rx := rx.below hb1; replace rn := rn.below hb1; replace cXA0 := XA.c 0 rfl; replace cXA1 := XA.c 1 rfl; replace cXA2 := XA.c 2 rfl; replace cXN0 := XN.c 0 rfl; replace cXN1 := XN.c 1 rfl; replace hB := below_go hB hb1
        clear hb1
        have hl0 : ¬ 9223372036854775807 < 1 + Zs.length := by omega
        have hl1 : ¬ 9223372036854775807 < Zs.length + 1 := by omega
        have hl2 : ¬ 9223372036854775807 < 1 + Zs.length + dR.length := by omega
        have hl3 : ¬ 9223372036854775807 < Zs.length + 1 + dR.length := by omega
        have hl4 : ¬ 9223372036854775807 < dQ.length + (1 + Zs.length + dR.length) := by omega
        have hl5 : ¬ 9223372036854775807 < dQ.length + (Zs.length + 1 + dR.length) := by omega
        have hl6 : ¬ 9223372036854775807 < 1 + (dQ.length + (1 + Zs.length + dR.length)) := by omega
        have hl7 : ¬ 9223372036854775807 < dQ.length + (1 + Zs.length + dR.length) + 1 := by omega
        have hl8 : ¬ 9223372036854775807 < 1 + (dQ.length + (Zs.length + 1 + dR.length)) := by omega
        go_wp2_with fail
        rcases Int.lt_or_le x.q.num 0 with hneg | hneg
        · have hsx : sgI x.q.num = -1 := sgI_neg hneg
          have hm := frac_Sign _ x _ rx
          rw [hsx] at hm
          refine hm.mono ?_
          clear hm
          rintro e w8 ⟨rfl, hb1⟩
          replace XA := XA.below hb1; replace XN := XN.below hb1; replace rx := rx.below hb1; replace rn := rn.below hb1; replace cXA0 := XA.c 0 rfl; replace cXA1 := XA.c 1 rfl; replace cXA2 := XA.c 2 rfl; replace cXN0 := XN.c 0 rfl; replace cXN1 := XN.c 1 rfl; replace hB := below_go hB hb1
          clear hb1
          go_wp2_with fail
          have hm := cSign rn hnc
          by_cases hn0 : n = 0
          · have hsn : sgI n = 0 := by rw [hn0]; exact sgI_zero
            rw [hsn] at hm
            refine hm.mono ?_
            clear hm
            rintro e w9 ⟨rfl, hb1⟩
            replace XA := XA.below hb1; replace XN := XN.below hb1; replace rx := rx.below hb1; replace rn := rn.below hb1; replace cXA0 := XA.c 0 rfl; replace cXA1 := XA.c 1 rfl; replace cXA2 := XA.c 2 rfl; replace cXN0 := XN.c 0 rfl; replace cXN1 := XN.c 1 rfl; replace hB := below_go hB hb1
            clear hb1
            go_wp2
            go_ret
            refine ⟨?_, hB⟩
            rw [HRT.out]
            unfold signT
            rw [if_neg (fun h => h.2 hn0)]
            exact congrArg (fun t => Ending.returned (.string t)) (by first | rfl | (apply ByteArray.ext; simp [ByteArray.data_append]))
          · have hsn : sgI n = 1 := sgI_pos (by have := HN0.out; omega)
            rw [hsn] at hm
            refine hm.mono ?_
            clear hm
            rintro e w9 ⟨rfl, hb1⟩
            replace XA := XA.below hb1; replace XN := XN.below hb1; replace rx := rx.below hb1; replace rn := rn.below hb1; replace cXA0 := XA.c 0 rfl; replace cXA1 := XA.c 1 rfl; replace cXA2 := XA.c 2 rfl; replace cXN0 := XN.c 0 rfl; replace cXN1 := XN.c 1 rfl; replace hB := below_go hB hb1
            clear hb1
            go_wp2
            go_ret
            refine ⟨?_, hB⟩
            rw [HRT.out]
            unfold signT
            rw [if_pos ⟨hneg, hn0⟩]
            exact congrArg (fun t => Ending.returned (.string t)) (by first | rfl | (apply ByteArray.ext; simp [ByteArray.data_append]))
        · have hsx : decide (sgI x.q.num < 0) = false := decide_eq_false (by rcases Int.lt_or_eq_of_le hneg with h | h; (rw [sgI_pos h]; decide); (rw [← h, sgI_zero]; decide))
          have hm := frac_Sign _ x _ rx
          generalize sgI x.q.num = sg at hm hsx
          refine hm.mono ?_
          clear hm
          rintro e w8 ⟨rfl, hb1⟩
          replace XA := XA.below hb1; replace XN := XN.below hb1; replace rx := rx.below hb1; replace rn := rn.below hb1; replace cXA0 := XA.c 0 rfl; replace cXA1 := XA.c 1 rfl; replace cXA2 := XA.c 2 rfl; replace cXN0 := XN.c 0 rfl; replace cXN1 := XN.c 1 rfl; replace hB := below_go hB hb1
          clear hb1
          go_wp2
          go_ret
          refine ⟨?_, hB⟩
          rw [HRT.out]
          unfold signT
          rw [if_neg (fun h => by have := h.1; omega)]
          exact congrArg (fun t => Ending.returned (.string t)) (by first | rfl | (apply ByteArray.ext; simp [ByteArray.data_append]))
end Go.Proofs.YthjpkichpkomcaaGreatDoor
