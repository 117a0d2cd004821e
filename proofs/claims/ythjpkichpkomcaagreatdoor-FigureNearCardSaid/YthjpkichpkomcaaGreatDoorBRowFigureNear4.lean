/- Nat2 · Prod -/
import Derived.Test.YthjpkichpkomcaaGreatDoorNat1
/- Layer 2: sums, differences and what lies between two naturals (nat), a number of the machine's as a list, and back. -/
namespace Go.Proofs.YthjpkichpkomcaaGreatDoor
open Go.RowKit Go.Proofs.YthjpkichpkomcaaGreatDoor.Big
set_option linter.unusedVariables false
set_option maxRecDepth 100000

theorem nat_plus (ok : Nat → Prop) (A : Option Addr) (c : Nat) (l : List Int) (ok' : Nat → Prop) (A' : Option Addr) (c' : Nat) (l' : List Int) (w : World) (h : Rd ok w A l) (hc : l.length ≤ c) (h' : Rd ok' w A' l') (hc' : l'.length ≤ c') (hbig : l.length < 1000000000000) (hbig' : l'.length < 1000000000000) :
    Calls Tryz.prog 172 #[.slice A l.length c, .slice A' l'.length c'] w fun e w' => ∃ A1 c1, e = .returned (.slice A1 (rep (val l + val l')).length c1) ∧ (rep (val l + val l')).length ≤ c1 ∧ Rd (fun k => w.heap.size ≤ k) w' A1 (rep (val l + val l')) ∧ Below w.heap.size w w' := by
  rcases Nat.lt_or_ge l.length l'.length with hlt | hge
  · exact nat_plus_lt ok A c l ok' A' c' l' w h hc h' hc' hlt hbig hbig'
  · exact nat_plus_ge ok A c l ok' A' c' l' w h hc h' hc' hge hbig hbig'

/-- The sum so far. -/
def sumTo (a b : Int) (k : Nat) : Int := if k = 0 then 0 else if k = 1 then a else a + b

set_option maxHeartbeats 1000000 in
theorem nat_Add (ok : Nat → Prop) (A : Option Addr) (c : Nat) (l : List Int) (ok' : Nat → Prop) (A' : Option Addr) (c' : Nat) (l' : List Int) (b cc : Nat) (w : World) (h : Rd ok w A l) (hc : l.length ≤ c) (h' : Rd ok' w A' l') (hc' : l'.length ≤ c') (hbig : l.length < 100000000000) (hbig' : l'.length < 100000000000)
    (h0 : w.cell? ⟨b, 0, none⟩ = some (.slice A l.length c)) (h1 : w.cell? ⟨b, 1, none⟩ = some (.slice A' l'.length c')) :
    Calls Tryz.prog 128 #[.slice (some ⟨b, 0, none⟩) 2 cc] w fun e w' => ∃ A1 c1, e = .returned (.slice A1 (rep (val l + val l')).length c1) ∧ (rep (val l + val l')).length ≤ c1 ∧ Rd (fun k => w.heap.size ≤ k) w' A1 (rep (val l + val l')) ∧ Below w.heap.size w w' := by
  have hlt0 := World.block_lt_of_cell? w _ h0
  have hv := val_nonneg h.wd
  have hv' := val_nonneg h'.wd
  go_enter Tryz.func128, Tryz.ntmps128
  go_wp2
  go_loopw [3, 8] (fun s i wr => ∃ (k : Nat) (S : Option Addr) (d : Nat), k ≤ 2 ∧ i = .int .i64 k ∧ s = .slice S (rep (sumTo (val l) (val l') k)).length d ∧ (rep (sumTo (val l) (val l') k)).length ≤ d ∧ Asd (Rd (fun k => w.heap.size ≤ k) wr S (rep (sumTo (val l) (val l') k))) ∧ Asd (Below w.heap.size w wr)) (fun _ i _ => 2 - (intOf i).toNat)
  case atStart => exact ⟨0, none, 0, by omega, rfl, by show _ = Value.slice none (rep 0).length 0; rw [rep_zero]; rfl, by show (rep 0).length ≤ 0; rw [rep_zero]; simp, ⟨by show Rd _ _ _ (rep 0); rw [rep_zero]; exact Rd.nil _ _ _⟩, ⟨Below.refl _ _⟩⟩
  case round =>
    obtain ⟨k, S, d, hk, rfl, rfl, hd, HR, HB⟩ := hrel
    have c0 : wr.cell? ⟨b, 0, none⟩ = some (.slice A l.length c) := (HB.out.cell (p := ⟨b, 0, none⟩) hlt0).trans h0
    have c1 : wr.cell? ⟨b, 1, none⟩ = some (.slice A' l'.length c') := (HB.out.cell (p := ⟨b, 1, none⟩) hlt0).trans h1
    have r := h.below HB.out
    have r' := h'.below HB.out
    have hz := HB.out.size
    by_cases k0 : k = 0
    · subst k0
      clear c1 r'
      go_wp2_with fail
      refine (nat_trim _ A c l _ r hc).mono ?_
      rintro e w1 ⟨rfl, rfl, he, hle⟩
      have hr2 : Rd ok wr A (rep (val l)) := by rw [he]; exact r.take _
      have hx : val (rep (sumTo (val l) (val l') 0)) + val (rep (val l)) = sumTo (val l) (val l') 1 := by
        rw [val_rep hv]; show val (rep 0) + val l = val l; rw [rep_zero, val_nil]; omega
      have HX := Asd.mk hx
      have hl1 : (rep (sumTo (val l) (val l') 0)).length < 1000000000000 := by show (rep 0).length < _; rw [rep_zero]; simp
      clear he hx
      go_wp2_with fail
      have hp := nat_plus _ S d _ _ A c _ wr HR.out hd hr2 (by omega) hl1 (by omega)
      rw [HX.out] at hp
      (with_reducible refine hp.mono ?_)
      rintro e w1 ⟨S1, d1, rfl, hd1, hr3, hb1⟩
      have HR3 := Asd.mk (hr3.mono (fun k hk1 hk2 => Nat.le_trans hz hk2))
      have HB3 := Asd.mk (HB.out.trans (hb1.mono hz))
      clear hr3 hb1 hp
      go_wp2
      go_roundw
      case rel => exact ⟨1, S1, d1, by omega, rfl, rfl, hd1, HR3, HB3⟩
      case measure => simp [intOf]
    · by_cases k1 : k = 1
      · subst k1
        clear c0 r
        go_wp2_with fail
        refine (nat_trim _ A' c' l' _ r' hc').mono ?_
        rintro e w1 ⟨rfl, rfl, he, hle⟩
        have hr2 : Rd ok' wr A' (rep (val l')) := by rw [he]; exact r'.take _
        have hx : val (rep (sumTo (val l) (val l') 1)) + val (rep (val l')) = sumTo (val l) (val l') 2 := by
          rw [val_rep hv']; show val (rep (val l)) + val l' = val l + val l'; rw [val_rep hv]
        have HX := Asd.mk hx
        have hl1 : (rep (sumTo (val l) (val l') 1)).length < 1000000000000 := by
          have := rep_length_le (val_lt h.wd)
          show (rep (val l)).length < _; omega
        clear he hx
        go_wp2_with fail
        have hp := nat_plus _ S d _ _ A' c' _ wr HR.out hd hr2 (by omega) hl1 (by omega)
        rw [HX.out] at hp
        (with_reducible refine hp.mono ?_)
        rintro e w1 ⟨S1, d1, rfl, hd1, hr3, hb1⟩
        have HR3 := Asd.mk (hr3.mono (fun k hk1 hk2 => Nat.le_trans hz hk2))
        have HB3 := Asd.mk (HB.out.trans (hb1.mono hz))
        clear hr3 hb1 hp
        go_wp2
        go_roundw
        case rel => exact ⟨2, S1, d1, by omega, rfl, rfl, hd1, HR3, HB3⟩
        case measure => simp [intOf]
      · have k2 : k = 2 := by omega
        subst k2
        go_wp2
        go_ret
        exact ⟨S, d, rfl, hd, HR.out, HB.out⟩

set_option maxHeartbeats 1000000 in
theorem nat_Sub_no (ok : Nat → Prop) (A : Option Addr) (c : Nat) (l : List Int) (ok' : Nat → Prop) (A' : Option Addr) (c' : Nat) (l' : List Int) (w : World) (h : Rd ok w A l) (hc : l.length ≤ c) (h' : Rd ok' w A' l') (hc' : l'.length ≤ c') (hlt : val l < val l') :
    Calls Tryz.prog 184 #[.slice A l.length c, .slice A' l'.length c'] w fun e w' => e = .returned (.tuple #[.slice none 0 0, .bool false]) ∧ Dn w w' := by
  have hv := val_nonneg h.wd
  have hv' := val_nonneg h'.wd
  have HC := Asd.mk (cmpI_lt hlt)
  go_enter Tryz.func184, Tryz.ntmps184
  go_wp2_with fail
  refine (nat_trim ok A c l w h hc).mono ?_
  rintro e w1 ⟨rfl, rfl, he, hle⟩
  have hr : Rd ok w A (rep (val l)) := by rw [he]; exact h.take _
  clear he
  go_wp2_with fail
  refine (nat_trim ok' A' c' l' w h' hc').mono ?_
  rintro e w1 ⟨rfl, rfl, he', hle'⟩
  have hr' : Rd ok' w A' (rep (val l')) := by rw [he']; exact h'.take _
  clear he'
  go_wp2_with fail
  have hp := nat_Cmp _ A c _ _ A' c' _ w hr (by omega) hr' (by omega)
  rw [val_rep hv, val_rep hv', HC.out] at hp
  (with_reducible refine hp.mono ?_)
  rintro e w1 ⟨rfl, n, rfl⟩
  clear hp
  go_wp2
  go_ret2
  exact ⟨rfl, n, rfl⟩

theorem sub_step {a b o : List Int} {k : Nat} {kc s k2 y : Int} (ha : k < a.length) (ho : k < o.length) (hy : val (b.take (k + 1)) = val (b.take k) + pw k * y) (h : val (o.take k) - pw k * kc = val (a.take k) - val (b.take k)) (hs : s - 4294967296 * k2 = a.getD k 0 - y - kc) : val ((o.set k s).take (k + 1)) - pw (k + 1) * k2 = val (a.take (k + 1)) - val (b.take (k + 1)) := by
  rw [val_take_set o k s ho, val_take_succ a k ha, hy, pw_succ]
  have : pw k * (s - 4294967296 * k2) = pw k * (a.getD k 0 - y - kc) := by rw [hs]
  simp only [Int.mul_sub] at this
  rw [show 4294967296 * pw k * k2 = pw k * (4294967296 * k2) from by rw [Int.mul_comm 4294967296 (pw k), Int.mul_assoc]]
  omega
theorem sub_end {a b o : List Int} {kc : Int} (hw : Wd o) (hlen : o.length = a.length) (h : val (o.take a.length) - pw a.length * kc = val a - val b) (hk0 : 0 ≤ kc) (hk1 : kc ≤ 1) (hge : val b ≤ val a) : val o = val a - val b := by
  rw [List.take_of_length_le (by omega)] at h
  have h1 := val_lt hw
  rw [hlen] at h1
  have h2 : kc = 0 ∨ kc = 1 := by omega
  rcases h2 with rfl | rfl
  · omega
  · omega

set_option maxHeartbeats 1000000 in
theorem nat_Sub_yes (ok : Nat → Prop) (A : Option Addr) (c : Nat) (l : List Int) (ok' : Nat → Prop) (A' : Option Addr) (c' : Nat) (l' : List Int) (w : World) (h : Rd ok w A l) (hc : l.length ≤ c) (h' : Rd ok' w A' l') (hc' : l'.length ≤ c') (hge : val l' ≤ val l) (hbig : l.length < 1000000000000) :
    Calls Tryz.prog 184 #[.slice A l.length c, .slice A' l'.length c'] w fun e w' => ∃ A1 c1, e = .returned (.tuple #[.slice A1 (rep (val l - val l')).length c1, .bool true]) ∧ (rep (val l - val l')).length ≤ c1 ∧ Rd (fun k => w.heap.size ≤ k) w' A1 (rep (val l - val l')) ∧ Below w.heap.size w w' := by
  have hv := val_nonneg h.wd
  have hv' := val_nonneg h'.wd
  have hcm : 0 ≤ cmpI (val l) (val l') := by unfold cmpI; rw [if_neg (by omega)]; split <;> omega
  go_enter Tryz.func184, Tryz.ntmps184
  go_wp2_with fail
  refine (nat_trim ok A c l w h hc).mono ?_
  rintro e w1 ⟨rfl, rfl, he, hle⟩
  have H1 : Rd ok w A (rep (val l)) := by rw [he]; exact h.take _
  clear he
  go_wp2_with fail
  refine (nat_trim ok' A' c' l' w h' hc').mono ?_
  rintro e w1 ⟨rfl, rfl, he', hle'⟩
  have H2 : Rd ok' w A' (rep (val l')) := by rw [he']; exact h'.take _
  clear he'
  go_wp2_with fail
  have hp := nat_Cmp _ A c _ _ A' c' _ w H1 (by omega) H2 (by omega)
  rw [val_rep hv, val_rep hv'] at hp
  (with_reducible refine hp.mono ?_)
  rintro e w1 ⟨rfl, n0, rfl⟩
  clear hp
  have HD : Asd (val (rep (val l)) - val (rep (val l')) = val l - val l') := ⟨by rw [val_rep hv, val_rep hv']⟩
  have HG : Asd (val (rep (val l')) ≤ val (rep (val l))) := ⟨by rw [val_rep hv, val_rep hv']; exact hge⟩
  have hba : (rep (val l')).length ≤ (rep (val l)).length := rep_length_mono hv' hge
  generalize rep (val l) = a at *
  generalize rep (val l') = b at *
  have hla := H1.len
  have hlb := H2.len
  go_wp2_with fail
  have H1n := H1.drewN n0
  have H2n := H2.drewN n0
  refine (nat_fresh ok A c a 0 (w.drewN n0) H1n (by omega) (by omega) (by omega)).mono ?_
  rintro e w1 ⟨g, rfl, how, hg0, hb0⟩
  simp only [Int.toNat_zero, Nat.add_zero, List.replicate_zero, List.append_nil] at how ⊢
  have hg : w.heap.size ≤ g := hg0
  have hb : Below w.heap.size w w1 := (below_drewN (Below.refl _ _) n0).trans hb0
  clear hb0 hg0 H1n H2n
  go_wp2
  go_loopw [7, 22] (fun v i wr => ∃ (k : Nat) (kc : Int) (o : List Int), k ≤ a.length ∧ i = .int .i64 k ∧ v = .int .u32 kc ∧ 0 ≤ kc ∧ kc ≤ 1 ∧ Asd (Ow wr g a.length o) ∧ Asd (o.length = a.length) ∧ Asd (val (o.take k) - pw k * kc = val (a.take k) - val (b.take k)) ∧ Asd (Below w.heap.size w wr)) (fun _ i _ => a.length - (intOf i).toNat)
  case atStart => exact ⟨0, 0, _, Nat.zero_le _, rfl, rfl, by omega, by omega, ⟨how⟩, ⟨rfl⟩, ⟨by simp [val]⟩, ⟨hb⟩⟩
  case round =>
    clear how hb
    obtain ⟨k, kc, o, hk, rfl, rfl, hk0, hk1, HO, HOL, HV, HB⟩ := hrel
    have hcap := HO.out.lt
    by_cases hlt : k < a.length
    · have r1 := H1.below HB.out
      obtain ⟨ad, x, rfl, ho, hcell, hx0, hx1, HX⟩ := r1.el k hlt
      have hfr := HO.out.free k
      obtain ⟨z, hfr', _, _, _⟩ := HO.out.el k (by have := HOL.out; omega)
      by_cases hlt2 : k < b.length
      · have r2 := H2.below HB.out
        obtain ⟨ad', y, rfl, ho', hcell', hy0, hy1, HY⟩ := r2.el k hlt2
        clear r1 r2
        go_wp2_with fail
        (with_reducible refine (limb_Sub _ _ _ hx0 hx1 hy0 hy1 hk0 (by omega) _).mono ?_)
        rintro e w2 ⟨rfl, s, k2, rfl, hs, hs0, hs1⟩
        have HS := Asd.mk hs
        have hb2 : 0 ≤ k2 ∧ k2 ≤ 1 := by omega
        clear hs
        obtain ⟨hb2, hb3⟩ := hb2
        go_wp2
        go_roundw
        case rel =>
          refine ⟨k + 1, k2, o.set k s, hlt, by go_num, rfl, hb2, hb3, ⟨HO.out.set k hs0 hs1⟩, ⟨by rw [List.length_set]; exact HOL.out⟩, ⟨?_⟩, ⟨HB.out.setCell hg _⟩⟩
          exact sub_step hlt (by have := HOL.out; omega) (by rw [val_take_succ b k hlt2, HY.out]) HV.out (by rw [HX.out]; exact HS.out)
        case measure => simp [intOf]; omega
      · clear r1
        go_wp2_with fail
        (with_reducible refine (limb_Sub _ _ _ hx0 hx1 (by omega) (by omega) hk0 (by omega) _).mono ?_)
        rintro e w2 ⟨rfl, s, k2, rfl, hs, hs0, hs1⟩
        have HS := Asd.mk hs
        have hb2 : 0 ≤ k2 ∧ k2 ≤ 1 := by omega
        clear hs
        obtain ⟨hb2, hb3⟩ := hb2
        go_wp2
        go_roundw
        case rel =>
          refine ⟨k + 1, k2, o.set k s, hlt, by go_num, rfl, hb2, hb3, ⟨HO.out.set k hs0 hs1⟩, ⟨by rw [List.length_set]; exact HOL.out⟩, ⟨?_⟩, ⟨HB.out.setCell hg _⟩⟩
          exact sub_step hlt (by have := HOL.out; omega) (take_over b k (by omega)) HV.out (by rw [HX.out]; exact HS.out)
        case measure => simp [intOf]; omega
    · have hkl : k = a.length := by omega
      subst hkl
      have HF : Asd (val o = val l - val l') := ⟨by
        rw [← HD.out]
        refine sub_end HO.out.wd HOL.out ?_ hk0 hk1 HG.out
        have := HV.out
        rwa [List.take_of_length_le (l := a) (Nat.le_refl _), List.take_of_length_le (l := b) (by omega)] at this⟩
      go_wp2_with fail
      have hrd : Rd (fun k => w.heap.size ≤ k) wr (some ⟨g, 0, none⟩) o := HO.out.rd hg
      have hcall := nat_trim _ _ a.length _ _ hrd (by rw [HOL.out]; omega)
      rw [HOL.out, HF.out] at hcall
      (with_reducible refine hcall.mono ?_)
      rintro e w2 ⟨rfl, rfl, he, hle2⟩
      have hr3 : Rd (fun k => w.heap.size ≤ k) wr (some ⟨g, 0, none⟩) (rep (val l - val l')) := by rw [he]; exact hrd.take _
      clear he hrd hcall
      go_wp2
      go_ret2
      exact ⟨_, _, rfl, by have := HOL.out; omega, hr3, HB.out⟩

set_option maxHeartbeats 1000000 in
theorem nat_Gap (ok : Nat → Prop) (A : Option Addr) (c : Nat) (l : List Int) (ok' : Nat → Prop) (A' : Option Addr) (c' : Nat) (l' : List Int) (w : World) (h : Rd ok w A l) (hc : l.length ≤ c) (h' : Rd ok' w A' l') (hc' : l'.length ≤ c') (hbig : l.length < 1000000000000) (hbig' : l'.length < 1000000000000) :
    Calls Tryz.prog 139 #[.slice A l.length c, .slice A' l'.length c'] w fun e w' => ∃ A1 c1, e = .returned (.tuple #[.slice A1 (rep ((val l - val l').natAbs : Int)).length c1, .int .i64 (cmpI (val l) (val l'))]) ∧ (rep ((val l - val l').natAbs : Int)).length ≤ c1 ∧ Rd (fun k => w.heap.size ≤ k) w' A1 (rep ((val l - val l').natAbs : Int)) ∧ Below w.heap.size w w' := by
  by_cases hlt : val l < val l'
  · have HC := Asd.mk (cmpI_lt hlt)
    have HN : Asd (val l' - val l = ((val l - val l').natAbs : Int)) := ⟨by omega⟩
    go_enter Tryz.func139, Tryz.ntmps139
    go_wp2_with fail
    have hp := nat_Cmp _ A c _ _ A' c' _ w h hc h' hc'
    rw [HC.out] at hp
    (with_reducible refine hp.mono ?_)
    rintro e w1 ⟨rfl, n0, rfl⟩
    clear hp
    go_wp2_with fail
    have hq := nat_Sub_yes _ A' c' _ _ A c _ (w.drewN n0) (h'.drewN n0) hc' (h.drewN n0) hc (by omega) hbig'
    rw [HN.out] at hq
    (with_reducible refine hq.mono ?_)
    rintro e w1 ⟨A1, c1, rfl, hc1, hr, hb⟩
    clear hq
    go_wp2
    go_ret2
    exact ⟨A1, c1, by rw [HC.out]; rfl, hc1, hr, (below_drewN (Below.refl _ _) n0).trans hb⟩
  · have hcm : 0 ≤ cmpI (val l) (val l') := by unfold cmpI; rw [if_neg (by omega)]; split <;> omega
    have HN : Asd (val l - val l' = ((val l - val l').natAbs : Int)) := ⟨by omega⟩
    go_enter Tryz.func139, Tryz.ntmps139
    go_wp2_with fail
    have hp := nat_Cmp _ A c _ _ A' c' _ w h hc h' hc'
    (with_reducible refine hp.mono ?_)
    rintro e w1 ⟨rfl, n0, rfl⟩
    clear hp
    go_wp2_with fail
    have hq := nat_Sub_yes _ A c _ _ A' c' _ (w.drewN n0) (h.drewN n0) hc (h'.drewN n0) hc' (by omega) hbig
    rw [HN.out] at hq
    (with_reducible refine hq.mono ?_)
    rintro e w1 ⟨A1, c1, rfl, hc1, hr, hb⟩
    clear hq
    go_wp2
    go_ret2
    exact ⟨A1, c1, rfl, hc1, hr, (below_drewN (Below.refl _ _) n0).trans hb⟩
end Go.Proofs.YthjpkichpkomcaaGreatDoor
/- Layer 4: products of naturals (limb.Mul, prod). -/
namespace Go.Proofs.YthjpkichpkomcaaGreatDoor
open Go.RowKit Go.Proofs.YthjpkichpkomcaaGreatDoor.Big
set_option linter.unusedVariables false
set_option maxRecDepth 100000

set_option maxHeartbeats 400000 in
theorem limb_Mul (x y c d : Int) (hx : 0 ≤ x) (hx1 : x < 4294967296) (hy : 0 ≤ y) (hy1 : y < 4294967296) (hc : 0 ≤ c) (hc1 : c < 4294967296) (hd : 0 ≤ d) (hd1 : d < 4294967296) (w : World) :
    Calls Tryz.prog 182 #[.int .u32 x, .int .u32 y, .int .u32 c, .int .u32 d] w fun e w' => w = w' ∧ ∃ hi lo : Int, e = .returned (.tuple #[.int .u32 hi, .int .u32 lo]) ∧ lo + 4294967296 * hi = x * y + c + d ∧ 0 ≤ lo ∧ lo < 4294967296 ∧ 0 ≤ hi ∧ hi < 4294967296 := by
  have h1 : 0 ≤ x * y := Int.mul_nonneg hx hy
  have h2 : x * y ≤ 4294967295 * 4294967295 := Int.mul_le_mul (by omega) (by omega) hy (by omega)
  go_enter Tryz.func182, Tryz.ntmps182
  go_wp2
  go_ret2
  exact ⟨rfl, _, _, rfl, by omega, by omega, by omega, by omega, by omega⟩

theorem getD_of_drop {o o' : List Int} {n : Nat} (h : o'.drop n = o.drop n) (j : Nat) (hj : n ≤ j) : o'.getD j 0 = o.getD j 0 := by
  have h1 : (o'.drop n)[j - n]? = (o.drop n)[j - n]? := by rw [h]
  rw [List.getElem?_drop, List.getElem?_drop, show n + (j - n) = j from by omega] at h1
  rw [List.getD_eq_getElem?_getD, List.getD_eq_getElem?_getD, h1]
theorem drop_set_succ (o : List Int) (n : Nat) (x : Int) : (o.set n x).drop (n + 1) = o.drop (n + 1) := by
  rw [List.drop_set_of_lt (by omega)]
theorem drop_more {o o' : List Int} {n : Nat} (h : o'.drop n = o.drop n) (m : Nat) (hm : n ≤ m) : o'.drop m = o.drop m := by
  have : (o'.drop n).drop (m - n) = (o.drop n).drop (m - n) := by rw [h]
  rwa [List.drop_drop, List.drop_drop, show n + (m - n) = m from by omega] at this

theorem row_step {vo v0 at_ pk x y z carry lo hi vt c : Int} (h : vo + at_ * pk * carry = v0 + at_ * (vt * x + c)) (hs : lo + 4294967296 * hi = x * y + z + carry) :
    vo + at_ * pk * (lo - z) + at_ * (4294967296 * pk) * hi = v0 + at_ * ((vt + pk * y) * x + c) := by
  have e : at_ * pk * (lo + 4294967296 * hi) = at_ * pk * (x * y + z + carry) := by rw [hs]
  grind

set_option maxHeartbeats 1000000 in
theorem prod_row (ok : Nat → Prop) (g cap : Nat) (o : List Int) (at_ : Int) (A : Option Addr) (cA : Nat) (l : List Int) (x c : Int) (w : World) (ho : Ow w g cap o) (h : Rd ok w A l) (hc : l.length ≤ cA) (hok : ¬ ok g) (hat : 0 ≤ at_) (hlen : at_ + l.length < o.length) (hx0 : 0 ≤ x) (hx1 : x < 4294967296) (hc0 : 0 ≤ c) (hc1 : c < 4294967296) (hz : o.getD (at_.toNat + l.length) 0 = 0) :
    Calls Tryz.prog 137 #[.slice (some ⟨g, 0, none⟩) o.length cap, .int .i64 at_, .slice A l.length cA, .int .u32 x, .int .u32 c] w fun e w' => ∃ o', e = .returned (.tuple #[]) ∧ Ow w' g cap o' ∧ o'.length = o.length ∧ val o' = val o + pw at_.toNat * (val l * x + c) ∧ o'.drop (at_.toNat + l.length + 1) = o.drop (at_.toNat + l.length + 1) ∧ w.grownBy w' (some g) := by
  obtain ⟨m, rfl⟩ := Int.eq_ofNat_of_zero_le hat
  simp only [Int.toNat_natCast] at hz ⊢
  have hl := h.len
  have hol := ho.len
  have HZ := Asd.mk hz
  clear hz
  have HO0 := Asd.mk ho
  clear ho
  go_enter Tryz.func137, Tryz.ntmps137
  go_wp2
  go_loopw [4, 14] (fun v i wr => ∃ (k : Nat) (kc : Int) (q : List Int), k ≤ l.length ∧ i = .int .i64 k ∧ v = .int .u32 kc ∧ 0 ≤ kc ∧ kc < 4294967296 ∧ Asd (Ow wr g cap q) ∧ Asd (q.length = o.length) ∧ Asd (val q + pw m * pw k * kc = val o + pw m * (val (l.take k) * x + c)) ∧ Asd (q.drop (m + k) = o.drop (m + k)) ∧ Asd (w.grownBy wr (some g))) (fun _ i _ => l.length - (intOf i).toNat)
  case atStart => exact ⟨0, c, o, Nat.zero_le _, rfl, rfl, hc0, hc1, HO0, ⟨rfl⟩, ⟨by simp [val, pw_zero]⟩, ⟨rfl⟩, ⟨grown_refl _ _⟩⟩
  case round =>
    obtain ⟨k, kc, q, hk, rfl, rfl, hk0, hk1, HO, HOL, HV, HD, HG⟩ := hrel
    have hcap := HO.out.lt
    by_cases hlt : k < l.length
    · have r1 : Rd ok wr A l := h.grown HG.out hok
      obtain ⟨ad, y, rfl, ho, hcell, hy0, hy1, HY⟩ := r1.el k hlt
      have hfr := HO.out.free (m + k)
      obtain ⟨z, hz, hz0, hz1, HZ2⟩ := HO.out.el (m + k) (by have := HOL.out; omega)
      have hmk : ((m : Int) + (k : Int)).toNat = m + k := by omega
      clear r1
      go_wp2_with fail
      (with_reducible refine (limb_Mul _ _ _ _ hx0 hx1 hy0 hy1 hz0 hz1 hk0 hk1 _).mono ?_)
      rintro e w2 ⟨rfl, hi, lo, rfl, hs, hlo0, hlo1, hhi0, hhi1⟩
      have HS := Asd.mk hs
      clear hs
      go_wp2
      go_roundw
      case rel =>
        refine ⟨k + 1, hi, q.set (m + k) lo, hlt, by go_num, rfl, hhi0, hhi1, ⟨HO.out.set _ hlo0 hlo1⟩, ⟨by rw [List.length_set]; exact HOL.out⟩, ⟨?_⟩, ⟨?_⟩, ⟨?_⟩⟩
        · rw [val_set q (m + k) lo (by have := HOL.out; omega), val_take_succ l k hlt, HY.out, HZ2.out, pw_succ, pw_add]
          exact row_step HV.out HS.out
        · rw [show m + (k + 1) = m + k + 1 from by omega, drop_set_succ]
          exact drop_more HD.out _ (by omega)
        · exact grown_trans HG.out (HO.out.2.2.stored _ _).2
      case measure => simp [intOf]; omega
    · have hkl : k = l.length := by omega
      subst hkl
      have hfr := HO.out.free (m + l.length)
      obtain ⟨z, hz, hz0, hz1, HZ2⟩ := HO.out.el (m + l.length) (by have := HOL.out; omega)
      have hmk : ((m : Int) + (l.length : Int)).toNat = m + l.length := by omega
      have hqz : Asd (q.getD (m + l.length) 0 = 0) := ⟨(getD_of_drop HD.out _ (Nat.le_refl _)).trans HZ.out⟩
      have hol2 := HOL.out
      clear hol2
      have hqlt : m + l.length < o.length := by omega
      go_wp2
      go_end0
      refine ⟨q.set (m + l.length) kc, rfl, HO.out.set _ hk0 hk1, by rw [List.length_set]; exact HOL.out, ?_, ?_, grown_trans HG.out (HO.out.2.2.stored _ _).2⟩
      · rw [val_set q _ kc (by have := HOL.out; omega), hqz.out, pw_add]
        have := HV.out
        rw [List.take_of_length_le (Nat.le_refl _)] at this
        rw [Int.sub_zero]
        exact this
      · rw [drop_set_succ]
        exact drop_more HD.out _ (by omega)

theorem getD_replicate (n j : Nat) : (List.replicate n (0 : Int)).getD j 0 = 0 := by
  rw [List.getD_eq_getElem?_getD, List.getElem?_replicate]
  split <;> rfl

set_option maxHeartbeats 1000000 in
theorem prod_Word (ok : Nat → Prop) (A : Option Addr) (cA : Nat) (l : List Int) (x c : Int) (w : World) (h : Rd ok w A l) (hc : l.length ≤ cA) (hbig : l.length < 100000000000) (hx0 : 0 ≤ x) (hx1 : x < 4294967296) (hc0 : 0 ≤ c) (hc1 : c < 4294967296) :
    Calls Tryz.prog 171 #[.slice A l.length cA, .int .u32 x, .int .u32 c] w fun e w' => ∃ g, e = .returned (.slice (some ⟨g, 0, none⟩) (rep (val l * x + c)).length (rep (val l * x + c)).length) ∧ Ow w' g (rep (val l * x + c)).length (rep (val l * x + c)) ∧ w.heap.size ≤ g ∧ Below w.heap.size w w' := by
  obtain ⟨hmk, how⟩ := make_u32 w (l.length + 1) (by omega)
  rw [show ((l.length + 1 : Nat) : Int) = (l.length : Int) + 1 from by omega] at hmk
  have HOW := Asd.mk how
  clear how
  have hr := (h.mono (ok' := fun k => k < w.heap.size) (fun k hk _ => hk)).alloc (.cells (madeCells #[.int .u32 0] (l.length + 1)) 125)
  go_enter Tryz.func171, Tryz.ntmps171
  go_wp2_with fail
  have hp := prod_row _ w.heap.size (l.length + 1) (List.replicate (l.length + 1) 0) 0 A cA l x c _ HOW.out hr hc (Nat.lt_irrefl _) (Int.le_refl _) (by simp; omega) hx0 hx1 hc0 hc1 (getD_replicate _ _)
  simp only [List.length_replicate] at hp
  (with_reducible refine hp.mono ?_)
  rintro e w1 ⟨o, rfl, ho, hol, hv, hd, hg⟩
  have hv2 : val o = val l * x + c := by rw [hv, val_replicate]; simp [pw_zero]
  have HV := Asd.mk hv2
  have HOL : Asd (o.length = l.length + 1) := ⟨by simpa using hol⟩
  have hb1 : Below w.heap.size w w1 := ((Below.refl _ _).alloc (Nat.le_refl _) _).grown hg (by simp) (fun k hk => by injection hk with hk; omega)
  have hsz := hb1.size
  clear hv hv2 hd hg hp hmk hol
  go_wp2_with fail
  have hq := nat_Norm (fun k => k = w.heap.size) (some ⟨w.heap.size, 0, none⟩) (l.length + 1) o w1 (ho.rd rfl) (by rw [HOL.out]; omega)
  rw [HV.out, HOL.out] at hq
  (with_reducible refine hq.mono ?_)
  rintro e w2 ⟨g, rfl, how2, hg2, hb2⟩
  go_wp2
  go_ret
  exact ⟨g, rfl, how2, by omega, hb1.trans (hb2.mono hsz)⟩

theorem mul_step {vq vl vt pk y : Int} {q : Int} (h : vq = vl * vt) (hq : q = vq + pk * (vl * y + 0)) : q = vl * (vt + pk * y) := by
  grind

set_option maxHeartbeats 1000000 in
theorem prod_Mul (ok : Nat → Prop) (A : Option Addr) (cA : Nat) (l : List Int) (ok' : Nat → Prop) (A' : Option Addr) (c' : Nat) (l' : List Int) (w : World) (h : Rd ok w A l) (hc : l.length ≤ cA) (h' : Rd ok' w A' l') (hc' : l'.length ≤ c') (hbig : l.length < 100000000000) (hbig' : l'.length < 100000000000) :
    Calls Tryz.prog 79 #[.slice A l.length cA, .slice A' l'.length c'] w fun e w' => ∃ g, e = .returned (.slice (some ⟨g, 0, none⟩) (rep (val l * val l')).length (rep (val l * val l')).length) ∧ Ow w' g (rep (val l * val l')).length (rep (val l * val l')) ∧ w.heap.size ≤ g ∧ Below w.heap.size w w' := by
  have hn : ((l.length + l'.length + 1 : Nat) : Int) = (l.length : Int) + (l'.length : Int) + 1 := by omega
  obtain ⟨hmk, how⟩ := make_u32 w (l.length + l'.length + 1) (by omega)
  rw [hn] at hmk
  clear hn
  have HOW := Asd.mk how
  clear how
  have hr := (h.mono (ok' := fun k => k < w.heap.size) (fun k hk _ => hk)).alloc (.cells (madeCells #[.int .u32 0] (l.length + l'.length + 1)) 125)
  have hr' := (h'.mono (ok' := fun k => k < w.heap.size) (fun k hk _ => hk)).alloc (.cells (madeCells #[.int .u32 0] (l.length + l'.length + 1)) 125)
  have hb0 : Below w.heap.size w (w.alloc (.cells (madeCells #[.int .u32 0] (l.length + l'.length + 1)) 125)) := (Below.refl _ _).alloc (Nat.le_refl _) _
  have HSZ : Asd (w.heap.size < (w.alloc (.cells (madeCells #[.int .u32 0] (l.length + l'.length + 1)) 125)).heap.size) := ⟨by simp⟩
  clear h h'
  go_enter Tryz.func79, Tryz.ntmps79
  go_wp2
  generalize w.alloc (.cells (madeCells #[.int .u32 0] (l.length + l'.length + 1)) 125) = w0 at *
  clear hmk
  go_loopw [17] (fun i wr => ∃ (k : Nat) (q : List Int), k ≤ l'.length ∧ i = .int .i64 k ∧ Asd (Ow wr w.heap.size (l.length + l'.length + 1) q) ∧ Asd (q.length = l.length + l'.length + 1) ∧ Asd (val q = val l * val (l'.take k)) ∧ Asd (q.drop (k + l.length) = (List.replicate (l.length + l'.length + 1) 0).drop (k + l.length)) ∧ Asd (w0.grownBy wr (some w.heap.size))) (fun i _ => l'.length - (intOf i).toNat)
  case atStart => exact ⟨0, _, Nat.zero_le _, rfl, HOW, ⟨by simp⟩, ⟨by rw [val_replicate]; simp [val]⟩, ⟨rfl⟩, ⟨grown_refl _ _⟩⟩
  case round =>
    obtain ⟨k, q, hk, rfl, HO, HOL, HV, HD, HG⟩ := hrel
    by_cases hlt : k < l'.length
    · have r1 := hr'.grown HG.out (Nat.lt_irrefl _)
      have r2 := hr.grown HG.out (Nat.lt_irrefl _)
      obtain ⟨ad, y, rfl, ho, hcell, hy0, hy1, HY⟩ := r1.el k hlt
      have hz : q.getD ((k : Int).toNat + l.length) 0 = 0 := by
        rw [Int.toNat_natCast, getD_of_drop HD.out _ (Nat.le_refl _)]
        exact getD_replicate _ _
      have hp := prod_row _ w.heap.size (l.length + l'.length + 1) q k A cA l y 0 wr HO.out r2 hc (Nat.lt_irrefl _) (by omega) (by rw [HOL.out]; omega) hy0 hy1 (by omega) (by omega) hz
      rw [HOL.out] at hp
      simp only [Int.toNat_natCast] at hp
      have HP := Asd.mk hp
      clear hp hz r1
      go_wp2_with fail
      (with_reducible refine HP.out.mono ?_)
      rintro e w1 ⟨o, rfl, ho2, hol, hv, hd, hg⟩
      have HR : Asd (Ow w1 w.heap.size (l.length + l'.length + 1) o ∧ o.length = l.length + l'.length + 1 ∧ val o = val l * val (l'.take (k + 1)) ∧ o.drop (k + 1 + l.length) = (List.replicate (l.length + l'.length + 1) 0).drop (k + 1 + l.length) ∧ w0.grownBy w1 (some w.heap.size)) := by
        refine ⟨ho2, hol, ?_, ?_, grown_trans HG.out hg⟩
        · rw [val_take_succ l' k hlt, HY.out]
          exact mul_step HV.out hv
        · rw [show k + 1 + l.length = k + l.length + 1 from by omega, hd]
          exact drop_more HD.out _ (by omega)
      clear ho2 hol hv hd hg HP HO HOL HV HD HG
      go_wp2
      go_roundw
      case rel =>
        obtain ⟨h1, h2, h3, h4, h5⟩ := HR.out
        exact ⟨k + 1, o, hlt, by go_num, ⟨h1⟩, ⟨h2⟩, ⟨h3⟩, ⟨h4⟩, ⟨h5⟩⟩
      case measure => simp [intOf]; omega
    · have hkl : k = l'.length := by omega
      subst hkl
      have HV2 : Asd (val q = val l * val l') := ⟨by rw [HV.out, List.take_of_length_le (Nat.le_refl _)]⟩
      have hb1 : Below w.heap.size w wr := hb0.grown HG.out (by have := HSZ.out; omega) (fun k hk => by injection hk with hk; omega)
      have hsz := hb1.size
      go_wp2_with fail
      have hq := nat_Norm (fun k => k = w.heap.size) (some ⟨w.heap.size, 0, none⟩) (l.length + l'.length + 1) q wr (HO.out.rd rfl) (by rw [HOL.out]; omega)
      rw [HV2.out, HOL.out] at hq
      (with_reducible refine hq.mono ?_)
      rintro e w2 ⟨g, rfl, how2, hg2, hb2⟩
      clear hq
      go_wp2
      go_ret
      exact ⟨g, rfl, how2, by omega, hb1.trans (hb2.mono hsz)⟩
end Go.Proofs.YthjpkichpkomcaaGreatDoor
