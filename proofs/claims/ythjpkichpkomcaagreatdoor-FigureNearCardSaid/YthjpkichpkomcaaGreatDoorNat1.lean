/- Layer 1 and 2: words, and naturals as lists of words (limb, nat). -/
import Derived.Test.YthjpkichpkomcaaGreatDoorVoc
import Derived.Deep.QuietTactic
import Derived.BigQuiet
namespace Go.Proofs.YthjpkichpkomcaaGreatDoor
open Go.RowKit Go.Proofs.YthjpkichpkomcaaGreatDoor.Big
set_option linter.unusedVariables false
set_option maxRecDepth 100000

set_option maxHeartbeats 400000 in
theorem limb_Add (x y c : Int) (hx : 0 ≤ x) (hx1 : x < 4294967296) (hy : 0 ≤ y) (hy1 : y < 4294967296) (hc : 0 ≤ c) (hc1 : c < 4294967296) (w : World) :
    Calls Tryz.prog 198 #[.int .u32 x, .int .u32 y, .int .u32 c] w fun e w' => w = w' ∧ ∃ s k : Int, e = .returned (.tuple #[.int .u32 s, .int .u32 k]) ∧ s + 4294967296 * k = x + y + c ∧ 0 ≤ s ∧ s < 4294967296 := by
  go_enter Tryz.func198, Tryz.ntmps198
  go_wp2
  all_goals go_ret2
  all_goals exact ⟨rfl, _, _, rfl, by omega, by omega, by omega⟩

set_option maxHeartbeats 400000 in
theorem nat_trim (ok : Nat → Prop) (A : Option Addr) (c : Nat) (l : List Int) (w : World) (h : Rd ok w A l) (hc : l.length ≤ c) :
    Calls Tryz.prog 126 #[.slice A l.length c] w fun e w' => w = w' ∧ e = .returned (.slice A (rep (val l)).length c) ∧ rep (val l) = l.take (rep (val l)).length ∧ (rep (val l)).length ≤ l.length := by
  have hm := h.2.1
  go_enter Tryz.func126, Tryz.ntmps126
  go_wp2
  go_loop [3] (fun n => ∃ k : Nat, k ≤ l.length ∧ n = .int .i64 k ∧ val (l.drop k) = 0) (fun n => (intOf n).toNat)
  case atStart => exact ⟨l.length, Nat.le_refl _, rfl, val_drop_zero l _ (Nat.le_refl _)⟩
  case round =>
    obtain ⟨k, hk, rfl, hz⟩ := hrel
    have HZ := Asd.mk hz
    clear hz
    by_cases hk0 : 0 < k
    · obtain ⟨ad, rfl, ho, hcell⟩ := h.at_ (k - 1) (by omega)
      by_cases hx : l.getD (k - 1) 0 = 0
      · rw [hx] at hcell
        have HX := Asd.mk hx
        clear hx
        go_wp2
        go_round
        case rel => exact ⟨k - 1, by omega, by go_num, by rw [val_drop l (k - 1) (by omega), HX.out, show k - 1 + 1 = k from by omega, HZ.out]; rfl⟩
        case measure => simp [intOf]; omega
      · have HX := Asd.mk (rep_trim h.wd hk HZ.out (.inr hx))
        obtain ⟨x, hxe⟩ : ∃ x, l.getD (k - 1) 0 = x := ⟨_, rfl⟩
        rw [hxe] at hcell hx
        have hb : (x == 0) = false := by simpa using hx
        clear hx hxe
        have hcut := cut_u32 (some ad) l.length c k (by omega) (by omega) hc
        go_wp2
        go_ret
        rw [HX.out]
        have hlen : (l.take k).length = k := by rw [List.length_take]; omega
        exact ⟨rfl, by simp [hlen], by rw [hlen], by omega⟩
    · have hk1 : k = 0 := by omega
      have HX := Asd.mk (rep_trim h.wd hk HZ.out (.inl hk1))
      subst hk1
      have hcut := cut_u32 A l.length c 0 (by omega) (by omega) hc
      go_wp2
      go_ret
      rw [HX.out]
      exact ⟨rfl, by simp, by simp, by simp⟩

set_option maxHeartbeats 400000 in
theorem nat_fresh (ok : Nat → Prop) (A : Option Addr) (c : Nat) (l : List Int) (more : Int) (w : World) (h : Rd ok w A l) (hc : l.length ≤ c) (hm0 : 0 ≤ more) (hm1 : l.length + more ≤ 1099511627776) :
    Calls Tryz.prog 183 #[.slice A l.length c, .int .i64 more] w fun e w' => ∃ g, e = .returned (.slice (some ⟨g, 0, none⟩) (l.length + more.toNat) (l.length + more.toNat)) ∧ Ow w' g (l.length + more.toNat) (l ++ List.replicate more.toNat 0) ∧ w.heap.size ≤ g ∧ Below w.heap.size w w' := by
  obtain ⟨hmk, how⟩ := make_u32 w (l.length + more.toNat) (by omega)
  rw [show ((l.length + more.toNat : Nat) : Int) = (l.length : Int) + more from by omega] at hmk
  go_enter Tryz.func183, Tryz.ntmps183
  have hblk := how.whole (by simp)
  have HB := Asd.mk hblk
  clear how hblk
  have HH := Asd.mk h
  have hln := h.len
  clear h
  go_wp2_with (with_reducible refine wpList_copy_splice rfl (.tmp 11) (.tmp 12) 22 22 rfl 125 Tryz.underlying22 (by kernel_rfl) (some ⟨w.heap.size, 0, none⟩) A (l.length + more.toNat) (l.length + more.toNat) l.length c rfl rfl w.heap.size 0 _ 125 HB.out (l.map (Value.int .u32)) ?c1 ?c2 ?c3 ?c4 w.heap.size w ?c5 ?c6 ?_)
  case c1 => simp
  case c2 =>
    intro hpos
    obtain ⟨ad, e, ho, hcl⟩ := HH.out.2.2 (by simpa using hpos)
    refine ⟨ad, e, fun j v hj => ?_⟩
    have hjl : j < l.length := (List.getElem?_eq_some_iff.1 hj).1
    rw [List.getElem?_eq_getElem hjl, Option.some.injEq] at hj
    rw [← hj, ← getD_eq l j hjl]
    exact (HH.out.alloc _).cell_any e j hjl
  case c3 => simp
  case c4 =>
    intro v hv
    obtain ⟨x, _, rfl⟩ := List.mem_map.1 hv
    rfl
  case c5 => exact (Below.refl _ _).alloc (Nat.le_refl _) _
  case c6 => exact Nat.le_refl _
  intro w1 hg1 hb1
  go_wp2
  go_ret
  refine ⟨w.heap.size, rfl, ?_, Nat.le_refl _, hb1⟩
  have e : splice (List.replicate (l.length + more.toNat) (Value.int .u32 0)) 0 (l.map (Value.int .u32)) = (l ++ List.replicate more.toNat 0).map (Value.int .u32) := by
    simp [splice, Nat.add_sub_cancel_left]
  have h2 := hg1.out
  rw [e] at h2
  have := Ow.of_block (HH.out.wd.append (Wd.replicate _)) (by simp; omega) h2
  simpa using this

set_option maxHeartbeats 400000 in
theorem nat_Norm (ok : Nat → Prop) (A : Option Addr) (c : Nat) (l : List Int) (w : World) (h : Rd ok w A l) (hc : l.length ≤ c) :
    Calls Tryz.prog 138 #[.slice A l.length c] w fun e w' => ∃ g, e = .returned (.slice (some ⟨g, 0, none⟩) (rep (val l)).length (rep (val l)).length) ∧ Ow w' g (rep (val l)).length (rep (val l)) ∧ w.heap.size ≤ g ∧ Below w.heap.size w w' := by
  have HH := Asd.mk h
  have hln := h.len
  clear h
  go_enter Tryz.func138, Tryz.ntmps138
  go_wp2_with fail
  refine (nat_trim ok A c l w HH.out hc).mono ?_
  rintro e w1 ⟨rfl, rfl, he, hle⟩
  have hr : Rd ok w A (rep (val l)) := by rw [he]; exact HH.out.take _
  clear he
  go_wp2_with fail
  refine (nat_fresh ok A c (rep (val l)) 0 w hr (by omega) (by omega) (by omega)).mono ?_
  rintro e w1 ⟨g, rfl, how, hg, hb⟩
  simp only [Int.toNat_zero, Nat.add_zero, List.replicate_zero, List.append_nil] at how ⊢
  go_wp2
  go_ret
  exact ⟨g, rfl, how, hg, hb⟩

set_option maxHeartbeats 400000 in
theorem nat_Zero (ok : Nat → Prop) (A : Option Addr) (c : Nat) (l : List Int) (w : World) (h : Rd ok w A l) (hc : l.length ≤ c) :
    Calls Tryz.prog 113 #[.slice A l.length c] w fun e w' => w = w' ∧ e = .returned (.bool (decide (val l = 0))) := by
  have hn := val_nonneg h.wd
  have HZ : Asd ((((rep (val l)).length : Int) == 0) = decide (val l = 0)) := by
    refine ⟨?_⟩
    by_cases hz : val l = 0
    · rw [hz, rep_zero]; rfl
    · have := rep_length_pos (show 0 < val l by omega)
      rw [decide_eq_false hz]
      simp
      intro e
      simp [e] at this
  go_enter Tryz.func113, Tryz.ntmps113
  go_wp2_with fail
  refine (nat_trim ok A c l w h hc).mono ?_
  rintro e w1 ⟨rfl, rfl, he, hle⟩
  clear he
  go_wp2
  go_ret
  exact ⟨rfl, congrArg (fun b => Ending.returned (.bool b)) HZ.out⟩

/-- Which is the greater one. -/
def cmpI (x y : Int) : Int := if x < y then -1 else if y < x then 1 else 0
theorem cmpI_lt {x y : Int} (h : x < y) : cmpI x y = -1 := by unfold cmpI; rw [if_pos h]
theorem cmpI_gt {x y : Int} (h : y < x) : cmpI x y = 1 := by unfold cmpI; rw [if_neg (by omega), if_pos h]
theorem cmpI_eq {x y : Int} (h : x = y) : cmpI x y = 0 := by unfold cmpI; rw [if_neg (by omega), if_neg (by omega)]
theorem ret_i64 {a b : Int} (h : a = b) : Ending.returned (.int .i64 a) = .returned (.int .i64 b) := by rw [h]

set_option maxHeartbeats 800000 in
theorem nat_Cmp (ok : Nat → Prop) (A : Option Addr) (c : Nat) (l : List Int) (ok' : Nat → Prop) (A' : Option Addr) (c' : Nat) (l' : List Int) (w : World) (h : Rd ok w A l) (hc : l.length ≤ c) (h' : Rd ok' w A' l') (hc' : l'.length ≤ c') :
    Calls Tryz.prog 70 #[.slice A l.length c, .slice A' l'.length c'] w fun e w' => e = .returned (.int .i64 (cmpI (val l) (val l'))) ∧ Dn w w' := by
  have hv0 := val_nonneg h.wd
  have hv1 := val_nonneg h'.wd
  go_enter Tryz.func70, Tryz.ntmps70
  go_wp2_with fail
  refine (nat_trim ok A c l w h hc).mono ?_
  rintro e w1 ⟨rfl, rfl, he, hle⟩
  have hr : Rd ok w A (rep (val l)) := by rw [he]; exact h.take _
  clear he
  go_wp2_with fail
  refine (nat_trim ok' A' c' l' w h' hc').mono ?_
  rintro e w1 ⟨rfl, rfl, he', hle'⟩
  have hr' : Rd ok' w A' (rep (val l')) := by rw [he']; exact h'.take _
  clear he' hle hle' hc hc' h h'
  obtain ⟨x, hx⟩ : ∃ x, val l = x := ⟨_, rfl⟩
  obtain ⟨y, hy⟩ : ∃ y, val l' = y := ⟨_, rfl⟩
  rw [hx] at hr hv0 ⊢
  rw [hy] at hr' hv1 ⊢
  have HE : Asd (cmpI x y = cmpI (val l) (val l')) := ⟨by rw [hx, hy]⟩
  clear hx hy
  have hl := hr.len
  have hl' := hr'.len
  by_cases hlt : (rep x).length < (rep y).length
  · have hd : decide ((rep x).length < (rep y).length) = true := decide_eq_true hlt
    have hz := Asd.mk ((cmpI_lt (rep_length_lt hv0 hlt)).symm.trans HE.out)
    go_wp2
    go_ret
    exact ⟨ret_i64 hz.out, Dn.refl _⟩
  by_cases hgt : (rep y).length < (rep x).length
  · have hd : decide ((rep x).length < (rep y).length) = false := decide_eq_false hlt
    have hd2 : decide ((rep y).length < (rep x).length) = true := decide_eq_true hgt
    have hz := Asd.mk ((cmpI_gt (rep_length_lt hv1 hgt)).symm.trans HE.out)
    go_wp2
    go_ret
    exact ⟨ret_i64 hz.out, Dn.refl _⟩
  have hle : (rep x).length = (rep y).length := by omega
  have HL := Asd.mk hle
  clear hle
  have hd : decide ((rep x).length < (rep y).length) = false := decide_eq_false hlt
  have hd2 : decide ((rep y).length < (rep x).length) = false := decide_eq_false hgt
  go_wp2
  go_loopw [5] (fun i wr => ∃ j : Int, i = .int .i64 j ∧ -1 ≤ j ∧ j < (rep x).length ∧ Asd (val ((rep x).drop (j + 1).toNat) = val ((rep y).drop (j + 1).toNat)) ∧ Asd (Dn w wr)) (fun i _ => (intOf i + 1).toNat)
  case atStart => exact ⟨(rep x).length - 1, by go_num, by omega, by omega, ⟨by rw [val_drop_zero _ _ (by omega), val_drop_zero _ _ (by rw [← HL.out]; omega)]⟩, ⟨Dn.refl _⟩⟩
  case round =>
    obtain ⟨j, rfl, hj0, hj1, HD, HW⟩ := hrel
    obtain ⟨n, hn⟩ := HW.out
    subst hn
    clear HW
    have hj3 : j < (rep y).length := by rw [← HL.out]; exact hj1
    by_cases hj : 0 ≤ j
    · obtain ⟨k, rfl⟩ := Int.eq_ofNat_of_zero_le hj
      obtain ⟨ad, rfl, ho, hcell⟩ := hr.at_ k (by omega)
      obtain ⟨ad', rfl, ho', hcell'⟩ := hr'.at_ k (by omega)
      have HD' : Asd (val ((rep x).drop (k + 1)) = val ((rep y).drop (k + 1))) := ⟨by have := HD.out; rwa [show ((k : Int) + 1).toNat = k + 1 from by omega] at this⟩
      clear HD
      obtain ⟨p, hp⟩ : ∃ p, (rep x).getD k 0 = p := ⟨_, rfl⟩
      obtain ⟨q, hq⟩ : ∃ q, (rep y).getD k 0 = q := ⟨_, rfl⟩
      rw [hp] at hcell
      rw [hq] at hcell'
      have HP := Asd.mk hp
      have HQ := Asd.mk hq
      clear hp hq
      by_cases h1 : p < q
      · have hz := Asd.mk ((cmpI_lt (by
          rw [← val_rep hv0, ← val_rep hv1]
          exact val_lt_at (i := k) (Wd_rep x) (Wd_rep y) (by omega) (by omega) (by rw [HD'.out]; omega) (by rw [HP.out, HQ.out]; exact h1))).symm.trans HE.out)
        go_wp2_with fail
        go_quiet (fail)
        go_wp2
        go_ret
        exact ⟨ret_i64 hz.out, by repeat (first | exact Dn.refl _ | apply Dn.step | apply Dn.one)⟩
      by_cases h2 : q < p
      · have hz := Asd.mk ((cmpI_gt (by
          rw [← val_rep hv0, ← val_rep hv1]
          exact val_lt_at (i := k) (Wd_rep y) (Wd_rep x) (by omega) (by omega) (by rw [HD'.out]; omega) (by rw [HP.out, HQ.out]; exact h2))).symm.trans HE.out)
        go_wp2_with fail
        go_quiet (fail)
        go_wp2_with fail
        go_quiet (fail)
        go_wp2
        go_ret
        exact ⟨ret_i64 hz.out, by repeat (first | exact Dn.refl _ | apply Dn.step | apply Dn.one)⟩
      · have HD2 : Asd (val ((rep x).drop k) = val ((rep y).drop k)) := ⟨by rw [val_drop _ k (by omega), val_drop _ k (by omega), HP.out, HQ.out, HD'.out]; omega⟩
        clear HD' HP HQ
        go_wp2_with fail
        go_quiet (fail)
        go_wp2_with fail
        go_quiet (fail)
        go_wp2
        go_roundw
        case rel => exact ⟨(k : Int) - 1, rfl, by omega, by omega, ⟨by rw [show ((k : Int) - 1 + 1).toNat = k from by omega]; exact HD2.out⟩, ⟨by repeat (first | exact Dn.refl _ | apply Dn.step | apply Dn.one)⟩⟩
        case measure => simp [intOf]
    · have hj4 : j = -1 := by omega
      subst hj4
      have hz := Asd.mk ((cmpI_eq (show x = y by
        have := HD.out
        simp only [show ((-1 : Int) + 1).toNat = 0 from rfl, List.drop_zero] at this
        rwa [val_rep hv0, val_rep hv1] at this)).symm.trans HE.out)
      go_wp2
      go_ret
      exact ⟨ret_i64 hz.out, by repeat (first | exact Dn.refl _ | apply Dn.step | apply Dn.one)⟩

set_option maxHeartbeats 400000 in
theorem limb_Sub (x y c : Int) (hx : 0 ≤ x) (hx1 : x < 4294967296) (hy : 0 ≤ y) (hy1 : y < 4294967296) (hc : 0 ≤ c) (hc1 : c < 4294967296) (w : World) :
    Calls Tryz.prog 203 #[.int .u32 x, .int .u32 y, .int .u32 c] w fun e w' => w = w' ∧ ∃ s k : Int, e = .returned (.tuple #[.int .u32 s, .int .u32 k]) ∧ s - 4294967296 * k = x - y - c ∧ 0 ≤ s ∧ s < 4294967296 := by
  go_enter Tryz.func203, Tryz.ntmps203
  go_wp2
  all_goals go_ret2
  all_goals exact ⟨rfl, _, _, rfl, by omega, by omega, by omega⟩

theorem plus_end {a b o : List Int} {k : Int} (hlen : o.length = a.length + 1) (h : val (o.take a.length) + pw a.length * k = val a + val b) : val (o.set a.length k) = val a + val b := by
  have h1 := val_split (o.set a.length k) a.length (by rw [List.length_set]; omega)
  have e1 : (o.set a.length k).take a.length = o.take a.length := by rw [List.take_set_of_le (Nat.le_refl _)]
  have e2 : val ((o.set a.length k).drop a.length) = k := by
    rw [val_drop _ _ (by rw [List.length_set]; omega), val_drop_zero _ _ (by rw [List.length_set]; omega)]
    simp [List.getD_eq_getElem?_getD, hlen]
  rw [h1, e1, e2]
  exact h

theorem take_set_lt (o : List Int) (k : Nat) (x : Int) : (o.set k x).take k = o.take k := List.take_set_of_le (Nat.le_refl _)
theorem val_take_set (o : List Int) (k : Nat) (x : Int) (hk : k < o.length) : val ((o.set k x).take (k + 1)) = val (o.take k) + pw k * x := by
  rw [val_take_succ _ k (by rw [List.length_set]; omega), take_set_lt]
  simp [List.getD_eq_getElem?_getD, hk]

theorem plus_step {a b o : List Int} {k : Nat} {kc s k2 y : Int} (ha : k < a.length) (ho : k < o.length) (hy : val (b.take (k + 1)) = val (b.take k) + pw k * y) (h : val (o.take k) + pw k * kc = val (a.take k) + val (b.take k)) (hs : s + 4294967296 * k2 = a.getD k 0 + y + kc) : val ((o.set k s).take (k + 1)) + pw (k + 1) * k2 = val (a.take (k + 1)) + val (b.take (k + 1)) := by
  rw [val_take_set o k s ho, val_take_succ a k ha, hy, pw_succ]
  have : pw k * (s + 4294967296 * k2) = pw k * (a.getD k 0 + y + kc) := by rw [hs]
  simp only [Int.mul_add] at this
  rw [show 4294967296 * pw k * k2 = pw k * (4294967296 * k2) from by rw [Int.mul_comm 4294967296 (pw k), Int.mul_assoc]]
  omega
theorem take_over (b : List Int) (k : Nat) (h : b.length ≤ k) : val (b.take (k + 1)) = val (b.take k) + pw k * 0 := by
  rw [List.take_of_length_le (by omega), List.take_of_length_le h]; omega

theorem rep_len_add {a b : List Int} (ha : Wd a) (hb : Wd b) (h : b.length ≤ a.length) : (rep (val a + val b)).length ≤ a.length + 1 := by
  refine rep_length_le ?_
  have h1 := val_lt ha
  have h2 := val_lt hb
  have h3 := pw_mono h
  have h4 := pw_pos a.length
  rw [pw_succ]
  omega

set_option maxHeartbeats 1000000 in
theorem nat_plus_ge (ok : Nat → Prop) (A : Option Addr) (c : Nat) (l : List Int) (ok' : Nat → Prop) (A' : Option Addr) (c' : Nat) (l' : List Int) (w : World) (h : Rd ok w A l) (hc : l.length ≤ c) (h' : Rd ok' w A' l') (hc' : l'.length ≤ c') (hlen : l'.length ≤ l.length) (hbig : l.length < 1000000000000) (hbig' : l'.length < 1000000000000) :
    Calls Tryz.prog 172 #[.slice A l.length c, .slice A' l'.length c'] w fun e w' => ∃ A1 c1, e = .returned (.slice A1 (rep (val l + val l')).length c1) ∧ (rep (val l + val l')).length ≤ c1 ∧ Rd (fun k => w.heap.size ≤ k) w' A1 (rep (val l + val l')) ∧ Below w.heap.size w w' := by
  have hl := h.len
  have hl' := h'.len
  have hd : decide (l.length < l'.length) = false := decide_eq_false (by omega)
  go_enter Tryz.func172, Tryz.ntmps172
  go_wp2_with fail
  refine (nat_fresh ok A c l 1 w h hc (by omega) (by omega)).mono ?_
  rintro e w1 ⟨g, rfl, how, hg, hb⟩
  simp only [show (1 : Int).toNat = 1 from rfl] at how ⊢
  clear hd
  go_wp2
  go_loopw [6, 20] (fun v i wr => ∃ (k : Nat) (kc : Int) (o : List Int), k ≤ l.length ∧ i = .int .i64 k ∧ v = .int .u32 kc ∧ 0 ≤ kc ∧ kc ≤ 1 ∧ Asd (Ow wr g (l.length + 1) o) ∧ Asd (o.length = l.length + 1) ∧ Asd (val (o.take k) + pw k * kc = val (l.take k) + val (l'.take k)) ∧ Asd (Below w.heap.size w wr)) (fun _ i _ => l.length - (intOf i).toNat)
  case atStart => exact ⟨0, 0, _, Nat.zero_le _, rfl, rfl, by omega, by omega, ⟨how⟩, ⟨by simp⟩, ⟨by simp [val]⟩, ⟨hb⟩⟩
  case round =>
    clear how hb
    obtain ⟨k, kc, o, hk, rfl, rfl, hk0, hk1, HO, HOL, HV, HB⟩ := hrel
    have hoL := HOL.out
    have hcap := HO.out.lt
    by_cases hlt : k < l.length
    · have r1 := h.below HB.out
      obtain ⟨ad, x, rfl, ho, hcell, hx0, hx1, HX⟩ := r1.el k hlt
      have hfr := HO.out.free k
      by_cases hlt2 : k < l'.length
      · have r2 := h'.below HB.out
        obtain ⟨ad', y, rfl, ho', hcell', hy0, hy1, HY⟩ := r2.el k hlt2
        clear r1 r2 hoL
        go_wp2_with fail
        (with_reducible refine (limb_Add _ _ _ hx0 hx1 hy0 hy1 hk0 (by omega) _).mono ?_)
        rintro e w2 ⟨rfl, s, k2, rfl, hs, hs0, hs1⟩
        have HS := Asd.mk hs
        have hb2 : 0 ≤ k2 ∧ k2 ≤ 1 := by omega
        clear hs
        obtain ⟨hb2, hb3⟩ := hb2
        obtain ⟨z, hfr', _, _, _⟩ := HO.out.el k (by have := HOL.out; omega)
        go_wp2
        go_roundw
        case rel =>
          refine ⟨k + 1, k2, o.set k s, hlt, by go_num, rfl, hb2, hb3, ⟨HO.out.set k hs0 hs1⟩, ⟨by rw [List.length_set]; exact HOL.out⟩, ⟨?_⟩, ⟨HB.out.setCell hg _⟩⟩
          exact plus_step hlt (by have := HOL.out; omega) (by rw [val_take_succ l' k hlt2, HY.out]) HV.out (by rw [HX.out]; exact HS.out)
        case measure => simp [intOf]; omega
      · clear r1 hoL
        go_wp2_with fail
        (with_reducible refine (limb_Add _ _ _ hx0 hx1 (by omega) (by omega) hk0 (by omega) _).mono ?_)
        rintro e w2 ⟨rfl, s, k2, rfl, hs, hs0, hs1⟩
        have HS := Asd.mk hs
        have hb2 : 0 ≤ k2 ∧ k2 ≤ 1 := by omega
        clear hs
        obtain ⟨hb2, hb3⟩ := hb2
        obtain ⟨z, hfr', _, _, _⟩ := HO.out.el k (by have := HOL.out; omega)
        go_wp2
        go_roundw
        case rel =>
          refine ⟨k + 1, k2, o.set k s, hlt, by go_num, rfl, hb2, hb3, ⟨HO.out.set k hs0 hs1⟩, ⟨by rw [List.length_set]; exact HOL.out⟩, ⟨?_⟩, ⟨HB.out.setCell hg _⟩⟩
          exact plus_step hlt (by have := HOL.out; omega) (take_over l' k (by omega)) HV.out (by rw [HX.out]; exact HS.out)
        case measure => simp [intOf]; omega
    · have hkl : k = l.length := by omega
      subst hkl
      have hfr := HO.out.free l.length
      obtain ⟨z, hfr', _, _, _⟩ := HO.out.el l.length (by omega)
      have HF : Asd (val (o.set l.length kc) = val l + val l') := ⟨plus_end HOL.out (by
        have := HV.out
        rwa [List.take_of_length_le (Nat.le_refl _), List.take_of_length_le (l := l') (by omega)] at this)⟩
      clear hoL
      have HO2 := Asd.mk (HO.out.set l.length hk0 (by omega))
      have HL2 : Asd ((o.set l.length kc).length = l.length + 1) := ⟨by rw [List.length_set]; exact HOL.out⟩
      have hb2 := HB.out.setCell (p := ⟨g, l.length, none⟩) hg (.int .u32 kc)
      have HB2 := Asd.mk hb2
      clear hb2
      go_wp2_with fail
      have hrd : Rd (fun k => w.heap.size ≤ k) (wr.setCell ⟨g, l.length, none⟩ (.int .u32 kc)) (some ⟨g, 0, none⟩) (o.set l.length kc) := HO2.out.rd hg
      have hcall := nat_trim _ _ (l.length + 1) _ _ hrd (by rw [HL2.out]; omega)
      rw [HL2.out, HF.out] at hcall
      refine hcall.mono ?_
      rintro e w2 ⟨rfl, rfl, he, hle⟩
      have hr3 : Rd (fun k => w.heap.size ≤ k) (wr.setCell ⟨g, l.length, none⟩ (.int .u32 kc)) (some ⟨g, 0, none⟩) (rep (val l + val l')) := by rw [he]; exact hrd.take _
      clear he hrd hcall
      go_wp2
      go_ret
      exact ⟨_, _, rfl, by have := HL2.out; omega, hr3, HB2.out⟩

set_option maxHeartbeats 1000000 in
theorem nat_plus_lt (ok : Nat → Prop) (A : Option Addr) (c : Nat) (l : List Int) (ok' : Nat → Prop) (A' : Option Addr) (c' : Nat) (l' : List Int) (w : World) (h : Rd ok w A l) (hc : l.length ≤ c) (h' : Rd ok' w A' l') (hc' : l'.length ≤ c') (hlen : l.length < l'.length) (hbig : l.length < 1000000000000) (hbig' : l'.length < 1000000000000) :
    Calls Tryz.prog 172 #[.slice A l.length c, .slice A' l'.length c'] w fun e w' => ∃ A1 c1, e = .returned (.slice A1 (rep (val l + val l')).length c1) ∧ (rep (val l + val l')).length ≤ c1 ∧ Rd (fun k => w.heap.size ≤ k) w' A1 (rep (val l + val l')) ∧ Below w.heap.size w w' := by
  have hl := h.len
  have hl' := h'.len
  have hd : decide (l.length < l'.length) = true := decide_eq_true (by omega)
  go_enter Tryz.func172, Tryz.ntmps172
  go_wp2_with fail
  refine (nat_fresh ok' A' c' l' 1 w h' hc' (by omega) (by omega)).mono ?_
  rintro e w1 ⟨g, rfl, how, hg, hb⟩
  simp only [show (1 : Int).toNat = 1 from rfl] at how ⊢
  clear hd
  go_wp2
  go_loopw [6, 20] (fun v i wr => ∃ (k : Nat) (kc : Int) (o : List Int), k ≤ l'.length ∧ i = .int .i64 k ∧ v = .int .u32 kc ∧ 0 ≤ kc ∧ kc ≤ 1 ∧ Asd (Ow wr g (l'.length + 1) o) ∧ Asd (o.length = l'.length + 1) ∧ Asd (val (o.take k) + pw k * kc = val (l'.take k) + val (l.take k)) ∧ Asd (Below w.heap.size w wr)) (fun _ i _ => l'.length - (intOf i).toNat)
  case atStart => exact ⟨0, 0, _, Nat.zero_le _, rfl, rfl, by omega, by omega, ⟨how⟩, ⟨by simp⟩, ⟨by simp [val]⟩, ⟨hb⟩⟩
  case round =>
    clear how hb
    obtain ⟨k, kc, o, hk, rfl, rfl, hk0, hk1, HO, HOL, HV, HB⟩ := hrel
    have hoL := HOL.out
    have hcap := HO.out.lt
    by_cases hlt : k < l'.length
    · have r1 := h'.below HB.out
      obtain ⟨ad, x, rfl, ho, hcell, hx0, hx1, HX⟩ := r1.el k hlt
      have hfr := HO.out.free k
      by_cases hlt2 : k < l.length
      · have r2 := h.below HB.out
        obtain ⟨ad', y, rfl, ho', hcell', hy0, hy1, HY⟩ := r2.el k hlt2
        clear r1 r2 hoL
        go_wp2_with fail
        (with_reducible refine (limb_Add _ _ _ hx0 hx1 hy0 hy1 hk0 (by omega) _).mono ?_)
        rintro e w2 ⟨rfl, s, k2, rfl, hs, hs0, hs1⟩
        have HS := Asd.mk hs
        have hb2 : 0 ≤ k2 ∧ k2 ≤ 1 := by omega
        clear hs
        obtain ⟨hb2, hb3⟩ := hb2
        obtain ⟨z, hfr', _, _, _⟩ := HO.out.el k (by have := HOL.out; omega)
        go_wp2
        go_roundw
        case rel =>
          refine ⟨k + 1, k2, o.set k s, hlt, by go_num, rfl, hb2, hb3, ⟨HO.out.set k hs0 hs1⟩, ⟨by rw [List.length_set]; exact HOL.out⟩, ⟨?_⟩, ⟨HB.out.setCell hg _⟩⟩
          exact plus_step hlt (by have := HOL.out; omega) (by rw [val_take_succ l k hlt2, HY.out]) HV.out (by rw [HX.out]; exact HS.out)
        case measure => simp [intOf]; omega
      · clear r1 hoL
        go_wp2_with fail
        (with_reducible refine (limb_Add _ _ _ hx0 hx1 (by omega) (by omega) hk0 (by omega) _).mono ?_)
        rintro e w2 ⟨rfl, s, k2, rfl, hs, hs0, hs1⟩
        have HS := Asd.mk hs
        have hb2 : 0 ≤ k2 ∧ k2 ≤ 1 := by omega
        clear hs
        obtain ⟨hb2, hb3⟩ := hb2
        obtain ⟨z, hfr', _, _, _⟩ := HO.out.el k (by have := HOL.out; omega)
        go_wp2
        go_roundw
        case rel =>
          refine ⟨k + 1, k2, o.set k s, hlt, by go_num, rfl, hb2, hb3, ⟨HO.out.set k hs0 hs1⟩, ⟨by rw [List.length_set]; exact HOL.out⟩, ⟨?_⟩, ⟨HB.out.setCell hg _⟩⟩
          exact plus_step hlt (by have := HOL.out; omega) (take_over l k (by omega)) HV.out (by rw [HX.out]; exact HS.out)
        case measure => simp [intOf]; omega
    · have hkl : k = l'.length := by omega
      subst hkl
      have hfr := HO.out.free l'.length
      obtain ⟨z, hfr', _, _, _⟩ := HO.out.el l'.length (by omega)
      have HF : Asd (val (o.set l'.length kc) = val l' + val l) := ⟨plus_end HOL.out (by
        have := HV.out
        rwa [List.take_of_length_le (Nat.le_refl _), List.take_of_length_le (l := l) (by omega)] at this)⟩
      clear hoL
      have HO2 := Asd.mk (HO.out.set l'.length hk0 (by omega))
      have HL2 : Asd ((o.set l'.length kc).length = l'.length + 1) := ⟨by rw [List.length_set]; exact HOL.out⟩
      have hb2 := HB.out.setCell (p := ⟨g, l'.length, none⟩) hg (.int .u32 kc)
      have HB2 := Asd.mk hb2
      clear hb2
      go_wp2_with fail
      have hrd : Rd (fun k => w.heap.size ≤ k) (wr.setCell ⟨g, l'.length, none⟩ (.int .u32 kc)) (some ⟨g, 0, none⟩) (o.set l'.length kc) := HO2.out.rd hg
      have hcall := nat_trim _ _ (l'.length + 1) _ _ hrd (by rw [HL2.out]; omega)
      rw [HL2.out, HF.out] at hcall
      refine hcall.mono ?_
      rintro e w2 ⟨rfl, rfl, he, hle⟩
      have hr3 : Rd (fun k => w.heap.size ≤ k) (wr.setCell ⟨g, l'.length, none⟩ (.int .u32 kc)) (some ⟨g, 0, none⟩) (rep (val l' + val l)) := by rw [he]; exact hrd.take _
      clear he hrd hcall
      go_wp2
      go_ret
      exact ⟨some ⟨g, 0, none⟩, l'.length + 1, by rw [Int.add_comm (val l) (val l')]; rfl, by rw [Int.add_comm (val l) (val l')]; have := HL2.out; omega, by rw [Int.add_comm (val l) (val l')]; exact hr3, HB2.out⟩
end Go.Proofs.YthjpkichpkomcaaGreatDoor
