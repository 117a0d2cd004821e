/- Div -/
import Derived.Test.YthjpkichpkomcaaGreatDoorBRowFigureNear8
import Derived.Deep.AppendLies
import Derived.Outline
/- Layer 5: the division of naturals (quot.Div). -/
namespace Go.Proofs.YthjpkichpkomcaaGreatDoor
open Go.RowKit Go.Proofs.YthjpkichpkomcaaGreatDoor.Big
set_option linter.unusedVariables false
set_option maxRecDepth 100000

set_option maxHeartbeats 400000 in
theorem quot_Div_no (ok : Nat → Prop) (A : Option Addr) (c : Nat) (l : List Int) (ok' : Nat → Prop) (A' : Option Addr) (c' : Nat) (l' : List Int) (w : World) (h : Rd ok w A l) (hc : l.length ≤ c) (h' : Rd ok' w A' l') (hc' : l'.length ≤ c') (hz : val l' = 0) :
    Calls Tryz.prog 132 #[.slice A l.length c, .slice A' l'.length c'] w fun e w' => e = .returned (.tuple #[.slice none 0 0, .slice none 0 0, .bool false]) ∧ Below w.heap.size w w' := by
  have hq := nat_Norm ok' A' c' l' w h' hc'
  rw [hz, rep_zero] at hq
  simp only [List.length_nil] at hq
  have HQ := Asd.mk hq
  clear hq hz
  go_enter Tryz.func132, Tryz.ntmps132
  go_wp2_with fail
  (with_reducible refine HQ.out.mono ?_)
  rintro e w1 ⟨g, rfl, how, hg, hb⟩
  go_wp2
  go_ret3
  exact ⟨rfl, hb⟩

theorem rep_eq_of_lt {x y : Int} (h : x = y) : rep x = rep y := by rw [h]

set_option maxHeartbeats 1000000 in
theorem quot_Div_lt (ok : Nat → Prop) (A : Option Addr) (c : Nat) (l : List Int) (ok' : Nat → Prop) (A' : Option Addr) (c' : Nat) (l' : List Int) (w : World) (h : Rd ok w A l) (hc : l.length ≤ c) (h' : Rd ok' w A' l') (hc' : l'.length ≤ c') (hlt : val l < val l') :
    Calls Tryz.prog 132 #[.slice A l.length c, .slice A' l'.length c'] w fun e w' => ∃ A2 c2, e = .returned (.tuple #[.slice none 0 0, .slice A2 (rep (val l)).length c2, .bool true]) ∧ (rep (val l)).length ≤ c2 ∧ Rd (fun k => w.heap.size ≤ k) w' A2 (rep (val l)) ∧ Below w.heap.size w w' := by
  have hv := val_nonneg h.wd
  have hpos := rep_length_pos (show 0 < val l' by omega)
  have HC := Asd.mk (cmpI_lt hlt)
  have hzb : (((rep (val l')).length : Int) == 0) = false := by simp; intro e; simp [e] at hpos
  have hv' : 0 ≤ val l' := by omega
  go_enter Tryz.func132, Tryz.ntmps132
  go_wp2_with fail
  (with_reducible refine (nat_Norm ok' A' c' l' w h' hc').mono ?_)
  rintro e w1 ⟨g, rfl, how, hg, hb⟩
  go_wp2_with fail
  have hp := nat_Cmp ok A c l (fun k => k = g) (some ⟨g, 0, none⟩) _ _ w1 (h.below hb) hc (how.rd rfl) (Nat.le_refl _)
  rw [val_rep hv', HC.out] at hp
  (with_reducible refine hp.mono ?_)
  rintro e w2 ⟨rfl, n, rfl⟩
  clear hp
  go_wp2_with fail
  (with_reducible refine (nat_Norm ok A c l _ ((h.below hb).drewN n) hc).mono ?_)
  rintro e w3 ⟨g2, rfl, how2, hg2, hb2⟩
  have hs := hb.size
  have hb3 : Below w.heap.size w (w1.drewN n) := below_drewN hb n
  go_wp2
  go_ret3
  exact ⟨_, _, rfl, Nat.le_refl _, how2.rd (Nat.le_trans hs hg2), hb3.trans (hb2.mono hs)⟩

set_option maxHeartbeats 1000000 in
theorem quot_Div_one (ok : Nat → Prop) (A : Option Addr) (c : Nat) (l : List Int) (ok' : Nat → Prop) (A' : Option Addr) (c' : Nat) (l' : List Int) (w : World) (h : Rd ok w A l) (hc : l.length ≤ c) (h' : Rd ok' w A' l') (hc' : l'.length ≤ c') (hge : val l' ≤ val l) (hpos : 0 < val l') (hsm : val l' < 4294967296) (hbig : l.length < 10000000000) :
    Calls Tryz.prog 132 #[.slice A l.length c, .slice A' l'.length c'] w fun e w' => ∃ A1 c1 A2 c2, e = .returned (.tuple #[.slice A1 (rep (val l / val l')).length c1, .slice A2 (rep (val l % val l')).length c2, .bool true]) ∧ (rep (val l / val l')).length ≤ c1 ∧ (rep (val l % val l')).length ≤ c2 ∧ Rd (fun k => w.heap.size ≤ k) w' A1 (rep (val l / val l')) ∧ Rd (fun k => w.heap.size ≤ k) w' A2 (rep (val l % val l')) ∧ Below w.heap.size w w' := by
  have hv := val_nonneg h.wd
  have hcm : 0 ≤ cmpI (val l) (val l') := by unfold cmpI; rw [if_neg (by omega)]; split <;> omega
  have hr1 := rep_word hpos hsm
  have hq := nat_Norm ok' A' c' l' w h' hc'
  rw [hr1] at hq
  simp only [List.length_cons, List.length_nil] at hq
  have HQ := Asd.mk hq
  obtain ⟨y, hy⟩ : ∃ y, val l' = y := ⟨_, rfl⟩
  have hm0 := Int.emod_nonneg (val l) (show val l' ≠ 0 by omega)
  have hm1 := Int.emod_lt_of_pos (val l) hpos
  clear hq hr1
  go_enter Tryz.func132, Tryz.ntmps132
  go_wp2_with fail
  (with_reducible refine HQ.out.mono ?_)
  rintro e w1 ⟨g, rfl, how, hg, hb⟩
  have hs := hb.size
  have hrw : Rd (fun k => k = g) w1 (some ⟨g, 0, none⟩) [val l'] := how.rd rfl
  have hcell : w1.cell? ⟨g, 0, none⟩ = some (.int .u32 (val l')) := by have := how.cell 0 (by simp); simpa using this
  have hp := nat_Cmp ok A c l (fun k => k = g) (some ⟨g, 0, none⟩) (0 + 1) _ w1 (h.below hb) hc hrw (by simp)
  simp only [List.length_cons, List.length_nil] at hp
  have hval : val [val l'] = val l' := by simp [val]
  rw [hval] at hp
  have HP := Asd.mk hp
  clear hp hval hy
  go_wp2_with fail
  (with_reducible refine HP.out.mono ?_)
  rintro e w2 ⟨rfl, n, rfl⟩
  clear HP
  go_wp2_with fail
  (with_reducible refine (quot_Word ok A c l (val l') _ ((h.below hb).drewN n) hc (by omega) hpos hsm).mono ?_)
  rintro e w3 ⟨A1, c1, rfl, hc1, hr, hb2⟩
  have hs2 := hb2.size
  have hs2' : w1.heap.size ≤ w3.heap.size := hs2
  go_wp2_with fail
  (with_reducible refine (nat_Of (val l % val l') hm0 (by omega) w3).mono ?_)
  rintro e w4 ⟨A2, c2, rfl, hc2, hr2, hb3⟩
  have hb4 : Below w.heap.size w (w1.drewN n) := below_drewN hb n
  go_wp2
  go_ret3
  exact ⟨_, _, _, _, rfl, hc1, hc2, (hr.mono (fun k _ hk => Nat.le_trans hs hk)).below hb3, hr2.mono (fun k _ hk => by omega), (hb4.trans (hb2.mono hs)).trans (hb3.mono (by omega))⟩

theorem rep_getD_last {z : Int} (h : 0 < (rep z).length) : 0 < (rep z).getD ((rep z).length - 1) 0 := by
  have hne : rep z ≠ [] := List.length_pos_iff.1 h
  have h1 := rep_last hne
  rw [List.getLast_eq_getElem] at h1
  have h2 := (Wd_rep z).getD ((rep z).length - 1)
  rw [getD_eq _ _ (by omega)] at h2 ⊢
  omega
theorem mul_two_pow {x : Int} (i : Nat) (h : 0 ≤ x) : x ≤ x * 2 ^ i := by
  have := two_pow_pos i
  have h2 : x * 1 ≤ x * 2 ^ i := Int.mul_le_mul_of_nonneg_left (by omega) h
  omega
theorem rep_len_shift {l : List Int} (hw : Wd l) {i : Nat} (hi : i < 32) : (rep (val l * 2 ^ i)).length ≤ l.length + 1 := by
  refine rep_length_le ?_
  have h1 := val_lt hw
  have h2 := two_pow_le hi
  have h3 := two_pow_pos i
  have h4 := pw_pos l.length
  have h5 : val l * 2 ^ i < pw l.length * 2 ^ i := Int.mul_lt_mul_of_pos_right h1 h3
  have h6 : pw l.length * 2 ^ i ≤ pw l.length * 4294967296 := Int.mul_le_mul_of_nonneg_left (by omega) (by omega)
  rw [pw_succ]
  omega
theorem long_fits {a b : Int} (ha : 0 ≤ a) (hb : 0 < b) : a < b * pw ((rep a).length + 1 - (rep b).length) := by
  rcases Nat.lt_or_ge (rep a).length (rep b).length with h | h
  · have h1 := rep_length_lt ha h
    have h2 := pw_pos ((rep a).length + 1 - (rep b).length)
    have h3 : b * 1 ≤ b * pw ((rep a).length + 1 - (rep b).length) := Int.mul_le_mul_of_nonneg_left (by omega) (by omega)
    omega
  · have h1 := lt_pw_rep ha
    have h0 := rep_length_pos hb
    have h2 := rep_ge (z := b) (n := (rep b).length - 1) (by omega)
    have h3 : pw ((rep b).length - 1) * pw ((rep a).length + 1 - (rep b).length) ≤ b * pw ((rep a).length + 1 - (rep b).length) := Int.mul_le_mul_of_nonneg_right h2 (by have := pw_pos ((rep a).length + 1 - (rep b).length); omega)
    rw [← pw_add, show (rep b).length - 1 + ((rep a).length + 1 - (rep b).length) = (rep a).length from by omega] at h3
    omega

set_option maxHeartbeats 2000000 in
theorem quot_Div_long (ok : Nat → Prop) (A : Option Addr) (c : Nat) (l : List Int) (ok' : Nat → Prop) (A' : Option Addr) (c' : Nat) (l' : List Int) (w : World) (h : Rd ok w A l) (hc : l.length ≤ c) (h' : Rd ok' w A' l') (hc' : l'.length ≤ c') (hge : val l' ≤ val l) (hsm : 4294967296 ≤ val l') (hbig : l.length < 10000000000) :
    Calls Tryz.prog 132 #[.slice A l.length c, .slice A' l'.length c'] w fun e w' => ∃ A1 c1 A2 c2, e = .returned (.tuple #[.slice A1 (rep (val l / val l')).length c1, .slice A2 (rep (val l % val l')).length c2, .bool true]) ∧ (rep (val l / val l')).length ≤ c1 ∧ (rep (val l % val l')).length ≤ c2 ∧ Rd (fun k => w.heap.size ≤ k) w' A1 (rep (val l / val l')) ∧ Rd (fun k => w.heap.size ≤ k) w' A2 (rep (val l % val l')) ∧ Below w.heap.size w w' := by
  have hv := val_nonneg h.wd
  have hv' : 0 ≤ val l' := by omega
  have hcm : 0 ≤ cmpI (val l) (val l') := by unfold cmpI; rw [if_neg (by omega)]; split <;> omega
  have hlen2 : 2 ≤ (rep (val l')).length := by
    rcases Nat.lt_or_ge (rep (val l')).length 2 with h1 | h1
    · have := lt_pw_rep hv'
      have := pw_mono (show (rep (val l')).length ≤ 1 by omega)
      rw [pw_one] at this
      omega
    · exact h1
  have hlb : (rep (val l')).length ≤ l.length := by
    have h1 := rep_length_mono hv' hge
    have h2 := rep_length_le (val_lt h.wd)
    omega
  have hz1 : (((rep (val l')).length : Int) == 0) = false := by simp; intro e; simp [e] at hlen2
  have hz2 : (((rep (val l')).length : Int) == 1) = false := by simp; omega
  have HLA : Asd (∀ i : Nat, i < 32 → (rep (val l * 2 ^ i)).length ≤ l.length + 1) := ⟨fun i hi => rep_len_shift h.wd hi⟩
  have hlast := Asd.mk (rep_getD_last (z := val l') (by omega))
  go_enter Tryz.func132, Tryz.ntmps132
  go_wp2_with fail
  (with_reducible refine (nat_Norm ok' A' c' l' w h' hc').mono ?_)
  rintro e w1 ⟨g, rfl, how, hg, hb⟩
  have hs := hb.size
  have hp := nat_Cmp ok A c l (fun k => k = g) (some ⟨g, 0, none⟩) _ _ w1 (h.below hb) hc (how.rd rfl) (Nat.le_refl _)
  rw [val_rep hv'] at hp
  have HP := Asd.mk hp
  have h1r := h.below hb
  clear hp h h'
  go_wp2_with fail
  (with_reducible refine HP.out.mono ?_)
  rintro e w2 ⟨rfl, n, rfl⟩
  have how1 := how.drewN n
  have h1r2 := h1r.drewN n
  have hsz1 : w.heap.size ≤ (w1.drewN n).heap.size := hs
  have hbd : Below w.heap.size w (w1.drewN n) := below_drewN hb n
  generalize w1.drewN n = w2 at *
  clear HP how h1r hs hb
  obtain ⟨y, hcy, hy0, hy1, HY⟩ := how1.el ((rep (val l')).length - 1) (by omega)
  have hyp : 0 < y := by have := hlast.out; rwa [HY.out] at this
  have ei : (((rep (val l')).length : Int) - 1).toNat = (rep (val l')).length - 1 := by omega
  clear hlast
  go_wp2_with fail
  (with_reducible refine (limb_Len y hyp hy1 w2).mono ?_)
  rintro e w3 ⟨m, rfl, hm31, _, _, rfl⟩
  obtain ⟨i, hi⟩ : ∃ i : Nat, i = 31 - m := ⟨_, rfl⟩
  have hii : i < 32 := by omega
  have hsi : 32 - ((m : Int) + 1) = (i : Int) := by omega
  clear ei hcy hyp hy0 hy1 HY
  have HI := Asd.mk hsi
  clear hsi hi
  go_wp2_with fail
  (with_reducible refine (twos_Up ok A c l _ i w2 h1r2 hc (by omega) hii HI.out).mono ?_)
  rintro e w3 ⟨g2, rfl, how2, hg2, hb2⟩
  have hs2 := hb2.size
  have how1b := how1.below hb2
  have hg1lt := how1.lt
  have hbd3 := hbd.trans (hb2.mono hsz1)
  clear hbd how1 h1r2
  have hp0 := two_pow_pos i
  have hval2 : 0 ≤ val l * 2 ^ i := Int.mul_nonneg hv (by omega)
  have hlen3 := HLA.out i hii
  obtain ⟨i0, hi0, hz0, hz1', hz2'⟩ := info_parts info_u32
  go_wp2_with (at_builtin; go_loud (refine wpList_append_lies _ rfl (.tmp 52) (.tmp 53) 22 rfl 0 125 i0 (.int .u32 0) 1 4 Tryz.underlying22 hi0 hz0 hz1' hz2' rfl (by omega) _ _ _ rfl (how2.2.2.alloc _) ⟨w3.heap.size, 0, none⟩ 1 1 [.int .u32 0] rfl rfl ?c1 ?c2 (by omega) ?c3 ?c4 (Nat.zero_le _) (w3.heap.size + 1) ?c5 ?_))
  case c2 =>
    intro u hu
    rw [List.mem_singleton.1 hu]
    rfl
  case c1 =>
    intro j u hj
    have hj0 : j = 0 := by
      have := (List.getElem?_eq_some_iff.1 hj).1
      simp at this
      omega
    subst hj0
    simp only [List.getElem?_cons_zero, Option.some.injEq] at hj
    subst hj
    simp [Addr.add]
  case c3 => simp only [maxLen]; omega
  case c4 => omega
  case c5 => simp
  intro g3 cap w4 hown hgrow hat hlt3
  have hwo : Wd (rep (val l * 2 ^ i) ++ [0]) := (Wd_rep _).append (Wd.cons (by omega) (by omega) Wd.nil)
  have ho : Ow w4 g3 cap (rep (val l * 2 ^ i) ++ [0]) := ⟨hwo, by rw [List.length_append]; simp; omega, by
    rw [List.length_append, List.map_append]
    exact hown⟩
  have hg3 : w2.heap.size ≤ g3 := by
    rcases hat with hat | hat
    · simp [Value.ownBlock] at hat; omega
    · omega
  have hne : g ≠ g2 := by omega
  have how1c : Ow w4 g (rep (val l')).length (rep (val l')) := (how1b.alloc _).grown hgrow hne
  have hbd4 : Below w.heap.size w w4 := (hbd3.alloc (by omega) _).grown hgrow (by simp; omega) (fun k hk => by simp [Value.ownBlock] at hk; omega)
  have hs4 := hbd4.size
  have hvo : val (rep (val l * 2 ^ i) ++ [0]) = val l * 2 ^ i := by rw [val_snoc, val_rep hval2]; omega
  have hlo : (rep (val l * 2 ^ i) ++ [0]).length = (rep (val l * 2 ^ i)).length + 1 := by simp
  have HVO := Asd.mk hvo
  have HLO := Asd.mk hlo
  have HGR : Asd (g3 < w4.heap.size ∧ w2.heap.size ≤ g3) := ⟨hlt3, hg3⟩
  clear hown hgrow hat how2 how1b hvo hlo hwo hi0 hz0 hz1' hz2'
  generalize rep (val l * 2 ^ i) ++ [0] = o at *
  rw [← HLO.out]
  have hu := twos_Up (fun k => k = g) (some ⟨g, 0, none⟩) _ (rep (val l')) _ i w4 (how1c.rd rfl) (Nat.le_refl _) (by omega) hii HI.out
  rw [val_rep hv'] at hu
  have HU := Asd.mk hu
  clear hu
  go_wp2_with fail
  (with_reducible refine HU.out.mono ?_)
  rintro e w5 ⟨g4, rfl, how4, hg4, hb5⟩
  have ho5 := ho.below hb5
  have hs5 := hb5.size
  have hdp : 0 < val l' * 2 ^ i := Int.mul_pos (by omega) hp0
  have hmono : val l' * 2 ^ i ≤ val l * 2 ^ i := Int.mul_le_mul_of_nonneg_right hge (by omega)
  have hL2 : 2 ≤ (rep (val l' * 2 ^ i)).length := Nat.le_trans hlen2 (rep_length_mono hv' (mul_two_pow i hv'))
  have hLo : (rep (val l' * 2 ^ i)).length ≤ o.length := by
    rw [HLO.out]
    have := rep_length_mono (show 0 ≤ val l' * 2 ^ i by omega) hmono
    omega
  have hg34 : ¬ g3 = g4 := by have := HGR.out.1; omega
  have hl := quot_long (fun k => k = g4) g3 cap o (some ⟨g4, 0, none⟩) _ (rep (val l' * 2 ^ i)) w5 ho5 (how4.rd rfl) (Nat.le_refl _) hg34 (fun k hk => by rw [hk]; exact how4.lt) hL2 hLo (by rw [HLO.out]; omega) (rep_getD_last (by omega)) (by
    rw [HVO.out, HLO.out, val_rep (by omega)]
    exact long_fits hval2 hdp)
  rw [HVO.out, val_rep (show 0 ≤ val l' * 2 ^ i by omega)] at hl
  have HL := Asd.mk hl
  have hbd5 := hbd4.trans (hb5.mono hs4)
  clear hl HU ho5 how4 how1c
  go_wp2_with fail
  (with_reducible refine HL.out.mono ?_)
  rintro e w6 ⟨gq, q, o', rfl, hgq, hoq, ho', hol', hvq, hvo', hg6⟩
  have hbd6 : Below w.heap.size w w6 := hbd5.grown hg6 (by omega) (fun k hk => by injection hk with hk; have := HGR.out.2; omega)
  have HQV : Asd (val q = val l / val l') := ⟨by rw [hvq]; exact Int.mul_ediv_mul_of_pos_left _ _ hp0⟩
  have HOV : Asd (val o' / 2 ^ i = val l % val l') := ⟨by
    rw [hvo', Int.mul_comm (val l), Int.mul_comm (val l'), Int.mul_emod_mul_of_pos _ _ hp0]
    exact Int.mul_ediv_cancel_left _ (by omega)⟩
  have HOL' : Asd (o'.length = o.length) := ⟨hol'⟩
  have hs6 := hbd6.size
  have hs56 := hg6.size
  have hql := hoq.len
  clear HL hvq hvo' hg6 ho hol'
  have hn := nat_Norm (fun k => w.heap.size ≤ k) (some ⟨gq, 0, none⟩) _ q w6 (hoq.rd (by omega)) (Nat.le_refl _)
  rw [HQV.out] at hn
  have HN := Asd.mk hn
  clear hn
  go_wp2_with fail
  (with_reducible refine HN.out.mono ?_)
  rintro e w7 ⟨g7, rfl, how7, hg7, hb7⟩
  have ho7 := ho'.below hb7
  have hd := twos_Down (fun k => w.heap.size ≤ k) (some ⟨g3, 0, none⟩) cap o' _ i w7 (ho7.rd (by have := HGR.out.2; omega)) ho7.room (by rw [HOL'.out, HLO.out]; omega) hii HI.out
  rw [HOV.out, HOL'.out] at hd
  have HD := Asd.mk hd
  have hs7 := hb7.size
  clear hd HN ho7 ho'
  go_wp2_with fail
  (with_reducible refine HD.out.mono ?_)
  rintro e w8 ⟨A8, c8, rfl, hc8, hr8, hb8⟩
  go_wp2
  go_ret3
  exact ⟨_, _, _, _, rfl, Nat.le_refl _, hc8, (how7.rd (by omega)).below hb8, hr8.mono (fun k _ hk => by omega), (hbd6.trans (hb7.mono hs6)).trans (hb8.mono (by omega))⟩

/-- The division of naturals: the floor, and what is left. -/
theorem quot_Div (ok : Nat → Prop) (A : Option Addr) (c : Nat) (l : List Int) (ok' : Nat → Prop) (A' : Option Addr) (c' : Nat) (l' : List Int) (w : World) (h : Rd ok w A l) (hc : l.length ≤ c) (h' : Rd ok' w A' l') (hc' : l'.length ≤ c') (hpos : 0 < val l') (hbig : l.length < 10000000000) :
    Calls Tryz.prog 132 #[.slice A l.length c, .slice A' l'.length c'] w fun e w' => ∃ A1 c1 A2 c2, e = .returned (.tuple #[.slice A1 (rep (val l / val l')).length c1, .slice A2 (rep (val l % val l')).length c2, .bool true]) ∧ (rep (val l / val l')).length ≤ c1 ∧ (rep (val l % val l')).length ≤ c2 ∧ Rd (fun k => w.heap.size ≤ k) w' A1 (rep (val l / val l')) ∧ Rd (fun k => w.heap.size ≤ k) w' A2 (rep (val l % val l')) ∧ Below w.heap.size w w' := by
  rcases Int.lt_or_le (val l) (val l') with hlt | hge
  · refine (quot_Div_lt ok A c l ok' A' c' l' w h hc h' hc' hlt).mono ?_
    rintro e w' ⟨A2, c2, rfl, hc2, hr, hb⟩
    have e1 : val l / val l' = 0 := Int.ediv_eq_zero_of_lt (val_nonneg h.wd) hlt
    have e2 : val l % val l' = val l := Int.emod_eq_of_lt (val_nonneg h.wd) hlt
    rw [e1, e2, rep_zero]
    exact ⟨none, 0, A2, c2, rfl, Nat.le_refl _, hc2, Rd.nil _ _ _, hr, hb⟩
  · rcases Int.lt_or_le (val l') 4294967296 with hsm | hsm
    · exact quot_Div_one ok A c l ok' A' c' l' w h hc h' hc' hge hpos hsm hbig
    · exact quot_Div_long ok A c l ok' A' c' l' w h hc h' hc' hge hsm hbig
end Go.Proofs.YthjpkichpkomcaaGreatDoor
