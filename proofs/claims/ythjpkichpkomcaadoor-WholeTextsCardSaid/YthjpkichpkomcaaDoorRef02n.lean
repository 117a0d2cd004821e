/- The document's answer for layer 2: the right list of a value, as a row of the caller's own (retrospectref02.Norm). -/
import Derived.Test.YthjpkichpkomcaaDoorRef02a
namespace Go.Proofs.YthjpkichpkomcaaDoor
open Go.RowKit Go.Proofs.YthjpkichpkomcaaDoor.Big
set_option linter.unusedVariables false
set_option maxRecDepth 100000

theorem ow_of_owns {w : World} {B g n cap : Nat} {m : List Int} (h : w.ownsRow B 84 1 (.slice (some ⟨g, 0, none⟩) n cap) n (m.map (Value.int .u32))) (hn : n = m.length) (hw : Wd m) (hl : m.length ≤ 1099511627776) : Ow w g cap m ∧ B ≤ g := by
  subst hn
  refine ⟨⟨hw, hl, h.1, ?_⟩, (h.lt g rfl).1⟩
  rcases h.2 with ⟨hv, h0⟩ | ⟨g', cap', cur, hv, hB, r⟩
  · simp at hv
  · exact Or.inr ⟨g', cap', cur, hv, Nat.zero_le _, r⟩

set_option maxHeartbeats 1000000 in
theorem ref02_Norm_own (ok : Nat → Prop) (A : Option Addr) (c : Nat) (l : List Int) (w : World) (h : Rd ok w A l) (hc : l.length ≤ c) (hbig : l.length < 100000000000) :
    Calls Tryd.prog 33 #[.slice A l.length c] w fun e w' => ∃ g c1, e = .returned (.slice (some ⟨g, 0, none⟩) (rep (val l)).length c1) ∧ Ow w' g c1 (rep (val l)) ∧ w.heap.size ≤ g ∧ Below w.heap.size w w' := by
  have hm := h.2.1
  obtain ⟨i0, hi0, hz0, hz1', hz2'⟩ := info_parts info_u32
  go_enter Tryd.func33, Tryd.ntmps33
  go_wp2
  go_loop [3] (fun n => ∃ k : Nat, k ≤ l.length ∧ n = .int .i64 k ∧ val (l.drop k) = 0) (fun n => (intOf n).toNat)
  case atStart => exact ⟨l.length, Nat.le_refl _, rfl, val_drop_zero l _ (Nat.le_refl _)⟩
  case round =>
    obtain ⟨k, hk, rfl, hz⟩ := hrel
    have HZ := Asd.mk hz
    clear hz
    by_cases hk0 : 0 < k
    · obtain ⟨ad, rfl, ho, hcell⟩ := h.at_ (k - 1) (by omega)
      by_cases hx : l.getD (k - 1) 0 = 0
      · rw [hx] at hcell
        have HX := Asd.mk hx
        clear hx
        go_wp2
        go_round
        case rel => exact ⟨k - 1, by omega, by go_num, by rw [val_drop l (k - 1) (by omega), HX.out, show k - 1 + 1 = k from by omega, HZ.out]; rfl⟩
        case measure => simp [intOf]; omega
      · have HX := Asd.mk (rep_trim h.wd hk HZ.out (.inr hx))
        obtain ⟨x, hxe⟩ : ∃ x, l.getD (k - 1) 0 = x := ⟨_, rfl⟩
        rw [hxe] at hcell hx
        have hb : (x == 0) = false := by simpa using hx
        clear hx hxe
        have hcut := cut_u32 (some ad) l.length c k (by omega) (by omega) hc
        have hkl : (l.take k).length = k := by rw [List.length_take]; omega
        have hrt := h.take k
        generalize l.take k = lt at *
        have hown : (w.alloc (.cells #[] 84)).ownsRow w.heap.size 84 1 (.slice (some ⟨w.heap.size, 0, none⟩) 0 0) 0 [] := ⟨rfl, Or.inr ⟨w.heap.size, 0, #[], rfl, Nat.le_refl _, heap_alloc_new _ _, Nat.le_refl _, Nat.zero_le _, rfl, rfl⟩⟩
        go_wp2_with (at_builtin; go_loud (refine wpList_append_lies _ rfl (.tmp 18) (.tmp 21) 22 rfl w.heap.size 84 i0 (.int .u32 0) 1 4 Tryd.underlying22 hi0 hz0 hz1' hz2' rfl (by omega) _ _ _ rfl hown ad k c (lt.map (Value.int .u32)) rfl ?c1 ?c2 ?c3 hk0 ?c4 ?c5 ?c6 (w.heap.size + 1) ?c7 ?_))
        case c2 =>
          intro j y hj
          have hjl : j < lt.length := (List.getElem?_eq_some_iff.1 hj).1
          rw [List.getElem?_eq_getElem hjl] at hj
          injection hj with hj
          have := (hrt.alloc (.cells #[] 84)).cell j hjl
          rw [getD_eq _ _ hjl, hj] at this
          exact this
        case c3 => intro u hu; rfl
        case c4 => simp only [maxLen]; omega
        case c5 => omega
        intro g cap w4 hown4 hgrow hat hlt4
        obtain ⟨hr4, hgg⟩ := ow_of_owns (by simpa using hown4) (by simp [hkl]) hrt.wd hrt.len
        have hb4 : Below w.heap.size w w4 := ((Below.refl _ _).alloc (Nat.le_refl _) _).grown hgrow (by simp) (fun q hq => by simp [Value.ownBlock] at hq; omega)
        clear hown hown4 hgrow
        go_wp2
        go_ret
        rw [HX.out]
        refine ⟨g, _, by rw [hkl]; first | rfl | (simp only [Nat.zero_add]; rfl), hr4, hgg, hb4⟩
    · have hk1 : k = 0 := by omega
      have HX := Asd.mk (rep_trim h.wd hk HZ.out (.inl hk1))
      subst hk1
      have hcut := cut_u32 A l.length c 0 (by omega) (by omega) hc
      go_wp2_with (at_builtin; go_loud (refine wpList_append_nothing rfl (.tmp 18) (.tmp 21) rfl i0 hi0 hz1' (some ⟨w.heap.size, 0, none⟩) 0 0 A c (Nat.le_refl _) rfl rfl ?_))
      go_wp2
      go_ret
      rw [HX.out]
      exact ⟨_, _, rfl, ⟨Wd.nil, by simp, ⟨rfl, Or.inr ⟨w.heap.size, 0, #[], rfl, Nat.zero_le _, heap_alloc_new _ _, Nat.le_refl _, Nat.zero_le _, rfl, rfl⟩⟩⟩, Nat.le_refl _, (Below.refl _ _).alloc (Nat.le_refl _) _⟩
end Go.Proofs.YthjpkichpkomcaaDoor
