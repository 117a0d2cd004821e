/- The document's answer for layer 2: the right list of a value (retrospectref02.Norm). -/
import Derived.Test.YthjpkichpkomcaaGreatDoorNat1
import Derived.Deep.AppendLies
import Derived.Deep.Upon
import Derived.Outline
namespace Go.Proofs.YthjpkichpkomcaaGreatDoor
open Go.RowKit Go.Proofs.YthjpkichpkomcaaGreatDoor.Big
set_option linter.unusedVariables false
set_option maxRecDepth 100000

theorem Src_none (w : World) (A : Option Addr) (c : Nat) : Src Tryz.prog 1 22 (.slice A 0 c) 0 [] w := by
  cases A with
  | none => exact Src.ofNil w Tryz.underlying22 c
  | some a => exact Src.ofSlice w Tryz.underlying22 a 0 c [] rfl (fun j u h => by simp at h) (fun u h => by simp at h)

theorem wpList_append_nothing {w : World} {ops : Array Oper} {rest : List Oper} {o : Oper} {a : Act} {Q : Exit → Act → World → Prop} (hgd : o.guard = none) (s x : Operand)
    (ho : o.op = .call { callee := .builtin .append, args := #[s, x], argTypes := #[22, 22] })
    (i : TypeInfo) (hi : Tryz.prog.info? 125 = some i) (h1 : i.size = 1)
    (base : Option Addr) (m c : Nat) (A : Option Addr) (c' : Nat) (hm : m ≤ c) (hs : a.eval s = .slice base m c) (hx : a.eval x = .slice A 0 c')
    (h : wpList Tryz.prog ops Q rest (a.put o.dst (.slice base m c)) w) : wpList Tryz.prog ops Q (o :: rest) a w := by
  refine wpList_plain hgd fun K hK => ?_
  have hrun := run_append_nothing (P := Tryz.prog) w 22 22 o.type 125 i Tryz.underlying22 hi base m c hm _ (by rw [h1]; exact Src_none w A c')
  unfold Oper.wp
  simp [execOp, ho, resolve, invoke, builtin, hs, hx, hrun, Result.andThen]
  exact hK _ _ h

/-- A grown row of words, read. -/
theorem ownsRow_rd {w : World} {B g n cap : Nat} {m : List Int} (h : w.ownsRow B 125 1 (.slice (some ⟨g, 0, none⟩) n cap) n (m.map (Value.int .u32))) (hw : Wd m) (hl : m.length ≤ 1099511627776) : Rd (fun k => B ≤ k) w (some ⟨g, 0, none⟩) m ∧ n = m.length ∧ n ≤ cap := by
  have hlen : n = m.length := by have := h.1; simpa using this.symm
  refine ⟨⟨hw, hl, fun _ => ⟨_, rfl, (h.lt g rfl).1, fun j hj => h.cells (g := g) rfl j _ ?_⟩⟩, hlen, ?_⟩
  · simp [hj]
  · rcases h.2 with ⟨hv, _⟩ | ⟨g', cap', cur, hv, _, _, hc, _⟩
    · simp at hv
    · injection hv with h1 h2 h3; omega

set_option maxHeartbeats 1000000 in
theorem ref02_Norm (ok : Nat → Prop) (A : Option Addr) (c : Nat) (l : List Int) (w : World) (h : Rd ok w A l) (hc : l.length ≤ c) (hbig : l.length < 100000000000) :
    Calls Tryz.prog 94 #[.slice A l.length c] w fun e w' => ∃ A1 c1, e = .returned (.slice A1 (rep (val l)).length c1) ∧ (rep (val l)).length ≤ c1 ∧ Rd (fun k => w.heap.size ≤ k) w' A1 (rep (val l)) ∧ Below w.heap.size w w' := by
  have hm := h.2.1
  obtain ⟨i0, hi0, hz0, hz1', hz2'⟩ := info_parts info_u32
  go_enter Tryz.func94, Tryz.ntmps94
  go_wp2
  go_loop [3] (fun n => ∃ k : Nat, k ≤ l.length ∧ n = .int .i64 k ∧ val (l.drop k) = 0) (fun n => (intOf n).toNat)
  case atStart => exact ⟨l.length, Nat.le_refl _, rfl, val_drop_zero l _ (Nat.le_refl _)⟩
  case round =>
    obtain ⟨k, hk, rfl, hz⟩ := hrel
    have HZ := Asd.mk hz
    clear hz
    by_cases hk0 : 0 < k
    · obtain ⟨ad, rfl, ho, hcell⟩ := h.at_ (k - 1) (by omega)
      by_cases hx : l.getD (k - 1) 0 = 0
      · rw [hx] at hcell
        have HX := Asd.mk hx
        clear hx
        go_wp2
        go_round
        case rel => exact ⟨k - 1, by omega, by go_num, by rw [val_drop l (k - 1) (by omega), HX.out, show k - 1 + 1 = k from by omega, HZ.out]; rfl⟩
        case measure => simp [intOf]; omega
      · have HX := Asd.mk (rep_trim h.wd hk HZ.out (.inr hx))
        obtain ⟨x, hxe⟩ : ∃ x, l.getD (k - 1) 0 = x := ⟨_, rfl⟩
        rw [hxe] at hcell hx
        have hb : (x == 0) = false := by simpa using hx
        clear hx hxe
        have hcut := cut_u32 (some ad) l.length c k (by omega) (by omega) hc
        have hkl : (l.take k).length = k := by rw [List.length_take]; omega
        have hrt := h.take k
        generalize l.take k = lt at *
        have hown : (w.alloc (.cells #[] 125)).ownsRow w.heap.size 125 1 (.slice (some ⟨w.heap.size, 0, none⟩) 0 0) 0 [] := ⟨rfl, Or.inr ⟨w.heap.size, 0, #[], rfl, Nat.le_refl _, heap_alloc_new _ _, Nat.le_refl _, Nat.zero_le _, rfl, rfl⟩⟩
        go_wp2_with (at_builtin; go_loud (refine wpList_append_lies _ rfl (.tmp 18) (.tmp 21) 22 rfl w.heap.size 125 i0 (.int .u32 0) 1 4 Tryz.underlying22 hi0 hz0 hz1' hz2' rfl (by omega) _ _ _ rfl hown ad k c (lt.map (Value.int .u32)) rfl ?c1 ?c2 ?c3 hk0 ?c4 ?c5 ?c6 (w.heap.size + 1) ?c7 ?_))
        case c2 =>
          intro j y hj
          have hjl : j < lt.length := (List.getElem?_eq_some_iff.1 hj).1
          rw [List.getElem?_eq_getElem hjl] at hj
          injection hj with hj
          have := (hrt.alloc (.cells #[] 125)).cell j hjl
          rw [getD_eq _ _ hjl, hj] at this
          exact this
        case c3 => intro u hu; rfl
        case c4 => simp only [maxLen]; omega
        case c5 => omega
        intro g cap w4 hown4 hgrow hat hlt4
        obtain ⟨hr4, hn4, hc4⟩ := ownsRow_rd (by simpa using hown4) hrt.wd hrt.len
        have hb4 : Below w.heap.size w w4 := ((Below.refl _ _).alloc (Nat.le_refl _) _).grown hgrow (by simp) (fun q hq => by simp [Value.ownBlock] at hq; omega)
        clear hown hown4 hgrow
        go_wp2
        go_ret
        rw [HX.out]
        refine ⟨_, _, by rw [hkl]; first | rfl | (simp only [Nat.zero_add]; rfl), by rw [hkl]; omega, hr4, hb4⟩
    · have hk1 : k = 0 := by omega
      have HX := Asd.mk (rep_trim h.wd hk HZ.out (.inl hk1))
      subst hk1
      have hcut := cut_u32 A l.length c 0 (by omega) (by omega) hc
      go_wp2_with (at_builtin; go_loud (refine wpList_append_nothing rfl (.tmp 18) (.tmp 21) rfl i0 hi0 hz1' (some ⟨w.heap.size, 0, none⟩) 0 0 A c (Nat.le_refl _) rfl rfl ?_))
      go_wp2
      go_ret
      rw [HX.out]
      exact ⟨_, _, rfl, Nat.le_refl _, Rd.nil _ _ _, (Below.refl _ _).alloc (Nat.le_refl _) _⟩
end Go.Proofs.YthjpkichpkomcaaGreatDoor
