/- Works12 -/
import Derived.Test.YthjpkichpkomcaaGreatDoorBRowGridOrder42
import Derived.Test.YthjpkichpkomcaaGreatDoorBRowGridOrder45
/- The chapter's examples of matrices (law12.works). -/
namespace Go.Proofs.YthjpkichpkomcaaGreatDoor
open Go.RowKit Go.Proofs.YthjpkichpkomcaaGreatDoor.Big
set_option linter.unusedVariables false
set_option maxRecDepth 100000
attribute [local go_sem ↓] Go.wp_at_zero Go.wp_at_succ

/-- A row written out in a new block. -/
theorem rw_lit {α : Type} [Elm α] {p : Nat → Prop} (w : World) (t : TypeId) (xs : List α) (hp : p w.heap.size) (h : ∀ x ∈ xs, Elm.ok p w x) : Rw p (w.alloc (.cells (xs.flatMap Elm.vals).toArray t)) (some ⟨w.heap.size, 0, none⟩) xs := by
  refine ⟨fun _ => ⟨_, rfl, hp, fun k x hk j u hu => ?_⟩, fun x hx => Elm.move (h x hx) (fun k _ hk => Below.heap_alloc w _ k hk)⟩
  rw [add_plain, cell_of_row _ w.heap.size _ _ _ _ (heap_alloc_new w _)]
  simpa using flat_get xs k x hk j u hu
theorem two_of {xs : List RF} {a b : Rat} (h : xs.map RF.q = [a, b]) : ∃ x y, xs = [x, y] ∧ x.q = a ∧ y.q = b := by
  match xs, h with
  | [x, y], h => simp at h; exact ⟨x, y, rfl, h.1, h.2⟩

theorem sz_word {n : Int} (h0 : 0 < n) (h1 : n < 4294967296) : Sz 1 (n : Rat) := by
  refine sz_int n (Nat.le_refl _) ?_
  unfold mag
  rw [show ((n.natAbs : Nat) : Int) = n by omega, rep_word h0 h1]
  exact Nat.le_refl _
theorem map2 {xs : List RF} {a b : RF} (h : xs = [a, b]) (f : RF → Rat) : xs.map f = [f a, f b] := by rw [h]; rfl

set_option maxHeartbeats 2000000 in
theorem law12_works (w : World) :
    Calls Tryz.prog 28 #[] w fun e w' => e = .returned (.bool true) ∧ Below w.heap.size w w' := by
  go_enter Tryz.func28, Tryz.ntmps28
  go_wp2_with fail
  refine (row_Unit 2 0 (by decide) (by decide) w).mono ?_
  rintro e w1 ⟨v, ys, rfl, hO1, hQ1, hR1, hb1⟩
  obtain ⟨A1, c1, rfl, hc1, hw1⟩ := hO1.rd
  obtain ⟨x0, x1, rfl, hx0, hx1⟩ := two_of (a := 1) (b := 0) hQ1
  have hl2 : ∀ a b : RF, [a, b].length = 2 := fun _ _ => rfl
  rw [hl2] at hc1 ⊢
  go_wp2_with fail
  refine (frac_Of 3 (by decide) (by decide) w1).mono ?_
  rintro e w2 hfo
  obtain ⟨y3, rfl, hq3, hR3, hok3, hb2⟩ := hfo.rf ((sz_word (n := 3) (by decide) (by decide)).mono (by decide))
  have hw2 := hw1.below hb2
  have hsc := row_Scale _ _ y3 A1 c1 [x0, x1] w2 hok3 hw2 (by rw [hl2]; exact hc1) (by rw [hl2]; decide) (fun x hx => by
    simp only [List.mem_cons, List.not_mem_nil, or_false] at hx
    rcases hx with rfl | rfl
    · rw [hq3, hx0, Rat.mul_one]; exact (sz_word (n := 3) (by decide) (by decide)).mono (by decide)
    · rw [hx1, Rat.mul_zero]; exact sz_zero.mono (by decide))
  rw [hl2] at hsc
  go_wp2_with fail
  refine hsc.mono ?_
  rintro e w3 ⟨v, zs, rfl, hO3, hQ3, hR3', hb3⟩
  obtain ⟨A3, c3, rfl, hc3, hw3⟩ := hO3.rd
  obtain ⟨z0, z1, rfl, hz0, hz1⟩ := two_of (a := 3) (b := 0) (hQ3.trans (by simp only [List.map_cons, List.map_nil, hq3, hx0, hx1, Rat.mul_one, Rat.mul_zero]; rfl))
  rw [hl2] at hc3 ⊢
  have hs1 := hb1.size; have hs2 := hb2.size; have hs3 := hb3.size
  have hM : Rw (fun k => w.heap.size ≤ k) (w3.alloc (.cells #[.slice A1 2 c1, .slice A3 2 c3] 68)) (some ⟨w3.heap.size, 0, none⟩) [(⟨A1, c1, [x0, x1]⟩ : RV RF), ⟨A3, c3, [z0, z1]⟩] :=
    rw_lit w3 68 [(⟨A1, c1, [x0, x1]⟩ : RV RF), ⟨A3, c3, [z0, z1]⟩] (by omega) (fun r hr => by
      simp only [List.mem_cons, List.not_mem_nil, or_false] at hr
      rcases hr with rfl | rfl
      · exact ⟨(hw2.below hb3).mono (fun k _ hk => by omega), hc1⟩
      · exact ⟨hw3.mono (fun k _ hk => by omega), hc3⟩)
  have hB3 := ((below_go (below_go hb1 hb2) hb3).alloc (by omega) (.cells #[.slice A1 2 c1, .slice A3 2 c3] 68))
  go_wp2_with fail
  generalize w3.alloc (.cells #[.slice A1 2 c1, .slice A3 2 c3] 68) = V at *
  refine (grid_Ident 2 2 (by decide) (by decide) V).mono ?_
  rintro e w4 ⟨v, is, rfl, hO4, hQ4, hR4, hb4⟩
  obtain ⟨A4, c4, rfl, hc4, hw4⟩ := hO4.rd
  have hl4 : is.length = 2 := by have := congrArg List.length hQ4; simpa [identQ] using this
  have hQ4' : is.map rowQ = [[1, 0], [0, 1]] := hQ4
  have hMQ : [(⟨A1, c1, [x0, x1]⟩ : RV RF), ⟨A3, c3, [z0, z1]⟩].map rowQ = [[1, 0], [3, 0]] := by
    simp only [List.map_cons, List.map_nil, rowQ, hx0, hx1, hz0, hz1]
  have hS0 : Sz 1 0 := sz_zero
  have hS1 : Sz 1 1 := sz_one
  have hS3 : Sz 1 3 := sz_word (n := 3) (by decide) (by decide)
  have hM4 := hM.below hb4
  have hlm : ∀ a b : RV RF, [a, b].length = 2 := fun _ _ => rfl
  have hmul := grid_Mul _ _ A4 c4 is (some ⟨w3.heap.size, 0, none⟩) 2 [(⟨A1, c1, [x0, x1]⟩ : RV RF), ⟨A3, c3, [z0, z1]⟩] 2 1 1 w4 hw4 hc4 hM4 (Nat.le_refl _) (by rw [hl4]; decide) (by rw [hlm]; decide) (by decide)
    (rows_len hQ4' (by simp)) (rows_width hQ4' (by simp) (by simp)) (rows_len hMQ (by simp)) (rows_sz hQ4' (by simp [hS0, hS1])) (rows_sz hMQ (by simp [hS0, hS1, hS3])) (by rw [hlm]; decide)
  rw [hl4, hlm] at hmul
  have hmq : mulQ is [(⟨A1, c1, [x0, x1]⟩ : RV RF), ⟨A3, c3, [z0, z1]⟩] = [[1, 0], [3, 0]] := by
    rw [mulQ_eq, hQ4', hMQ]; decide +kernel
  rw [hmq] at hmul
  rw [hl4]
  go_wp2_with fail
  refine hmul.mono ?_
  rintro e w5 ⟨v, ps, rfl, hO5, hQ5, hR5, hb5⟩
  go_wp2_with fail
  refine (frac_Of 1 (by decide) (by decide) w5).mono ?_
  rintro e w6 hfu
  obtain ⟨u, rfl, hqu, hRu, hoku, hb6⟩ := hfu.rf (sz_one.mono (by decide))
  go_wp2_with fail
  refine (frac_Of 1 (by decide) (by decide) w6).mono ?_
  rintro e w7 hfu'
  obtain ⟨u', rfl, hqu', hRu', hoku', hb7⟩ := hfu'.rf (sz_one.mono (by decide))
  have hs4 := hb4.size; have hs5 := hb5.size; have hs6 := hb6.size; have hs7 := hb7.size
  have hU : Rw (fun k => w5.heap.size ≤ k) (w7.alloc (.cells #[.bool u.n, .slice u.A u.l.length u.c, .slice u.A' u.d.length u.c', .bool u'.n, .slice u'.A u'.l.length u'.c, .slice u'.A' u'.d.length u'.c'] 30)) (some ⟨w7.heap.size, 0, none⟩) [u, u'] :=
    rw_lit w7 30 [u, u'] (by omega) (fun r hr => by
      simp only [List.mem_cons, List.not_mem_nil, or_false] at hr
      rcases hr with rfl | rfl
      · exact RF.ok.below hoku hb7
      · exact RF.ok.mono hoku' (fun k _ hk => by omega))
  have hM7 := (((hM4.below hb5).below hb6).below hb7).alloc (.cells #[.bool u.n, .slice u.A u.l.length u.c, .slice u.A' u.d.length u.c', .bool u'.n, .slice u'.A u'.l.length u'.c, .slice u'.A' u'.d.length u'.c'] 30)
  have hP7 := (((hO5.below hb6).below hb7).alloc (.cells #[.bool u.n, .slice u.A u.l.length u.c, .slice u.A' u.d.length u.c', .bool u'.n, .slice u'.A u'.l.length u'.c, .slice u'.A' u'.d.length u'.c'] 30))
  have hB7 := (below_go (below_go (below_go (below_go hB3 hb4) hb5) hb6) hb7).alloc (by have := hB3.size; omega) (.cells #[.bool u.n, .slice u.A u.l.length u.c, .slice u.A' u.d.length u.c', .bool u'.n, .slice u'.A u'.l.length u'.c, .slice u'.A' u'.d.length u'.c'] 30)
  have hUQ : [u, u'].map RF.q = [1, 1] := by simp only [List.map_cons, List.map_nil, hqu, hqu']; rfl
  have hleft := grid_Left _ _ (some ⟨w7.heap.size, 0, none⟩) 2 [u, u'] (some ⟨w3.heap.size, 0, none⟩) 2 [(⟨A1, c1, [x0, x1]⟩ : RV RF), ⟨A3, c3, [z0, z1]⟩] 2 1 1 _ hU (Nat.le_refl _) hM7 (Nat.le_refl _) rfl (by rw [hlm]; decide) (rows_len hMQ (by simp)) (by decide) (row_sz hUQ (by simp [hS1])) (rows_sz hMQ (by simp [hS0, hS1, hS3])) (by rw [hlm]; decide)
  have hlq : leftQ [u, u'] [(⟨A1, c1, [x0, x1]⟩ : RV RF), ⟨A3, c3, [z0, z1]⟩] = [4, 0] := by
    rw [leftQ_eq, hUQ, hMQ]; decide +kernel
  rw [hlq, hl2, hlm] at hleft
  obtain ⟨A5, c5, rfl, hc5, hw5⟩ := hP7.rd
  go_wp2_with fail
  generalize w7.alloc (.cells #[.bool u.n, .slice u.A u.l.length u.c, .slice u.A' u.d.length u.c', .bool u'.n, .slice u'.A u'.l.length u'.c, .slice u'.A' u'.d.length u'.c'] 30) = Z at *
  refine hleft.mono ?_
  rintro e w8 ⟨v, ls, rfl, hO8, hQ8, hR8, hb8⟩
  obtain ⟨l0, l1, rfl, hl0, hl1⟩ := two_of hQ8
  obtain ⟨A8, c8, rfl, hc8, hw8⟩ := hO8.rd
  rw [hl2] at hc8 ⊢
  have hM8 := hM7.below hb8
  have hP8 := hw5.below hb8
  have hps : ps.length = 2 := by have := congrArg List.length hQ5; simpa using this
  have hsame := grid_Same _ _ A5 c5 ps (some ⟨w3.heap.size, 0, none⟩) 2 [(⟨A1, c1, [x0, x1]⟩ : RV RF), ⟨A3, c3, [z0, z1]⟩] w8 hP8 hc5 hM8 (Nat.le_refl _) (by rw [hps]; decide) (fun r hr => by rw [rows_len hQ5 (n := 2) (by simp) r hr]; decide)
  rw [hQ5, hMQ, decide_eq_true rfl, hps, hlm] at hsame
  rw [hps]
  go_wp2_with fail
  refine hsame.mono ?_
  rintro e w9 ⟨rfl, hb9⟩
  have htx := row_Text2 _ A8 c8 l0 l1 w9 (hw8.below hb9) hc8
  have htt : figT l0.q ++ 44 :: figT l1.q = [52, 44, 48] := by rw [hl0, hl1]; decide +kernel
  rw [htt] at htx
  go_wp2_with fail
  refine htx.mono ?_
  rintro e w10 ⟨rfl, hb10⟩
  go_wp2
  go_ret
  exact ⟨rfl, below_go (below_go (below_go hB7 hb8) hb9) hb10⟩
end Go.Proofs.YthjpkichpkomcaaGreatDoor
