/- FracC · RowB -/
import Derived.Test.YthjpkichpkomcaaGreatDoorBRowFigureNear28
import Derived.Test.YthjpkichpkomcaaGreatDoorBRowFigureNear22
import Derived.Test.YthjpkichpkomcaaGreatDoorBRowFigureNear18
import Derived.Outline
import Derived.Deep.AppendLies
/- Layer 9: fractions (frac: Of, Same), and how long sums and products are. -/
namespace Go.Proofs.YthjpkichpkomcaaGreatDoor
open Go.RowKit Go.Proofs.YthjpkichpkomcaaGreatDoor.Big
set_option linter.unusedVariables false
set_option maxRecDepth 100000
attribute [local go_sem ↓] Go.wp_at_zero Go.wp_at_succ

theorem sz_int (n : Int) {k : Nat} (hk : 1 ≤ k) (h : (mag n).length ≤ k) : Sz k (n : Rat) := by
  refine ⟨by rw [Rat.num_intCast]; exact h, ?_⟩
  rw [Rat.den_intCast, show ((1 : Nat) : Int) = 1 from rfl, rep_word (by decide) (by decide)]; exact hk
theorem mag_den (d : Nat) : (mag (d : Int)).length = (rep (d : Int)).length := by
  unfold mag; congr 2
theorem sz_add {a b : Nat} {p q : Rat} (h : Sz a p) (h' : Sz b q) : Sz (a + b + 1) (p + q) := by
  have e : p + q = Rat.divInt (p.num * (q.den : Int) + q.num * (p.den : Int)) ((p.den : Int) * (q.den : Int)) := by
    rw [dv_add _ _ (den_pos p) (den_pos q), Rat.num_divInt_den, Rat.num_divInt_den]
  rw [e]
  have h1 : (mag (q.den : Int)).length ≤ b := by rw [mag_den]; exact h'.2
  have h2 : (mag (p.den : Int)).length ≤ a := by rw [mag_den]; exact h.2
  refine sz_dv (Int.mul_pos (den_pos p) (den_pos q)) ?_ ?_
  · have l2 := len_mul h'.1 h2
    rw [Nat.add_comm b a] at l2
    have := len_add (len_mul h.1 h1) l2
    omega
  · have := len_mul h2 h1
    rw [← Int.natCast_mul, mag_den] at this
    rw [← Int.natCast_mul]
    omega
theorem sz_mul {a b : Nat} {p q : Rat} (h : Sz a p) (h' : Sz b q) : Sz (a + b) (p * q) := by
  have e : p * q = Rat.divInt (p.num * q.num) ((p.den : Int) * (q.den : Int)) := by
    rw [dv_mul, Rat.num_divInt_den, Rat.num_divInt_den]
  rw [e]
  have h1 : (mag (q.den : Int)).length ≤ b := by rw [mag_den]; exact h'.2
  have h2 : (mag (p.den : Int)).length ≤ a := by rw [mag_den]; exact h.2
  refine sz_dv (Int.mul_pos (den_pos p) (den_pos q)) ?_ ?_
  · exact len_mul h.1 h'.1
  · have := len_mul h2 h1
    rw [← Int.natCast_mul, mag_den] at this
    rw [← Int.natCast_mul]
    omega

set_option maxHeartbeats 1000000 in
theorem frac_Of (n : Int) (h0 : -9223372036854775808 ≤ n) (h1 : n ≤ 9223372036854775807) (w : World) :
    Calls Tryz.prog 25 #[.int .i64 n] w (FrOut (n : Rat) w) := by
  have HN := Asd.mk (And.intro (Rat.num_intCast n) (Rat.den_intCast n))
  go_enter Tryz.func25, Tryz.ntmps25
  go_wp2_with fail
  have XR0 := Blk.new w [.bool false, .slice none 0 0, .slice none 0 0] 30
  have hb0 := ((Below.refl w.heap.size w).alloc (Nat.le_refl _) (.cells #[.bool false, .slice none 0 0, .slice none 0 0] 30))
  generalize w.alloc (.cells #[.bool false, .slice none 0 0, .slice none 0 0] 30) = W at *
  have XR := XR0; have hB := hb0; have hlt := XR0.lt
  clear XR0 hb0
  have cXR0 := XR.c 0 rfl; have cXR1 := XR.c 1 rfl; have cXR2 := XR.c 2 rfl
  refine (whole_Of n h0 h1 W).mono ?_
  rintro e w1 ⟨P, p, rfl, hp, hr, hb1⟩
  replace XR := XR.below hb1; replace cXR0 := XR.c 0 rfl; replace cXR1 := XR.c 1 rfl; replace cXR2 := XR.c 2 rfl; replace hB := below_go hB hb1
  have hs1 := hb1.size
  go_wp2_with fail
  refine (nat_Of 1 (by decide) (by decide) w1).mono ?_
  rintro e w2 ⟨Y, y, rfl, hy, hry, hb1⟩
  replace XR := XR.below hb1; replace hr := hr.below hb1; replace cXR0 := XR.c 0 rfl; replace cXR1 := XR.c 1 rfl; replace cXR2 := XR.c 2 rfl; replace hB := below_go hB hb1
  have rf := XR.f; have rl := XR.lt
  have hs2 := hb1.size
  rw [← HN.out.1] at hr hp ⊢
  have e1 : (1 : Int) = (((n : Rat).den : Nat) : Int) := by rw [HN.out.2]; rfl
  rw [e1] at hry hy ⊢
  clear e1
  generalize (n : Rat) = q at *
  clear HN
  go_wp2
  refine bodyPost_ret (ret_blk rfl rfl (((XR.set 0 _).set 1 _).set 2 _) Tryz.underlying30 (by kernel_rfl)) rfl ?_
  exact ⟨P, p, Y, y, rfl, hp, hy, (((hr.setCell (by simp; omega) _).setCell (by simp; omega) _).setCell (by simp; omega) _).mono (fun k _ hk => by omega), (((hry.setCell (by simp; omega) _).setCell (by simp; omega) _).setCell (by simp; omega) _).mono (fun k _ hk => by omega), ((hB.setCell (by simp) _).setCell (by simp) _).setCell (by simp) _⟩

set_option maxHeartbeats 1000000 in
theorem frac_Same (ok ok' : Nat → Prop) (x y : RF) (w : World) (hx : x.ok ok w) (hy : y.ok ok' w) :
    Calls Tryz.prog 18 #[.agg #[.bool x.n, .slice x.A x.l.length x.c, .slice x.A' x.d.length x.c'], .agg #[.bool y.n, .slice y.A y.l.length y.c, .slice y.A' y.d.length y.c']] w fun e w' => e = .returned (.bool (decide (x.q = y.q))) ∧ Below w.heap.size w w' := by
  have HS := Asd.mk (same_sub x.q y.q)
  go_enter Tryz.func18, Tryz.ntmps18
  go_wp2_with fail
  have XA0 := (Blk.new w [.bool x.n, .slice x.A x.l.length x.c, .slice x.A' x.d.length x.c'] 30).alloc (.cells #[.bool y.n, .slice y.A y.l.length y.c, .slice y.A' y.d.length y.c'] 30)
  have XB0 := Blk.new (w.alloc (.cells #[.bool x.n, .slice x.A x.l.length x.c, .slice x.A' x.d.length x.c'] 30)) [.bool y.n, .slice y.A y.l.length y.c, .slice y.A' y.d.length y.c'] 30
  have rhx := ((hx.alloc (.cells #[.bool x.n, .slice x.A x.l.length x.c, .slice x.A' x.d.length x.c'] 30)).alloc (.cells #[.bool y.n, .slice y.A y.l.length y.c, .slice y.A' y.d.length y.c'] 30))
  have rhy := ((hy.alloc (.cells #[.bool x.n, .slice x.A x.l.length x.c, .slice x.A' x.d.length x.c'] 30)).alloc (.cells #[.bool y.n, .slice y.A y.l.length y.c, .slice y.A' y.d.length y.c'] 30))
  have hb0 := (((Below.refl w.heap.size w).alloc (Nat.le_refl _) (.cells #[.bool x.n, .slice x.A x.l.length x.c, .slice x.A' x.d.length x.c'] 30)).alloc (by simp) (.cells #[.bool y.n, .slice y.A y.l.length y.c, .slice y.A' y.d.length y.c'] 30))
  simp only [World.size_alloc] at XB0
  generalize (w.alloc (.cells #[.bool x.n, .slice x.A x.l.length x.c, .slice x.A' x.d.length x.c'] 30)).alloc (.cells #[.bool y.n, .slice y.A y.l.length y.c, .slice y.A' y.d.length y.c'] 30) = W at *
  clear hx hy
  have XA := XA0; have XB := XB0; have hB := hb0; have rx := rhx; have ry := rhy
  clear XA0 XB0 hb0 rhx rhy
  have cXA0 := XA.c 0 rfl; have cXA1 := XA.c 1 rfl; have cXA2 := XA.c 2 rfl; have cXB0 := XB.c 0 rfl; have cXB1 := XB.c 1 rfl; have cXB2 := XB.c 2 rfl
  refine (frac_Cmp _ _ x y W rx ry).mono ?_
  rintro e w1 ⟨rfl, hb1⟩
  replace hB := below_go hB hb1
  go_wp2
  go_ret
  exact ⟨congrArg (fun b => Ending.returned (.bool b)) HS.out, hB⟩
end Go.Proofs.YthjpkichpkomcaaGreatDoor
/- Rows of fractions, turned and asked: law09.To, law11.To, ref09.Long, ref11.Long. -/
namespace Go.Proofs.YthjpkichpkomcaaGreatDoor
open Go.RowKit Go.Proofs.YthjpkichpkomcaaGreatDoor.Big
set_option linter.unusedVariables false
set_option maxRecDepth 100000
attribute [local go_sem ↓] Go.wp_at_zero Go.wp_at_succ

theorem info_frac : (Tryz.prog.info? 30).map (fun i => (i.zero, i.size, i.bytes)) = some (some (.agg #[.bool false, .slice none 0 0, .slice none 0 0]), 3, 56) := by kernel_rfl

set_option maxHeartbeats 1000000 in
theorem law09_To (n : Bool) (A : Option Addr) (m c : Nat) (A' : Option Addr) (m' c' : Nat) (w : World) :
    Calls Tryz.prog 14 #[.agg #[.bool n, .slice A m c, .slice A' m' c']] w fun e w' => e = .returned (.agg #[.bool n, .slice A m c, .slice A' m' c']) ∧ Below w.heap.size w w' := by
  go_enter Tryz.func14, Tryz.ntmps14
  have R0 := Blk.new (w.alloc (.cells #[.bool n, .slice A m c, .slice A' m' c'] 24)) [.bool n, .slice A m c, .slice A' m' c'] 30
  simp only [World.size_alloc] at R0
  go_wp2
  refine bodyPost_ret (ret_blk rfl rfl R0 Tryz.underlying30 (by kernel_rfl)) rfl ?_
  exact ⟨rfl, ((Below.refl _ _).alloc (Nat.le_refl _) _).alloc (by simp) _⟩

set_option maxHeartbeats 1000000 in
theorem ref09_Long (n : Bool) (A : Option Addr) (m c : Nat) (A' : Option Addr) (m' c' : Nat) (most : Nat) (w : World) :
    Calls Tryz.prog 11 #[.agg #[.bool n, .slice A m c, .slice A' m' c'], .int .i64 (most : Int)] w fun e w' => e = .returned (.bool (decide (most < m) || decide (most < m'))) ∧ Below w.heap.size w w' := by
  go_enter Tryz.func11, Tryz.ntmps11
  go_wp2_with fail
  have XA0 := Blk.new w [.bool n, .slice A m c, .slice A' m' c'] 24
  have hb0 := (Below.refl w.heap.size w).alloc (Nat.le_refl _) (.cells #[.bool n, .slice A m c, .slice A' m' c'] 24)
  generalize w.alloc (.cells #[.bool n, .slice A m c, .slice A' m' c'] 24) = W at *
  have c0 := XA0.c 0 rfl; have c1 := XA0.c 1 rfl; have c2 := XA0.c 2 rfl
  go_wp2
  all_goals go_ret
  all_goals exact ⟨by first | rfl | (simp; omega), by first | exact hb0 | exact (Below.refl w.heap.size w).alloc (Nat.le_refl _) (.cells #[.bool n, .slice A m c, .slice A' m' c'] 24)⟩

theorem take_more {α : Type} {xs : List α} {k : Nat} {x : α} (h : xs[k]? = some x) : xs.take (k + 1) = xs.take k ++ [x] := by
  rw [List.take_add_one, h]; rfl

/-- A fraction in a row: its cells, as the walk asks for them. -/
theorem Rw.cells3 {p : Nat → Prop} {w : World} {A : Option Addr} {xs : List RF} (h : Rw p w A xs) {k : Nat} {x : RF} (hk : xs[k]? = some x) : ∃ ad, A = some ad ∧ p ad.block ∧ x.ok p w ∧ w.cell? (ad.add (k * 3)) = some (.bool x.n) ∧ w.cell? ⟨(ad.add (k * 3)).block, (ad.add (k * 3)).off + 1, none⟩ = some (.slice x.A x.l.length x.c) ∧ w.cell? ⟨(ad.add (k * 3)).block, (ad.add (k * 3)).off + 2, none⟩ = some (.slice x.A' x.d.length x.c') := by
  obtain ⟨ad, e, hp, ho, hc⟩ := h.get hk
  refine ⟨ad, e, hp, ho, ?_, ?_, ?_⟩
  · have := hc 0 _ rfl; simpa [Addr.add, show Elm.sz RF = 3 from rfl] using this
  · have := hc 1 _ rfl; simpa [Addr.add, show Elm.sz RF = 3 from rfl] using this
  · have := hc 2 _ rfl; simpa [Addr.add, show Elm.sz RF = 3 from rfl] using this

set_option maxHeartbeats 1000000 in
theorem law11_To (p : Nat → Prop) (A : Option Addr) (c : Nat) (xs : List RF) (w : World) (h : Rw p w A xs) (hc : xs.length ≤ c) (hl : xs.length ≤ 100000) :
    Calls Tryz.prog 48 #[.slice A xs.length c] w fun e w' => ∃ v, e = .returned v ∧ OwE 30 w.heap.size (fun k => p k ∧ k < w.heap.size) w' v xs ∧ Below w.heap.size w w' := by
  obtain ⟨i0, hi, hi0, hi1, hi2⟩ := info_parts info_frac
  have hk0 : ∀ k (hk : k < w.heap.size), p k → p k ∧ k < w.heap.size := fun k hk hp => ⟨hp, hk⟩
  go_enter Tryz.func48, Tryz.ntmps48
  go_wp2_with fail
  go_loopw [3, 4] (fun v i wq => ∃ k : Nat, k ≤ xs.length ∧ i = .int .i64 (k : Int) ∧ Asd (OwE 30 w.heap.size (fun k => p k ∧ k < w.heap.size) wq v (xs.take k)) ∧ Asd (Below w.heap.size w wq)) (fun _ i _ => (xs.length - intOf i).toNat)
  case atStart => exact ⟨0, Nat.zero_le _, rfl, ⟨by rw [List.take_zero]; exact OwE.nil _ _ _ _⟩, ⟨Below.refl _ _⟩⟩
  case round =>
    obtain ⟨k, hk, rfl, HO, HB⟩ := hrel
    by_cases hkl : k < xs.length
    · obtain ⟨x, hx⟩ : ∃ x, xs[k]? = some x := ⟨_, List.getElem?_eq_getElem hkl⟩
      obtain ⟨ad, rfl, hp, hok, hc0, hc1, hc2⟩ := ((h.mono hk0).below HB.out).cells3 hx
      have hsz := HB.out.size
      go_wp2_with fail
      refine (law09_To x.n x.A x.l.length x.c x.A' x.d.length x.c' wr).mono ?_
      rintro e w1 ⟨rfl, hb1⟩
      have hO1 := HO.out.below hb1
      have hk1 := hok.below hb1
      have hs1 := hb1.size
      have hB1 := below_go HB.out hb1
      go_wp2_with (at_builtin; refine wpList_push rfl _ _ 68 rfl _ _ 30 i0 _ 56 Tryz.underlying68 hi hi0 hi1 hi2 rfl _ _ rfl x w1 rfl hO1 (Elm.mono (x := x) hk1 (fun k _ hk => ⟨hk, .inl hk.2⟩)) (by omega) (by rw [List.length_take]; omega) (by decide) ?_)
      intro v' w4 hP hgrow hown
      rw [← take_more hx] at hP
      go_wp2
      go_roundw
      case rel => exact ⟨k + 1, by omega, by go_num, ⟨hP⟩, ⟨hB1.grown hgrow (by omega) (fun g hg => (hown g hg).1)⟩⟩
      case measure => simp [intOf]; omega
    · go_wp2
      go_ret
      have e : xs.take k = xs := List.take_of_length_le (by omega)
      rw [e] at HO
      exact ⟨_, rfl, HO.out, HB.out⟩

/-- Long, of a row that came in. -/
def longR (many words : Nat) (cs : List RC) : Bool := (cs.take many).any (fun r => decide (words < r.x.l.length) || decide (words < r.x.d.length)) || decide (many < cs.length)
theorem Rw.cells3c {p : Nat → Prop} {w : World} {A : Option Addr} {xs : List RC} (h : Rw p w A xs) {k : Nat} {r : RC} (hk : xs[k]? = some r) : ∃ ad, A = some ad ∧ w.cell? (ad.add (k * 3)) = some (.bool r.x.n) ∧ w.cell? ⟨(ad.add (k * 3)).block, (ad.add (k * 3)).off + 1, none⟩ = some (.slice r.x.A r.x.l.length r.x.c) ∧ w.cell? ⟨(ad.add (k * 3)).block, (ad.add (k * 3)).off + 2, none⟩ = some (.slice r.x.A' r.x.d.length r.x.c') := by
  obtain ⟨ad, e, hp, ho, hc⟩ := h.get hk
  refine ⟨ad, e, ?_, ?_, ?_⟩
  · have := hc 0 _ rfl; simpa [Addr.add, show Elm.sz RC = 3 from rfl] using this
  · have := hc 1 _ rfl; simpa [Addr.add, show Elm.sz RC = 3 from rfl] using this
  · have := hc 2 _ rfl; simpa [Addr.add, show Elm.sz RC = 3 from rfl] using this

theorem any_take_more {α : Type} {xs : List α} {f : α → Bool} {k : Nat} {x : α} (h : xs[k]? = some x) (h0 : (xs.take k).any f = false) : (xs.take (k + 1)).any f = f x := by
  rw [take_more h, List.any_append, h0]; simp

set_option maxHeartbeats 1000000 in
theorem ref11_Long (p : Nat → Prop) (A : Option Addr) (c : Nat) (cs : List RC) (many words : Nat) (w : World) (h : Rw p w A cs) (hc : cs.length ≤ c) (hm : many ≤ 100000) :
    Calls Tryz.prog 46 #[.slice A cs.length c, .int .i64 (many : Int), .int .i64 (words : Int)] w fun e w' => e = .returned (.bool (longR many words cs)) ∧ Below w.heap.size w w' := by
  go_enter Tryz.func46, Tryz.ntmps46
  go_wp2_with fail
  go_loopw [7] (fun i wq => ∃ k : Nat, k ≤ cs.length ∧ k ≤ many ∧ i = .int .i64 (k : Int) ∧ Asd ((cs.take k).any (fun r => decide (words < r.x.l.length) || decide (words < r.x.d.length)) = false) ∧ Asd (Below w.heap.size w wq)) (fun i _ => (many - intOf i).toNat)
  case atStart => exact ⟨0, Nat.zero_le _, Nat.zero_le _, rfl, ⟨by simp⟩, ⟨Below.refl _ _⟩⟩
  case round =>
    obtain ⟨k, hk, hk2, rfl, HN, HB⟩ := hrel
    by_cases hkl : k < cs.length ∧ k < many
    · obtain ⟨hkl, hkm⟩ := hkl
      obtain ⟨r, hr⟩ : ∃ r, cs[k]? = some r := ⟨_, List.getElem?_eq_getElem hkl⟩
      obtain ⟨ad, rfl, hc0, hc1, hc2⟩ := (h.below HB.out).cells3c hr
      have hsz := HB.out.size
      have HA := any_take_more hr HN.out
      by_cases hL : (decide (words < r.x.l.length) || decide (words < r.x.d.length)) = true
      · go_wp2_with fail
        refine (ref09_Long r.x.n r.x.A r.x.l.length r.x.c r.x.A' r.x.d.length r.x.c' words wr).mono ?_
        rw [hL]
        rintro e w1 ⟨rfl, hb1⟩
        go_wp2
        go_ret
        refine ⟨?_, below_go HB.out hb1⟩
        have : (cs.take many).any (fun r => decide (words < r.x.l.length) || decide (words < r.x.d.length)) = true := by
          rw [List.any_eq_true]
          refine ⟨r, ?_, hL⟩
          have : (cs.take many)[k]? = some r := by rw [List.getElem?_take, if_pos hkm]; exact hr
          exact List.mem_of_getElem? this
        unfold longR; rw [this]; rfl
      · have hL2 : (decide (words < r.x.l.length) || decide (words < r.x.d.length)) = false := by simpa using hL
        rw [hL2] at HA
        have HA2 := Asd.mk HA
        clear HA
        go_wp2_with fail
        refine (ref09_Long r.x.n r.x.A r.x.l.length r.x.c r.x.A' r.x.d.length r.x.c' words wr).mono ?_
        rw [hL2]
        rintro e w1 ⟨rfl, hb1⟩
        go_wp2
        go_roundw
        case rel => exact ⟨k + 1, by omega, by omega, by go_num, HA2, ⟨below_go HB.out hb1⟩⟩
        case measure => simp [intOf]; omega
    · have HL : Asd (longR many words cs = decide (many < cs.length)) := ⟨by
        unfold longR
        have e : cs.take many = cs.take k := by
          by_cases h1 : k < cs.length
          · have : k = many := by omega
            rw [this]
          · rw [List.take_of_length_le (by omega), List.take_of_length_le (by omega)]
        rw [e, HN.out]; rfl⟩
      by_cases h1 : k < cs.length
      · have h2 : ¬ (k < many) := by omega
        go_wp2
        go_ret
        exact ⟨by rw [HL.out]; simp; try omega, HB.out⟩
      · go_wp2
        go_ret
        exact ⟨by rw [HL.out]; simp; try omega, HB.out⟩
end Go.Proofs.YthjpkichpkomcaaGreatDoor
