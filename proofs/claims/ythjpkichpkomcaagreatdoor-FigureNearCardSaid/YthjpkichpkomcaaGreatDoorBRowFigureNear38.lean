/- IdxA · IdxB -/
import Derived.Test.YthjpkichpkomcaaGreatDoorShelf
import Derived.Test.YthjpkichpkomcaaGreatDoorVoc
import Derived.Laws.RangeAny
import Derived.Laws.Runes
import Derived.WalkMore
import Derived.Test.YthjpkichpkomcaaGreatDoorBRowFigureNear36
import Derived.Deep.RegionWith
import Derived.Lib.OthersKept
/- strings.IndexAny at "/." and whatever bytes. -/
namespace Go.Proofs.YthjpkichpkomcaaGreatDoor
open Go.RowKit Go.Proofs.YthjpkichpkomcaaGreatDoor.Big
set_option linter.unusedVariables false
set_option maxRecDepth 100000

theorem valid_of (r : Int) (h : Lib.validRune r = true) : Utf8.valid r = true := by
  rw [validRune_eq]; exact h
theorem two_get (i : Nat) (hi : i < (⟨#[47, 46]⟩ : ByteArray).size) : ((⟨#[47, 46]⟩ : ByteArray)[i]'hi).toNat < 128 := by
  match i, hi with
  | 0, _ => exact (by decide : (47 : UInt8).toNat < 128)
  | 1, _ => exact (by decide : (46 : UInt8).toNat < 128)
theorem below_iter (w : World) (s : ByteArray) (pos : Nat) : Below w.heap.size w (w.iter s pos) := (Below.refl w.heap.size w).alloc (Nat.le_refl _) _

set_option maxHeartbeats 1000000 in
theorem index_rune_high (r : Int) (h : 128 ≤ r) (hm : r ≤ 2147483647) (w : World) : Calls Tryz.prog 119 #[.string ⟨#[47, 46]⟩, .int .i32 r] w fun e w' => e = .returned (.int .i64 (-1)) ∧ Below w.heap.size w w' := by
  by_cases he : r = 65533
  · subst he
    go_enter Tryz.func119, Tryz.ntmps119
    go_wp2_with fail
    go_loopg [5, 6] 2 (fun g _ _ wx => ∃ i : Nat, i + g = 2 ∧ wx = w.iter ⟨#[47, 46]⟩ i)
    case atStart => exact ⟨0, rfl, rfl⟩
    case round =>
      obtain ⟨i, hig, rfl⟩ := hrel
      cases gk with
      | zero =>
        obtain rfl : i = 2 := by omega
        have hnx := run_next_end (P := Tryz.prog) w ⟨#[47, 46]⟩ 2
        go_wp2
        go_ret
        exact ⟨rfl, below_iter _ _ _⟩
      | succ g =>
        have hi : i < (⟨#[47, 46]⟩ : ByteArray).size := by show i < 2; omega
        have hnx := fun ty => run_next_ascii (P := Tryz.prog) w ⟨#[47, 46]⟩ i ty hi (two_get i hi)
        have hx := two_get i hi
        generalize ((⟨#[47, 46]⟩ : ByteArray)[i]'hi).toNat = x at *
        have hx2 : ¬ ((x : Int) = 65533) := by omega
        go_wp2
        go_roundg g
        case measure => omega
        case rel => exact ⟨i + 1, by omega, rfl⟩
  · go_enter Tryz.func119, Tryz.ntmps119
    have h0 : ¬ (r < 128) := by omega
    go_wp2_with fail
    refine (Sh.utf8_ValidRune r w).mono ?_
    rintro e w1 ⟨rfl, rfl⟩
    by_cases hv : Lib.validRune r = true
    · rw [hv]
      have hcv := fun W => run_convert_int_string (P := Tryz.prog) W 21 9 .i32 r (by rw [Tryz.underlying21]; rfl) Tryz.underlying9
      obtain ⟨hE2, hE4, hEb⟩ := encode_facts r (valid_of r hv) h
      generalize Utf8.encode r = E at *
      go_wp2_with fail
      go_step3
      go_wp2_with fail
      go_loopw [9] (fun i wq => i = .int .i64 ((E.size : Int) - 1) ∧ wq = w1) (fun _ _ => 0)
      case atStart => exact ⟨rfl, rfl⟩
      case round =>
        obtain ⟨rfl, rfl⟩ := hrel
        by_cases hs : E.size = 2
        · obtain ⟨x, y, rfl⟩ : ∃ x y : UInt8, E = ⟨#[x, y]⟩ := by
            obtain ⟨⟨l⟩⟩ := E
            match l, hs with
            | [x, y], _ => exact ⟨x, y, rfl⟩
          have hy : 128 ≤ y.toNat := hEb (show 1 < 2 by decide)
          have hne : ¬ ((46 : Int) = (y.toNat : Int)) := by omega
          have hsz : (⟨#[x, y]⟩ : ByteArray).size = 2 := rfl
          have hsl := sl_from [47, 46] 2 (by decide)
          rw [show (([47, 46] : List UInt8)).drop 2 = [] from rfl] at hsl
          clear hcv hEb hE2 hE4
          have hne2 : (((⟨#[47, 46]⟩ : ByteArray)[1]'(by decide)).toNat : Int) != (((⟨#[x, y]⟩ : ByteArray)[1]'(show 1 < 2 by decide)).toNat : Int) := bne_iff_ne.2 hne
          go_wp2
          go_step3
          go_wp2
          go_region_with (fail)
          all_goals
            go_wp2
            go_region_with (go_at_call 165; refine (Sh.strings_IndexByte _ _ _).mono ?_; rintro e w2 ⟨rfl, rfl⟩)
            all_goals
              go_wp2
              show bodyPost Tryz.prog Tryz.f119 (fun e w' => e = .returned (.int .i64 (-1)) ∧ Below wr.heap.size wr w') Exit.ret _ _
              go_ret
              exact ⟨rfl, below_drewN (below_drewN (Below.refl _ _) 1) 1⟩
        · have hs2 : ¬ ((E.size : Int) - 1 < 2) := by omega
          go_wp2
          go_ret
          exact ⟨rfl, Below.refl _ _⟩
    · have hv2 : Lib.validRune r = false := by simpa using hv
      rw [hv2]
      go_wp2
      go_ret
      exact ⟨rfl, Below.refl _ _⟩
end Go.Proofs.YthjpkichpkomcaaGreatDoor
/- strings.IndexAny at "/." and whatever bytes. -/
namespace Go.Proofs.YthjpkichpkomcaaGreatDoor
open Go.RowKit Go.Lib Go.Proofs.YthjpkichpkomcaaGreatDoor.Big
set_option linter.unusedVariables false
set_option maxRecDepth 100000

/-- What is decoded ahead of the next rune are bytes of 128 and above. -/
theorem dec_cont (s : ByteArray) (i : Nat) (h : i < s.size) (ha : 128 ≤ (s.get! i).toNat) : ∀ k, k < (Utf8.decode s i).2 → i + k < s.size ∧ 128 ≤ (s.get! (i + k)).toNat := by
  have h0 : ¬ (s.get! (i + 0)).toNat < 128 := by rw [Nat.add_zero]; omega
  have c : ∀ k, (decide (i + k < s.size) && ((s.get! (i + k)).toNat / 64 == 2)) = true → i + k < s.size ∧ 128 ≤ (s.get! (i + k)).toNat := fun k hk => by
    rw [Bool.and_eq_true, decide_eq_true_eq, beq_iff_eq] at hk
    omega
  have c0 : i + 0 < s.size ∧ 128 ≤ (s.get! (i + 0)).toNat := ⟨h, by rw [Nat.add_zero]; exact ha⟩
  unfold Utf8.decode
  simp only []
  rw [if_neg h0]
  intro k
  split
  · next hc =>
    rw [Bool.and_eq_true] at hc
    split
    · intro hk
      have hk : k < 2 := hk
      have : k = 0 ∨ k = 1 := by omega
      rcases this with rfl | rfl
      · exact c0
      · exact c 1 hc.2
    · intro hk
      have hk : k < 1 := hk
      obtain rfl : k = 0 := by omega
      exact c0
  · split
    · next hc =>
      rw [Bool.and_eq_true, Bool.and_eq_true] at hc
      split
      · intro hk
        have hk : k < 3 := hk
        have : k = 0 ∨ k = 1 ∨ k = 2 := by omega
        rcases this with rfl | rfl | rfl
        · exact c0
        · exact c 1 hc.1.2
        · exact c 2 hc.2
      · intro hk
        have hk : k < 1 := hk
        obtain rfl : k = 0 := by omega
        exact c0
    · split
      · next hc =>
        rw [Bool.and_eq_true, Bool.and_eq_true, Bool.and_eq_true] at hc
        split
        · intro hk
          have hk : k < 4 := hk
          have : k = 0 ∨ k = 1 ∨ k = 2 ∨ k = 3 := by omega
          rcases this with rfl | rfl | rfl | rfl
          · exact c0
          · exact c 1 hc.1.1.2
          · exact c 2 hc.1.2
          · exact c 3 hc.2
        · intro hk
          have hk : k < 1 := hk
          obtain rfl : k = 0 := by omega
          exact c0
      · intro hk
        have hk : k < 1 := hk
        obtain rfl : k = 0 := by omega
        exact c0
theorem get_bang (s : ByteArray) (i : Nat) (h : i < s.size) : s.data.toList[i]? = some (s.get! i) := by
  rw [Lib.data_getElem? s i h]
  congr 1
  simp [ByteArray.get!, getElem!_pos, h]
  rfl
theorem no_high {b : UInt8} (h : 128 ≤ b.toNat) : ([47, 46] : List UInt8).contains b = false := by
  have h1 : b ≠ 47 := by rintro rfl; simp at h
  have h2 : b ≠ 46 := by rintro rfl; simp at h
  simp [h1, h2]

set_option maxHeartbeats 2000000 in
theorem index_any_short (s : ByteArray) (h8 : s.size ≤ 8) (w : World) : Calls Tryz.prog 62 #[.string s, .string ⟨#[47, 46]⟩] w fun e w' => e = .returned (.int .i64 (Lib.indexAny s.data.toList [47, 46])) ∧ Below w.heap.size w w' := by
  have h8z : decide ((8 : Int) < (s.size : Int)) = false := decide_eq_false (by omega)
  go_enter Tryz.func62, Tryz.ntmps62
  go_wp2_with fail
  refine (Sh.strings_shouldUseASCIISet _ _).mono ?_
  rintro e w1 ⟨rfl, rfl⟩
  rw [h8z]
  go_wp2_with fail
  go_loopg [9, 10] s.size (fun g _ _ wx => ∃ i : Nat, i + g = s.size ∧ wx.heap[w1.heap.size]? = some (.stringIter s i) ∧ Asd (Below w1.heap.size w1 wx) ∧ Asd (Lib.NoAny s.data.toList [47, 46] i))
  case atStart => exact ⟨0, by omega, World.iter_heap _ _ _, ⟨below_iter _ _ _⟩, ⟨Lib.NoAny.zero _ _⟩⟩
  case round =>
    obtain ⟨i, hig, hk, HB, HN⟩ := hrel
    cases gk with
    | zero =>
      obtain rfl : i = s.size := by omega
      have hnx := fun ty => run_next_end_at (P := Tryz.prog) wr w1.heap.size s s.size ty hk (by omega)
      go_wp2
      go_ret
      exact ⟨by rw [Lib.indexAny_none (by rw [← Lib.size_eq]; exact HN.out)]; rfl, HB.out⟩
    | succ g =>
      have hi : i < s.size := by omega
      have hgb := get_bang s i hi
      by_cases ha : 128 ≤ (s.get! i).toNat
      · have hnx := fun ty => run_next_any_at (P := Tryz.prog) wr w1.heap.size s i ty hk hi
        have hge : s.get! i = s[i]'hi := by
          have := Lib.data_getElem? s i hi
          rw [hgb] at this
          exact Option.some.inj this
        have hd := decode_high s i hi (by rw [← hge]; exact ha)
        have hdl := decode_le s i
        have hc := dec_cont s i hi ha
        generalize (Utf8.decode s i).1 = rr at *
        generalize (Utf8.decode s i).2 = dd at *
        have hlast := hc (dd - 1) (by omega)
        have HC := Asd.mk hc
        have hki := iterAt_heap wr w1.heap.size s i (i + dd) hk
        have HB2 := Asd.mk (below_iterAt HB.out (Nat.le_refl _) s (i + dd))
        clear hc hgb hge
        go_wp2_with fail
        refine (index_rune_high (rr : Int) (by omega) (by omega) _).mono ?_
        rintro e w2 ⟨rfl, hb2⟩
        have hk2 := (hb2.block w1.heap.size (Array.getElem?_eq_some_iff.1 hki).1).trans hki
        go_wp2
        go_roundg (g + 1 - dd)
        case measure => omega
        case rel => exact ⟨i + dd, by omega, hk2, ⟨below_go HB2.out hb2⟩, ⟨fun j b hj hb => by
          by_cases hj2 : j < i
          · exact HN.out j b hj2 hb
          · obtain ⟨k, rfl⟩ := Nat.exists_eq_add_of_le (Nat.le_of_not_lt hj2)
            have h2 := HC.out k (by omega)
            rw [get_bang s (i + k) h2.1] at hb
            cases hb
            exact no_high h2.2⟩⟩
      · have hx128 : (s.get! i).toNat < 128 := by omega
        have hge : s.get! i = s[i]'hi := by
          have := Lib.data_getElem? s i hi
          rw [hgb] at this
          exact Option.some.inj this
        have hnx := fun ty => run_next_ascii_at (P := Tryz.prog) wr w1.heap.size s i ty hk hi (by rw [← hge]; exact hx128)
        rw [← hge] at hnx
        have Hx := Asd.mk hgb
        have hki := iterAt_heap wr w1.heap.size s i (i + 1) hk
        have HB2 := Asd.mk (below_iterAt HB.out (Nat.le_refl _) s (i + 1))
        have hcon := Lib.contains_iff_indexByte [47, 46] (s.get! i)
        generalize s.get! i = x at *
        have hback : ((x.toNat : Int)).toNat.toUInt8 = x := by simp
        clear hgb hge ha
        cases hin : ([47, 46] : List UInt8).contains x
        · rw [hin] at hcon
          have hlt : ¬ ((0 : Int) ≤ Lib.indexByte [47, 46] x) := of_decide_eq_false hcon.symm
          clear hcon
          go_wp2_with fail
          refine (Sh.strings_IndexRune_ascii _ _ _ (by omega) (by omega)).mono ?_
          rintro e w2 ⟨rfl, rfl⟩
          rw [hback]
          rw [show (⟨#[47, 46]⟩ : ByteArray).data.toList = [47, 46] from rfl]
          generalize Lib.indexByte [47, 46] x = z at *
          go_wp2
          go_roundg g
          case measure => omega
          case rel => exact ⟨i + 1, by omega, hki, HB2, ⟨HN.out.succ Hx.out hin⟩⟩
        · rw [hin] at hcon
          have hge : (0 : Int) ≤ Lib.indexByte [47, 46] x := of_decide_eq_true hcon.symm
          clear hcon
          go_wp2_with fail
          refine (Sh.strings_IndexRune_ascii _ _ _ (by omega) (by omega)).mono ?_
          rintro e w2 ⟨rfl, rfl⟩
          rw [hback]
          rw [show (⟨#[47, 46]⟩ : ByteArray).data.toList = [47, 46] from rfl]
          generalize Lib.indexByte [47, 46] x = z at *
          go_wp2
          go_ret
          exact ⟨by rw [Lib.indexAny_hit HN.out Hx.out hin]; rfl, HB2.out⟩
/-- IndexAny at "/.": where the cut is. -/
theorem fig_index (l : List UInt8) (hl : l.length < 1000000) (w : World) : Calls Tryz.prog 62 #[.string ⟨l.toArray⟩, .string ⟨#[47, 46]⟩] w fun e w' => e = .returned (.int .i64 (if kc l < l.length then (kc l : Int) else -1)) ∧ Below w.heap.size w w' := by
  have hsz : (⟨l.toArray⟩ : ByteArray).size = l.length := by simp [ByteArray.size]
  rw [← indexAny_kc]
  by_cases h8 : l.length ≤ 8
  · have := index_any_short ⟨l.toArray⟩ (by rw [hsz]; exact h8) w
    simpa using this
  · have h116 : (Tryz.prog.info? 157).map (fun i => (i.zero, i.size)) = some (some (.agg (Array.replicate 256 (.bool false))), 256) := by kernel_rfl
    have := Sh.strings_IndexAny_long (zero_of_info h116).1 ⟨l.toArray⟩ ⟨#[47, 46]⟩ w (by show 2 ≤ 2; decide) (by rw [hsz]; omega) (by rw [hsz]; omega) (by show 2 < _; decide) (fun j b hj => by
      have hj : ([47, 46] : List UInt8)[j]? = some b := hj
      rcases j with _ | _ | j
      · simp at hj; subst hj; decide
      · simp at hj; subst hj; decide
      · simp at hj)
    refine this.mono ?_
    rintro e w' ⟨he, rfl⟩
    exact ⟨by simpa using he, ((Below.refl _ _).alloc (Nat.le_refl _) _).alloc (by simp) _⟩
end Go.Proofs.YthjpkichpkomcaaGreatDoor
