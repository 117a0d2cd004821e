/- The document's answer for layer 7: the number that digits are (retrospectref07.Read). -/
import Derived.Test.YthjpkichpkomcaaDoorRef07
import Derived.Test.YthjpkichpkomcaaDoorRef04
import Derived.Test.YthjpkichpkomcaaDoorRef02c
import Derived.Test.YthjpkichpkomcaaDoorDig4
import Derived.Outline
import Derived.Deep.RegionWith
import Derived.Deep.RegionHeld3
import Derived.Deep.CutRange
import Derived.WalkLawsBesides
namespace Go.Proofs.YthjpkichpkomcaaDoor
open Go.RowKit Go.Proofs.YthjpkichpkomcaaDoor.Big
set_option linter.unusedVariables false
set_option maxRecDepth 100000

theorem rd_single (w : World) {x : Int} (h0 : 0 ≤ x) (h1 : x < 4294967296) : Rd (fun k => w.heap.size ≤ k) (w.alloc (.cells #[.int .u32 x] 84)) (some ⟨w.heap.size, 0, none⟩) [x] := by
  refine ⟨Wd.cons h0 h1 Wd.nil, by simp, fun _ => ⟨_, rfl, Nat.le_refl _, fun j hj => ?_⟩⟩
  have hj0 : j = 0 := by simp at hj; omega
  subst hj0
  rw [add_plain]
  exact cell_of_row _ _ 0 _ _ _ (heap_alloc_new w _)
theorem val_one (x : Int) : val [x] = x := by rw [val_cons, val_nil]; omega
/-- Where the next list lies. -/
def ReadMid (w W : World) (z : Int) (v : Value) (wx : World) : Prop := ∃ (A1 : Option Addr) (c1 : Nat), v = .slice A1 (rep z).length c1 ∧ (rep z).length ≤ c1 ∧ Rd (fun k => w.heap.size ≤ k) wx A1 (rep z) ∧ Below W.heap.size W wx

set_option maxHeartbeats 2000000 in
theorem ref07_Read (l : List UInt8) (hdg : Digs l) (hlen : l.length ≤ 1000) (w : World) : Calls Tryd.prog 54 #[.string ⟨l.toArray⟩] w fun e w' => ∃ A1 c1, e = .returned (.slice A1 (rep (decV l)).length c1) ∧ (rep (decV l)).length ≤ c1 ∧ Rd (fun k => w.heap.size ≤ k) w' A1 (rep (decV l)) ∧ Below w.heap.size w w' := by
  have hsz : (⟨l.toArray⟩ : ByteArray).size = l.length := by simp [ByteArray.size]
  have HDG := Asd.mk hdg
  clear hdg
  have e0 : decV (l.take 0) = 0 := rfl
  have HE0 := Asd.mk e0
  clear e0
  go_enter Tryd.func54, Tryd.ntmps54
  go_wp2
  go_loopw [3, 4] (fun o i wr => ∃ (j : Nat) (A1 : Option Addr) (c1 : Nat), j ≤ l.length ∧ i = .int .i64 j ∧ o = .slice A1 (rep (decV (l.take j))).length c1 ∧ (rep (decV (l.take j))).length ≤ c1 ∧ Asd (Rd (fun k => w.heap.size ≤ k) wr A1 (rep (decV (l.take j)))) ∧ Asd (Below w.heap.size w wr)) (fun _ i _ => l.length - (intOf i).toNat)
  case atStart => exact ⟨0, some ⟨w.heap.size, 0, none⟩, 0, Nat.zero_le _, rfl, by rw [HE0.out, rep_zero]; rfl, by rw [HE0.out, rep_zero]; exact Nat.le_refl _, ⟨by rw [HE0.out, rep_zero]; exact Rd.nil _ _ _⟩, ⟨(Below.refl _ _).alloc (Nat.le_refl _) _⟩⟩
  case round =>
    obtain ⟨j, A1, c1, hj, rfl, rfl, hc1, HA, HB⟩ := hrel
    by_cases hlt : j < l.length
    · have hb1 := HDG.out _ (List.getElem_mem hlt)
      have HX : (⟨l.toArray⟩ : ByteArray)[j]'(by rw [hsz]; exact hlt) = l[j] := rfl
      have HN : Asd (decV (l.take (j + 1)) = decV (l.take j) * 10 + ((l[j].toNat : Int) - 48)) := ⟨by rw [take_snoc8 _ j hlt, decV_snoc]; omega⟩
      have hv0 := (decV_bd (HDG.out.take j)).1
      have hlv : (rep (decV (l.take j))).length ≤ 1000 := Nat.le_trans (rep_length_le (decV_lt_pw (HDG.out.take j))) (by rw [List.length_take]; omega)
      have hmul := rep_length_le (z := decV (l.take j) * 10) (n := 1001) (by
        have h1 := decV_lt_pw (HDG.out.take j)
        have h2 := pw_mono (show (l.take j).length ≤ 1000 by rw [List.length_take]; omega)
        rw [pw_succ]; omega)
      generalize l[j] = b at *
      generalize hze : decV (l.take j) = v at *
      have HVR := Asd.mk (val_rep hv0)
      have HVR2 := Asd.mk (val_rep (show 0 ≤ v * 10 by omega))
      obtain ⟨d, hd⟩ : ∃ d : Int, (b.toNat : Int) - 48 = d := ⟨_, rfl⟩
      have hd0 : 0 ≤ d := by omega
      have hd1 : d < 4294967296 := by omega
      have hw : IntKind.u32.wrap ((b.toNat : Int) - 48) = d := by rw [hd]; exact IntWalk.u32_in _ (by omega)
      have hw2 : IntKind.u32.wrap (b.toNat : Int) = (b.toNat : Int) := IntWalk.u32_in _ (by omega)
      rw [hd] at HN
      have HA0 := Asd.mk (HA.out.mono (ok' := fun _ => True) (fun _ _ _ => trivial))
      clear hd hb1 hze
      have hj0 : (0 : Int) ≤ (j : Int) := by omega
      have hj1 : (j : Int) < (l.length : Int) := by omega
      have hwb := HB.out.size
      have h1 := rd_single wr (x := 10) (by decide) (by decide)
      have h3x := rd_single wr hd0 hd1
      have h2x := rd_single (wr.alloc (.cells #[.int .u32 10] 84)) hd0 hd1
      have h3t := rd_single (wr.alloc (.cells #[.int .u32 d] 84)) (x := 10) (by decide) (by decide)
      simp only [World.size_alloc] at h2x h3t
      have H1 := Asd.mk h1; have H3x := Asd.mk h3x; have H2x := Asd.mk h2x; have H3t := Asd.mk h3t
      clear h1 h3x h2x h3t
      go_wp2_with fail
      go_region_with (first
        | (go_at_call 48; first
            | (have hm := ref04_Mul _ _ A1 _ c1 1 (rep v) [10] _ ((HA0.out.alloc (.cells #[.int .u32 10] 84)).drew) hc1 (H1.out.drew) (by decide) (by omega) (by decide); rw [HVR.out, val_one, List.length_singleton] at hm; (with_reducible refine hm.mono ?_); rintro e w2 ⟨S1, k1, rfl, hk1, hs1, hb2⟩; have hbm : Below wr.heap.size wr w2 := below_go (below_drewN ((Below.refl wr.heap.size wr).alloc (Nat.le_refl _) _) 1) hb2)
            | (have hm := ref04_Mul _ _ A1 _ c1 1 (rep v) [10] _ (((HA0.out.alloc (.cells #[.int .u32 10] 84)).alloc (.cells #[.int .u32 d] 84)).drew) hc1 ((H1.out.alloc (.cells #[.int .u32 d] 84)).drew) (by decide) (by omega) (by decide); rw [HVR.out, val_one, List.length_singleton] at hm; (with_reducible refine hm.mono ?_); rintro e w2 ⟨S1, k1, rfl, hk1, hs1, hb2⟩; have hbm : Below wr.heap.size wr w2 := below_go (below_drewN (((Below.refl wr.heap.size wr).alloc (Nat.le_refl _) _).alloc (by simp) _) 1) hb2; have hxx := H2x.out.drew.below hb2)
            | (have hm := ref04_Mul _ _ A1 _ c1 1 (rep v) [10] _ (((HA0.out.alloc (.cells #[.int .u32 d] 84)).alloc (.cells #[.int .u32 10] 84)).drew) hc1 (H3t.out.drew) (by decide) (by omega) (by decide); rw [HVR.out, val_one, List.length_singleton] at hm; (with_reducible refine hm.mono ?_); rintro e w2 ⟨S1, k1, rfl, hk1, hs1, hb2⟩; have hbm : Below wr.heap.size wr w2 := below_go (below_drewN (((Below.refl wr.heap.size wr).alloc (Nat.le_refl _) _).alloc (by simp) _) 1) hb2; have hxx := (H3x.out.alloc (.cells #[.int .u32 10] 84)).drew.below hb2))
        | (go_at_call 44; first
            | (have hm := ref02_Add _ _ S1 _ k1 1 (rep (v * 10)) [d] _ (hs1.alloc (.cells #[.int .u32 d] 84)) hk1 (rd_single w2 hd0 hd1) (by simp) (by omega) (by simp); rw [HVR2.out, val_one, List.length_singleton] at hm; (with_reducible refine hm.mono ?_); rintro e w3 ⟨S2, k2, rfl, hk2, hs2, hb3⟩; have hbn : Below wr.heap.size wr w3 := below_go (hbm.alloc hbm.size _) hb3)
            | (have hm := ref02_Add _ _ S1 _ k1 1 (rep (v * 10)) [d] _ (hs1) hk1 (hxx) (by simp) (by omega) (by simp); rw [HVR2.out, val_one, List.length_singleton] at hm; (with_reducible refine hm.mono ?_); rintro e w3 ⟨S2, k2, rfl, hk2, hs2, hb3⟩; have hbn : Below wr.heap.size wr w3 := below_go hbm hb3)))
      all_goals
        go_wp2
        go_roundw
        case rel =>
          exact ⟨j + 1, S2, k2, by omega, by go_num, by rw [HN.out], by rw [HN.out]; exact hk2, ⟨by rw [HN.out]; exact hs2.mono (fun k _ hk => by first | (simp at hk; have := hbm.size; omega) | (have := hbm.size; omega))⟩, ⟨below_go HB.out hbn⟩⟩
        case measure => simp [intOf]; omega
    · have hjl : j = l.length := by omega
      subst hjl
      rw [List.take_of_length_le (Nat.le_refl _)] at HA hc1 ⊢
      go_wp2
      go_ret
      exact ⟨A1, c1, rfl, hc1, HA.out, HB.out⟩
end Go.Proofs.YthjpkichpkomcaaDoor
