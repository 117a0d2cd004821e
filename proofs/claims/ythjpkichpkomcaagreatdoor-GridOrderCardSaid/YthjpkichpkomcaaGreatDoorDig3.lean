/- Layer 7: the first wrong place of a text (digits.wrong); digits.Read at a wrong one. -/
import Derived.Test.YthjpkichpkomcaaGreatDoorDig2
import Derived.Outline
import Derived.WalkLawsBesides
namespace Go.Proofs.YthjpkichpkomcaaGreatDoor
open Go.RowKit Go.Proofs.YthjpkichpkomcaaGreatDoor.Big
set_option linter.unusedVariables false
set_option maxRecDepth 100000

/-- Is the i-th byte none of a digit, or one too many? -/
def badAt (l : List UInt8) (i : Nat) : Bool := decide ((l.getD i 0).toNat < 48) || decide (57 < (l.getD i 0).toNat) || decide (i = 60)
/-- The first place at which there is no digit, or one too many; below 0: there is none. -/
def wrongI (l : List UInt8) : Int := match (List.range l.length).find? (badAt l) with | some i => i | none => if l = [] then 0 else -1

theorem wrongI_bad {l : List UInt8} {k : Nat} (h : ∀ j, j < k → badAt l j = false) (hk : k < l.length) (hb : badAt l k = true) : wrongI l = k := by
  have : (List.range l.length).find? (badAt l) = some k := by
    rw [List.find?_range_eq_some]
    exact ⟨hb, List.mem_range.mpr hk, fun j hj => by rw [h j hj]; rfl⟩
  unfold wrongI; rw [this]
theorem wrongI_good {l : List UInt8} (h : ∀ j, j < l.length → badAt l j = false) : wrongI l = if l = [] then 0 else -1 := by
  have : (List.range l.length).find? (badAt l) = none := by
    rw [List.find?_range_eq_none]
    exact fun j hj => by rw [h j hj]; rfl
  unfold wrongI; rw [this]
theorem wrongI_le (l : List UInt8) : wrongI l ≤ l.length := by
  unfold wrongI
  split
  · rename_i i h
    have := List.mem_of_find?_eq_some h
    simp at this; omega
  · split <;> omega
theorem badAt_eq (l : List UInt8) (k : Nat) (x : UInt8) (hx : l[k]? = some x) : badAt l k = (decide ((x.toNat : Int) < 48) || decide (57 < (x.toNat : Int)) || decide ((k : Int) = 60)) := by
  unfold badAt
  rw [List.getD_eq_getElem?_getD, hx]
  simp only [Option.getD_some]
  congr 1
  · congr 1 <;> exact decide_eq_decide.mpr (by omega)
  · exact decide_eq_decide.mpr (by omega)

set_option maxHeartbeats 1000000 in
theorem digits_wrong (l : List UInt8) (hl : l.length < 1000000000000) (w : World) : Calls Tryz.prog 170 #[.string ⟨l.toArray⟩] w fun e w' => e = .returned (.int .i64 (wrongI l)) ∧ w' = w := by
  have hsz : (⟨l.toArray⟩ : ByteArray).size = l.length := by simp [ByteArray.size]
  go_enter Tryz.func170, Tryz.ntmps170
  go_wp2
  go_loop [6] (fun i => ∃ k : Nat, k ≤ l.length ∧ i = .int .i64 k ∧ Asd (∀ j, j < k → badAt l j = false)) (fun i => l.length - (intOf i).toNat)
  case atStart => exact ⟨0, by omega, rfl, ⟨fun j hj => by omega⟩⟩
  case round =>
    obtain ⟨k, hk, rfl, HA⟩ := hrel
    by_cases hlt : k < l.length
    · have HBE := badAt_eq l k l[k] (List.getElem?_eq_getElem hlt)
      have HX : (⟨l.toArray⟩ : ByteArray)[k]'(by rw [hsz]; exact hlt) = l[k] := rfl
      go_wp2
      case roundEnd =>
        rename_i h1 h2 h3
        refine ⟨⟨k + 1, hlt, by go_num, ⟨fun j hj => ?_⟩⟩, by simp [intOf]; omega⟩
        rcases Nat.lt_or_eq_of_le (Nat.le_of_lt_succ hj) with h | rfl
        · exact HA.out j h
        · rw [HBE]
          simp at h3 ⊢
          omega
      all_goals
        go_ret
        refine ⟨?_, rfl⟩
        rw [wrongI_bad HA.out hlt ?_]
        · rfl
        · rw [HBE]
          simp only [Bool.or_eq_true, decide_eq_true_eq]
          try simp only [beq_iff_eq] at *
          first | assumption | omega
    · have hkl : k = l.length := by omega
      subst hkl
      have HG := Asd.mk (wrongI_good HA.out)
      clear HA
      by_cases hnil : l = []
      · subst hnil
        go_wp2
        go_ret
        exact ⟨by rw [HG.out]; rfl, rfl⟩
      · have hne : l.isEmpty = false := by cases l <;> simp_all
        have hG2 : wrongI l = -1 := by rw [HG.out, if_neg hnil]
        go_wp2
        all_goals go_ret
        all_goals exact ⟨rfl, rfl⟩

theorem ret_tmp_blk {fn : Func} {p s : Tmp} {ty : TypeId} {v : Value} {tmps : Array Value} {w : World} {g : Nat} {vs : List Value} {fs} (h : fn.results = #[.tmp s, .cell p ty]) (hs : tmps.getD s undef = v) (hp : tmps.getD p undef = .pointer (some ⟨g, 0, none⟩)) (hb : Blk w g vs)
    (hu : Tryz.prog.underlying ty = some (.struct fs)) (hi : (Tryz.prog.info? ty).map (·.size) = some vs.length) : (results fn tmps).run Tryz.prog w = .ok (.tuple #[v, .agg vs.toArray]) w := by
  obtain ⟨t, hg⟩ := hb
  have e1 := run_loadVar_row w g t ty _ _ _ hg hu rfl (by simpa using hi)
  have hp2 : tmps[p]?.getD undef = .pointer (some ⟨g, 0, none⟩) := by simpa using hp
  have hs2 : tmps[s]?.getD undef = v := by simpa using hs
  simp [results, h, hp2, hs2, asAddr, e1]

set_option maxHeartbeats 1000000 in
theorem digits_Read_no (l : List UInt8) (hl : l.length < 1000000000000) (hb : 0 ≤ wrongI l) (w : World) : Calls Tryz.prog 124 #[.string ⟨l.toArray⟩] w fun e w' => e = .returned (.tuple #[.slice none 0 0, .agg #[.int .i64 1, .int .i64 0, .int .i64 0, .int .i64 (wrongI l)]]) ∧ Below w.heap.size w w' := by
  have hd : decide (0 ≤ wrongI l) = true := decide_eq_true hb
  go_enter Tryz.func124, Tryz.ntmps124
  go_wp2_with fail
  refine (digits_wrong l hl _).mono ?_
  rintro e w1 ⟨rfl, rfl⟩
  generalize hr : wrongI l = r at *
  go_wp2
  refine bodyPost_ret (ret_tmp_blk rfl rfl rfl (Blk.new w [.int .i64 1, .int .i64 0, .int .i64 0, .int .i64 r] 35) Tryz.underlying35 (by kernel_rfl)) rfl ?_
  rw [hr]
  exact ⟨rfl, (Below.refl _ _).alloc (Nat.le_refl _) _⟩
end Go.Proofs.YthjpkichpkomcaaGreatDoor
