/- Results: a struct, and a plain value. -/
import Derived.Test.YthjpkichpkomcaaGreatDoorVoc
namespace Go.Proofs.YthjpkichpkomcaaGreatDoor
open Go.RowKit Go.Proofs.YthjpkichpkomcaaGreatDoor.Big
set_option linter.unusedVariables false

theorem ret_blk_tmp {fn : Func} {p s : Tmp} {ty : TypeId} {v : Value} {tmps : Array Value} {w : World} {g : Nat} {vs : List Value} {fs} (h : fn.results = #[.cell p ty, .tmp s]) (hp : tmps.getD p undef = .pointer (some ⟨g, 0, none⟩)) (hs : tmps.getD s undef = v) (hb : Blk w g vs)
    (hu : Tryz.prog.underlying ty = some (.struct fs)) (hi : (Tryz.prog.info? ty).map (·.size) = some vs.length) : (results fn tmps).run Tryz.prog w = .ok (.tuple #[.agg vs.toArray, v]) w := by
  obtain ⟨t, hg⟩ := hb
  have e1 := run_loadVar_row w g t ty _ _ _ hg hu rfl (by simpa using hi)
  have hp2 : tmps[p]?.getD undef = .pointer (some ⟨g, 0, none⟩) := by simpa using hp
  have hs2 : tmps[s]?.getD undef = v := by simpa using hs
  simp [results, h, hp2, hs2, asAddr, e1]

end Go.Proofs.YthjpkichpkomcaaGreatDoor
