/- FigE -/
import Derived.Test.YthjpkichpkomcaaGreatDoorBRowFigureNear40
/- Layer 10: figure.Read, whatever the text. -/
namespace Go.Proofs.YthjpkichpkomcaaGreatDoor
open Go.RowKit Go.Proofs.YthjpkichpkomcaaGreatDoor.Big
set_option linter.unusedVariables false

theorem figure_Read (l : List UInt8) (hl : l.length ≤ 1000) (w : World) : Calls Tryz.prog 16 #[.string ⟨l.toArray⟩] w (FgOut (readF l).1 (readF l).2.1 (readF l).2.2 w) := by
  by_cases hb : 0 ≤ wrongI (restOf (hd l))
  · have e : readF l = (0, 1, wrongI (restOf (hd l)) + (((hd l).length : Int) - ((restOf (hd l)).length : Int))) := by unfold readF; rw [if_pos hb]
    rw [e]
    by_cases hk : kc l < l.length
    · exact fig_Read_A1 l hl hk hb w
    · exact fig_Read_A2 l hl hk hb w
  · by_cases hk : kc l < l.length
    · by_cases ht : 0 ≤ wrongI (tl l)
      · have e : readF l = (0, 1, (kc l : Int) + 1 + wrongI (tl l)) := by unfold readF; rw [if_neg hb, if_neg (by omega), if_pos ht]
        rw [e]
        by_cases hs : l.getD (kc l) 0 = 47
        · exact fig_Read_C1 l hl hk (by omega) hs ht w
        · exact fig_Read_D1 l hl hk (by omega) hs ht w
      · by_cases hs : l.getD (kc l) 0 = 47
        · by_cases hz : decV (tl l) = 0
          · have e : readF l = (0, 2, (kc l : Int) + 1) := by unfold readF; rw [if_neg hb, if_neg (by omega), if_neg ht, if_pos hs, if_pos hz]
            rw [e]
            exact fig_Read_C2 l hl hk (by omega) hs (by omega) hz w
          · have e : readF l = (Rat.divInt (readV (hd l)) (decV (tl l)), 0, 0) := by unfold readF; rw [if_neg hb, if_neg (by omega), if_neg ht, if_pos hs, if_neg hz]
            rw [e]
            have := (decV_bd (digs_of_wrong (l := tl l) (by omega)).1).1
            exact fig_Read_C3 l hl hk (by omega) hs (by omega) (by omega) w
        · have e : readF l = (pointV (Lib.hasPrefix l [45]) (readV (hd l)) (tl l), 0, 0) := by unfold readF; rw [if_neg hb, if_neg (by omega), if_neg ht, if_neg hs]
          rw [e]
          exact fig_Read_D2 l hl hk (by omega) hs (by omega) w
    · have e : readF l = (((readV (hd l) : Int) : Rat), 0, 0) := by unfold readF; rw [if_neg hb, if_pos (by omega)]
      rw [e]
      exact fig_Read_B l hl hk (by omega) w
end Go.Proofs.YthjpkichpkomcaaGreatDoor
