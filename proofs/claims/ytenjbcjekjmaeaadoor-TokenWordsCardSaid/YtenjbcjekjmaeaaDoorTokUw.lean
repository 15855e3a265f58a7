/- The pure law of TokenWords: Keyword tells the reference's keywords. No condition. -/
import Derived.Test.YtenjbcjekjmaeaaDoorTokU
import Derived.Test.YtenjbcjekjmaeaaDoorPTokE
namespace Go.Proofs.YtenjbcjekjmaeaaDoor.PTok
open Go.RowKit Go.Proofs.YtenjbcjekjmaeaaDoor.Ext Go.Proofs.YtenjbcjekjmaeaaDoorW.PrintWords
set_option linter.unusedVariables false
set_option linter.unusedSimpArgs false

theorem TokenWords : cellarerlaw13_TokenWords.Pure := by
  intro s hs0
  refine Ev.rounds (r := true) ?_
  unfold cellarerlaw13_TokenWords.f
  refine Ev.bind awake_ev ?_
  refine Ev.congr (fun k => if_pos rfl) ?_
  by_cases hs : (s.size : Int) > 100
  · exact Ev.congr (f := fun _ => some true) (fun k => if_pos hs) (Ev.now _)
  · refine Ev.congr (fun k => if_neg hs) ?_
    refine Ev.congr (f := fun k => (cellarerref13_Keyword.f k s).bind fun t303 => some (kws.contains (lst s) == t303)) (fun k => ?_) (Ev.bind (rkw_ev s) (Ev.congr (f := fun _ => some true) (fun k => by simp) (Ev.now _)))
    rw [keyword_eq]
    rfl
end Go.Proofs.YtenjbcjekjmaeaaDoor.PTok
