/- HourTold. -/
import Derived.Test.YtdlamiafpciphaaGiPTold
set_option linter.unusedVariables false
set_option linter.unusedSimpArgs false
namespace Go.Ab.Gi
open Go.Ab

theorem known22' : girolaw22_known 200 = some true := by kernel_rfl

theorem hourTold (l : List PayT) : girolaw22_HourTold 200 l = some true := by
  unfold girolaw22_HourTold
  cases h60 : decide ((l.length : Int) > 60) with
  | true => rfl
  | false =>
    have hl : l.length ≤ 60 := by simp at h60; omega
    have hlen := toldL_length l
    rw [hour_Told_eq (by omega) (by omega), giroref22_Told_eq (by omega) (by omega)]
    simp only [cond_false, Option.bind_some]
    rw [giroref3_Outs_eq (by omega) (by omega)]
    simp only [Option.bind_some, decide_true, cond_true, known22']
end Go.Ab.Gi
