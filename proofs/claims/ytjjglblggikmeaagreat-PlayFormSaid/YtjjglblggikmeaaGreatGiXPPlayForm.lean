/- part 11 -/
import Derived.Test.YtjjglblggikmeaaGreatGiXR
import Derived.Test.YtjjglblggikmeaaGreatGiPPlayForm
namespace Go.Ab.Gi
theorem pure_girolaw26_PlayForm (d : AD as_girolaw26_PlayForm) (_hd : WfL _ d) (hb : d.2.2.1.length ≤ 140737488355328) : ∃ k, girolaw26_PlayForm k d.1 d.2.1 d.2.2.1 = some true := by
  obtain ⟨k, h⟩ := play_form d.1 d.2.1 d.2.2.1
  exact ⟨k, h hb⟩
end Go.Ab.Gi
