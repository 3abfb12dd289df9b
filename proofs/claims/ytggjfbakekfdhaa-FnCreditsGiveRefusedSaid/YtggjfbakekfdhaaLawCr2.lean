/- What the laws on asking and giving need. -/
import Derived.Test.YtggjfbakekfdhaaLawCr
import Derived.Test.YtggjfbakekfdhaaDrawCr4
import Derived.Test.YtggjfbakekfdhaaCr16
namespace Go.Proofs.Ytggjfbakekfdhaa
open Go.RowKit Go.Sort
theorem ask_fit {fs : List Int} {hs : List (List Int × Int)} (_ : FitCr fs hs) (s g : Int) : FitCr (askM fs hs s g).1 (askM fs hs s g).2 := by
  cases h : askOk fs hs s g
  · rw [(askM_bad h).1]; exact ⟨by simp, by simp, by simp⟩
  · exact (ask_valid h).fit
theorem give_fit {fs : List Int} {hs : List (List Int × Int)} (_ : FitCr fs hs) (s : Int) : FitCr (giveM fs hs s).1 (giveM fs hs s).2 := by
  cases h : giveOk fs hs s
  · rw [(giveM_bad h).1]; exact ⟨by simp, by simp, by simp⟩
  · exact (give_valid h).fit
end Go.Proofs.Ytggjfbakekfdhaa
