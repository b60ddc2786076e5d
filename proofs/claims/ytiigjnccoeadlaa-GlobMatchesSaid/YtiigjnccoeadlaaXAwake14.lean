/- Plain: the chapter's examples. -/
import Derived.Test.YtiigjnccoeadlaaPAfremoralaw14awake
import Derived.Test.YtiigjnccoeadlaaPAx0
import Derived.Test.YtiigjnccoeadlaaXHeadBase
import Derived.Test.YtiigjnccoeadlaaXMatchPure
import Derived.Test.YtiigjnccoeadlaaXglobCheck
import Derived.Test.YtiigjnccoeadlaaXglobMatch
import Derived.Test.YtiigjnccoeadlaaXremoraref14Check
import Derived.Test.YtiigjnccoeadlaaXremoraref14Match
namespace Go.Proofs.Ytiigjnccoeadlaa.PA
open Go.RowKit Go.Proofs.YtiigjnccoeadlaaW.PrintWords Go.Proofs.YtiigjnccoeadlaaW.PrintLast Go.Proofs.YtiigjnccoeadlaaW.PrintMore
attribute [local go_sem] max2_int min2_int max_two min_two max_three min_three max_four min_four
set_option linter.unusedVariables false
set_option linter.unusedSimpArgs false
theorem awake14 : remoralaw14_awake.f = some true := by kernel_rfl
theorem chk_f (s : ByteArray) (h : s.size < 1000000) : glob_Check.f s = some (chkO s) := by rw [glob_Check.f, if_pos h]
theorem rchk_f (s : ByteArray) (h : s.size < 1000000) : remoraref14_Check.f s = some (chkO s) := by rw [remoraref14_Check.f, if_pos h]
theorem mat_f (p s : ByteArray) (h : p.size < 1000000) (h2 : s.size < 1000000) : glob_Match.f p s = some (mO (patO p) s) := by rw [glob_Match.f, if_pos ⟨h, h2⟩]
theorem rmat_f (p s : ByteArray) (h : p.size < 1000000) (h2 : s.size < 1000000) : remoraref14_Match.f p s = some (mO (patO p) s) := by rw [remoraref14_Match.f, if_pos ⟨h, h2⟩]
end Go.Proofs.Ytiigjnccoeadlaa.PA
