/- DeskWords: the program's fourteen words are the reference's, and the answer is new memory. No condition. -/
import Derived.Test.YtdobclaiebcmdaaPFnExactDeskWordsx1
import Derived.KernelRfl
namespace Go.Proofs.Ytdobclaiebcmdaa.Pure
open Go.RowKit Go.Proofs.Ytdobclaiebcmdaa.PFnExactDeskWords Go.Proofs.YtdobclaiebcmdaaW.PrintWords Go.Proofs.YtdobclaiebcmdaaW.PrintLast

theorem FnExactDeskWords : laws_FnExactDeskWords.Pure := ⟨40, by kernel_rfl⟩

end Go.Proofs.Ytdobclaiebcmdaa.Pure
