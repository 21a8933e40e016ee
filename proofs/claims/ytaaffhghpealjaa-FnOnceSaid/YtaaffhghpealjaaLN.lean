/- Plain laws on one end of a link: the clock's test, the answer to what is ill. No conditions. -/
import Derived.Test.YtaaffhghpealjaaLF
import Derived.Test.YtaaffhghpealjaaF67
import Derived.Test.YtaaffhghpealjaaF71
namespace Go.Proofs.Ytaaffhghpealjaa.A
open Go.RowKit Go.Proofs.YtaaffhghpealjaaW.PrintWords Go.Proofs.YtaaffhghpealjaaW.PrintLast Go.Proofs.YtaaffhghpealjaaW.PrintMore
theorem now_impl (n : Int) : impl_isNow.f n = some (rg n 0 1000000) := by
  unfold impl_isNow.f
  rw [in_impl]
  rfl
theorem now_spec (n : Int) : spec_l13Now.f n = some (rg n 0 1000000) := by
  unfold spec_l13Now.f
  rw [in_spec]
  rfl
def ill (c : Int) : LO := (0, [], 0, 0, 0, [], (⟨#[]⟩ : ByteArray), c)
end Go.Proofs.Ytaaffhghpealjaa.A
