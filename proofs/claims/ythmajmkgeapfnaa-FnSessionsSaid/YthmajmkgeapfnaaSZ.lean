/- The sizes of two closed texts. No conditions. -/
import Derived.Test.YthmajmkgeapfnaaProg
namespace Go.Proofs.Ythmajmkgeapfnaa.A
theorem size58:(⟨#[58]⟩:ByteArray).size=1:=rfl
theorem size32:(⟨#[32]⟩:ByteArray).size=1:=rfl
end Go.Proofs.Ythmajmkgeapfnaa.A
