import Derived.Test.YtaaffhghpealjaaPFnExactLinkNewx2
namespace Go.Proofs.Ytaaffhghpealjaa.Pure
open Go.RowKit Go.Proofs.Ytaaffhghpealjaa.PFnExactLinkNew Go.Proofs.YtaaffhghpealjaaW.PrintWords Go.Proofs.YtaaffhghpealjaaW.PrintLast

/-- YOURS: ∃ k, laws_FnExactLinkNew.f k  = some true
What it reaches (each with k first where it has rounds; `.mono`: more rounds tell the same; `.l0`, ..: its loops, with `.mono_l`): spec_LinkNew.f, impl_LinkNew.f, laws_eqStringS.f, laws_eqLink.f, laws_markText.f, laws_markStringS.f, laws_markLink.f, laws_heldStringS.f, laws_heldLink.f, laws_FnExactLinkNew.f -/
theorem FnExactLinkNew : laws_FnExactLinkNew.Pure := by
  exact ⟨8, by kernel_rfl⟩

end Go.Proofs.Ytaaffhghpealjaa.Pure
