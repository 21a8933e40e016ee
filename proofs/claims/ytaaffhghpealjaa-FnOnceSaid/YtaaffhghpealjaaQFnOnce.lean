/- FnOnce: that a call of it comes to true. Conditions: its arguments read as named. -/
import Derived.Test.YtaaffhghpealjaaON
import Derived.Test.YtaaffhghpealjaaF6
namespace Go.Proofs.Ytaaffhghpealjaa
open Go.Proofs.Ytaaffhghpealjaa.A Go.RowKit Go.Proofs.YtaaffhghpealjaaW.PrintWords
theorem FnOnce.walk (A0 : Option Addr) (c0 : Nat) (l0 : List Int) (A1 : Option Addr) (c1 : Nat) (l1 : List Int) (w : World) (hr0 : Kd.C (Kd.int .u8) w A0 l0.length l0) (hc0 : l0.length ≤ c0) (_hm0 : l0.length ≤ 9223372036854775807) (_hs0 : ∀ x ∈ l0, 0 ≤ x ∧ x ≤ 255) (hr1 : Kd.C (Kd.int .u8) w A1 l1.length l1) (hc1 : l1.length ≤ c1) (_hm1 : l1.length ≤ 9223372036854775807) (_hs1 : ∀ x ∈ l1, 0 ≤ x ∧ x ≤ 255) :
    Calls Try.prog 6 #[.slice A0 l0.length c0, .slice A1 l1.length c1] w fun e w' => e = .returned (.bool true) ∧ Below w.heap.size w w' := by
  obtain ⟨K, hK⟩ := FnOnce.pure l0 l1
  exact laws_FnOnce.calls K A0 c0 l0 A1 c1 l1 w hr0 hc0 hr1 hc1 (hK K (Nat.le_refl _))
end Go.Proofs.Ytaaffhghpealjaa
