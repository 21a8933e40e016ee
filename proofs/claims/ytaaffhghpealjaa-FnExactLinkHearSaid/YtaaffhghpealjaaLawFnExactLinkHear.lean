/- The row of the law FnExactLinkHear: it returns true for every input, and each argument reads behind the call as it read before. No conditions. -/
import Derived.Test.YtaaffhghpealjaaRows
import Derived.Test.YtaaffhghpealjaaQFnExactLinkHear
import Derived.Test.YtaaffhghpealjaaR
import Derived.WalkKit
import Derived.ProofKit
import Derived.OpenShut
import Derived.ShutString
import Derived.ChangeOld
import Derived.Below
import Derived.SizedLaws
import Derived.Carry
namespace Go.Proofs.Ytaaffhghpealjaa.fnExactLinkHear
open Go.ChangeShapes Go.WideShapes Go.ChangeAt Go.RowKit Go.Proofs.Ytaaffhghpealjaa.A
open Go.ChangeMaps (open_string shut_string)
set_option linter.unusedVariables false
theorem own : ownKnob Try.prog.godebug = none := by kernel_rfl
theorem laidOut : laidOutB Try.prog = true := by kernel_rfl
set_option maxRecDepth 100000 in
theorem lifted (os : Os) (started : os.Started) (H : Type) (enc : TypeId × Value → H) :
    ReturnsInHanded {} Try.checked os 10 .any (Rows.fnExactLinkHearSpec.pre6 enc Try.prog Try.f10 Rows.fnExactLinkHearRow.domain false) (Rows.fnExactLinkHearSpec.post enc Try.prog Try.f10 false true false false) := by
  refine returnsInHanded_of_change_sized (C := Try.checked) own started (by kernel_rfl) Try.func10
    (ChangeSpec.witness6 (enc := enc) (C := Try.checked) false ⟨#[], #[.agg #[.int .i64 0, .slice none 0 0, .int .i64 0, .int .i64 0, .int .i64 0], .agg #[.int .i64 0, .int .i64 0, .string ByteArray.empty]], []⟩ 8 (by kernel_rfl) (by kernel_rfl) (by kernel_rfl) (by kernel_rfl)) ?_
  intro W base args ds gs before hval0 hW hcnd hsz0 _
  have hval : ∀ (j : Nat) t v, Try.f10.params[j]? = some t → args[j]? = some v → Value.okWide Try.prog W .any base t v := hval0
  have hW' := hW
  obtain ⟨p, q, hA0, hV, rfl, hfz, hnd⟩ := hW
  have hA : DataW.TrodAll enc Try.prog W 0 (fun _ => true) true Try.f10.params.toList args.toList ds p := hA0
  rw [Try.params10] at hA hval
  obtain ⟨v0, vs0, d0, ds0, p0, q0, hargs, rfl, rfl, h0, r0⟩ := trodAll_cons hA
  obtain ⟨v1, vs1, d1, ds1, p1, q1, rfl, rfl, rfl, h1, r1⟩ := trodAll_cons r0
  obtain ⟨rfl, rfl, rfl⟩ := trodAll_nil r1
  obtain rfl : args = #[v0, v1] := by cases args; simp_all
  obtain ⟨rfl, rfl⟩ := trodVars_none hV
  have lt0 : ∀ x ∈ p0, x.block < W.heap.size := by obtain ⟨m, hm⟩ := h0; exact DataW.trod_lt m _ _ _ hm
  obtain ⟨v0_0, v0_1, v0_2, v0_3, v0_4, y0_0, y0_1, y0_2, y0_3, y0_4, n0, rfl, t0_0, t0_1, t0_2, t0_3, t0_4⟩ := agg5 Try.underlying29 (by kernel_rfl) (by kernel_rfl) (hval 0 29 v0 rfl rfl) h0
  obtain ⟨a0_0, rfl, hw0_0⟩ := fld_int Try.underlying2 t0_0
  obtain ⟨A0_1, c0_1, l0_1, rfl, hr0_1, hc0_1, hm0_1, hs0_1⟩ := fld_strs Try.underlying22 Try.underlying9 (by kernel_rfl) t0_1
  obtain ⟨a0_2, rfl, hw0_2⟩ := fld_int Try.underlying2 t0_2
  obtain ⟨a0_3, rfl, hw0_3⟩ := fld_int Try.underlying2 t0_3
  obtain ⟨a0_4, rfl, hw0_4⟩ := fld_int Try.underlying2 t0_4
  have lt1 : ∀ x ∈ p1, x.block < W.heap.size := by obtain ⟨m, hm⟩ := h1; exact DataW.trod_lt m _ _ _ hm
  obtain ⟨v1_0, v1_1, v1_2, y1_0, y1_1, y1_2, n1, rfl, t1_0, t1_1, t1_2⟩ := agg3 Try.underlying35 (by kernel_rfl) (by kernel_rfl) (hval 1 35 v1 rfl rfl) h1
  obtain ⟨a1_0, rfl, hw1_0⟩ := fld_int Try.underlying2 t1_0
  obtain ⟨a1_1, rfl, hw1_1⟩ := fld_int Try.underlying2 t1_1
  obtain ⟨a1_2, rfl, hs1_2⟩ := fld_str Try.underlying9 t1_2
  clear hA0 hval0 hsz0
  refine (FnExactLinkHear.walk a0_0 A0_1 c0_1 l0_1 a0_2 a0_3 a0_4 a1_0 a1_1 a1_2 W hw0_0 hr0_1 hc0_1 hm0_1 hs0_1 hw0_2 hw0_3 hw0_4 hw1_0 hw1_1 hs1_2).mono fun e W' ⟨he, bel⟩ => ?_
  subst he
  exact ⟨_, rfl, _, _, _, [], _, [], hW', trodAll_mk1 (shut_bool Try.underlying4 _), (trodAll_cons_mk (Below.trod laidOut (by kernel_rfl) (of_decide_eq_true (by kernel_rfl)) h0 bel lt0) (trodAll_cons_mk (Below.trod laidOut (by kernel_rfl) (of_decide_eq_true (by kernel_rfl)) h1 bel lt1) trodAll_mk0)), rfl, bel.frame _, fun h => by cases h⟩
theorem over : Rows.fnExactLinkHearRow.holds Try.pinned (OpenSpec.ofChange Rows.fnExactLinkHearSpec) :=
  OpenClaim.holds_of_wide 10 Try.f10 rfl rfl rfl rfl rfl rfl rfl ⟨rfl, rfl, rfl, rfl, rfl⟩ rfl rfl rfl rfl rfl (by kernel_rfl) Try.func10 (by kernel_rfl)
    (of_decide_eq_true (by kernel_rfl)) (by unfold Func.isWrapper; first | (rw [if_pos (by decide +kernel)]; kernel_rfl) | (rw [if_neg (by decide +kernel)]; exact ⟨rfl, rfl⟩))
    (fun os started H enc _ => lifted os started H enc)
theorem proved : Rows.FnExactLinkHearSaid := over
#print axioms proved
end Go.Proofs.Ytaaffhghpealjaa.fnExactLinkHear
namespace Go.Proofs.Ytaaffhghpealjaa
/-- The row, under a short name, for the claim. -/
theorem fnExactLinkHear_holds : Rows.FnExactLinkHearSaid := fnExactLinkHear.proved
end Go.Proofs.Ytaaffhghpealjaa
