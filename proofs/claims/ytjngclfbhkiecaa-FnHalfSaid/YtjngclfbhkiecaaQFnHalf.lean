/- FnHalf: that its plain function tells true, and that a call of it comes to true. Conditions: its arguments read as named. -/
import Derived.Test.YtjngclfbhkiecaaHE
import Derived.Test.YtjngclfbhkiecaaHF
import Derived.Test.YtjngclfbhkiecaaF5
namespace Go.Proofs.Ytjngclfbhkiecaa.A
open Go.RowKit Go.Proofs.YtjngclfbhkiecaaW.PrintWords Go.Proofs.YtjngclfbhkiecaaW.PrintLast Go.Proofs.YtjngclfbhkiecaaW.PrintMore
theorem FnHalf.pure (l q : List Int) : Ev (fun k => laws_FnHalf.f k l q) true := by
  by_cases h1 : (l.length : Int) > 1048576
  · exact evOne fun k => by unfold laws_FnHalf.f; rw [if_pos h1]; rfl
  · by_cases h2 : (q.length : Int) > 1048576
    · exact evOne fun k => by unfold laws_FnHalf.f; rw [if_neg h1, decide_eq_true h2]; rfl
    · refine evEq (fun k => by unfold laws_FnHalf.f; rw [if_neg h1, decide_eq_false h2]) ?_
      obtain ⟨a, b, c, d, e, x, hd1⟩ := drawSay_ok l (by omega)
      obtain ⟨ga, gb, gc, gd, ge, sx, sy, hd2⟩ := drawHear_ok q (by omega)
      obtain ⟨⟨v0, v1, v2, v3, v4, vl, vc⟩, hl, hp, hi, hs⟩ := sayOut_prop a b c d e x
      obtain ⟨⟨y0, y1, y2, y3, y4, yl, yc⟩, gl, gp, gi, gs⟩ := hearOut_prop ga gb gc gd ge sx sy
      have hl' : vl = [] ∨ ∃ z, vl = [z] := hl
      have gl' : yl = [] ∨ ∃ z, yl = [z] := gl
      refine evStep (f := fun k => _) (fun k => by simp only [laws_FnHalf.j0]; rw [if_neg (by decide)]) ?_
      refine evBind hd1 ?_
      refine evBind hi ?_
      refine evBind hd2 ?_
      refine evBind (evNow fun _ => gi) ?_
      refine evBind hs ?_
      refine evBind (lw_ok v0 v1 v2 v3 v4 vl vc hl') ?_
      refine evEq (fun k => by rw [if_pos rfl]) ?_
      refine evBind gs ?_
      refine evBind (lw_ok y0 y1 y2 y3 y4 yl yc gl') ?_
      refine evEq (fun k => by rw [if_pos rfl]) ?_
      obtain ⟨r, r1, r2⟩ := right_both ga gb gc gd ge
      refine evBind (evNow fun _ => r1) ?_
      refine evBind (evNow fun _ => r2) ?_
      have hy : (if yc = 0 then ((spec_HalfRight.f y0 y1 y2 y3 y4).bind fun t634 => (if t634 = true then (if (yl.length : Int) = 0 then (some (y0 == ga)) else (some false)) else (some false))) else some true) = some true := by
        by_cases hc : yc = 0
        · obtain ⟨p1, p2, p3⟩ := gp hc
          have p2' : yl = [] := p2
          have p3' : y0 = ga := p3
          rw [if_pos hc, right_iff.2 p1, Option.bind_some, if_pos rfl, p2', if_pos (by simp), p3']
          simp
        · rw [if_neg hc]
      refine evOne fun k => ?_
      simp only [laws_FnHalf.j1]
      rw [if_neg (by simp)]
      by_cases hc : vc = 0
      · obtain ⟨p1, ⟨z, p2, p3, p4⟩, p5⟩ := hp hc
        have p2' : vl = [z] := p2
        have p5' : a ≤ v0 := p5
        rw [if_pos hc, right_iff.2 p1, Option.bind_some, if_pos rfl, p2', if_pos (by simp), if_pos (by simp)]
        have ez : rd_T32 [z] 0 = z := rfl
        rw [ez, if_pos p3, if_neg (by omega), if_neg (by omega)]
        exact hy
      · rw [if_neg hc]
        exact hy
end Go.Proofs.Ytjngclfbhkiecaa.A
namespace Go.Proofs.Ytjngclfbhkiecaa
open Go.Proofs.Ytjngclfbhkiecaa.A Go.RowKit Go.Proofs.YtjngclfbhkiecaaW.PrintWords
theorem FnHalf.walk (A0 : Option Addr) (c0 : Nat) (l0 : List Int) (A1 : Option Addr) (c1 : Nat) (l1 : List Int) (w : World) (hr0 : Kd.C (Kd.int .u8) w A0 l0.length l0) (hc0 : l0.length ≤ c0) (_hm0 : l0.length ≤ 9223372036854775807) (_hs0 : ∀ x ∈ l0, 0 ≤ x ∧ x ≤ 255) (hr1 : Kd.C (Kd.int .u8) w A1 l1.length l1) (hc1 : l1.length ≤ c1) (_hm1 : l1.length ≤ 9223372036854775807) (_hs1 : ∀ x ∈ l1, 0 ≤ x ∧ x ≤ 255) :
    Calls Try.prog 5 #[.slice A0 l0.length c0, .slice A1 l1.length c1] w fun e w' => e = .returned (.bool true) ∧ Below w.heap.size w w' := by
  obtain ⟨K, hK⟩ := FnHalf.pure l0 l1
  exact laws_FnHalf.calls K A0 c0 l0 A1 c1 l1 w hr0 hc0 hr1 hc1 (hK K (Nat.le_refl _))
end Go.Proofs.Ytjngclfbhkiecaa
