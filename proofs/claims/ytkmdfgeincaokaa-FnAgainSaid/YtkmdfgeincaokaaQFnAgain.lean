/- FnAgain: that its plain function tells true, and that a call of it comes to true. Conditions: its arguments read as named. -/
import Derived.Test.YtkmdfgeincaokaaAD
import Derived.Test.YtkmdfgeincaokaaF10
import Derived.Test.YtkmdfgeincaokaaF36
import Derived.Test.YtkmdfgeincaokaaF21
import Derived.Test.YtkmdfgeincaokaaF22
namespace Go.Proofs.Ytkmdfgeincaokaa.A
open Go.RowKit Go.Proofs.YtkmdfgeincaokaaW.PrintWords Go.Proofs.YtkmdfgeincaokaaW.PrintLast Go.Proofs.YtkmdfgeincaokaaW.PrintMore
theorem lw_loop (l : List ByteArray) (hm : l.length ≤ 1048576) (d : Nat) : ∀ i : Nat, i + d = l.length → Ev (fun k => laws_lwTexts.l0 k l l (i : Int)) true := by
  induction d with
  | zero => intro i hi; exact evOne fun k => by simp only [laws_lwTexts.l0]; rw [if_neg (by omega)]
  | succ d ih =>
    intro i hi
    refine evStep (f := fun k => laws_lwTexts.l0 k l l ((i + 1 : Nat) : Int)) (fun k => ?_) (ih (i + 1) (by omega))
    simp only [laws_lwTexts.l0]
    rw [if_pos (by omega), if_pos (by omega), if_pos (by omega), if_pos trivial, w64 (by omega) (by omega)]
    rfl
theorem lw_texts (l : List ByteArray) (hm : l.length ≤ 1048576) : Ev (fun k => laws_lwTexts.f k l l) true := evEq (fun k => by unfold laws_lwTexts.f; rw [if_pos rfl]; rfl) (lw_loop l hm l.length 0 (by omega))
theorem lw_again (s : Int) (l : List ByteArray) (g : Int) (t : List ByteArray) (c : Int) (hm : l.length ≤ 1048576) (ht : t.length ≤ 1048576) (hc : c = 0 → aok s l g = true) : Ev (fun k => laws_lwAgain.f k s l g t c s l g t c) true := by
  refine evEq (fun k => by unfold laws_lwAgain.f; rw [if_pos rfl, if_pos rfl, if_pos rfl]) ?_
  refine evBind (lw_texts l hm) ?_
  refine evEq (fun k => by rw [if_pos rfl]) ?_
  refine evBind (lw_texts t ht) ?_
  refine evEq (fun k => by rw [if_pos rfl]) ?_
  by_cases h : c = 0
  · refine evEq (fun k => by rw [if_pos h]) ?_
    have hr := right_spec s l g (by omega)
    rw [hc h] at hr
    exact evBind hr (evNow fun k => rfl)
  · exact evNow fun k => by rw [if_neg h]
def lostV (s : Int) (l : List ByteArray) (g : Int) : Int := if aok s l g = true then l.length else 0
theorem lost_impl (s : Int) (l : List ByteArray) (g : Int) (hm : l.length ≤ 1048576) : Ev (fun k => impl_AgainLost.f k s l g) (lostV s l g) := by
  refine evBind (right_impl s l g (by omega)) ?_
  unfold lostV
  exact evNow fun k => by split <;> rfl
theorem lost_spec (s : Int) (l : List ByteArray) (g : Int) (hm : l.length ≤ 1048576) : Ev (fun k => spec_AgainLost.f k s l g) (lostV s l g) := by
  refine evBind (right_spec s l g (by omega)) ?_
  unfold lostV
  exact evNow fun k => by split <;> rfl
theorem FnAgain.tail (s : Int) (l : List ByteArray) (g : Int) (t : ByteArray) (hm : l.length ≤ 11) (a : Int) (b : List ByteArray) (c : Int) (d : List ByteArray) (e : Int) (hv : (a, b, c, d, e) = sendV s l g t) : Ev (fun k => laws_FnAgain.j1 k false s l g a b c d e) true := by
  refine evStep (f := fun k => _) (fun k => by simp only [laws_FnAgain.j1]; rw [if_neg (show ¬ (false = true) by decide)]) ?_
  by_cases he : e = 0
  · have h0 : (sendV s l g t).2.2.2.2 = 0 := by rw [← hv]; exact he
    obtain ⟨h1, h2, h3, h4, h5⟩ := send_ok h0
    have hr := send_right h0
    rw [← hv] at h5 hr
    simp only at hr
    simp only [Prod.mk.injEq] at h5
    obtain ⟨r1, r2, r3, _, _⟩ := h5
    have hb := aok_g h1
    have hbl : b.length = l.length + 1 := by rw [r2]; simp
    refine evEq (fun k => by rw [if_pos he]) ?_
    refine evBind (ack_impl a b c a (by omega)) ?_
    refine evBind (lost_impl a b c (by omega)) ?_
    refine evBind (lost_impl s l g (by omega)) ?_
    have e1 : lostV a b c = wrap64 (lostV s l g + 1) := by
      unfold lostV
      rw [if_pos hr, if_pos h1, w64 (by omega) (by omega)]
      omega
    have hk : ackV a b c a = (a, [], c, [], 0) := by
      unfold ackV
      rw [if_pos hr, if_pos (by simp; omega)]
      have : b.drop (a - (a - (b.length : Int))).toNat = [] := List.drop_eq_nil_of_le (by omega)
      rw [this]
    refine evEq (fun k => by rw [if_pos e1, hk, if_pos rfl]) ?_
    refine evBind (lost_impl a [] c (by simp)) ?_
    refine evNow fun k => ?_
    have : lostV a [] c = 0 := by unfold lostV; split <;> rfl
    rw [this]
    rfl
  · exact evNow fun k => by rw [if_neg he]
theorem FnAgain.main (l0 l1 : List Int) (h0 : l0.length ≤ 1048576) (h1 : l1.length ≤ 1048576) : Ev (fun k => laws_FnAgain.j0 k l0 l1 false) true := by
  obtain ⟨s, l, g, t, e1, hl⟩ := draw_send l0 h0
  obtain ⟨s2, l2, g2, n2, e2, hl2⟩ := draw_ack l1 h1
  obtain ⟨s3, l3, g3, e3, hl3⟩ := draw_got l1 h1
  obtain ⟨s4, l4, g4, n4, e4, hl4⟩ := draw_resume l0 h0
  refine evStep (f := fun k => _) (fun k => by simp only [laws_FnAgain.j0]; rw [if_neg (show ¬ (false = true) by decide)]) ?_
  refine evBind e1 ?_
  refine evBind (send_impl s l g t (by omega)) ?_
  refine evBind e2 ?_
  refine evBind e3 ?_
  refine evBind e4 ?_
  refine evBind (send_spec s l g t (by omega)) ?_
  have z1 := sendV_len s l g t
  have y1 := @send_right s l g t
  generalize hv : sendV s l g t = v at z1 y1 ⊢
  obtain ⟨a, b, c, d, e⟩ := v
  simp only at z1 y1
  refine evBind (lw_again a b c d e (by omega) (by omega) y1) ?_
  refine evEq (fun k => by rw [if_pos rfl]) ?_
  refine evBind (ack_impl s2 l2 g2 n2 (by omega)) ?_
  refine evBind (ack_spec s2 l2 g2 n2 (by omega)) ?_
  have z2 := ackV_len s2 l2 g2 n2
  refine evBind (lw_again _ _ _ _ _ (by omega) (by omega) ack_right) ?_
  refine evEq (fun k => by rw [if_pos rfl]) ?_
  refine evBind (got_impl s3 l3 g3 (by omega)) ?_
  refine evBind (got_spec s3 l3 g3 (by omega)) ?_
  have z3 := gotV_len s3 l3 g3
  refine evBind (lw_again _ _ _ _ _ (by omega) (by omega) got_right) ?_
  refine evEq (fun k => by rw [if_pos rfl]) ?_
  refine evBind (res_impl s4 l4 g4 n4 (by omega)) ?_
  refine evBind (res_spec s4 l4 g4 n4 (by omega)) ?_
  have z4 := resV_len s4 l4 g4 n4
  refine evBind (lw_again _ _ _ _ _ (by omega) (by omega) (fun h => ack_right (s := s4) (l := l4) (g := g4) (n := n4) h)) ?_
  refine evEq (fun k => by rw [if_pos rfl]) ?_
  refine evBind (right_impl s4 l4 g4 (by omega)) ?_
  refine evBind (right_spec s4 l4 g4 (by omega)) ?_
  refine evEq (fun k => by rw [if_neg (by simp)]) ?_
  refine evBind (lost_impl s4 l4 g4 (by omega)) ?_
  refine evBind (lost_spec s4 l4 g4 (by omega)) ?_
  refine evEq (fun k => by rw [bne_self_eq_false]) ?_
  exact FnAgain.tail s l g t hl a b c d e hv.symm
theorem FnAgain.pure (l0 l1 : List Int) : Ev (fun k => laws_FnAgain.f k l0 l1) true := by
  by_cases h0 : (l0.length : Int) > 1048576
  · exact evOne fun k => by unfold laws_FnAgain.f; rw [if_pos h0]; simp only [laws_FnAgain.j0]; rfl
  · by_cases h1 : (l1.length : Int) > 1048576
    · exact evOne fun k => by unfold laws_FnAgain.f; rw [if_neg h0, decide_eq_true h1]; simp only [laws_FnAgain.j0]; rfl
    · exact evEq (fun k => by unfold laws_FnAgain.f; rw [if_neg h0, decide_eq_false h1]) (FnAgain.main l0 l1 (by omega) (by omega))
end Go.Proofs.Ytkmdfgeincaokaa.A
namespace Go.Proofs.Ytkmdfgeincaokaa
open Go.Proofs.Ytkmdfgeincaokaa.A Go.RowKit Go.Proofs.YtkmdfgeincaokaaW.PrintWords
theorem FnAgain.walk (A0 : Option Addr) (c0 : Nat) (l0 : List Int) (A1 : Option Addr) (c1 : Nat) (l1 : List Int) (w : World) (hr0 : Kd.C (Kd.int .u8) w A0 l0.length l0) (hc0 : l0.length ≤ c0) (_hm0 : l0.length ≤ 9223372036854775807) (_hs0 : ∀ x ∈ l0, 0 ≤ x ∧ x ≤ 255) (hr1 : Kd.C (Kd.int .u8) w A1 l1.length l1) (hc1 : l1.length ≤ c1) (_hm1 : l1.length ≤ 9223372036854775807) (_hs1 : ∀ x ∈ l1, 0 ≤ x ∧ x ≤ 255) :
    Calls Try.prog 10 #[.slice A0 l0.length c0, .slice A1 l1.length c1] w fun e w' => e = .returned (.bool true) ∧ Below w.heap.size w w' := by
  obtain ⟨K, hK⟩ := FnAgain.pure l0 l1
  exact laws_FnAgain.calls K A0 c0 l0 A1 c1 l1 w hr0 hc0 hr1 hc1 (hK K (Nat.le_refl _))
end Go.Proofs.Ytkmdfgeincaokaa
