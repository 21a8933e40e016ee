/- Plain laws on one end of a link: what LinkPut tells. Conditions: lengths below 2^20. -/
import Derived.Test.YtaaffhghpealjaaLN
import Derived.Test.YtaaffhghpealjaaF27
import Derived.Test.YtaaffhghpealjaaF37
import Derived.Test.YtaaffhghpealjaaF65
namespace Go.Proofs.Ytaaffhghpealjaa.A
open Go.RowKit Go.Proofs.YtaaffhghpealjaaW.PrintWords Go.Proofs.YtaaffhghpealjaaW.PrintLast Go.Proofs.YtaaffhghpealjaaW.PrintMore
/-! ### put -/
def putV (b : Int) (l : List ByteArray) (d w e : Int) (t : ByteArray) (n : Int) : LO :=
  if (t.size : Int) > 20000 then ill 2 else if lok b l d w e && (tok t && rg n 0 1000000) then (if (l.length : Int) ≥ 12 ∨ b ≥ 999999988 then ill 9 else (b, l ++ [t], if l.length = 0 then n else d, if l.length = 0 then 1 else w, e, [], (⟨#[]⟩ : ByteArray), 0)) else ill 1
theorem istext_impl (t : ByteArray) : impl_isText.f t = some (tok t) := by
  have h := bad_impl t
  unfold impl_badText.f at h
  obtain ⟨x, hx, e⟩ := Option.bind_eq_some_iff.mp h
  have e' := Option.some.inj e
  rw [hx]
  cases x <;> cases hk : tok t <;> simp_all
theorem long_one (t : ByteArray) : Ev (fun k => impl_long.f k [t]) (decide ((t.size : Int) > 20000)) := by
  have h0 : rdOf ByteArray.empty [t] (0 : Int) = t := rfl
  by_cases h : (t.size : Int) > 20000
  · refine evOne fun k => ?_
    unfold impl_long.f
    simp only [impl_long.l0]
    rw [if_pos (by simp), if_pos (by omega), if_pos (by simp), h0, if_pos h, decide_eq_true h]
  · refine evStep (f := fun k => impl_long.l0 k [t] (([t] : List ByteArray).length : Int) 1) (fun k => ?_) (evOne fun k => ?_)
    · unfold impl_long.f
      simp only [impl_long.l0]
      rw [if_pos (by simp), if_pos (by omega), if_pos (by simp), h0, if_neg h, w64 (by omega) (by omega)]
      rfl
    · simp only [impl_long.l0]
      rw [if_neg (by simp), decide_eq_false h]
theorem put_impl (b : Int) (l : List ByteArray) (d w e : Int) (t : ByteArray) (n : Int) (hm : l.length ≤ 1048576) : Ev (fun k => impl_LinkPut.f k b l d w e t n) (putV b l d w e t n) := by
  refine evBind (long_one t) ?_
  unfold putV
  by_cases hl : (t.size : Int) > 20000
  · rw [if_pos hl]
    exact evNow fun k => by rw [if_pos (decide_eq_true hl)]; rfl
  · rw [if_neg hl]
    refine evEq (fun k => by rw [if_neg (by simp [hl])]) ?_
    refine evBind (right_impl b l d w e (by omega)) ?_
    cases hk : lok b l d w e with
    | false => exact evOne fun k => rfl
    | true =>
      refine evEq (fun k => by rw [if_pos rfl, istext_impl, Option.bind_some]) ?_
      cases ht : tok t with
      | false => exact evOne fun k => rfl
      | true =>
        refine evEq (fun k => by rw [if_pos rfl, now_impl, Option.bind_some]) ?_
        cases hn : rg n 0 1000000 with
        | false => exact evOne fun k => rfl
        | true =>
          have hh := lok_iff hk
          rw [if_pos (by rfl)]
          by_cases hf : (l.length : Int) ≥ 12 ∨ b ≥ 999999988
          · rw [if_pos hf]
            refine evStep (f := fun k => impl_LinkPut.j1 k t n true b l d w e) (fun k => ?_) (evOne fun k => rfl)
            simp only [impl_LinkPut.j0]
            rw [if_neg (by decide)]
            by_cases h12 : (l.length : Int) = 12
            · rw [if_pos h12]
            · rw [if_neg h12, show (b == 999999988) = true by simp; omega]
          · have h12 : ¬ (l.length : Int) = 12 := fun h => hf (.inl (by omega))
            have hb9 : (b == 999999988) = false := by simp; omega
            rw [if_neg hf]
            refine evStep (f := fun k => impl_LinkPut.j1 k t n false b l d w e) (fun k => ?_) (evOne fun k => ?_)
            · simp only [impl_LinkPut.j0]
              rw [if_neg (by decide), if_neg h12, hb9]
            · simp only [impl_LinkPut.j1]
              rw [if_neg (by decide), clone_link b l d w e (by omega)]
              simp only [Option.bind_some]
              rw [if_pos (by omega)]
              by_cases h0 : l.length = 0
              · rw [if_pos (by simp [h0]), if_pos h0, if_pos h0]
              · rw [if_neg (by simp; omega), if_neg h0, if_neg h0]
theorem put_spec (b : Int) (l : List ByteArray) (d w e : Int) (t : ByteArray) (n : Int) (hm : l.length ≤ 1048576) : Ev (fun k => spec_LinkPut.f k b l d w e t n) (putV b l d w e t n) := by
  unfold putV
  by_cases hl : (t.size : Int) > 20000
  · rw [if_pos hl]
    exact evNow fun k => by unfold spec_LinkPut.f; rw [if_pos hl]; rfl
  · rw [if_neg hl]
    refine evEq (fun k => by unfold spec_LinkPut.f; rw [if_neg hl]) ?_
    refine evBind (right_spec b l d w e (by omega)) ?_
    cases hk : lok b l d w e with
    | false => exact evOne fun k => rfl
    | true =>
      refine evEq (fun k => by rw [if_pos rfl, text_spec, Option.bind_some]) ?_
      cases ht : tok t with
      | false => exact evOne fun k => rfl
      | true =>
        refine evEq (fun k => by rw [if_pos rfl, now_spec, Option.bind_some]) ?_
        cases hn : rg n 0 1000000 with
        | false => exact evOne fun k => rfl
        | true =>
          rw [if_pos (by rfl)]
          by_cases hf : (l.length : Int) ≥ 12 ∨ b ≥ 999999988
          · rw [if_pos hf]
            refine evStep (f := fun k => spec_LinkPut.j1 k t n true b l d w e) (fun k => ?_) (evOne fun k => rfl)
            simp only [spec_LinkPut.j0]
            rw [if_neg (by decide)]
            by_cases h12 : (l.length : Int) ≥ 12
            · rw [if_pos h12]
            · rw [if_neg h12, decide_eq_true (by omega)]
          · have h12 : ¬ (l.length : Int) ≥ 12 := fun h => hf (.inl h)
            have hb9 : ¬ b ≥ 999999988 := fun h => hf (.inr h)
            rw [if_neg hf]
            refine evStep (f := fun k => spec_LinkPut.j1 k t n false b l d w e) (fun k => ?_) (evOne fun k => ?_)
            · simp only [spec_LinkPut.j0]
              rw [if_neg (by decide), if_neg h12, decide_eq_false hb9]
            · simp only [spec_LinkPut.j1]
              rw [if_neg (by decide), copy_link b l d w e (by omega)]
              simp only [Option.bind_some]
              rw [if_pos (by omega)]
              by_cases h0 : l.length = 0
              · rw [if_pos (by simp [h0]), if_pos h0, if_pos h0]
              · rw [if_neg (by simp; omega), if_neg h0, if_neg h0]
theorem putV_len (b : Int) (l : List ByteArray) (d w e : Int) (t : ByteArray) (n : Int) (hm : l.length ≤ 1048576) : (putV b l d w e t n).2.1.length ≤ 1048577 ∧ (putV b l d w e t n).2.2.2.2.2.1.length ≤ 1048576 := by
  unfold putV ill
  split
  · simp
  · split
    · split
      · simp
      · simp; omega
    · simp
end Go.Proofs.Ytaaffhghpealjaa.A
