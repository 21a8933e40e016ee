/- Plain laws on whether anyone is on: both sides tell the same. Conditions: lengths below 2^20. -/
import Derived.Test.YthmajmkgeapfnaaSO
import Derived.Test.YthmajmkgeapfnaaF18
set_option linter.unusedVariables false
set_option linter.unusedSimpArgs false
namespace Go.Proofs.Ythmajmkgeapfnaa.A
open Go.RowKit Go.Proofs.YthmajmkgeapfnaaW.PrintWords Go.Proofs.YthmajmkgeapfnaaW.PrintLast Go.Proofs.YthmajmkgeapfnaaW.PrintMore
theorem any_loop (l:List S38) (hl:l.length ≤ 1048576) (d:Nat):∀ i:Nat,i ≤ l.length → l.length - i=d → Ev (fun k=>spec_Anyone.l0 k l (i:Int)) ((l.drop i).any fun s=>s.f1):=by
 induction d with
 | zero =>
  intro i h1 h2
  refine evOne fun k=>?_
  simp only [spec_Anyone.l0]
  rw [if_neg (by omega),List.drop_eq_nil_of_le (by omega)]
  rfl
 | succ d ih =>
  intro i h1 h2
  have hi:i < l.length:=by omega
  rw [List.drop_eq_getElem_cons hi,List.any_cons]
  cases hc:l[i].f1 with
  | true =>
   refine evOne fun k=>?_
   simp only [spec_Anyone.l0]
   rw [if_pos (by omega),if_pos (by omega),rd38 l i hi,if_pos hc]
   rfl
  | false =>
   refine evStep (fun k=>?_) (ih (i + 1) (by omega) (by omega))
   simp only [spec_Anyone.l0]
   rw [if_pos (by omega),if_pos (by omega),rd38 l i hi,if_neg (by rw [hc];decide),w64 (by omega) (by omega)]
   rfl
theorem on_any (l:List S38):decide (((onL l).length:Int) > 0)=l.any fun s=>s.f1:=by
 induction l with
 | nil=>rfl
 | cons s l ih =>
  unfold onL at ih ⊢
  rw [List.filter_cons,List.any_cons]
  cases s.f1 with
  | true=>simp
  | false=>simpa using ih
theorem anyone_both (l:List S38) (hl:l.length ≤ 1048576) (hz:∀ x ∈ l,x.f0.size ≤ 1048576):∃ b,Ev (fun k=>impl_Anyone.f k l) b∧Ev (fun k=>spec_Anyone.f k l) b:=by
 cases hr:rightB l with
 | false =>
  refine ⟨false,evBind (right_impl l hl) (evNow fun _=>?_),evBind (right_spec l hl hz) (evNow fun _=>?_)⟩ <;> rw [hr] <;> rfl
 | true =>
  refine ⟨l.any fun s=>s.f1,evBind (right_impl l hl) ?_,evBind (right_spec l hl hz) ?_⟩
  ·rw [hr]
   refine evEq (fun k=>by rw [if_pos rfl]) (evBind (on_ok l hl) (evNow fun _=>?_))
   rw [on_any]
  ·rw [hr]
   refine evEq (f:=fun k=>spec_Anyone.l0 k l ((0:Nat):Int)) (fun k=>by rw [if_pos rfl];rfl) ?_
   exact any_loop l hl l.length 0 (by omega) (by omega)
end Go.Proofs.Ythmajmkgeapfnaa.A
