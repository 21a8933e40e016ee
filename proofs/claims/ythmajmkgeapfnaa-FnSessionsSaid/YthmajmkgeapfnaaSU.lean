/- Plain laws on sessions without one of them: both sides tell the same. Conditions: lengths below 2^20. -/
import Derived.Test.YthmajmkgeapfnaaSB
import Derived.Test.YthmajmkgeapfnaaF74
import Derived.Test.YthmajmkgeapfnaaF36
set_option linter.unusedVariables false
set_option linter.unusedSimpArgs false
namespace Go.Proofs.Ythmajmkgeapfnaa.A
open Go.RowKit Go.Proofs.YthmajmkgeapfnaaW.PrintWords Go.Proofs.YthmajmkgeapfnaaW.PrintLast Go.Proofs.YthmajmkgeapfnaaW.PrintMore
theorem unbind_j0 (l:List S38) (t:ByteArray):Ev (fun k=>spec_Unbind.j0 k l t true) ([],2):=evOne fun _=>rfl
theorem unbind_full (l:List S38) (t:ByteArray) (hl:l.length ≤ 1048576) (hz:∀ x ∈ l,x.f0.size ≤ 1048576):∃ (q:List S38) (c:Int),q.length ≤ 1048576∧Ev (fun k=>impl_Unbind.f k l t) (q,c)∧Ev (fun k=>spec_Unbind.f k l t) (q,c) ∧
  (c=0 → rightB l=true∧∃ x,∃ h:x < l.length,l[x].f0=t∧q=l.take x ++ l.drop (x + 1))∧(rightB l=true → t.size ≤ 20000 → (∃ x,∃ h:x < l.length,l[x].f0=t) → c=0):=by
 by_cases hs:(l.length:Int) > 400 ∨ (t.size:Int) > 20000
 ·refine ⟨[],2,by simp,evBind (fault_size l t hl hs) (evNow fun _=>by rw [if_neg (by decide)]),?_,fun h=>absurd h (by decide),fun h _ _=>by have:=right_five h;omega⟩
  by_cases h1:(l.length:Int) > 400
  ·exact evEq (fun k=>by unfold spec_Unbind.f;rw [if_pos h1]) (unbind_j0 l t)
  ·exact evEq (fun k=>by unfold spec_Unbind.f;rw [if_neg h1,decide_eq_true (by omega)]) (unbind_j0 l t)
 ·have h1:¬ (l.length:Int) > 400:=fun h=>hs (.inl h)
  have h2:¬ (t.size:Int) > 20000:=fun h=>hs (.inr h)
  obtain ⟨r,b,v,k1,k2,k3,k4⟩:=fault_in l t (by omega) (by omega)
  have hspec:∀ R:List S38 × Int,Ev (fun k=>(spec_SessionsRight.f k l).bind fun t312=>(if t312=true then ((spec_l09At.f k l t).bind fun t317=>(if t317 < 0 then ((spec_l09Ill.f 6).bind fun bt318=>(some (bt318.1,bt318.2))) else ((some (([]:List (S38)):List (S38))).bind fun y322=>(if 0 ≤ t317 then (if t317 ≤ (l.length:Int) then ((some (l.take (t317:Int).toNat:List (S38))).bind fun y325=>(if y322.length + y325.length < 2932031007402 then ((some (y322 ++ y325:List (S38))).bind fun y329=>(if 0 ≤ (wrap64 (t317 + 1)) then (if (wrap64 (t317 + 1)) ≤ (l.length:Int) then ((some (l.drop ((wrap64 (t317 + 1)):Int).toNat:List (S38))).bind fun y332=>(if y329.length + y332.length < 2932031007402 then (some ((y329 ++ y332),(0:Int))) else (none))) else (none)) else (none))) else (none))) else (none)) else (none))))) else ((spec_l09Ill.f 1).bind fun bt313=>(some (bt313.1,bt313.2))))) R → Ev (fun k=>spec_Unbind.f k l t) R:=by
   intro R h
   refine evEq (fun k=>by unfold spec_Unbind.f;rw [if_neg h1,decide_eq_false h2]) ?_
   exact evStep (fun k=>by simp only [spec_Unbind.j0];rw [if_neg (by decide)]) h
  cases hr:rightB l with
  | false =>
   rw [hr] at k3
   simp only [if_true,if_false,Bool.false_eq_true,reduceIte] at k3
   refine ⟨[],1,by simp,evBind k3 (evNow fun _=>by rw [if_neg (by decide)]),hspec _ (evBind (right_spec l hl hz) (evNow fun _=>?_)),fun h=>absurd h (by decide),fun h=>absurd h (by decide)⟩
   rw [hr]
   rfl
  | true =>
   rw [hr] at k3
   rcases k4 hr with ⟨rfl,rfl,hlt⟩|⟨rfl,hv⟩
   ·simp only [if_true,if_false,Bool.false_eq_true,reduceIte] at k3
    have hw:wrap64 ((r:Int) + 1)=(r:Int) + 1:=w64 (by omega) (by omega)
    have ht:((r:Int) + 1).toNat=r + 1:=by omega
    refine ⟨l.take r ++ l.drop (r + 1),0,by simp;omega,evBind k3 ?_,hspec _ (evBind (right_spec l hl hz) ?_),fun _=>⟨rfl,r,hlt,(((at_same (by omega) k1 hr).2.2.1 rfl)).2,rfl⟩,fun _ _ _=>rfl⟩
    ·refine evEq (fun k=>by rw [if_pos rfl]) (evBind k1 (evNow fun _=>?_))
     rw [clone_ok l hl,Option.bind_some,hw]
     unfold impl_Session_74.f
     rw [if_pos ⟨by omega,by omega,by omega⟩,Int.toNat_natCast,ht]
     rfl
    ·rw [hr]
     refine evEq (fun k=>by rw [if_pos rfl]) (evBind k2 (evNow fun _=>?_))
     rw [if_neg (by omega),Option.bind_some,if_pos (by omega),if_pos (by omega),Option.bind_some,Int.toNat_natCast,if_pos (by simp;omega),Option.bind_some,hw,if_pos (by omega),if_pos (by omega),Option.bind_some,ht,if_pos (by simp;omega)]
     rfl
   ·simp only [if_true,if_false,Bool.false_eq_true,reduceIte] at k3
    refine ⟨[],6,by simp,evBind k3 (evNow fun _=>by rw [if_neg (by decide)]),hspec _ (evBind (right_spec l hl hz) ?_),fun h=>absurd h (by decide),fun _ _ ⟨x,hx,e⟩=>absurd e ((at_same (by omega) k1 hr).2.2.2 rfl x hx)⟩
    rw [hr]
    refine evEq (fun k=>by rw [if_pos rfl]) (evBind k2 (evNow fun _=>?_))
    rw [if_pos hv]
    rfl
theorem unbind_both (l:List S38) (t:ByteArray) (hl:l.length ≤ 1048576) (hz:∀ x ∈ l,x.f0.size ≤ 1048576):∃ (q:List S38) (c:Int),q.length ≤ 1048576∧Ev (fun k=>impl_Unbind.f k l t) (q,c)∧Ev (fun k=>spec_Unbind.f k l t) (q,c) :=
 let ⟨q,c,h1,h2,h3,_⟩:=unbind_full l t hl hz
 ⟨q,c,h1,h2,h3⟩
end Go.Proofs.Ythmajmkgeapfnaa.A
