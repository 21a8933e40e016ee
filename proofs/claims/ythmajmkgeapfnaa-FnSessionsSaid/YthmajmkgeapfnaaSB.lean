/- Plain laws on sessions with one of them set: both sides tell the same. Conditions: lengths below 2^20. -/
import Derived.Test.YthmajmkgeapfnaaSA
import Derived.Test.YthmajmkgeapfnaaSX
import Derived.Test.YthmajmkgeapfnaaSI
import Derived.Test.YthmajmkgeapfnaaF102
import Derived.Test.YthmajmkgeapfnaaF70
import Derived.Test.YthmajmkgeapfnaaF75
import Derived.Test.YthmajmkgeapfnaaF68
import Derived.Test.YthmajmkgeapfnaaF67
import Derived.Test.YthmajmkgeapfnaaF31
import Derived.Test.YthmajmkgeapfnaaF39
import Derived.Test.YthmajmkgeapfnaaF38
namespace Go.Proofs.Ythmajmkgeapfnaa.A
open Go.RowKit Go.Proofs.YthmajmkgeapfnaaW.PrintWords Go.Proofs.YthmajmkgeapfnaaW.PrintLast Go.Proofs.YthmajmkgeapfnaaW.PrintMore
set_option linter.unusedSimpArgs false
theorem clone_ok (l:List S38) (hl:l.length ≤ 1048576):impl_Session_75.f l=some l:=by
 unfold impl_Session_75.f
 rw [Option.bind_some,if_pos (by simp;omega)]
 rfl
theorem lcase (n:Nat) (s:Nat):(n > 400 ∨ s > 20000) ∨ (n ≤ 400∧s ≤ 20000):=by omega
/-- The fault: too great; not right; not there; none. -/
theorem fault_size (l:List S38) (t:ByteArray) (hl:l.length ≤ 1048576) (h:(l.length:Int) > 400 ∨ (t.size:Int) > 20000):Ev (fun k=>impl_sessionFault.f k l t) 2:=by
 obtain ⟨r,b,v,h1,h2,h3,h4⟩:=at_ok l t hl
 refine evBind h2 ?_
 refine evBind (long_ok t) ?_
 by_cases hs:(t.size:Int) > 20000
 ·refine evEq (fun k=>by rw [decide_eq_true hs,if_pos rfl]) (evOne fun k=>?_)
  simp only [impl_sessionFault.j0]
  rw [if_pos trivial]
 ·have hn:(l.length:Int) > 400:=by omega
  refine evEq (fun k=>by rw [decide_eq_false hs,if_neg (by decide),decide_eq_true hn]) (evOne fun k=>?_)
  simp only [impl_sessionFault.j0]
  rw [if_pos trivial]
theorem fault_in (l:List S38) (t:ByteArray) (hl:l.length ≤ 400) (ht:t.size ≤ 20000):∃ (r:Nat) (b:Bool) (v:Int),Ev (fun k=>impl_sessionAt.f k l t) ((r:Int),b)∧Ev (fun k=>spec_l09At.f k l t) v∧Ev (fun k=>impl_sessionFault.f k l t) (if rightB l=true then (if b=true then 0 else 6) else 1) ∧
  (rightB l=true → (b=true∧v=(r:Int)∧r < l.length) ∨ (b=false∧v < 0)):=by
 obtain ⟨r,b,v,h1,h2,h3,h4⟩:=at_ok l t (by omega)
 refine ⟨r,b,v,h2,h3,?_,h4⟩
 refine evBind h2 ?_
 refine evBind (long_ok t) ?_
 refine evEq (fun k=>by rw [decide_eq_false (show ¬ ((t.size:Int) > 20000) by omega),if_neg (by decide),decide_eq_false (show ¬ ((l.length:Int) > 400) by omega)]) ?_
 refine evStep (f:=fun k=>_) (fun k=>by simp only [impl_sessionFault.j0];rw [if_neg (by decide)]) ?_
 refine evBind (right_impl l (by omega)) (evNow fun _=>?_)
 cases rightB l <;> cases b <;> rfl
theorem with_ok {l:List S38} {t:ByteArray} {r:Nat} (o:Bool) (p:Int) (q:ByteArray) (hl:l.length ≤ 400) (h:Ev (fun k=>impl_sessionAt.f k l t) ((r:Int),true)) (hr:r < l.length):Ev (fun k=>impl_withSession.f k l t o p q) (l.set r ⟨t,o,p,q⟩,0):=by
 refine evBind (evNow fun _=>clone_ok l (by omega)) ?_
 refine evBind h (evNow fun _=>?_)
 rw [if_pos (by simp),if_pos (by simpa using hr)]
 simp
theorem set_no {l:List S38} {t:ByteArray} {v:Int} (o:Bool) (p:Int) (q:ByteArray) (h:Ev (fun k=>spec_l09At.f k l t) v) (hv:v < 0):Ev (fun k=>spec_l09Set.f k l t t o p q) ([],6):=by
 refine evBind h (evNow fun _=>?_)
 rw [if_pos hv]
 rfl
theorem absent_j0 (l:List S38) (t:ByteArray):Ev (fun k=>spec_Absent.j0 k l t true) ([],2):=evOne fun _=>rfl
theorem absent_full (l:List S38) (t:ByteArray) (hl:l.length ≤ 1048576) (hz:∀ x ∈ l,x.f0.size ≤ 1048576):∃ (q:List S38) (c:Int),q.length ≤ 1048576∧Ev (fun k=>impl_Absent.f k l t) (q,c)∧Ev (fun k=>spec_Absent.f k l t) (q,c) ∧
  (c=0 → rightB l=true∧∃ x,∃ h:x < l.length,l[x].f0=t∧q=l.set x ⟨t,false,0,⟨#[]⟩⟩)∧(rightB l=true → t.size ≤ 20000 → (∃ x,∃ h:x < l.length,l[x].f0=t) → c=0):=by
 by_cases hs:(l.length:Int) > 400 ∨ (t.size:Int) > 20000
 ·refine ⟨[],2,by simp,evBind (fault_size l t hl hs) (evNow fun _=>by rw [if_neg (by decide)]),?_,fun h=>absurd h (by decide),fun h _ _=>by have:=right_five h;omega⟩
  by_cases h1:(l.length:Int) > 400
  ·exact evEq (fun k=>by unfold spec_Absent.f;rw [if_pos h1]) (absent_j0 l t)
  ·exact evEq (fun k=>by unfold spec_Absent.f;rw [if_neg h1,decide_eq_true (by omega)]) (absent_j0 l t)
 ·have h1:¬ (l.length:Int) > 400:=fun h=>hs (.inl h)
  have h2:¬ (t.size:Int) > 20000:=fun h=>hs (.inr h)
  obtain ⟨r,b,v,k1,k2,k3,k4⟩:=fault_in l t (by omega) (by omega)
  have hspec:∀ R:List S38 × Int,Ev (fun k=>(spec_SessionsRight.f k l).bind fun t539=>(if t539=true then ((spec_l09Set.f k l t t false 0 (⟨#[]⟩:ByteArray)).bind fun bt540=>(some (bt540.1,bt540.2))) else ((spec_l09Ill.f 1).bind fun bt544=>(some (bt544.1,bt544.2))))) R → Ev (fun k=>spec_Absent.f k l t) R:=by
   intro R h
   refine evEq (fun k=>by unfold spec_Absent.f;rw [if_neg h1,decide_eq_false h2]) ?_
   exact evStep (fun k=>by simp only [spec_Absent.j0];rw [if_neg (by decide)]) h
  cases hr:rightB l with
  | false =>
   rw [hr] at k3
   simp only [if_true,if_false,Bool.false_eq_true,reduceIte] at k3
   refine ⟨[],1,by simp,evBind k3 (evNow fun _=>by rw [if_neg (by decide)]),hspec _ (evBind (right_spec l hl hz) (evNow fun _=>?_)),fun h=>absurd h (by decide),fun h=>absurd h (by decide)⟩
   rw [hr]
   rfl
  | true =>
   rw [hr] at k3
   rcases k4 hr with ⟨rfl,rfl,hlt⟩|⟨rfl,hv⟩
   ·simp only [if_true,if_false,Bool.false_eq_true,reduceIte] at k3
    refine ⟨l.set r ⟨t,false,0,⟨#[]⟩⟩,0,by simpa using hl,evBind k3 ?_,hspec _ (evBind (right_spec l hl hz) ?_),fun _=>⟨rfl,r,hlt,(((at_same (by omega) k1 hr).2.2.1 rfl)).2,rfl⟩,fun _ _ _=>rfl⟩
    ·refine evEq (fun k=>by rw [if_pos rfl]) ?_
     exact evBind (with_ok false 0 _ (by omega) k1 hlt) (evNow fun _=>rfl)
    ·rw [hr]
     refine evEq (fun k=>by rw [if_pos rfl]) ?_
     exact evBind (set_ok false 0 _ (by omega) k2 hlt) (evNow fun _=>rfl)
   ·simp only [if_true,if_false,Bool.false_eq_true,reduceIte] at k3
    refine ⟨[],6,by simp,evBind k3 (evNow fun _=>by rw [if_neg (by decide)]),hspec _ (evBind (right_spec l hl hz) ?_),fun h=>absurd h (by decide),fun _ _ ⟨x,hx,e⟩=>absurd e ((at_same (by omega) k1 hr).2.2.2 rfl x hx)⟩
    rw [hr]
    refine evEq (fun k=>by rw [if_pos rfl]) ?_
    exact evBind (set_no false 0 _ k2 hv) (evNow fun _=>rfl)
theorem absent_both (l:List S38) (t:ByteArray) (hl:l.length ≤ 1048576) (hz:∀ x ∈ l,x.f0.size ≤ 1048576):∃ (q:List S38) (c:Int),q.length ≤ 1048576∧Ev (fun k=>impl_Absent.f k l t) (q,c)∧Ev (fun k=>spec_Absent.f k l t) (q,c) :=
 let ⟨q,c,h1,h2,h3,_⟩:=absent_full l t hl hz
 ⟨q,c,h1,h2,h3⟩
theorem present_full (l:List S38) (t:ByteArray) (p:Int) (q:ByteArray) (hl:l.length ≤ 1048576) (hz:∀ x ∈ l,x.f0.size ≤ 1048576):∃ (u:List S38) (c:Int),u.length ≤ 1048576∧Ev (fun k=>impl_Present.f k l t p q) (u,c)∧Ev (fun k=>spec_Present.f k l t p q) (u,c) ∧
  (c=0 → rightB l=true∧prioB p=true∧showB q=true∧t.size ≤ 20000∧∃ x,∃ h:x < l.length,l[x].f0=t∧u=l.set x ⟨t,true,p,q⟩):=by
 by_cases hq:(q.size:Int) > 20000
 ·refine ⟨[],2,by simp,?_,?_,fun h=>absurd h (by decide)⟩
  ·have hf:∃ f,Ev (fun k=>impl_sessionFault.f k l t) f:=by
    by_cases hs:(l.length:Int) > 400 ∨ (t.size:Int) > 20000
    ·exact ⟨_,fault_size l t hl hs⟩
    ·obtain ⟨r,b,v,k1,k2,k3,k4⟩:=fault_in l t (by omega) (by omega)
     exact ⟨_,k3⟩
   obtain ⟨f,hf⟩:=hf
   refine evBind hf ?_
   refine evBind (long_ok q) (evNow fun _=>?_)
   rw [decide_eq_true hq,if_pos rfl]
  ·by_cases h1:(l.length:Int) > 400
   ·exact evEq (fun k=>by unfold spec_Present.f;rw [if_pos h1]) (present_j0 l t p q)
   ·by_cases h2:(t.size:Int) > 20000
    ·exact evEq (fun k=>by unfold spec_Present.f;rw [if_neg h1,if_pos h2]) (present_j0 l t p q)
    ·exact evEq (fun k=>by unfold spec_Present.f;rw [if_neg h1,if_neg h2,decide_eq_true hq]) (present_j0 l t p q)
 ·have himp:∀ (f:Int) (R:List S38 × Int),Ev (fun k=>impl_sessionFault.f k l t) f → Ev (fun k=>(if f=0 then ((impl_isPriority.f p).bind fun t657=>(if t657=true then ((impl_isShow.f k q).bind fun t658=>(if t658=true then ((impl_withSession.f k l t true p q).bind fun bt659=>(some (bt659.1,bt659.2))) else (some (([]:List (S38)),1)))) else (some (([]:List (S38)),1)))) else (some (([]:List (S38)),f)))) R → Ev (fun k=>impl_Present.f k l t p q) R:=by
   intro f R hf h
   refine evBind hf ?_
   refine evBind (long_ok q) ?_
   exact evEq (fun k=>by rw [decide_eq_false hq,if_neg (by decide)]) h
  by_cases hs:(l.length:Int) > 400 ∨ (t.size:Int) > 20000
  ·refine ⟨[],2,by simp,himp 2 _ (fault_size l t hl hs) (evNow fun _=>by rw [if_neg (by decide)]),?_,fun h=>absurd h (by decide)⟩
   by_cases h1:(l.length:Int) > 400
   ·exact evEq (fun k=>by unfold spec_Present.f;rw [if_pos h1]) (present_j0 l t p q)
   ·exact evEq (fun k=>by unfold spec_Present.f;rw [if_neg h1,if_pos (by omega)]) (present_j0 l t p q)
  ·have h1:¬ (l.length:Int) > 400:=fun h=>hs (.inl h)
   have h2:¬ (t.size:Int) > 20000:=fun h=>hs (.inr h)
   obtain ⟨r,b,v,k1,k2,k3,k4⟩:=fault_in l t (by omega) (by omega)
   have hspec:∀ R:List S38 × Int,Ev (fun k=>(spec_SessionsRight.f k l).bind fun t334=>(if t334=true then ((spec_l09At.f k l t).bind fun t339=>(if t339 < 0 then ((spec_l09Ill.f 6).bind fun bt340=>(some (bt340.1,bt340.2))) else ((spec_l03Is.f p (-128) 127).bind fun t344=>(if t344=true then ((spec_l09Show.f k q).bind fun t345=>(spec_Present.j1 k l t p q (!t345))) else (spec_Present.j1 k l t p q true))))) else ((spec_l09Ill.f 1).bind fun bt335=>(some (bt335.1,bt335.2))))) R → Ev (fun k=>spec_Present.f k l t p q) R:=by
    intro R h
    refine evEq (fun k=>by unfold spec_Present.f;rw [if_neg h1,if_neg h2,decide_eq_false hq]) ?_
    exact evStep (fun k=>by simp only [spec_Present.j0];rw [if_neg (by decide)]) h
   cases hr:rightB l with
   | false =>
    rw [hr] at k3
    simp only [if_true,if_false,Bool.false_eq_true,reduceIte] at k3
    refine ⟨[],1,by simp,himp _ _ k3 (evNow fun _=>by rw [if_neg (by decide)]),hspec _ (evBind (right_spec l hl hz) (evNow fun _=>?_)),fun h=>absurd h (by decide)⟩
    rw [hr]
    rfl
   | true =>
    rw [hr] at k3
    rcases k4 hr with ⟨rfl,rfl,hlt⟩|⟨rfl,hv⟩
    ·simp only [if_true,if_false,Bool.false_eq_true,reduceIte] at k3
     have hs1:∀ R:List S38 × Int,Ev (fun k=>(spec_l03Is.f p (-128) 127).bind fun t344=>(if t344=true then ((spec_l09Show.f k q).bind fun t345=>(spec_Present.j1 k l t p q (!t345))) else (spec_Present.j1 k l t p q true))) R → Ev (fun k=>spec_Present.f k l t p q) R:=by
      intro R h
      refine hspec R (evBind (right_spec l hl hz) ?_)
      rw [hr]
      refine evEq (fun k=>by rw [if_pos rfl]) ?_
      refine evBind k2 ?_
      exact evEq (fun k=>by rw [if_neg (by omega)]) h
     have hj:Ev (fun k=>spec_Present.j1 k l t p q true) ([],1):=evOne fun _=>rfl
     cases hp:prioB p with
     | false =>
      refine ⟨[],1,by simp,himp _ _ k3 ?_,hs1 _ (evBind (evNow fun _=>prio_spec p) ?_),fun h=>absurd h (by decide)⟩
      ·refine evEq (fun k=>by rw [if_pos rfl]) (evBind (evNow fun _=>prio_impl p) (evNow fun _=>?_))
       rw [hp]
       rfl
      ·rw [hp]
       exact evEq (fun k=>by rw [if_neg (by decide)]) hj
     | true =>
      cases hw:showB q with
      | false =>
       refine ⟨[],1,by simp,himp _ _ k3 ?_,hs1 _ (evBind (evNow fun _=>prio_spec p) ?_),fun h=>absurd h (by decide)⟩
       ·refine evEq (fun k=>by rw [if_pos rfl]) (evBind (evNow fun _=>prio_impl p) ?_)
        rw [hp]
        refine evEq (fun k=>by rw [if_pos rfl]) (evBind (show_impl q) (evNow fun _=>?_))
        rw [hw]
        rfl
       ·rw [hp]
        refine evEq (fun k=>by rw [if_pos rfl]) (evBind (show_spec q) ?_)
        rw [hw]
        exact hj
      | true =>
       refine ⟨l.set r ⟨t,true,p,q⟩,0,by simpa using hl,himp _ _ k3 ?_,hs1 _ (evBind (evNow fun _=>prio_spec p) ?_),fun _=>⟨rfl,rfl,rfl,by omega,r,hlt,((at_same (by omega) k1 hr).2.2.1 rfl).2,rfl⟩⟩
       ·refine evEq (fun k=>by rw [if_pos rfl]) (evBind (evNow fun _=>prio_impl p) ?_)
        rw [hp]
        refine evEq (fun k=>by rw [if_pos rfl]) (evBind (show_impl q) ?_)
        rw [hw]
        refine evEq (fun k=>by rw [if_pos rfl]) ?_
        exact evBind (with_ok true p q (by omega) k1 hlt) (evNow fun _=>rfl)
       ·rw [hp]
        refine evEq (fun k=>by rw [if_pos rfl]) (evBind (show_spec q) ?_)
        rw [hw]
        refine evStep (f:=fun k=>_) (fun k=>by simp only [spec_Present.j1];rw [if_neg (by decide)]) ?_
        exact evBind (set_ok true p q (by omega) k2 hlt) (evNow fun _=>rfl)
    ·simp only [if_true,if_false,Bool.false_eq_true,reduceIte] at k3
     refine ⟨[],6,by simp,himp _ _ k3 (evNow fun _=>by rw [if_neg (by decide)]),hspec _ (evBind (right_spec l hl hz) ?_),fun h=>absurd h (by decide)⟩
     rw [hr]
     refine evEq (fun k=>by rw [if_pos rfl]) ?_
     refine evBind k2 (evNow fun _=>?_)
     rw [if_pos hv]
     rfl
theorem present_both (l:List S38) (t:ByteArray) (p:Int) (q:ByteArray) (hl:l.length ≤ 1048576) (hz:∀ x ∈ l,x.f0.size ≤ 1048576):∃ (u:List S38) (c:Int),u.length ≤ 1048576∧Ev (fun k=>impl_Present.f k l t p q) (u,c)∧Ev (fun k=>spec_Present.f k l t p q) (u,c) :=
 let ⟨u,c,h1,h2,h3,_⟩:=present_full l t p q hl hz
 ⟨u,c,h1,h2,h3⟩
end Go.Proofs.Ythmajmkgeapfnaa.A
