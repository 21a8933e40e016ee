/- Plain laws on a new session: both sides tell the same. Conditions: lengths below 2^20. -/
import Derived.Test.YthmajmkgeapfnaaSB
import Derived.Test.YthmajmkgeapfnaaF41
import Derived.Test.YthmajmkgeapfnaaF40
import Derived.Test.YthmajmkgeapfnaaF77
import Derived.Test.YthmajmkgeapfnaaF99
set_option linter.unusedVariables false
set_option linter.unusedSimpArgs false
namespace Go.Proofs.Ythmajmkgeapfnaa.A
open Go.RowKit Go.Proofs.YthmajmkgeapfnaaW.PrintWords Go.Proofs.YthmajmkgeapfnaaW.PrintLast Go.Proofs.YthmajmkgeapfnaaW.PrintMore
def newS (t:ByteArray):S38:=⟨t,false,0,⟨#[]⟩⟩
theorem bind_go (l:List S38) (t:ByteArray) (hl:l.length ≤ 1048576) (r:Nat) (hr:r ≤ l.length) (p1:∀ x:Nat,x < r → Op.bytesLess (keyL l x) t.toList=true) (p2:∀ x:Nat,r ≤ x → x < l.length → Op.bytesLess (keyL l x) t.toList=false) (d:Nat) :
  ∀ i:Nat,i ≤ r → r - i=d → Ev (fun k=>spec_Bind.l0 k l t (i:Int)) (l.take r ++ [newS t] ++ l.drop r,0):=by
 induction d with
 | zero =>
  intro i h1 h2
  obtain rfl:i=r:=by omega
  refine evOne fun k=>?_
  simp only [spec_Bind.l0]
  by_cases hi:i < l.length
  ·have hn:¬ Op.bytesLess (rd_T38 l (i:Int)).f0.toList t.toList=true:=by
    have:=p2 i (Nat.le_refl _) hi
    unfold keyL at this
    rw [this]
    decide
   rw [if_pos (by omega),if_pos (by omega),if_neg hn,Option.bind_some,if_pos (by omega),Option.bind_some,Int.toNat_natCast,if_pos (by simp;omega),Option.bind_some,if_pos (by simp;omega),Option.bind_some,Option.bind_some,if_pos (by simp;omega)]
   rfl
  ·rw [if_neg (by omega),Option.bind_some,if_pos (by omega),if_pos (by omega),Option.bind_some,Int.toNat_natCast,if_pos (by simp;omega),Option.bind_some,if_pos (by simp;omega),Option.bind_some,Option.bind_some,if_pos (by simp;omega)]
   rfl
 | succ d ih =>
  intro i h1 h2
  have hy:Op.bytesLess (rd_T38 l (i:Int)).f0.toList t.toList=true:=p1 i (by omega)
  refine evStep (f:=fun k=>spec_Bind.l0 k l t ((i + 1:Nat):Int)) (fun k=>?_) (ih (i + 1) (by omega) (by omega))
  simp only [spec_Bind.l0]
  rw [if_pos (by omega),if_pos (by omega),if_pos hy,w64 (by omega) (by omega)]
  rfl
theorem bind_j0 (l:List S38) (t:ByteArray):Ev (fun k=>spec_Bind.j0 k l t true) ([],2):=evOne fun _=>rfl
theorem bindI_j0 (l:List S38) (t:ByteArray) (a:Int) (b:Bool) (c:Int):Ev (fun k=>impl_Bind.j0 k l t a b c true) ([],c):=evOne fun _=>rfl
theorem bind_full (l:List S38) (t:ByteArray) (hl:l.length ≤ 1048576) (hz:∀ x ∈ l,x.f0.size ≤ 1048576):∃ (q:List S38) (c:Int),q.length ≤ 1048576∧Ev (fun k=>impl_Bind.f k l t) (q,c)∧Ev (fun k=>spec_Bind.f k l t) (q,c) ∧
  (c=0 → rightB l=true∧l.length < 5∧nameB t=true∧t.size ≤ 20000∧∃ r,r ≤ l.length∧(∀ a ∈ l.take r,ltS a (newS t))∧(∀ b ∈ l.drop r,ltS (newS t) b)∧q=l.take r ++ [newS t] ++ l.drop r):=by
 obtain ⟨r,b,hrl,ha,hp⟩:=at_info l t hl
 by_cases hs:(l.length:Int) > 400 ∨ (t.size:Int) > 20000
 ·refine ⟨[],2,by simp,evBind ha (evBind (fault_size l t hl hs) (evEq (fun k=>by rw [if_pos rfl]) (bindI_j0 l t _ _ 2))),?_,fun h=>absurd h (by decide)⟩
  by_cases h1:(l.length:Int) > 400
  ·exact evEq (fun k=>by unfold spec_Bind.f;rw [if_pos h1]) (bind_j0 l t)
  ·exact evEq (fun k=>by unfold spec_Bind.f;rw [if_neg h1,decide_eq_true (by omega)]) (bind_j0 l t)
 ·have h1:¬ (l.length:Int) > 400:=fun h=>hs (.inl h)
  have h2:¬ (t.size:Int) > 20000:=fun h=>hs (.inr h)
  obtain ⟨r',b',v,k1,k2,k3,k4⟩:=fault_in l t (by omega) (by omega)
  have he:=ev_same ha k1
  simp only [Prod.mk.injEq] at he
  obtain ⟨e1,rfl⟩:=he
  obtain rfl:r=r':=by omega
  have hspec:∀ R:List S38 × Int,Ev (fun k=>(spec_SessionsRight.f k l).bind fun t412=>(if t412=true then ((spec_l09Resource.f k t).bind fun t413=>(spec_Bind.j1 k l t (!t413))) else (spec_Bind.j1 k l t true))) R → Ev (fun k=>spec_Bind.f k l t) R:=by
   intro R h
   refine evEq (fun k=>by unfold spec_Bind.f;rw [if_neg h1,decide_eq_false h2]) ?_
   exact evStep (fun k=>by simp only [spec_Bind.j0];rw [if_neg (by decide)]) h
  have hill:Ev (fun k=>spec_Bind.j1 k l t true) ([],1):=evOne fun _=>rfl
  cases hr:rightB l with
  | false =>
   rw [hr] at k3
   rw [if_neg (by decide)] at k3
   refine ⟨[],1,by simp,evBind ha (evBind k3 (evEq (f:=fun k=>impl_Bind.j0 k l t (r:Int) b 1 true) (fun k=>by rw [if_neg (by decide)];rfl) (bindI_j0 l t _ _ 1))),hspec _ (evBind (right_spec l hl hz) ?_),fun h=>absurd h (by decide)⟩
   rw [hr]
   exact evEq (fun k=>by rw [if_neg (by decide)]) hill
  | true =>
   rw [hr,if_pos rfl] at k3
   obtain ⟨p1,p2,_,hno⟩:=hp hr
   have h5:=right_five hr
   -- both sides behind the first questions
   have himp:∀ R:List S38 × Int,Ev (fun k=>(impl_isSessionName.f k t).bind fun t824=>(if t824=true then (if b=true then (some (([]:List (S38)),(7:Int))) else (if (l.length:Int)=5 then (some (([]:List (S38)),9)) else ((impl_Session_75.f l).bind fun t825=>((impl_Session_77.f t825 (r:Int) (([(⟨t,false,0,(⟨#[]⟩:ByteArray)⟩:S38)]:List (S38)))).bind fun t831=>(some (t831,0)))))) else (some (([]:List (S38)),1)))) R → Ev (fun k=>impl_Bind.f k l t) R:=by
    intro R h
    refine evBind ha (evBind k3 ?_)
    cases b with
    | false=>exact evEq (fun k=>by rw [if_neg (by decide)]) (evStep (fun k=>by simp only [impl_Bind.j0];rw [if_neg (by decide)]) h)
    | true=>exact evEq (fun k=>by rw [if_neg (by decide)]) (evStep (fun k=>by simp only [impl_Bind.j0];rw [if_neg (by decide)]) h)
   cases hnm:nameB t with
   | false =>
    refine ⟨[],1,by simp,himp _ (evNow fun k=>?_),hspec _ (evBind (right_spec l hl hz) ?_),fun h=>absurd h (by decide)⟩
    ·rw [name_impl,hnm,Option.bind_some,if_neg (by decide)]
    ·rw [hr]
     refine evEq (fun k=>by rw [if_pos rfl]) (evBind (name_spec t (by omega)) ?_)
     rw [hnm]
     exact hill
   | true =>
    have hj:∀ R:List S38 × Int,Ev (fun k=>(if v ≥ 0 then ((spec_l09Ill.f 7).bind fun bt419=>(some (bt419.1,bt419.2))) else (if (l.length:Int) ≥ 5 then ((spec_l09Ill.f 9).bind fun bt423=>(some (bt423.1,bt423.2))) else (spec_Bind.l0 k l t 0)))) R → Ev (fun k=>spec_Bind.f k l t) R:=by
     intro R h
     refine hspec R (evBind (right_spec l hl hz) ?_)
     rw [hr]
     refine evEq (fun k=>by rw [if_pos rfl]) (evBind (name_spec t (by omega)) ?_)
     rw [hnm]
     refine evStep (f:=fun k=>_) (fun k=>by simp only [spec_Bind.j1];rw [if_neg (by decide)]) ?_
     exact evBind k2 h
    rcases k4 hr with ⟨rfl,rfl,hlt⟩|⟨rfl,hv⟩
    ·refine ⟨[],7,by simp,himp _ (evNow fun k=>?_),hj _ (evNow fun _=>by rw [if_pos (by omega)];rfl),fun h=>absurd h (by decide)⟩
     rw [name_impl,hnm,Option.bind_some,if_pos rfl,if_pos rfl]
    ·by_cases hfive:(l.length:Int)=5
     ·refine ⟨[],9,by simp,himp _ (evNow fun k=>?_),hj _ (evNow fun _=>by rw [if_neg (by omega),if_pos (by omega)];rfl),fun h=>absurd h (by decide)⟩
      rw [name_impl,hnm,Option.bind_some,if_pos rfl,if_neg (by decide),if_pos hfive]
     ·refine ⟨l.take r ++ [newS t] ++ l.drop r,0,by simp;omega,himp _ (evNow fun k=>?_),hj _ (evEq (f:=fun k=>spec_Bind.l0 k l t ((0:Nat):Int)) (fun k=>by rw [if_neg (by omega),if_neg (by omega)];rfl) (bind_go l t hl r hrl p1 p2 r 0 (by omega) (by omega))),fun _=>⟨rfl,by omega,rfl,by omega,r,hrl,fun a ha'=>?_,fun y hy=>?_,rfl⟩⟩
      ·rw [name_impl,hnm,Option.bind_some,if_pos rfl,if_neg (by decide),if_neg hfive,clone_ok l hl,Option.bind_some]
       unfold impl_Session_77.f
       rw [if_pos ⟨by omega,by omega,by simp,hl,by simp⟩,Int.toNat_natCast]
       rfl
      ·obtain ⟨x,hx,rfl⟩:=List.getElem_of_mem ha'
       have hx':x < r:=by rw [List.length_take] at hx;omega
       have:=p1 x hx'
       unfold keyL at this
       rw [rd38 l x (by omega)] at this
       rw [List.getElem_take]
       exact this
      ·obtain ⟨x,hx,rfl⟩:=List.getElem_of_mem hy
       have hx':r + x < l.length:=by rw [List.length_drop] at hx;omega
       have h1:=p2 (r + x) (by omega) hx'
       unfold keyL at h1
       rw [rd38 l (r + x) hx'] at h1
       have h2:=hno rfl (r + x) hx'
       have h3:¬ (l[r + x].f0.toList == t.toList)=true:=fun e=>h2 (bytes_ext (by simpa using e))
       have h4:=less_total l[r + x].f0.toList t.toList
       rw [h1,Bool.false_or,Bool.not_eq_true] at *
       rw [List.getElem_drop]
       show Op.bytesLess t.toList _=true
       rw [← h4,h3]
       rfl
theorem bind_both (l:List S38) (t:ByteArray) (hl:l.length ≤ 1048576) (hz:∀ x ∈ l,x.f0.size ≤ 1048576):∃ (q:List S38) (c:Int),q.length ≤ 1048576∧Ev (fun k=>impl_Bind.f k l t) (q,c)∧Ev (fun k=>spec_Bind.f k l t) (q,c) :=
 let ⟨q,c,h1,h2,h3,_⟩:=bind_full l t hl hz
 ⟨q,c,h1,h2,h3⟩
end Go.Proofs.Ythmajmkgeapfnaa.A
