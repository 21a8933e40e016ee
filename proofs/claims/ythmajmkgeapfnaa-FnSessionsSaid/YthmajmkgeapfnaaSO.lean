/- Plain laws on the sessions that are on: what DeleteFunc leaves of a copy. Conditions: lengths below 2^20. -/
import Derived.Test.YthmajmkgeapfnaaSP
import Derived.Test.YthmajmkgeapfnaaF58
import Derived.Test.YthmajmkgeapfnaaF61
import Derived.Test.YthmajmkgeapfnaaF87
import Derived.Test.YthmajmkgeapfnaaF75
set_option linter.unusedVariables false
set_option linter.unusedSimpArgs false
namespace Go.Proofs.Ythmajmkgeapfnaa.A
open Go.RowKit Go.Proofs.YthmajmkgeapfnaaW.PrintWords Go.Proofs.YthmajmkgeapfnaaW.PrintLast Go.Proofs.YthmajmkgeapfnaaW.PrintMore
theorem copy_ok (l:List S38) (hl:l.length ≤ 1048576):impl_Session_75.f l=some l:=by
 unfold impl_Session_75.f
 rw [Option.bind_some,if_pos (by simp;omega)]
 rfl
/-- The first session that is off, or none. -/
theorem ixf_loop (l:List S38) (hl:l.length ≤ 1048576) (d:Nat):∀ i:Nat,i ≤ l.length → l.length - i=d → (∀ x:Nat,∀ h:x < i,∀ h2:x < l.length,l[x].f1=true) → ∃ v:Int,Ev (fun k=>impl_Session_88.l0 k l (l.length:Int) (i:Int)) v ∧
  ((v=-1∧∀ x:Nat,∀ h:x < l.length,l[x].f1=true) ∨ ∃ r:Nat,v=(r:Int)∧∃ h:r < l.length,l[r].f1=false∧∀ x:Nat,∀ _:x < r,∀ h2:x < l.length,l[x].f1=true):=by
 induction d with
 | zero =>
  intro i h1 h2 h3
  refine ⟨-1,evOne fun k=>?_,.inl ⟨rfl,fun x hx=>h3 x (by omega) hx⟩⟩
  simp only [impl_Session_88.l0]
  rw [if_neg (by omega)]
 | succ d ih =>
  intro i h1 h2 h3
  have hi:i < l.length:=by omega
  cases hc:l[i].f1 with
  | true =>
   obtain ⟨v,hv,hp⟩:=ih (i + 1) (by omega) (by omega) (fun x hx hx2=>by
    by_cases e:x=i
    ·subst e;exact hc
    ·exact h3 x (by omega) hx2)
   refine ⟨v,evStep (fun k=>?_) hv,hp⟩
   simp only [impl_Session_88.l0,impl_onDel.f]
   rw [if_pos (by omega),if_pos (by omega),if_pos (by omega),rd38 l i hi,hc,Option.bind_some,if_neg (by decide),w64 (by omega) (by omega)]
   rfl
  | false =>
   refine ⟨(i:Int),evOne fun k=>?_,.inr ⟨i,rfl,hi,hc,h3⟩⟩
   simp only [impl_Session_88.l0,impl_onDel.f]
   rw [if_pos (by omega),if_pos (by omega),if_pos (by omega),rd38 l i hi,hc,Option.bind_some,if_pos (by decide)]
def onL (l:List S38):List S38:=l.filter fun s=>s.f1
/-- One row while it is worked through: what was kept, then what stands there still. -/
theorem del_loop (l:List S38) (hl:l.length ≤ 1048576) (d:Nat):∀ (j:Nat) (m:List S38),m.length=l.length → j ≤ l.length → l.length - j=d → (onL (l.take j)).length < j → m.take (onL (l.take j)).length=onL (l.take j) → m.drop j=l.drop j →
  Ev (fun k=>impl_Session_61.l0 k m ((onL (l.take j)).length:Int) (j:Int)) (onL l):=by
 induction d with
 | zero =>
  intro j m hm h1 h2 h3 h4 h5
  have e:j=l.length:=by omega
  subst e
  rw [List.take_length] at h3 h4 ⊢
  refine evOne fun k=>?_
  simp only [impl_Session_61.l0]
  rw [if_neg (by omega),if_pos (by omega),if_pos (by omega),Int.toNat_natCast,h4]
 | succ d ih =>
  intro j m hm h1 h2 h3 h4 h5
  have hj:j < l.length:=by omega
  have hjm:j < m.length:=by omega
  have hmj:m[j]=l[j]:=by
   rw [List.drop_eq_getElem_cons hjm,List.drop_eq_getElem_cons hj] at h5
   exact (List.cons.inj h5).1
  have ht:l.take (j + 1)=l.take j ++ [l[j]]:=List.take_succ_eq_append_getElem hj
  have hd1:m.drop (j + 1)=l.drop (j + 1):=by
   rw [List.drop_eq_getElem_cons hjm,List.drop_eq_getElem_cons hj] at h5
   exact (List.cons.inj h5).2
  cases hc:l[j].f1 with
  | true =>
   have ho:onL (l.take (j + 1))=onL (l.take j) ++ [l[j]]:=by unfold onL;rw [ht,List.filter_append];simp [hc]
   have hlen:(onL (l.take (j + 1))).length=(onL (l.take j)).length + 1:=by rw [ho];simp
   have hgo:=ih (j + 1) (m.set (onL (l.take j)).length l[j]) (by simpa using hm) (by omega) (by omega) (by omega)
    (by rw [hlen,List.take_succ_eq_append_getElem (by simp;omega),List.take_set_of_le (Nat.le_refl _),h4,ho];simp)
    (by rw [List.drop_set_of_lt (by omega)];exact hd1)
   refine evStep (fun k=>?_) hgo
   simp only [impl_Session_61.l0,impl_onDel.f]
   rw [if_pos (by omega),if_pos (by omega),rd38 m j hjm,hmj,hc,Option.bind_some,if_neg (by decide),if_pos (by omega),if_pos (by omega),Int.toNat_natCast,w64 (by omega) (by omega),w64 (by omega) (by omega),hlen]
   have e:(⟨l[j].f0,l[j].f1,l[j].f2,l[j].f3⟩:S38)=l[j]:=rfl
   rw [← hc] at *
   first|rfl|(rw [e];rfl)|(simp)
  | false =>
   have ho:onL (l.take (j + 1))=onL (l.take j):=by unfold onL;rw [ht,List.filter_append];simp [hc]
   have hgo:=ih (j + 1) m hm (by omega) (by omega) (by rw [ho];omega) (by rw [ho];exact h4) hd1
   rw [ho] at hgo
   refine evStep (fun k=>?_) hgo
   simp only [impl_Session_61.l0,impl_onDel.f]
   rw [if_pos (by omega),if_pos (by omega),rd38 m j hjm,hmj,hc,Option.bind_some,if_pos (by decide),w64 (by omega) (by omega)]
   rfl
theorem on_ok (l:List S38) (hl:l.length ≤ 1048576):Ev (fun k=>impl_on.f k l) (onL l):=by
 refine evBind (evNow fun _=>copy_ok l hl) ?_
 refine evBind (a:=onL l) ?_ (evNow fun _=>rfl)
 obtain ⟨v,hv,hp⟩:=ixf_loop l hl l.length 0 (by omega) (by omega) (fun x h=>by omega)
 refine evBind (g:=fun k=>impl_Session_88.f k l) hv ?_
 rcases hp with ⟨rfl,hall⟩|⟨r,rfl,hr,hf,hall⟩
 ·have e:onL l=l:=by
   unfold onL
   rw [List.filter_eq_self]
   intro x hx
   obtain ⟨j,h,rfl⟩:=List.getElem_of_mem hx
   exact hall j h
  rw [e]
  exact evNow fun _=>by rw [if_pos rfl]
 ·have e:onL (l.take r)=l.take r:=by
   unfold onL
   rw [List.filter_eq_self]
   intro x hx
   obtain ⟨j,h,rfl⟩:=List.getElem_of_mem hx
   rw [List.getElem_take]
   rw [List.length_take] at h
   exact hall j (by omega) (by omega)
  have e2:onL (l.take (r + 1))=l.take r:=by
   rw [List.take_succ_eq_append_getElem hr]
   unfold onL at e ⊢
   rw [List.filter_append,e]
   simp [hf]
  have hlen:(onL (l.take (r + 1))).length=r:=by rw [e2,List.length_take];omega
  have h:=del_loop l hl (l.length - (r + 1)) (r + 1) l rfl (by omega) rfl (by omega) (by rw [hlen,e2]) rfl
  rw [hlen] at h
  exact evEq (fun k=>by rw [if_neg (by omega),w64 (by omega) (by omega)];rfl) h
end Go.Proofs.Ythmajmkgeapfnaa.A
