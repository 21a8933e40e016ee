/- Plain laws on rows of sessions in order: what stands where. Conditions: lengths below 2^20. -/
import Derived.Test.YthmajmkgeapfnaaSP
import Derived.Test.YthmajmkgeapfnaaF67
namespace Go.Proofs.Ythmajmkgeapfnaa.A
open Go.RowKit Go.Proofs.YthmajmkgeapfnaaW.PrintWords Go.Proofs.YthmajmkgeapfnaaW.PrintLast Go.Proofs.YthmajmkgeapfnaaW.PrintMore
theorem less_irrefl:∀ a:List UInt8,Op.bytesLess a a=false
 | []=>rfl
 | x :: a=>by
  have ih:=less_irrefl a
  unfold Op.bytesLess
  simp [ih]
theorem less_trans:∀ {a b c:List UInt8},Op.bytesLess a b=true → Op.bytesLess b c=true → Op.bytesLess a c=true
 | [],[],_,h,_=>by simp [Op.bytesLess] at h
 | [],_ :: _,[],_,h=>by simp [Op.bytesLess] at h
 | [],_ :: _,_ :: _,_,_=>rfl
 | _ :: _,[],_,h,_=>by simp [Op.bytesLess] at h
 | _ :: _,_ :: _,[],_,h=>by simp [Op.bytesLess] at h
 | x :: a,y :: b,z :: c,h,k=>by
  have ih:=@less_trans a b c
  unfold Op.bytesLess at h k ⊢
  simp only [Bool.or_eq_true,Bool.and_eq_true,decide_eq_true_eq,beq_iff_eq] at h k ⊢
  rcases h with h|⟨rfl,h⟩
  ·rcases k with k|⟨rfl,k⟩
   ·left
    have h1:=UInt8.lt_iff_toNat_lt.1 h
    have k1:=UInt8.lt_iff_toNat_lt.1 k
    exact UInt8.lt_iff_toNat_lt.2 (by omega)
   ·exact .inl h
  ·rcases k with k|⟨rfl,k⟩
   ·exact .inl k
   ·exact .inr ⟨rfl,ih h k⟩
def keyL (l:List S38) (i:Nat):List UInt8:=(rd_T38 l (i:Int)).f0.toList
def sortedL (l:List S38):Prop:=∀ i j:Nat,i < j → j < l.length → Op.bytesLess (keyL l i) (keyL l j)=true
theorem at_loop (l:List S38) (t:ByteArray) (hl:l.length ≤ 1048576) (d:Nat):∀ i:Nat,i ≤ l.length → l.length - i=d → ∃ v:Int,Ev (fun k=>spec_l09At.l0 k l t (i:Int)) v ∧
  ((v=-1∧∀ x:Nat,i ≤ x → x < l.length → keyL l x ≠ t.toList) ∨ ∃ x:Nat,x < l.length∧v=(x:Int)∧keyL l x=t.toList):=by
 induction d with
 | zero =>
  intro i h1 h2
  refine ⟨-1,evOne fun k=>?_,.inl ⟨rfl,fun x a b=>by omega⟩⟩
  simp only [spec_l09At.l0]
  rw [if_neg (by omega)]
 | succ d ih =>
  intro i h1 h2
  by_cases hc:keyL l i=t.toList
  ·refine ⟨(i:Int),evOne fun k=>?_,.inr ⟨i,by omega,rfl,hc⟩⟩
   simp only [spec_l09At.l0]
   rw [if_pos (by omega),if_pos (by omega),if_pos (show (rd_T38 l (i:Int)).f0.toList=t.toList from hc)]
  ·obtain ⟨v,hv,hp⟩:=ih (i + 1) (by omega) (by omega)
   refine ⟨v,evStep (fun k=>?_) hv,?_⟩
   ·simp only [spec_l09At.l0]
    rw [if_pos (by omega),if_pos (by omega),if_neg (show ¬ (rd_T38 l (i:Int)).f0.toList=t.toList from hc),w64 (by omega) (by omega)]
    rfl
   ·rcases hp with ⟨e,h⟩|h
    ·refine .inl ⟨e,fun x a b=>?_⟩
     by_cases ex:x=i
     ·subst ex;exact hc
     ·exact h x (by omega) b
    ·exact .inr h
theorem okFrom_step (l:List S38) (d:Nat):∀ i:Nat,okFrom l i d=true → ∀ x:Nat,i ≤ x → x < i + d → stepB l x=true:=by
 induction d with
 | zero=>intro i _ x a b;omega
 | succ d ih =>
  intro i h x a b
  simp only [okFrom,Bool.and_eq_true] at h
  by_cases e:x=i
  ·subst e;exact h.1
  ·exact ih (i + 1) h.2 x (by omega) (by omega)
theorem sorted_of_right {l:List S38} (h:rightB l=true):sortedL l:=by
 unfold rightB at h
 simp only [Bool.and_eq_true] at h
 have hs:=okFrom_step l l.length 0 h.1
 have step:∀ x:Nat,0 < x → x < l.length → Op.bytesLess (keyL l (x - 1)) (keyL l x)=true:=by
  intro x a b
  have:=hs x (by omega) (by omega)
  unfold stepB at this
  simp only [Bool.and_eq_true,Bool.or_eq_true,decide_eq_true_eq] at this
  rcases this.2.1 with e|e
  ·omega
  ·unfold ltB at e
   unfold keyL
   rw [show ((x - 1:Nat):Int)=(x:Int) - 1 by omega]
   exact e
 intro i j hij hj
 induction j with
 | zero=>omega
 | succ j ih =>
  have s1:=step (j + 1) (by omega) hj
  simp only [Nat.add_sub_cancel] at s1
  by_cases e:i=j
  ·subst e;exact s1
  ·exact less_trans (ih (by omega) (by omega)) s1
end Go.Proofs.Ythmajmkgeapfnaa.A
