/- Plain facts on right sessions: what is put in, taken out or set leaves them right. No conditions. -/
import Derived.Test.YthmajmkgeapfnaaSC
set_option linter.unusedVariables false
set_option linter.unusedSimpArgs false
namespace Go.Proofs.Ythmajmkgeapfnaa.A
open Go.RowKit Go.Proofs.YthmajmkgeapfnaaW.PrintWords Go.Proofs.YthmajmkgeapfnaaW.PrintLast Go.Proofs.YthmajmkgeapfnaaW.PrintMore
theorem bytes_ext {a b:ByteArray} (h:a.toList=b.toList):a=b:=by
 rw [Lib.toList_data,Lib.toList_data] at h
 cases a;cases b
 simpa [Array.ext_iff] using h
def goodS (s:S38):Bool:=nameB s.f0 && (prioB s.f2 && (showB s.f3 && idle s))
theorem okFrom_of (l:List S38) (d:Nat):∀ i:Nat,(∀ x:Nat,i ≤ x → x < i + d → stepB l x=true) → okFrom l i d=true:=by
 induction d with
 | zero=>intro i _;rfl
 | succ d ih =>
  intro i h
  simp only [okFrom,Bool.and_eq_true]
  exact ⟨h i (Nat.le_refl _) (by omega),ih (i + 1) (fun x a b=>h x (by omega) (by omega))⟩
def ltS (a b:S38):Prop:=Op.bytesLess a.f0.toList b.f0.toList=true
theorem right_iff (l:List S38):rightB l=true ↔ l.length ≤ 5∧(∀ s ∈ l,goodS s=true)∧l.Pairwise ltS:=by
 constructor
 ·intro h
  have hs:=sorted_of_right h
  have h':=h
  unfold rightB at h'
  simp only [Bool.and_eq_true,decide_eq_true_eq] at h'
  have hst:=okFrom_step l l.length 0 h'.1
  refine ⟨by omega,fun s hm=>?_,List.pairwise_iff_getElem.2 fun i j hi hj hij=>?_⟩
  ·obtain ⟨i,hi,rfl⟩:=List.getElem_of_mem hm
   have:=hst i (by omega) (by omega)
   unfold stepB at this
   rw [rd38 l i hi] at this
   simp only [Bool.and_eq_true] at this
   unfold goodS
   simp only [Bool.and_eq_true]
   exact ⟨this.1,this.2.2⟩
  ·have:=hs i j hij hj
   unfold keyL at this
   rw [rd38 l i hi,rd38 l j hj] at this
   exact this
 ·rintro ⟨h5,hg,hp⟩
  have hx:=List.pairwise_iff_getElem.1 hp
  unfold rightB
  simp only [Bool.and_eq_true,decide_eq_true_eq]
  refine ⟨okFrom_of l l.length 0 fun x _ hxl=>?_,by omega⟩
  have hxl':x < l.length:=by omega
  have g:=hg _ (List.getElem_mem hxl')
  unfold goodS at g
  simp only [Bool.and_eq_true] at g
  unfold stepB
  rw [rd38 l x hxl']
  simp only [Bool.and_eq_true,Bool.or_eq_true,decide_eq_true_eq]
  refine ⟨g.1,?_,g.2⟩
  by_cases h0:x=0
  ·exact .inl (by omega)
  ·right
   have e:(x:Int) - 1=((x - 1:Nat):Int):=by omega
   rw [e,rd38 l (x - 1) (by omega)]
   exact hx (x - 1) x (by omega) hxl' (by omega)
theorem right_ins {l:List S38} (h:rightB l=true) (h5:l.length < 5) (r:Nat) (s:S38) (hs:goodS s=true) (h1:∀ a ∈ l.take r,ltS a s) (h2:∀ b ∈ l.drop r,ltS s b):rightB (l.take r ++ [s] ++ l.drop r)=true:=by
 obtain ⟨_,hg,hp⟩:=(right_iff l).1 h
 refine (right_iff _).2 ⟨?_,fun x hx=>?_,?_⟩
 ·simp only [List.length_append,List.length_take,List.length_drop,List.length_singleton]
  omega
 ·simp only [List.mem_append,List.mem_singleton] at hx
  rcases hx with (hx|rfl)|hx
  ·exact hg _ (List.mem_of_mem_take hx)
  ·exact hs
  ·exact hg _ (List.mem_of_mem_drop hx)
 ·rw [← List.take_append_drop r l,List.pairwise_append] at hp
  obtain ⟨p1,p2,p3⟩:=hp
  rw [List.append_assoc,List.pairwise_append]
  refine ⟨p1,?_,fun a ha b hb=>?_⟩
  ·rw [List.singleton_append,List.pairwise_cons]
   exact ⟨h2,p2⟩
  ·rw [List.singleton_append,List.mem_cons] at hb
   rcases hb with rfl|hb
   ·exact h1 a ha
   ·exact p3 a ha b hb
theorem right_del {l:List S38} (h:rightB l=true) (r:Nat):rightB (l.take r ++ l.drop (r + 1))=true:=by
 obtain ⟨h5,hg,hp⟩:=(right_iff l).1 h
 have hsub:(l.take r ++ l.drop (r + 1)).Sublist l:=by
  rw [← List.eraseIdx_eq_take_drop_succ]
  exact List.eraseIdx_sublist ..
 exact (right_iff _).2 ⟨Nat.le_trans hsub.length_le h5,fun x hx=>hg x (hsub.subset hx),hp.sublist hsub⟩
theorem right_set {l:List S38} (h:rightB l=true) (r:Nat) (hr:r < l.length) (s:S38) (hs:goodS s=true) (he:s.f0=l[r].f0):rightB (l.set r s)=true:=by
 obtain ⟨h5,hg,hp⟩:=(right_iff l).1 h
 refine (right_iff _).2 ⟨by simpa using h5,fun x hx=>?_,?_⟩
 ·rcases List.mem_or_eq_of_mem_set hx with hx|rfl
  ·exact hg x hx
  ·exact hs
 ·have hp':=List.pairwise_iff_getElem.1 hp
  have key:∀ i (hi:i < (l.set r s).length),(l.set r s)[i].f0=(l[i]'(by simpa using hi)).f0:=fun i hi=>by
   rw [List.getElem_set]
   split
   ·rename_i e
    subst e
    exact he
   ·rfl
  refine List.pairwise_iff_getElem.2 fun i j hi hj hij=>?_
  unfold ltS
  rw [key i hi,key j hj]
  exact hp' i j (by simpa using hi) (by simpa using hj) hij
/-- A name stands at one place alone. -/
theorem one_place {l:List S38} (h:rightB l=true) {i j:Nat} (hi:i < l.length) (hj:j < l.length) (e:l[i].f0=l[j].f0):i=j:=by
 have hp:=List.pairwise_iff_getElem.1 ((right_iff l).1 h).2.2
 rcases Nat.lt_trichotomy i j with a|a|a
 ·have:=hp i j hi hj a
  unfold ltS at this
  rw [e,less_irrefl] at this
  exact absurd this (by decide)
 ·exact a
 ·have:=hp j i hj hi a
  unfold ltS at this
  rw [e,less_irrefl] at this
  exact absurd this (by decide)
theorem name_ne {t:ByteArray} (h:nameB t=true):t.toList ≠ []:=by
 unfold nameB at h
 simp only [Bool.and_eq_true,Bool.not_eq_true',decide_eq_false_iff_not] at h
 exact h.1
theorem good_of {l:List S38} (h:rightB l=true) {r:Nat} (hr:r < l.length):goodS l[r]=true:=((right_iff l).1 h).2.1 _ (List.getElem_mem hr)
theorem good_name {s:S38} (h:goodS s=true):nameB s.f0=true:=by
 unfold goodS at h
 simp only [Bool.and_eq_true] at h
 exact h.1
theorem prio_zero:prioB 0=true:=by decide
theorem show_nil:showB ⟨#[]⟩=true:=by
 unfold showB anyB shows
 simp
theorem good_off {t:ByteArray} (h:nameB t=true):goodS ⟨t,false,0,⟨#[]⟩⟩=true:=by
 unfold goodS idle
 simp only [h,prio_zero,show_nil,Bool.true_and,Bool.false_or,Bool.and_eq_true,decide_eq_true_eq]
 refine ⟨?_,?_⟩
 ·trivial
 ·rw [Lib.toList_data]
theorem good_on {t:ByteArray} {p:Int} {q:ByteArray} (h:nameB t=true) (hp:prioB p=true) (hq:showB q=true):goodS ⟨t,true,p,q⟩=true:=by
 unfold goodS idle
 simp [h,hp,hq]
theorem right_five {l:List S38} (h:rightB l=true):l.length ≤ 5:=((right_iff l).1 h).1
theorem ev_same {α:Type} {f:Nat → Option α} {a b:α} (h:Ev f a) (h':Ev f b):a=b:=by
 obtain ⟨K,hK⟩:=h
 obtain ⟨J,hJ⟩:=h'
 have e1:=hK (K + J) (by omega)
 rw [hJ (K + J) (by omega)] at e1
 exact (Option.some.inj e1).symm
end Go.Proofs.Ythmajmkgeapfnaa.A
