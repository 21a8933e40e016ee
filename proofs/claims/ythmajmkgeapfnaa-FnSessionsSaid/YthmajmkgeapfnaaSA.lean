/- Plain laws on the place of a resource in sessions: the binary search and the search from the front agree on right sessions. Conditions: lengths below 2^20. -/
import Derived.Test.YthmajmkgeapfnaaSC
import Derived.Test.YthmajmkgeapfnaaF102
import Derived.Test.YthmajmkgeapfnaaF67
namespace Go.Proofs.Ythmajmkgeapfnaa.A
open Go.RowKit Go.Proofs.YthmajmkgeapfnaaW.PrintWords Go.Proofs.YthmajmkgeapfnaaW.PrintLast Go.Proofs.YthmajmkgeapfnaaW.PrintMore
def cmpV (a b:List UInt8):Int:=if Op.bytesLess a b=true then -1 else if Op.bytesLess b a=true then 1 else 0
theorem cmp_is (a b:ByteArray):cmp_Compare_string.f a b=some (cmpV a.toList b.toList):=by
 unfold cmp_Compare_string.f cmp_isNaN_string.f cmpV
 simp only [bne_self_eq_false,Option.bind_some]
 rw [if_neg (by decide),if_neg (by decide)]
 split
 ·rfl
 ·split <;> rfl
theorem cmpS_is (s:S38) (b:ByteArray):impl_sessionAtCmp.f s.f0 s.f1 s.f2 s.f3 b=some (cmpV s.f0.toList b.toList):=by
 unfold impl_sessionAtCmp.f
 rw [cmp_is]
 rfl
theorem cmpV_neg (a b:List UInt8):cmpV a b < 0 ↔ Op.bytesLess a b=true:=by
 unfold cmpV
 split
 ·simp_all
 ·split <;> simp_all
theorem cmpV_zero (a b:List UInt8):cmpV a b=0 ↔ a=b:=by
 unfold cmpV
 constructor
 ·intro h
  split at h
  ·simp at h
  ·split at h
   ·simp at h
   ·rename_i h1 h2
    have ht:=less_total a b
    simp only [Bool.not_eq_true] at h1 h2
    rw [h1,h2] at ht
    simpa using ht
 ·rintro rfl
  rw [less_irrefl]
  rfl
theorem wrapU (n:Int):IntKind.u64.wrap n=n % 18446744073709551616:=by simp [IntKind.wrap,IntKind.bits,IntKind.signed]
def hitB (l:List S38) (t:ByteArray) (r:Nat):Bool:=decide (r < l.length) && (cmpV (keyL l r) t.toList == 0)
theorem bs_loop (l:List S38) (t:ByteArray) (hl:l.length ≤ 1048576) (d:Nat):∀ i j:Nat,i ≤ j → j ≤ l.length → j - i ≤ d → ∃ r:Nat,r ≤ l.length∧Ev (fun k=>impl_Session_string.l0 k l t (l.length:Int) (i:Int) (j:Int)) ((r:Int),hitB l t r) ∧
  (sortedL l → (∀ x:Nat,x < i → Op.bytesLess (keyL l x) t.toList=true) → (∀ x:Nat,j ≤ x → x < l.length → Op.bytesLess (keyL l x) t.toList=false) →
   (∀ x:Nat,x < r → Op.bytesLess (keyL l x) t.toList=true)∧∀ x:Nat,r ≤ x → x < l.length → Op.bytesLess (keyL l x) t.toList=false):=by
 have stop:∀ i j:Nat,i=j → j ≤ l.length → ∃ r:Nat,r ≤ l.length∧Ev (fun k=>impl_Session_string.l0 k l t (l.length:Int) (i:Int) (j:Int)) ((r:Int),hitB l t r) ∧
  (sortedL l → (∀ x:Nat,x < i → Op.bytesLess (keyL l x) t.toList=true) → (∀ x:Nat,j ≤ x → x < l.length → Op.bytesLess (keyL l x) t.toList=false) →
   (∀ x:Nat,x < r → Op.bytesLess (keyL l x) t.toList=true)∧∀ x:Nat,r ≤ x → x < l.length → Op.bytesLess (keyL l x) t.toList=false):=by
  rintro i j rfl hj
  refine ⟨i,hj,evOne fun k=>?_,fun _ h1 h2=>⟨h1,h2⟩⟩
  simp only [impl_Session_string.l0]
  rw [if_neg (by omega)]
  unfold hitB
  by_cases hi:i < l.length
  ·rw [if_pos (by omega),if_pos (by omega),if_pos (by omega),cmpS_is,Option.bind_some,decide_eq_true hi]
   rfl
  ·rw [if_neg (by omega),decide_eq_false hi]
   rfl
 induction d with
 | zero =>
  intro i j h1 h2 h3
  exact stop i j (by omega) h2
 | succ d ih =>
  intro i j h1 h2 h3
  by_cases he:i=j
  ·exact stop i j he h2
  ·have hm:wrap64 (IntKind.u64.wrap (wrap64 ((i:Int) + (j:Int))) / 2)=(((i + j) / 2:Nat):Int):=by
    rw [w64 (x:=(i:Int) + (j:Int)) (by omega) (by omega),wrapU,w64 (by omega) (by omega)]
    omega
   have hmj:(i + j) / 2 < j:=by omega
   have him:i ≤ (i + j) / 2:=by omega
   by_cases hc:Op.bytesLess (keyL l ((i + j) / 2)) t.toList=true
   ·obtain ⟨r,hr,hv,hp⟩:=ih ((i + j) / 2 + 1) j (by omega) h2 (by omega)
    refine ⟨r,hr,evStep (fun k=>?_) hv,fun hs a b=>hp hs (fun x hx=>?_) b⟩
    ·simp only [impl_Session_string.l0]
     rw [if_pos (by omega),hm,if_pos (by omega),if_pos (by omega),cmpS_is,Option.bind_some,if_pos (show cmpV (rd_T38 l (((i + j) / 2:Nat):Int)).f0.toList t.toList < 0 from (cmpV_neg _ _).2 hc),w64 (by omega) (by omega)]
     rfl
    ·by_cases e:x=(i + j) / 2
     ·subst e;exact hc
     ·exact less_trans (hs x ((i + j) / 2) (by omega) (by omega)) hc
   ·obtain ⟨r,hr,hv,hp⟩:=ih i ((i + j) / 2) him (by omega) (by omega)
    refine ⟨r,hr,evStep (fun k=>?_) hv,fun hs a b=>hp hs a (fun x hx hxl=>?_)⟩
    ·simp only [impl_Session_string.l0]
     rw [if_pos (by omega),hm,if_pos (by omega),if_pos (by omega),cmpS_is,Option.bind_some,if_neg (show ¬ cmpV (rd_T38 l (((i + j) / 2:Nat):Int)).f0.toList t.toList < 0 from fun h=>hc ((cmpV_neg _ _).1 h))]
    ·by_cases e:x=(i + j) / 2
     ·subst e;simpa using hc
     ·cases hlx:Op.bytesLess (keyL l x) t.toList with
      | false=>rfl
      | true=>exact absurd (less_trans (hs ((i + j) / 2) x (by omega) hxl) hlx) hc
theorem hit_iff {l:List S38} {t:ByteArray} {r:Nat}:hitB l t r=true ↔ r < l.length∧keyL l r=t.toList:=by
 unfold hitB
 rw [Bool.and_eq_true,decide_eq_true_eq,beq_iff_eq,cmpV_zero]
/-- The binary search tells something; on right sessions both searches tell the same. -/
theorem at_ok (l:List S38) (t:ByteArray) (hl:l.length ≤ 1048576):∃ (r:Nat) (b:Bool) (v:Int),r ≤ l.length∧Ev (fun k=>impl_sessionAt.f k l t) ((r:Int),b)∧Ev (fun k=>spec_l09At.f k l t) v ∧
  (rightB l=true → (b=true∧v=(r:Int)∧r < l.length) ∨ (b=false∧v < 0)):=by
 obtain ⟨r,h1,h2,h3⟩:=bs_loop l t hl l.length 0 l.length (by omega) (by omega) (by omega)
 obtain ⟨v,k1,k2⟩:=at_loop l t hl l.length 0 (by omega) (by omega)
 refine ⟨r,hitB l t r,v,h1,evBind (g:=fun k=>impl_Session_string.f k l t) h2 (evNow fun _=>rfl),k1,fun hr=>?_⟩
 have hs:=sorted_of_right hr
 obtain ⟨p1,p2⟩:=h3 hs (fun x hx=>by omega) (fun x a b=>by omega)
 rcases k2 with ⟨rfl,hno⟩|⟨x,hx,rfl,he⟩
 ·right
  refine ⟨?_,by omega⟩
  cases hb:hitB l t r with
  | false=>rfl
  | true=>exact absurd (hit_iff.1 hb).2 (hno r (by omega) (hit_iff.1 hb).1)
 ·left
  have hxr:x=r:=by
   rcases Nat.lt_trichotomy x r with h|h|h
   ·have:=p1 x h
    rw [he,less_irrefl] at this
    exact absurd this (by decide)
   ·exact h
   ·have q:=p2 r (Nat.le_refl _) (by omega)
    have:=hs r x h hx
    rw [he,q] at this
    exact absurd this (by decide)
  subst hxr
  exact ⟨hit_iff.2 ⟨hx,he⟩,rfl,hx⟩
theorem long_ok (t:ByteArray):Ev (fun k=>impl_long.f k [t]) (decide ((t.size:Int) > 20000)):=by
 by_cases h:(t.size:Int) > 20000
 ·rw [decide_eq_true h]
  refine evOne (g:=fun k=>impl_long.l0 k [t] 1 0) fun k=>?_
  simp only [impl_long.l0]
  rw [if_pos (by omega),if_pos (by omega),if_pos (by simp),if_pos (show ((rdOf ByteArray.empty [t] 0).size:Int) > 20000 from h)]
 ·rw [decide_eq_false h]
  refine evStep (g:=fun k=>impl_long.l0 k [t] 1 0) (f:=fun k=>impl_long.l0 k [t] 1 1) (fun k=>?_) (evOne fun k=>?_)
  ·simp only [impl_long.l0]
   rw [if_pos (by omega),if_pos (by omega),if_pos (by simp),if_neg (show ¬ ((rdOf ByteArray.empty [t] 0).size:Int) > 20000 from h),w64 (by omega) (by omega)]
   rfl
  ·simp only [impl_long.l0]
   rw [if_neg (by omega)]
end Go.Proofs.Ythmajmkgeapfnaa.A
