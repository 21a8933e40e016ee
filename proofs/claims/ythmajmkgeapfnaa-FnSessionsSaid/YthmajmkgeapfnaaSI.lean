/- Plain laws on the place of a resource in right sessions. Conditions: lengths below 2^20. -/
import Derived.Test.YthmajmkgeapfnaaSA
import Derived.Test.YthmajmkgeapfnaaSF
import Derived.Test.YthmajmkgeapfnaaF102
set_option linter.unusedVariables false
set_option linter.unusedSimpArgs false
namespace Go.Proofs.Ythmajmkgeapfnaa.A
open Go.RowKit Go.Proofs.YthmajmkgeapfnaaW.PrintWords Go.Proofs.YthmajmkgeapfnaaW.PrintLast Go.Proofs.YthmajmkgeapfnaaW.PrintMore
theorem at_info (l:List S38) (t:ByteArray) (hl:l.length ≤ 1048576):∃ (r:Nat) (b:Bool),r ≤ l.length∧Ev (fun k=>impl_sessionAt.f k l t) ((r:Int),b) ∧
  (rightB l=true → (∀ x:Nat,x < r → Op.bytesLess (keyL l x) t.toList=true)∧(∀ x:Nat,r ≤ x → x < l.length → Op.bytesLess (keyL l x) t.toList=false) ∧
   (b=true → ∃ h:r < l.length,l[r].f0=t)∧(b=false → ∀ x (h:x < l.length),l[x].f0 ≠ t)):=by
 obtain ⟨r,h1,h2,h3⟩:=bs_loop l t hl l.length 0 l.length (by omega) (by omega) (by omega)
 refine ⟨r,hitB l t r,h1,evBind (g:=fun k=>impl_Session_string.f k l t) h2 (evNow fun _=>rfl),fun hr=>?_⟩
 have hs:=sorted_of_right hr
 obtain ⟨p1,p2⟩:=h3 hs (fun x hx=>by omega) (fun x a b=>by omega)
 have key:∀ x,∀ h:x < l.length,keyL l x=l[x].f0.toList:=fun x h=>by unfold keyL;rw [rd38 l x h]
 refine ⟨p1,p2,fun hb=>?_,fun hb x hx e=>?_⟩
 ·obtain ⟨a,c⟩:=hit_iff.1 hb
  refine ⟨a,bytes_ext ?_⟩
  rw [← key r a]
  exact c
 ·have ke:keyL l x=t.toList:=by rw [key x hx,e]
  rcases Nat.lt_trichotomy x r with a|a|a
  ·have:=p1 x a
   rw [ke,less_irrefl] at this
   exact absurd this (by decide)
  ·subst a
   rw [hit_iff.2 ⟨hx,ke⟩] at hb
   exact absurd hb (by decide)
  ·have q:=p2 r (Nat.le_refl _) (by omega)
   have:=hs r x a hx
   rw [ke,q] at this
   exact absurd this (by decide)
/-- Both tell one place. -/
theorem at_same {l:List S38} {t:ByteArray} (hl:l.length ≤ 1048576) {r:Nat} {b:Bool} (h:Ev (fun k=>impl_sessionAt.f k l t) ((r:Int),b)) (hr:rightB l=true) :
  (∀ x:Nat,x < r → Op.bytesLess (keyL l x) t.toList=true)∧(∀ x:Nat,r ≤ x → x < l.length → Op.bytesLess (keyL l x) t.toList=false)∧(b=true → ∃ h:r < l.length,l[r].f0=t)∧(b=false → ∀ x (h:x < l.length),l[x].f0 ≠ t):=by
 obtain ⟨r',b',_,h',hp⟩:=at_info l t hl
 have e:=ev_same h h'
 simp only [Prod.mk.injEq] at e
 obtain ⟨e1,rfl⟩:=e
 obtain rfl:r=r':=by omega
 exact hp hr
end Go.Proofs.Ythmajmkgeapfnaa.A
