/- Plain laws on rounds that are enough, and on the bytes of a text. No conditions. -/
import Derived.Test.YthmajmkgeapfnaaAx0
import Derived.Lib.Strings
import Derived.Lib.IndexAny
namespace Go.Proofs.Ythmajmkgeapfnaa.A
open Go.RowKit Go.Proofs.YthmajmkgeapfnaaW.PrintWords Go.Proofs.YthmajmkgeapfnaaW.PrintLast Go.Proofs.YthmajmkgeapfnaaW.PrintMore
theorem w64 {x:Int} (h:-9223372036854775808 ≤ x) (h':x ≤ 9223372036854775807):wrap64 x=x:=by
 unfold wrap64
 omega
theorem evNow {α:Type} {g:Nat → Option α} {r:α} (h:∀ k,g k=some r):Ev g r:=⟨0,fun k _=>h k⟩
theorem evStep {α:Type} {g f:Nat → Option α} {r:α} (h:∀ k,g (k + 1)=f k) (k:Ev f r):Ev g r:=Ev.step h k
theorem evOne {α:Type} {g:Nat → Option α} {r:α} (h:∀ k,g (k + 1)=some r):Ev g r:=Ev.step h (Ev.now r)
theorem evBind {α β:Type} {g:Nat → Option α} {f:Nat → α → Option β} {a:α} {r:β} (h:Ev g a) (k:Ev (fun n=>f n a) r):Ev (fun n=>(g n).bind (f n)) r:=Ev.bind h k
theorem evEq {α:Type} {g f:Nat → Option α} {r:α} (h:∀ k,g k=f k) (k:Ev f r):Ev g r:=Ev.congr h k
theorem bt_list (t:ByteArray) (i:Nat) (h:i < t.data.toList.length):bt t (i:Int)=((t.data.toList[i]).toNat:Int):=by
 unfold bt
 have h':i < t.size:=by rw [Lib.size_eq];exact h
 rw [dif_pos (show (i:Int).toNat < t.size by simpa using h')]
 rfl
theorem R_spot {α:Type} {d:Kd α} {e n c:Nat} {w:World} {base:Nat} {ok:Nat → Prop} {A:Option Addr} {xs:List α} (h:Kd.R d e w base ok (.slice A n c) xs):∀ a,A=some a → a.spot=none:=by
 rintro a rfl
 obtain ⟨_,inner,⟨_,ho⟩,_⟩:=h
 rcases ho with ⟨h,_⟩|⟨g,cap,cur,h,_⟩
 ·exact absurd h (by simp)
 ·injection h with h1
  simp only [Option.some.injEq] at h1
  subst h1
  rfl
theorem any_bar (chars:List UInt8):∀ s:List UInt8,Lib.containsAny s chars=s.any fun b=>chars.contains b
 | []=>rfl
 | b :: l=>by
  have ih:=any_bar chars l
  have hg:=Lib.indexAny_ge chars l
  unfold Lib.containsAny at ih ⊢
  rw [Lib.indexAny,List.any_cons]
  cases hb:chars.contains b with
  | true=>simp
  | false =>
   rw [← ih,if_neg (by decide),Bool.false_or]
   by_cases h:Lib.indexAny l chars=-1
   ·rw [h];rfl
   ·rw [if_neg (by simpa using h)]
    exact decide_eq_decide.2 (by omega)
end Go.Proofs.Ythmajmkgeapfnaa.A
