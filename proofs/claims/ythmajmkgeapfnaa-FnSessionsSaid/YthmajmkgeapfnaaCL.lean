/- Clearing the rest of a row of sessions that this call owns: what stands ahead of it stays. Conditions: the row is the call's own. -/
import Derived.Test.YthmajmkgeapfnaaAx0
import Derived.Laws.IdiomCopy
import Derived.Lib.SliceRun
namespace Go.Proofs.Ythmajmkgeapfnaa.A
set_option linter.unusedVariables false
set_option linter.unusedSimpArgs false
open Go.RowKit Go.Proofs.YthmajmkgeapfnaaW.PrintWords Go.Proofs.YthmajmkgeapfnaaW.PrintLast Go.Proofs.YthmajmkgeapfnaaW.PrintMore
theorem setCells_blk (g:Nat) (t:TypeId):∀ (vs:List Value) (o:Nat) (w:World) (cs:Array Value),w.heap[g]?=some (.cells cs t (0,0)) →
  ∃ cs',(w.setCells g o vs).heap[g]?=some (.cells cs' t (0,0))∧cs'.size=cs.size∧cs'.toList.take o=cs.toList.take o
 | [],_,_,cs,h=>⟨cs,h,rfl,rfl⟩
 | v :: r,o,w,cs,h=>by
  obtain ⟨cs',h1,h2,h3⟩:=setCells_blk g t r (o + 1) (w.setCell ⟨g,o,none⟩ v) (cs.setIfInBounds o v) (blk_set h o v)
  refine ⟨cs',h1,by simpa using h2,?_⟩
  have e:cs'.toList.take o=(cs'.toList.take (o + 1)).take o:=by rw [List.take_take];congr 1;omega
  rw [e,h3,List.take_take,Array.toList_setIfInBounds,List.take_set_of_le (by omega)]
  congr 1
  omega
theorem setCells_kept {w0:World} {S:Nat → Prop} (g:Nat) (hg:S g ∨ w0.heap.size ≤ g):∀ (vs:List Value) (o:Nat) (w:World),Kept w0 w S → Kept w0 (w.setCells g o vs) S
 | [],_,_,h=>h
 | v :: r,o,w,h=>setCells_kept g hg r (o + 1) _ (Kept.setCell h (p:=⟨g,o,none⟩) hg v)
theorem setCells_below {w0:World} (g:Nat) (hg:w0.heap.size ≤ g):∀ (vs:List Value) (o:Nat) (w:World),Below w0.heap.size w0 w → Below w0.heap.size w0 (w.setCells g o vs)
 | [],_,_,h=>h
 | v :: r,o,w,h=>setCells_below g hg r (o + 1) _ (below_set h hg)
theorem setCells_size (g:Nat):∀ (vs:List Value) (o:Nat) (w:World),(w.setCells g o vs).heap.size=w.heap.size
 | [],_,_=>rfl
 | v :: r,o,w=>by
  show ((w.setCell ⟨g,o,none⟩ v).setCells g (o + 1) r).heap.size=_
  rw [setCells_size g r]
  simp [World.setCell]
theorem zero38 (m:Nat):∀ v ∈ (Builtin.zeroCells #[(.string ⟨#[]⟩),(.bool false),(.int .i64 0),(.string ⟨#[]⟩)] m).toList,v.oneCell'=true:=by
 intro v hv
 unfold Builtin.zeroCells at hv
 simp only [Array.toList_map,List.mem_map] at hv
 obtain ⟨j,_,rfl⟩:=hv
 have hj:j % 4 < 4:=Nat.mod_lt _ (by decide)
 show ((#[(.string ⟨#[]⟩),(.bool false),(.int .i64 0),(.string ⟨#[]⟩)]:Array Value)[j % 4]!).oneCell'=true
 match j % 4,hj with
 | 0,_=>rfl
 | 1,_=>rfl
 | 2,_=>rfl
 | 3,_=>rfl
theorem zero38_len (m:Nat):(Builtin.zeroCells #[(.string ⟨#[]⟩),(.bool false),(.int .i64 0),(.string ⟨#[]⟩)] m).toList.length=m * 4:=by
 simp [Builtin.zeroCells]
theorem clear38 {w:World} {base:Nat} {ok:Nat → Prop} {A:Option Addr} {n cap:Nat} {xs:List S38} (h:Kd.R k38 38 w base ok (.slice A n cap) xs) (hx:xs.length=n) (i:Nat) (hi:i ≤ n) :
  ∃ w',(∀ ty,(Builtin.clear_ #[25] ty #[.slice (if cap=i then A else A.map (·.add (i * 4))) (n - i) (cap - i)]).run Try.prog w=.ok (.tuple #[]) w')∧Kd.R k38 38 w' base ok (.slice A i cap) (xs.take i) ∧
   (∀ (w0:World) (S:Nat → Prop),(∀ k,ok k → S k ∨ w0.heap.size ≤ k) → Kept w0 w S → Kept w0 w' S)∧(∀ w0:World,w0.heap.size ≤ base → Below w0.heap.size w0 w → Below w0.heap.size w0 w'):=by
 have h1:=Kd.R_take (m:=i) h (by omega)
 by_cases hn:n - i=0
 ·refine ⟨w,fun ty=>?_,h1,fun _ _ _ hk=>hk,fun _ _ hb=>hb⟩
  rw [hn]
  simp [Builtin.clear_,run_underlying Try.underlying25]
  split <;> simp_all
 ·obtain ⟨hok,inner,⟨hl,hc⟩,hr⟩:=h1
  obtain ⟨hok0,inner0,⟨hl0,hc0⟩,hr0⟩:=h
  rcases hc0 with ⟨e0,en⟩|⟨g,cap',cur,e0,hb,hh,h2,h3,h4,h5⟩
  ·omega
  ·injection e0 with eA e1 e2
   subst eA
   subst e2
   have hcap:¬ cap=i:=by omega
   rcases hc with ⟨e0',_⟩|⟨g',cap2,cur2,e0',hb',hh',h2',h3',h4',h5'⟩
   ·exact absurd e0' (by simp)
   ·injection e0' with eA' e1' e2'
    simp only [Option.some.injEq,Addr.mk.injEq,and_true] at eA'
    have eg:g=g':=by omega
    subst eg
    subst e2'
    have hlen:(xs.take i).length=i:=e1'.symm
    obtain rfl:cur2=cur:=by rw [hh'] at hh;simpa using hh
    have hsz:cur2.size=cap * 4:=h4'
    obtain ⟨cs',k1,k2,k3⟩:=setCells_blk g 38 (Builtin.zeroCells #[(.string ⟨#[]⟩),(.bool false),(.int .i64 0),(.string ⟨#[]⟩)] (n - i)).toList (i * 4) w cur2 hh'
    refine ⟨w.setCells g (i * 4) (Builtin.zeroCells #[(.string ⟨#[]⟩),(.bool false),(.int .i64 0),(.string ⟨#[]⟩)] (n - i)).toList,fun ty=>?_,⟨hok,inner,⟨hl,.inr ⟨g,cap,cs',by rw [hlen],hb,k1,h2',h3,by rw [k2];exact h4,by rw [hlen] at h5' ⊢;exact k3.trans h5'⟩⟩,hr.imp_ (fun _ _ hp=>hp)⟩,fun w0 S hS hk=>setCells_kept g (hS g (hok0 g rfl)) _ _ _ hk,fun w0 hle hbe=>setCells_below g (by omega) _ _ _ hbe⟩
    rw [if_neg hcap]
    have hst:=run_storeCells_cells (P:=Try.prog) g (i * 4) (Builtin.zeroCells #[(.string ⟨#[]⟩),(.bool false),(.int .i64 0),(.string ⟨#[]⟩)] (n - i)).toList 0 w
     (fun j hj=>by
      rw [zero38_len] at hj
      have hlt:i * 4 + 0 + j < cur2.size:=by omega
      rw [blk_cell hh' (i * 4 + 0 + j),Array.getElem?_eq_getElem hlt]
      rfl)
     (fun j hj=>blk_frozen hh' _) (zero38 _)
    simp only [Nat.add_zero] at hst
    have hz:=Try.zeroValue38
    obtain ⟨m,hm⟩:∃ m,n - i=m + 1:=⟨n - i - 1,by omega⟩
    have hadd:(⟨g,0,none⟩:Addr).add (i * 4)=⟨g,i * 4,none⟩:=by simp [Addr.add] <;> omega
    rw [hm] at hst ⊢
    simp [Builtin.clear_,run_underlying Try.underlying25,hz,hadd,hst,Value.cells]
end Go.Proofs.Ythmajmkgeapfnaa.A
