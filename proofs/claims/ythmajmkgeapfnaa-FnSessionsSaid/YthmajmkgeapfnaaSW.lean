/- Plain laws for FnSessions: the draws, what is seen, one list held against itself. Conditions: at most 2^20 bytes. -/
import Derived.Test.YthmajmkgeapfnaaSG
import Derived.Test.YthmajmkgeapfnaaSF
import Derived.Test.YthmajmkgeapfnaaSN
import Derived.Test.YthmajmkgeapfnaaSE
import Derived.Test.YthmajmkgeapfnaaF42
import Derived.Test.YthmajmkgeapfnaaF44
import Derived.Test.YthmajmkgeapfnaaF18
import Derived.Test.YthmajmkgeapfnaaF26
import Derived.Test.YthmajmkgeapfnaaF64
set_option linter.unusedVariables false
set_option linter.unusedSimpArgs false
namespace Go.Proofs.Ythmajmkgeapfnaa.A
open Go.RowKit Go.Proofs.YthmajmkgeapfnaaW.PrintWords Go.Proofs.YthmajmkgeapfnaaW.PrintLast Go.Proofs.YthmajmkgeapfnaaW.PrintMore
theorem right_small {l:List S38} (h:rightB l=true):∀ s ∈ l,s.f0.size ≤ 1048576∧s.f3.size ≤ 1048576:=by
 intro s hs
 have g:=((right_iff l).1 h).2.1 s hs
 unfold goodS at g
 simp only [Bool.and_eq_true] at g
 obtain ⟨g1,_,g3,_⟩:=g
 constructor
 ·unfold nameB resB at g1
  simp only [Bool.and_eq_true,decide_eq_true_eq] at g1
  omega
 ·unfold showB anyB at g3
  simp only [List.any_eq_true,decide_eq_true_eq] at g3
  obtain ⟨y,hy,e⟩:=g3
  rw [← bytes_ext e]
  simp only [shows,List.mem_cons,List.not_mem_nil,or_false] at hy
  rcases hy with rfl|rfl|rfl|rfl|rfl <;> decide
theorem lws_loop (l:List S38) (hl:l.length ≤ 1048576) (d:Nat):∀ i:Nat,i ≤ l.length → l.length - i=d → Ev (fun k=>laws_lwSessions.l0 k l l (i:Int)) true:=by
 induction d with
 | zero =>
  intro i h1 h2
  exact evOne fun k=>by simp only [laws_lwSessions.l0];rw [if_neg (by omega)]
 | succ d ih =>
  intro i h1 h2
  refine evStep (f:=fun k=>laws_lwSessions.l0 k l l ((i + 1:Nat):Int)) (fun k=>?_) (ih (i + 1) (by omega) (by omega))
  simp only [laws_lwSessions.l0]
  rw [if_pos (by omega),if_pos (by omega),if_pos (by omega),if_neg (by simp),w64 (by omega) (by omega)]
  rfl
theorem lws_ok (l:List S38) (hl:l.length ≤ 1048576):Ev (fun k=>laws_lwSessions.f k l l) true :=
 evEq (f:=fun k=>laws_lwSessions.l0 k l l ((0:Nat):Int)) (fun k=>by unfold laws_lwSessions.f;rw [if_pos rfl];rfl) (lws_loop l hl l.length 0 (by omega) (by omega))
theorem lwb_ok (q:List S38) (c:Int) (hl:q.length ≤ 1048576) (h:c=0 → rightB q=true):Ev (fun k=>laws_lwBound.f k q c q c) true:=by
 refine evEq (fun k=>by unfold laws_lwBound.f;rw [if_pos rfl]) (evBind (lws_ok q hl) ?_)
 by_cases hc:c=0
 ·refine evEq (fun k=>by rw [if_pos rfl,if_pos hc]) (evBind (right_spec q hl (fun s hs=>(right_small (h hc) s hs).1)) (evNow fun _=>?_))
  rw [h hc]
 ·exact evNow fun k=>by rw [if_pos rfl,if_neg hc]
def someOn (l:List S38):Bool:=rightB l && l.any fun s=>s.f1
theorem anyone_full (l:List S38) (hl:l.length ≤ 1048576) (hz:∀ x ∈ l,x.f0.size ≤ 1048576):Ev (fun k=>impl_Anyone.f k l) (someOn l)∧Ev (fun k=>spec_Anyone.f k l) (someOn l):=by
 unfold someOn
 cases hr:rightB l with
 | false =>
  refine ⟨evBind (right_impl l hl) (evNow fun _=>?_),evBind (right_spec l hl hz) (evNow fun _=>?_)⟩ <;> rw [hr] <;> rfl
 | true =>
  rw [Bool.true_and]
  refine ⟨evBind (right_impl l hl) ?_,evBind (right_spec l hl hz) ?_⟩
  ·rw [hr]
   refine evEq (fun k=>by rw [if_pos rfl]) (evBind (on_ok l hl) (evNow fun _=>?_))
   rw [on_any]
  ·rw [hr]
   refine evEq (f:=fun k=>spec_Anyone.l0 k l ((0:Nat):Int)) (fun k=>by rw [if_pos rfl];rfl) ?_
   exact any_loop l hl l.length 0 (by omega) (by omega)
theorem join_some (l:List S38):(Lib.join ((onL l).map partL) [32] != [])=l.any fun s=>s.f1:=by
 rw [← on_any]
 cases h:onL l with
 | nil=>rfl
 | cons s r =>
  rw [List.map_cons,Lib.join_cons]
  have hp:partL s ≠ []:=fun e=>by
   have:=congrArg List.length e
   have h2:=part_size s
   unfold partL at this
   rw [ByteArray.size] at h2
   simp at this
   simp [this] at h2
   omega
  cases hq:partL s with
  | nil=>exact absurd hq hp
  | cons a b=>simp
theorem seen_full (l:List S38) (hl:l.length ≤ 1048576) (hz:∀ x ∈ l,x.f0.size ≤ 1048576) (hz3:∀ x ∈ l,x.f3.size ≤ 1048576):∃ t u,Ev (fun k=>impl_Seen.f k l) t∧Ev (fun k=>spec_Seen.f k l) u∧t.toList=u.toList∧(t.toList != ([]:List UInt8))=someOn l:=by
 unfold someOn
 cases hr:rightB l with
 | false =>
  refine ⟨⟨#[]⟩,⟨#[]⟩,evBind (right_impl l hl) (evNow fun _=>?_),evBind (right_spec l hl hz) (evNow fun _=>?_),rfl,by rw [Lib.toList_data];rfl⟩ <;> rw [hr] <;> rfl
 | true =>
  have hs:∀ x ∈ onL l,x ∈ l:=fun x hx=>(List.mem_filter.1 hx).1
  have hlo:(onL l).length ≤ l.length:=List.length_filter_le _ _
  have h1:=seen_impl (onL l) (by omega) (fun x hx=>hz x (hs x hx)) (fun x hx=>hz3 x (hs x hx)) (onL l).length 0 [] (by omega) (by omega) rfl
  obtain ⟨u,h2,h3⟩:=seen_spec l hl hz hz3 l.length 0 ⟨#[]⟩ (by omega) (by omega) (by simp [ByteArray.size]) (by simp [onL,Lib.join]) (by simp [onL])
  have he:(joinB ((onL l).map part) ⟨#[32]⟩).toList=u.toList:=by
   rw [Lib.toList_data,Lib.toList_data,h3]
   unfold joinB
   simp only [List.map_map]
   rfl
  refine ⟨joinB ((onL l).map part) ⟨#[32]⟩,u,evBind (right_impl l hl) ?_,evBind (right_spec l hl hz) ?_,he,?_⟩
  ·rw [hr]
   refine evEq (fun k=>by rw [if_pos rfl]) (evBind (on_ok l hl) ?_)
   exact h1
  ·rw [hr]
   exact evEq (f:=fun k=>spec_Seen.l0 k l ⟨#[]⟩ ((0:Nat):Int)) (fun k=>by rw [if_pos rfl];rfl) h2
  ·rw [he,Lib.toList_data,h3,Bool.true_and]
   exact join_some l
theorem drawBind_ok (l:List Int) (hl:l.length ≤ 1048576):∃ q t,Ev (fun k=>spec_DrawBind.f k l) (q,t)∧few q 101∧t.size ≤ 10:=by
 obtain ⟨x0,m0,h0⟩:=source_ok l hl
 obtain ⟨q,i1,x1,m1,hv,hq,h1⟩:=sess_at l 0 x0 m0 (at_zero l hl)
 obtain ⟨v2,i2,x2,m2,e2,h2⟩:=one_ok l i1 x1 m1 8 h1 (by omega) (by omega)
 cases v2 with
 | true =>
  obtain ⟨v3,i3,x3,m3,e3,hm,h3⟩:=pick_ok l i2 x2 m2 [(⟨#[]⟩:ByteArray),(⟨#[97,47,98]⟩:ByteArray),(⟨#[110,101,119]⟩:ByteArray)] h2 (by decide) (by decide)
  refine ⟨q,v3,evBind h0 (evBind hv (evNow fun _=>?_)),hq,?_⟩
  ·simp only [e2,e3,Option.bind_some]
   rfl
  ·simp only [List.mem_cons,List.not_mem_nil,or_false] at hm
   rcases hm with rfl|rfl|rfl <;> decide
 | false =>
  obtain ⟨v3,i3,x3,m3,e3,hm,h3⟩:=name_ok l i2 x2 m2 h2
  refine ⟨q,v3,evBind h0 (evBind hv (evNow fun _=>?_)),hq,hm⟩
  simp only [e2,e3,Option.bind_some]
  rfl
theorem drawUnbind_ok (l:List Int) (hl:l.length ≤ 1048576):∃ q t,Ev (fun k=>spec_DrawUnbind.f k l) (q,t)∧few q 101∧t.size ≤ 10 :=
 let ⟨q,t,h,h2⟩:=drawBind_ok l hl
 ⟨q,t,evBind h (evNow fun _=>rfl),h2⟩
theorem drawAbsent_ok (l:List Int) (hl:l.length ≤ 1048576):∃ q t,Ev (fun k=>spec_DrawAbsent.f k l) (q,t)∧few q 101∧t.size ≤ 10 :=
 let ⟨q,t,h,h2⟩:=drawBind_ok l hl
 ⟨q,t,evBind h (evNow fun _=>rfl),h2⟩
theorem drawPresent_ok (l:List Int) (hl:l.length ≤ 1048576):∃ q t p s,Ev (fun k=>spec_DrawPresent.f k l) (q,t,p,s)∧few q 101:=by
 obtain ⟨x0,m0,h0⟩:=source_ok l hl
 obtain ⟨q,i1,x1,m1,hv,hq,h1⟩:=sess_at l 0 x0 m0 (at_zero l hl)
 obtain ⟨vn,i2,x2,m2,e2,_,h2⟩:=name_ok l i1 x1 m1 h1
 obtain ⟨v3,i3,x3,m3,e3,h3⟩:=one_ok l i2 x2 m2 8 h2 (by omega) (by omega)
 cases v3 with
 | true =>
  obtain ⟨v4,i4,x4,m4,e4,p4,r4,h4⟩:=n_ok l i3 x3 m3 4 h3 (by omega) (by omega)
  obtain ⟨v5,i5,x5,m5,e5,_,h5⟩:=pick_ok l i4 x4 m4 [(⟨#[]⟩:ByteArray),(⟨#[110,111]⟩:ByteArray)] h4 (by decide) (by decide)
  refine ⟨q,vn,rd [(-129),(-128),127,128] v4,v5,evBind h0 (evBind hv (evNow fun _=>?_)),hq⟩
  simp only [e2,e3,e4,e5,Option.bind_some]
  rw [if_pos trivial,if_pos p4,if_pos (by simpa using r4)]
 | false =>
  obtain ⟨v4,i4,x4,m4,e4,p4,r4,h4⟩:=n_ok l i3 x3 m3 9 h3 (by omega) (by omega)
  obtain ⟨v5,i5,x5,m5,e5,_,h5⟩:=pick_ok l i4 x4 m4 [(⟨#[]⟩:ByteArray),(⟨#[120,97]⟩:ByteArray),(⟨#[99,104,97,116]⟩:ByteArray)] h4 (by decide) (by decide)
  refine ⟨q,vn,wrap64 (v4 - 3),v5,evBind h0 (evBind hv (evNow fun _=>?_)),hq⟩
  simp only [e2,e3,e4,e5,Option.bind_some]
  rw [if_neg (by decide)]
theorem drawSeen_ok (l:List Int) (hl:l.length ≤ 1048576):∃ q,Ev (fun k=>spec_DrawSeen.f k l) q∧few q 101:=by
 obtain ⟨x0,m0,h0⟩:=source_ok l hl
 obtain ⟨q,i1,x1,m1,hv,hq,h1⟩:=sess_at l 0 x0 m0 (at_zero l hl)
 exact ⟨q,evBind h0 (evBind hv (evNow fun _=>rfl)),hq⟩
end Go.Proofs.Ythmajmkgeapfnaa.A
