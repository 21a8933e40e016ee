/- FnSessions: that its plain function tells true, and that a call of it comes to true. Conditions: its arguments read as named. -/
import Derived.Test.YthmajmkgeapfnaaSW
import Derived.Test.YthmajmkgeapfnaaSU
import Derived.Test.YthmajmkgeapfnaaSV
import Derived.Test.YthmajmkgeapfnaaF12
set_option linter.unusedVariables false
set_option linter.unusedSimpArgs false
namespace Go.Proofs.Ythmajmkgeapfnaa.A
open Go.RowKit Go.Proofs.YthmajmkgeapfnaaW.PrintWords Go.Proofs.YthmajmkgeapfnaaW.PrintLast Go.Proofs.YthmajmkgeapfnaaW.PrintMore
theorem j3_ok (l:List Int) (hl:l.length ≤ 1048576):Ev (fun k=>laws_FnSessions.j3 k l false) true:=by
 obtain ⟨v,hd,hf⟩:=drawSeen_ok l hl
 obtain ⟨vl,vz⟩:=few_in hf (by omega)
 obtain ⟨t,u,s1,s2,he,hs⟩:=seen_full v vl vz (fun s hs=>(hf.2 s hs).2)
 obtain ⟨a1,a2⟩:=anyone_full v vl vz
 refine evStep (f:=fun k=>_) (fun k=>by simp only [laws_FnSessions.j3];rw [if_neg (by decide)]) ?_
 refine evBind hd ?_
 refine evBind s1 ?_
 refine evBind s2 ?_
 refine evEq (fun k=>by rw [if_pos he]) ?_
 refine evBind a1 ?_
 refine evBind a2 ?_
 refine evEq (fun k=>by rw [if_pos (by simp)]) ?_
 refine evBind s1 ?_
 refine evBind a1 ?_
 refine evEq (fun k=>by rw [if_pos (by rw [hs];simp)]) ?_
 refine evBind (right_impl v vl) ?_
 refine evBind (right_spec v vl vz) (evNow fun _=>?_)
 simp
theorem j2_ok (l:List Int) (hl:l.length ≤ 1048576) (n:List S38) (p:ByteArray) (hn:n.length ≤ 1048576) (hz:∀ x ∈ n,x.f0.size ≤ 1048576) (y:List S38) (c:Int) (prio:Int) (sh:ByteArray)
  (hy:c=0 → rightB n=true∧prioB prio=true∧showB sh=true∧p.size ≤ 20000∧∃ x,∃ h:x < n.length,n[x].f0=p∧y=n.set x ⟨p,true,prio,sh⟩):Ev (fun k=>laws_FnSessions.j2 k l n p false y c) true:=by
 refine evStep (f:=fun k=>_) (fun k=>by simp only [laws_FnSessions.j2];rw [if_neg (by decide)]) ?_
 by_cases hc:c=0
 ·obtain ⟨hr,hpr,hsh,hp2,x,hx,hnx,rfl⟩:=hy hc
  have hgn:nameB p=true:=by rw [← hnx];exact good_name (good_of hr hx)
  have hry:rightB (n.set x ⟨p,true,prio,sh⟩)=true:=right_set hr x hx _ (good_on hgn hpr hsh) hnx.symm
  have hsm:=right_small hry
  have hyl:(n.set x ⟨p,true,prio,sh⟩).length ≤ 1048576:=by simpa using hn
  have hgx:(n.set x ⟨p,true,prio,sh⟩)[x]'(by simpa using hx)=⟨p,true,prio,sh⟩:=by simp
  have hon:someOn (n.set x ⟨p,true,prio,sh⟩)=true:=by
   unfold someOn
   rw [hry,Bool.true_and,List.any_eq_true]
   have hm:=List.getElem_mem (l:=n.set x ⟨p,true,prio,sh⟩) (n:=x) (by simpa using hx)
   rw [hgx] at hm
   exact ⟨⟨p,true,prio,sh⟩,hm,rfl⟩
  obtain ⟨a1,_⟩:=anyone_full _ hyl (fun s hs=>(hsm s hs).1)
  obtain ⟨t,u,s1,_,_,hs⟩:=seen_full _ hyl (fun s hs=>(hsm s hs).1) (fun s hs=>(hsm s hs).2)
  rw [hon] at a1 hs
  have ht:¬ t.toList=([]:List UInt8):=fun e=>by
   rw [e] at hs
   exact absurd hs (by decide)
  obtain ⟨w1,d1,_,b1,_,i1,g1⟩:=absent_full _ p hyl (fun s hs=>(hsm s hs).1)
  obtain ⟨w2,d2,q2,b2,_,i2,g2⟩:=absent_full n p hn hz
  have hd1:=g1 hry hp2 ⟨x,by simpa using hx,by rw [hgx]⟩
  have hd2:=g2 hr hp2 ⟨x,hx,hnx⟩
  obtain ⟨_,x1,hx1,e1,rfl⟩:=i1 hd1
  obtain ⟨_,x2,hx2,e2,rfl⟩:=i2 hd2
  obtain rfl:x1=x:=one_place hry hx1 (by simpa using hx) (by rw [e1,hgx])
  obtain rfl:x2=x1:=one_place hr hx2 hx (by rw [e2,hnx])
  have hw:(n.set x2 ⟨p,true,prio,sh⟩).set x2 ⟨p,false,0,⟨#[]⟩⟩=n.set x2 ⟨p,false,0,⟨#[]⟩⟩:=by rw [List.set_set]
  rw [hw] at b1
  refine evEq (fun k=>by rw [if_pos hc]) ?_
  refine evBind a1 ?_
  refine evEq (fun k=>by rw [if_pos rfl]) ?_
  refine evBind s1 ?_
  refine evEq (fun k=>by rw [if_neg ht]) ?_
  refine evBind b1 ?_
  refine evBind b2 ?_
  refine evBind (lws_ok _ q2) ?_
  exact j3_ok l hl
 ·exact evEq (fun k=>by rw [if_neg hc]) (j3_ok l hl)
theorem FnSessions.pure (l m:List Int):Ev (fun k=>laws_FnSessions.f k l m) true:=by
 by_cases h0:(l.length:Int) > 1048576
 ·exact evEq (f:=fun k=>laws_FnSessions.j0 k l m true) (fun k=>by unfold laws_FnSessions.f;rw [if_pos h0]) (evOne fun _=>rfl)
 by_cases h1:(m.length:Int) > 1048576
 ·exact evEq (f:=fun k=>laws_FnSessions.j0 k l m true) (fun k=>by unfold laws_FnSessions.f;rw [if_neg h0,decide_eq_true h1]) (evOne fun _=>rfl)
 refine evEq (fun k=>by unfold laws_FnSessions.f;rw [if_neg h0,decide_eq_false h1]) ?_
 obtain ⟨L,t,d1,f1,z1⟩:=drawBind_ok l (by omega)
 obtain ⟨M,u,d2,f2,z2⟩:=drawUnbind_ok m (by omega)
 obtain ⟨n,p,prio,sh,d3,f3⟩:=drawPresent_ok m (by omega)
 obtain ⟨o,a,d4,f4,z4⟩:=drawAbsent_ok l (by omega)
 obtain ⟨Ll,Lz⟩:=few_in f1 (by omega)
 obtain ⟨Ml,Mz⟩:=few_in f2 (by omega)
 obtain ⟨nl,nz⟩:=few_in f3 (by omega)
 obtain ⟨ol,oz⟩:=few_in f4 (by omega)
 obtain ⟨x,cx,xl,xi,xs,xf⟩:=bind_full L t Ll Lz
 obtain ⟨w,cw,wl,wi,ws,wf,_⟩:=unbind_full M u Ml Mz
 obtain ⟨y,cy,yl,yi,ys,yf⟩:=present_full n p prio sh nl nz
 obtain ⟨v,cv,vl,vi,vs,vf,_⟩:=absent_full o a ol oz
 have hx:cx=0 → rightB x=true:=fun h=>by
  obtain ⟨hr,h5,hn,_,r,hrl,p1,p2,rfl⟩:=xf h
  exact right_ins hr h5 r (newS t) (good_off hn) p1 p2
 have hw:cw=0 → rightB w=true:=fun h=>by
  obtain ⟨hr,r,hrl,_,rfl⟩:=wf h
  exact right_del hr r
 have hy:cy=0 → rightB y=true:=fun h=>by
  obtain ⟨hr,hp,hq,_,r,hrl,e,rfl⟩:=yf h
  exact right_set hr r hrl _ (good_on (by rw [← e];exact good_name (good_of hr hrl)) hp hq) e.symm
 have hv:cv=0 → rightB v=true:=fun h=>by
  obtain ⟨hr,r,hrl,e,rfl⟩:=vf h
  exact right_set hr r hrl _ (good_off (by rw [← e];exact good_name (good_of hr hrl))) e.symm
 refine evStep (f:=fun k=>_) (fun k=>by simp only [laws_FnSessions.j0];rw [if_neg (by decide)]) ?_
 refine evBind d1 ?_
 refine evBind xi ?_
 refine evBind d2 ?_
 refine evBind d3 ?_
 refine evBind yi ?_
 refine evBind d4 ?_
 refine evBind vi ?_
 refine evBind xs ?_
 refine evBind (lwb_ok x cx xl hx) ?_
 refine evEq (fun k=>by rw [if_pos rfl]) ?_
 refine evBind wi ?_
 refine evBind ws ?_
 refine evBind (lwb_ok w cw wl hw) ?_
 refine evEq (fun k=>by rw [if_pos rfl]) ?_
 refine evBind ys ?_
 refine evBind (lwb_ok y cy yl hy) ?_
 refine evEq (fun k=>by rw [if_pos rfl]) ?_
 refine evBind vs ?_
 refine evBind (lwb_ok v cv vl hv) ?_
 refine evStep (f:=fun k=>_) (fun k=>by simp only [laws_FnSessions.j1];rw [if_neg (by decide)]) ?_
 have last:=j2_ok l (by omega) n p nl nz y cy prio sh yf
 by_cases hc:cx=0
 ·refine evEq (fun k=>by rw [if_pos hc]) ?_
  obtain ⟨hr,h5,hn,ht,r,hrl,p1,p2,rfl⟩:=xf hc
  have hrx:=hx hc
  have hsm:=right_small hrx
  obtain ⟨b,cb,bl,bi,_,bf,bg⟩:=unbind_full _ t xl (fun s hs=>(hsm s hs).1)
  have hlen:r < (L.take r ++ [newS t] ++ L.drop r).length:=by simp;omega
  have hat:(L.take r ++ [newS t] ++ L.drop r)[r]=newS t:=by
   have hl1:(L.take r).length=r:=by rw [List.length_take];omega
   have:(L.take r ++ [newS t] ++ L.drop r)[r]?=some (newS t):=by
    rw [List.append_assoc,List.getElem?_append_right (by omega),hl1,Nat.sub_self]
    rfl
   exact (List.getElem?_eq_some_iff.1 this).2
  have hb0:=bg hrx ht ⟨r,hlen,by rw [hat];rfl⟩
  obtain ⟨_,r2,hr2,e2,rfl⟩:=bf hb0
  obtain rfl:r2=r:=one_place hrx hr2 hlen (by rw [e2,hat];rfl)
  have hback:(L.take r2 ++ [newS t] ++ L.drop r2).take r2 ++ (L.take r2 ++ [newS t] ++ L.drop r2).drop (r2 + 1)=L:=by
   have hl1:(L.take r2).length=r2:=by rw [List.length_take];omega
   have e1:(L.take r2 ++ [newS t] ++ L.drop r2).take r2=L.take r2:=by
    rw [List.append_assoc,List.take_append_of_le_length (by omega),List.take_take,Nat.min_self]
   have e3:(L.take r2 ++ [newS t] ++ L.drop r2).drop (r2 + 1)=L.drop r2:=by
    rw [show r2 + 1=(L.take r2 ++ [newS t]).length by simp;omega,List.drop_left]
   rw [e1,e3,List.take_append_drop]
  rw [hback] at bi
  refine evBind bi ?_
  refine evBind (lws_ok L Ll) ?_
  exact last
 ·exact evEq (fun k=>by rw [if_neg hc]) last
end Go.Proofs.Ythmajmkgeapfnaa.A
namespace Go.Proofs.Ythmajmkgeapfnaa
open Go.Proofs.Ythmajmkgeapfnaa.A Go.RowKit Go.Proofs.YthmajmkgeapfnaaW.PrintWords
theorem FnSessions.walk (A0:Option Addr) (c0:Nat) (l0:List Int) (A1:Option Addr) (c1:Nat) (l1:List Int) (w:World) (hr0:Kd.C (Kd.int .u8) w A0 l0.length l0) (hc0:l0.length ≤ c0) (_hm0:l0.length ≤ 9223372036854775807) (_hs0:∀ x ∈ l0,0 ≤ x∧x ≤ 255)
  (hr1:Kd.C (Kd.int .u8) w A1 l1.length l1) (hc1:l1.length ≤ c1) (_hm1:l1.length ≤ 9223372036854775807) (_hs1:∀ x ∈ l1,0 ≤ x∧x ≤ 255) :
  Calls Try.prog 12 #[.slice A0 l0.length c0,.slice A1 l1.length c1] w fun e w'=>e=.returned (.bool true)∧Below w.heap.size w w':=by
 obtain ⟨K,hK⟩:=FnSessions.pure l0 l1
 exact laws_FnSessions.calls K A0 c0 l0 A1 c1 l1 true w hr0 hc0 hr1 hc1 (hK K (Nat.le_refl _))
end Go.Proofs.Ythmajmkgeapfnaa
