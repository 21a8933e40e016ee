/- Part of the proof of FnLink (a drawn valid end of a link stays valid, frames are read back, nothing is sent before its time): plain functions and what calls come to. No conditions beyond those that each statement names. -/
import Derived.Test.YtaaffhghpealjaaK7
namespace Go.Proofs.Ytaaffhghpealjaa.A
open Go.RowKit Go.Proofs.YtaaffhghpealjaaW.PrintWords Go.Proofs.YtaaffhghpealjaaW.PrintLast Go.Proofs.YtaaffhghpealjaaW.PrintMore
attribute [local simp high] andThen_ok_
attribute [local go_sem] isSome_setCell max2_int min2_int max_two min_two max_three min_three max_four min_four
set_option linter.unusedVariables false
set_option linter.unusedSimpArgs false
abbrev ze5:Obj:=.cells #[.int .i64 0,.slice none 0 0,.int .i64 0,.int .i64 0,.int .i64 0] 24 (0,0)
abbrev PR (w:World) (g gr:Nat) (V:Value) (q:List ByteArray):World → Prop:=fun W=>Kd.Q Kd.string 9 W w.heap.size (fun k=>k ≠ g) V q∧W.heap[gr]?=some ze5∧KeepBut w W g none
abbrev PL (w:World) (g gr gl:Nat) (V:Value) (q:List ByteArray) (b d x y:Int):World → Prop:=fun W=>W.heap[gl]?=some (.cells #[.int .i64 b,V,.int .i64 d,.int .i64 x,.int .i64 y] 24 (0,0))∧PR w g gr V q W
theorem PR.stb {w:World} {g gr:Nat} {V:Value} {q:List ByteArray} (h:gr ≠ g):Stb g (PR w g gr V q):=Stb.and Stb.row (Stb.and (Stb.blk h) Stb.keep)
theorem PL.stb {w:World} {g gr gl:Nat} {V:Value} {q:List ByteArray} {b d x y:Int} (h:gr ≠ g) (h2:gl ≠ g):Stb g (PL w g gr gl V q b d x y):=Stb.and (Stb.blk h2) (PR.stb h)
theorem PR.sto {w:World} {g gr g':Nat} {V:Value} {q:List ByteArray} {t:TypeId} (h:gr ≠ g') (h2:w.heap.size ≤ g') (h3:∀ q,q ∈ 9 :: Kd.string.E → q ≠ t):Sto g' t (PR w g gr V q):=Sto.and (Sto.row h3) (Sto.and (Sto.blk h) (Sto.keep h2))
abbrev ze8:Obj:=.cells #[.int .i64 0,.slice none 0 0,.int .i64 0,.int .i64 0,.int .i64 0,.slice none 0 0,.string (⟨#[]⟩:ByteArray),.int .i64 0] 45 (0,0)
abbrev outA (o:LO) (v1 v5:Value):Array Value:=#[.int .i64 o.1,v1,.int .i64 o.2.2.1,.int .i64 o.2.2.2.1,.int .i64 o.2.2.2.2.1,v5,.string o.2.2.2.2.2.2.1,.int .i64 o.2.2.2.2.2.2.2]
def T7:Bool × List (List Nat × List Nat):=(true,[([],[]),([],[]),([],[]),([1,2],[1,2]),([],[]),([0,3,4,3],[0,3,4]),([],[]),([6,5,5,0,1,2,3,4,5,6],[5,6])])
def B7:List Nat:=[0,0,0,6,0,31,0,127]
abbrev Lt:List ByteArray:=[(⟨#[97]⟩:ByteArray),(⟨#[98]⟩:ByteArray),(⟨#[116,101,120,116]⟩:ByteArray)]
abbrev P7 (w:World) (g gr gl gy:Nat) (V:Value) (q:List ByteArray) (b d x y:Int) (v20 v23 vf:Value) (o:LO) (b2 b5 b6 b7:Prop):World → Prop:=fun W =>
 (b2 → Kd.Q Kd.string 9 W w.heap.size (fun k=>k ≠ g) v20 Lt)∧(b5 → Kd.Q Kd.string 9 W w.heap.size (fun k=>k ≠ g) v23 o.2.1)∧(b6 → W.heap[gy]?=some ze8)∧(b7 → W.heap[gy]?=some (.cells (outA o v23 vf) 45 (0,0)))∧PL w g gr gl V q b d x y W
theorem P7.stb {w:World} {g gr gl gy:Nat} {V v20 v23 vf:Value} {q:List ByteArray} {b d x y:Int} {o:LO} {b2 b5 b6 b7:Prop} (h:gr ≠ g) (h2:gl ≠ g) (h3:b6 ∨ b7 → gy ≠ g):Stb g (P7 w g gr gl gy V q b d x y v20 v23 vf o b2 b5 b6 b7) :=
 Stb.and (Stb.imp Stb.row) (Stb.and (Stb.imp Stb.row) (Stb.and (fun W W' hp hk hb=>Stb.blk (h3 (.inl hb)) W W' (hp hb) hk) (Stb.and (fun W W' hp hk hb=>Stb.blk (h3 (.inr hb)) W W' (hp hb) hk) (PL.stb h h2))))
theorem P7.at {w:World} {g gr gl gy:Nat} {V v20 v23 vf:Value} {q:List ByteArray} {b d x y:Int} {o:LO} {b_:Nat → Bool} {R:Prop} (h:gr ≠ g) (h2:gl ≠ g) (h6:b_ 6=true → gy ≠ g∧R) (h7:b_ 7=true → b_ 6=true):Stb g (P7 w g gr gl gy V q b d x y v20 v23 vf o (b_ 2=true) (b_ 5=true) (b_ 6=true∧b_ 7=false) (b_ 7=true)) :=
 P7.stb h h2 (fun k=>(h6 (k.elim (fun h=>h.1) h7)).1)
abbrev PY (w:World) (g gr gl gy:Nat) (V:Value) (q:List ByteArray) (b d x y:Int) (VY:Value) (qy:List ByteArray) (cs:Array Value):World → Prop:=fun W=>W.heap[gy]?=some (.cells cs 45 (0,0))∧Kd.Q Kd.string 9 W w.heap.size (fun k=>k ≠ g) VY qy∧PL w g gr gl V q b d x y W
theorem PY.stb {w:World} {g gr gl gy:Nat} {V VY:Value} {q qy:List ByteArray} {b d x y:Int} {cs:Array Value} (h:gr ≠ g) (h2:gl ≠ g) (h3:gy ≠ g):Stb g (PY w g gr gl gy V q b d x y VY qy cs):=Stb.and (Stb.blk h3) (Stb.and Stb.row (PL.stb h h2))
theorem y_put {w0 w W:World} {g gr gl gy:Nat} {s0:List Int} {V VY VN:Value} {q qy qn:List ByteArray} {b d x y:Int} {c0 c1 c2 c3 c4 c5 c6 c7 u0 u2 u3 u4 u5 u6 u7:Value} (E:Aside0 (En w0 W g s0 fun W=>Kd.Q Kd.string 9 W w.heap.size (fun k=>k ≠ g) VN qn∧PY w g gr gl gy V q b d x y VY qy #[c0,c1,c2,c3,c4,c5,c6,c7] W))
  (NGr:Aside0 (gr ≠ g)) (NGl:Aside0 (gl ≠ g)) (N2:Aside0 (gy ≠ g)) (G2:Aside0 (w0.heap.size ≤ gy)) (G3:Aside0 (w.heap.size ≤ gy)) (N3:Aside0 (gr ≠ gy)) (N4:Aside0 (gl ≠ gy)) :
  Aside0 (En w0 (((((((((W.setCell ⟨gy,0,none⟩ u0).setCell ⟨gy,1,none⟩ VN).setCell ⟨gy,2,none⟩ u2).setCell ⟨gy,3,none⟩ u3).setCell ⟨gy,4,none⟩ u4).setCell ⟨gy,5,none⟩ u5).setCell ⟨gy,6,none⟩ u6).setCell ⟨gy,7,none⟩ u7)) g s0 (PY w g gr gl gy V q b d x y VN qn #[u0,VN,u2,u3,u4,u5,u6,u7])) :=
 En.set8 (W:=W) (g':=gy) (P:=fun W=>Kd.Q Kd.string 9 W w.heap.size (fun k=>k ≠ g) VN qn∧PL w g gr gl V q b d x y W) ⟨E.1.with ⟨E.1.fact.2.1,E.1.fact.1,E.1.fact.2.2.2⟩⟩ (Stb.and Stb.row (PL.stb NGr.1 NGl.1)) (Sto.and (Sto.row (by decide)) (Sto.and (Sto.blk N4.1) (PR.sto N3.1 G3.1 (by decide)))) N2 G2
abbrev SL (gl:Nat) (V:Value) (b d x y:Int):World → Prop:=fun w'=>w'.cell? ⟨gl,0,none⟩=some (.int .i64 b)∧w'.cell? ⟨gl,1,none⟩=some V∧w'.cell? ⟨gl,2,none⟩=some (.int .i64 d)∧w'.cell? ⟨gl,3,none⟩=some (.int .i64 x)∧w'.cell? ⟨gl,4,none⟩=some (.int .i64 y)
theorem SL.of {w w':World} {g gr gl:Nat} {V:Value} {q:List ByteArray} {b d x y:Int} (h:PL w g gr gl V q b d x y w'):SL gl V b d x y w':=c5_ ⟨h.1⟩
def T12:Bool × List (List Nat × List Nat):=(true,[([],[]),([],[]),([1],[1]),([],[]),([3],[3]),([2,4],[2,4]),([5],[5]),([0,6,4],[0,6]),([7,7,0,1,2,3,4,5,6,7],[7])])
def B12:List Nat:=[0,0,2,0,8,30,62,127,255]
theorem l_put {w0 w W:World} {g gr gl gy:Nat} {s0:List Int} {V VY:Value} {q qy:List ByteArray} {b d x y b2 d2 x2 y2:Int} {cs:Array Value} (E:Aside0 (En w0 W g s0 (PY w g gr gl gy V q b d x y VY qy cs))) (NGr:Aside0 (gr ≠ g)) (NGl:Aside0 (gl ≠ g)) (GEl:Aside0 (w0.heap.size ≤ gl)) (GWl:Aside0 (w.heap.size ≤ gl)) (Nrl:Aside0 (gr ≠ gl)) :
  Aside0 (En w0 ((((((W.setCell ⟨gl,0,none⟩ (.int .i64 b2)).setCell ⟨gl,1,none⟩ VY).setCell ⟨gl,2,none⟩ (.int .i64 d2)).setCell ⟨gl,3,none⟩ (.int .i64 x2)).setCell ⟨gl,4,none⟩ (.int .i64 y2))) g s0 (PL w g gr gl VY qy b2 d2 x2 y2)) :=
 En.set5 (W:=W) (g':=gl) (P:=PR w g gr VY qy) ⟨E.1.with ⟨E.1.fact.2.2.1,E.1.fact.2.1,E.1.fact.2.2.2.2⟩⟩ (PR.stb NGr.1) (PR.sto Nrl.1 GWl.1 (by decide)) NGl GEl
theorem l_set {w0 w W:World} {g gr gl i:Nat} {s0:List Int} {V VN:Value} {qn:List ByteArray} {b d x y b2 d2 x2 y2:Int} {u:Value} (E:Aside0 (En w0 W g s0 fun W=>W.heap[gl]?=some (.cells #[.int .i64 b,V,.int .i64 d,.int .i64 x,.int .i64 y] 24 (0,0))∧PR w g gr VN qn W)) (NGl:Aside0 (gl ≠ g)) (GEl:Aside0 (w0.heap.size ≤ gl)) (GWl:Aside0 (w.heap.size ≤ gl)) (Nrl:Aside0 (gr ≠ gl))
  (he:#[.int .i64 b,V,.int .i64 d,.int .i64 x,.int .i64 y].setIfInBounds i u=#[.int .i64 b2,VN,.int .i64 d2,.int .i64 x2,.int .i64 y2]):Aside0 (En w0 (W.setCell ⟨gl,i,none⟩ u) g s0 (PL w g gr gl VN qn b2 d2 x2 y2)) :=
 ⟨E.1.set NGl.1 GEl.1 ⟨blk_put E.1.fact.1 i u he,PR.sto (t:=24) Nrl.1 GWl.1 (by decide) W i u E.1.fact.2 ⟨_,E.1.fact.1⟩⟩⟩
theorem l_app {w0 w W w2:World} {g gr gl:Nat} {s0:List Int} {V vn:Value} {q qn:List ByteArray} {b d x y:Int} (E:Aside0 (En w0 W g s0 (PL w g gr gl V q b d x y))) (HZ:Aside0 (w0.heap.size ≤ w.heap.size)) (ho:Kd.Q Kd.string 9 w2 w.heap.size (fun k=>k ≠ g) vn qn) (hb:Below w.heap.size W w2) (hg:W.grownBy w2 V.ownBlock) :
  Aside0 (En w0 w2 g s0 fun W=>W.heap[gl]?=some (.cells #[.int .i64 b,V,.int .i64 d,.int .i64 x,.int .i64 y] 24 (0,0))∧PR w g gr vn qn W):=by
 obtain ⟨⟨p,a,b',h1,h2⟩,h3,h4,h5,h6,h7⟩:=E.1
 exact ⟨⟨p,a,b',h1.grown hg (IsS110.own_neQ h1 h5 (by decide)),h2⟩,below_weaken h3 HZ.1 hb,blk_grown h4 hg (Kd.Q_ne h5 h4 (by decide)),ho,blk_grown h6 hg (Kd.Q_ne h5 h6 (by decide)),KeepBut.trans h7 (KeepBut.of_grown hg g) (Kd.Q_base2 h5)⟩
set_option maxHeartbeats 8000000 in
set_option maxRecDepth 100000 in
theorem l13Link_ok (g:Nat) (s0:List Int) (p a b:Int) (w0 w:World) (hI:IsS110 w0 w g s0 p a b) (ha:at_ s0 p) (hB:Below w0.heap.size w0 w) :
  Calls Try.prog 86 #[.pointer (some ⟨g,0,none⟩)] w fun e w'=>∃ (b d x y:Int) (A:Option Addr) (c:Nat) (q:List ByteArray),
   e=.returned (.agg #[.int .i64 b,.slice A q.length c,.int .i64 d,.int .i64 x,.int .i64 y])∧(q.length ≤ 12∧(lok b q d x y=true → q.length ≤ 11))∧En w0 w' g s0 (fun W=>KeepBut w W g none∧Kd.Q Kd.string 9 W w.heap.size (fun k=>k ≠ g) (.slice A q.length c) q):=by
 have hu24:=Try.underlying24;have hu45:=Try.underlying45;have hu38:=Try.underlying38
 have HZ:=Aside0.mk hB.size
 have E:Aside0 (En w0 w g s0 fun W=>KeepBut w W g none):=⟨⟨p,a,b,hI,ha⟩,hB,KeepBut.refl w g none⟩
 have S0:Stb g fun W=>KeepBut w W g none:=Stb.keep
 have hNew:spec_LinkNew.f=some (0,([]:List ByteArray),0,1,1):=rfl
 clear hI ha hB
 go_enter Try.func86,Try.ntmps86
 go_upto_block 0 with (first
  | ((with_reducible refine gate_dst (N:=2) rfl ?_);refine box_event ?hg (N:=2) ?hd (cs:=#[.int .i64 0,.slice none 0 0,.int .i64 0,.int .i64 0,.int .i64 0]) (t:=24) ?hr ?_;(case hd=>rfl);(case hg=>rfl);(case hr=>go_simp;try rfl);intro gr hg w4 hbox hb;obtain ⟨E2,NGr,GEr⟩:=En.box E S0 hg hbox hb;have GWr:=Aside0.mk ((by rw [hg];exact En.size E (fun _ h=>h):w.heap.size ≤ gr));have S1:=Aside0.mk (Stb.and (Stb.blk (o:=.cells #[.int .i64 0,.slice none 0 0,.int .i64 0,.int .i64 0,.int .i64 0] 24 (0,0)) NGr.1) S0);clear E;have E:=E2;clear E2 hb hbox hg)
  | ((with_reducible refine gC 13 rfl ?_);refine gL 7 Try.func13 #[] ?_;(with_reducible refine (spec_LinkNew.calls _ _ _ _ _ _ hNew).mono ?_);rintro e w5 ⟨v1,rfl,ho0,hb⟩;refine ⟨_,rfl,?_⟩;obtain ⟨A1,c1,ev⟩:=Kd.R_slice ho0;subst ev;have E2:=En.rowR E S1.1 (fun _ h=>h.2) ho0 hb;have S2:=Aside0.mk (Stb.and (Stb.row (d:=Kd.string) (e:=9) (base:=w.heap.size) (v:=.slice A1 ([]:List ByteArray).length c1) (xs:=[])) S1.1);clear E;have E:=E2;clear E2 hb ho0)
  | ((with_reducible refine gate_dst (N:=3) rfl ?_);refine box_event ?hg (N:=3) ?hd (cs:=#[.int .i64 0,.slice none 0 0,.int .i64 0,.int .i64 0,.int .i64 0]) (t:=24) ?hr ?_;(case hd=>rfl);(case hg=>rfl);(case hr=>go_simp;try rfl);intro gl hg w6 hbox hb;obtain ⟨E2,NGl,GEl⟩:=En.box E S2.1 hg hbox hb;have Nrl:=En.old E (fun _ h=>h.2.1) hg;have GWl:=Aside0.mk ((by rw [hg];exact En.size E (fun _ h=>h.2.2):w.heap.size ≤ gl));clear E;have E:=E2;clear E2 hb hbox hg;have BK:=Aside0.mk E.1.fact.1;obtain ⟨hcz0,hcz1,hcz2,hcz3,hcz4⟩:=c5_ BK;obtain ⟨hfz0,hfz1,hfz2,hfz3,hfz4⟩:=f5_ BK)
  | ((with_reducible refine gC 88 rfl ?_);refine gL 9 Try.func88 #[.pointer (some ⟨g,0,none⟩),.int .i64 12] ?_;have E2:=En.set5 (W:=w6) (u0:=.int .i64 0) (u1:=.slice A1 ([]:List ByteArray).length c1) (u2:=.int .i64 0) (u3:=.int .i64 1) (u4:=.int .i64 1) E S2.1 (PR.sto Nrl.1 GWl.1 (by decide)) NGl GEl;refine (n_en E2.1 (PL.stb NGr.1 NGl.1) (by decide) (by decide)).mono ?_;rintro e w11 ⟨k5,rfl,hk5,E3⟩;refine ⟨_,rfl,?_⟩;clear E E2 BK hcz0 hcz1 hcz2 hcz3 hcz4 hfz0 hfz1 hfz2 hfz3 hfz4;have E:=Aside0.mk E3;clear E3;have HK5:=Aside0.mk hk5;clear hk5))
 (try simp only [Act.put,sA,sZ,sS])
 go_cut [4,5] (fun v4 v5 wc=>∃ (b d x y:Int) (A:Option Addr) (c:Nat) (q:List ByteArray),Aside0 (q.length ≤ 11)∧Aside0 (En w0 wc g s0 (PL w g gr gl (.slice A q.length c) q b d x y)))
 case first =>
  go_step
  go_loopg [4,5] k5.toNat (fun kq v4 v5 w'=>∃ (now k b d x y:Int) (A:Option Addr) (c:Nat) (q:List ByteArray),v4=.int .i64 now∧v5=.int .i64 k∧Aside0 (0 ≤ k∧k ≤ kq∧b + (q.length:Int) + k ≤ 11∧lok b q d x y=true)∧Aside0 (En w0 w' g s0 (PL w g gr gl (.slice A q.length c) q b d x y)))
  case atStart=>exact ⟨0,k5,0,0,1,1,A1,c1,[],rfl,rfl,⟨HK5.1.1,by have:=HK5.1;omega,by have:=HK5.1;simp;omega,rfl⟩,E⟩
  case round =>
  clear S1 S2 HK5
  obtain ⟨now,k,b,d,x,y,A,c,q,rfl,rfl,HR,E⟩:=hrel
  have HL:=Aside0.mk (lok_iff HR.1.2.2.2)
  have Hq:Aside0 (q.length ≤ 1048576):=⟨by have:=lok_iff HR.1.2.2.2;have:=HR.1;omega⟩
  have S:=Aside0.mk (PL.stb (w:=w) (V:=.slice A q.length c) (q:=q) (b:=b) (d:=d) (x:=x) (y:=y) NGr.1 NGl.1)
  by_cases c12:0 < k
  ·have c12b:decide (0 < k)=true:=decide_eq_true c12
   obtain ⟨k1,rfl⟩:∃ k1,gk=k1 + 1:=⟨gk - 1,by have:=HR.1;omega⟩
   go_wp2_with (first
    | ((with_reducible refine gC 88 rfl ?_);refine gL 16 Try.func88 #[.pointer (some ⟨g,0,none⟩),.int .i64 4] ?_;refine (n_en E.1 S.1 (by decide) (by decide)).mono ?_;rintro e w11 ⟨k6,rfl,hk6,E3⟩;refine ⟨_,rfl,?_⟩;clear E;have E:=Aside0.mk E3;clear E3 hk6))
   have E2:=Aside0.mk (E.1.on (W':=w11.drew) S.1)
   clear E
   have E:=E2
   clear E2
   refine start_ (n:=8) (S:=fun w'=>True) (ds:=[]) #[false,false,false,false,false,false,false,false] (by kernel_rfl) rfl rfl trivial (fun hHeld=>?_);refine with_tabW (T:=T7) (B:=B7) (by kernel_rfl) (by kernel_rfl) (fun HT_ HW_=>?_)
   generalize w11.drew=w18 at E hHeld ⊢
   refine pX 1 19 #[false,true,false,false,false,false,false,false] HT_ ?_
   refine pX 4 22 #[false,true,false,false,true,false,false,false] HT_ ?_
   refine inv_at [0,2,3,5,6,7] (fun a0_ b_ a w'=>∃ (v20 v23 vf:Value) (t:ByteArray) (gy:Nat) (o:LO),a=putSel a0_ b_ [(0,18,.agg #[.int .i64 b,.slice A q.length c,.int .i64 d,.int .i64 x,.int .i64 y]),(2,20,v20),(3,21,.string t),(5,23,.agg (outA o v23 vf)),(6,6,.pointer (some ⟨gy,0,none⟩))]∧(b_ 2=true → ∃ A c,v20=.slice A Lt.length c)∧(b_ 5=true → putV b q d x y t (wrap64 (now + k6))=o∧(∃ A c,v23=.slice A o.2.1.length c)∧∃ A c,vf=.slice A o.2.2.2.2.2.1.length c)∧(b_ 6=true → gy ≠ g∧w0.heap.size ≤ gy∧w.heap.size ≤ gy∧gr ≠ gy∧gl ≠ gy)∧En w0 w' g s0 (P7 w g gr gl gy (.slice A q.length c) q b d x y v20 v23 vf o (b_ 2=true) (b_ 5=true) (b_ 6=true∧b_ 7=false) (b_ 7=true))∧(b_ 7=true → b_ 6=true)) HT_.out HW_.out (by kernel_rfl) (by kernel_rfl) ?_ ?_ ?_
   ·exact ⟨.bool false,.bool false,.bool false,⟨#[]⟩,0,ill 0,by simp only [putSel,Bool.false_eq_true,if_false],fun h_=>absurd h_ (by decide),fun h_=>absurd h_ (by decide),fun h_=>absurd h_ (by decide),E.1.with ⟨fun h_=>absurd h_ (by decide),fun h_=>absurd h_ (by decide),fun h_=>absurd h_.1 (by decide),fun h_=>absurd h_ (by decide),E.1.fact⟩,fun h_=>absurd h_ (by decide)⟩
   ·clear E S
    refine steps_cons ?_ ?_
    ·rintro b_ a w' ⟨v20,v23,vf,t,gy,o,ha,h2,h5,h6,E,h7⟩ hb_ hon hoff
     refine ⟨_,rfl,fun K hK=>?_⟩
     have e3:a.tmps[3]?=some (.pointer (some ⟨gl,0,none⟩)):=by rw [ha];exact (putSel_off rfl).trans rfl
     replace ha:=Aside0.mk ha
     replace E:=Aside0.mk E
     have BK:=Aside0.mk E.1.fact.2.2.2.2.1
     obtain ⟨hcz0,hcz1,hcz2,hcz3,hcz4⟩:=c5_ BK
     refine value_ (w1:=w') (v:=.agg #[.int .i64 b,.slice A q.length c,.int .i64 d,.int .i64 x,.int .i64 y]) (by rfl) rfl ?_ ?_
     ·go_simp
      (try simp only [i64_w])
      try rfl
     exact hK.out _ _ ⟨v20,v23,vf,t,gy,o,(by rw [ha.1];exact putSel_upk 0 hb_ rfl rfl rfl),h2,h5,h6,E.1,h7⟩
    refine steps_cons ?_ ?_
    ·rintro b_ a w' ⟨v20,v23,vf,t,gy,o,ha,h2,h5,h6,E,h7⟩ hb_ hon hoff
     refine ⟨_,rfl,fun K hK=>?_⟩
     replace ha:=Aside0.mk ha
     replace E:=Aside0.mk E
     refine Kd.R_lit_step Kd.string _ 9 ?hg (N:=20) ?hd (xs:=Lt) (inner:=[.string (⟨#[97]⟩:ByteArray),.string (⟨#[98]⟩:ByteArray),.string (⟨#[116,101,120,116]⟩:ByteArray)]) (ok:=fun _=>True) (okp:=fun _=>True) ?hr ?hp (fun _ hk=>hk) trivial (Below.refl _ _) (Nat.le_refl _) (by simp) ?_;(case hd=>rfl);(case hg=>rfl);(case hr=>go_simp;try rfl);(case hp=>exact (Reps.one (show Kd.M Kd.string _ _ _ (⟨#[97]⟩:ByteArray) [.string (⟨#[97]⟩:ByteArray)] from rfl) (Reps.one (show Kd.M Kd.string _ _ _ (⟨#[98]⟩:ByteArray) [.string (⟨#[98]⟩:ByteArray)] from rfl) (Reps.one (show Kd.M Kd.string _ _ _ (⟨#[116,101,120,116]⟩:ByteArray) [.string (⟨#[116,101,120,116]⟩:ByteArray)] from rfl) (Reps.none _ _)))))
     intro v2 w2 ho hb hg_ hnew_
     have E2:=En.rowR (q:=Lt) E (P7.at NGr.1 NGl.1 h6 h7) (fun _ h=>h.2.2.2.2.2.2.2) ho hb
     obtain ⟨A2,c2,ev⟩:=Kd.R_slice (xs:=Lt) ho
     subst ev
     exact hK.out _ _ ⟨_,v23,vf,t,gy,o,(by rw [ha.1];exact putSel_upk 1 hb_ rfl rfl rfl),fun _=>⟨A2,c2,rfl⟩,h5,h6,E2.1.with ⟨fun _=>E2.1.fact.1,E2.1.fact.2.2.1,E2.1.fact.2.2.2.1,E2.1.fact.2.2.2.2.1,E2.1.fact.2.2.2.2.2⟩,h7⟩
    refine steps_cons ?_ ?_
    ·rintro b_ a w' ⟨v20,v23,vf,t,gy,o,ha,h2,h5,h6,E,h7⟩ hb_ hon hoff
     refine ⟨_,rfl,fun K hK=>?_⟩
     obtain ⟨A2,c2,rfl⟩:=h2 (hon 2 (by kernel_rfl))
     have e19:a.tmps[19]?=some (.pointer (some ⟨g,0,none⟩)):=by rw [ha];exact (putSel_off rfl).trans rfl
     have e20:a.tmps[20]?=some (.slice A2 Lt.length c2):=by rw [ha];exact putSel_on (e:=(2,20,.slice A2 Lt.length c2)) 1 rfl rfl (hon 2 (by kernel_rfl)) rfl
     replace ha:=Aside0.mk ha
     replace E:=Aside0.mk E
     refine goes_ Try.func95 (by kernel_rfl) rfl #[.pointer (some ⟨g,0,none⟩),.slice A2 Lt.length c2] (by rfl) rfl rfl (by simp only [List.map_toArray,List.map_cons,List.map_nil,Act.eval,Array.getD_eq_getD_getElem?,Option.getD_some,e19,e20]) ?_
     refine (pick_en E.1 (P7.at NGr.1 NGl.1 h6 h7) (E.1.fact.1 (hon 2 (by kernel_rfl))) (by decide) (by decide)).mono ?_
     rintro e w2 ⟨t2,rfl,E2⟩
     refine ⟨_,rfl,?_⟩
     exact hK.out _ _ ⟨_,v23,vf,t2,gy,o,(by rw [ha.1];exact putSel_upk 2 hb_ rfl rfl rfl),fun _=>⟨A2,c2,rfl⟩,fun h_=>absurd ((hoff 5 (by kernel_rfl)).symm.trans h_) (by decide),h6,E2,h7⟩
    refine steps_cons ?_ ?_
    ·rintro b_ a w' ⟨v20,v23,vf,t,gy,o,ha,h2,h5,h6,E,h7⟩ hb_ hon hoff
     refine ⟨_,rfl,fun K hK=>?_⟩
     have e18:a.tmps[18]?=some (.agg #[.int .i64 b,.slice A q.length c,.int .i64 d,.int .i64 x,.int .i64 y]):=by rw [ha];exact putSel_on (e:=(0,18,.agg #[.int .i64 b,.slice A q.length c,.int .i64 d,.int .i64 x,.int .i64 y])) 0 rfl rfl (hon 0 (by kernel_rfl)) rfl
     have e21:a.tmps[21]?=some (.string t):=by rw [ha];exact putSel_on (e:=(3,21,.string t)) 2 rfl rfl (hon 3 (by kernel_rfl)) rfl
     have e22:a.tmps[22]?=some (.int .i64 (wrap64 (now + k6))):=by rw [ha];exact (putSel_off rfl).trans rfl
     replace ha:=Aside0.mk ha
     replace E:=Aside0.mk E
     obtain ⟨⟨r1,r2,r3,r4,r5,r6,r7,r8⟩,hP⟩:∃ o,putV b q d x y t (wrap64 (now + k6))=o:=⟨_,rfl⟩
     refine goes_ Try.func37 (by kernel_rfl) rfl #[.agg #[.int .i64 b,.slice A q.length c,.int .i64 d,.int .i64 x,.int .i64 y],.string t,.int .i64 (wrap64 (now + k6))] (by rfl) rfl rfl (by simp only [List.map_toArray,List.map_cons,List.map_nil,Act.eval,Array.getD_eq_getD_getElem?,Option.getD_some,e18,e21,e22]) ?_
     have HQ:=E.1.fact.2.2.2.2.2.1
     refine (putC (Kd.Q_reads' HQ).2.2 (Kd.Q_reads' HQ).2.1 Hq.1 hP).mono ?_
     rintro e w2 ⟨v1,vf2,rfl,ho,ho2,hb⟩
     refine ⟨_,rfl,?_⟩
     have h51:=Kd.R_slice (xs:=r2) ho
     have h52:=Kd.R_slice (xs:=r6) ho2
     have E2:=En.rowR (q:=r2) E (P7.at NGr.1 NGl.1 h6 h7) (fun _ h=>h.2.2.2.2.2.2.2) ho hb
     exact hK.out _ _ ⟨v20,v1,vf2,t,gy,(r1,r2,r3,r4,r5,r6,r7,r8),(by rw [ha.1];exact putSel_upk 3 hb_ rfl rfl rfl),h2,fun _=>⟨hP,h51,h52⟩,h6,E2.1.with ⟨E2.1.fact.2.1,fun _=>E2.1.fact.1,E2.1.fact.2.2.2.1,fun h_=>absurd ((hoff 7 (by kernel_rfl)).symm.trans h_) (by decide),E2.1.fact.2.2.2.2.2⟩,h7⟩
    refine steps_cons ?_ ?_
    ·rintro b_ a w' ⟨v20,v23,vf,t,gy,o,ha,h2,h5,h6,E,h7⟩ hb_ hon hoff
     refine ⟨_,rfl,fun K hK=>?_⟩
     replace ha:=Aside0.mk ha
     replace E:=Aside0.mk E
     refine box_step ?hg (N:=6) ?hd (cs:=#[.int .i64 0,.slice none 0 0,.int .i64 0,.int .i64 0,.int .i64 0,.slice none 0 0,.string (⟨#[]⟩:ByteArray),.int .i64 0]) (t:=45) ?hr ?_;(case hd=>rfl);(case hg=>rfl);(case hr=>go_simp;try rfl)
     intro g2 hg w2 hbox hb
     obtain ⟨E2,N2,G2⟩:=En.box E (P7.at NGr.1 NGl.1 h6 h7) hg hbox hb
     have N3:=En.old E (fun _ h=>h.2.2.2.2.2.2.1) hg
     have N4:=En.old E (fun _ h=>h.2.2.2.2.1) hg
     have G3:w.heap.size ≤ g2:=by rw [hg];exact En.size E (fun _ h=>h.2.2.2.2.2.2.2)
     exact hK.out _ _ ⟨v20,v23,vf,t,g2,o,(by rw [ha.1];exact putSel_upk 4 hb_ rfl rfl rfl),h2,h5,fun _=>⟨N2.1,G2.1,G3,N3.1,N4.1⟩,E2.1.with ⟨E2.1.fact.2.1,E2.1.fact.2.2.1,fun _=>E2.1.fact.1,fun h_=>absurd ((hoff 7 (by kernel_rfl)).symm.trans h_) (by decide),E2.1.fact.2.2.2.2.2⟩,fun _=>up_self b_ 6⟩
    refine steps_cons ?_ ?_
    ·rintro b_ a w' ⟨v20,v23,vf,t,gy,⟨r1,r2,r3,r4,r5,r6,r7,r8⟩,ha,h2,h5,h6,E,h7⟩ hb_ hon hoff
     refine ⟨_,rfl,fun K hK=>?_⟩
     obtain ⟨h50,⟨A5,c5,rfl⟩,A6,c6,rfl⟩:=h5 (hon 5 (by kernel_rfl))
     have e6:a.tmps[6]?=some (.pointer (some ⟨gy,0,none⟩)):=by rw [ha];exact putSel_on (e:=(6,6,.pointer (some ⟨gy,0,none⟩))) 4 rfl rfl (hon 6 (by kernel_rfl)) rfl
     have e23:a.tmps[23]?=some (.agg #[.int .i64 r1,.slice A5 r2.length c5,.int .i64 r3,.int .i64 r4,.int .i64 r5,.slice A6 r6.length c6,.string r7,.int .i64 r8]):=by rw [ha];exact putSel_on (e:=(5,23,.agg #[.int .i64 r1,.slice A5 r2.length c5,.int .i64 r3,.int .i64 r4,.int .i64 r5,.slice A6 r6.length c6,.string r7,.int .i64 r8])) 3 rfl rfl (hon 5 (by kernel_rfl)) rfl
     replace ha:=Aside0.mk ha
     replace E:=Aside0.mk E
     obtain ⟨N2,G2,G3,N3,N4⟩:=h6 (hon 6 (by kernel_rfl))
     have BK:=Aside0.mk (E.1.fact.2.2.1 ⟨hon 6 (by kernel_rfl),hb_⟩)
     obtain ⟨hcz0,hcz1,hcz2,hcz3,hcz4,hcz5,hcz6,hcz7⟩:=c8_ BK
     obtain ⟨hfz0,hfz1,hfz2,hfz3,hfz4,hfz5,hfz6,hfz7⟩:=f8_ BK
     refine skip_ (w1:=?_) (by rfl) rfl ?_ ?_
     rotate_left
     ·go_simp
      rfl
     have E2:=En.set8 (W:=w') (g':=gy) (u0:=.int .i64 r1) (u1:=.slice A5 r2.length c5) (u2:=.int .i64 r3) (u3:=.int .i64 r4) (u4:=.int .i64 r5) (u5:=.slice A6 r6.length c6) (u6:=.string r7) (u7:=.int .i64 r8) (P:=fun W=>Kd.Q Kd.string 9 W w.heap.size (fun k=>k ≠ g) v20 Lt∧Kd.Q Kd.string 9 W w.heap.size (fun k=>k ≠ g) (.slice A5 r2.length c5) r2∧PL w g gr gl (.slice A q.length c) q b d x y W) ⟨E.1.with ⟨BK.1,E.1.fact.1 (hon 2 (by kernel_rfl)),E.1.fact.2.1 (hon 5 (by kernel_rfl)),E.1.fact.2.2.2.2⟩⟩ (Stb.and Stb.row (Stb.and Stb.row (PL.stb NGr.1 NGl.1))) (Sto.and (Sto.row (by decide)) (Sto.and (Sto.row (by decide)) (Sto.and (Sto.blk N4) (PR.sto N3 G3 (by decide))))) ⟨N2⟩ ⟨G2⟩
     exact hK.out _ _ ⟨v20,_,_,t,gy,(r1,r2,r3,r4,r5,r6,r7,r8),(by rw [ha.1];exact putSel_none (v:=undef) rfl),h2,fun _=>⟨h50,⟨A5,c5,rfl⟩,A6,c6,rfl⟩,fun _=>⟨N2,G2,G3,N3,N4⟩,E2.1.with ⟨fun _=>E2.1.fact.2.1,fun _=>E2.1.fact.2.2.1,fun h_=>absurd ((up_self b_ 7).symm.trans h_.2) (by decide),fun _=>E2.1.fact.1,E2.1.fact.2.2.2⟩,fun _=>hon 6 (by kernel_rfl)⟩
    exact steps_nil
   ·rintro b_ a w28 hall ⟨v20,v23,vf,t,gy,⟨r1,r2,r3,r4,r5,r6,r7,r8⟩,ha,h2,h5,h6,E7,h7⟩
    have hb0_:=hall 0 (by kernel_rfl)
    have hb2_:=hall 2 (by kernel_rfl)
    have hb3_:=hall 3 (by kernel_rfl)
    have hb5_:=hall 5 (by kernel_rfl)
    have hb6_:=hall 6 (by kernel_rfl)
    have hb7_:=hall 7 (by kernel_rfl)
    obtain ⟨h50,⟨A5,c5,rfl⟩,A6,c6,rfl⟩:=h5 hb5_
    obtain ⟨N2,G2,G3,N3,N4⟩:=h6 hb6_
    have E8:Aside0 (En w0 w28 g s0 (PY w g gr gl gy (.slice A q.length c) q b d x y (.slice A5 r2.length c5) r2 #[.int .i64 r1,.slice A5 r2.length c5,.int .i64 r3,.int .i64 r4,.int .i64 r5,.slice A6 r6.length c6,.string r7,.int .i64 r8])):=⟨E7.with ⟨E7.fact.2.2.2.1 hb7_,E7.fact.2.1 hb5_,E7.fact.2.2.2.2⟩⟩
    have HP:=Aside0.mk h50
    have N2:=Aside0.mk N2;have G2:=Aside0.mk G2;have G3:=Aside0.mk G3;have N3:=Aside0.mk N3;have N4:=Aside0.mk N4
    subst ha
    simp only [putSel,hb0_,hb2_,hb3_,hb5_,hb6_,hb7_,if_true,Act.put,List.setIfInBounds_toArray,List.set_cons_zero,List.set_cons_succ]
    clear h2 h5 h6 h7 E7 h50 hall hb0_ hb2_ hb3_ hb5_ hb6_ hb7_ E S HT_ HW_
    have E:=E8
    clear E8
    have S:=Aside0.mk (PY.stb (w:=w) (V:=.slice A q.length c) (q:=q) (b:=b) (d:=d) (x:=x) (y:=y) (VY:=.slice A5 r2.length c5) (qy:=r2) (cs:=#[.int .i64 r1,.slice A5 r2.length c5,.int .i64 r3,.int .i64 r4,.int .i64 r5,.slice A6 r6.length c6,.string r7,.int .i64 r8]) NGr.1 NGl.1 N2.1)
    go_upto_block 2 with (first
     | ((with_reducible refine gC 88 rfl ?_);refine gL 25 Try.func88 #[.pointer (some ⟨g,0,none⟩),.int .i64 5] ?_;refine (n_en E.1 S.1 (by decide) (by decide)).mono ?_;rintro e w11 ⟨k25,rfl,hk25,E3⟩;refine ⟨_,rfl,?_⟩;clear E;have E:=Aside0.mk E3;clear E3 hk25))
    (try simp only [Act.put,sA,sZ,sS])
    go_cut [] (fun wc=>∃ (r1 r3 r4 r5 r8:Int) (r7:ByteArray) (A5 A6:Option Addr) (c5 c6 n6:Nat) (qy:List ByteArray),Aside0 (r8=0 → lok r1 qy r3 r4 r5=true∧r1 + (qy.length:Int) ≤ b + (q.length:Int) + 1)∧Aside0 (En w0 wc g s0 (PY w g gr gl gy (.slice A q.length c) q b d x y (.slice A5 qy.length c5) qy #[.int .i64 r1,.slice A5 qy.length c5,.int .i64 r3,.int .i64 r4,.int .i64 r5,.slice A6 n6 c6,.string r7,.int .i64 r8])))
    case first =>
     have hPR:=put_right HP.1
     obtain ⟨hcz0,hcz1,hcz2,hcz3,hcz4,hcz5,hcz6,hcz7⟩:=c8_ (Aside0.mk E.1.fact.1)
     obtain ⟨hfz0,hfz1,hfz2,hfz3,hfz4,hfz5,hfz6,hfz7⟩:=f8_ (Aside0.mk E.1.fact.1)
     obtain ⟨hlz0,hlz1,hlz2,hlz3,hlz4⟩:=c5_ (Aside0.mk E.1.fact.2.2.1)
     have HQ:=Aside0.mk E.1.fact.2.2.2.1
     have Hb:=lok_iff HR.1.2.2.2
     by_cases d0:k25=0
     ·have d0b:(k25 == 0)=true:=beq_iff_eq.mpr d0
      clear d0
      obtain ⟨⟨t1,t2,t3,t4,t5,t6,t7,t8⟩,hT⟩:∃ o,tickV b q d x y (wrap64 (now + k6))=o:=⟨_,rfl⟩
      go_wp2_with (first
       | ((with_reducible refine gC 33 rfl ?_);refine gL 30 Try.func33 #[.agg #[.int .i64 b,.slice A q.length c,.int .i64 d,.int .i64 x,.int .i64 y],.int .i64 (wrap64 (now + k6))] ?_;refine (tickC (Kd.Q_reads' HQ.1).2.2 (Kd.Q_reads' HQ.1).2.1 Hq.1 hT).mono ?_;rintro e w2 ⟨v1,vf2,rfl,ho,ho2,hb⟩;refine ⟨_,rfl,?_⟩;obtain ⟨A7,c7,ev⟩:=Kd.R_slice (xs:=t2) ho;subst ev;obtain ⟨A8,c8,ev⟩:=Kd.R_slice (xs:=t6) ho2;subst ev;have E2:=En.rowR (q:=t2) E S.1 (fun _ h=>h.2.2.2.2.2) ho hb;clear E hcz0 hcz1 hcz2 hcz3 hcz4 hcz5 hcz6 hcz7 hfz0 hfz1 hfz2 hfz3 hfz4 hfz5 hfz6 hfz7 hlz0 hlz1 hlz2 hlz3 hlz4 ho ho2 hb;have E:=E2;clear E2;obtain ⟨hcz0,hcz1,hcz2,hcz3,hcz4,hcz5,hcz6,hcz7⟩:=c8_ (Aside0.mk E.1.fact.2.1);obtain ⟨hfz0,hfz1,hfz2,hfz3,hfz4,hfz5,hfz6,hfz7⟩:=f8_ (Aside0.mk E.1.fact.2.1)))
      go_meet
      case rel=>exact ⟨t1,t3,t4,t5,t8,t7,A7,A8,c7,c8,t6.length,t2,⟨tick_right hT⟩,y_put E NGr NGl N2 G2 G3 N3 N4⟩
     ·have d0b:(k25 == 0)=false:=beq_eq_false_iff_ne.mpr d0
      by_cases d1:k25=1
      ·have d1b:(k25 == 1)=true:=beq_iff_eq.mpr d1
       clear d0 d1
       go_wp2_with (fail)
       have E2:=Aside0.mk (E.1.on (W':=w11.drew) S.1)
       clear E hcz0 hcz1 hcz2 hcz3 hcz4 hcz5 hcz6 hcz7 hfz0 hfz1 hfz2 hfz3 hfz4 hfz5 hfz6 hfz7 hlz0 hlz1 hlz2 hlz3 hlz4 HQ
       have E:=E2
       clear E2
       refine start_ (n:=9) (S:=SL gl (.slice A q.length c) b d x y) (ds:=[]) #[false,false,false,false,false,false,false,false,false] (by kernel_rfl) rfl rfl (SL.of E.1.fact.2.2) (fun hHeld=>?_);refine with_tabW (T:=T12) (B:=B12) (by kernel_rfl) (by kernel_rfl) (fun HT_ HW_=>?_)
       generalize w11.drew=w19 at E hHeld ⊢
       refine pX 1 34 #[false,true,false,false,false,false,false,false,false] HT_ ?_
       refine pX 3 36 #[false,true,false,true,false,false,false,false,false] HT_ ?_
       refine take_ (i:=0) (N:=some 33) (v:=?_) (a':=?_) #[true,true,false,true,false,false,false,false,false] rfl rfl (take_ofW HT_.1 HW_.1 (by kernel_rfl)) (fun _ _ _ h=>h) (Or.inl ⟨by rfl,?_⟩) hHeld ?_ ?_;rotate_left
       ·rintro w' ⟨s0,s1,s2,s3,s4⟩;go_simp;(with_reducible rfl)
       rotate_left
       ·simp only [Act.put,sA,sZ,sS,i64_w,i32_w];rfl
       refine take_ (i:=2) (N:=some 35) (v:=?_) (a':=?_) #[true,true,true,true,false,false,false,false,false] rfl rfl (take_ofW HT_.1 HW_.1 (by kernel_rfl)) (fun _ _ _ h=>h) (Or.inl ⟨by rfl,?_⟩) hHeld ?_ ?_;rotate_left
       ·rintro w' ⟨s0,s1,s2,s3,s4⟩;go_simp;(with_reducible rfl)
       rotate_left
       ·simp only [Act.put,sA,sZ,sS,i64_w,i32_w];rfl
       refine one_ (i:=4) (N:=some 37) #[true,true,true,true,true,false,false,false,false] rfl rfl (one_of HT_.1 (by kernel_rfl)) (by decide) (fun K hK=>?_);refine gR Try.func88 #[.pointer (some ⟨g,0,none⟩),.int .i64 3] ?_
       refine (n_en E.1 S.1 (by decide) (by decide)).mono ?_;rintro e w20 ⟨k37,rfl,hk37,E3⟩;refine ⟨_,rfl,?_⟩;clear E;have E:=Aside0.mk E3;clear E3
       refine hK.out _ _ (SL.of E.1.fact.2.2) (fun hHeld=>?_);clear hK K;refine norm_ (a':=?_) ?_ ?_;rotate_left
       ·show Act.put _ (some 37) _=_;simp only [Act.put,sA,sZ,sS,i64_w,i32_w];rfl
       refine pX 5 38 #[true,true,true,true,true,true,false,false,false] HT_ ?_;refine pX 6 39 #[true,true,true,true,true,true,true,false,false] HT_ ?_
       obtain ⟨⟨t1,t2,t3,t4,t5,t6,t7,t8⟩,hT⟩:∃ o,hearV b q d x y 2 (wrap64 (b + k37)) (⟨#[]⟩:ByteArray)=o:=⟨_,rfl⟩
       have HQ:=Aside0.mk E.1.fact.2.2.2.1
       refine one_ (i:=7) (N:=some 40) #[true,true,true,true,true,true,true,true,false] rfl rfl (one_of HT_.1 (by kernel_rfl)) (by decide) (fun K hK=>?_);refine goes_ Try.func38 (by kernel_rfl) rfl #[.agg #[.int .i64 b,.slice A q.length c,.int .i64 d,.int .i64 x,.int .i64 y],.agg #[.int .i64 2,.int .i64 (wrap64 (b + k37)),.string (⟨#[]⟩:ByteArray)]] (by rfl) rfl rfl (by (try simp only [List.map_toArray,List.map_cons,List.map_nil]);first|done|rfl) ?_
       refine (hearC (Kd.Q_reads' HQ.1).2.2 (Kd.Q_reads' HQ.1).2.1 Hq.1 hT).mono ?_;rintro e w2 ⟨v1,vf2,rfl,ho,ho2,hb⟩;refine ⟨_,rfl,?_⟩;obtain ⟨A7,c7,ev,-⟩:=Kd.Q_slice (xs:=t2) ho;subst ev;obtain ⟨A8,c8,ev⟩:=Kd.R_slice (xs:=t6) ho2;subst ev;have E2:=En.rowQ (q:=t2) E S.1 (fun _ h=>h.2.2.2.2.2) ho hb;clear E ho ho2 hb HQ;have E:=E2;clear E2
       refine hK.out _ _ (SL.of E.1.fact.2.2.2) (fun hHeld=>?_);clear hK K;refine norm_ (a':=?_) ?_ ?_;rotate_left
       ·show Act.put _ (some 40) _=_;simp only [Act.put,sA,sZ,sS,i64_w,i32_w];rfl
       refine one_ (i:=8) (N:=none) #[true,true,true,true,true,true,true,true,true] rfl rfl (one_of HT_.1 (by kernel_rfl)) (by decide) (fun K hK=>?_)
       obtain ⟨hcz0,hcz1,hcz2,hcz3,hcz4,hcz5,hcz6,hcz7⟩:=c8_ (Aside0.mk E.1.fact.2.1);obtain ⟨hfz0,hfz1,hfz2,hfz3,hfz4,hfz5,hfz6,hfz7⟩:=f8_ (Aside0.mk E.1.fact.2.1)
       refine skip_ (w1:=?_) (by rfl) rfl ?_ ?_;rotate_left
       ·go_simp;rfl
       have E3:=y_put (u0:=.int .i64 t1) (u2:=.int .i64 t3) (u3:=.int .i64 t4) (u4:=.int .i64 t5) (u5:=.slice A8 t6.length c8) (u6:=.string t7) (u7:=.int .i64 t8) E NGr NGl N2 G2 G3 N3 N4
       refine hK.out _ _ (SL.of E3.1.fact.2.2) (fun hHeld=>?_);clear hK K;refine done_ (done_of HT_.1 (by kernel_rfl)) ?_
       (try go_wp2)
       go_meet
       case rel=>exact ⟨t1,t3,t4,t5,t8,t7,A7,A8,c7,c8,t6.length,t2,⟨fun h0=>hear_right hT h0 (by have:=HR.1;omega) (.inr (.inl (by have:=HR.1;rw [w64 (by omega) (by omega)];omega)))⟩,E3⟩
      ·have d1b:(k25 == 1)=false:=beq_eq_false_iff_ne.mpr d1
       by_cases d2:k25=2
       ·have d2b:(k25 == 2)=true:=beq_iff_eq.mpr d2
        clear d0 d1 d2
        obtain ⟨⟨t1,t2,t3,t4,t5,t6,t7,t8⟩,hT⟩:∃ o,hearV b q d x y 1 y (⟨#[122]⟩:ByteArray)=o:=⟨_,rfl⟩
        go_wp2_with (first
         | ((with_reducible refine gC 38 rfl ?_);refine gL 47 Try.func38 #[.agg #[.int .i64 b,.slice A q.length c,.int .i64 d,.int .i64 x,.int .i64 y],.agg #[.int .i64 1,.int .i64 y,.string (⟨#[122]⟩:ByteArray)]] ?_;refine (hearC (Kd.Q_reads' HQ.1).2.2 (Kd.Q_reads' HQ.1).2.1 Hq.1 hT).mono ?_;rintro e w2 ⟨v1,vf2,rfl,ho,ho2,hb⟩;refine ⟨_,rfl,?_⟩;obtain ⟨A7,c7,ev,-⟩:=Kd.Q_slice (xs:=t2) ho;subst ev;obtain ⟨A8,c8,ev⟩:=Kd.R_slice (xs:=t6) ho2;subst ev;have E2:=En.rowQ (q:=t2) E S.1 (fun _ h=>h.2.2.2.2.2) ho hb;clear E hcz0 hcz1 hcz2 hcz3 hcz4 hcz5 hcz6 hcz7 hfz0 hfz1 hfz2 hfz3 hfz4 hfz5 hfz6 hfz7 hlz0 hlz1 hlz2 hlz3 hlz4 ho ho2 hb;have E:=E2;clear E2;obtain ⟨hcz0,hcz1,hcz2,hcz3,hcz4,hcz5,hcz6,hcz7⟩:=c8_ (Aside0.mk E.1.fact.2.1);obtain ⟨hfz0,hfz1,hfz2,hfz3,hfz4,hfz5,hfz6,hfz7⟩:=f8_ (Aside0.mk E.1.fact.2.1)))
        go_meet
        case rel=>exact ⟨t1,t3,t4,t5,t8,t7,A7,A8,c7,c8,t6.length,t2,⟨fun h0=>hear_right hT h0 (by have:=HR.1;omega) (.inl rfl)⟩,y_put E NGr NGl N2 G2 G3 N3 N4⟩
       ·have d2b:(k25 == 2)=false:=beq_eq_false_iff_ne.mpr d2
        clear d0 d1 d2
        go_wp2_with (fail)
        go_meet
        case rel=>exact ⟨r1,r3,r4,r5,r8,r7,A5,A6,c5,c6,r6.length,r2,⟨hPR⟩,E⟩
    case rest =>
     clear E HP
     obtain ⟨y1,y3,y4,y5,y8,y7,A7,A8,c7,c8,n8,qy,HC,E⟩:=hcut
     obtain ⟨hcz0,hcz1,hcz2,hcz3,hcz4,hcz5,hcz6,hcz7⟩:=c8_ (Aside0.mk E.1.fact.1);obtain ⟨hfz0,hfz1,hfz2,hfz3,hfz4,hfz5,hfz6,hfz7⟩:=f8_ (Aside0.mk E.1.fact.1)
     obtain ⟨hlz0,hlz1,hlz2,hlz3,hlz4⟩:=c5_ (Aside0.mk E.1.fact.2.2.1);obtain ⟨hmz0,hmz1,hmz2,hmz3,hmz4⟩:=f5_ (Aside0.mk E.1.fact.2.2.1)
     by_cases c79:y8=0
     ·have c79b:(y8 == 0)=true:=beq_iff_eq.mpr c79
      have HC2:=Aside0.mk (HC.1 c79)
      clear c79
      go_wp2
      go_roundg k1
      case measure=>omega
      case rel=>exact ⟨wrap64 (now + k6),wrap64 (k - 1),y1,y3,y4,y5,A7,c7,qy,rfl,rfl,⟨by have:=HR.1;have:=HL.1;rw [w64 (by omega) (by omega)];omega,by have:=HR.1;have:=HL.1;rw [w64 (by omega) (by omega)];omega,by have:=HR.1;have:=HL.1;have:=HC2.1;rw [w64 (by omega) (by omega)];omega,HC2.1.1⟩,l_put E NGr NGl GEl GWl Nrl⟩
     ·have c79b:(y8 == 0)=false:=beq_eq_false_iff_ne.mpr c79
      clear c79
      go_wp2
      go_roundg k1
      case measure=>omega
      case rel=>exact ⟨wrap64 (now + k6),wrap64 (k - 1),b,d,x,y,A,c,q,rfl,rfl,⟨by have:=HR.1;have:=HL.1;rw [w64 (by omega) (by omega)];omega,by have:=HR.1;have:=HL.1;rw [w64 (by omega) (by omega)];omega,by have:=HR.1;have:=HL.1;rw [w64 (by omega) (by omega)];omega,HR.1.2.2.2⟩,⟨E.1.with E.1.fact.2.2⟩⟩
  ·have c12b:decide (0 < k)=false:=decide_eq_false c12
   go_wp2_with (fail)
   go_meet
   case rel=>exact ⟨b,d,x,y,A,c,q,⟨by have:=HR.1;have:=HL.1;omega⟩,E⟩
 case rest =>
  clear E
  obtain ⟨b,d,x,y,A,c,q,HL,E⟩:=hcut
  have S:=Aside0.mk (PL.stb (w:=w) (V:=.slice A q.length c) (q:=q) (b:=b) (d:=d) (x:=x) (y:=y) NGr.1 NGl.1)
  go_step
  go_step
  go_cut [] (fun wc=>∃ (b d x y:Int) (A:Option Addr) (c:Nat) (q:List ByteArray),Aside0 (q.length ≤ 12∧(lok b q d x y=true → q.length ≤ 11))∧Aside0 (En w0 wc g s0 (PL w g gr gl (.slice A q.length c) q b d x y)))
  case first =>
   go_wp2_with (first
     | ((with_reducible refine gC 87 rfl ?_);refine gL 54 Try.func87 #[.pointer (some ⟨g,0,none⟩),.int .i64 15] ?_;refine (one_en E.1 S.1 (by decide) (by decide)).mono ?_;rintro e w3 ⟨k54,rfl,E3⟩;refine ⟨_,rfl,?_⟩;clear E;have E:=Aside0.mk E3;clear E3)
     | ((with_reducible refine gC 88 rfl ?_);refine gL 56 Try.func88 #[.pointer (some ⟨g,0,none⟩),.int .i64 4] ?_;refine (n_en E.1 S.1 (by decide) (by decide)).mono ?_;rintro e w3 ⟨k56,rfl,hk56,E3⟩;refine ⟨_,rfl,?_⟩;clear E hk56;have E:=Aside0.mk E3;clear E3;obtain ⟨hlz0,hlz1,hlz2,hlz3,hlz4⟩:=c5_ (Aside0.mk E.1.fact.1);obtain ⟨hmz0,hmz1,hmz2,hmz3,hmz4⟩:=f5_ (Aside0.mk E.1.fact.1))
     | ((with_reducible refine gate_builtin (b:=.append) (xs:=#[.tmp 58,.tmp 59]) rfl ?_);at_builtin;refine Kd.Q_append Kd.string w.heap.size rfl (.tmp 58) (.tmp 59) 22 9 (.string ⟨#[]⟩) 16 rfl Try.underlying22 info9 rfl (by decide) (by omega) (.slice A q.length c) q (⟨#[]⟩:ByteArray) [.string (⟨#[]⟩:ByteArray)] (fun k=>k ≠ g) (fun _=>False) rfl rfl ?aP (fun _ hk=>hk.elim) ?aF E.1.fact.2.1 (Below.refl _ _) ?aS ?aL ?_;(case aP=>exact rfl);(case aF=>exact E.1.fresh);(case aS=>exact En.size E (fun _ h=>h.2.2.2));(case aL=>have:=HL.1;omega);intro v82 w2 ho hb hg hat;obtain ⟨A9,c9,ev,_⟩:=Kd.Q_slice ho;subst ev;have E2:=l_app E HZ ho hb hg;clear E ho hb hg hat hlz0 hlz1 hlz2 hlz3 hlz4 hmz0 hmz1 hmz2 hmz3 hmz4;have E:=E2;clear E2;obtain ⟨hlz0,hlz1,hlz2,hlz3,hlz4⟩:=c5_ (Aside0.mk E.1.fact.1);obtain ⟨hmz0,hmz1,hmz2,hmz3,hmz4⟩:=f5_ (Aside0.mk E.1.fact.1))
     | ((with_reducible refine gate_dst (N:=64) rfl ?_);refine Kd.R_lit (Kd.int .i64) _ 2 ?hg (N:=64) ?hd (xs:=([(-1),999999988,1000000000]:List Int)) (inner:=[.int .i64 (-1),.int .i64 999999988,.int .i64 1000000000]) (ok:=fun _=>True) (okp:=fun _=>True) ?hr ?hp (fun _ hk=>hk) trivial (Below.refl _ _) (Nat.le_refl _) (by simp) ?_;(case hd=>rfl);(case hg=>rfl);(case hr=>go_simp;try rfl);(case hp=>exact (Reps.one (show Kd.M (Kd.int .i64) _ _ _ (-1) [.int .i64 (-1)] from rfl) (Reps.one (show Kd.M (Kd.int .i64) _ _ _ 999999988 [.int .i64 999999988] from rfl) (Reps.one (show Kd.M (Kd.int .i64) _ _ _ 1000000000 [.int .i64 1000000000] from rfl) (Reps.none _ _)))));intro v2 w2 ho hb hg_ hnew_;have E2:=En.rowI (q:=[(-1),999999988,1000000000]) E S.1 (fun _ h=>h.2.2.2) ho hb;clear E hg_ hnew_;have E:=E2;clear E2 ho hb)
     | ((with_reducible refine gC 88 rfl ?_);refine gL 66 Try.func88 #[.pointer (some ⟨g,0,none⟩),.int .i64 3] ?_;refine (n_en E.1 (Stb.and Stb.row S.1) (by decide) (by decide)).mono ?_;rintro e w3 ⟨k3,rfl,hk3,E3⟩;refine ⟨_,rfl,?_⟩;clear E;have E:=Aside0.mk E3;clear E3;obtain ⟨A9,c9,ev,_⟩:=Kd.Q_slice (xs:=[(-1),999999988,1000000000]) E.1.fact.1;subst ev;obtain ⟨ad9,e9,hx9⟩:=Kd.at_int (Kd.Q_reads' E.1.fact.1).2.2 k3 hk3.1 hk3.2;cases e9;have p9:=eq_true hk3.1;have q9:(k3 < 3)=True:=eq_true hk3.2;clear hk3;obtain ⟨hlz0,hlz1,hlz2,hlz3,hlz4⟩:=c5_ (Aside0.mk E.1.fact.2.1);obtain ⟨hmz0,hmz1,hmz2,hmz3,hmz4⟩:=f5_ (Aside0.mk E.1.fact.2.1))
     | ((with_reducible refine gate_dst (N:=72) rfl ?_);refine Kd.R_lit (Kd.int .i64) _ 2 ?hg (N:=72) ?hd (xs:=([0,1000000000,1000000001]:List Int)) (inner:=[.int .i64 0,.int .i64 1000000000,.int .i64 1000000001]) (ok:=fun _=>True) (okp:=fun _=>True) ?hr ?hp (fun _ hk=>hk) trivial (Below.refl _ _) (Nat.le_refl _) (by simp) ?_;(case hd=>rfl);(case hg=>rfl);(case hr=>go_simp;try rfl);(case hp=>exact (Reps.one (show Kd.M (Kd.int .i64) _ _ _ 0 [.int .i64 0] from rfl) (Reps.one (show Kd.M (Kd.int .i64) _ _ _ 1000000000 [.int .i64 1000000000] from rfl) (Reps.one (show Kd.M (Kd.int .i64) _ _ _ 1000000001 [.int .i64 1000000001] from rfl) (Reps.none _ _)))));intro v2 w2 ho hb hg_ hnew_;have E2:=En.rowI (q:=[0,1000000000,1000000001]) E S.1 (fun _ h=>h.2.2.2) ho hb;clear E hg_ hnew_;have E:=E2;clear E2 ho hb)
     | ((with_reducible refine gC 88 rfl ?_);refine gL 74 Try.func88 #[.pointer (some ⟨g,0,none⟩),.int .i64 3] ?_;refine (n_en E.1 (Stb.and Stb.row S.1) (by decide) (by decide)).mono ?_;rintro e w3 ⟨k3,rfl,hk3,E3⟩;refine ⟨_,rfl,?_⟩;clear E;have E:=Aside0.mk E3;clear E3;obtain ⟨A9,c9,ev,_⟩:=Kd.Q_slice (xs:=[0,1000000000,1000000001]) E.1.fact.1;subst ev;obtain ⟨ad9,e9,hx9⟩:=Kd.at_int (Kd.Q_reads' E.1.fact.1).2.2 k3 hk3.1 hk3.2;cases e9;have p9:=eq_true hk3.1;have q9:(k3 < 3)=True:=eq_true hk3.2;clear hk3;obtain ⟨hlz0,hlz1,hlz2,hlz3,hlz4⟩:=c5_ (Aside0.mk E.1.fact.2.1);obtain ⟨hmz0,hmz1,hmz2,hmz3,hmz4⟩:=f5_ (Aside0.mk E.1.fact.2.1))
     | ((with_reducible refine gate_dst (N:=80) rfl ?_);refine Kd.R_lit (Kd.int .i64) _ 2 ?hg (N:=80) ?hd (xs:=([0,64,65]:List Int)) (inner:=[.int .i64 0,.int .i64 64,.int .i64 65]) (ok:=fun _=>True) (okp:=fun _=>True) ?hr ?hp (fun _ hk=>hk) trivial (Below.refl _ _) (Nat.le_refl _) (by simp) ?_;(case hd=>rfl);(case hg=>rfl);(case hr=>go_simp;try rfl);(case hp=>exact (Reps.one (show Kd.M (Kd.int .i64) _ _ _ 0 [.int .i64 0] from rfl) (Reps.one (show Kd.M (Kd.int .i64) _ _ _ 64 [.int .i64 64] from rfl) (Reps.one (show Kd.M (Kd.int .i64) _ _ _ 65 [.int .i64 65] from rfl) (Reps.none _ _)))));intro v2 w2 ho hb hg_ hnew_;have E2:=En.rowI (q:=[0,64,65]) E S.1 (fun _ h=>h.2.2.2) ho hb;clear E hg_ hnew_;have E:=E2;clear E2 ho hb)
     | ((with_reducible refine gC 88 rfl ?_);refine gL 82 Try.func88 #[.pointer (some ⟨g,0,none⟩),.int .i64 3] ?_;refine (n_en E.1 (Stb.and Stb.row S.1) (by decide) (by decide)).mono ?_;rintro e w3 ⟨k3,rfl,hk3,E3⟩;refine ⟨_,rfl,?_⟩;clear E;have E:=Aside0.mk E3;clear E3;obtain ⟨A9,c9,ev,_⟩:=Kd.Q_slice (xs:=[0,64,65]) E.1.fact.1;subst ev;obtain ⟨ad9,e9,hx9⟩:=Kd.at_int (Kd.Q_reads' E.1.fact.1).2.2 k3 hk3.1 hk3.2;cases e9;have p9:=eq_true hk3.1;have q9:(k3 < 3)=True:=eq_true hk3.2;clear hk3;obtain ⟨hlz0,hlz1,hlz2,hlz3,hlz4⟩:=c5_ (Aside0.mk E.1.fact.2.1);obtain ⟨hmz0,hmz1,hmz2,hmz3,hmz4⟩:=f5_ (Aside0.mk E.1.fact.2.1)))
   ·go_meet
    case rel=>exact ⟨(rd ([(-1),999999988,1000000000]:List Int) k3),d,x,y,A,c,q,⟨by have:=HL.1;omega,fun _=>HL.1⟩,l_set (VN:=.slice A q.length c) ⟨E.1.with E.1.fact.2⟩ NGl GEl GWl Nrl rfl⟩
   ·go_meet
    case rel=>exact ⟨b,d,x,(rd ([0,1000000000,1000000001]:List Int) k3),A,c,q,⟨by have:=HL.1;omega,fun _=>HL.1⟩,l_set (VN:=.slice A q.length c) ⟨E.1.with E.1.fact.2⟩ NGl GEl GWl Nrl rfl⟩
   ·go_meet
    case rel=>exact ⟨b,d,(rd ([0,64,65]:List Int) k3),y,A,c,q,⟨by have:=HL.1;omega,fun _=>HL.1⟩,l_set (VN:=.slice A q.length c) ⟨E.1.with E.1.fact.2⟩ NGl GEl GWl Nrl rfl⟩
   ·go_meet
    case rel=>exact ⟨b,d,x,y,A9,c9,q ++ [(⟨#[]⟩:ByteArray)],⟨by have:=HL.1;rw [List.length_append,List.length_singleton];omega,fun h=>by have h2:=(lok_iff h).2.1.1;rw [List.all_append,Bool.and_eq_true] at h2;exact absurd h2.2 (by decide)⟩,l_set E NGl GEl GWl Nrl (by rw [List.length_append];rfl)⟩
   ·go_meet
    case rel=>exact ⟨b,d,x,y,A,c,q,⟨by have:=HL.1;omega,fun _=>HL.1⟩,E⟩
  case rest =>
   clear E S HL
   obtain ⟨b,d,x,y,A,c,q,HL,E⟩:=hcut
   obtain ⟨hlz0,hlz1,hlz2,hlz3,hlz4⟩:=c5_ (Aside0.mk E.1.fact.1);obtain ⟨hmz0,hmz1,hmz2,hmz3,hmz4⟩:=f5_ (Aside0.mk E.1.fact.1)
   obtain ⟨hrz0,hrz1,hrz2,hrz3,hrz4⟩:=c5_ (Aside0.mk E.1.fact.2.2.1);obtain ⟨hsz0,hsz1,hsz2,hsz3,hsz4⟩:=f5_ (Aside0.mk E.1.fact.2.2.1)
   go_wp2_with (fail)
   have E2:=En.set5 (W:=wc) (g':=gr) (u0:=.int .i64 b) (u1:=.slice A q.length c) (u2:=.int .i64 d) (u3:=.int .i64 x) (u4:=.int .i64 y) (P:=fun W=>KeepBut w W g none∧Kd.Q Kd.string 9 W w.heap.size (fun k=>k ≠ g) (.slice A q.length c) q) ⟨E.1.with ⟨E.1.fact.2.2.1,E.1.fact.2.2.2,E.1.fact.2.1⟩⟩ (Stb.and Stb.keep Stb.row) (Sto.and (Sto.keep GWr.1) (Sto.row (by decide))) NGr GEr
   refine bodyPost_ret (results_cell_row rfl _ _ gr 24 #[.int .i64 b,.slice A q.length c,.int .i64 d,.int .i64 x,.int .i64 y] (0,0) _ rfl E2.1.fact.1 Try.underlying24 rfl (by kernel_rfl)) rfl ?_
   exact ⟨b,d,x,y,A,c,q,rfl,HL.1,E2.1.with E2.1.fact.2⟩
theorem src_en {w W:World} {A0:Option Addr} {c0:Nat} {l0:List Int} {P0:World → Prop} (hB:Below w.heap.size w W) (hr0:Kd.C (Kd.int .u8) w A0 l0.length l0) (hc0:l0.length ≤ c0) (hl:l0.length ≤ 1048576) (hP:P0 W) (hS:∀ W',P0 W → Below W.heap.size W W' → P0 W') :
  Calls Try.prog 85 #[.slice A0 l0.length c0] W fun e w'=>∃ g,e=.returned (.pointer (some ⟨g,0,none⟩))∧Aside0 (En w w' g l0 fun W'=>P0 W'∧KeepBut w W' g none):=by
 obtain ⟨x,m,K,hK⟩:=source_ok l0 hl
 refine (spec_l01Source.calls K A0 c0 l0 _ _ _ _ w W hB hr0 hc0 (hK K (Nat.le_refl _))).mono ?_
 rintro e w' ⟨g,rfl,hi,hb,hb2⟩
 exact ⟨g,rfl,⟨⟨_,_,_,hi,at_zero l0 hl⟩,hb,hS _ hP hb2,KeepBut.of_below hb g none⟩⟩
theorem En.neB {w0 W:World} {g a:Nat} {s0:List Int} {P:World → Prop} {cs:Array Value} {t:TypeId} {fr:Nat × Nat} (h:Aside0 (En w0 W g s0 P)) (hb:W.heap[a]?=some (.cells cs t fr)) (ht:t ≠ 110):Aside0 (a ≠ g):=by
 obtain ⟨p,x,y,h1,h2⟩:=h.1.src
 exact ⟨(IsS110.ne_blk h1 hb ht).symm⟩
theorem link_en {w0 W:World} {g:Nat} {s0:List Int} {P:World → Prop} (h:Aside0 (En w0 W g s0 P)) (hs:Stb g P):Calls Try.prog 86 #[.pointer (some ⟨g,0,none⟩)] W fun e w'=>∃ (b d x y:Int) (A:Option Addr) (c:Nat) (q:List ByteArray),
   e=.returned (.agg #[.int .i64 b,.slice A q.length c,.int .i64 d,.int .i64 x,.int .i64 y])∧(q.length ≤ 12∧(lok b q d x y=true → q.length ≤ 11))∧Aside0 (En w0 w' g s0 fun W=>Kd.Q Kd.string 9 W w0.heap.size (fun k=>k ≠ g) (.slice A q.length c) q∧P W):=by
 obtain ⟨p,a,b',h1,h2⟩:=h.1.src
 refine (l13Link_ok g s0 p a b' w0 W h1 h2 h.1.bel).mono ?_
 rintro e w' ⟨b,d,x,y,A,c,q,rfl,hq,E⟩
 exact ⟨b,d,x,y,A,c,q,rfl,hq,⟨E.with ⟨Kd.Q_lower E.fact.2 h.1.bel.size,hs _ _ h.1.fact E.fact.1⟩⟩⟩
abbrev P4 (w:World) (g gr gl:Nat) (V:Value) (q:List ByteArray) (b d x y:Int) (v13:Value) (L:List Int) (b1 n6 b6:Prop):World → Prop:=fun W =>
 (b1 → Kd.Q (Kd.int .i64) 2 W w.heap.size (fun k=>k ≠ g) v13 L)∧(n6 → W.heap[gr]?=some ze5)∧(b6 → W.heap[gr]?=some (.cells #[.int .i64 b,V,.int .i64 d,.int .i64 x,.int .i64 y] 24 (0,0)))∧W.heap[gl]?=some (.cells #[.int .i64 b,V,.int .i64 d,.int .i64 x,.int .i64 y] 24 (0,0))∧Kd.Q Kd.string 9 W w.heap.size (fun k=>k ≠ g) V q∧KeepBut w W g none
theorem P4.stb {w:World} {g gr gl:Nat} {V v13:Value} {q:List ByteArray} {L:List Int} {b d x y:Int} {b1 n6 b6:Prop} (h:gr ≠ g) (h2:gl ≠ g):Stb g (P4 w g gr gl V q b d x y v13 L b1 n6 b6):=Stb.and (Stb.imp Stb.row) (Stb.and (Stb.imp (Stb.blk h)) (Stb.and (Stb.imp (Stb.blk h)) (Stb.and (Stb.blk h2) (Stb.and Stb.row Stb.keep))))
theorem r_put {w W:World} {g gr gl:Nat} {s0:List Int} {V:Value} {q:List ByteArray} {b d x y:Int} {u0 u2 u3 u4:Value} (E:Aside0 (En w W g s0 (PL w g gr gl V q b d x y))) (NGr:Aside0 (gr ≠ g)) (NGl:Aside0 (gl ≠ g)) (GEr:Aside0 (w.heap.size ≤ gr)) (Nrl:Aside0 (gr ≠ gl)) :
  Aside0 (En w (((((W.setCell ⟨gr,0,none⟩ u0).setCell ⟨gr,1,none⟩ V).setCell ⟨gr,2,none⟩ u2).setCell ⟨gr,3,none⟩ u3).setCell ⟨gr,4,none⟩ u4) g s0 fun W=>W.heap[gr]?=some (.cells #[u0,V,u2,u3,u4] 24 (0,0))∧W.heap[gl]?=some (.cells #[.int .i64 b,V,.int .i64 d,.int .i64 x,.int .i64 y] 24 (0,0))∧Kd.Q Kd.string 9 W w.heap.size (fun k=>k ≠ g) V q∧KeepBut w W g none) :=
 En.set5 (W:=W) (g':=gr) ⟨E.1.with ⟨E.1.fact.2.2.1,E.1.fact.1,E.1.fact.2.1,E.1.fact.2.2.2⟩⟩ (Stb.and (Stb.blk NGl.1) (Stb.and Stb.row Stb.keep)) (Sto.and (Sto.blk Nrl.1.symm) (Sto.and (Sto.row (by decide)) (Sto.keep GEr.1))) NGr GEr
def T4:Bool × List (List Nat × List Nat):=(true,[([],[]),([],[]),([],[]),([2],[2]),([1,3],[1,3]),([4],[4]),([0,3,0],[0]),([5,6,0,1,2,3,4,5,6],[5])])
def B4:List Nat:=[0,0,0,4,14,30,13,127]
abbrev Ln:List Int:=[(-1),1000000,1000001]
theorem r_put4 {w W:World} {g gr gl:Nat} {s0:List Int} {V:Value} {q:List ByteArray} {b d x y:Int} {u0 u2 u3 u4:Value} {v13:Value} {L:List Int} {b1:Prop} (E:Aside0 (En w W g s0 fun W=>W.heap[gr]?=some ze5∧(b1 → Kd.Q (Kd.int .i64) 2 W w.heap.size (fun k=>k ≠ g) v13 L)∧W.heap[gl]?=some (.cells #[.int .i64 b,V,.int .i64 d,.int .i64 x,.int .i64 y] 24 (0,0))∧Kd.Q Kd.string 9 W w.heap.size (fun k=>k ≠ g) V q∧KeepBut w W g none)) (NGr:Aside0 (gr ≠ g)) (NGl:Aside0 (gl ≠ g)) (GEr:Aside0 (w.heap.size ≤ gr)) (Nrl:Aside0 (gr ≠ gl)) :
  Aside0 (En w (((((W.setCell ⟨gr,0,none⟩ u0).setCell ⟨gr,1,none⟩ V).setCell ⟨gr,2,none⟩ u2).setCell ⟨gr,3,none⟩ u3).setCell ⟨gr,4,none⟩ u4) g s0 fun W=>W.heap[gr]?=some (.cells #[u0,V,u2,u3,u4] 24 (0,0))∧(b1 → Kd.Q (Kd.int .i64) 2 W w.heap.size (fun k=>k ≠ g) v13 L)∧W.heap[gl]?=some (.cells #[.int .i64 b,V,.int .i64 d,.int .i64 x,.int .i64 y] 24 (0,0))∧Kd.Q Kd.string 9 W w.heap.size (fun k=>k ≠ g) V q∧KeepBut w W g none) :=
 En.set5 (W:=W) (g':=gr) E (Stb.and (Stb.imp Stb.row) (Stb.and (Stb.blk NGl.1) (Stb.and Stb.row Stb.keep))) (Sto.and (Sto.imp (Sto.row (by decide))) (Sto.and (Sto.blk Nrl.1.symm) (Sto.and (Sto.row (by decide)) (Sto.keep GEr.1)))) NGr GEr
set_option maxHeartbeats 8000000 in
set_option maxRecDepth 100000 in
theorem DrawLinkTick_ok (A0:Option Addr) (c0:Nat) (l0:List Int) (w:World) (hr0:Kd.C (Kd.int .u8) w A0 l0.length l0) (hc0:l0.length ≤ c0) (hl:l0.length ≤ 1048576) :
  Calls Try.prog 42 #[.slice A0 l0.length c0] w fun e w'=>∃ (b d x y:Int) (A:Option Addr) (c:Nat) (q:List ByteArray) (n:Int),e=.returned (.tuple #[.agg #[.int .i64 b,.slice A q.length c,.int .i64 d,.int .i64 x,.int .i64 y],.int .i64 n])∧(q.length ≤ 12∧(lok b q d x y=true → q.length ≤ 11))∧Kd.C Kd.string w' A q.length q∧q.length ≤ c∧Below w.heap.size w w':=by
 have hu24:=Try.underlying24
 have HB:=Aside0.mk (Below.refl w.heap.size w)
 have HR0:=Aside0.mk hr0;have HC0:=Aside0.mk hc0;have HL0:=Aside0.mk hl
 clear hr0 hc0 hl
 go_enter Try.func42,Try.ntmps42
 go_wp2_with (first
  | ((with_reducible refine gate_dst (N:=2) rfl ?_);refine box_event ?hg (N:=2) ?hd (cs:=#[.int .i64 0,.slice none 0 0,.int .i64 0,.int .i64 0,.int .i64 0]) (t:=24) ?hr ?_;(case hd=>rfl);(case hg=>rfl);(case hr=>go_simp;try rfl);intro gr hg w4 hbox hb;have GEr:=gB HB hg;have BKr:=Aside0.mk hbox;have HB2:=tB HB hb;clear HB;have HB:=HB2;clear HB2 hb hbox hg)
  | ((with_reducible refine gC 85 rfl ?_);refine gL 7 Try.func85 #[.slice A0 l0.length c0] ?_;refine (src_en (P0:=fun W=>W.heap[gr]?=some ze5) HB.1 HR0.1 HC0.1 HL0.1 BKr.1 (fun W' h hb=>blk_below h hb)).mono ?_;rintro e w5 ⟨g,rfl,E⟩;refine ⟨_,rfl,?_⟩;have NGr:=En.neB E E.1.fact.1 (by decide);clear HB BKr;have S1:=Aside0.mk (Stb.and (Stb.blk (o:=ze5) NGr.1) (Stb.keep (w:=w))))
  | ((with_reducible refine gC 86 rfl ?_);refine gL 9 Try.func86 #[.pointer (some ⟨g,0,none⟩)] ?_;refine (link_en E S1.1).mono ?_;rintro e w6 ⟨b,d,x,y,A,c,q,rfl,hq,E2⟩;refine ⟨_,rfl,?_⟩;have HQ:=Aside0.mk hq;clear E hq;have E:=E2;clear E2;have S2:=Aside0.mk (Stb.and (Stb.row (d:=Kd.string) (e:=9) (base:=w.heap.size) (v:=.slice A q.length c) (xs:=q)) S1.1))
  | ((with_reducible refine gate_dst (N:=5) rfl ?_);refine box_event ?hg (N:=5) ?hd (cs:=#[.int .i64 0,.slice none 0 0,.int .i64 0,.int .i64 0,.int .i64 0]) (t:=24) ?hr ?_;(case hd=>rfl);(case hg=>rfl);(case hr=>go_simp;try rfl);intro gl hg w7 hbox hb;obtain ⟨E2,NGl,GEl⟩:=En.box E S2.1 hg hbox hb;have Nrl:=En.old E (fun _ h=>h.2.1) hg;clear E;have E:=E2;clear E2 hb hbox hg;obtain ⟨hcz0,hcz1,hcz2,hcz3,hcz4⟩:=c5_ (Aside0.mk E.1.fact.1);obtain ⟨hfz0,hfz1,hfz2,hfz3,hfz4⟩:=f5_ (Aside0.mk E.1.fact.1))
  | ((with_reducible refine gC 87 rfl ?_);refine gL 11 Try.func87 #[.pointer (some ⟨g,0,none⟩),.int .i64 10] ?_;refine (one_en (En.set5 (W:=w7) (u0:=.int .i64 b) (u1:=.slice A q.length c) (u2:=.int .i64 d) (u3:=.int .i64 x) (u4:=.int .i64 y) E S2.1 (PR.sto Nrl.1 GEl.1 (by decide)) NGl GEl).1 (PL.stb NGr.1 NGl.1) (by decide) (by decide)).mono ?_;rintro e w8 ⟨k1,rfl,E3⟩;refine ⟨_,rfl,?_⟩;clear E;have E:=Aside0.mk E3;clear E3 hcz0 hcz1 hcz2 hcz3 hcz4 hfz0 hfz1 hfz2 hfz3 hfz4 S1 S2;cases k1))
 ·have E2:=Aside0.mk (E.1.on (W':=w8.drew) (PL.stb (w:=w) (V:=.slice A q.length c) (q:=q) (b:=b) (d:=d) (x:=x) (y:=y) NGr.1 NGl.1))
  clear E
  have E:=E2
  clear E2
  refine start_ (n:=5) (S:=SL gl (.slice A q.length c) b d x y) (ds:=[]) #[false,false,false,false,false] (by kernel_rfl) rfl rfl (SL.of E.1.fact) (fun hHeld=>?_)
  generalize w8.drew=w9 at E hHeld ⊢
  refine pure_ (i:=1) (N:=some 19) (v:=?_) (a':=?_) #[false,true,false,false,false] rfl rfl (by kernel_rfl) (fun _ _ _ h=>h) (Or.inl ⟨by rfl,?_⟩) ?_ ?_;rotate_left
  ·intro w';go_simp;(with_reducible rfl)
  rotate_left
  ·simp only [Act.put,sA,sZ,sS,i64_w,i32_w];rfl
  refine take_ (i:=0) (N:=some 18) (v:=?_) (a':=?_) #[true,true,false,false,false] rfl rfl (by kernel_rfl) (fun _ _ _ h=>h) (Or.inl ⟨by rfl,?_⟩) hHeld ?_ ?_;rotate_left
  ·rintro w' ⟨s0,s1,s2,s3,s4⟩;go_simp;(with_reducible rfl)
  rotate_left
  ·simp only [Act.put,sA,sZ,sS,i64_w,i32_w];rfl
  refine one_ (i:=2) (N:=some 20) #[true,true,true,false,false] rfl rfl (by kernel_rfl) (by decide) (fun K hK=>?_);refine gR Try.func88 #[.pointer (some ⟨g,0,none⟩),.int .i64 60] ?_
  refine (n_en E.1 (PL.stb (w:=w) (V:=.slice A q.length c) (q:=q) (b:=b) (d:=d) (x:=x) (y:=y) NGr.1 NGl.1) (by decide) (by decide)).mono ?_;rintro e w10 ⟨k2,rfl,hk2,E3⟩;refine ⟨_,rfl,?_⟩;clear E;have E:=Aside0.mk E3;clear E3
  refine hK.out _ _ (SL.of E.1.fact) (fun hHeld=>?_);clear hK K;refine norm_ (a':=?_) ?_ ?_;rotate_left
  ·show Act.put _ (some 20) _=_;simp only [Act.put,sA,sZ,sS,i64_w,i32_w];rfl
  refine one_ (i:=3) (N:=none) #[true,true,true,true,false] rfl rfl (by kernel_rfl) (by decide) (fun K hK=>?_)
  obtain ⟨hcz0,hcz1,hcz2,hcz3,hcz4⟩:=c5_ (Aside0.mk E.1.fact.2.2.1);obtain ⟨hfz0,hfz1,hfz2,hfz3,hfz4⟩:=f5_ (Aside0.mk E.1.fact.2.2.1)
  refine skip_ (w1:=?_) (by rfl) rfl ?_ ?_;rotate_left
  ·go_simp;rfl
  have E2:=r_put (u0:=.int .i64 b) (u2:=.int .i64 d) (u3:=.int .i64 x) (u4:=.int .i64 y) E NGr NGl GEr Nrl
  clear E
  have E:=E2
  clear E2
  refine hK.out _ _ (c5_ (Aside0.mk E.1.fact.2.1)) (fun hHeld=>?_);clear hK K
  refine pure_ (i:=4) (N:=some 3) (v:=?_) (a':=?_) #[true,true,true,true,true] rfl rfl (by kernel_rfl) (fun _ _ _ h=>h) (Or.inl ⟨by rfl,?_⟩) ?_ ?_;rotate_left
  ·intro w';go_simp;(with_reducible rfl)
  rotate_left
  ·simp only [Act.put,sA,sZ,sS,i64_w,i32_w];rfl
  refine done_ (by kernel_rfl) ?_
  (try go_wp2)
  refine bodyPost_ret (results_ct rfl _ _ gr 24 #[.int .i64 b,.slice A q.length c,.int .i64 d,.int .i64 x,.int .i64 y] (0,0) _ rfl E.1.fact.1 Try.underlying24 rfl (by kernel_rfl)) rfl ?_
  exact ⟨b,d,x,y,A,c,q,_,rfl,HQ.1,(Kd.Q_reads' E.1.fact.2.2.1).2.2,(Kd.Q_reads' E.1.fact.2.2.1).2.1,E.1.bel⟩
 ·have E2:=Aside0.mk (E.1.on (W':=w8.drew) (PL.stb (w:=w) (V:=.slice A q.length c) (q:=q) (b:=b) (d:=d) (x:=x) (y:=y) NGr.1 NGl.1))
  clear E
  have E:=E2
  clear E2
  refine start_ (n:=8) (S:=fun w'=>True) (ds:=[]) #[false,false,false,false,false,false,false,false] (by kernel_rfl) rfl rfl trivial (fun hHeld=>?_);refine with_tabW (T:=T4) (B:=B4) (by kernel_rfl) (by kernel_rfl) (fun HT_ HW_=>?_)
  generalize w8.drew=w9 at E hHeld ⊢
  refine pX 2 14 #[false,false,true,false,false,false,false,false] HT_ ?_
  refine inv_at [0,1,3,4,5,6,7] (fun a0_ b_ a w'=>∃ (v13:Value) (ad:Addr) (m:Value) (k n n7:Int),a=putSel a0_ b_ [(0,12,.agg #[.int .i64 b,.slice A q.length c,.int .i64 d,.int .i64 x,.int .i64 y]),(1,13,v13),(3,15,.int .i64 k),(4,16,m),(5,17,.int .i64 n),(7,3,.int .i64 n7)]∧(b_ 1=true → ∃ c,v13=.slice (some ad) 3 c)∧(b_ 3=true → 0 ≤ k∧k < 3)∧(b_ 4=true → m=.pointer (some (ad.add k.toNat)))∧Aside0 (En w w' g l0 (P4 w g gr gl (.slice A q.length c) q b d x y v13 Ln (b_ 1=true) (b_ 6=false) (b_ 6=true)))) HT_.out HW_.out (by kernel_rfl) (by kernel_rfl) ?_ ?_ ?_
  ·exact ⟨.bool false,⟨0,0,none⟩,.bool false,0,0,0,by simp only [putSel,Bool.false_eq_true,if_false],fun h_=>absurd h_ (by decide),fun h_=>absurd h_ (by decide),fun h_=>absurd h_ (by decide),⟨E.1.with ⟨fun h_=>absurd h_ (by decide),fun _=>E.1.fact.2.2.1,fun h_=>absurd h_ (by decide),E.1.fact.1,E.1.fact.2.1,E.1.fact.2.2.2⟩⟩⟩
  ·clear E
   refine steps_cons ?_ ?_
   ·rintro b_ a w' ⟨v13,ad,m,k,n,n7,ha,h1,h3,h4,E⟩ hb_ hon hoff
    refine ⟨_,rfl,fun K hK=>?_⟩
    have e5:a.tmps[5]?=some (.pointer (some ⟨gl,0,none⟩)):=by rw [ha];exact (putSel_off rfl).trans rfl
    replace ha:=Aside0.mk ha
    obtain ⟨hcz0,hcz1,hcz2,hcz3,hcz4⟩:=c5_ (Aside0.mk E.1.fact.2.2.2.1)
    refine value_ (w1:=w') (v:=.agg #[.int .i64 b,.slice A q.length c,.int .i64 d,.int .i64 x,.int .i64 y]) (by rfl) rfl ?_ ?_
    ·go_simp
     (try simp only [i64_w])
     try rfl
    exact hK.out _ _ ⟨v13,ad,m,k,n,n7,(by rw [ha.1];exact putSel_upk 0 hb_ rfl rfl rfl),h1,h3,h4,E⟩
   refine steps_cons ?_ ?_
   ·rintro b_ a w' ⟨v13,ad,m,k,n,n7,ha,h1,h3,h4,E⟩ hb_ hon hoff
    refine ⟨_,rfl,fun K hK=>?_⟩
    replace ha:=Aside0.mk ha
    refine Kd.R_lit_step (Kd.int .i64) _ 2 ?hg (N:=13) ?hd (xs:=Ln) (inner:=[.int .i64 (-1),.int .i64 1000000,.int .i64 1000001]) (ok:=fun _=>True) (okp:=fun _=>True) ?hr ?hp (fun _ hk=>hk) trivial (Below.refl _ _) (Nat.le_refl _) (by simp) ?_;(case hd=>rfl);(case hg=>rfl);(case hr=>go_simp;try rfl);(case hp=>exact (Reps.one (show Kd.M (Kd.int .i64) _ _ _ (-1) [.int .i64 (-1)] from rfl) (Reps.one (show Kd.M (Kd.int .i64) _ _ _ 1000000 [.int .i64 1000000] from rfl) (Reps.one (show Kd.M (Kd.int .i64) _ _ _ 1000001 [.int .i64 1000001] from rfl) (Reps.none _ _)))))
    intro v2 w2 ho hb hg_ hnew_
    have E2:=En.rowI (q:=Ln) E (P4.stb NGr.1 NGl.1) (fun _ h=>h.2.2.2.2.2) ho hb
    obtain ⟨A2,c2,ev⟩:=Kd.R_slice (xs:=Ln) ho
    subst ev
    obtain ⟨ad2,ev,_⟩:=Kd.at_int (Kd.R_reads' ho).2.2 0 (by decide) (by decide)
    subst ev
    exact hK.out _ _ ⟨_,ad2,m,k,n,n7,(by rw [ha.1];exact putSel_upk 1 hb_ rfl rfl rfl),fun _=>⟨c2,rfl⟩,h3,fun h_=>absurd ((hoff 4 (by kernel_rfl)).symm.trans h_) (by decide),⟨E2.1.with ⟨fun _=>E2.1.fact.1,E2.1.fact.2.2⟩⟩⟩
   refine steps_cons ?_ ?_
   ·rintro b_ a w' ⟨v13,ad,m,k,n,n7,ha,h1,h3,h4,E⟩ hb_ hon hoff
    refine ⟨_,rfl,fun K hK=>?_⟩
    have e14:a.tmps[14]?=some (.pointer (some ⟨g,0,none⟩)):=by rw [ha];exact (putSel_off rfl).trans rfl
    replace ha:=Aside0.mk ha
    refine goes_ Try.func88 (by kernel_rfl) rfl #[.pointer (some ⟨g,0,none⟩),.int .i64 3] (by rfl) rfl rfl (by first|(simp only [List.map_toArray,List.map_cons,List.map_nil,Act.eval,Array.getD_eq_getD_getElem?,Option.getD_some,e14];done)|(simp only [List.map_toArray,List.map_cons,List.map_nil,Act.eval,Array.getD_eq_getD_getElem?,Option.getD_some,e14];rfl)) ?_
    refine (n_en E.1 (P4.stb NGr.1 NGl.1) (by decide) (by decide)).mono ?_
    rintro e w2 ⟨k2,rfl,hk2,E2⟩
    refine ⟨_,rfl,?_⟩
    exact hK.out _ _ ⟨v13,ad,m,k2,n,n7,(by rw [ha.1];exact putSel_upk 2 hb_ rfl rfl rfl),h1,fun _=>hk2,fun h_=>absurd ((hoff 4 (by kernel_rfl)).symm.trans h_) (by decide),⟨E2⟩⟩
   refine steps_cons ?_ ?_
   ·rintro b_ a w' ⟨v13,ad,m,k,n,n7,ha,h1,h3,h4,E⟩ hb_ hon hoff
    refine ⟨_,rfl,fun K hK=>?_⟩
    obtain ⟨c2,rfl⟩:=h1 (hon 1 (by kernel_rfl))
    have e13:a.tmps[13]?=some (.slice (some ad) 3 c2):=by rw [ha];exact putSel_on (e:=(1,13,.slice (some ad) 3 c2)) 1 rfl rfl (hon 1 (by kernel_rfl)) rfl
    have e15:a.tmps[15]?=some (.int .i64 k):=by rw [ha];exact putSel_on (e:=(3,15,.int .i64 k)) 2 rfl rfl (hon 3 (by kernel_rfl)) rfl
    replace ha:=Aside0.mk ha
    have p9:=eq_true (h3 (hon 3 (by kernel_rfl))).1
    have q9:=eq_true (h3 (hon 3 (by kernel_rfl))).2
    refine value_ (w1:=w') (v:=.pointer (some (ad.add k.toNat))) (by rfl) rfl ?_ ?_
    ·go_simp
     (try simp only [i64_w])
     try rfl
    exact hK.out _ _ ⟨_,ad,_,k,n,n7,(by rw [ha.1];exact putSel_upk 3 hb_ rfl rfl rfl),fun _=>⟨c2,rfl⟩,h3,fun _=>rfl,E⟩
   refine steps_cons ?_ ?_
   ·rintro b_ a w' ⟨v13,ad,m,k,n,n7,ha,h1,h3,h4,E⟩ hb_ hon hoff
    refine ⟨_,rfl,fun K hK=>?_⟩
    obtain ⟨c2,rfl⟩:=h1 (hon 1 (by kernel_rfl))
    obtain rfl:=h4 (hon 4 (by kernel_rfl))
    have e16:a.tmps[16]?=some (.pointer (some (ad.add k.toNat))):=by rw [ha];exact putSel_on (e:=(4,16,.pointer (some (ad.add k.toNat)))) 3 rfl rfl (hon 4 (by kernel_rfl)) rfl
    replace ha:=Aside0.mk ha
    obtain ⟨ad_,ea_,hx_⟩:=Kd.at_int (Kd.Q_reads' (E.1.fact.1 (hon 1 (by kernel_rfl)))).2.2 k (h3 (hon 3 (by kernel_rfl))).1 (h3 (hon 3 (by kernel_rfl))).2
    cases ea_
    refine value_ (w1:=w') (v:=.int .i64 (rd Ln k)) (by rfl) rfl ?_ ?_
    ·go_simp
     (try simp only [i64_w])
     try rfl
    exact hK.out _ _ ⟨_,ad,_,k,rd Ln k,n7,(by rw [ha.1];exact putSel_upk 4 hb_ rfl rfl rfl),fun _=>⟨c2,rfl⟩,h3,fun _=>rfl,E⟩
   refine steps_cons ?_ ?_
   ·rintro b_ a w' ⟨v13,ad,m,k,n,n7,ha,h1,h3,h4,E⟩ hb_ hon hoff
    refine ⟨_,rfl,fun K hK=>?_⟩
    have e2:a.tmps[2]?=some (.pointer (some ⟨gr,0,none⟩)):=by rw [ha];exact (putSel_off rfl).trans rfl
    have e12:a.tmps[12]?=some (.agg #[.int .i64 b,.slice A q.length c,.int .i64 d,.int .i64 x,.int .i64 y]):=by rw [ha];exact putSel_on (e:=(0,12,.agg #[.int .i64 b,.slice A q.length c,.int .i64 d,.int .i64 x,.int .i64 y])) 0 rfl rfl (hon 0 (by kernel_rfl)) rfl
    replace ha:=Aside0.mk ha
    obtain ⟨hcz0,hcz1,hcz2,hcz3,hcz4⟩:=c5_ (Aside0.mk (E.1.fact.2.1 hb_));obtain ⟨hfz0,hfz1,hfz2,hfz3,hfz4⟩:=f5_ (Aside0.mk (E.1.fact.2.1 hb_))
    refine skip_ (w1:=?_) (by rfl) rfl ?_ ?_
    rotate_left
    ·go_simp
     rfl
    have E2:=r_put4 (u0:=.int .i64 b) (u2:=.int .i64 d) (u3:=.int .i64 x) (u4:=.int .i64 y) ⟨E.1.with ⟨E.1.fact.2.1 hb_,E.1.fact.1,E.1.fact.2.2.2⟩⟩ NGr NGl GEr Nrl
    exact hK.out _ _ ⟨v13,ad,m,k,n,n7,(by rw [ha.1];exact putSel_none (v:=undef) rfl),h1,h3,h4,⟨E2.1.with ⟨E2.1.fact.2.1,fun h_=>absurd ((up_self b_ 6).symm.trans h_) (by decide),fun _=>E2.1.fact.1,E2.1.fact.2.2⟩⟩⟩
   refine steps_cons ?_ ?_
   ·rintro b_ a w' ⟨v13,ad,m,k,n,n7,ha,h1,h3,h4,E⟩ hb_ hon hoff
    refine ⟨_,rfl,fun K hK=>?_⟩
    have e17:a.tmps[17]?=some (.int .i64 n):=by rw [ha];exact putSel_on (e:=(5,17,.int .i64 n)) 4 rfl rfl (hon 5 (by kernel_rfl)) rfl
    replace ha:=Aside0.mk ha
    refine value_ (w1:=w') (v:=.int .i64 n) (by rfl) rfl ?_ ?_
    ·go_simp
     (try simp only [i64_w])
     try rfl
    exact hK.out _ _ ⟨v13,ad,m,k,n,n,(by rw [ha.1];exact putSel_upk 5 hb_ rfl rfl rfl),h1,h3,h4,E⟩
   exact steps_nil
  ·rintro b_ a w28 hall ⟨v13,ad,m,k,n,n7,ha,h1,h3,h4,E2⟩
   have hb0_:=hall 0 (by kernel_rfl)
   have hb1_:=hall 1 (by kernel_rfl)
   have hb3_:=hall 3 (by kernel_rfl)
   have hb4_:=hall 4 (by kernel_rfl)
   have hb5_:=hall 5 (by kernel_rfl)
   have hb6_:=hall 6 (by kernel_rfl)
   have hb7_:=hall 7 (by kernel_rfl)
   clear E
   have E:Aside0 (En w w28 g l0 fun W=>W.heap[gr]?=some (.cells #[.int .i64 b,.slice A q.length c,.int .i64 d,.int .i64 x,.int .i64 y] 24 (0,0))∧W.heap[gl]?=some (.cells #[.int .i64 b,.slice A q.length c,.int .i64 d,.int .i64 x,.int .i64 y] 24 (0,0))∧Kd.Q Kd.string 9 W w.heap.size (fun k=>k ≠ g) (.slice A q.length c) q):=⟨E2.1.with ⟨E2.1.fact.2.2.1 hb6_,E2.1.fact.2.2.2.1,E2.1.fact.2.2.2.2.1⟩⟩
   obtain ⟨c2,rfl⟩:=h1 hb1_
   obtain rfl:=h4 hb4_
   subst ha
   simp only [putSel,hb0_,hb1_,hb3_,hb4_,hb5_,hb6_,hb7_,if_true,Act.put,sA,sZ,sS]
   clear hall hb0_ hb1_ hb3_ hb4_ hb5_ hb6_ hb7_ E2 h1 h3 h4
   (try go_wp2)
   refine bodyPost_ret (results_ct rfl _ _ gr 24 #[.int .i64 b,.slice A q.length c,.int .i64 d,.int .i64 x,.int .i64 y] (0,0) _ rfl E.1.fact.1 Try.underlying24 rfl (by kernel_rfl)) rfl ?_
   exact ⟨b,d,x,y,A,c,q,_,rfl,HQ.1,(Kd.Q_reads' E.1.fact.2.2).2.2,(Kd.Q_reads' E.1.fact.2.2).2.1,E.1.bel⟩
def U4:Bool × List (List Nat × List Nat):=(true,[([],[]),([],[]),([],[]),([2],[2]),([1,3],[1,3]),([4],[4]),([5,5],[5]),([6],[6]),([],[]),([],[]),([9,3],[9]),([8,10],[8,10]),([11],[11]),([0,10,0],[0]),([7,13,0,1,2,3,4,5,6,7,13],[7]),([12,14,0,1,2,3,4,5,6,7,8,9,10,11,12,13,14],[12])])
def V4:List Nat:=[0,0,0,4,14,30,62,126,0,0,524,1804,3852,1549,9983,32767]
abbrev La:List Int:=[0,1000,1001]
theorem La_ok {k:Int} (h:0 ≤ k∧k < 3):0 ≤ rd La k∧rd La k ≤ 1001:=by
 obtain ⟨h0,h1⟩:=h
 have h2:k=0 ∨ k=1 ∨ k=2:=by omega
 rcases h2 with rfl|rfl|rfl <;> decide
abbrev P5 (w:World) (g gr gl:Nat) (V:Value) (q:List ByteArray) (b d x y:Int) (v14 v19 v21:Value) (xs:List Int) (b1 b6 b8 n13 b13:Prop):World → Prop:=fun W =>
 (b1 → Kd.Q (Kd.int .i64) 3 W w.heap.size (fun k=>k ≠ g) v14 La)∧(b6 → Kd.R (Kd.int .u8) 5 W w.heap.size (fun k=>k ≠ g) v19 xs)∧(b8 → Kd.Q (Kd.int .i64) 2 W w.heap.size (fun k=>k ≠ g) v21 Ln)∧(n13 → W.heap[gr]?=some ze5)∧(b13 → W.heap[gr]?=some (.cells #[.int .i64 b,V,.int .i64 d,.int .i64 x,.int .i64 y] 24 (0,0)))∧W.heap[gl]?=some (.cells #[.int .i64 b,V,.int .i64 d,.int .i64 x,.int .i64 y] 24 (0,0))∧Kd.Q Kd.string 9 W w.heap.size (fun k=>k ≠ g) V q∧KeepBut w W g none
theorem P5.stb {w:World} {g gr gl:Nat} {V v14 v19 v21:Value} {q:List ByteArray} {xs:List Int} {b d x y:Int} {b1 b6 b8 n13 b13:Prop} (h:gr ≠ g) (h2:gl ≠ g):Stb g (P5 w g gr gl V q b d x y v14 v19 v21 xs b1 b6 b8 n13 b13) :=
 Stb.and (Stb.imp Stb.row) (Stb.and (Stb.imp Stb.rowR) (Stb.and (Stb.imp Stb.row) (Stb.and (Stb.imp (Stb.blk h)) (Stb.and (Stb.imp (Stb.blk h)) (Stb.and (Stb.blk h2) (Stb.and Stb.row Stb.keep))))))
theorem r_put5 {w W:World} {g gr gl:Nat} {s0:List Int} {V v14 v19 v21:Value} {q:List ByteArray} {xs:List Int} {b d x y:Int} {u0 u2 u3 u4:Value} {b1 b6 b8:Prop} (E:Aside0 (En w W g s0 fun W=>W.heap[gr]?=some ze5∧(b1 → Kd.Q (Kd.int .i64) 3 W w.heap.size (fun k=>k ≠ g) v14 La)∧(b6 → Kd.R (Kd.int .u8) 5 W w.heap.size (fun k=>k ≠ g) v19 xs)∧(b8 → Kd.Q (Kd.int .i64) 2 W w.heap.size (fun k=>k ≠ g) v21 Ln)∧W.heap[gl]?=some (.cells #[.int .i64 b,V,.int .i64 d,.int .i64 x,.int .i64 y] 24 (0,0))∧Kd.Q Kd.string 9 W w.heap.size (fun k=>k ≠ g) V q∧KeepBut w W g none)) (NGr:Aside0 (gr ≠ g)) (NGl:Aside0 (gl ≠ g)) (GEr:Aside0 (w.heap.size ≤ gr)) (Nrl:Aside0 (gr ≠ gl)) :
  Aside0 (En w (((((W.setCell ⟨gr,0,none⟩ u0).setCell ⟨gr,1,none⟩ V).setCell ⟨gr,2,none⟩ u2).setCell ⟨gr,3,none⟩ u3).setCell ⟨gr,4,none⟩ u4) g s0 fun W=>W.heap[gr]?=some (.cells #[u0,V,u2,u3,u4] 24 (0,0))∧(b1 → Kd.Q (Kd.int .i64) 3 W w.heap.size (fun k=>k ≠ g) v14 La)∧(b6 → Kd.R (Kd.int .u8) 5 W w.heap.size (fun k=>k ≠ g) v19 xs)∧(b8 → Kd.Q (Kd.int .i64) 2 W w.heap.size (fun k=>k ≠ g) v21 Ln)∧W.heap[gl]?=some (.cells #[.int .i64 b,V,.int .i64 d,.int .i64 x,.int .i64 y] 24 (0,0))∧Kd.Q Kd.string 9 W w.heap.size (fun k=>k ≠ g) V q∧KeepBut w W g none) :=
 En.set5 (W:=W) (g':=gr) E (Stb.and (Stb.imp Stb.row) (Stb.and (Stb.imp Stb.rowR) (Stb.and (Stb.imp Stb.row) (Stb.and (Stb.blk NGl.1) (Stb.and Stb.row Stb.keep))))) (Sto.and (Sto.imp (Sto.row (by decide))) (Sto.and (Sto.imp (Sto.rowR (by decide))) (Sto.and (Sto.imp (Sto.row (by decide))) (Sto.and (Sto.blk Nrl.1.symm) (Sto.and (Sto.row (by decide)) (Sto.keep GEr.1)))))) NGr GEr
set_option maxHeartbeats 8000000 in
set_option maxRecDepth 100000 in
theorem DrawLinkPut_ok (A0:Option Addr) (c0:Nat) (l0:List Int) (w:World) (hr0:Kd.C (Kd.int .u8) w A0 l0.length l0) (hc0:l0.length ≤ c0) (hl:l0.length ≤ 1048576) :
  Calls Try.prog 41 #[.slice A0 l0.length c0] w fun e w'=>∃ (b d x y:Int) (A:Option Addr) (c:Nat) (q:List ByteArray) (t:ByteArray) (n:Int),e=.returned (.tuple #[.agg #[.int .i64 b,.slice A q.length c,.int .i64 d,.int .i64 x,.int .i64 y],.string t,.int .i64 n])∧(q.length ≤ 12∧(lok b q d x y=true → q.length ≤ 11))∧Kd.C Kd.string w' A q.length q∧q.length ≤ c∧Below w.heap.size w w':=by
 have hu24:=Try.underlying24
 have HB:=Aside0.mk (Below.refl w.heap.size w)
 have HR0:=Aside0.mk hr0;have HC0:=Aside0.mk hc0;have HL0:=Aside0.mk hl
 clear hr0 hc0 hl
 go_enter Try.func41,Try.ntmps41
 go_wp2_with (first
  | ((with_reducible refine gate_dst (N:=2) rfl ?_);refine box_event ?hg (N:=2) ?hd (cs:=#[.int .i64 0,.slice none 0 0,.int .i64 0,.int .i64 0,.int .i64 0]) (t:=24) ?hr ?_;(case hd=>rfl);(case hg=>rfl);(case hr=>go_simp;try rfl);intro gr hg w4 hbox hb;have GEr:=gB HB hg;have BKr:=Aside0.mk hbox;have HB2:=tB HB hb;clear HB;have HB:=HB2;clear HB2 hb hbox hg)
  | ((with_reducible refine gC 85 rfl ?_);refine gL 8 Try.func85 #[.slice A0 l0.length c0] ?_;refine (src_en (P0:=fun W=>W.heap[gr]?=some ze5) HB.1 HR0.1 HC0.1 HL0.1 BKr.1 (fun W' h hb=>blk_below h hb)).mono ?_;rintro e w5 ⟨g,rfl,E⟩;refine ⟨_,rfl,?_⟩;have NGr:=En.neB E E.1.fact.1 (by decide);clear HB BKr;have S1:=Aside0.mk (Stb.and (Stb.blk (o:=ze5) NGr.1) (Stb.keep (w:=w))))
  | ((with_reducible refine gC 86 rfl ?_);refine gL 10 Try.func86 #[.pointer (some ⟨g,0,none⟩)] ?_;refine (link_en E S1.1).mono ?_;rintro e w6 ⟨b,d,x,y,A,c,q,rfl,hq,E2⟩;refine ⟨_,rfl,?_⟩;have HQ:=Aside0.mk hq;clear E hq;have E:=E2;clear E2;have S2:=Aside0.mk (Stb.and (Stb.row (d:=Kd.string) (e:=9) (base:=w.heap.size) (v:=.slice A q.length c) (xs:=q)) S1.1))
  | ((with_reducible refine gate_dst (N:=6) rfl ?_);refine box_event ?hg (N:=6) ?hd (cs:=#[.int .i64 0,.slice none 0 0,.int .i64 0,.int .i64 0,.int .i64 0]) (t:=24) ?hr ?_;(case hd=>rfl);(case hg=>rfl);(case hr=>go_simp;try rfl);intro gl hg w7 hbox hb;obtain ⟨E2,NGl,GEl⟩:=En.box E S2.1 hg hbox hb;have Nrl:=En.old E (fun _ h=>h.2.1) hg;clear E;have E:=E2;clear E2 hb hbox hg;obtain ⟨hcz0,hcz1,hcz2,hcz3,hcz4⟩:=c5_ (Aside0.mk E.1.fact.1);obtain ⟨hfz0,hfz1,hfz2,hfz3,hfz4⟩:=f5_ (Aside0.mk E.1.fact.1))
  | ((with_reducible refine gC 87 rfl ?_);refine gL 12 Try.func87 #[.pointer (some ⟨g,0,none⟩),.int .i64 10] ?_;refine (one_en (En.set5 (W:=w7) (u0:=.int .i64 b) (u1:=.slice A q.length c) (u2:=.int .i64 d) (u3:=.int .i64 x) (u4:=.int .i64 y) E S2.1 (PR.sto Nrl.1 GEl.1 (by decide)) NGl GEl).1 (PL.stb NGr.1 NGl.1) (by decide) (by decide)).mono ?_;rintro e w8 ⟨k1,rfl,E3⟩;refine ⟨_,rfl,?_⟩;clear E;have E:=Aside0.mk E3;clear E3 hcz0 hcz1 hcz2 hcz3 hcz4 hfz0 hfz1 hfz2 hfz3 hfz4 S1 S2;cases k1))
 ·have E2:=Aside0.mk (E.1.on (W':=w8.drew) (PL.stb (w:=w) (V:=.slice A q.length c) (q:=q) (b:=b) (d:=d) (x:=x) (y:=y) NGr.1 NGl.1))
  clear E
  have E:=E2
  clear E2
  refine start_ (n:=6) (S:=SL gl (.slice A q.length c) b d x y) (ds:=[]) #[false,false,false,false,false,false] (by kernel_rfl) rfl rfl (SL.of E.1.fact) (fun hHeld=>?_)
  generalize w8.drew=w9 at E hHeld ⊢
  refine pure_ (i:=1) (N:=some 27) (v:=?_) (a':=?_) #[false,true,false,false,false,false] rfl rfl (by kernel_rfl) (fun _ _ _ h=>h) (Or.inl ⟨by rfl,?_⟩) ?_ ?_;rotate_left
  ·intro w';go_simp;(with_reducible rfl)
  rotate_left
  ·simp only [Act.put,sA,sZ,sS,i64_w,i32_w];rfl
  refine take_ (i:=0) (N:=some 26) (v:=?_) (a':=?_) #[true,true,false,false,false,false] rfl rfl (by kernel_rfl) (fun _ _ _ h=>h) (Or.inl ⟨by rfl,?_⟩) hHeld ?_ ?_;rotate_left
  ·rintro w' ⟨s0,s1,s2,s3,s4⟩;go_simp;(with_reducible rfl)
  rotate_left
  ·simp only [Act.put,sA,sZ,sS,i64_w,i32_w];rfl
  refine one_ (i:=2) (N:=some 28) #[true,true,true,false,false,false] rfl rfl (by kernel_rfl) (by decide) (fun K hK=>?_);refine gR Try.func88 #[.pointer (some ⟨g,0,none⟩),.int .i64 99] ?_
  refine (n_en E.1 (PL.stb (w:=w) (V:=.slice A q.length c) (q:=q) (b:=b) (d:=d) (x:=x) (y:=y) NGr.1 NGl.1) (by decide) (by decide)).mono ?_;rintro e w10 ⟨k2,rfl,hk2,E3⟩;refine ⟨_,rfl,?_⟩;clear E;have E:=Aside0.mk E3;clear E3
  refine hK.out _ _ (SL.of E.1.fact) (fun hHeld=>?_);clear hK K;refine norm_ (a':=?_) ?_ ?_;rotate_left
  ·show Act.put _ (some 28) _=_;simp only [Act.put,sA,sZ,sS,i64_w,i32_w];rfl
  refine one_ (i:=3) (N:=none) #[true,true,true,true,false,false] rfl rfl (by kernel_rfl) (by decide) (fun K hK=>?_)
  obtain ⟨hcz0,hcz1,hcz2,hcz3,hcz4⟩:=c5_ (Aside0.mk E.1.fact.2.2.1);obtain ⟨hfz0,hfz1,hfz2,hfz3,hfz4⟩:=f5_ (Aside0.mk E.1.fact.2.2.1)
  refine skip_ (w1:=?_) (by rfl) rfl ?_ ?_;rotate_left
  ·go_simp;rfl
  have E2:=r_put (u0:=.int .i64 b) (u2:=.int .i64 d) (u3:=.int .i64 x) (u4:=.int .i64 y) E NGr NGl GEr Nrl
  clear E
  have E:=E2
  clear E2
  refine hK.out _ _ (c5_ (Aside0.mk E.1.fact.2.1)) (fun hHeld=>?_);clear hK K
  refine pure_ (i:=4) (N:=some 3) (v:=?_) (a':=?_) #[true,true,true,true,true,false] rfl rfl (by kernel_rfl) (fun _ _ _ h=>h) (Or.inl ⟨by rfl,?_⟩) ?_ ?_;rotate_left
  ·intro w';go_simp;(with_reducible rfl)
  rotate_left
  ·simp only [Act.put,sA,sZ,sS,i64_w,i32_w];rfl
  refine pure_ (i:=5) (N:=some 4) (v:=?_) (a':=?_) #[true,true,true,true,true,true] rfl rfl (by kernel_rfl) (fun _ _ _ h=>h) (Or.inl ⟨by rfl,?_⟩) ?_ ?_;rotate_left
  ·intro w';go_simp;(with_reducible rfl)
  rotate_left
  ·simp only [Act.put,sA,sZ,sS,i64_w,i32_w];rfl
  refine done_ (by kernel_rfl) ?_
  (try go_wp2)
  refine bodyPost_ret (results_ctt rfl _ _ gr 24 #[.int .i64 b,.slice A q.length c,.int .i64 d,.int .i64 x,.int .i64 y] (0,0) _ rfl E.1.fact.1 Try.underlying24 rfl (by kernel_rfl)) rfl ?_
  exact ⟨b,d,x,y,A,c,q,_,_,rfl,HQ.1,(Kd.Q_reads' E.1.fact.2.2.1).2.2,(Kd.Q_reads' E.1.fact.2.2.1).2.1,E.1.bel⟩
 ·have E2:=Aside0.mk (E.1.on (W':=w8.drew) (PL.stb (w:=w) (V:=.slice A q.length c) (q:=q) (b:=b) (d:=d) (x:=x) (y:=y) NGr.1 NGl.1))
  clear E
  have E:=E2
  clear E2
  refine start_ (n:=16) (S:=fun w'=>True) (ds:=[]) #[false,false,false,false,false,false,false,false,false,false,false,false,false,false,false,false] (by kernel_rfl) rfl rfl trivial (fun hHeld=>?_);refine with_tabW (T:=U4) (B:=V4) (by kernel_rfl) (by kernel_rfl) (fun HT_ HW_=>?_)
  generalize w8.drew=w9 at E hHeld ⊢
  refine pX 2 15 #[false,false,true,false,false,false,false,false,false,false,false,false,false,false,false,false] HT_ ?_
  refine pX 9 22 #[false,false,true,false,false,false,false,false,false,true,false,false,false,false,false,false] HT_ ?_
  refine inv_at [0,1,3,4,5,6,7,8,10,11,12,13,14,15] (fun a0_ b_ a w'=>∃ (v14:Value) (ad:Addr) (m:Value) (k n:Int) (v19:Value) (xs:List Int) (t:ByteArray) (v21:Value) (ad2:Addr) (m2:Value) (k2 n2:Int) (t3:ByteArray) (n4:Int),a=putSel a0_ b_ [(0,13,.agg #[.int .i64 b,.slice A q.length c,.int .i64 d,.int .i64 x,.int .i64 y]),(1,14,v14),(3,16,.int .i64 k),(4,17,m),(5,18,.int .i64 n),(6,19,v19),(7,20,.string t),(8,21,v21),(10,23,.int .i64 k2),(11,24,m2),(12,25,.int .i64 n2),(14,3,.string t3),(15,4,.int .i64 n4)]∧(b_ 1=true → ∃ c,v14=.slice (some ad) 3 c)∧(b_ 3=true → 0 ≤ k∧k < 3)∧(b_ 4=true → m=.pointer (some (ad.add k.toNat)))∧(b_ 5=true → 0 ≤ n∧n ≤ 1001)∧(b_ 8=true → ∃ c,v21=.slice (some ad2) 3 c)∧(b_ 10=true → 0 ≤ k2∧k2 < 3)∧(b_ 11=true → m2=.pointer (some (ad2.add k2.toNat)))∧Aside0 (En w w' g l0 (P5 w g gr gl (.slice A q.length c) q b d x y v14 v19 v21 xs (b_ 1=true) (b_ 6=true) (b_ 8=true) (b_ 13=false) (b_ 13=true)))) HT_.out HW_.out (by kernel_rfl) (by kernel_rfl) ?_ ?_ ?_
  ·exact ⟨.bool false,⟨0,0,none⟩,.bool false,0,0,.bool false,[],⟨#[]⟩,.bool false,⟨0,0,none⟩,.bool false,0,0,⟨#[]⟩,0,by simp only [putSel,Bool.false_eq_true,if_false],fun h_=>absurd h_ (by decide),fun h_=>absurd h_ (by decide),fun h_=>absurd h_ (by decide),fun h_=>absurd h_ (by decide),fun h_=>absurd h_ (by decide),fun h_=>absurd h_ (by decide),fun h_=>absurd h_ (by decide),⟨E.1.with ⟨fun h_=>absurd h_ (by decide),fun h_=>absurd h_ (by decide),fun h_=>absurd h_ (by decide),fun _=>E.1.fact.2.2.1,fun h_=>absurd h_ (by decide),E.1.fact.1,E.1.fact.2.1,E.1.fact.2.2.2⟩⟩⟩
  ·clear E
   refine steps_cons ?_ ?_
   ·rintro b_ a w' ⟨v14,ad,m,k,n,v19,xs,t,v21,ad2,m2,k2,n2,t3,n4,ha,h1,h3,h4,h5,h8,h10,h11,E⟩ hb_ hon hoff
    refine ⟨_,rfl,fun K hK=>?_⟩
    have e6:a.tmps[6]?=some (.pointer (some ⟨gl,0,none⟩)):=by rw [ha];exact (putSel_off rfl).trans rfl
    replace ha:=Aside0.mk ha
    obtain ⟨hcz0,hcz1,hcz2,hcz3,hcz4⟩:=c5_ (Aside0.mk E.1.fact.2.2.2.2.2.1)
    refine value_ (w1:=w') (v:=.agg #[.int .i64 b,.slice A q.length c,.int .i64 d,.int .i64 x,.int .i64 y]) (by rfl) rfl ?_ ?_
    ·go_simp
     (try simp only [i64_w])
     try rfl
    exact hK.out _ _ ⟨v14,ad,m,k,n,v19,xs,t,v21,ad2,m2,k2,n2,t3,n4,(by rw [ha.1];exact putSel_upk 0 hb_ rfl rfl rfl),h1,h3,h4,h5,h8,h10,h11,E⟩
   refine steps_cons ?_ ?_
   ·rintro b_ a w' ⟨v14,ad,m,k,n,v19,xs,t,v21,ad2,m2,k2,n2,t3,n4,ha,h1,h3,h4,h5,h8,h10,h11,E⟩ hb_ hon hoff
    refine ⟨_,rfl,fun K hK=>?_⟩
    replace ha:=Aside0.mk ha
    refine Kd.R_lit_step (Kd.int .i64) _ 3 ?hg (N:=14) ?hd (xs:=La) (inner:=[.int .i64 0,.int .i64 1000,.int .i64 1001]) (ok:=fun _=>True) (okp:=fun _=>True) ?hr ?hp (fun _ hk=>hk) trivial (Below.refl _ _) (Nat.le_refl _) (by simp) ?_;(case hd=>rfl);(case hg=>rfl);(case hr=>go_simp;try rfl);(case hp=>exact (Reps.one (show Kd.M (Kd.int .i64) _ _ _ 0 [.int .i64 0] from rfl) (Reps.one (show Kd.M (Kd.int .i64) _ _ _ 1000 [.int .i64 1000] from rfl) (Reps.one (show Kd.M (Kd.int .i64) _ _ _ 1001 [.int .i64 1001] from rfl) (Reps.none _ _)))))
    intro v2 w2 ho hb hg_ hnew_
    have E2:=En.rowE (q:=La) E (P5.stb NGr.1 NGl.1) (fun _ h=>h.2.2.2.2.2.2.2) ho hb (by decide)
    obtain ⟨A2,c2,ev⟩:=Kd.R_slice (xs:=La) ho
    subst ev
    obtain ⟨adn,ev,_⟩:=Kd.at_int (Kd.R_reads' ho).2.2 0 (by decide) (by decide)
    subst ev
    exact hK.out _ _ ⟨_,adn,m,k,n,v19,xs,t,v21,ad2,m2,k2,n2,t3,n4,(by rw [ha.1];exact putSel_upk 1 hb_ rfl rfl rfl),fun _=>⟨c2,rfl⟩,h3,fun h_=>absurd ((hoff 4 (by kernel_rfl)).symm.trans h_) (by decide),h5,h8,h10,h11,⟨E2.1.with ⟨fun _=>E2.1.fact.1,E2.1.fact.2.2⟩⟩⟩
   refine steps_cons ?_ ?_
   ·rintro b_ a w' ⟨v14,ad,m,k,n,v19,xs,t,v21,ad2,m2,k2,n2,t3,n4,ha,h1,h3,h4,h5,h8,h10,h11,E⟩ hb_ hon hoff
    refine ⟨_,rfl,fun K hK=>?_⟩
    have e15:a.tmps[15]?=some (.pointer (some ⟨g,0,none⟩)):=by rw [ha];exact (putSel_off rfl).trans rfl
    replace ha:=Aside0.mk ha
    refine goes_ Try.func88 (by kernel_rfl) rfl #[.pointer (some ⟨g,0,none⟩),.int .i64 3] (by rfl) rfl rfl (by first|(simp only [List.map_toArray,List.map_cons,List.map_nil,Act.eval,Array.getD_eq_getD_getElem?,Option.getD_some,e15];done)|(simp only [List.map_toArray,List.map_cons,List.map_nil,Act.eval,Array.getD_eq_getD_getElem?,Option.getD_some,e15];rfl)) ?_
    refine (n_en E.1 (P5.stb NGr.1 NGl.1) (by decide) (by decide)).mono ?_
    rintro e w2 ⟨kn,rfl,hkn,E2⟩
    refine ⟨_,rfl,?_⟩
    exact hK.out _ _ ⟨v14,ad,m,kn,n,v19,xs,t,v21,ad2,m2,k2,n2,t3,n4,(by rw [ha.1];exact putSel_upk 2 hb_ rfl rfl rfl),h1,fun _=>hkn,fun h_=>absurd ((hoff 4 (by kernel_rfl)).symm.trans h_) (by decide),h5,h8,h10,h11,⟨E2⟩⟩
   refine steps_cons ?_ ?_
   ·rintro b_ a w' ⟨v14,ad,m,k,n,v19,xs,t,v21,ad2,m2,k2,n2,t3,n4,ha,h1,h3,h4,h5,h8,h10,h11,E⟩ hb_ hon hoff
    refine ⟨_,rfl,fun K hK=>?_⟩
    obtain ⟨c2,rfl⟩:=h1 (hon 1 (by kernel_rfl))
    have e14:a.tmps[14]?=some (.slice (some ad) 3 c2):=by rw [ha];exact putSel_on (e:=(1,14,.slice (some ad) 3 c2)) 1 rfl rfl (hon 1 (by kernel_rfl)) rfl
    have e16:a.tmps[16]?=some (.int .i64 k):=by rw [ha];exact putSel_on (e:=(3,16,.int .i64 k)) 2 rfl rfl (hon 3 (by kernel_rfl)) rfl
    replace ha:=Aside0.mk ha
    have p9:=eq_true (h3 (hon 3 (by kernel_rfl))).1
    have q9:=eq_true (h3 (hon 3 (by kernel_rfl))).2
    refine value_ (w1:=w') (v:=.pointer (some (ad.add k.toNat))) (by rfl) rfl ?_ ?_
    ·go_simp
     (try simp only [i64_w])
     try rfl
    exact hK.out _ _ ⟨_,ad,_,k,n,v19,xs,t,v21,ad2,m2,k2,n2,t3,n4,(by rw [ha.1];exact putSel_upk 3 hb_ rfl rfl rfl),fun _=>⟨c2,rfl⟩,h3,fun _=>rfl,h5,h8,h10,h11,E⟩
   refine steps_cons ?_ ?_
   ·rintro b_ a w' ⟨v14,ad,m,k,n,v19,xs,t,v21,ad2,m2,k2,n2,t3,n4,ha,h1,h3,h4,h5,h8,h10,h11,E⟩ hb_ hon hoff
    refine ⟨_,rfl,fun K hK=>?_⟩
    obtain ⟨c2,rfl⟩:=h1 (hon 1 (by kernel_rfl))
    obtain rfl:=h4 (hon 4 (by kernel_rfl))
    have e17:a.tmps[17]?=some (.pointer (some (ad.add k.toNat))):=by rw [ha];exact putSel_on (e:=(4,17,.pointer (some (ad.add k.toNat)))) 3 rfl rfl (hon 4 (by kernel_rfl)) rfl
    replace ha:=Aside0.mk ha
    obtain ⟨ad_,ea_,hx_⟩:=Kd.at_int (Kd.Q_reads' (E.1.fact.1 (hon 1 (by kernel_rfl)))).2.2 k (h3 (hon 3 (by kernel_rfl))).1 (h3 (hon 3 (by kernel_rfl))).2
    cases ea_
    refine value_ (w1:=w') (v:=.int .i64 (rd La k)) (by rfl) rfl ?_ ?_
    ·go_simp
     (try simp only [i64_w])
     try rfl
    exact hK.out _ _ ⟨_,ad,_,k,rd La k,v19,xs,t,v21,ad2,m2,k2,n2,t3,n4,(by rw [ha.1];exact putSel_upk 4 hb_ rfl rfl rfl),fun _=>⟨c2,rfl⟩,h3,fun _=>rfl,fun _=>La_ok (h3 (hon 3 (by kernel_rfl))),h8,h10,h11,E⟩
   refine steps_cons ?_ ?_
   ·rintro b_ a w' ⟨v14,ad,m,k,n,v19,xs,t,v21,ad2,m2,k2,n2,t3,n4,ha,h1,h3,h4,h5,h8,h10,h11,E⟩ hb_ hon hoff
    refine ⟨_,rfl,fun K hK=>?_⟩
    have e18:a.tmps[18]?=some (.int .i64 n):=by rw [ha];exact putSel_on (e:=(5,18,.int .i64 n)) 4 rfl rfl (hon 5 (by kernel_rfl)) rfl
    replace ha:=Aside0.mk ha
    have hn:=h5 (hon 5 (by kernel_rfl))
    refine Kd.R_make_step (Kd.int .u8) _ 5 (by rfl) (N:=19) rfl 41 _ _ rfl n (by simp only [Act.eval,Array.getD_eq_getD_getElem?,e18,Option.getD_some]) (by simp only [Act.eval,Array.getD_eq_getD_getElem?,e18,Option.getD_some]) Try.underlying41 (.int .u8 0) 1 info5 rfl (by decide) (by omega) 0 (ok:=fun _=>True) (okp:=fun _=>True) rfl (fun _ hk=>hk) trivial hn.1 (by omega) (Below.refl _ _) (Nat.le_refl _) ?_
    intro v2 w2 ho hb hg_ hnew_
    have E2:=En.rowB E (P5.stb NGr.1 NGl.1) (fun _ h=>h.2.2.2.2.2.2.2) ho hb
    exact hK.out _ _ ⟨v14,ad,m,k,n,v2,_,t,v21,ad2,m2,k2,n2,t3,n4,(by rw [ha.1];exact putSel_upk 5 hb_ rfl rfl rfl),h1,h3,h4,h5,h8,h10,h11,⟨E2.1.with ⟨E2.1.fact.2.1,fun _=>E2.1.fact.1,E2.1.fact.2.2.2⟩⟩⟩
   refine steps_cons ?_ ?_
   ·rintro b_ a w' ⟨v14,ad,m,k,n,v19,xs,t,v21,ad2,m2,k2,n2,t3,n4,ha,h1,h3,h4,h5,h8,h10,h11,E⟩ hb_ hon hoff
    refine ⟨_,rfl,fun K hK=>?_⟩
    have e19:a.tmps[19]?=some (v19):=by rw [ha];exact putSel_on (e:=(6,19,v19)) 5 rfl rfl (hon 6 (by kernel_rfl)) rfl
    replace ha:=Aside0.mk ha
    have hcv:=own_string (P:=Try.prog) Try.underlying41 Try.underlying5 Try.underlying9 (Kd.own_of_R (E.1.fact.2.1 (hon 6 (by kernel_rfl))))
    refine value_ (w1:=w') (v:=.string (strOfNums xs)) (by rfl) rfl ?_ ?_
    ·go_simp
     (try simp only [i64_w])
     try rfl
    exact hK.out _ _ ⟨v14,ad,m,k,n,v19,xs,_,v21,ad2,m2,k2,n2,t3,n4,(by rw [ha.1];exact putSel_upk 6 hb_ rfl rfl rfl),h1,h3,h4,h5,h8,h10,h11,E⟩
   refine steps_cons ?_ ?_
   ·rintro b_ a w' ⟨v14,ad,m,k,n,v19,xs,t,v21,ad2,m2,k2,n2,t3,n4,ha,h1,h3,h4,h5,h8,h10,h11,E⟩ hb_ hon hoff
    refine ⟨_,rfl,fun K hK=>?_⟩
    replace ha:=Aside0.mk ha
    refine Kd.R_lit_step (Kd.int .i64) _ 2 ?hg (N:=21) ?hd (xs:=Ln) (inner:=[.int .i64 (-1),.int .i64 1000000,.int .i64 1000001]) (ok:=fun _=>True) (okp:=fun _=>True) ?hr ?hp (fun _ hk=>hk) trivial (Below.refl _ _) (Nat.le_refl _) (by simp) ?_;(case hd=>rfl);(case hg=>rfl);(case hr=>go_simp;try rfl);(case hp=>exact (Reps.one (show Kd.M (Kd.int .i64) _ _ _ (-1) [.int .i64 (-1)] from rfl) (Reps.one (show Kd.M (Kd.int .i64) _ _ _ 1000000 [.int .i64 1000000] from rfl) (Reps.one (show Kd.M (Kd.int .i64) _ _ _ 1000001 [.int .i64 1000001] from rfl) (Reps.none _ _)))))
    intro v2 w2 ho hb hg_ hnew_
    have E2:=En.rowE (q:=Ln) E (P5.stb NGr.1 NGl.1) (fun _ h=>h.2.2.2.2.2.2.2) ho hb (by decide)
    obtain ⟨A2,c2,ev⟩:=Kd.R_slice (xs:=Ln) ho
    subst ev
    obtain ⟨adn,ev,_⟩:=Kd.at_int (Kd.R_reads' ho).2.2 0 (by decide) (by decide)
    subst ev
    exact hK.out _ _ ⟨v14,ad,m,k,n,v19,xs,t,_,adn,m2,k2,n2,t3,n4,(by rw [ha.1];exact putSel_upk 7 hb_ rfl rfl rfl),h1,h3,h4,h5,fun _=>⟨c2,rfl⟩,h10,fun h_=>absurd ((hoff 11 (by kernel_rfl)).symm.trans h_) (by decide),⟨E2.1.with ⟨E2.1.fact.2.1,E2.1.fact.2.2.1,fun _=>E2.1.fact.1,E2.1.fact.2.2.2.2⟩⟩⟩
   refine steps_cons ?_ ?_
   ·rintro b_ a w' ⟨v14,ad,m,k,n,v19,xs,t,v21,ad2,m2,k2,n2,t3,n4,ha,h1,h3,h4,h5,h8,h10,h11,E⟩ hb_ hon hoff
    refine ⟨_,rfl,fun K hK=>?_⟩
    have e22:a.tmps[22]?=some (.pointer (some ⟨g,0,none⟩)):=by rw [ha];exact (putSel_off rfl).trans rfl
    replace ha:=Aside0.mk ha
    refine goes_ Try.func88 (by kernel_rfl) rfl #[.pointer (some ⟨g,0,none⟩),.int .i64 3] (by rfl) rfl rfl (by first|(simp only [List.map_toArray,List.map_cons,List.map_nil,Act.eval,Array.getD_eq_getD_getElem?,Option.getD_some,e22];done)|(simp only [List.map_toArray,List.map_cons,List.map_nil,Act.eval,Array.getD_eq_getD_getElem?,Option.getD_some,e22];rfl)) ?_
    refine (n_en E.1 (P5.stb NGr.1 NGl.1) (by decide) (by decide)).mono ?_
    rintro e w2 ⟨kn,rfl,hkn,E2⟩
    refine ⟨_,rfl,?_⟩
    exact hK.out _ _ ⟨v14,ad,m,k,n,v19,xs,t,v21,ad2,m2,kn,n2,t3,n4,(by rw [ha.1];exact putSel_upk 8 hb_ rfl rfl rfl),h1,h3,h4,h5,h8,fun _=>hkn,fun h_=>absurd ((hoff 11 (by kernel_rfl)).symm.trans h_) (by decide),⟨E2⟩⟩
   refine steps_cons ?_ ?_
   ·rintro b_ a w' ⟨v14,ad,m,k,n,v19,xs,t,v21,ad2,m2,k2,n2,t3,n4,ha,h1,h3,h4,h5,h8,h10,h11,E⟩ hb_ hon hoff
    refine ⟨_,rfl,fun K hK=>?_⟩
    obtain ⟨c2,rfl⟩:=h8 (hon 8 (by kernel_rfl))
    have e21:a.tmps[21]?=some (.slice (some ad2) 3 c2):=by rw [ha];exact putSel_on (e:=(8,21,.slice (some ad2) 3 c2)) 7 rfl rfl (hon 8 (by kernel_rfl)) rfl
    have e23:a.tmps[23]?=some (.int .i64 k2):=by rw [ha];exact putSel_on (e:=(10,23,.int .i64 k2)) 8 rfl rfl (hon 10 (by kernel_rfl)) rfl
    replace ha:=Aside0.mk ha
    have p9:=eq_true (h10 (hon 10 (by kernel_rfl))).1
    have q9:=eq_true (h10 (hon 10 (by kernel_rfl))).2
    refine value_ (w1:=w') (v:=.pointer (some (ad2.add k2.toNat))) (by rfl) rfl ?_ ?_
    ·go_simp
     (try simp only [i64_w])
     try rfl
    exact hK.out _ _ ⟨v14,ad,m,k,n,v19,xs,t,_,ad2,_,k2,n2,t3,n4,(by rw [ha.1];exact putSel_upk 9 hb_ rfl rfl rfl),h1,h3,h4,h5,fun _=>⟨c2,rfl⟩,h10,fun _=>rfl,E⟩
   refine steps_cons ?_ ?_
   ·rintro b_ a w' ⟨v14,ad,m,k,n,v19,xs,t,v21,ad2,m2,k2,n2,t3,n4,ha,h1,h3,h4,h5,h8,h10,h11,E⟩ hb_ hon hoff
    refine ⟨_,rfl,fun K hK=>?_⟩
    obtain ⟨c2,rfl⟩:=h8 (hon 8 (by kernel_rfl))
    obtain rfl:=h11 (hon 11 (by kernel_rfl))
    have e24:a.tmps[24]?=some (.pointer (some (ad2.add k2.toNat))):=by rw [ha];exact putSel_on (e:=(11,24,.pointer (some (ad2.add k2.toNat)))) 9 rfl rfl (hon 11 (by kernel_rfl)) rfl
    replace ha:=Aside0.mk ha
    obtain ⟨ad_,ea_,hx_⟩:=Kd.at_int (Kd.Q_reads' (E.1.fact.2.2.1 (hon 8 (by kernel_rfl)))).2.2 k2 (h10 (hon 10 (by kernel_rfl))).1 (h10 (hon 10 (by kernel_rfl))).2
    cases ea_
    refine value_ (w1:=w') (v:=.int .i64 (rd Ln k2)) (by rfl) rfl ?_ ?_
    ·go_simp
     (try simp only [i64_w])
     try rfl
    exact hK.out _ _ ⟨v14,ad,m,k,n,v19,xs,t,_,ad2,_,k2,rd Ln k2,t3,n4,(by rw [ha.1];exact putSel_upk 10 hb_ rfl rfl rfl),h1,h3,h4,h5,fun _=>⟨c2,rfl⟩,h10,fun _=>rfl,E⟩
   refine steps_cons ?_ ?_
   ·rintro b_ a w' ⟨v14,ad,m,k,n,v19,xs,t,v21,ad2,m2,k2,n2,t3,n4,ha,h1,h3,h4,h5,h8,h10,h11,E⟩ hb_ hon hoff
    refine ⟨_,rfl,fun K hK=>?_⟩
    have e2:a.tmps[2]?=some (.pointer (some ⟨gr,0,none⟩)):=by rw [ha];exact (putSel_off rfl).trans rfl
    have e13:a.tmps[13]?=some (.agg #[.int .i64 b,.slice A q.length c,.int .i64 d,.int .i64 x,.int .i64 y]):=by rw [ha];exact putSel_on (e:=(0,13,.agg #[.int .i64 b,.slice A q.length c,.int .i64 d,.int .i64 x,.int .i64 y])) 0 rfl rfl (hon 0 (by kernel_rfl)) rfl
    replace ha:=Aside0.mk ha
    obtain ⟨hcz0,hcz1,hcz2,hcz3,hcz4⟩:=c5_ (Aside0.mk (E.1.fact.2.2.2.1 hb_));obtain ⟨hfz0,hfz1,hfz2,hfz3,hfz4⟩:=f5_ (Aside0.mk (E.1.fact.2.2.2.1 hb_))
    refine skip_ (w1:=?_) (by rfl) rfl ?_ ?_
    rotate_left
    ·go_simp
     rfl
    have E2:=r_put5 (u0:=.int .i64 b) (u2:=.int .i64 d) (u3:=.int .i64 x) (u4:=.int .i64 y) ⟨E.1.with ⟨E.1.fact.2.2.2.1 hb_,E.1.fact.1,E.1.fact.2.1,E.1.fact.2.2.1,E.1.fact.2.2.2.2.2⟩⟩ NGr NGl GEr Nrl
    exact hK.out _ _ ⟨v14,ad,m,k,n,v19,xs,t,v21,ad2,m2,k2,n2,t3,n4,(by rw [ha.1];exact putSel_none (v:=undef) rfl),h1,h3,h4,h5,h8,h10,h11,⟨E2.1.with ⟨E2.1.fact.2.1,E2.1.fact.2.2.1,E2.1.fact.2.2.2.1,fun h_=>absurd ((up_self b_ 13).symm.trans h_) (by decide),fun _=>E2.1.fact.1,E2.1.fact.2.2.2.2⟩⟩⟩
   refine steps_cons ?_ ?_
   ·rintro b_ a w' ⟨v14,ad,m,k,n,v19,xs,t,v21,ad2,m2,k2,n2,t3,n4,ha,h1,h3,h4,h5,h8,h10,h11,E⟩ hb_ hon hoff
    refine ⟨_,rfl,fun K hK=>?_⟩
    have e20:a.tmps[20]?=some (.string t):=by rw [ha];exact putSel_on (e:=(7,20,.string t)) 6 rfl rfl (hon 7 (by kernel_rfl)) rfl
    replace ha:=Aside0.mk ha
    refine value_ (w1:=w') (v:=.string t) (by rfl) rfl ?_ ?_
    ·go_simp
     (try simp only [i64_w])
     try rfl
    exact hK.out _ _ ⟨v14,ad,m,k,n,v19,xs,t,v21,ad2,m2,k2,n2,t,n4,(by rw [ha.1];exact putSel_upk 11 hb_ rfl rfl rfl),h1,h3,h4,h5,h8,h10,h11,E⟩
   refine steps_cons ?_ ?_
   ·rintro b_ a w' ⟨v14,ad,m,k,n,v19,xs,t,v21,ad2,m2,k2,n2,t3,n4,ha,h1,h3,h4,h5,h8,h10,h11,E⟩ hb_ hon hoff
    refine ⟨_,rfl,fun K hK=>?_⟩
    have e25:a.tmps[25]?=some (.int .i64 n2):=by rw [ha];exact putSel_on (e:=(12,25,.int .i64 n2)) 10 rfl rfl (hon 12 (by kernel_rfl)) rfl
    replace ha:=Aside0.mk ha
    refine value_ (w1:=w') (v:=.int .i64 n2) (by rfl) rfl ?_ ?_
    ·go_simp
     (try simp only [i64_w])
     try rfl
    exact hK.out _ _ ⟨v14,ad,m,k,n,v19,xs,t,v21,ad2,m2,k2,n2,t3,n2,(by rw [ha.1];exact putSel_upk 12 hb_ rfl rfl rfl),h1,h3,h4,h5,h8,h10,h11,E⟩
   exact steps_nil
  ·rintro b_ a w28 hall ⟨v14,ad,m,k,n,v19,xs,t,v21,ad2,m2,k2,n2,t3,n4,ha,h1,h3,h4,h5,h8,h10,h11,E2⟩
   have hb0_:=hall 0 (by kernel_rfl)
   have hb1_:=hall 1 (by kernel_rfl)
   have hb3_:=hall 3 (by kernel_rfl)
   have hb4_:=hall 4 (by kernel_rfl)
   have hb5_:=hall 5 (by kernel_rfl)
   have hb6_:=hall 6 (by kernel_rfl)
   have hb7_:=hall 7 (by kernel_rfl)
   have hb8_:=hall 8 (by kernel_rfl)
   have hb10_:=hall 10 (by kernel_rfl)
   have hb11_:=hall 11 (by kernel_rfl)
   have hb12_:=hall 12 (by kernel_rfl)
   have hb13_:=hall 13 (by kernel_rfl)
   have hb14_:=hall 14 (by kernel_rfl)
   have hb15_:=hall 15 (by kernel_rfl)
   clear E
   have E:Aside0 (En w w28 g l0 fun W=>W.heap[gr]?=some (.cells #[.int .i64 b,.slice A q.length c,.int .i64 d,.int .i64 x,.int .i64 y] 24 (0,0))∧Kd.Q Kd.string 9 W w.heap.size (fun k=>k ≠ g) (.slice A q.length c) q):=⟨E2.1.with ⟨E2.1.fact.2.2.2.2.1 hb13_,E2.1.fact.2.2.2.2.2.2.1⟩⟩
   obtain ⟨c2,rfl⟩:=h1 hb1_
   obtain ⟨c3,rfl⟩:=h8 hb8_
   obtain rfl:=h4 hb4_
   obtain rfl:=h11 hb11_
   subst ha
   simp only [putSel,hb0_,hb1_,hb3_,hb4_,hb5_,hb6_,hb7_,hb8_,hb10_,hb11_,hb12_,hb13_,hb14_,hb15_,if_true,Act.put,sA,sZ,sS]
   clear hall hb0_ hb1_ hb3_ hb4_ hb5_ hb6_ hb7_ hb8_ hb10_ hb11_ hb12_ hb13_ hb14_ hb15_ E2 h1 h3 h4 h5 h8 h10 h11
   (try go_wp2)
   refine bodyPost_ret (results_ctt rfl _ _ gr 24 #[.int .i64 b,.slice A q.length c,.int .i64 d,.int .i64 x,.int .i64 y] (0,0) _ rfl E.1.fact.1 Try.underlying24 rfl (by kernel_rfl)) rfl ?_
   exact ⟨b,d,x,y,A,c,q,_,_,rfl,HQ.1,(Kd.Q_reads' E.1.fact.2).2.2,(Kd.Q_reads' E.1.fact.2).2.1,E.1.bel⟩
end Go.Proofs.Ytaaffhghpealjaa.A
