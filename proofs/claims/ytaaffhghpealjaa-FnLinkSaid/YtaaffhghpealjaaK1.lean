/- Part of the proof of FnLink (a drawn valid end of a link stays valid, frames are read back, nothing is sent before its time): plain functions and what calls come to. No conditions beyond those that each statement names. -/
import Derived.Test.YtaaffhghpealjaaProg
import Derived.Lib.SliceRun
import Derived.Test.YtaaffhghpealjaaK0
namespace Go.Proofs.Ytaaffhghpealjaa.A
open Go.RowKit Go.Proofs.YtaaffhghpealjaaW.PrintWords Go.Proofs.YtaaffhghpealjaaW.PrintLast Go.Proofs.YtaaffhghpealjaaW.PrintMore
section
variable {P:Program} {ops:Array Oper} {rest:List Oper} {oi:Oper} {a:Act} {Q:Exit → Act → World → Prop} {w:World}
theorem gate_dyn {t:Tmp} {xs:Array Operand} {ts:Array TypeId} (_ho:oi.op=.call { callee:=.value (.tmp t),args:=xs,argTypes:=ts }) (h:wpList P ops Q (oi :: rest) a w):wpList P ops Q (oi :: rest) a w:=h
theorem goesV_ (N : Option Tmp) (hd : oi.dst = N) (hg : oi.guard = none) {f : FuncId} {fn : Func} {t : Tmp} {xs : Array Operand} {ts : Array TypeId} (hf : P.funcs[f]? = some fn) (hname : (fn.name == "runtime.NumGoroutine") = false) (hb : fn.body.isSome = true) (args : Array Value)
  (hop:oi.op=.call { callee:=.value (.tmp t),args:=xs,argTypes:=ts })  (hargs:xs.map a.eval=args)
  (h:Calls P f args w fun e w'=>∃ v,e=.returned v∧wpList P ops Q rest (a.put N v) w') (hv:a.eval (.tmp t)=.func (.func f) #[] #[]:=by rfl):wpList P ops Q (oi :: rest) a w:=by
 refine wpList_plain hg fun K hK=>?_
 have he:=enters_ hf hname hb args w
 have hrun:(execOp a.eval oi).run P w=.ok (.enter f args) w:=by
  unfold execOp
  simp [hop,resolve,Deferred.ofValue,invoke,hv,hargs,he]
 unfold Oper.wp
 rw [hrun,Oper.upon_enter]
 refine h.mono fun e w'' hh=>?_
 obtain ⟨v,rfl,hk⟩:=hh
 subst hd
 exact hK _ _ hk
end
theorem isSome_setCell (w:World) (a b:Addr) (u:Value):((w.setCell b u).cell? a).isSome=(w.cell? a).isSome:=by
 by_cases h:b=a
 ·subst h
  cases hc:w.cell? b with
  | some x=>rw [World.cell?_setCell_same _ _ _ hc];rfl
  | none =>
   unfold World.setCell World.cell? at *
   simp only [Array.getElem?_modify,if_true]
   cases hh:w.heap[b.block]? with
   | none=>rfl
   | some o =>
    rw [hh] at hc
    cases o with
    | cells c e fr =>
     simp only [Option.map_some] at hc ⊢
     cases hs:b.spot with
     | some s=>simp
     | none =>
      simp [hs] at hc ⊢
      omega
    | _=>rfl
 ·rw [World.cell?_setCell_other _ _ _ _ h]
theorem kN {w:World} {g:Nat} {o:Obj} {n:Nat} (h:w.heap[g]?=some o):(w.drewN n).heap[g]?=some o:=h
theorem kD {w:World} {g:Nat} {o:Obj} (h:w.heap[g]?=some o):w.drew.heap[g]?=some o:=h
theorem kA {w:World} {g:Nat} {o o':Obj} (h:w.heap[g]?=some o):(w.alloc o').heap[g]?=some o:=blk_alloc h o'
theorem qA {w W:World} {o:Obj} (h:Below w.heap.size w W):Below w.heap.size w (W.alloc o):=below_alloc h o
theorem qN {B:Nat} {w W:World} {n:Nat} (h:Below B w W):Below B w (W.drewN n):=pw_below_drewN h n
theorem qD {B:Nat} {w W:World} (h:Below B w W):Below B w W.drew:=below_drew1 h
theorem qS {w W:World} {g j:Nat} {v:Value} (h:Below w.heap.size w W) (hg:w.heap.size ≤ g):Below w.heap.size w (W.setCell ⟨g,j,none⟩ v):=below_set h hg
theorem uN {w W:World} {g:Nat} {row:Option Nat} {m:Nat} (h:KeepBut w W g row):KeepBut w (W.drewN m) g row:=h
theorem uD {w W:World} {g:Nat} {row:Option Nat} (h:KeepBut w W g row):KeepBut w W.drew g row:=h
theorem uA {w W:World} {g:Nat} {o:Obj} (h:KeepBut w W g none):KeepBut w (W.alloc o) g none:=keep_alloc h o
theorem sA {α:Type} {l:List α} {i:Nat} {a:α}:l.toArray.setIfInBounds i a=(l.set i a).toArray:=List.setIfInBounds_toArray ..
theorem sZ {α:Type} {x:α} {xs:List α} {a:α}:(x :: xs).set 0 a=a :: xs:=rfl
theorem sS {α:Type} {x:α} {xs:List α} {n:Nat} {a:α}:(x :: xs).set (n + 1) a=x :: xs.set n a:=rfl
theorem pA {P:Program} {ops:Array Oper} {Q:Exit → Act → World → Prop} {md:Region.Mode} {S:World → Prop} {ds:List Nat} {T:Bool × List (List Nat × List Nat)} {i:Nat} {N:Option Tmp} {oi:Oper} {v:Value} {fuel:Nat} {l:Array Bool} {a:Act} {w:World} (l':Array Bool) (hi:ops[i]?=some oi) (hN:oi.dst=N) (hT:rtab md ops=T) {a':Act}
  (h:wpAnyLast P md ops Q S ds fuel l' a' w) (hc:anyT T l.toList l'.toList i=true:=by kernel_rfl) (hQ:∀ c a w,Q (.panic c) (a.put oi.dst v) w → Q (.panic c) a w:=by exact fun _ _ _ h=>h)
  (hy:Yields P ops oi v a:=by refine Or.inl ⟨by rfl,?_⟩;intro w';go_simp;with_reducible rfl) (ha:a.put N v=a':=by simp only [Act.put,sA,sZ,sS,i64_w,i32_w];rfl):wpAnyLast P md ops Q S ds (fuel + 1) l a w:=pure_ l' hi hN (any_of hT hc) hQ hy ha h
class OnW (V W:World):Prop where
 out:Below V.heap.size V W
instance onR (V:World):OnW V V:=⟨Below.refl _ _⟩
instance onD (V W:World) [h:OnW V W]:OnW V W.drew:=⟨below_drew1 h.out⟩
instance onN (V W:World) (n:Nat) [h:OnW V W]:OnW V (W.drewN n):=⟨pw_below_drewN h.out n⟩
instance onA (V W:World) (o:Obj) [h:OnW V W]:OnW V (W.alloc o):=⟨below_alloc h.out o⟩
class SzW (V W:World):Prop where
 out:V.heap.size ≤ W.heap.size
instance szR (V:World):SzW V V:=⟨Nat.le_refl _⟩
instance szD (V W:World) [h:SzW V W]:SzW V W.drew:=⟨h.out⟩
instance szN (V W:World) (n:Nat) [h:SzW V W]:SzW V (W.drewN n):=⟨h.out⟩
instance szA (V W:World) (o:Obj) [h:SzW V W]:SzW V (W.alloc o):=⟨Nat.le_trans h.out (by show W.heap.size ≤ (W.heap.push o).size;rw [Array.size_push];omega)⟩
instance szS (V W:World) (p:Addr) (u:Value) [h:SzW V W]:SzW V (W.setCell p u):=⟨by simp only [World.setCell,Array.size_modify];exact h.out⟩
section
variable {V W W':World}
theorem bB {g:Nat} {o:Obj} [c:OnW V W] (h:Aside0 (V.heap[g]?=some o)) (hb:Below W.heap.size W W'):Aside0 (W'.heap[g]?=some o):=⟨blk_below (blk_below h.out c.out) hb⟩
theorem rB {α:Type} {d:Kd α} {e base:Nat} {ok:Nat → Prop} {v:Value} {xs:List α} [c:OnW V W] (h:Aside0 (Kd.R d e V base ok v xs)) (hb:Below W.heap.size W W'):Aside0 (Kd.R d e W' base ok v xs):=⟨Kd.R_below (Kd.R_below h.out c.out) hb⟩
theorem zB {w:World} [c:SzW V W] (h:Aside0 (Below w.heap.size w V)):w.heap.size ≤ W.heap.size:=Nat.le_trans (below_size h.out) c.out
theorem gB {w:World} {g:Nat} [c:SzW V W] (h:Aside0 (Below w.heap.size w V)) (hg:g=W.heap.size):Aside0 (w.heap.size ≤ g):=⟨by rw [hg];exact zB h⟩
theorem nL {g g2:Nat} {o:Obj} [c:OnW V W] (h:Aside0 (V.heap[g]?=some o)) (hg:g2=W.heap.size):Aside0 (g ≠ g2):=⟨by rw [hg];exact Nat.ne_of_lt (blk_lt (blk_below h.out c.out))⟩
theorem nG {g g2:Nat} {o:Obj} [c:OnW V W] (h:Aside0 (V.heap[g]?=some o)) (hg:g2=W.heap.size):Aside0 (g2 ≠ g):=⟨by rw [hg];exact Nat.ne_of_gt (blk_lt (blk_below h.out c.out))⟩
theorem tB {w:World} [c:OnW V W] (h:Aside0 (Below w.heap.size w V)) (hb:Below W.heap.size W W'):Aside0 (Below w.heap.size w W'):=⟨below_step (below_step h.out c.out) hb⟩
theorem cO {α:Type} {d:Kd α} {e base n m:Nat} {ok:Nat → Prop} {A:Option Addr} {xs:List α} [c:OnW V W] (h:Aside0 (Kd.R d e V base ok (.slice A n m) xs)):Kd.C d W A xs.length xs:=Kd.C_below (Kd.R_reads' h.out).2.2 c.out
theorem cR {α:Type} {d:Kd α} {w:World} {A:Option Addr} {n:Nat} {xs:List α} [c:OnW V W] (h:Aside0 (Kd.C d w A n xs)) (hB:Aside0 (Below w.heap.size w V)):Kd.C d W A n xs:=Kd.C_below (Kd.C_below h.out hB.out) c.out
end
theorem f1_ {w:World} {g t:Nat} {cs:Array Value} (h:Aside0 (w.heap[g]?=some (.cells cs t (0,0)))):w.frozen? ⟨g,0,none⟩=false:=blk_frozen h.out 0
theorem f2_ {w:World} {g t:Nat} {cs:Array Value} (h:Aside0 (w.heap[g]?=some (.cells cs t (0,0)))):w.frozen? ⟨g,0,none⟩=false∧w.frozen? ⟨g,1,none⟩=false:=⟨blk_frozen h.out 0,blk_frozen h.out 1⟩
theorem c3_ {w:World} {g t:Nat} {a0 a1 a2:Value} (h:Aside0 (w.heap[g]?=some (.cells #[a0,a1,a2] t (0,0)))):w.cell? ⟨g,0,none⟩=some a0∧w.cell? ⟨g,1,none⟩=some a1∧w.cell? ⟨g,2,none⟩=some a2:=⟨(blk_cell h.out 0).trans rfl,(blk_cell h.out 1).trans rfl,(blk_cell h.out 2).trans rfl⟩
theorem f3_ {w:World} {g t:Nat} {cs:Array Value} (h:Aside0 (w.heap[g]?=some (.cells cs t (0,0)))):w.frozen? ⟨g,0,none⟩=false∧w.frozen? ⟨g,1,none⟩=false∧w.frozen? ⟨g,2,none⟩=false:=⟨blk_frozen h.out 0,blk_frozen h.out 1,blk_frozen h.out 2⟩
theorem c4_ {w:World} {g t:Nat} {a0 a1 a2 a3:Value} (h:Aside0 (w.heap[g]?=some (.cells #[a0,a1,a2,a3] t (0,0)))):w.cell? ⟨g,0,none⟩=some a0∧w.cell? ⟨g,1,none⟩=some a1∧w.cell? ⟨g,2,none⟩=some a2∧w.cell? ⟨g,3,none⟩=some a3:=⟨(blk_cell h.out 0).trans rfl,(blk_cell h.out 1).trans rfl,(blk_cell h.out 2).trans rfl,(blk_cell h.out 3).trans rfl⟩
theorem f4_ {w:World} {g t:Nat} {cs:Array Value} (h:Aside0 (w.heap[g]?=some (.cells cs t (0,0)))):w.frozen? ⟨g,0,none⟩=false∧w.frozen? ⟨g,1,none⟩=false∧w.frozen? ⟨g,2,none⟩=false∧w.frozen? ⟨g,3,none⟩=false:=⟨blk_frozen h.out 0,blk_frozen h.out 1,blk_frozen h.out 2,blk_frozen h.out 3⟩
theorem c5_ {w:World} {g t:Nat} {a0 a1 a2 a3 a4:Value} (h:Aside0 (w.heap[g]?=some (.cells #[a0,a1,a2,a3,a4] t (0,0)))):w.cell? ⟨g,0,none⟩=some a0∧w.cell? ⟨g,1,none⟩=some a1∧w.cell? ⟨g,2,none⟩=some a2∧w.cell? ⟨g,3,none⟩=some a3∧w.cell? ⟨g,4,none⟩=some a4:=⟨(blk_cell h.out 0).trans rfl,(blk_cell h.out 1).trans rfl,(blk_cell h.out 2).trans rfl,(blk_cell h.out 3).trans rfl,(blk_cell h.out 4).trans rfl⟩
theorem f5_ {w:World} {g t:Nat} {cs:Array Value} (h:Aside0 (w.heap[g]?=some (.cells cs t (0,0)))):w.frozen? ⟨g,0,none⟩=false∧w.frozen? ⟨g,1,none⟩=false∧w.frozen? ⟨g,2,none⟩=false∧w.frozen? ⟨g,3,none⟩=false∧w.frozen? ⟨g,4,none⟩=false:=⟨blk_frozen h.out 0,blk_frozen h.out 1,blk_frozen h.out 2,blk_frozen h.out 3,blk_frozen h.out 4⟩
theorem c8_ {w:World} {g t:Nat} {a0 a1 a2 a3 a4 a5 a6 a7:Value} (h:Aside0 (w.heap[g]?=some (.cells #[a0,a1,a2,a3,a4,a5,a6,a7] t (0,0)))):w.cell? ⟨g,0,none⟩=some a0∧w.cell? ⟨g,1,none⟩=some a1∧w.cell? ⟨g,2,none⟩=some a2∧w.cell? ⟨g,3,none⟩=some a3∧w.cell? ⟨g,4,none⟩=some a4∧w.cell? ⟨g,5,none⟩=some a5∧w.cell? ⟨g,6,none⟩=some a6∧w.cell? ⟨g,7,none⟩=some a7:=⟨(blk_cell h.out 0).trans rfl,(blk_cell h.out 1).trans rfl,(blk_cell h.out 2).trans rfl,(blk_cell h.out 3).trans rfl,(blk_cell h.out 4).trans rfl,(blk_cell h.out 5).trans rfl,(blk_cell h.out 6).trans rfl,(blk_cell h.out 7).trans rfl⟩
theorem f8_ {w:World} {g t:Nat} {cs:Array Value} (h:Aside0 (w.heap[g]?=some (.cells cs t (0,0)))):w.frozen? ⟨g,0,none⟩=false∧w.frozen? ⟨g,1,none⟩=false∧w.frozen? ⟨g,2,none⟩=false∧w.frozen? ⟨g,3,none⟩=false∧w.frozen? ⟨g,4,none⟩=false∧w.frozen? ⟨g,5,none⟩=false∧w.frozen? ⟨g,6,none⟩=false∧w.frozen? ⟨g,7,none⟩=false:=⟨blk_frozen h.out 0,blk_frozen h.out 1,blk_frozen h.out 2,blk_frozen h.out 3,blk_frozen h.out 4,blk_frozen h.out 5,blk_frozen h.out 6,blk_frozen h.out 7⟩
theorem pX {P:Program} {ops:Array Oper} {Q:Exit → Act → World → Prop} {md:Region.Mode} {S:World → Prop} {ds:List Nat} {T:Bool × List (List Nat × List Nat)} {oi:Oper} {v:Value} {fuel:Nat} {l:Array Bool} {a:Act} {w:World} (i:Nat) (n:Tmp) (l':Array Bool) (hT:Aside0 (rtab md ops=T)) {a':Act}
  (h:wpAnyLast P md ops Q S ds fuel l' a' w) (hi:ops[i]?=some oi:=by rfl) (hN:oi.dst=some n:=by rfl) (hc:anyT T l.toList l'.toList i=true:=by kernel_rfl) (hQ:∀ c a w,Q (.panic c) (a.put oi.dst v) w → Q (.panic c) a w:=by exact fun _ _ _ h=>h)
  (hy:Yields P ops oi v a:=by refine Or.inl ⟨by rfl,?_⟩;intro w';go_simp;with_reducible rfl) (ha:a.put (some n) v=a':=by simp only [Act.put,sA,sZ,sS,i64_w,i32_w];rfl):wpAnyLast P md ops Q S ds (fuel + 1) l a w:=pA l' hi hN hT.out h hc hQ hy ha
theorem gL {P:Program} {ops:Array Oper} {Q:Exit → Act → World → Prop} {rest:List Oper} {oi:Oper} {a:Act} {w:World} (n:Tmp) {f:FuncId} {fn:Func} {xa:Array Operand} {ts:Array TypeId} (hf:P.funcs[f]?=some fn) (args:Array Value)
  (h : Calls P f args w fun e w' => ∃ v, e = .returned v ∧ wpList P ops Q rest (a.put (some n) v) w') (hd : oi.dst = some n := by rfl) (hg : oi.guard = none := by rfl) (hname : (fn.name == "runtime.NumGoroutine") = false := by kernel_rfl) (hb : fn.body.isSome = true := by rfl)
  (hop:oi.op=.call { callee:=.value (.func f),args:=xa,argTypes:=ts }:=by rfl) (hargs:xa.map a.eval=args:=by (try simp only [List.map_toArray,List.map_cons,List.map_nil]);first|done|rfl|(simp only [List.length_drop,List.length_take];rfl)):wpList P ops Q (oi :: rest) a w:=goesL_ (some n) hd hg hf hname hb args hop hargs h
theorem gR {P:Program} {ops:Array Oper} {Q:Exit → Act → World → Prop} {oi:Oper} {N:Option Tmp} {a:Act} {w:World} {K:Act → World → Prop} {f:FuncId} {fn:Func} {xa:Array Operand} {ts:Array TypeId} (hf:P.funcs[f]?=some fn) (args:Array Value)
  (h : Calls P f args w fun e w' => ∃ v, e = .returned v ∧ K (a.put N v) w') (hname : (fn.name == "runtime.NumGoroutine") = false := by kernel_rfl) (hb : fn.body.isSome = true := by rfl) (hw : Region.wanted oi (yielded ops a.tmps) = true := by rfl) (hN : oi.dst = N := by rfl)
  (hop:oi.op=.call { callee:=.value (.func f),args:=xa,argTypes:=ts }:=by rfl) (hargs:xa.map a.eval=args:=by (try simp only [List.map_toArray,List.map_cons,List.map_nil]);first|done|rfl|(simp only [List.length_drop,List.length_take];rfl)):if Region.wanted oi (yielded ops a.tmps)=true then Oper.wp P oi a w K Q else K (a.put N undef) w:=goes_ hf hname hb args hw hN hop hargs h
theorem bS {α β:Type} {o:Option α} {f:α → Option β} {b:β} (h:o.bind f=some b):∃ a,o=some a∧f a=some b:=Option.bind_eq_some_iff.mp h
theorem rA {α:Type} {d:Kd α} {e base:Nat} {w:World} {ok:Nat → Prop} {v:Value} {xs:List α} {o:Obj} (h:Kd.R d e w base ok v xs):Kd.R d e (w.alloc o) base ok v xs:=Kd.R_alloc h o
theorem rN {α:Type} {d:Kd α} {e base n:Nat} {w:World} {ok:Nat → Prop} {v:Value} {xs:List α} (h:Kd.R d e w base ok v xs):Kd.R d e (w.drewN n) base ok v xs:=Kd.R_drewN h n
theorem rD {α:Type} {d:Kd α} {e base:Nat} {w:World} {ok:Nat → Prop} {v:Value} {xs:List α} (h:Kd.R d e w base ok v xs):Kd.R d e w.drew base ok v xs:=Kd.R_drew h
theorem gC {P:Program} {ops:Array Oper} {o:Oper} {rest:List Oper} {a:Act} {Q:Exit → Act → World → Prop} {w:World} (f:FuncId) {xa:Array Operand} {ts:Array TypeId} (_ho:o.op=.call { callee:=.value (.func f),args:=xa,argTypes:=ts }) (h:wpList P ops Q (o :: rest) a w):wpList P ops Q (o :: rest) a w:=h
end Go.Proofs.Ytaaffhghpealjaa.A
namespace Go.Proofs.Ytaaffhghpealjaa.A
open Go.RowKit Go.Proofs.YtaaffhghpealjaaW.PrintWords Go.Proofs.YtaaffhghpealjaaW.PrintLast Go.Proofs.YtaaffhghpealjaaW.PrintMore
attribute [local go_sem] isSome_setCell max2_int min2_int max_two min_two max_three min_three max_four min_four
set_option linter.unusedVariables false
set_option linter.unusedSimpArgs false
def errW : Option Int → Value
  | none => .nilIface
  | some c => .iface 0 (.int .i64 c)
theorem errW_none : errW none = .nilIface := rfl
theorem errW_some (c : Int) : errW (some c) = .iface 0 (.int .i64 c) := rfl
theorem info5 : (Try.prog.info? 5).map (fun i => (i.zero, i.size, i.bytes)) = some (some (.int .u8 0), 1, 1) := by kernel_rfl
theorem info9 : (Try.prog.info? 9).map (fun i => (i.zero, i.size, i.bytes)) = some (some (.string ⟨#[]⟩), 1, 16) := by kernel_rfl
theorem info38 : (Try.prog.info? 38).map (fun i => (i.zero, i.size, i.bytes)) = some (some (.agg #[(.int .i64 0), (.int .i64 0), (.string ⟨#[]⟩)]), 3, 32) := by kernel_rfl
structure S38 where
  f0 : Int
  f1 : Int
  f2 : ByteArray
def z38 : S38 := ⟨(0 : Int), (0 : Int), (⟨#[]⟩ : ByteArray)⟩
def k38 : Kd S38 := Kd.iso (Kd.pair (Kd.int .i64) (Kd.pair (Kd.int .i64) Kd.string)) (fun x : S38 => (x.f0, x.f1, x.f2))
theorem k38_open {w : World} {x : S38} {cs : List Value} (h : k38.K w x cs) : cs = [.int .i64 x.f0, .int .i64 x.f1, .string x.f2] := by
  obtain ⟨_, _, rfl, rfl, ⟨_, _, rfl, rfl, rfl⟩⟩ := h
  exact rfl
theorem k38_mkM (w : World) (base : Nat) (ok : Nat → Prop) (x : S38)  : k38.M w base ok x [.int .i64 x.f0, .int .i64 x.f1, .string x.f2] := ⟨[.int .i64 x.f0], [.int .i64 x.f1, .string x.f2], rfl, rfl, ⟨[.int .i64 x.f1], [.string x.f2], rfl, rfl, rfl⟩⟩
def rd_T38 (xs : List S38) (i : Int) : S38 := xs.getD i.toNat z38
theorem at_T38 {w : World} {A : Option Addr} {n : Nat} {xs : List S38} (h : Kd.C k38 w A n xs) (i : Int) (h0 : 0 ≤ i) (h1 : i < n) : ∃ ad , A = some ad ∧ w.cell? (ad.add (i.toNat * 3)) = some (.int .i64 (rd_T38 xs i).f0) ∧ w.cell? ⟨(ad.add (i.toNat * 3)).block, (ad.add (i.toNat * 3)).off + 1, none⟩ = some (.int .i64 (rd_T38 xs i).f1) ∧ w.cell? ⟨(ad.add (i.toNat * 3)).block, (ad.add (i.toNat * 3)).off + 2, none⟩ = some (.string (rd_T38 xs i).f2) := by
  obtain ⟨ad, c, e, _, hK, hc0⟩ := Kd.C_get h z38 i h0 h1
  have hc : ∀ j u, c[j]? = some u → w.cell? (ad.add (i.toNat * 3 + j)) = some u := hc0
  obtain rfl := k38_open hK
  exact ⟨ad, e, hc 0 _ rfl, by rw [← add_field _ _ 1 (by omega)]; exact hc 1 _ rfl, by rw [← add_field _ _ 2 (by omega)]; exact hc 2 _ rfl⟩
end Go.Proofs.Ytaaffhghpealjaa.A
namespace Go.Proofs.Ytaaffhghpealjaa.A
open Go Go.RowKit Go.Proofs.YtaaffhghpealjaaW.PrintWords Go.Proofs.YtaaffhghpealjaaW.PrintLast Go.Proofs.YtaaffhghpealjaaW.PrintMore
section
variable {α : Type} {d : Kd α} {e : Nat} {w : World} {base : Nat} {ok : Nat → Prop} {v : Value} {xs : List α} {g t g' : Nat} {cells : Array Value}
theorem cf2 {u0 u1 : Value} {i0 i1 : Nat} (h : w.heap[g]? = some (.cells cells t (0, 0))) (hn : Aside0 (g ≠ g')) : ((w.setCell ⟨g', i0, none⟩ u0).setCell ⟨g', i1, none⟩ u1).heap[g]? = some (.cells cells t (0, 0)) := blk_far (p := ⟨g', i1, none⟩) (blk_far (p := ⟨g', i0, none⟩) (h) hn.1 u0) hn.1 u1
theorem cf3 {u0 u1 u2 : Value} {i0 i1 i2 : Nat} (h : w.heap[g]? = some (.cells cells t (0, 0))) (hn : Aside0 (g ≠ g')) : (((w.setCell ⟨g', i0, none⟩ u0).setCell ⟨g', i1, none⟩ u1).setCell ⟨g', i2, none⟩ u2).heap[g]? = some (.cells cells t (0, 0)) := blk_far (p := ⟨g', i2, none⟩) (blk_far (p := ⟨g', i1, none⟩) (blk_far (p := ⟨g', i0, none⟩) (h) hn.1 u0) hn.1 u1) hn.1 u2
theorem cp3 {u0 u1 u2 : Value} {c0 c1 c2 : Value} (h : w.heap[g]? = some (.cells #[c0, c1, c2] t (0, 0))) : (((w.setCell ⟨g, 0, none⟩ u0).setCell ⟨g, 1, none⟩ u1).setCell ⟨g, 2, none⟩ u2).heap[g]? = some (.cells #[u0, u1, u2] t (0, 0)) := blk_put (g := g) (cs' := #[u0, u1, u2]) (blk_put (g := g) (cs' := #[u0, u1, c2]) (blk_put (g := g) (cs' := #[u0, c1, c2]) (h) 0 u0 rfl) 1 u1 rfl) 2 u2 rfl
theorem cjR5 {u0 u1 u2 u3 u4 : Value} (h : d.R e w base ok v xs) (hok : ∀ k, ok k → k ≠ g) : d.R e (((((w.setCell ⟨g, 0, none⟩ u0).setCell ⟨g, 1, none⟩ u1).setCell ⟨g, 2, none⟩ u2).setCell ⟨g, 3, none⟩ u3).setCell ⟨g, 4, none⟩ u4) base ok v xs := Kd.R_far (p := ⟨g, 4, none⟩) (Kd.R_far (p := ⟨g, 3, none⟩) (Kd.R_far (p := ⟨g, 2, none⟩) (Kd.R_far (p := ⟨g, 1, none⟩) (Kd.R_far (p := ⟨g, 0, none⟩) (h) hok u0) hok u1) hok u2) hok u3) hok u4
theorem chR5 {u0 u1 u2 u3 u4 : Value} (h : Aside0 (d.R e w base ok v xs)) (hb : Aside0 (w.heap[g]? = some (.cells cells t (0, 0)))) (ht : ∀ q, q ∈ e :: d.E → q ≠ t) : d.R e (((((w.setCell ⟨g, 0, none⟩ u0).setCell ⟨g, 1, none⟩ u1).setCell ⟨g, 2, none⟩ u2).setCell ⟨g, 3, none⟩ u3).setCell ⟨g, 4, none⟩ u4) base (fun k => ok k ∧ k ≠ g) v xs := Kd.R_far (p := ⟨g, 4, none⟩) (Kd.R_far (p := ⟨g, 3, none⟩) (Kd.R_far (p := ⟨g, 2, none⟩) (Kd.R_far (p := ⟨g, 1, none⟩) (Kd.R_far (p := ⟨g, 0, none⟩) (Kd.R_types h.1 hb.1 ht) (fun _ hk => hk.2) u0) (fun _ hk => hk.2) u1) (fun _ hk => hk.2) u2) (fun _ hk => hk.2) u3) (fun _ hk => hk.2) u4
theorem ciR5 {u0 u1 u2 u3 u4 : Value} (h : Aside0 (d.R e w base ok v xs)) (hb : Aside0 (w.heap[g]? = some (.cells cells t (0, 0)))) (ht : ∀ q, q ∈ e :: d.E → q ≠ t) : d.R e (((((w.setCell ⟨g, 0, none⟩ u0).setCell ⟨g, 1, none⟩ u1).setCell ⟨g, 2, none⟩ u2).setCell ⟨g, 3, none⟩ u3).setCell ⟨g, 4, none⟩ u4) base ok v xs := Kd.R_mono (chR5 h hb ht) (fun _ h_ => h_.1)
theorem cf5 {u0 u1 u2 u3 u4 : Value} {i0 i1 i2 i3 i4 : Nat} (h : w.heap[g]? = some (.cells cells t (0, 0))) (hn : Aside0 (g ≠ g')) : (((((w.setCell ⟨g', i0, none⟩ u0).setCell ⟨g', i1, none⟩ u1).setCell ⟨g', i2, none⟩ u2).setCell ⟨g', i3, none⟩ u3).setCell ⟨g', i4, none⟩ u4).heap[g]? = some (.cells cells t (0, 0)) := blk_far (p := ⟨g', i4, none⟩) (blk_far (p := ⟨g', i3, none⟩) (blk_far (p := ⟨g', i2, none⟩) (blk_far (p := ⟨g', i1, none⟩) (blk_far (p := ⟨g', i0, none⟩) (h) hn.1 u0) hn.1 u1) hn.1 u2) hn.1 u3) hn.1 u4
theorem cp5 {u0 u1 u2 u3 u4 : Value} {c0 c1 c2 c3 c4 : Value} (h : w.heap[g]? = some (.cells #[c0, c1, c2, c3, c4] t (0, 0))) : (((((w.setCell ⟨g, 0, none⟩ u0).setCell ⟨g, 1, none⟩ u1).setCell ⟨g, 2, none⟩ u2).setCell ⟨g, 3, none⟩ u3).setCell ⟨g, 4, none⟩ u4).heap[g]? = some (.cells #[u0, u1, u2, u3, u4] t (0, 0)) := blk_put (g := g) (cs' := #[u0, u1, u2, u3, u4]) (blk_put (g := g) (cs' := #[u0, u1, u2, u3, c4]) (blk_put (g := g) (cs' := #[u0, u1, u2, c3, c4]) (blk_put (g := g) (cs' := #[u0, u1, c2, c3, c4]) (blk_put (g := g) (cs' := #[u0, c1, c2, c3, c4]) (h) 0 u0 rfl) 1 u1 rfl) 2 u2 rfl) 3 u3 rfl) 4 u4 rfl
theorem cjR8 {u0 u1 u2 u3 u4 u5 u6 u7 : Value} (h : d.R e w base ok v xs) (hok : ∀ k, ok k → k ≠ g) : d.R e ((((((((w.setCell ⟨g, 0, none⟩ u0).setCell ⟨g, 1, none⟩ u1).setCell ⟨g, 2, none⟩ u2).setCell ⟨g, 3, none⟩ u3).setCell ⟨g, 4, none⟩ u4).setCell ⟨g, 5, none⟩ u5).setCell ⟨g, 6, none⟩ u6).setCell ⟨g, 7, none⟩ u7) base ok v xs := Kd.R_far (p := ⟨g, 7, none⟩) (Kd.R_far (p := ⟨g, 6, none⟩) (Kd.R_far (p := ⟨g, 5, none⟩) (Kd.R_far (p := ⟨g, 4, none⟩) (Kd.R_far (p := ⟨g, 3, none⟩) (Kd.R_far (p := ⟨g, 2, none⟩) (Kd.R_far (p := ⟨g, 1, none⟩) (Kd.R_far (p := ⟨g, 0, none⟩) (h) hok u0) hok u1) hok u2) hok u3) hok u4) hok u5) hok u6) hok u7
theorem chR8 {u0 u1 u2 u3 u4 u5 u6 u7 : Value} (h : Aside0 (d.R e w base ok v xs)) (hb : Aside0 (w.heap[g]? = some (.cells cells t (0, 0)))) (ht : ∀ q, q ∈ e :: d.E → q ≠ t) : d.R e ((((((((w.setCell ⟨g, 0, none⟩ u0).setCell ⟨g, 1, none⟩ u1).setCell ⟨g, 2, none⟩ u2).setCell ⟨g, 3, none⟩ u3).setCell ⟨g, 4, none⟩ u4).setCell ⟨g, 5, none⟩ u5).setCell ⟨g, 6, none⟩ u6).setCell ⟨g, 7, none⟩ u7) base (fun k => ok k ∧ k ≠ g) v xs := Kd.R_far (p := ⟨g, 7, none⟩) (Kd.R_far (p := ⟨g, 6, none⟩) (Kd.R_far (p := ⟨g, 5, none⟩) (Kd.R_far (p := ⟨g, 4, none⟩) (Kd.R_far (p := ⟨g, 3, none⟩) (Kd.R_far (p := ⟨g, 2, none⟩) (Kd.R_far (p := ⟨g, 1, none⟩) (Kd.R_far (p := ⟨g, 0, none⟩) (Kd.R_types h.1 hb.1 ht) (fun _ hk => hk.2) u0) (fun _ hk => hk.2) u1) (fun _ hk => hk.2) u2) (fun _ hk => hk.2) u3) (fun _ hk => hk.2) u4) (fun _ hk => hk.2) u5) (fun _ hk => hk.2) u6) (fun _ hk => hk.2) u7
theorem ciR8 {u0 u1 u2 u3 u4 u5 u6 u7 : Value} (h : Aside0 (d.R e w base ok v xs)) (hb : Aside0 (w.heap[g]? = some (.cells cells t (0, 0)))) (ht : ∀ q, q ∈ e :: d.E → q ≠ t) : d.R e ((((((((w.setCell ⟨g, 0, none⟩ u0).setCell ⟨g, 1, none⟩ u1).setCell ⟨g, 2, none⟩ u2).setCell ⟨g, 3, none⟩ u3).setCell ⟨g, 4, none⟩ u4).setCell ⟨g, 5, none⟩ u5).setCell ⟨g, 6, none⟩ u6).setCell ⟨g, 7, none⟩ u7) base ok v xs := Kd.R_mono (chR8 h hb ht) (fun _ h_ => h_.1)
theorem cjQ8 {u0 u1 u2 u3 u4 u5 u6 u7 : Value} (h : d.Q e w base ok v xs) (hok : ∀ k, ok k → k ≠ g) : d.Q e ((((((((w.setCell ⟨g, 0, none⟩ u0).setCell ⟨g, 1, none⟩ u1).setCell ⟨g, 2, none⟩ u2).setCell ⟨g, 3, none⟩ u3).setCell ⟨g, 4, none⟩ u4).setCell ⟨g, 5, none⟩ u5).setCell ⟨g, 6, none⟩ u6).setCell ⟨g, 7, none⟩ u7) base ok v xs := Kd.Q_far (p := ⟨g, 7, none⟩) (Kd.Q_far (p := ⟨g, 6, none⟩) (Kd.Q_far (p := ⟨g, 5, none⟩) (Kd.Q_far (p := ⟨g, 4, none⟩) (Kd.Q_far (p := ⟨g, 3, none⟩) (Kd.Q_far (p := ⟨g, 2, none⟩) (Kd.Q_far (p := ⟨g, 1, none⟩) (Kd.Q_far (p := ⟨g, 0, none⟩) (h) hok u0) hok u1) hok u2) hok u3) hok u4) hok u5) hok u6) hok u7
theorem cf8 {u0 u1 u2 u3 u4 u5 u6 u7 : Value} {i0 i1 i2 i3 i4 i5 i6 i7 : Nat} (h : w.heap[g]? = some (.cells cells t (0, 0))) (hn : Aside0 (g ≠ g')) : ((((((((w.setCell ⟨g', i0, none⟩ u0).setCell ⟨g', i1, none⟩ u1).setCell ⟨g', i2, none⟩ u2).setCell ⟨g', i3, none⟩ u3).setCell ⟨g', i4, none⟩ u4).setCell ⟨g', i5, none⟩ u5).setCell ⟨g', i6, none⟩ u6).setCell ⟨g', i7, none⟩ u7).heap[g]? = some (.cells cells t (0, 0)) := blk_far (p := ⟨g', i7, none⟩) (blk_far (p := ⟨g', i6, none⟩) (blk_far (p := ⟨g', i5, none⟩) (blk_far (p := ⟨g', i4, none⟩) (blk_far (p := ⟨g', i3, none⟩) (blk_far (p := ⟨g', i2, none⟩) (blk_far (p := ⟨g', i1, none⟩) (blk_far (p := ⟨g', i0, none⟩) (h) hn.1 u0) hn.1 u1) hn.1 u2) hn.1 u3) hn.1 u4) hn.1 u5) hn.1 u6) hn.1 u7
theorem cp8 {u0 u1 u2 u3 u4 u5 u6 u7 : Value} {c0 c1 c2 c3 c4 c5 c6 c7 : Value} (h : w.heap[g]? = some (.cells #[c0, c1, c2, c3, c4, c5, c6, c7] t (0, 0))) : ((((((((w.setCell ⟨g, 0, none⟩ u0).setCell ⟨g, 1, none⟩ u1).setCell ⟨g, 2, none⟩ u2).setCell ⟨g, 3, none⟩ u3).setCell ⟨g, 4, none⟩ u4).setCell ⟨g, 5, none⟩ u5).setCell ⟨g, 6, none⟩ u6).setCell ⟨g, 7, none⟩ u7).heap[g]? = some (.cells #[u0, u1, u2, u3, u4, u5, u6, u7] t (0, 0)) := blk_put (g := g) (cs' := #[u0, u1, u2, u3, u4, u5, u6, u7]) (blk_put (g := g) (cs' := #[u0, u1, u2, u3, u4, u5, u6, c7]) (blk_put (g := g) (cs' := #[u0, u1, u2, u3, u4, u5, c6, c7]) (blk_put (g := g) (cs' := #[u0, u1, u2, u3, u4, c5, c6, c7]) (blk_put (g := g) (cs' := #[u0, u1, u2, u3, c4, c5, c6, c7]) (blk_put (g := g) (cs' := #[u0, u1, u2, c3, c4, c5, c6, c7]) (blk_put (g := g) (cs' := #[u0, u1, c2, c3, c4, c5, c6, c7]) (blk_put (g := g) (cs' := #[u0, c1, c2, c3, c4, c5, c6, c7]) (h) 0 u0 rfl) 1 u1 rfl) 2 u2 rfl) 3 u3 rfl) 4 u4 rfl) 5 u5 rfl) 6 u6 rfl) 7 u7 rfl
end
theorem andThen_ok_ {α β : Type} (a : α) (w : World) (f : α → World → Result β) : (Result.ok a w).andThen f = f a w := congrFun (congrFun rfl a) w
end Go.Proofs.Ytaaffhghpealjaa.A
namespace Go.Proofs.Ytaaffhghpealjaa.A
open Go.RowKit Go.Proofs.YtaaffhghpealjaaW.PrintWords Go.Proofs.YtaaffhghpealjaaW.PrintLast Go.Proofs.YtaaffhghpealjaaW.PrintMore
attribute [local go_sem] isSome_setCell max2_int min2_int max_two min_two max_three min_three max_four min_four
set_option linter.unusedVariables false
set_option linter.unusedSimpArgs false
def spec_l12Text.f (a0:ByteArray):Option (Bool):=if (a0.size:Int) ≥ 1 then (some (decide ((a0.size:Int) ≤ 1000))) else (some false)
set_option maxHeartbeats 8000000 in
set_option maxRecDepth 100000 in
theorem spec_l12Text.calls (a0:ByteArray) (r:Bool) (w:World) (h:spec_l12Text.f a0=some r) :
  Calls Try.prog 77 #[.string a0] w fun e w'=>e=.returned (.bool r)∧Drawn0 w w':=by
 have H:(if (a0.size:Int) ≥ 1 then (some (decide ((a0.size:Int) ≤ 1000))) else (some false))=some r:=h;clear h;by_cases c2:(a0.size:Int) ≥ 1
 ·rw [if_pos c2] at H;have c2b0:decide (1 ≤ (a0.size:Int))=true:=decide_eq_true c2;have c2b1:decide (1 ≤ a0.size)=true:=decide_eq_true (by omega);clear c2;obtain rfl:=Option.some.inj H;go_enter Try.func77,Try.ntmps77;go_wp2;go_ret;exact ⟨by first|rfl|(simp;done)|(simp [*];done),by repeat (first|exact Drawn0.refl _|apply Drawn0.step)⟩
 ·rw [if_neg c2] at H;have c2b0:decide (1 ≤ (a0.size:Int))=false:=decide_eq_false c2;have c2b1:decide (1 ≤ a0.size)=false:=decide_eq_false (by omega);clear c2;obtain rfl:=Option.some.inj H;go_enter Try.func77,Try.ntmps77;go_wp2;go_ret;exact ⟨by first|rfl|(simp;done)|(simp [*];done),by repeat (first|exact Drawn0.refl _|apply Drawn0.step)⟩
def spec_l03Is.f (a0:Int) (a1:Int) (a2:Int):Option (Bool):=if a0 ≥ a1 then (some (decide (a0 ≤ a2))) else (some false)
set_option maxHeartbeats 8000000 in
set_option maxRecDepth 100000 in
theorem spec_l03Is.calls (a0:Int) (a1:Int) (a2:Int) (r:Bool) (w:World) (h:spec_l03Is.f a0 a1 a2=some r) :
  Calls Try.prog 52 #[.int .i64 a0,.int .i64 a1,.int .i64 a2] w fun e w'=>e=.returned (.bool r)∧Drawn0 w w':=by
 have H:(if a0 ≥ a1 then (some (decide (a0 ≤ a2))) else (some false))=some r:=h;clear h;by_cases c4:a0 ≥ a1
 ·rw [if_pos c4] at H;have c4b0:decide (a1 ≤ a0)=true:=decide_eq_true c4;clear c4;obtain rfl:=Option.some.inj H;go_enter Try.func52,Try.ntmps52;go_wp2;go_ret;exact ⟨by first|rfl|(simp;done)|(simp [*];done),by repeat (first|exact Drawn0.refl _|apply Drawn0.step)⟩
 ·rw [if_neg c4] at H;have c4b0:decide (a1 ≤ a0)=false:=decide_eq_false c4;clear c4;obtain rfl:=Option.some.inj H;go_enter Try.func52,Try.ntmps52;go_wp2;go_ret;exact ⟨by first|rfl|(simp;done)|(simp [*];done),by repeat (first|exact Drawn0.refl _|apply Drawn0.step)⟩
def spec_l12Texts.l0:Nat → List ByteArray → Int → Int → Option (Bool)
 | 0,_,_,_=>none
 | k + 1,x0,x1,x5=>if x5 < (x0.length:Int) then (if 0 ≤ x5 then ((spec_l12Text.f (rdOf ByteArray.empty x0 x5)).bind fun t154=>(if t154=true then (spec_l12Texts.l0 k x0 x1 (wrap64 (x5 + 1))) else (some false))) else (none)) else (some (decide ((x0.length:Int) ≤ x1)))
def spec_l12Texts.f (k:Nat) (l0:List ByteArray) (a1:Int):Option (Bool):=spec_l12Texts.l0 k l0 a1 0
set_option maxHeartbeats 8000000 in
set_option maxRecDepth 100000 in
theorem spec_l12Texts.calls (k:Nat) (A0:Option Addr) (c0:Nat) (l0:List ByteArray) (a1:Int) (r:Bool) (w:World) (hr0:Kd.C Kd.string w A0 l0.length l0) (hc0:l0.length ≤ c0) (h:spec_l12Texts.f k l0 a1=some r) :
  Calls Try.prog 53 #[.slice A0 l0.length c0,.int .i64 a1] w fun e w'=>e=.returned (.bool r)∧Drawn0 w w':=by
 have HR0:=Aside0.mk hr0;have HC0:=Aside0.mk hc0;clear hr0 hc0;have H:(spec_l12Texts.l0 k l0 a1 0)=some r:=h;clear h;have H':=Aside0.mk H;clear H;go_enter Try.func53,Try.ntmps53;go_wp2;go_loopg [5] k (fun kq v5 w'=>∃ (x5_1:Int),v5=.int .i64 x5_1∧Aside0 (spec_l12Texts.l0 kq l0 a1 x5_1=some r)∧Aside0 (kq ≤ k)∧Drawn0 w w');case atStart=>exact ⟨(0),(by first|rfl|(simp;done)|(simp [*];done)),H',⟨Nat.le_refl _⟩,by repeat (first|exact Drawn0.refl _|apply Drawn0.step)⟩
 case round =>
  clear H';(try clear p2);obtain ⟨x5_1,rfl,HA,HK1,⟨m1,rfl⟩⟩:=hrel;cases gk with
  | zero=>exact absurd HA.1 (by simp [spec_l12Texts.l0])
  | succ k1 =>
   have H:=HA.1;clear HA;simp only [spec_l12Texts.l0] at H;by_cases c3:x5_1 < (l0.length:Int)
   ·rw [if_pos c3] at H;have c3b0:decide (x5_1 < (l0.length:Int))=true:=decide_eq_true c3;clear c3;by_cases c4:0 ≤ x5_1
    ·rw [if_pos c4] at H;have c4b0:decide (0 ≤ x5_1)=true:=decide_eq_true c4;clear c4;replace H:=bS H;obtain ⟨t154,A50,H⟩:=H;replace H:(if t154=true then (spec_l12Texts.l0 k1 l0 a1 (wrap64 (x5_1 + 1))) else (some false))=some r:=H;have A5:=Aside0.mk A50;clear A50;by_cases c6:t154=true
     ·subst c6;have H1:(spec_l12Texts.l0 k1 l0 a1 (wrap64 (x5_1 + 1)))=some r:=(by rw [if_pos rfl] at H;exact H);clear H;have H:=H1;clear H1;have H':=Aside0.mk H;clear H;have p153:0 ≤ (x5_1:Int):=of_decide_eq_true (by first|(with_reducible assumption)|assumption);have q153:x5_1 < (l0.length:Int):=of_decide_eq_true (by first|(with_reducible assumption)|assumption);obtain ⟨ad153,e153,hx153_0⟩:=Kd.at_string HR0.1 x5_1 p153 q153;cases e153
      replace p153:=eq_true p153;replace q153:=eq_true q153;go_wp2_with (first|((with_reducible refine gC 77 rfl ?_);refine gL 16 Try.func77 #[.string (rdOf ByteArray.empty l0 x5_1)] ?_;(with_reducible refine (spec_l12Text.calls (rdOf ByteArray.empty l0 x5_1) true _ A5.1).mono ?_);rintro e w' ⟨rfl,⟨nd,rfl⟩⟩;refine ⟨_,rfl,?_⟩));go_roundg k1;case measure=>have:=HK1.1;omega
      case rel=>exact ⟨(wrap64 (x5_1 + 1)),(by first|rfl|(simp;done)|(simp [*];done)),H',⟨by have:=HK1.1;omega⟩,by repeat (first|exact Drawn0.refl _|apply Drawn0.step)⟩
     ·replace c6:=Bool.eq_false_iff.mpr c6;subst c6;have H1:(some false)=some r:=(by rw [if_neg (show ¬ (false=true) by decide)] at H;exact H);clear H;have H:=H1;clear H1;obtain rfl:=Option.some.inj H;have p153:0 ≤ (x5_1:Int):=of_decide_eq_true (by first|(with_reducible assumption)|assumption);have q153:x5_1 < (l0.length:Int):=of_decide_eq_true (by first|(with_reducible assumption)|assumption);obtain ⟨ad153,e153,hx153_0⟩:=Kd.at_string HR0.1 x5_1 p153 q153;cases e153
      replace p153:=eq_true p153;replace q153:=eq_true q153;go_wp2_with (first|((with_reducible refine gC 77 rfl ?_);refine gL 16 Try.func77 #[.string (rdOf ByteArray.empty l0 x5_1)] ?_;(with_reducible refine (spec_l12Text.calls (rdOf ByteArray.empty l0 x5_1) false _ A5.1).mono ?_);rintro e w' ⟨rfl,⟨nd,rfl⟩⟩;refine ⟨_,rfl,?_⟩));go_ret;exact ⟨by first|rfl|(simp;done)|(simp [*];done),by repeat (first|exact Drawn0.refl _|apply Drawn0.step)⟩
    ·rw [if_neg c4] at H;exact absurd H (by simp)
   ·rw [if_neg c3] at H;have c3b0:decide (x5_1 < (l0.length:Int))=false:=decide_eq_false c3;clear c3;obtain rfl:=Option.some.inj H;go_wp2;go_ret;exact ⟨by first|rfl|(simp;done)|(simp [*];done),by repeat (first|exact Drawn0.refl _|apply Drawn0.step)⟩
def spec_LinkRight.f (k:Nat) (a0_0:Int) (l0_1:List ByteArray) (a0_2:Int) (a0_3:Int) (a0_4:Int):Option (Bool):=(spec_l03Is.f a0_0 0 999999988).bind fun t156=>(if t156=true then ((spec_l12Texts.f k l0_1 12).bind fun t157=>(if t157=true then ((spec_l03Is.f a0_2 0 2000000).bind fun t158=>(if t158=true then ((spec_l03Is.f a0_3 1 64).bind fun t159=>(if t159=true then ((spec_l03Is.f a0_4 1 1000000000).bind fun t160=>(some t160)) else (some false))) else (some false))) else (some false))) else (some false))
set_option maxHeartbeats 8000000 in
set_option maxRecDepth 100000 in
theorem spec_LinkRight.calls (k:Nat) (a0_0:Int) (A0_1:Option Addr) (c0_1:Nat) (l0_1:List ByteArray) (a0_2:Int) (a0_3:Int) (a0_4:Int) (r:Bool) (w:World) (hr0_1:Kd.C Kd.string w A0_1 l0_1.length l0_1) (hc0_1:l0_1.length ≤ c0_1) (h:spec_LinkRight.f k a0_0 l0_1 a0_2 a0_3 a0_4=some r) :
  Calls Try.prog 19 #[.agg #[.int .i64 a0_0,.slice A0_1 l0_1.length c0_1,.int .i64 a0_2,.int .i64 a0_3,.int .i64 a0_4]] w fun e w'=>e=.returned (.bool r)∧Below w.heap.size w w':=by
 have hu24:=Try.underlying24;have HR0_1:=Aside0.mk hr0_1;have HC0_1:=Aside0.mk hc0_1;clear hr0_1 hc0_1;have HB:=Aside0.mk (Below.refl w.heap.size w);have H:((spec_l03Is.f a0_0 0 999999988).bind fun t156=>(if t156=true then ((spec_l12Texts.f k l0_1 12).bind fun t157=>(if t157=true then ((spec_l03Is.f a0_2 0 2000000).bind fun t158=>(if t158=true then ((spec_l03Is.f a0_3 1 64).bind fun t159=>(if t159=true then ((spec_l03Is.f a0_4 1 1000000000).bind fun t160=>(some t160)) else (some false))) else (some false))) else (some false))) else (some false)))=some r:=h;clear h;replace H:=bS H;obtain ⟨t156,A20,H⟩:=H;replace H:(if t156=true then ((spec_l12Texts.f k l0_1 12).bind fun t157=>(if t157=true then ((spec_l03Is.f a0_2 0 2000000).bind fun t158=>(if t158=true then ((spec_l03Is.f a0_3 1 64).bind fun t159=>(if t159=true then ((spec_l03Is.f a0_4 1 1000000000).bind fun t160=>(some t160)) else (some false))) else (some false))) else (some false))) else (some false))=some r:=H;have A2:=Aside0.mk A20;clear A20;by_cases c3:t156=true
 ·subst c3;have H1:((spec_l12Texts.f k l0_1 12).bind fun t157=>(if t157=true then ((spec_l03Is.f a0_2 0 2000000).bind fun t158=>(if t158=true then ((spec_l03Is.f a0_3 1 64).bind fun t159=>(if t159=true then ((spec_l03Is.f a0_4 1 1000000000).bind fun t160=>(some t160)) else (some false))) else (some false))) else (some false)))=some r:=(by rw [if_pos rfl] at H;exact H);clear H;have H:=H1;clear H1;replace H:=bS H;obtain ⟨t157,A40,H⟩:=H;replace H:(if t157=true then ((spec_l03Is.f a0_2 0 2000000).bind fun t158=>(if t158=true then ((spec_l03Is.f a0_3 1 64).bind fun t159=>(if t159=true then ((spec_l03Is.f a0_4 1 1000000000).bind fun t160=>(some t160)) else (some false))) else (some false))) else (some false))=some r:=H;have A4:=Aside0.mk A40;clear A40;by_cases c5:t157=true
  ·subst c5;have H1:((spec_l03Is.f a0_2 0 2000000).bind fun t158=>(if t158=true then ((spec_l03Is.f a0_3 1 64).bind fun t159=>(if t159=true then ((spec_l03Is.f a0_4 1 1000000000).bind fun t160=>(some t160)) else (some false))) else (some false)))=some r:=(by rw [if_pos rfl] at H;exact H);clear H;have H:=H1;clear H1;replace H:=bS H;obtain ⟨t158,A60,H⟩:=H;replace H:(if t158=true then ((spec_l03Is.f a0_3 1 64).bind fun t159=>(if t159=true then ((spec_l03Is.f a0_4 1 1000000000).bind fun t160=>(some t160)) else (some false))) else (some false))=some r:=H;have A6:=Aside0.mk A60;clear A60;by_cases c7:t158=true
   ·subst c7;have H1:((spec_l03Is.f a0_3 1 64).bind fun t159=>(if t159=true then ((spec_l03Is.f a0_4 1 1000000000).bind fun t160=>(some t160)) else (some false)))=some r:=(by rw [if_pos rfl] at H;exact H);clear H;have H:=H1;clear H1;replace H:=bS H;obtain ⟨t159,A80,H⟩:=H;replace H:(if t159=true then ((spec_l03Is.f a0_4 1 1000000000).bind fun t160=>(some t160)) else (some false))=some r:=H;have A8:=Aside0.mk A80;clear A80;by_cases c9:t159=true
    ·subst c9;have H1:((spec_l03Is.f a0_4 1 1000000000).bind fun t160=>(some t160))=some r:=(by rw [if_pos rfl] at H;exact H);clear H;have H:=H1;clear H1;replace H:=bS H;obtain ⟨t160,A100,H⟩:=H;replace H:(some t160)=some r:=H;have A10:=Aside0.mk A100;clear A100;obtain rfl:=Option.some.inj H;go_enter Try.func19,Try.ntmps19;go_wp2_with (first|((with_reducible refine gate_dst (N:=1) rfl ?_);refine box_event ?hg (N:=1) ?hd (cs:=#[.int .i64 a0_0,.slice A0_1 l0_1.length c0_1,.int .i64 a0_2,.int .i64 a0_3,.int .i64 a0_4]) (t:=24) ?hr ?_;(case hd=>rfl);(case hg=>rfl);(case hr=>go_simp;try rfl);intro gb155 hg w11 hbox hb;have BK155:=Aside0.mk (hbox);have GW155:=gB HB hg;have GE155:=gB HB hg;replace HB:=tB HB hb;clear hb hbox hg;obtain ⟨hcz12_0,hcz12_1,hcz12_2,hcz12_3,hcz12_4⟩:=c5_ BK155;obtain ⟨hfz12_0,hfz12_1,hfz12_2,hfz12_3,hfz12_4⟩:=f5_ BK155)|((with_reducible refine gC 52 rfl ?_);refine gL 5 Try.func52 #[.int .i64 a0_0,.int .i64 0,.int .i64 999999988] ?_;(with_reducible refine (spec_l03Is.calls a0_0 0 999999988 true _ A2.1).mono ?_);rintro e w' ⟨rfl,⟨nd,rfl⟩⟩;refine ⟨_,rfl,?_⟩)|(go_at_call 53;(with_reducible refine (spec_l12Texts.calls k _ _ l0_1 12 true _ ?side1 ?side2 A4.1).mono ?_);(case side1=>repeat (first|exact (Kd.C_below HR0_1.1 (by repeat (first|(with_reducible first|exact HB.1|apply qA|apply qN|apply qD|refine qS ?_ GE155.1)|exact HB.1)))|(with_reducible refine Kd.C_alloc ?_ _)|(with_reducible refine Kd.C_drewN ?_ _)|(with_reducible refine Kd.C_drew ?_)));(case side2=>exact HC0_1.1);rintro e w' ⟨rfl,⟨nd,rfl⟩⟩)|(go_at_call 52;(with_reducible refine (spec_l03Is.calls a0_2 0 2000000 true _ A6.1).mono ?_);rintro e w' ⟨rfl,⟨nd,rfl⟩⟩)|(go_at_call 52;(with_reducible refine (spec_l03Is.calls a0_3 1 64 true _ A8.1).mono ?_);rintro e w' ⟨rfl,⟨nd,rfl⟩⟩)|(go_at_call 52;(with_reducible refine (spec_l03Is.calls a0_4 1 1000000000 t160 _ A10.1).mono ?_);rintro e w' ⟨rfl,⟨nd,rfl⟩⟩));go_ret;exact ⟨by first|rfl|(simp [errW_none,errW_some] <;> rfl)|(simp [*,errW_none,errW_some] <;> rfl),by repeat (first|(with_reducible first|exact HB.1|apply qA|apply qN|apply qD|refine qS ?_ GE155.1)|exact HB.1)⟩
    ·replace c9:=Bool.eq_false_iff.mpr c9;subst c9;have H1:(some false)=some r:=(by rw [if_neg (show ¬ (false=true) by decide)] at H;exact H);clear H;have H:=H1;clear H1;obtain rfl:=Option.some.inj H;go_enter Try.func19,Try.ntmps19;go_wp2_with (first|((with_reducible refine gate_dst (N:=1) rfl ?_);refine box_event ?hg (N:=1) ?hd (cs:=#[.int .i64 a0_0,.slice A0_1 l0_1.length c0_1,.int .i64 a0_2,.int .i64 a0_3,.int .i64 a0_4]) (t:=24) ?hr ?_;(case hd=>rfl);(case hg=>rfl);(case hr=>go_simp;try rfl);intro gb155 hg w13 hbox hb;have BK155:=Aside0.mk (hbox);have GW155:=gB HB hg;have GE155:=gB HB hg;replace HB:=tB HB hb;clear hb hbox hg;obtain ⟨hcz14_0,hcz14_1,hcz14_2,hcz14_3,hcz14_4⟩:=c5_ BK155;obtain ⟨hfz14_0,hfz14_1,hfz14_2,hfz14_3,hfz14_4⟩:=f5_ BK155)|((with_reducible refine gC 52 rfl ?_);refine gL 5 Try.func52 #[.int .i64 a0_0,.int .i64 0,.int .i64 999999988] ?_;(with_reducible refine (spec_l03Is.calls a0_0 0 999999988 true _ A2.1).mono ?_);rintro e w' ⟨rfl,⟨nd,rfl⟩⟩;refine ⟨_,rfl,?_⟩)|(go_at_call 53;(with_reducible refine (spec_l12Texts.calls k _ _ l0_1 12 true _ ?side1 ?side2 A4.1).mono ?_);(case side1=>repeat (first|exact (Kd.C_below HR0_1.1 (by repeat (first|(with_reducible first|exact HB.1|apply qA|apply qN|apply qD|refine qS ?_ GE155.1)|exact HB.1)))|(with_reducible refine Kd.C_alloc ?_ _)|(with_reducible refine Kd.C_drewN ?_ _)|(with_reducible refine Kd.C_drew ?_)));(case side2=>exact HC0_1.1);rintro e w' ⟨rfl,⟨nd,rfl⟩⟩)|(go_at_call 52;(with_reducible refine (spec_l03Is.calls a0_2 0 2000000 true _ A6.1).mono ?_);rintro e w' ⟨rfl,⟨nd,rfl⟩⟩)|(go_at_call 52;(with_reducible refine (spec_l03Is.calls a0_3 1 64 false _ A8.1).mono ?_);rintro e w' ⟨rfl,⟨nd,rfl⟩⟩));go_ret;exact ⟨by first|rfl|(simp [errW_none,errW_some] <;> rfl)|(simp [*,errW_none,errW_some] <;> rfl),by repeat (first|(with_reducible first|exact HB.1|apply qA|apply qN|apply qD|refine qS ?_ GE155.1)|exact HB.1)⟩
   ·replace c7:=Bool.eq_false_iff.mpr c7;subst c7;have H1:(some false)=some r:=(by rw [if_neg (show ¬ (false=true) by decide)] at H;exact H);clear H;have H:=H1;clear H1;obtain rfl:=Option.some.inj H;go_enter Try.func19,Try.ntmps19;go_wp2_with (first|((with_reducible refine gate_dst (N:=1) rfl ?_);refine box_event ?hg (N:=1) ?hd (cs:=#[.int .i64 a0_0,.slice A0_1 l0_1.length c0_1,.int .i64 a0_2,.int .i64 a0_3,.int .i64 a0_4]) (t:=24) ?hr ?_;(case hd=>rfl);(case hg=>rfl);(case hr=>go_simp;try rfl);intro gb155 hg w15 hbox hb;have BK155:=Aside0.mk (hbox);have GW155:=gB HB hg;have GE155:=gB HB hg;replace HB:=tB HB hb;clear hb hbox hg;obtain ⟨hcz16_0,hcz16_1,hcz16_2,hcz16_3,hcz16_4⟩:=c5_ BK155;obtain ⟨hfz16_0,hfz16_1,hfz16_2,hfz16_3,hfz16_4⟩:=f5_ BK155)|((with_reducible refine gC 52 rfl ?_);refine gL 5 Try.func52 #[.int .i64 a0_0,.int .i64 0,.int .i64 999999988] ?_;(with_reducible refine (spec_l03Is.calls a0_0 0 999999988 true _ A2.1).mono ?_);rintro e w' ⟨rfl,⟨nd,rfl⟩⟩;refine ⟨_,rfl,?_⟩)|(go_at_call 53;(with_reducible refine (spec_l12Texts.calls k _ _ l0_1 12 true _ ?side1 ?side2 A4.1).mono ?_);(case side1=>repeat (first|exact (Kd.C_below HR0_1.1 (by repeat (first|(with_reducible first|exact HB.1|apply qA|apply qN|apply qD|refine qS ?_ GE155.1)|exact HB.1)))|(with_reducible refine Kd.C_alloc ?_ _)|(with_reducible refine Kd.C_drewN ?_ _)|(with_reducible refine Kd.C_drew ?_)));(case side2=>exact HC0_1.1);rintro e w' ⟨rfl,⟨nd,rfl⟩⟩)|(go_at_call 52;(with_reducible refine (spec_l03Is.calls a0_2 0 2000000 false _ A6.1).mono ?_);rintro e w' ⟨rfl,⟨nd,rfl⟩⟩));go_ret;exact ⟨by first|rfl|(simp [errW_none,errW_some] <;> rfl)|(simp [*,errW_none,errW_some] <;> rfl),by repeat (first|(with_reducible first|exact HB.1|apply qA|apply qN|apply qD|refine qS ?_ GE155.1)|exact HB.1)⟩
  ·replace c5:=Bool.eq_false_iff.mpr c5;subst c5;have H1:(some false)=some r:=(by rw [if_neg (show ¬ (false=true) by decide)] at H;exact H);clear H;have H:=H1;clear H1;obtain rfl:=Option.some.inj H;go_enter Try.func19,Try.ntmps19;go_wp2_with (first|((with_reducible refine gate_dst (N:=1) rfl ?_);refine box_event ?hg (N:=1) ?hd (cs:=#[.int .i64 a0_0,.slice A0_1 l0_1.length c0_1,.int .i64 a0_2,.int .i64 a0_3,.int .i64 a0_4]) (t:=24) ?hr ?_;(case hd=>rfl);(case hg=>rfl);(case hr=>go_simp;try rfl);intro gb155 hg w17 hbox hb;have BK155:=Aside0.mk (hbox);have GW155:=gB HB hg;have GE155:=gB HB hg;replace HB:=tB HB hb;clear hb hbox hg;obtain ⟨hcz18_0,hcz18_1,hcz18_2,hcz18_3,hcz18_4⟩:=c5_ BK155;obtain ⟨hfz18_0,hfz18_1,hfz18_2,hfz18_3,hfz18_4⟩:=f5_ BK155)|((with_reducible refine gC 52 rfl ?_);refine gL 5 Try.func52 #[.int .i64 a0_0,.int .i64 0,.int .i64 999999988] ?_;(with_reducible refine (spec_l03Is.calls a0_0 0 999999988 true _ A2.1).mono ?_);rintro e w' ⟨rfl,⟨nd,rfl⟩⟩;refine ⟨_,rfl,?_⟩)|(go_at_call 53;(with_reducible refine (spec_l12Texts.calls k _ _ l0_1 12 false _ ?side1 ?side2 A4.1).mono ?_);(case side1=>repeat (first|exact (Kd.C_below HR0_1.1 (by repeat (first|(with_reducible first|exact HB.1|apply qA|apply qN|apply qD|refine qS ?_ GE155.1)|exact HB.1)))|(with_reducible refine Kd.C_alloc ?_ _)|(with_reducible refine Kd.C_drewN ?_ _)|(with_reducible refine Kd.C_drew ?_)));(case side2=>exact HC0_1.1);rintro e w' ⟨rfl,⟨nd,rfl⟩⟩));go_ret;exact ⟨by first|rfl|(simp [errW_none,errW_some] <;> rfl)|(simp [*,errW_none,errW_some] <;> rfl),by repeat (first|(with_reducible first|exact HB.1|apply qA|apply qN|apply qD|refine qS ?_ GE155.1)|exact HB.1)⟩
 ·replace c3:=Bool.eq_false_iff.mpr c3;subst c3;have H1:(some false)=some r:=(by rw [if_neg (show ¬ (false=true) by decide)] at H;exact H);clear H;have H:=H1;clear H1;obtain rfl:=Option.some.inj H;go_enter Try.func19,Try.ntmps19;go_wp2_with (first|((with_reducible refine gate_dst (N:=1) rfl ?_);refine box_event ?hg (N:=1) ?hd (cs:=#[.int .i64 a0_0,.slice A0_1 l0_1.length c0_1,.int .i64 a0_2,.int .i64 a0_3,.int .i64 a0_4]) (t:=24) ?hr ?_;(case hd=>rfl);(case hg=>rfl);(case hr=>go_simp;try rfl);intro gb155 hg w19 hbox hb;have BK155:=Aside0.mk (hbox);have GW155:=gB HB hg;have GE155:=gB HB hg;replace HB:=tB HB hb;clear hb hbox hg;obtain ⟨hcz20_0,hcz20_1,hcz20_2,hcz20_3,hcz20_4⟩:=c5_ BK155;obtain ⟨hfz20_0,hfz20_1,hfz20_2,hfz20_3,hfz20_4⟩:=f5_ BK155)|((with_reducible refine gC 52 rfl ?_);refine gL 5 Try.func52 #[.int .i64 a0_0,.int .i64 0,.int .i64 999999988] ?_;(with_reducible refine (spec_l03Is.calls a0_0 0 999999988 false _ A2.1).mono ?_);rintro e w' ⟨rfl,⟨nd,rfl⟩⟩;refine ⟨_,rfl,?_⟩));go_ret;exact ⟨by first|rfl|(simp [errW_none,errW_some] <;> rfl)|(simp [*,errW_none,errW_some] <;> rfl),by repeat (first|(with_reducible first|exact HB.1|apply qA|apply qN|apply qD|refine qS ?_ GE155.1)|exact HB.1)⟩
def impl_in.f (a0:Int) (a1:Int) (a2:Int):Option (Bool):=if a0 ≥ a1 then (some (decide (a0 ≤ a2))) else (some false)
set_option maxHeartbeats 8000000 in
set_option maxRecDepth 100000 in
theorem impl_in.calls (a0:Int) (a1:Int) (a2:Int) (r:Bool) (w:World) (h:impl_in.f a0 a1 a2=some r) :
  Calls Try.prog 55 #[.int .i64 a0,.int .i64 a1,.int .i64 a2] w fun e w'=>e=.returned (.bool r)∧Drawn0 w w':=by
 have H:(if a0 ≥ a1 then (some (decide (a0 ≤ a2))) else (some false))=some r:=h;clear h;by_cases c4:a0 ≥ a1
 ·rw [if_pos c4] at H;have c4b0:decide (a1 ≤ a0)=true:=decide_eq_true c4;clear c4;obtain rfl:=Option.some.inj H;go_enter Try.func55,Try.ntmps55;go_wp2;go_ret;exact ⟨by first|rfl|(simp;done)|(simp [*];done),by repeat (first|exact Drawn0.refl _|apply Drawn0.step)⟩
 ·rw [if_neg c4] at H;have c4b0:decide (a1 ≤ a0)=false:=decide_eq_false c4;clear c4;obtain rfl:=Option.some.inj H;go_enter Try.func55,Try.ntmps55;go_wp2;go_ret;exact ⟨by first|rfl|(simp;done)|(simp [*];done),by repeat (first|exact Drawn0.refl _|apply Drawn0.step)⟩
def impl_isText.f (a0:ByteArray):Option (Bool):=(impl_in.f (a0.size:Int) 1 1000).bind fun t172=>(some t172)
set_option maxHeartbeats 8000000 in
set_option maxRecDepth 100000 in
theorem impl_isText.calls (a0:ByteArray) (r:Bool) (w:World) (h:impl_isText.f a0=some r) :
  Calls Try.prog 66 #[.string a0] w fun e w'=>e=.returned (.bool r)∧Drawn0 w w':=by
 have H:((impl_in.f (a0.size:Int) 1 1000).bind fun t172=>(some t172))=some r:=h;clear h;replace H:=bS H;obtain ⟨t172,A20,H⟩:=H;replace H:(some t172)=some r:=H;have A2:=Aside0.mk A20;clear A20;obtain rfl:=Option.some.inj H;go_enter Try.func66,Try.ntmps66;go_wp2_with (first|((with_reducible refine gC 55 rfl ?_);refine gL 5 Try.func55 #[.int .i64 (a0.size:Int),.int .i64 1,.int .i64 1000] ?_;(with_reducible refine (impl_in.calls (a0.size:Int) 1 1000 t172 _ A2.1).mono ?_);rintro e w' ⟨rfl,⟨nd,rfl⟩⟩;refine ⟨_,rfl,?_⟩));go_ret;exact ⟨by first|rfl|(simp;done)|(simp [*];done),by repeat (first|exact Drawn0.refl _|apply Drawn0.step)⟩
def impl_isId.f (a0:Int):Option (Bool):=(impl_in.f a0 1 1000000000).bind fun t177=>(some t177)
set_option maxHeartbeats 8000000 in
set_option maxRecDepth 100000 in
theorem impl_isId.calls (a0:Int) (r:Bool) (w:World) (h:impl_isId.f a0=some r) :
  Calls Try.prog 58 #[.int .i64 a0] w fun e w'=>e=.returned (.bool r)∧Drawn0 w w':=by
 have H:((impl_in.f a0 1 1000000000).bind fun t177=>(some t177))=some r:=h;clear h;replace H:=bS H;obtain ⟨t177,A20,H⟩:=H;replace H:(some t177)=some r:=H;have A2:=Aside0.mk A20;clear A20;obtain rfl:=Option.some.inj H;go_enter Try.func58,Try.ntmps58;go_wp2_with (first|((with_reducible refine gC 55 rfl ?_);refine gL 4 Try.func55 #[.int .i64 a0,.int .i64 1,.int .i64 1000000000] ?_;(with_reducible refine (impl_in.calls a0 1 1000000000 t177 _ A2.1).mono ?_);rintro e w' ⟨rfl,⟨nd,rfl⟩⟩;refine ⟨_,rfl,?_⟩));go_ret;exact ⟨by first|rfl|(simp;done)|(simp [*];done),by repeat (first|exact Drawn0.refl _|apply Drawn0.step)⟩
def impl_badText.f (a0:ByteArray):Option (Bool):=(impl_isText.f a0).bind fun t173=>(some (!t173))
set_option maxHeartbeats 8000000 in
set_option maxRecDepth 100000 in
theorem impl_badText.calls (a0:ByteArray) (r:Bool) (w:World) (h:impl_badText.f a0=some r) :
  Calls Try.prog 57 #[.string a0] w fun e w'=>e=.returned (.bool r)∧Drawn0 w w':=by
 have H:((impl_isText.f a0).bind fun t173=>(some (!t173)))=some r:=h;clear h;replace H:=bS H;obtain ⟨t173,A20,H⟩:=H;replace H:(some (!t173))=some r:=H;have A2:=Aside0.mk A20;clear A20;obtain rfl:=Option.some.inj H;go_enter Try.func57,Try.ntmps57;go_wp2_with (first|((with_reducible refine gC 66 rfl ?_);refine gL 4 Try.func66 #[.string a0] ?_;(with_reducible refine (impl_isText.calls a0 t173 _ A2.1).mono ?_);rintro e w' ⟨rfl,⟨nd,rfl⟩⟩;refine ⟨_,rfl,?_⟩));go_ret;exact ⟨by first|rfl|(simp;done)|(simp [*];done),by repeat (first|exact Drawn0.refl _|apply Drawn0.step)⟩
def slices_IndexFunc_string_string.l0:Nat → List ByteArray → Int → Int → Option (Int)
 | 0,_,_,_=>none
 | k + 1,x0,x7,x8=>if x8 < x7 then (if 0 ≤ x8 then (if x8 < (x0.length:Int) then ((impl_badText.f (rdOf ByteArray.empty x0 x8)).bind fun t175=>(if t175=true then (some x8) else (slices_IndexFunc_string_string.l0 k x0 x7 (wrap64 (x8 + 1))))) else (none)) else (none)) else (some (-1))
def slices_IndexFunc_string_string.f (k:Nat) (l0:List ByteArray):Option (Int):=slices_IndexFunc_string_string.l0 k l0 (l0.length:Int) 0
set_option maxHeartbeats 8000000 in
set_option maxRecDepth 100000 in
theorem slices_IndexFunc_string_string.calls (k:Nat) (A0:Option Addr) (c0:Nat) (l0:List ByteArray) (r:Int) (w:World) (hr0:Kd.C Kd.string w A0 l0.length l0) (hc0:l0.length ≤ c0) (h:slices_IndexFunc_string_string.f k l0=some r) :
  Calls Try.prog 97 #[.slice A0 l0.length c0,.func (.func 57) #[] #[]] w fun e w'=>e=.returned (.int .i64 r)∧Drawn0 w w':=by
 have HR0:=Aside0.mk hr0;have HC0:=Aside0.mk hc0;clear hr0 hc0;have H:(slices_IndexFunc_string_string.l0 k l0 (l0.length:Int) 0)=some r:=h;clear h;have H':=Aside0.mk H;clear H;go_enter Try.func97,Try.ntmps97;go_wp2;go_loopg [8] k (fun kq v8 w'=>∃ (x8_1:Int),v8=.int .i64 x8_1∧Aside0 (slices_IndexFunc_string_string.l0 kq l0 (l0.length:Int) x8_1=some r)∧Aside0 (kq ≤ k)∧Drawn0 w w');case atStart=>exact ⟨(0),(by first|rfl|(simp;done)|(simp [*];done)),H',⟨Nat.le_refl _⟩,by repeat (first|exact Drawn0.refl _|apply Drawn0.step)⟩
 case round =>
  clear H';obtain ⟨x8_1,rfl,HA,HK1,⟨m1,rfl⟩⟩:=hrel;cases gk with
  | zero=>exact absurd HA.1 (by simp [slices_IndexFunc_string_string.l0])
  | succ k1 =>
   have H:=HA.1;clear HA;simp only [slices_IndexFunc_string_string.l0] at H;by_cases c2:x8_1 < (l0.length:Int)
   ·rw [if_pos c2] at H;have c2b0:decide (x8_1 < (l0.length:Int))=true:=decide_eq_true c2;clear c2;by_cases c3:0 ≤ x8_1
    ·rw [if_pos c3] at H;have c3b0:decide (0 ≤ x8_1)=true:=decide_eq_true c3;clear c3;by_cases c4:x8_1 < (l0.length:Int)
     ·rw [if_pos c4] at H;have c4b0:decide (x8_1 < (l0.length:Int))=true:=decide_eq_true c4;clear c4;replace H:=bS H;obtain ⟨t175,A50,H⟩:=H;replace H:(if t175=true then (some x8_1) else (slices_IndexFunc_string_string.l0 k1 l0 (l0.length:Int) (wrap64 (x8_1 + 1))))=some r:=H;have A5:=Aside0.mk A50;clear A50;by_cases c6:t175=true
      ·subst c6;have H1:(some x8_1)=some r:=(by rw [if_pos rfl] at H;exact H);clear H;have H:=H1;clear H1;obtain rfl:=Option.some.inj H;have p174:0 ≤ (x8_1:Int):=of_decide_eq_true (by first|(with_reducible assumption)|assumption);have q174:x8_1 < (l0.length:Int):=of_decide_eq_true (by first|(with_reducible assumption)|assumption);obtain ⟨ad174,e174,hx174_0⟩:=Kd.at_string HR0.1 x8_1 p174 q174;cases e174
       replace p174:=eq_true p174;replace q174:=eq_true q174;go_wp2_with (first|((with_reducible refine gate_dyn rfl ?_);refine goesV_ (some 16) rfl rfl Try.func57 (by kernel_rfl) rfl #[.string (rdOf ByteArray.empty l0 x8_1)] rfl (by (try simp only [List.map_toArray,List.map_cons,List.map_nil]);first|done|rfl|(simp only [List.length_drop,List.length_take];rfl)) ?_;(with_reducible refine (impl_badText.calls (rdOf ByteArray.empty l0 x8_1) true _ A5.1).mono ?_);rintro e w' ⟨rfl,⟨nd,rfl⟩⟩;refine ⟨_,rfl,?_⟩));go_ret;exact ⟨by first|rfl|(simp;done)|(simp [*];done),by repeat (first|exact Drawn0.refl _|apply Drawn0.step)⟩
      ·replace c6:=Bool.eq_false_iff.mpr c6;subst c6;have H1:(slices_IndexFunc_string_string.l0 k1 l0 (l0.length:Int) (wrap64 (x8_1 + 1)))=some r:=(by rw [if_neg (show ¬ (false=true) by decide)] at H;exact H);clear H;have H:=H1;clear H1;have H':=Aside0.mk H;clear H;have p174:0 ≤ (x8_1:Int):=of_decide_eq_true (by first|(with_reducible assumption)|assumption);have q174:x8_1 < (l0.length:Int):=of_decide_eq_true (by first|(with_reducible assumption)|assumption);obtain ⟨ad174,e174,hx174_0⟩:=Kd.at_string HR0.1 x8_1 p174 q174;cases e174
       replace p174:=eq_true p174;replace q174:=eq_true q174;go_wp2_with (first|((with_reducible refine gate_dyn rfl ?_);refine goesV_ (some 16) rfl rfl Try.func57 (by kernel_rfl) rfl #[.string (rdOf ByteArray.empty l0 x8_1)] rfl (by (try simp only [List.map_toArray,List.map_cons,List.map_nil]);first|done|rfl|(simp only [List.length_drop,List.length_take];rfl)) ?_;(with_reducible refine (impl_badText.calls (rdOf ByteArray.empty l0 x8_1) false _ A5.1).mono ?_);rintro e w' ⟨rfl,⟨nd,rfl⟩⟩;refine ⟨_,rfl,?_⟩));go_roundg k1;case measure=>have:=HK1.1;omega
       case rel=>exact ⟨(wrap64 (x8_1 + 1)),(by first|rfl|(simp;done)|(simp [*];done)),H',⟨by have:=HK1.1;omega⟩,by repeat (first|exact Drawn0.refl _|apply Drawn0.step)⟩
     ·rw [if_neg c4] at H;exact absurd H (by simp)
    ·rw [if_neg c3] at H;exact absurd H (by simp)
   ·rw [if_neg c2] at H;have c2b0:decide (x8_1 < (l0.length:Int))=false:=decide_eq_false c2;clear c2;obtain rfl:=Option.some.inj H;go_wp2;go_ret;exact ⟨by first|rfl|(simp;done)|(simp [*];done),by repeat (first|exact Drawn0.refl _|apply Drawn0.step)⟩
def slices_ContainsFunc_string_string.f (k:Nat) (l0:List ByteArray):Option (Bool):=(slices_IndexFunc_string_string.f k l0).bind fun t176=>(some (decide (t176 ≥ 0)))
set_option maxHeartbeats 8000000 in
set_option maxRecDepth 100000 in
theorem slices_ContainsFunc_string_string.calls (k:Nat) (A0:Option Addr) (c0:Nat) (l0:List ByteArray) (r:Bool) (w:World) (hr0:Kd.C Kd.string w A0 l0.length l0) (hc0:l0.length ≤ c0) (h:slices_ContainsFunc_string_string.f k l0=some r) :
  Calls Try.prog 56 #[.slice A0 l0.length c0,.func (.func 57) #[] #[]] w fun e w'=>e=.returned (.bool r)∧Drawn0 w w':=by
 have HR0:=Aside0.mk hr0;have HC0:=Aside0.mk hc0;clear hr0 hc0;have H:((slices_IndexFunc_string_string.f k l0).bind fun t176=>(some (decide (t176 ≥ 0))))=some r:=h;clear h;replace H:=bS H;obtain ⟨t176,A20,H⟩:=H;replace H:(some (decide (t176 ≥ 0)))=some r:=H;have A2:=Aside0.mk A20;clear A20;obtain rfl:=Option.some.inj H;go_enter Try.func56,Try.ntmps56;go_wp2_with (first|((with_reducible refine gC 97 rfl ?_);refine gL 7 Try.func97 #[.slice A0 l0.length c0,.func (.func 57) #[] #[]] ?_;(with_reducible refine (slices_IndexFunc_string_string.calls k _ _ l0 t176 _ ?side1 ?side2 A2.1).mono ?_);(case side1=>repeat (first|exact HR0.1|(with_reducible refine Kd.C_alloc ?_ _)|(with_reducible refine Kd.C_drewN ?_ _)|(with_reducible refine Kd.C_drew ?_)));(case side2=>exact HC0.1);rintro e w' ⟨rfl,⟨nd,rfl⟩⟩;refine ⟨_,rfl,?_⟩));go_ret;exact ⟨by first|rfl|(simp;done)|(simp [*];done),by repeat (first|exact Drawn0.refl _|apply Drawn0.step)⟩
def impl_LinkRight.j0:Nat → Bool → Int → List ByteArray → Int → Int → Int → Option (Bool)
 | 0,_,_,_,_,_,_=>none
 | k + 1,x17,x179000,x179001,x179002,x179003,x179004=>if x17=true then (some false) else ((impl_in.f x179002 0 2000000).bind fun t181=>(if t181=true then ((impl_in.f x179003 1 64).bind fun t182=>(if t182=true then ((impl_isId.f x179004).bind fun t183=>(some t183)) else (some false))) else (some false)))
def impl_LinkRight.f (k:Nat) (a0_0:Int) (l0_1:List ByteArray) (a0_2:Int) (a0_3:Int) (a0_4:Int):Option (Bool):=(impl_in.f a0_0 0 999999988).bind fun t179=>(if t179=true then (if (l0_1.length:Int) > 12 then (impl_LinkRight.j0 k true a0_0 l0_1 a0_2 a0_3 a0_4) else ((slices_ContainsFunc_string_string.f k l0_1).bind fun t180=>(impl_LinkRight.j0 k t180 a0_0 l0_1 a0_2 a0_3 a0_4))) else (impl_LinkRight.j0 k true a0_0 l0_1 a0_2 a0_3 a0_4))
set_option maxHeartbeats 8000000 in
set_option maxRecDepth 100000 in
theorem impl_LinkRight.calls (k:Nat) (a0_0:Int) (A0_1:Option Addr) (c0_1:Nat) (l0_1:List ByteArray) (a0_2:Int) (a0_3:Int) (a0_4:Int) (r:Bool) (w:World) (hr0_1:Kd.C Kd.string w A0_1 l0_1.length l0_1) (hc0_1:l0_1.length ≤ c0_1) (h:impl_LinkRight.f k a0_0 l0_1 a0_2 a0_3 a0_4=some r) :
  Calls Try.prog 21 #[.agg #[.int .i64 a0_0,.slice A0_1 l0_1.length c0_1,.int .i64 a0_2,.int .i64 a0_3,.int .i64 a0_4]] w fun e w'=>e=.returned (.bool r)∧Below w.heap.size w w':=by
 have hu24:=Try.underlying24;have HR0_1:=Aside0.mk hr0_1;have HC0_1:=Aside0.mk hc0_1;clear hr0_1 hc0_1;have HB:=Aside0.mk (Below.refl w.heap.size w);have H:((impl_in.f a0_0 0 999999988).bind fun t179=>(if t179=true then (if (l0_1.length:Int) > 12 then (impl_LinkRight.j0 k true a0_0 l0_1 a0_2 a0_3 a0_4) else ((slices_ContainsFunc_string_string.f k l0_1).bind fun t180=>(impl_LinkRight.j0 k t180 a0_0 l0_1 a0_2 a0_3 a0_4))) else (impl_LinkRight.j0 k true a0_0 l0_1 a0_2 a0_3 a0_4)))=some r:=h;clear h;have HC2:=Aside0.mk H;clear H;go_enter Try.func21,Try.ntmps21;go_upto_region 1 with (first|((with_reducible refine gate_dst (N:=1) rfl ?_);(try (refine gate_guard (by rfl) ?_;dsimp only));refine box_event ?hg (N:=1) ?hd (cs:=#[.int .i64 a0_0,.slice A0_1 l0_1.length c0_1,.int .i64 a0_2,.int .i64 a0_3,.int .i64 a0_4]) (t:=24) ?hr ?_;(case hd=>rfl);(case hg=>rfl);(case hr=>go_simp;try rfl);intro gb178 hg w3 hbox hb;have BK178:=Aside0.mk (hbox);have GW178:=gB HB hg;have GE178:=gB HB hg;replace HB:=tB HB hb;clear hb hbox hg))
 (try simp only [Act.put,sA,sZ,sS]);go_cut [17] (fun v17 wc=>∃ (kq:Nat) (x17_1:Bool),v17=.bool x17_1∧Aside0 (impl_LinkRight.j0 kq x17_1 a0_0 l0_1 a0_2 a0_3 a0_4=some r)∧Aside0 (kq ≤ k)∧Aside0 (wc.heap[gb178]?=some (.cells #[.int .i64 a0_0,(.slice A0_1 l0_1.length c0_1),.int .i64 a0_2,.int .i64 a0_3,.int .i64 a0_4] 24 (0,0)))∧Aside0 (Below w.heap.size w wc))
 case first =>
  have H:=HC2.1;clear HC2;replace H:=bS H;obtain ⟨t179,A40,H⟩:=H;replace H:(if t179=true then (if (l0_1.length:Int) > 12 then (impl_LinkRight.j0 k true a0_0 l0_1 a0_2 a0_3 a0_4) else ((slices_ContainsFunc_string_string.f k l0_1).bind fun t180=>(impl_LinkRight.j0 k t180 a0_0 l0_1 a0_2 a0_3 a0_4))) else (impl_LinkRight.j0 k true a0_0 l0_1 a0_2 a0_3 a0_4))=some r:=H;have A4:=Aside0.mk A40;clear A40;by_cases c5:t179=true
  ·subst c5;have H1:(if (l0_1.length:Int) > 12 then (impl_LinkRight.j0 k true a0_0 l0_1 a0_2 a0_3 a0_4) else ((slices_ContainsFunc_string_string.f k l0_1).bind fun t180=>(impl_LinkRight.j0 k t180 a0_0 l0_1 a0_2 a0_3 a0_4)))=some r:=(by rw [if_pos rfl] at H;exact H);clear H;have H:=H1;clear H1;by_cases c6:(l0_1.length:Int) > 12
   ·rw [if_pos c6] at H;have c6b0:decide (12 < (l0_1.length:Int))=true:=decide_eq_true c6;have c6b1:decide (12 < l0_1.length)=true:=decide_eq_true (by omega);clear c6;(first|rw [c6b0]|(simp only [i64_w,i32_w];rw [c6b0])|skip);have H':=Aside0.mk H;clear H;obtain ⟨hcz7_0,hcz7_1,hcz7_2,hcz7_3,hcz7_4⟩:=c5_ BK178;obtain ⟨hfz7_0,hfz7_1,hfz7_2,hfz7_3,hfz7_4⟩:=f5_ BK178;go_wp2_with (first|((with_reducible refine gC 55 rfl ?_);refine gL 5 Try.func55 #[.int .i64 a0_0,.int .i64 0,.int .i64 999999988] ?_;(with_reducible refine (impl_in.calls a0_0 0 999999988 true _ A4.1).mono ?_);rintro e w' ⟨rfl,⟨nd,rfl⟩⟩;refine ⟨_,rfl,?_⟩));go_meet;case rel=>exact ⟨_,(true),(by first|rfl|(simp;done)|(simp [*];done)),H',⟨by first|omega|exact Nat.le_refl _⟩,⟨by (with_reducible repeat (first|apply kN|apply kD|apply kA));exact BK178.1⟩,⟨by repeat (first|(with_reducible first|exact HB.1|apply qA|apply qN|apply qD|refine qS ?_ GE178.1)|exact HB.1)⟩⟩
   ·rw [if_neg c6] at H;have c6b0:decide (12 < (l0_1.length:Int))=false:=decide_eq_false c6;have c6b1:decide (12 < l0_1.length)=false:=decide_eq_false (by omega);clear c6;(first|rw [c6b0]|(simp only [i64_w,i32_w];rw [c6b0])|skip);replace H:=bS H;obtain ⟨t180,A80,H⟩:=H;replace H:(impl_LinkRight.j0 k t180 a0_0 l0_1 a0_2 a0_3 a0_4)=some r:=H;have A8:=Aside0.mk A80;clear A80;have H':=Aside0.mk H;clear H;obtain ⟨hcz9_0,hcz9_1,hcz9_2,hcz9_3,hcz9_4⟩:=c5_ BK178;obtain ⟨hfz9_0,hfz9_1,hfz9_2,hfz9_3,hfz9_4⟩:=f5_ BK178;go_wp2_with (first|((with_reducible refine gC 55 rfl ?_);refine gL 5 Try.func55 #[.int .i64 a0_0,.int .i64 0,.int .i64 999999988] ?_;(with_reducible refine (impl_in.calls a0_0 0 999999988 true _ A4.1).mono ?_);rintro e w' ⟨rfl,⟨nd,rfl⟩⟩;refine ⟨_,rfl,?_⟩)|(go_at_call 56;(with_reducible refine (slices_ContainsFunc_string_string.calls k _ _ l0_1 t180 _ ?side1 ?side2 A8.1).mono ?_);(case side1=>repeat (first|exact (Kd.C_below HR0_1.1 (by repeat (first|(with_reducible first|exact HB.1|apply qA|apply qN|apply qD|refine qS ?_ GE178.1)|exact HB.1)))|(with_reducible refine Kd.C_alloc ?_ _)|(with_reducible refine Kd.C_drewN ?_ _)|(with_reducible refine Kd.C_drew ?_)));(case side2=>exact HC0_1.1);rintro e w' ⟨rfl,⟨nd,rfl⟩⟩));go_meet;case rel=>exact ⟨_,(t180),(by first|rfl|(simp;done)|(simp [*];done)),H',⟨by first|omega|exact Nat.le_refl _⟩,⟨by (with_reducible repeat (first|apply kN|apply kD|apply kA));exact BK178.1⟩,⟨by repeat (first|(with_reducible first|exact HB.1|apply qA|apply qN|apply qD|refine qS ?_ GE178.1)|exact HB.1)⟩⟩
  ·replace c5:=Bool.eq_false_iff.mpr c5;subst c5;have H1:(impl_LinkRight.j0 k true a0_0 l0_1 a0_2 a0_3 a0_4)=some r:=(by rw [if_neg (show ¬ (false=true) by decide)] at H;exact H);clear H;have H:=H1;clear H1;have H':=Aside0.mk H;clear H;obtain ⟨hcz10_0,hcz10_1,hcz10_2,hcz10_3,hcz10_4⟩:=c5_ BK178;obtain ⟨hfz10_0,hfz10_1,hfz10_2,hfz10_3,hfz10_4⟩:=f5_ BK178;go_wp2_with (first|((with_reducible refine gC 55 rfl ?_);refine gL 5 Try.func55 #[.int .i64 a0_0,.int .i64 0,.int .i64 999999988] ?_;(with_reducible refine (impl_in.calls a0_0 0 999999988 false _ A4.1).mono ?_);rintro e w' ⟨rfl,⟨nd,rfl⟩⟩;refine ⟨_,rfl,?_⟩));go_meet;case rel=>exact ⟨_,(true),(by first|rfl|(simp;done)|(simp [*];done)),H',⟨by first|omega|exact Nat.le_refl _⟩,⟨by (with_reducible repeat (first|apply kN|apply kD|apply kA));exact BK178.1⟩,⟨by repeat (first|(with_reducible first|exact HB.1|apply qA|apply qN|apply qD|refine qS ?_ GE178.1)|exact HB.1)⟩⟩
 case rest =>
  clear HC2;(try clear c2);(try clear p2);(try clear c5);(try clear c6);(try clear c6b0);(try clear c6b1);(try clear hcz10_0);(try clear hcz10_1);(try clear hcz10_2);(try clear hcz10_3);(try clear hcz10_4);(try clear hcz7_0);(try clear hcz7_1);(try clear hcz7_2);(try clear hcz7_3);(try clear hcz7_4);(try clear hcz9_0);(try clear hcz9_1);(try clear hcz9_2);(try clear hcz9_3);(try clear hcz9_4);(try clear hfz10_0);(try clear hfz10_1);(try clear hfz10_2);(try clear hfz10_3);(try clear hfz10_4);(try clear hfz7_0);(try clear hfz7_1);(try clear hfz7_2);(try clear hfz7_3);(try clear hfz7_4);(try clear hfz9_0);(try clear hfz9_1);(try clear hfz9_2);(try clear hfz9_3);(try clear hfz9_4);obtain ⟨kq,x17_1,rfl,HA,HJ1,BK178,HB⟩:=hcut;cases kq with
  | zero=>exact absurd HA.1 (by simp [impl_LinkRight.j0])
  | succ kj1 =>
   have H:=HA.1;clear HA;simp only [impl_LinkRight.j0] at H;by_cases c11:x17_1=true
   ·subst c11;have H1:(some false)=some r:=(by rw [if_pos rfl] at H;exact H);clear H;have H:=H1;clear H1;obtain rfl:=Option.some.inj H;go_wp2;go_ret;exact ⟨by first|rfl|(simp [errW_none,errW_some] <;> rfl)|(simp [*,errW_none,errW_some] <;> rfl),by repeat (first|(with_reducible first|exact HB.1|apply qA|apply qN|apply qD|refine qS ?_ GE178.1)|exact HB.1)⟩
   ·replace c11:=Bool.eq_false_iff.mpr c11;subst c11;have H1:((impl_in.f a0_2 0 2000000).bind fun t181=>(if t181=true then ((impl_in.f a0_3 1 64).bind fun t182=>(if t182=true then ((impl_isId.f a0_4).bind fun t183=>(some t183)) else (some false))) else (some false)))=some r:=(by rw [if_neg (show ¬ (false=true) by decide)] at H;exact H);clear H;have H:=H1;clear H1;replace H:=bS H;obtain ⟨t181,A120,H⟩:=H;replace H:(if t181=true then ((impl_in.f a0_3 1 64).bind fun t182=>(if t182=true then ((impl_isId.f a0_4).bind fun t183=>(some t183)) else (some false))) else (some false))=some r:=H;have A12:=Aside0.mk A120;clear A120;by_cases c13:t181=true
    ·subst c13;have H1:((impl_in.f a0_3 1 64).bind fun t182=>(if t182=true then ((impl_isId.f a0_4).bind fun t183=>(some t183)) else (some false)))=some r:=(by rw [if_pos rfl] at H;exact H);clear H;have H:=H1;clear H1;replace H:=bS H;obtain ⟨t182,A140,H⟩:=H;replace H:(if t182=true then ((impl_isId.f a0_4).bind fun t183=>(some t183)) else (some false))=some r:=H;have A14:=Aside0.mk A140;clear A140;by_cases c15:t182=true
     ·subst c15;have H1:((impl_isId.f a0_4).bind fun t183=>(some t183))=some r:=(by rw [if_pos rfl] at H;exact H);clear H;have H:=H1;clear H1;replace H:=bS H;obtain ⟨t183,A160,H⟩:=H;replace H:(some t183)=some r:=H;have A16:=Aside0.mk A160;clear A160;obtain rfl:=Option.some.inj H;obtain ⟨hcz17_0,hcz17_1,hcz17_2,hcz17_3,hcz17_4⟩:=c5_ BK178;obtain ⟨hfz17_0,hfz17_1,hfz17_2,hfz17_3,hfz17_4⟩:=f5_ BK178;go_wp2_with (first|((with_reducible refine gC 55 rfl ?_);refine gL 20 Try.func55 #[.int .i64 a0_2,.int .i64 0,.int .i64 2000000] ?_;(with_reducible refine (impl_in.calls a0_2 0 2000000 true _ A12.1).mono ?_);rintro e w' ⟨rfl,⟨nd,rfl⟩⟩;refine ⟨_,rfl,?_⟩)|(go_at_call 55;(with_reducible refine (impl_in.calls a0_3 1 64 true _ A14.1).mono ?_);rintro e w' ⟨rfl,⟨nd,rfl⟩⟩)|(go_at_call 58;(with_reducible refine (impl_isId.calls a0_4 t183 _ A16.1).mono ?_);rintro e w' ⟨rfl,⟨nd,rfl⟩⟩));go_ret;exact ⟨by first|rfl|(simp [errW_none,errW_some] <;> rfl)|(simp [*,errW_none,errW_some] <;> rfl),by repeat (first|(with_reducible first|exact HB.1|apply qA|apply qN|apply qD|refine qS ?_ GE178.1)|exact HB.1)⟩
     ·replace c15:=Bool.eq_false_iff.mpr c15;subst c15;have H1:(some false)=some r:=(by rw [if_neg (show ¬ (false=true) by decide)] at H;exact H);clear H;have H:=H1;clear H1;obtain rfl:=Option.some.inj H;obtain ⟨hcz18_0,hcz18_1,hcz18_2,hcz18_3,hcz18_4⟩:=c5_ BK178;obtain ⟨hfz18_0,hfz18_1,hfz18_2,hfz18_3,hfz18_4⟩:=f5_ BK178;go_wp2_with (first|((with_reducible refine gC 55 rfl ?_);refine gL 20 Try.func55 #[.int .i64 a0_2,.int .i64 0,.int .i64 2000000] ?_;(with_reducible refine (impl_in.calls a0_2 0 2000000 true _ A12.1).mono ?_);rintro e w' ⟨rfl,⟨nd,rfl⟩⟩;refine ⟨_,rfl,?_⟩)|(go_at_call 55;(with_reducible refine (impl_in.calls a0_3 1 64 false _ A14.1).mono ?_);rintro e w' ⟨rfl,⟨nd,rfl⟩⟩));go_ret;exact ⟨by first|rfl|(simp [errW_none,errW_some] <;> rfl)|(simp [*,errW_none,errW_some] <;> rfl),by repeat (first|(with_reducible first|exact HB.1|apply qA|apply qN|apply qD|refine qS ?_ GE178.1)|exact HB.1)⟩
    ·replace c13:=Bool.eq_false_iff.mpr c13;subst c13;have H1:(some false)=some r:=(by rw [if_neg (show ¬ (false=true) by decide)] at H;exact H);clear H;have H:=H1;clear H1;obtain rfl:=Option.some.inj H;obtain ⟨hcz19_0,hcz19_1,hcz19_2,hcz19_3,hcz19_4⟩:=c5_ BK178;obtain ⟨hfz19_0,hfz19_1,hfz19_2,hfz19_3,hfz19_4⟩:=f5_ BK178;go_wp2_with (first|((with_reducible refine gC 55 rfl ?_);refine gL 20 Try.func55 #[.int .i64 a0_2,.int .i64 0,.int .i64 2000000] ?_;(with_reducible refine (impl_in.calls a0_2 0 2000000 false _ A12.1).mono ?_);rintro e w' ⟨rfl,⟨nd,rfl⟩⟩;refine ⟨_,rfl,?_⟩));go_ret;exact ⟨by first|rfl|(simp [errW_none,errW_some] <;> rfl)|(simp [*,errW_none,errW_some] <;> rfl),by repeat (first|(with_reducible first|exact HB.1|apply qA|apply qN|apply qD|refine qS ?_ GE178.1)|exact HB.1)⟩
end Go.Proofs.Ytaaffhghpealjaa.A
namespace Go.Proofs.Ytaaffhghpealjaa.A
open Go.RowKit Go.Proofs.YtaaffhghpealjaaW.PrintWords Go.Proofs.YtaaffhghpealjaaW.PrintLast Go.Proofs.YtaaffhghpealjaaW.PrintMore
theorem w64 {x:Int} (h:-9223372036854775808 ≤ x) (h':x ≤ 9223372036854775807):wrap64 x=x:=by
 unfold wrap64
 omega
theorem evNow {α:Type} {g:Nat → Option α} {r:α} (h:∀ k,g k=some r):Ev g r:=⟨0,fun k _=>h k⟩
theorem evStep {α:Type} {g f:Nat → Option α} {r:α} (h:∀ k,g (k + 1)=f k) (k:Ev f r):Ev g r:=Ev.step h k
theorem evOne {α:Type} {g:Nat → Option α} {r:α} (h:∀ k,g (k + 1)=some r):Ev g r:=Ev.step h (Ev.now r)
theorem evBind {α β:Type} {g:Nat → Option α} {f:Nat → α → Option β} {a:α} {r:β} (h:Ev g a) (k:Ev (fun n=>f n a) r):Ev (fun n=>(g n).bind (f n)) r:=Ev.bind h k
theorem evEq {α:Type} {g f:Nat → Option α} {r:α} (h:∀ k,g k=f k) (k:Ev f r):Ev g r:=Ev.congr h k
theorem rdOf_get (l:List ByteArray) (i:Int) (h0:0 ≤ i) (h1:i < l.length):rdOf ByteArray.empty l i=l[i.toNat]'(by omega):=by
 unfold rdOf
 rw [List.getD_eq_getElem?_getD,List.getElem?_eq_getElem (by omega)]
 rfl
theorem rdOf_mem (l:List ByteArray) (i:Int) (h0:0 ≤ i) (h1:i < l.length):rdOf ByteArray.empty l i ∈ l:=by
 rw [rdOf_get l i h0 h1]
 exact List.getElem_mem _
def tok (t:ByteArray):Bool:=decide (1 ≤ t.size) && decide (t.size ≤ 1000)
theorem text_spec (t:ByteArray):spec_l12Text.f t=some (tok t):=by
 unfold spec_l12Text.f tok
 by_cases h:(t.size:Int) ≥ 1
 ·rw [if_pos h]
  have h1:1 ≤ t.size:=by omega
  simp only [h1,decide_true,Bool.true_and]
  congr 1
  apply decide_eq_decide.2
  omega
 ·rw [if_neg h]
  have h1:¬ 1 ≤ t.size:=by omega
  simp [h1]
theorem bad_impl (t:ByteArray):impl_badText.f t=some (!tok t):=by
 unfold impl_badText.f impl_isText.f impl_in.f tok
 by_cases h:(t.size:Int) ≥ 1
 ·rw [if_pos h]
  have h1:1 ≤ t.size:=by omega
  simp only [h1,decide_true,Bool.true_and,Option.bind_some]
  congr 2
  apply decide_eq_decide.2
  omega
 ·rw [if_neg h]
  have h1:¬ 1 ≤ t.size:=by omega
  simp [h1]
theorem texts_loop (l:List ByteArray) (m:Int) (hm:l.length ≤ 9223372036854775807) (d:Nat):∀ i:Nat,i ≤ l.length → l.length - i=d →
  Ev (fun k=>spec_l12Texts.l0 k l m (i:Int)) ((l.drop i).all tok && decide ((l.length:Int) ≤ m)):=by
 induction d with
 | zero =>
  intro i h1 hd
  have e:i=l.length:=by omega
  subst e
  exact evOne fun k=>by simp only [spec_l12Texts.l0];rw [if_neg (by omega)];simp
 | succ d ih =>
  intro i h1 hd
  have hi:i < l.length:=by omega
  have hg:rdOf ByteArray.empty l (i:Int)=l[i]:=by rw [rdOf_get l i (by omega) (by omega)];simp
  have hdrop:l.drop i=l[i] :: l.drop (i + 1):=List.drop_eq_getElem_cons hi
  have hstep:∀ k,spec_l12Texts.l0 (k + 1) l m (i:Int)=if tok l[i]=true then spec_l12Texts.l0 k l m ((i + 1:Nat):Int) else some false:=fun k=>by
   simp only [spec_l12Texts.l0]
   rw [if_pos (by omega),if_pos (by omega),hg,text_spec,Option.bind_some,w64 (by omega) (by omega)]
   rfl
  cases ht:tok l[i] with
  | true =>
   refine evStep (f:=fun k=>spec_l12Texts.l0 k l m ((i + 1:Nat):Int)) (fun k=>by rw [hstep,if_pos ht]) ?_
   rw [hdrop,List.all_cons,ht,Bool.true_and]
   exact ih (i + 1) (by omega) (by omega)
  | false =>
   rw [hdrop,List.all_cons,ht,Bool.false_and,Bool.false_and]
   exact evOne fun k=>by rw [hstep,if_neg (by simp [ht])]
theorem texts_spec (l:List ByteArray) (m:Int) (hm:l.length ≤ 9223372036854775807):Ev (fun k=>spec_l12Texts.f k l m) (l.all tok && decide ((l.length:Int) ≤ m)):=by
 have:=texts_loop l m hm l.length 0 (by omega) (by omega)
 simpa [spec_l12Texts.f] using this
theorem index_loop (l:List ByteArray) (hm:l.length ≤ 9223372036854775807) (d:Nat):∀ i:Nat,i ≤ l.length → l.length - i=d →
  ∃ r:Int,Ev (fun k=>slices_IndexFunc_string_string.l0 k l (l.length:Int) (i:Int)) r∧decide (r ≥ 0)=!(l.drop i).all tok:=by
 induction d with
 | zero =>
  intro i h1 hd
  have e:i=l.length:=by omega
  subst e
  exact ⟨-1,evOne fun k=>by simp only [slices_IndexFunc_string_string.l0];rw [if_neg (by omega)],by simp⟩
 | succ d ih =>
  intro i h1 hd
  have hi:i < l.length:=by omega
  have hg:rdOf ByteArray.empty l (i:Int)=l[i]:=by rw [rdOf_get l i (by omega) (by omega)];simp
  have hdrop:l.drop i=l[i] :: l.drop (i + 1):=List.drop_eq_getElem_cons hi
  have hstep:∀ k,slices_IndexFunc_string_string.l0 (k + 1) l (l.length:Int) (i:Int)=if (!tok l[i])=true then some (i:Int) else slices_IndexFunc_string_string.l0 k l (l.length:Int) ((i + 1:Nat):Int):=fun k=>by
   simp only [slices_IndexFunc_string_string.l0]
   rw [if_pos (by omega),if_pos (by omega),if_pos (by omega),hg,bad_impl,Option.bind_some,w64 (by omega) (by omega)]
   rfl
  cases ht:tok l[i] with
  | true =>
   obtain ⟨r,hr,he⟩:=ih (i + 1) (by omega) (by omega)
   refine ⟨r,evStep (f:=fun k=>slices_IndexFunc_string_string.l0 k l (l.length:Int) ((i + 1:Nat):Int)) (fun k=>by rw [hstep,if_neg (by simp [ht])]) hr,?_⟩
   rw [hdrop,List.all_cons,ht,Bool.true_and]
   exact he
  | false =>
   refine ⟨i,evOne fun k=>by rw [hstep,if_pos (by simp [ht])],?_⟩
   rw [hdrop,List.all_cons,ht]
   simp
theorem contains_impl (l:List ByteArray) (hm:l.length ≤ 9223372036854775807):Ev (fun k=>slices_ContainsFunc_string_string.f k l) (!l.all tok):=by
 obtain ⟨r,hr,he⟩:=index_loop l hm l.length 0 (by omega) (by omega)
 refine evBind (a:=r) ?_ (evNow fun k=>?_)
 ·exact hr
 ·rw [he];rfl
end Go.Proofs.Ytaaffhghpealjaa.A
namespace Go.Proofs.Ytaaffhghpealjaa.A
open Go.RowKit Go.Proofs.YtaaffhghpealjaaW.PrintWords Go.Proofs.YtaaffhghpealjaaW.PrintLast Go.Proofs.YtaaffhghpealjaaW.PrintMore
attribute [local go_sem] isSome_setCell max2_int min2_int max_two min_two max_three min_three max_four min_four
set_option linter.unusedVariables false
set_option linter.unusedSimpArgs false
def slices_Clone_string_string.f (l0:List ByteArray):Option (List ByteArray):=(some (([]:List ByteArray):List ByteArray)).bind fun y290=>(if y290.length + l0.length < 8796093022208 then (some (y290 ++ l0)) else (none))
set_option maxHeartbeats 8000000 in
set_option maxRecDepth 100000 in
theorem slices_Clone_string_string.calls (A0:Option Addr) (c0:Nat) (l0:List ByteArray) (r:List ByteArray) (w:World) (hr0:Kd.C Kd.string w A0 l0.length l0) (hc0:l0.length ≤ c0) (h:slices_Clone_string_string.f l0=some r) :
  Calls Try.prog 69 #[.slice A0 l0.length c0] w fun e w'=>∃ v0_:Value,e=.returned (v0_)∧Kd.R Kd.string 9 w' w.heap.size (fun _=>True) v0_ r∧Below w.heap.size w w':=by
 have HR0:=Aside0.mk hr0;have HC0:=Aside0.mk hc0;clear hr0 hc0;have HB:=Aside0.mk (Below.refl w.heap.size w);have H:((some (([]:List ByteArray):List ByteArray)).bind fun y290=>(if y290.length + l0.length < 8796093022208 then (some (y290 ++ l0)) else (none)))=some r:=h;clear h;obtain ⟨y290,hy290⟩:∃ y_:List ByteArray,y_=(([]:List ByteArray)):=⟨_,rfl⟩;replace H:(if y290.length + l0.length < 8796093022208 then (some (y290 ++ l0)) else (none))=some r:=(by first|(rw [hy290];with_reducible exact H)|(have H2_:=(Option.bind_some _ _).symm.trans H;rw [hy290];with_reducible exact H2_)|(have H2_:=(Option.bind_some _ _).symm.trans H;with_reducible exact H2_)|with_reducible exact H|(rw [hy290];exact H)|exact H);have Ny290:=Aside0.mk hy290;clear hy290;by_cases c2:y290.length + l0.length < 8796093022208
 ·rw [if_pos c2] at H;have LMc2:=Aside0.mk c2;clear c2;obtain ⟨y293,hy293⟩:∃ y_:List ByteArray,y_=(y290 ++ l0):=⟨_,rfl⟩;replace H:(some y293)=some r:=(by first|(rw [hy293];with_reducible exact H)|(have H2_:=(Option.bind_some _ _).symm.trans H;rw [hy293];with_reducible exact H2_)|(have H2_:=(Option.bind_some _ _).symm.trans H;with_reducible exact H2_)|with_reducible exact H|(rw [hy293];exact H)|exact H);have Ny293:=Aside0.mk hy293;clear hy293;obtain rfl:=Option.some.inj H;cases A0 with
  | none =>
   have hl0:l0=[]:=by
    rcases l0 with _|⟨x,xs⟩
    ·rfl
    ·obtain ⟨ad,e,_⟩:=HR0.1.2.2 (by simp);exact absurd e (by simp)
   have HL0:=Aside0.mk hl0;clear hl0;have hN:∀ w':World,(binOp .eql 22 (.slice none l0.length c0) (.slice none 0 0)).run Try.prog w'=.ok (.bool true) w':=fun w'=>Lib.run_eql_slice_nil w' 22 9 none _ c0 0 0 Try.underlying22
   go_enter Try.func69,Try.ntmps69;go_wp2;go_ret;exact ⟨_,rfl,by rw [Ny293.1,Ny290.1,HL0.1];exact Kd.R_nil _ _ _ _ _,HB.1⟩
  | some ad0 =>
   have hN:∀ w':World,(binOp .eql 22 (.slice (some ad0) l0.length c0) (.slice none 0 0)).run Try.prog w'=.ok (.bool false) w':=fun w'=>Lib.run_eql_slice_nil w' 22 9 (some ad0) _ c0 0 0 Try.underlying22
   go_enter Try.func69,Try.ntmps69;go_wp2_with (first|((with_reducible refine gate_dst (N:=5) rfl ?_);refine Kd.R_lit Kd.string _ 9 ?hg (N:=5) ?hd (xs:=([]:List ByteArray)) (inner:=[]) (ok:=fun _=>True) (okp:=fun _=>True) ?hr ?hp (fun _ hk=>hk) trivial (Below.refl _ _) (Nat.le_refl _) (by simp) ?_;(case hd=>rfl);(case hg=>rfl);(case hr=>go_simp;try rfl);(case hp=>exact (Reps.none _ _));intro v291 w3 ho4 hb hg_ hnew_;clear hg_ hnew_;(first|rw [← Ny290.1] at ho4|(simp only [Int.reduceToNat] at ho4;rw [← Ny290.1] at ho4));have HO292:=Aside0.mk (Kd.R_lower ho4 (zB HB));replace HB:=tB HB hb;clear hb ho4)|((with_reducible refine gate_builtin (b:=.append) (xs:=#[.tmp 5,.tmp 6]) rfl ?_);at_builtin;refine Kd.R_append_rows Kd.string (w0:=w) w.heap.size rfl (.tmp 5) (.tmp 6) 22 9 (.string ⟨#[]⟩) 16 rfl Try.underlying22 info9 rfl (by decide) (by omega) v291 y290 l0 _ _ _ (fun _=>True) (fun _=>False) rfl rfl ?aO ?aR (fun _ _ h=>h) (fun _ h=>h.elim) ?aF ?aB ?aS ?aL ?_;(case aR=>exact cR HR0 HB);(case aB=>exact (by repeat (first|(with_reducible first|exact HB.1|apply qA|apply qN|apply qD)|exact HB.1)));(case aF=>exact (fun _ _=>trivial));(case aO=>exact (by (with_reducible repeat (first|apply rA|apply rN|apply rD));exact HO292.1));(case aS=>exact (zB HB));(case aL=>have:=LMc2.1;omega);intro v294 w5 ho hb hg hat;rw [← Ny293.1] at ho;replace HB:=Aside0.mk (hb);have HO295:=Aside0.mk (ho);clear HO292;clear ho hb hg hat));go_ret;exact ⟨_,by first|rfl|(simp [errW_none,errW_some] <;> rfl)|(simp [*,errW_none,errW_some] <;> rfl),by (with_reducible repeat (first|apply rA|apply rN|apply rD));exact HO295.1,by repeat (first|(with_reducible first|exact HB.1|apply qA|apply qN|apply qD)|exact HB.1)⟩
 ·rw [if_neg c2] at H;exact absurd H (by simp)
def impl_cloneLink.f (a0_0:Int) (l0_1:List ByteArray) (a0_2:Int) (a0_3:Int) (a0_4:Int):Option (Int × List ByteArray × Int × Int × Int):=(slices_Clone_string_string.f l0_1).bind fun t298=>(some (a0_0,t298,a0_2,a0_3,a0_4))
set_option maxHeartbeats 8000000 in
set_option maxRecDepth 100000 in
theorem impl_cloneLink.calls (a0_0:Int) (A0_1:Option Addr) (c0_1:Nat) (l0_1:List ByteArray) (a0_2:Int) (a0_3:Int) (a0_4:Int) (r1:Int) (r2:List ByteArray) (r3:Int) (r4:Int) (r5:Int) (w:World) (hr0_1:Kd.C Kd.string w A0_1 l0_1.length l0_1) (hc0_1:l0_1.length ≤ c0_1) (h:impl_cloneLink.f a0_0 l0_1 a0_2 a0_3 a0_4=some (r1,r2,r3,r4,r5)) :
  Calls Try.prog 68 #[.agg #[.int .i64 a0_0,.slice A0_1 l0_1.length c0_1,.int .i64 a0_2,.int .i64 a0_3,.int .i64 a0_4]] w fun e w'=>∃ v1_:Value,e=.returned (.agg #[.int .i64 r1,v1_,.int .i64 r3,.int .i64 r4,.int .i64 r5])∧Kd.R Kd.string 9 w' w.heap.size (fun _=>True) v1_ r2∧Below w.heap.size w w':=by
 have hu24:=Try.underlying24;have HR0_1:=Aside0.mk hr0_1;have HC0_1:=Aside0.mk hc0_1;clear hr0_1 hc0_1;have HB:=Aside0.mk (Below.refl w.heap.size w);have H:((slices_Clone_string_string.f l0_1).bind fun t298=>(some (a0_0,t298,a0_2,a0_3,a0_4)))=some (r1,r2,r3,r4,r5):=h;clear h;replace H:=bS H;obtain ⟨t298,A20,H⟩:=H;replace H:(some (a0_0,t298,a0_2,a0_3,a0_4))=some (r1,r2,r3,r4,r5):=H;have A2:=Aside0.mk A20;clear A20;simp only [Option.some.injEq,Prod.mk.injEq] at H;obtain ⟨rfl,rfl,rfl,rfl,rfl⟩:=H;go_enter Try.func68,Try.ntmps68;go_wp2_with (first|((with_reducible refine gate_dst (N:=1) rfl ?_);refine box_event ?hg (N:=1) ?hd (cs:=#[.int .i64 a0_0,.slice A0_1 l0_1.length c0_1,.int .i64 a0_2,.int .i64 a0_3,.int .i64 a0_4]) (t:=24) ?hr ?_;(case hd=>rfl);(case hg=>rfl);(case hr=>go_simp;try rfl);intro gb296 hg w3 hbox hb;have BK296:=Aside0.mk (hbox);have GW296:=gB HB hg;have GE296:=gB HB hg;replace HB:=tB HB hb;clear hb hbox hg)|((with_reducible refine gate_dst (N:=2) rfl ?_);refine box_event ?hg (N:=2) ?hd (cs:=#[.int .i64 0,.slice none 0 0,.int .i64 0,.int .i64 0,.int .i64 0]) (t:=24) ?hr ?_;(case hd=>rfl);(case hg=>rfl);(case hr=>go_simp;try rfl);intro gb297 hg w4 hbox hb;have BK297:=Aside0.mk (hbox);have GW297:=gB HB hg;have GE297:=gB HB hg;replace HB:=Aside0.mk (below_step (by repeat (first|(with_reducible first|exact HB.1|apply qA|apply qN|apply qD|refine qS ?_ GE296.1)|exact HB.1)) hb);have NB296_297:=nL BK296 hg;have NB297_296:=nG BK296 hg;replace BK296:=bB BK296 hb;clear hb hbox hg;have hnb5:=NB296_297.1;have hnc5:=NB297_296.1;obtain ⟨hcz6_0,hcz6_1,hcz6_2,hcz6_3,hcz6_4⟩:=c5_ BK296;obtain ⟨hfz6_0,hfz6_1,hfz6_2,hfz6_3,hfz6_4⟩:=f5_ BK296)|((with_reducible refine gC 69 rfl ?_);refine gL 5 Try.func69 #[.slice A0_1 l0_1.length c0_1] ?_;(with_reducible refine (slices_Clone_string_string.calls _ _ l0_1 t298 _ ?side1 ?side2 A2.1).mono ?_);(case side1=>exact cR HR0_1 HB);(case side2=>exact HC0_1.1);rintro e w7 ⟨v299,rfl,ho0,hb⟩;refine ⟨_,rfl,?_⟩;have HO300:=Aside0.mk (Kd.R_lower ho0 (zB HB));replace BK296:=bB BK296 hb;replace BK297:=bB BK297 hb;replace HB:=Aside0.mk (below_step (by repeat (first|(with_reducible first|exact HB.1|apply qA|apply qN|apply qD|refine qS ?_ GE296.1|refine qS ?_ GE297.1)|exact HB.1)) hb);(try clear hb);(try clear hb2);(try clear hk);(try clear hi);(try clear ho0);obtain ⟨Ao8,co8,eo8⟩:=Kd.R_slice HO300.1;subst eo8;obtain ⟨hcz9_0,hcz9_1,hcz9_2,hcz9_3,hcz9_4⟩:=c5_ BK296;obtain ⟨hfz9_0,hfz9_1,hfz9_2,hfz9_3,hfz9_4⟩:=f5_ BK296;obtain ⟨hcz10_0,hcz10_1,hcz10_2,hcz10_3,hcz10_4⟩:=c5_ BK297;obtain ⟨hfz10_0,hfz10_1,hfz10_2,hfz10_3,hfz10_4⟩:=f5_ BK297));refine bodyPost_ret (results_cell_row rfl _ _ gb297 24 #[.int .i64 a0_0,.slice Ao8 t298.length co8,.int .i64 a0_2,.int .i64 a0_3,.int .i64 a0_4] (0,0) _ rfl (by (with_reducible repeat (first|apply kN|apply kD|apply kA));refine cp5 (c0:=.int .i64 0) (c1:=.slice none 0 0) (c2:=.int .i64 0) (c3:=.int .i64 0) (c4:=.int .i64 0) ?_;(with_reducible repeat (first|apply kN|apply kD|apply kA));refine blk_far ?_ NB297_296.1 _;(with_reducible repeat (first|apply kN|apply kD|apply kA));exact BK297.1) Try.underlying24 rfl (by kernel_rfl)) rfl ?_;exact ⟨_,by first|rfl|(simp [errW_none,errW_some] <;> rfl)|(simp [*,errW_none,errW_some] <;> rfl),by (with_reducible repeat (first|apply rA|apply rN|apply rD));exact Kd.R_mono (cjR5 (Kd.R_far (p:=⟨gb296,1,none⟩) (Kd.R_types (Kd.R_types HO300.1 BK296.1 (by decide)) BK297.1 (by decide)) (fun _ hk=>hk.1.2) (.slice Ao8 t298.length co8)) (fun _ hk=>hk.2)) (fun _ hk=>trivial),by repeat (first|(with_reducible first|exact HB.1|apply qA|apply qN|apply qD|refine qS ?_ GE296.1|refine qS ?_ GE297.1)|exact HB.1)⟩
end Go.Proofs.Ytaaffhghpealjaa.A
namespace Go.Proofs.Ytaaffhghpealjaa.A
open Go.RowKit Go.Proofs.YtaaffhghpealjaaW.PrintWords Go.Proofs.YtaaffhghpealjaaW.PrintLast Go.Proofs.YtaaffhghpealjaaW.PrintMore
def rg (n a b:Int):Bool:=decide (a ≤ n) && decide (n ≤ b)
theorem rg_iff {n a b:Int}:rg n a b=true ↔ a ≤ n∧n ≤ b:=by unfold rg;simp
def lok (b:Int) (l:List ByteArray) (d w e:Int):Bool:=rg b 0 999999988 && ((l.all tok && decide ((l.length:Int) ≤ 12)) && (rg d 0 2000000 && (rg w 1 64 && rg e 1 1000000000)))
theorem in_impl (n a b:Int):impl_in.f n a b=some (rg n a b):=by
 unfold impl_in.f rg
 by_cases h:n ≥ a
 ·rw [if_pos h];simp [show a ≤ n from h]
 ·rw [if_neg h];simp [show ¬ a ≤ n from h]
theorem in_spec (n a b:Int):spec_l03Is.f n a b=some (rg n a b):=by
 unfold spec_l03Is.f rg
 by_cases h:n ≥ a
 ·rw [if_pos h];simp [show a ≤ n from h]
 ·rw [if_neg h];simp [show ¬ a ≤ n from h]
theorem id_impl (n:Int):impl_isId.f n=some (rg n 1 1000000000):=by
 unfold impl_isId.f
 rw [in_impl]
 rfl
theorem right_spec (b:Int) (l:List ByteArray) (d w e:Int) (hm:l.length ≤ 9223372036854775807):Ev (fun k=>spec_LinkRight.f k b l d w e) (lok b l d w e):=by
 unfold lok
 refine evBind (a:=rg b 0 999999988) (evNow fun _=>in_spec _ _ _) ?_
 cases rg b 0 999999988 with
 | false=>exact evNow fun _=>rfl
 | true =>
  refine evBind (texts_spec l 12 hm) ?_
  cases (l.all tok && decide ((l.length:Int) ≤ 12)) with
  | false=>exact evNow fun _=>rfl
  | true =>
   simp only [in_spec]
   cases rg d 0 2000000 with
   | false=>exact evNow fun _=>rfl
   | true =>
    cases rg w 1 64 with
    | false=>exact evNow fun _=>rfl
    | true=>exact evNow fun _=>rfl
theorem right_tail (k:Nat) (t:Bool) (b:Int) (l:List ByteArray) (d w e:Int):impl_LinkRight.j0 (k + 1) t b l d w e=some (!t && (rg d 0 2000000 && (rg w 1 64 && rg e 1 1000000000))):=by
 simp only [impl_LinkRight.j0,in_impl,id_impl]
 cases t with
 | true=>rfl
 | false =>
  cases rg d 0 2000000 with
  | false=>rfl
  | true =>
   cases rg w 1 64 with
   | false=>rfl
   | true=>rfl
theorem right_impl (b:Int) (l:List ByteArray) (d w e:Int) (hm:l.length ≤ 9223372036854775807):Ev (fun k=>impl_LinkRight.f k b l d w e) (lok b l d w e):=by
 unfold lok
 refine evBind (a:=rg b 0 999999988) (evNow fun _=>in_impl _ _ _) ?_
 cases rg b 0 999999988 with
 | false=>exact evOne fun k=>right_tail k true b l d w e
 | true =>
  by_cases h:(l.length:Int) > 12
  ·have e1:decide ((l.length:Int) ≤ 12)=false:=decide_eq_false (by omega)
   rw [e1,Bool.and_false,Bool.false_and,Bool.and_false]
   exact evOne fun k=>by rw [if_pos rfl,if_pos h];exact right_tail k true b l d w e
  ·have e1:decide ((l.length:Int) ≤ 12)=true:=decide_eq_true (by omega)
   refine evEq (fun k=>by rw [if_pos rfl,if_neg h]) ?_
   refine evBind (contains_impl l hm) ?_
   refine evOne fun k=>(right_tail k _ b l d w e).trans ?_
   rw [e1,Bool.not_not,Bool.and_true,Bool.true_and]
theorem clone_strs (l:List ByteArray) (hm:l.length ≤ 1048577):slices_Clone_string_string.f l=some l:=by
 unfold slices_Clone_string_string.f
 simp only [Option.bind_some]
 rw [if_pos (by simp;omega)]
 rfl
theorem clone_link (b:Int) (l:List ByteArray) (d w e:Int) (hm:l.length ≤ 1048577):impl_cloneLink.f b l d w e=some (b,l,d,w,e):=by
 unfold impl_cloneLink.f
 rw [clone_strs l hm]
 rfl
theorem lok_iff {b:Int} {l:List ByteArray} {d w e:Int} (h:lok b l d w e=true):(0 ≤ b∧b ≤ 999999988)∧(l.all tok=true∧(l.length:Int) ≤ 12)∧(0 ≤ d∧d ≤ 2000000)∧(1 ≤ w∧w ≤ 64)∧(1 ≤ e∧e ≤ 1000000000):=by
 unfold lok rg at h
 simp only [Bool.and_eq_true,decide_eq_true_eq] at h
 omega
end Go.Proofs.Ytaaffhghpealjaa.A
namespace Go.Proofs.Ytaaffhghpealjaa.A
open Go.RowKit Go.Proofs.YtaaffhghpealjaaW.PrintWords Go.Proofs.YtaaffhghpealjaaW.PrintLast Go.Proofs.YtaaffhghpealjaaW.PrintMore
attribute [local go_sem] isSome_setCell max2_int min2_int max_two min_two max_three min_three max_four min_four
set_option linter.unusedVariables false
set_option linter.unusedSimpArgs false
def laws_markText.l0:Nat → Int → ByteArray → Option (ByteArray)
 | 0,_,_=>none
 | k + 1,x0,x3=>if x0 > 0 then ((some (([(wrap64 (48 + (Int.tmod x0 10))) % 256]:List Int):List Int)).bind fun y108=>(if (strOfNums y108).size + x3.size ≤ 9223372036854775807 then (laws_markText.l0 k (wrap64 (Int.tdiv x0 10)) ((strOfNums y108) ++ x3)) else (none))) else (if 1 + x3.size ≤ 9223372036854775807 then (some ((⟨#[109]⟩:ByteArray) ++ x3)) else (none))
def laws_markText.f (k:Nat) (a0:Int):Option (ByteArray):=if a0 ≤ 0 then (some (⟨#[109,48]⟩:ByteArray)) else (laws_markText.l0 k a0 (⟨#[]⟩:ByteArray))
end Go.Proofs.Ytaaffhghpealjaa.A
namespace Go.Proofs.Ytaaffhghpealjaa.A
open Go.RowKit Go.Proofs.YtaaffhghpealjaaW.PrintWords Go.Proofs.YtaaffhghpealjaaW.PrintLast Go.Proofs.YtaaffhghpealjaaW.PrintMore
theorem strOfNums_one (y:Int):(strOfNums [y]).size=1:=by
 rw [strOfNums_size]
 rfl
open Classical in
noncomputable def mt (n:Int):ByteArray:=if h:∃ s,Ev (fun k=>laws_markText.f k n) s then Classical.choose h else ByteArray.empty
noncomputable def mk (a:Int) (n:Nat):List ByteArray:=(List.range n).map fun j:Nat=>mt (a + (j:Int))
end Go.Proofs.Ytaaffhghpealjaa.A
namespace Go.Proofs.Ytaaffhghpealjaa.A
open Go.RowKit Go.Proofs.YtaaffhghpealjaaW.PrintWords Go.Proofs.YtaaffhghpealjaaW.PrintLast Go.Proofs.YtaaffhghpealjaaW.PrintMore
attribute [local go_sem] isSome_setCell max2_int min2_int max_two min_two max_three min_three max_four min_four
set_option linter.unusedVariables false
set_option linter.unusedSimpArgs false
def spec_l13Copy.f (a0_0:Int) (l0_1:List ByteArray) (a0_2:Int) (a0_3:Int) (a0_4:Int):Option (Int × List ByteArray × Int × Int × Int):=(some (([]:List ByteArray):List ByteArray)).bind fun y438=>(if y438.length + l0_1.length < 8796093022208 then (some (a0_0,(y438 ++ l0_1),a0_2,a0_3,a0_4)) else (none))
set_option maxHeartbeats 8000000 in
set_option maxRecDepth 100000 in
theorem spec_l13Copy.calls (a0_0:Int) (A0_1:Option Addr) (c0_1:Nat) (l0_1:List ByteArray) (a0_2:Int) (a0_3:Int) (a0_4:Int) (r1:Int) (r2:List ByteArray) (r3:Int) (r4:Int) (r5:Int) (w:World) (hr0_1:Kd.C Kd.string w A0_1 l0_1.length l0_1) (hc0_1:l0_1.length ≤ c0_1) (h:spec_l13Copy.f a0_0 l0_1 a0_2 a0_3 a0_4=some (r1,r2,r3,r4,r5)) :
  Calls Try.prog 70 #[.agg #[.int .i64 a0_0,.slice A0_1 l0_1.length c0_1,.int .i64 a0_2,.int .i64 a0_3,.int .i64 a0_4]] w fun e w'=>∃ v1_:Value,e=.returned (.agg #[.int .i64 r1,v1_,.int .i64 r3,.int .i64 r4,.int .i64 r5])∧Kd.R Kd.string 9 w' w.heap.size (fun _=>True) v1_ r2∧Below w.heap.size w w':=by
 have hu24:=Try.underlying24;have HR0_1:=Aside0.mk hr0_1;have HC0_1:=Aside0.mk hc0_1;clear hr0_1 hc0_1;have HB:=Aside0.mk (Below.refl w.heap.size w);have H:((some (([]:List ByteArray):List ByteArray)).bind fun y438=>(if y438.length + l0_1.length < 8796093022208 then (some (a0_0,(y438 ++ l0_1),a0_2,a0_3,a0_4)) else (none)))=some (r1,r2,r3,r4,r5):=h;clear h;obtain ⟨y438,hy438⟩:∃ y_:List ByteArray,y_=(([]:List ByteArray)):=⟨_,rfl⟩;replace H:(if y438.length + l0_1.length < 8796093022208 then (some (a0_0,(y438 ++ l0_1),a0_2,a0_3,a0_4)) else (none))=some (r1,r2,r3,r4,r5):=(by first|(rw [hy438];with_reducible exact H)|(have H2_:=(Option.bind_some _ _).symm.trans H;rw [hy438];with_reducible exact H2_)|(have H2_:=(Option.bind_some _ _).symm.trans H;with_reducible exact H2_)|with_reducible exact H|(rw [hy438];exact H)|exact H);have Ny438:=Aside0.mk hy438;clear hy438;by_cases c2:y438.length + l0_1.length < 8796093022208
 ·rw [if_pos c2] at H;have LMc2:=Aside0.mk c2;clear c2;obtain ⟨y441,hy441⟩:∃ y_:List ByteArray,y_=(y438 ++ l0_1):=⟨_,rfl⟩;replace H:(some (a0_0,y441,a0_2,a0_3,a0_4))=some (r1,r2,r3,r4,r5):=(by first|(rw [hy441];with_reducible exact H)|(have H2_:=(Option.bind_some _ _).symm.trans H;rw [hy441];with_reducible exact H2_)|(have H2_:=(Option.bind_some _ _).symm.trans H;with_reducible exact H2_)|with_reducible exact H|(rw [hy441];exact H)|exact H);have Ny441:=Aside0.mk hy441;clear hy441;simp only [Option.some.injEq,Prod.mk.injEq] at H;obtain ⟨rfl,rfl,rfl,rfl,rfl⟩:=H;go_enter Try.func70,Try.ntmps70;go_wp2_with (first|((with_reducible refine gate_dst (N:=1) rfl ?_);refine box_event ?hg (N:=1) ?hd (cs:=#[.int .i64 a0_0,.slice A0_1 l0_1.length c0_1,.int .i64 a0_2,.int .i64 a0_3,.int .i64 a0_4]) (t:=24) ?hr ?_;(case hd=>rfl);(case hg=>rfl);(case hr=>go_simp;try rfl);intro gb436 hg w3 hbox hb;have BK436:=Aside0.mk (hbox);have GW436:=gB HB hg;have GE436:=gB HB hg;replace HB:=tB HB hb;clear hb hbox hg)|((with_reducible refine gate_dst (N:=2) rfl ?_);refine box_event ?hg (N:=2) ?hd (cs:=#[.int .i64 0,.slice none 0 0,.int .i64 0,.int .i64 0,.int .i64 0]) (t:=24) ?hr ?_;(case hd=>rfl);(case hg=>rfl);(case hr=>go_simp;try rfl);intro gb437 hg w4 hbox hb;have BK437:=Aside0.mk (hbox);have GW437:=gB HB hg;have GE437:=gB HB hg;replace HB:=Aside0.mk (below_step (by repeat (first|(with_reducible first|exact HB.1|apply qA|apply qN|apply qD|refine qS ?_ GE436.1)|exact HB.1)) hb);have NB436_437:=nL BK436 hg;have NB437_436:=nG BK436 hg;replace BK436:=bB BK436 hb;clear hb hbox hg)|((with_reducible refine gate_dst (N:=3) rfl ?_);refine Kd.R_lit Kd.string _ 9 ?hg (N:=3) ?hd (xs:=([]:List ByteArray)) (inner:=[]) (ok:=fun _=>True) (okp:=fun _=>True) ?hr ?hp (fun _ hk=>hk) trivial (Below.refl _ _) (Nat.le_refl _) (by simp) ?_;(case hd=>rfl);(case hg=>rfl);(case hr=>go_simp;try rfl);(case hp=>exact (Reps.none _ _));intro v439 w5 ho6 hb hg_ hnew_;clear hg_ hnew_;(first|rw [← Ny438.1] at ho6|(simp only [Int.reduceToNat] at ho6;rw [← Ny438.1] at ho6));have HO440:=Aside0.mk (Kd.R_lower ho6 (zB HB));replace BK436:=bB BK436 hb;replace BK437:=bB BK437 hb;replace HB:=Aside0.mk (below_step (by repeat (first|(with_reducible first|exact HB.1|apply qA|apply qN|apply qD|refine qS ?_ GE436.1|refine qS ?_ GE437.1)|exact HB.1)) hb);clear hb ho6;have hnb7:=NB436_437.1;have hnc7:=NB437_436.1;obtain ⟨hcz8_0,hcz8_1,hcz8_2,hcz8_3,hcz8_4⟩:=c5_ BK436;obtain ⟨hfz8_0,hfz8_1,hfz8_2,hfz8_3,hfz8_4⟩:=f5_ BK436)|((with_reducible refine gate_builtin (b:=.append) (xs:=#[.tmp 3,.tmp 5]) rfl ?_);at_builtin;refine Kd.R_append_rows Kd.string (w0:=w) w.heap.size rfl (.tmp 3) (.tmp 5) 22 9 (.string ⟨#[]⟩) 16 rfl Try.underlying22 info9 rfl (by decide) (by omega) v439 y438 l0_1 _ _ _ (fun _=>True) (fun _=>False) rfl rfl ?aO ?aR (fun _ _ h=>h) (fun _ h=>h.elim) ?aF ?aB ?aS ?aL ?_;(case aR=>exact cR HR0_1 HB);(case aB=>exact (by repeat (first|(with_reducible first|exact HB.1|apply qA|apply qN|apply qD|refine qS ?_ GE436.1|refine qS ?_ GE437.1)|exact HB.1)));(case aF=>exact (fun _ _=>trivial));(case aO=>exact (by (with_reducible repeat (first|apply rA|apply rN|apply rD));exact HO440.1));(case aS=>exact (zB HB));(case aL=>have:=LMc2.1;omega);intro v442 w9 ho hb hg hat;rw [← Ny441.1] at ho;replace BK436:=Aside0.mk (blk_grown (g:=gb436) (o:=.cells #[.int .i64 a0_0,.slice A0_1 l0_1.length c0_1,.int .i64 a0_2,.int .i64 a0_3,.int .i64 a0_4] 24 (0,0)) (by (with_reducible repeat (first|apply kN|apply kD|apply kA));exact BK436.1) hg (Kd.R_ne HO440.1 BK436.1 (by decide)));replace BK437:=Aside0.mk (blk_grown (g:=gb437) (o:=.cells #[.int .i64 0,.slice none 0 0,.int .i64 0,.int .i64 0,.int .i64 0] 24 (0,0)) (by (with_reducible repeat (first|apply kN|apply kD|apply kA));exact BK437.1) hg (Kd.R_ne HO440.1 BK437.1 (by decide)));replace HB:=Aside0.mk (hb);have HO443:=Aside0.mk (ho);clear HO440;clear ho hb hg hat;obtain ⟨Ao10,co10,eo10⟩:=Kd.R_slice HO443.1;subst eo10;obtain ⟨hcz11_0,hcz11_1,hcz11_2,hcz11_3,hcz11_4⟩:=c5_ BK436;obtain ⟨hfz11_0,hfz11_1,hfz11_2,hfz11_3,hfz11_4⟩:=f5_ BK436;obtain ⟨hcz12_0,hcz12_1,hcz12_2,hcz12_3,hcz12_4⟩:=c5_ BK437;obtain ⟨hfz12_0,hfz12_1,hfz12_2,hfz12_3,hfz12_4⟩:=f5_ BK437));refine bodyPost_ret (results_cell_row rfl _ _ gb437 24 #[.int .i64 a0_0,.slice Ao10 y441.length co10,.int .i64 a0_2,.int .i64 a0_3,.int .i64 a0_4] (0,0) _ rfl (by (with_reducible repeat (first|apply kN|apply kD|apply kA));refine cp5 (c0:=.int .i64 0) (c1:=.slice none 0 0) (c2:=.int .i64 0) (c3:=.int .i64 0) (c4:=.int .i64 0) ?_;(with_reducible repeat (first|apply kN|apply kD|apply kA));refine blk_far ?_ NB437_436.1 _;(with_reducible repeat (first|apply kN|apply kD|apply kA));exact BK437.1) Try.underlying24 rfl (by kernel_rfl)) rfl ?_;exact ⟨_,by first|rfl|(simp [errW_none,errW_some] <;> rfl)|(simp [*,errW_none,errW_some] <;> rfl),by (with_reducible repeat (first|apply rA|apply rN|apply rD));exact Kd.R_mono (cjR5 (Kd.R_far (p:=⟨gb436,1,none⟩) (Kd.R_types (Kd.R_types HO443.1 BK436.1 (by decide)) BK437.1 (by decide)) (fun _ hk=>hk.1.2) (.slice Ao10 y441.length co10)) (fun _ hk=>hk.2)) (fun _ hk=>trivial),by repeat (first|(with_reducible first|exact HB.1|apply qA|apply qN|apply qD|refine qS ?_ GE436.1|refine qS ?_ GE437.1)|exact HB.1)⟩
 ·rw [if_neg c2] at H;exact absurd H (by simp)
end Go.Proofs.Ytaaffhghpealjaa.A
namespace Go.Proofs.Ytaaffhghpealjaa.A
open Go.RowKit Go.Proofs.YtaaffhghpealjaaW.PrintWords Go.Proofs.YtaaffhghpealjaaW.PrintLast Go.Proofs.YtaaffhghpealjaaW.PrintMore
theorem copy_link (b:Int) (l:List ByteArray) (d w e:Int) (hm:l.length ≤ 1048577):spec_l13Copy.f b l d w e=some (b,l,d,w,e):=by
 unfold spec_l13Copy.f
 simp only [Option.bind_some]
 rw [if_pos (by simp;omega)]
 rfl
abbrev LO:=Int × List ByteArray × Int × Int × Int × List S38 × ByteArray × Int
end Go.Proofs.Ytaaffhghpealjaa.A
namespace Go.Proofs.Ytaaffhghpealjaa.A
open Go.RowKit Go.Proofs.YtaaffhghpealjaaW.PrintWords Go.Proofs.YtaaffhghpealjaaW.PrintLast Go.Proofs.YtaaffhghpealjaaW.PrintMore
attribute [local go_sem] isSome_setCell max2_int min2_int max_two min_two max_three min_three max_four min_four
set_option linter.unusedVariables false
set_option linter.unusedSimpArgs false
def impl_isNow.f (a0:Int):Option (Bool):=(impl_in.f a0 0 1000000).bind fun t289=>(some t289)
set_option maxHeartbeats 8000000 in
set_option maxRecDepth 100000 in
theorem impl_isNow.calls (a0:Int) (r:Bool) (w:World) (h:impl_isNow.f a0=some r) :
  Calls Try.prog 67 #[.int .i64 a0] w fun e w'=>e=.returned (.bool r)∧Drawn0 w w':=by
 have H:((impl_in.f a0 0 1000000).bind fun t289=>(some t289))=some r:=h;clear h;replace H:=bS H;obtain ⟨t289,A20,H⟩:=H;replace H:(some t289)=some r:=H;have A2:=Aside0.mk A20;clear A20;obtain rfl:=Option.some.inj H;go_enter Try.func67,Try.ntmps67;go_wp2_with (first|((with_reducible refine gC 55 rfl ?_);refine gL 4 Try.func55 #[.int .i64 a0,.int .i64 0,.int .i64 1000000] ?_;(with_reducible refine (impl_in.calls a0 0 1000000 t289 _ A2.1).mono ?_);rintro e w' ⟨rfl,⟨nd,rfl⟩⟩;refine ⟨_,rfl,?_⟩));go_ret;exact ⟨by first|rfl|(simp;done)|(simp [*];done),by repeat (first|exact Drawn0.refl _|apply Drawn0.step)⟩
end Go.Proofs.Ytaaffhghpealjaa.A
