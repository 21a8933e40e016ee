/- Plain Lean functions for Go functions of the seat, and that a call of each Go function comes to what its plain function says; conditions: its slices read as the lists named. Written by a program of this session with the kit's print.py. -/
import Derived.Test.YthmajmkgeapfnaaAx0
import Derived.Test.YthmajmkgeapfnaaF16
namespace Go.Proofs.Ythmajmkgeapfnaa.A
open Go.RowKit Go.Proofs.YthmajmkgeapfnaaW.PrintWords Go.Proofs.YthmajmkgeapfnaaW.PrintLast Go.Proofs.YthmajmkgeapfnaaW.PrintMore
attribute [local go_sem] isSome_setCell str_geq str_gtr max2_int min2_int max_two min_two max_three min_three max_four min_four   -- for this text's walks alone
set_option linter.unusedVariables false
set_option linter.unusedSimpArgs false

/-! ### cmp_isNaN_string: function 102 -/
def cmp_isNaN_string.f (a0:ByteArray):Option (Bool):=some (a0.toList != a0.toList)
set_option maxHeartbeats 8000000 in
set_option maxRecDepth 100000 in
theorem cmp_isNaN_string.calls (a0:ByteArray) (r:Bool) (w:World) (h:cmp_isNaN_string.f a0=some r) :
  Calls Try.prog 102 #[.string a0] w fun e w'=>e=.returned (.bool r)∧Drawn0 w w':=by
 have H:(some (a0.toList != a0.toList))=some r:=h;clear h;obtain rfl:=Option.some.inj H;go_enter Try.func102,Try.ntmps102;go_wp2;go_ret;exact ⟨by first|rfl|(simp;done)|(simp [*];done),by repeat (first|exact Drawn0.refl _|apply Drawn0.step)⟩

/-! ### cmp_Compare_string: function 94 -/
def cmp_Compare_string.f (a0:ByteArray) (a1:ByteArray):Option (Int):=(cmp_isNaN_string.f a0).bind fun t621=>((cmp_isNaN_string.f a1).bind fun t622=>(if t621=true then (if t622=true then (some 0) else (some (-1))) else (if t622=true then (some 1) else (if (Op.bytesLess a0.toList a1.toList)=true then (some (-1)) else (if (Op.bytesLess a1.toList a0.toList)=true then (some 1) else (some 0))))))
set_option maxHeartbeats 8000000 in
set_option maxRecDepth 100000 in
theorem cmp_Compare_string.calls (a0:ByteArray) (a1:ByteArray) (r:Int) (w:World) (h:cmp_Compare_string.f a0 a1=some r) :
  Calls Try.prog 94 #[.string a0,.string a1] w fun e w'=>e=.returned (.int .i64 r)∧Drawn0 w w':=by
 have H:((cmp_isNaN_string.f a0).bind fun t621=>((cmp_isNaN_string.f a1).bind fun t622=>(if t621=true then (if t622=true then (some 0) else (some (-1))) else (if t622=true then (some 1) else (if (Op.bytesLess a0.toList a1.toList)=true then (some (-1)) else (if (Op.bytesLess a1.toList a0.toList)=true then (some 1) else (some 0)))))))=some r:=h;clear h;replace H:=Option.bind_eq_some_iff.mp H;obtain ⟨t621,A30,H⟩:=H;replace H:((cmp_isNaN_string.f a1).bind fun t622=>(if t621=true then (if t622=true then (some 0) else (some (-1))) else (if t622=true then (some 1) else (if (Op.bytesLess a0.toList a1.toList)=true then (some (-1)) else (if (Op.bytesLess a1.toList a0.toList)=true then (some 1) else (some 0))))))=some r:=H;have A3:=Aside0.mk A30;clear A30;replace H:=Option.bind_eq_some_iff.mp H;obtain ⟨t622,A40,H⟩:=H;replace H:(if t621=true then (if t622=true then (some 0) else (some (-1))) else (if t622=true then (some 1) else (if (Op.bytesLess a0.toList a1.toList)=true then (some (-1)) else (if (Op.bytesLess a1.toList a0.toList)=true then (some 1) else (some 0)))))=some r:=H;have A4:=Aside0.mk A40;clear A40;by_cases c5:t621=true
 ·subst c5;have H1:(if t622=true then (some 0) else (some (-1)))=some r:=(by rw [if_pos rfl] at H;exact H);clear H;have H:=H1;clear H1;by_cases c6:t622=true
  ·subst c6;have H1:(some 0)=some r:=(by rw [if_pos rfl] at H;exact H);clear H;have H:=H1;clear H1;obtain rfl:=Option.some.inj H;go_enter Try.func94,Try.ntmps94;go_wp2_with (first|((with_reducible refine gate_callee (f:=102) rfl ?_);refine goesL_ (some 8) rfl rfl Try.func102 (by kernel_rfl) rfl #[.string a0] rfl (by (try simp only [List.map_toArray,List.map_cons,List.map_nil]);first|done|rfl|(simp only [List.length_drop,List.length_take];rfl)) ?_;(with_reducible refine (cmp_isNaN_string.calls a0 true _ A3.out).mono ?_);rintro e w' ⟨rfl,⟨nd,rfl⟩⟩;refine ⟨_,rfl,?_⟩)|((with_reducible refine gate_callee (f:=102) rfl ?_);refine goesL_ (some 10) rfl rfl Try.func102 (by kernel_rfl) rfl #[.string a1] rfl (by (try simp only [List.map_toArray,List.map_cons,List.map_nil]);first|done|rfl|(simp only [List.length_drop,List.length_take];rfl)) ?_;(with_reducible refine (cmp_isNaN_string.calls a1 true _ A4.out).mono ?_);rintro e w' ⟨rfl,⟨nd,rfl⟩⟩;refine ⟨_,rfl,?_⟩));go_ret;exact ⟨by first|rfl|(simp;done)|(simp [*];done),by repeat (first|exact Drawn0.refl _|apply Drawn0.step)⟩
  ·replace c6:=Bool.eq_false_iff.mpr c6;subst c6;have H1:(some (-1))=some r:=(by rw [if_neg (show ¬ (false=true) by decide)] at H;exact H);clear H;have H:=H1;clear H1;obtain rfl:=Option.some.inj H;go_enter Try.func94,Try.ntmps94;go_wp2_with (first|((with_reducible refine gate_callee (f:=102) rfl ?_);refine goesL_ (some 8) rfl rfl Try.func102 (by kernel_rfl) rfl #[.string a0] rfl (by (try simp only [List.map_toArray,List.map_cons,List.map_nil]);first|done|rfl|(simp only [List.length_drop,List.length_take];rfl)) ?_;(with_reducible refine (cmp_isNaN_string.calls a0 true _ A3.out).mono ?_);rintro e w' ⟨rfl,⟨nd,rfl⟩⟩;refine ⟨_,rfl,?_⟩)|((with_reducible refine gate_callee (f:=102) rfl ?_);refine goesL_ (some 10) rfl rfl Try.func102 (by kernel_rfl) rfl #[.string a1] rfl (by (try simp only [List.map_toArray,List.map_cons,List.map_nil]);first|done|rfl|(simp only [List.length_drop,List.length_take];rfl)) ?_;(with_reducible refine (cmp_isNaN_string.calls a1 false _ A4.out).mono ?_);rintro e w' ⟨rfl,⟨nd,rfl⟩⟩;refine ⟨_,rfl,?_⟩));go_ret;exact ⟨by first|rfl|(simp;done)|(simp [*];done),by repeat (first|exact Drawn0.refl _|apply Drawn0.step)⟩
 ·replace c5:=Bool.eq_false_iff.mpr c5;subst c5;have H1:(if t622=true then (some 1) else (if (Op.bytesLess a0.toList a1.toList)=true then (some (-1)) else (if (Op.bytesLess a1.toList a0.toList)=true then (some 1) else (some 0))))=some r:=(by rw [if_neg (show ¬ (false=true) by decide)] at H;exact H);clear H;have H:=H1;clear H1;by_cases c7:t622=true
  ·subst c7;have H1:(some 1)=some r:=(by rw [if_pos rfl] at H;exact H);clear H;have H:=H1;clear H1;obtain rfl:=Option.some.inj H;go_enter Try.func94,Try.ntmps94;go_wp2_with (first|((with_reducible refine gate_callee (f:=102) rfl ?_);refine goesL_ (some 8) rfl rfl Try.func102 (by kernel_rfl) rfl #[.string a0] rfl (by (try simp only [List.map_toArray,List.map_cons,List.map_nil]);first|done|rfl|(simp only [List.length_drop,List.length_take];rfl)) ?_;(with_reducible refine (cmp_isNaN_string.calls a0 false _ A3.out).mono ?_);rintro e w' ⟨rfl,⟨nd,rfl⟩⟩;refine ⟨_,rfl,?_⟩)|((with_reducible refine gate_callee (f:=102) rfl ?_);refine goesL_ (some 10) rfl rfl Try.func102 (by kernel_rfl) rfl #[.string a1] rfl (by (try simp only [List.map_toArray,List.map_cons,List.map_nil]);first|done|rfl|(simp only [List.length_drop,List.length_take];rfl)) ?_;(with_reducible refine (cmp_isNaN_string.calls a1 true _ A4.out).mono ?_);rintro e w' ⟨rfl,⟨nd,rfl⟩⟩;refine ⟨_,rfl,?_⟩));go_ret;exact ⟨by first|rfl|(simp;done)|(simp [*];done),by repeat (first|exact Drawn0.refl _|apply Drawn0.step)⟩
  ·replace c7:=Bool.eq_false_iff.mpr c7;subst c7;have H1:(if (Op.bytesLess a0.toList a1.toList)=true then (some (-1)) else (if (Op.bytesLess a1.toList a0.toList)=true then (some 1) else (some 0)))=some r:=(by rw [if_neg (show ¬ (false=true) by decide)] at H;exact H);clear H;have H:=H1;clear H1;by_cases c8:(Op.bytesLess a0.toList a1.toList)=true
   ·rw [if_pos c8] at H;have c8b0:(Op.bytesLess a0.toList a1.toList)=true:=c8;clear c8;obtain rfl:=Option.some.inj H;go_enter Try.func94,Try.ntmps94;go_wp2_with (first|((with_reducible refine gate_callee (f:=102) rfl ?_);refine goesL_ (some 8) rfl rfl Try.func102 (by kernel_rfl) rfl #[.string a0] rfl (by (try simp only [List.map_toArray,List.map_cons,List.map_nil]);first|done|rfl|(simp only [List.length_drop,List.length_take];rfl)) ?_;(with_reducible refine (cmp_isNaN_string.calls a0 false _ A3.out).mono ?_);rintro e w' ⟨rfl,⟨nd,rfl⟩⟩;refine ⟨_,rfl,?_⟩)|((with_reducible refine gate_callee (f:=102) rfl ?_);refine goesL_ (some 10) rfl rfl Try.func102 (by kernel_rfl) rfl #[.string a1] rfl (by (try simp only [List.map_toArray,List.map_cons,List.map_nil]);first|done|rfl|(simp only [List.length_drop,List.length_take];rfl)) ?_;(with_reducible refine (cmp_isNaN_string.calls a1 false _ A4.out).mono ?_);rintro e w' ⟨rfl,⟨nd,rfl⟩⟩;refine ⟨_,rfl,?_⟩));go_ret;exact ⟨by first|rfl|(simp;done)|(simp [*];done),by repeat (first|exact Drawn0.refl _|apply Drawn0.step)⟩
   ·rw [if_neg c8] at H;have c8b0:(Op.bytesLess a0.toList a1.toList)=false:=(by simpa using c8);clear c8;by_cases c9:(Op.bytesLess a1.toList a0.toList)=true
    ·rw [if_pos c9] at H;have c9b0:(Op.bytesLess a1.toList a0.toList)=true:=c9;clear c9;obtain rfl:=Option.some.inj H;go_enter Try.func94,Try.ntmps94;go_wp2_with (first|((with_reducible refine gate_callee (f:=102) rfl ?_);refine goesL_ (some 8) rfl rfl Try.func102 (by kernel_rfl) rfl #[.string a0] rfl (by (try simp only [List.map_toArray,List.map_cons,List.map_nil]);first|done|rfl|(simp only [List.length_drop,List.length_take];rfl)) ?_;(with_reducible refine (cmp_isNaN_string.calls a0 false _ A3.out).mono ?_);rintro e w' ⟨rfl,⟨nd,rfl⟩⟩;refine ⟨_,rfl,?_⟩)|((with_reducible refine gate_callee (f:=102) rfl ?_);refine goesL_ (some 10) rfl rfl Try.func102 (by kernel_rfl) rfl #[.string a1] rfl (by (try simp only [List.map_toArray,List.map_cons,List.map_nil]);first|done|rfl|(simp only [List.length_drop,List.length_take];rfl)) ?_;(with_reducible refine (cmp_isNaN_string.calls a1 false _ A4.out).mono ?_);rintro e w' ⟨rfl,⟨nd,rfl⟩⟩;refine ⟨_,rfl,?_⟩));go_ret;exact ⟨by first|rfl|(simp;done)|(simp [*];done),by repeat (first|exact Drawn0.refl _|apply Drawn0.step)⟩
    ·rw [if_neg c9] at H;have c9b0:(Op.bytesLess a1.toList a0.toList)=false:=(by simpa using c9);clear c9;obtain rfl:=Option.some.inj H;go_enter Try.func94,Try.ntmps94;go_wp2_with (first|((with_reducible refine gate_callee (f:=102) rfl ?_);refine goesL_ (some 8) rfl rfl Try.func102 (by kernel_rfl) rfl #[.string a0] rfl (by (try simp only [List.map_toArray,List.map_cons,List.map_nil]);first|done|rfl|(simp only [List.length_drop,List.length_take];rfl)) ?_;(with_reducible refine (cmp_isNaN_string.calls a0 false _ A3.out).mono ?_);rintro e w' ⟨rfl,⟨nd,rfl⟩⟩;refine ⟨_,rfl,?_⟩)|((with_reducible refine gate_callee (f:=102) rfl ?_);refine goesL_ (some 10) rfl rfl Try.func102 (by kernel_rfl) rfl #[.string a1] rfl (by (try simp only [List.map_toArray,List.map_cons,List.map_nil]);first|done|rfl|(simp only [List.length_drop,List.length_take];rfl)) ?_;(with_reducible refine (cmp_isNaN_string.calls a1 false _ A4.out).mono ?_);rintro e w' ⟨rfl,⟨nd,rfl⟩⟩;refine ⟨_,rfl,?_⟩));go_ret;exact ⟨by first|rfl|(simp;done)|(simp [*];done),by repeat (first|exact Drawn0.refl _|apply Drawn0.step)⟩

/-! ### impl_sessionAtCmp: function 93 -/
def impl_sessionAtCmp.f (a0_0:ByteArray) (a0_1:Bool) (a0_2:Int) (a0_3:ByteArray) (a1:ByteArray):Option (Int):=(cmp_Compare_string.f a0_0 a1).bind fun t624=>(some t624)
set_option maxHeartbeats 8000000 in
set_option maxRecDepth 100000 in
theorem impl_sessionAtCmp.calls (a0_0:ByteArray) (a0_1:Bool) (a0_2:Int) (a0_3:ByteArray) (a1:ByteArray) (r:Int) (w:World) (h:impl_sessionAtCmp.f a0_0 a0_1 a0_2 a0_3 a1=some r) :
  Calls Try.prog 93 #[.agg #[.string a0_0,.bool a0_1,.int .i64 a0_2,.string a0_3],.string a1] w fun e w'=>e=.returned (.int .i64 r)∧Below w.heap.size w w':=by
 have hu38:=Try.underlying38;have HB:=Aside0.mk (Below.refl w.heap.size w);have H:((cmp_Compare_string.f a0_0 a1).bind fun t624=>(some t624))=some r:=h;clear h;replace H:=Option.bind_eq_some_iff.mp H;obtain ⟨t624,A30,H⟩:=H;replace H:(some t624)=some r:=H;have A3:=Aside0.mk A30;clear A30;obtain rfl:=Option.some.inj H;go_enter Try.func93,Try.ntmps93;go_wp2_with (first|((with_reducible refine gate_dst (N:=2) rfl ?_);refine box_event ?hg (N:=2) ?hd (cs:=#[.string a0_0,.bool a0_1,.int .i64 a0_2,.string a0_3]) (t:=38) ?hr ?_;(case hd=>rfl);(case hg=>rfl);(case hr=>go_simp;try rfl);intro gb623 hg w4 hbox hb;have n0_:=Aside0.mk (below_step (by repeat (first|(with_reducible first|exact HB.out|apply qA|apply qN|apply qD)|exact HB.out)) hb);have n1_:=Aside0.mk (hbox);have n2_:=Aside0.mk ((by rw [hg];exact (below_size (by repeat (first|(with_reducible first|exact HB.out|apply qA|apply qN|apply qD)|exact HB.out))):w.heap.size ≤ gb623));have n3_:=Aside0.mk ((by rw [hg];exact (below_size (by repeat (first|(with_reducible first|exact HB.out|apply qA|apply qN|apply qD)|exact HB.out))):w.heap.size ≤ gb623));clear HB;have HB:=n0_;have BK623:=n1_;have GW623:=n2_;have GE623:=n3_;clear n0_ n1_ n2_ n3_;clear hb hbox hg;have hcz5_0:w4.cell? ⟨gb623,0,none⟩=some (.string a0_0):=(blk_cell BK623.out 0).trans rfl;have hcz5_1:w4.cell? ⟨gb623,1,none⟩=some (.bool a0_1):=(blk_cell BK623.out 1).trans rfl;have hcz5_2:w4.cell? ⟨gb623,2,none⟩=some (.int .i64 a0_2):=(blk_cell BK623.out 2).trans rfl;have hcz5_3:w4.cell? ⟨gb623,3,none⟩=some (.string a0_3):=(blk_cell BK623.out 3).trans rfl;have hfz5_0:=blk_frozen BK623.out 0;have hfz5_1:=blk_frozen BK623.out 1;have hfz5_2:=blk_frozen BK623.out 2;have hfz5_3:=blk_frozen BK623.out 3)|((with_reducible refine gate_callee (f:=94) rfl ?_);refine goesL_ (some 8) rfl rfl Try.func94 (by kernel_rfl) rfl #[.string a0_0,.string a1] rfl (by (try simp only [List.map_toArray,List.map_cons,List.map_nil]);first|done|rfl|(simp only [List.length_drop,List.length_take];rfl)) ?_;(with_reducible refine (cmp_Compare_string.calls a0_0 a1 t624 _ A3.out).mono ?_);rintro e w' ⟨rfl,⟨nd,rfl⟩⟩;refine ⟨_,rfl,?_⟩));go_ret;exact ⟨by first|rfl|(simp [errW_none,errW_some] <;> rfl)|(simp [*,errW_none,errW_some] <;> rfl),by repeat (first|(with_reducible first|exact HB.out|apply qA|apply qN|apply qD|refine qS ?_ GE623.out)|exact HB.out)⟩

/-! ### impl_Session_string: function 92 -/
def impl_Session_string.l0:Nat → List (S38) → ByteArray → Int → Int → Int → Option (Int × Bool)
 | 0,_,_,_,_,_=>none
 | k + 1,x0,x1,x8,x9,x10=>if x9 < x10 then (if 0 ≤ (wrap64 ((IntKind.u64.wrap (wrap64 (x9 + x10))) / 2)) then (if (wrap64 ((IntKind.u64.wrap (wrap64 (x9 + x10))) / 2)) < (x0.length:Int) then ((impl_sessionAtCmp.f ((rd_T38 x0 (wrap64 ((IntKind.u64.wrap (wrap64 (x9 + x10))) / 2))).f0) ((rd_T38 x0 (wrap64 ((IntKind.u64.wrap (wrap64 (x9 + x10))) / 2))).f1) ((rd_T38 x0 (wrap64 ((IntKind.u64.wrap (wrap64 (x9 + x10))) / 2))).f2) ((rd_T38 x0 (wrap64 ((IntKind.u64.wrap (wrap64 (x9 + x10))) / 2))).f3) x1).bind fun t626=>(if t626 < 0 then (impl_Session_string.l0 k x0 x1 x8 (wrap64 ((wrap64 ((IntKind.u64.wrap (wrap64 (x9 + x10))) / 2)) + 1)) x10) else (impl_Session_string.l0 k x0 x1 x8 x9 (wrap64 ((IntKind.u64.wrap (wrap64 (x9 + x10))) / 2))))) else (none)) else (none)) else (if x9 < x8 then (if 0 ≤ x9 then (if x9 < (x0.length:Int) then ((impl_sessionAtCmp.f ((rd_T38 x0 x9).f0) ((rd_T38 x0 x9).f1) ((rd_T38 x0 x9).f2) ((rd_T38 x0 x9).f3) x1).bind fun t628=>(some (x9,(t628 == 0)))) else (none)) else (none)) else (some (x9,false)))
def impl_Session_string.f (k:Nat) (l0:List (S38)) (a1:ByteArray):Option (Int × Bool):=impl_Session_string.l0 k l0 a1 (l0.length:Int) 0 (l0.length:Int)
theorem impl_Session_string.mono_l:∀ k,(∀ y0 y1 y2 y3 y4,LeO (impl_Session_string.l0 k y0 y1 y2 y3 y4) (impl_Session_string.l0 (k + 1) y0 y1 y2 y3 y4))
 | 0=>fun _ _ _ _ _ r h=>by simp [impl_Session_string.l0] at h
 | k + 1=>by
  have ih0:=impl_Session_string.mono_l k
  ·intro y0 y1 y2 y3 y4;unfold impl_Session_string.l0;repeat' first
   | (with_reducible exact ih0 _ _ _ _ _)
   | (with_reducible exact LeO.refl _)
   | (with_reducible exact LeO.none _)
   | (with_reducible refine LeO.ite ?_ ?_)
   | (with_reducible refine LeO.bind ?_ (fun _=>?_))
   | exact ih0 _ _ _ _ _
   | exact LeO.none _
   | refine LeO.ite ?_ ?_
   | refine LeO.bind ?_ (fun _=>?_)
theorem impl_Session_string.mono:∀ a0 a1 k,LeO (impl_Session_string.f k a0 a1) (impl_Session_string.f (k + 1) a0 a1):=by
 intro a0 a1 k;have ih0:=impl_Session_string.mono_l k;unfold impl_Session_string.f
 repeat' first
   | (with_reducible exact ih0 _ _ _ _ _)
   | (with_reducible exact LeO.refl _)
   | (with_reducible exact LeO.none _)
   | (with_reducible refine LeO.ite ?_ ?_)
   | (with_reducible refine LeO.bind ?_ (fun _=>?_))
   | exact ih0 _ _ _ _ _
   | exact LeO.none _
   | refine LeO.ite ?_ ?_
   | refine LeO.bind ?_ (fun _=>?_)
set_option maxHeartbeats 8000000 in
set_option maxRecDepth 100000 in
theorem impl_Session_string.calls (k:Nat) (A0:Option Addr) (c0:Nat) (l0:List (S38)) (a1:ByteArray) (r1:Int) (r2:Bool) (w:World) (hr0:Kd.C k38 w A0 l0.length l0) (hc0:l0.length ≤ c0) (h:impl_Session_string.f k l0 a1=some (r1,r2)) :
  Calls Try.prog 92 #[.slice A0 l0.length c0,.string a1,.func (.func 93) #[] #[]] w fun e w'=>e=.returned (.tuple #[.int .i64 r1,.bool r2])∧Below w.heap.size w w':=by
 have hu38:=Try.underlying38;have HR0:=Aside0.mk hr0;have HC0:=Aside0.mk hc0;clear hr0 hc0;have HB:=Aside0.mk (Below.refl w.heap.size w);have H:(impl_Session_string.l0 k l0 a1 (l0.length:Int) 0 (l0.length:Int))=some (r1,r2):=h;clear h;have H':=Aside0.mk H;clear H;go_enter Try.func92,Try.ntmps92;go_wp2;go_loopg [9,10] k (fun kq v9 v10 w'=>∃ (x9_1:Int) (x10_1:Int),v9=.int .i64 x9_1∧v10=.int .i64 x10_1∧Aside0 (impl_Session_string.l0 kq l0 a1 (l0.length:Int) x9_1 x10_1=some (r1,r2))∧Aside0 (kq ≤ k)∧Aside0 (Below w.heap.size w w'));case atStart=>exact ⟨(0),((l0.length:Int)),(by first|rfl|(simp;done)|(simp [*];done)),(by first|rfl|(simp;done)|(simp [*];done)),H',⟨Nat.le_refl _⟩,⟨by repeat (first|(with_reducible first|exact HB.out|apply qA|apply qN|apply qD)|exact HB.out)⟩⟩
 case round =>
  clear H';(try clear p2);obtain ⟨x9_1,x10_1,rfl,rfl,HA,HK1,HB⟩:=hrel;cases gk with
  | zero=>exact absurd HA.out (by simp [impl_Session_string.l0])
  | succ k1 =>
   have H:=HA.out;clear HA;simp only [impl_Session_string.l0] at H;by_cases c3:x9_1 < x10_1
   ·rw [if_pos c3] at H;have c3b0:decide (x9_1 < x10_1)=true:=decide_eq_true c3;clear c3;obtain ⟨ji4,hji4⟩:∃ j_:Int,(wrap64 ((IntKind.u64.wrap (wrap64 (x9_1 + x10_1))) / 2))=j_:=⟨_,rfl⟩;replace H:(if 0 ≤ (ji4) then (if (ji4) < (l0.length:Int) then ((impl_sessionAtCmp.f ((rd_T38 l0 (ji4)).f0) ((rd_T38 l0 (ji4)).f1) ((rd_T38 l0 (ji4)).f2) ((rd_T38 l0 (ji4)).f3) a1).bind fun t626=>(if t626 < 0 then (impl_Session_string.l0 k1 l0 a1 (l0.length:Int) (wrap64 ((ji4) + 1)) x10_1) else (impl_Session_string.l0 k1 l0 a1 (l0.length:Int) x9_1 ji4))) else (none)) else (none))=some (r1,r2):=(by first|(rw [hji4] at H;exact H)|(simp only [hji4] at H ⊢;exact H));have hji4w:(IntKind.i64.wrap ((IntKind.u64.wrap (wrap64 (x9_1 + x10_1))) / 2))=ji4:=(i64_w _).trans hji4;by_cases c5:0 ≤ (ji4)
    ·rw [if_pos c5] at H;have c5b0:decide (0 ≤ (ji4))=true:=decide_eq_true c5;clear c5;by_cases c6:(ji4) < (l0.length:Int)
     ·rw [if_pos c6] at H;have c6b0:decide ((ji4) < (l0.length:Int))=true:=decide_eq_true c6;clear c6;replace H:=Option.bind_eq_some_iff.mp H;obtain ⟨t626,A70,H⟩:=H;replace H:(if t626 < 0 then (impl_Session_string.l0 k1 l0 a1 (l0.length:Int) (wrap64 ((ji4) + 1)) x10_1) else (impl_Session_string.l0 k1 l0 a1 (l0.length:Int) x9_1 ji4))=some (r1,r2):=H;have A7:=Aside0.mk A70;clear A70;by_cases c8:t626 < 0
      ·rw [if_pos c8] at H;have c8b0:decide (t626 < 0)=true:=decide_eq_true c8;clear c8;have H':=Aside0.mk H;clear H;have p625:0 ≤ ((ji4):Int):=of_decide_eq_true (by first|(with_reducible assumption)|assumption);have q625:(ji4) < (l0.length:Int):=of_decide_eq_true (by first|(with_reducible assumption)|assumption);obtain ⟨ad625,e625,hx625_0,hx625_1,hx625_2,hx625_3⟩:=at_T38 HR0.out (ji4) p625 q625;cases e625
       replace hx625_0:=(HB.out.cell (World.block_lt_of_cell? w _ hx625_0)).trans hx625_0;replace hx625_1:=(HB.out.cell (World.block_lt_of_cell? w _ hx625_1)).trans hx625_1;replace hx625_2:=(HB.out.cell (World.block_lt_of_cell? w _ hx625_2)).trans hx625_2;replace hx625_3:=(HB.out.cell (World.block_lt_of_cell? w _ hx625_3)).trans hx625_3;replace p625:=eq_true p625;replace q625:=eq_true q625;go_wp2_with (first|((with_reducible refine gate_dyn rfl ?_);refine goesV_ (some 30) rfl rfl Try.func93 (by kernel_rfl) rfl #[.agg #[.string ((rd_T38 l0 (ji4)).f0),.bool ((rd_T38 l0 (ji4)).f1),.int .i64 ((rd_T38 l0 (ji4)).f2),.string ((rd_T38 l0 (ji4)).f3)],.string a1] rfl (by (try simp only [List.map_toArray,List.map_cons,List.map_nil]);first|done|(simp only [hji4];rfl)|rfl|(simp only [List.length_drop,List.length_take];rfl)) ?_;(with_reducible refine (impl_sessionAtCmp.calls ((rd_T38 l0 (ji4)).f0) ((rd_T38 l0 (ji4)).f1) ((rd_T38 l0 (ji4)).f2) ((rd_T38 l0 (ji4)).f3) a1 t626 _ A7.out).mono ?_);rintro e w9 ⟨rfl,hb⟩;refine ⟨_,rfl,?_⟩;have n0_:=Aside0.mk (below_step (by repeat (first|(with_reducible first|exact HB.out|apply qA|apply qN|apply qD)|exact HB.out)) hb);clear HB;have HB:=n0_;clear n0_;(try clear hb);(try clear hb2);(try clear hk);(try clear hi)));go_roundg k1;case measure=>have:=HK1.out;omega
       case rel=>exact ⟨(wrap64 ((ji4) + 1)),(x10_1),(by first|rfl|(simp;done)|(simp only [← hji4] <;> (first|rfl|simp))|(simp [*];done)),(by first|rfl|(simp;done)|(simp [*];done)),H',⟨by have:=HK1.out;omega⟩,⟨by repeat (first|(with_reducible first|exact HB.out|apply qA|apply qN|apply qD)|exact HB.out)⟩⟩
      ·rw [if_neg c8] at H;have c8b0:decide (t626 < 0)=false:=decide_eq_false c8;clear c8;have H':=Aside0.mk H;clear H;have p625:0 ≤ ((ji4):Int):=of_decide_eq_true (by first|(with_reducible assumption)|assumption);have q625:(ji4) < (l0.length:Int):=of_decide_eq_true (by first|(with_reducible assumption)|assumption);obtain ⟨ad625,e625,hx625_0,hx625_1,hx625_2,hx625_3⟩:=at_T38 HR0.out (ji4) p625 q625;cases e625
       replace hx625_0:=(HB.out.cell (World.block_lt_of_cell? w _ hx625_0)).trans hx625_0;replace hx625_1:=(HB.out.cell (World.block_lt_of_cell? w _ hx625_1)).trans hx625_1;replace hx625_2:=(HB.out.cell (World.block_lt_of_cell? w _ hx625_2)).trans hx625_2;replace hx625_3:=(HB.out.cell (World.block_lt_of_cell? w _ hx625_3)).trans hx625_3;replace p625:=eq_true p625;replace q625:=eq_true q625;go_wp2_with (first|((with_reducible refine gate_dyn rfl ?_);refine goesV_ (some 30) rfl rfl Try.func93 (by kernel_rfl) rfl #[.agg #[.string ((rd_T38 l0 (ji4)).f0),.bool ((rd_T38 l0 (ji4)).f1),.int .i64 ((rd_T38 l0 (ji4)).f2),.string ((rd_T38 l0 (ji4)).f3)],.string a1] rfl (by (try simp only [List.map_toArray,List.map_cons,List.map_nil]);first|done|(simp only [hji4];rfl)|rfl|(simp only [List.length_drop,List.length_take];rfl)) ?_;(with_reducible refine (impl_sessionAtCmp.calls ((rd_T38 l0 (ji4)).f0) ((rd_T38 l0 (ji4)).f1) ((rd_T38 l0 (ji4)).f2) ((rd_T38 l0 (ji4)).f3) a1 t626 _ A7.out).mono ?_);rintro e w10 ⟨rfl,hb⟩;refine ⟨_,rfl,?_⟩;have n0_:=Aside0.mk (below_step (by repeat (first|(with_reducible first|exact HB.out|apply qA|apply qN|apply qD)|exact HB.out)) hb);clear HB;have HB:=n0_;clear n0_;(try clear hb);(try clear hb2);(try clear hk);(try clear hi)));go_roundg k1;case measure=>have:=HK1.out;omega
       case rel=>exact ⟨(x9_1),(ji4),(by first|rfl|(simp;done)|(simp [*];done)),(by first|rfl|(simp;done)|(simp only [← hji4] <;> (first|rfl|simp))|(simp [*];done)),H',⟨by have:=HK1.out;omega⟩,⟨by repeat (first|(with_reducible first|exact HB.out|apply qA|apply qN|apply qD)|exact HB.out)⟩⟩
     ·rw [if_neg c6] at H;exact absurd H (by simp)
    ·rw [if_neg c5] at H;exact absurd H (by simp)
   ·rw [if_neg c3] at H;have c3b0:decide (x9_1 < x10_1)=false:=decide_eq_false c3;clear c3;by_cases c11:x9_1 < (l0.length:Int)
    ·rw [if_pos c11] at H;have c11b0:decide (x9_1 < (l0.length:Int))=true:=decide_eq_true c11;clear c11;by_cases c12:0 ≤ x9_1
     ·rw [if_pos c12] at H;have c12b0:decide (0 ≤ x9_1)=true:=decide_eq_true c12;clear c12;by_cases c13:x9_1 < (l0.length:Int)
      ·rw [if_pos c13] at H;have c13b0:decide (x9_1 < (l0.length:Int))=true:=decide_eq_true c13;clear c13;replace H:=Option.bind_eq_some_iff.mp H;obtain ⟨t628,A140,H⟩:=H;replace H:(some (x9_1,(t628 == 0)))=some (r1,r2):=H;have A14:=Aside0.mk A140;clear A140;simp only [Option.some.injEq,Prod.mk.injEq] at H;obtain ⟨rfl,rfl⟩:=H;have p627:0 ≤ (x9_1:Int):=of_decide_eq_true (by first|(with_reducible assumption)|assumption);have q627:x9_1 < (l0.length:Int):=of_decide_eq_true (by first|(with_reducible assumption)|assumption);obtain ⟨ad627,e627,hx627_0,hx627_1,hx627_2,hx627_3⟩:=at_T38 HR0.out x9_1 p627 q627;cases e627
       replace hx627_0:=(HB.out.cell (World.block_lt_of_cell? w _ hx627_0)).trans hx627_0;replace hx627_1:=(HB.out.cell (World.block_lt_of_cell? w _ hx627_1)).trans hx627_1;replace hx627_2:=(HB.out.cell (World.block_lt_of_cell? w _ hx627_2)).trans hx627_2;replace hx627_3:=(HB.out.cell (World.block_lt_of_cell? w _ hx627_3)).trans hx627_3;replace p627:=eq_true p627;replace q627:=eq_true q627;go_wp2_with (first|(go_at_call 93;(with_reducible refine (impl_sessionAtCmp.calls ((rd_T38 l0 x9_1).f0) ((rd_T38 l0 x9_1).f1) ((rd_T38 l0 x9_1).f2) ((rd_T38 l0 x9_1).f3) a1 t628 _ A14.out).mono ?_);rintro e w15 ⟨rfl,hb⟩;have n0_:=Aside0.mk (below_step (by repeat (first|(with_reducible first|exact HB.out|apply qA|apply qN|apply qD)|exact HB.out)) hb);clear HB;have HB:=n0_;clear n0_;(try clear hb);(try clear hb2);(try clear hk);(try clear hi)));go_ret2;exact ⟨by first|rfl|(simp [errW_none,errW_some] <;> rfl)|(simp [*,errW_none,errW_some] <;> rfl),by repeat (first|(with_reducible first|exact HB.out|apply qA|apply qN|apply qD)|exact HB.out)⟩
      ·rw [if_neg c13] at H;exact absurd H (by simp)
     ·rw [if_neg c12] at H;exact absurd H (by simp)
    ·rw [if_neg c11] at H;have c11b0:decide (x9_1 < (l0.length:Int))=false:=decide_eq_false c11;clear c11;simp only [Option.some.injEq,Prod.mk.injEq] at H;obtain ⟨rfl,rfl⟩:=H;go_wp2;go_ret2;exact ⟨by first|rfl|(simp [errW_none,errW_some] <;> rfl)|(simp [*,errW_none,errW_some] <;> rfl),by repeat (first|(with_reducible first|exact HB.out|apply qA|apply qN|apply qD)|exact HB.out)⟩

/-! ### impl_sessionAt: function 73 -/
def impl_sessionAt.f (k:Nat) (l0:List (S38)) (a1:ByteArray):Option (Int × Bool):=(impl_Session_string.f k l0 a1).bind fun bt629=>(some (bt629.1,bt629.2))
theorem impl_sessionAt.mono:∀ a0 a1 k,LeO (impl_sessionAt.f k a0 a1) (impl_sessionAt.f (k + 1) a0 a1):=by
 intro a0 a1 k;unfold impl_sessionAt.f
 repeat' first
   | (with_reducible exact impl_Session_string.mono _ _ _)
   | (with_reducible exact LeO.refl _)
   | (with_reducible exact LeO.none _)
   | (with_reducible refine LeO.ite ?_ ?_)
   | (with_reducible refine LeO.bind ?_ (fun _=>?_))
   | exact impl_Session_string.mono _ _ _
   | exact LeO.none _
   | refine LeO.ite ?_ ?_
   | refine LeO.bind ?_ (fun _=>?_)
set_option maxHeartbeats 8000000 in
set_option maxRecDepth 100000 in
theorem impl_sessionAt.calls (k:Nat) (A0:Option Addr) (c0:Nat) (l0:List (S38)) (a1:ByteArray) (r1:Int) (r2:Bool) (w:World) (hr0:Kd.C k38 w A0 l0.length l0) (hc0:l0.length ≤ c0) (h:impl_sessionAt.f k l0 a1=some (r1,r2)) :
  Calls Try.prog 73 #[.slice A0 l0.length c0,.string a1] w fun e w'=>e=.returned (.tuple #[.int .i64 r1,.bool r2])∧Below w.heap.size w w':=by
 have HR0:=Aside0.mk hr0;have HC0:=Aside0.mk hc0;clear hr0 hc0;have HB:=Aside0.mk (Below.refl w.heap.size w);have H:((impl_Session_string.f k l0 a1).bind fun bt629=>(some (bt629.1,bt629.2)))=some (r1,r2):=h;clear h;replace H:=Option.bind_eq_some_iff.mp H;obtain ⟨⟨t629,t630⟩,A30,H⟩:=H;replace H:(some (t629,t630))=some (r1,r2):=H;have A3:=Aside0.mk A30;clear A30;simp only [Option.some.injEq,Prod.mk.injEq] at H;obtain ⟨rfl,rfl⟩:=H;go_enter Try.func73,Try.ntmps73;go_wp2_with (first|((with_reducible refine gate_callee (f:=92) rfl ?_);refine goesL_ (some 8) rfl rfl Try.func92 (by kernel_rfl) rfl #[.slice A0 l0.length c0,.string a1,.func (.func 93) #[] #[]] rfl (by (try simp only [List.map_toArray,List.map_cons,List.map_nil]);first|done|rfl|(simp only [List.length_drop,List.length_take];rfl)) ?_;(with_reducible refine (impl_Session_string.calls k _ _ l0 a1 t629 t630 _ ?side1 ?side2 A3.out).mono ?_);(case side1=>repeat (first|exact HR0.out|(with_reducible refine Kd.C_alloc ?_ _)|(with_reducible refine Kd.C_drewN ?_ _)|(with_reducible refine Kd.C_drew ?_)));(case side2=>exact HC0.out);rintro e w4 ⟨rfl,hb⟩;refine ⟨_,rfl,?_⟩;have n0_:=Aside0.mk (below_step (by repeat (first|(with_reducible first|exact HB.out|apply qA|apply qN|apply qD)|exact HB.out)) hb);clear HB;have HB:=n0_;clear n0_;(try clear hb);(try clear hb2);(try clear hk);(try clear hi)));go_ret2;exact ⟨by first|rfl|(simp [errW_none,errW_some] <;> rfl)|(simp [*,errW_none,errW_some] <;> rfl),by repeat (first|(with_reducible first|exact HB.out|apply qA|apply qN|apply qD)|exact HB.out)⟩

/-! ### impl_long: function 76 -/
def impl_long.l0:Nat → List ByteArray → Int → Int → Option (Bool)
 | 0,_,_,_=>none
 | k + 1,x5,x6,x7=>if x7 < x6 then (if 0 ≤ x7 then (if x7 < (x5.length:Int) then (if ((rdOf ByteArray.empty x5 x7).size:Int) > 20000 then (some true) else (impl_long.l0 k x5 x6 (wrap64 (x7 + 1)))) else (none)) else (none)) else (some false)
def impl_long.f (k:Nat) (l0:List ByteArray):Option (Bool):=impl_long.l0 k l0 (l0.length:Int) 0
theorem impl_long.mono_l:∀ k,(∀ y0 y1 y2,LeO (impl_long.l0 k y0 y1 y2) (impl_long.l0 (k + 1) y0 y1 y2))
 | 0=>fun _ _ _ r h=>by simp [impl_long.l0] at h
 | k + 1=>by
  have ih0:=impl_long.mono_l k
  ·intro y0 y1 y2;unfold impl_long.l0;repeat' first
   | (with_reducible exact ih0 _ _ _)
   | (with_reducible exact LeO.refl _)
   | (with_reducible exact LeO.none _)
   | (with_reducible refine LeO.ite ?_ ?_)
   | (with_reducible refine LeO.bind ?_ (fun _=>?_))
   | exact ih0 _ _ _
   | exact LeO.none _
   | refine LeO.ite ?_ ?_
   | refine LeO.bind ?_ (fun _=>?_)
theorem impl_long.mono:∀ a0 k,LeO (impl_long.f k a0) (impl_long.f (k + 1) a0):=by
 intro a0 k;have ih0:=impl_long.mono_l k;unfold impl_long.f
 repeat' first
   | (with_reducible exact ih0 _ _ _)
   | (with_reducible exact LeO.refl _)
   | (with_reducible exact LeO.none _)
   | (with_reducible refine LeO.ite ?_ ?_)
   | (with_reducible refine LeO.bind ?_ (fun _=>?_))
   | exact ih0 _ _ _
   | exact LeO.none _
   | refine LeO.ite ?_ ?_
   | refine LeO.bind ?_ (fun _=>?_)
set_option maxHeartbeats 8000000 in
set_option maxRecDepth 100000 in
theorem impl_long.calls (k:Nat) (A0:Option Addr) (c0:Nat) (l0:List ByteArray) (r:Bool) (w:World) (hr0:Kd.C Kd.string w A0 l0.length l0) (hc0:l0.length ≤ c0) (h:impl_long.f k l0=some r) :
  Calls Try.prog 76 #[.slice A0 l0.length c0] w fun e w'=>e=.returned (.bool r)∧Drawn0 w w':=by
 have HR0:=Aside0.mk hr0;have HC0:=Aside0.mk hc0;clear hr0 hc0;have H:(impl_long.l0 k l0 (l0.length:Int) 0)=some r:=h;clear h;have H':=Aside0.mk H;clear H;go_enter Try.func76,Try.ntmps76;go_wp2;go_loopg [7] k (fun kq v7 w'=>∃ (x7_1:Int),v7=.int .i64 x7_1∧Aside0 (impl_long.l0 kq l0 (l0.length:Int) x7_1=some r)∧Aside0 (kq ≤ k)∧Drawn0 w w');case atStart=>exact ⟨(0),(by first|rfl|(simp;done)|(simp [*];done)),H',⟨Nat.le_refl _⟩,by repeat (first|exact Drawn0.refl _|apply Drawn0.step)⟩
 case round =>
  clear H';obtain ⟨x7_1,rfl,HA,HK1,⟨m1,rfl⟩⟩:=hrel;cases gk with
  | zero=>exact absurd HA.out (by simp [impl_long.l0])
  | succ k1 =>
   have H:=HA.out;clear HA;simp only [impl_long.l0] at H;by_cases c2:x7_1 < (l0.length:Int)
   ·rw [if_pos c2] at H;have c2b0:decide (x7_1 < (l0.length:Int))=true:=decide_eq_true c2;clear c2;by_cases c3:0 ≤ x7_1
    ·rw [if_pos c3] at H;have c3b0:decide (0 ≤ x7_1)=true:=decide_eq_true c3;clear c3;by_cases c4:x7_1 < (l0.length:Int)
     ·rw [if_pos c4] at H;have c4b0:decide (x7_1 < (l0.length:Int))=true:=decide_eq_true c4;clear c4;by_cases c5:((rdOf ByteArray.empty l0 x7_1).size:Int) > 20000
      ·rw [if_pos c5] at H;have c5b0:decide (20000 < ((rdOf ByteArray.empty l0 x7_1).size:Int))=true:=decide_eq_true c5;have c5b1:decide (20000 < (rdOf ByteArray.empty l0 x7_1).size)=true:=decide_eq_true (by omega);clear c5;obtain rfl:=Option.some.inj H;have p631:0 ≤ (x7_1:Int):=of_decide_eq_true (by first|(with_reducible assumption)|assumption);have q631:x7_1 < (l0.length:Int):=of_decide_eq_true (by first|(with_reducible assumption)|assumption);obtain ⟨ad631,e631,hx631_0⟩:=Kd.at_string HR0.out x7_1 p631 q631;cases e631
       replace p631:=eq_true p631;replace q631:=eq_true q631;go_wp2;go_ret;exact ⟨by first|rfl|(simp;done)|(simp [*];done),by repeat (first|exact Drawn0.refl _|apply Drawn0.step)⟩
      ·rw [if_neg c5] at H;have c5b0:decide (20000 < ((rdOf ByteArray.empty l0 x7_1).size:Int))=false:=decide_eq_false c5;have c5b1:decide (20000 < (rdOf ByteArray.empty l0 x7_1).size)=false:=decide_eq_false (by omega);clear c5;have H':=Aside0.mk H;clear H;have p631:0 ≤ (x7_1:Int):=of_decide_eq_true (by first|(with_reducible assumption)|assumption);have q631:x7_1 < (l0.length:Int):=of_decide_eq_true (by first|(with_reducible assumption)|assumption);obtain ⟨ad631,e631,hx631_0⟩:=Kd.at_string HR0.out x7_1 p631 q631;cases e631
       replace p631:=eq_true p631;replace q631:=eq_true q631;go_wp2;go_roundg k1;case measure=>have:=HK1.out;omega
       case rel=>exact ⟨(wrap64 (x7_1 + 1)),(by first|rfl|(simp;done)|(simp [*];done)),H',⟨by have:=HK1.out;omega⟩,by repeat (first|exact Drawn0.refl _|apply Drawn0.step)⟩
     ·rw [if_neg c4] at H;exact absurd H (by simp)
    ·rw [if_neg c3] at H;exact absurd H (by simp)
   ·rw [if_neg c2] at H;have c2b0:decide (x7_1 < (l0.length:Int))=false:=decide_eq_false c2;clear c2;obtain rfl:=Option.some.inj H;go_wp2;go_ret;exact ⟨by first|rfl|(simp;done)|(simp [*];done),by repeat (first|exact Drawn0.refl _|apply Drawn0.step)⟩

/-! ### impl_sessionFault: function 69 -/
def impl_sessionFault.j0:Nat → List (S38) → Bool → Bool → Option (Int)
 | 0,_,_,_=>none
 | k + 1,x0,x6,x13=>if x13=true then (some 2) else ((impl_SessionsRight.f k x0).bind fun t638=>(if t638=true then (if x6=true then (some 0) else (some 6)) else (some 1)))
def impl_sessionFault.f (k:Nat) (l0:List (S38)) (a1:ByteArray):Option (Int):=(impl_sessionAt.f k l0 a1).bind fun bt632=>((impl_long.f k (([a1]:List ByteArray))).bind fun t637=>(if t637=true then (impl_sessionFault.j0 k l0 bt632.2 true) else (impl_sessionFault.j0 k l0 bt632.2 (decide ((l0.length:Int) > 400)))))
theorem impl_sessionFault.mono_l:∀ k,(∀ y0 y1 y2,LeO (impl_sessionFault.j0 k y0 y1 y2) (impl_sessionFault.j0 (k + 1) y0 y1 y2))
 | 0=>fun _ _ _ r h=>by simp [impl_sessionFault.j0] at h
 | k + 1=>by
  have ih0:=impl_sessionFault.mono_l k
  ·intro y0 y1 y2;unfold impl_sessionFault.j0;repeat' first
   | (with_reducible exact ih0 _ _ _)
   | (with_reducible exact impl_SessionsRight.mono _ _)
   | (with_reducible exact impl_long.mono _ _)
   | (with_reducible exact impl_sessionAt.mono _ _ _)
   | (with_reducible exact LeO.refl _)
   | (with_reducible exact LeO.none _)
   | (with_reducible refine LeO.ite ?_ ?_)
   | (with_reducible refine LeO.bind ?_ (fun _=>?_))
   | exact ih0 _ _ _
   | exact impl_SessionsRight.mono _ _
   | exact impl_long.mono _ _
   | exact impl_sessionAt.mono _ _ _
   | exact LeO.none _
   | refine LeO.ite ?_ ?_
   | refine LeO.bind ?_ (fun _=>?_)
theorem impl_sessionFault.mono:∀ a0 a1 k,LeO (impl_sessionFault.f k a0 a1) (impl_sessionFault.f (k + 1) a0 a1):=by
 intro a0 a1 k;have ih0:=impl_sessionFault.mono_l k;unfold impl_sessionFault.f
 repeat' first
   | (with_reducible exact ih0 _ _ _)
   | (with_reducible exact impl_SessionsRight.mono _ _)
   | (with_reducible exact impl_long.mono _ _)
   | (with_reducible exact impl_sessionAt.mono _ _ _)
   | (with_reducible exact LeO.refl _)
   | (with_reducible exact LeO.none _)
   | (with_reducible refine LeO.ite ?_ ?_)
   | (with_reducible refine LeO.bind ?_ (fun _=>?_))
   | exact ih0 _ _ _
   | exact impl_SessionsRight.mono _ _
   | exact impl_long.mono _ _
   | exact impl_sessionAt.mono _ _ _
   | exact LeO.none _
   | refine LeO.ite ?_ ?_
   | refine LeO.bind ?_ (fun _=>?_)
set_option maxHeartbeats 8000000 in
set_option maxRecDepth 100000 in
theorem impl_sessionFault.calls (k:Nat) (A0:Option Addr) (c0:Nat) (l0:List (S38)) (a1:ByteArray) (r:Int) (w:World) (hr0:Kd.C k38 w A0 l0.length l0) (hc0:l0.length ≤ c0) (h:impl_sessionFault.f k l0 a1=some r) :
  Calls Try.prog 69 #[.slice A0 l0.length c0,.string a1] w fun e w'=>e=.returned (.int .i64 r)∧Below w.heap.size w w':=by
 have HR0:=Aside0.mk hr0;have HC0:=Aside0.mk hc0;clear hr0 hc0;have HB:=Aside0.mk (Below.refl w.heap.size w);have H:((impl_sessionAt.f k l0 a1).bind fun bt632=>((impl_long.f k (([a1]:List ByteArray))).bind fun t637=>(if t637=true then (impl_sessionFault.j0 k l0 bt632.2 true) else (impl_sessionFault.j0 k l0 bt632.2 (decide ((l0.length:Int) > 400))))))=some r:=h;clear h;replace H:=Option.bind_eq_some_iff.mp H;obtain ⟨⟨t632,t633⟩,A30,H⟩:=H;replace H:((impl_long.f k (([a1]:List ByteArray))).bind fun t637=>(if t637=true then (impl_sessionFault.j0 k l0 t633 true) else (impl_sessionFault.j0 k l0 t633 (decide ((l0.length:Int) > 400)))))=some r:=H;have A3:=Aside0.mk A30;clear A30;have HC4:=Aside0.mk H;clear H;go_enter Try.func69,Try.ntmps69;go_upto_region 2 with (first|((with_reducible refine gate_callee (f:=73) rfl ?_);refine goesL_ (some 10) rfl rfl Try.func73 (by kernel_rfl) rfl #[.slice A0 l0.length c0,.string a1] rfl (by (try simp only [List.map_toArray,List.map_cons,List.map_nil]);first|done|rfl|(simp only [List.length_drop,List.length_take];rfl)) ?_;(with_reducible refine (impl_sessionAt.calls k _ _ l0 a1 t632 t633 _ ?side1 ?side2 A3.out).mono ?_);(case side1=>repeat (first|exact HR0.out|(with_reducible refine Kd.C_alloc ?_ _)|(with_reducible refine Kd.C_drewN ?_ _)|(with_reducible refine Kd.C_drew ?_)));(case side2=>exact HC0.out);rintro e w5 ⟨rfl,hb⟩;refine ⟨_,rfl,?_⟩;have n0_:=Aside0.mk (below_step (by repeat (first|(with_reducible first|exact HB.out|apply qA|apply qN|apply qD)|exact HB.out)) hb);clear HB;have HB:=n0_;clear n0_;(try clear hb);(try clear hb2);(try clear hk);(try clear hi)))
 (try simp only [Act.put,sA,sZ,sS]);go_cut [13] (fun v13 wc=>∃ (kq:Nat) (x13_3:Bool),v13=.bool x13_3∧Aside0 (impl_sessionFault.j0 kq l0 t633 x13_3=some r)∧Aside0 (kq ≤ k)∧Aside0 (Below w.heap.size w wc))
 case first =>
  have H:=HC4.out;clear HC4;obtain ⟨y634,hy634⟩:∃ y_:List ByteArray,y_=(([a1]:List ByteArray)):=⟨_,rfl⟩;replace H:((impl_long.f k y634).bind fun t637=>(if t637=true then (impl_sessionFault.j0 k l0 t633 true) else (impl_sessionFault.j0 k l0 t633 (decide ((l0.length:Int) > 400)))))=some r:=(by first|(rw [hy634];with_reducible exact H)|(have H2_:=(Option.bind_some _ _).symm.trans H;rw [hy634];with_reducible exact H2_)|(have H2_:=(Option.bind_some _ _).symm.trans H;with_reducible exact H2_)|with_reducible exact H|(rw [hy634];exact H)|exact H);have Ny634:=Aside0.mk hy634;clear hy634;replace H:=Option.bind_eq_some_iff.mp H;obtain ⟨t637,A60,H⟩:=H;replace H:(if t637=true then (impl_sessionFault.j0 k l0 t633 true) else (impl_sessionFault.j0 k l0 t633 (decide ((l0.length:Int) > 400))))=some r:=H;have A6:=Aside0.mk A60;clear A60;by_cases c7:t637=true
  ·subst c7;have H1:(impl_sessionFault.j0 k l0 t633 true)=some r:=(by rw [if_pos rfl] at H;exact H);clear H;have H:=H1;clear H1;have H':=Aside0.mk H;clear H;go_wp2_with (first|((with_reducible refine gate_dst (N:=15) rfl ?_);(try (refine gate_guard (by rfl) ?_;dsimp only));refine Kd.R_lit Kd.string _ 9 ?hg (N:=15) ?hd (xs:=([a1]:List ByteArray)) (inner:=[.string a1]) (ok:=fun _=>True) (okp:=fun _=>True) ?hr ?hp (fun _ hk=>hk) trivial (Below.refl _ _) (Nat.le_refl _) (by simp) ?_;(case hd=>rfl);(case hg=>rfl);(case hr=>go_simp;try rfl);(case hp=>exact (Reps.one (show Kd.M Kd.string _ _ _ a1 [.string a1] from rfl) (Reps.none _ _)));intro v635 w8 ho9 hb hg_ hnew_;clear hg_ hnew_;(first|rw [← Ny634.out] at ho9|(simp only [Int.reduceToNat] at ho9;rw [← Ny634.out] at ho9));have n0_:=Aside0.mk (Kd.R_lower ho9 (below_size (by repeat (first|(with_reducible first|exact HB.out|apply qA|apply qN|apply qD)|exact HB.out))));have n1_:=Aside0.mk (below_step (by repeat (first|(with_reducible first|exact HB.out|apply qA|apply qN|apply qD)|exact HB.out)) hb);clear HB;have HO636:=n0_;have HB:=n1_;clear n0_ n1_;clear hb ho9;obtain ⟨Ao10,co10,eo10⟩:=Kd.R_slice HO636.out;subst eo10)|((with_reducible refine gate_callee (f:=76) rfl ?_);refine goesL_ (some 16) rfl rfl Try.func76 (by kernel_rfl) rfl #[.slice Ao10 y634.length co10] rfl (by (try simp only [List.map_toArray,List.map_cons,List.map_nil]);first|done|rfl|(simp only [List.length_drop,List.length_take];rfl)) ?_;(with_reducible refine (impl_long.calls k _ _ y634 true _ ?side1 ?side2 A6.out).mono ?_);(case side1=>repeat (first|exact (Kd.R_reads' HO636.out).2.2|(with_reducible refine Kd.C_alloc ?_ _)|(with_reducible refine Kd.C_drewN ?_ _)|(with_reducible refine Kd.C_drew ?_)));(case side2=>exact (Kd.R_reads' HO636.out).2.1);rintro e w' ⟨rfl,⟨nd,rfl⟩⟩;refine ⟨_,rfl,?_⟩));go_meet;case rel=>exact ⟨_,(true),(by first|rfl|(simp;done)|(simp [*];done)),H',⟨by first|omega|exact Nat.le_refl _⟩,⟨by repeat (first|(with_reducible first|exact HB.out|apply qA|apply qN|apply qD)|exact HB.out)⟩⟩
  ·replace c7:=Bool.eq_false_iff.mpr c7;subst c7;have H1:(impl_sessionFault.j0 k l0 t633 (decide ((l0.length:Int) > 400)))=some r:=(by rw [if_neg (show ¬ (false=true) by decide)] at H;exact H);clear H;have H:=H1;clear H1;have H':=Aside0.mk H;clear H;go_wp2_with (first|((with_reducible refine gate_dst (N:=15) rfl ?_);(try (refine gate_guard (by rfl) ?_;dsimp only));refine Kd.R_lit Kd.string _ 9 ?hg (N:=15) ?hd (xs:=([a1]:List ByteArray)) (inner:=[.string a1]) (ok:=fun _=>True) (okp:=fun _=>True) ?hr ?hp (fun _ hk=>hk) trivial (Below.refl _ _) (Nat.le_refl _) (by simp) ?_;(case hd=>rfl);(case hg=>rfl);(case hr=>go_simp;try rfl);(case hp=>exact (Reps.one (show Kd.M Kd.string _ _ _ a1 [.string a1] from rfl) (Reps.none _ _)));intro v635 w11 ho12 hb hg_ hnew_;clear hg_ hnew_;(first|rw [← Ny634.out] at ho12|(simp only [Int.reduceToNat] at ho12;rw [← Ny634.out] at ho12));have n0_:=Aside0.mk (Kd.R_lower ho12 (below_size (by repeat (first|(with_reducible first|exact HB.out|apply qA|apply qN|apply qD)|exact HB.out))));have n1_:=Aside0.mk (below_step (by repeat (first|(with_reducible first|exact HB.out|apply qA|apply qN|apply qD)|exact HB.out)) hb);clear HB;have HO636:=n0_;have HB:=n1_;clear n0_ n1_;clear hb ho12;obtain ⟨Ao13,co13,eo13⟩:=Kd.R_slice HO636.out;subst eo13)|((with_reducible refine gate_callee (f:=76) rfl ?_);refine goesL_ (some 16) rfl rfl Try.func76 (by kernel_rfl) rfl #[.slice Ao13 y634.length co13] rfl (by (try simp only [List.map_toArray,List.map_cons,List.map_nil]);first|done|rfl|(simp only [List.length_drop,List.length_take];rfl)) ?_;(with_reducible refine (impl_long.calls k _ _ y634 false _ ?side1 ?side2 A6.out).mono ?_);(case side1=>repeat (first|exact (Kd.R_reads' HO636.out).2.2|(with_reducible refine Kd.C_alloc ?_ _)|(with_reducible refine Kd.C_drewN ?_ _)|(with_reducible refine Kd.C_drew ?_)));(case side2=>exact (Kd.R_reads' HO636.out).2.1);rintro e w' ⟨rfl,⟨nd,rfl⟩⟩;refine ⟨_,rfl,?_⟩));go_meet;case rel=>exact ⟨_,(decide ((l0.length:Int) > 400)),(by first|rfl|(simp;done)|(simp [*];done)),H',⟨by first|omega|exact Nat.le_refl _⟩,⟨by repeat (first|(with_reducible first|exact HB.out|apply qA|apply qN|apply qD)|exact HB.out)⟩⟩
 case rest =>
  clear HC4;(try clear p2);(try clear c6);(try clear c7);obtain ⟨kq,x13_3,rfl,HA,HJ3,HB⟩:=hcut;cases kq with
  | zero=>exact absurd HA.out (by simp [impl_sessionFault.j0])
  | succ kj3 =>
   have H:=HA.out;clear HA;simp only [impl_sessionFault.j0] at H;by_cases c14:x13_3=true
   ·subst c14;have H1:(some 2)=some r:=(by rw [if_pos rfl] at H;exact H);clear H;have H:=H1;clear H1;obtain rfl:=Option.some.inj H;go_wp2;go_ret;exact ⟨by first|rfl|(simp [errW_none,errW_some] <;> rfl)|(simp [*,errW_none,errW_some] <;> rfl),by repeat (first|(with_reducible first|exact HB.out|apply qA|apply qN|apply qD)|exact HB.out)⟩
   ·replace c14:=Bool.eq_false_iff.mpr c14;subst c14;have H1:((impl_SessionsRight.f kj3 l0).bind fun t638=>(if t638=true then (if t633=true then (some 0) else (some 6)) else (some 1)))=some r:=(by rw [if_neg (show ¬ (false=true) by decide)] at H;exact H);clear H;have H:=H1;clear H1;replace H:=Option.bind_eq_some_iff.mp H;obtain ⟨t638,A150,H⟩:=H;replace H:(if t638=true then (if t633=true then (some 0) else (some 6)) else (some 1))=some r:=H;have A15:=Aside0.mk A150;clear A150;by_cases c16:t638=true
    ·subst c16;have H1:(if t633=true then (some 0) else (some 6))=some r:=(by rw [if_pos rfl] at H;exact H);clear H;have H:=H1;clear H1;by_cases c17:t633=true
     ·subst c17;have H1:(some 0)=some r:=(by rw [if_pos rfl] at H;exact H);clear H;have H:=H1;clear H1;obtain rfl:=Option.some.inj H;go_wp2_with (first|((with_reducible refine gate_callee (f:=16) rfl ?_);refine goesL_ (some 24) rfl rfl Try.func16 (by kernel_rfl) rfl #[.slice A0 l0.length c0] rfl (by (try simp only [List.map_toArray,List.map_cons,List.map_nil]);first|done|rfl|(simp only [List.length_drop,List.length_take];rfl)) ?_;(with_reducible refine (impl_SessionsRight.calls kj3 _ _ l0 true _ ?side1 ?side2 A15.out).mono ?_);(case side1=>repeat (first|exact (Kd.C_below HR0.out HB.out)|(with_reducible refine Kd.C_alloc ?_ _)|(with_reducible refine Kd.C_drewN ?_ _)|(with_reducible refine Kd.C_drew ?_)));(case side2=>exact HC0.out);rintro e w18 ⟨rfl,hb⟩;refine ⟨_,rfl,?_⟩;have n0_:=Aside0.mk (below_step (by repeat (first|(with_reducible first|exact HB.out|apply qA|apply qN|apply qD)|exact HB.out)) hb);clear HB;have HB:=n0_;clear n0_;(try clear hb);(try clear hb2);(try clear hk);(try clear hi)));go_ret;exact ⟨by first|rfl|(simp [errW_none,errW_some] <;> rfl)|(simp [*,errW_none,errW_some] <;> rfl),by repeat (first|(with_reducible first|exact HB.out|apply qA|apply qN|apply qD)|exact HB.out)⟩
     ·replace c17:=Bool.eq_false_iff.mpr c17;subst c17;have H1:(some 6)=some r:=(by rw [if_neg (show ¬ (false=true) by decide)] at H;exact H);clear H;have H:=H1;clear H1;obtain rfl:=Option.some.inj H;go_wp2_with (first|((with_reducible refine gate_callee (f:=16) rfl ?_);refine goesL_ (some 24) rfl rfl Try.func16 (by kernel_rfl) rfl #[.slice A0 l0.length c0] rfl (by (try simp only [List.map_toArray,List.map_cons,List.map_nil]);first|done|rfl|(simp only [List.length_drop,List.length_take];rfl)) ?_;(with_reducible refine (impl_SessionsRight.calls kj3 _ _ l0 true _ ?side1 ?side2 A15.out).mono ?_);(case side1=>repeat (first|exact (Kd.C_below HR0.out HB.out)|(with_reducible refine Kd.C_alloc ?_ _)|(with_reducible refine Kd.C_drewN ?_ _)|(with_reducible refine Kd.C_drew ?_)));(case side2=>exact HC0.out);rintro e w19 ⟨rfl,hb⟩;refine ⟨_,rfl,?_⟩;have n0_:=Aside0.mk (below_step (by repeat (first|(with_reducible first|exact HB.out|apply qA|apply qN|apply qD)|exact HB.out)) hb);clear HB;have HB:=n0_;clear n0_;(try clear hb);(try clear hb2);(try clear hk);(try clear hi)));go_ret;exact ⟨by first|rfl|(simp [errW_none,errW_some] <;> rfl)|(simp [*,errW_none,errW_some] <;> rfl),by repeat (first|(with_reducible first|exact HB.out|apply qA|apply qN|apply qD)|exact HB.out)⟩
    ·replace c16:=Bool.eq_false_iff.mpr c16;subst c16;have H1:(some 1)=some r:=(by rw [if_neg (show ¬ (false=true) by decide)] at H;exact H);clear H;have H:=H1;clear H1;obtain rfl:=Option.some.inj H;go_wp2_with (first|((with_reducible refine gate_callee (f:=16) rfl ?_);refine goesL_ (some 24) rfl rfl Try.func16 (by kernel_rfl) rfl #[.slice A0 l0.length c0] rfl (by (try simp only [List.map_toArray,List.map_cons,List.map_nil]);first|done|rfl|(simp only [List.length_drop,List.length_take];rfl)) ?_;(with_reducible refine (impl_SessionsRight.calls kj3 _ _ l0 false _ ?side1 ?side2 A15.out).mono ?_);(case side1=>repeat (first|exact (Kd.C_below HR0.out HB.out)|(with_reducible refine Kd.C_alloc ?_ _)|(with_reducible refine Kd.C_drewN ?_ _)|(with_reducible refine Kd.C_drew ?_)));(case side2=>exact HC0.out);rintro e w20 ⟨rfl,hb⟩;refine ⟨_,rfl,?_⟩;have n0_:=Aside0.mk (below_step (by repeat (first|(with_reducible first|exact HB.out|apply qA|apply qN|apply qD)|exact HB.out)) hb);clear HB;have HB:=n0_;clear n0_;(try clear hb);(try clear hb2);(try clear hk);(try clear hi)));go_ret;exact ⟨by first|rfl|(simp [errW_none,errW_some] <;> rfl)|(simp [*,errW_none,errW_some] <;> rfl),by repeat (first|(with_reducible first|exact HB.out|apply qA|apply qN|apply qD)|exact HB.out)⟩

end Go.Proofs.Ythmajmkgeapfnaa.A
