/- Plain Lean functions for Go functions of the seat, and that a call of each Go function comes to what its plain function says; conditions: its slices read as the lists named. Written by a program of this session with the kit's print.py. -/
import Derived.Test.YthmajmkgeapfnaaAx0
import Derived.Test.YthmajmkgeapfnaaF53
namespace Go.Proofs.Ythmajmkgeapfnaa.A
open Go.RowKit Go.Proofs.YthmajmkgeapfnaaW.PrintWords Go.Proofs.YthmajmkgeapfnaaW.PrintLast Go.Proofs.YthmajmkgeapfnaaW.PrintMore
attribute [local go_sem] isSome_setCell str_geq str_gtr max2_int min2_int max_two min_two max_three min_three max_four min_four   -- for this text's walks alone
set_option linter.unusedVariables false
set_option linter.unusedSimpArgs false

/-! ### spec_l09Show: function 52 -/
def spec_l09Show.f (k:Nat) (a0:ByteArray):Option (Bool):=(spec_l04In.f k (([(⟨#[]⟩:ByteArray),(⟨#[97,119,97,121]⟩:ByteArray),(⟨#[99,104,97,116]⟩:ByteArray),(⟨#[100,110,100]⟩:ByteArray),(⟨#[120,97]⟩:ByteArray)]:List ByteArray)) a0).bind fun t109=>(some t109)
theorem spec_l09Show.mono:∀ a0 k,LeO (spec_l09Show.f k a0) (spec_l09Show.f (k + 1) a0):=by
 intro a0 k;unfold spec_l09Show.f
 repeat' first
   | (with_reducible exact spec_l04In.mono _ _ _)
   | (with_reducible exact LeO.refl _)
   | (with_reducible exact LeO.none _)
   | (with_reducible refine LeO.ite ?_ ?_)
   | (with_reducible refine LeO.bind ?_ (fun _=>?_))
   | exact spec_l04In.mono _ _ _
   | exact LeO.none _
   | refine LeO.ite ?_ ?_
   | refine LeO.bind ?_ (fun _=>?_)
set_option maxHeartbeats 8000000 in
set_option maxRecDepth 100000 in
theorem spec_l09Show.calls (k:Nat) (a0:ByteArray) (r:Bool) (w:World) (h:spec_l09Show.f k a0=some r) :
  Calls Try.prog 52 #[.string a0] w fun e w'=>e=.returned (.bool r)∧Below w.heap.size w w':=by
 have HB:=Aside0.mk (Below.refl w.heap.size w);have H:((spec_l04In.f k (([(⟨#[]⟩:ByteArray),(⟨#[97,119,97,121]⟩:ByteArray),(⟨#[99,104,97,116]⟩:ByteArray),(⟨#[100,110,100]⟩:ByteArray),(⟨#[120,97]⟩:ByteArray)]:List ByteArray)) a0).bind fun t109=>(some t109))=some r:=h;clear h;obtain ⟨y106,hy106⟩:∃ y_:List ByteArray,y_=(([(⟨#[]⟩:ByteArray),(⟨#[97,119,97,121]⟩:ByteArray),(⟨#[99,104,97,116]⟩:ByteArray),(⟨#[100,110,100]⟩:ByteArray),(⟨#[120,97]⟩:ByteArray)]:List ByteArray)):=⟨_,rfl⟩;replace H:((spec_l04In.f k y106 a0).bind fun t109=>(some t109))=some r:=(by first|(rw [hy106];with_reducible exact H)|(have H2_:=(Option.bind_some _ _).symm.trans H;rw [hy106];with_reducible exact H2_)|(have H2_:=(Option.bind_some _ _).symm.trans H;with_reducible exact H2_)|with_reducible exact H|(rw [hy106];exact H)|exact H);have Ny106:=Aside0.mk hy106;clear hy106;replace H:=Option.bind_eq_some_iff.mp H;obtain ⟨t109,A20,H⟩:=H;replace H:(some t109)=some r:=H;have A2:=Aside0.mk A20;clear A20;obtain rfl:=Option.some.inj H;go_enter Try.func52,Try.ntmps52;go_wp2_with (first|((with_reducible refine gate_dst (N:=3) rfl ?_);refine Kd.R_lit Kd.string _ 9 ?hg (N:=3) ?hd (xs:=([(⟨#[]⟩:ByteArray),(⟨#[97,119,97,121]⟩:ByteArray),(⟨#[99,104,97,116]⟩:ByteArray),(⟨#[100,110,100]⟩:ByteArray),(⟨#[120,97]⟩:ByteArray)]:List ByteArray)) (inner:=[.string (⟨#[]⟩:ByteArray),.string (⟨#[97,119,97,121]⟩:ByteArray),.string (⟨#[99,104,97,116]⟩:ByteArray),.string (⟨#[100,110,100]⟩:ByteArray),.string (⟨#[120,97]⟩:ByteArray)]) (ok:=fun _=>True) (okp:=fun _=>True) ?hr ?hp (fun _ hk=>hk) trivial (Below.refl _ _) (Nat.le_refl _) (by simp) ?_;(case hd=>rfl);(case hg=>rfl);(case hr=>go_simp;try rfl);(case hp=>exact (Reps.one (show Kd.M Kd.string _ _ _ (⟨#[]⟩:ByteArray) [.string (⟨#[]⟩:ByteArray)] from rfl) (Reps.one (show Kd.M Kd.string _ _ _ (⟨#[97,119,97,121]⟩:ByteArray) [.string (⟨#[97,119,97,121]⟩:ByteArray)] from rfl) (Reps.one (show Kd.M Kd.string _ _ _ (⟨#[99,104,97,116]⟩:ByteArray) [.string (⟨#[99,104,97,116]⟩:ByteArray)] from rfl) (Reps.one (show Kd.M Kd.string _ _ _ (⟨#[100,110,100]⟩:ByteArray) [.string (⟨#[100,110,100]⟩:ByteArray)] from rfl) (Reps.one (show Kd.M Kd.string _ _ _ (⟨#[120,97]⟩:ByteArray) [.string (⟨#[120,97]⟩:ByteArray)] from rfl) (Reps.none _ _)))))));intro v107 w3 ho4 hb hg_ hnew_;clear hg_ hnew_;(first|rw [← Ny106.out] at ho4|(simp only [Int.reduceToNat] at ho4;rw [← Ny106.out] at ho4));have n0_:=Aside0.mk (Kd.R_lower ho4 (below_size (by repeat (first|(with_reducible first|exact HB.out|apply qA|apply qN|apply qD)|exact HB.out))));have n1_:=Aside0.mk (below_step (by repeat (first|(with_reducible first|exact HB.out|apply qA|apply qN|apply qD)|exact HB.out)) hb);clear HB;have HO108:=n0_;have HB:=n1_;clear n0_ n1_;clear hb ho4;obtain ⟨Ao5,co5,eo5⟩:=Kd.R_slice HO108.out;subst eo5)|((with_reducible refine gate_callee (f:=83) rfl ?_);refine goesL_ (some 5) rfl rfl Try.func83 (by kernel_rfl) rfl #[.slice Ao5 y106.length co5,.string a0] rfl (by (try simp only [List.map_toArray,List.map_cons,List.map_nil]);first|done|rfl|(simp only [List.length_drop,List.length_take];rfl)) ?_;(with_reducible refine (spec_l04In.calls k _ _ y106 a0 t109 _ ?side1 ?side2 A2.out).mono ?_);(case side1=>repeat (first|exact (Kd.R_reads' HO108.out).2.2|(with_reducible refine Kd.C_alloc ?_ _)|(with_reducible refine Kd.C_drewN ?_ _)|(with_reducible refine Kd.C_drew ?_)));(case side2=>exact (Kd.R_reads' HO108.out).2.1);rintro e w' ⟨rfl,⟨nd,rfl⟩⟩;refine ⟨_,rfl,?_⟩));go_ret;exact ⟨by first|rfl|(simp [errW_none,errW_some] <;> rfl)|(simp [*,errW_none,errW_some] <;> rfl),by repeat (first|(with_reducible first|exact HB.out|apply qA|apply qN|apply qD)|exact HB.out)⟩

/-! ### spec_l03Is: function 51 -/
def spec_l03Is.f (a0:Int) (a1:Int) (a2:Int):Option (Bool):=if a0 ≥ a1 then (some (decide (a0 ≤ a2))) else (some false)
set_option maxHeartbeats 8000000 in
set_option maxRecDepth 100000 in
theorem spec_l03Is.calls (a0:Int) (a1:Int) (a2:Int) (r:Bool) (w:World) (h:spec_l03Is.f a0 a1 a2=some r) :
  Calls Try.prog 51 #[.int .i64 a0,.int .i64 a1,.int .i64 a2] w fun e w'=>e=.returned (.bool r)∧Drawn0 w w':=by
 have H:(if a0 ≥ a1 then (some (decide (a0 ≤ a2))) else (some false))=some r:=h;clear h;by_cases c4:a0 ≥ a1
 ·rw [if_pos c4] at H;have c4b0:decide (a1 ≤ a0)=true:=decide_eq_true c4;clear c4;obtain rfl:=Option.some.inj H;go_enter Try.func51,Try.ntmps51;go_wp2;go_ret;exact ⟨by first|rfl|(simp;done)|(simp [*];done),by repeat (first|exact Drawn0.refl _|apply Drawn0.step)⟩
 ·rw [if_neg c4] at H;have c4b0:decide (a1 ≤ a0)=false:=decide_eq_false c4;clear c4;obtain rfl:=Option.some.inj H;go_enter Try.func51,Try.ntmps51;go_wp2;go_ret;exact ⟨by first|rfl|(simp;done)|(simp [*];done),by repeat (first|exact Drawn0.refl _|apply Drawn0.step)⟩

end Go.Proofs.Ythmajmkgeapfnaa.A
