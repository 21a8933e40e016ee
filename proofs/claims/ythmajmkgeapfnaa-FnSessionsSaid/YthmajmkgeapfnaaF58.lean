/- Plain Lean functions for Go functions of the seat, and that a call of each Go function comes to what its plain function says; conditions: its slices read as the lists named. Written by a program of this session with the kit's print.py. -/
import Derived.Lib.SliceRun
import Derived.Test.YthmajmkgeapfnaaAx0
import Derived.Test.YthmajmkgeapfnaaF61
import Derived.Test.YthmajmkgeapfnaaF75
namespace Go.Proofs.Ythmajmkgeapfnaa.A
open Go.RowKit Go.Proofs.YthmajmkgeapfnaaW.PrintWords Go.Proofs.YthmajmkgeapfnaaW.PrintLast Go.Proofs.YthmajmkgeapfnaaW.PrintMore
attribute [local go_sem] isSome_setCell str_geq str_gtr max2_int min2_int max_two min_two max_three min_three max_four min_four   -- for this text's walks alone
set_option linter.unusedVariables false
set_option linter.unusedSimpArgs false

/-! ### impl_on: function 58 -/
def impl_on.f (k:Nat) (l0:List (S38)):Option ((List (S38))):=(impl_Session_75.f l0).bind fun t188=>((impl_Session_61.f k t188).bind fun t191=>(some t191))
theorem impl_on.mono:∀ a0 k,LeO (impl_on.f k a0) (impl_on.f (k + 1) a0):=by
 intro a0 k;unfold impl_on.f
 repeat' first | (with_reducible first | exact impl_Session_61.mono _ _ | exact LeO.refl _ | exact LeO.none _ | refine LeO.ite ?_ ?_ | refine LeO.bind ?_ (fun _=>?_)) | exact LeO.none _ | refine LeO.ite ?_ ?_ | refine LeO.bind ?_ (fun _=>?_)
set_option maxHeartbeats 8000000 in
set_option maxRecDepth 100000 in
theorem impl_on.calls (k:Nat) (A0:Option Addr) (c0:Nat) (l0:List (S38)) (r:List (S38)) (w:World) (hr0:Kd.C k38 w A0 l0.length l0) (hc0:l0.length ≤ c0) (h:impl_on.f k l0=some r) :
  Calls Try.prog 58 #[.slice A0 l0.length c0] w fun e w'=>∃ v0_:Value,e=.returned (v0_)∧Kd.R k38 38 w' w.heap.size (fun _=>True) v0_ r∧Below w.heap.size w w':=by
 have HR0:=Aside0.mk hr0;have HC0:=Aside0.mk hc0;clear hr0 hc0;have HB:=Aside0.mk (Below.refl w.heap.size w);have H:((impl_Session_75.f l0).bind fun t188=>((impl_Session_61.f k t188).bind fun t191=>(some t191)))=some r:=h;clear h;replace H:=bS H;obtain ⟨t188,A20,H⟩:=H;replace H:((impl_Session_61.f k t188).bind fun t191=>(some t191))=some r:=H;have A2:=Aside0.mk A20;clear A20;replace H:=bS H;obtain ⟨t191,A30,H⟩:=H;replace H:(some t191)=some r:=H;have A3:=Aside0.mk A30;clear A30;obtain rfl:=Option.some.inj H;go_enter Try.func58,Try.ntmps58;go_wp2_with (first|((with_reducible refine gC 75 rfl ?_);refine gL 4 Try.func75 #[.slice A0 l0.length c0] ?_;(with_reducible refine (impl_Session_75.calls _ _ l0 t188 _ ?side1 ?side2 A2.1).mono ?_);(case side1=>repeat (first|exact HR0.1|(with_reducible refine Kd.C_alloc ?_ _)|(with_reducible refine Kd.C_drewN ?_ _)|(with_reducible refine Kd.C_drew ?_)));(case side2=>exact HC0.1);rintro e w4 ⟨v189,rfl,ho0,hb⟩;refine ⟨_,rfl,?_⟩;have HO190:=Aside0.mk (Kd.R_lower ho0 (zB HB));replace HB:=tB HB hb;(try clear hb);(try clear hb2);(try clear hk);(try clear hi);(try clear ho0);obtain ⟨Ao5,co5,eo5⟩:=Kd.R_slice HO190.1;subst eo5)|((with_reducible refine gC 61 rfl ?_);refine gL 5 Try.func61 #[.slice Ao5 t188.length co5,.func (.func 87) #[] #[]] ?_;(with_reducible refine (impl_Session_61.calls k (fun k_=>some k_=(.slice Ao5 t188.length co5:Value).ownBlock) (.slice Ao5 t188.length co5) t188 t191 w _ ?side1 ?side2 A3.1).mono ?_);(case side1=>repeat (first|(with_reducible first|exact HB.1|apply qA|apply qN|apply qD)|exact HB.1));(case side2=>exact Kd.R_tight rfl HO190.1);rintro e w6 ⟨v192,rfl,ho0,hb,hkp⟩;refine ⟨_,rfl,?_⟩;have HO193:=Aside0.mk (Kd.R_mono (ok':=fun k_=>True) ho0 (fun k_ hk_=>trivial));replace HB:=Aside0.mk (hb);clear HO190;(try clear hb);(try clear hkp);(try clear ho0)));go_ret;exact ⟨_,by first|rfl|(simp [errW_none,errW_some] <;> rfl)|(simp [*,errW_none,errW_some] <;> rfl),by (with_reducible repeat (first|apply rA|apply rN|apply rD));exact HO193.1,by repeat (first|(with_reducible first|exact HB.1|apply qA|apply qN|apply qD)|exact HB.1)⟩

end Go.Proofs.Ythmajmkgeapfnaa.A
