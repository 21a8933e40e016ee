/- Plain Lean functions for Go functions of the seat, and that a call of each Go function comes to what its plain function says; conditions: its slices read as the lists named. Written by a program of this session with the kit's print.py. -/
import Derived.Test.YthmajmkgeapfnaaAx0
namespace Go.Proofs.Ythmajmkgeapfnaa.A
open Go.RowKit Go.Proofs.YthmajmkgeapfnaaW.PrintWords Go.Proofs.YthmajmkgeapfnaaW.PrintLast Go.Proofs.YthmajmkgeapfnaaW.PrintMore
attribute [local go_sem] isSome_setCell str_geq str_gtr max2_int min2_int max_two min_two max_three min_three max_four min_four   -- for this text's walks alone
set_option linter.unusedVariables false
set_option linter.unusedSimpArgs false

/-! ### impl_onDel: function 87 -/
def impl_onDel.f (a0_0:ByteArray) (a0_1:Bool) (a0_2:Int) (a0_3:ByteArray):Option (Bool):=some (!a0_1)
set_option maxHeartbeats 8000000 in
set_option maxRecDepth 100000 in
theorem impl_onDel.calls (a0_0:ByteArray) (a0_1:Bool) (a0_2:Int) (a0_3:ByteArray) (r:Bool) (w:World) (h:impl_onDel.f a0_0 a0_1 a0_2 a0_3=some r) :
  Calls Try.prog 87 #[.agg #[.string a0_0,.bool a0_1,.int .i64 a0_2,.string a0_3]] w fun e w'=>e=.returned (.bool r)∧Below w.heap.size w w':=by
 have hu38:=Try.underlying38;have HB:=Aside0.mk (Below.refl w.heap.size w);have H:(some (!a0_1))=some r:=h;clear h;obtain rfl:=Option.some.inj H;go_enter Try.func87,Try.ntmps87;go_wp2_with (first|((with_reducible refine gate_dst (N:=1) rfl ?_);refine box_event ?hg (N:=1) ?hd (cs:=#[.string a0_0,.bool a0_1,.int .i64 a0_2,.string a0_3]) (t:=38) ?hr ?_;(case hd=>rfl);(case hg=>rfl);(case hr=>go_simp;try rfl);intro gb171 hg w2 hbox hb;have BK171:=Aside0.mk (hbox);have GW171:=gB HB hg;have GE171:=gB HB hg;replace HB:=tB HB hb;clear hb hbox hg;obtain ⟨hcz3_0,hcz3_1,hcz3_2,hcz3_3⟩:=c4_ BK171;obtain ⟨hfz3_0,hfz3_1,hfz3_2,hfz3_3⟩:=f4_ BK171));go_ret;exact ⟨by first|rfl|(simp [errW_none,errW_some] <;> rfl)|(simp [*,errW_none,errW_some] <;> rfl),by repeat (first|(with_reducible first|exact HB.1|apply qA|apply qN|apply qD|refine qS ?_ GE171.1)|exact HB.1)⟩

/-! ### impl_Session_88: function 88 -/
def impl_Session_88.l0:Nat → List (S38) → Int → Int → Option (Int)
 | 0,_,_,_=>none
 | k + 1,x0,x7,x8=>if x8 < x7 then (if 0 ≤ x8 then (if x8 < (x0.length:Int) then ((impl_onDel.f ((rd_T38 x0 x8).f0) ((rd_T38 x0 x8).f1) ((rd_T38 x0 x8).f2) ((rd_T38 x0 x8).f3)).bind fun t173=>(if t173=true then (some x8) else (impl_Session_88.l0 k x0 x7 (wrap64 (x8 + 1))))) else (none)) else (none)) else (some (-1))
def impl_Session_88.f (k:Nat) (l0:List (S38)):Option (Int):=impl_Session_88.l0 k l0 (l0.length:Int) 0
theorem impl_Session_88.mono_l:∀ k,(∀ y0 y1 y2,LeO (impl_Session_88.l0 k y0 y1 y2) (impl_Session_88.l0 (k + 1) y0 y1 y2))
 | 0=>fun _ _ _ r h=>by simp [impl_Session_88.l0] at h
 | k + 1=>by
  have ih0:=impl_Session_88.mono_l k
  ·intro y0 y1 y2;unfold impl_Session_88.l0;repeat' first | (with_reducible first | exact ih0 _ _ _ | exact LeO.refl _ | exact LeO.none _ | refine LeO.ite ?_ ?_ | refine LeO.bind ?_ (fun _=>?_)) | exact LeO.none _ | refine LeO.ite ?_ ?_ | refine LeO.bind ?_ (fun _=>?_)
theorem impl_Session_88.mono:∀ a0 k,LeO (impl_Session_88.f k a0) (impl_Session_88.f (k + 1) a0):=by
 intro a0 k;have ih0:=impl_Session_88.mono_l k;unfold impl_Session_88.f
 repeat' first | (with_reducible first | exact ih0 _ _ _ | exact LeO.refl _ | exact LeO.none _ | refine LeO.ite ?_ ?_ | refine LeO.bind ?_ (fun _=>?_)) | exact LeO.none _ | refine LeO.ite ?_ ?_ | refine LeO.bind ?_ (fun _=>?_)
set_option maxHeartbeats 8000000 in
set_option maxRecDepth 100000 in
theorem impl_Session_88.calls (k:Nat) (A0:Option Addr) (c0:Nat) (l0:List (S38)) (r:Int) (w:World) (hr0:Kd.C k38 w A0 l0.length l0) (hc0:l0.length ≤ c0) (h:impl_Session_88.f k l0=some r) :
  Calls Try.prog 88 #[.slice A0 l0.length c0,.func (.func 87) #[] #[]] w fun e w'=>e=.returned (.int .i64 r)∧Below w.heap.size w w':=by
 have hu38:=Try.underlying38;have HR0:=Aside0.mk hr0;have HC0:=Aside0.mk hc0;clear hr0 hc0;have HB:=Aside0.mk (Below.refl w.heap.size w);have H:(impl_Session_88.l0 k l0 (l0.length:Int) 0)=some r:=h;clear h;have H':=Aside0.mk H;clear H;go_enter Try.func88,Try.ntmps88;go_wp2;go_loopg [8] k (fun kq v8 w'=>∃ (x8_1:Int),v8=.int .i64 x8_1∧Aside0 (impl_Session_88.l0 kq l0 (l0.length:Int) x8_1=some r)∧Aside0 (kq ≤ k)∧Aside0 (Below w.heap.size w w'));case atStart=>exact ⟨(0),(by first|rfl|(simp;done)|(simp [*];done)),H',⟨Nat.le_refl _⟩,⟨by repeat (first|(with_reducible first|exact HB.1|apply qA|apply qN|apply qD)|exact HB.1)⟩⟩
 case round =>
  clear H';obtain ⟨x8_1,rfl,HA,HK1,HB⟩:=hrel;cases gk with
  | zero=>exact absurd HA.1 (by simp [impl_Session_88.l0])
  | succ k1 =>
   have H:=HA.1;clear HA;simp only [impl_Session_88.l0] at H;by_cases c2:x8_1 < (l0.length:Int)
   ·rw [if_pos c2] at H;have c2b0:decide (x8_1 < (l0.length:Int))=true:=decide_eq_true c2;clear c2;by_cases c3:0 ≤ x8_1
    ·rw [if_pos c3] at H;have c3b0:decide (0 ≤ x8_1)=true:=decide_eq_true c3;clear c3;by_cases c4:x8_1 < (l0.length:Int)
     ·rw [if_pos c4] at H;have c4b0:decide (x8_1 < (l0.length:Int))=true:=decide_eq_true c4;clear c4;replace H:=bS H;obtain ⟨t173,A50,H⟩:=H;replace H:(if t173=true then (some x8_1) else (impl_Session_88.l0 k1 l0 (l0.length:Int) (wrap64 (x8_1 + 1))))=some r:=H;have A5:=Aside0.mk A50;clear A50;by_cases c6:t173=true
      ·subst c6;have H1:(some x8_1)=some r:=(by rw [if_pos rfl] at H;exact H);clear H;have H:=H1;clear H1;obtain rfl:=Option.some.inj H;have p172:0 ≤ (x8_1:Int):=of_decide_eq_true (by first|(with_reducible assumption)|assumption);have q172:x8_1 < (l0.length:Int):=of_decide_eq_true (by first|(with_reducible assumption)|assumption);obtain ⟨ad172,e172,hx172_0,hx172_1,hx172_2,hx172_3⟩:=at_T38 HR0.1 x8_1 p172 q172;cases e172
       replace hx172_0:=(HB.1.cell (World.block_lt_of_cell? w _ hx172_0)).trans hx172_0;replace hx172_1:=(HB.1.cell (World.block_lt_of_cell? w _ hx172_1)).trans hx172_1;replace hx172_2:=(HB.1.cell (World.block_lt_of_cell? w _ hx172_2)).trans hx172_2;replace hx172_3:=(HB.1.cell (World.block_lt_of_cell? w _ hx172_3)).trans hx172_3;replace p172:=eq_true p172;replace q172:=eq_true q172;go_wp2_with (first|((with_reducible refine gate_dyn rfl ?_);refine goesV_ (some 16) rfl rfl Try.func87 (by kernel_rfl) rfl #[.agg #[.string ((rd_T38 l0 x8_1).f0),.bool ((rd_T38 l0 x8_1).f1),.int .i64 ((rd_T38 l0 x8_1).f2),.string ((rd_T38 l0 x8_1).f3)]] rfl (by (try simp only [List.map_toArray,List.map_cons,List.map_nil]);first|done|rfl|(simp only [List.length_drop,List.length_take];rfl)) ?_;(with_reducible refine (impl_onDel.calls ((rd_T38 l0 x8_1).f0) ((rd_T38 l0 x8_1).f1) ((rd_T38 l0 x8_1).f2) ((rd_T38 l0 x8_1).f3) true _ A5.1).mono ?_);rintro e w7 ⟨rfl,hb⟩;refine ⟨_,rfl,?_⟩;replace HB:=tB HB hb;(try clear hb);(try clear hb2);(try clear hk);(try clear hi)));go_ret;exact ⟨by first|rfl|(simp [errW_none,errW_some] <;> rfl)|(simp [*,errW_none,errW_some] <;> rfl),by repeat (first|(with_reducible first|exact HB.1|apply qA|apply qN|apply qD)|exact HB.1)⟩
      ·replace c6:=Bool.eq_false_iff.mpr c6;subst c6;have H1:(impl_Session_88.l0 k1 l0 (l0.length:Int) (wrap64 (x8_1 + 1)))=some r:=(by rw [if_neg (show ¬ (false=true) by decide)] at H;exact H);clear H;have H:=H1;clear H1;have H':=Aside0.mk H;clear H;have p172:0 ≤ (x8_1:Int):=of_decide_eq_true (by first|(with_reducible assumption)|assumption);have q172:x8_1 < (l0.length:Int):=of_decide_eq_true (by first|(with_reducible assumption)|assumption);obtain ⟨ad172,e172,hx172_0,hx172_1,hx172_2,hx172_3⟩:=at_T38 HR0.1 x8_1 p172 q172;cases e172
       replace hx172_0:=(HB.1.cell (World.block_lt_of_cell? w _ hx172_0)).trans hx172_0;replace hx172_1:=(HB.1.cell (World.block_lt_of_cell? w _ hx172_1)).trans hx172_1;replace hx172_2:=(HB.1.cell (World.block_lt_of_cell? w _ hx172_2)).trans hx172_2;replace hx172_3:=(HB.1.cell (World.block_lt_of_cell? w _ hx172_3)).trans hx172_3;replace p172:=eq_true p172;replace q172:=eq_true q172;go_wp2_with (first|((with_reducible refine gate_dyn rfl ?_);refine goesV_ (some 16) rfl rfl Try.func87 (by kernel_rfl) rfl #[.agg #[.string ((rd_T38 l0 x8_1).f0),.bool ((rd_T38 l0 x8_1).f1),.int .i64 ((rd_T38 l0 x8_1).f2),.string ((rd_T38 l0 x8_1).f3)]] rfl (by (try simp only [List.map_toArray,List.map_cons,List.map_nil]);first|done|rfl|(simp only [List.length_drop,List.length_take];rfl)) ?_;(with_reducible refine (impl_onDel.calls ((rd_T38 l0 x8_1).f0) ((rd_T38 l0 x8_1).f1) ((rd_T38 l0 x8_1).f2) ((rd_T38 l0 x8_1).f3) false _ A5.1).mono ?_);rintro e w8 ⟨rfl,hb⟩;refine ⟨_,rfl,?_⟩;replace HB:=tB HB hb;(try clear hb);(try clear hb2);(try clear hk);(try clear hi)));go_roundg k1;case measure=>have:=HK1.1;omega
       case rel=>exact ⟨(wrap64 (x8_1 + 1)),(by first|rfl|(simp;done)|(simp [*];done)),H',⟨by have:=HK1.1;omega⟩,⟨by repeat (first|(with_reducible first|exact HB.1|apply qA|apply qN|apply qD)|exact HB.1)⟩⟩
     ·rw [if_neg c4] at H;exact absurd H (by simp)
    ·rw [if_neg c3] at H;exact absurd H (by simp)
   ·rw [if_neg c2] at H;have c2b0:decide (x8_1 < (l0.length:Int))=false:=decide_eq_false c2;clear c2;obtain rfl:=Option.some.inj H;go_wp2;go_ret;exact ⟨by first|rfl|(simp [errW_none,errW_some] <;> rfl)|(simp [*,errW_none,errW_some] <;> rfl),by repeat (first|(with_reducible first|exact HB.1|apply qA|apply qN|apply qD)|exact HB.1)⟩

end Go.Proofs.Ythmajmkgeapfnaa.A
