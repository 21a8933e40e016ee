/- Part of the proof of FnLink (a drawn valid end of a link stays valid, frames are read back, nothing is sent before its time): plain functions and what calls come to. No conditions beyond those that each statement names. -/
import Derived.RegionTactic
import Derived.ChangeAlike
import Derived.Test.YtaaffhghpealjaaK6
namespace Go.Proofs.Ytaaffhghpealjaa.A
open Go.RowKit Go.Proofs.YtaaffhghpealjaaW.PrintWords Go.Proofs.YtaaffhghpealjaaW.PrintLast Go.Proofs.YtaaffhghpealjaaW.PrintMore
attribute [local go_sem] isSome_setCell max2_int min2_int max_two min_two max_three min_three max_four min_four
set_option linter.unusedVariables false
set_option linter.unusedSimpArgs false
theorem eqA38 (d : Nat) (w : World) (x0 y0 : Int) (x1 y1 : Int) (x2 y2 : ByteArray) :
    (Op.equalIn (d + 2) 38 (.agg #[.int .i64 x0, .int .i64 x1, .string x2]) (.agg #[.int .i64 y0, .int .i64 y1, .string y2])).run Try.prog w = .ok (x0 == y0 && (x1 == y1 && (x2.toList == y2.toList))) w := by
  refine eqA_of Try.underlying38 (by kernel_rfl) ?_
  refine eqf_cons (by rfl) (by go_simp; rfl) (by go_simp; rfl) (by go_simp) ?_
  refine eqf_cons (by rfl) (by go_simp; rfl) (by go_simp; rfl) (by go_simp) ?_
  exact eqf_last (by rfl) (by go_simp; rfl) (by go_simp; rfl) (by go_simp)
def spec_l01Src_n.f (s0_0:List Int) (s0_1:Int) (s0_2:Int) (s0_3:Int) (a1:Int):Option (Int × Int × Int × Int):=if a1 ≤ 1 then (some (0,s0_1,s0_2,s0_3)) else (if s0_1 < (s0_0.length:Int) then (if 0 ≤ s0_1 then (if (IntKind.u64.wrap (a1))=0 then (none) else (some (wrap64 (Int.tmod (IntKind.u64.wrap ((IntKind.u64.wrap (rd s0_0 s0_1)) + ((Go.bits .xor .u64 (Go.bits .xor .u64 (Go.bits .xor .u64 s0_2 (IntKind.u64.wrap (s0_2 * 8192))) ((Go.bits .xor .u64 s0_2 (IntKind.u64.wrap (s0_2 * 8192))) / 128)) (IntKind.u64.wrap ((Go.bits .xor .u64 (Go.bits .xor .u64 s0_2 (IntKind.u64.wrap (s0_2 * 8192))) ((Go.bits .xor .u64 s0_2 (IntKind.u64.wrap (s0_2 * 8192))) / 128)) * 131072))) / 1048576))) (IntKind.u64.wrap (a1))),wrap64 (s0_1 + 1),Go.bits .xor .u64 (Go.bits .xor .u64 (Go.bits .xor .u64 s0_2 (IntKind.u64.wrap (s0_2 * 8192))) ((Go.bits .xor .u64 s0_2 (IntKind.u64.wrap (s0_2 * 8192))) / 128)) (IntKind.u64.wrap ((Go.bits .xor .u64 (Go.bits .xor .u64 s0_2 (IntKind.u64.wrap (s0_2 * 8192))) ((Go.bits .xor .u64 s0_2 (IntKind.u64.wrap (s0_2 * 8192))) / 128)) * 131072)),s0_3))) else (none)) else (if (IntKind.u64.wrap (a1))=0 then (none) else (some (wrap64 (Int.tmod (IntKind.u64.wrap (0 + ((Go.bits .xor .u64 (Go.bits .xor .u64 (Go.bits .xor .u64 s0_2 (IntKind.u64.wrap (s0_2 * 8192))) ((Go.bits .xor .u64 s0_2 (IntKind.u64.wrap (s0_2 * 8192))) / 128)) (IntKind.u64.wrap ((Go.bits .xor .u64 (Go.bits .xor .u64 s0_2 (IntKind.u64.wrap (s0_2 * 8192))) ((Go.bits .xor .u64 s0_2 (IntKind.u64.wrap (s0_2 * 8192))) / 128)) * 131072))) / 1048576))) (IntKind.u64.wrap (a1))),s0_1,Go.bits .xor .u64 (Go.bits .xor .u64 (Go.bits .xor .u64 s0_2 (IntKind.u64.wrap (s0_2 * 8192))) ((Go.bits .xor .u64 s0_2 (IntKind.u64.wrap (s0_2 * 8192))) / 128)) (IntKind.u64.wrap ((Go.bits .xor .u64 (Go.bits .xor .u64 s0_2 (IntKind.u64.wrap (s0_2 * 8192))) ((Go.bits .xor .u64 s0_2 (IntKind.u64.wrap (s0_2 * 8192))) / 128)) * 131072)),s0_3))))
set_option maxHeartbeats 8000000 in
set_option maxRecDepth 100000 in
theorem spec_l01Src_n.calls (g:Nat) (s0_0:List Int) (s0_1:Int) (s0_2:Int) (s0_3:Int) (a1:Int) (r1:Int) (r2:Int) (r3:Int) (r4:Int) (w0 w:World) (hI:IsS110 w0 w g s0_0 s0_1 s0_2 s0_3) (hB:Below w0.heap.size w0 w) (h:spec_l01Src_n.f s0_0 s0_1 s0_2 s0_3 a1=some (r1,r2,r3,r4)) :
  Calls Try.prog 88 #[.pointer (some ⟨g,0,none⟩),.int .i64 a1] w fun e w'=>e=.returned (.int .i64 r1)∧IsS110 w0 w' g s0_0 r2 r3 r4∧Below w0.heap.size w0 w'∧KeepBut w w' g none:=by
 have HI0:=Aside0.mk hI;have HK:=Aside0.mk (KeepBut.refl w g none);have HL:=Aside0.mk hB.size;clear hI;have HW0:=Aside0.mk hB.size;have HB:=Aside0.mk hB;clear hB;have H:(if a1 ≤ 1 then (some (0,s0_1,s0_2,s0_3)) else (if s0_1 < (s0_0.length:Int) then (if 0 ≤ s0_1 then (if (IntKind.u64.wrap (a1))=0 then (none) else (some (wrap64 (Int.tmod (IntKind.u64.wrap ((IntKind.u64.wrap (rd s0_0 s0_1)) + ((Go.bits .xor .u64 (Go.bits .xor .u64 (Go.bits .xor .u64 s0_2 (IntKind.u64.wrap (s0_2 * 8192))) ((Go.bits .xor .u64 s0_2 (IntKind.u64.wrap (s0_2 * 8192))) / 128)) (IntKind.u64.wrap ((Go.bits .xor .u64 (Go.bits .xor .u64 s0_2 (IntKind.u64.wrap (s0_2 * 8192))) ((Go.bits .xor .u64 s0_2 (IntKind.u64.wrap (s0_2 * 8192))) / 128)) * 131072))) / 1048576))) (IntKind.u64.wrap (a1))),wrap64 (s0_1 + 1),Go.bits .xor .u64 (Go.bits .xor .u64 (Go.bits .xor .u64 s0_2 (IntKind.u64.wrap (s0_2 * 8192))) ((Go.bits .xor .u64 s0_2 (IntKind.u64.wrap (s0_2 * 8192))) / 128)) (IntKind.u64.wrap ((Go.bits .xor .u64 (Go.bits .xor .u64 s0_2 (IntKind.u64.wrap (s0_2 * 8192))) ((Go.bits .xor .u64 s0_2 (IntKind.u64.wrap (s0_2 * 8192))) / 128)) * 131072)),s0_3))) else (none)) else (if (IntKind.u64.wrap (a1))=0 then (none) else (some (wrap64 (Int.tmod (IntKind.u64.wrap (0 + ((Go.bits .xor .u64 (Go.bits .xor .u64 (Go.bits .xor .u64 s0_2 (IntKind.u64.wrap (s0_2 * 8192))) ((Go.bits .xor .u64 s0_2 (IntKind.u64.wrap (s0_2 * 8192))) / 128)) (IntKind.u64.wrap ((Go.bits .xor .u64 (Go.bits .xor .u64 s0_2 (IntKind.u64.wrap (s0_2 * 8192))) ((Go.bits .xor .u64 s0_2 (IntKind.u64.wrap (s0_2 * 8192))) / 128)) * 131072))) / 1048576))) (IntKind.u64.wrap (a1))),s0_1,Go.bits .xor .u64 (Go.bits .xor .u64 (Go.bits .xor .u64 s0_2 (IntKind.u64.wrap (s0_2 * 8192))) ((Go.bits .xor .u64 s0_2 (IntKind.u64.wrap (s0_2 * 8192))) / 128)) (IntKind.u64.wrap ((Go.bits .xor .u64 (Go.bits .xor .u64 s0_2 (IntKind.u64.wrap (s0_2 * 8192))) ((Go.bits .xor .u64 s0_2 (IntKind.u64.wrap (s0_2 * 8192))) / 128)) * 131072)),s0_3)))))=some (r1,r2,r3,r4):=h;clear h;by_cases c3:a1 ≤ 1
 ·rw [if_pos c3] at H;have c3b0:decide (a1 ≤ 1)=true:=decide_eq_true c3;clear c3;simp only [Option.some.injEq,Prod.mk.injEq] at H;obtain ⟨rfl,rfl,rfl,rfl⟩:=H;go_enter Try.func88,Try.ntmps88;go_wp2;go_ret;exact ⟨by first|rfl|(simp [errW_none,errW_some] <;> rfl)|(simp [*,errW_none,errW_some] <;> rfl),by repeat (first|(with_reducible first|exact HI0.1|apply IsS110.alloc|apply IsS110.drewN|apply IsS110.drew|apply IsS110.set_1|apply IsS110.set_2|apply IsS110.set_3)|exact HI0.1),by repeat (first|(with_reducible first|exact HB.1|apply qA|apply qN|apply qD|refine qS ?_ (IsS110.ge HI0.1))|exact HB.1),by repeat (first|(with_reducible first|exact HK.1|apply KeepBut.set_|apply uN|apply uD|apply uA)|exact HK.1)⟩
 ·rw [if_neg c3] at H;have c3b0:decide (a1 ≤ 1)=false:=decide_eq_false c3;clear c3;by_cases c4:s0_1 < (s0_0.length:Int)
  ·rw [if_pos c4] at H;have c4b0:decide (s0_1 < (s0_0.length:Int))=true:=decide_eq_true c4;clear c4;by_cases c5:0 ≤ s0_1
   ·rw [if_pos c5] at H;have c5b0:decide (0 ≤ s0_1)=true:=decide_eq_true c5;clear c5;by_cases c6:(IntKind.u64.wrap (a1))=0
    ·rw [if_pos c6] at H;exact absurd H (by simp)
    ·rw [if_neg c6] at H;have c6b0:((IntKind.u64.wrap (a1)) == 0)=false:=beq_eq_false_iff_ne.mpr c6;have c6b1:((IntKind.u64.wrap (a1)) != 0)=true:=bne_iff_ne.mpr c6;simp only [Option.some.injEq,Prod.mk.injEq] at H;obtain ⟨rfl,rfl,rfl,rfl⟩:=H;obtain ⟨ASz7_0,cSz7_0,HGz7,hgz7,HSz7_0⟩:=HI0.1;have hcz7_0:=cellS110_0 HGz7;have hcz7_1:=cellS110_1 HGz7;have hcz7_2:=cellS110_2 HGz7;have hcz7_3:=cellS110_3 HGz7;have hfz7_1:=blk_frozen HGz7 1;have hfz7_2:=blk_frozen HGz7 2;have hfz7_3:=blk_frozen HGz7 3;clear HGz7 hgz7;have p1003:0 ≤ (s0_1:Int):=of_decide_eq_true (by first|(with_reducible assumption)|assumption);have q1003:s0_1 < (s0_0.length:Int):=of_decide_eq_true (by first|(with_reducible assumption)|assumption);obtain ⟨ad1003,e1003,hx1003_0⟩:=Kd.at_int HSz7_0 s0_1 p1003 q1003;cases e1003
     replace hx1003_0:=pw_cell_below HB.1 hx1003_0;replace p1003:=eq_true p1003;replace q1003:=eq_true q1003;go_enter Try.func88,Try.ntmps88;go_wp2;go_quiet (fail);go_wp2;go_quiet (fail);go_wp2;go_region;go_wp2;go_region;go_wp2;go_region;go_wp2;go_ret;exact ⟨by first|rfl|(simp [errW_none,errW_some] <;> rfl)|(simp [*,errW_none,errW_some] <;> rfl),by repeat (first|(with_reducible first|exact HI0.1|apply IsS110.alloc|apply IsS110.drewN|apply IsS110.drew|apply IsS110.set_1|apply IsS110.set_2|apply IsS110.set_3)|exact HI0.1),by repeat (first|(with_reducible first|exact HB.1|apply qA|apply qN|apply qD|refine qS ?_ (IsS110.ge HI0.1))|exact HB.1),by repeat (first|(with_reducible first|exact HK.1|apply KeepBut.set_|apply uN|apply uD|apply uA)|exact HK.1)⟩
   ·rw [if_neg c5] at H;exact absurd H (by simp)
  ·rw [if_neg c4] at H;have c4b0:decide (s0_1 < (s0_0.length:Int))=false:=decide_eq_false c4;clear c4;by_cases c8:(IntKind.u64.wrap (a1))=0
   ·rw [if_pos c8] at H;exact absurd H (by simp)
   ·rw [if_neg c8] at H;have c8b0:((IntKind.u64.wrap (a1)) == 0)=false:=beq_eq_false_iff_ne.mpr c8;have c8b1:((IntKind.u64.wrap (a1)) != 0)=true:=bne_iff_ne.mpr c8;simp only [Option.some.injEq,Prod.mk.injEq] at H;obtain ⟨rfl,rfl,rfl,rfl⟩:=H;obtain ⟨ASz9_0,cSz9_0,HGz9,hgz9,HSz9_0⟩:=HI0.1;have hcz9_0:=cellS110_0 HGz9;have hcz9_1:=cellS110_1 HGz9;have hcz9_2:=cellS110_2 HGz9;have hcz9_3:=cellS110_3 HGz9;have hfz9_1:=blk_frozen HGz9 1;have hfz9_2:=blk_frozen HGz9 2;have hfz9_3:=blk_frozen HGz9 3;clear HGz9 hgz9;go_enter Try.func88,Try.ntmps88;go_wp2;go_quiet (fail);go_wp2;go_region;go_wp2;go_region;go_wp2;go_region;go_wp2;go_ret;exact ⟨by first|rfl|(simp [errW_none,errW_some] <;> rfl)|(simp [*,errW_none,errW_some] <;> rfl),by repeat (first|(with_reducible first|exact HI0.1|apply IsS110.alloc|apply IsS110.drewN|apply IsS110.drew|apply IsS110.set_1|apply IsS110.set_2|apply IsS110.set_3)|exact HI0.1),by repeat (first|(with_reducible first|exact HB.1|apply qA|apply qN|apply qD|refine qS ?_ (IsS110.ge HI0.1))|exact HB.1),by repeat (first|(with_reducible first|exact HK.1|apply KeepBut.set_|apply uN|apply uD|apply uA)|exact HK.1)⟩
def spec_l01Src_one.f (s0_0:List Int) (s0_1:Int) (s0_2:Int) (s0_3:Int) (a1:Int):Option (Bool × Int × Int × Int):=(spec_l01Src_n.f s0_0 s0_1 s0_2 s0_3 a1).bind fun bt1004=>(some ((bt1004.1 == 0),bt1004.2.1,bt1004.2.2.1,bt1004.2.2.2))
set_option maxHeartbeats 8000000 in
set_option maxRecDepth 100000 in
theorem spec_l01Src_one.calls (g:Nat) (s0_0:List Int) (s0_1:Int) (s0_2:Int) (s0_3:Int) (a1:Int) (r1:Bool) (r2:Int) (r3:Int) (r4:Int) (w0 w:World) (hI:IsS110 w0 w g s0_0 s0_1 s0_2 s0_3) (hB:Below w0.heap.size w0 w) (h:spec_l01Src_one.f s0_0 s0_1 s0_2 s0_3 a1=some (r1,r2,r3,r4)) :
  Calls Try.prog 87 #[.pointer (some ⟨g,0,none⟩),.int .i64 a1] w fun e w'=>e=.returned (.bool r1)∧IsS110 w0 w' g s0_0 r2 r3 r4∧Below w0.heap.size w0 w'∧KeepBut w w' g none:=by
 have HI0:=Aside0.mk hI;have HK:=Aside0.mk (KeepBut.refl w g none);have HL:=Aside0.mk hB.size;clear hI;have HW0:=Aside0.mk hB.size;have HB:=Aside0.mk hB;clear hB;have H:((spec_l01Src_n.f s0_0 s0_1 s0_2 s0_3 a1).bind fun bt1004=>(some ((bt1004.1 == 0),bt1004.2.1,bt1004.2.2.1,bt1004.2.2.2)))=some (r1,r2,r3,r4):=h;clear h;replace H:=bS H;obtain ⟨⟨t1004,t1005,t1006,t1007⟩,A30,H⟩:=H;replace H:(some ((t1004 == 0),t1005,t1006,t1007))=some (r1,r2,r3,r4):=H;have A3:=Aside0.mk A30;clear A30;simp only [Option.some.injEq,Prod.mk.injEq] at H;obtain ⟨rfl,rfl,rfl,rfl⟩:=H;go_enter Try.func87,Try.ntmps87;go_wp2_with (first|((with_reducible refine gC 88 rfl ?_);refine gL 7 Try.func88 #[.pointer (some ⟨g,0,none⟩),.int .i64 a1] ?_;(with_reducible refine (spec_l01Src_n.calls g s0_0 s0_1 s0_2 s0_3 a1 t1004 t1005 t1006 t1007 w0 _ ?side1 ?side2 A3.1).mono ?_);(case side1=>repeat (first|(with_reducible first|exact HI0.1|apply IsS110.alloc|apply IsS110.drewN|apply IsS110.drew|apply IsS110.set_1|apply IsS110.set_2|apply IsS110.set_3)|exact HI0.1));(case side2=>repeat (first|(with_reducible first|exact HB.1|apply qA|apply qN|apply qD|refine qS ?_ (IsS110.ge HI0.1))|exact HB.1));rintro e w4 ⟨rfl,hi,hb,hk⟩;refine ⟨_,rfl,?_⟩;replace HK:=Aside0.mk (KeepBut.trans (by repeat (first|(with_reducible first|exact HK.1|apply KeepBut.set_|apply uN|apply uD|apply uA)|exact HK.1)) hk (.inl rfl));replace HB:=Aside0.mk (hb);replace HI0:=Aside0.mk (hi);(try clear hb);(try clear hb2);(try clear hk);(try clear hi)));go_ret;exact ⟨by first|rfl|(simp [errW_none,errW_some] <;> rfl)|(simp [*,errW_none,errW_some] <;> rfl),by repeat (first|(with_reducible first|exact HI0.1|apply IsS110.alloc|apply IsS110.drewN|apply IsS110.drew|apply IsS110.set_1|apply IsS110.set_2|apply IsS110.set_3)|exact HI0.1),by repeat (first|(with_reducible first|exact HB.1|apply qA|apply qN|apply qD|refine qS ?_ (IsS110.ge HI0.1))|exact HB.1),by repeat (first|(with_reducible first|exact HK.1|apply KeepBut.set_|apply uN|apply uD|apply uA)|exact HK.1)⟩
def spec_l01Src_pick.f (s0_0:List Int) (s0_1:Int) (s0_2:Int) (s0_3:Int) (l1:List ByteArray):Option (ByteArray × Int × Int × Int):=(spec_l01Src_n.f s0_0 s0_1 s0_2 s0_3 (l1.length:Int)).bind fun bt1008=>(if 0 ≤ bt1008.1 then (if bt1008.1 < (l1.length:Int) then (some (rdOf ByteArray.empty l1 bt1008.1,bt1008.2.1,bt1008.2.2.1,bt1008.2.2.2)) else (none)) else (none))
set_option maxHeartbeats 8000000 in
set_option maxRecDepth 100000 in
theorem spec_l01Src_pick.calls (g:Nat) (s0_0:List Int) (s0_1:Int) (s0_2:Int) (s0_3:Int) (A1:Option Addr) (c1:Nat) (l1:List ByteArray) (r1:ByteArray) (r2:Int) (r3:Int) (r4:Int) (w0 w:World) (hI:IsS110 w0 w g s0_0 s0_1 s0_2 s0_3) (hB:Below w0.heap.size w0 w) (hr1:Kd.C Kd.string w A1 l1.length l1) (hc1:l1.length ≤ c1) (hf1:∀ ad,A1=some ad → 0 < l1.length → ad.block ≠ g) (h:spec_l01Src_pick.f s0_0 s0_1 s0_2 s0_3 l1=some (r1,r2,r3,r4)) :
  Calls Try.prog 95 #[.pointer (some ⟨g,0,none⟩),.slice A1 l1.length c1] w fun e w'=>e=.returned (.string r1)∧IsS110 w0 w' g s0_0 r2 r3 r4∧Below w0.heap.size w0 w'∧KeepBut w w' g none:=by
 have HR1:=Aside0.mk hr1;have HC1:=Aside0.mk hc1;clear hr1 hc1;have HI0:=Aside0.mk hI;have HK:=Aside0.mk (KeepBut.refl w g none);have HL:=Aside0.mk hB.size;clear hI;have HW0:=Aside0.mk hB.size;have HB:=Aside0.mk hB;clear hB;have H:((spec_l01Src_n.f s0_0 s0_1 s0_2 s0_3 (l1.length:Int)).bind fun bt1008=>(if 0 ≤ bt1008.1 then (if bt1008.1 < (l1.length:Int) then (some (rdOf ByteArray.empty l1 bt1008.1,bt1008.2.1,bt1008.2.2.1,bt1008.2.2.2)) else (none)) else (none)))=some (r1,r2,r3,r4):=h;clear h;replace H:=bS H;obtain ⟨⟨t1008,t1009,t1010,t1011⟩,A30,H⟩:=H;replace H:(if 0 ≤ t1008 then (if t1008 < (l1.length:Int) then (some (rdOf ByteArray.empty l1 t1008,t1009,t1010,t1011)) else (none)) else (none))=some (r1,r2,r3,r4):=H;have A3:=Aside0.mk A30;clear A30;by_cases c4:0 ≤ t1008
 ·rw [if_pos c4] at H;have c4b0:decide (0 ≤ t1008)=true:=decide_eq_true c4;clear c4;by_cases c5:t1008 < (l1.length:Int)
  ·rw [if_pos c5] at H;have c5b0:decide (t1008 < (l1.length:Int))=true:=decide_eq_true c5;clear c5;simp only [Option.some.injEq,Prod.mk.injEq] at H;obtain ⟨rfl,rfl,rfl,rfl⟩:=H;go_enter Try.func95,Try.ntmps95;go_wp2_with (first|((with_reducible refine gC 88 rfl ?_);refine gL 9 Try.func88 #[.pointer (some ⟨g,0,none⟩),.int .i64 (l1.length:Int)] ?_;(with_reducible refine (spec_l01Src_n.calls g s0_0 s0_1 s0_2 s0_3 (l1.length:Int) t1008 t1009 t1010 t1011 w0 _ ?side1 ?side2 A3.1).mono ?_);(case side1=>repeat (first|(with_reducible first|exact HI0.1|apply IsS110.alloc|apply IsS110.drewN|apply IsS110.drew|apply IsS110.set_1|apply IsS110.set_2|apply IsS110.set_3)|exact HI0.1));(case side2=>repeat (first|(with_reducible first|exact HB.1|apply qA|apply qN|apply qD|refine qS ?_ (IsS110.ge HI0.1))|exact HB.1));rintro e w6 ⟨rfl,hi,hb,hk⟩;refine ⟨_,rfl,?_⟩;replace HK:=Aside0.mk (KeepBut.trans (by repeat (first|(with_reducible first|exact HK.1|apply KeepBut.set_|apply uN|apply uD|apply uA)|exact HK.1)) hk (.inl rfl));replace HB:=Aside0.mk (hb);replace HI0:=Aside0.mk (hi);(try clear hb);(try clear hb2);(try clear hk);(try clear hi);have p1012:0 ≤ (t1008:Int):=of_decide_eq_true (by first|(with_reducible assumption)|assumption);have q1012:t1008 < (l1.length:Int):=of_decide_eq_true (by first|(with_reducible assumption)|assumption);obtain ⟨ad1012,e1012,hx1012_0⟩:=Kd.at_string HR1.1 t1008 p1012 q1012;cases e1012;replace hx1012_0:=keep_cell HK.1 hx1012_0 (by first|(rw [add_block];exact hf1 _ rfl (by omega))|exact hf1 _ rfl (by omega)|exact hf1 ad1012 rfl (by omega));replace p1012:=eq_true p1012;replace q1012:=eq_true q1012));go_ret;exact ⟨by first|rfl|(simp [errW_none,errW_some] <;> rfl)|(simp [*,errW_none,errW_some] <;> rfl),by repeat (first|(with_reducible first|exact HI0.1|apply IsS110.alloc|apply IsS110.drewN|apply IsS110.drew|apply IsS110.set_1|apply IsS110.set_2|apply IsS110.set_3)|exact HI0.1),by repeat (first|(with_reducible first|exact HB.1|apply qA|apply qN|apply qD|refine qS ?_ (IsS110.ge HI0.1))|exact HB.1),by repeat (first|(with_reducible first|exact HK.1|apply KeepBut.set_|apply uN|apply uD|apply uA)|exact HK.1)⟩
  ·rw [if_neg c5] at H;exact absurd H (by simp)
 ·rw [if_neg c4] at H;exact absurd H (by simp)
def spec_l01Max.f (a0:Int) (a1:Int):Option (Int):=if a0 > a1 then (some a0) else (some a1)
set_option maxHeartbeats 8000000 in
set_option maxRecDepth 100000 in
theorem spec_l01Max.calls (a0:Int) (a1:Int) (r:Int) (w:World) (h:spec_l01Max.f a0 a1=some r) :
  Calls Try.prog 90 #[.int .i64 a0,.int .i64 a1] w fun e w'=>e=.returned (.int .i64 r)∧Drawn0 w w':=by
 have H:(if a0 > a1 then (some a0) else (some a1))=some r:=h;clear h;by_cases c3:a0 > a1
 ·rw [if_pos c3] at H;have c3b0:decide (a1 < a0)=true:=decide_eq_true c3;clear c3;obtain rfl:=Option.some.inj H;go_enter Try.func90,Try.ntmps90;go_wp2;go_ret;exact ⟨by first|rfl|(simp;done)|(simp [*];done),by repeat (first|exact Drawn0.refl _|apply Drawn0.step)⟩
 ·rw [if_neg c3] at H;have c3b0:decide (a1 < a0)=false:=decide_eq_false c3;clear c3;obtain rfl:=Option.some.inj H;go_enter Try.func90,Try.ntmps90;go_wp2;go_ret;exact ⟨by first|rfl|(simp;done)|(simp [*];done),by repeat (first|exact Drawn0.refl _|apply Drawn0.step)⟩
def laws_lwLink.f (k:Nat) (a0_0:Int) (l0_1:List ByteArray) (a0_2:Int) (a0_3:Int) (a0_4:Int) (a1_0:Int) (l1_1:List ByteArray) (a1_2:Int) (a1_3:Int) (a1_4:Int):Option (Bool):=if a0_0=a1_0 then (if a0_2=a1_2 then (if a0_3=a1_3 then (if a0_4=a1_4 then ((laws_lwTexts.f k l0_1 l1_1).bind fun t1286=>(some t1286)) else (some false)) else (some false)) else (some false)) else (some false)
set_option maxHeartbeats 8000000 in
set_option maxRecDepth 100000 in
theorem laws_lwLink.calls (k:Nat) (a0_0:Int) (A0_1:Option Addr) (c0_1:Nat) (l0_1:List ByteArray) (a0_2:Int) (a0_3:Int) (a0_4:Int) (a1_0:Int) (A1_1:Option Addr) (c1_1:Nat) (l1_1:List ByteArray) (a1_2:Int) (a1_3:Int) (a1_4:Int) (r:Bool) (w:World) (hr0_1:Kd.C Kd.string w A0_1 l0_1.length l0_1) (hc0_1:l0_1.length ≤ c0_1) (hr1_1:Kd.C Kd.string w A1_1 l1_1.length l1_1) (hc1_1:l1_1.length ≤ c1_1) (h:laws_lwLink.f k a0_0 l0_1 a0_2 a0_3 a0_4 a1_0 l1_1 a1_2 a1_3 a1_4=some r) :
  Calls Try.prog 45 #[.agg #[.int .i64 a0_0,.slice A0_1 l0_1.length c0_1,.int .i64 a0_2,.int .i64 a0_3,.int .i64 a0_4],.agg #[.int .i64 a1_0,.slice A1_1 l1_1.length c1_1,.int .i64 a1_2,.int .i64 a1_3,.int .i64 a1_4]] w fun e w'=>e=.returned (.bool r)∧Below w.heap.size w w':=by
 have hu24:=Try.underlying24;have HR0_1:=Aside0.mk hr0_1;have HC0_1:=Aside0.mk hc0_1;clear hr0_1 hc0_1;have HR1_1:=Aside0.mk hr1_1;have HC1_1:=Aside0.mk hc1_1;clear hr1_1 hc1_1;have HB:=Aside0.mk (Below.refl w.heap.size w);have H:(if a0_0=a1_0 then (if a0_2=a1_2 then (if a0_3=a1_3 then (if a0_4=a1_4 then ((laws_lwTexts.f k l0_1 l1_1).bind fun t1286=>(some t1286)) else (some false)) else (some false)) else (some false)) else (some false))=some r:=h;clear h;by_cases c3:a0_0=a1_0
 ·rw [if_pos c3] at H;have c3b0:(a0_0 == a1_0)=true:=beq_iff_eq.mpr c3;have c3b1:(a0_0 != a1_0)=false:=bne_eq_false_iff_eq.mpr c3;clear c3;by_cases c4:a0_2=a1_2
  ·rw [if_pos c4] at H;have c4b0:(a0_2 == a1_2)=true:=beq_iff_eq.mpr c4;have c4b1:(a0_2 != a1_2)=false:=bne_eq_false_iff_eq.mpr c4;clear c4;by_cases c5:a0_3=a1_3
   ·rw [if_pos c5] at H;have c5b0:(a0_3 == a1_3)=true:=beq_iff_eq.mpr c5;have c5b1:(a0_3 != a1_3)=false:=bne_eq_false_iff_eq.mpr c5;clear c5;by_cases c6:a0_4=a1_4
    ·rw [if_pos c6] at H;have c6b0:(a0_4 == a1_4)=true:=beq_iff_eq.mpr c6;have c6b1:(a0_4 != a1_4)=false:=bne_eq_false_iff_eq.mpr c6;clear c6;replace H:=bS H;obtain ⟨t1286,A70,H⟩:=H;replace H:(some t1286)=some r:=H;have A7:=Aside0.mk A70;clear A70;obtain rfl:=Option.some.inj H;go_enter Try.func45,Try.ntmps45;go_wp2_with (first|((with_reducible refine gate_dst (N:=2) rfl ?_);refine box_event ?hg (N:=2) ?hd (cs:=#[.int .i64 a0_0,.slice A0_1 l0_1.length c0_1,.int .i64 a0_2,.int .i64 a0_3,.int .i64 a0_4]) (t:=24) ?hr ?_;(case hd=>rfl);(case hg=>rfl);(case hr=>go_simp;try rfl);intro gb1284 hg w8 hbox hb;have BK1284:=Aside0.mk (hbox);have GW1284:=gB HB hg;have GE1284:=gB HB hg;replace HB:=tB HB hb;clear hb hbox hg)|((with_reducible refine gate_dst (N:=3) rfl ?_);refine box_event ?hg (N:=3) ?hd (cs:=#[.int .i64 a1_0,.slice A1_1 l1_1.length c1_1,.int .i64 a1_2,.int .i64 a1_3,.int .i64 a1_4]) (t:=24) ?hr ?_;(case hd=>rfl);(case hg=>rfl);(case hr=>go_simp;try rfl);intro gb1285 hg w9 hbox hb;have BK1285:=Aside0.mk (hbox);have GW1285:=gB HB hg;have GE1285:=gB HB hg;replace HB:=Aside0.mk (below_step (by repeat (first|(with_reducible first|exact HB.1|apply qA|apply qN|apply qD|refine qS ?_ GE1284.1)|exact HB.1)) hb);have NB1284_1285:=nL BK1284 hg;have NB1285_1284:=nG BK1284 hg;replace BK1284:=bB BK1284 hb;clear hb hbox hg;have hnb10:=NB1284_1285.1;have hnc10:=NB1285_1284.1;obtain ⟨hcz11_0,hcz11_1,hcz11_2,hcz11_3,hcz11_4⟩:=c5_ BK1284;obtain ⟨hfz11_0,hfz11_1,hfz11_2,hfz11_3,hfz11_4⟩:=f5_ BK1284;obtain ⟨hcz12_0,hcz12_1,hcz12_2,hcz12_3,hcz12_4⟩:=c5_ BK1285;obtain ⟨hfz12_0,hfz12_1,hfz12_2,hfz12_3,hfz12_4⟩:=f5_ BK1285)|(go_at_call 30;(with_reducible refine (laws_lwTexts.calls k _ _ l0_1 _ _ l1_1 t1286 _ ?side1 ?side2 ?side3 ?side4 A7.1).mono ?_);(case side1=>exact cR HR0_1 HB);(case side2=>exact HC0_1.1);(case side3=>exact cR HR1_1 HB);(case side4=>exact HC1_1.1);rintro e w' ⟨rfl,⟨nd,rfl⟩⟩));go_ret;exact ⟨by first|rfl|(simp [errW_none,errW_some] <;> rfl)|(simp [*,errW_none,errW_some] <;> rfl),by repeat (first|(with_reducible first|exact HB.1|apply qA|apply qN|apply qD|refine qS ?_ GE1284.1|refine qS ?_ GE1285.1)|exact HB.1)⟩
    ·rw [if_neg c6] at H;have c6b0:(a0_4 == a1_4)=false:=beq_eq_false_iff_ne.mpr c6;have c6b1:(a0_4 != a1_4)=true:=bne_iff_ne.mpr c6;obtain rfl:=Option.some.inj H;go_enter Try.func45,Try.ntmps45;go_wp2_with (first|((with_reducible refine gate_dst (N:=2) rfl ?_);refine box_event ?hg (N:=2) ?hd (cs:=#[.int .i64 a0_0,.slice A0_1 l0_1.length c0_1,.int .i64 a0_2,.int .i64 a0_3,.int .i64 a0_4]) (t:=24) ?hr ?_;(case hd=>rfl);(case hg=>rfl);(case hr=>go_simp;try rfl);intro gb1284 hg w13 hbox hb;have BK1284:=Aside0.mk (hbox);have GW1284:=gB HB hg;have GE1284:=gB HB hg;replace HB:=tB HB hb;clear hb hbox hg)|((with_reducible refine gate_dst (N:=3) rfl ?_);refine box_event ?hg (N:=3) ?hd (cs:=#[.int .i64 a1_0,.slice A1_1 l1_1.length c1_1,.int .i64 a1_2,.int .i64 a1_3,.int .i64 a1_4]) (t:=24) ?hr ?_;(case hd=>rfl);(case hg=>rfl);(case hr=>go_simp;try rfl);intro gb1285 hg w14 hbox hb;have BK1285:=Aside0.mk (hbox);have GW1285:=gB HB hg;have GE1285:=gB HB hg;replace HB:=Aside0.mk (below_step (by repeat (first|(with_reducible first|exact HB.1|apply qA|apply qN|apply qD|refine qS ?_ GE1284.1)|exact HB.1)) hb);have NB1284_1285:=nL BK1284 hg;have NB1285_1284:=nG BK1284 hg;replace BK1284:=bB BK1284 hb;clear hb hbox hg;have hnb15:=NB1284_1285.1;have hnc15:=NB1285_1284.1;obtain ⟨hcz16_0,hcz16_1,hcz16_2,hcz16_3,hcz16_4⟩:=c5_ BK1284;obtain ⟨hfz16_0,hfz16_1,hfz16_2,hfz16_3,hfz16_4⟩:=f5_ BK1284;obtain ⟨hcz17_0,hcz17_1,hcz17_2,hcz17_3,hcz17_4⟩:=c5_ BK1285;obtain ⟨hfz17_0,hfz17_1,hfz17_2,hfz17_3,hfz17_4⟩:=f5_ BK1285));go_ret;exact ⟨by first|rfl|(simp [errW_none,errW_some] <;> rfl)|(simp [*,errW_none,errW_some] <;> rfl),by repeat (first|(with_reducible first|exact HB.1|apply qA|apply qN|apply qD|refine qS ?_ GE1284.1|refine qS ?_ GE1285.1)|exact HB.1)⟩
   ·rw [if_neg c5] at H;have c5b0:(a0_3 == a1_3)=false:=beq_eq_false_iff_ne.mpr c5;have c5b1:(a0_3 != a1_3)=true:=bne_iff_ne.mpr c5;obtain rfl:=Option.some.inj H;go_enter Try.func45,Try.ntmps45;go_wp2_with (first|((with_reducible refine gate_dst (N:=2) rfl ?_);refine box_event ?hg (N:=2) ?hd (cs:=#[.int .i64 a0_0,.slice A0_1 l0_1.length c0_1,.int .i64 a0_2,.int .i64 a0_3,.int .i64 a0_4]) (t:=24) ?hr ?_;(case hd=>rfl);(case hg=>rfl);(case hr=>go_simp;try rfl);intro gb1284 hg w18 hbox hb;have BK1284:=Aside0.mk (hbox);have GW1284:=gB HB hg;have GE1284:=gB HB hg;replace HB:=tB HB hb;clear hb hbox hg)|((with_reducible refine gate_dst (N:=3) rfl ?_);refine box_event ?hg (N:=3) ?hd (cs:=#[.int .i64 a1_0,.slice A1_1 l1_1.length c1_1,.int .i64 a1_2,.int .i64 a1_3,.int .i64 a1_4]) (t:=24) ?hr ?_;(case hd=>rfl);(case hg=>rfl);(case hr=>go_simp;try rfl);intro gb1285 hg w19 hbox hb;have BK1285:=Aside0.mk (hbox);have GW1285:=gB HB hg;have GE1285:=gB HB hg;replace HB:=Aside0.mk (below_step (by repeat (first|(with_reducible first|exact HB.1|apply qA|apply qN|apply qD|refine qS ?_ GE1284.1)|exact HB.1)) hb);have NB1284_1285:=nL BK1284 hg;have NB1285_1284:=nG BK1284 hg;replace BK1284:=bB BK1284 hb;clear hb hbox hg;have hnb20:=NB1284_1285.1;have hnc20:=NB1285_1284.1;obtain ⟨hcz21_0,hcz21_1,hcz21_2,hcz21_3,hcz21_4⟩:=c5_ BK1284;obtain ⟨hfz21_0,hfz21_1,hfz21_2,hfz21_3,hfz21_4⟩:=f5_ BK1284;obtain ⟨hcz22_0,hcz22_1,hcz22_2,hcz22_3,hcz22_4⟩:=c5_ BK1285;obtain ⟨hfz22_0,hfz22_1,hfz22_2,hfz22_3,hfz22_4⟩:=f5_ BK1285));go_ret;exact ⟨by first|rfl|(simp [errW_none,errW_some] <;> rfl)|(simp [*,errW_none,errW_some] <;> rfl),by repeat (first|(with_reducible first|exact HB.1|apply qA|apply qN|apply qD|refine qS ?_ GE1284.1|refine qS ?_ GE1285.1)|exact HB.1)⟩
  ·rw [if_neg c4] at H;have c4b0:(a0_2 == a1_2)=false:=beq_eq_false_iff_ne.mpr c4;have c4b1:(a0_2 != a1_2)=true:=bne_iff_ne.mpr c4;obtain rfl:=Option.some.inj H;go_enter Try.func45,Try.ntmps45;go_wp2_with (first|((with_reducible refine gate_dst (N:=2) rfl ?_);refine box_event ?hg (N:=2) ?hd (cs:=#[.int .i64 a0_0,.slice A0_1 l0_1.length c0_1,.int .i64 a0_2,.int .i64 a0_3,.int .i64 a0_4]) (t:=24) ?hr ?_;(case hd=>rfl);(case hg=>rfl);(case hr=>go_simp;try rfl);intro gb1284 hg w23 hbox hb;have BK1284:=Aside0.mk (hbox);have GW1284:=gB HB hg;have GE1284:=gB HB hg;replace HB:=tB HB hb;clear hb hbox hg)|((with_reducible refine gate_dst (N:=3) rfl ?_);refine box_event ?hg (N:=3) ?hd (cs:=#[.int .i64 a1_0,.slice A1_1 l1_1.length c1_1,.int .i64 a1_2,.int .i64 a1_3,.int .i64 a1_4]) (t:=24) ?hr ?_;(case hd=>rfl);(case hg=>rfl);(case hr=>go_simp;try rfl);intro gb1285 hg w24 hbox hb;have BK1285:=Aside0.mk (hbox);have GW1285:=gB HB hg;have GE1285:=gB HB hg;replace HB:=Aside0.mk (below_step (by repeat (first|(with_reducible first|exact HB.1|apply qA|apply qN|apply qD|refine qS ?_ GE1284.1)|exact HB.1)) hb);have NB1284_1285:=nL BK1284 hg;have NB1285_1284:=nG BK1284 hg;replace BK1284:=bB BK1284 hb;clear hb hbox hg;have hnb25:=NB1284_1285.1;have hnc25:=NB1285_1284.1;obtain ⟨hcz26_0,hcz26_1,hcz26_2,hcz26_3,hcz26_4⟩:=c5_ BK1284;obtain ⟨hfz26_0,hfz26_1,hfz26_2,hfz26_3,hfz26_4⟩:=f5_ BK1284;obtain ⟨hcz27_0,hcz27_1,hcz27_2,hcz27_3,hcz27_4⟩:=c5_ BK1285;obtain ⟨hfz27_0,hfz27_1,hfz27_2,hfz27_3,hfz27_4⟩:=f5_ BK1285));go_ret;exact ⟨by first|rfl|(simp [errW_none,errW_some] <;> rfl)|(simp [*,errW_none,errW_some] <;> rfl),by repeat (first|(with_reducible first|exact HB.1|apply qA|apply qN|apply qD|refine qS ?_ GE1284.1|refine qS ?_ GE1285.1)|exact HB.1)⟩
 ·rw [if_neg c3] at H;have c3b0:(a0_0 == a1_0)=false:=beq_eq_false_iff_ne.mpr c3;have c3b1:(a0_0 != a1_0)=true:=bne_iff_ne.mpr c3;obtain rfl:=Option.some.inj H;go_enter Try.func45,Try.ntmps45;go_wp2_with (first|((with_reducible refine gate_dst (N:=2) rfl ?_);refine box_event ?hg (N:=2) ?hd (cs:=#[.int .i64 a0_0,.slice A0_1 l0_1.length c0_1,.int .i64 a0_2,.int .i64 a0_3,.int .i64 a0_4]) (t:=24) ?hr ?_;(case hd=>rfl);(case hg=>rfl);(case hr=>go_simp;try rfl);intro gb1284 hg w28 hbox hb;have BK1284:=Aside0.mk (hbox);have GW1284:=gB HB hg;have GE1284:=gB HB hg;replace HB:=tB HB hb;clear hb hbox hg)|((with_reducible refine gate_dst (N:=3) rfl ?_);refine box_event ?hg (N:=3) ?hd (cs:=#[.int .i64 a1_0,.slice A1_1 l1_1.length c1_1,.int .i64 a1_2,.int .i64 a1_3,.int .i64 a1_4]) (t:=24) ?hr ?_;(case hd=>rfl);(case hg=>rfl);(case hr=>go_simp;try rfl);intro gb1285 hg w29 hbox hb;have BK1285:=Aside0.mk (hbox);have GW1285:=gB HB hg;have GE1285:=gB HB hg;replace HB:=Aside0.mk (below_step (by repeat (first|(with_reducible first|exact HB.1|apply qA|apply qN|apply qD|refine qS ?_ GE1284.1)|exact HB.1)) hb);have NB1284_1285:=nL BK1284 hg;have NB1285_1284:=nG BK1284 hg;replace BK1284:=bB BK1284 hb;clear hb hbox hg;have hnb30:=NB1284_1285.1;have hnc30:=NB1285_1284.1;obtain ⟨hcz31_0,hcz31_1,hcz31_2,hcz31_3,hcz31_4⟩:=c5_ BK1284;obtain ⟨hfz31_0,hfz31_1,hfz31_2,hfz31_3,hfz31_4⟩:=f5_ BK1284;obtain ⟨hcz32_0,hcz32_1,hcz32_2,hcz32_3,hcz32_4⟩:=c5_ BK1285;obtain ⟨hfz32_0,hfz32_1,hfz32_2,hfz32_3,hfz32_4⟩:=f5_ BK1285));go_ret;exact ⟨by first|rfl|(simp [errW_none,errW_some] <;> rfl)|(simp [*,errW_none,errW_some] <;> rfl),by repeat (first|(with_reducible first|exact HB.1|apply qA|apply qN|apply qD|refine qS ?_ GE1284.1|refine qS ?_ GE1285.1)|exact HB.1)⟩
attribute [local go_sem high] eqA38
def laws_lwFrames.l0:Nat → List (S38) → List (S38) → Int → Option (Bool)
 | 0,_,_,_=>none
 | k + 1,x0,x1,x5=>if x5 < (x0.length:Int) then (if 0 ≤ x5 then (if x5 < (x1.length:Int) then (if (!(((rd_T38 x0 x5).f0) == ((rd_T38 x1 x5).f0)) || (!(((rd_T38 x0 x5).f1) == ((rd_T38 x1 x5).f1)) || (!((((rd_T38 x0 x5).f2).toList) == (((rd_T38 x1 x5).f2).toList)))))=true then (some false) else (laws_lwFrames.l0 k x0 x1 (wrap64 (x5 + 1)))) else (none)) else (none)) else (some true)
def laws_lwFrames.f (k:Nat) (l0:List (S38)) (l1:List (S38)):Option (Bool):=if (l0.length:Int)=(l1.length:Int) then (laws_lwFrames.l0 k l0 l1 0) else (some false)
set_option maxHeartbeats 8000000 in
set_option maxRecDepth 100000 in
theorem laws_lwFrames.calls (k:Nat) (A0:Option Addr) (c0:Nat) (l0:List (S38)) (A1:Option Addr) (c1:Nat) (l1:List (S38)) (r:Bool) (w:World) (hr0:Kd.C k38 w A0 l0.length l0) (hc0:l0.length ≤ c0) (hr1:Kd.C k38 w A1 l1.length l1) (hc1:l1.length ≤ c1) (h:laws_lwFrames.f k l0 l1=some r) :
  Calls Try.prog 46 #[.slice A0 l0.length c0,.slice A1 l1.length c1] w fun e w'=>e=.returned (.bool r)∧Drawn0 w w':=by
 have hu38:=Try.underlying38;have HR0:=Aside0.mk hr0;have HC0:=Aside0.mk hc0;clear hr0 hc0;have HR1:=Aside0.mk hr1;have HC1:=Aside0.mk hc1;clear hr1 hc1;have H:(if (l0.length:Int)=(l1.length:Int) then (laws_lwFrames.l0 k l0 l1 0) else (some false))=some r:=h;clear h;by_cases c3:(l0.length:Int)=(l1.length:Int)
 ·rw [if_pos c3] at H;have c3b0:((l0.length:Int) == (l1.length:Int))=true:=beq_iff_eq.mpr c3;have c3b1:((l0.length:Int) != (l1.length:Int))=false:=bne_eq_false_iff_eq.mpr c3;have c3b2:(l0.length == l1.length)=true:=(by first|simpa using c3|(simp at c3 ⊢;omega));clear c3;have H':=Aside0.mk H;clear H;go_enter Try.func46,Try.ntmps46;go_wp2;repeat (go_quiet (fail);try go_wp2)
  go_loopg [5] k (fun kq v5 w'=>∃ (x5_1:Int),v5=.int .i64 x5_1∧Aside0 (laws_lwFrames.l0 kq l0 l1 x5_1=some r)∧Aside0 (kq ≤ k)∧Drawn0 w w');case atStart=>exact ⟨(0),(by first|rfl|(simp;done)|(simp [*];done)),H',⟨Nat.le_refl _⟩,by repeat (first|exact Drawn0.refl _|apply Drawn0.step)⟩
  case round =>
   clear H';(try clear c1);(try clear p2);(try clear c3);(try clear c3b0);(try clear c3b1);(try clear c3b2);obtain ⟨x5_1,rfl,HA,HK1,⟨m1,rfl⟩⟩:=hrel;cases gk with
   | zero=>exact absurd HA.1 (by simp [laws_lwFrames.l0])
   | succ k1 =>
    have H:=HA.1;clear HA;simp only [laws_lwFrames.l0] at H;by_cases c4:x5_1 < (l0.length:Int)
    ·rw [if_pos c4] at H;have c4b0:decide (x5_1 < (l0.length:Int))=true:=decide_eq_true c4;clear c4;by_cases c5:0 ≤ x5_1
     ·rw [if_pos c5] at H;have c5b0:decide (0 ≤ x5_1)=true:=decide_eq_true c5;clear c5;by_cases c6:x5_1 < (l1.length:Int)
      ·rw [if_pos c6] at H;have c6b0:decide (x5_1 < (l1.length:Int))=true:=decide_eq_true c6;clear c6;by_cases c7:(!(((rd_T38 l0 x5_1).f0) == ((rd_T38 l1 x5_1).f0)) || (!(((rd_T38 l0 x5_1).f1) == ((rd_T38 l1 x5_1).f1)) || (!((((rd_T38 l0 x5_1).f2).toList) == (((rd_T38 l1 x5_1).f2).toList)))))=true
       ·rw [if_pos c7] at H;have c7b0:(!(((rd_T38 l0 x5_1).f0) == ((rd_T38 l1 x5_1).f0)) || (!(((rd_T38 l0 x5_1).f1) == ((rd_T38 l1 x5_1).f1)) || (!((((rd_T38 l0 x5_1).f2).toList) == (((rd_T38 l1 x5_1).f2).toList)))))=true:=c7;clear c7;obtain rfl:=Option.some.inj H;have p1287:0 ≤ (x5_1:Int):=of_decide_eq_true (by first|(with_reducible assumption)|assumption);have q1287:x5_1 < (l0.length:Int):=of_decide_eq_true (by first|(with_reducible assumption)|assumption);obtain ⟨ad1287,e1287,hx1287_0,hx1287_1,hx1287_2⟩:=at_T38 HR0.1 x5_1 p1287 q1287;cases e1287
        replace p1287:=eq_true p1287;replace q1287:=eq_true q1287;have p1288:0 ≤ (x5_1:Int):=of_decide_eq_true (by first|(with_reducible assumption)|assumption);have q1288:x5_1 < (l1.length:Int):=of_decide_eq_true (by first|(with_reducible assumption)|assumption);obtain ⟨ad1288,e1288,hx1288_0,hx1288_1,hx1288_2⟩:=at_T38 HR1.1 x5_1 p1288 q1288;cases e1288
        replace p1288:=eq_true p1288;replace q1288:=eq_true q1288;go_wp2;repeat (go_quiet (fail);try go_wp2)
        go_ret;exact ⟨by first|rfl|(simp;done)|(simp [*];done),by repeat (first|exact Drawn0.refl _|apply Drawn0.step)⟩
       ·rw [if_neg c7] at H;have c7b0:(!(((rd_T38 l0 x5_1).f0) == ((rd_T38 l1 x5_1).f0)) || (!(((rd_T38 l0 x5_1).f1) == ((rd_T38 l1 x5_1).f1)) || (!((((rd_T38 l0 x5_1).f2).toList) == (((rd_T38 l1 x5_1).f2).toList)))))=false:=(by simpa using c7);clear c7;have H':=Aside0.mk H;clear H;have p1287:0 ≤ (x5_1:Int):=of_decide_eq_true (by first|(with_reducible assumption)|assumption);have q1287:x5_1 < (l0.length:Int):=of_decide_eq_true (by first|(with_reducible assumption)|assumption);obtain ⟨ad1287,e1287,hx1287_0,hx1287_1,hx1287_2⟩:=at_T38 HR0.1 x5_1 p1287 q1287;cases e1287
        replace p1287:=eq_true p1287;replace q1287:=eq_true q1287;have p1288:0 ≤ (x5_1:Int):=of_decide_eq_true (by first|(with_reducible assumption)|assumption);have q1288:x5_1 < (l1.length:Int):=of_decide_eq_true (by first|(with_reducible assumption)|assumption);obtain ⟨ad1288,e1288,hx1288_0,hx1288_1,hx1288_2⟩:=at_T38 HR1.1 x5_1 p1288 q1288;cases e1288
        replace p1288:=eq_true p1288;replace q1288:=eq_true q1288;go_wp2;repeat (go_quiet (fail);try go_wp2)
        go_roundg k1;case measure=>have:=HK1.1;omega
        case rel=>exact ⟨(wrap64 (x5_1 + 1)),(by first|rfl|(simp;done)|(simp [*];done)),H',⟨by have:=HK1.1;omega⟩,by repeat (first|exact Drawn0.refl _|apply Drawn0.step)⟩
      ·rw [if_neg c6] at H;exact absurd H (by simp)
     ·rw [if_neg c5] at H;exact absurd H (by simp)
    ·rw [if_neg c4] at H;have c4b0:decide (x5_1 < (l0.length:Int))=false:=decide_eq_false c4;clear c4;obtain rfl:=Option.some.inj H;go_wp2;repeat (go_quiet (fail);try go_wp2)
     go_ret;exact ⟨by first|rfl|(simp;done)|(simp [*];done),by repeat (first|exact Drawn0.refl _|apply Drawn0.step)⟩
 ·rw [if_neg c3] at H;have c3b0:((l0.length:Int) == (l1.length:Int))=false:=beq_eq_false_iff_ne.mpr c3;have c3b1:((l0.length:Int) != (l1.length:Int))=true:=bne_iff_ne.mpr c3;have c3b2:(l0.length == l1.length)=false:=(by first|simpa using c3|(simp at c3 ⊢;omega));obtain rfl:=Option.some.inj H;go_enter Try.func46,Try.ntmps46;go_wp2;repeat (go_quiet (fail);try go_wp2)
  go_ret;exact ⟨by first|rfl|(simp;done)|(simp [*];done),by repeat (first|exact Drawn0.refl _|apply Drawn0.step)⟩
end Go.Proofs.Ytaaffhghpealjaa.A
namespace Go.Proofs.Ytaaffhghpealjaa.A
open Go.RowKit Go.Proofs.YtaaffhghpealjaaW.PrintWords Go.Proofs.YtaaffhghpealjaaW.PrintLast Go.Proofs.YtaaffhghpealjaaW.PrintMore
theorem wrapU (n:Int):IntKind.u64.wrap n=n % 18446744073709551616:=by simp [IntKind.wrap,IntKind.bits,IntKind.signed]
def at_ (l:List Int) (i:Int):Prop:=0 ≤ i∧i ≤ l.length∧l.length ≤ 1048576
theorem num_mod (X a:Int) (ha:1 ≤ a) (hb:a ≤ 1000000):0 ≤ wrap64 (Int.tmod (IntKind.u64.wrap X) (IntKind.u64.wrap a))∧wrap64 (Int.tmod (IntKind.u64.wrap X) (IntKind.u64.wrap a)) < a:=by
 have e:IntKind.u64.wrap a=a:=by rw [wrapU];omega
 have h0:0 ≤ IntKind.u64.wrap X:=by rw [wrapU];omega
 rw [e,Int.tmod_eq_emod_of_nonneg h0]
 have h1:=Int.emod_nonneg (IntKind.u64.wrap X) (show a ≠ 0 by omega)
 have h2:=Int.emod_lt_of_pos (IntKind.u64.wrap X) (show 0 < a by omega)
 rw [w64 (by omega) (by omega)]
 exact ⟨h1,h2⟩
theorem n_ok (l:List Int) (i x m a:Int) (h:at_ l i) (ha:1 ≤ a) (hb:a ≤ 1000000):∃ v i' x' m',spec_l01Src_n.f l i x m a=some (v,i',x',m')∧0 ≤ v∧v < a∧at_ l i':=by
 unfold spec_l01Src_n.f
 by_cases h1:a ≤ 1
 ·rw [if_pos h1]
  exact ⟨_,_,_,_,rfl,by omega,by omega,h⟩
 obtain ⟨h0,h1',h2⟩:=h
 have ha0:¬ IntKind.u64.wrap a=0:=by rw [wrapU];omega
 rw [if_neg h1]
 by_cases hi:i < (l.length:Int)
 ·rw [if_pos hi,if_pos h0,if_neg ha0,w64 (x:=i + 1) (by omega) (by omega)]
  exact ⟨_,_,_,_,rfl,(num_mod _ a ha hb).1,(num_mod _ a ha hb).2,⟨by omega,by omega,h2⟩⟩
 ·rw [if_neg hi,if_neg ha0]
  exact ⟨_,_,_,_,rfl,(num_mod _ a ha hb).1,(num_mod _ a ha hb).2,⟨h0,h1',h2⟩⟩
theorem one_ok (l:List Int) (i x m a:Int) (h:at_ l i) (ha:1 ≤ a) (hb:a ≤ 1000000):∃ v i' x' m',spec_l01Src_one.f l i x m a=some (v,i',x',m')∧at_ l i':=by
 obtain ⟨v,i',x',m',e,_,_,h'⟩:=n_ok l i x m a h ha hb
 exact ⟨_,i',x',m',by unfold spec_l01Src_one.f;rw [e];rfl,h'⟩
theorem source_loop (l:List Int) (d:Nat):∀ (i:Nat) (q:List Int) (p x m:Int),i + d=64 → ∃ x' m',Ev (fun k=>spec_l01Source.l0 k l (i:Int) q p x m) (q,p,x',m'):=by
 induction d with
 | zero =>
  intro i q p x m hi
  have last:∃ m',∀ k,spec_l01Source.l0 (k + 1) l (i:Int) q p x m=some (q,p,x,m'):=by
   by_cases h12:wrap64 ((l.length:Int) / 20) > 12
   ·refine ⟨12,fun k=>?_⟩
    simp only [spec_l01Source.l0]
    rw [if_neg (show ¬ (i:Int) < 64 by omega),if_pos h12]
    split <;> rfl
   ·refine ⟨wrap64 ((l.length:Int) / 20),fun k=>?_⟩
    simp only [spec_l01Source.l0]
    rw [if_neg (show ¬ (i:Int) < 64 by omega),if_neg h12]
    split <;> rfl
  obtain ⟨m',hm'⟩:=last
  exact ⟨x,m',evOne hm'⟩
 | succ d ih =>
  intro i q p x m hi
  by_cases hlt:(i:Int) < (l.length:Int)
  ·obtain ⟨x',m',h⟩:=ih (i + 1) q p (IntKind.u64.wrap ((Go.bits .xor .u64 x (IntKind.u64.wrap (rd l i))) * 1099511628211)) m (by omega)
   refine ⟨x',m',evStep (fun k=>?_) h⟩
   simp only [spec_l01Source.l0]
   rw [if_pos hlt,if_pos (by omega),if_pos (by omega),w64 (by omega) (by omega)]
   rfl
  ·by_cases h12:wrap64 ((l.length:Int) / 20) > 12
   ·exact ⟨x,12,evOne fun k=>by simp only [spec_l01Source.l0];rw [if_neg hlt,if_pos h12]⟩
   ·exact ⟨x,wrap64 ((l.length:Int) / 20),evOne fun k=>by simp only [spec_l01Source.l0];rw [if_neg hlt,if_neg h12]⟩
theorem source_ok (l:List Int) (_hl:l.length ≤ 1048576):∃ x m,Ev (fun k=>spec_l01Source.f k l) (l,0,x,m):=source_loop l 64 0 l 0 _ _ (by omega)
theorem at_zero (l:List Int) (hl:l.length ≤ 1048576):at_ l 0:=⟨by omega,by omega,hl⟩
theorem pick_ok (l:List Int) (i x m:Int) (q:List ByteArray) (h:at_ l i) (h2:1 ≤ q.length) (h3:q.length ≤ 1000000):∃ v i' x' m',spec_l01Src_pick.f l i x m q=some (v,i',x',m')∧at_ l i':=by
 obtain ⟨v,i',x',m',e,p0,p1,h'⟩:=n_ok l i x m (q.length:Int) h (by omega) (by omega)
 exact ⟨_,i',x',m',by unfold spec_l01Src_pick.f;rw [e,Option.bind_some,if_pos p0,if_pos p1],h'⟩
structure En (w0 W:World) (g:Nat) (s0:List Int) (P:World → Prop):Prop where
 src:∃ p a b,IsS110 w0 W g s0 p a b∧at_ s0 p
 bel:Below w0.heap.size w0 W
 fact:P W
def Stb (g:Nat) (P:World → Prop):Prop:=∀ W W',P W → KeepBut W W' g none → P W'
theorem Stb.blk {g g':Nat} {o:Obj} (h:g' ≠ g):Stb g fun W=>W.heap[g']?=some o:=fun _ _ hb hk=>KeepBut.blk hk hb h (by simp)
theorem Stb.row {α:Type} {d:Kd α} {e base g:Nat} {v:Value} {xs:List α}:Stb g fun W=>Kd.Q d e W base (fun k=>k ≠ g) v xs:=fun _ _ h hk=>Kd.Q_keep h hk (fun _ h=>h)
theorem Stb.rowR {α:Type} {d:Kd α} {e base g:Nat} {v:Value} {xs:List α}:Stb g fun W=>Kd.R d e W base (fun k=>k ≠ g) v xs:=fun _ _ h hk=>Kd.R_keep h hk (fun _ h=>h)
theorem Stb.keep {g:Nat} {w:World}:Stb g fun W=>KeepBut w W g none:=fun _ _ h hk=>KeepBut.trans h hk (.inl rfl)
theorem Stb.and {g:Nat} {P R:World → Prop} (h:Stb g P) (k:Stb g R):Stb g fun W=>P W∧R W:=fun W W' hp hk=>⟨h W W' hp.1 hk,k W W' hp.2 hk⟩
section
variable {w0 W W':World} {g:Nat} {s0:List Int} {P R:World → Prop} {g':Nat} {t:TypeId}
theorem En.below (h:En w0 W g s0 P) (hs:Stb g P) (hb:Below W.heap.size W W'):En w0 W' g s0 P:=by
 obtain ⟨⟨p,a,b,h1,h2⟩,h3,h4⟩:=h
 exact ⟨⟨p,a,b,h1.below hb,h2⟩,below_step h3 hb,hs _ _ h4 (KeepBut.of_below hb g none)⟩
theorem En.on [c:OnW W W'] (h:En w0 W g s0 P) (hs:Stb g P):En w0 W' g s0 P:=h.below hs c.out
theorem En.with (h:En w0 W g s0 P) (k:R W):En w0 W g s0 R:=⟨h.src,h.bel,k⟩
theorem En.snd (h:En w0 W g s0 fun W=>P W∧R W):En w0 W g s0 R:=⟨h.src,h.bel,h.fact.2⟩
theorem En.moved (hs:Stb g P) (h:En w0 W g s0 P) {p a b:Int} (hi:IsS110 w0 W' g s0 p a b) (ha:at_ s0 p) (hb:Below w0.heap.size w0 W') (hk:KeepBut W W' g none):En w0 W' g s0 P:=⟨⟨p,a,b,hi,ha⟩,hb,hs _ _ h.fact hk⟩
theorem En.ne (h:En w0 W g s0 P) {g':Nat} (hg:g'=W.heap.size):g' ≠ g:=by
 obtain ⟨⟨p,a,b,h1,h2⟩,h3,h4⟩:=h
 rw [hg]
 exact Nat.ne_of_gt h1.lt
theorem En.set (h:En w0 W g s0 P) {g' j:Nat} {u:Value} (hg:g' ≠ g) (hw:w0.heap.size ≤ g') (k:R (W.setCell ⟨g',j,none⟩ u)):En w0 (W.setCell ⟨g',j,none⟩ u) g s0 R:=by
 obtain ⟨⟨p,a,b,h1,h2⟩,h3,h4⟩:=h
 exact ⟨⟨p,a,b,h1.far (fun e=>hg e.symm) u,h2⟩,below_set h3 hw,k⟩
def Sto (g':Nat) (t:TypeId) (P:World → Prop):Prop:=∀ W i u,P W → (∃ cs,W.heap[g']?=some (.cells cs t (0,0))) → P (W.setCell ⟨g',i,none⟩ u)
theorem Sto.keep {g g':Nat} {t:TypeId} {w:World} (h:w.heap.size ≤ g'):Sto g' t fun W=>KeepBut w W g none:=fun _ _ _ hk _=>keep_far (p:=⟨g',_,none⟩) hk h _
theorem Sto.blk {g' g2:Nat} {t t2:TypeId} {cs:Array Value} (h:g2 ≠ g'):Sto g' t fun W=>W.heap[g2]?=some (.cells cs t2 (0,0)):=fun _ _ _ hb _=>blk_far (p:=⟨g',_,none⟩) hb h _
theorem Sto.row {α:Type} {d:Kd α} {e base g':Nat} {t:TypeId} {ok:Nat → Prop} {v:Value} {xs:List α} (ht:∀ q,q ∈ e :: d.E → q ≠ t):Sto g' t fun W=>Kd.Q d e W base ok v xs:=fun _ _ _ hq ⟨_,hb⟩ =>
 Kd.Q_mono (Kd.Q_far (p:=⟨g',_,none⟩) (Kd.Q_types hq hb ht) (fun _ hk=>hk.2) _) (fun _ hk=>hk.1)
theorem Sto.rowR {α:Type} {d:Kd α} {e base g':Nat} {t:TypeId} {ok:Nat → Prop} {v:Value} {xs:List α} (ht:∀ q,q ∈ e :: d.E → q ≠ t):Sto g' t fun W=>Kd.R d e W base ok v xs:=fun _ _ _ hq ⟨_,hb⟩ =>
 Kd.R_mono (Kd.R_far (p:=⟨g',_,none⟩) (Kd.R_types hq hb ht) (fun _ hk=>hk.2) _) (fun _ hk=>hk.1)
theorem Sto.and {g':Nat} {t:TypeId} {P R:World → Prop} (h:Sto g' t P) (k:Sto g' t R):Sto g' t fun W=>P W∧R W:=fun W i u hp hb=>⟨h W i u hp.1 hb,k W i u hp.2 hb⟩
theorem Stb.imp {g:Nat} {c:Prop} {P:World → Prop} (h:Stb g P):Stb g fun W=>c → P W:=fun W W' hp hk hc=>h W W' (hp hc) hk
theorem Stb.pure {g:Nat} {c:Prop}:Stb g fun _=>c:=fun _ _ hp _=>hp
theorem Sto.imp {g':Nat} {t:TypeId} {c:Prop} {P:World → Prop} (h:Sto g' t P):Sto g' t fun W=>c → P W:=fun W i u hp hb hc=>h W i u (hp hc) hb
theorem Sto.pure {g':Nat} {t:TypeId} {c:Prop}:Sto g' t fun _=>c:=fun _ _ _ hp _=>hp
theorem En.box {V:World} [c:OnW V W] (h:Aside0 (En w0 V g s0 P)) (hs:Stb g P) {g':Nat} {o:Obj} (hg:g'=W.heap.size) (hbox:W'.heap[g']?=some o) (hb:Below W.heap.size W W') :
  Aside0 (En w0 W' g s0 fun W=>W.heap[g']?=some o∧P W)∧Aside0 (g' ≠ g)∧Aside0 (w0.heap.size ≤ g'):=by
 have h1:=h.1.on (W':=W) hs
 have h2:=h1.below hs hb
 exact ⟨⟨h2.with ⟨hbox,h2.fact⟩⟩,⟨h1.ne hg⟩,⟨by rw [hg];exact h1.bel.size⟩⟩
theorem En.set_one (h:En w0 W g s0 fun W=>(∃ cs,W.heap[g']?=some (.cells cs t (0,0)))∧P W) (hs:Sto g' t P) (hg:g' ≠ g) (hw:w0.heap.size ≤ g') (i:Nat) (u:Value) :
  En w0 (W.setCell ⟨g',i,none⟩ u) g s0 fun W=>(∃ cs,W.heap[g']?=some (.cells cs t (0,0)))∧P W :=
 h.set hg hw ⟨by obtain ⟨⟨cs,hb⟩,_⟩:=h.fact;exact ⟨_,blk_put (g:=g') hb i u rfl⟩,hs _ _ _ h.fact.2 h.fact.1⟩
theorem En.set3 {V:World} {c0 c1 c2:Value} [cc:OnW V W] (h:Aside0 (En w0 V g s0 fun W=>W.heap[g']?=some (.cells #[c0,c1,c2] t (0,0))∧P W)) (hb:Stb g P) (hs:Sto g' t P) (hg:Aside0 (g' ≠ g)) (hw:Aside0 (w0.heap.size ≤ g')) {u0 u1 u2:Value} :
  Aside0 (En w0 ((((W.setCell ⟨g',0,none⟩ u0).setCell ⟨g',1,none⟩ u1).setCell ⟨g',2,none⟩ u2)) g s0 fun W=>W.heap[g']?=some (.cells #[u0,u1,u2] t (0,0))∧P W) :=
 have h1:=h.1.on (W':=W) (Stb.and (Stb.blk hg.1) hb)
 have h2:=((((h1.with (R:=fun W=>(∃ cs,W.heap[g']?=some (.cells cs t (0,0)))∧P W) ⟨⟨_,h1.fact.1⟩,h1.fact.2⟩).set_one hs hg.1 hw.1 0 u0).set_one hs hg.1 hw.1 1 u1).set_one hs hg.1 hw.1 2 u2)
 ⟨h2.with ⟨cp3 h1.fact.1,h2.fact.2⟩⟩
theorem En.set5 {V:World} {c0 c1 c2 c3 c4:Value} [cc:OnW V W] (h:Aside0 (En w0 V g s0 fun W=>W.heap[g']?=some (.cells #[c0,c1,c2,c3,c4] t (0,0))∧P W)) (hb:Stb g P) (hs:Sto g' t P) (hg:Aside0 (g' ≠ g)) (hw:Aside0 (w0.heap.size ≤ g')) {u0 u1 u2 u3 u4:Value} :
  Aside0 (En w0 ((((((W.setCell ⟨g',0,none⟩ u0).setCell ⟨g',1,none⟩ u1).setCell ⟨g',2,none⟩ u2).setCell ⟨g',3,none⟩ u3).setCell ⟨g',4,none⟩ u4)) g s0 fun W=>W.heap[g']?=some (.cells #[u0,u1,u2,u3,u4] t (0,0))∧P W) :=
 have h1:=h.1.on (W':=W) (Stb.and (Stb.blk hg.1) hb)
 have h2:=((((((h1.with (R:=fun W=>(∃ cs,W.heap[g']?=some (.cells cs t (0,0)))∧P W) ⟨⟨_,h1.fact.1⟩,h1.fact.2⟩).set_one hs hg.1 hw.1 0 u0).set_one hs hg.1 hw.1 1 u1).set_one hs hg.1 hw.1 2 u2).set_one hs hg.1 hw.1 3 u3).set_one hs hg.1 hw.1 4 u4)
 ⟨h2.with ⟨cp5 h1.fact.1,h2.fact.2⟩⟩
theorem En.set8 {V:World} {c0 c1 c2 c3 c4 c5 c6 c7:Value} [cc:OnW V W] (h:Aside0 (En w0 V g s0 fun W=>W.heap[g']?=some (.cells #[c0,c1,c2,c3,c4,c5,c6,c7] t (0,0))∧P W)) (hb:Stb g P) (hs:Sto g' t P) (hg:Aside0 (g' ≠ g)) (hw:Aside0 (w0.heap.size ≤ g')) {u0 u1 u2 u3 u4 u5 u6 u7:Value} :
  Aside0 (En w0 (((((((((W.setCell ⟨g',0,none⟩ u0).setCell ⟨g',1,none⟩ u1).setCell ⟨g',2,none⟩ u2).setCell ⟨g',3,none⟩ u3).setCell ⟨g',4,none⟩ u4).setCell ⟨g',5,none⟩ u5).setCell ⟨g',6,none⟩ u6).setCell ⟨g',7,none⟩ u7)) g s0 fun W=>W.heap[g']?=some (.cells #[u0,u1,u2,u3,u4,u5,u6,u7] t (0,0))∧P W) :=
 have h1:=h.1.on (W':=W) (Stb.and (Stb.blk hg.1) hb)
 have h2:=(((((((((h1.with (R:=fun W=>(∃ cs,W.heap[g']?=some (.cells cs t (0,0)))∧P W) ⟨⟨_,h1.fact.1⟩,h1.fact.2⟩).set_one hs hg.1 hw.1 0 u0).set_one hs hg.1 hw.1 1 u1).set_one hs hg.1 hw.1 2 u2).set_one hs hg.1 hw.1 3 u3).set_one hs hg.1 hw.1 4 u4).set_one hs hg.1 hw.1 5 u5).set_one hs hg.1 hw.1 6 u6).set_one hs hg.1 hw.1 7 u7)
 ⟨h2.with ⟨cp8 h1.fact.1,h2.fact.2⟩⟩
theorem En.size {V w:World} [cc:OnW V W] (h:Aside0 (En w0 V g s0 P)) (hk:∀ W,P W → KeepBut w W g none):w.heap.size ≤ W.heap.size:=Nat.le_trans (hk V h.1.fact).1 cc.out.size
theorem n_en (h:En w0 W g s0 P) (hs:Stb g P) {m:Int} (h2:1 ≤ m) (h3:m ≤ 1000000):Calls Try.prog 88 #[.pointer (some ⟨g,0,none⟩),.int .i64 m] W fun e W'=>∃ v,e=.returned (.int .i64 v)∧(0 ≤ v∧v < m)∧En w0 W' g s0 P:=by
 obtain ⟨p,a,b,h4,h5⟩:=h.src
 obtain ⟨v,i',x',m',e,p0,p1,h6⟩:=n_ok s0 p a b m h5 h2 h3
 refine (spec_l01Src_n.calls g s0 p a b m v i' x' m' w0 W h4 h.bel e).mono ?_
 rintro e W' ⟨rfl,hi,hb,hk⟩
 exact ⟨v,rfl,⟨p0,p1⟩,En.moved hs h hi h6 hb hk⟩
theorem one_en (h:En w0 W g s0 P) (hs:Stb g P) {m:Int} (h2:1 ≤ m) (h3:m ≤ 1000000):Calls Try.prog 87 #[.pointer (some ⟨g,0,none⟩),.int .i64 m] W fun e W'=>∃ v,e=.returned (.bool v)∧En w0 W' g s0 P:=by
 obtain ⟨p,a,b,h4,h5⟩:=h.src
 obtain ⟨v,i',x',m',e,h6⟩:=one_ok s0 p a b m h5 h2 h3
 refine (spec_l01Src_one.calls g s0 p a b m v i' x' m' w0 W h4 h.bel e).mono ?_
 rintro e W' ⟨rfl,hi,hb,hk⟩
 exact ⟨v,rfl,En.moved hs h hi h6 hb hk⟩
theorem pick_en (h:En w0 W g s0 P) (hs:Stb g P) {A:Option Addr} {c base:Nat} {ok:Nat → Prop} {q:List ByteArray} (hq:Kd.Q Kd.string 9 W base ok (.slice A q.length c) q) (h2:1 ≤ q.length) (h3:q.length ≤ 1000000) :
  Calls Try.prog 95 #[.pointer (some ⟨g,0,none⟩),.slice A q.length c] W fun e W'=>∃ v,e=.returned (.string v)∧En w0 W' g s0 P:=by
 obtain ⟨p,a,b,h4,h5⟩:=h.src
 obtain ⟨v,i',x',m',e,h6⟩:=pick_ok s0 p a b q h5 h2 h3
 refine (spec_l01Src_pick.calls g s0 p a b A c q v i' x' m' w0 W h4 h.bel (Kd.Q_reads' hq).2.2 (Kd.Q_reads' hq).2.1 (far_slice (IsS110.own_neQ h4 hq (by decide))) e).mono ?_
 rintro e W' ⟨rfl,hi,hb,hk⟩
 exact ⟨v,rfl,En.moved hs h hi h6 hb hk⟩
theorem pick_mem (h:En w0 W g s0 P) (hs:Stb g P) {A:Option Addr} {c base:Nat} {ok:Nat → Prop} {q:List ByteArray} (hq:Kd.Q Kd.string 9 W base ok (.slice A q.length c) q) (h2:1 ≤ q.length) (h3:q.length ≤ 1000000) :
  Calls Try.prog 95 #[.pointer (some ⟨g,0,none⟩),.slice A q.length c] W fun e W'=>∃ v,e=.returned (.string v)∧v ∈ q∧En w0 W' g s0 P:=by
 obtain ⟨p,a,b,h4,h5⟩:=h.src
 obtain ⟨v,i',x',m',e,p0,p1,h6⟩:=n_ok s0 p a b (q.length:Int) h5 (by omega) (by omega)
 refine (spec_l01Src_pick.calls g s0 p a b A c q (rdOf ByteArray.empty q v) i' x' m' w0 W h4 h.bel (Kd.Q_reads' hq).2.2 (Kd.Q_reads' hq).2.1 (far_slice (IsS110.own_neQ h4 hq (by decide))) (by unfold spec_l01Src_pick.f;rw [e,Option.bind_some,if_pos p0,if_pos p1])).mono ?_
 rintro e W' ⟨rfl,hi,hb,hk⟩
 exact ⟨_,rfl,rdOf_mem q v p0 p1,En.moved hs h hi h6 hb hk⟩
theorem En.row (h:En w0 W g s0 P) {base:Nat} {v:Value} {q:List ByteArray} (hq:Kd.Q Kd.string 9 W base (fun _=>True) v q):Kd.Q Kd.string 9 W base (fun k=>k ≠ g) v q:=by
 obtain ⟨p,a,b,h4,h5⟩:=h.src
 exact Kd.Q_mono (IsS110.apartQ h4 hq (by decide)) (fun _ h=>h.2)
theorem En.ints (h:En w0 W g s0 P) {base:Nat} {v:Value} {q:List Int} (hq:Kd.Q (Kd.int .i64) 2 W base (fun _=>True) v q):Kd.Q (Kd.int .i64) 2 W base (fun k=>k ≠ g) v q:=by
 obtain ⟨p,a,b,h4,h5⟩:=h.src
 exact Kd.Q_mono (IsS110.apartQ h4 hq (by decide)) (fun _ h=>h.2)
theorem En.rowQ {V w:World} [cc:OnW V W] (h:Aside0 (En w0 V g s0 P)) (hs:Stb g P) (hk:∀ W,P W → KeepBut w W g none) {v:Value} {q:List ByteArray} (ho:Kd.Q Kd.string 9 W' W.heap.size (fun _=>True) v q) (hb:Below W.heap.size W W') :
  Aside0 (En w0 W' g s0 fun W=>Kd.Q Kd.string 9 W w.heap.size (fun k=>k ≠ g) v q∧P W):=by
 have h1:=(h.1.on (W':=W) hs).below hs hb
 exact ⟨h1.with ⟨h1.row (Kd.Q_lower ho (En.size h hk)),h1.fact⟩⟩
theorem En.rowR {V w:World} [cc:OnW V W] (h:Aside0 (En w0 V g s0 P)) (hs:Stb g P) (hk:∀ W,P W → KeepBut w W g none) {v:Value} {q:List ByteArray} (ho:Kd.R Kd.string 9 W' W.heap.size (fun _=>True) v q) (hb:Below W.heap.size W W') :
  Aside0 (En w0 W' g s0 fun W=>Kd.Q Kd.string 9 W w.heap.size (fun k=>k ≠ g) v q∧P W):=En.rowQ h hs hk (Kd.Q_of_R ho) hb
theorem En.rowI {V w:World} [cc:OnW V W] (h:Aside0 (En w0 V g s0 P)) (hs:Stb g P) (hk:∀ W,P W → KeepBut w W g none) {v:Value} {q:List Int} (ho:Kd.R (Kd.int .i64) 2 W' W.heap.size (fun _=>True) v q) (hb:Below W.heap.size W W') :
  Aside0 (En w0 W' g s0 fun W=>Kd.Q (Kd.int .i64) 2 W w.heap.size (fun k=>k ≠ g) v q∧P W):=by
 have h1:=(h.1.on (W':=W) hs).below hs hb
 exact ⟨h1.with ⟨h1.ints (Kd.Q_lower (Kd.Q_of_R ho) (En.size h hk)),h1.fact⟩⟩
theorem En.fresh (h:En w0 W g s0 P):∀ k,W.heap.size ≤ k → k ≠ g:=by
 obtain ⟨⟨p,a,b,h1,h2⟩,h3,h4⟩:=h
 intro k hk
 have:=h1.lt
 omega
theorem En.rowE {V w:World} [cc:OnW V W] (h:Aside0 (En w0 V g s0 P)) (hs:Stb g P) (hk:∀ W,P W → KeepBut w W g none) {e:TypeId} {v:Value} {q:List Int} (ho:Kd.R (Kd.int .i64) e W' W.heap.size (fun _=>True) v q) (hb:Below W.heap.size W W') (he:∀ q,q ∈ e :: (Kd.int .i64).E → q ≠ 110) :
  Aside0 (En w0 W' g s0 fun W=>Kd.Q (Kd.int .i64) e W w.heap.size (fun k=>k ≠ g) v q∧P W):=by
 have h1:=(h.1.on (W':=W) hs).below hs hb
 obtain ⟨p,a,b,h4,h5⟩:=h1.src
 exact ⟨h1.with ⟨Kd.Q_mono (IsS110.apartQ h4 (Kd.Q_lower (Kd.Q_of_R ho) (En.size h hk)) he) (fun _ h=>h.2),h1.fact⟩⟩
theorem En.rowB {V w:World} [cc:OnW V W] (h:Aside0 (En w0 V g s0 P)) (hs:Stb g P) (hk:∀ W,P W → KeepBut w W g none) {v:Value} {q:List Int} (ho:Kd.R (Kd.int .u8) 5 W' W.heap.size (fun _=>True) v q) (hb:Below W.heap.size W W') :
  Aside0 (En w0 W' g s0 fun W=>Kd.R (Kd.int .u8) 5 W w.heap.size (fun k=>k ≠ g) v q∧P W):=by
 have h1:=(h.1.on (W':=W) hs).below hs hb
 obtain ⟨p,a,b,h4,h5⟩:=h1.src
 exact ⟨h1.with ⟨Kd.R_mono (IsS110.apart h4 (Kd.R_lower ho (En.size h hk)) (by decide)) (fun _ h=>h.2),h1.fact⟩⟩
theorem En.old {V:World} [cc:OnW V W] (h:Aside0 (En w0 V g s0 P)) {g2:Nat} {o:Obj} (hk:∀ W,P W → W.heap[g2]?=some o) (hg:g'=W.heap.size):Aside0 (g2 ≠ g'):=⟨by rw [hg];exact Nat.ne_of_lt (Nat.lt_of_lt_of_le (blk_lt (hk V h.1.fact)) cc.out.size)⟩
end
end Go.Proofs.Ytaaffhghpealjaa.A
namespace Go.Proofs.Ytaaffhghpealjaa.A
open Go.RowKit Go.Proofs.YtaaffhghpealjaaW.PrintWords Go.Proofs.YtaaffhghpealjaaW.PrintLast Go.Proofs.YtaaffhghpealjaaW.PrintMore
attribute [local go_sem] isSome_setCell max2_int min2_int max_two min_two max_three min_three max_four min_four
set_option linter.unusedVariables false
set_option linter.unusedSimpArgs false
def spec_LinkNew.f :Option (Int × List ByteArray × Int × Int × Int):=some (0,([]:List ByteArray),0,1,1)
set_option maxHeartbeats 8000000 in
set_option maxRecDepth 100000 in
theorem spec_LinkNew.calls  (r1:Int) (r2:List ByteArray) (r3:Int) (r4:Int) (r5:Int) (w:World) (h:spec_LinkNew.f =some (r1,r2,r3,r4,r5)) :
  Calls Try.prog 13 #[] w fun e w'=>∃ v1_:Value,e=.returned (.agg #[.int .i64 r1,v1_,.int .i64 r3,.int .i64 r4,.int .i64 r5])∧Kd.R Kd.string 9 w' w.heap.size (fun _=>True) v1_ r2∧Below w.heap.size w w':=by
 have hu24:=Try.underlying24;have HB:=Aside0.mk (Below.refl w.heap.size w);have H:(some (0,([]:List ByteArray),0,1,1))=some (r1,r2,r3,r4,r5):=h;clear h;simp only [Option.some.injEq,Prod.mk.injEq] at H;obtain ⟨rfl,rfl,rfl,rfl,rfl⟩:=H;go_enter Try.func13,Try.ntmps13;go_wp2_with (first|((with_reducible refine gate_dst (N:=0) rfl ?_);refine box_event ?hg (N:=0) ?hd (cs:=#[.int .i64 0,.slice none 0 0,.int .i64 0,.int .i64 0,.int .i64 0]) (t:=24) ?hr ?_;(case hd=>rfl);(case hg=>rfl);(case hr=>go_simp;try rfl);intro gb101 hg w1 hbox hb;have BK101:=Aside0.mk (hbox);have GW101:=gB HB hg;have GE101:=gB HB hg;replace HB:=tB HB hb;clear hb hbox hg;obtain ⟨hcz2_0,hcz2_1,hcz2_2,hcz2_3,hcz2_4⟩:=c5_ BK101;obtain ⟨hfz2_0,hfz2_1,hfz2_2,hfz2_3,hfz2_4⟩:=f5_ BK101));refine bodyPost_ret (results_cell_row rfl _ _ gb101 24 #[.int .i64 0,.slice none 0 0,.int .i64 0,.int .i64 1,.int .i64 1] (0,0) _ rfl (by (with_reducible repeat (first|apply kN|apply kD|apply kA));exact cp5 BK101.1) Try.underlying24 rfl (by kernel_rfl)) rfl ?_;exact ⟨_,by first|rfl|(simp [errW_none,errW_some] <;> rfl)|(simp [*,errW_none,errW_some] <;> rfl),by first|exact Kd.R_nil _ _ _ _ _|exact Kd.N_nil _ _ _ _ _|exact Kd.V_nil _ _ _ _ _|exact Kd.Q_nil _ _ _ _ _|exact Kd.S_nil _ _ _ _ _,by repeat (first|(with_reducible first|exact HB.1|apply qA|apply qN|apply qD|refine qS ?_ GE101.1)|exact HB.1)⟩
end Go.Proofs.Ytaaffhghpealjaa.A
namespace Go.Proofs.Ytaaffhghpealjaa.A
open Go.RowKit Go.Proofs.YtaaffhghpealjaaW.PrintWords Go.Proofs.YtaaffhghpealjaaW.PrintLast Go.Proofs.YtaaffhghpealjaaW.PrintMore
theorem lok_of {b:Int} {l:List ByteArray} {d w e:Int} (h1:0 ≤ b∧b ≤ 999999988) (h2:l.all tok=true) (h3:l.length ≤ 12) (h4:0 ≤ d∧d ≤ 2000000) (h5:1 ≤ w∧w ≤ 64) (h6:1 ≤ e∧e ≤ 1000000000):lok b l d w e=true:=by
 unfold lok
 rw [rg_iff.2 h1,h2,rg_iff.2 h4,rg_iff.2 h5,rg_iff.2 h6]
 simp
 omega
theorem put_right {b:Int} {l:List ByteArray} {d w e:Int} {t:ByteArray} {n:Int} {r1 r3 r4 r5 r8:Int} {r2:List ByteArray} {r6:List S38} {r7:ByteArray} (h:putV b l d w e t n=(r1,r2,r3,r4,r5,r6,r7,r8)) (h0:r8=0):lok r1 r2 r3 r4 r5=true∧r1 + (r2.length:Int) ≤ b + (l.length:Int) + 1:=by
 unfold putV ill at h
 split at h
 ·simp at h;omega
 ·split at h
  ·rename_i hc
   simp only [Bool.and_eq_true] at hc
   obtain ⟨hk,ht,hn⟩:=hc
   obtain ⟨k1,⟨k2,k3⟩,k4,k5,k6⟩:=lok_iff hk
   have k7:=rg_iff.1 hn
   split at h
   ·simp at h;omega
   ·rename_i hf
    simp only [Prod.mk.injEq] at h
    obtain ⟨rfl,rfl,rfl,rfl,rfl,-⟩:=h
    refine ⟨lok_of k1 ?_ ?_ ?_ ?_ k6,by rw [List.length_append,List.length_singleton];omega⟩
    ·rw [List.all_append,k2];simp [ht]
    ·rw [List.length_append,List.length_singleton];omega
    ·split <;> omega
    ·split <;> omega
  ·simp at h;omega
theorem tick_right {b:Int} {l:List ByteArray} {d w e n:Int} {r1 r3 r4 r5 r8:Int} {r2:List ByteArray} {r6:List S38} {r7:ByteArray} (h:tickV b l d w e n=(r1,r2,r3,r4,r5,r6,r7,r8)) (h0:r8=0):lok r1 r2 r3 r4 r5=true∧r1 + (r2.length:Int) ≤ b + (l.length:Int) + 1:=by
 unfold tickV ill at h
 split at h
 ·rename_i hc
  simp only [Bool.and_eq_true] at hc
  obtain ⟨hk,hn⟩:=hc
  obtain ⟨k1,⟨k2,k3⟩,k4,k5,k6⟩:=lok_iff hk
  have k7:=rg_iff.1 hn
  split at h
  ·simp only [Prod.mk.injEq] at h
   obtain ⟨rfl,rfl,rfl,rfl,rfl,-⟩:=h
   exact ⟨hk,by omega⟩
  ·simp only [Prod.mk.injEq] at h
   obtain ⟨rfl,rfl,rfl,rfl,rfl,-⟩:=h
   refine ⟨lok_of k1 k2 (by omega) ?_ ?_ k6,by omega⟩
   ·rw [w64 (by omega) (by omega)];omega
   ·rw [w64 (by omega) (by omega)]
    unfold mn
    split <;> omega
 ·simp at h;omega
theorem all_dropT {l:List ByteArray} {n:Nat} (h:l.all tok=true):(l.drop n).all tok=true:=by
 rw [List.all_eq_true] at h ⊢
 exact fun x hx=>h x (List.mem_of_mem_drop hx)
theorem hear_right {b:Int} {l:List ByteArray} {d w e a s:Int} {t:ByteArray} {r1 r3 r4 r5 r8:Int} {r2:List ByteArray} {r6:List S38} {r7:ByteArray} (h:hearV b l d w e a s t=(r1,r2,r3,r4,r5,r6,r7,r8)) (h0:r8=0) (hx:b + (l.length:Int) < 1000000000) (hy:a=1 ∨ s ≤ 999999988 ∨ 1000000000 ≤ s):lok r1 r2 r3 r4 r5=true∧r1 + (r2.length:Int) ≤ b + (l.length:Int) + 1:=by
 unfold hearV hearR ill at h
 split at h
 ·rename_i hc
  simp only [Bool.and_eq_true] at hc
  obtain ⟨hk,hf⟩:=hc
  obtain ⟨k1,⟨k2,k3⟩,k4,k5,k6⟩:=lok_iff hk
  split at h
  ·split at h
   ·split at h
    ·simp at h;omega
    ·simp only [Prod.mk.injEq] at h
     obtain ⟨rfl,rfl,rfl,rfl,rfl,-⟩:=h
     exact ⟨lok_of k1 k2 (by omega) k4 k5 (by omega),by omega⟩
   ·simp only [Prod.mk.injEq] at h
    obtain ⟨rfl,rfl,rfl,rfl,rfl,-⟩:=h
    exact ⟨hk,by omega⟩
  ·split at h
   ·simp only [Prod.mk.injEq] at h
    obtain ⟨rfl,rfl,rfl,rfl,rfl,-⟩:=h
    have hb:=fok_bounds hf
    rename_i hn hs
    refine ⟨lok_of (by omega) (all_dropT k2) (by rw [List.length_drop];omega) k4 (by omega) k6,by rw [List.length_drop];omega⟩
   ·simp only [Prod.mk.injEq] at h
    obtain ⟨rfl,rfl,rfl,rfl,rfl,-⟩:=h
    exact ⟨hk,by omega⟩
 ·simp at h;omega
section
variable {A:Option Addr} {c:Nat} {b d x y:Int} {l:List ByteArray} {W:World} {r1 r3 r4 r5 r8:Int} {r2:List ByteArray} {r6:List S38} {r7:ByteArray} (hr:Kd.C Kd.string W A l.length l) (hc:l.length ≤ c) (hm:l.length ≤ 1048576)
include hr hc hm
theorem putC {t:ByteArray} {n:Int} (h:putV b l d x y t n=(r1,r2,r3,r4,r5,r6,r7,r8)) :
  Calls Try.prog 37 #[.agg #[.int .i64 b,.slice A l.length c,.int .i64 d,.int .i64 x,.int .i64 y],.string t,.int .i64 n] W fun e w'=>∃ v1_ v5_:Value,e=.returned (.agg #[.int .i64 r1,v1_,.int .i64 r3,.int .i64 r4,.int .i64 r5,v5_,.string r7,.int .i64 r8])∧Kd.R Kd.string 9 w' W.heap.size (fun _=>True) v1_ r2∧Kd.R k38 38 w' W.heap.size (fun _=>True) v5_ r6∧Below W.heap.size W w':=by
 obtain ⟨K,hK⟩:=put_spec b l d x y t n hm
 exact spec_LinkPut.calls K _ _ _ _ _ _ _ _ _ _ _ _ _ _ _ _ _ W hr hc ((hK K (Nat.le_refl _)).trans (congrArg some h))
theorem tickC {n:Int} (h:tickV b l d x y n=(r1,r2,r3,r4,r5,r6,r7,r8)) :
  Calls Try.prog 33 #[.agg #[.int .i64 b,.slice A l.length c,.int .i64 d,.int .i64 x,.int .i64 y],.int .i64 n] W fun e w'=>∃ v1_ v5_:Value,e=.returned (.agg #[.int .i64 r1,v1_,.int .i64 r3,.int .i64 r4,.int .i64 r5,v5_,.string r7,.int .i64 r8])∧Kd.R Kd.string 9 w' W.heap.size (fun _=>True) v1_ r2∧Kd.R k38 38 w' W.heap.size (fun _=>True) v5_ r6∧Below W.heap.size W w':=by
 obtain ⟨K,hK⟩:=tick_spec b l d x y n hm
 exact spec_LinkTick.calls K _ _ _ _ _ _ _ _ _ _ _ _ _ _ _ _ W hr hc ((hK K (Nat.le_refl _)).trans (congrArg some h))
theorem hearC {a s:Int} {t:ByteArray} (h:hearV b l d x y a s t=(r1,r2,r3,r4,r5,r6,r7,r8)) :
  Calls Try.prog 38 #[.agg #[.int .i64 b,.slice A l.length c,.int .i64 d,.int .i64 x,.int .i64 y],.agg #[.int .i64 a,.int .i64 s,.string t]] W fun e w'=>∃ v1_ v5_:Value,e=.returned (.agg #[.int .i64 r1,v1_,.int .i64 r3,.int .i64 r4,.int .i64 r5,v5_,.string r7,.int .i64 r8])∧Kd.Q Kd.string 9 w' W.heap.size (fun _=>True) v1_ r2∧Kd.R k38 38 w' W.heap.size (fun _=>True) v5_ r6∧Below W.heap.size W w':=by
 obtain ⟨K,hK⟩:=hear_spec b l d x y a s t hm
 exact spec_LinkHear.calls K _ _ _ _ _ _ _ _ _ _ _ _ _ _ _ _ _ _ W hr hc ((hK K (Nat.le_refl _)).trans (congrArg some h))
end
end Go.Proofs.Ytaaffhghpealjaa.A
