/- Plain Lean functions for Go functions of the seat, and that a call of each Go function comes to what its plain function says; conditions: its slices read as the lists named. Written by a program of this session with the kit's print.py. -/
import Derived.Test.YtaaffhghpealjaaAx0
import Derived.Test.YtaaffhghpealjaaF59
import Derived.Test.YtaaffhghpealjaaF65
namespace Go.Proofs.Ytaaffhghpealjaa.A
open Go.RowKit Go.Proofs.YtaaffhghpealjaaW.PrintWords Go.Proofs.YtaaffhghpealjaaW.PrintLast Go.Proofs.YtaaffhghpealjaaW.PrintMore
attribute [local go_sem] isSome_setCell max2_int min2_int max_two min_two max_three min_three max_four min_four   -- for this text's walks alone
set_option linter.unusedVariables false
set_option linter.unusedSimpArgs false

/-! ### spec_l01Four: function 101 -/
def spec_l01Four.f (a0:Int):Option (ByteArray):=some (strOfNums (([(a0) % 256,(a0 / 256) % 256,(a0 / 65536) % 256,(a0 / 16777216) % 256]:List Int)))
set_option maxHeartbeats 8000000 in
set_option maxRecDepth 100000 in
theorem spec_l01Four.calls (a0:Int) (r:ByteArray) (w:World) (h:spec_l01Four.f a0=some r) :
  Calls Try.prog 101 #[.int .i64 a0] w fun e w'=>e=.returned (.string r)∧Below w.heap.size w w':=by
 have HB:=Aside0.mk (Below.refl w.heap.size w);have H:(some (strOfNums (([(a0) % 256,(a0 / 256) % 256,(a0 / 65536) % 256,(a0 / 16777216) % 256]:List Int))))=some r:=h;clear h;obtain ⟨y216,hy216⟩:∃ y_:List Int,y_=(([(a0) % 256,(a0 / 256) % 256,(a0 / 65536) % 256,(a0 / 16777216) % 256]:List Int)):=⟨_,rfl⟩;replace H:(some (strOfNums y216))=some r:=(by first|(rw [hy216];with_reducible exact H)|(have H2_:=(Option.bind_some _ _).symm.trans H;rw [hy216];with_reducible exact H2_)|(have H2_:=(Option.bind_some _ _).symm.trans H;with_reducible exact H2_)|with_reducible exact H|(rw [hy216];exact H)|exact H);have Ny216:=Aside0.mk hy216;clear hy216;obtain rfl:=Option.some.inj H;go_enter Try.func101,Try.ntmps101;go_wp2_with (first|((with_reducible refine gate_dst (N:=14) rfl ?_);refine Kd.R_lit (Kd.int .u8) _ 5 ?hg (N:=14) ?hd (xs:=([(a0) % 256,(a0 / 256) % 256,(a0 / 65536) % 256,(a0 / 16777216) % 256]:List Int)) (inner:=[.int .u8 ((a0) % 256),.int .u8 ((a0 / 256) % 256),.int .u8 ((a0 / 65536) % 256),.int .u8 ((a0 / 16777216) % 256)]) (ok:=fun _=>True) (okp:=fun _=>True) ?hr ?hp (fun _ hk=>hk) trivial (Below.refl _ _) (Nat.le_refl _) (by simp) ?_;(case hd=>rfl);(case hg=>rfl);(case hr=>go_simp;try rfl);(case hp=>exact (Reps.one (show Kd.M (Kd.int .u8) _ _ _ ((a0) % 256) [.int .u8 ((a0) % 256)] from rfl) (Reps.one (show Kd.M (Kd.int .u8) _ _ _ ((a0 / 256) % 256) [.int .u8 ((a0 / 256) % 256)] from rfl) (Reps.one (show Kd.M (Kd.int .u8) _ _ _ ((a0 / 65536) % 256) [.int .u8 ((a0 / 65536) % 256)] from rfl) (Reps.one (show Kd.M (Kd.int .u8) _ _ _ ((a0 / 16777216) % 256) [.int .u8 ((a0 / 16777216) % 256)] from rfl) (Reps.none _ _))))));intro v217 w2 ho3 hb hg_ hnew_;clear hg_ hnew_;(first|rw [← Ny216.1] at ho3|(simp only [Int.reduceToNat] at ho3;rw [← Ny216.1] at ho3));have HO218:=Aside0.mk (Kd.R_lower ho3 (zB HB));replace HB:=tB HB hb;clear hb ho3;have hcv4:=own_string (P:=Try.prog) Try.underlying41 Try.underlying5 Try.underlying9 (Kd.own_of_R HO218.1)));go_ret;exact ⟨by first|rfl|(simp [errW_none,errW_some] <;> rfl)|(simp [*,errW_none,errW_some] <;> rfl),by repeat (first|(with_reducible first|exact HB.1|apply qA|apply qN|apply qD)|exact HB.1)⟩

/-! ### spec_l01Crc: function 102 -/
mutual
def spec_l01Crc.l0:Nat → ByteArray → Int → Int → Option (Int)
 | 0,_,_,_=>none
 | k + 1,x1,x5,x6=>if x6 < (x1.size:Int) then (if 0 ≤ x6 then (spec_l01Crc.l1 k x1 (Go.bits .xor .u32 x5 ((bt x1 x6) % 4294967296)) x6 0) else (none)) else (some (wrap64 (Go.bits .xor .u32 x5 4294967295)))
def spec_l01Crc.l1:Nat → ByteArray → Int → Int → Int → Option (Int)
 | 0,_,_,_,_=>none
 | k + 1,x1,x5,x6,x7=>if x7 < 8 then (if (Go.bits .and .u32 x5 1)=1 then (spec_l01Crc.l1 k x1 (Go.bits .xor .u32 (x5 / 2) 3988292384) x6 (wrap64 (x7 + 1))) else (spec_l01Crc.l1 k x1 (x5 / 2) x6 (wrap64 (x7 + 1)))) else (spec_l01Crc.l0 k x1 x5 (wrap64 (x6 + 1)))
end
def spec_l01Crc.f (k:Nat) (a0:Int) (a1:ByteArray):Option (Int):=spec_l01Crc.l0 k a1 (Go.bits .xor .u32 ((a0) % 4294967296) 4294967295) 0
theorem spec_l01Crc.mono_l:∀ k,(∀ y0 y1 y2,LeO (spec_l01Crc.l0 k y0 y1 y2) (spec_l01Crc.l0 (k + 1) y0 y1 y2))∧(∀ y0 y1 y2 y3,LeO (spec_l01Crc.l1 k y0 y1 y2 y3) (spec_l01Crc.l1 (k + 1) y0 y1 y2 y3))
 | 0=>⟨fun _ _ _ r h=>by simp [spec_l01Crc.l0] at h,fun _ _ _ _ r h=>by simp [spec_l01Crc.l1] at h⟩
 | k + 1=>by
  obtain ⟨ih0,ih1⟩:=spec_l01Crc.mono_l k;refine ⟨?_,?_⟩
  ·intro y0 y1 y2;unfold spec_l01Crc.l0;repeat' first | (with_reducible first | exact ih0 _ _ _ | exact ih1 _ _ _ _ | exact LeO.refl _ | exact LeO.none _ | refine LeO.ite ?_ ?_ | refine LeO.bind ?_ (fun _=>?_)) | exact LeO.none _ | refine LeO.ite ?_ ?_ | refine LeO.bind ?_ (fun _=>?_)
  ·intro y0 y1 y2 y3;unfold spec_l01Crc.l1;repeat' first | (with_reducible first | exact ih0 _ _ _ | exact ih1 _ _ _ _ | exact LeO.refl _ | exact LeO.none _ | refine LeO.ite ?_ ?_ | refine LeO.bind ?_ (fun _=>?_)) | exact LeO.none _ | refine LeO.ite ?_ ?_ | refine LeO.bind ?_ (fun _=>?_)
theorem spec_l01Crc.mono:∀ a0 a1 k,LeO (spec_l01Crc.f k a0 a1) (spec_l01Crc.f (k + 1) a0 a1):=by
 intro a0 a1 k;obtain ⟨ih0,ih1⟩:=spec_l01Crc.mono_l k;unfold spec_l01Crc.f
 repeat' first | (with_reducible first | exact ih0 _ _ _ | exact ih1 _ _ _ _ | exact LeO.refl _ | exact LeO.none _ | refine LeO.ite ?_ ?_ | refine LeO.bind ?_ (fun _=>?_)) | exact LeO.none _ | refine LeO.ite ?_ ?_ | refine LeO.bind ?_ (fun _=>?_)
set_option maxHeartbeats 8000000 in
set_option maxRecDepth 100000 in
theorem spec_l01Crc.calls (k:Nat) (a0:Int) (a1:ByteArray) (r:Int) (w:World) (h:spec_l01Crc.f k a0 a1=some r) :
  Calls Try.prog 102 #[.int .i64 a0,.string a1] w fun e w'=>e=.returned (.int .i64 r)∧Drawn0 w w':=by
 have H:(spec_l01Crc.l0 k a1 (Go.bits .xor .u32 ((a0) % 4294967296) 4294967295) 0)=some r:=h;clear h;have H':=Aside0.mk H;clear H;go_enter Try.func102,Try.ntmps102;go_wp2;go_loopg [5,6] k (fun kq v5 v6 w'=>∃ (x5_1:Int) (x6_1:Int),v5=.int .u32 x5_1∧v6=.int .i64 x6_1∧Aside0 (spec_l01Crc.l0 kq a1 x5_1 x6_1=some r)∧Aside0 (kq ≤ k)∧Drawn0 w w');case atStart=>exact ⟨(Go.bits .xor .u32 ((a0) % 4294967296) 4294967295),(0),(by first|rfl|(simp;done)|(simp [*];done)),(by first|rfl|(simp;done)|(simp [*];done)),H',⟨Nat.le_refl _⟩,by repeat (first|exact Drawn0.refl _|apply Drawn0.step)⟩
 case round =>
  clear H';(try clear c1);(try clear p2);obtain ⟨x5_1,x6_1,rfl,rfl,HA,HK1,⟨m1,rfl⟩⟩:=hrel;cases gk with
  | zero=>exact absurd HA.1 (by simp [spec_l01Crc.l0])
  | succ k1 =>
   have H:=HA.1;clear HA;simp only [spec_l01Crc.l0] at H;by_cases c3:x6_1 < (a1.size:Int)
   ·rw [if_pos c3] at H;have c3b0:decide (x6_1 < (a1.size:Int))=true:=decide_eq_true c3;clear c3;by_cases c4:0 ≤ x6_1
    ·rw [if_pos c4] at H;have c4b0:decide (0 ≤ x6_1)=true:=decide_eq_true c4;clear c4;have H':=Aside0.mk H;clear H;have p5:0 ≤ (x6_1:Int):=of_decide_eq_true (by first|(with_reducible assumption)|assumption);have q5:x6_1 < (a1.size:Int):=of_decide_eq_true (by first|(with_reducible assumption)|assumption);have hx5:=bt_at a1 x6_1;replace p5:=eq_true p5;replace q5:=eq_true q5;go_wp2;go_loopg [5,7] k1 (fun kq v5 v7 w'=>∃ (x5_2:Int) (x7_2:Int),v5=.int .u32 x5_2∧v7=.int .i64 x7_2∧Aside0 (spec_l01Crc.l1 kq a1 x5_2 x6_1 x7_2=some r)∧Aside0 (kq ≤ k1)∧Drawn0 w w');case atStart=>exact ⟨(Go.bits .xor .u32 x5_1 ((bt a1 x6_1) % 4294967296)),(0),(by first|rfl|(simp;done)|(simp [*];done)),(by first|rfl|(simp;done)|(simp [*];done)),H',⟨Nat.le_refl _⟩,by repeat (first|exact Drawn0.refl _|apply Drawn0.step)⟩
     case round =>
      clear H';(try clear c1);(try clear p2);(try clear c3);(try clear c3b0);(try clear c4);(try clear c4b0);(try clear p5);(try clear q5);(try clear hx5);(try clear p2);(try clear p5);(try clear q5);obtain ⟨x5_2,x7_2,rfl,rfl,HA,HK2,⟨m2,rfl⟩⟩:=hrel;cases gk with
      | zero=>exact absurd HA.1 (by simp [spec_l01Crc.l1])
      | succ k2 =>
       have H:=HA.1;clear HA;simp only [spec_l01Crc.l1] at H;by_cases c6:x7_2 < 8
       ·rw [if_pos c6] at H;have c6b0:decide (x7_2 < 8)=true:=decide_eq_true c6;clear c6;by_cases c7:(Go.bits .and .u32 x5_2 1)=1
        ·rw [if_pos c7] at H;have c7b0:((Go.bits .and .u32 x5_2 1) == 1)=true:=beq_iff_eq.mpr c7;have c7b1:((Go.bits .and .u32 x5_2 1) != 1)=false:=bne_eq_false_iff_eq.mpr c7;clear c7;have H':=Aside0.mk H;clear H;go_wp2;go_roundg k2;case measure=>have:=HK1.1;have:=HK2.1;omega
         case rel=>exact ⟨(Go.bits .xor .u32 (x5_2 / 2) 3988292384),(wrap64 (x7_2 + 1)),(by first|rfl|(simp;done)|(simp [*];done)),(by first|rfl|(simp;done)|(simp [*];done)),H',⟨by have:=HK1.1;have:=HK2.1;omega⟩,by repeat (first|exact Drawn0.refl _|apply Drawn0.step)⟩
        ·rw [if_neg c7] at H;have c7b0:((Go.bits .and .u32 x5_2 1) == 1)=false:=beq_eq_false_iff_ne.mpr c7;have c7b1:((Go.bits .and .u32 x5_2 1) != 1)=true:=bne_iff_ne.mpr c7;have H':=Aside0.mk H;clear H;go_wp2;go_roundg k2;case measure=>have:=HK1.1;have:=HK2.1;omega
         case rel=>exact ⟨(x5_2 / 2),(wrap64 (x7_2 + 1)),(by first|rfl|(simp;done)|(simp [*];done)),(by first|rfl|(simp;done)|(simp [*];done)),H',⟨by have:=HK1.1;have:=HK2.1;omega⟩,by repeat (first|exact Drawn0.refl _|apply Drawn0.step)⟩
       ·rw [if_neg c6] at H;have c6b0:decide (x7_2 < 8)=false:=decide_eq_false c6;clear c6;have H':=Aside0.mk H;clear H;go_wp2;go_roundg k2;case measure=>have:=HK1.1;have:=HK2.1;omega
        case rel=>exact ⟨(x5_2),(wrap64 (x6_1 + 1)),(by first|rfl|(simp;done)|(simp [*];done)),(by first|rfl|(simp;done)|(simp [*];done)),H',⟨by have:=HK1.1;have:=HK2.1;omega⟩,by repeat (first|exact Drawn0.refl _|apply Drawn0.step)⟩
    ·rw [if_neg c4] at H;exact absurd H (by simp)
   ·rw [if_neg c3] at H;have c3b0:decide (x6_1 < (a1.size:Int))=false:=decide_eq_false c3;clear c3;obtain rfl:=Option.some.inj H;go_wp2;go_ret;exact ⟨by first|rfl|(simp;done)|(simp [*];done),by repeat (first|exact Drawn0.refl _|apply Drawn0.step)⟩

/-! ### spec_Seal: function 92 -/
def spec_Seal.f (k:Nat) (a0:ByteArray):Option (ByteArray):=if (a0.size:Int) > 19996 then (some (⟨#[]⟩:ByteArray)) else ((spec_l01Crc.f k 0 a0).bind fun t219=>((spec_l01Four.f t219).bind fun t220=>(if a0.size + t220.size ≤ 9223372036854775807 then (some (a0 ++ t220)) else (none))))
theorem spec_Seal.mono:∀ a0 k,LeO (spec_Seal.f k a0) (spec_Seal.f (k + 1) a0):=by
 intro a0 k;unfold spec_Seal.f
 repeat' first | (with_reducible first | exact spec_l01Crc.mono _ _ _ | exact LeO.refl _ | exact LeO.none _ | refine LeO.ite ?_ ?_ | refine LeO.bind ?_ (fun _=>?_)) | exact LeO.none _ | refine LeO.ite ?_ ?_ | refine LeO.bind ?_ (fun _=>?_)
set_option maxHeartbeats 8000000 in
set_option maxRecDepth 100000 in
theorem spec_Seal.calls (k:Nat) (a0:ByteArray) (r:ByteArray) (w:World) (h:spec_Seal.f k a0=some r) :
  Calls Try.prog 92 #[.string a0] w fun e w'=>e=.returned (.string r)∧Below w.heap.size w w':=by
 have HB:=Aside0.mk (Below.refl w.heap.size w);have H:(if (a0.size:Int) > 19996 then (some (⟨#[]⟩:ByteArray)) else ((spec_l01Crc.f k 0 a0).bind fun t219=>((spec_l01Four.f t219).bind fun t220=>(if a0.size + t220.size ≤ 9223372036854775807 then (some (a0 ++ t220)) else (none)))))=some r:=h;clear h;by_cases c2:(a0.size:Int) > 19996
 ·rw [if_pos c2] at H;have c2b0:decide (19996 < (a0.size:Int))=true:=decide_eq_true c2;have c2b1:decide (19996 < a0.size)=true:=decide_eq_true (by omega);clear c2;obtain rfl:=Option.some.inj H;go_enter Try.func92,Try.ntmps92;go_wp2;go_ret;exact ⟨by first|rfl|(simp [errW_none,errW_some] <;> rfl)|(simp [*,errW_none,errW_some] <;> rfl),by repeat (first|(with_reducible first|exact HB.1|apply qA|apply qN|apply qD)|exact HB.1)⟩
 ·rw [if_neg c2] at H;have c2b0:decide (19996 < (a0.size:Int))=false:=decide_eq_false c2;have c2b1:decide (19996 < a0.size)=false:=decide_eq_false (by omega);clear c2;replace H:=bS H;obtain ⟨t219,A30,H⟩:=H;replace H:((spec_l01Four.f t219).bind fun t220=>(if a0.size + t220.size ≤ 9223372036854775807 then (some (a0 ++ t220)) else (none)))=some r:=H;have A3:=Aside0.mk A30;clear A30;replace H:=bS H;obtain ⟨t220,A40,H⟩:=H;replace H:(if a0.size + t220.size ≤ 9223372036854775807 then (some (a0 ++ t220)) else (none))=some r:=H;have A4:=Aside0.mk A40;clear A40;by_cases c5:a0.size + t220.size ≤ 9223372036854775807
  ·rw [if_pos c5] at H;have c5b0:=eq_true c5;have c5b1:decide (a0.size + t220.size ≤ 9223372036854775807)=true:=decide_eq_true c5;(try have c5b2:(9223372036854775807 < a0.size + t220.size)=False:=eq_false (Nat.not_lt.2 c5));obtain rfl:=Option.some.inj H;go_enter Try.func92,Try.ntmps92;go_wp2_with (first|((with_reducible refine gC 102 rfl ?_);refine gL 8 Try.func102 #[.int .i64 0,.string a0] ?_;(with_reducible refine (spec_l01Crc.calls k 0 a0 t219 _ A3.1).mono ?_);rintro e w' ⟨rfl,⟨nd,rfl⟩⟩;refine ⟨_,rfl,?_⟩)|((with_reducible refine gC 101 rfl ?_);refine gL 9 Try.func101 #[.int .i64 t219] ?_;(with_reducible refine (spec_l01Four.calls t219 t220 _ A4.1).mono ?_);rintro e w6 ⟨rfl,hb⟩;refine ⟨_,rfl,?_⟩;replace HB:=tB HB hb;(try clear hb);(try clear hb2);(try clear hk);(try clear hi)));go_ret;exact ⟨by first|rfl|(simp [errW_none,errW_some] <;> rfl)|(simp [*,errW_none,errW_some] <;> rfl),by repeat (first|(with_reducible first|exact HB.1|apply qA|apply qN|apply qD)|exact HB.1)⟩
  ·rw [if_neg c5] at H;exact absurd H (by simp)


/-! ### spec_l01Fold: function 107 -/
def spec_l01Fold.f (a0:Int):Option (Int):=if a0 < 0 then (some (IntKind.u64.wrap ((IntKind.u64.wrap (2 * (IntKind.u64.wrap (wrap64 (-(wrap64 (a0 + 1))))))) + 1))) else (some (IntKind.u64.wrap (2 * (IntKind.u64.wrap (a0)))))
set_option maxHeartbeats 8000000 in
set_option maxRecDepth 100000 in
theorem spec_l01Fold.calls (a0:Int) (r:Int) (w:World) (h:spec_l01Fold.f a0=some r) :
  Calls Try.prog 107 #[.int .i64 a0] w fun e w'=>e=.returned (.int .u64 r)∧Drawn0 w w':=by
 have H:(if a0 < 0 then (some (IntKind.u64.wrap ((IntKind.u64.wrap (2 * (IntKind.u64.wrap (wrap64 (-(wrap64 (a0 + 1))))))) + 1))) else (some (IntKind.u64.wrap (2 * (IntKind.u64.wrap (a0))))))=some r:=h;clear h;by_cases c2:a0 < 0
 ·rw [if_pos c2] at H;have c2b0:decide (a0 < 0)=true:=decide_eq_true c2;clear c2;obtain rfl:=Option.some.inj H;go_enter Try.func107,Try.ntmps107;go_wp2;go_ret;exact ⟨by first|rfl|(simp;done)|(simp [*];done),by repeat (first|exact Drawn0.refl _|apply Drawn0.step)⟩
 ·rw [if_neg c2] at H;have c2b0:decide (a0 < 0)=false:=decide_eq_false c2;clear c2;obtain rfl:=Option.some.inj H;go_enter Try.func107,Try.ntmps107;go_wp2;go_ret;exact ⟨by first|rfl|(simp;done)|(simp [*];done),by repeat (first|exact Drawn0.refl _|apply Drawn0.step)⟩

/-! ### spec_PutNum: function 93 -/
def spec_PutNum.l0:Nat → Int → List Int → Option (ByteArray)
 | 0,_,_=>none
 | k + 1,x3,x4=>if x3 ≥ 128 then (if x4.length < 140737488355328 then (spec_PutNum.l0 k (IntKind.u64.wrap (Int.tdiv x3 128)) (x4 ++ [(IntKind.u64.wrap ((Int.tmod x3 128) + 128)) % 256])) else (none)) else (if x4.length < 140737488355328 then (some (strOfNums (x4 ++ [(x3) % 256]))) else (none))
def spec_PutNum.f (k:Nat) (a0:Int):Option (ByteArray):=(spec_l01Fold.f a0).bind fun t221=>(spec_PutNum.l0 k t221 (([]:List Int)))
theorem spec_PutNum.mono_l:∀ k,(∀ y0 y1,LeO (spec_PutNum.l0 k y0 y1) (spec_PutNum.l0 (k + 1) y0 y1))
 | 0=>fun _ _ r h=>by simp [spec_PutNum.l0] at h
 | k + 1=>by
  have ih0:=spec_PutNum.mono_l k
  ·intro y0 y1;unfold spec_PutNum.l0;repeat' first | (with_reducible first | exact ih0 _ _ | exact LeO.refl _ | exact LeO.none _ | refine LeO.ite ?_ ?_ | refine LeO.bind ?_ (fun _=>?_)) | exact LeO.none _ | refine LeO.ite ?_ ?_ | refine LeO.bind ?_ (fun _=>?_)
theorem spec_PutNum.mono:∀ a0 k,LeO (spec_PutNum.f k a0) (spec_PutNum.f (k + 1) a0):=by
 intro a0 k;have ih0:=spec_PutNum.mono_l k;unfold spec_PutNum.f
 repeat' first | (with_reducible first | exact ih0 _ _ | exact LeO.refl _ | exact LeO.none _ | refine LeO.ite ?_ ?_ | refine LeO.bind ?_ (fun _=>?_)) | exact LeO.none _ | refine LeO.ite ?_ ?_ | refine LeO.bind ?_ (fun _=>?_)
set_option maxHeartbeats 8000000 in
set_option maxRecDepth 100000 in
theorem spec_PutNum.calls (k:Nat) (a0:Int) (r:ByteArray) (w:World) (h:spec_PutNum.f k a0=some r) :
  Calls Try.prog 93 #[.int .i64 a0] w fun e w'=>e=.returned (.string r)∧Below w.heap.size w w':=by
 have HB:=Aside0.mk (Below.refl w.heap.size w);have H:((spec_l01Fold.f a0).bind fun t221=>(spec_PutNum.l0 k t221 (([]:List Int))))=some r:=h;clear h;replace H:=bS H;obtain ⟨t221,A20,H⟩:=H;replace H:(spec_PutNum.l0 k t221 (([]:List Int)))=some r:=H;have A2:=Aside0.mk A20;clear A20;obtain ⟨y222,hy222⟩:∃ y_:List Int,y_=(([]:List Int)):=⟨_,rfl⟩;replace H:(spec_PutNum.l0 k t221 y222)=some r:=(by first|(rw [hy222];with_reducible exact H)|(have H2_:=(Option.bind_some _ _).symm.trans H;rw [hy222];with_reducible exact H2_)|(have H2_:=(Option.bind_some _ _).symm.trans H;with_reducible exact H2_)|with_reducible exact H|(rw [hy222];exact H)|exact H);have Ny222:=Aside0.mk hy222;clear hy222;have H':=Aside0.mk H;clear H;go_enter Try.func93,Try.ntmps93;go_wp2_with (first|((with_reducible refine gC 107 rfl ?_);refine gL 6 Try.func107 #[.int .i64 a0] ?_;(with_reducible refine (spec_l01Fold.calls a0 t221 _ A2.1).mono ?_);rintro e w' ⟨rfl,⟨nd,rfl⟩⟩;refine ⟨_,rfl,?_⟩)|((with_reducible refine gate_dst (N:=7) rfl ?_);refine Kd.R_lit (Kd.int .u8) _ 5 ?hg (N:=7) ?hd (xs:=([]:List Int)) (inner:=[]) (ok:=fun _=>True) (okp:=fun _=>True) ?hr ?hp (fun _ hk=>hk) trivial (Below.refl _ _) (Nat.le_refl _) (by simp) ?_;(case hd=>rfl);(case hg=>rfl);(case hr=>go_simp;try rfl);(case hp=>exact (Reps.none _ _));intro v223 w3 ho4 hb hg_ hnew_;clear hg_ hnew_;(first|rw [← Ny222.1] at ho4|(simp only [Int.reduceToNat] at ho4;rw [← Ny222.1] at ho4));have HO224:=Aside0.mk (Kd.R_lower ho4 (zB HB));replace HB:=tB HB hb;clear hb ho4));go_loopg [3,4] k (fun kq v3 v4 w'=>∃ (x3_1:Int) (x4_1:List Int),v3=.int .u64 x3_1∧Aside0 (spec_PutNum.l0 kq x3_1 x4_1=some r)∧Aside0 (kq ≤ k)∧Aside0 (Kd.R (Kd.int .u8) 5 w' w.heap.size (fun _=>True) v4 x4_1)∧Aside0 (Below w.heap.size w w'));case atStart=>exact ⟨(t221),(y222),(by first|rfl|(simp;done)|(simp [*];done)),H',⟨Nat.le_refl _⟩,⟨by (with_reducible repeat (first|apply rA|apply rN|apply rD));exact HO224.1⟩,⟨by repeat (first|(with_reducible first|exact HB.1|apply qA|apply qN|apply qD)|exact HB.1)⟩⟩
 case round =>
  clear H';(try clear c1);(try clear p2);obtain ⟨x3_1,x4_1,rfl,HA,HK1,HO_4,HB⟩:=hrel;cases gk with
  | zero=>exact absurd HA.1 (by simp [spec_PutNum.l0])
  | succ k1 =>
   have H:=HA.1;clear HA;simp only [spec_PutNum.l0] at H;by_cases c5:x3_1 ≥ 128
   ·rw [if_pos c5] at H;have c5b0:decide (128 ≤ x3_1)=true:=decide_eq_true c5;clear c5;by_cases c6:x4_1.length < 140737488355328
    ·rw [if_pos c6] at H;have LMc6:=Aside0.mk c6;clear c6;obtain ⟨y225,hy225⟩:∃ y_:List Int,y_=(x4_1 ++ [(IntKind.u64.wrap ((Int.tmod x3_1 128) + 128)) % 256]):=⟨_,rfl⟩;replace H:(spec_PutNum.l0 k1 (IntKind.u64.wrap (Int.tdiv x3_1 128)) y225)=some r:=(by first|(rw [hy225];with_reducible exact H)|(have H2_:=(Option.bind_some _ _).symm.trans H;rw [hy225];with_reducible exact H2_)|(have H2_:=(Option.bind_some _ _).symm.trans H;with_reducible exact H2_)|with_reducible exact H|(rw [hy225];exact H)|exact H);have Ny225:=Aside0.mk hy225;clear hy225;have H':=Aside0.mk H;clear H;go_wp2_with (first|((with_reducible refine gate_builtin (b:=.append) (xs:=#[.tmp 10,.tmp 15]) rfl ?_);at_builtin;refine Kd.R_append (Kd.int .u8) (w0:=w) w.heap.size rfl (.tmp 10) (.tmp 15) 41 5 (.int .u8 0) 1 rfl Try.underlying41 info5 rfl (by decide) (by omega) u4 x4_1 ((IntKind.u64.wrap ((Int.tmod x3_1 128) + 128)) % 256) [.int .u8 ((IntKind.u64.wrap ((Int.tmod x3_1 128) + 128)) % 256)] (fun _=>True) (fun _=>False) rfl rfl ?aP (fun _ hk=>hk.elim) ?aF ?aO ?aB ?aS ?aL ?_;(case aP=>exact rfl);(case aB=>exact (by repeat (first|(with_reducible first|exact HB.1|apply qA|apply qN|apply qD)|exact HB.1)));(case aF=>exact (fun _ _=>trivial));(case aO=>exact (by (with_reducible repeat (first|apply rA|apply rN|apply rD));exact HO_4.1));(case aS=>exact (zB HB));(case aL=>have:=LMc6.1;omega);intro v226 w7 ho hb hg hat;rw [← Ny225.1] at ho;replace HB:=Aside0.mk (hb);have HO227:=Aside0.mk (ho);clear HO_4;clear ho hb hg hat));go_roundg k1;case measure=>have:=HK1.1;omega
     case rel=>exact ⟨(IntKind.u64.wrap (Int.tdiv x3_1 128)),(y225),(by first|rfl|(simp;done)|(simp [*];done)),H',⟨by have:=HK1.1;omega⟩,⟨by (with_reducible repeat (first|apply rA|apply rN|apply rD));exact HO227.1⟩,⟨by repeat (first|(with_reducible first|exact HB.1|apply qA|apply qN|apply qD)|exact HB.1)⟩⟩
    ·rw [if_neg c6] at H;exact absurd H (by simp)
   ·rw [if_neg c5] at H;have c5b0:decide (128 ≤ x3_1)=false:=decide_eq_false c5;clear c5;by_cases c8:x4_1.length < 140737488355328
    ·rw [if_pos c8] at H;have LMc8:=Aside0.mk c8;clear c8;obtain ⟨y228,hy228⟩:∃ y_:List Int,y_=(x4_1 ++ [(x3_1) % 256]):=⟨_,rfl⟩;replace H:(some (strOfNums y228))=some r:=(by first|(rw [hy228];with_reducible exact H)|(have H2_:=(Option.bind_some _ _).symm.trans H;rw [hy228];with_reducible exact H2_)|(have H2_:=(Option.bind_some _ _).symm.trans H;with_reducible exact H2_)|with_reducible exact H|(rw [hy228];exact H)|exact H);have Ny228:=Aside0.mk hy228;clear hy228;obtain rfl:=Option.some.inj H;go_wp2_with (first|((with_reducible refine gate_builtin (b:=.append) (xs:=#[.tmp 19,.tmp 22]) rfl ?_);at_builtin;refine Kd.R_append (Kd.int .u8) (w0:=w) w.heap.size rfl (.tmp 19) (.tmp 22) 41 5 (.int .u8 0) 1 rfl Try.underlying41 info5 rfl (by decide) (by omega) u4 x4_1 ((x3_1) % 256) [.int .u8 ((x3_1) % 256)] (fun _=>True) (fun _=>False) rfl rfl ?aP (fun _ hk=>hk.elim) ?aF ?aO ?aB ?aS ?aL ?_;(case aP=>exact rfl);(case aB=>exact (by repeat (first|(with_reducible first|exact HB.1|apply qA|apply qN|apply qD)|exact HB.1)));(case aF=>exact (fun _ _=>trivial));(case aO=>exact (by (with_reducible repeat (first|apply rA|apply rN|apply rD));exact HO_4.1));(case aS=>exact (zB HB));(case aL=>have:=LMc8.1;omega);intro v229 w9 ho hb hg hat;rw [← Ny228.1] at ho;replace HB:=Aside0.mk (hb);have HO230:=Aside0.mk (ho);clear HO_4;clear ho hb hg hat;have hcv10:=own_string (P:=Try.prog) Try.underlying41 Try.underlying5 Try.underlying9 (Kd.own_of_R HO230.1)));go_ret;exact ⟨by first|rfl|(simp [errW_none,errW_some] <;> rfl)|(simp [*,errW_none,errW_some] <;> rfl),by repeat (first|(with_reducible first|exact HB.1|apply qA|apply qN|apply qD)|exact HB.1)⟩
    ·rw [if_neg c8] at H;exact absurd H (by simp)

/-! ### spec_PutText: function 94 -/
def spec_PutText.f (k:Nat) (a0:ByteArray):Option (ByteArray):=if (a0.size:Int) > 20000 then (some (⟨#[]⟩:ByteArray)) else ((spec_PutNum.f k (a0.size:Int)).bind fun t231=>(if t231.size + a0.size ≤ 9223372036854775807 then (some (t231 ++ a0)) else (none)))
theorem spec_PutText.mono:∀ a0 k,LeO (spec_PutText.f k a0) (spec_PutText.f (k + 1) a0):=by
 intro a0 k;unfold spec_PutText.f
 repeat' first | (with_reducible first | exact spec_PutNum.mono _ _ | exact LeO.refl _ | exact LeO.none _ | refine LeO.ite ?_ ?_ | refine LeO.bind ?_ (fun _=>?_)) | exact LeO.none _ | refine LeO.ite ?_ ?_ | refine LeO.bind ?_ (fun _=>?_)
set_option maxHeartbeats 8000000 in
set_option maxRecDepth 100000 in
theorem spec_PutText.calls (k:Nat) (a0:ByteArray) (r:ByteArray) (w:World) (h:spec_PutText.f k a0=some r) :
  Calls Try.prog 94 #[.string a0] w fun e w'=>e=.returned (.string r)∧Below w.heap.size w w':=by
 have HB:=Aside0.mk (Below.refl w.heap.size w);have H:(if (a0.size:Int) > 20000 then (some (⟨#[]⟩:ByteArray)) else ((spec_PutNum.f k (a0.size:Int)).bind fun t231=>(if t231.size + a0.size ≤ 9223372036854775807 then (some (t231 ++ a0)) else (none))))=some r:=h;clear h;by_cases c2:(a0.size:Int) > 20000
 ·rw [if_pos c2] at H;have c2b0:decide (20000 < (a0.size:Int))=true:=decide_eq_true c2;have c2b1:decide (20000 < a0.size)=true:=decide_eq_true (by omega);clear c2;obtain rfl:=Option.some.inj H;go_enter Try.func94,Try.ntmps94;go_wp2;go_ret;exact ⟨by first|rfl|(simp [errW_none,errW_some] <;> rfl)|(simp [*,errW_none,errW_some] <;> rfl),by repeat (first|(with_reducible first|exact HB.1|apply qA|apply qN|apply qD)|exact HB.1)⟩
 ·rw [if_neg c2] at H;have c2b0:decide (20000 < (a0.size:Int))=false:=decide_eq_false c2;have c2b1:decide (20000 < a0.size)=false:=decide_eq_false (by omega);clear c2;replace H:=bS H;obtain ⟨t231,A30,H⟩:=H;replace H:(if t231.size + a0.size ≤ 9223372036854775807 then (some (t231 ++ a0)) else (none))=some r:=H;have A3:=Aside0.mk A30;clear A30;by_cases c4:t231.size + a0.size ≤ 9223372036854775807
  ·rw [if_pos c4] at H;have c4b0:=eq_true c4;have c4b1:decide (t231.size + a0.size ≤ 9223372036854775807)=true:=decide_eq_true c4;(try have c4b2:(9223372036854775807 < t231.size + a0.size)=False:=eq_false (Nat.not_lt.2 c4));obtain rfl:=Option.some.inj H;go_enter Try.func94,Try.ntmps94;go_wp2_with (first|((with_reducible refine gC 93 rfl ?_);refine gL 8 Try.func93 #[.int .i64 (a0.size:Int)] ?_;(with_reducible refine (spec_PutNum.calls k (a0.size:Int) t231 _ A3.1).mono ?_);rintro e w5 ⟨rfl,hb⟩;refine ⟨_,rfl,?_⟩;replace HB:=tB HB hb;(try clear hb);(try clear hb2);(try clear hk);(try clear hi)));go_ret;exact ⟨by first|rfl|(simp [errW_none,errW_some] <;> rfl)|(simp [*,errW_none,errW_some] <;> rfl),by repeat (first|(with_reducible first|exact HB.1|apply qA|apply qN|apply qD)|exact HB.1)⟩
  ·rw [if_neg c4] at H;exact absurd H (by simp)

/-! ### spec_l13Bytes: function 60 -/
def q60_1:Array Bool:=#[false,false,false,false,false,false,false,false,false,false,false,false,false]
def q60_2:Array Bool:=#[true,false,false,false,false,false,false,false,false,false,false,false,false]
def q60_3:Array Bool:=#[true,false,false,true,false,false,false,false,false,false,false,false,false]
def q60_4:Array Bool:=#[true,false,false,true,false,false,false,true,false,false,false,false,false]
def q60_5:Array Bool:=#[true,true,false,true,false,false,false,true,false,false,false,false,false]
def q60_6:Array Bool:=#[true,true,false,true,true,false,false,true,false,false,false,false,false]
def q60_7:Array Bool:=#[true,true,false,true,true,false,false,true,true,false,false,false,false]
def q60_8:Array Bool:=#[true,true,true,true,true,false,false,true,true,false,false,false,false]
def q60_9:Array Bool:=#[true,true,true,true,true,true,false,true,true,false,false,false,false]
def q60_10:Array Bool:=#[true,true,true,true,true,true,true,true,true,false,false,false,false]
def q60_11:Array Bool:=#[true,true,true,true,true,true,true,true,true,true,false,false,false]
def q60_12:Array Bool:=#[true,true,true,true,true,true,true,true,true,true,true,false,false]
def q60_13:Array Bool:=#[true,true,true,true,true,true,true,true,true,true,true,true,false]
def q60_14:Array Bool:=#[true,true,true,true,true,true,true,true,true,true,true,true,true]
def spec_l13Bytes.f (k:Nat) (a0_0:Int) (a0_1:Int) (a0_2:ByteArray):Option (ByteArray):=(spec_PutNum.f k a0_0).bind fun t233=>((spec_PutNum.f k a0_1).bind fun t234=>(if t233.size + t234.size ≤ 9223372036854775807 then ((spec_PutText.f k a0_2).bind fun t235=>(if (t233 ++ t234).size + t235.size ≤ 9223372036854775807 then ((spec_Seal.f k ((t233 ++ t234) ++ t235)).bind fun t236=>(some t236)) else (none))) else (none)))
theorem spec_l13Bytes.mono:∀ a0 a1 a2 k,LeO (spec_l13Bytes.f k a0 a1 a2) (spec_l13Bytes.f (k + 1) a0 a1 a2):=by
 intro a0 a1 a2 k;unfold spec_l13Bytes.f
 repeat' first | (with_reducible first | exact spec_PutNum.mono _ _ | exact spec_PutText.mono _ _ | exact spec_Seal.mono _ _ | exact LeO.refl _ | exact LeO.none _ | refine LeO.ite ?_ ?_ | refine LeO.bind ?_ (fun _=>?_)) | exact LeO.none _ | refine LeO.ite ?_ ?_ | refine LeO.bind ?_ (fun _=>?_)
def spec_l13Bytes.T1:Bool × List (List Nat × List Nat):=(true,[([],[]),([0],[0]),([1],[1]),([],[]),([3],[3]),([4,2],[4]),([2,5],[2,5]),([],[]),([7],[7]),([8,5],[8]),([6,9],[6,9]),([10,9],[10]),([11,11,0,1,2,3,4,5,6,7,8,9,10,11],[11])])
def spec_l13Bytes.B1:List Nat:=[0,1,3,0,8,31,63,0,128,447,1023,2047,4095]
theorem spec_l13Bytes.tab1:rtab .any (opsOf Try.f60 1)=spec_l13Bytes.T1:=by kernel_rfl
theorem spec_l13Bytes.bits1:waitsOk spec_l13Bytes.T1.2 spec_l13Bytes.B1=true:=by kernel_rfl
set_option maxHeartbeats 8000000 in
set_option maxRecDepth 100000 in
theorem spec_l13Bytes.calls (k:Nat) (a0_0:Int) (a0_1:Int) (a0_2:ByteArray) (r:ByteArray) (w:World) (h:spec_l13Bytes.f k a0_0 a0_1 a0_2=some r) :
  Calls Try.prog 60 #[.agg #[.int .i64 a0_0,.int .i64 a0_1,.string a0_2]] w fun e w'=>e=.returned (.string r)∧Below w.heap.size w w':=by
 have hu38:=Try.underlying38;have HB:=Aside0.mk (Below.refl w.heap.size w);have H:((spec_PutNum.f k a0_0).bind fun t233=>((spec_PutNum.f k a0_1).bind fun t234=>(if t233.size + t234.size ≤ 9223372036854775807 then ((spec_PutText.f k a0_2).bind fun t235=>(if (t233 ++ t234).size + t235.size ≤ 9223372036854775807 then ((spec_Seal.f k ((t233 ++ t234) ++ t235)).bind fun t236=>(some t236)) else (none))) else (none))))=some r:=h;clear h;replace H:=bS H;obtain ⟨t233,A20,H⟩:=H;replace H:((spec_PutNum.f k a0_1).bind fun t234=>(if t233.size + t234.size ≤ 9223372036854775807 then ((spec_PutText.f k a0_2).bind fun t235=>(if (t233 ++ t234).size + t235.size ≤ 9223372036854775807 then ((spec_Seal.f k ((t233 ++ t234) ++ t235)).bind fun t236=>(some t236)) else (none))) else (none)))=some r:=H;have A2:=Aside0.mk A20;clear A20;replace H:=bS H;obtain ⟨t234,A30,H⟩:=H;replace H:(if t233.size + t234.size ≤ 9223372036854775807 then ((spec_PutText.f k a0_2).bind fun t235=>(if (t233 ++ t234).size + t235.size ≤ 9223372036854775807 then ((spec_Seal.f k ((t233 ++ t234) ++ t235)).bind fun t236=>(some t236)) else (none))) else (none))=some r:=H;have A3:=Aside0.mk A30;clear A30;by_cases c4:t233.size + t234.size ≤ 9223372036854775807
 ·rw [if_pos c4] at H;have c4b0:=eq_true c4;have c4b1:decide (t233.size + t234.size ≤ 9223372036854775807)=true:=decide_eq_true c4;(try have c4b2:(9223372036854775807 < t233.size + t234.size)=False:=eq_false (Nat.not_lt.2 c4));replace H:=bS H;obtain ⟨t235,A50,H⟩:=H;replace H:(if (t233 ++ t234).size + t235.size ≤ 9223372036854775807 then ((spec_Seal.f k ((t233 ++ t234) ++ t235)).bind fun t236=>(some t236)) else (none))=some r:=H;have A5:=Aside0.mk A50;clear A50;by_cases c6:(t233 ++ t234).size + t235.size ≤ 9223372036854775807
  ·rw [if_pos c6] at H;have c6b0:=eq_true c6;have c6b1:decide ((t233 ++ t234).size + t235.size ≤ 9223372036854775807)=true:=decide_eq_true c6;(try have c6b2:(9223372036854775807 < (t233 ++ t234).size + t235.size)=False:=eq_false (Nat.not_lt.2 c6));replace H:=bS H;obtain ⟨t236,A70,H⟩:=H;replace H:(some t236)=some r:=H;have A7:=Aside0.mk A70;clear A70;obtain rfl:=Option.some.inj H;go_enter Try.func60,Try.ntmps60;try go_wp2_with (first|((with_reducible refine gate_dst (N:=1) rfl ?_);refine box_event ?hg (N:=1) ?hd (cs:=#[.int .i64 a0_0,.int .i64 a0_1,.string a0_2]) (t:=38) ?hr ?_;(case hd=>rfl);(case hg=>rfl);(case hr=>go_simp;try rfl);intro gb232 hg w8 hbox hb;have BK232:=Aside0.mk (hbox);have GW232:=gB HB hg;have GE232:=gB HB hg;replace HB:=tB HB hb;clear hb hbox hg))
   replace BK232:=Aside0.mk (blk_drew BK232.1);replace HB:=Aside0.mk (below_drew1 HB.1);refine start_ (n:=13) (S:=fun w'=>w'.cell? ⟨gb232,0,none⟩=some (.int .i64 a0_0)∧w'.cell? ⟨gb232,1,none⟩=some (.int .i64 a0_1)∧w'.cell? ⟨gb232,2,none⟩=some (.string a0_2)) (ds:=[]) q60_1 (by kernel_rfl) rfl rfl ⟨(blk_cell BK232.1 0).trans rfl,(blk_cell BK232.1 1).trans rfl,(blk_cell BK232.1 2).trans rfl⟩ (fun hHeld=>?_);refine with_tabW spec_l13Bytes.tab1 spec_l13Bytes.bits1 (fun HT_ HW_=>?_);generalize w8.drew=w9 at BK232 HB hHeld ⊢;refine pure_ (i:=0) (N:=some 3) (v:=?_) (a':=?_) q60_2 rfl rfl (any_of HT_.1 (by kernel_rfl)) (fun _ _ _ h=>h) (Or.inl ⟨by rfl,?_⟩) ?_ ?_;rotate_left
   ·intro w';go_simp;first|(with_reducible rfl)|(exact if_neg (Nat.not_lt.2 (by have h_:=of_decide_eq_true c6b1;simp only [ByteArray.size_append] at h_;exact h_)))
   rotate_left
   ·simp only [Act.put,sA,sZ,sS,i64_w,i32_w];rfl
   refine pure_ (i:=3) (N:=some 6) (v:=?_) (a':=?_) q60_3 rfl rfl (any_of HT_.1 (by kernel_rfl)) (fun _ _ _ h=>h) (Or.inl ⟨by rfl,?_⟩) ?_ ?_;rotate_left
   ·intro w';go_simp;first|(with_reducible rfl)|(exact if_neg (Nat.not_lt.2 (by have h_:=of_decide_eq_true c6b1;simp only [ByteArray.size_append] at h_;exact h_)))
   rotate_left
   ·simp only [Act.put,sA,sZ,sS,i64_w,i32_w];rfl
   refine pure_ (i:=7) (N:=some 10) (v:=?_) (a':=?_) q60_4 rfl rfl (any_of HT_.1 (by kernel_rfl)) (fun _ _ _ h=>h) (Or.inl ⟨by rfl,?_⟩) ?_ ?_;rotate_left
   ·intro w';go_simp;first|(with_reducible rfl)|(exact if_neg (Nat.not_lt.2 (by have h_:=of_decide_eq_true c6b1;simp only [ByteArray.size_append] at h_;exact h_)))
   rotate_left
   ·simp only [Act.put,sA,sZ,sS,i64_w,i32_w];rfl
   refine take_ (i:=1) (N:=some 4) (v:=?_) (a':=?_) q60_5 rfl rfl (take_ofW HT_.1 HW_.1 (by kernel_rfl)) (fun _ _ _ h=>h) (Or.inl ⟨by rfl,?_⟩) hHeld ?_ ?_;rotate_left
   ·rintro w' ⟨s0,s1,s2⟩;go_simp;first|(with_reducible rfl)|(exact if_neg (Nat.not_lt.2 (by have h_:=of_decide_eq_true c6b1;simp only [ByteArray.size_append] at h_;exact h_)))
   rotate_left
   ·simp only [Act.put,sA,sZ,sS,i64_w,i32_w];rfl
   refine take_ (i:=4) (N:=some 7) (v:=?_) (a':=?_) q60_6 rfl rfl (take_ofW HT_.1 HW_.1 (by kernel_rfl)) (fun _ _ _ h=>h) (Or.inl ⟨by rfl,?_⟩) hHeld ?_ ?_;rotate_left
   ·rintro w' ⟨s0,s1,s2⟩;go_simp;first|(with_reducible rfl)|(exact if_neg (Nat.not_lt.2 (by have h_:=of_decide_eq_true c6b1;simp only [ByteArray.size_append] at h_;exact h_)))
   rotate_left
   ·simp only [Act.put,sA,sZ,sS,i64_w,i32_w];rfl
   refine take_ (i:=8) (N:=some 11) (v:=?_) (a':=?_) q60_7 rfl rfl (take_ofW HT_.1 HW_.1 (by kernel_rfl)) (fun _ _ _ h=>h) (Or.inl ⟨by rfl,?_⟩) hHeld ?_ ?_;rotate_left
   ·rintro w' ⟨s0,s1,s2⟩;go_simp;first|(with_reducible rfl)|(exact if_neg (Nat.not_lt.2 (by have h_:=of_decide_eq_true c6b1;simp only [ByteArray.size_append] at h_;exact h_)))
   rotate_left
   ·simp only [Act.put,sA,sZ,sS,i64_w,i32_w];rfl
   refine one_ (i:=2) (N:=some 5) q60_8 rfl rfl (one_of HT_.1 (by kernel_rfl)) (by decide) (fun K hK=>?_);refine gR Try.func93 #[.int .i64 a0_0] ?_;(with_reducible refine (spec_PutNum.calls k a0_0 t233 _ A2.1).mono ?_);rintro e w10 ⟨rfl,hb⟩;refine ⟨_,rfl,?_⟩;replace BK232:=bB BK232 hb;replace HB:=Aside0.mk (below_step (by repeat (first|(with_reducible first|exact HB.1|apply qA|apply qN|apply qD|refine qS ?_ GE232.1)|exact HB.1)) hb);(try clear hb);(try clear hb2);(try clear hk);(try clear hi);refine hK.out _ _ ⟨(blk_cell BK232.1 0).trans rfl,(blk_cell BK232.1 1).trans rfl,(blk_cell BK232.1 2).trans rfl⟩ (fun hHeld=>?_);clear hK K;refine norm_ (a':=?_) ?_ ?_;rotate_left
   ·show Act.put _ (some 5) _=_;simp only [Act.put,sA,sZ,sS,i64_w,i32_w];rfl
   refine one_ (i:=5) (N:=some 8) q60_9 rfl rfl (one_of HT_.1 (by kernel_rfl)) (by decide) (fun K hK=>?_);refine gR Try.func93 #[.int .i64 a0_1] ?_;(with_reducible refine (spec_PutNum.calls k a0_1 t234 _ A3.1).mono ?_);rintro e w11 ⟨rfl,hb⟩;refine ⟨_,rfl,?_⟩;replace BK232:=bB BK232 hb;replace HB:=Aside0.mk (below_step (by repeat (first|(with_reducible first|exact HB.1|apply qA|apply qN|apply qD|refine qS ?_ GE232.1)|exact HB.1)) hb);(try clear hb);(try clear hb2);(try clear hk);(try clear hi);refine hK.out _ _ ⟨(blk_cell BK232.1 0).trans rfl,(blk_cell BK232.1 1).trans rfl,(blk_cell BK232.1 2).trans rfl⟩ (fun hHeld=>?_);clear hK K;refine norm_ (a':=?_) ?_ ?_;rotate_left
   ·show Act.put _ (some 8) _=_;simp only [Act.put,sA,sZ,sS,i64_w,i32_w];rfl
   refine pure_ (i:=6) (N:=some 9) (v:=?_) (a':=?_) q60_10 rfl rfl (any_of HT_.1 (by kernel_rfl)) (fun _ _ _ h=>h) (Or.inl ⟨by rfl,?_⟩) ?_ ?_;rotate_left
   ·intro w';go_simp;first|(with_reducible rfl)|(exact if_neg (Nat.not_lt.2 (by have h_:=of_decide_eq_true c6b1;simp only [ByteArray.size_append] at h_;exact h_)))
   rotate_left
   ·simp only [Act.put,sA,sZ,sS,i64_w,i32_w];rfl
   refine one_ (i:=9) (N:=some 12) q60_11 rfl rfl (one_of HT_.1 (by kernel_rfl)) (by decide) (fun K hK=>?_);refine gR Try.func94 #[.string a0_2] ?_;(with_reducible refine (spec_PutText.calls k a0_2 t235 _ A5.1).mono ?_);rintro e w12 ⟨rfl,hb⟩;refine ⟨_,rfl,?_⟩;replace BK232:=bB BK232 hb;replace HB:=Aside0.mk (below_step (by repeat (first|(with_reducible first|exact HB.1|apply qA|apply qN|apply qD|refine qS ?_ GE232.1)|exact HB.1)) hb);(try clear hb);(try clear hb2);(try clear hk);(try clear hi);refine hK.out _ _ ⟨(blk_cell BK232.1 0).trans rfl,(blk_cell BK232.1 1).trans rfl,(blk_cell BK232.1 2).trans rfl⟩ (fun hHeld=>?_);clear hK K;refine norm_ (a':=?_) ?_ ?_;rotate_left
   ·show Act.put _ (some 12) _=_;simp only [Act.put,sA,sZ,sS,i64_w,i32_w];rfl
   refine pure_ (i:=10) (N:=some 13) (v:=?_) (a':=?_) q60_12 rfl rfl (any_of HT_.1 (by kernel_rfl)) (fun _ _ _ h=>h) (Or.inl ⟨by rfl,?_⟩) ?_ ?_;rotate_left
   ·intro w';go_simp;first|(with_reducible rfl)|(exact if_neg (Nat.not_lt.2 (by have h_:=of_decide_eq_true c6b1;simp only [ByteArray.size_append] at h_;exact h_)))
   rotate_left
   ·simp only [Act.put,sA,sZ,sS,i64_w,i32_w];rfl
   refine one_ (i:=11) (N:=some 14) q60_13 rfl rfl (one_of HT_.1 (by kernel_rfl)) (by decide) (fun K hK=>?_);refine gR Try.func92 #[.string ((t233 ++ t234) ++ t235)] ?_;(with_reducible refine (spec_Seal.calls k ((t233 ++ t234) ++ t235) t236 _ A7.1).mono ?_);rintro e w13 ⟨rfl,hb⟩;refine ⟨_,rfl,?_⟩;replace BK232:=bB BK232 hb;replace HB:=Aside0.mk (below_step (by repeat (first|(with_reducible first|exact HB.1|apply qA|apply qN|apply qD|refine qS ?_ GE232.1)|exact HB.1)) hb);(try clear hb);(try clear hb2);(try clear hk);(try clear hi);refine hK.out _ _ ⟨(blk_cell BK232.1 0).trans rfl,(blk_cell BK232.1 1).trans rfl,(blk_cell BK232.1 2).trans rfl⟩ (fun hHeld=>?_);clear hK K;refine norm_ (a':=?_) ?_ ?_;rotate_left
   ·show Act.put _ (some 14) _=_;simp only [Act.put,sA,sZ,sS,i64_w,i32_w];rfl
   refine pure_ (i:=12) (N:=some 2) (v:=?_) (a':=?_) q60_14 rfl rfl (any_of HT_.1 (by kernel_rfl)) (fun _ _ _ h=>h) (Or.inl ⟨by rfl,?_⟩) ?_ ?_;rotate_left
   ·intro w';go_simp;first|(with_reducible rfl)|(exact if_neg (Nat.not_lt.2 (by have h_:=of_decide_eq_true c6b1;simp only [ByteArray.size_append] at h_;exact h_)))
   rotate_left
   ·simp only [Act.put,sA,sZ,sS,i64_w,i32_w];rfl
   refine done_ (done_of HT_.1 (by kernel_rfl)) ?_;(try go_wp2);go_ret;exact ⟨by first|rfl|(simp [errW_none,errW_some] <;> rfl)|(simp [*,errW_none,errW_some] <;> rfl),by repeat (first|(with_reducible first|exact HB.1|apply qA|apply qN|apply qD|refine qS ?_ GE232.1)|exact HB.1)⟩
  ·rw [if_neg c6] at H;exact absurd H (by simp)
 ·rw [if_neg c4] at H;exact absurd H (by simp)

/-! ### spec_FrameBytes: function 23 -/
def spec_FrameBytes.f (k:Nat) (a0_0:Int) (a0_1:Int) (a0_2:ByteArray):Option (ByteArray):=(spec_l13Frame.f a0_0 a0_1 a0_2).bind fun t238=>(if t238=true then ((spec_l13Bytes.f k a0_0 a0_1 a0_2).bind fun t239=>(some t239)) else (some (⟨#[]⟩:ByteArray)))
theorem spec_FrameBytes.mono:∀ a0 a1 a2 k,LeO (spec_FrameBytes.f k a0 a1 a2) (spec_FrameBytes.f (k + 1) a0 a1 a2):=by
 intro a0 a1 a2 k;unfold spec_FrameBytes.f
 repeat' first | (with_reducible first | exact spec_l13Bytes.mono _ _ _ _ | exact LeO.refl _ | exact LeO.none _ | refine LeO.ite ?_ ?_ | refine LeO.bind ?_ (fun _=>?_)) | exact LeO.none _ | refine LeO.ite ?_ ?_ | refine LeO.bind ?_ (fun _=>?_)
set_option maxHeartbeats 8000000 in
set_option maxRecDepth 100000 in
theorem spec_FrameBytes.calls (k:Nat) (a0_0:Int) (a0_1:Int) (a0_2:ByteArray) (r:ByteArray) (w:World) (h:spec_FrameBytes.f k a0_0 a0_1 a0_2=some r) :
  Calls Try.prog 23 #[.agg #[.int .i64 a0_0,.int .i64 a0_1,.string a0_2]] w fun e w'=>e=.returned (.string r)∧Below w.heap.size w w':=by
 have hu38:=Try.underlying38;have HB:=Aside0.mk (Below.refl w.heap.size w);have H:((spec_l13Frame.f a0_0 a0_1 a0_2).bind fun t238=>(if t238=true then ((spec_l13Bytes.f k a0_0 a0_1 a0_2).bind fun t239=>(some t239)) else (some (⟨#[]⟩:ByteArray))))=some r:=h;clear h;replace H:=bS H;obtain ⟨t238,A20,H⟩:=H;replace H:(if t238=true then ((spec_l13Bytes.f k a0_0 a0_1 a0_2).bind fun t239=>(some t239)) else (some (⟨#[]⟩:ByteArray)))=some r:=H;have A2:=Aside0.mk A20;clear A20;by_cases c3:t238=true
 ·subst c3;have H1:((spec_l13Bytes.f k a0_0 a0_1 a0_2).bind fun t239=>(some t239))=some r:=(by rw [if_pos rfl] at H;exact H);clear H;have H:=H1;clear H1;replace H:=bS H;obtain ⟨t239,A40,H⟩:=H;replace H:(some t239)=some r:=H;have A4:=Aside0.mk A40;clear A40;obtain rfl:=Option.some.inj H;go_enter Try.func23,Try.ntmps23;go_wp2_with (first|((with_reducible refine gate_dst (N:=1) rfl ?_);refine box_event ?hg (N:=1) ?hd (cs:=#[.int .i64 a0_0,.int .i64 a0_1,.string a0_2]) (t:=38) ?hr ?_;(case hd=>rfl);(case hg=>rfl);(case hr=>go_simp;try rfl);intro gb237 hg w5 hbox hb;have BK237:=Aside0.mk (hbox);have GW237:=gB HB hg;have GE237:=gB HB hg;replace HB:=tB HB hb;clear hb hbox hg;obtain ⟨hcz6_0,hcz6_1,hcz6_2⟩:=c3_ BK237;obtain ⟨hfz6_0,hfz6_1,hfz6_2⟩:=f3_ BK237)|((with_reducible refine gC 59 rfl ?_);refine gL 4 Try.func59 #[.agg #[.int .i64 a0_0,.int .i64 a0_1,.string a0_2]] ?_;(with_reducible refine (spec_l13Frame.calls a0_0 a0_1 a0_2 true _ A2.1).mono ?_);rintro e w7 ⟨rfl,hb⟩;refine ⟨_,rfl,?_⟩;replace BK237:=bB BK237 hb;replace HB:=Aside0.mk (below_step (by repeat (first|(with_reducible first|exact HB.1|apply qA|apply qN|apply qD|refine qS ?_ GE237.1)|exact HB.1)) hb);(try clear hb);(try clear hb2);(try clear hk);(try clear hi);obtain ⟨hcz8_0,hcz8_1,hcz8_2⟩:=c3_ BK237;obtain ⟨hfz8_0,hfz8_1,hfz8_2⟩:=f3_ BK237)|((with_reducible refine gC 60 rfl ?_);refine gL 7 Try.func60 #[.agg #[.int .i64 a0_0,.int .i64 a0_1,.string a0_2]] ?_;(with_reducible refine (spec_l13Bytes.calls k a0_0 a0_1 a0_2 t239 _ A4.1).mono ?_);rintro e w9 ⟨rfl,hb⟩;refine ⟨_,rfl,?_⟩;replace BK237:=bB BK237 hb;replace HB:=Aside0.mk (below_step (by repeat (first|(with_reducible first|exact HB.1|apply qA|apply qN|apply qD|refine qS ?_ GE237.1)|exact HB.1)) hb);(try clear hb);(try clear hb2);(try clear hk);(try clear hi)));go_ret;exact ⟨by first|rfl|(simp [errW_none,errW_some] <;> rfl)|(simp [*,errW_none,errW_some] <;> rfl),by repeat (first|(with_reducible first|exact HB.1|apply qA|apply qN|apply qD|refine qS ?_ GE237.1)|exact HB.1)⟩
 ·replace c3:=Bool.eq_false_iff.mpr c3;subst c3;have H1:(some (⟨#[]⟩:ByteArray))=some r:=(by rw [if_neg (show ¬ (false=true) by decide)] at H;exact H);clear H;have H:=H1;clear H1;obtain rfl:=Option.some.inj H;go_enter Try.func23,Try.ntmps23;go_wp2_with (first|((with_reducible refine gate_dst (N:=1) rfl ?_);refine box_event ?hg (N:=1) ?hd (cs:=#[.int .i64 a0_0,.int .i64 a0_1,.string a0_2]) (t:=38) ?hr ?_;(case hd=>rfl);(case hg=>rfl);(case hr=>go_simp;try rfl);intro gb237 hg w10 hbox hb;have BK237:=Aside0.mk (hbox);have GW237:=gB HB hg;have GE237:=gB HB hg;replace HB:=tB HB hb;clear hb hbox hg;obtain ⟨hcz11_0,hcz11_1,hcz11_2⟩:=c3_ BK237;obtain ⟨hfz11_0,hfz11_1,hfz11_2⟩:=f3_ BK237)|((with_reducible refine gC 59 rfl ?_);refine gL 4 Try.func59 #[.agg #[.int .i64 a0_0,.int .i64 a0_1,.string a0_2]] ?_;(with_reducible refine (spec_l13Frame.calls a0_0 a0_1 a0_2 false _ A2.1).mono ?_);rintro e w12 ⟨rfl,hb⟩;refine ⟨_,rfl,?_⟩;replace BK237:=bB BK237 hb;replace HB:=Aside0.mk (below_step (by repeat (first|(with_reducible first|exact HB.1|apply qA|apply qN|apply qD|refine qS ?_ GE237.1)|exact HB.1)) hb);(try clear hb);(try clear hb2);(try clear hk);(try clear hi)));go_ret;exact ⟨by first|rfl|(simp [errW_none,errW_some] <;> rfl)|(simp [*,errW_none,errW_some] <;> rfl),by repeat (first|(with_reducible first|exact HB.1|apply qA|apply qN|apply qD|refine qS ?_ GE237.1)|exact HB.1)⟩


/-! ### impl_crcOn: function 108 -/
mutual
def impl_crcOn.l0:Nat → Int → ByteArray → Int → Int → Option (Int)
 | 0,_,_,_,_=>none
 | k + 1,x0,x1,x9,x10=>if x10 < x9 then (if 0 ≤ x10 then (if x10 < (x1.size:Int) then (impl_crcOn.l1 k x0 x1 (bt x1 x10) x9 x10 0) else (none)) else (none)) else (some x0)
def impl_crcOn.l1:Nat → Int → ByteArray → Int → Int → Int → Int → Option (Int)
 | 0,_,_,_,_,_,_=>none
 | k + 1,x0,x1,x6,x9,x10,x16=>if x16 < 8 then (if (Go.bits .and .u32 (Go.bits .xor .u32 ((x6) % 4294967296) x0) 1)=1 then (impl_crcOn.l1 k (Go.bits .xor .u32 (x0 / 2) 3988292384) x1 (x6 / 2) x9 x10 (wrap64 (x16 + 1))) else (impl_crcOn.l1 k (x0 / 2) x1 (x6 / 2) x9 x10 (wrap64 (x16 + 1)))) else (impl_crcOn.l0 k x0 x1 x9 (wrap64 (x10 + 1)))
end
def impl_crcOn.f (k:Nat) (a0:Int) (a1:ByteArray):Option (Int):=impl_crcOn.l0 k a0 a1 (a1.size:Int) 0
theorem impl_crcOn.mono_l:∀ k,(∀ y0 y1 y2 y3,LeO (impl_crcOn.l0 k y0 y1 y2 y3) (impl_crcOn.l0 (k + 1) y0 y1 y2 y3))∧(∀ y0 y1 y2 y3 y4 y5,LeO (impl_crcOn.l1 k y0 y1 y2 y3 y4 y5) (impl_crcOn.l1 (k + 1) y0 y1 y2 y3 y4 y5))
 | 0=>⟨fun _ _ _ _ r h=>by simp [impl_crcOn.l0] at h,fun _ _ _ _ _ _ r h=>by simp [impl_crcOn.l1] at h⟩
 | k + 1=>by
  obtain ⟨ih0,ih1⟩:=impl_crcOn.mono_l k;refine ⟨?_,?_⟩
  ·intro y0 y1 y2 y3;unfold impl_crcOn.l0;repeat' first | (with_reducible first | exact ih0 _ _ _ _ | exact ih1 _ _ _ _ _ _ | exact LeO.refl _ | exact LeO.none _ | refine LeO.ite ?_ ?_ | refine LeO.bind ?_ (fun _=>?_)) | exact LeO.none _ | refine LeO.ite ?_ ?_ | refine LeO.bind ?_ (fun _=>?_)
  ·intro y0 y1 y2 y3 y4 y5;unfold impl_crcOn.l1;repeat' first | (with_reducible first | exact ih0 _ _ _ _ | exact ih1 _ _ _ _ _ _ | exact LeO.refl _ | exact LeO.none _ | refine LeO.ite ?_ ?_ | refine LeO.bind ?_ (fun _=>?_)) | exact LeO.none _ | refine LeO.ite ?_ ?_ | refine LeO.bind ?_ (fun _=>?_)
theorem impl_crcOn.mono:∀ a0 a1 k,LeO (impl_crcOn.f k a0 a1) (impl_crcOn.f (k + 1) a0 a1):=by
 intro a0 a1 k;obtain ⟨ih0,ih1⟩:=impl_crcOn.mono_l k;unfold impl_crcOn.f
 repeat' first | (with_reducible first | exact ih0 _ _ _ _ | exact ih1 _ _ _ _ _ _ | exact LeO.refl _ | exact LeO.none _ | refine LeO.ite ?_ ?_ | refine LeO.bind ?_ (fun _=>?_)) | exact LeO.none _ | refine LeO.ite ?_ ?_ | refine LeO.bind ?_ (fun _=>?_)
set_option maxHeartbeats 8000000 in
set_option maxRecDepth 100000 in
theorem impl_crcOn.calls (k:Nat) (a0:Int) (a1:ByteArray) (r:Int) (w:World) (h:impl_crcOn.f k a0 a1=some r) :
  Calls Try.prog 108 #[.int .u32 a0,.string a1] w fun e w'=>e=.returned (.int .u32 r)∧Drawn0 w w':=by
 have H:(impl_crcOn.l0 k a0 a1 (a1.size:Int) 0)=some r:=h;clear h;have H':=Aside0.mk H;clear H;go_enter Try.func108,Try.ntmps108;go_wp2;go_loopg [0,10] k (fun kq v0 v10 w'=>∃ (x0_1:Int) (x10_1:Int),v0=.int .u32 x0_1∧v10=.int .i64 x10_1∧Aside0 (impl_crcOn.l0 kq x0_1 a1 (a1.size:Int) x10_1=some r)∧Aside0 (kq ≤ k)∧Drawn0 w w');case atStart=>exact ⟨(a0),(0),(by first|rfl|(simp;done)|(simp [*];done)),(by first|rfl|(simp;done)|(simp [*];done)),H',⟨Nat.le_refl _⟩,by repeat (first|exact Drawn0.refl _|apply Drawn0.step)⟩
 case round =>
  clear H';(try clear c1);(try clear p2);obtain ⟨x0_1,x10_1,rfl,rfl,HA,HK1,⟨m1,rfl⟩⟩:=hrel;cases gk with
  | zero=>exact absurd HA.1 (by simp [impl_crcOn.l0])
  | succ k1 =>
   have H:=HA.1;clear HA;simp only [impl_crcOn.l0] at H;by_cases c3:x10_1 < (a1.size:Int)
   ·rw [if_pos c3] at H;have c3b0:decide (x10_1 < (a1.size:Int))=true:=decide_eq_true c3;clear c3;by_cases c4:0 ≤ x10_1
    ·rw [if_pos c4] at H;have c4b0:decide (0 ≤ x10_1)=true:=decide_eq_true c4;clear c4;by_cases c5:x10_1 < (a1.size:Int)
     ·rw [if_pos c5] at H;have c5b0:decide (x10_1 < (a1.size:Int))=true:=decide_eq_true c5;clear c5;have H':=Aside0.mk H;clear H;have p6:0 ≤ (x10_1:Int):=of_decide_eq_true (by first|(with_reducible assumption)|assumption);have q6:x10_1 < (a1.size:Int):=of_decide_eq_true (by first|(with_reducible assumption)|assumption);have hx6:=bt_at a1 x10_1;replace p6:=eq_true p6;replace q6:=eq_true q6;go_wp2;go_loopg [0,6,16] k1 (fun kq v0 v6 v16 w'=>∃ (x0_2:Int) (x6_2:Int) (x16_2:Int),v0=.int .u32 x0_2∧v6=.int .u8 x6_2∧v16=.int .i64 x16_2∧Aside0 (impl_crcOn.l1 kq x0_2 a1 x6_2 (a1.size:Int) x10_1 x16_2=some r)∧Aside0 (kq ≤ k1)∧Drawn0 w w');case atStart=>exact ⟨(x0_1),(bt a1 x10_1),(0),(by first|rfl|(simp;done)|(simp [*];done)),(by first|rfl|(simp;done)|(simp [*];done)),(by first|rfl|(simp;done)|(simp [*];done)),H',⟨Nat.le_refl _⟩,by repeat (first|exact Drawn0.refl _|apply Drawn0.step)⟩
      case round =>
       clear H';(try clear c1);(try clear p2);(try clear c3);(try clear c3b0);(try clear c4);(try clear c4b0);(try clear c5);(try clear c5b0);(try clear p6);(try clear q6);(try clear hx6);(try clear p2);(try clear p6);(try clear q6);obtain ⟨x0_2,x6_2,x16_2,rfl,rfl,rfl,HA,HK2,⟨m2,rfl⟩⟩:=hrel;cases gk with
       | zero=>exact absurd HA.1 (by simp [impl_crcOn.l1])
       | succ k2 =>
        have H:=HA.1;clear HA;simp only [impl_crcOn.l1] at H;by_cases c7:x16_2 < 8
        ·rw [if_pos c7] at H;have c7b0:decide (x16_2 < 8)=true:=decide_eq_true c7;clear c7;by_cases c8:(Go.bits .and .u32 (Go.bits .xor .u32 ((x6_2) % 4294967296) x0_2) 1)=1
         ·rw [if_pos c8] at H;have c8b0:((Go.bits .and .u32 (Go.bits .xor .u32 ((x6_2) % 4294967296) x0_2) 1) == 1)=true:=beq_iff_eq.mpr c8;have c8b1:((Go.bits .and .u32 (Go.bits .xor .u32 ((x6_2) % 4294967296) x0_2) 1) != 1)=false:=bne_eq_false_iff_eq.mpr c8;clear c8;have H':=Aside0.mk H;clear H;go_wp2;go_roundg k2;case measure=>have:=HK1.1;have:=HK2.1;omega
          case rel=>exact ⟨(Go.bits .xor .u32 (x0_2 / 2) 3988292384),(x6_2 / 2),(wrap64 (x16_2 + 1)),(by first|rfl|(simp;done)|(simp [*];done)),(by first|rfl|(simp;done)|(simp [*];done)),(by first|rfl|(simp;done)|(simp [*];done)),H',⟨by have:=HK1.1;have:=HK2.1;omega⟩,by repeat (first|exact Drawn0.refl _|apply Drawn0.step)⟩
         ·rw [if_neg c8] at H;have c8b0:((Go.bits .and .u32 (Go.bits .xor .u32 ((x6_2) % 4294967296) x0_2) 1) == 1)=false:=beq_eq_false_iff_ne.mpr c8;have c8b1:((Go.bits .and .u32 (Go.bits .xor .u32 ((x6_2) % 4294967296) x0_2) 1) != 1)=true:=bne_iff_ne.mpr c8;have H':=Aside0.mk H;clear H;go_wp2;go_roundg k2;case measure=>have:=HK1.1;have:=HK2.1;omega
          case rel=>exact ⟨(x0_2 / 2),(x6_2 / 2),(wrap64 (x16_2 + 1)),(by first|rfl|(simp;done)|(simp [*];done)),(by first|rfl|(simp;done)|(simp [*];done)),(by first|rfl|(simp;done)|(simp [*];done)),H',⟨by have:=HK1.1;have:=HK2.1;omega⟩,by repeat (first|exact Drawn0.refl _|apply Drawn0.step)⟩
        ·rw [if_neg c7] at H;have c7b0:decide (x16_2 < 8)=false:=decide_eq_false c7;clear c7;have H':=Aside0.mk H;clear H;go_wp2;go_roundg k2;case measure=>have:=HK1.1;have:=HK2.1;omega
         case rel=>exact ⟨(x0_2),(wrap64 (x10_1 + 1)),(by first|rfl|(simp;done)|(simp [*];done)),(by first|rfl|(simp;done)|(simp [*];done)),H',⟨by have:=HK1.1;have:=HK2.1;omega⟩,by repeat (first|exact Drawn0.refl _|apply Drawn0.step)⟩
     ·rw [if_neg c5] at H;exact absurd H (by simp)
    ·rw [if_neg c4] at H;exact absurd H (by simp)
   ·rw [if_neg c3] at H;have c3b0:decide (x10_1 < (a1.size:Int))=false:=decide_eq_false c3;clear c3;obtain rfl:=Option.some.inj H;go_wp2;go_ret;exact ⟨by first|rfl|(simp;done)|(simp [*];done),by repeat (first|exact Drawn0.refl _|apply Drawn0.step)⟩

/-! ### impl_Crc: function 99 -/
def impl_Crc.f (k:Nat) (a0:ByteArray):Option (Int):=(impl_long.f k (([a0]:List ByteArray))).bind fun t252=>(if t252=true then (some 0) else ((impl_crcOn.f k 4294967295 a0).bind fun t253=>(some (wrap64 (Go.bits .xor .u32 4294967295 t253)))))
theorem impl_Crc.mono:∀ a0 k,LeO (impl_Crc.f k a0) (impl_Crc.f (k + 1) a0):=by
 intro a0 k;unfold impl_Crc.f
 repeat' first | (with_reducible first | exact impl_crcOn.mono _ _ _ | exact impl_long.mono _ _ | exact LeO.refl _ | exact LeO.none _ | refine LeO.ite ?_ ?_ | refine LeO.bind ?_ (fun _=>?_)) | exact LeO.none _ | refine LeO.ite ?_ ?_ | refine LeO.bind ?_ (fun _=>?_)
set_option maxHeartbeats 8000000 in
set_option maxRecDepth 100000 in
theorem impl_Crc.calls (k:Nat) (a0:ByteArray) (r:Int) (w:World) (h:impl_Crc.f k a0=some r) :
  Calls Try.prog 99 #[.string a0] w fun e w'=>e=.returned (.int .i64 r)∧Below w.heap.size w w':=by
 have HB:=Aside0.mk (Below.refl w.heap.size w);have H:((impl_long.f k (([a0]:List ByteArray))).bind fun t252=>(if t252=true then (some 0) else ((impl_crcOn.f k 4294967295 a0).bind fun t253=>(some (wrap64 (Go.bits .xor .u32 4294967295 t253))))))=some r:=h;clear h;obtain ⟨y249,hy249⟩:∃ y_:List ByteArray,y_=(([a0]:List ByteArray)):=⟨_,rfl⟩;replace H:((impl_long.f k y249).bind fun t252=>(if t252=true then (some 0) else ((impl_crcOn.f k 4294967295 a0).bind fun t253=>(some (wrap64 (Go.bits .xor .u32 4294967295 t253))))))=some r:=(by first|(rw [hy249];with_reducible exact H)|(have H2_:=(Option.bind_some _ _).symm.trans H;rw [hy249];with_reducible exact H2_)|(have H2_:=(Option.bind_some _ _).symm.trans H;with_reducible exact H2_)|with_reducible exact H|(rw [hy249];exact H)|exact H);have Ny249:=Aside0.mk hy249;clear hy249;replace H:=bS H;obtain ⟨t252,A20,H⟩:=H;replace H:(if t252=true then (some 0) else ((impl_crcOn.f k 4294967295 a0).bind fun t253=>(some (wrap64 (Go.bits .xor .u32 4294967295 t253)))))=some r:=H;have A2:=Aside0.mk A20;clear A20;by_cases c3:t252=true
 ·subst c3;have H1:(some 0)=some r:=(by rw [if_pos rfl] at H;exact H);clear H;have H:=H1;clear H1;obtain rfl:=Option.some.inj H;go_enter Try.func99,Try.ntmps99;go_wp2_with (first|((with_reducible refine gate_dst (N:=4) rfl ?_);refine Kd.R_lit Kd.string _ 9 ?hg (N:=4) ?hd (xs:=([a0]:List ByteArray)) (inner:=[.string a0]) (ok:=fun _=>True) (okp:=fun _=>True) ?hr ?hp (fun _ hk=>hk) trivial (Below.refl _ _) (Nat.le_refl _) (by simp) ?_;(case hd=>rfl);(case hg=>rfl);(case hr=>go_simp;try rfl);(case hp=>exact (Reps.one (show Kd.M Kd.string _ _ _ a0 [.string a0] from rfl) (Reps.none _ _)));intro v250 w4 ho5 hb hg_ hnew_;clear hg_ hnew_;(first|rw [← Ny249.1] at ho5|(simp only [Int.reduceToNat] at ho5;rw [← Ny249.1] at ho5));have HO251:=Aside0.mk (Kd.R_lower ho5 (zB HB));replace HB:=tB HB hb;clear hb ho5;obtain ⟨Ao6,co6,eo6⟩:=Kd.R_slice HO251.1;subst eo6)|((with_reducible refine gC 65 rfl ?_);refine gL 5 Try.func65 #[.slice Ao6 y249.length co6] ?_;(with_reducible refine (impl_long.calls k _ _ y249 true _ ?side1 ?side2 A2.1).mono ?_);(case side1=>exact cO HO251);(case side2=>exact (Kd.R_reads' HO251.1).2.1);rintro e w' ⟨rfl,⟨nd,rfl⟩⟩;refine ⟨_,rfl,?_⟩));go_ret;exact ⟨by first|rfl|(simp [errW_none,errW_some] <;> rfl)|(simp [*,errW_none,errW_some] <;> rfl),by repeat (first|(with_reducible first|exact HB.1|apply qA|apply qN|apply qD)|exact HB.1)⟩
 ·replace c3:=Bool.eq_false_iff.mpr c3;subst c3;have H1:((impl_crcOn.f k 4294967295 a0).bind fun t253=>(some (wrap64 (Go.bits .xor .u32 4294967295 t253))))=some r:=(by rw [if_neg (show ¬ (false=true) by decide)] at H;exact H);clear H;have H:=H1;clear H1;replace H:=bS H;obtain ⟨t253,A70,H⟩:=H;replace H:(some (wrap64 (Go.bits .xor .u32 4294967295 t253)))=some r:=H;have A7:=Aside0.mk A70;clear A70;obtain rfl:=Option.some.inj H;go_enter Try.func99,Try.ntmps99;go_wp2_with (first|((with_reducible refine gate_dst (N:=4) rfl ?_);refine Kd.R_lit Kd.string _ 9 ?hg (N:=4) ?hd (xs:=([a0]:List ByteArray)) (inner:=[.string a0]) (ok:=fun _=>True) (okp:=fun _=>True) ?hr ?hp (fun _ hk=>hk) trivial (Below.refl _ _) (Nat.le_refl _) (by simp) ?_;(case hd=>rfl);(case hg=>rfl);(case hr=>go_simp;try rfl);(case hp=>exact (Reps.one (show Kd.M Kd.string _ _ _ a0 [.string a0] from rfl) (Reps.none _ _)));intro v250 w8 ho9 hb hg_ hnew_;clear hg_ hnew_;(first|rw [← Ny249.1] at ho9|(simp only [Int.reduceToNat] at ho9;rw [← Ny249.1] at ho9));have HO251:=Aside0.mk (Kd.R_lower ho9 (zB HB));replace HB:=tB HB hb;clear hb ho9;obtain ⟨Ao10,co10,eo10⟩:=Kd.R_slice HO251.1;subst eo10)|((with_reducible refine gC 65 rfl ?_);refine gL 5 Try.func65 #[.slice Ao10 y249.length co10] ?_;(with_reducible refine (impl_long.calls k _ _ y249 false _ ?side1 ?side2 A2.1).mono ?_);(case side1=>exact cO HO251);(case side2=>exact (Kd.R_reads' HO251.1).2.1);rintro e w' ⟨rfl,⟨nd,rfl⟩⟩;refine ⟨_,rfl,?_⟩)|((with_reducible refine gC 108 rfl ?_);refine gL 7 Try.func108 #[.int .u32 4294967295,.string a0] ?_;(with_reducible refine (impl_crcOn.calls k 4294967295 a0 t253 _ A7.1).mono ?_);rintro e w' ⟨rfl,⟨nd,rfl⟩⟩;refine ⟨_,rfl,?_⟩));go_ret;exact ⟨by first|rfl|(simp [errW_none,errW_some] <;> rfl)|(simp [*,errW_none,errW_some] <;> rfl),by repeat (first|(with_reducible first|exact HB.1|apply qA|apply qN|apply qD)|exact HB.1)⟩

/-! ### impl_Seal: function 62 -/
def impl_Seal.f (k:Nat) (a0:ByteArray):Option (ByteArray):=if (a0.size:Int) > 19996 then (some (⟨#[]⟩:ByteArray)) else ((impl_Crc.f k a0).bind fun t254=>((some (([(t254) % 256,(t254 / 256) % 256,(t254 / 65536) % 256,(t254 / 16777216) % 256]:List Int):List Int)).bind fun y255=>(if a0.size + (strOfNums y255).size ≤ 9223372036854775807 then (some (a0 ++ (strOfNums y255))) else (none))))
theorem impl_Seal.mono:∀ a0 k,LeO (impl_Seal.f k a0) (impl_Seal.f (k + 1) a0):=by
 intro a0 k;unfold impl_Seal.f
 repeat' first | (with_reducible first | exact impl_Crc.mono _ _ | exact LeO.refl _ | exact LeO.none _ | refine LeO.ite ?_ ?_ | refine LeO.bind ?_ (fun _=>?_)) | exact LeO.none _ | refine LeO.ite ?_ ?_ | refine LeO.bind ?_ (fun _=>?_)
set_option maxHeartbeats 8000000 in
set_option maxRecDepth 100000 in
theorem impl_Seal.calls (k:Nat) (a0:ByteArray) (r:ByteArray) (w:World) (h:impl_Seal.f k a0=some r) :
  Calls Try.prog 62 #[.string a0] w fun e w'=>e=.returned (.string r)∧Below w.heap.size w w':=by
 have HB:=Aside0.mk (Below.refl w.heap.size w);have H:(if (a0.size:Int) > 19996 then (some (⟨#[]⟩:ByteArray)) else ((impl_Crc.f k a0).bind fun t254=>((some (([(t254) % 256,(t254 / 256) % 256,(t254 / 65536) % 256,(t254 / 16777216) % 256]:List Int):List Int)).bind fun y255=>(if a0.size + (strOfNums y255).size ≤ 9223372036854775807 then (some (a0 ++ (strOfNums y255))) else (none)))))=some r:=h;clear h;by_cases c2:(a0.size:Int) > 19996
 ·rw [if_pos c2] at H;have c2b0:decide (19996 < (a0.size:Int))=true:=decide_eq_true c2;have c2b1:decide (19996 < a0.size)=true:=decide_eq_true (by omega);clear c2;obtain rfl:=Option.some.inj H;go_enter Try.func62,Try.ntmps62;go_wp2;go_ret;exact ⟨by first|rfl|(simp [errW_none,errW_some] <;> rfl)|(simp [*,errW_none,errW_some] <;> rfl),by repeat (first|(with_reducible first|exact HB.1|apply qA|apply qN|apply qD)|exact HB.1)⟩
 ·rw [if_neg c2] at H;have c2b0:decide (19996 < (a0.size:Int))=false:=decide_eq_false c2;have c2b1:decide (19996 < a0.size)=false:=decide_eq_false (by omega);clear c2;replace H:=bS H;obtain ⟨t254,A30,H⟩:=H;replace H:((some (([(t254) % 256,(t254 / 256) % 256,(t254 / 65536) % 256,(t254 / 16777216) % 256]:List Int):List Int)).bind fun y255=>(if a0.size + (strOfNums y255).size ≤ 9223372036854775807 then (some (a0 ++ (strOfNums y255))) else (none)))=some r:=H;have A3:=Aside0.mk A30;clear A30;obtain ⟨y255,hy255⟩:∃ y_:List Int,y_=(([(t254) % 256,(t254 / 256) % 256,(t254 / 65536) % 256,(t254 / 16777216) % 256]:List Int)):=⟨_,rfl⟩;replace H:(if a0.size + (strOfNums y255).size ≤ 9223372036854775807 then (some (a0 ++ (strOfNums y255))) else (none))=some r:=(by first|(rw [hy255];with_reducible exact H)|(have H2_:=(Option.bind_some _ _).symm.trans H;rw [hy255];with_reducible exact H2_)|(have H2_:=(Option.bind_some _ _).symm.trans H;with_reducible exact H2_)|with_reducible exact H|(rw [hy255];exact H)|exact H);have Ny255:=Aside0.mk hy255;clear hy255;by_cases c4:a0.size + (strOfNums y255).size ≤ 9223372036854775807
  ·rw [if_pos c4] at H;have c4b0:=eq_true c4;have c4b1:decide (a0.size + (strOfNums y255).size ≤ 9223372036854775807)=true:=decide_eq_true c4;(try have c4b2:(9223372036854775807 < a0.size + (strOfNums y255).size)=False:=eq_false (Nat.not_lt.2 c4));obtain rfl:=Option.some.inj H;go_enter Try.func62,Try.ntmps62;go_wp2_with (first|((with_reducible refine gC 99 rfl ?_);refine gL 8 Try.func99 #[.string a0] ?_;(with_reducible refine (impl_Crc.calls k a0 t254 _ A3.1).mono ?_);rintro e w5 ⟨rfl,hb⟩;refine ⟨_,rfl,?_⟩;replace HB:=tB HB hb;(try clear hb);(try clear hb2);(try clear hk);(try clear hi))|((with_reducible refine gate_dst (N:=21) rfl ?_);refine Kd.R_lit (Kd.int .u8) _ 5 ?hg (N:=21) ?hd (xs:=([(t254) % 256,(t254 / 256) % 256,(t254 / 65536) % 256,(t254 / 16777216) % 256]:List Int)) (inner:=[.int .u8 ((t254) % 256),.int .u8 ((t254 / 256) % 256),.int .u8 ((t254 / 65536) % 256),.int .u8 ((t254 / 16777216) % 256)]) (ok:=fun _=>True) (okp:=fun _=>True) ?hr ?hp (fun _ hk=>hk) trivial (Below.refl _ _) (Nat.le_refl _) (by simp) ?_;(case hd=>rfl);(case hg=>rfl);(case hr=>go_simp;try rfl);(case hp=>exact (Reps.one (show Kd.M (Kd.int .u8) _ _ _ ((t254) % 256) [.int .u8 ((t254) % 256)] from rfl) (Reps.one (show Kd.M (Kd.int .u8) _ _ _ ((t254 / 256) % 256) [.int .u8 ((t254 / 256) % 256)] from rfl) (Reps.one (show Kd.M (Kd.int .u8) _ _ _ ((t254 / 65536) % 256) [.int .u8 ((t254 / 65536) % 256)] from rfl) (Reps.one (show Kd.M (Kd.int .u8) _ _ _ ((t254 / 16777216) % 256) [.int .u8 ((t254 / 16777216) % 256)] from rfl) (Reps.none _ _))))));intro v256 w6 ho7 hb hg_ hnew_;clear hg_ hnew_;(first|rw [← Ny255.1] at ho7|(simp only [Int.reduceToNat] at ho7;rw [← Ny255.1] at ho7));have HO257:=Aside0.mk (Kd.R_lower ho7 (zB HB));replace HB:=tB HB hb;clear hb ho7;have hcv8:=own_string (P:=Try.prog) Try.underlying41 Try.underlying5 Try.underlying9 (Kd.own_of_R HO257.1)));go_ret;exact ⟨by first|rfl|(simp [errW_none,errW_some] <;> rfl)|(simp [*,errW_none,errW_some] <;> rfl),by repeat (first|(with_reducible first|exact HB.1|apply qA|apply qN|apply qD)|exact HB.1)⟩
  ·rw [if_neg c4] at H;exact absurd H (by simp)

end Go.Proofs.Ytaaffhghpealjaa.A
