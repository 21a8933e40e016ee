/- Plain Lean functions for Go functions of the seat, and that a call of each Go function comes to what its plain function says; conditions: its slices read as the lists named. Written by a program of this session with the kit's print.py. -/
import Derived.Test.YtaaffhghpealjaaAx0
namespace Go.Proofs.Ytaaffhghpealjaa.A
open Go.RowKit Go.Proofs.YtaaffhghpealjaaW.PrintWords Go.Proofs.YtaaffhghpealjaaW.PrintLast Go.Proofs.YtaaffhghpealjaaW.PrintMore
attribute [local go_sem] isSome_setCell max2_int min2_int max_two min_two max_three min_three max_four min_four   -- for this text's walks alone
set_option linter.unusedVariables false
set_option linter.unusedSimpArgs false

/-! ### laws_lwAt: function 26 -/
def laws_lwAt.f (l0:List Int) (a1:Int) (a2:Int):Option (Int):=if a2 ≤ 1 then (some 0) else (if (l0.length:Int)=0 then (some 0) else (if 0 ≤ (Int.tmod a1 (l0.length:Int)) then (if (Int.tmod a1 (l0.length:Int)) < (l0.length:Int) then (if a2=0 then (none) else (some (Int.tmod (wrap64 (rd l0 (Int.tmod a1 (l0.length:Int)))) a2))) else (none)) else (none)))
set_option maxHeartbeats 8000000 in
set_option maxRecDepth 100000 in
theorem laws_lwAt.calls (A0:Option Addr) (c0:Nat) (l0:List Int) (a1:Int) (a2:Int) (r:Int) (w:World) (hr0:Kd.C (Kd.int .u8) w A0 l0.length l0) (hc0:l0.length ≤ c0) (h:laws_lwAt.f l0 a1 a2=some r) :
  Calls Try.prog 26 #[.slice A0 l0.length c0,.int .i64 a1,.int .i64 a2] w fun e w'=>e=.returned (.int .i64 r)∧Drawn0 w w':=by
 have HR0:=Aside0.mk hr0;have HC0:=Aside0.mk hc0;clear hr0 hc0;have H:(if a2 ≤ 1 then (some 0) else (if (l0.length:Int)=0 then (some 0) else (if 0 ≤ (Int.tmod a1 (l0.length:Int)) then (if (Int.tmod a1 (l0.length:Int)) < (l0.length:Int) then (if a2=0 then (none) else (some (Int.tmod (wrap64 (rd l0 (Int.tmod a1 (l0.length:Int)))) a2))) else (none)) else (none))))=some r:=h;clear h;by_cases c4:a2 ≤ 1
 ·rw [if_pos c4] at H;have c4b0:decide (a2 ≤ 1)=true:=decide_eq_true c4;clear c4;obtain rfl:=Option.some.inj H;go_enter Try.func26,Try.ntmps26;go_wp2;go_ret;exact ⟨by first|rfl|(simp;done)|(simp [*];done),by repeat (first|exact Drawn0.refl _|apply Drawn0.step)⟩
 ·rw [if_neg c4] at H;have c4b0:decide (a2 ≤ 1)=false:=decide_eq_false c4;clear c4;by_cases c5:(l0.length:Int)=0
  ·rw [if_pos c5] at H;have c5b0:((l0.length:Int) == 0)=true:=beq_iff_eq.mpr c5;have c5b1:((l0.length:Int) != 0)=false:=bne_eq_false_iff_eq.mpr c5;clear c5;obtain rfl:=Option.some.inj H;go_enter Try.func26,Try.ntmps26;go_wp2;go_ret;exact ⟨by first|rfl|(simp;done)|(simp [*];done),by repeat (first|exact Drawn0.refl _|apply Drawn0.step)⟩
  ·rw [if_neg c5] at H;have c5b0:((l0.length:Int) == 0)=false:=beq_eq_false_iff_ne.mpr c5;have c5b1:((l0.length:Int) != 0)=true:=bne_iff_ne.mpr c5;have c5b2:¬ (l0=[]):=fun h_=>c5 (by rw [h_];rfl)
   obtain ⟨ji6,hji6⟩:∃ j_:Int,(Int.tmod a1 (l0.length:Int))=j_:=⟨_,rfl⟩;replace H:(if 0 ≤ (ji6) then (if (ji6) < (l0.length:Int) then (if a2=0 then (none) else (some (Int.tmod (wrap64 (rd l0 (ji6))) a2))) else (none)) else (none))=some r:=(by first|(rw [hji6] at H;exact H)|(simp only [hji6] at H ⊢;exact H));by_cases c7:0 ≤ (ji6)
   ·rw [if_pos c7] at H;have c7b0:decide (0 ≤ (ji6))=true:=decide_eq_true c7;clear c7;by_cases c8:(ji6) < (l0.length:Int)
    ·rw [if_pos c8] at H;have c8b0:decide ((ji6) < (l0.length:Int))=true:=decide_eq_true c8;clear c8;by_cases c9:a2=0
     ·rw [if_pos c9] at H;exact absurd H (by simp)
     ·rw [if_neg c9] at H;have c9b0:(a2 == 0)=false:=beq_eq_false_iff_ne.mpr c9;have c9b1:(a2 != 0)=true:=bne_iff_ne.mpr c9;obtain rfl:=Option.some.inj H;have p288:0 ≤ ((ji6):Int):=of_decide_eq_true (by first|(with_reducible assumption)|assumption);have q288:(ji6) < (l0.length:Int):=of_decide_eq_true (by first|(with_reducible assumption)|assumption);obtain ⟨ad288,e288,hx288_0⟩:=Kd.at_int HR0.1 (ji6) p288 q288;cases e288
      replace p288:=eq_true p288;replace q288:=eq_true q288;go_enter Try.func26,Try.ntmps26;go_wp2;go_ret;exact ⟨by first|rfl|(simp;done)|(simp only [← hji6] <;> (first|rfl|simp))|(simp [*];done),by repeat (first|exact Drawn0.refl _|apply Drawn0.step)⟩
    ·rw [if_neg c8] at H;exact absurd H (by simp)
   ·rw [if_neg c7] at H;exact absurd H (by simp)


/-! ### laws_lwTexts: function 30 -/
def laws_lwTexts.l0:Nat → List ByteArray → List ByteArray → Int → Option (Bool)
 | 0,_,_,_=>none
 | k + 1,x0,x1,x5=>if x5 < (x0.length:Int) then (if 0 ≤ x5 then (if x5 < (x1.length:Int) then (if (rdOf ByteArray.empty x0 x5).toList=(rdOf ByteArray.empty x1 x5).toList then (laws_lwTexts.l0 k x0 x1 (wrap64 (x5 + 1))) else (some false)) else (none)) else (none)) else (some true)
def laws_lwTexts.f (k:Nat) (l0:List ByteArray) (l1:List ByteArray):Option (Bool):=if (l0.length:Int)=(l1.length:Int) then (laws_lwTexts.l0 k l0 l1 0) else (some false)
theorem laws_lwTexts.mono_l:∀ k,(∀ y0 y1 y2,LeO (laws_lwTexts.l0 k y0 y1 y2) (laws_lwTexts.l0 (k + 1) y0 y1 y2))
 | 0=>fun _ _ _ r h=>by simp [laws_lwTexts.l0] at h
 | k + 1=>by
  have ih0:=laws_lwTexts.mono_l k
  ·intro y0 y1 y2;unfold laws_lwTexts.l0;repeat' first | (with_reducible first | exact ih0 _ _ _ | exact LeO.refl _ | exact LeO.none _ | refine LeO.ite ?_ ?_ | refine LeO.bind ?_ (fun _=>?_)) | exact LeO.none _ | refine LeO.ite ?_ ?_ | refine LeO.bind ?_ (fun _=>?_)
theorem laws_lwTexts.mono:∀ a0 a1 k,LeO (laws_lwTexts.f k a0 a1) (laws_lwTexts.f (k + 1) a0 a1):=by
 intro a0 a1 k;have ih0:=laws_lwTexts.mono_l k;unfold laws_lwTexts.f
 repeat' first | (with_reducible first | exact ih0 _ _ _ | exact LeO.refl _ | exact LeO.none _ | refine LeO.ite ?_ ?_ | refine LeO.bind ?_ (fun _=>?_)) | exact LeO.none _ | refine LeO.ite ?_ ?_ | refine LeO.bind ?_ (fun _=>?_)
set_option maxHeartbeats 8000000 in
set_option maxRecDepth 100000 in
theorem laws_lwTexts.calls (k:Nat) (A0:Option Addr) (c0:Nat) (l0:List ByteArray) (A1:Option Addr) (c1:Nat) (l1:List ByteArray) (r:Bool) (w:World) (hr0:Kd.C Kd.string w A0 l0.length l0) (hc0:l0.length ≤ c0) (hr1:Kd.C Kd.string w A1 l1.length l1) (hc1:l1.length ≤ c1) (h:laws_lwTexts.f k l0 l1=some r) :
  Calls Try.prog 30 #[.slice A0 l0.length c0,.slice A1 l1.length c1] w fun e w'=>e=.returned (.bool r)∧Drawn0 w w':=by
 have HR0:=Aside0.mk hr0;have HC0:=Aside0.mk hc0;clear hr0 hc0;have HR1:=Aside0.mk hr1;have HC1:=Aside0.mk hc1;clear hr1 hc1;have H:(if (l0.length:Int)=(l1.length:Int) then (laws_lwTexts.l0 k l0 l1 0) else (some false))=some r:=h;clear h;by_cases c3:(l0.length:Int)=(l1.length:Int)
 ·rw [if_pos c3] at H;have c3b0:((l0.length:Int) == (l1.length:Int))=true:=beq_iff_eq.mpr c3;have c3b1:((l0.length:Int) != (l1.length:Int))=false:=bne_eq_false_iff_eq.mpr c3;have c3b2:(l0.length == l1.length)=true:=(by first|simpa using c3|(simp at c3 ⊢;omega));clear c3;have H':=Aside0.mk H;clear H;go_enter Try.func30,Try.ntmps30;go_wp2;repeat (go_quiet (fail);try go_wp2)
  go_loopg [5] k (fun kq v5 w'=>∃ (x5_1:Int),v5=.int .i64 x5_1∧Aside0 (laws_lwTexts.l0 kq l0 l1 x5_1=some r)∧Aside0 (kq ≤ k)∧Drawn0 w w');case atStart=>exact ⟨(0),(by first|rfl|(simp;done)|(simp [*];done)),H',⟨Nat.le_refl _⟩,by repeat (first|exact Drawn0.refl _|apply Drawn0.step)⟩
  case round =>
   clear H';(try clear c1);(try clear p2);(try clear c3);(try clear c3b0);(try clear c3b1);(try clear c3b2);obtain ⟨x5_1,rfl,HA,HK1,⟨m1,rfl⟩⟩:=hrel;cases gk with
   | zero=>exact absurd HA.1 (by simp [laws_lwTexts.l0])
   | succ k1 =>
    have H:=HA.1;clear HA;simp only [laws_lwTexts.l0] at H;by_cases c4:x5_1 < (l0.length:Int)
    ·rw [if_pos c4] at H;have c4b0:decide (x5_1 < (l0.length:Int))=true:=decide_eq_true c4;clear c4;by_cases c5:0 ≤ x5_1
     ·rw [if_pos c5] at H;have c5b0:decide (0 ≤ x5_1)=true:=decide_eq_true c5;clear c5;by_cases c6:x5_1 < (l1.length:Int)
      ·rw [if_pos c6] at H;have c6b0:decide (x5_1 < (l1.length:Int))=true:=decide_eq_true c6;clear c6;by_cases c7:(rdOf ByteArray.empty l0 x5_1).toList=(rdOf ByteArray.empty l1 x5_1).toList
       ·rw [if_pos c7] at H;have c7b0:((rdOf ByteArray.empty l0 x5_1).toList == (rdOf ByteArray.empty l1 x5_1).toList)=true:=beq_iff_eq.mpr c7;have c7b1:((rdOf ByteArray.empty l0 x5_1).toList != (rdOf ByteArray.empty l1 x5_1).toList)=false:=bne_eq_false_iff_eq.mpr c7;clear c7;have H':=Aside0.mk H;clear H;have p361:0 ≤ (x5_1:Int):=of_decide_eq_true (by first|(with_reducible assumption)|assumption);have q361:x5_1 < (l0.length:Int):=of_decide_eq_true (by first|(with_reducible assumption)|assumption);obtain ⟨ad361,e361,hx361_0⟩:=Kd.at_string HR0.1 x5_1 p361 q361;cases e361
        replace p361:=eq_true p361;replace q361:=eq_true q361;have p362:0 ≤ (x5_1:Int):=of_decide_eq_true (by first|(with_reducible assumption)|assumption);have q362:x5_1 < (l1.length:Int):=of_decide_eq_true (by first|(with_reducible assumption)|assumption);obtain ⟨ad362,e362,hx362_0⟩:=Kd.at_string HR1.1 x5_1 p362 q362;cases e362
        replace p362:=eq_true p362;replace q362:=eq_true q362;go_wp2;repeat (go_quiet (fail);try go_wp2)
        go_roundg k1;case measure=>have:=HK1.1;omega
        case rel=>exact ⟨(wrap64 (x5_1 + 1)),(by first|rfl|(simp;done)|(simp [*];done)),H',⟨by have:=HK1.1;omega⟩,by repeat (first|exact Drawn0.refl _|apply Drawn0.step)⟩
       ·rw [if_neg c7] at H;have c7b0:((rdOf ByteArray.empty l0 x5_1).toList == (rdOf ByteArray.empty l1 x5_1).toList)=false:=beq_eq_false_iff_ne.mpr c7;have c7b1:((rdOf ByteArray.empty l0 x5_1).toList != (rdOf ByteArray.empty l1 x5_1).toList)=true:=bne_iff_ne.mpr c7;obtain rfl:=Option.some.inj H;have p361:0 ≤ (x5_1:Int):=of_decide_eq_true (by first|(with_reducible assumption)|assumption);have q361:x5_1 < (l0.length:Int):=of_decide_eq_true (by first|(with_reducible assumption)|assumption);obtain ⟨ad361,e361,hx361_0⟩:=Kd.at_string HR0.1 x5_1 p361 q361;cases e361
        replace p361:=eq_true p361;replace q361:=eq_true q361;have p362:0 ≤ (x5_1:Int):=of_decide_eq_true (by first|(with_reducible assumption)|assumption);have q362:x5_1 < (l1.length:Int):=of_decide_eq_true (by first|(with_reducible assumption)|assumption);obtain ⟨ad362,e362,hx362_0⟩:=Kd.at_string HR1.1 x5_1 p362 q362;cases e362
        replace p362:=eq_true p362;replace q362:=eq_true q362;go_wp2;repeat (go_quiet (fail);try go_wp2)
        go_ret;exact ⟨by first|rfl|(simp;done)|(simp [*];done),by repeat (first|exact Drawn0.refl _|apply Drawn0.step)⟩
      ·rw [if_neg c6] at H;exact absurd H (by simp)
     ·rw [if_neg c5] at H;exact absurd H (by simp)
    ·rw [if_neg c4] at H;have c4b0:decide (x5_1 < (l0.length:Int))=false:=decide_eq_false c4;clear c4;obtain rfl:=Option.some.inj H;go_wp2;repeat (go_quiet (fail);try go_wp2)
     go_ret;exact ⟨by first|rfl|(simp;done)|(simp [*];done),by repeat (first|exact Drawn0.refl _|apply Drawn0.step)⟩
 ·rw [if_neg c3] at H;have c3b0:((l0.length:Int) == (l1.length:Int))=false:=beq_eq_false_iff_ne.mpr c3;have c3b1:((l0.length:Int) != (l1.length:Int))=true:=bne_iff_ne.mpr c3;have c3b2:(l0.length == l1.length)=false:=(by first|simpa using c3|(simp at c3 ⊢;omega));obtain rfl:=Option.some.inj H;go_enter Try.func30,Try.ntmps30;go_wp2;repeat (go_quiet (fail);try go_wp2)
  go_ret;exact ⟨by first|rfl|(simp;done)|(simp [*];done),by repeat (first|exact Drawn0.refl _|apply Drawn0.step)⟩

end Go.Proofs.Ytaaffhghpealjaa.A
