/- Part of the proof of FnLink (a drawn valid end of a link stays valid, frames are read back, nothing is sent before its time): plain functions and what calls come to. No conditions beyond those that each statement names. -/
import Derived.Lib.SmallJoins
import Derived.Deep.Strs
import Derived.ProofKit
import Derived.OpenShut
import Derived.ShutString
import Derived.Test.YtaaffhghpealjaaK17
namespace Go.Proofs.Ytaaffhghpealjaa
open Go.Proofs.Ytaaffhghpealjaa.A Go.RowKit Go.Proofs.YtaaffhghpealjaaW.PrintWords Go.Proofs.YtaaffhghpealjaaW.PrintLast Go.Proofs.YtaaffhghpealjaaW.PrintMore
attribute [local simp high] andThen_ok_
attribute [local go_sem] isSome_setCell max2_int min2_int max_two min_two max_three min_three max_four min_four
set_option linter.unusedVariables false
set_option linter.unusedSimpArgs false
set_option maxHeartbeats 4000000 in
set_option maxRecDepth 100000 in
theorem FnLink.walk (A0:Option Addr) (c0:Nat) (l0:List Int) (A1:Option Addr) (c1:Nat) (l1:List Int) (w:World) (hr0:Kd.C (Kd.int .u8) w A0 l0.length l0) (hc0:l0.length ≤ c0) (_hm0:l0.length ≤ 9223372036854775807) (hs0:∀ x ∈ l0,0 ≤ x∧x ≤ 255) (hr1:Kd.C (Kd.int .u8) w A1 l1.length l1) (hc1:l1.length ≤ c1) (_hm1:l1.length ≤ 9223372036854775807) (_hs1:∀ x ∈ l1,0 ≤ x∧x ≤ 255) :
  Calls Try.prog 12 #[.slice A0 l0.length c0,.slice A1 l1.length c1] w fun e w'=>e=.returned (.bool true)∧Below w.heap.size w w':=by
 have hu24:=Try.underlying24;have hu38:=Try.underlying38;have hu45:=Try.underlying45
 have hf45_1:∀ (a0 a1 a2 a3 a4 a5 a6 a7:Value) (w_:World),(Instr.field 45 (.agg #[a0,a1,a2,a3,a4,a5,a6,a7]) 1).run Try.prog w_=.ok a5 w_:=fun _ _ _ _ _ _ _ _ _=>rfl
 have hf45_3:∀ (a0 a1 a2 a3 a4 a5 a6 a7:Value) (w_:World),(Instr.field 45 (.agg #[a0,a1,a2,a3,a4,a5,a6,a7]) 3).run Try.prog w_=.ok a7 w_:=fun _ _ _ _ _ _ _ _ _=>rfl
 have E:Aside0 (Bn w w fun W=>Kd.C (Kd.int .u8) W A0 l0.length l0∧Kd.C (Kd.int .u8) W A1 l1.length l1):=⟨Below.refl _ _,hr0,hr1⟩
 have HC0:=Aside0.mk hc0;have HC1:=Aside0.mk hc1;have HS0:=Aside0.mk hs0
 clear hr0 hr1 hc0 hc1 hs0 _hm0 _hm1 _hs1
 by_cases hl0:(1048576:Int) < (l0.length:Int)
 ·have d0:decide ((1048576:Int) < (l0.length:Int))=true:=decide_eq_true hl0
  clear hl0
  go_enter Try.func12,Try.ntmps12
  go_wp2
  go_ret
  exact ⟨rfl,E.1.bel⟩
 have d0:decide ((1048576:Int) < (l0.length:Int))=false:=decide_eq_false hl0
 by_cases hl1:(1048576:Int) < (l1.length:Int)
 ·have d1:decide ((1048576:Int) < (l1.length:Int))=true:=decide_eq_true hl1
  clear hl0 hl1
  go_enter Try.func12,Try.ntmps12
  go_wp2
  go_ret
  exact ⟨rfl,E.1.bel⟩
 have d1:decide ((1048576:Int) < (l1.length:Int))=false:=decide_eq_false hl1
 have HL0:Aside0 (l0.length ≤ 1048576):=⟨by omega⟩
 have HL1:Aside0 (l1.length ≤ 1048576):=⟨by omega⟩
 clear hl0 hl1
 go_enter Try.func12,Try.ntmps12
 go_upto_region 4 with (first
  | ((with_reducible refine gC 41 rfl ?_);refine gL 28 Try.func41 #[.slice A0 l0.length c0] ?_;refine (DrawLinkPut_ok A0 c0 l0 _ E.1.fact.1 HC0.1 HL0.1).mono ?_;rintro e w8 ⟨b1,d1,x1,y1,A_1,k1,q1,t1,n1,rfl,hq,hC,hcq,hb⟩;refine ⟨_,rfl,?_⟩;have HQ1:=Aside0.mk (And.intro hq hcq);have E2:=Bn.add (R:=fun W=>Kd.C Kd.string W A_1 q1.length q1) E (by repeat (first|exact St.blk|exact St.C|apply St.and)) hb hC;clear E hq hcq hC hb;have E:=E2;clear E2)
  | ((with_reducible refine gate_dst (N:=5) rfl ?_);refine box_event ?hg (N:=5) ?hd (cs:=#[.int .i64 0,.slice none 0 0,.int .i64 0,.int .i64 0,.int .i64 0]) (t:=24) ?hr ?_;(case hd=>rfl);(case hg=>rfl);(case hr=>go_simp;try rfl);intro g5 hg w9 hbox hb;have HGg5:=Aside0.mk hg;have HXg5:=Aside0.mk hbox;have HBg5:=Aside0.mk hb;clear hg hbox hb;obtain ⟨hcz0,hcz1,hcz2,hcz3,hcz4⟩:=c5_ HXg5;obtain ⟨hfz0,hfz1,hfz2,hfz3,hfz4⟩:=f5_ HXg5))
 (try simp only [Act.put,sA,sZ,sS])
 have E2:=Bn.box5 (W':=w9) (u0:=.int .i64 b1) (u1:=.slice A_1 q1.length k1) (u2:=.int .i64 d1) (u3:=.int .i64 x1) (u4:=.int .i64 y1) E (by repeat (first|exact St.blk|exact St.C|apply St.and)) HGg5 HXg5 HBg5
 clear E HGg5 HXg5 HBg5 hcz0 hcz1 hcz2 hcz3 hcz4 hfz0 hfz1 hfz2 hfz3 hfz4
 have E:=E2
 clear E2
 generalize (((((w9.setCell ⟨g5,0,none⟩ (.int .i64 b1)).setCell ⟨g5,1,none⟩ (.slice A_1 q1.length k1)).setCell ⟨g5,2,none⟩ (.int .i64 d1)).setCell ⟨g5,3,none⟩ (.int .i64 x1)).setCell ⟨g5,4,none⟩ (.int .i64 y1))=w10 at E ⊢
 go_upto_region 5 with (first
  | ((with_reducible refine gC 42 rfl ?_);refine gL 34 Try.func42 #[.slice A1 l1.length c1] ?_;refine (DrawLinkTick_ok A1 c1 l1 _ E.1.fact.2.2.2 HC1.1 HL1.1).mono ?_;rintro e w8 ⟨b2,d2,x2,y2,A_2,k2,q2,n2,rfl,hq,hC,hcq,hb⟩;refine ⟨_,rfl,?_⟩;have HQ2:=Aside0.mk (And.intro hq hcq);have E2:=Bn.add (R:=fun W=>Kd.C Kd.string W A_2 q2.length q2) E (by repeat (first|exact St.blk|exact St.C|apply St.and)) hb hC;clear E hq hcq hC hb;have E:=E2;clear E2)
  | ((with_reducible refine gate_dst (N:=8) rfl ?_);refine box_event ?hg (N:=8) ?hd (cs:=#[.int .i64 0,.slice none 0 0,.int .i64 0,.int .i64 0,.int .i64 0]) (t:=24) ?hr ?_;(case hd=>rfl);(case hg=>rfl);(case hr=>go_simp;try rfl);intro g8 hg w9 hbox hb;have HGg8:=Aside0.mk hg;have HXg8:=Aside0.mk hbox;have HBg8:=Aside0.mk hb;clear hg hbox hb;obtain ⟨hcz0,hcz1,hcz2,hcz3,hcz4⟩:=c5_ HXg8;obtain ⟨hfz0,hfz1,hfz2,hfz3,hfz4⟩:=f5_ HXg8))
 (try simp only [Act.put,sA,sZ,sS])
 have E2:=Bn.box5 (W':=w9) (u0:=.int .i64 b2) (u1:=.slice A_2 q2.length k2) (u2:=.int .i64 d2) (u3:=.int .i64 x2) (u4:=.int .i64 y2) E (by repeat (first|exact St.blk|exact St.C|apply St.and)) HGg8 HXg8 HBg8
 clear E HGg8 HXg8 HBg8 hcz0 hcz1 hcz2 hcz3 hcz4 hfz0 hfz1 hfz2 hfz3 hfz4
 have E:=E2
 clear E2
 generalize (((((w9.setCell ⟨g8,0,none⟩ (.int .i64 b2)).setCell ⟨g8,1,none⟩ (.slice A_2 q2.length k2)).setCell ⟨g8,2,none⟩ (.int .i64 d2)).setCell ⟨g8,3,none⟩ (.int .i64 x2)).setCell ⟨g8,4,none⟩ (.int .i64 y2))=w11 at E ⊢
 go_upto_region 6 with (first
  | ((with_reducible refine gC 43 rfl ?_);refine gL 39 Try.func43 #[.slice A1 l1.length c1] ?_;refine (DrawLinkHear_ok A1 c1 l1 _ E.1.fact.2.2.2.2.2 HC1.1 HL1.1).mono ?_;rintro e w8 ⟨b3,d3,x3,y3,A_3,k3,q3,fk,fs,ft,rfl,hq,hk,hC,hcq,hb⟩;refine ⟨_,rfl,?_⟩;have HQ3:=Aside0.mk (And.intro hq hcq);have HK:=Aside0.mk hk;clear hk;have E2:=Bn.add (R:=fun W=>Kd.C Kd.string W A_3 q3.length q3) E (by repeat (first|exact St.blk|exact St.C|apply St.and)) hb hC;clear E hq hcq hC hb;have E:=E2;clear E2)
  | ((with_reducible refine gate_dst (N:=10) rfl ?_);refine box_event ?hg (N:=10) ?hd (cs:=#[.int .i64 0,.slice none 0 0,.int .i64 0,.int .i64 0,.int .i64 0]) (t:=24) ?hr ?_;(case hd=>rfl);(case hg=>rfl);(case hr=>go_simp;try rfl);intro g10 hg w12 hbox hb;have HG10:=Aside0.mk hg;have HX10:=Aside0.mk hbox;have HB10:=Aside0.mk hb;clear hg hbox hb;obtain ⟨hcz0,hcz1,hcz2,hcz3,hcz4⟩:=c5_ HX10;obtain ⟨hfz0,hfz1,hfz2,hfz3,hfz4⟩:=f5_ HX10)
  | ((with_reducible refine gate_dst (N:=11) rfl ?_);refine box_event ?hg (N:=11) ?hd (cs:=#[.int .i64 0,.int .i64 0,.string (⟨#[]⟩:ByteArray)]) (t:=38) ?hr ?_;(case hd=>rfl);(case hg=>rfl);(case hr=>go_simp;try rfl);intro g11 hg w13 hbox hb;have HN:=nL HX10 hg;have HM:=nG HX10 hg;have hne:=HN.1;have hne2:=HM.1;clear hcz0 hcz1 hcz2 hcz3 hcz4 hfz0 hfz1 hfz2 hfz3 hfz4;have HX10b:=bB HX10 hb;have HG11:=Aside0.mk hg;have HX11:=Aside0.mk hbox;have HB11:=Aside0.mk hb;clear hg hbox hb;obtain ⟨hcz0,hcz1,hcz2,hcz3,hcz4⟩:=c5_ HX10b;obtain ⟨hfz0,hfz1,hfz2,hfz3,hfz4⟩:=f5_ HX10b;obtain ⟨hez0,hez1,hez2⟩:=c3_ HX11;obtain ⟨hgz0,hgz1,hgz2⟩:=f3_ HX11))
 (try simp only [Act.put,sA,sZ,sS])
 have E2:=Bn.box53 (u0:=.int .i64 b3) (u1:=.slice A_3 q3.length k3) (u2:=.int .i64 d3) (u3:=.int .i64 x3) (u4:=.int .i64 y3) (v0:=.int .i64 fk) (v1:=.int .i64 fs) (v2:=.string ft) E (by repeat (first|exact St.blk|exact St.C|apply St.and)) HG10 HX10b HB10 HG11 HX11 HB11 HN HM
 clear E HG10 HX10 HX10b HB10 HG11 HX11 HB11 HN HM hne hne2 hcz0 hcz1 hcz2 hcz3 hcz4 hfz0 hfz1 hfz2 hfz3 hfz4 hez0 hez1 hez2 hgz0 hgz1 hgz2
 have E:=E2
 clear E2
 generalize ((((((((w13.setCell ⟨g10,0,none⟩ (.int .i64 b3)).setCell ⟨g10,1,none⟩ (.slice A_3 q3.length k3)).setCell ⟨g10,2,none⟩ (.int .i64 d3)).setCell ⟨g10,3,none⟩ (.int .i64 x3)).setCell ⟨g10,4,none⟩ (.int .i64 y3)).setCell ⟨g11,0,none⟩ (.int .i64 fk)).setCell ⟨g11,1,none⟩ (.int .i64 fs)).setCell ⟨g11,2,none⟩ (.string ft))=w14 at E ⊢
 obtain ⟨⟨e1,e2,e3,e4,e5,e6,e7,e8⟩,hT⟩:∃ o,tickV b2 q2 d2 x2 y2 n2=o:=⟨_,rfl⟩
 have HT:=Aside0.mk hT
 clear hT
 have HLe:Aside0 (e2.length ≤ 1048576∧e6.length ≤ 1048576):=⟨by have h1:=tickV_len b2 q2 d2 x2 y2 n2 (by have:=HQ2.1.1.1;omega);rw [HT.1] at h1;exact h1⟩
 obtain ⟨hcz0,hcz1,hcz2,hcz3,hcz4⟩:=c5_ (Aside0.mk (E.1.fact.2.2.1));obtain ⟨hfz0,hfz1,hfz2,hfz3,hfz4⟩:=f5_ (Aside0.mk (E.1.fact.2.2.1))
 go_upto_region 7 with (first
  | ((with_reducible refine gC 28 rfl ?_);refine gL 44 Try.func28 #[.agg #[.int .i64 b2,.slice A_2 q2.length k2,.int .i64 d2,.int .i64 x2,.int .i64 y2],.int .i64 n2] ?_;refine (tickI (E.1.fact.2.2.2.1) HQ2.1.2 (by have:=HQ2.1.1.1;omega) HT.1).mono ?_;rintro e w15 ⟨v1,v5,rfl,ho,ho2,hb⟩;refine ⟨_,rfl,?_⟩;obtain ⟨A_4,k4,ev⟩:=Kd.R_slice (xs:=e2) ho;subst ev;obtain ⟨A_5,k5,ev⟩:=Kd.R_slice (xs:=e6) ho2;subst ev;have HK4:=Aside0.mk (And.intro (Kd.R_reads' ho).2.1 (Kd.R_reads' ho2).2.1);have E2:=Bn.add (R:=fun W=>Kd.C Kd.string W A_4 e2.length e2∧Kd.C k38 W A_5 e6.length e6) E (by repeat (first|exact St.blk|exact St.C|apply St.and)) hb ⟨(Kd.R_reads' ho).2.2,(Kd.R_reads' ho2).2.2⟩;clear E ho ho2 hb hcz0 hcz1 hcz2 hcz3 hcz4 hfz0 hfz1 hfz2 hfz3 hfz4;have E:=E2;clear E2)
  | ((with_reducible refine gate_dst (N:=12) rfl ?_);refine box_event ?hg (N:=12) ?hd (cs:=#[.int .i64 0,.slice none 0 0,.int .i64 0,.int .i64 0,.int .i64 0,.slice none 0 0,.string (⟨#[]⟩:ByteArray),.int .i64 0]) (t:=45) ?hr ?_;(case hd=>rfl);(case hg=>rfl);(case hr=>go_simp;try rfl);intro g12 hg w9 hbox hb;have HGg12:=Aside0.mk hg;have HXg12:=Aside0.mk hbox;have HBg12:=Aside0.mk hb;clear hg hbox hb;obtain ⟨hcz0,hcz1,hcz2,hcz3,hcz4,hcz5,hcz6,hcz7⟩:=c8_ HXg12;obtain ⟨hfz0,hfz1,hfz2,hfz3,hfz4,hfz5,hfz6,hfz7⟩:=f8_ HXg12))
 (try simp only [Act.put,sA,sZ,sS])
 have E2:=Bn.box8 (W':=w9) (u0:=.int .i64 e1) (u1:=.slice A_4 e2.length k4) (u2:=.int .i64 e3) (u3:=.int .i64 e4) (u4:=.int .i64 e5) (u5:=.slice A_5 e6.length k5) (u6:=.string e7) (u7:=.int .i64 e8) E (by repeat (first|exact St.blk|exact St.C|apply St.and)) HGg12 HXg12 HBg12
 clear E HGg12 HXg12 HBg12 hcz0 hcz1 hcz2 hcz3 hcz4 hcz5 hcz6 hcz7 hfz0 hfz1 hfz2 hfz3 hfz4 hfz5 hfz6 hfz7
 have E:=E2
 clear E2
 generalize ((((((((w9.setCell ⟨g12,0,none⟩ (.int .i64 e1)).setCell ⟨g12,1,none⟩ (.slice A_4 e2.length k4)).setCell ⟨g12,2,none⟩ (.int .i64 e3)).setCell ⟨g12,3,none⟩ (.int .i64 e4)).setCell ⟨g12,4,none⟩ (.int .i64 e5)).setCell ⟨g12,5,none⟩ (.slice A_5 e6.length k5)).setCell ⟨g12,6,none⟩ (.string e7)).setCell ⟨g12,7,none⟩ (.int .i64 e8))=w16 at E ⊢
 obtain ⟨⟨p1,p2,p3,p4,p5,p6,p7,p8⟩,hP⟩:∃ o,putV b1 q1 d1 x1 y1 t1 n1=o:=⟨_,rfl⟩
 obtain ⟨⟨h1,h2,h3,h4,h5,h6,h7,h8⟩,hH⟩:∃ o,hearV b3 q3 d3 x3 y3 fk fs ft=o:=⟨_,rfl⟩
 obtain ⟨⟨u1,u2,u3,u4,u5⟩,hU⟩:∃ o,cutV b3 q3 d3 x3 y3=o:=⟨_,rfl⟩
 have M1:Aside0 (q1.length ≤ 1048576):=⟨by have:=HQ1.1.1.1;omega⟩
 have M2:Aside0 (q2.length ≤ 1048576):=⟨by have:=HQ2.1.1.1;omega⟩
 have M3:Aside0 (q3.length ≤ 1048576):=⟨by have:=HQ3.1.1.1;omega⟩
 have HLp:Aside0 (p2.length ≤ 1048576∧p6.length ≤ 1048576):=⟨by
  have k1:=putV_len b1 q1 d1 x1 y1 t1 n1 M1.1
  rw [hP] at k1
  have k2:p2.length ≤ q1.length + 1:=by
   unfold putV ill at hP
   split at hP
   ·simp only [Prod.mk.injEq] at hP;rw [← hP.2.1];simp
   ·split at hP
    ·split at hP
     ·simp only [Prod.mk.injEq] at hP;rw [← hP.2.1];simp
     ·simp only [Prod.mk.injEq] at hP;rw [← hP.2.1];simp
    ·simp only [Prod.mk.injEq] at hP;rw [← hP.2.1];simp
  have:=HQ1.1.1.1
  exact ⟨by omega,k1.2⟩⟩
 have HLh:Aside0 (h2.length ≤ 1048576∧h6.length ≤ 1048576):=⟨by
  have k1:=hearV_len b3 q3 d3 x3 y3 fk fs ft M3.1
  rw [hH] at k1
  have k2:h2.length ≤ q3.length:=by
   unfold hearV hearR ill at hH
   split at hH
   ·split at hH
    ·split at hH
     ·split at hH <;> (simp only [Prod.mk.injEq] at hH;rw [← hH.2.1];simp)
     ·simp only [Prod.mk.injEq] at hH;rw [← hH.2.1];exact Nat.le_refl _
    ·split at hH
     ·simp only [Prod.mk.injEq] at hH;rw [← hH.2.1,List.length_drop];omega
     ·simp only [Prod.mk.injEq] at hH;rw [← hH.2.1];exact Nat.le_refl _
   ·simp only [Prod.mk.injEq] at hH;rw [← hH.2.1];simp
  have:=HQ3.1.1.1
  exact ⟨by omega,k1.2⟩⟩
 have HLu:Aside0 (u2.length ≤ 1048576):=⟨by unfold cutV at hU;simp only [Prod.mk.injEq] at hU;rw [← hU.2.1];exact M3.1⟩
 have okP:Aside0 (p8=0 → lok p1 p2 p3 p4 p5=true):=⟨fun h=>(put_right hP h).1⟩
 have okT:Aside0 (e8=0 → lok e1 e2 e3 e4 e5=true):=⟨fun h=>(tick_right HT.1 h).1⟩
 have okH:Aside0 (h8=0 → lok h1 h2 h3 h4 h5=true):=⟨fun h=>hear_ok hH HQ3.1.1.2 HK.1 h⟩
 have HP:=Aside0.mk hP;have HH:=Aside0.mk hH;have HU:=Aside0.mk hU
 clear hP hH hU
 have hNew:impl_LinkNew.f=some (0,([]:List ByteArray),0,1,1):=rfl
 go_cut [92] (fun v92 wc=>v92=.bool false∧Aside0 (Bn w wc fun W=>W.heap[g12]?=some (.cells #[.int .i64 e1,.slice A_4 e2.length k4,.int .i64 e3,.int .i64 e4,.int .i64 e5,.slice A_5 e6.length k5,.string e7,.int .i64 e8] 45 (0,0))∧(Kd.C Kd.string W A_4 e2.length e2∧Kd.C k38 W A_5 e6.length e6)∧W.heap[g11]?=some (.cells #[.int .i64 fk,.int .i64 fs,.string ft] 38 (0,0))∧Kd.C (Kd.int .u8) W A0 l0.length l0))
 case first=>as_aux_lemma =>
  have E2:=Bn.on (W:=w16.drew) E (by repeat (first|exact St.blk|exact St.C|apply St.and))
  clear E
  have E:=E2
  clear E2
  go_region_held3 (fun w'=>(w'.cell? ⟨g5,0,none⟩=some (.int .i64 b1)∧w'.cell? ⟨g5,1,none⟩=some (.slice A_1 q1.length k1)∧w'.cell? ⟨g5,2,none⟩=some (.int .i64 d1)∧w'.cell? ⟨g5,3,none⟩=some (.int .i64 x1)∧w'.cell? ⟨g5,4,none⟩=some (.int .i64 y1))∧(w'.cell? ⟨g8,0,none⟩=some (.int .i64 b2)∧w'.cell? ⟨g8,1,none⟩=some (.slice A_2 q2.length k2)∧w'.cell? ⟨g8,2,none⟩=some (.int .i64 d2)∧w'.cell? ⟨g8,3,none⟩=some (.int .i64 x2)∧w'.cell? ⟨g8,4,none⟩=some (.int .i64 y2))∧(w'.cell? ⟨g10,0,none⟩=some (.int .i64 b3)∧w'.cell? ⟨g10,1,none⟩=some (.slice A_3 q3.length k3)∧w'.cell? ⟨g10,2,none⟩=some (.int .i64 d3)∧w'.cell? ⟨g10,3,none⟩=some (.int .i64 x3)∧w'.cell? ⟨g10,4,none⟩=some (.int .i64 y3))∧(w'.cell? ⟨g11,0,none⟩=some (.int .i64 fk)∧w'.cell? ⟨g11,1,none⟩=some (.int .i64 fs)∧w'.cell? ⟨g11,2,none⟩=some (.string ft))∧(w'.cell? ⟨g12,0,none⟩=some (.int .i64 e1)∧w'.cell? ⟨g12,1,none⟩=some (.slice A_4 e2.length k4)∧w'.cell? ⟨g12,2,none⟩=some (.int .i64 e3)∧w'.cell? ⟨g12,3,none⟩=some (.int .i64 e4)∧w'.cell? ⟨g12,4,none⟩=some (.int .i64 e5)∧w'.cell? ⟨g12,5,none⟩=some (.slice A_5 e6.length k5)∧w'.cell? ⟨g12,6,none⟩=some (.string e7)∧w'.cell? ⟨g12,7,none⟩=some (.int .i64 e8))) (exact ⟨c5_ (Aside0.mk (E.1.fact.2.2.2.2.2.2.1)),c5_ (Aside0.mk (E.1.fact.2.2.2.2.1)),c5_ (Aside0.mk ((E.1.fact.2.2.1).1)),c3_ (Aside0.mk ((E.1.fact.2.2.1).2)),c8_ (Aside0.mk (E.1.fact.1))⟩)
   (first
    | (go_at_call 27;(with_reducible refine (putI (E.1.fact.2.2.2.2.2.2.2.1) HQ1.1.2 M1.1 HP.1).mono ?_);rintro e w30 ⟨v1,v5,rfl,ho,ho2,hb⟩;obtain ⟨A_6,k6,ev⟩:=Kd.R_slice (xs:=p2) ho;subst ev;obtain ⟨A_7,k7,ev⟩:=Kd.R_slice (xs:=p6) ho2;subst ev;have XA:=Aside0.mk (And.intro (And.intro (Kd.R_reads' ho).2.2 (Kd.R_reads' ho).2.1) (And.intro (Kd.R_reads' ho2).2.2 (Kd.R_reads' ho2).2.1));have E2:=Bn.to E (by repeat (first|exact St.blk|exact St.C|apply St.and)) hb;clear E;have E:=E2;clear E2;clear ho ho2 hb)
    | (go_at_call 37;(with_reducible refine (putC (E.1.fact.2.2.2.2.2.2.2.1) HQ1.1.2 M1.1 HP.1).mono ?_);rintro e w30 ⟨v1,v5,rfl,ho,ho2,hb⟩;have Y2:=Aside0.mk (And.intro (And.intro (Kd.C_below XA.1.1.1 hb) XA.1.1.2) (And.intro (Kd.C_below XA.1.2.1 hb) XA.1.2.2));clear XA;have XA:=Y2;clear Y2;obtain ⟨A_8,k8,ev⟩:=Kd.R_slice (xs:=p2) ho;subst ev;obtain ⟨A_9,k9,ev⟩:=Kd.R_slice (xs:=p6) ho2;subst ev;have XB:=Aside0.mk (And.intro (And.intro (Kd.R_reads' ho).2.2 (Kd.R_reads' ho).2.1) (And.intro (Kd.R_reads' ho2).2.2 (Kd.R_reads' ho2).2.1));have E2:=Bn.to E (by repeat (first|exact St.blk|exact St.C|apply St.and)) hb;clear E;have E:=E2;clear E2;clear ho ho2 hb)
    | (go_at_call 44;(with_reducible refine (outC XA.1.1.1 XA.1.1.2 HLp.1.1 HLp.1.2 okP.1 XB.1.1.1 XB.1.1.2 XA.1.2.1 XA.1.2.2 XB.1.2.1 XB.1.2.2).mono ?_);rintro e w30 ⟨rfl,hb⟩;have E2:=Bn.to E (by repeat (first|exact St.blk|exact St.C|apply St.and)) hb;clear E;have E:=E2;clear E2;clear hb XA XB)
    | (go_at_call 33;(with_reducible refine (tickC (E.1.fact.2.2.2.2.2.1) HQ2.1.2 M2.1 HT.1).mono ?_);rintro e w30 ⟨v1,v5,rfl,ho,ho2,hb⟩;obtain ⟨A_10,k10,ev⟩:=Kd.R_slice (xs:=e2) ho;subst ev;obtain ⟨A_11,k11,ev⟩:=Kd.R_slice (xs:=e6) ho2;subst ev;have XC:=Aside0.mk (And.intro (And.intro (Kd.R_reads' ho).2.2 (Kd.R_reads' ho).2.1) (And.intro (Kd.R_reads' ho2).2.2 (Kd.R_reads' ho2).2.1));have E2:=Bn.to E (by repeat (first|exact St.blk|exact St.C|apply St.and)) hb;clear E;have E:=E2;clear E2;clear ho ho2 hb)
    | (go_at_call 44;(with_reducible refine (outC (E.1.fact.2.1).1 HK4.1.1 HLe.1.1 HLe.1.2 okT.1 XC.1.1.1 XC.1.1.2 (E.1.fact.2.1).2 HK4.1.2 XC.1.2.1 XC.1.2.2).mono ?_);rintro e w30 ⟨rfl,hb⟩;have E2:=Bn.to E (by repeat (first|exact St.blk|exact St.C|apply St.and)) hb;clear E;have E:=E2;clear E2;clear hb XC)
    | (go_at_call 29;(with_reducible refine (hearI (E.1.fact.2.2.2.1) HQ3.1.2 M3.1 HH.1).mono ?_);rintro e w30 ⟨v1,v5,rfl,ho,ho2,hb⟩;obtain ⟨A_12,k12,ev⟩:=Kd.R_slice (xs:=h2) ho;subst ev;obtain ⟨A_13,k13,ev⟩:=Kd.R_slice (xs:=h6) ho2;subst ev;have XD:=Aside0.mk (And.intro (And.intro (Kd.R_reads' ho).2.2 (Kd.R_reads' ho).2.1) (And.intro (Kd.R_reads' ho2).2.2 (Kd.R_reads' ho2).2.1));have E2:=Bn.to E (by repeat (first|exact St.blk|exact St.C|apply St.and)) hb;clear E;have E:=E2;clear E2;clear ho ho2 hb)
    | (go_at_call 38;(with_reducible refine (hearC (E.1.fact.2.2.2.1) HQ3.1.2 M3.1 HH.1).mono ?_);rintro e w30 ⟨v1,v5,rfl,ho,ho2,hb⟩;have Y2:=Aside0.mk (And.intro (And.intro (Kd.C_below XD.1.1.1 hb) XD.1.1.2) (And.intro (Kd.C_below XD.1.2.1 hb) XD.1.2.2));clear XD;have XD:=Y2;clear Y2;obtain ⟨A_14,k14,ev,_⟩:=Kd.Q_slice (xs:=h2) ho;subst ev;obtain ⟨A_15,k15,ev⟩:=Kd.R_slice (xs:=h6) ho2;subst ev;have XE:=Aside0.mk (And.intro (And.intro (Kd.Q_reads' ho).2.2 (Kd.Q_reads' ho).2.1) (And.intro (Kd.R_reads' ho2).2.2 (Kd.R_reads' ho2).2.1));have E2:=Bn.to E (by repeat (first|exact St.blk|exact St.C|apply St.and)) hb;clear E;have E:=E2;clear E2;clear ho ho2 hb)
    | (go_at_call 44;(with_reducible refine (outC XD.1.1.1 XD.1.1.2 HLh.1.1 HLh.1.2 okH.1 XE.1.1.1 XE.1.1.2 XD.1.2.1 XD.1.2.2 XE.1.2.1 XE.1.2.2).mono ?_);rintro e w30 ⟨rfl,hb⟩;have E2:=Bn.to E (by repeat (first|exact St.blk|exact St.C|apply St.and)) hb;clear E;have E:=E2;clear E2;clear hb XD XE)
    | (go_at_call 32;(with_reducible refine (cutI (E.1.fact.2.2.2.1) HQ3.1.2 M3.1 HU.1).mono ?_);rintro e w30 ⟨v1,rfl,ho,hb⟩;obtain ⟨A_16,k16,ev⟩:=Kd.R_slice (xs:=u2) ho;subst ev;have XF:=Aside0.mk (And.intro (Kd.R_reads' ho).2.2 (Kd.R_reads' ho).2.1);have E2:=Bn.to E (by repeat (first|exact St.blk|exact St.C|apply St.and)) hb;clear E;have E:=E2;clear E2;clear ho hb)
    | (go_at_call 31;(with_reducible refine (cutS (E.1.fact.2.2.2.1) HQ3.1.2 M3.1 HU.1).mono ?_);rintro e w30 ⟨v1,rfl,ho,hb⟩;have Y2:=Aside0.mk (And.intro (Kd.C_below XF.1.1 hb) XF.1.2);clear XF;have XF:=Y2;clear Y2;obtain ⟨A_17,k17,ev⟩:=Kd.R_slice (xs:=u2) ho;subst ev;have XG:=Aside0.mk (And.intro (Kd.R_reads' ho).2.2 (Kd.R_reads' ho).2.1);have E2:=Bn.to E (by repeat (first|exact St.blk|exact St.C|apply St.and)) hb;clear E;have E:=E2;clear E2;clear ho hb)
    | (go_at_call 45;(with_reducible refine (linkC XF.1.1 XF.1.2 HLu.1 XG.1.1 XG.1.2).mono ?_);rintro e w30 ⟨rfl,hb⟩;have E2:=Bn.to E (by repeat (first|exact St.blk|exact St.C|apply St.and)) hb;clear E;have E:=E2;clear E2;clear hb XF XG)
    | (go_at_call 21;(with_reducible refine (rightI (E.1.fact.2.2.2.1) HQ3.1.2 M3.1).mono ?_);rintro e w30 ⟨rfl,hb⟩;have E2:=Bn.to E (by repeat (first|exact St.blk|exact St.C|apply St.and)) hb;clear E;have E:=E2;clear E2;clear hb)
    | (go_at_call 19;(with_reducible refine (rightS (E.1.fact.2.2.2.1) HQ3.1.2 M3.1).mono ?_);rintro e w30 ⟨rfl,hb⟩;have E2:=Bn.to E (by repeat (first|exact St.blk|exact St.C|apply St.and)) hb;clear E;have E:=E2;clear E2;clear hb)
    | (go_at_call 14;(with_reducible refine (impl_LinkNew.calls _ _ _ _ _ _ hNew).mono ?_);rintro e w30 ⟨v1,rfl,ho,hb⟩;obtain ⟨A_18,k18,ev⟩:=Kd.R_slice (xs:=([]:List ByteArray)) ho;subst ev;have XH:=Aside0.mk (And.intro (Kd.R_reads' ho).2.2 (Kd.R_reads' ho).2.1);have E2:=Bn.to E (by repeat (first|exact St.blk|exact St.C|apply St.and)) hb;clear E;have E:=E2;clear E2;clear ho hb)
    | (go_at_call 19;(refine (rightS (l:=([]:List ByteArray)) XH.1.1 XH.1.2 (Nat.zero_le _)).mono ?_);rintro e w30 ⟨he,hb⟩;rw [new_right] at he;subst he;have E2:=Bn.to E (by repeat (first|exact St.blk|exact St.C|apply St.and)) hb;clear E;have E:=E2;clear E2;clear hb XH))
  (try go_wp2)
  go_meet
  case rel=>exact ⟨rfl,⟨E.1.bel,E.1.fact.1,E.1.fact.2.1,(E.1.fact.2.2.1).2,E.1.fact.2.2.2.2.2.2.2.2.1⟩⟩
 case rest =>
 clear E
 obtain ⟨rfl,E⟩:=hcut
 go_upto_region 9 with (fail)
 (try simp only [Act.put,sA,sZ,sS])
 go_cut [105] (fun v105 wc=>v105=.bool false∧Aside0 (Bn w wc fun W=>W.heap[g11]?=some (.cells #[.int .i64 fk,.int .i64 fs,.string ft] 38 (0,0))∧Kd.C (Kd.int .u8) W A0 l0.length l0))
 case first=>as_aux_lemma =>
  obtain ⟨hcz0,hcz1,hcz2,hcz3,hcz4,hcz5,hcz6,hcz7⟩:=c8_ (Aside0.mk E.1.fact.1)
  by_cases hfs:e6=[]
  ·subst hfs
   go_wp2
   go_meet
   case rel=>exact ⟨rfl,⟨E.1.bel,E.1.fact.2.2⟩⟩
  ·have d9:decide ((0:Int) < (e6.length:Int))=true:=decide_eq_true (by have:=List.length_pos_iff.2 hfs;omega)
   obtain ⟨⟨z1,z2,z3,z4,z5,z6,z7,z8⟩,hZ⟩:∃ o,tickV e1 e2 e3 e4 e5 n2=o:=⟨_,rfl⟩
   have hz6:=tick_twice HT.1 hfs
   rw [hZ] at hz6
   simp only at hz6
   subst hz6
   have HZ:=Aside0.mk hZ
   clear hZ hfs
   go_wp2_with (first
    | (go_at_call 28;(with_reducible refine (tickI E.1.fact.2.1.1 HK4.1.1 HLe.1.1 HZ.1).mono ?_);rintro e w40 ⟨v1,v5,rfl,ho,ho2,hb⟩;obtain ⟨A_19,k19,ev⟩:=Kd.R_slice (xs:=([]:List S38)) ho2;subst ev;have E2:=Bn.to E (by repeat (first|exact St.blk|exact St.C|apply St.and)) hb;clear E;have E:=E2;clear E2;clear ho ho2 hb))
   all_goals (go_meet;exact ⟨rfl,⟨E.1.bel,E.1.fact.2.2⟩⟩)
 case rest =>
  clear E
  obtain ⟨rfl,E⟩:=hcut
  obtain ⟨hcz0,hcz1,hcz2⟩:=c3_ (Aside0.mk E.1.fact.1)
  go_upto_region 12 with (first
   | ((with_reducible refine gC 25 rfl ?_);refine gL 107 Try.func25 #[.agg #[.int .i64 fk,.int .i64 fs,.string ft]] ?_;refine (fbI fk fs ft _).mono ?_;rintro e w41 ⟨rfl,hb⟩;refine ⟨_,rfl,?_⟩;clear hcz0 hcz1 hcz2;have E2:=Bn.to E (by repeat (first|exact St.blk|exact St.C|apply St.and)) hb;clear E;have E:=E2;clear E2;clear hb))
  (try simp only [Act.put,sA,sZ,sS])
  generalize hbv:bytesV fk fs ft=b at ⊢
  have HB:=Aside0.mk hbv
  clear hbv
  go_cut [124] (fun v124 wc=>v124=.bool false∧Aside0 (Bn w wc fun W=>W.heap[g11]?=some (.cells #[.int .i64 fk,.int .i64 fs,.string ft] 38 (0,0))∧Kd.C (Kd.int .u8) W A0 l0.length l0))
  case first=>as_aux_lemma =>
   have E2:=Bn.on (W:=w41.drew) E (by repeat (first|exact St.blk|exact St.C|apply St.and))
   clear E
   have E:=E2
   clear E2
   by_cases hf:fok fk fs ft=true
   ·have hbs:sealV (frP fk fs ft)=b:=by rw [← HB.1];unfold bytesV;rw [if_pos hf]
    have hr:=readI_comp hf
    have hsz:b.size ≠ 0:=by have h1:=frP_size hf;rw [← hbs];unfold sealV;rw [if_neg (by omega),ByteArray.size_append,four_size];omega
    rw [hbs] at hr
    have hread:=Aside0.mk hr
    have hne:(b.toList == ([]:List UInt8))=false:=by rw [beq_eq_false_iff_ne];intro h;exact hsz (toList_nil h)
    clear hr hsz hbs hf
    refine start_ (n:=17) (S:=fun w'=>w'.cell? ⟨g11,0,none⟩=some (.int .i64 fk)∧w'.cell? ⟨g11,1,none⟩=some (.int .i64 fs)∧w'.cell? ⟨g11,2,none⟩=some (.string ft)) (ds:=[]) #[false,false,false,false,false,false,false,false,false,false,false,false,false,false,false,false,false] (by kernel_rfl) rfl rfl (c3_ (Aside0.mk E.1.fact.1)) (fun hHeld=>?_)
    generalize w41.drew=w42 at E hHeld ⊢
    refine pure_ (i:=0) (N:=some 108) (v:=?_) (a':=?_) #[true,false,false,false,false,false,false,false,false,false,false,false,false,false,false,false,false] rfl rfl (by kernel_rfl) (fun _ _ _ h=>h) (Or.inl ⟨by rfl,?_⟩) ?_ ?_;rotate_left
    ·intro w';go_simp;(with_reducible rfl)
    rotate_left
    ·simp only [Act.put,sA,sZ,sS,i64_w,i32_w];rfl
    refine take_ (i:=1) (N:=some 109) (v:=?_) (a':=?_) #[true,true,false,false,false,false,false,false,false,false,false,false,false,false,false,false,false] rfl rfl (by kernel_rfl) (fun _ _ _ h=>h) (Or.inl ⟨by rfl,?_⟩) hHeld ?_ ?_;rotate_left
    ·rintro w' ⟨s0,s1,s2⟩;go_simp;(with_reducible rfl)
    rotate_left
    ·simp only [Act.put,sA,sZ,sS,i64_w,i32_w];rfl
    refine one_ (i:=2) (N:=some 110) #[true,true,true,false,false,false,false,false,false,false,false,false,false,false,false,false,false] rfl rfl (by kernel_rfl) (by decide) (fun K hK=>?_)
    refine goes_ Try.func23 (by kernel_rfl) rfl #[.agg #[.int .i64 fk,.int .i64 fs,.string ft]] (by rfl) rfl rfl (by (try simp only [List.map_toArray,List.map_cons,List.map_nil]);first|done|rfl) ?_
    refine (fbS fk fs ft _).mono ?_;rintro e w43 ⟨he,hb⟩;rw [HB.1] at he;subst he;refine ⟨_,rfl,?_⟩;have E2:=Bn.to E (by repeat (first|exact St.blk|exact St.C|apply St.and)) hb;clear E;have E:=E2;clear E2;clear hb
    refine hK.out _ _ (c3_ (Aside0.mk E.1.fact.1)) (fun hHeld=>?_);clear hK K;refine norm_ (a':=?_) ?_ ?_;rotate_left
    ·show Act.put _ (some 110) _=_;simp only [Act.put,sA,sZ,sS,i64_w,i32_w];rfl
    refine pure_ (i:=3) (N:=some 111) (v:=?_) (a':=?_) #[true,true,true,true,false,false,false,false,false,false,false,false,false,false,false,false,false] rfl rfl (by kernel_rfl) (fun _ _ _ h=>h) (Or.inl ⟨by rfl,?_⟩) ?_ ?_;rotate_left
    ·intro w';go_simp;(with_reducible rfl)
    rotate_left
    ·simp only [Act.put,sA,sZ,sS,i64_w,i32_w];rfl
    refine pure_ (i:=4) (N:=some 112) (v:=?_) (a':=?_) #[true,true,true,true,true,false,false,false,false,false,false,false,false,false,false,false,false] rfl rfl (by kernel_rfl) (fun _ _ _ h=>h) (Or.inl ⟨by rfl,?_⟩) ?_ ?_;rotate_left
    ·intro w';go_simp;(with_reducible rfl)
    rotate_left
    ·simp only [Act.put,sA,sZ,sS,i64_w,i32_w];rfl
    refine pure_ (i:=5) (N:=some 113) (v:=?_) (a':=?_) #[true,true,true,true,true,true,false,false,false,false,false,false,false,false,false,false,false] rfl rfl (by kernel_rfl) (fun _ _ _ h=>h) (Or.inl ⟨by rfl,?_⟩) ?_ ?_;rotate_left
    ·intro w';go_simp;(with_reducible rfl)
    rotate_left
    ·simp only [Act.put,sA,sZ,sS,i64_w,i32_w];rfl
    refine pure_ (i:=6) (N:=some 114) (v:=?_) (a':=?_) #[true,true,true,true,true,true,true,false,false,false,false,false,false,false,false,false,false] rfl rfl (by kernel_rfl) (fun _ _ _ h=>h) (Or.inl ⟨by rfl,?_⟩) ?_ ?_;rotate_left
    ·intro w';go_simp;(with_reducible rfl)
    rotate_left
    ·simp only [Act.put,sA,sZ,sS,i64_w,i32_w];rfl
    refine pure_ (i:=7) (N:=some 115) (v:=?_) (a':=?_) #[true,true,true,true,true,true,true,true,false,false,false,false,false,false,false,false,false] rfl rfl (by kernel_rfl) (fun _ _ _ h=>h) (Or.inl ⟨by rfl,?_⟩) ?_ ?_;rotate_left
    ·intro w';go_simp;(with_reducible rfl)
    rotate_left
    ·simp only [Act.put,sA,sZ,sS,i64_w,i32_w];rfl
    refine pure_ (i:=8) (N:=some 116) (v:=?_) (a':=?_) #[true,true,true,true,true,true,true,true,true,false,false,false,false,false,false,false,false] rfl rfl (by kernel_rfl) (fun _ _ _ h=>h) (Or.inl ⟨by rfl,?_⟩) ?_ ?_;rotate_left
    ·intro w';go_simp;(with_reducible rfl)
    rotate_left
    ·simp only [Act.put,sA,sZ,sS,i64_w,i32_w];rfl
    refine take_ (i:=11) (N:=some 119) (v:=?_) (a':=?_) #[true,true,true,true,true,true,true,true,true,false,false,true,false,false,false,false,false] rfl rfl (by kernel_rfl) (fun _ _ _ h=>h) (Or.inl ⟨by rfl,?_⟩) hHeld ?_ ?_;rotate_left
    ·rintro w' ⟨s0,s1,s2⟩;go_simp;(with_reducible rfl)
    rotate_left
    ·simp only [Act.put,sA,sZ,sS,i64_w,i32_w];rfl
    refine two_ (i:=9) (j:=12) (Ni:=some 117) (Nj:=some 120) #[true,true,true,true,true,true,true,true,true,true,false,true,false,false,false,false,false] #[true,true,true,true,true,true,true,true,true,false,false,true,true,false,false,false,false] rfl rfl rfl rfl (by kernel_rfl) (by decide) (by decide) (fun K hK=>?_) (fun K hK=>?_)
    ·skip
     refine goes_ Try.func40 (by kernel_rfl) rfl #[.string b] (by rfl) rfl rfl (by (try simp only [List.map_toArray,List.map_cons,List.map_nil]);first|done|rfl) ?_
     refine (readI hread.1).mono ?_;rintro e w44 ⟨v1,v5,rfl,ho,ho2,hb⟩;obtain ⟨A_21,k21,ev⟩:=Kd.R_slice (xs:=([]:List ByteArray)) ho;subst ev;obtain ⟨A_20,k20,ev⟩:=Kd.R_slice (xs:=([⟨fk,fs,ft⟩]:List S38)) ho2;subst ev;have XF:=Aside0.mk (And.intro (Kd.R_reads' ho2).2.2 (Kd.R_reads' ho2).2.1);clear ho ho2;refine ⟨_,rfl,?_⟩;have E2:=Bn.to E (by repeat (first|exact St.blk|exact St.C|apply St.and)) hb;clear E;have E:=E2;clear E2;clear hb
     refine hK.out _ _ (c3_ (Aside0.mk E.1.fact.1)) (fun hHeld=>?_);clear hK K;refine norm_ (a':=?_) ?_ ?_;rotate_left
     ·show Act.put _ (some 117) _=_;simp only [Act.put,sA,sZ,sS,i64_w,i32_w];rfl
     refine pure_ (i:=10) (N:=some 118) (v:=?_) (a':=?_) #[true,true,true,true,true,true,true,true,true,true,true,true,false,false,false,false,false] rfl rfl (by kernel_rfl) (fun _ _ _ h=>h) (Or.inl ⟨by rfl,?_⟩) ?_ ?_;rotate_left
     ·intro w';go_simp;(with_reducible rfl)
     rotate_left
     ·simp only [Act.put,sA,sZ,sS,i64_w,i32_w];rfl
     refine one_ (i:=12) (N:=some 120) #[true,true,true,true,true,true,true,true,true,true,true,true,true,false,false,false,false] rfl rfl (by kernel_rfl) (by decide) (fun K hK=>?_)
     refine Kd.R_lit_step k38 _ 38 ?hg (N:=120) ?hd (xs:=([⟨fk,fs,ft⟩]:List S38)) (inner:=[.int .i64 fk,.int .i64 fs,.string ft]) (ok:=fun _=>True) (okp:=fun _=>True) ?hr ?hp (fun _ hk=>hk) trivial (Below.refl _ _) (Nat.le_refl _) (by simp) ?_;(case hd=>rfl);(case hg=>rfl);(case hr=>go_simp;try rfl);(case hp=>exact (Reps.c3 (show Kd.M k38 _ _ _ (⟨fk,fs,ft⟩:S38) [.int .i64 fk,.int .i64 fs,.string ft] from (k38_mkM _ _ _ (⟨fk,fs,ft⟩:S38))) (Reps.none _ _)))
     intro v2 w45 ho hb hg_ hnew_;have Y2:=Aside0.mk (And.intro (Kd.C_below XF.1.1 hb) XF.1.2);clear XF;have XF:=Y2;clear Y2;obtain ⟨A_22,k22,ev⟩:=Kd.R_slice (xs:=([⟨fk,fs,ft⟩]:List S38)) ho;subst ev;have XG:=Aside0.mk (And.intro (Kd.R_reads' ho).2.2 (Kd.R_reads' ho).2.1);have E2:=Bn.to E (by repeat (first|exact St.blk|exact St.C|apply St.and)) hb;clear E;have E:=E2;clear E2;clear hb hg_ hnew_ ho
     refine hK.out _ _ (c3_ (Aside0.mk E.1.fact.1)) (fun hHeld=>?_);clear hK K;refine norm_ (a':=?_) ?_ ?_;rotate_left
     ·show Act.put _ (some 120) _=_;simp only [Act.put,sA,sZ,sS,i64_w,i32_w];rfl
     refine one_ (i:=13) (N:=some 121) #[true,true,true,true,true,true,true,true,true,true,true,true,true,true,false,false,false] rfl rfl (by kernel_rfl) (by decide) (fun K hK=>?_)
     refine goes_ Try.func46 (by kernel_rfl) rfl #[.slice A_20 [(⟨fk,fs,ft⟩:S38)].length k20,.slice A_22 [(⟨fk,fs,ft⟩:S38)].length k22] (by rfl) rfl rfl (by (try simp only [List.map_toArray,List.map_cons,List.map_nil]);first|done|rfl) ?_
     refine (framesC (fs:=([⟨fk,fs,ft⟩]:List S38)) (by simp) XF.1.1 XF.1.2 XG.1.1 XG.1.2).mono ?_;rintro e w46 ⟨rfl,hb⟩;refine ⟨_,rfl,?_⟩;have E2:=Bn.to E (by repeat (first|exact St.blk|exact St.C|apply St.and)) hb;clear E;have E:=E2;clear E2;clear hb
     refine hK.out _ _ (c3_ (Aside0.mk E.1.fact.1)) (fun hHeld=>?_);clear hK K;refine norm_ (a':=?_) ?_ ?_;rotate_left
     ·show Act.put _ (some 121) _=_;simp only [Act.put,sA,sZ,sS,i64_w,i32_w];rfl
     refine pure_ (i:=14) (N:=some 122) (v:=?_) (a':=?_) #[true,true,true,true,true,true,true,true,true,true,true,true,true,true,true,false,false] rfl rfl (by kernel_rfl) (fun _ _ _ h=>h) (Or.inl ⟨by rfl,?_⟩) ?_ ?_;rotate_left
     ·intro w';go_simp;(with_reducible rfl)
     rotate_left
     ·simp only [Act.put,sA,sZ,sS,i64_w,i32_w];rfl
     refine pure_ (i:=15) (N:=some 123) (v:=?_) (a':=?_) #[true,true,true,true,true,true,true,true,true,true,true,true,true,true,true,true,false] rfl rfl (by kernel_rfl) (fun _ _ _ h=>h) (Or.inl ⟨by rfl,?_⟩) ?_ ?_;rotate_left
     ·intro w';go_simp;(with_reducible rfl)
     rotate_left
     ·simp only [Act.put,sA,sZ,sS,i64_w,i32_w];rfl
     refine pure_ (i:=16) (N:=some 124) (v:=?_) (a':=?_) #[true,true,true,true,true,true,true,true,true,true,true,true,true,true,true,true,true] rfl rfl (by kernel_rfl) (fun _ _ _ h=>h) (Or.inl ⟨by rfl,?_⟩) ?_ ?_;rotate_left
     ·intro w';go_simp;(with_reducible rfl)
     rotate_left
     ·simp only [Act.put,sA,sZ,sS,i64_w,i32_w];rfl
     refine done_ (by kernel_rfl) ?_
     (try go_wp2)
     go_meet
     case rel=>exact ⟨rfl,⟨E.1.bel,E.1.fact⟩⟩
    ·skip
     refine Kd.R_lit_step k38 _ 38 ?hg (N:=120) ?hd (xs:=([⟨fk,fs,ft⟩]:List S38)) (inner:=[.int .i64 fk,.int .i64 fs,.string ft]) (ok:=fun _=>True) (okp:=fun _=>True) ?hr ?hp (fun _ hk=>hk) trivial (Below.refl _ _) (Nat.le_refl _) (by simp) ?_;(case hd=>rfl);(case hg=>rfl);(case hr=>go_simp;try rfl);(case hp=>exact (Reps.c3 (show Kd.M k38 _ _ _ (⟨fk,fs,ft⟩:S38) [.int .i64 fk,.int .i64 fs,.string ft] from (k38_mkM _ _ _ (⟨fk,fs,ft⟩:S38))) (Reps.none _ _)))
     intro v2 w45 ho hb hg_ hnew_;obtain ⟨A_22,k22,ev⟩:=Kd.R_slice (xs:=([⟨fk,fs,ft⟩]:List S38)) ho;subst ev;have XG:=Aside0.mk (And.intro (Kd.R_reads' ho).2.2 (Kd.R_reads' ho).2.1);have E2:=Bn.to E (by repeat (first|exact St.blk|exact St.C|apply St.and)) hb;clear E;have E:=E2;clear E2;clear hb hg_ hnew_ ho
     refine hK.out _ _ (c3_ (Aside0.mk E.1.fact.1)) (fun hHeld=>?_);clear hK K;refine norm_ (a':=?_) ?_ ?_;rotate_left
     ·show Act.put _ (some 120) _=_;simp only [Act.put,sA,sZ,sS,i64_w,i32_w];rfl
     refine one_ (i:=9) (N:=some 117) #[true,true,true,true,true,true,true,true,true,true,false,true,true,false,false,false,false] rfl rfl (by kernel_rfl) (by decide) (fun K hK=>?_)
     refine goes_ Try.func40 (by kernel_rfl) rfl #[.string b] (by rfl) rfl rfl (by (try simp only [List.map_toArray,List.map_cons,List.map_nil]);first|done|rfl) ?_
     refine (readI hread.1).mono ?_;rintro e w44 ⟨v1,v5,rfl,ho,ho2,hb⟩;have Y2:=Aside0.mk (And.intro (Kd.C_below XG.1.1 hb) XG.1.2);clear XG;have XG:=Y2;clear Y2;obtain ⟨A_21,k21,ev⟩:=Kd.R_slice (xs:=([]:List ByteArray)) ho;subst ev;obtain ⟨A_20,k20,ev⟩:=Kd.R_slice (xs:=([⟨fk,fs,ft⟩]:List S38)) ho2;subst ev;have XF:=Aside0.mk (And.intro (Kd.R_reads' ho2).2.2 (Kd.R_reads' ho2).2.1);clear ho ho2;refine ⟨_,rfl,?_⟩;have E2:=Bn.to E (by repeat (first|exact St.blk|exact St.C|apply St.and)) hb;clear E;have E:=E2;clear E2;clear hb
     refine hK.out _ _ (c3_ (Aside0.mk E.1.fact.1)) (fun hHeld=>?_);clear hK K;refine norm_ (a':=?_) ?_ ?_;rotate_left
     ·show Act.put _ (some 117) _=_;simp only [Act.put,sA,sZ,sS,i64_w,i32_w];rfl
     refine pure_ (i:=10) (N:=some 118) (v:=?_) (a':=?_) #[true,true,true,true,true,true,true,true,true,true,true,true,true,false,false,false,false] rfl rfl (by kernel_rfl) (fun _ _ _ h=>h) (Or.inl ⟨by rfl,?_⟩) ?_ ?_;rotate_left
     ·intro w';go_simp;(with_reducible rfl)
     rotate_left
     ·simp only [Act.put,sA,sZ,sS,i64_w,i32_w];rfl
     refine one_ (i:=13) (N:=some 121) #[true,true,true,true,true,true,true,true,true,true,true,true,true,true,false,false,false] rfl rfl (by kernel_rfl) (by decide) (fun K hK=>?_)
     refine goes_ Try.func46 (by kernel_rfl) rfl #[.slice A_20 [(⟨fk,fs,ft⟩:S38)].length k20,.slice A_22 [(⟨fk,fs,ft⟩:S38)].length k22] (by rfl) rfl rfl (by (try simp only [List.map_toArray,List.map_cons,List.map_nil]);first|done|rfl) ?_
     refine (framesC (fs:=([⟨fk,fs,ft⟩]:List S38)) (by simp) XF.1.1 XF.1.2 XG.1.1 XG.1.2).mono ?_;rintro e w46 ⟨rfl,hb⟩;refine ⟨_,rfl,?_⟩;have E2:=Bn.to E (by repeat (first|exact St.blk|exact St.C|apply St.and)) hb;clear E;have E:=E2;clear E2;clear hb
     refine hK.out _ _ (c3_ (Aside0.mk E.1.fact.1)) (fun hHeld=>?_);clear hK K;refine norm_ (a':=?_) ?_ ?_;rotate_left
     ·show Act.put _ (some 121) _=_;simp only [Act.put,sA,sZ,sS,i64_w,i32_w];rfl
     refine pure_ (i:=14) (N:=some 122) (v:=?_) (a':=?_) #[true,true,true,true,true,true,true,true,true,true,true,true,true,true,true,false,false] rfl rfl (by kernel_rfl) (fun _ _ _ h=>h) (Or.inl ⟨by rfl,?_⟩) ?_ ?_;rotate_left
     ·intro w';go_simp;(with_reducible rfl)
     rotate_left
     ·simp only [Act.put,sA,sZ,sS,i64_w,i32_w];rfl
     refine pure_ (i:=15) (N:=some 123) (v:=?_) (a':=?_) #[true,true,true,true,true,true,true,true,true,true,true,true,true,true,true,true,false] rfl rfl (by kernel_rfl) (fun _ _ _ h=>h) (Or.inl ⟨by rfl,?_⟩) ?_ ?_;rotate_left
     ·intro w';go_simp;(with_reducible rfl)
     rotate_left
     ·simp only [Act.put,sA,sZ,sS,i64_w,i32_w];rfl
     refine pure_ (i:=16) (N:=some 124) (v:=?_) (a':=?_) #[true,true,true,true,true,true,true,true,true,true,true,true,true,true,true,true,true] rfl rfl (by kernel_rfl) (fun _ _ _ h=>h) (Or.inl ⟨by rfl,?_⟩) ?_ ?_;rotate_left
     ·intro w';go_simp;(with_reducible rfl)
     rotate_left
     ·simp only [Act.put,sA,sZ,sS,i64_w,i32_w];rfl
     refine done_ (by kernel_rfl) ?_
     (try go_wp2)
     go_meet
     case rel=>exact ⟨rfl,⟨E.1.bel,E.1.fact⟩⟩
   ·have hb0:b=(⟨#[]⟩:ByteArray):=by rw [← HB.1];unfold bytesV;rw [if_neg hf]
    subst hb0
    clear hf
    have he0:((⟨#[]⟩:ByteArray).toList == ([]:List UInt8))=true:=by unfold ByteArray.toList;unfold ByteArray.toList.loop;rfl
    refine start_ (n:=17) (S:=fun w'=>w'.cell? ⟨g11,0,none⟩=some (.int .i64 fk)∧w'.cell? ⟨g11,1,none⟩=some (.int .i64 fs)∧w'.cell? ⟨g11,2,none⟩=some (.string ft)) (ds:=[]) #[false,false,false,false,false,false,false,false,false,false,false,false,false,false,false,false,false] (by kernel_rfl) rfl rfl (c3_ (Aside0.mk E.1.fact.1)) (fun hHeld=>?_)
    generalize w41.drew=w42 at E hHeld ⊢
    refine pure_ (i:=0) (N:=some 108) (v:=?_) (a':=?_) #[true,false,false,false,false,false,false,false,false,false,false,false,false,false,false,false,false] rfl rfl (by kernel_rfl) (fun _ _ _ h=>h) (Or.inl ⟨by rfl,?_⟩) ?_ ?_;rotate_left
    ·intro w';go_simp;(with_reducible rfl)
    rotate_left
    ·simp only [Act.put,sA,sZ,sS,i64_w,i32_w];rfl
    refine take_ (i:=1) (N:=some 109) (v:=?_) (a':=?_) #[true,true,false,false,false,false,false,false,false,false,false,false,false,false,false,false,false] rfl rfl (by kernel_rfl) (fun _ _ _ h=>h) (Or.inl ⟨by rfl,?_⟩) hHeld ?_ ?_;rotate_left
    ·rintro w' ⟨s0,s1,s2⟩;go_simp;(with_reducible rfl)
    rotate_left
    ·simp only [Act.put,sA,sZ,sS,i64_w,i32_w];rfl
    refine one_ (i:=2) (N:=some 110) #[true,true,true,false,false,false,false,false,false,false,false,false,false,false,false,false,false] rfl rfl (by kernel_rfl) (by decide) (fun K hK=>?_)
    refine goes_ Try.func23 (by kernel_rfl) rfl #[.agg #[.int .i64 fk,.int .i64 fs,.string ft]] (by rfl) rfl rfl (by (try simp only [List.map_toArray,List.map_cons,List.map_nil]);first|done|rfl) ?_
    refine (fbS fk fs ft _).mono ?_;rintro e w43 ⟨he,hb⟩;rw [HB.1] at he;subst he;refine ⟨_,rfl,?_⟩;have E2:=Bn.to E (by repeat (first|exact St.blk|exact St.C|apply St.and)) hb;clear E;have E:=E2;clear E2;clear hb
    refine hK.out _ _ (c3_ (Aside0.mk E.1.fact.1)) (fun hHeld=>?_);clear hK K;refine norm_ (a':=?_) ?_ ?_;rotate_left
    ·show Act.put _ (some 110) _=_;simp only [Act.put,sA,sZ,sS,i64_w,i32_w];rfl
    refine pure_ (i:=3) (N:=some 111) (v:=?_) (a':=?_) #[true,true,true,true,false,false,false,false,false,false,false,false,false,false,false,false,false] rfl rfl (by kernel_rfl) (fun _ _ _ h=>h) (Or.inl ⟨by rfl,?_⟩) ?_ ?_;rotate_left
    ·intro w';go_simp;(with_reducible rfl)
    rotate_left
    ·simp only [Act.put,sA,sZ,sS,i64_w,i32_w];rfl
    refine pure_ (i:=4) (N:=some 112) (v:=?_) (a':=?_) #[true,true,true,true,true,false,false,false,false,false,false,false,false,false,false,false,false] rfl rfl (by kernel_rfl) (fun _ _ _ h=>h) (Or.inl ⟨by rfl,?_⟩) ?_ ?_;rotate_left
    ·intro w';go_simp;(with_reducible rfl)
    rotate_left
    ·simp only [Act.put,sA,sZ,sS,i64_w,i32_w];rfl
    refine pure_ (i:=5) (N:=some 113) (v:=?_) (a':=?_) #[true,true,true,true,true,true,false,false,false,false,false,false,false,false,false,false,false] rfl rfl (by kernel_rfl) (fun _ _ _ h=>h) (Or.inl ⟨by rfl,?_⟩) ?_ ?_;rotate_left
    ·intro w';go_simp;(with_reducible rfl)
    rotate_left
    ·simp only [Act.put,sA,sZ,sS,i64_w,i32_w];rfl
    refine pure_ (i:=6) (N:=some 114) (v:=?_) (a':=?_) #[true,true,true,true,true,true,true,false,false,false,false,false,false,false,false,false,false] rfl rfl (by kernel_rfl) (fun _ _ _ h=>h) (Or.inl ⟨by rfl,?_⟩) ?_ ?_;rotate_left
    ·intro w';go_simp;(with_reducible rfl)
    rotate_left
    ·simp only [Act.put,sA,sZ,sS,i64_w,i32_w];rfl
    refine pure_ (i:=7) (N:=some 115) (v:=?_) (a':=?_) #[true,true,true,true,true,true,true,true,false,false,false,false,false,false,false,false,false] rfl rfl (by kernel_rfl) (fun _ _ _ h=>h) (Or.inl ⟨by rfl,?_⟩) ?_ ?_;rotate_left
    ·intro w';go_simp;(with_reducible rfl)
    rotate_left
    ·simp only [Act.put,sA,sZ,sS,i64_w,i32_w];rfl
    refine pure_ (i:=8) (N:=some 116) (v:=undef) (a':=?_) #[true,true,true,true,true,true,true,true,true,false,false,false,false,false,false,false,false] rfl rfl (by kernel_rfl) (fun _ _ _ h=>h) (Or.inr ⟨by rfl,rfl⟩) ?_ ?_;rotate_left
    ·simp only [Act.put,sA,sZ,sS,i64_w,i32_w];rfl
    refine take_ (i:=11) (N:=some 119) (v:=undef) (a':=?_) #[true,true,true,true,true,true,true,true,true,false,false,true,false,false,false,false,false] rfl rfl (by kernel_rfl) (fun _ _ _ h=>h) (Or.inr ⟨by rfl,rfl⟩) hHeld ?_ ?_;rotate_left
    ·simp only [Act.put,sA,sZ,sS,i64_w,i32_w];rfl
    refine two_ (i:=9) (j:=12) (Ni:=some 117) (Nj:=some 120) #[true,true,true,true,true,true,true,true,true,true,false,true,false,false,false,false,false] #[true,true,true,true,true,true,true,true,true,false,false,true,true,false,false,false,false] rfl rfl rfl rfl (by kernel_rfl) (by decide) (by decide) (fun K hK=>?_) (fun K hK=>?_)
    ·skip
     refine (if_neg (ne_true_of_eq_false (by rfl))).mpr ?_
     refine hK.out _ _ (c3_ (Aside0.mk E.1.fact.1)) (fun hHeld=>?_);clear hK K;refine norm_ (a':=?_) ?_ ?_;rotate_left
     ·show Act.put _ (some 117) _=_;simp only [Act.put,sA,sZ,sS,i64_w,i32_w];rfl
     refine pure_ (i:=10) (N:=some 118) (v:=undef) (a':=?_) #[true,true,true,true,true,true,true,true,true,true,true,true,false,false,false,false,false] rfl rfl (by kernel_rfl) (fun _ _ _ h=>h) (Or.inr ⟨by rfl,rfl⟩) ?_ ?_;rotate_left
     ·simp only [Act.put,sA,sZ,sS,i64_w,i32_w];rfl
     refine one_ (i:=12) (N:=some 120) #[true,true,true,true,true,true,true,true,true,true,true,true,true,false,false,false,false] rfl rfl (by kernel_rfl) (by decide) (fun K hK=>?_)
     refine (if_neg (ne_true_of_eq_false (by rfl))).mpr ?_
     refine hK.out _ _ (c3_ (Aside0.mk E.1.fact.1)) (fun hHeld=>?_);clear hK K;refine norm_ (a':=?_) ?_ ?_;rotate_left
     ·show Act.put _ (some 120) _=_;simp only [Act.put,sA,sZ,sS,i64_w,i32_w];rfl
     refine one_ (i:=13) (N:=some 121) #[true,true,true,true,true,true,true,true,true,true,true,true,true,true,false,false,false] rfl rfl (by kernel_rfl) (by decide) (fun K hK=>?_)
     refine (if_neg (ne_true_of_eq_false (by rfl))).mpr ?_
     refine hK.out _ _ (c3_ (Aside0.mk E.1.fact.1)) (fun hHeld=>?_);clear hK K;refine norm_ (a':=?_) ?_ ?_;rotate_left
     ·show Act.put _ (some 121) _=_;simp only [Act.put,sA,sZ,sS,i64_w,i32_w];rfl
     refine pure_ (i:=14) (N:=some 122) (v:=undef) (a':=?_) #[true,true,true,true,true,true,true,true,true,true,true,true,true,true,true,false,false] rfl rfl (by kernel_rfl) (fun _ _ _ h=>h) (Or.inr ⟨by rfl,rfl⟩) ?_ ?_;rotate_left
     ·simp only [Act.put,sA,sZ,sS,i64_w,i32_w];rfl
     refine pure_ (i:=15) (N:=some 123) (v:=?_) (a':=?_) #[true,true,true,true,true,true,true,true,true,true,true,true,true,true,true,true,false] rfl rfl (by kernel_rfl) (fun _ _ _ h=>h) (Or.inl ⟨by rfl,?_⟩) ?_ ?_;rotate_left
     ·intro w';go_simp;(with_reducible rfl)
     rotate_left
     ·simp only [Act.put,sA,sZ,sS,i64_w,i32_w];rfl
     refine pure_ (i:=16) (N:=some 124) (v:=?_) (a':=?_) #[true,true,true,true,true,true,true,true,true,true,true,true,true,true,true,true,true] rfl rfl (by kernel_rfl) (fun _ _ _ h=>h) (Or.inl ⟨by rfl,?_⟩) ?_ ?_;rotate_left
     ·intro w';go_simp;(with_reducible rfl)
     rotate_left
     ·simp only [Act.put,sA,sZ,sS,i64_w,i32_w];rfl
     refine done_ (by kernel_rfl) ?_
     (try go_wp2)
     go_meet
     case rel=>exact ⟨rfl,⟨E.1.bel,E.1.fact⟩⟩
    ·skip
     refine (if_neg (ne_true_of_eq_false (by rfl))).mpr ?_
     refine hK.out _ _ (c3_ (Aside0.mk E.1.fact.1)) (fun hHeld=>?_);clear hK K;refine norm_ (a':=?_) ?_ ?_;rotate_left
     ·show Act.put _ (some 120) _=_;simp only [Act.put,sA,sZ,sS,i64_w,i32_w];rfl
     refine one_ (i:=9) (N:=some 117) #[true,true,true,true,true,true,true,true,true,true,false,true,true,false,false,false,false] rfl rfl (by kernel_rfl) (by decide) (fun K hK=>?_)
     refine (if_neg (ne_true_of_eq_false (by rfl))).mpr ?_
     refine hK.out _ _ (c3_ (Aside0.mk E.1.fact.1)) (fun hHeld=>?_);clear hK K;refine norm_ (a':=?_) ?_ ?_;rotate_left
     ·show Act.put _ (some 117) _=_;simp only [Act.put,sA,sZ,sS,i64_w,i32_w];rfl
     refine pure_ (i:=10) (N:=some 118) (v:=undef) (a':=?_) #[true,true,true,true,true,true,true,true,true,true,true,true,true,false,false,false,false] rfl rfl (by kernel_rfl) (fun _ _ _ h=>h) (Or.inr ⟨by rfl,rfl⟩) ?_ ?_;rotate_left
     ·simp only [Act.put,sA,sZ,sS,i64_w,i32_w];rfl
     refine one_ (i:=13) (N:=some 121) #[true,true,true,true,true,true,true,true,true,true,true,true,true,true,false,false,false] rfl rfl (by kernel_rfl) (by decide) (fun K hK=>?_)
     refine (if_neg (ne_true_of_eq_false (by rfl))).mpr ?_
     refine hK.out _ _ (c3_ (Aside0.mk E.1.fact.1)) (fun hHeld=>?_);clear hK K;refine norm_ (a':=?_) ?_ ?_;rotate_left
     ·show Act.put _ (some 121) _=_;simp only [Act.put,sA,sZ,sS,i64_w,i32_w];rfl
     refine pure_ (i:=14) (N:=some 122) (v:=undef) (a':=?_) #[true,true,true,true,true,true,true,true,true,true,true,true,true,true,true,false,false] rfl rfl (by kernel_rfl) (fun _ _ _ h=>h) (Or.inr ⟨by rfl,rfl⟩) ?_ ?_;rotate_left
     ·simp only [Act.put,sA,sZ,sS,i64_w,i32_w];rfl
     refine pure_ (i:=15) (N:=some 123) (v:=?_) (a':=?_) #[true,true,true,true,true,true,true,true,true,true,true,true,true,true,true,true,false] rfl rfl (by kernel_rfl) (fun _ _ _ h=>h) (Or.inl ⟨by rfl,?_⟩) ?_ ?_;rotate_left
     ·intro w';go_simp;(with_reducible rfl)
     rotate_left
     ·simp only [Act.put,sA,sZ,sS,i64_w,i32_w];rfl
     refine pure_ (i:=16) (N:=some 124) (v:=?_) (a':=?_) #[true,true,true,true,true,true,true,true,true,true,true,true,true,true,true,true,true] rfl rfl (by kernel_rfl) (fun _ _ _ h=>h) (Or.inl ⟨by rfl,?_⟩) ?_ ?_;rotate_left
     ·intro w';go_simp;(with_reducible rfl)
     rotate_left
     ·simp only [Act.put,sA,sZ,sS,i64_w,i32_w];rfl
     refine done_ (by kernel_rfl) ?_
     (try go_wp2)
     go_meet
     case rel=>exact ⟨rfl,⟨E.1.bel,E.1.fact⟩⟩
  case rest =>
  clear E
  obtain ⟨rfl,E⟩:=hcut
  have E2:Aside0 (Bn w wc fun W=>Kd.C (Kd.int .u8) W A0 l0.length l0):=⟨E.1.bel,E.1.fact.2⟩
  clear E
  have E:=E2
  clear E2
  go_step
  go_step
  go_step
  go_step
  go_step
  go_step
  go_cut [] (fun wc2=>Aside0 (Bn w wc2 fun W=>Kd.C (Kd.int .u8) W A0 l0.length l0))
  case first=>as_aux_lemma =>
   by_cases hb0:b=(⟨#[]⟩:ByteArray)
   ·subst hb0
    have he0:((⟨#[]⟩:ByteArray).toList == ([]:List UInt8))=true:=by unfold ByteArray.toList;unfold ByteArray.toList.loop;rfl
    go_wp2
    go_meet
    case rel=>exact E
   ·have hf:fok fk fs ft=true:=by
     cases hf:fok fk fs ft with
     | true=>rfl
     | false =>
      exfalso
      apply hb0
      rw [← HB.1]
      unfold bytesV
      rw [hf,if_neg (by decide)]
    have hbs:sealV (frP fk fs ft)=b:=by rw [← HB.1];unfold bytesV;rw [if_pos hf]
    have hsz:b.size ≠ 0:=by have h1:=frP_size hf;rw [← hbs];unfold sealV;rw [if_neg (by omega),ByteArray.size_append,four_size];omega
    have hsz2:b.size ≤ 20000:=by rw [← hbs];exact sealV_size _
    have hp:¬ ((frP fk fs ft).size:Int) > 19996:=by have h1:=frP_size hf;omega
    have hne:(b.toList == ([]:List UInt8))=false:=by rw [beq_eq_false_iff_ne];intro h;exact hsz (toList_nil h)
    have HF:=Aside0.mk hf;have HBS:=Aside0.mk hbs;have HP:=Aside0.mk hp;have HSZ:=Aside0.mk hsz;have HSZ2:=Aside0.mk hsz2
    clear hf hbs hp hsz hsz2 hb0
    have hcv2:=fun w s=>run_bytes_of_string (P:=Try.prog) w 9 41 5 s Try.underlying9 Try.underlying41 Try.underlying5
    go_upto_region 16 with (fail)
    (try simp only [Act.put,sA,sZ,sS])
    have F:=Bn.bytes E (by repeat (first|exact St.C|apply St.and)) b (grownCap wc b.size 0 5)
    generalize (wc.alloc (Obj.cells (bytesRow b (grownCap wc b.size 0 5)) 5 ((bytesRow b (grownCap wc b.size 0 5)).size,(bytesRow b (grownCap wc b.size 0 5)).size + 1))).drew=w50 at F ⊢
    generalize grownCap wc b.size 0 5=cp
    generalize hgb:wc.heap.size=gb at F ⊢
    have HGB:=Aside0.mk hgb
    clear hgb
    have z0:(b.size=0)=False:=eq_false HSZ.1
    have z1:((b.size:Int)=0)=False:=eq_false (by have:=HSZ.1;omega)
    have z2:(b=ByteArray.empty)=False:=eq_false (fun e=>HSZ.1 (by rw [e];rfl))
    go_upto_region 17 with (first
     | (go_at_call 26;(with_reducible refine (atC F.1.fact.2 HC0.1 HS0.1 0 256 (by decide) (by decide) (by decide)).mono ?_);rintro e w51 ⟨r0,rfl,hr0,hb⟩;have HR0:=Aside0.mk hr0;clear hr0;have F2:=Bn.to F (by repeat (first|exact St.row|exact St.C|apply St.and)) hb;clear F;have F:=F2;clear F2;clear hb))
    (try simp only [Act.put,sA,sZ,sS])
    have hkk:0 ≤ r0.tmod (b.size:Int)∧r0.tmod (b.size:Int) < (b.size:Int):=⟨Int.tmod_nonneg _ HR0.1.1,Int.tmod_lt_of_pos _ (by have:=HSZ.1;omega)⟩
    generalize r0.tmod (b.size:Int)=kk at hkk ⊢
    obtain ⟨k,rfl⟩:=Int.eq_ofNat_of_zero_le hkk.1
    have hkl:k < (byl b).length:=by rw [byl_length];omega
    have HKL:=Aside0.mk hkl
    have p0:=eq_true hkk.1
    have p1:=eq_true hkk.2
    clear hkk z0 z1 z2
    obtain ⟨v0,hv0⟩:∃ v0,(byl b).getD k 0=v0:=⟨_,rfl⟩
    have HV0:=Aside0.mk hv0
    have F2:=Bn.on (W:=w51.drew) F (by repeat (first|exact St.row|exact St.C|apply St.and))
    clear F
    have F:=F2
    clear F2
    have hc0:=F.1.fact.1.cell HKL.1
    have hz0:=F.1.fact.1.frozen HKL.1
    rw [hv0] at hc0
    clear hv0 hkl
    clear hc0 hz0
    refine start_ (n:=13) (S:=fun w'=>w'.cell? ⟨gb,k,none⟩=some (.int .u8 v0)∧w'.frozen? ⟨gb,k,none⟩=false) (ds:=[12]) #[false,false,false,false,false,false,false,false,false,false,false,false,false] (by kernel_rfl) rfl rfl ⟨HV0.1 ▸ F.1.fact.1.cell HKL.1,F.1.fact.1.frozen HKL.1⟩ (fun hHeld=>?_)
    generalize w51.drew=w51b at F hHeld ⊢
    refine pure_ (i:=0) (N:=some 134) (v:=?_) (a':=?_) #[true,false,false,false,false,false,false,false,false,false,false,false,false] rfl rfl (by kernel_rfl) (fun _ _ _ h=>h) (Or.inl ⟨by rfl,?_⟩) ?_ ?_;rotate_left
    ·intro w';go_simp;(with_reducible rfl)
    rotate_left
    ·simp only [Act.put,sA,sZ,sS,i64_w,i32_w];rfl
    refine pure_ (i:=1) (N:=some 135) (v:=?_) (a':=?_) #[true,true,false,false,false,false,false,false,false,false,false,false,false] rfl rfl (by kernel_rfl) (fun _ _ _ h=>h) (Or.inl ⟨by rfl,?_⟩) ?_ ?_;rotate_left
    ·intro w';go_simp;(with_reducible rfl)
    rotate_left
    ·simp only [Act.put,sA,sZ,sS,i64_w,i32_w];rfl
    refine pure_ (i:=2) (N:=some 136) (v:=?_) (a':=?_) #[true,true,true,false,false,false,false,false,false,false,false,false,false] rfl rfl (by kernel_rfl) (fun _ _ _ h=>h) (Or.inl ⟨by rfl,?_⟩) ?_ ?_;rotate_left
    ·intro w';go_simp;(with_reducible rfl)
    rotate_left
    ·simp only [Act.put,sA,sZ,sS,i64_w,i32_w];rfl
    refine pure_ (i:=3) (N:=some 137) (v:=?_) (a':=?_) #[true,true,true,true,false,false,false,false,false,false,false,false,false] rfl rfl (by kernel_rfl) (fun _ _ _ h=>h) (Or.inl ⟨by rfl,?_⟩) ?_ ?_;rotate_left
    ·intro w';go_simp;(with_reducible rfl)
    rotate_left
    ·simp only [Act.put,sA,sZ,sS,i64_w,i32_w];rfl
    refine pure_ (i:=4) (N:=some 138) (v:=?_) (a':=?_) #[true,true,true,true,true,false,false,false,false,false,false,false,false] rfl rfl (by kernel_rfl) (fun _ _ _ h=>h) (Or.inl ⟨by rfl,?_⟩) ?_ ?_;rotate_left
    ·intro w';go_simp;(with_reducible rfl)
    rotate_left
    ·simp only [Act.put,sA,sZ,sS,i64_w,i32_w];rfl
    refine take_ (i:=5) (N:=some 139) (v:=?_) (a':=?_) #[true,true,true,true,true,true,false,false,false,false,false,false,false] rfl rfl (by kernel_rfl) (fun _ _ _ h=>h) (Or.inl ⟨by rfl,?_⟩) hHeld ?_ ?_;rotate_left
    ·rintro w' ⟨s0,s1⟩;go_simp;(with_reducible rfl)
    rotate_left
    ·simp only [Act.put,sA,sZ,sS,i64_w,i32_w];rfl
    refine pure_ (i:=6) (N:=some 140) (v:=?_) (a':=?_) #[true,true,true,true,true,true,true,false,false,false,false,false,false] rfl rfl (by kernel_rfl) (fun _ _ _ h=>h) (Or.inl ⟨by rfl,?_⟩) ?_ ?_;rotate_left
    ·intro w';go_simp;(with_reducible rfl)
    rotate_left
    ·simp only [Act.put,sA,sZ,sS,i64_w,i32_w];rfl
    refine one_ (i:=7) (N:=some 141) #[true,true,true,true,true,true,true,true,false,false,false,false,false] rfl rfl (by kernel_rfl) (by decide) (fun K hK=>?_)
    refine goes_ Try.func26 (by kernel_rfl) rfl #[.slice A0 l0.length c0,.int .i64 1,.int .i64 255] (by rfl) rfl rfl (by (try simp only [List.map_toArray,List.map_cons,List.map_nil]);first|done|rfl) ?_
    refine (atC F.1.fact.2 HC0.1 HS0.1 1 255 (by decide) (by decide) (by decide)).mono ?_;rintro e w52 ⟨r1,rfl,hr1,hb⟩;have HR1:=Aside0.mk hr1;clear hr1;refine ⟨_,rfl,?_⟩;have F2:=Bn.to F (by repeat (first|exact St.row|exact St.C|apply St.and)) hb;clear F;have F:=F2;clear F2;clear hb
    refine hK.out _ _ ⟨HV0.1 ▸ F.1.fact.1.cell HKL.1,F.1.fact.1.frozen HKL.1⟩ (fun hHeld=>?_);clear hK K;refine norm_ (a':=?_) ?_ ?_;rotate_left
    ·show Act.put _ (some 141) _=_;simp only [Act.put,sA,sZ,sS,i64_w,i32_w];rfl
    refine pure_ (i:=8) (N:=some 142) (v:=?_) (a':=?_) #[true,true,true,true,true,true,true,true,true,false,false,false,false] rfl rfl (by kernel_rfl) (fun _ _ _ h=>h) (Or.inl ⟨by rfl,?_⟩) ?_ ?_;rotate_left
    ·intro w';go_simp;(with_reducible rfl)
    rotate_left
    ·simp only [Act.put,sA,sZ,sS,i64_w,i32_w];rfl
    refine pure_ (i:=9) (N:=some 143) (v:=?_) (a':=?_) #[true,true,true,true,true,true,true,true,true,true,false,false,false] rfl rfl (by kernel_rfl) (fun _ _ _ h=>h) (Or.inl ⟨by rfl,?_⟩) ?_ ?_;rotate_left
    ·intro w';go_simp;(with_reducible rfl)
    rotate_left
    ·simp only [Act.put,sA,sZ,sS,i64_w,i32_w];rfl
    refine pure_ (i:=10) (N:=some 144) (v:=?_) (a':=?_) #[true,true,true,true,true,true,true,true,true,true,true,false,false] rfl rfl (by kernel_rfl) (fun _ _ _ h=>h) (Or.inl ⟨by rfl,?_⟩) ?_ ?_;rotate_left
    ·intro w';go_simp;(with_reducible rfl)
    rotate_left
    ·simp only [Act.put,sA,sZ,sS,i64_w,i32_w];rfl
    refine pure_ (i:=11) (N:=some 145) (v:=?_) (a':=?_) #[true,true,true,true,true,true,true,true,true,true,true,true,false] rfl rfl (by kernel_rfl) (fun _ _ _ h=>h) (Or.inl ⟨by rfl,?_⟩) ?_ ?_;rotate_left
    ·intro w';go_simp;(with_reducible rfl)
    rotate_left
    ·simp only [Act.put,sA,sZ,sS,i64_w,i32_w];rfl
    refine last_ (i:=12) (N:=none) #[true,true,true,true,true,true,true,true,true,true,true,true,true] rfl rfl (by kernel_rfl) (by decide) (fun K hK=>?_)
    obtain ⟨s0,s1⟩:=hHeld
    refine skip_ (w1:=?_) (by rfl) rfl ?_ ?_;rotate_left
    ·go_simp;rfl
    refine hK.out _ _ ?_;clear hK K
    refine done_ (by kernel_rfl) ?_
    have hr1:=HR1.1
    have hvv:0 ≤ v0∧v0 ≤ 255:=by
     have h1:=byl_range b ((byl b)[k]'HKL.1) (List.getElem_mem _)
     have h2:=HV0.1
     rw [List.getD_eq_getElem?_getD,List.getElem?_eq_getElem HKL.1] at h2
     rw [← h2]
     exact h1
    have hx:=turn_ne hvv hr1
    have G:=Bn.turn (W:=w52) F (by repeat (first|exact St.C|apply St.and)) E.1.fact HGB HKL.1 (bits .xor .u8 v0 (IntKind.u8.wrap (wrap64 (1 + r1))))
    generalize bits BinOp.xor IntKind.u8 v0 (IntKind.u8.wrap (wrap64 (1 + r1)))=vx at hx G ⊢
    generalize w52.setCell ⟨gb,k,none⟩ (.int .u8 vx)=w53 at G ⊢
    obtain ⟨fs',c',hE,hc'⟩:=turned (Int.not_lt.2 HP.1) HBS.1 HKL.1 (fun e=>hx.2 (e.trans HV0.1)) hx.1
    have HE:=Aside0.mk hE
    have hcc:(c' == (0:Int))=false:=beq_eq_false_iff_ne.mpr hc'
    clear hE hx hvv hr1 hc' F s0 s1
    have hcv:=G.1.fact.1.text b.size cp (by rw [List.length_set,byl_length])
    go_wp2_with (first
     | (go_at_call 40;(refine (readI HE.1).mono ?_);rintro e w54 ⟨v1,v5,rfl,ho,ho2,hb⟩;clear ho ho2 hcv;have F2:=Bn.to G (by repeat (first|exact St.row|exact St.C|apply St.and)) hb;clear G;have G:=F2;clear F2;clear hb))
    go_meet
    case rel=>exact Bn.to (W:=wc) E (by repeat (first|exact St.C|apply St.and)) G.1.bel
  case rest =>
  clear E
  have E:=hcut
  clear hcut
  go_upto_region 22 with (first
   | ((with_reducible refine gC 47 rfl ?_);refine gL 152 Try.func47 #[.slice A0 l0.length c0] ?_;refine (DrawFrameRead_ok A0 c0 l0 _ E.1.fact HC0.1 HL0.1).mono ?_;rintro e w60 ⟨u,rfl,hb⟩;refine ⟨_,rfl,?_⟩;have E2:=Bn.to E (by repeat (first|exact St.blk|exact St.C|apply St.and)) hb;clear E hb;have E:=E2;clear E2;obtain ⟨fr,cd,h1,h2,h3,_⟩:=frame_read2 u;have HS_:=Aside0.mk h1;have HI_:=Aside0.mk h2;have HLf:=Aside0.mk h3;clear h1 h2 h3)
   | ((with_reducible refine gC 40 rfl ?_);refine gL 154 Try.func40 #[.string u] ?_;refine (readI HI_.1).mono ?_;rintro e w61 ⟨v1,v5,rfl,ho,ho2,hb⟩;refine ⟨_,rfl,?_⟩;obtain ⟨A_29,k29,ev⟩:=Kd.R_slice (xs:=([]:List ByteArray)) ho;subst ev;obtain ⟨A_30,k30,ev⟩:=Kd.R_slice (xs:=fr) ho2;subst ev;have HK30:=Aside0.mk (Kd.R_reads' ho2).2.1;have E2:=Bn.add (R:=fun W=>Kd.C k38 W A_30 fr.length fr) E (by repeat (first|exact St.blk|exact St.C|apply St.and)) hb (Kd.R_reads' ho2).2.2;clear E ho ho2 hb;have E:=E2;clear E2)
   | ((with_reducible refine gate_dst (N:=17) rfl ?_);refine box_event ?hg (N:=17) ?hd (cs:=#[.int .i64 0,.slice none 0 0,.int .i64 0,.int .i64 0,.int .i64 0,.slice none 0 0,.string (⟨#[]⟩:ByteArray),.int .i64 0]) (t:=45) ?hr ?_;(case hd=>rfl);(case hg=>rfl);(case hr=>go_simp;try rfl);intro g17 hg w62 hbox hb;have HG17:=Aside0.mk hg;have HX17:=Aside0.mk hbox;have HB17:=Aside0.mk hb;clear hg hbox hb;obtain ⟨hcz0,hcz1,hcz2,hcz3,hcz4,hcz5,hcz6,hcz7⟩:=c8_ HX17;obtain ⟨hfz0,hfz1,hfz2,hfz3,hfz4,hfz5,hfz6,hfz7⟩:=f8_ HX17))
  (try simp only [Act.put,sA,sZ,sS])
  have E2:=Bn.box8 (W':=w62) (u0:=.int .i64 0) (u1:=.slice A_29 0 k29) (u2:=.int .i64 0) (u3:=.int .i64 0) (u4:=.int .i64 0) (u5:=.slice A_30 fr.length k30) (u6:=.string (⟨#[]⟩:ByteArray)) (u7:=.int .i64 cd) E (by repeat (first|exact St.blk|exact St.C|apply St.and)) HG17 HX17 HB17
  clear E HG17 HX17 HB17 hcz0 hcz1 hcz2 hcz3 hcz4 hcz5 hcz6 hcz7 hfz0 hfz1 hfz2 hfz3 hfz4 hfz5 hfz6 hfz7
  have E:=E2
  clear E2
  generalize ((((((((w62.setCell ⟨g17,0,none⟩ (.int .i64 0)).setCell ⟨g17,1,none⟩ (.slice A_29 0 k29)).setCell ⟨g17,2,none⟩ (.int .i64 0)).setCell ⟨g17,3,none⟩ (.int .i64 0)).setCell ⟨g17,4,none⟩ (.int .i64 0)).setCell ⟨g17,5,none⟩ (.slice A_30 fr.length k30)).setCell ⟨g17,6,none⟩ (.string (⟨#[]⟩:ByteArray))).setCell ⟨g17,7,none⟩ (.int .i64 cd))=w63 at E ⊢
  have E2:=Bn.on (W:=w63.drew) E (by repeat (first|exact St.blk|exact St.C|apply St.and))
  clear E
  have E:=E2
  clear E2
  go_region_held3 (fun w'=>w'.cell? ⟨g17,0,none⟩=some (.int .i64 0)∧w'.cell? ⟨g17,1,none⟩=some (.slice A_29 0 k29)∧w'.cell? ⟨g17,2,none⟩=some (.int .i64 0)∧w'.cell? ⟨g17,3,none⟩=some (.int .i64 0)∧w'.cell? ⟨g17,4,none⟩=some (.int .i64 0)∧w'.cell? ⟨g17,5,none⟩=some (.slice A_30 fr.length k30)∧w'.cell? ⟨g17,6,none⟩=some (.string (⟨#[]⟩:ByteArray))∧w'.cell? ⟨g17,7,none⟩=some (.int .i64 cd)) (exact c8_ (Aside0.mk E.1.fact.1))
   (first
    | (go_at_call 39;(with_reducible refine (readS HS_.1).mono ?_);rintro e w64 ⟨v1,v5,rfl,ho,ho2,hb⟩;obtain ⟨A_31,k31,ev⟩:=Kd.R_slice (xs:=fr) ho2;subst ev;have XF:=Aside0.mk (And.intro (Kd.R_reads' ho2).2.2 (Kd.R_reads' ho2).2.1);have E2:=Bn.to E (by repeat (first|exact St.blk|exact St.C|apply St.and)) hb;clear E;have E:=E2;clear E2;clear ho ho2 hb)
    | (go_at_call 46;(with_reducible refine (framesC (Nat.le_trans HLf.1 (by decide)) E.1.fact.2.1 HK30.1 XF.1.1 XF.1.2).mono ?_);rintro e w65 ⟨rfl,hb⟩;have E2:=Bn.to E (by repeat (first|exact St.blk|exact St.C|apply St.and)) hb;clear E;have E:=E2;clear E2;clear hb))
  clear HS_ HI_ HLf
  (try go_wp2)
  go_ret
  exact ⟨rfl,E.1.bel⟩
end Go.Proofs.Ytaaffhghpealjaa
namespace Go.Proofs.Ytaaffhghpealjaa.A
open Go.ChangeShapes Go.WideShapes Go.RowKit Go.Deep Go.Joins Go.Proofs.YtaaffhghpealjaaW.PrintWords Go.Proofs.YtaaffhghpealjaaW.PrintLast Go.Proofs.YtaaffhghpealjaaW.PrintMore
section
variable {H:Type} {enc:TypeId × Value → H} {P:Program} {w:World} {base:Nat} {spare:Nat → Bool} {held:Bool}
theorem arg_bytes {r:Reach} {b0:Nat} {t e:TypeId} {v:Value} {d:DataW H} {p:List MemPlace} (ht:P.underlying t=some (.slice e)) (he:P.underlying e=some (.int .u8)) (hc:P.cellsOf e=1) (hv:Value.okWide P w r b0 t v) (h:DataW.Trod enc P w 0 (fun _=>true) held t v d p) :
  ∃ (A:Option Addr) (c:Nat) (l:List Int),v=.slice A l.length c∧Kd.C (Kd.int .u8) w A l.length l∧l.length ≤ c∧l.length ≤ 9223372036854775807∧∀ x ∈ l,0 ≤ x∧x ≤ 255:=by
 obtain ⟨A,n,c,rfl⟩:=okWide_slice ht hv
 obtain ⟨fuel,hf⟩:=h
 have hf':DataW.trod enc P w 0 (fun _=>true) held fuel t [.slice A n c]=some (d,p):=by simpa [Value.cells] using hf
 rcases open_ints ht he hc hf' with ⟨hcs,_⟩|⟨x,l,c',zs,hcs,_,hl,hm,hz,_,hcell,hwz⟩
 ·simp at hcs
  obtain ⟨rfl,rfl,rfl⟩:=hcs
  exact ⟨none,0,[],rfl,Kd.C_of_reads (d:=(0:Int)) (h1:=fun _=>rfl) ⟨rfl,by simp,fun h0=>absurd h0 (by simp)⟩,Nat.le_refl _,by simp,by simp⟩
 ·simp at hcs
  obtain ⟨rfl,rfl,rfl⟩:=hcs
  have hz':zs.length=c:=by simpa using hz
  unfold maxLen at hm
  have hlen:(zs.take n).length=n:=by rw [List.length_take];omega
  refine ⟨some x,c,zs.take n,by rw [hlen],?_,by omega,by omega,?_⟩
  ·rw [hlen]
   refine Kd.C_of_reads (d:=(0:Int)) (h1:=fun _=>rfl) ⟨hlen,by omega,fun _=>⟨x,rfl,fun j hj=>?_⟩⟩
   rw [hcell j (by omega)]
   simp [hj]
  ·intro y hy
   have:=hwz y (List.mem_of_mem_take hy)
   simp [Lit.wf,IntKind.min,IntKind.max,IntKind.signed,IntKind.bits] at this
   omega
end
end Go.Proofs.Ytaaffhghpealjaa.A
