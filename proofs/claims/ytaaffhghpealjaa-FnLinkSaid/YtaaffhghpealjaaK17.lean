/- Part of the proof of FnLink (a drawn valid end of a link stays valid, frames are read back, nothing is sent before its time): plain functions and what calls come to. No conditions beyond those that each statement names. -/
import Derived.Laws.IdiomStrings
import Derived.Test.YtaaffhghpealjaaK15
import Derived.Test.YtaaffhghpealjaaK16
namespace Go.Proofs.Ytaaffhghpealjaa.A
open Go.RowKit Go.Proofs.YtaaffhghpealjaaW.PrintWords Go.Proofs.YtaaffhghpealjaaW.PrintLast Go.Proofs.YtaaffhghpealjaaW.PrintMore
attribute [local simp high] andThen_ok_
attribute [local go_sem] isSome_setCell max2_int min2_int max_two min_two max_three min_three max_four min_four
set_option linter.unusedVariables false
set_option linter.unusedSimpArgs false
abbrev ze3:Obj:=.cells #[.int .i64 0,.int .i64 0,.string (⟨#[]⟩:ByteArray)] 38 (0,0)
abbrev PF (w:World) (g gr gf:Nat) (k s:Int) (t:ByteArray):World → Prop:=fun W=>W.heap[gf]?=some (.cells #[.int .i64 k,.int .i64 s,.string t] 38 (0,0))∧W.heap[gr]?=some ze3∧KeepBut w W g none
theorem PF.stb {w:World} {g gr gf:Nat} {k s:Int} {t:ByteArray} (h:gr ≠ g) (h2:gf ≠ g):Stb g (PF w g gr gf k s t):=Stb.and (Stb.blk h2) (Stb.and (Stb.blk h) Stb.keep)
theorem f_put {w0 w W:World} {g gr gf:Nat} {s0:List Int} {c0 c1 c2:Value} {k s:Int} {t:ByteArray} (E:Aside0 (En w0 W g s0 fun W=>W.heap[gf]?=some (.cells #[c0,c1,c2] 38 (0,0))∧W.heap[gr]?=some ze3∧KeepBut w W g none)) (NGr:Aside0 (gr ≠ g)) (NGf:Aside0 (gf ≠ g)) (GEf:Aside0 (w0.heap.size ≤ gf)) (GWf:Aside0 (w.heap.size ≤ gf)) (Nrf:Aside0 (gr ≠ gf)) :
  Aside0 (En w0 (((W.setCell ⟨gf,0,none⟩ (.int .i64 k)).setCell ⟨gf,1,none⟩ (.int .i64 s)).setCell ⟨gf,2,none⟩ (.string t)) g s0 (PF w g gr gf k s t)) :=
 En.set3 (W:=W) (g':=gf) E (Stb.and (Stb.blk NGr.1) Stb.keep) (Sto.and (Sto.blk Nrf.1) (Sto.keep GWf.1)) NGf GEf
theorem f_set {w0 w W:World} {g gr gf i:Nat} {s0:List Int} {c0 c1 c2:Value} {k s:Int} {t:ByteArray} {u:Value} (E:Aside0 (En w0 W g s0 fun W=>W.heap[gf]?=some (.cells #[c0,c1,c2] 38 (0,0))∧W.heap[gr]?=some ze3∧KeepBut w W g none)) (NGf:Aside0 (gf ≠ g)) (GEf:Aside0 (w0.heap.size ≤ gf)) (GWf:Aside0 (w.heap.size ≤ gf)) (Nrf:Aside0 (gr ≠ gf))
  (he:#[c0,c1,c2].setIfInBounds i u=#[.int .i64 k,.int .i64 s,.string t]):Aside0 (En w0 (W.setCell ⟨gf,i,none⟩ u) g s0 (PF w g gr gf k s t)) :=
 ⟨E.1.set NGf.1 GEf.1 ⟨blk_put E.1.fact.1 i u he,Sto.blk (t:=38) Nrf.1 W i u E.1.fact.2.1 ⟨_,E.1.fact.1⟩,Sto.keep (t:=38) GWf.1 W i u E.1.fact.2.2 ⟨_,E.1.fact.1⟩⟩⟩
abbrev Lw:List ByteArray:=[(⟨#[97]⟩:ByteArray),(⟨#[98]⟩:ByteArray)]
abbrev Lf:List Int:=[(-1),0,1000000000,1000000001]
theorem Lf_ok {k:Int} (h:0 ≤ k∧k < 4):rd Lf k ≤ 9 ∨ 1000000000 ≤ rd Lf k:=by
 obtain ⟨h0,h1⟩:=h
 have h2:k=0 ∨ k=1 ∨ k=2 ∨ k=3:=by omega
 rcases h2 with rfl|rfl|rfl|rfl <;> decide
set_option maxHeartbeats 8000000 in
set_option maxRecDepth 100000 in
theorem l13Some_ok (g:Nat) (s0:List Int) (p a b:Int) (w0 w:World) (hI:IsS110 w0 w g s0 p a b) (ha:at_ s0 p) (hB:Below w0.heap.size w0 w) :
  Calls Try.prog 89 #[.pointer (some ⟨g,0,none⟩)] w fun e w'=>∃ (k s:Int) (t:ByteArray),e=.returned (.agg #[.int .i64 k,.int .i64 s,.string t])∧(k=1 ∨ s ≤ 9 ∨ 1000000000 ≤ s)∧En w0 w' g s0 (fun W=>KeepBut w W g none):=by
 have hu38:=Try.underlying38
 have HZ:=Aside0.mk hB.size
 have E:Aside0 (En w0 w g s0 fun W=>KeepBut w W g none):=⟨⟨p,a,b,hI,ha⟩,hB,KeepBut.refl w g none⟩
 have S0:Stb g fun W=>KeepBut w W g none:=Stb.keep
 clear hI ha hB
 go_enter Try.func89,Try.ntmps89
 go_upto_region 1 with (first
  | ((with_reducible refine gate_dst (N:=2) rfl ?_);refine box_event ?hg (N:=2) ?hd (cs:=#[.int .i64 0,.int .i64 0,.string (⟨#[]⟩:ByteArray)]) (t:=38) ?hr ?_;(case hd=>rfl);(case hg=>rfl);(case hr=>go_simp;try rfl);intro gr hg w4 hbox hb;obtain ⟨E2,NGr,GEr⟩:=En.box E S0 hg hbox hb;have GWr:=Aside0.mk ((by rw [hg];exact En.size E (fun _ h=>h):w.heap.size ≤ gr));have S1:=Aside0.mk (Stb.and (Stb.blk (o:=ze3) NGr.1) S0);clear E;have E:=E2;clear E2 hb hbox hg))
 (try simp only [Act.put,sA,sZ,sS])
 go_cut [3] (fun v3 wc=>∃ (gf:Nat) (k s:Int) (t:ByteArray),v3=.pointer (some ⟨gf,0,none⟩)∧Aside0 (s ≤ 9)∧Aside0 (gf ≠ g)∧Aside0 (w0.heap.size ≤ gf)∧Aside0 (w.heap.size ≤ gf)∧Aside0 (gr ≠ gf)∧Aside0 (En w0 wc g s0 (PF w g gr gf k s t)))
 case first =>
  go_wp2_with (first
   | ((with_reducible refine gC 88 rfl ?_);refine gL 5 Try.func88 #[.pointer (some ⟨g,0,none⟩),.int .i64 9] ?_;refine (n_en E.1 S1.1 (by decide) (by decide)).mono ?_;rintro e w5 ⟨k5,rfl,hk5,E3⟩;refine ⟨_,rfl,?_⟩;have HK5:=Aside0.mk hk5;clear hk5;clear E;have E:=Aside0.mk E3;clear E3)
   | ((with_reducible refine gate_dst (N:=8) rfl ?_);refine Kd.R_lit Kd.string _ 9 ?hg (N:=8) ?hd (xs:=Lw) (inner:=[.string (⟨#[97]⟩:ByteArray),.string (⟨#[98]⟩:ByteArray)]) (ok:=fun _=>True) (okp:=fun _=>True) ?hr ?hp (fun _ hk=>hk) trivial (Below.refl _ _) (Nat.le_refl _) (by simp) ?_;(case hd=>rfl);(case hg=>rfl);(case hr=>go_simp;try rfl);(case hp=>exact (Reps.one (show Kd.M Kd.string _ _ _ (⟨#[97]⟩:ByteArray) [.string (⟨#[97]⟩:ByteArray)] from rfl) (Reps.one (show Kd.M Kd.string _ _ _ (⟨#[98]⟩:ByteArray) [.string (⟨#[98]⟩:ByteArray)] from rfl) (Reps.none _ _))));intro v2 w2 ho hb hg_ hnew_;have E2:=En.rowR (q:=Lw) E S1.1 (fun _ h=>h.2) ho hb;obtain ⟨A2,c2,ev⟩:=Kd.R_slice (xs:=Lw) ho;subst ev;clear E hg_ hnew_ ho hb;have E:=E2;clear E2)
   | ((with_reducible refine gC 95 rfl ?_);refine gL 9 Try.func95 #[.pointer (some ⟨g,0,none⟩),.slice A2 Lw.length c2] ?_;refine (pick_en E.1 (Stb.and Stb.row S1.1) E.1.fact.1 (by decide) (by decide)).mono ?_;rintro e w6 ⟨t9,rfl,E3⟩;refine ⟨_,rfl,?_⟩;clear E;have E:=Aside0.mk E3.snd;clear E3)
   | ((with_reducible refine gate_dst (N:=3) rfl ?_);refine box_event ?hg (N:=3) ?hd (cs:=#[.int .i64 0,.int .i64 0,.string (⟨#[]⟩:ByteArray)]) (t:=38) ?hr ?_;(case hd=>rfl);(case hg=>rfl);(case hr=>go_simp;try rfl);intro gf hg w7 hbox hb;obtain ⟨E2,NGf,GEf⟩:=En.box E S1.1 hg hbox hb;have Nrf:=En.old E (fun _ h=>h.1) hg;have GWf:=Aside0.mk ((by rw [hg];exact En.size E (fun _ h=>h.2):w.heap.size ≤ gf));clear E;have E:=E2;clear E2 hb hbox hg;obtain ⟨hfz0,hfz1,hfz2⟩:=c3_ (Aside0.mk E.1.fact.1);obtain ⟨hgz0,hgz1,hgz2⟩:=f3_ (Aside0.mk E.1.fact.1)))
  go_meet
  case rel=>exact ⟨gf,1,wrap64 (1 + k5),t9,rfl,⟨by have:=HK5.1;rw [w64 (by omega) (by omega)];omega⟩,NGf,GEf,GWf,Nrf,f_put E NGr NGf GEf GWf Nrf⟩
 case rest =>
  clear E S1
  obtain ⟨gf,k,s,t,rfl,HF,NGf,GEf,GWf,Nrf,E⟩:=hcut
  have S:=Aside0.mk (PF.stb (w:=w) (k:=k) (s:=s) (t:=t) NGr.1 NGf.1)
  obtain ⟨hfz0,hfz1,hfz2⟩:=c3_ (Aside0.mk E.1.fact.1);obtain ⟨hgz0,hgz1,hgz2⟩:=f3_ (Aside0.mk E.1.fact.1)
  go_step
  go_step
  go_cut [] (fun wc=>∃ (k s:Int) (t:ByteArray),Aside0 (s ≤ 9)∧Aside0 (En w0 wc g s0 (PF w g gr gf k s t)))
  case first =>
   go_wp2_with (first
    | ((with_reducible refine gC 87 rfl ?_);refine gL 12 Try.func87 #[.pointer (some ⟨g,0,none⟩),.int .i64 2] ?_;refine (one_en E.1 S.1 (by decide) (by decide)).mono ?_;rintro e w5 ⟨k12,rfl,E3⟩;refine ⟨_,rfl,?_⟩;clear hfz0 hfz1 hfz2 hgz0 hgz1 hgz2 ;clear E;have E:=Aside0.mk E3;clear E3)
    | ((with_reducible refine gC 88 rfl ?_);refine gL 14 Try.func88 #[.pointer (some ⟨g,0,none⟩),.int .i64 9] ?_;refine (n_en E.1 S.1 (by decide) (by decide)).mono ?_;rintro e w5 ⟨k14,rfl,hk14,E3⟩;refine ⟨_,rfl,?_⟩;have HK14:=Aside0.mk hk14;clear hk14;clear E;have E:=Aside0.mk E3;clear E3;obtain ⟨hfz0,hfz1,hfz2⟩:=c3_ (Aside0.mk E.1.fact.1);obtain ⟨hgz0,hgz1,hgz2⟩:=f3_ (Aside0.mk E.1.fact.1)))
   ·go_meet
    case rel=>exact ⟨2,k14,(⟨#[]⟩:ByteArray),⟨by have:=HK14.1;omega⟩,f_put E NGr NGf GEf GWf Nrf⟩
   ·go_meet
    case rel=>exact ⟨k,s,t,HF,E⟩
  case rest =>
   clear E S HF hfz0 hfz1 hfz2 hgz0 hgz1 hgz2
   obtain ⟨k,s,t,HF,E⟩:=hcut
   have S:=Aside0.mk (PF.stb (w:=w) (k:=k) (s:=s) (t:=t) NGr.1 NGf.1)
   go_step
   go_step
   go_cut [] (fun wc=>∃ (k s:Int) (t:ByteArray),Aside0 (k=1 ∨ s ≤ 9 ∨ 1000000000 ≤ s)∧Aside0 (En w0 wc g s0 (PF w g gr gf k s t)))
   case first =>
    go_wp2_with (first
     | ((with_reducible refine gC 87 rfl ?_);refine gL 17 Try.func87 #[.pointer (some ⟨g,0,none⟩),.int .i64 10] ?_;refine (one_en E.1 S.1 (by decide) (by decide)).mono ?_;rintro e w5 ⟨k17,rfl,E3⟩;refine ⟨_,rfl,?_⟩;clear E;have E:=Aside0.mk E3;clear E3)
     | ((with_reducible refine gC 88 rfl ?_);refine gL 19 Try.func88 #[.pointer (some ⟨g,0,none⟩),.int .i64 4] ?_;refine (n_en E.1 S.1 (by decide) (by decide)).mono ?_;rintro e w5 ⟨k19,rfl,hk19,E3⟩;refine ⟨_,rfl,?_⟩;clear hk19;clear E;have E:=Aside0.mk E3;clear E3;obtain ⟨hfz0,hfz1,hfz2⟩:=c3_ (Aside0.mk E.1.fact.1);obtain ⟨hgz0,hgz1,hgz2⟩:=f3_ (Aside0.mk E.1.fact.1))
     | ((with_reducible refine gC 88 rfl ?_);refine gL 29 Try.func88 #[.pointer (some ⟨g,0,none⟩),.int .i64 4] ?_;refine (n_en E.1 S.1 (by decide) (by decide)).mono ?_;rintro e w5 ⟨k29,rfl,hk29,E3⟩;refine ⟨_,rfl,?_⟩;clear hk29;clear E;have E:=Aside0.mk E3;clear E3;obtain ⟨hfz0,hfz1,hfz2⟩:=c3_ (Aside0.mk E.1.fact.1);obtain ⟨hgz0,hgz1,hgz2⟩:=f3_ (Aside0.mk E.1.fact.1))
     | ((with_reducible refine gate_dst (N:=33) rfl ?_);refine Kd.R_lit (Kd.int .i64) _ 2 ?hg (N:=33) ?hd (xs:=Lf) (inner:=[.int .i64 (-1),.int .i64 0,.int .i64 1000000000,.int .i64 1000000001]) (ok:=fun _=>True) (okp:=fun _=>True) ?hr ?hp (fun _ hk=>hk) trivial (Below.refl _ _) (Nat.le_refl _) (by simp) ?_;(case hd=>rfl);(case hg=>rfl);(case hr=>go_simp;try rfl);(case hp=>exact (Reps.one (show Kd.M (Kd.int .i64) _ _ _ (-1) [.int .i64 (-1)] from rfl) (Reps.one (show Kd.M (Kd.int .i64) _ _ _ 0 [.int .i64 0] from rfl) (Reps.one (show Kd.M (Kd.int .i64) _ _ _ 1000000000 [.int .i64 1000000000] from rfl) (Reps.one (show Kd.M (Kd.int .i64) _ _ _ 1000000001 [.int .i64 1000000001] from rfl) (Reps.none _ _))))));intro v2 w2 ho hb hg_ hnew_;have E2:=En.rowI (q:=Lf) E S.1 (fun _ h=>h.2.2) ho hb;clear E hg_ hnew_ ho hb;have E:=E2;clear E2)
     | ((with_reducible refine gC 88 rfl ?_);refine gL 35 Try.func88 #[.pointer (some ⟨g,0,none⟩),.int .i64 4] ?_;refine (n_en E.1 (Stb.and Stb.row S.1) (by decide) (by decide)).mono ?_;rintro e w3 ⟨k35,rfl,hk35,E3⟩;refine ⟨_,rfl,?_⟩;clear E;have E:=Aside0.mk E3;clear E3;obtain ⟨A9,c9,ev,_⟩:=Kd.Q_slice (xs:=Lf) E.1.fact.1;subst ev;obtain ⟨ad9,e9,hx9⟩:=Kd.at_int (Kd.Q_reads' E.1.fact.1).2.2 k35 hk35.1 hk35.2;cases e9;have HK35:=Aside0.mk hk35;have p9:=eq_true hk35.1;have q9:(k35 < 4)=True:=eq_true hk35.2;clear hk35;obtain ⟨hfz0,hfz1,hfz2⟩:=c3_ (Aside0.mk E.1.fact.2.1);obtain ⟨hgz0,hgz1,hgz2⟩:=f3_ (Aside0.mk E.1.fact.2.1))
     | ((with_reducible refine gC 88 rfl ?_);refine gL 21 Try.func88 #[.pointer (some ⟨g,0,none⟩),.int .i64 2] ?_;refine (n_en E.1 S.1 (by decide) (by decide)).mono ?_;rintro e w5 ⟨k21,rfl,hk21,E3⟩;refine ⟨_,rfl,?_⟩;have HK21:=Aside0.mk hk21;clear hk21;clear E;have E:=Aside0.mk E3;clear E3;obtain ⟨hfz0,hfz1,hfz2⟩:=c3_ (Aside0.mk E.1.fact.1);obtain ⟨hgz0,hgz1,hgz2⟩:=f3_ (Aside0.mk E.1.fact.1))
     | ((with_reducible refine gate_dst (N:=23) rfl ?_);refine Kd.R_make (Kd.int .u8) _ 5 rfl (N:=23) rfl 41 _ _ rfl (wrap64 (1000 + k21)) rfl rfl Try.underlying41 (.int .u8 0) 1 info5 rfl (by decide) (by omega) 0 (ok:=fun _=>True) (okp:=fun _=>True) rfl (fun _ hk=>hk) trivial (by have:=HK21.1;rw [w64 (by omega) (by omega)];omega) (by have:=HK21.1;rw [w64 (by omega) (by omega)];omega) (Below.refl _ _) (Nat.le_refl _) ?_;intro v2 w2 ho hb hg_ hnew_;have E2:=En.rowB E S.1 (fun _ h=>h.2.2) ho hb;clear E hg_ hnew_ ho hb hfz0 hfz1 hfz2 hgz0 hgz1 hgz2;have E:=E2;clear E2;have hcv:=own_string (P:=Try.prog) Try.underlying41 Try.underlying5 Try.underlying9 (Kd.own_of_R E.1.fact.1);obtain ⟨hfz0,hfz1,hfz2⟩:=c3_ (Aside0.mk E.1.fact.2.1);obtain ⟨hgz0,hgz1,hgz2⟩:=f3_ (Aside0.mk E.1.fact.2.1)))
    ·go_meet
     case rel=>exact ⟨k29,s,t,⟨.inr (.inl HF.1)⟩,f_set E NGf GEf GWf Nrf rfl⟩
    ·go_meet
     case rel=>exact ⟨k,rd Lf k35,t,⟨.inr (Lf_ok HK35.1)⟩,f_set ⟨E.1.snd⟩ NGf GEf GWf Nrf rfl⟩
    ·go_meet
     case rel=>exact ⟨k,s,(⟨#[]⟩:ByteArray),⟨.inr (.inl HF.1)⟩,f_set E NGf GEf GWf Nrf rfl⟩
    ·go_meet
     case rel=>exact ⟨k,s,_,⟨.inr (.inl HF.1)⟩,f_set ⟨E.1.snd⟩ NGf GEf GWf Nrf rfl⟩
    ·go_meet
     case rel=>exact ⟨k,s,t,⟨.inr (.inl HF.1)⟩,E⟩
   case rest =>
    clear E S HF
    obtain ⟨k,s,t,HF,E⟩:=hcut
    obtain ⟨hfz0,hfz1,hfz2⟩:=c3_ (Aside0.mk E.1.fact.1);obtain ⟨hgz0,hgz1,hgz2⟩:=f3_ (Aside0.mk E.1.fact.1)
    obtain ⟨hrz0,hrz1,hrz2⟩:=c3_ (Aside0.mk E.1.fact.2.1);obtain ⟨hsz0,hsz1,hsz2⟩:=f3_ (Aside0.mk E.1.fact.2.1)
    go_wp2_with (fail)
    have E2:=En.set3 (W:=wc) (g':=gr) (u0:=.int .i64 k) (u1:=.int .i64 s) (u2:=.string t) (P:=fun W=>KeepBut w W g none) ⟨E.1.with ⟨E.1.fact.2.1,E.1.fact.2.2⟩⟩ Stb.keep (Sto.keep GWr.1) NGr GEr
    refine bodyPost_ret (results_cell_row rfl _ _ gr 38 #[.int .i64 k,.int .i64 s,.string t] (0,0) _ rfl E2.1.fact.1 Try.underlying38 rfl (by kernel_rfl)) rfl ?_
    exact ⟨k,s,t,rfl,HF.1,E2.1.snd⟩
theorem some_en {w0 W:World} {g:Nat} {s0:List Int} {P:World → Prop} (h:Aside0 (En w0 W g s0 P)) (hs:Stb g P):Calls Try.prog 89 #[.pointer (some ⟨g,0,none⟩)] W fun e w'=>∃ (k s:Int) (t:ByteArray),e=.returned (.agg #[.int .i64 k,.int .i64 s,.string t])∧(k=1 ∨ s ≤ 9 ∨ 1000000000 ≤ s)∧Aside0 (En w0 w' g s0 P):=by
 obtain ⟨p,a,b,h1,h2⟩:=h.1.src
 refine (l13Some_ok g s0 p a b w0 W h1 h2 h.1.bel).mono ?_
 rintro e w' ⟨k,s,t,rfl,hk,E⟩
 exact ⟨k,s,t,rfl,hk,⟨E.with (hs _ _ h.1.fact E.fact)⟩⟩
theorem max_en (a0 a1:Int) (w:World):Calls Try.prog 90 #[.int .i64 a0,.int .i64 a1] w fun e w'=>∃ r,e=.returned (.int .i64 r)∧Below w.heap.size w w':=by
 obtain ⟨r,hr⟩:∃ r,spec_l01Max.f a0 a1=some r:=by unfold spec_l01Max.f;split <;> exact ⟨_,rfl⟩
 refine (spec_l01Max.calls a0 a1 r w hr).mono ?_
 rintro e w' ⟨rfl,hd⟩
 exact ⟨r,rfl,hd.below⟩
abbrev P2 (w:World) (g gr gs:Nat):World → Prop:=fun W=>W.heap[gs]?=some ze3∧W.heap[gr]?=some ze5∧KeepBut w W g none
theorem P2.stb {w:World} {g gr gs:Nat} (h:gr ≠ g) (h2:gs ≠ g):Stb g (P2 w g gr gs):=Stb.and (Stb.blk h2) (Stb.and (Stb.blk h) Stb.keep)
theorem P2.sto {w:World} {g gr gs g':Nat} {t:TypeId} (h:gr ≠ g') (h2:gs ≠ g') (h3:w.heap.size ≤ g'):Sto g' t (P2 w g gr gs):=Sto.and (Sto.blk h2) (Sto.and (Sto.blk h) (Sto.keep h3))
abbrev P9 (w:World) (g gr gs gl:Nat) (V:Value) (q:List ByteArray) (b d x y:Int):World → Prop:=fun W=>W.heap[gl]?=some (.cells #[.int .i64 b,V,.int .i64 d,.int .i64 x,.int .i64 y] 24 (0,0))∧Kd.Q Kd.string 9 W w.heap.size (fun k=>k ≠ g) V q∧P2 w g gr gs W
theorem P9.stb {w:World} {g gr gs gl:Nat} {V:Value} {q:List ByteArray} {b d x y:Int} (h:gr ≠ g) (h2:gs ≠ g) (h3:gl ≠ g):Stb g (P9 w g gr gs gl V q b d x y):=Stb.and (Stb.blk h3) (Stb.and Stb.row (P2.stb h h2))
theorem P9.sto {w:World} {g gr gs gl g':Nat} {V:Value} {q:List ByteArray} {b d x y:Int} {t:TypeId} (h0:gl ≠ g') (h:gr ≠ g') (h2:gs ≠ g') (h3:w.heap.size ≤ g') (h4:∀ q,q ∈ 9 :: Kd.string.E → q ≠ t):Sto g' t (P9 w g gr gs gl V q b d x y):=Sto.and (Sto.blk h0) (Sto.and (Sto.row h4) (P2.sto h h2 h3))
abbrev PH (w:World) (g gr gs gl gf:Nat) (V:Value) (q:List ByteArray) (b d x y k s:Int) (t:ByteArray):World → Prop:=fun W=>W.heap[gf]?=some (.cells #[.int .i64 k,.int .i64 s,.string t] 38 (0,0))∧P9 w g gr gs gl V q b d x y W
theorem PH.stb {w:World} {g gr gs gl gf:Nat} {V:Value} {q:List ByteArray} {b d x y k s:Int} {t:ByteArray} (h:gr ≠ g) (h2:gs ≠ g) (h3:gl ≠ g) (h4:gf ≠ g):Stb g (PH w g gr gs gl gf V q b d x y k s t):=Stb.and (Stb.blk h4) (P9.stb h h2 h3)
theorem h_set {w0 w W:World} {g gr gs gl gf i:Nat} {s0:List Int} {V:Value} {q:List ByteArray} {b d x y k s k2 s2:Int} {t t2:ByteArray} {u:Value} (E:Aside0 (En w0 W g s0 (PH w g gr gs gl gf V q b d x y k s t))) (NGf:Aside0 (gf ≠ g)) (GEf:Aside0 (w0.heap.size ≤ gf)) (GWf:Aside0 (w.heap.size ≤ gf)) (Nrf:Aside0 (gr ≠ gf)) (Nsf:Aside0 (gs ≠ gf)) (Nlf:Aside0 (gl ≠ gf))
  (he:#[.int .i64 k,.int .i64 s,.string t].setIfInBounds i u=#[.int .i64 k2,.int .i64 s2,.string t2]):Aside0 (En w0 (W.setCell ⟨gf,i,none⟩ u) g s0 (PH w g gr gs gl gf V q b d x y k2 s2 t2)) :=
 ⟨E.1.set NGf.1 GEf.1 ⟨blk_put E.1.fact.1 i u he,P9.sto (t:=38) Nlf.1 Nrf.1 Nsf.1 GWf.1 (by decide) W i u E.1.fact.2 ⟨_,E.1.fact.1⟩⟩⟩
abbrev SH (gl gf:Nat) (V:Value) (b d x y k s:Int) (t:ByteArray):World → Prop:=fun w'=>(w'.cell? ⟨gl,0,none⟩=some (.int .i64 b)∧w'.cell? ⟨gl,1,none⟩=some V∧w'.cell? ⟨gl,2,none⟩=some (.int .i64 d)∧w'.cell? ⟨gl,3,none⟩=some (.int .i64 x)∧w'.cell? ⟨gl,4,none⟩=some (.int .i64 y))∧w'.cell? ⟨gf,0,none⟩=some (.int .i64 k)∧w'.cell? ⟨gf,1,none⟩=some (.int .i64 s)∧w'.cell? ⟨gf,2,none⟩=some (.string t)
set_option maxHeartbeats 8000000 in
set_option maxRecDepth 100000 in
theorem DrawLinkHear_ok (A0:Option Addr) (c0:Nat) (l0:List Int) (w:World) (hr0:Kd.C (Kd.int .u8) w A0 l0.length l0) (hc0:l0.length ≤ c0) (hl:l0.length ≤ 1048576) :
  Calls Try.prog 43 #[.slice A0 l0.length c0] w fun e w'=>∃ (b d x y:Int) (A:Option Addr) (c:Nat) (q:List ByteArray) (k s:Int) (t:ByteArray),e=.returned (.tuple #[.agg #[.int .i64 b,.slice A q.length c,.int .i64 d,.int .i64 x,.int .i64 y],.agg #[.int .i64 k,.int .i64 s,.string t]])∧(q.length ≤ 12∧(lok b q d x y=true → q.length ≤ 11))∧(k=1 ∨ s ≤ 9 ∨ 1000000000 ≤ s)∧Kd.C Kd.string w' A q.length q∧q.length ≤ c∧Below w.heap.size w w':=by
 have hu24:=Try.underlying24;have hu38:=Try.underlying38
 have HB:=Aside0.mk (Below.refl w.heap.size w)
 have HR0:=Aside0.mk hr0;have HC0:=Aside0.mk hc0;have HL0:=Aside0.mk hl
 clear hr0 hc0 hl
 go_enter Try.func43,Try.ntmps43
 go_upto_region 3 with (first
  | ((with_reducible refine gate_dst (N:=2) rfl ?_);refine box_event ?hg (N:=2) ?hd (cs:=#[.int .i64 0,.slice none 0 0,.int .i64 0,.int .i64 0,.int .i64 0]) (t:=24) ?hr ?_;(case hd=>rfl);(case hg=>rfl);(case hr=>go_simp;try rfl);intro gr hg w4 hbox hb;have GEr:=gB HB hg;have BKr:=Aside0.mk hbox;have HB2:=tB HB hb;clear HB;have HB:=HB2;clear HB2 hb hbox hg)
  | ((with_reducible refine gate_dst (N:=3) rfl ?_);refine box_event ?hg (N:=3) ?hd (cs:=#[.int .i64 0,.int .i64 0,.string (⟨#[]⟩:ByteArray)]) (t:=38) ?hr ?_;(case hd=>rfl);(case hg=>rfl);(case hr=>go_simp;try rfl);intro gs hg w4 hbox hb;have GEs:=gB HB hg;have Nrs:=nL BKr hg;have BKr2:=bB BKr hb;clear BKr;have BKr:=BKr2;have BKs:=Aside0.mk hbox;have HB2:=tB HB hb;clear HB;have HB:=HB2;clear HB2 BKr2 hb hbox hg)
  | ((with_reducible refine gC 85 rfl ?_);refine gL 8 Try.func85 #[.slice A0 l0.length c0] ?_;refine (src_en (P0:=fun W=>W.heap[gs]?=some ze3∧W.heap[gr]?=some ze5) HB.1 HR0.1 HC0.1 HL0.1 ⟨BKs.1,BKr.1⟩ (fun W' h hb=>⟨blk_below h.1 hb,blk_below h.2 hb⟩)).mono ?_;rintro e w5 ⟨g,rfl,E3⟩;refine ⟨_,rfl,?_⟩;have NGr:=En.neB E3 E3.1.fact.1.2 (by decide);have NGs:=En.neB E3 E3.1.fact.1.1 (by decide);have E:Aside0 (En w w5 g l0 (P2 w g gr gs)):=⟨E3.1.with ⟨E3.1.fact.1.1,E3.1.fact.1.2,E3.1.fact.2⟩⟩;clear E3 HB BKr BKs)
  | ((with_reducible refine gC 86 rfl ?_);refine gL 10 Try.func86 #[.pointer (some ⟨g,0,none⟩)] ?_;refine (link_en E (P2.stb NGr.1 NGs.1)).mono ?_;rintro e w6 ⟨b,d,x,y,A,c,q,rfl,hq,E2⟩;refine ⟨_,rfl,?_⟩;have HQ:=Aside0.mk hq;clear E hq;have E:=E2;clear E2)
  | ((with_reducible refine gate_dst (N:=5) rfl ?_);refine box_event ?hg (N:=5) ?hd (cs:=#[.int .i64 0,.slice none 0 0,.int .i64 0,.int .i64 0,.int .i64 0]) (t:=24) ?hr ?_;(case hd=>rfl);(case hg=>rfl);(case hr=>go_simp;try rfl);intro gl hg w7 hbox hb;obtain ⟨E2,NGl,GEl⟩:=En.box E (Stb.and Stb.row (P2.stb NGr.1 NGs.1)) hg hbox hb;have Nrl:=En.old E (fun _ h=>h.2.2.1) hg;have Nsl:=En.old E (fun _ h=>h.2.1) hg;clear E;have E:=E2;clear E2 hb hbox hg;obtain ⟨hcz0,hcz1,hcz2,hcz3,hcz4⟩:=c5_ (Aside0.mk E.1.fact.1);obtain ⟨hfz0,hfz1,hfz2,hfz3,hfz4⟩:=f5_ (Aside0.mk E.1.fact.1)))
 (try simp only [Act.put,sA,sZ,sS])
 have E2:Aside0 (En w _ g l0 (P9 w g gr gs gl (.slice A q.length c) q b d x y)):=(En.set5 (W:=w7) (u0:=.int .i64 b) (u1:=.slice A q.length c) (u2:=.int .i64 d) (u3:=.int .i64 x) (u4:=.int .i64 y) E (Stb.and Stb.row (P2.stb NGr.1 NGs.1)) (Sto.and (Sto.row (by decide)) (P2.sto Nrl.1 Nsl.1 GEl.1)) NGl GEl)
 clear E hcz0 hcz1 hcz2 hcz3 hcz4 hfz0 hfz1 hfz2 hfz3 hfz4
 have E:=E2
 clear E2
 go_cut [6] (fun v6 wc=>∃ (gf:Nat) (k s:Int) (t:ByteArray),v6=.pointer (some ⟨gf,0,none⟩)∧Aside0 (k=1 ∨ s ≤ 9 ∨ 1000000000 ≤ s)∧Aside0 (gf ≠ g)∧Aside0 (w.heap.size ≤ gf)∧Aside0 (gr ≠ gf)∧Aside0 (gs ≠ gf)∧Aside0 (gl ≠ gf)∧Aside0 (En w wc g l0 (PH w g gr gs gl gf (.slice A q.length c) q b d x y k s t)))
 case first =>
  go_wp2_with (first
   | ((with_reducible refine gC 89 rfl ?_);refine gL 12 Try.func89 #[.pointer (some ⟨g,0,none⟩)] ?_;refine (some_en E (P9.stb NGr.1 NGs.1 NGl.1)).mono ?_;rintro e w8 ⟨k,s,t,rfl,hk,E2⟩;refine ⟨_,rfl,?_⟩;have HK:=Aside0.mk hk;clear E hk;have E:=E2;clear E2)
   | ((with_reducible refine gate_dst (N:=6) rfl ?_);refine box_event ?hg (N:=6) ?hd (cs:=#[.int .i64 0,.int .i64 0,.string (⟨#[]⟩:ByteArray)]) (t:=38) ?hr ?_;(case hd=>rfl);(case hg=>rfl);(case hr=>go_simp;try rfl);intro gf hg w9 hbox hb;obtain ⟨E2,NGf,GEf⟩:=En.box E (P9.stb NGr.1 NGs.1 NGl.1) hg hbox hb;have Nrf:=En.old E (fun _ h=>h.2.2.2.1) hg;have Nsf:=En.old E (fun _ h=>h.2.2.1) hg;have Nlf:=En.old E (fun _ h=>h.1) hg;clear E;have E:=E2;clear E2 hb hbox hg;obtain ⟨hcz0,hcz1,hcz2⟩:=c3_ (Aside0.mk E.1.fact.1);obtain ⟨hfz0,hfz1,hfz2⟩:=f3_ (Aside0.mk E.1.fact.1)))
  go_meet
  case rel=>exact ⟨gf,k,s,t,rfl,HK,NGf,GEf,Nrf,Nsf,Nlf,En.set3 E (P9.stb NGr.1 NGs.1 NGl.1) (P9.sto Nlf.1 Nrf.1 Nsf.1 GEf.1 (by decide)) NGf GEf⟩
 case rest =>
  clear E
  obtain ⟨gf,k,s,t,rfl,HK,NGf,GEf,Nrf,Nsf,Nlf,E⟩:=hcut
  have S:=Aside0.mk (PH.stb (w:=w) (V:=.slice A q.length c) (q:=q) (b:=b) (d:=d) (x:=x) (y:=y) (k:=k) (s:=s) (t:=t) NGr.1 NGs.1 NGl.1 NGf.1)
  go_step
  go_step
  go_cut [] (fun wc=>∃ (k s:Int) (t:ByteArray),Aside0 (k=1 ∨ s ≤ 9 ∨ 1000000000 ≤ s)∧Aside0 (En w wc g l0 (PH w g gr gs gl gf (.slice A q.length c) q b d x y k s t)))
  case first =>
   go_wp2_with (first
    | ((with_reducible refine gC 87 rfl ?_);refine gL 14 Try.func87 #[.pointer (some ⟨g,0,none⟩),.int .i64 3] ?_;refine (one_en E.1 S.1 (by decide) (by decide)).mono ?_;rintro e w10 ⟨k14,rfl,E3⟩;refine ⟨_,rfl,?_⟩;clear E;have E:=Aside0.mk E3;clear E3;obtain ⟨hcz0,hcz1,hcz2⟩:=c3_ (Aside0.mk E.1.fact.1);obtain ⟨hfz0,hfz1,hfz2⟩:=f3_ (Aside0.mk E.1.fact.1);obtain ⟨hlz0,hlz1,hlz2,hlz3,hlz4⟩:=c5_ (Aside0.mk E.1.fact.2.1);cases k14)
    | ((with_reducible refine gC 90 rfl ?_);refine gL 22 Try.func90 #[.int .i64 1,.int .i64 y] ?_;refine (max_en 1 y _).mono ?_;rintro e w11 ⟨r,rfl,hb⟩;refine ⟨_,rfl,?_⟩;have E2:=Aside0.mk (E.1.below S.1 hb);clear E hb hcz0 hcz1 hcz2 hfz0 hfz1 hfz2 hlz0 hlz1 hlz2 hlz3 hlz4;have E:=E2;clear E2;obtain ⟨hcz0,hcz1,hcz2⟩:=c3_ (Aside0.mk E.1.fact.1);obtain ⟨hfz0,hfz1,hfz2⟩:=f3_ (Aside0.mk E.1.fact.1);obtain ⟨hlz0,hlz1,hlz2,hlz3,hlz4⟩:=c5_ (Aside0.mk E.1.fact.2.1)))
   ·go_meet
    case rel=>exact ⟨k,s,t,HK,E⟩
   ·go_meet
    case rel=>exact ⟨k,_,t,⟨.inl (by rename_i hk1;exact eq_of_beq hk1)⟩,h_set E NGf GEf GEf Nrf Nsf Nlf rfl⟩
   ·go_meet
    case rel=>exact ⟨k,s,t,HK,E⟩
  case rest =>
   clear E S HK
   obtain ⟨k,s,t,HK,E⟩:=hcut
   (try go_wp2)
   have E2:=Aside0.mk (E.1.on (W':=wc.drew) (PH.stb (w:=w) (V:=.slice A q.length c) (q:=q) (b:=b) (d:=d) (x:=x) (y:=y) (k:=k) (s:=s) (t:=t) NGr.1 NGs.1 NGl.1 NGf.1))
   clear E
   have E:=E2
   clear E2
   refine start_ (n:=4) (S:=SH gl gf (.slice A q.length c) b d x y k s t) (ds:=[]) #[false,false,false,false] (by kernel_rfl) rfl rfl ⟨c5_ (Aside0.mk E.1.fact.2.1),c3_ (Aside0.mk E.1.fact.1)⟩ (fun hHeld=>?_)
   generalize wc.drew=w20 at E hHeld ⊢
   refine take_ (i:=0) (N:=some 24) (v:=?_) (a':=?_) #[true,false,false,false] rfl rfl (by kernel_rfl) (fun _ _ _ h=>h) (Or.inl ⟨by rfl,?_⟩) hHeld ?_ ?_;rotate_left
   ·rintro w' ⟨⟨s0,s1,s2,s3,s4⟩,s5,s6,s7⟩;go_simp;(with_reducible rfl)
   rotate_left
   ·simp only [Act.put,sA,sZ,sS,i64_w,i32_w];rfl
   refine take_ (i:=1) (N:=some 25) (v:=?_) (a':=?_) #[true,true,false,false] rfl rfl (by kernel_rfl) (fun _ _ _ h=>h) (Or.inl ⟨by rfl,?_⟩) hHeld ?_ ?_;rotate_left
   ·rintro w' ⟨⟨s0,s1,s2,s3,s4⟩,s5,s6,s7⟩;go_simp;(with_reducible rfl)
   rotate_left
   ·simp only [Act.put,sA,sZ,sS,i64_w,i32_w];rfl
   refine one_ (i:=2) (N:=none) #[true,true,true,false] rfl rfl (by kernel_rfl) (by decide) (fun K hK=>?_)
   obtain ⟨hcz0,hcz1,hcz2,hcz3,hcz4⟩:=c5_ (Aside0.mk E.1.fact.2.2.2.2.1);obtain ⟨hfz0,hfz1,hfz2,hfz3,hfz4⟩:=f5_ (Aside0.mk E.1.fact.2.2.2.2.1)
   refine skip_ (w1:=?_) (by rfl) rfl ?_ ?_;rotate_left
   ·go_simp;rfl
   have E2:=En.set5 (W:=w20) (g':=gr) (u0:=.int .i64 b) (u1:=.slice A q.length c) (u2:=.int .i64 d) (u3:=.int .i64 x) (u4:=.int .i64 y) (P:=fun W=>W.heap[gf]?=some (.cells #[.int .i64 k,.int .i64 s,.string t] 38 (0,0))∧W.heap[gl]?=some (.cells #[.int .i64 b,.slice A q.length c,.int .i64 d,.int .i64 x,.int .i64 y] 24 (0,0))∧Kd.Q Kd.string 9 W w.heap.size (fun k=>k ≠ g) (.slice A q.length c) q∧W.heap[gs]?=some ze3) ⟨E.1.with ⟨E.1.fact.2.2.2.2.1,E.1.fact.1,E.1.fact.2.1,E.1.fact.2.2.1,E.1.fact.2.2.2.1⟩⟩ (Stb.and (Stb.blk NGf.1) (Stb.and (Stb.blk NGl.1) (Stb.and Stb.row (Stb.blk NGs.1)))) (Sto.and (Sto.blk Nrf.1.symm) (Sto.and (Sto.blk Nrl.1.symm) (Sto.and (Sto.row (by decide)) (Sto.blk Nrs.1.symm)))) NGr GEr
   clear E hcz0 hcz1 hcz2 hcz3 hcz4 hfz0 hfz1 hfz2 hfz3 hfz4
   have E:=E2
   clear E2
   refine hK.out _ _ ⟨c5_ (Aside0.mk E.1.fact.2.2.1),c3_ (Aside0.mk E.1.fact.2.1)⟩ (fun hHeld=>?_);clear hK K
   refine one_ (i:=3) (N:=none) #[true,true,true,true] rfl rfl (by kernel_rfl) (by decide) (fun K hK=>?_)
   obtain ⟨hcz0,hcz1,hcz2⟩:=c3_ (Aside0.mk E.1.fact.2.2.2.2);obtain ⟨hfz0,hfz1,hfz2⟩:=f3_ (Aside0.mk E.1.fact.2.2.2.2)
   generalize hW_:(((((w20.setCell ⟨gr,0,none⟩ (.int .i64 b)).setCell ⟨gr,1,none⟩ (.slice A q.length c)).setCell ⟨gr,2,none⟩ (.int .i64 d)).setCell ⟨gr,3,none⟩ (.int .i64 x)).setCell ⟨gr,4,none⟩ (.int .i64 y))=w21 at E hcz0 hcz1 hcz2 hfz0 hfz1 hfz2 hHeld ⊢
   refine skip_ (w1:=?_) (by rfl) rfl ?_ ?_;rotate_left
   ·go_simp;rfl
   have E2:=En.set3 (W:=w21) (g':=gs) (u0:=.int .i64 k) (u1:=.int .i64 s) (u2:=.string t) (P:=fun W=>W.heap[gr]?=some (.cells #[.int .i64 b,.slice A q.length c,.int .i64 d,.int .i64 x,.int .i64 y] 24 (0,0))∧W.heap[gf]?=some (.cells #[.int .i64 k,.int .i64 s,.string t] 38 (0,0))∧W.heap[gl]?=some (.cells #[.int .i64 b,.slice A q.length c,.int .i64 d,.int .i64 x,.int .i64 y] 24 (0,0))∧Kd.Q Kd.string 9 W w.heap.size (fun k=>k ≠ g) (.slice A q.length c) q) ⟨E.1.with ⟨E.1.fact.2.2.2.2,E.1.fact.1,E.1.fact.2.1,E.1.fact.2.2.1,E.1.fact.2.2.2.1⟩⟩ (Stb.and (Stb.blk NGr.1) (Stb.and (Stb.blk NGf.1) (Stb.and (Stb.blk NGl.1) Stb.row))) (Sto.and (Sto.blk Nrs.1) (Sto.and (Sto.blk Nsf.1.symm) (Sto.and (Sto.blk Nsl.1.symm) (Sto.row (by decide))))) NGs GEs
   refine hK.out _ _ ⟨c5_ (Aside0.mk E2.1.fact.2.2.2.1),c3_ (Aside0.mk E2.1.fact.2.2.1)⟩ (fun hHeld=>?_);clear hK K
   refine done_ (by kernel_rfl) ?_
   (try go_wp2)
   refine bodyPost_ret (results_cc rfl _ _ gr gs 24 38 #[.int .i64 b,.slice A q.length c,.int .i64 d,.int .i64 x,.int .i64 y] #[.int .i64 k,.int .i64 s,.string t] (0,0) (0,0) _ _ rfl E2.1.fact.2.1 Try.underlying24 rfl (by kernel_rfl) rfl E2.1.fact.1 Try.underlying38 rfl (by kernel_rfl)) rfl ?_
   exact ⟨b,d,x,y,A,c,q,k,s,t,rfl,HQ.1,HK.1,(Kd.Q_reads' E2.1.fact.2.2.2.2).2.2,(Kd.Q_reads' E2.1.fact.2.2.2.2).2.1,E2.1.bel⟩
end Go.Proofs.Ytaaffhghpealjaa.A
namespace Go.Proofs.Ytaaffhghpealjaa.A
open Go.RowKit Go.Proofs.YtaaffhghpealjaaW.PrintWords Go.Proofs.YtaaffhghpealjaaW.PrintLast Go.Proofs.YtaaffhghpealjaaW.PrintMore
attribute [local go_sem] isSome_setCell max2_int min2_int max_two min_two max_three min_three max_four min_four
set_option linter.unusedVariables false
set_option linter.unusedSimpArgs false
set_option maxHeartbeats 1000000 in
set_option maxRecDepth 100000 in
theorem spoil_en {w0 W:World} {g:Nat} {s0:List Int} {P:World → Prop} (h:Aside0 (En w0 W g s0 P)) (hs:Stb g P) (t:ByteArray) (ht:t.size ≤ 20000):Calls Try.prog 91 #[.pointer (some ⟨g,0,none⟩),.string t] W fun e w'=>∃ r,e=.returned (.string r)∧Aside0 (En w0 w' g s0 P):=by
 have E:=h
 have HT:=Aside0.mk ht
 have HS:=Aside0.mk hs
 have hb1:1 ≤ wrap64 ((t.size:Int) + 1)∧wrap64 ((t.size:Int) + 1) ≤ 1000000:=by rw [w64 (by omega) (by omega)];omega
 have HB1:=Aside0.mk hb1
 clear h hs ht hb1
 go_enter Try.func91,Try.ntmps91
 go_upto_region 3 with (first
  | (go_at_call 88;(with_reducible refine (n_en E.1 HS.1 HB1.1.1 HB1.1.2).mono ?_);rintro e w5 ⟨k11,rfl,hk11,E3⟩;have HK11:=Aside0.mk hk11;clear E hk11;have E:=Aside0.mk E3;clear E3)
  | (go_at_call 88;refine (n_en E.1 HS.1 (m:=17) (by decide) (by decide)).mono ?_;rintro e w6 ⟨k13,rfl,hk13,E3⟩;clear E;have E:=Aside0.mk E3;clear E3;have hx7:=bt_at (⟨#[32,10,48,97,45,110,44,58,93,255,40,120,126,49,128,225,59]⟩:ByteArray) k13;have p7:=eq_true hk13.1;have q7:(k13 < 17)=True:=eq_true hk13.2;clear hk13)
  | ((with_reducible refine gate_dst (N:=15) rfl ?_);refine Kd.R_lit (Kd.int .u8) _ 5 ?hg (N:=15) ?hd (xs:=([bt (⟨#[32,10,48,97,45,110,44,58,93,255,40,120,126,49,128,225,59]⟩:ByteArray) k13]:List Int)) (inner:=[.int .u8 (bt (⟨#[32,10,48,97,45,110,44,58,93,255,40,120,126,49,128,225,59]⟩:ByteArray) k13)]) (ok:=fun _=>True) (okp:=fun _=>True) ?hr ?hp (fun _ hk=>hk) trivial (Below.refl _ _) (Nat.le_refl _) (by simp) ?_;(case hd=>rfl);(case hg=>rfl);(case hr=>go_simp;try rfl);(case hp=>exact (Reps.one (show Kd.M (Kd.int .u8) _ _ _ (bt (⟨#[32,10,48,97,45,110,44,58,93,255,40,120,126,49,128,225,59]⟩:ByteArray) k13) [.int .u8 (bt (⟨#[32,10,48,97,45,110,44,58,93,255,40,120,126,49,128,225,59]⟩:ByteArray) k13)] from rfl) (Reps.none _ _)));intro v2 w7 ho hb hg_ hnew_;have E2:=Aside0.mk ((E.1.on HS.1).below HS.1 hb);have hcv:=own_string (P:=Try.prog) Try.underlying41 Try.underlying5 Try.underlying9 (Kd.own_of_R ho);clear E hg_ hnew_ ho hb;have E:=E2;clear E2))
 clear hcv hx7 p7 q7
 have hc:(strOfNums [bt (⟨#[32,10,48,97,45,110,44,58,93,255,40,120,126,49,128,225,59]⟩:ByteArray) k13]).size=1:=strOfNums_one _
 generalize strOfNums [bt (⟨#[32,10,48,97,45,110,44,58,93,255,40,120,126,49,128,225,59]⟩:ByteArray) k13]=cc at hc ⊢
 have hk:0 ≤ k11∧k11 ≤ (t.size:Int):=by have h1:=HK11.1;have h2:=HT.1;rw [w64 (by omega) (by omega)] at h1;omega
 have p0:=eq_true hk.1
 have p1:=eq_true hk.2
 have hT2:=HT.1
 have y0:(9223372036854775807 < k11.toNat + cc.size)=False:=eq_false (by omega)
 have x0:(k11.toNat + cc.size ≤ 9223372036854775807)=True:=eq_true (by omega)
 have y1:(9223372036854775807 < k11.toNat + cc.size + (t.size - k11.toNat))=False:=eq_false (by omega)
 have x1:(k11.toNat + cc.size + (t.size - k11.toNat) ≤ 9223372036854775807)=True:=eq_true (by omega)
 have y2:(9223372036854775807 < k11.toNat + (t.size - (k11 + 1).toNat))=False:=eq_false (by omega)
 have x2:(k11.toNat + (t.size - (k11 + 1).toNat) ≤ 9223372036854775807)=True:=eq_true (by omega)
 have y3:(9223372036854775807 < k11.toNat + cc.size + (t.size - (k11 + 1).toNat))=False:=eq_false (by omega)
 have x3:(k11.toNat + cc.size + (t.size - (k11 + 1).toNat) ≤ 9223372036854775807)=True:=eq_true (by omega)
 have y4:(9223372036854775807 < k11.toNat + (t.size - (k11.toNat + 1)))=False:=eq_false (by omega)
 have x4:(k11.toNat + (t.size - (k11.toNat + 1)) ≤ 9223372036854775807)=True:=eq_true (by omega)
 have y5:(9223372036854775807 < k11.toNat + cc.size + (t.size - (k11.toNat + 1)))=False:=eq_false (by omega)
 have x5:(k11.toNat + cc.size + (t.size - (k11.toNat + 1)) ≤ 9223372036854775807)=True:=eq_true (by omega)
 clear hT2
 have HC:=Aside0.mk hc;have HKK:=Aside0.mk hk;clear hc hk
 (try simp only [Act.put,sA,sZ,sS])
 go_cut [24] (fun v24 wc=>∃ vb:Bool,v24=.bool vb∧Aside0 (vb=false → k11 < (t.size:Int))∧Aside0 (En w0 wc g s0 P))
 case first =>
  clear p0 p1 y0 y1 y2 y3 y4 y5 x0 x1 x2 x3 x4 x5
  by_cases c14:k11=(t.size:Int)
  ·have c14b:(k11 == (t.size:Int))=true:=beq_iff_eq.mpr c14
   clear c14
   go_wp2
   go_meet
   case rel=>exact ⟨true,rfl,⟨fun h=>absurd h (by decide)⟩,E⟩
  ·have c14b:(k11 == (t.size:Int))=false:=beq_eq_false_iff_ne.mpr c14
   have HN:=Aside0.mk c14
   clear c14
   go_wp2_with (first|(go_at_call 87;refine (one_en E.1 HS.1 (m:=3) (by decide) (by decide)).mono ?_;rintro e w8 ⟨k23,rfl,E3⟩;clear E;have E:=Aside0.mk E3;clear E3))
   go_meet
   case rel=>exact ⟨k23,rfl,⟨fun _=>by have:=HKK.1;have:=HN.1;omega⟩,E⟩
 case rest =>
  clear E
  obtain ⟨vb,rfl,HV,E⟩:=hcut
  cases vb
  ·have hv:=HV.1 rfl
   clear HV
   have hw:wrap64 (k11 + 1)=k11 + 1:=by have:=HKK.1;have:=HT.1;exact w64 (by omega) (by omega)
   have hw':IntKind.i64.wrap (k11 + 1)=k11 + 1:=(i64_w _).trans hw
   have p2:(0 ≤ k11 + 1)=True:=eq_true (by have:=HKK.1;omega)
   have p3:(k11 + 1 ≤ (t.size:Int))=True:=eq_true (by omega)
   clear hv
   go_wp2_with (first|(go_at_call 87;refine (one_en E.1 HS.1 (m:=2) (by decide) (by decide)).mono ?_;rintro e w8 ⟨k35,rfl,E3⟩;clear E;have E:=Aside0.mk E3;clear E3;cases k35))
   all_goals (repeat (go_quiet (fail);try go_wp2))
   all_goals go_ret
   all_goals exact ⟨_,rfl,⟨E.1.on HS.1⟩⟩
  ·clear HV
   go_wp2
   repeat (go_quiet (fail);try go_wp2)
   go_ret
   exact ⟨_,rfl,⟨E.1.on HS.1⟩⟩
def bytesV (a s:Int) (t:ByteArray):ByteArray:=if fok a s t then sealV (frP a s t) else ⟨#[]⟩
theorem ev_uniq {α:Type} {g:Nat → Option α} {a b:α} (h:Ev g a) (k:Ev g b):a=b:=by
 obtain ⟨K,hK⟩:=h
 obtain ⟨L,hL⟩:=k
 have h1:=hK (max K L) (Nat.le_max_left _ _)
 have h2:=hL (max K L) (Nat.le_max_right _ _)
 rw [h1] at h2
 exact Option.some.inj h2
theorem bytes_spec (a s:Int) (t:ByteArray):Ev (fun k=>spec_FrameBytes.f k a s t) (bytesV a s t):=by
 unfold bytesV
 cases hf:fok a s t with
 | false=>exact evNow fun k=>by unfold spec_FrameBytes.f;rw [frame_spec,hf];rfl
 | true=>exact frame_bytes_spec hf
theorem bytes_impl (a s:Int) (t:ByteArray):Ev (fun k=>impl_FrameBytes.f k a s t) (bytesV a s t):=by
 obtain ⟨v,h1,h2⟩:=bytes_both a s t
 rw [ev_uniq (bytes_spec a s t) h2]
 exact h1
theorem sealV_size (t:ByteArray):(sealV t).size ≤ 20000:=by
 unfold sealV
 split
 ·exact Nat.zero_le _
 ·rw [ByteArray.size_append,four_size];omega
theorem bytesV_size (a s:Int) (t:ByteArray):(bytesV a s t).size ≤ 20000:=by
 unfold bytesV
 split
 ·exact sealV_size _
 ·exact Nat.zero_le _
theorem fbS (a s:Int) (t:ByteArray) (w:World):Calls Try.prog 23 #[.agg #[.int .i64 a,.int .i64 s,.string t]] w fun e w'=>e=.returned (.string (bytesV a s t))∧Below w.heap.size w w':=by
 obtain ⟨K,hK⟩:=bytes_spec a s t
 exact spec_FrameBytes.calls K a s t _ w (hK K (Nat.le_refl _))
theorem fbI (a s:Int) (t:ByteArray) (w:World):Calls Try.prog 25 #[.agg #[.int .i64 a,.int .i64 s,.string t]] w fun e w'=>e=.returned (.string (bytesV a s t))∧Below w.heap.size w w':=by
 obtain ⟨K,hK⟩:=bytes_impl a s t
 exact impl_FrameBytes.calls K a s t _ w (hK K (Nat.le_refl _))
theorem pnC (n:Int) (h0:0 ≤ n) (h1:n ≤ 1000000000000) (w:World):Calls Try.prog 93 #[.int .i64 n] w fun e w'=>∃ v,e=.returned (.string v)∧v.size ≤ 9∧Below w.heap.size w w':=by
 obtain ⟨v,hv,_,K,hK⟩:=num_both n h0 h1
 refine (spec_PutNum.calls K n v w (hK K (Nat.le_refl _))).mono ?_
 rintro e w' ⟨rfl,hb⟩
 exact ⟨v,rfl,hv,hb⟩
theorem ptC (t:ByteArray) (h:t.size ≤ 20000) (w:World):Calls Try.prog 94 #[.string t] w fun e w'=>∃ v,e=.returned (.string v)∧v.size ≤ 20009∧Below w.heap.size w w':=by
 obtain ⟨v,hv,_,K,hK⟩:=text_both t h
 refine (spec_PutText.calls K t v w (hK K (Nat.le_refl _))).mono ?_
 rintro e w' ⟨rfl,hb⟩
 exact ⟨v,rfl,hv,hb⟩
theorem slC (t:ByteArray) (w:World):Calls Try.prog 92 #[.string t] w fun e w'=>∃ v,e=.returned (.string v)∧Below w.heap.size w w':=by
 obtain ⟨K,hK⟩:=seal_spec t
 refine (spec_Seal.calls K t _ w (hK K (Nat.le_refl _))).mono ?_
 rintro e w' ⟨rfl,hb⟩
 exact ⟨_,rfl,hb⟩
abbrev Ly:List ByteArray:=[(⟨#[]⟩:ByteArray),(⟨#[121]⟩:ByteArray)]
theorem Ly_ok {v:ByteArray} (h:v ∈ Ly):v.size ≤ 1:=by
 simp only [List.mem_cons,List.not_mem_nil,or_false] at h
 rcases h with rfl|rfl <;> decide
set_option maxHeartbeats 2000000 in
set_option maxRecDepth 100000 in
theorem DrawFrameRead_ok (A0:Option Addr) (c0:Nat) (l0:List Int) (w:World) (hr0:Kd.C (Kd.int .u8) w A0 l0.length l0) (hc0:l0.length ≤ c0) (hl:l0.length ≤ 1048576) :
  Calls Try.prog 47 #[.slice A0 l0.length c0] w fun e w'=>∃ u,e=.returned (.string u)∧Below w.heap.size w w':=by
 have HB:=Aside0.mk (Below.refl w.heap.size w)
 have HR0:=Aside0.mk hr0;have HC0:=Aside0.mk hc0;have HL0:=Aside0.mk hl
 clear hr0 hc0 hl
 go_enter Try.func47,Try.ntmps47
 go_upto_region 3 with (first
  | ((with_reducible refine gC 85 rfl ?_);refine gL 6 Try.func85 #[.slice A0 l0.length c0] ?_;refine (src_en (P0:=fun _=>True) HB.1 HR0.1 HC0.1 HL0.1 trivial (fun _ _ _=>trivial)).mono ?_;rintro e w5 ⟨g,rfl,E⟩;refine ⟨_,rfl,?_⟩;have S1:=Aside0.mk (Stb.and (Stb.pure (g:=g) (c:=True)) (Stb.keep (w:=w))))
  | ((with_reducible refine gC 89 rfl ?_);refine gL 8 Try.func89 #[.pointer (some ⟨g,0,none⟩)] ?_;refine (some_en E S1.1).mono ?_;rintro e w6 ⟨k,s,t,rfl,hk,E2⟩;refine ⟨_,rfl,?_⟩;clear E hk;have E:=E2;clear E2)
  | ((with_reducible refine gC 23 rfl ?_);refine gL 9 Try.func23 #[.agg #[.int .i64 k,.int .i64 s,.string t]] ?_;(with_reducible refine (fbS k s t _).mono ?_);rintro e w7 ⟨rfl,hb⟩;refine ⟨_,rfl,?_⟩;have E2:=Aside0.mk ((E.1.on S1.1).below S1.1 hb);clear E hb;have E:=E2;clear E2))
 (try simp only [Act.put,sA,sZ,sS])
 have HT:=Aside0.mk (bytesV_size k s t)
 generalize bytesV k s t=b at HT ⊢
 go_upto_block 0 with (first
  | ((with_reducible refine gC 88 rfl ?_);refine gL 11 Try.func88 #[.pointer (some ⟨g,0,none⟩),.int .i64 4] ?_;refine (n_en E.1 S1.1 (by decide) (by decide)).mono ?_;rintro e w8 ⟨k11,rfl,hk11,E3⟩;refine ⟨_,rfl,?_⟩;clear hk11;clear E;have E:=Aside0.mk E3;clear E3))
 (try simp only [Act.put,sA,sZ,sS])
 go_cut [4] (fun v4 wc=>∃ u,v4=.string u∧Aside0 (En w wc g l0 (fun W=>True∧KeepBut w W g none)))
 case first =>
  by_cases d0:k11=0
  ·have d0b:(k11 == 0)=true:=beq_iff_eq.mpr d0
   clear d0
   go_wp2_with (first
    | ((with_reducible refine gC 91 rfl ?_);refine gL 16 Try.func91 #[.pointer (some ⟨g,0,none⟩),.string b] ?_;refine (spoil_en E S1.1 b HT.1).mono ?_;rintro e w9 ⟨r,rfl,E3⟩;refine ⟨_,rfl,?_⟩;clear E;have E:=E3;clear E3))
   go_meet
   case rel=>exact ⟨r,rfl,E⟩
  ·have d0b:(k11 == 0)=false:=beq_eq_false_iff_ne.mpr d0
   by_cases d1:k11=1
   ·have d1b:(k11 == 1)=true:=beq_iff_eq.mpr d1
    clear d0 d1
    go_wp2_with (first
     | ((with_reducible refine gC 93 rfl ?_);refine gL 19 Try.func93 #[.int .i64 1] ?_;refine (pnC 1 (by decide) (by decide) _).mono ?_;rintro e w9 ⟨v19,rfl,h19,hb⟩;refine ⟨_,rfl,?_⟩;have H19:=Aside0.mk h19;clear h19;have E2:=Aside0.mk ((E.1.on S1.1).below S1.1 hb);clear E hb;have E:=E2;clear E2)
     | ((with_reducible refine gC 88 rfl ?_);refine gL 21 Try.func88 #[.pointer (some ⟨g,0,none⟩),.int .i64 3] ?_;refine (n_en E.1 S1.1 (by decide) (by decide)).mono ?_;rintro e w10 ⟨k21,rfl,hk21,E3⟩;refine ⟨_,rfl,?_⟩;have HK21:=Aside0.mk hk21;clear hk21;clear E;have E:=Aside0.mk E3;clear E3)
     | ((with_reducible refine gC 93 rfl ?_);refine gL 22 Try.func93 #[.int .i64 k21] ?_;refine (pnC k21 HK21.1.1 (by have:=HK21.1;omega) _).mono ?_;rintro e w11 ⟨v22,rfl,h22,hb⟩;refine ⟨_,rfl,?_⟩;have h19:=H19.1;have y0:(9223372036854775807 < v19.size + v22.size)=False:=eq_false (by omega);have x0:(v19.size + v22.size ≤ 9223372036854775807)=True:=eq_true (by omega);have H22:=Aside0.mk h22;clear h19 h22;have E2:=Aside0.mk ((E.1.on S1.1).below S1.1 hb);clear E hb;have E:=E2;clear E2)
     | ((with_reducible refine gC 94 rfl ?_);refine gL 24 Try.func94 #[.string (⟨#[120]⟩:ByteArray)] ?_;refine (ptC (⟨#[120]⟩:ByteArray) (by decide) _).mono ?_;rintro e w12 ⟨v24,rfl,h24,hb⟩;refine ⟨_,rfl,?_⟩;have h19:=H19.1;have h22:=H22.1;have y1:(9223372036854775807 < v19.size + v22.size + v24.size)=False:=eq_false (by omega);have x1:(v19.size + v22.size + v24.size ≤ 9223372036854775807)=True:=eq_true (by omega);have H24:=Aside0.mk h24;clear h19 h22 h24;have E2:=Aside0.mk ((E.1.on S1.1).below S1.1 hb);clear E hb;have E:=E2;clear E2)
     | ((with_reducible refine gate_dst (N:=27) rfl ?_);refine Kd.R_lit Kd.string _ 9 ?hg (N:=27) ?hd (xs:=Ly) (inner:=[.string (⟨#[]⟩:ByteArray),.string (⟨#[121]⟩:ByteArray)]) (ok:=fun _=>True) (okp:=fun _=>True) ?hr ?hp (fun _ hk=>hk) trivial (Below.refl _ _) (Nat.le_refl _) (by simp) ?_;(case hd=>rfl);(case hg=>rfl);(case hr=>go_simp;try rfl);(case hp=>exact (Reps.one (show Kd.M Kd.string _ _ _ (⟨#[]⟩:ByteArray) [.string (⟨#[]⟩:ByteArray)] from rfl) (Reps.one (show Kd.M Kd.string _ _ _ (⟨#[121]⟩:ByteArray) [.string (⟨#[121]⟩:ByteArray)] from rfl) (Reps.none _ _))));intro v2 w13 ho hb hg_ hnew_;have E2:=En.rowR (q:=Ly) E S1.1 (fun _ h=>h.2) ho hb;obtain ⟨A2,c2,ev⟩:=Kd.R_slice (xs:=Ly) ho;subst ev;clear E hg_ hnew_ ho hb;have E:=E2;clear E2)
     | ((with_reducible refine gC 95 rfl ?_);refine gL 28 Try.func95 #[.pointer (some ⟨g,0,none⟩),.slice A2 Ly.length c2] ?_;refine (pick_mem E.1 (Stb.and Stb.row S1.1) E.1.fact.1 (by decide) (by decide)).mono ?_;rintro e w14 ⟨v28,rfl,hm,E3⟩;refine ⟨_,rfl,?_⟩;have h28:=Ly_ok hm;have h19:=H19.1;have h22:=H22.1;have h24:=H24.1;have y2:(9223372036854775807 < v19.size + v22.size + v24.size + v28.size)=False:=eq_false (by omega);have x2:(v19.size + v22.size + v24.size + v28.size ≤ 9223372036854775807)=True:=eq_true (by omega);clear h19 h22 h24 h28 hm;clear E;have E:=Aside0.mk E3.snd;clear E3)
     | ((with_reducible refine gC 92 rfl ?_);refine gL 30 Try.func92 #[.string (v19 ++ v22 ++ v24 ++ v28)] ?_;refine (slC _ _).mono ?_;rintro e w15 ⟨v30,rfl,hb⟩;refine ⟨_,rfl,?_⟩;have E2:=Aside0.mk ((E.1.on S1.1).below S1.1 hb);clear E hb;have E:=E2;clear E2))
    go_meet
    case rel=>exact ⟨v30,rfl,E⟩
   ·have d1b:(k11 == 1)=false:=beq_eq_false_iff_ne.mpr d1
    clear d0 d1
    go_wp2_with (fail)
    go_meet
    case rel=>exact ⟨b,rfl,E⟩
 case rest =>
  clear E
  obtain ⟨u,rfl,E⟩:=hcut
  go_wp2
  go_ret
  exact ⟨u,rfl,E.1.bel⟩
end Go.Proofs.Ytaaffhghpealjaa.A
namespace Go.Proofs.Ytaaffhghpealjaa.A
open Go.RowKit Go.Proofs.YtaaffhghpealjaaW.PrintWords Go.Proofs.YtaaffhghpealjaaW.PrintLast Go.Proofs.YtaaffhghpealjaaW.PrintMore
theorem xor_cancel {a b c:Nat} (h:a ^^^ c=b ^^^ c):a=b:=by
 have h1:=congrArg (· ^^^ c) h
 simpa [Nat.xor_assoc] using h1
theorem cstep_inj {n m:Nat} (hn:n < 4294967296) (hm:m < 4294967296) (h:cstep n=cstep m):n=m:=by
 unfold cstep at h
 have one:∀ {a b:Nat},a < 4294967296 → b < 4294967296 → a / 2 ^^^ 3988292384=b / 2 → False:=by
  intro a b ha hb e
  have h1:a / 2 ^^^ (b / 2)=3988292384:=by rw [← e,← Nat.xor_assoc,Nat.xor_self,Nat.zero_xor]
  have h2:a / 2 ^^^ (b / 2) < 2 ^ 31:=Nat.xor_lt_two_pow (by omega) (by omega)
  omega
 by_cases h1:n % 2=1
 ·rw [if_pos h1] at h
  by_cases h2:m % 2=1
  ·rw [if_pos h2] at h
   have:=xor_cancel h
   omega
  ·rw [if_neg h2] at h
   exact (one hn hm h).elim
 ·rw [if_neg h1] at h
  by_cases h2:m % 2=1
  ·rw [if_pos h2] at h
   exact (one hm hn h.symm).elim
  ·rw [if_neg h2] at h
   omega
theorem csteps_inj (d:Nat):∀ {n m:Nat},n < 4294967296 → m < 4294967296 → csteps d n=csteps d m → n=m:=by
 induction d with
 | zero=>intro n m _ _ h;simpa [csteps] using h
 | succ d ih =>
  intro n m hn hm h
  simp only [csteps] at h
  exact cstep_inj hn hm (ih (cstep_lt hn) (cstep_lt hm) h)
theorem crc_ne (s t:ByteArray) (d:Nat):∀ (i r q:Nat),r < 4294967296 → q < 4294967296 → r ≠ q → (∀ j,i ≤ j → j < i + d → btN s j=btN t j) → crcN s d i r ≠ crcN t d i q:=by
 induction d with
 | zero=>intro i r q _ _ h _;simpa [crcN] using h
 | succ d ih =>
  intro i r q hr hq h hb
  simp only [crcN]
  have b1:=btN_lt s i
  have b2:=btN_lt t i
  refine ih (i + 1) _ _ (csteps_lt 8 (x32lt hr (by omega))) (csteps_lt 8 (x32lt hq (by omega))) (fun e=>h ?_) (fun j h1 h2=>hb j (by omega) (by omega))
  have e2:=csteps_inj 8 (x32lt hr (by omega)) (x32lt hq (by omega)) e
  rw [hb i (Nat.le_refl _) (by omega)] at e2
  exact xor_cancel e2
theorem crc_one (s t:ByteArray) (d:Nat):∀ (i r k:Nat),r < 4294967296 → i ≤ k → k < i + d → btN s k ≠ btN t k → (∀ j,i ≤ j → j < i + d → j ≠ k → btN s j=btN t j) → crcN s d i r ≠ crcN t d i r:=by
 induction d with
 | zero=>intro i r k _ h1 h2;omega
 | succ d ih =>
  intro i r k hr h1 h2 hk hb
  simp only [crcN]
  have b1:=btN_lt s i
  have b2:=btN_lt t i
  by_cases hik:i=k
  ·subst hik
   refine crc_ne s t d (i + 1) _ _ (csteps_lt 8 (x32lt hr (by omega))) (csteps_lt 8 (x32lt hr (by omega))) (fun e=>hk ?_) (fun j h3 h4=>hb j (by omega) (by omega) (by omega))
   have e2:=csteps_inj 8 (x32lt hr (by omega)) (x32lt hr (by omega)) e
   rw [Nat.xor_comm,Nat.xor_comm r] at e2
   exact xor_cancel e2
  ·rw [hb i (Nat.le_refl _) (by omega) hik]
   exact ih (i + 1) _ k (csteps_lt 8 (x32lt hr (by omega))) (by omega) (by omega) hk (fun j h3 h4 h5=>hb j (by omega) (by omega) h5)
theorem crcV_ne {s t:ByteArray} {k:Nat} (hs:s.size=t.size) (hk:k < s.size) (h1:btN s k ≠ btN t k) (h2:∀ j,j ≠ k → btN s j=btN t j):crcV s ≠ crcV t:=by
 intro e
 unfold crcV at e
 rw [← hs] at e
 have e2:crcN s s.size 0 4294967295=crcN t s.size 0 4294967295:=xor_cancel (Int.ofNat.inj e)
 exact crc_one s t s.size 0 4294967295 k (by decide) (Nat.zero_le _) (by omega) h1 (fun j _ _ h=>h2 j h) e2
theorem crcV_range (t:ByteArray):0 ≤ crcV t∧crcV t < 4294967296:=by
 unfold crcV
 have h:=x32lt (crcN_lt t t.size 0 4294967295 (by decide)) (show 4294967295 < 4294967296 by decide)
 omega
end Go.Proofs.Ytaaffhghpealjaa.A
namespace Go.Proofs.Ytaaffhghpealjaa.A
set_option linter.unusedVariables false
open Go.RowKit Go.Proofs.YtaaffhghpealjaaW.PrintWords Go.Proofs.YtaaffhghpealjaaW.PrintLast Go.Proofs.YtaaffhghpealjaaW.PrintMore
theorem byl_four {c:Int} (h:0 ≤ c∧c < 4294967296):byl (four c)=[c % 256,(c / 256) % 256,(c / 65536) % 256,(c / 16777216) % 256]:=by
 unfold four
 refine byl_nums _ ?_
 intro x hx
 simp only [List.mem_cons,List.not_mem_nil,or_false] at hx
 rcases hx with rfl|rfl|rfl|rfl <;> omega
theorem four_inj {c d:Int} (h:0 ≤ c∧c < 4294967296) (k:0 ≤ d∧d < 4294967296) (e:byl (four c)=byl (four d)):c=d:=by
 rw [byl_four h,byl_four k] at e
 simp only [List.cons.injEq,and_true] at e
 omega
theorem btN_byl (s:ByteArray) (i:Nat) (h:i < s.size):(byl s)[i]?=some ((btN s i:Nat):Int):=by
 rw [List.getElem?_eq_getElem (by rw [byl_length];exact h),byl_get s i h,btN_cast]
theorem btN_out (s:ByteArray) (i:Nat) (h:¬ i < s.size):btN s i=0:=by
 unfold btN bt
 simp [h]
theorem seal_one {x y:ByteArray} {k:Nat} {v:Int} (hx:¬ (x.size:Int) > 19996) (hy:¬ (y.size:Int) > 19996) (e:byl (sealV y)=(byl (sealV x)).set k v) (hk:k < (sealV x).size) (hv:(byl (sealV x))[k]? ≠ some v):False:=by
 unfold sealV at e hk hv
 rw [if_neg hx] at e hk hv
 rw [if_neg hy,byl_append,byl_append] at e
 rw [byl_append] at hv
 rw [ByteArray.size_append,four_size] at hk
 have hl:=congrArg List.length e
 rw [List.length_set,List.length_append,List.length_append,byl_length,byl_length,byl_length,byl_length,four_size,four_size] at hl
 have hxy:y.size=x.size:=by omega
 by_cases hlt:k < x.size
 ·rw [List.set_append_left _ _ (by rw [byl_length];exact hlt)] at e
  obtain ⟨e1,e2⟩:=List.append_inj e (by rw [List.length_set,byl_length,byl_length,hxy])
  rw [List.getElem?_append_left (by rw [byl_length];exact hlt)] at hv
  have e3:=four_inj (crcV_range _) (crcV_range _) e2
  refine crcV_ne (s:=y) (t:=x) (k:=k) hxy (by omega) (fun h=>hv ?_) (fun j hj=>?_) e3
  ·rw [btN_byl x k hlt,← h]
   have h1:=btN_byl y k (by omega)
   rw [e1,List.getElem?_set_self (by rw [byl_length];exact hlt)] at h1
   exact h1.symm
  ·by_cases hjs:j < x.size
   ·have h1:=btN_byl y j (by omega)
    have h2:=btN_byl x j hjs
    rw [e1,List.getElem?_set_ne (fun e=>hj e.symm),h2] at h1
    have:=Option.some.inj h1
    omega
   ·rw [btN_out x j hjs,btN_out y j (by omega)]
 ·rw [List.set_append_right _ _ (by rw [byl_length];omega)] at e
  obtain ⟨e1,e2⟩:=List.append_inj e (by rw [byl_length,byl_length,hxy])
  have hyx:=byl_inj e1
  subst hyx
  rw [List.getElem?_append_right (by rw [byl_length];omega)] at hv
  apply hv
  have h1:=congrArg (fun l=>l[k - (byl y).length]?) e2
  rw [List.getElem?_set_self (by rw [byl_length,byl_length,four_size];omega)] at h1
  exact h1
end Go.Proofs.Ytaaffhghpealjaa.A
namespace Go.Proofs.Ytaaffhghpealjaa.A
open Go.RowKit Go.Proofs.YtaaffhghpealjaaW.PrintWords Go.Proofs.YtaaffhghpealjaaW.PrintLast Go.Proofs.YtaaffhghpealjaaW.PrintMore
theorem row_get (s:ByteArray) (cap k:Nat) (hk:k < s.size):(bytesRow s cap)[k]?=some (.int .u8 ((byl s).getD k 0)):=by
 have hs:k < s.data.size:=hk
 unfold bytesRow byl
 rw [Array.getElem?_append_left (by rw [Array.size_map];exact hs),Array.getElem?_map,Array.getElem?_eq_getElem hs,List.getD_eq_getElem?_getD,List.getElem?_map,Array.getElem?_toList,Array.getElem?_eq_getElem hs]
 rfl
theorem row_size (s:ByteArray) (cap:Nat):s.size ≤ (bytesRow s cap).size:=by
 unfold bytesRow
 rw [Array.size_append,Array.size_map]
 exact Nat.le_add_right _ _
def Row (g:Nat) (xs:List Int) (W:World):Prop:=∃ (R:Array Value) (m:Nat),W.heap[g]?=some (.cells R 5 (m,m + 1))∧xs.length ≤ m∧∀ k,k < xs.length → R[k]?=some (.int .u8 (xs.getD k 0))
theorem St.row {g:Nat} {xs:List Int}:St (Row g xs):=fun _ _ ⟨R,m,h,k,l⟩ hb=>⟨R,m,blk_below h hb,k,l⟩
theorem Row.new (W:World) (s:ByteArray) (cap:Nat):Row W.heap.size (byl s) (W.alloc (.cells (bytesRow s cap) 5 ((bytesRow s cap).size,(bytesRow s cap).size + 1))) :=
 ⟨_,_,blk_new W _,by rw [byl_length];exact row_size s cap,fun k hk=>row_get s cap k (by rw [byl_length] at hk;exact hk)⟩
theorem Row.cell {g:Nat} {xs:List Int} {W:World} (h:Row g xs W) {k:Nat} (hk:k < xs.length):W.cell? ⟨g,k,none⟩=some (.int .u8 (xs.getD k 0)):=by
 obtain ⟨R,m,h1,h2,h3⟩:=h
 simp [World.cell?,h1,h3 k hk]
theorem Row.frozen {g:Nat} {xs:List Int} {W:World} (h:Row g xs W) {k:Nat} (hk:k < xs.length):W.frozen? ⟨g,k,none⟩=false:=by
 obtain ⟨R,m,h1,h2,h3⟩:=h
 have:¬ (m ≤ k):=by omega
 simp [World.frozen?,h1,this]
theorem Row.set {g:Nat} {xs:List Int} {W:World} (h:Row g xs W) {k:Nat} (hk:k < xs.length) (v:Int):Row g (xs.set k v) (W.setCell ⟨g,k,none⟩ (.int .u8 v)):=by
 obtain ⟨R,m,h1,h2,h3⟩:=h
 refine ⟨R.setIfInBounds k (.int .u8 v),m,?_,by rw [List.length_set];exact h2,fun j hj=>?_⟩
 ·have hlt:=blk_lt h1
  rw [Array.getElem?_eq_getElem hlt] at h1
  have h4:=Option.some.inj h1
  simp [World.setCell,Array.getElem?_modify,Array.getElem?_eq_getElem hlt,h4]
 ·rw [List.length_set] at hj
  by_cases e:k=j
  ·subst e
   have hkR:k < R.size:=by
    have h4:=h3 k hk
    exact (Array.getElem?_eq_some_iff.1 h4).1
   rw [Array.getElem?_setIfInBounds_self_of_lt hkR,List.getD_eq_getElem?_getD,List.getElem?_set_self hk]
   rfl
  ·rw [Array.getElem?_setIfInBounds_ne e,h3 j hj,List.getD_eq_getElem?_getD,List.getD_eq_getElem?_getD,List.getElem?_set_ne e]
theorem Row.text {g:Nat} {xs:List Int} {W:World} (h:Row g xs W) (n cap:Nat) (hn:xs.length=n):(convert 41 9 (.slice (some ⟨g,0,none⟩) n cap)).run Try.prog W=.ok (.string (strOfNums xs)) W :=
 run_convert_bytes_arg W 41 5 Try.underlying41 Try.underlying5 g 0 n cap xs hn (fun i hi=>by rw [Nat.zero_add];exact h.cell (by omega)) 9 Try.underlying9
theorem turn_ne {v r:Int} (hv:0 ≤ v∧v ≤ 255) (hr:0 ≤ r∧r < 255):(0 ≤ bits .xor .u8 v (IntKind.u8.wrap (wrap64 (1 + r)))∧bits .xor .u8 v (IntKind.u8.wrap (wrap64 (1 + r))) ≤ 255)∧bits .xor .u8 v (IntKind.u8.wrap (wrap64 (1 + r))) ≠ v:=by
 have hw:∀ n:Int,0 ≤ n → n < 2 ^ IntKind.u8.bits → IntKind.u8.wrap n=n:=fun n h1 h2=>by
  have h3:n < 256:=h2
  show n % 256=n
  omega
 obtain ⟨a,rfl⟩:=Int.eq_ofNat_of_zero_le hv.1
 obtain ⟨b,rfl⟩:=Int.eq_ofNat_of_zero_le hr.1
 rw [w64 (by omega) (by omega),hw _ (by omega) (by show _ < (256:Int);omega),show (1 + (b:Int))=((1 + b:Nat):Int) by omega]
 rw [xorN .u8 hw a (1 + b) (by show _ < 256;omega) (by show _ < 256;omega)]
 have h1:a ^^^ (1 + b) < 2 ^ 8:=Nat.xor_lt_two_pow (by omega) (by omega)
 refine ⟨⟨by omega,by omega⟩,fun e=>?_⟩
 have e2:a ^^^ (1 + b)=a:=by omega
 have e3:=congrArg (fun z=>a ^^^ z) e2
 simp only [← Nat.xor_assoc,Nat.xor_self,Nat.zero_xor] at e3
 omega
theorem byl_range (s:ByteArray):∀ x ∈ byl s,0 ≤ x∧x ≤ 255:=by
 intro x hx
 unfold byl at hx
 obtain ⟨b,_,rfl⟩:=List.mem_map.1 hx
 have:=b.toNat_lt
 omega
theorem turned {a s:Int} {t b:ByteArray} {k:Nat} {v:Int} (hp:¬ ((frP a s t).size:Int) > 19996) (hbs:sealV (frP a s t)=b) (hk:k < (byl b).length) (hv:v ≠ (byl b).getD k 0) (hr:0 ≤ v∧v ≤ 255) :
  ∃ fs c,Ev (fun n=>impl_FrameRead.f n (strOfNums ((byl b).set k v))) (0,[],0,0,0,fs,(⟨#[]⟩:ByteArray),c)∧c ≠ 0:=by
 obtain ⟨fs,c,_,h2,_,h4⟩:=frame_read2 (strOfNums ((byl b).set k v))
 refine ⟨fs,c,h2,fun h0=>?_⟩
 obtain ⟨a2,s2,x,hf,ht,_⟩:=h4 h0
 have e:=congrArg byl ht
 rw [byl_nums _ (fun y hy=>(List.mem_or_eq_of_mem_set hy).elim (byl_range b y) (fun e=>e ▸ hr))] at e
 subst hbs
 have hq:¬ ((frP a2 s2 x).size:Int) > 19996:=by have h1:=frP_size hf;omega
 refine seal_one hp hq e.symm (by rw [byl_length] at hk;exact hk) (fun h=>hv ?_)
 rw [List.getD_eq_getElem?_getD,h]
 rfl
theorem Bn.bytes {w W:World} {P:World → Prop} (h:Aside0 (Bn w W P)) (hs:St P) (s:ByteArray) (cap:Nat):Aside0 (Bn W (W.alloc (.cells (bytesRow s cap) 5 ((bytesRow s cap).size,(bytesRow s cap).size + 1))).drew fun W'=>Row W.heap.size (byl s) W'∧P W') :=
 have hb:Below W.heap.size W (W.alloc (.cells (bytesRow s cap) 5 ((bytesRow s cap).size,(bytesRow s cap).size + 1))).drew:=below_drew1 (below_alloc (Below.refl _ _) _)
 ⟨hb,Row.new W s cap,hs _ _ h.1.fact hb⟩
theorem Bn.turn {w0 V W:World} {P:World → Prop} {g:Nat} {xs:List Int} [cc:OnW V W] (h:Aside0 (Bn w0 V fun W'=>Row g xs W'∧P W')) (hs:St P) (h0:P w0) (hg:Aside0 (w0.heap.size=g)) {k:Nat} (hk:k < xs.length) (v:Int):Aside0 (Bn w0 (W.setCell ⟨g,k,none⟩ (.int .u8 v)) fun W'=>Row g (xs.set k v) W'∧P W') :=
 have hb:Below w0.heap.size w0 (W.setCell ⟨g,k,none⟩ (.int .u8 v)):=below_set (below_step h.1.bel cc.out) (Nat.le_of_eq hg.1)
 ⟨hb,(St.row _ _ h.1.fact.1 cc.out).set hk v,hs _ _ h0 hb⟩
end Go.Proofs.Ytaaffhghpealjaa.A
