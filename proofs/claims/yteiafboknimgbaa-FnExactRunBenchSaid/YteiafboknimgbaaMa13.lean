import Derived.Test.YteiafboknimgbaaMa12
set_option maxHeartbeats 8000000
set_option maxRecDepth 100000
set_option linter.unusedVariables false
set_option linter.unusedSimpArgs false
section
namespace Go.Proofs.Yteiafboknimgbaa.Pr.M
open Go.RowKit Go.Proofs.W.PrintWords Go.Proofs.W.PrintLast Go.Proofs.W.PrintMore
theorem und_st:Try.prog.underlying 219=some (.struct (((Try.prog.underlying 219).bind fun d=>match d with| .struct f=>some f|_=>none).getD #[])):=by kernel_rfl
theorem size_st:(Try.prog.info? 219).map (·.size)=some 3:=by kernel_rfl
section
variable {rec:SM→SF→SM×SF} {m:SM} {c:SF} {at_:Int} {s:St}
theorem makeS_4(h:s.f0=4):makeS rec m c at_ s=innerS rec m c at_ s:=by unfold makeS;rw [if_pos h]
theorem makeS_5(h:s.f0=5):makeS rec m c at_ s=(stell m 2 s.f1 (sreg c s.f2),{ c with defers:=c.defers++ [(s.f1,sreg c s.f2)] },at_+1):=by unfold makeS;rw [h];rfl
theorem makeS_6(h:s.f0=6):makeS rec m c at_ s=(stell m 5 c.f (sreg c s.f1),{ c with kind:=2,value:=sreg c s.f1 },-1):=by unfold makeS;rw [h];rfl
theorem makeS_8(h:s.f0=8):makeS rec m c at_ s=(m,{ c with r1:=sreg c s.f1 },-1):=by unfold makeS;rw [h];rfl
theorem makeS_10(h:s.f0=10):makeS rec m c at_ s=(m,{ c with kind:=3,leaving:=true },-1):=by unfold makeS;rw [h];rfl
theorem makeS_11(h:s.f0=11):makeS rec m c at_ s=(m,c,if 0<sreg c s.f2 then s.f1 else at_+1):=by unfold makeS;rw [h];rfl
theorem makeS_s(k4:s.f0≠4)(k5:s.f0≠5)(k6:s.f0≠6)(k8:s.f0≠8)(k10:s.f0≠10)(k11:s.f0≠11):makeS rec m c at_ s=((simpleS m c s).1,(simpleS m c s).2,at_+1):=by
 unfold makeS;rw [if_neg k4,if_neg k5,if_neg k6,if_neg k8,if_neg k10,if_neg k11]
end
theorem sroom_len {fuel:Int} {m:SM} {k n:Nat} (hm:SMok fuel m)(h:sroom fuel m k≤n):m.trace.length+k≤n:=by
 unfold sroom at h
 have:=hm.made
 omega
theorem l2Make.calls(W0:World)(A0:Option Addr)(c0:Nat)(p:List (List St))(N fuel:Int)(R d:Nat)(hp:ProgOk N p)(hC:SCallC W0 A0 c0 p N fuel R d)(w:World)(m:SM)(c:SF)(tv sv:Value)(dA:Option Addr)(dn dc:Nat)(H:SRows w W0.heap.size m tv sv)(D:DRow w W0.heap.size (.slice dA dn dc) c.defers)(DA:ApartD (.slice dA dn dc) sv)(hbel:Below W0.heap.size W0 w)
  (hm:SMok fuel m) (hc:SFok N c) (hsp:m.spent=false) (hd:d≤8) (hdep:c.depth+(d:Int)=8) (hroom:sroom fuel m c.defers.length+2≤90000) (at_:Int) (hat: -1000≤at_∧at_≤1000) (s:St) (hs:StepWf s) (hso:StepOk N s) :
  Calls Try.prog 275 #[.agg (smC (.slice A0 p.length c0) fuel m tv sv).toArray,.agg (sfC c (.slice dA dn dc)).toArray,.int .i64 at_,.agg #[.int .i64 s.f0,.int .i64 s.f1,.int .i64 s.f2]] w fun e w'=>MakeSP w w' W0.heap.size (.slice A0 p.length c0) fuel tv sv (makeS (callS p fuel R d) m c at_ s) e:=by
 have hn0:m.trace.length+c.defers.length≤89998:=sroom_len hm zq90
 have hn:m.trace.length+c.defers.length≤99000:=by omega
 have hr0:sroom fuel m 0+2≤90000:=by unfold sroom at *;omega
 have HIN:=Z (fun(w1:World) (H1:SRows w1 W0.heap.size m tv sv) (D1:DRow w1 W0.heap.size (.slice dA dn dc) c.defers) (B1:Below W0.heap.size W0 w1) (f:Int) (hf:0≤f∧f<N) (b:Nat) (hb4:b<4)=>l2Inner.calls W0 A0 c0 p N fuel R d hp hC w1 m c tv sv dA dn dc H1 D1 DA B1 hm hc hsp hd hdep hr0 at_ hat f hf b hb4)
 clear hp hC hsp hd hdep hroom hr0 hn0
 obtain⟨K,x,y⟩:=s
 have HSI:=Z (fun(w1:World) (H1:SRows w1 W0.heap.size m tv sv) (B1:Below W0.heap.size W0 w1) k4 k5 k6 k8 k10 k11=>l2Simple.calls w1 W0.heap.size A0 p.length c0 fuel m c tv sv dA dn dc H1 B1.size zq90 ⟨K,x,y⟩ hs hc.reg k4 k5 k6 k8 k10 k11)
 have HDFS:=Z (simpleS_ok (N:=N) (fuel:=fuel) hm hc ⟨K,x,y⟩ hso.1).df
 have ha:=hs.a
 have hb2:=hs.b
 have h4:=hso.2.2
 dsimp only at ha hb2 h4 HSI HDFS ⊢
 obtain⟨q,hq⟩: ∃ q,q=makeS (callS p fuel R d) m c at_ ⟨K,x,y⟩:=⟨_,rfl⟩
 rw [← hq]
 have HQ:=am hq
 have HA1:=am ha
 have HB2:=am hb2
 have HH4:=am h4
 clear hq ha hb2 h4 hs hso
 obtain⟨tA,tc,htv⟩:=own_slice H.tr
 obtain⟨sA,sc,hsv⟩:=own_slice H.se
 subst htv
 subst hsv
 have HT0:=Z (own_lt H.tr)
 have HV0:=Z (own_lt H.se)
 have H0:=am H
 have HS:=am H
 have HD:=am D
 have HDA:=am DA
 have KP:=Z (KeptS.refl (.slice tA m.trace.length tc) (.slice sA m.seen.length sc) w)
 have HB:=am hbel
 have HM:=am hm
 have HF:=am hc
 have HDL:=Z (own_lt D)
 clear H D DA hbel hm hc
 have hwa:wrap64 (at_+1)=at_+1:=IntWalk.wrap64_in _ ⟨zq90,zq90⟩
 have HAT:=am hwa
 have HN:=am hn
 clear hwa hat hn
 go_enter Try.func275,Try.ntmps275
 go_upto_block 0 with(first|(refine bx 4 (smC (.slice A0 p.length c0) fuel (m) (.slice tA m.trace.length tc) (.slice sA m.seen.length sc)).toArray 167 (h:= ?_);intro g4 hg_ x1 hbox hbel;have Lg4:=lg hg_ KP.out.size;have hE_:=Evt.below hbel 0;replace HS:=rs HS hE_;replace KP:=kv KP hE_;replace HD:=dv HD hE_;have Gg4:=am hbox;clear hbel hbox hg_ hE_)|(refine bx 5 (sfC (c) (.slice dA dn dc)).toArray 169 (h:= ?_);intro g5 hg_ x2 hbox hbel;have Lg5:=lg hg_ KP.out.size;have hE_:=Evt.below hbel 0;replace HS:=rs HS hE_;replace KP:=kv KP hE_;replace HD:=dv HD hE_;replace Gg4:=hE_.b Gg4;have Gg5:=am hbox;clear hbel hbox hg_ hE_)|(refine bx 7 #[.int .i64 K,.int .i64 x,.int .i64 y] 219 (h:= ?_);intro g7 hg_ x3 hbox hbel;have Lg7:=lg hg_ KP.out.size;have hE_:=Evt.below hbel 0;replace HS:=rs HS hE_;replace KP:=kv KP hE_;replace HD:=dv HD hE_;replace Gg4:=hE_.b Gg4;replace Gg5:=hE_.b Gg5;have Gg7:=am hbox;clear hbel hbox hg_ hE_)|(refine bx 8 zsm 167 (h:= ?_);intro g8 hg_ x4 hbox hbel;have Lg8:=lg hg_ KP.out.size;have NE_g4_g8:=nel hg_ Gg4.out;have hE_:=Evt.below hbel 0;replace HS:=rs HS hE_;replace KP:=kv KP hE_;replace HD:=dv HD hE_;replace Gg4:=hE_.b Gg4;replace Gg5:=hE_.b Gg5;replace Gg7:=hE_.b Gg7;have Gg8:=am hbox;clear hbel hbox hg_ hE_)|(refine bx 9 zsf 169 (h:= ?_);intro g9 hg_ x5 hbox hbel;have Lg9:=lg hg_ KP.out.size;have NE_g5_g9:=nel hg_ Gg5.out;have hE_:=Evt.below hbel 0;replace HS:=rs HS hE_;replace KP:=kv KP hE_;replace HD:=dv HD hE_;replace Gg4:=hE_.b Gg4;replace Gg5:=hE_.b Gg5;replace Gg7:=hE_.b Gg7;replace Gg8:=hE_.b Gg8;have Gg9:=am hbox;clear hbel hbox hg_ hE_;have p0:x5.cell? ⟨g7,0,none⟩=some (.int .i64 K):=(blk_cell Gg7.out (0)).trans (rfl)))
 clear p0
 by_cases k4:K=4
 ·skip
  subst k4
  obtain⟨b,rfl⟩:=nat_of (HB2.out (.inr (.inl rfl))).1
  have hb4:b<4:=(by have:=(HB2.out (.inr (.inl rfl))).2;omega)
  have hb4i:(b:Int)<4:=zq90
  obtain⟨f,rfl⟩: ∃ f,f=x:=⟨x,rfl⟩
  have HF4:=Z (HH4.out (.inl rfl))
  rcases hi:innerS (callS p fuel R d) m c at_ ⟨4,f,(b:Int)⟩ with⟨m2,c2,a2⟩
  have hq:=HQ.out
  rw [makeS_4 rfl,hi] at hq
  go_upto_region 3 with(fail)
  go_upto_region 22 with(first|(refine lr 15 Gg4.out und_sm size_sm (h:= ?_))|(refine lr 16 Gg5.out und_sf size_sf (h:= ?_))|(refine lr 18 Gg7.out und_st size_st (h:= ?_)))
  refine((show Calls Try.prog 296 #[.agg (smC (.slice A0 p.length c0) fuel m (.slice tA m.trace.length tc) (.slice sA m.seen.length sc)).toArray,.agg (sfC c (.slice dA dn dc)).toArray,.int .i64 at_,.agg #[.int .i64 4,.int .i64 f,.int .i64 (b:Int)]] _ fun e w'=>MakeSP _ w' W0.heap.size (.slice A0 p.length c0) fuel (.slice tA m.trace.length tc) (.slice sA m.seen.length sc) (m2,c2,a2) e from by rw [← hi];exact HIN.out _ HS.out HD.out (KP.out.bel HB.out H0.out) f HF4.out b hb4)).mono ?_
  rintro e wz ⟨tv2,sv2,eA,en,ec,rfl,hS2,hT2,hV2,hD2,hA2,hK2⟩
  have HNT:=Z (New.trans (New.refl w (.slice tA m.trace.length tc)) hT2 KP.out.size)
  have HNV:=Z (New.trans (New.refl w (.slice sA m.seen.length sc)) hV2 KP.out.size)
  have HAP:=am hA2
  replace HD:=Z (hD2)
  replace HS:=Z (hS2)
  replace KP:=Z (KP.out.trans hK2 (New.refl _ _) (New.refl _ _))
  replace Gg4:=Z (hK2.blk _ _ Gg4.out (free_tv HT0.out Lg4) (free_tv HV0.out Lg4))
  replace Gg5:=Z (hK2.blk _ _ Gg5.out (free_tv HT0.out Lg5) (free_tv HV0.out Lg5))
  replace Gg7:=Z (hK2.blk _ _ Gg7.out (free_tv HT0.out Lg7) (free_tv HV0.out Lg7))
  replace Gg8:=Z (hK2.blk _ _ Gg8.out (free_tv HT0.out Lg8) (free_tv HV0.out Lg8))
  replace Gg9:=Z (hK2.blk _ _ Gg9.out (free_tv HT0.out Lg9) (free_tv HV0.out Lg9))
  clear hS2 hT2 hV2 hK2 hD2 hA2
  obtain⟨uA,uc,hu⟩:=own_slice HS.out.tr
  obtain⟨vA,vc,hv⟩:=own_slice HS.out.se
  subst hu
  subst hv
  go_wp2_with (first|(refine ag 8 (smC (.slice A0 p.length c0) fuel (m2) (.slice uA m2.trace.length uc) (.slice vA m2.seen.length vc)).toArray Gg8.out size_sm (h:= ?_);intro x6 hbox hev;replace HS:=rs HS hev;replace KP:=kv KP hev;replace HD:=dv HD hev;replace Gg4:=hev.b' Gg4 (ne_some NE_g4_g8);replace Gg5:=hev.b Gg5;replace Gg7:=hev.b Gg7;replace Gg9:=hev.b Gg9;clear Gg8;have Gg8:=am hbox;clear hbox hev)|(refine ag 9 (sfC (c2) (.slice eA en ec)).toArray Gg9.out size_sf (h:= ?_);intro x7 hbox hev;replace HS:=rs HS hev;replace KP:=kv KP hev;replace HD:=dv HD hev;replace Gg4:=hev.b Gg4;replace Gg5:=hev.b' Gg5 (ne_some NE_g5_g9);replace Gg7:=hev.b Gg7;replace Gg8:=hev.b Gg8;clear Gg9;have Gg9:=am hbox;clear hbox hev))
  refine bodyPost_ret (results_cct rfl _ _ g8 g9 167 169 (smC (.slice A0 p.length c0) fuel (m2) (.slice uA m2.trace.length uc) (.slice vA m2.seen.length vc)).toArray (sfC (c2) (.slice eA en ec)).toArray (0,0) (0,0) _ _ rfl Gg8.out und_sm rfl size_sm rfl Gg9.out und_sf rfl size_sf rfl) rfl ?_
  subst hq
  exact⟨_,_,_,_,_,rfl,HS.out,HNT.out,HNV.out,HD.out,HAP.out,KP.out⟩
 by_cases k5:K=5
 ·skip
  subst k5
  obtain⟨b,rfl⟩:=nat_of (HB2.out (.inr (.inr (.inl rfl)))).1
  have hb4:b<4:=(by have:=(HB2.out (.inr (.inr (.inl rfl)))).2;omega)
  have hb4i:(b:Int)<4:=zq90
  obtain⟨f,rfl⟩: ∃ f,f=x:=⟨x,rfl⟩
  have hq:=HQ.out
  rw [makeS_5 rfl] at hq
  go_upto_region 5 with(fail)
  replace HS:=Z (HS.out.ev (Evt.drew x5 0))
  replace KP:=Z (KP.out.ev (Evt.drew x5 0) (fun q e=>zq121))
  replace HD:=Z (HD.out.ev (Evt.drew x5 0))
  replace Gg4:=(Evt.drew x5 0).b Gg4
  replace Gg5:=(Evt.drew x5 0).b Gg5
  replace Gg7:=(Evt.drew x5 0).b Gg7
  replace Gg8:=(Evt.drew x5 0).b Gg8
  replace Gg9:=(Evt.drew x5 0).b Gg9
  refine start_ (n:=16) (S:=fun w'=>w'.cell? ⟨g5,6,none⟩=some (.slice dA dn dc)∧w'.cell? ⟨g7,1,none⟩=some (.int .i64 f)∧w'.cell? ⟨g7,2,none⟩=some (.int .i64 (b:Int))∧w'.cell? ⟨g5,2+b,none⟩=some (.int .i64 (sreg c b))∧True) (ds:= [13,15]) (bb 16 0) zq27 rfl rfl ⟨(blk_cell Gg5.out 6).trans rfl,(blk_cell Gg7.out 1).trans rfl,(blk_cell Gg7.out 2).trans rfl,(blk_cell Gg5.out (2+b)).trans (sfC_reg c (.slice dA dn dc) b hb4),trivial⟩ (fun hHeld=> ?_)
  generalize x5.drew=x6 at HS KP HD Gg4 Gg5 Gg7 Gg8 Gg9 hHeld ⊢
  refine pure1 1 26 (bb 16 2) (h:= ?_)
  refine take1 2 27 (bb 16 6) (hS:=hHeld) (h:= ?_)
  refine pure1 4 29 (bb 16 22) (h:= ?_)
  refine take1 5 30 (bb 16 54) (hS:=hHeld) (h:= ?_)
  refine pure1 6 31 (bb 16 118) (h:= ?_)
  refine take1 7 32 (bb 16 246) (hS:=hHeld) (h:= ?_)
  refine pure1 8 33 (bb 16 502) (h:= ?_)
  refine pure1 9 34 (bb 16 1014) (h:= ?_)
  refine take1 10 35 (bb 16 2038) (hS:=hHeld) (h:= ?_)
  refine pure1 11 36 (bb 16 4086) (h:= ?_)
  refine join_ (σ:=Nat×Nat×Value) 3 (bb 16 8191) (fun s_=>match s_ with|(gE,gA,tE)=> [(25,.slice (some ⟨gE,0,none⟩) 0 0),(28,tE),(37,.slice (some ⟨gA,0,none⟩) 1 1)]) (fun s_ W_=>match s_ with|(gE,gA,tE)=>Aside0 (SRows W_ W0.heap.size m (.slice tA m.trace.length tc) (.slice sA m.seen.length sc))∧Aside0 (KeptS (.slice tA m.trace.length tc) (.slice sA m.seen.length sc) w W_)∧Aside0 (DRow W_ W0.heap.size (.slice dA dn dc) c.defers)∧Aside0 (W_.heap[g4]? =some (.cells (smC (.slice A0 p.length c0) fuel (m) (.slice tA m.trace.length tc) (.slice sA m.seen.length sc)).toArray 167 (0,0)))∧Aside0 (W_.heap[g5]? =some (.cells (sfC (c) (.slice dA dn dc)).toArray 169 (0,0)))∧Aside0 (W_.heap[g7]? =some (.cells #[.int .i64 5,.int .i64 f,.int .i64 (b:Int)] 219 (0,0)))∧Aside0 (W_.heap[g8]? =some (.cells zsm 167 (0,0)))∧Aside0 (W_.heap[g9]? =some (.cells zsf 169 (0,0)))∧Aside0 (W_.heap[gA]? =some (.cells (prC (f,sreg c b)).toArray 74 (0,0)))∧Aside0 (DRow W_ W0.heap.size tE c.defers)∧Aside0 (∀ q,tE.ownBlock=some q→w.heap.size≤q)∧Aside0 (some gA≠tE.ownBlock)∧Aside0 (w.heap.size≤gA)) ?_ ?_
  rotate_left
  ·skip
   intro HC
   refine two_ (i:=0) (j:=12) (Ni:=some 25) (Nj:=some 37) (bb 16 4087) (bb 16 8182) rfl rfl rfl rfl zq27 zq83 zq83 (fun K hK=> ?_) (fun K hK=> ?_)
   ·skip
    refine alloc_ (cs:= #[]) (e:=74) (n:=0) (by rfl) rfl zq88 ?_
    intro gE hgE x7 hnew hbel
    have LgE:=lg hgE KP.out.size
    have hE_:=Evt.below hbel 0
    replace HS:=rs HS hE_
    replace KP:=kv KP hE_
    replace HD:=dv HD hE_
    replace Gg4:=hE_.b Gg4
    replace Gg5:=hE_.b Gg5
    replace Gg7:=hE_.b Gg7
    replace Gg8:=hE_.b Gg8
    replace Gg9:=hE_.b Gg9
    have GgE:=am hnew
    clear hnew hbel hgE hE_
    refine hK.out _ _ ⟨(blk_cell Gg5.out 6).trans rfl,(blk_cell Gg7.out 1).trans rfl,(blk_cell Gg7.out 2).trans rfl,(blk_cell Gg5.out (2+b)).trans (sfC_reg c (.slice dA dn dc) b hb4),trivial⟩ (fun hHeld=> ?_)
    clear hK K
    refine nm 25 (h:= ?_)
    refine two_ (i:=3) (j:=12) (Ni:=some 28) (Nj:=some 37) (bb 16 4095) (bb 16 8183) rfl rfl rfl rfl zq27 zq83 zq83 (fun K hK=> ?_) (fun K hK=> ?_)
    ·skip
     obtain⟨tE,x8,hE,hT,hev,hnb⟩:=app_all GgE.out (Nat.le_trans HB.out.size LgE) HD.out (by have:=HN.out;omega) (Nat.le_trans HB.out.size KP.out.size)
     refine ev_ (v:=tE) (w':=x8) (by rfl) rfl (appRun_ _ _ _ rfl rfl rfl rfl hE) ?_
     clear hE
     have hnt: ∀ q,tE.ownBlock=some q→w.heap.size≤q:=by
      intro q e
      rcases hnb with h|h<;>rw [h] at e<;>injection e with e<;>subst e
      ·exact LgE
      ·exact KP.out.size
     have hnE: ∀ g,g<w.heap.size→some g≠some gE:=fun g h e=>by injection e with e;omega
     clear GgE
     replace HS:=Z (HS.out.newP hev (fun e=>zq146))
     replace KP:=kv KP hev
     replace HD:=Z (HD.out.newP hev (fun e=>by have h_:=HDL.out _ e;omega))
     replace Gg4:=hev.b Gg4
     replace Gg5:=hev.b Gg5
     replace Gg7:=hev.b Gg7
     replace Gg8:=hev.b Gg8
     replace Gg9:=hev.b Gg9
     have HT:=am hT
     have HNT:=am hnt
     clear hT hev hnb hnt hnE
     refine hK.out _ _ ⟨(blk_cell Gg5.out 6).trans rfl,(blk_cell Gg7.out 1).trans rfl,(blk_cell Gg7.out 2).trans rfl,(blk_cell Gg5.out (2+b)).trans (sfC_reg c (.slice dA dn dc) b hb4),trivial⟩ (fun hHeld=> ?_)
     clear hK K
     refine nm 28 (h:= ?_)
     refine on_ 12 (some 37) (bb 16 8191) (h:=fun K hK=> ?_)
     refine alloc_ (cs:=(prC (f,sreg c b)).toArray) (e:=74) (n:=1) (by rfl) rfl zq88 ?_
     intro gA hgA x9 hnew hbel
     have LgA:=lg hgA KP.out.size
     have NTA:=Z (show some gA≠tE.ownBlock from fun e=>by have h_:=own_lt HT.out gA e.symm;omega)
     have hE_:=Evt.below hbel 0
     replace HS:=rs HS hE_
     replace KP:=kv KP hE_
     replace HD:=dv HD hE_
     replace Gg4:=hE_.b Gg4
     replace Gg5:=hE_.b Gg5
     replace Gg7:=hE_.b Gg7
     replace Gg8:=hE_.b Gg8
     replace Gg9:=hE_.b Gg9
     replace HT:=Z (HT.out.ev hE_)
     have GgA:=am hnew
     clear hnew hbel hgA hE_
     refine hK.out _ _ ⟨(blk_cell Gg5.out 6).trans rfl,(blk_cell Gg7.out 1).trans rfl,(blk_cell Gg7.out 2).trans rfl,(blk_cell Gg5.out (2+b)).trans (sfC_reg c (.slice dA dn dc) b hb4),trivial⟩ (fun hHeld=> ?_)
     clear hK K
     refine nm 37 (h:= ?_)
     replace LgA:=am LgA
     exact norm_ (by
      simp only [putAll,Act.put,List.setIfInBounds_toArray,List.set_cons_zero,List.set_cons_succ]
      try rfl) (HC ⟨_,_,_⟩ x9 ⟨HS,KP,HD,Gg4,Gg5,Gg7,Gg8,Gg9,GgA,HT,HNT,NTA,LgA⟩)
    ·skip
     refine alloc_ (cs:=(prC (f,sreg c b)).toArray) (e:=74) (n:=1) (by rfl) rfl zq88 ?_
     intro gA hgA x8 hnew hbel
     have LgA:=lg hgA KP.out.size
     have NEA:=Z (show gA≠gE from fun e=>by have h_:=blk_lt GgE.out;omega)
     have hE_:=Evt.below hbel 0
     replace HS:=rs HS hE_
     replace KP:=kv KP hE_
     replace HD:=dv HD hE_
     replace Gg4:=hE_.b Gg4
     replace Gg5:=hE_.b Gg5
     replace Gg7:=hE_.b Gg7
     replace Gg8:=hE_.b Gg8
     replace Gg9:=hE_.b Gg9
     replace GgE:=hE_.b GgE
     have GgA:=am hnew
     clear hnew hbel hgA hE_
     refine hK.out _ _ ⟨(blk_cell Gg5.out 6).trans rfl,(blk_cell Gg7.out 1).trans rfl,(blk_cell Gg7.out 2).trans rfl,(blk_cell Gg5.out (2+b)).trans (sfC_reg c (.slice dA dn dc) b hb4),trivial⟩ (fun hHeld=> ?_)
     clear hK K
     refine nm 37 (h:= ?_)
     replace LgA:=am LgA
     refine on_ 3 (some 28) (bb 16 8191) (h:=fun K hK=> ?_)
     obtain⟨tE,x9,hE,hT,hev,hnb⟩:=app_all GgE.out (Nat.le_trans HB.out.size LgE) HD.out (by have:=HN.out;omega) (Nat.le_trans HB.out.size KP.out.size)
     refine ev_ (v:=tE) (w':=x9) (by rfl) rfl (appRun_ _ _ _ rfl rfl rfl rfl hE) ?_
     clear hE
     have hnt: ∀ q,tE.ownBlock=some q→w.heap.size≤q:=by
      intro q e
      rcases hnb with h|h<;>rw [h] at e<;>injection e with e<;>subst e
      ·exact LgE
      ·exact KP.out.size
     have NTA:=Z (show some gA≠tE.ownBlock from by
      rcases hnb with h|h<;>rw [h]
      ·exact fun e=>NEA.out (by injection e)
      ·exact fun e=>by injection e with e;have h_:=blk_lt GgA.out;omega)
     have hnE: ∀ g,g<w.heap.size→some g≠some gE:=fun g h e=>by injection e with e;omega
     clear GgE
     replace HS:=Z (HS.out.newP hev (fun e=>zq146))
     replace KP:=kv KP hev
     replace HD:=Z (HD.out.newP hev (fun e=>by have h_:=HDL.out _ e;omega))
     replace Gg4:=hev.b Gg4
     replace Gg5:=hev.b Gg5
     replace Gg7:=hev.b Gg7
     replace Gg8:=hev.b Gg8
     replace Gg9:=hev.b Gg9
     replace GgA:=hev.b' GgA (fun e=>NEA.out (by injection e))
     have HT:=am hT
     have HNT:=am hnt
     clear hT hev hnb hnt hnE
     refine hK.out _ _ ⟨(blk_cell Gg5.out 6).trans rfl,(blk_cell Gg7.out 1).trans rfl,(blk_cell Gg7.out 2).trans rfl,(blk_cell Gg5.out (2+b)).trans (sfC_reg c (.slice dA dn dc) b hb4),trivial⟩ (fun hHeld=> ?_)
     clear hK K
     refine nm 28 (h:= ?_)
     exact norm_ (by
      simp only [putAll,Act.put,List.setIfInBounds_toArray,List.set_cons_zero,List.set_cons_succ]
      try rfl) (HC ⟨_,_,_⟩ x9 ⟨HS,KP,HD,Gg4,Gg5,Gg7,Gg8,Gg9,GgA,HT,HNT,NTA,LgA⟩)
   ·skip
    refine alloc_ (cs:=(prC (f,sreg c b)).toArray) (e:=74) (n:=1) (by rfl) rfl zq88 ?_
    intro gA hgA x7 hnew hbel
    have LgA:=lg hgA KP.out.size
    have hE_:=Evt.below hbel 0
    replace HS:=rs HS hE_
    replace KP:=kv KP hE_
    replace HD:=dv HD hE_
    replace Gg4:=hE_.b Gg4
    replace Gg5:=hE_.b Gg5
    replace Gg7:=hE_.b Gg7
    replace Gg8:=hE_.b Gg8
    replace Gg9:=hE_.b Gg9
    have GgA:=am hnew
    clear hnew hbel hgA hE_
    refine hK.out _ _ ⟨(blk_cell Gg5.out 6).trans rfl,(blk_cell Gg7.out 1).trans rfl,(blk_cell Gg7.out 2).trans rfl,(blk_cell Gg5.out (2+b)).trans (sfC_reg c (.slice dA dn dc) b hb4),trivial⟩ (fun hHeld=> ?_)
    clear hK K
    refine nm 37 (h:= ?_)
    replace LgA:=am LgA
    refine on_ 0 (some 25) (bb 16 8183) (h:=fun K hK=> ?_)
    refine alloc_ (cs:= #[]) (e:=74) (n:=0) (by rfl) rfl zq88 ?_
    intro gE hgE x8 hnew hbel
    have LgE:=lg hgE KP.out.size
    have NEA:=Z (show gA≠gE from fun e=>by have h_:=blk_lt GgA.out;omega)
    have hE_:=Evt.below hbel 0
    replace HS:=rs HS hE_
    replace KP:=kv KP hE_
    replace HD:=dv HD hE_
    replace Gg4:=hE_.b Gg4
    replace Gg5:=hE_.b Gg5
    replace Gg7:=hE_.b Gg7
    replace Gg8:=hE_.b Gg8
    replace Gg9:=hE_.b Gg9
    replace GgA:=hE_.b GgA
    have GgE:=am hnew
    clear hnew hbel hgE hE_
    refine hK.out _ _ ⟨(blk_cell Gg5.out 6).trans rfl,(blk_cell Gg7.out 1).trans rfl,(blk_cell Gg7.out 2).trans rfl,(blk_cell Gg5.out (2+b)).trans (sfC_reg c (.slice dA dn dc) b hb4),trivial⟩ (fun hHeld=> ?_)
    clear hK K
    refine nm 25 (h:= ?_)
    refine on_ 3 (some 28) (bb 16 8191) (h:=fun K hK=> ?_)
    obtain⟨tE,x9,hE,hT,hev,hnb⟩:=app_all GgE.out (Nat.le_trans HB.out.size LgE) HD.out (by have:=HN.out;omega) (Nat.le_trans HB.out.size KP.out.size)
    refine ev_ (v:=tE) (w':=x9) (by rfl) rfl (appRun_ _ _ _ rfl rfl rfl rfl hE) ?_
    clear hE
    have hnt: ∀ q,tE.ownBlock=some q→w.heap.size≤q:=by
     intro q e
     rcases hnb with h|h<;>rw [h] at e<;>injection e with e<;>subst e
     ·exact LgE
     ·exact KP.out.size
    have NTA:=Z (show some gA≠tE.ownBlock from by
     rcases hnb with h|h<;>rw [h]
     ·exact fun e=>NEA.out (by injection e)
     ·exact fun e=>by injection e with e;have h_:=blk_lt GgA.out;omega)
    have hnE: ∀ g,g<w.heap.size→some g≠some gE:=fun g h e=>by injection e with e;omega
    clear GgE
    replace HS:=Z (HS.out.newP hev (fun e=>zq146))
    replace KP:=kv KP hev
    replace HD:=Z (HD.out.newP hev (fun e=>by have h_:=HDL.out _ e;omega))
    replace Gg4:=hev.b Gg4
    replace Gg5:=hev.b Gg5
    replace Gg7:=hev.b Gg7
    replace Gg8:=hev.b Gg8
    replace Gg9:=hev.b Gg9
    replace GgA:=hev.b' GgA (fun e=>NEA.out (by injection e))
    have HT:=am hT
    have HNT:=am hnt
    clear hT hev hnb hnt hnE
    refine hK.out _ _ ⟨(blk_cell Gg5.out 6).trans rfl,(blk_cell Gg7.out 1).trans rfl,(blk_cell Gg7.out 2).trans rfl,(blk_cell Gg5.out (2+b)).trans (sfC_reg c (.slice dA dn dc) b hb4),trivial⟩ (fun hHeld=> ?_)
    clear hK K
    refine nm 28 (h:= ?_)
    exact norm_ (by
     simp only [putAll,Act.put,List.setIfInBounds_toArray,List.set_cons_zero,List.set_cons_succ]
     try rfl) (HC ⟨_,_,_⟩ x9 ⟨HS,KP,HD,Gg4,Gg5,Gg7,Gg8,Gg9,GgA,HT,HNT,NTA,LgA⟩)
  clear hHeld HS KP HD Gg4 Gg5 Gg7 Gg8 Gg9
  rintro⟨gE,gA,tE⟩ xj ⟨HS,KP,HD,Gg4,Gg5,Gg7,Gg8,Gg9,GgA,HT,HNT,NTA,LgA⟩
  refine norm_ (a':= ?_) ?_ ?_
  rotate_left
  ·simp only [putAll,Act.put,List.setIfInBounds_toArray,List.set_cons_zero,List.set_cons_succ]
   rfl
  refine la 13 (some 38) (bb 16 16383) (h:=fun K hK=> ?_)
  obtain⟨tF,x8,hE,hT,hev,hnb⟩:=app_pr HT.out gA 1 (f,sreg c b) GgA.out (by have:=HN.out;omega) (Nat.le_trans HB.out.size KP.out.size)
  refine ev_ (v:=tF) (w':=x8) (by rfl) rfl (appRun_ _ _ _ rfl rfl rfl rfl hE) ?_
  clear hE
  have hnt: ∀ q,tF.ownBlock=some q→w.heap.size≤q:=by
   intro q e
   rcases hnb with h|h
   ·rw [h] at e;exact HNT.out q e
   ·rw [h] at e;injection e with e;subst e;exact KP.out.size
  clear GgA HT NTA
  replace HS:=Z (HS.out.newQ hev HNT.out HV0.out)
  replace KP:=Z (KP.out.ev hev (fun q e=> .inl (HNT.out q e)))
  replace HD:=Z (HD.out.newQ hev HNT.out HDL.out)
  replace Gg4:=hev.b Gg4
  replace Gg5:=hev.b Gg5
  replace Gg7:=hev.b Gg7
  replace Gg8:=hev.b Gg8
  replace Gg9:=hev.b Gg9
  have HT:=am hT
  clear HNT
  have HNT:=am hnt
  clear hT hev hnb hnt
  obtain⟨fA,fc,hu⟩:=own_slice HT.out
  have hu':tF= .slice fA (c.defers.length+1) fc:=by rw [hu];rw [len1]
  clear hu
  subst hu'
  refine hK.out _ _ ?_
  clear hK K
  refine nm 38 (h:= ?_)
  refine pure1 14 39 (bb 16 32767) (h:= ?_)
  refine la 15 none (bb 16 65535) (h:=fun K hK=> ?_)
  have hc_:=(blk_cell Gg5.out 6).trans rfl
  have hf_:=blk_frozen Gg5.out 6
  rw [if_pos (by rfl)]
  unfold Oper.wp
  go_simp
  clear hc_ hf_
  have hev:=Evt.set Gg5.out 6 (.slice fA (c.defers.length+1) fc)
  replace HS:=rs HS hev
  replace KP:=kv KP hev
  replace HD:=dv HD hev
  replace Gg4:=hev.b Gg4
  replace Gg5:=Z ((blk_set Gg5.out 6 (.slice fA (c.defers.length+1) fc)).trans (show _=some (Obj.cells (sfC ({ c with defers:=c.defers++ [(f,sreg c b)] }) (.slice fA (c.defers.length+1) fc)).toArray 169 (0,0)) from rfl))
  replace Gg7:=hev.b Gg7
  replace Gg8:=hev.b Gg8
  replace Gg9:=hev.b' Gg9 (ne_some' NE_g5_g9)
  replace HT:=Z (HT.out.ev hev)
  generalize x8.setCell ⟨g5,6,none⟩ (.slice fA (c.defers.length+1) fc)=x9 at HS KP HD Gg4 Gg5 Gg7 Gg8 Gg9 HT ⊢
  clear hev
  refine hK.out _ _ ?_
  clear hK K
  refine done_ zq27 ?_
  have HAP:=Z (apart_new HNT.out HV0.out)
  clear HD
  replace HT:=Z (show DRow _ _ (.slice fA (c.defers.length+1) fc) (c.defers++ [_]) from HT.out)
  have HD:=HT
  clear HT
  go_upto_region 6 with(fail)
  have hE0_:=Evt.drew x9 292
  replace HS:=Z (HS.out.ev (Evt.drew x9 0))
  replace KP:=Z (KP.out.ev (Evt.drew x9 0) (fun q e=>zq121))
  replace Gg4:=(Evt.drew x9 0).b Gg4
  replace Gg5:=(Evt.drew x9 0).b Gg5
  replace Gg7:=(Evt.drew x9 0).b Gg7
  replace Gg8:=(Evt.drew x9 0).b Gg8
  replace Gg9:=(Evt.drew x9 0).b Gg9
  replace HD:=Z (HD.out.ev (Evt.drew x9 0))
  clear hE0_
  refine start_ (n:=15) (S:=fun w'=>w'.heap[g4]? =some (.cells (smC (.slice A0 p.length c0) fuel (m) (.slice tA m.trace.length tc) (.slice sA m.seen.length sc)).toArray 167 (0,0))∧w'.heap[g5]? =some (.cells (sfC ({ c with defers:=c.defers++ [(f,sreg c b)] }) (.slice fA (c.defers.length+1) fc)).toArray 169 (0,0))∧w'.cell? ⟨g7,1,none⟩=some (.int .i64 f)∧w'.cell? ⟨g7,2,none⟩=some (.int .i64 (b:Int))∧w'.cell? ⟨g5,2+b,none⟩=some (.int .i64 (sreg c b))∧True) (ds:= [13]) (bb 15 0) zq27 rfl rfl ⟨Gg4.out,Gg5.out,(blk_cell Gg7.out 1).trans rfl,(blk_cell Gg7.out 2).trans rfl,(blk_cell Gg5.out (2+b)).trans (sfC_reg { c with defers:=c.defers++ [(f,sreg c b)] } (.slice fA (c.defers.length+1) fc) b hb4),trivial⟩ (fun hHeld=> ?_)
  generalize x9.drew=x10 at HS KP Gg4 Gg5 Gg7 Gg8 Gg9 HD hHeld ⊢
  refine take1 0 40 (bb 15 1) (hy:=Or.inl ⟨by rfl,by rintro w' ⟨s0,s1,s2,s3,s4,_⟩;exact lR 4 s0 und_sm size_sm⟩) (hS:=hHeld) (h:= ?_)
  refine pure1 1 41 (bb 15 3) (h:= ?_)
  refine take1 2 42 (bb 15 7) (hS:=hHeld) (h:= ?_)
  refine pure1 3 43 (bb 15 15) (h:= ?_)
  refine take1 4 44 (bb 15 31) (hS:=hHeld) (h:= ?_)
  refine pure1 5 45 (bb 15 63) (h:= ?_)
  refine pure1 6 46 (bb 15 127) (h:= ?_)
  refine take1 7 47 (bb 15 255) (hS:=hHeld) (h:= ?_)
  refine take1 9 49 (bb 15 767) (hy:=Or.inl ⟨by rfl,by rintro w' ⟨s0,s1,s2,s3,s4,_⟩;exact lR 5 s1 und_sf size_sf⟩) (hS:=hHeld) (h:= ?_)
  refine pure1 10 50 (bb 15 1791) (h:= ?_)
  refine pure1 11 51 (bb 15 3839) (h:= ?_)
  refine on_ 8 (some 48) (bb 15 4095) (h:=fun K hK=> ?_)
  refine goes_ Try.func274 zq27 rfl #[.agg (smC (.slice A0 p.length c0) fuel (m) (.slice tA m.trace.length tc) (.slice sA m.seen.length sc)).toArray,.int .i64 2,.int .i64 (f),.int .i64 (sreg c b)] (by rfl) rfl rfl zq84 ?_
  refine(l2Tell.calls _ W0.heap.size A0 p.length c0 fuel m (.slice tA m.trace.length tc) (.slice sA m.seen.length sc) 2 (f) (sreg c b) HS.out (Nat.le_trans HB.out.size KP.out.size) (by have:=HN.out;omega)).mono ?_
  rintro e wz ⟨tv2,rfl,hS2,hN2,hK2⟩
  refine⟨_,rfl,?_⟩
  have HNW:=Z (New.trans (New.refl w (.slice tA m.trace.length tc)) hN2 KP.out.size)
  replace HD:=Z (HD.out.kept HS.out HAP.out hK2.weak)
  replace HS:=Z (hS2)
  replace KP:=Z (KP.out.trans (hK2.weak (sv:= .slice sA m.seen.length sc)) (New.refl _ _) (New.refl _ _))
  replace Gg4:=Z (hK2.blk _ _ Gg4.out (free_tv HT0.out Lg4) (free_tv HT0.out Lg4))
  replace Gg5:=Z (hK2.blk _ _ Gg5.out (free_tv HT0.out Lg5) (free_tv HT0.out Lg5))
  replace Gg7:=Z (hK2.blk _ _ Gg7.out (free_tv HT0.out Lg7) (free_tv HT0.out Lg7))
  replace Gg8:=Z (hK2.blk _ _ Gg8.out (free_tv HT0.out Lg8) (free_tv HT0.out Lg8))
  replace Gg9:=Z (hK2.blk _ _ Gg9.out (free_tv HT0.out Lg9) (free_tv HT0.out Lg9))
  clear hS2 hN2 hK2
  obtain⟨uA,uc,hu⟩:=own_slice HS.out.tr
  have hu':tv2= .slice uA (m.trace.length+1) uc:=by rw [hu];show Value.slice _ (m.trace++ [_]).length _=_;rw [len1]
  clear hu
  subst hu'
  refine hK.out _ _ ⟨Gg4.out,Gg5.out,(blk_cell Gg7.out 1).trans rfl,(blk_cell Gg7.out 2).trans rfl,(blk_cell Gg5.out (2+b)).trans (sfC_reg { c with defers:=c.defers++ [(f,sreg c b)] } (.slice fA (c.defers.length+1) fc) b hb4),trivial⟩ (fun hHeld=> ?_)
  clear hK K
  refine nm 48 (h:= ?_)
  refine on_ 12 none (bb 15 8191) (h:=fun K hK=> ?_)
  refine sto Gg8.out size_sm (smC_one ..) (h:= ?_)
  intro x11 hc_ hev
  replace HS:=rs HS hev
  replace KP:=kv KP hev
  replace Gg4:=hev.b' Gg4 (ne_some NE_g4_g8)
  replace Gg5:=hev.b Gg5
  replace Gg7:=hev.b Gg7
  replace Gg8:=Z (hc_)
  replace Gg9:=hev.b Gg9
  replace HD:=dv HD hev
  clear hc_ hev
  refine hK.out _ _ ⟨Gg4.out,Gg5.out,(blk_cell Gg7.out 1).trans rfl,(blk_cell Gg7.out 2).trans rfl,(blk_cell Gg5.out (2+b)).trans (sfC_reg { c with defers:=c.defers++ [(f,sreg c b)] } (.slice fA (c.defers.length+1) fc) b hb4),trivial⟩ (fun hHeld=> ?_)
  clear hK K
  refine la 13 none (bb 15 16383) (h:=fun K hK=> ?_)
  refine sto Gg9.out size_sf (sfC_one ..) (h:= ?_)
  intro x12 hc_ hev
  replace HS:=rs HS hev
  replace KP:=kv KP hev
  replace Gg4:=hev.b Gg4
  replace Gg5:=hev.b' Gg5 (ne_some NE_g5_g9)
  replace Gg7:=hev.b Gg7
  replace Gg8:=hev.b Gg8
  replace Gg9:=Z (hc_)
  replace HD:=dv HD hev
  clear hc_ hev
  refine hK.out _ _ ?_
  clear hK K
  refine pure1 14 10 (bb 15 32767) (h:= ?_)
  refine done_ zq27 ?_
  go_wp2_with (fail)
  refine bodyPost_ret (results_cct rfl _ _ g8 g9 167 169 (smC (.slice A0 p.length c0) fuel (stell m 2 f (sreg c b)) (.slice uA (m.trace.length+1) uc) (.slice sA m.seen.length sc)).toArray (sfC ({ c with defers:=c.defers++ [(f,sreg c b)] }) (.slice fA (c.defers.length+1) fc)).toArray (0,0) (0,0) _ _ rfl Gg8.out und_sm rfl size_sm rfl Gg9.out und_sf rfl size_sf rfl) rfl ?_
  subst hq
  exact⟨_,_,_,_,_,by rw [HAT.out];rfl,HS.out,HNW.out,New.refl _ _,HD.out,HAP.out,KP.out⟩
 by_cases k10:K=10
 ·skip
  subst k10
  have hq:=HQ.out
  rw [makeS_10 rfl] at hq
  have qk:x5.cell? ⟨g5,7,none⟩=some (.int .i64 c.kind):=(blk_cell Gg5.out (7)).trans (rfl);have zqk:=blk_frozen Gg5.out (7)
  go_upto_region 16 with(fail)
  clear qk zqk
  have hev:=Evt.set Gg5.out (7) (.int .i64 3)
  replace HS:=rs HS hev
  replace KP:=kv KP hev
  replace HD:=dv HD hev
  replace Gg4:=hev.b Gg4
  replace Gg5:=Z ((blk_set Gg5.out (7) (.int .i64 3)).trans (show _=some (Obj.cells (sfC ({ c with kind:=3 }) (.slice dA dn dc)).toArray 169 (0,0)) from rfl))
  replace Gg7:=hev.b Gg7
  replace Gg8:=hev.b Gg8
  replace Gg9:=hev.b' Gg9 (ne_some' NE_g5_g9)
  clear hev
  generalize x5.setCell ⟨g5,7,none⟩ (.int .i64 3)=x6 at HS KP HD Gg4 Gg5 Gg7 Gg8 Gg9 ⊢
  have ql:x6.cell? ⟨g5,9,none⟩=some (.bool c.leaving):=(blk_cell Gg5.out (9)).trans (rfl);have zql:=blk_frozen Gg5.out (9)
  go_upto_region 17 with(fail)
  clear ql zql
  have hev:=Evt.set Gg5.out (9) (.bool true)
  replace HS:=rs HS hev
  replace KP:=kv KP hev
  replace HD:=dv HD hev
  replace Gg4:=hev.b Gg4
  replace Gg5:=Z ((blk_set Gg5.out (9) (.bool true)).trans (show _=some (Obj.cells (sfC ({ c with kind:=3,leaving:=true }) (.slice dA dn dc)).toArray 169 (0,0)) from rfl))
  replace Gg7:=hev.b Gg7
  replace Gg8:=hev.b Gg8
  replace Gg9:=hev.b' Gg9 (ne_some' NE_g5_g9)
  clear hev
  generalize x6.setCell ⟨g5,9,none⟩ (.bool true)=x7 at HS KP HD Gg4 Gg5 Gg7 Gg8 Gg9 ⊢
  have hE0_:=Evt.drew x7 292
  replace HS:=Z (HS.out.ev (Evt.drew x7 0))
  replace KP:=Z (KP.out.ev (Evt.drew x7 0) (fun q e=>zq121))
  replace HD:=Z (HD.out.ev (Evt.drew x7 0))
  replace Gg4:=(Evt.drew x7 0).b Gg4
  replace Gg5:=(Evt.drew x7 0).b Gg5
  replace Gg7:=(Evt.drew x7 0).b Gg7
  replace Gg8:=(Evt.drew x7 0).b Gg8
  replace Gg9:=(Evt.drew x7 0).b Gg9
  clear hE0_
  refine start_ (n:=5) (S:=fun w'=>w'.heap[g4]? =some (.cells (smC (.slice A0 p.length c0) fuel (m) (.slice tA m.trace.length tc) (.slice sA m.seen.length sc)).toArray 167 (0,0))∧w'.heap[g5]? =some (.cells (sfC ({ c with kind:=3,leaving:=true }) (.slice dA dn dc)).toArray 169 (0,0))∧True) (ds:= [3]) (bb 5 0) zq27 rfl rfl ⟨Gg4.out,Gg5.out,trivial⟩ (fun hHeld=> ?_)
  generalize x7.drew=x8 at HS KP HD Gg4 Gg5 Gg7 Gg8 Gg9 hHeld ⊢
  refine take1 0 83 (bb 5 1) (hy:=Or.inl ⟨by rfl,zq99⟩) (hS:=hHeld) (h:= ?_)
  refine take1 1 84 (bb 5 3) (hy:=Or.inl ⟨by rfl,zq100⟩) (hS:=hHeld) (h:= ?_)
  refine on_ 2 none (bb 5 7) (h:=fun K hK=> ?_)
  refine sto Gg8.out size_sm (smC_one ..) (h:= ?_)
  intro x9 hc_ hev
  replace HS:=rs HS hev
  replace KP:=kv KP hev
  replace HD:=dv HD hev
  replace Gg4:=hev.b' Gg4 (ne_some NE_g4_g8)
  replace Gg5:=hev.b Gg5
  replace Gg7:=hev.b Gg7
  replace Gg8:=Z (hc_)
  replace Gg9:=hev.b Gg9
  clear hc_ hev
  refine hK.out _ _ ⟨Gg4.out,Gg5.out,trivial⟩ (fun hHeld=> ?_)
  clear hK K
  refine la 3 none (bb 5 15) (h:=fun K hK=> ?_)
  refine sto Gg9.out size_sf (sfC_one ..) (h:= ?_)
  intro x10 hc_ hev
  replace HS:=rs HS hev
  replace KP:=kv KP hev
  replace HD:=dv HD hev
  replace Gg4:=hev.b Gg4
  replace Gg5:=hev.b' Gg5 (ne_some NE_g5_g9)
  replace Gg7:=hev.b Gg7
  replace Gg8:=hev.b Gg8
  replace Gg9:=Z (hc_)
  clear hc_ hev
  refine hK.out _ _ ?_
  clear hK K
  refine pure1 4 10 (bb 5 31) (h:= ?_)
  refine done_ zq27 ?_
  go_wp2_with (fail)
  refine bodyPost_ret (results_cct rfl _ _ g8 g9 167 169 (smC (.slice A0 p.length c0) fuel (m) (.slice tA m.trace.length tc) (.slice sA m.seen.length sc)).toArray (sfC ({ c with kind:=3,leaving:=true }) (.slice dA dn dc)).toArray (0,0) (0,0) _ _ rfl Gg8.out und_sm rfl size_sm rfl Gg9.out und_sf rfl size_sf rfl) rfl ?_
  subst hq
  exact⟨_,_,_,_,_,rfl,HS.out,New.refl _ _,New.refl _ _,HD.out,HDA.out,KP.out⟩
 by_cases k11:K=11
 ·skip
  subst k11
  obtain⟨b,rfl⟩:=nat_of (HB2.out (.inr (.inr (.inr rfl)))).1
  have hb4:b<4:=(by have:=(HB2.out (.inr (.inr (.inr rfl)))).2;omega)
  have hb4i:(b:Int)<4:=zq90
  have hq:=HQ.out
  rw [makeS_11 rfl] at hq
  dsimp only at hq
  by_cases hx:0<sreg c (b:Int)
  ·rw [if_pos hx] at hq
   have p2:x5.cell? ⟨g7,2,none⟩=some (.int .i64 (b:Int)):=(blk_cell Gg7.out (2)).trans (rfl);have qb:x5.cell? ⟨g5,2+b,none⟩=some (.int .i64 (sreg c b)):=(blk_cell Gg5.out (2+b)).trans (sfC_reg c (.slice dA dn dc) b hb4)
   go_upto_region 20 with(fail)
   clear p2 qb
   have hE0_:=Evt.drew x5 292
   replace HS:=Z (HS.out.ev (Evt.drew x5 0))
   replace KP:=Z (KP.out.ev (Evt.drew x5 0) (fun q e=>zq121))
   replace HD:=Z (HD.out.ev (Evt.drew x5 0))
   replace Gg4:=(Evt.drew x5 0).b Gg4
   replace Gg5:=(Evt.drew x5 0).b Gg5
   replace Gg7:=(Evt.drew x5 0).b Gg7
   replace Gg8:=(Evt.drew x5 0).b Gg8
   replace Gg9:=(Evt.drew x5 0).b Gg9
   clear hE0_
   refine start_ (n:=7) (S:=fun w'=>w'.heap[g4]? =some (.cells (smC (.slice A0 p.length c0) fuel (m) (.slice tA m.trace.length tc) (.slice sA m.seen.length sc)).toArray 167 (0,0))∧w'.heap[g5]? =some (.cells (sfC (c) (.slice dA dn dc)).toArray 169 (0,0))∧w'.cell? ⟨g7,1,none⟩=some (.int .i64 x)∧True) (ds:= []) (bb 7 0) zq27 rfl rfl ⟨Gg4.out,Gg5.out,(blk_cell Gg7.out 1).trans rfl,trivial⟩ (fun hHeld=> ?_)
   generalize x5.drew=x6 at HS KP HD Gg4 Gg5 Gg7 Gg8 Gg9 hHeld ⊢
   refine take1 0 93 (bb 7 1) (hy:=Or.inl ⟨by rfl,by rintro w' ⟨s0,s1,s2,_⟩;exact lR 4 s0 und_sm size_sm⟩) (hS:=hHeld) (h:= ?_)
   refine take1 1 94 (bb 7 3) (hy:=Or.inl ⟨by rfl,by rintro w' ⟨s0,s1,s2,_⟩;exact lR 5 s1 und_sf size_sf⟩) (hS:=hHeld) (h:= ?_)
   refine pure1 2 95 (bb 7 7) (h:= ?_)
   refine take1 3 96 (bb 7 15) (hS:=hHeld) (h:= ?_)
   refine on_ 4 none (bb 7 31) (h:=fun K hK=> ?_)
   refine sto Gg8.out size_sm (smC_one ..) (h:= ?_)
   intro x7 hc_ hev
   replace HS:=rs HS hev
   replace KP:=kv KP hev
   replace HD:=dv HD hev
   replace Gg4:=hev.b' Gg4 (ne_some NE_g4_g8)
   replace Gg5:=hev.b Gg5
   replace Gg7:=hev.b Gg7
   replace Gg8:=Z (hc_)
   replace Gg9:=hev.b Gg9
   clear hc_ hev
   refine hK.out _ _ ⟨Gg4.out,Gg5.out,(blk_cell Gg7.out 1).trans rfl,trivial⟩ (fun hHeld=> ?_)
   clear hK K
   refine on_ 5 none (bb 7 63) (h:=fun K hK=> ?_)
   refine sto Gg9.out size_sf (sfC_one ..) (h:= ?_)
   intro x8 hc_ hev
   replace HS:=rs HS hev
   replace KP:=kv KP hev
   replace HD:=dv HD hev
   replace Gg4:=hev.b Gg4
   replace Gg5:=hev.b' Gg5 (ne_some NE_g5_g9)
   replace Gg7:=hev.b Gg7
   replace Gg8:=hev.b Gg8
   replace Gg9:=Z (hc_)
   clear hc_ hev
   refine hK.out _ _ ⟨Gg4.out,Gg5.out,(blk_cell Gg7.out 1).trans rfl,trivial⟩ (fun hHeld=> ?_)
   clear hK K
   refine pure1 6 10 (bb 7 127) (h:= ?_)
   refine done_ zq27 ?_
   go_wp2_with (fail)
   refine bodyPost_ret (results_cct rfl _ _ g8 g9 167 169 (smC (.slice A0 p.length c0) fuel (m) (.slice tA m.trace.length tc) (.slice sA m.seen.length sc)).toArray (sfC (c) (.slice dA dn dc)).toArray (0,0) (0,0) _ _ rfl Gg8.out und_sm rfl size_sm rfl Gg9.out und_sf rfl size_sf rfl) rfl ?_
   subst hq
   exact⟨_,_,_,_,_,rfl,HS.out,New.refl _ _,New.refl _ _,HD.out,HDA.out,KP.out⟩
  ·rw [if_neg hx] at hq
   have p2:x5.cell? ⟨g7,2,none⟩=some (.int .i64 (b:Int)):=(blk_cell Gg7.out (2)).trans (rfl);have qb:x5.cell? ⟨g5,2+b,none⟩=some (.int .i64 (sreg c b)):=(blk_cell Gg5.out (2+b)).trans (sfC_reg c (.slice dA dn dc) b hb4)
   go_upto_region 21 with(fail)
   clear p2 qb
   have hE0_:=Evt.drew x5 292
   replace HS:=Z (HS.out.ev (Evt.drew x5 0))
   replace KP:=Z (KP.out.ev (Evt.drew x5 0) (fun q e=>zq121))
   replace HD:=Z (HD.out.ev (Evt.drew x5 0))
   replace Gg4:=(Evt.drew x5 0).b Gg4
   replace Gg5:=(Evt.drew x5 0).b Gg5
   replace Gg7:=(Evt.drew x5 0).b Gg7
   replace Gg8:=(Evt.drew x5 0).b Gg8
   replace Gg9:=(Evt.drew x5 0).b Gg9
   clear hE0_
   refine start_ (n:=7) (S:=fun w'=>w'.heap[g4]? =some (.cells (smC (.slice A0 p.length c0) fuel (m) (.slice tA m.trace.length tc) (.slice sA m.seen.length sc)).toArray 167 (0,0))∧w'.heap[g5]? =some (.cells (sfC (c) (.slice dA dn dc)).toArray 169 (0,0))∧True) (ds:= [5]) (bb 7 0) zq27 rfl rfl ⟨Gg4.out,Gg5.out,trivial⟩ (fun hHeld=> ?_)
   generalize x5.drew=x6 at HS KP HD Gg4 Gg5 Gg7 Gg8 Gg9 hHeld ⊢
   refine take1 0 97 (bb 7 1) (hy:=Or.inl ⟨by rfl,zq99⟩) (hS:=hHeld) (h:= ?_)
   refine take1 1 98 (bb 7 3) (hy:=Or.inl ⟨by rfl,zq100⟩) (hS:=hHeld) (h:= ?_)
   refine pure1 2 99 (bb 7 7) (h:= ?_)
   refine pure1 3 100 (bb 7 15) (h:= ?_)
   refine on_ 4 none (bb 7 31) (h:=fun K hK=> ?_)
   refine sto Gg8.out size_sm (smC_one ..) (h:= ?_)
   intro x7 hc_ hev
   replace HS:=rs HS hev
   replace KP:=kv KP hev
   replace HD:=dv HD hev
   replace Gg4:=hev.b' Gg4 (ne_some NE_g4_g8)
   replace Gg5:=hev.b Gg5
   replace Gg7:=hev.b Gg7
   replace Gg8:=Z (hc_)
   replace Gg9:=hev.b Gg9
   clear hc_ hev
   refine hK.out _ _ ⟨Gg4.out,Gg5.out,trivial⟩ (fun hHeld=> ?_)
   clear hK K
   refine la 5 none (bb 7 63) (h:=fun K hK=> ?_)
   refine sto Gg9.out size_sf (sfC_one ..) (h:= ?_)
   intro x8 hc_ hev
   replace HS:=rs HS hev
   replace KP:=kv KP hev
   replace HD:=dv HD hev
   replace Gg4:=hev.b Gg4
   replace Gg5:=hev.b' Gg5 (ne_some NE_g5_g9)
   replace Gg7:=hev.b Gg7
   replace Gg8:=hev.b Gg8
   replace Gg9:=Z (hc_)
   clear hc_ hev
   refine hK.out _ _ ?_
   clear hK K
   refine pure1 6 10 (bb 7 127) (h:= ?_)
   refine done_ zq27 ?_
   go_wp2_with (fail)
   refine bodyPost_ret (results_cct rfl _ _ g8 g9 167 169 (smC (.slice A0 p.length c0) fuel (m) (.slice tA m.trace.length tc) (.slice sA m.seen.length sc)).toArray (sfC (c) (.slice dA dn dc)).toArray (0,0) (0,0) _ _ rfl Gg8.out und_sm rfl size_sm rfl Gg9.out und_sf rfl size_sf rfl) rfl ?_
   subst hq
   exact⟨_,_,_,_,_,by rw [HAT.out];rfl,HS.out,New.refl _ _,New.refl _ _,HD.out,HDA.out,KP.out⟩
 by_cases k6:K=6
 ·skip
  subst k6
  obtain⟨a,rfl⟩:=nat_of (HA1.out k4 k5 k10 k11).1
  have ha4:a<4:=(by have:=(HA1.out k4 k5 k10 k11).2;omega)
  have ha4i:(a:Int)<4:=zq90
  have hq:=HQ.out
  rw [makeS_6 rfl] at hq
  have qk:x5.cell? ⟨g5,7,none⟩=some (.int .i64 c.kind):=(blk_cell Gg5.out (7)).trans (rfl);have zqk:=blk_frozen Gg5.out (7)
  go_upto_region 9 with(fail)
  clear qk zqk
  have hev:=Evt.set Gg5.out (7) (.int .i64 2)
  replace HS:=rs HS hev
  replace KP:=kv KP hev
  replace HD:=dv HD hev
  replace Gg4:=hev.b Gg4
  replace Gg5:=Z ((blk_set Gg5.out (7) (.int .i64 2)).trans (show _=some (Obj.cells (sfC ({ c with kind:=2 }) (.slice dA dn dc)).toArray 169 (0,0)) from rfl))
  replace Gg7:=hev.b Gg7
  replace Gg8:=hev.b Gg8
  replace Gg9:=hev.b' Gg9 (ne_some' NE_g5_g9)
  clear hev
  generalize x5.setCell ⟨g5,7,none⟩ (.int .i64 2)=x6 at HS KP HD Gg4 Gg5 Gg7 Gg8 Gg9 ⊢
  have p1:x6.cell? ⟨g7,1,none⟩=some (.int .i64 (a:Int)):=(blk_cell Gg7.out (1)).trans (rfl);have qa:x6.cell? ⟨g5,2+a,none⟩=some (.int .i64 (sreg c a)):=(blk_cell Gg5.out (2+a)).trans (sfC_reg { c with kind:=2 } (.slice dA dn dc) a ha4);have qv:x6.cell? ⟨g5,8,none⟩=some (.int .i64 c.value):=(blk_cell Gg5.out (8)).trans (rfl);have zqv:=blk_frozen Gg5.out (8)
  go_upto_region 10 with(fail)
  clear p1 qa qv zqv
  have hev:=Evt.set Gg5.out (8) (.int .i64 (sreg c a))
  replace HS:=rs HS hev
  replace KP:=kv KP hev
  replace HD:=dv HD hev
  replace Gg4:=hev.b Gg4
  replace Gg5:=Z ((blk_set Gg5.out (8) (.int .i64 (sreg c a))).trans (show _=some (Obj.cells (sfC ({ c with kind:=2,value:=sreg c a }) (.slice dA dn dc)).toArray 169 (0,0)) from rfl))
  replace Gg7:=hev.b Gg7
  replace Gg8:=hev.b Gg8
  replace Gg9:=hev.b' Gg9 (ne_some' NE_g5_g9)
  clear hev
  generalize x6.setCell ⟨g5,8,none⟩ (.int .i64 (sreg c a))=x7 at HS KP HD Gg4 Gg5 Gg7 Gg8 Gg9 ⊢
  have hE0_:=Evt.drew x7 292
  replace HS:=Z (HS.out.ev (Evt.drew x7 0))
  replace KP:=Z (KP.out.ev (Evt.drew x7 0) (fun q e=>zq121))
  replace HD:=Z (HD.out.ev (Evt.drew x7 0))
  replace Gg4:=(Evt.drew x7 0).b Gg4
  replace Gg5:=(Evt.drew x7 0).b Gg5
  replace Gg7:=(Evt.drew x7 0).b Gg7
  replace Gg8:=(Evt.drew x7 0).b Gg8
  replace Gg9:=(Evt.drew x7 0).b Gg9
  clear hE0_
  refine start_ (n:=10) (S:=fun w'=>w'.heap[g4]? =some (.cells (smC (.slice A0 p.length c0) fuel (m) (.slice tA m.trace.length tc) (.slice sA m.seen.length sc)).toArray 167 (0,0))∧w'.heap[g5]? =some (.cells (sfC ({ c with kind:=2,value:=sreg c a }) (.slice dA dn dc)).toArray 169 (0,0))∧w'.cell? ⟨g5,0,none⟩=some (.int .i64 c.f)∧w'.cell? ⟨g5,8,none⟩=some (.int .i64 (sreg c a))∧True) (ds:= [8]) (bb 10 0) zq27 rfl rfl ⟨Gg4.out,Gg5.out,(blk_cell Gg5.out 0).trans rfl,(blk_cell Gg5.out 8).trans rfl,trivial⟩ (fun hHeld=> ?_)
  generalize x7.drew=x8 at HS KP HD Gg4 Gg5 Gg7 Gg8 Gg9 hHeld ⊢
  refine take1 0 61 (bb 10 1) (hy:=Or.inl ⟨by rfl,by rintro w' ⟨s0,s1,s2,s3,_⟩;exact lR 4 s0 und_sm size_sm⟩) (hS:=hHeld) (h:= ?_)
  refine pure1 1 62 (bb 10 3) (h:= ?_)
  refine take1 2 63 (bb 10 7) (hS:=hHeld) (h:= ?_)
  refine pure1 3 64 (bb 10 15) (h:= ?_)
  refine take1 4 65 (bb 10 31) (hS:=hHeld) (h:= ?_)
  refine take1 6 67 (bb 10 95) (hy:=Or.inl ⟨by rfl,by rintro w' ⟨s0,s1,s2,s3,_⟩;exact lR 5 s1 und_sf size_sf⟩) (hS:=hHeld) (h:= ?_)
  refine on_ 5 (some 66) (bb 10 127) (h:=fun K hK=> ?_)
  refine goes_ Try.func274 zq27 rfl #[.agg (smC (.slice A0 p.length c0) fuel (m) (.slice tA m.trace.length tc) (.slice sA m.seen.length sc)).toArray,.int .i64 5,.int .i64 (c.f),.int .i64 (sreg c a)] (by rfl) rfl rfl zq84 ?_
  refine(l2Tell.calls _ W0.heap.size A0 p.length c0 fuel m (.slice tA m.trace.length tc) (.slice sA m.seen.length sc) 5 (c.f) (sreg c a) HS.out (Nat.le_trans HB.out.size KP.out.size) (by have:=HN.out;omega)).mono ?_
  rintro e wz ⟨tv2,rfl,hS2,hN2,hK2⟩
  refine⟨_,rfl,?_⟩
  have HNW:=Z (New.trans (New.refl w (.slice tA m.trace.length tc)) hN2 KP.out.size)
  replace HD:=Z (HD.out.kept HS.out HDA.out hK2.weak)
  replace HS:=Z (hS2)
  replace KP:=Z (KP.out.trans (hK2.weak (sv:= .slice sA m.seen.length sc)) (New.refl _ _) (New.refl _ _))
  replace Gg4:=Z (hK2.blk _ _ Gg4.out (free_tv HT0.out Lg4) (free_tv HT0.out Lg4))
  replace Gg5:=Z (hK2.blk _ _ Gg5.out (free_tv HT0.out Lg5) (free_tv HT0.out Lg5))
  replace Gg7:=Z (hK2.blk _ _ Gg7.out (free_tv HT0.out Lg7) (free_tv HT0.out Lg7))
  replace Gg8:=Z (hK2.blk _ _ Gg8.out (free_tv HT0.out Lg8) (free_tv HT0.out Lg8))
  replace Gg9:=Z (hK2.blk _ _ Gg9.out (free_tv HT0.out Lg9) (free_tv HT0.out Lg9))
  clear hS2 hN2 hK2
  obtain⟨uA,uc,hu⟩:=own_slice HS.out.tr
  have hu':tv2= .slice uA (m.trace.length+1) uc:=by rw [hu];show Value.slice _ (m.trace++ [_]).length _=_;rw [len1]
  clear hu
  subst hu'
  refine hK.out _ _ ⟨Gg4.out,Gg5.out,(blk_cell Gg5.out 0).trans rfl,(blk_cell Gg5.out 8).trans rfl,trivial⟩ (fun hHeld=> ?_)
  clear hK K
  refine nm 66 (h:= ?_)
  refine on_ 7 none (bb 10 255) (h:=fun K hK=> ?_)
  refine sto Gg8.out size_sm (smC_one ..) (h:= ?_)
  intro x9 hc_ hev
  replace HS:=rs HS hev
  replace KP:=kv KP hev
  replace HD:=dv HD hev
  replace Gg4:=hev.b' Gg4 (ne_some NE_g4_g8)
  replace Gg5:=hev.b Gg5
  replace Gg7:=hev.b Gg7
  replace Gg8:=Z (hc_)
  replace Gg9:=hev.b Gg9
  clear hc_ hev
  refine hK.out _ _ ⟨Gg4.out,Gg5.out,(blk_cell Gg5.out 0).trans rfl,(blk_cell Gg5.out 8).trans rfl,trivial⟩ (fun hHeld=> ?_)
  clear hK K
  refine la 8 none (bb 10 511) (h:=fun K hK=> ?_)
  refine sto Gg9.out size_sf (sfC_one ..) (h:= ?_)
  intro x10 hc_ hev
  replace HS:=rs HS hev
  replace KP:=kv KP hev
  replace HD:=dv HD hev
  replace Gg4:=hev.b Gg4
  replace Gg5:=hev.b' Gg5 (ne_some NE_g5_g9)
  replace Gg7:=hev.b Gg7
  replace Gg8:=hev.b Gg8
  replace Gg9:=Z (hc_)
  clear hc_ hev
  refine hK.out _ _ ?_
  clear hK K
  refine pure1 9 10 (bb 10 1023) (h:= ?_)
  refine done_ zq27 ?_
  go_wp2_with (fail)
  refine bodyPost_ret (results_cct rfl _ _ g8 g9 167 169 (smC (.slice A0 p.length c0) fuel (stell m 5 c.f (sreg c a)) (.slice uA (m.trace.length+1) uc) (.slice sA m.seen.length sc)).toArray (sfC ({ c with kind:=2,value:=sreg c a }) (.slice dA dn dc)).toArray (0,0) (0,0) _ _ rfl Gg8.out und_sm rfl size_sm rfl Gg9.out und_sf rfl size_sf rfl) rfl ?_
  subst hq
  exact⟨_,_,_,_,_,rfl,HS.out,HNW.out,New.refl _ _,HD.out,HDA.out,KP.out⟩
 by_cases k8:K=8
 ·skip
  subst k8
  obtain⟨a,rfl⟩:=nat_of (HA1.out k4 k5 k10 k11).1
  have ha4:a<4:=(by have:=(HA1.out k4 k5 k10 k11).2;omega)
  have ha4i:(a:Int)<4:=zq90
  have hq:=HQ.out
  rw [makeS_8 rfl] at hq
  have p1:x5.cell? ⟨g7,1,none⟩=some (.int .i64 (a:Int)):=(blk_cell Gg7.out (1)).trans (rfl);have qa:x5.cell? ⟨g5,2+a,none⟩=some (.int .i64 (sreg c a)):=(blk_cell Gg5.out (2+a)).trans (sfC_reg c (.slice dA dn dc) a ha4);have qr:x5.cell? ⟨g5,3,none⟩=some (.int .i64 c.r1):=(blk_cell Gg5.out (3)).trans (rfl);have zqr:=blk_frozen Gg5.out (3)
  go_upto_region 13 with(fail)
  clear p1 qa qr zqr
  have hev:=Evt.set Gg5.out (3) (.int .i64 (sreg c a))
  replace HS:=rs HS hev
  replace KP:=kv KP hev
  replace HD:=dv HD hev
  replace Gg4:=hev.b Gg4
  replace Gg5:=Z ((blk_set Gg5.out (3) (.int .i64 (sreg c a))).trans (show _=some (Obj.cells (sfC ({ c with r1:=sreg c a }) (.slice dA dn dc)).toArray 169 (0,0)) from rfl))
  replace Gg7:=hev.b Gg7
  replace Gg8:=hev.b Gg8
  replace Gg9:=hev.b' Gg9 (ne_some' NE_g5_g9)
  clear hev
  generalize x5.setCell ⟨g5,3,none⟩ (.int .i64 (sreg c a))=x6 at HS KP HD Gg4 Gg5 Gg7 Gg8 Gg9 ⊢
  have hE0_:=Evt.drew x6 292
  replace HS:=Z (HS.out.ev (Evt.drew x6 0))
  replace KP:=Z (KP.out.ev (Evt.drew x6 0) (fun q e=>zq121))
  replace HD:=Z (HD.out.ev (Evt.drew x6 0))
  replace Gg4:=(Evt.drew x6 0).b Gg4
  replace Gg5:=(Evt.drew x6 0).b Gg5
  replace Gg7:=(Evt.drew x6 0).b Gg7
  replace Gg8:=(Evt.drew x6 0).b Gg8
  replace Gg9:=(Evt.drew x6 0).b Gg9
  clear hE0_
  refine start_ (n:=5) (S:=fun w'=>w'.heap[g4]? =some (.cells (smC (.slice A0 p.length c0) fuel (m) (.slice tA m.trace.length tc) (.slice sA m.seen.length sc)).toArray 167 (0,0))∧w'.heap[g5]? =some (.cells (sfC ({ c with r1:=sreg c a }) (.slice dA dn dc)).toArray 169 (0,0))∧True) (ds:= [3]) (bb 5 0) zq27 rfl rfl ⟨Gg4.out,Gg5.out,trivial⟩ (fun hHeld=> ?_)
  generalize x6.drew=x7 at HS KP HD Gg4 Gg5 Gg7 Gg8 Gg9 hHeld ⊢
  refine take1 0 77 (bb 5 1) (hy:=Or.inl ⟨by rfl,zq99⟩) (hS:=hHeld) (h:= ?_)
  refine take1 1 78 (bb 5 3) (hy:=Or.inl ⟨by rfl,zq100⟩) (hS:=hHeld) (h:= ?_)
  refine on_ 2 none (bb 5 7) (h:=fun K hK=> ?_)
  refine sto Gg8.out size_sm (smC_one ..) (h:= ?_)
  intro x8 hc_ hev
  replace HS:=rs HS hev
  replace KP:=kv KP hev
  replace HD:=dv HD hev
  replace Gg4:=hev.b' Gg4 (ne_some NE_g4_g8)
  replace Gg5:=hev.b Gg5
  replace Gg7:=hev.b Gg7
  replace Gg8:=Z (hc_)
  replace Gg9:=hev.b Gg9
  clear hc_ hev
  refine hK.out _ _ ⟨Gg4.out,Gg5.out,trivial⟩ (fun hHeld=> ?_)
  clear hK K
  refine la 3 none (bb 5 15) (h:=fun K hK=> ?_)
  refine sto Gg9.out size_sf (sfC_one ..) (h:= ?_)
  intro x9 hc_ hev
  replace HS:=rs HS hev
  replace KP:=kv KP hev
  replace HD:=dv HD hev
  replace Gg4:=hev.b Gg4
  replace Gg5:=hev.b' Gg5 (ne_some NE_g5_g9)
  replace Gg7:=hev.b Gg7
  replace Gg8:=hev.b Gg8
  replace Gg9:=Z (hc_)
  clear hc_ hev
  refine hK.out _ _ ?_
  clear hK K
  refine pure1 4 10 (bb 5 31) (h:= ?_)
  refine done_ zq27 ?_
  go_wp2_with (fail)
  refine bodyPost_ret (results_cct rfl _ _ g8 g9 167 169 (smC (.slice A0 p.length c0) fuel (m) (.slice tA m.trace.length tc) (.slice sA m.seen.length sc)).toArray (sfC ({ c with r1:=sreg c a }) (.slice dA dn dc)).toArray (0,0) (0,0) _ _ rfl Gg8.out und_sm rfl size_sm rfl Gg9.out und_sf rfl size_sf rfl) rfl ?_
  subst hq
  exact⟨_,_,_,_,_,rfl,HS.out,New.refl _ _,New.refl _ _,HD.out,HDA.out,KP.out⟩
 rcases hi:simpleS m c ⟨K,x,y⟩ with⟨m2,c2⟩
 have HDF:=Z (show c2.defers=c.defers from(by have h:=HDFS.out;rw [hi] at h;exact h))
 have hq:=HQ.out
 rw [makeS_s k4 k5 k6 k8 k10 k11,hi] at hq
 go_upto_region 22 with(fail)
 go_upto_region 23 with(first|(refine lr 102 Gg4.out und_sm size_sm (h:= ?_))|(refine lr 103 Gg5.out und_sf size_sf (h:= ?_))|(refine lr 104 Gg7.out und_st size_st (h:= ?_)))
 refine((show Calls Try.prog 297 #[.agg (smC (.slice A0 p.length c0) fuel m (.slice tA m.trace.length tc) (.slice sA m.seen.length sc)).toArray,.agg (sfC c (.slice dA dn dc)).toArray,.agg #[.int .i64 K,.int .i64 x,.int .i64 y]] _ fun e w'=>SimplePost _ w' W0.heap.size (.slice A0 p.length c0) fuel (.slice tA m.trace.length tc) (.slice sA m.seen.length sc) (.slice dA dn dc) (m2,c2) e from by rw [← hi];exact HSI.out _ HS.out (KP.out.bel HB.out H0.out) k4 k5 k6 k8 k10 k11)).mono ?_
 rintro e wz ⟨tv2,rfl,hS2,hT2,hK2⟩
 have HNT:=Z (New.trans (New.refl w (.slice tA m.trace.length tc)) hT2 KP.out.size)
 replace HD:=Z (HD.out.kept HS.out HDA.out hK2.weak)
 replace HS:=Z (hS2)
 replace KP:=Z (KP.out.trans (hK2.weak (sv:= .slice sA m.seen.length sc)) (New.refl _ _) (New.refl _ _))
 replace Gg4:=Z (hK2.blk _ _ Gg4.out (free_tv HT0.out Lg4) (free_tv HT0.out Lg4))
 replace Gg5:=Z (hK2.blk _ _ Gg5.out (free_tv HT0.out Lg5) (free_tv HT0.out Lg5))
 replace Gg7:=Z (hK2.blk _ _ Gg7.out (free_tv HT0.out Lg7) (free_tv HT0.out Lg7))
 replace Gg8:=Z (hK2.blk _ _ Gg8.out (free_tv HT0.out Lg8) (free_tv HT0.out Lg8))
 replace Gg9:=Z (hK2.blk _ _ Gg9.out (free_tv HT0.out Lg9) (free_tv HT0.out Lg9))
 clear hS2 hT2 hK2
 obtain⟨uA,uc,hu⟩:=own_slice HS.out.tr
 subst hu
 go_upto_region 23 with(first|(refine ag 4 (smC (.slice A0 p.length c0) fuel (m2) (.slice uA m2.trace.length uc) (.slice sA m.seen.length sc)).toArray Gg4.out size_sm (h:= ?_);intro x6 hbox hev;replace HS:=rs HS hev;replace KP:=kv KP hev;replace HD:=dv HD hev;replace Gg5:=hev.b Gg5;replace Gg7:=hev.b Gg7;replace Gg8:=hev.b' Gg8 (ne_some' NE_g4_g8);replace Gg9:=hev.b Gg9;clear Gg4;have Gg4:=am hbox;clear hbox hev)|(refine ag 5 (sfC (c2) (.slice dA dn dc)).toArray Gg5.out size_sf (h:= ?_);intro x7 hbox hev;replace HS:=rs HS hev;replace KP:=kv KP hev;replace HD:=dv HD hev;replace Gg4:=hev.b Gg4;replace Gg7:=hev.b Gg7;replace Gg8:=hev.b Gg8;replace Gg9:=hev.b' Gg9 (ne_some' NE_g5_g9);clear Gg5;have Gg5:=am hbox;clear hbox hev))
 have hE0_:=Evt.drew x7 292
 replace HS:=Z (HS.out.ev (Evt.drew x7 0))
 replace KP:=Z (KP.out.ev (Evt.drew x7 0) (fun q e=>zq121))
 replace HD:=Z (HD.out.ev (Evt.drew x7 0))
 replace Gg4:=(Evt.drew x7 0).b Gg4
 replace Gg5:=(Evt.drew x7 0).b Gg5
 replace Gg7:=(Evt.drew x7 0).b Gg7
 replace Gg8:=(Evt.drew x7 0).b Gg8
 replace Gg9:=(Evt.drew x7 0).b Gg9
 clear hE0_
 refine start_ (n:=7) (S:=fun w'=>w'.heap[g4]? =some (.cells (smC (.slice A0 p.length c0) fuel (m2) (.slice uA m2.trace.length uc) (.slice sA m.seen.length sc)).toArray 167 (0,0))∧w'.heap[g5]? =some (.cells (sfC (c2) (.slice dA dn dc)).toArray 169 (0,0))∧True) (ds:= [5]) (bb 7 0) zq27 rfl rfl ⟨Gg4.out,Gg5.out,trivial⟩ (fun hHeld=> ?_)
 generalize x7.drew=x8 at HS KP HD Gg4 Gg5 Gg7 Gg8 Gg9 hHeld ⊢
 refine take1 0 108 (bb 7 1) (hy:=Or.inl ⟨by rfl,zq99⟩) (hS:=hHeld) (h:= ?_)
 refine take1 1 109 (bb 7 3) (hy:=Or.inl ⟨by rfl,zq100⟩) (hS:=hHeld) (h:= ?_)
 refine pure1 2 110 (bb 7 7) (h:= ?_)
 refine pure1 3 111 (bb 7 15) (h:= ?_)
 refine on_ 4 none (bb 7 31) (h:=fun K hK=> ?_)
 refine sto Gg8.out size_sm (smC_one ..) (h:= ?_)
 intro x9 hc_ hev
 replace HS:=rs HS hev
 replace KP:=kv KP hev
 replace HD:=dv HD hev
 replace Gg4:=hev.b' Gg4 (ne_some NE_g4_g8)
 replace Gg5:=hev.b Gg5
 replace Gg7:=hev.b Gg7
 replace Gg8:=Z (hc_)
 replace Gg9:=hev.b Gg9
 clear hc_ hev
 refine hK.out _ _ ⟨Gg4.out,Gg5.out,trivial⟩ (fun hHeld=> ?_)
 clear hK K
 refine la 5 none (bb 7 63) (h:=fun K hK=> ?_)
 refine sto Gg9.out size_sf (sfC_one ..) (h:= ?_)
 intro x10 hc_ hev
 replace HS:=rs HS hev
 replace KP:=kv KP hev
 replace HD:=dv HD hev
 replace Gg4:=hev.b Gg4
 replace Gg5:=hev.b' Gg5 (ne_some NE_g5_g9)
 replace Gg7:=hev.b Gg7
 replace Gg8:=hev.b Gg8
 replace Gg9:=Z (hc_)
 clear hc_ hev
 refine hK.out _ _ ?_
 clear hK K
 refine pure1 6 10 (bb 7 127) (h:= ?_)
 refine done_ zq27 ?_
 go_wp2_with (fail)
 refine bodyPost_ret (results_cct rfl _ _ g8 g9 167 169 (smC (.slice A0 p.length c0) fuel (m2) (.slice uA m2.trace.length uc) (.slice sA m.seen.length sc)).toArray (sfC (c2) (.slice dA dn dc)).toArray (0,0) (0,0) _ _ rfl Gg8.out und_sm rfl size_sm rfl Gg9.out und_sf rfl size_sf rfl) rfl ?_
 subst hq
 exact⟨_,_,_,_,_,by rw [HAT.out];rfl,HS.out,HNT.out,New.refl _ _,by rw [HDF.out];exact HD.out,HDA.out,KP.out⟩
end Go.Proofs.Yteiafboknimgbaa.Pr.M
end

section
namespace Go.Proofs.Yteiafboknimgbaa.Pr.M
def Pl0(m m':MS):Prop:=(m'.places.length:Int)-m'.made=m.places.length-m.made
theorem Pl0.refl(m:MS):Pl0 m m:=rfl
theorem Pl0.trans {a b c:MS} (h:Pl0 a b)(k:Pl0 b c):Pl0 a c:=Eq.trans (show _=(b.places.length:Int)-b.made from k) h
theorem recoverI_pl(m:MS)(f:Fr)(par:Option Fr)(r:Int):Pl0 m (recoverI m f par r).1:=by
 unfold recoverI
 split
 ·split<;>exact rfl
 ·exact rfl
theorem stepI_pl(m:MS)(f:Fr)(par:Option Fr)(s:St):Pl0 m (stepI m f par s).1:=by
 let Q:MS×Fr×Option Fr×Bool→Prop:=fun r=>Pl0 m r.1
 have ite_: ∀ (b:Prop) [Decidable b] (x y:MS×Fr×Option Fr×Bool),Q x→Q y→Q (if b then x else y):=fun b _ x y hx hy=>by split;exact hx;exact hy
 show Q (stepI m f par s)
 unfold stepI
 refine ite_ _ _ _ rfl (ite_ _ _ _ rfl (ite_ _ _ _ rfl (ite_ _ _ _ rfl (ite_ _ _ _ rfl (ite_ _ _ _ (recoverI_pl _ _ _ _) (ite_ _ _ _ rfl (ite_ _ _ _ rfl (ite_ _ _ _ rfl (ite_ _ _ _ rfl (ite_ _ _ _ rfl rfl))))))))))
def RecPl(rec:MS→Int→Int→Option Fr→Bool→ResI):Prop:= ∀ m fn arg par dfr,Pl0 m (rec m fn arg par dfr).1
theorem body_pl {p:List (List St)} {fuel:Int} {rec:MS→Int→Int→Option Fr→Bool→ResI} (hrec:RecPl rec): ∀ (n:Nat)(m:MS)(f:Fr)(par:Option Fr)(at_:Nat),Pl0 m (bodyI rec p fuel n m f par at_).1:=by
 intro n
 induction n with
 |zero=>intro m f par at_;exact rfl
 |succ n ih =>
  intro m f par at_
  rw [bodyI]
  have h0:Pl0 m (madeI m f.fn at_):=by show(((_::m.places).length:Nat):Int)-(m.made+1)=_;rw [List.length_cons];omega
  cases hs:(p.getD f.fn.toNat [])[at_]? with
  |none=>exact rfl
  |some s =>
   dsimp only
   split
   ·exact rfl
   split
   ·exact h0.trans (ih _ _ _ _)
   split
   ·have h1:=hrec (madeI m f.fn at_) s.f1 (reg f s.f2) (some f) false
    generalize rec (madeI m f.fn at_) s.f1 (reg f s.f2) (some f) false=r at *
    obtain⟨m1,ro⟩:=r
    rcases ro with _|⟨d,_|f1⟩
    ·exact h0.trans h1
    ·exact h0.trans h1
    ·dsimp only
     split
     ·exact h0.trans (Pl0.trans h1 (ih _ _ _ _))
     ·exact h0.trans h1
   ·have h1:=stepI_pl (madeI m f.fn at_) f par s
    generalize stepI (madeI m f.fn at_) f par s=r at *
    obtain⟨m1,f1,par1,b⟩:=r
    cases b with
    |true=>exact h0.trans h1
    |false=>exact h0.trans (Pl0.trans h1 (ih _ _ _ _))
theorem behindI_pl(m:MS)(f d:Fr):Pl0 m (behindI m f d).1:=by
 unfold behindI
 dsimp only
 split
 ·split<;>exact rfl
 split
 ·split<;>exact rfl
 split<;>exact rfl
theorem runs_pl {rec:MS→Int→Int→Option Fr→Bool→ResI} (hrec:RecPl rec): ∀ (l:List (Int×Int))(m:MS)(f:Fr)(par:Option Fr),Pl0 m (runsI rec l m f par).1:=by
 intro l
 induction l with
 |nil=>intro m f par;exact rfl
 |cons x l ih =>
  intro m f par
  obtain⟨g,a⟩:=x
  rw [runsI]
  have h1:=hrec m g a (some { f with runs:=l.reverse }) true
  generalize rec m g a (some { f with runs:=l.reverse }) true=r at *
  obtain⟨m1,ro⟩:=r
  rcases ro with _|⟨d,_|f1⟩
  ·exact h1
  ·exact h1
  ·exact Pl0.trans h1 ((behindI_pl m1 f1 d).trans (ih _ _ _))
theorem finishI_pl(m:MS)(f:Fr):Pl0 m (finishI m f):=by
 unfold finishI tell
 dsimp only
 split<;>exact rfl
theorem call_pl {p:List (List St)} {fuel:Int} (R:Nat): ∀ d,RecPl (callI p fuel R d):=by
 intro d
 induction d with
 |zero=>intro m fn arg par dfr;exact rfl
 |succ d ih =>
  intro m fn arg par dfr
  rw [callI]
  have h1:=body_pl (p:=p) (fuel:=fuel) ih R (beginI m fn arg par dfr) (frameI m fn arg dfr) par 0
  have h0:Pl0 m (beginI m fn arg par dfr):=rfl
  generalize bodyI (callI p fuel R d) p fuel R (beginI m fn arg par dfr) (frameI m fn arg dfr) par 0=r at *
  obtain⟨m1,ro⟩:=r
  rcases ro with _|⟨f1,par1⟩
  ·exact h0.trans h1
  ·have h2:=runs_pl ih f1.runs.reverse m1 f1 par1
   dsimp only
   generalize runsI (callI p fuel R d) f1.runs.reverse m1 f1 par1=r at *
   obtain⟨m2,ro⟩:=r
   rcases ro with _|⟨f2,par2⟩
   ·exact h0.trans (Pl0.trans h1 h2)
   ·exact h0.trans (Pl0.trans h1 (Pl0.trans h2 (finishI_pl m2 f2)))
end Go.Proofs.Yteiafboknimgbaa.Pr.M
end
