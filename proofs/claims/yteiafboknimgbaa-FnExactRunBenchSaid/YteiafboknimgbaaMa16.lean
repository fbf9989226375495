import Derived.Test.YteiafboknimgbaaMa15
set_option maxHeartbeats 8000000
set_option maxRecDepth 100000
set_option linter.unusedVariables false
set_option linter.unusedSimpArgs false
section
namespace Go.Proofs.Yteiafboknimgbaa.Pr.M
open Go.RowKit Go.Proofs.W.PrintWords Go.Proofs.W.PrintLast Go.Proofs.W.PrintMore
theorem l2Last.calls(W0:World)(A0:Option Addr)(c0:Nat)(p:List (List St))(N fuel:Int)(R d:Nat)(hC:SCallC W0 A0 c0 p N fuel R d)(w:World)(m:SM)(c:SF)(tv sv:Value)(l:List (Int×Int))(g a:Int)(dA:Option Addr)(dn dc:Nat)(H:SRows w W0.heap.size m tv sv)
  (D:DRow w W0.heap.size (.slice dA dn dc) c.defers) (DA:ApartD (.slice dA dn dc) sv) (hbel:Below W0.heap.size W0 w)
  (hm:SMok fuel m) (hc:SFok N c) (hdf:c.defers=l.reverse++ [(g,a)]) (hl:l.length≤99000) (hsp:m.spent=false) (hd:d≤8) (hdep:c.depth+(d:Int)=8) (hroom:sroom fuel m 0+2≤90000) :
  Calls Try.prog 276 #[.agg (smC (.slice A0 p.length c0) fuel m tv sv).toArray,.agg (sfC c (.slice dA dn dc)).toArray] w fun e w'=>LastSP w w' W0.heap.size (.slice A0 p.length c0) fuel tv sv (lastS (callS p fuel R d) m c g a l.reverse) e:=by
 have hlen:c.defers.length=l.length+1:=by rw [hdf];simp
 unfold DRow at D
 obtain⟨gd,cap,hv,hb1,hcap,hcm⟩:=own_form D zq90
 rw [hlen] at D hv hcap
 rw [hdf] at D
 rw [hv] at D DA
 have hmem:=hc.df (g,a) (by rw [hdf];simp)
 rw [hv]
 unfold lastS
 rcases hr:callS p fuel R d m ⟨g,c.depth+1,a,0,0,0,[],0,0,false,true,decide (c.kind=2),if c.kind=2 then c.value else 0,false,c.r1⟩ with⟨m2,i2⟩
 refine l2Last_walk W0 A0 c0 p N fuel R d hC w m c tv sv l g a gd cap H D DA hbel hm hc hdf hl hsp hd hdep hroom hmem ⟨hcap,by simp only [maxLen] at hcm;omega⟩ (decide (c.kind=2)) (if c.kind=2 then c.value else 0) (fun h=>⟨decide_eq_true h,if_pos h⟩) (fun h=>⟨decide_eq_false h,if_neg h⟩) (by split;exact hc.nv;exact num0)
  m2 i2 (c.leaving||i2.leaving) (fun h=>by rw [h];rfl) (fun h=>by rw [h];rfl) (if i2.recovered=true then(if(c.leaving||i2.leaving)=true then 3 else 1) else c.kind) (if i2.kind=2 then 2 else if i2.recovered=true then(if(c.leaving||i2.leaving)=true then 3 else 1) else c.kind) (if i2.kind=2 then i2.value else c.value)
  (if i2.kind=3 then 3 else if i2.kind=2 then 2 else if i2.recovered=true then(if(c.leaving||i2.leaving)=true then 3 else 1) else c.kind)
  (fun h1 h2=>by rw [if_pos h1,if_pos h2]) (fun h1 h2=>by rw [if_pos h1,if_neg (by rw [h2];decide)]) (fun h=>if_neg (by rw [h];decide)) (fun h=>⟨if_pos h,if_pos h⟩) (fun h=>⟨if_neg h,if_neg h⟩) (fun h=>if_pos h) (fun h=>if_neg h) _ (fun h=> ?_) (fun h=> ?_) hr
 ·exact if_pos h
 ·exact if_neg (by rw [h];decide)
structure LI(w W W0:World)(A0v:Value)(fuel:Int)(m:SM)(c:SF)(tv0 sv0 tv sv dv:Value)(g2 g3 g4 g5:Nat):Prop where
 hs:SRows W W0.heap.size m tv sv
 hd:DRow W W0.heap.size dv c.defers
 ap:ApartD dv sv
 nt:New w tv0 tv
 nv:New w sv0 sv
 kp:KeptS tv0 sv0 w W
 b2:W.heap[g2]? =some (.cells (smC A0v fuel m tv sv).toArray 167 (0,0))
 b3:W.heap[g3]? =some (.cells (sfC c dv).toArray 169 (0,0))
 b4:W.heap[g4]? =some (.cells zsm 167 (0,0))
 b5:W.heap[g5]? =some (.cells zsf 169 (0,0))
structure LJ(N fuel:Int)(R d:Nat)(p:List (List St))(m0:SM)(c0:SF)(gg:Nat)(m:SM)(c:SF)(at_:Int):Prop where
 om:SMok fuel m
 oc:SFok N c
 sp:m.spent=false
 dep:c.depth=c0.depth
 fn:c.f=c0.f
 room:sroom fuel m c.defers.length+1≤90000
 left:(fuel-m.made).toNat<gg
 res:bodyS (callS p fuel R d) p fuel gg m c at_=bodyS (callS p fuel R d) p fuel R (beginS m0 c0) { c0 with kind:=1 } 0
structure LE(N fuel:Int)(R d:Nat)(p:List (List St))(m0:SM)(c0:SF)(m:SM)(c:SF):Prop where
 om:SMok fuel m
 oc:SFok N c
 sp:m.spent=false
 dep:c.depth=c0.depth
 fn:c.f=c0.f
 room:sroom fuel m c.defers.length+1≤90000
 res:bodyS (callS p fuel R d) p fuel R (beginS m0 c0) { c0 with kind:=1 } 0=(m,c)
structure LK(N fuel:Int)(R d:Nat)(p:List (List St))(c0:SF)(mE:SM)(cE:SF)(l:List (Int×Int))(m:SM)(c:SF):Prop where
 om:SMok fuel m
 oc:SFok N c
 sp:m.spent=false
 dep:c.depth=c0.depth
 fn:c.f=c0.f
 df:c.defers=l.reverse
 room:sroom fuel m l.length+1≤90000
 res:defersS (callS p fuel R d) l m c=defersS (callS p fuel R d) cE.defers.reverse mE cE
structure LF(N fuel:Int)(R d:Nat)(p:List (List St))(mE:SM)(cE:SF)(m:SM)(c:SF):Prop where
 om:SMok fuel m
 oc:SFok N c
 sp:m.spent=false
 room:sroom fuel m 0+1≤90000
 res:defersS (callS p fuel R d) cE.defers.reverse mE cE=(m,c)
section
variable {rec:SM→SF→SM×SF} {p:List (List St)} {fuel:Int} {n:Nat} {m m1 m2:SM} {c c1 c2:SF} {at_ a2:Int}
theorem bodyS_out(h: ¬(0≤at_∧at_<(p.getD c.f.toNat []).length)):bodyS rec p fuel (n+1) m c at_=(m,c):=by rw [bodyS];exact if_neg h
theorem bodyS_spent(h:0≤at_∧at_<(p.getD c.f.toNat []).length)(hm:m.made=fuel):bodyS rec p fuel (n+1) m c at_=({ m with spent:=true },c):=by rw [bodyS];exact(if_pos h).trans (if_pos hm)
theorem bodyS_stop(h:0≤at_∧at_<(p.getD c.f.toNat []).length)(hm: ¬ m.made=fuel)(hr:makeS rec (madeS m c.f at_) c at_ ((p.getD c.f.toNat []).getD at_.toNat ⟨0,0,0⟩)=(m2,c2,a2))(hs:m2.spent=true):bodyS rec p fuel (n+1) m c at_=(m2,c2):=by
 rw [bodyS];refine(if_pos h).trans ((if_neg hm).trans ?_);rw [hr];exact if_pos hs
theorem bodyS_go(h:0≤at_∧at_<(p.getD c.f.toNat []).length)(hm: ¬ m.made=fuel)(hr:makeS rec (madeS m c.f at_) c at_ ((p.getD c.f.toNat []).getD at_.toNat ⟨0,0,0⟩)=(m2,c2,a2))(hs:m2.spent=false):bodyS rec p fuel (n+1) m c at_=bodyS rec p fuel n m2 c2 a2:=by
 rw [bodyS];refine(if_pos h).trans ((if_neg hm).trans ?_);rw [hr];exact if_neg (by show ¬ m2.spent=true;rw [hs];decide)
theorem callS_body {R d:Nat} (h:bodyS (callS p fuel R d) p fuel R (beginS m c) { c with kind:=1 } 0=(m1,c1))(hs:m1.spent=true):callS p fuel R (d+1) m c=(m1,c1):=by
 rw [callS,h];exact if_pos hs
theorem callS_def {R d:Nat} (h:bodyS (callS p fuel R d) p fuel R (beginS m c) { c with kind:=1 } 0=(m1,c1))(hs:m1.spent=false)(h2:defersS (callS p fuel R d) c1.defers.reverse m1 c1=(m2,c2))(hs2:m2.spent=true):callS p fuel R (d+1) m c=(m2,c2):=by
 rw [callS,h];refine(if_neg (by rw [hs];decide)).trans ?_;rw [h2];exact if_pos hs2
theorem callS_end {R d:Nat} (h:bodyS (callS p fuel R d) p fuel R (beginS m c) { c with kind:=1 } 0=(m1,c1))(hs:m1.spent=false)(h2:defersS (callS p fuel R d) c1.defers.reverse m1 c1=(m2,c2))(hs2:m2.spent=false):callS p fuel R (d+1) m c=(endS m2 c2,c2):=by
 rw [callS,h];refine(if_neg (by rw [hs];decide)).trans ?_;rw [h2];exact if_neg (by rw [hs2];decide)
theorem defersS_stop {g a:Int} {l:List (Int×Int)} (h:lastS rec m c g a l.reverse=(m2,c2))(hs:m2.spent=true):defersS rec ((g,a)::l) m c=(m2,c2):=by rw [defersS,h];exact if_pos hs
theorem defersS_go {g a:Int} {l:List (Int×Int)} (h:lastS rec m c g a l.reverse=(m2,c2))(hs:m2.spent=false):defersS rec ((g,a)::l) m c=defersS rec l m2 c2:=by rw [defersS,h];exact if_neg (by rw [hs];decide)
theorem endS_1(h:c.kind=1):endS m c=stell m 7 c.f c.r1:=by unfold endS;rw [h];rfl
theorem endS_2(h:c.kind=2):endS m c=stell m 8 c.f c.value:=by unfold endS;rw [h];rfl
theorem endS_3(h:c.kind=3):endS m c=stell m 9 c.f 0:=by unfold endS;rw [h];rfl
theorem endS_0(h:c.kind=0):endS m c=m:=by unfold endS;rw [h];rfl
end
theorem l1Most.calls(w:World)(a b mx:Int)(h1:a<b→mx=b)(h2: ¬ a<b→mx=a):Calls Try.prog 192 #[.int .i64 a,.int .i64 b] w fun e w'=>e= .returned (.int .i64 mx)∧w=w':=by
 by_cases h:b<a
 ·have e:=h2 zq90
  subst e
  clear h1 h2
  go_enter Try.func192,Try.ntmps192
  go_wp2
  go_ret
  exact⟨rfl,rfl⟩
 ·have e:mx=b:=by
   by_cases h':a<b
   ·exact h1 h'
   ·rw [h2 h'];omega
  subst e
  clear h1 h2
  go_enter Try.func192,Try.ntmps192
  go_wp2
  go_ret
  exact⟨rfl,rfl⟩
theorem newK {w:World} {tv0 sv0 sv:Value} (h:New w sv0 sv): ∀ q,sv.ownBlock=some q→w.heap.size≤q∨some q=tv0.ownBlock∨some q=sv0.ownBlock:=by
 intro q e
 rcases h with h|⟨b,h,hb⟩
 ·exact .inr (.inr (by rw [← h,e]))
 ·rw [h] at e;injection e with e;subst e;exact .inl hb
theorem l2Call_zero(W0:World)(A0:Option Addr)(c0:Nat)(p:List (List St))(N fuel:Int)(R:Nat):SCallC W0 A0 c0 p N fuel R 0:=by
 intro w m c tv sv H hbel hm hc hdf hsp hdep hroom
 have hdp:8<c.depth:=by have h:c.depth+((0:Nat):Int)=9:=hdep;omega
 obtain⟨tA,tc,htv⟩:=own_slice H.tr
 obtain⟨sA,sc,hsv⟩:=own_slice H.se
 subst htv
 subst hsv
 have HS:=am H
 have KP:=Z (KeptS.refl (.slice tA m.trace.length tc) (.slice sA m.seen.length sc) w)
 clear H hbel hm hc hdf hsp hdep hroom
 go_enter Try.func233,Try.ntmps233
 go_upto_region 3 with(first|(refine bx 2 (smC (.slice A0 p.length c0) fuel (m) (.slice tA m.trace.length tc) (.slice sA m.seen.length sc)).toArray 167 (h:= ?_);intro g2 hg_ x1 hbox hbel;have Lg2:=lg hg_ KP.out.size;have hE_:=Evt.below hbel 0;replace HS:=rs HS hE_;replace KP:=kv KP hE_;have Gg2:=am hbox;clear hbel hbox hg_ hE_)|(refine bx 3 (sfC (c) (.slice none 0 0)).toArray 169 (h:= ?_);intro g3 hg_ x2 hbox hbel;have Lg3:=lg hg_ KP.out.size;have hE_:=Evt.below hbel 0;replace HS:=rs HS hE_;replace KP:=kv KP hE_;replace Gg2:=hE_.b Gg2;have Gg3:=am hbox;clear hbel hbox hg_ hE_)|(refine bx 4 zsm 167 (h:= ?_);intro g4 hg_ x3 hbox hbel;have Lg4:=lg hg_ KP.out.size;have NE_g2_g4:=nel hg_ Gg2.out;have hE_:=Evt.below hbel 0;replace HS:=rs HS hE_;replace KP:=kv KP hE_;replace Gg2:=hE_.b Gg2;replace Gg3:=hE_.b Gg3;have Gg4:=am hbox;clear hbel hbox hg_ hE_)|(refine bx 5 zsf 169 (h:= ?_);intro g5 hg_ x4 hbox hbel;have Lg5:=lg hg_ KP.out.size;have NE_g3_g5:=nel hg_ Gg3.out;have hE_:=Evt.below hbel 0;replace HS:=rs HS hE_;replace KP:=kv KP hE_;replace Gg2:=hE_.b Gg2;replace Gg3:=hE_.b Gg3;replace Gg4:=hE_.b Gg4;have Gg5:=am hbox;clear hbel hbox hg_ hE_;have qd:x4.cell? ⟨g3,1,none⟩=some (.int .i64 c.depth):=(blk_cell Gg3.out (1)).trans (rfl);have qs:x4.cell? ⟨g2,2,none⟩=some (.bool m.spent):=(blk_cell Gg2.out (2)).trans (rfl);have zqs:=blk_frozen Gg2.out (2)))
 clear qd qs zqs hdp
 have hev:=Evt.set Gg2.out (2) (.bool true)
 replace HS:=rs HS hev
 replace KP:=kv KP hev
 replace Gg2:=Z ((blk_set Gg2.out (2) (.bool true)).trans (show _=some (Obj.cells (smC (.slice A0 p.length c0) fuel ({ m with spent:=true }) (.slice tA m.trace.length tc) (.slice sA m.seen.length sc)).toArray 167 (0,0)) from rfl))
 replace Gg3:=hev.b Gg3
 replace Gg4:=hev.b' Gg4 (ne_some' NE_g2_g4)
 replace Gg5:=hev.b Gg5
 clear hev
 generalize x4.setCell ⟨g2,2,none⟩ (.bool true)=x5 at HS KP Gg2 Gg3 Gg4 Gg5 ⊢
 replace HS:=Z ((⟨HS.out.tr,HS.out.se⟩:SRows _ _ ({ m with spent:=true }) _ _))
 have hE0_:=Evt.drew x5 292
 replace HS:=Z (HS.out.ev (Evt.drew x5 0))
 replace KP:=Z (KP.out.ev (Evt.drew x5 0) (fun q e=>zq121))
 replace Gg2:=(Evt.drew x5 0).b Gg2
 replace Gg3:=(Evt.drew x5 0).b Gg3
 replace Gg4:=(Evt.drew x5 0).b Gg4
 replace Gg5:=(Evt.drew x5 0).b Gg5
 clear hE0_
 refine start_ (n:=4) (S:=fun w'=>w'.heap[g2]? =some (.cells (smC (.slice A0 p.length c0) fuel ({ m with spent:=true }) (.slice tA m.trace.length tc) (.slice sA m.seen.length sc)).toArray 167 (0,0))∧w'.heap[g3]? =some (.cells (sfC (c) (.slice none 0 0)).toArray 169 (0,0))∧True) (ds:= [3]) (bb 4 0) zq27 rfl rfl ⟨Gg2.out,Gg3.out,trivial⟩ (fun hHeld=> ?_)
 generalize x5.drew=x6 at HS KP Gg2 Gg3 Gg4 Gg5 hHeld ⊢
 refine take1 0 13 (bb 4 1) (hy:=Or.inl ⟨by rfl,zq95⟩) (hS:=hHeld) (h:= ?_)
 refine take1 1 14 (bb 4 3) (hy:=Or.inl ⟨by rfl,zq96⟩) (hS:=hHeld) (h:= ?_)
 refine on_ 2 none (bb 4 7) (h:=fun K hK=> ?_)
 refine sto Gg4.out size_sm (smC_one ..) (h:= ?_)
 intro x7 hc_ hev
 replace HS:=rs HS hev
 replace KP:=kv KP hev
 replace Gg2:=hev.b' Gg2 (ne_some NE_g2_g4)
 replace Gg3:=hev.b Gg3
 replace Gg4:=Z (hc_)
 replace Gg5:=hev.b Gg5
 clear hc_ hev
 refine hK.out _ _ ⟨Gg2.out,Gg3.out,trivial⟩ (fun hHeld=> ?_)
 clear hK K
 refine la 3 none (bb 4 15) (h:=fun K hK=> ?_)
 refine sto Gg5.out size_sf (sfC_one ..) (h:= ?_)
 intro x8 hc_ hev
 replace HS:=rs HS hev
 replace KP:=kv KP hev
 replace Gg2:=hev.b Gg2
 replace Gg3:=hev.b' Gg3 (ne_some NE_g3_g5)
 replace Gg4:=hev.b Gg4
 replace Gg5:=Z (hc_)
 clear hc_ hev
 refine hK.out _ _ ?_
 clear hK K
 refine done_ zq27 ?_
 go_wp2_with (fail)
 refine bodyPost_ret (results_cc rfl _ _ g4 g5 167 169 (smC (.slice A0 p.length c0) fuel ({ m with spent:=true }) (.slice tA m.trace.length tc) (.slice sA m.seen.length sc)).toArray (sfC (c) (.slice none 0 0)).toArray (0,0) (0,0) _ _ rfl Gg4.out und_sm rfl size_sm rfl Gg5.out und_sf rfl size_sf) rfl ?_
 show CallSP _ _ _ _ _ _ _ ({ m with spent:=true },c) _
 exact⟨_,_,_,_,_,rfl,HS.out,New.refl _ _,New.refl _ _,KP.out⟩
theorem l2Call_succ(W0:World)(A0:Option Addr)(c0:Nat)(p:List (List St))(N fuel:Int)(R d:Nat)(hPr:ProgAt W0 A0 c0 p N)(hC:SCallC W0 A0 c0 p N fuel R d)(hf0:0≤fuel∧fuel≤1000)(hfR:fuel<R)(hd:d≤7):SCallC W0 A0 c0 p N fuel R (d+1):=by
 intro w m c tv sv H hbel hm hc hdf hsp hdep hroom
 have hdp:c.depth+(d:Int)=8:=by have h:c.depth+((d+1:Nat):Int)=9:=hdep;omega
 obtain⟨tA,tc,htv⟩:=own_slice H.tr
 obtain⟨sA,sc,hsv⟩:=own_slice H.se
 subst htv
 subst hsv
 have HT0:=Z (own_lt H.tr)
 have HV0:=Z (own_lt H.se)
 have H0:=am H
 have HS:=am H
 have KP:=Z (KeptS.refl (.slice tA m.trace.length tc) (.slice sA m.seen.length sc) w)
 have HB:=am hbel
 have HM:=am hm
 have HF:=am hc
 have HC:=am hC
 have HPR:=am hPr
 have HDF:=am hdf
 have HSP:=am hsp
 have HDP:=am hdp
 have HRM:=am hroom
 have HFU:=am hf0
 have HFR:=am hfR
 have hdn: ¬ 8<c.depth:=by omega
 obtain⟨q,hq⟩:=nat_of hc.fn.1
 have hqN:q<p.length:=by have h1:=hc.fn.2;have h2:=hPr.len;omega
 have HQ:=am hq
 obtain⟨ad,A1,cb,hA0,hcell,hlen1,hrow⟩:=at_L4 hPr.c (q:Int) zq90 zq90
 simp only [Int.toNat_natCast] at hcell
 obtain⟨bd,hbd⟩: ∃ bd,bd=rd_L4 p (q:Int):=⟨_,rfl⟩
 rw [← hbd] at hcell hlen1 hrow
 have HBD:=am hbd
 have HROW:=am hrow
 have HCELL:=am hcell
 obtain⟨mx,hmx⟩: ∃ mx,mx=if m.deep<c.depth then c.depth else m.deep:=⟨_,rfl⟩
 obtain⟨kd,hkd⟩: ∃ kd:Int,kd=if c.deferred=true then 3 else 1:=⟨_,rfl⟩
 have HMB:=Z (show beginS m c=stell { m with deep:=mx } kd c.f c.r0 from by rw [hmx,hkd];rfl)
 have HMX:=am hmx
 have HKD:=am hkd
 clear hrow hcell hbd hmx hkd hq H hbel hm hc hdf hsp hdep hroom hC hPr hdp hf0 hfR
 subst hA0
 go_enter Try.func233,Try.ntmps233
 go_upto_region 5 with(first|(refine bx 2 (smC (.slice (some ad) p.length c0) fuel (m) (.slice tA m.trace.length tc) (.slice sA m.seen.length sc)).toArray 167 (h:= ?_);intro g2 hg_ x1 hbox hbel;have Lg2:=lg hg_ KP.out.size;have hE_:=Evt.below hbel 0;replace HS:=rs HS hE_;replace KP:=kv KP hE_;have Gg2:=am hbox;clear hbel hbox hg_ hE_)|(refine bx 3 (sfC (c) (.slice none 0 0)).toArray 169 (h:= ?_);intro g3 hg_ x2 hbox hbel;have Lg3:=lg hg_ KP.out.size;have hE_:=Evt.below hbel 0;replace HS:=rs HS hE_;replace KP:=kv KP hE_;replace Gg2:=hE_.b Gg2;have Gg3:=am hbox;clear hbel hbox hg_ hE_)|(refine bx 4 zsm 167 (h:= ?_);intro g4 hg_ x3 hbox hbel;have Lg4:=lg hg_ KP.out.size;have NE_g2_g4:=nel hg_ Gg2.out;have hE_:=Evt.below hbel 0;replace HS:=rs HS hE_;replace KP:=kv KP hE_;replace Gg2:=hE_.b Gg2;replace Gg3:=hE_.b Gg3;have Gg4:=am hbox;clear hbel hbox hg_ hE_)|(refine bx 5 zsf 169 (h:= ?_);intro g5 hg_ x4 hbox hbel;have Lg5:=lg hg_ KP.out.size;have NE_g3_g5:=nel hg_ Gg3.out;have hE_:=Evt.below hbel 0;replace HS:=rs HS hE_;replace KP:=kv KP hE_;replace Gg2:=hE_.b Gg2;replace Gg3:=hE_.b Gg3;replace Gg4:=hE_.b Gg4;have Gg5:=am hbox;clear hbel hbox hg_ hE_;have qd:x4.cell? ⟨g3,1,none⟩=some (.int .i64 c.depth):=(blk_cell Gg3.out (1)).trans (rfl);have qe:x4.cell? ⟨g2,5,none⟩=some (.int .i64 m.deep):=(blk_cell Gg2.out (5)).trans (rfl);have zqe:=blk_frozen Gg2.out (5)))
 refine(l1Most.calls _ m.deep c.depth mx (fun h=>HMX.out.trans (if_pos h)) (fun h=>HMX.out.trans (if_neg h))).mono ?_
 rintro e w1_ ⟨rfl,rfl⟩
 go_upto_region 5 with(fail)
 clear qd qe zqe hdn
 have hev:=Evt.set Gg2.out (5) (.int .i64 mx)
 replace HS:=rs HS hev
 replace KP:=kv KP hev
 replace Gg2:=Z ((blk_set Gg2.out (5) (.int .i64 mx)).trans (show _=some (Obj.cells (smC (.slice (some ad) p.length c0) fuel ({ m with deep:=mx }) (.slice tA m.trace.length tc) (.slice sA m.seen.length sc)).toArray 167 (0,0)) from rfl))
 replace Gg3:=hev.b Gg3
 replace Gg4:=hev.b' Gg4 (ne_some' NE_g2_g4)
 replace Gg5:=hev.b Gg5
 clear hev
 generalize x4.setCell ⟨g2,5,none⟩ (.int .i64 mx)=x5 at HS KP Gg2 Gg3 Gg4 Gg5 ⊢
 replace HS:=Z ((⟨HS.out.tr,HS.out.se⟩:SRows _ _ ({ m with deep:=mx }) _ _))
 have qf:x5.cell? ⟨g3,10,none⟩=some (.bool c.deferred):=(blk_cell Gg3.out (10)).trans (rfl)
 go_upto_if 22 with(fail)
 clear qf
 skip
 go_cut [6] from 9 (fun s6 wc=>s6= .int .i64 kd∧Aside0 (SRows wc W0.heap.size ({ m with deep:=mx }) (.slice tA m.trace.length tc) (.slice sA m.seen.length sc))∧Aside0 (KeptS (.slice tA m.trace.length tc) (.slice sA m.seen.length sc) w wc)∧Aside0 (wc.heap[g2]? =some (.cells (smC (.slice (some ad) p.length c0) fuel ({ m with deep:=mx }) (.slice tA m.trace.length tc) (.slice sA m.seen.length sc)).toArray 167 (0,0)))∧Aside0 (wc.heap[g3]? =some (.cells (sfC (c) (.slice none 0 0)).toArray 169 (0,0)))∧Aside0 (wc.heap[g4]? =some (.cells zsm 167 (0,0)))∧Aside0 (wc.heap[g5]? =some (.cells zsf 169 (0,0))))
 case first =>
  rcases Bool.eq_false_or_eq_true c.deferred with hde|hde
  ·skip
   rw [hde]
   go_wp2_with (fail)
   go_meet
   case rel=>exact⟨by rw [HKD.out,hde];rfl,HS,KP,Gg2,Gg3,Gg4,Gg5⟩
  ·skip
   rw [hde]
   go_wp2_with (fail)
   go_meet
   case rel=>exact⟨by rw [HKD.out,hde];rfl,HS,KP,Gg2,Gg3,Gg4,Gg5⟩
 clear HS KP Gg2 Gg3 Gg4 Gg5
 obtain⟨hslot6,HS,KP,Gg2,Gg3,Gg4,Gg5⟩:=hcut
 generalize wc=x6 at HS KP Gg2 Gg3 Gg4 Gg5 ⊢
 have q0:x6.cell? ⟨g3,0,none⟩=some (.int .i64 c.f):=(blk_cell Gg3.out (0)).trans (rfl);have q2:x6.cell? ⟨g3,2,none⟩=some (.int .i64 c.r0):=(blk_cell Gg3.out (2)).trans (rfl)
 go_upto_region 9 with(first|(refine lr 23 Gg2.out und_sm size_sm (h:= ?_)))
 refine(l2Tell.calls _ W0.heap.size (some ad) p.length c0 fuel ({ m with deep:=mx }) (.slice tA m.trace.length tc) (.slice sA m.seen.length sc) kd c.f c.r0 HS.out (Nat.le_trans HB.out.size KP.out.size) (by have h:=sroom_len HM.out (k:=0) (n:=90000) (by have:=HRM.out;omega);show m.trace.length≤_;omega)).mono ?_
 rintro e wz ⟨tv2,rfl,hS2,hN2,hK2⟩
 have HNT:=Z (New.trans (New.refl w (.slice tA m.trace.length tc)) hN2 KP.out.size)
 replace HS:=Z (hS2)
 replace KP:=Z (KP.out.trans (hK2.weak (sv:= .slice sA m.seen.length sc)) (New.refl _ _) (New.refl _ _))
 replace Gg2:=Z (hK2.blk _ _ Gg2.out (free_tv HT0.out Lg2) (free_tv HT0.out Lg2))
 replace Gg3:=Z (hK2.blk _ _ Gg3.out (free_tv HT0.out Lg3) (free_tv HT0.out Lg3))
 replace Gg4:=Z (hK2.blk _ _ Gg4.out (free_tv HT0.out Lg4) (free_tv HT0.out Lg4))
 replace Gg5:=Z (hK2.blk _ _ Gg5.out (free_tv HT0.out Lg5) (free_tv HT0.out Lg5))
 clear hS2 hN2 hK2 q0 q2
 obtain⟨uA,uc,hu⟩:=own_slice HS.out.tr
 have hu':tv2= .slice uA (m.trace.length+1) uc:=by rw [hu];show Value.slice _ (m.trace++ [_]).length _=_;rw [len1]
 clear hu
 subst hu'
 go_upto_region 10 with(first|(refine ag 2 (smC (.slice (some ad) p.length c0) fuel (stell { m with deep:=mx } kd c.f c.r0) (.slice uA (m.trace.length+1) uc) (.slice sA m.seen.length sc)).toArray Gg2.out size_sm (h:= ?_);intro x7 hbox hev;replace HS:=rs HS hev;replace KP:=kv KP hev;replace Gg3:=hev.b Gg3;replace Gg4:=hev.b' Gg4 (ne_some' NE_g2_g4);replace Gg5:=hev.b Gg5;clear Gg2;have Gg2:=am hbox;clear hbox hev;have qk:x7.cell? ⟨g3,7,none⟩=some (.int .i64 c.kind):=(blk_cell Gg3.out (7)).trans (rfl);have zqk:=blk_frozen Gg3.out (7)))
 clear qk zqk
 have hev:=Evt.set Gg3.out (7) (.int .i64 1)
 replace HS:=rs HS hev
 replace KP:=kv KP hev
 replace Gg2:=hev.b Gg2
 replace Gg3:=Z ((blk_set Gg3.out (7) (.int .i64 1)).trans (show _=some (Obj.cells (sfC ({ c with kind:=1 }) (.slice none 0 0)).toArray 169 (0,0)) from rfl))
 replace Gg4:=hev.b Gg4
 replace Gg5:=hev.b' Gg5 (ne_some' NE_g3_g5)
 clear hev
 generalize x7.setCell ⟨g3,7,none⟩ (.int .i64 1)=x8 at HS KP Gg2 Gg3 Gg4 Gg5 ⊢
 have qp:x8.cell? ⟨g2,0,none⟩=some (.slice (some ad) p.length c0):=(blk_cell Gg2.out (0)).trans (rfl);have qf:x8.cell? ⟨g3,0,none⟩=some (.int .i64 (q:Int)):=(blk_cell Gg3.out (0)).trans (by rw [← HQ.out];rfl)
 have hbc:x8.cell? (ad.add q)=some (.slice A1 bd.length cb):=low_cell (KP.out.bel HB.out H0.out) HCELL.out
 go_upto_block 0 with(fail)
 clear qp qf hbc
 go_cut [] from 9 (fun wc=> ∃ (m1:SM) (c1:SF) (uA:Option Addr) (uc:Nat) (vA:Option Addr) (vc:Nat) (dA:Option Addr) (dc:Nat),Aside0 (LI w wc W0 (.slice (some ad) p.length c0) fuel m1 c1 (.slice tA m.trace.length tc) (.slice sA m.seen.length sc) (.slice uA m1.trace.length uc) (.slice vA m1.seen.length vc) (.slice dA c1.defers.length dc) g2 g3 g4 g5)∧Aside0 (LE N fuel R d p m c m1 c1))
 case first =>
  go_wp2_with (fail)
  go_loopg [8] R (fun gg s8 wr=> ∃ (at_:Int) (m1:SM) (c1:SF) (uA:Option Addr) (uc:Nat) (vA:Option Addr) (vc:Nat) (dA:Option Addr) (dc:Nat),s8= .int .i64 at_∧Aside0 (LI w wr W0 (.slice (some ad) p.length c0) fuel m1 c1 (.slice tA m.trace.length tc) (.slice sA m.seen.length sc) (.slice uA m1.trace.length uc) (.slice vA m1.seen.length vc) (.slice dA c1.defers.length dc) g2 g3 g4 g5)∧Aside0 (LJ N fuel R d p m c gg m1 c1 at_))
  case atStart =>
   refine⟨0,stell { m with deep:=mx } kd c.f c.r0,{ c with kind:=1 },uA,uc,sA,sc,none,0,rfl,⟨?_⟩,⟨?_⟩⟩
   ·rw [show (stell { m with deep:=mx } kd c.f c.r0).trace.length=m.trace.length+1 from len1 _ _]
    refine⟨HS.out,?_,?_,HNT.out,New.refl _ _,KP.out,Gg2.out,?_,Gg4.out,Gg5.out⟩
    ·show DRow _ _ (.slice none c.defers.length 0) c.defers
     rw [HDF.out]
     exact own_nil _ _ _ _
    ·exact .inl rfl
    ·show _=some (Obj.cells (sfC _ (.slice none c.defers.length 0)).toArray _ _)
     rw [HDF.out]
     exact Gg3.out
   ·have h1:=HFU.out
    have h2:=HFR.out
    have h3:=HM.out.made0
    refine⟨⟨HM.out.sh,HM.out.made0,HM.out.made,HM.out.seen⟩,HF.out.one,HSP.out,rfl,rfl,?_,?_,?_⟩
    ·have e:=beginS_room fuel m c
     rw [HMB.out] at e
     have h4:=HRM.out
     show sroom fuel _ c.defers.length+1≤_
     rw [HDF.out]
     show sroom fuel _ 0+1≤_
     omega
    ·show(fuel-m.made).toNat<R
     omega
    ·rw [HMB.out]
  case round =>
   obtain⟨at_,m1,c1,uA,uc,vA,vc,dA,dc,rfl,LL,JJ⟩:=hrel
   clear HS KP Gg2 Gg3 Gg4 Gg5 HNT
   have HS:=am LL.out.hs
   have HD:=am LL.out.hd
   have HAP:=am LL.out.ap
   have HNT:=am LL.out.nt
   have HNV:=am LL.out.nv
   have KP:=am LL.out.kp
   have Gg2:=am LL.out.b2
   have Gg3:=am LL.out.b3
   have Gg4:=am LL.out.b4
   have Gg5:=am LL.out.b5
   have hgk:0<gk:=by have:=JJ.out.left;omega
   obtain⟨kk,hkk⟩: ∃ kk,gk=kk+1:=⟨gk-1,zq90⟩
   subst hkk
   have HBQ:=Z (show p.getD c1.f.toNat []=bd from by rw [JJ.out.fn,HQ.out,HBD.out];rfl)
   have hbl:bd.length≤1000:=by
    rw [HBD.out]
    unfold rd_L4
    rw [List.getD_eq_getElem?_getD,Int.toNat_natCast,List.getElem?_eq_getElem hqN]
    exact HPR.out.body _ (List.getElem_mem hqN)
   by_cases hr0:0≤at_
   rotate_left
   ·go_wp2_with (fail)
    go_meet
    case rel =>
     have e:=JJ.out.res
     rw [bodyS_out (fun h=>by have h2:=h.1;omega)] at e
     exact⟨m1,c1,uA,uc,vA,vc,dA,dc,LL,⟨⟨JJ.out.om,JJ.out.oc,JJ.out.sp,JJ.out.dep,JJ.out.fn,JJ.out.room,e.symm⟩⟩⟩
   by_cases hr1:at_<(bd.length:Int)
   rotate_left
   ·go_wp2_with (fail)
    go_meet
    case rel =>
     have e:=JJ.out.res
     rw [bodyS_out (fun h=>by have h2:=h.2;rw [HBQ.out] at h2;omega)] at e
     exact⟨m1,c1,uA,uc,vA,vc,dA,dc,LL,⟨⟨JJ.out.om,JJ.out.oc,JJ.out.sp,JJ.out.dep,JJ.out.fn,JJ.out.room,e.symm⟩⟩⟩
   go_upto_region 13 with(fail)
   obtain⟨k,hk⟩:=nat_of hr0
   subst hk
   obtain⟨s,hs⟩: ∃ s,s=bd[k]'zq90:=⟨_,rfl⟩
   obtain⟨a2,hA1,hx0,hx1,hx2⟩:=at_T219 HROW.out (k:Int) zq90 hr1
   subst hA1
   have hrd:rd_T219 bd (k:Int)=s:=by rw [hs];unfold rd_T219;rw [List.getD_eq_getElem?_getD,Int.toNat_natCast,List.getElem?_eq_getElem zq90];rfl
   rw [hrd] at hx0 hx1 hx2
   simp only [Int.toNat_natCast] at hx0 hx1 hx2
   have HX0:=am hx0
   have HX1:=am hx1
   have HX2:=am hx2
   have HIN:=Z (show 0≤(k:Int)∧(k:Int)<(p.getD c1.f.toNat []).length from by rw [HBQ.out];exact⟨hr0,hr1⟩)
   have HST:=Z (show(p.getD c1.f.toNat []).getD (k:Int).toNat ⟨0,0,0⟩=s from by rw [HBQ.out,Int.toNat_natCast,hs,List.getD_eq_getElem?_getD,List.getElem?_eq_getElem zq90];rfl)
   have HMEM:=Z (show s∈bd∧bd∈p from⟨by rw [hs];exact List.getElem_mem _,by rw [HBD.out];unfold rd_L4;rw [List.getD_eq_getElem?_getD,Int.toNat_natCast,List.getElem?_eq_getElem hqN];exact List.getElem_mem hqN⟩)
   have HBL:=am hbl
   clear hs hrd hx0 hx1 hx2
   by_cases hfu:m1.made=fuel
   ·skip
    have qm:wr.cell? ⟨g2,4,none⟩=some (.int .i64 m1.made):=(blk_cell Gg2.out (4)).trans (rfl);have zqm:=blk_frozen Gg2.out (4);have qu:wr.cell? ⟨g2,1,none⟩=some (.int .i64 fuel):=(blk_cell Gg2.out (1)).trans (rfl);have qs:wr.cell? ⟨g2,2,none⟩=some (.bool m1.spent):=(blk_cell Gg2.out (2)).trans (rfl);have zqs:=blk_frozen Gg2.out (2)
    have hmb:(m1.made==fuel)=true:=by simpa using hfu
    go_upto_region 15 with(fail)
    clear hmb qm zqm qu qs zqs
    have hev:=Evt.set Gg2.out (2) (.bool true)
    replace HS:=rs HS hev
    replace KP:=kv KP hev
    replace HD:=dv HD hev
    replace Gg2:=Z ((blk_set Gg2.out (2) (.bool true)).trans (show _=some (Obj.cells (smC (.slice (some ad) p.length c0) fuel ({ m1 with spent:=true }) (.slice uA m1.trace.length uc) (.slice vA m1.seen.length vc)).toArray 167 (0,0)) from rfl))
    replace Gg3:=hev.b Gg3
    replace Gg4:=hev.b' Gg4 (ne_some' NE_g2_g4)
    replace Gg5:=hev.b Gg5
    clear hev
    generalize wr.setCell ⟨g2,2,none⟩ (.bool true)=x41 at HS KP HD Gg2 Gg3 Gg4 Gg5 ⊢
    replace HS:=Z ((⟨HS.out.tr,HS.out.se⟩:SRows _ _ ({ m1 with spent:=true }) _ _))
    have hE0_:=Evt.drew x41 292
    replace HS:=Z (HS.out.ev (Evt.drew x41 0))
    replace KP:=Z (KP.out.ev (Evt.drew x41 0) (fun q e=>zq121))
    replace HD:=Z (HD.out.ev (Evt.drew x41 0))
    replace Gg2:=(Evt.drew x41 0).b Gg2
    replace Gg3:=(Evt.drew x41 0).b Gg3
    replace Gg4:=(Evt.drew x41 0).b Gg4
    replace Gg5:=(Evt.drew x41 0).b Gg5
    clear hE0_
    refine start_ (n:=4) (S:=fun w'=>w'.heap[g2]? =some (.cells (smC (.slice (some ad) p.length c0) fuel ({ m1 with spent:=true }) (.slice uA m1.trace.length uc) (.slice vA m1.seen.length vc)).toArray 167 (0,0))∧w'.heap[g3]? =some (.cells (sfC (c1) (.slice dA c1.defers.length dc)).toArray 169 (0,0))∧True) (ds:= [3]) (bb 4 0) zq27 rfl rfl ⟨Gg2.out,Gg3.out,trivial⟩ (fun hHeld=> ?_)
    generalize x41.drew=x42 at HS KP HD Gg2 Gg3 Gg4 Gg5 hHeld ⊢
    refine take1 0 53 (bb 4 1) (hy:=Or.inl ⟨by rfl,zq95⟩) (hS:=hHeld) (h:= ?_)
    refine take1 1 54 (bb 4 3) (hy:=Or.inl ⟨by rfl,zq96⟩) (hS:=hHeld) (h:= ?_)
    refine on_ 2 none (bb 4 7) (h:=fun K hK=> ?_)
    refine sto Gg4.out size_sm (smC_one ..) (h:= ?_)
    intro x43 hc_ hev
    replace HS:=rs HS hev
    replace KP:=kv KP hev
    replace HD:=dv HD hev
    replace Gg2:=hev.b' Gg2 (ne_some NE_g2_g4)
    replace Gg3:=hev.b Gg3
    replace Gg4:=Z (hc_)
    replace Gg5:=hev.b Gg5
    clear hc_ hev
    refine hK.out _ _ ⟨Gg2.out,Gg3.out,trivial⟩ (fun hHeld=> ?_)
    clear hK K
    refine la 3 none (bb 4 15) (h:=fun K hK=> ?_)
    refine sto Gg5.out size_sf (sfC_one ..) (h:= ?_)
    intro x44 hc_ hev
    replace HS:=rs HS hev
    replace KP:=kv KP hev
    replace HD:=dv HD hev
    replace Gg2:=hev.b Gg2
    replace Gg3:=hev.b' Gg3 (ne_some NE_g3_g5)
    replace Gg4:=hev.b Gg4
    replace Gg5:=Z (hc_)
    clear hc_ hev
    refine hK.out _ _ ?_
    clear hK K
    refine done_ zq27 ?_
    go_wp2_with (fail)
    refine bodyPost_ret (results_cc rfl _ _ g4 g5 167 169 (smC (.slice (some ad) p.length c0) fuel ({ m1 with spent:=true }) (.slice uA m1.trace.length uc) (.slice vA m1.seen.length vc)).toArray (sfC (c1) (.slice dA c1.defers.length dc)).toArray (0,0) (0,0) _ _ rfl Gg4.out und_sm rfl size_sm rfl Gg5.out und_sf rfl size_sf) rfl ?_
    rw [callS_body (JJ.out.res.symm.trans (bodyS_spent HIN.out hfu)) rfl]
    exact⟨_,_,_,_,_,rfl,HS.out,HNT.out,HNV.out,KP.out⟩
   have qm:wr.cell? ⟨g2,4,none⟩=some (.int .i64 m1.made):=(blk_cell Gg2.out (4)).trans (rfl);have zqm:=blk_frozen Gg2.out (4);have qu:wr.cell? ⟨g2,1,none⟩=some (.int .i64 fuel):=(blk_cell Gg2.out (1)).trans (rfl)
   have hmb:(m1.made==fuel)=false:=by simpa using hfu
   have hm0:0≤m1.made:=JJ.out.om.made0
   have hm1:m1.made≤1000:=by have h1:=JJ.out.om.made;have h2:=HFU.out;omega
   have hwm:wrap64 (m1.made+1)=m1.made+1:=IntWalk.wrap64_in _ ⟨zq90,zq90⟩
   go_upto_region 17 with(fail)
   clear hmb qm zqm qu
   have hev:=Evt.set Gg2.out (4) (.int .i64 (m1.made+1))
   replace HS:=rs HS hev
   replace KP:=kv KP hev
   replace HD:=dv HD hev
   replace Gg2:=Z ((blk_set Gg2.out (4) (.int .i64 (m1.made+1))).trans (show _=some (Obj.cells (smC (.slice (some ad) p.length c0) fuel ({ m1 with made:=m1.made+1 }) (.slice uA m1.trace.length uc) (.slice vA m1.seen.length vc)).toArray 167 (0,0)) from rfl))
   replace Gg3:=hev.b Gg3
   replace Gg4:=hev.b' Gg4 (ne_some' NE_g2_g4)
   replace Gg5:=hev.b Gg5
   clear hev
   generalize wr.setCell ⟨g2,4,none⟩ (.int .i64 (m1.made+1))=x61 at HS KP HD Gg2 Gg3 Gg4 Gg5 ⊢
   have qs:x61.cell? ⟨g2,7,none⟩=some (.slice vA m1.seen.length vc):=(blk_cell Gg2.out (7)).trans (rfl);have zqs:=blk_frozen Gg2.out (7);have qf:x61.cell? ⟨g3,0,none⟩=some (.int .i64 c1.f):=(blk_cell Gg3.out (0)).trans (rfl)
   go_upto_region 18 with(first|((with_reducible refine gate_dst (N:=65) rfl ?_);refine sliceL_ (cs:=(prC (c1.f,(k:Int))).toArray) (e:=74) (n:=1) rfl ?run ?_;(case run=>first|(go_simp;done)|(go_simp;rfl));intro gA hg_ x62 hbox hbel;have LgA:=lg hg_ KP.out.size;have hE_:=Evt.below hbel 0;replace HS:=rs HS hE_;replace KP:=kv KP hE_;replace HD:=dv HD hE_;replace Gg2:=hE_.b Gg2;replace Gg3:=hE_.b Gg3;replace Gg4:=hE_.b Gg4;replace Gg5:=hE_.b Gg5;have GgA:=am hbox;clear hbel hbox hg_ hE_;clear qs zqs qf;have qs:x62.cell? ⟨g2,7,none⟩=some (.slice vA m1.seen.length vc):=(blk_cell Gg2.out (7)).trans (rfl);have zqs:=blk_frozen Gg2.out (7);have qf:x62.cell? ⟨g3,0,none⟩=some (.int .i64 c1.f):=(blk_cell Gg3.out (0)).trans (rfl))|((with_reducible refine gate_dst (N:=66) rfl ?_);obtain⟨tS,x63,hE,hown,hgr,hnb⟩:=app_one und_pr info_pr rfl zq83 _ _ _ HS.out.se gA 1 (prC (c1.f,(k:Int))) GgA.out rfl zq135 (by have h1:=JJ.out.om.seen;omega) zq83 (Nat.le_trans HB.out.size KP.out.size);have hev:=Evt.own HS.out.se hgr;refine Kd.event_run rfl (appRun_ _ _ _ rfl rfl rfl rfl hE) ?_;have hnw:=(show New x62 (.slice vA m1.seen.length vc) tS from hnb.elim .inl (fun e=> .inr ⟨_,e,Nat.le_refl _⟩));have HAP2:=Z (HAP.out.new HD.out hnw);have HNV2:=Z (New.trans HNV.out hnw KP.out.size);replace HD:=Z (show DRow x63 W0.heap.size (.slice dA c1.defers.length dc) c1.defers from World.ownsRow.kept HD.out hev.g HAP.out);replace KP:=Z (KP.out.ev hev (newK HNV.out));have HTR:=Z (hev.row HS.out.tr zq83);clear HS hE GgA LgA HAP HNV;replace Gg2:=hev.b Gg2;replace Gg3:=hev.b Gg3;replace Gg4:=hev.b Gg4;replace Gg5:=hev.b Gg5;have HSE:=am hown;clear hown hgr hnb hev hnw;obtain⟨vB,vd,hu⟩:=own_slice HSE.out;subst hu;have HAP:=HAP2;have HNV:=HNV2;clear HAP2 HNV2;clear qs zqs qf;have qs:x63.cell? ⟨g2,7,none⟩=some (.slice vA m1.seen.length vc):=(blk_cell Gg2.out (7)).trans (rfl);have zqs:=blk_frozen Gg2.out (7);have qf:x63.cell? ⟨g3,0,none⟩=some (.int .i64 c1.f):=(blk_cell Gg3.out (0)).trans (rfl)))
   clear qs zqs qf
   have HS:=Z (show SRows x63 W0.heap.size (madeS m1 c1.f (k:Int)) (.slice uA m1.trace.length uc) (.slice vB (m1.seen.length+1) vd) from⟨HTR.out,by show World.ownsRow _ _ _ _ _ (m1.seen++ [_]).length ((m1.seen++ [_]).flatMap prC);rw [flat1,len1];exact HSE.out⟩)
   clear HTR HSE
   have hev:=Evt.set Gg2.out (7) (.slice vB (m1.seen.length+1) vd)
   replace KP:=kv KP hev
   replace HD:=dv HD hev
   replace Gg2:=Z ((blk_set Gg2.out (7) (.slice vB (m1.seen.length+1) vd)).trans (show _=some (Obj.cells (smC (.slice (some ad) p.length c0) fuel ((madeS m1 c1.f (k:Int))) (.slice uA m1.trace.length uc) (.slice vB (m1.seen.length+1) vd)).toArray 167 (0,0)) from rfl))
   replace Gg3:=hev.b Gg3
   replace Gg4:=hev.b' Gg4 (ne_some' NE_g2_g4)
   replace Gg5:=hev.b Gg5
   replace HS:=rs HS hev
   clear hev
   generalize x63.setCell ⟨g2,7,none⟩ (.slice vB (m1.seen.length+1) vd)=x64 at KP HD Gg2 Gg3 Gg4 Gg5 HS ⊢
   rcases hmk:makeS (callS p fuel R d) (madeS m1 c1.f (k:Int)) c1 (k:Int) s with⟨m2,c2,b2⟩
   have HMK:=am hmk
   have hso:=HPR.out.ok bd HMEM.out.2 s HMEM.out.1
   have HMO:=Z (madeS_ok JJ.out.om hfu c1.f (k:Int))
   have hMQ:=makeS_ok (callS_ok (fuel:=fuel) HPR.out.ok R d) HMO.out JJ.out.oc (k:Int) s hso
   rw [hmk] at hMQ
   have HMQ:=am hMQ
   have HRR:=Z (show sroom fuel (madeS m1 c1.f (k:Int)) c1.defers.length+3≤sroom fuel m1 c1.defers.length from by show(m1.trace.length:Int)+3*(fuel-(m1.made+1))+2*(c1.defers.length:Int)+3≤(m1.trace.length:Int)+3*(fuel-m1.made)+2*(c1.defers.length:Int);omega)
   clear hmk hMQ hso
   have hE0_:=Evt.drew x64 292
   replace KP:=Z (KP.out.ev (Evt.drew x64 0) (fun q e=>zq121))
   replace HD:=Z (HD.out.ev (Evt.drew x64 0))
   replace Gg2:=(Evt.drew x64 0).b Gg2
   replace Gg3:=(Evt.drew x64 0).b Gg3
   replace Gg4:=(Evt.drew x64 0).b Gg4
   replace Gg5:=(Evt.drew x64 0).b Gg5
   replace HS:=Z (HS.out.ev (Evt.drew x64 0))
   clear hE0_
   refine start_ (n:=15) (S:=fun w'=>w'.heap[g2]? =some (.cells (smC (.slice (some ad) p.length c0) fuel ((madeS m1 c1.f (k:Int))) (.slice uA m1.trace.length uc) (.slice vB (m1.seen.length+1) vd)).toArray 167 (0,0))∧w'.heap[g3]? =some (.cells (sfC (c1) (.slice dA c1.defers.length dc)).toArray 169 (0,0))∧w'.cell? (a2.add (k*3))=some (.int .i64 s.f0)∧w'.cell? ⟨(a2.add (k*3)).block,(a2.add (k*3)).off+1,none⟩=some (.int .i64 s.f1)∧w'.cell? ⟨(a2.add (k*3)).block,(a2.add (k*3)).off+2,none⟩=some (.int .i64 s.f2)∧True) (ds:= [7,12,13]) (bb 15 0) zq27 rfl rfl ⟨Gg2.out,Gg3.out,low_cell (KP.out.bel HB.out H0.out) HX0.out,low_cell (KP.out.bel HB.out H0.out) HX1.out,low_cell (KP.out.bel HB.out H0.out) HX2.out,trivial⟩ (fun hHeld=> ?_)
   generalize x64.drew=x65 at KP HD Gg2 Gg3 Gg4 Gg5 HS hHeld ⊢
   refine take1 0 69 (bb 15 1) (hy:=Or.inl ⟨by rfl,by rintro w' ⟨s0,s1,s2,s3,s4,_⟩;exact lR 2 s0 und_sm size_sm⟩) (hS:=hHeld) (h:= ?_)
   refine take1 1 70 (bb 15 3) (hy:=Or.inl ⟨by rfl,by rintro w' ⟨s0,s1,s2,s3,s4,_⟩;exact lR 3 s1 und_sf size_sf⟩) (hS:=hHeld) (h:= ?_)
   refine pure1 2 71 (bb 15 7) (h:= ?_)
   refine pure1 3 72 (bb 15 15) (h:= ?_)
   refine pure1 4 73 (bb 15 31) (h:= ?_)
   refine pure1 5 74 (bb 15 63) (h:= ?_)
   refine take1 6 75 (bb 15 127) (hS:=hHeld) (h:= ?_)
   refine la 7 (some 76) (bb 15 255) (h:=fun K hK=> ?_)
   refine goes_ Try.func275 zq27 rfl #[.agg (smC (.slice (some ad) p.length c0) fuel ((madeS m1 c1.f (k:Int))) (.slice uA m1.trace.length uc) (.slice vB (m1.seen.length+1) vd)).toArray,.agg (sfC (c1) (.slice dA c1.defers.length dc)).toArray,.int .i64 (k:Int),.agg #[.int .i64 s.f0,.int .i64 s.f1,.int .i64 s.f2]] (by rfl) rfl rfl zq84 ?_
   refine(show Calls Try.prog 275 #[.agg (smC (.slice (some ad) p.length c0) fuel ((madeS m1 c1.f (k:Int))) (.slice uA m1.trace.length uc) (.slice vB (m1.seen.length+1) vd)).toArray,.agg (sfC (c1) (.slice dA c1.defers.length dc)).toArray,.int .i64 (k:Int),.agg #[.int .i64 s.f0,.int .i64 s.f1,.int .i64 s.f2]] x65 (fun e w'=>MakeSP x65 w' W0.heap.size (.slice (some ad) p.length c0) fuel (.slice uA m1.trace.length uc) (.slice vB (m1.seen.length+1) vd) (m2,c2,b2) e) from by
    rw [← HMK.out]
    exact l2Make.calls W0 (some ad) c0 p N fuel R d HPR.out.ok HC.out x65 (madeS m1 c1.f (k:Int)) c1 (.slice uA m1.trace.length uc) (.slice vB (m1.seen.length+1) vd) dA c1.defers.length dc HS.out HD.out HAP.out (KP.out.bel HB.out H0.out) HMO.out JJ.out.oc JJ.out.sp zq90 (by have h1:=JJ.out.dep;have h2:=HDP.out;omega) (by have h1:=HRR.out;have h2:=JJ.out.room;omega) (k:Int) (by have:=HBL.out;omega) s (HPR.out.wf bd HMEM.out.2 s HMEM.out.1) (HPR.out.ok bd HMEM.out.2 s HMEM.out.1)).mono ?_
   rintro e wz ⟨tv2,sv2,eA,en,ec,rfl,hS2,hT2,hV2,hD2,hA2,hK2⟩
   refine⟨_,rfl,?_⟩
   replace Gg2:=Z (hK2.blk _ _ Gg2.out (blk_ne_own HS.out.tr Gg2.out zq83) (blk_ne_own HS.out.se Gg2.out zq83))
   replace Gg3:=Z (hK2.blk _ _ Gg3.out (blk_ne_own HS.out.tr Gg3.out zq83) (blk_ne_own HS.out.se Gg3.out zq83))
   replace Gg4:=Z (hK2.blk _ _ Gg4.out (blk_ne_own HS.out.tr Gg4.out zq83) (blk_ne_own HS.out.se Gg4.out zq83))
   replace Gg5:=Z (hK2.blk _ _ Gg5.out (blk_ne_own HS.out.tr Gg5.out zq83) (blk_ne_own HS.out.se Gg5.out zq83))
   have HNT2:=Z (New.trans HNT.out hT2 KP.out.size)
   have HNV2:=Z (New.trans HNV.out hV2 KP.out.size)
   replace KP:=Z (KP.out.trans hK2 HNT.out HNV.out)
   replace HS:=Z (hS2)
   replace HD:=Z (hD2)
   clear HNT HNV HAP
   have HNT:=HNT2
   have HNV:=HNV2
   have HAP:=am hA2
   clear HNT2 HNV2 hS2 hT2 hV2 hD2 hA2 hK2
   obtain⟨uB,ud,hu⟩:=own_slice HS.out.tr
   obtain⟨vC,ve,hv⟩:=own_slice HS.out.se
   obtain⟨eB,ed,he⟩:=own_slice HD.out
   subst hu
   subst hv
   injection he with he1 he2 he3
   subst he1 he2 he3
   refine hK.out _ _ ?_
   clear hK K
   refine nm 76 (h:= ?_)
   refine pure1 8 68 (bb 15 511) (h:= ?_)
   refine pure1 9 77 (bb 15 1023) (h:= ?_)
   refine pure1 10 78 (bb 15 2047) (h:= ?_)
   refine pure1 11 79 (bb 15 4095) (h:= ?_)
   refine la 12 none (bb 15 8191) (h:=fun K hK=> ?_)
   refine sto Gg2.out size_sm (smC_one ..) (h:= ?_)
   intro x66 hc_ hev
   replace KP:=kv KP hev
   replace HD:=dv HD hev
   replace Gg2:=Z (hc_)
   replace Gg3:=hev.b Gg3
   replace Gg4:=hev.b' Gg4 (ne_some' NE_g2_g4)
   replace Gg5:=hev.b Gg5
   replace HS:=rs HS hev
   clear hc_ hev
   refine hK.out _ _ ?_
   clear hK K
   refine la 13 none (bb 15 16383) (h:=fun K hK=> ?_)
   refine sto Gg3.out size_sf (sfC_one ..) (h:= ?_)
   intro x67 hc_ hev
   replace KP:=kv KP hev
   replace HD:=dv HD hev
   replace Gg2:=hev.b Gg2
   replace Gg3:=Z (hc_)
   replace Gg4:=hev.b Gg4
   replace Gg5:=hev.b' Gg5 (ne_some' NE_g3_g5)
   replace HS:=rs HS hev
   clear hc_ hev
   refine hK.out _ _ ?_
   clear hK K
   refine pure1 14 8 (bb 15 32767) (h:= ?_)
   refine done_ zq27 ?_
   rcases Bool.eq_false_or_eq_true m2.spent with hs2|hs2
   ·skip
    have HS2:=am hs2
    clear hs2
    have qs:x67.cell? ⟨g2,2,none⟩=some (.bool true):=(blk_cell Gg2.out (2)).trans (by rw [← HS2.out];rfl)
    go_upto_region 20 with(fail)
    clear qs
    have hE0_:=Evt.drew x67 292
    replace KP:=Z (KP.out.ev (Evt.drew x67 0) (fun q e=>zq121))
    replace HD:=Z (HD.out.ev (Evt.drew x67 0))
    replace Gg2:=(Evt.drew x67 0).b Gg2
    replace Gg3:=(Evt.drew x67 0).b Gg3
    replace Gg4:=(Evt.drew x67 0).b Gg4
    replace Gg5:=(Evt.drew x67 0).b Gg5
    replace HS:=Z (HS.out.ev (Evt.drew x67 0))
    clear hE0_
    refine start_ (n:=4) (S:=fun w'=>w'.heap[g2]? =some (.cells (smC (.slice (some ad) p.length c0) fuel (m2) (.slice uB m2.trace.length ud) (.slice vC m2.seen.length ve)).toArray 167 (0,0))∧w'.heap[g3]? =some (.cells (sfC (c2) (.slice eA c2.defers.length ec)).toArray 169 (0,0))∧True) (ds:= [3]) (bb 4 0) zq27 rfl rfl ⟨Gg2.out,Gg3.out,trivial⟩ (fun hHeld=> ?_)
    generalize x67.drew=x68 at KP HD Gg2 Gg3 Gg4 Gg5 HS hHeld ⊢
    refine take1 0 82 (bb 4 1) (hy:=Or.inl ⟨by rfl,zq95⟩) (hS:=hHeld) (h:= ?_)
    refine take1 1 83 (bb 4 3) (hy:=Or.inl ⟨by rfl,zq96⟩) (hS:=hHeld) (h:= ?_)
    refine on_ 2 none (bb 4 7) (h:=fun K hK=> ?_)
    refine sto Gg4.out size_sm (smC_one ..) (h:= ?_)
    intro x69 hc_ hev
    replace KP:=kv KP hev
    replace HD:=dv HD hev
    replace Gg2:=hev.b' Gg2 (ne_some NE_g2_g4)
    replace Gg3:=hev.b Gg3
    replace Gg4:=Z (hc_)
    replace Gg5:=hev.b Gg5
    replace HS:=rs HS hev
    clear hc_ hev
    refine hK.out _ _ ⟨Gg2.out,Gg3.out,trivial⟩ (fun hHeld=> ?_)
    clear hK K
    refine la 3 none (bb 4 15) (h:=fun K hK=> ?_)
    refine sto Gg5.out size_sf (sfC_one ..) (h:= ?_)
    intro x70 hc_ hev
    replace KP:=kv KP hev
    replace HD:=dv HD hev
    replace Gg2:=hev.b Gg2
    replace Gg3:=hev.b' Gg3 (ne_some NE_g3_g5)
    replace Gg4:=hev.b Gg4
    replace Gg5:=Z (hc_)
    replace HS:=rs HS hev
    clear hc_ hev
    refine hK.out _ _ ?_
    clear hK K
    refine done_ zq27 ?_
    go_wp2_with (fail)
    refine bodyPost_ret (results_cc rfl _ _ g4 g5 167 169 (smC (.slice (some ad) p.length c0) fuel (m2) (.slice uB m2.trace.length ud) (.slice vC m2.seen.length ve)).toArray (sfC (c2) (.slice eA c2.defers.length ec)).toArray (0,0) (0,0) _ _ rfl Gg4.out und_sm rfl size_sm rfl Gg5.out und_sf rfl size_sf) rfl ?_
    rw [callS_body (JJ.out.res.symm.trans (bodyS_stop HIN.out hfu (by rw [HST.out];exact HMK.out) HS2.out)) HS2.out]
    exact⟨_,_,_,_,_,rfl,HS.out,HNT.out,HNV.out,KP.out⟩
   have HS2:=am hs2
   clear hs2
   have qs:x67.cell? ⟨g2,2,none⟩=some (.bool false):=(blk_cell Gg2.out (2)).trans (by rw [← HS2.out];rfl)
   go_wp2_with (fail)
   clear qs
   go_roundg kk
   case measure=>omega
   case rel =>
    refine⟨b2,m2,c2,uB,ud,vC,ve,eA,ec,rfl,⟨HS.out,HD.out,HAP.out,HNT.out,HNV.out,KP.out,Gg2.out,Gg3.out,Gg4.out,Gg5.out⟩,⟨?_⟩⟩
    have h1:=HMQ.out.room
    have h2:=HRR.out
    have h3:=JJ.out.room
    have h4:m1.made+1≤m2.made:=HMQ.out.mono
    have h5:=JJ.out.left
    have h7:=JJ.out.om.made
    have h6:sroom fuel m2 c2.defers.length≤sroom fuel (madeS m1 c1.f (k:Int)) c1.defers.length+3:=h1
    exact⟨HMQ.out.om,HMQ.out.oc,HS2.out,HMQ.out.dep.trans JJ.out.dep,HMQ.out.fn.trans JJ.out.fn,zq90,zq90,(bodyS_go HIN.out hfu (by rw [HST.out];exact HMK.out) HS2.out).symm.trans JJ.out.res⟩
 clear HS KP Gg2 Gg3 Gg4 Gg5 HNT
 obtain⟨mE,cE,uE,ue,vE,vf,dE,de,LL,EE⟩:=hcut
 have HS:=am LL.out.hs
 have HD:=am LL.out.hd
 have HAP:=am LL.out.ap
 have HNT:=am LL.out.nt
 have HNV:=am LL.out.nv
 have KP:=am LL.out.kp
 have Gg2:=am LL.out.b2
 have Gg3:=am LL.out.b3
 have Gg4:=am LL.out.b4
 have Gg5:=am LL.out.b5
 go_upto_block 2 with(fail)
 go_cut [] from 9 (fun wc=> ∃ (m1:SM) (c1:SF) (uA:Option Addr) (uc:Nat) (vA:Option Addr) (vc:Nat) (dA:Option Addr) (dc:Nat),Aside0 (LI w wc W0 (.slice (some ad) p.length c0) fuel m1 c1 (.slice tA m.trace.length tc) (.slice sA m.seen.length sc) (.slice uA m1.trace.length uc) (.slice vA m1.seen.length vc) (.slice dA c1.defers.length dc) g2 g3 g4 g5)∧Aside0 (LF N fuel R d p mE cE m1 c1))
 case first =>
  go_wp2_with (fail)
  go_loopg [] cE.defers.length (fun gg wr=> ∃ (l:List (Int×Int)) (m1:SM) (c1:SF) (uA:Option Addr) (uc:Nat) (vA:Option Addr) (vc:Nat) (dA:Option Addr) (dc:Nat),l.length=gg∧Aside0 (LI w wr W0 (.slice (some ad) p.length c0) fuel m1 c1 (.slice tA m.trace.length tc) (.slice sA m.seen.length sc) (.slice uA m1.trace.length uc) (.slice vA m1.seen.length vc) (.slice dA c1.defers.length dc) g2 g3 g4 g5)∧Aside0 (LK N fuel R d p c mE cE l m1 c1))
  case atStart =>
   exact⟨cE.defers.reverse,mE,cE,uE,ue,vE,vf,dE,de,List.length_reverse,LL,⟨⟨EE.out.om,EE.out.oc,EE.out.sp,EE.out.dep,EE.out.fn,(List.reverse_reverse _).symm,by rw [List.length_reverse];exact EE.out.room,rfl⟩⟩⟩
  case round =>
   obtain⟨l,m1,c1,uA,uc,vA,vc,dA,dc,hl,LQ,JJ⟩:=hrel
   clear HS HD HAP HNT HNV KP Gg2 Gg3 Gg4 Gg5 LL
   have LL:=LQ
   clear LQ
   have HS:=am LL.out.hs
   have HD:=am LL.out.hd
   have HAP:=am LL.out.ap
   have HNT:=am LL.out.nt
   have HNV:=am LL.out.nv
   have KP:=am LL.out.kp
   have Gg2:=am LL.out.b2
   have Gg3:=am LL.out.b3
   have Gg4:=am LL.out.b4
   have Gg5:=am LL.out.b5
   have HL:=am hl
   clear hl
   cases l with
   |nil =>
    have HD0:=Z (show c1.defers= [] from JJ.out.df)
    have q6:wr.cell? ⟨g3,6,none⟩=some (.slice dA 0 dc):=(blk_cell Gg3.out 6).trans (by show some (Value.slice dA c1.defers.length dc)=_;rw [HD0.out];rfl)
    go_wp2_with (fail)
    go_meet
    case rel=>exact⟨m1,c1,uA,uc,vA,vc,dA,dc,LL,⟨⟨JJ.out.om,JJ.out.oc,JJ.out.sp,JJ.out.room,JJ.out.res.symm⟩⟩⟩
   |cons x l =>
    obtain⟨g,a⟩:=x
    have HDF1:=Z (show c1.defers=l.reverse++ [(g,a)] from by rw [JJ.out.df,List.reverse_cons])
    have HLN:=Z (show c1.defers.length=l.length+1 from by rw [HDF1.out];simp)
    have hpos:(0:Int)<(l.length:Int)+1:=by omega
    have q6:wr.cell? ⟨g3,6,none⟩=some (.slice dA (l.length+1) dc):=(blk_cell Gg3.out (6)).trans (by show some (Value.slice dA c1.defers.length dc)=_;rw [HLN.out])
    go_upto_region 22 with(fail)
    clear q6 hpos
    rcases hlk:lastS (callS p fuel R d) m1 c1 g a l.reverse with⟨m2,c2⟩
    have HLK:=am hlk
    have hmem:=JJ.out.oc.df (g,a) (by rw [HDF1.out];simp)
    have hLQ:=lastS_ok (callS_ok (fuel:=fuel) HPR.out.ok R d) JJ.out.om JJ.out.oc g a l.reverse hmem.1 hmem.2 (fun x hx=>JJ.out.oc.df x (by rw [HDF1.out];exact List.mem_append_left _ hx))
    rw [hlk] at hLQ
    have HLQ:=am hLQ
    have HRL:=Z (show sroom fuel m1 (l.length+1)+1≤90000 from JJ.out.room)
    clear hlk hmem hLQ
    go_upto_region 23 with(first|(refine lr 89 Gg2.out und_sm size_sm (h:= ?_))|(refine lr 90 Gg3.out und_sf size_sf (h:= ?_)))
    refine(show Calls Try.prog 276 #[.agg (smC (.slice (some ad) p.length c0) fuel (m1) (.slice uA m1.trace.length uc) (.slice vA m1.seen.length vc)).toArray,.agg (sfC (c1) (.slice dA c1.defers.length dc)).toArray] wr (fun e w'=>LastSP wr w' W0.heap.size (.slice (some ad) p.length c0) fuel (.slice uA m1.trace.length uc) (.slice vA m1.seen.length vc) (m2,c2) e) from by
     rw [← HLK.out]
     exact l2Last.calls W0 (some ad) c0 p N fuel R d HC.out wr m1 c1 (.slice uA m1.trace.length uc) (.slice vA m1.seen.length vc) l g a dA c1.defers.length dc HS.out HD.out HAP.out (KP.out.bel HB.out H0.out) JJ.out.om JJ.out.oc HDF1.out (by have h1:=sroom_len JJ.out.om (show sroom fuel m1 (l.length+1)≤(90000:Nat) from by have:=HRL.out;omega);omega) JJ.out.sp zq90 (by have h1:=JJ.out.dep;have h2:=HDP.out;omega) (by have h1:=HRL.out;unfold sroom at *;omega)).mono ?_
    rintro e wz ⟨tv2,sv2,eA,en,ec,rfl,hS2,hT2,hV2,hD2,hA2,hK2⟩
    replace Gg2:=Z (hK2.blk _ _ Gg2.out (blk_ne_own HS.out.tr Gg2.out zq83) (blk_ne_own HS.out.se Gg2.out zq83))
    replace Gg3:=Z (hK2.blk _ _ Gg3.out (blk_ne_own HS.out.tr Gg3.out zq83) (blk_ne_own HS.out.se Gg3.out zq83))
    replace Gg4:=Z (hK2.blk _ _ Gg4.out (blk_ne_own HS.out.tr Gg4.out zq83) (blk_ne_own HS.out.se Gg4.out zq83))
    replace Gg5:=Z (hK2.blk _ _ Gg5.out (blk_ne_own HS.out.tr Gg5.out zq83) (blk_ne_own HS.out.se Gg5.out zq83))
    have HNT2:=Z (New.trans HNT.out hT2 KP.out.size)
    have HNV2:=Z (New.trans HNV.out hV2 KP.out.size)
    replace KP:=Z (KP.out.trans hK2 HNT.out HNV.out)
    replace HS:=Z (hS2)
    replace HD:=Z (hD2)
    clear HNT HNV HAP
    have HNT:=HNT2
    have HNV:=HNV2
    have HAP:=am hA2
    clear HNT2 HNV2 hS2 hT2 hV2 hD2 hA2 hK2
    obtain⟨uB,ud,hu⟩:=own_slice HS.out.tr
    obtain⟨vC,ve,hv⟩:=own_slice HS.out.se
    obtain⟨eB,ed,he⟩:=own_slice HD.out
    subst hu
    subst hv
    injection he with he1 he2 he3
    subst he1 he2 he3
    go_upto_region 23 with(first|(refine ag 2 (smC (.slice (some ad) p.length c0) fuel (m2) (.slice uB m2.trace.length ud) (.slice vC m2.seen.length ve)).toArray Gg2.out size_sm (h:= ?_);intro x81 hbox hev;replace HS:=rs HS hev;replace KP:=kv KP hev;replace HD:=dv HD hev;replace Gg3:=hev.b Gg3;replace Gg4:=hev.b' Gg4 (ne_some' NE_g2_g4);replace Gg5:=hev.b Gg5;clear Gg2;have Gg2:=am hbox;clear hbox hev)|(refine ag 3 (sfC (c2) (.slice eA c2.defers.length ec)).toArray Gg3.out size_sf (h:= ?_);intro x82 hbox hev;replace HS:=rs HS hev;replace KP:=kv KP hev;replace HD:=dv HD hev;replace Gg2:=hev.b Gg2;replace Gg4:=hev.b Gg4;replace Gg5:=hev.b' Gg5 (ne_some' NE_g3_g5);clear Gg3;have Gg3:=am hbox;clear hbox hev;))
    rcases Bool.eq_false_or_eq_true m2.spent with hs2|hs2
    ·skip
     have HS2:=am hs2
     clear hs2
     have qs:x82.cell? ⟨g2,2,none⟩=some (.bool true):=(blk_cell Gg2.out (2)).trans (by rw [← HS2.out];rfl)
     go_upto_region 24 with(fail)
     clear qs
     have hE0_:=Evt.drew x82 292
     replace HS:=Z (HS.out.ev (Evt.drew x82 0))
     replace KP:=Z (KP.out.ev (Evt.drew x82 0) (fun q e=>zq121))
     replace HD:=Z (HD.out.ev (Evt.drew x82 0))
     replace Gg2:=(Evt.drew x82 0).b Gg2
     replace Gg3:=(Evt.drew x82 0).b Gg3
     replace Gg4:=(Evt.drew x82 0).b Gg4
     replace Gg5:=(Evt.drew x82 0).b Gg5
     clear hE0_
     refine start_ (n:=4) (S:=fun w'=>w'.heap[g2]? =some (.cells (smC (.slice (some ad) p.length c0) fuel (m2) (.slice uB m2.trace.length ud) (.slice vC m2.seen.length ve)).toArray 167 (0,0))∧w'.heap[g3]? =some (.cells (sfC (c2) (.slice eA c2.defers.length ec)).toArray 169 (0,0))∧True) (ds:= [3]) (bb 4 0) zq27 rfl rfl ⟨Gg2.out,Gg3.out,trivial⟩ (fun hHeld=> ?_)
     generalize x82.drew=x83 at HS KP HD Gg2 Gg3 Gg4 Gg5 hHeld ⊢
     refine take1 0 96 (bb 4 1) (hy:=Or.inl ⟨by rfl,zq95⟩) (hS:=hHeld) (h:= ?_)
     refine take1 1 97 (bb 4 3) (hy:=Or.inl ⟨by rfl,zq96⟩) (hS:=hHeld) (h:= ?_)
     refine on_ 2 none (bb 4 7) (h:=fun K hK=> ?_)
     refine sto Gg4.out size_sm (smC_one ..) (h:= ?_)
     intro x84 hc_ hev
     replace HS:=rs HS hev
     replace KP:=kv KP hev
     replace HD:=dv HD hev
     replace Gg2:=hev.b' Gg2 (ne_some NE_g2_g4)
     replace Gg3:=hev.b Gg3
     replace Gg4:=Z (hc_)
     replace Gg5:=hev.b Gg5
     clear hc_ hev
     refine hK.out _ _ ⟨Gg2.out,Gg3.out,trivial⟩ (fun hHeld=> ?_)
     clear hK K
     refine la 3 none (bb 4 15) (h:=fun K hK=> ?_)
     refine sto Gg5.out size_sf (sfC_one ..) (h:= ?_)
     intro x85 hc_ hev
     replace HS:=rs HS hev
     replace KP:=kv KP hev
     replace HD:=dv HD hev
     replace Gg2:=hev.b Gg2
     replace Gg3:=hev.b' Gg3 (ne_some NE_g3_g5)
     replace Gg4:=hev.b Gg4
     replace Gg5:=Z (hc_)
     clear hc_ hev
     refine hK.out _ _ ?_
     clear hK K
     refine done_ zq27 ?_
     go_wp2_with (fail)
     refine bodyPost_ret (results_cc rfl _ _ g4 g5 167 169 (smC (.slice (some ad) p.length c0) fuel (m2) (.slice uB m2.trace.length ud) (.slice vC m2.seen.length ve)).toArray (sfC (c2) (.slice eA c2.defers.length ec)).toArray (0,0) (0,0) _ _ rfl Gg4.out und_sm rfl size_sm rfl Gg5.out und_sf rfl size_sf) rfl ?_
     rw [callS_def EE.out.res EE.out.sp (JJ.out.res.symm.trans (defersS_stop HLK.out HS2.out)) HS2.out]
     exact⟨_,_,_,_,_,rfl,HS.out,HNT.out,HNV.out,KP.out⟩
    have HS2:=am hs2
    clear hs2
    have qs:x82.cell? ⟨g2,2,none⟩=some (.bool false):=(blk_cell Gg2.out (2)).trans (by rw [← HS2.out];rfl)
    go_wp2_with (fail)
    clear qs
    go_roundg l.length
    case measure=>have h:=HL.out;rw [List.length_cons] at h;omega
    case rel =>
     refine⟨l,m2,c2,uB,ud,vC,ve,eA,ec,rfl,⟨HS.out,HD.out,HAP.out,HNT.out,HNV.out,KP.out,Gg2.out,Gg3.out,Gg4.out,Gg5.out⟩,⟨?_⟩⟩
     have h1:sroom fuel m2 0≤sroom fuel m1 0+2:=HLQ.out.room
     have h2:=HRL.out
     exact⟨HLQ.out.om,HLQ.out.oc,HS2.out,HLQ.out.dep.trans JJ.out.dep,HLQ.out.fn.trans JJ.out.fn,HLQ.out.df,by unfold sroom at *;omega,(defersS_go HLK.out HS2.out).symm.trans JJ.out.res⟩
 clear HS HD HAP HNT HNV KP Gg2 Gg3 Gg4 Gg5 LL
 obtain⟨mF,cF,uA,uc,vA,vc,dA,dc,LL,FF⟩:=hcut
 have HS:=am LL.out.hs
 have HD:=am LL.out.hd
 have HAP:=am LL.out.ap
 have HNT:=am LL.out.nt
 have HNV:=am LL.out.nv
 have KP:=am LL.out.kp
 have Gg2:=am LL.out.b2
 have Gg3:=am LL.out.b3
 have Gg4:=am LL.out.b4
 have Gg5:=am LL.out.b5
 clear LL
 have qk:wc.cell? ⟨g3,7,none⟩=some (.int .i64 cF.kind):=(blk_cell Gg3.out (7)).trans (rfl)
 go_upto_block 4 with(fail)
 clear qk
 have HKI:=Z (show cF.kind=0∨cF.kind=1∨cF.kind=2∨cF.kind=3 from by have:=FF.out.oc.ki;omega)
 go_cut [] from 9 (fun wc=> ∃ (uZ:Option Addr) (uz:Nat),Aside0 (SRows wc W0.heap.size (endS mF cF) (.slice uZ (endS mF cF).trace.length uz) (.slice vA mF.seen.length vc))∧Aside0 (New w (.slice tA m.trace.length tc) (.slice uZ (endS mF cF).trace.length uz))∧Aside0 (KeptS (.slice tA m.trace.length tc) (.slice sA m.seen.length sc) w wc)∧Aside0 (wc.heap[g2]? =some (.cells (smC (.slice (some ad) p.length c0) fuel (endS mF cF) (.slice uZ (endS mF cF).trace.length uz) (.slice vA mF.seen.length vc)).toArray 167 (0,0)))∧Aside0 (wc.heap[g3]? =some (.cells (sfC (cF) (.slice dA cF.defers.length dc)).toArray 169 (0,0)))∧Aside0 (wc.heap[g4]? =some (.cells zsm 167 (0,0)))∧Aside0 (wc.heap[g5]? =some (.cells zsf 169 (0,0))))
 case first =>
  rcases HKI.out with hk|hk|hk|hk
  ·skip
   have HKK:=am hk
   rw [hk]
   clear hk
   go_wp2_with (fail)
   go_meet
   case rel =>
    rw [endS_0 HKK.out]
    exact⟨uA,uc,HS,HNT,KP,Gg2,Gg3,Gg4,Gg5⟩
  ·skip
   have HKK:=am hk
   rw [hk]
   clear hk
   have q0:wc.cell? ⟨g3,0,none⟩=some (.int .i64 cF.f):=(blk_cell Gg3.out (0)).trans (rfl);have q1:wc.cell? ⟨g3,3,none⟩=some (.int .i64 (cF.r1)):=(blk_cell Gg3.out (3)).trans (rfl)
   go_wp2_with (first|(refine lr 102 Gg2.out und_sm size_sm (h:= ?_)))
   clear q0 q1
   refine(l2Tell.calls _ W0.heap.size (some ad) p.length c0 fuel mF (.slice uA mF.trace.length uc) (.slice vA mF.seen.length vc) 7 cF.f (cF.r1) HS.out (Nat.le_trans HB.out.size KP.out.size) zq109).mono ?_
   rintro e wz ⟨tv2,rfl,hS2,hN2,hK2⟩
   have HNT2:=Z (New.trans HNT.out hN2 KP.out.size)
   replace Gg2:=Z (hK2.blk _ _ Gg2.out (blk_ne_own HS.out.tr Gg2.out zq83) (blk_ne_own HS.out.tr Gg2.out zq83))
   replace Gg3:=Z (hK2.blk _ _ Gg3.out (blk_ne_own HS.out.tr Gg3.out zq83) (blk_ne_own HS.out.tr Gg3.out zq83))
   replace Gg4:=Z (hK2.blk _ _ Gg4.out (blk_ne_own HS.out.tr Gg4.out zq83) (blk_ne_own HS.out.tr Gg4.out zq83))
   replace Gg5:=Z (hK2.blk _ _ Gg5.out (blk_ne_own HS.out.tr Gg5.out zq83) (blk_ne_own HS.out.tr Gg5.out zq83))
   clear HD HAP
   replace KP:=Z (KP.out.trans (hK2.weak (sv:= .slice vA mF.seen.length vc)) HNT.out HNV.out)
   replace HS:=Z (hS2)
   clear HNT hS2 hN2 hK2
   have HNT:=HNT2
   clear HNT2
   obtain⟨uZ,uz,hu⟩:=own_slice HS.out.tr
   subst hu
   go_wp2_with (first|(refine ag 2 (smC (.slice (some ad) p.length c0) fuel (stell mF 7 cF.f (cF.r1)) (.slice uZ (stell mF 7 cF.f (cF.r1)).trace.length uz) (.slice vA mF.seen.length vc)).toArray Gg2.out size_sm (h:= ?_);intro x121 hbox hev;replace HS:=rs HS hev;replace KP:=kv KP hev;replace Gg3:=hev.b Gg3;replace Gg4:=hev.b' Gg4 (ne_some' NE_g2_g4);replace Gg5:=hev.b Gg5;clear Gg2;have Gg2:=am hbox;clear hbox hev))
   go_meet
   case rel =>
    rw [endS_1 HKK.out]
    exact⟨uZ,uz,HS,HNT,KP,Gg2,Gg3,Gg4,Gg5⟩
  ·skip
   have HKK:=am hk
   rw [hk]
   clear hk
   have q0:wc.cell? ⟨g3,0,none⟩=some (.int .i64 cF.f):=(blk_cell Gg3.out (0)).trans (rfl);have q1:wc.cell? ⟨g3,8,none⟩=some (.int .i64 (cF.value)):=(blk_cell Gg3.out (8)).trans (rfl)
   go_wp2_with (first|(refine lr 111 Gg2.out und_sm size_sm (h:= ?_)))
   clear q0 q1
   refine(l2Tell.calls _ W0.heap.size (some ad) p.length c0 fuel mF (.slice uA mF.trace.length uc) (.slice vA mF.seen.length vc) 8 cF.f (cF.value) HS.out (Nat.le_trans HB.out.size KP.out.size) zq109).mono ?_
   rintro e wz ⟨tv2,rfl,hS2,hN2,hK2⟩
   have HNT2:=Z (New.trans HNT.out hN2 KP.out.size)
   replace Gg2:=Z (hK2.blk _ _ Gg2.out (blk_ne_own HS.out.tr Gg2.out zq83) (blk_ne_own HS.out.tr Gg2.out zq83))
   replace Gg3:=Z (hK2.blk _ _ Gg3.out (blk_ne_own HS.out.tr Gg3.out zq83) (blk_ne_own HS.out.tr Gg3.out zq83))
   replace Gg4:=Z (hK2.blk _ _ Gg4.out (blk_ne_own HS.out.tr Gg4.out zq83) (blk_ne_own HS.out.tr Gg4.out zq83))
   replace Gg5:=Z (hK2.blk _ _ Gg5.out (blk_ne_own HS.out.tr Gg5.out zq83) (blk_ne_own HS.out.tr Gg5.out zq83))
   clear HD HAP
   replace KP:=Z (KP.out.trans (hK2.weak (sv:= .slice vA mF.seen.length vc)) HNT.out HNV.out)
   replace HS:=Z (hS2)
   clear HNT hS2 hN2 hK2
   have HNT:=HNT2
   clear HNT2
   obtain⟨uZ,uz,hu⟩:=own_slice HS.out.tr
   subst hu
   go_wp2_with (first|(refine ag 2 (smC (.slice (some ad) p.length c0) fuel (stell mF 8 cF.f (cF.value)) (.slice uZ (stell mF 8 cF.f (cF.value)).trace.length uz) (.slice vA mF.seen.length vc)).toArray Gg2.out size_sm (h:= ?_);intro x121 hbox hev;replace HS:=rs HS hev;replace KP:=kv KP hev;replace Gg3:=hev.b Gg3;replace Gg4:=hev.b' Gg4 (ne_some' NE_g2_g4);replace Gg5:=hev.b Gg5;clear Gg2;have Gg2:=am hbox;clear hbox hev))
   go_meet
   case rel =>
    rw [endS_2 HKK.out]
    exact⟨uZ,uz,HS,HNT,KP,Gg2,Gg3,Gg4,Gg5⟩
  ·skip
   have HKK:=am hk
   rw [hk]
   clear hk
   have q0:wc.cell? ⟨g3,0,none⟩=some (.int .i64 cF.f):=(blk_cell Gg3.out (0)).trans (rfl)
   go_wp2_with (first|(refine lr 119 Gg2.out und_sm size_sm (h:= ?_)))
   clear q0
   refine(l2Tell.calls _ W0.heap.size (some ad) p.length c0 fuel mF (.slice uA mF.trace.length uc) (.slice vA mF.seen.length vc) 9 cF.f (0) HS.out (Nat.le_trans HB.out.size KP.out.size) zq109).mono ?_
   rintro e wz ⟨tv2,rfl,hS2,hN2,hK2⟩
   have HNT2:=Z (New.trans HNT.out hN2 KP.out.size)
   replace Gg2:=Z (hK2.blk _ _ Gg2.out (blk_ne_own HS.out.tr Gg2.out zq83) (blk_ne_own HS.out.tr Gg2.out zq83))
   replace Gg3:=Z (hK2.blk _ _ Gg3.out (blk_ne_own HS.out.tr Gg3.out zq83) (blk_ne_own HS.out.tr Gg3.out zq83))
   replace Gg4:=Z (hK2.blk _ _ Gg4.out (blk_ne_own HS.out.tr Gg4.out zq83) (blk_ne_own HS.out.tr Gg4.out zq83))
   replace Gg5:=Z (hK2.blk _ _ Gg5.out (blk_ne_own HS.out.tr Gg5.out zq83) (blk_ne_own HS.out.tr Gg5.out zq83))
   clear HD HAP
   replace KP:=Z (KP.out.trans (hK2.weak (sv:= .slice vA mF.seen.length vc)) HNT.out HNV.out)
   replace HS:=Z (hS2)
   clear HNT hS2 hN2 hK2
   have HNT:=HNT2
   clear HNT2
   obtain⟨uZ,uz,hu⟩:=own_slice HS.out.tr
   subst hu
   go_wp2_with (first|(refine ag 2 (smC (.slice (some ad) p.length c0) fuel (stell mF 9 cF.f 0) (.slice uZ (stell mF 9 cF.f 0).trace.length uz) (.slice vA mF.seen.length vc)).toArray Gg2.out size_sm (h:= ?_);intro x121 hbox hev;replace HS:=rs HS hev;replace KP:=kv KP hev;replace Gg3:=hev.b Gg3;replace Gg4:=hev.b' Gg4 (ne_some' NE_g2_g4);replace Gg5:=hev.b Gg5;clear Gg2;have Gg2:=am hbox;clear hbox hev))
   go_meet
   case rel =>
    rw [endS_3 HKK.out]
    exact⟨uZ,uz,HS,HNT,KP,Gg2,Gg3,Gg4,Gg5⟩
 clear HS HD HAP HNT KP Gg2 Gg3 Gg4 Gg5
 obtain⟨uZ,uz,HS,HNT,KP,Gg2,Gg3,Gg4,Gg5⟩:=hcut
 go_upto_region 32 with(fail)
 have hE0_:=Evt.drew wc 292
 replace HS:=Z (HS.out.ev (Evt.drew wc 0))
 replace KP:=Z (KP.out.ev (Evt.drew wc 0) (fun q e=>zq121))
 replace Gg2:=(Evt.drew wc 0).b Gg2
 replace Gg3:=(Evt.drew wc 0).b Gg3
 replace Gg4:=(Evt.drew wc 0).b Gg4
 replace Gg5:=(Evt.drew wc 0).b Gg5
 clear hE0_
 refine start_ (n:=4) (S:=fun w'=>w'.heap[g2]? =some (.cells (smC (.slice (some ad) p.length c0) fuel (endS mF cF) (.slice uZ (endS mF cF).trace.length uz) (.slice vA mF.seen.length vc)).toArray 167 (0,0))∧w'.heap[g3]? =some (.cells (sfC (cF) (.slice dA cF.defers.length dc)).toArray 169 (0,0))∧True) (ds:= [3]) (bb 4 0) zq27 rfl rfl ⟨Gg2.out,Gg3.out,trivial⟩ (fun hHeld=> ?_)
 generalize wc.drew=x161 at HS KP Gg2 Gg3 Gg4 Gg5 hHeld ⊢
 refine take1 0 123 (bb 4 1) (hy:=Or.inl ⟨by rfl,zq95⟩) (hS:=hHeld) (h:= ?_)
 refine take1 1 124 (bb 4 3) (hy:=Or.inl ⟨by rfl,zq96⟩) (hS:=hHeld) (h:= ?_)
 refine on_ 2 none (bb 4 7) (h:=fun K hK=> ?_)
 refine sto Gg4.out size_sm (smC_one ..) (h:= ?_)
 intro x162 hc_ hev
 replace HS:=rs HS hev
 replace KP:=kv KP hev
 replace Gg2:=hev.b' Gg2 (ne_some NE_g2_g4)
 replace Gg3:=hev.b Gg3
 replace Gg4:=Z (hc_)
 replace Gg5:=hev.b Gg5
 clear hc_ hev
 refine hK.out _ _ ⟨Gg2.out,Gg3.out,trivial⟩ (fun hHeld=> ?_)
 clear hK K
 refine la 3 none (bb 4 15) (h:=fun K hK=> ?_)
 refine sto Gg5.out size_sf (sfC_one ..) (h:= ?_)
 intro x163 hc_ hev
 replace HS:=rs HS hev
 replace KP:=kv KP hev
 replace Gg2:=hev.b Gg2
 replace Gg3:=hev.b' Gg3 (ne_some NE_g3_g5)
 replace Gg4:=hev.b Gg4
 replace Gg5:=Z (hc_)
 clear hc_ hev
 refine hK.out _ _ ?_
 clear hK K
 refine done_ zq27 ?_
 go_wp2_with (fail)
 refine bodyPost_ret (results_cc rfl _ _ g4 g5 167 169 (smC (.slice (some ad) p.length c0) fuel (endS mF cF) (.slice uZ (endS mF cF).trace.length uz) (.slice vA mF.seen.length vc)).toArray (sfC (cF) (.slice dA cF.defers.length dc)).toArray (0,0) (0,0) _ _ rfl Gg4.out und_sm rfl size_sm rfl Gg5.out und_sf rfl size_sf) rfl ?_
 rw [callS_end EE.out.res EE.out.sp FF.out.res FF.out.sp]
 exact⟨_,_,_,_,_,rfl,HS.out,HNT.out,HNV.out,KP.out⟩
theorem l2Call_all(W0:World)(A0:Option Addr)(c0:Nat)(p:List (List St))(N fuel:Int)(R:Nat)(hPr:ProgAt W0 A0 c0 p N)(hf0:0≤fuel∧fuel≤1000)(hfR:fuel<R): ∀ d,d≤8→SCallC W0 A0 c0 p N fuel R d:=by
 intro d
 induction d with
 |zero=>intro _;exact l2Call_zero W0 A0 c0 p N fuel R
 |succ d ih=>intro h;exact l2Call_succ W0 A0 c0 p N fuel R d hPr (ih zq90) hf0 hfR zq90
end Go.Proofs.Yteiafboknimgbaa.Pr.M
end
