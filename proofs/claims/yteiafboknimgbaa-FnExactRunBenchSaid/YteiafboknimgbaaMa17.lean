import Derived.Test.YteiafboknimgbaaMa16
set_option maxHeartbeats 8000000
set_option maxRecDepth 100000
set_option linter.unusedVariables false
set_option linter.unusedSimpArgs false
section
namespace Go.Proofs.Yteiafboknimgbaa.Pr.M
open Go.RowKit Go.Proofs.W.PrintWords Go.Proofs.W.PrintLast Go.Proofs.W.PrintMore
theorem und_oc:Try.prog.underlying 30=some (.struct (((Try.prog.underlying 30).bind fun d=>match d with| .struct f=>some f|_=>none).getD #[])):=by kernel_rfl
theorem size_oc:(Try.prog.info? 30).map (·.size)=some 4:=by kernel_rfl
theorem own_base {w:World} {b b' e s n:Nat} {v:Value} {xs:List Value} (h:w.ownsRow b e s v n xs)(hb:b'≤b):w.ownsRow b' e s v n xs:=by
 refine⟨h.1,?_⟩
 rcases h.2 with h1|⟨g,cap,cur,h1,h2,h3⟩
 ·exact .inl h1
 ·exact .inr ⟨g,cap,cur,h1,Nat.le_trans hb h2,h3⟩
theorem SRows.base {w:World} {b b':Nat} {m:SM} {tv sv:Value} (h:SRows w b m tv sv)(hb:b'≤b):SRows w b' m tv sv:=⟨own_base h.tr hb,own_base h.se hb⟩
theorem KeptS.all {w w':World} (k:KeptS (.slice none 0 0) (.slice none 0 0) w w'):Below w.heap.size w w':=by
 refine⟨k.os,k.tape,k.output,k.size,fun i hi=> ?_⟩
 obtain⟨o,ho⟩: ∃ o,w.heap[i]? =some o:=⟨_,Array.getElem?_eq_getElem hi⟩
 rw [ho]
 exact k.blk i o ho (fun e=>by simp [Value.ownBlock] at e) (fun e=>by simp [Value.ownBlock] at e)
def WholeSP(w w':World)(fuel:Int)(r:SM×SF)(e:Ending):Prop :=
 ∃ A1 n1 c1 tv sv dA dn dc,e= .returned (.tuple #[.agg (smC (.slice A1 n1 c1) fuel r.1 tv sv).toArray,.agg (sfC r.2 (.slice dA dn dc)).toArray])∧SRows w' w.heap.size r.1 tv sv∧Below w.heap.size w w'
def sm0:SM:=⟨false,0,0,0,[],[]⟩
def sf0(f arg:Int):SF:=⟨f,1,arg,0,0,0,[],0,0,false,false,false,0,false,0⟩
theorem l2Whole.calls(k:Nat)(w:World)(A0:Option Addr)(c0:Nat)(p:List (List St))(N fuel:Int)(R:Nat)(f arg:Int)(hr0:Kd.C (Kd.slice 219 k219) w A0 p.length p)(hc0:p.length≤c0)(hown:spec_l2Own.f k p=some p)
  (hok:ProgOk N p) (hwf: ∀ b∈p,∀ s∈b,StepWf s) (hlen:(p.length:Int)=N) (hbody: ∀ b∈p,b.length≤1000) (hf0:0≤fuel∧fuel≤1000) (hfR:fuel<R) (hf:0≤f∧f<N) (ha:Num arg) (d8:Nat) (h8:d8=8) :
  Calls Try.prog 155 #[.agg #[.slice A0 p.length c0],.int .i64 f,.int .i64 arg,.int .i64 fuel] w fun e w'=>WholeSP w w' fuel (callS p fuel R d8 sm0 (sf0 f arg)) e:=by
 have KP:=Z (KeptS.refl (.slice none 0 0) (.slice none 0 0) w)
 have HR0:=am hr0
 have HC0:=am hc0
 have HOWN:=am hown
 have HOK:=am hok
 have HWF:=am hwf
 have HLEN:=am hlen
 have HBODY:=am hbody
 have HFU:=am hf0
 have HFR:=am hfR
 have HFF:=am hf
 have HA:=am ha
 clear hr0 hc0 hown hok hwf hlen hbody hf0 hfR hf ha
 go_enter Try.func155,Try.ntmps155
 go_upto_region 2 with(first|(refine bx 4 #[.slice A0 p.length c0] 35 (h:= ?_);intro g4 hg_ x1 hbox hbel;have Lg4:=lg hg_ KP.out.size;have hE_:=Evt.below hbel 0;replace KP:=kv KP hE_;have Gg4:=am hbox;clear hbel hbox hg_ hE_)|(refine bx 8 zsm 167 (h:= ?_);intro g8 hg_ x2 hbox hbel;have Lg8:=lg hg_ KP.out.size;have hE_:=Evt.below hbel 0;replace KP:=kv KP hE_;replace Gg4:=hE_.b Gg4;have Gg8:=am hbox;clear hbel hbox hg_ hE_)|(refine bx 9 zsf 169 (h:= ?_);intro g9 hg_ x3 hbox hbel;have Lg9:=lg hg_ KP.out.size;have hE_:=Evt.below hbel 0;replace KP:=kv KP hE_;replace Gg4:=hE_.b Gg4;replace Gg8:=hE_.b Gg8;have Gg9:=am hbox;clear hbel hbox hg_ hE_;have qp:x3.cell? ⟨g4,0,none⟩=some (.slice A0 p.length c0):=(blk_cell Gg4.out (0)).trans (rfl)))
 refine(spec_l2Own.calls k A0 c0 p p _ (Kd.C_below HR0.out KP.out.all) HC0.out HOWN.out).mono ?_
 rintro e w1 ⟨v0,rfl,hs,hb⟩
 obtain⟨A1,c1,hv⟩:=Kd.S_slice hs
 subst hv
 have HRD:=Z (Kd.S_reads' hs)
 have HB1:=am hb
 have HSZ:=Z (Nat.le_trans KP.out.size hb.size)
 have hE_:=Evt.below hb 0
 clear qp hs
 replace Gg4:=hE_.b Gg4
 replace Gg8:=hE_.b Gg8
 replace Gg9:=hE_.b Gg9
 replace KP:=Z (KP.out.below hb)
 clear hb hE_
 have KP1:=Z (KeptS.refl (.slice none 0 0) (.slice none 0 0) w1)
 go_upto_region 2 with(first|((with_reducible refine gate_dst (N:=14) rfl ?_);refine sliceL_ (cs:= #[]) (e:=63) (n:=0) rfl ?run ?_;(case run=>first|(go_simp;done)|(go_simp;rfl));intro gE hg_ x4 hbox hbel;have LgE:=lg hg_ KP.out.size;have LE1:=Z (show w1.heap.size≤gE from by rw [hg_];exact Nat.le_refl _);have HW1:=am hbel;have NEEg8:=Z (show ¬ g8=gE from fun e=>by have h_:=blk_lt Gg8.out;rw [hg_] at e;omega);have NEEg9:=Z (show ¬ g9=gE from fun e=>by have h_:=blk_lt Gg9.out;rw [hg_] at e;omega);have hE_:=Evt.below hbel 0;replace KP:=kv KP hE_;replace Gg4:=hE_.b Gg4;replace Gg8:=hE_.b Gg8;replace Gg9:=hE_.b Gg9;replace KP1:=Z (KP1.out.ev hE_);have GgE:=am hbox;clear hbel hbox hg_ hE_)|(refine bx 10 zsm 167 (h:= ?_);intro g10 hg_ x5 hbox hbel;have Lg10:=lg hg_ KP.out.size;have L1g10:=(show w1.heap.size≤g10 from by rw [hg_];exact KP1.out.size);have NE_g8_g10:=nel hg_ Gg8.out;have hE_:=Evt.below hbel 0;replace KP:=kv KP hE_;replace Gg4:=hE_.b Gg4;replace Gg8:=hE_.b Gg8;replace Gg9:=hE_.b Gg9;replace KP1:=Z (KP1.out.ev hE_);replace GgE:=hE_.b GgE;have Gg10:=am hbox;clear hbel hbox hg_ hE_)|(refine ag 10 (smC (.slice A1 p.length c1) fuel sm0 (.slice (some ⟨gE,0,none⟩) 0 0) (.slice none 0 0)).toArray Gg10.out size_sm (h:= ?_);intro x6 hbox hev;replace KP:=kv KP hev;replace Gg4:=hev.b Gg4;replace Gg8:=hev.b' Gg8 (ne_some NE_g8_g10);replace Gg9:=hev.b Gg9;replace KP1:=Z (KP1.out.ev hev);replace GgE:=hev.b GgE;clear Gg10;have Gg10:=am hbox;clear hbox hev;))
 go_upto_region 3 with(first|(refine lr 16 Gg10.out und_sm size_sm (h:= ?_)))
 have hSR:SRows x6 w1.heap.size sm0 (.slice (some ⟨gE,0,none⟩) 0 0) (.slice none 0 0):=⟨⟨rfl,.inr ⟨gE,0,#[],rfl,LE1.out,GgE.out,Nat.le_refl _,Nat.zero_le _,rfl,rfl⟩⟩,own_nil _ _ _ _⟩
 have hPA:ProgAt w1 A1 c1 p N:=⟨HRD.out.2.2,HRD.out.2.1,HOK.out,HWF.out,HLEN.out,HBODY.out⟩
 refine(l2Call_all w1 A1 c1 p N fuel R hPA HFU.out HFR.out d8 zq90 x6 sm0 (sf0 f arg) (.slice (some ⟨gE,0,none⟩) 0 0) (.slice none 0 0) hSR KP1.out.all ⟨num0,Int.le_refl _,HFU.out.1,rfl⟩ (SFok.start HFF.out HA.out _ _ num0 num0) rfl rfl (by show(1:Int)+(d8:Int)=9;omega) (by have:=HFU.out;show(0:Int)+3*(fuel-0)+2*0+2≤90000;omega)).mono ?_
 rcases hr8:callS p fuel R d8 sm0 (sf0 f arg) with⟨m2,i2⟩
 have HR8:=am hr8
 clear hr8
 rintro e wz ⟨tv2,sv2,eA,en,ec,rfl,hS2,hT2,hV2,hK2⟩
 clear GgE Gg10 Gg4
 replace Gg8:=Z (hK2.blk _ _ Gg8.out (fun e=>by simp [Value.ownBlock] at e;exact NEEg8.out e) (fun e=>by simp [Value.ownBlock] at e))
 replace Gg9:=Z (hK2.blk _ _ Gg9.out (fun e=>by simp [Value.ownBlock] at e;exact NEEg9.out e) (fun e=>by simp [Value.ownBlock] at e))
 replace KP:=Z (KP.out.trans hK2 (.inr ⟨gE,rfl,LgE⟩) (New.refl _ _))
 have HS:=am hS2
 clear hS2 hT2 hV2 hK2 hSR hPA KP1
 obtain⟨uB,ud,hu⟩:=own_slice HS.out.tr
 obtain⟨vC,ve,hv⟩:=own_slice HS.out.se
 subst hu
 subst hv
 go_wp2_with (first|(refine ag 8 (smC (.slice A1 p.length c1) fuel m2 (.slice uB m2.trace.length ud) (.slice vC m2.seen.length ve)).toArray Gg8.out size_sm (h:= ?_);intro x7 hbox hev;replace KP:=kv KP hev;replace Gg9:=hev.b Gg9;replace HS:=rs HS hev;clear Gg8;have Gg8:=am hbox;clear hbox hev)|(refine ag 9 (sfC i2 (.slice eA en ec)).toArray Gg9.out size_sf (h:= ?_);intro x8 hbox hev;replace KP:=kv KP hev;replace Gg8:=hev.b Gg8;replace HS:=rs HS hev;clear Gg9;have Gg9:=am hbox;clear hbox hev;))
 refine bodyPost_ret (results_cc rfl _ _ g8 g9 167 169 (smC (.slice A1 p.length c1) fuel m2 (.slice uB m2.trace.length ud) (.slice vC m2.seen.length ve)).toArray (sfC i2 (.slice eA en ec)).toArray (0,0) (0,0) _ _ rfl Gg8.out und_sm rfl size_sm rfl Gg9.out und_sf rfl size_sf) rfl ?_
 rw [HR8.out]
 exact⟨_,_,_,_,_,_,_,_,rfl,HS.out.base HSZ.out,KP.out.all⟩
theorem l2Told_s(w:World)(base:Nat)(A0:Value)(fuel:Int)(m:SM)(c:SF)(uA:Option Addr)(uc:Nat)(sv:Value)(dA:Option Addr)(dn dc:Nat)(pA:Option Addr)(pn pc:Nat)(hA:A0= .slice pA pn pc)(vA:Option Addr)(vn vc:Nat)(hV:sv= .slice vA vn vc)(H:SRows w base m (.slice uA m.trace.length uc) sv)(hsp:m.spent=true) :
  Calls Try.prog 228 #[.agg (smC A0 fuel m (.slice uA m.trace.length uc) sv).toArray,.agg (sfC c (.slice dA dn dc)).toArray] w fun e w'=>e= .returned (.agg #[.int .i64 4,.int .i64 0,.slice uA m.trace.length uc,.int .i64 m.made])∧SRows w' base m (.slice uA m.trace.length uc) sv∧Below w.heap.size w w':=by
 subst hA
 subst hV
 have KP:=Z (KeptS.refl (.slice none 0 0) (.slice none 0 0) w)
 have HS:=am H
 clear H
 have HSP:=am hsp
 clear hsp
 go_enter Try.func228,Try.ntmps228
 go_upto_region 1 with(first|(refine bx 2 (smC (.slice pA pn pc) fuel m (.slice uA m.trace.length uc) (.slice vA vn vc)).toArray 167 (h:= ?_);intro g2 hg_ x1 hbox hbel;have Lg2:=lg hg_ KP.out.size;have hE_:=Evt.below hbel 0;replace KP:=kv KP hE_;replace HS:=rs HS hE_;have Gg2:=am hbox;clear hbel hbox hg_ hE_)|(refine bx 3 (sfC c (.slice dA dn dc)).toArray 169 (h:= ?_);intro g3 hg_ x2 hbox hbel;have Lg3:=lg hg_ KP.out.size;have hE_:=Evt.below hbel 0;replace KP:=kv KP hE_;replace HS:=rs HS hE_;replace Gg2:=hE_.b Gg2;have Gg3:=am hbox;clear hbel hbox hg_ hE_)|(refine bx 4 #[.int .i64 0,.int .i64 0,.slice none 0 0,.int .i64 0] 30 (h:= ?_);intro g4 hg_ x3 hbox hbel;have Lg4:=lg hg_ KP.out.size;have hE_:=Evt.below hbel 0;replace KP:=kv KP hE_;replace HS:=rs HS hE_;replace Gg2:=hE_.b Gg2;replace Gg3:=hE_.b Gg3;have Gg4:=am hbox;clear hbel hbox hg_ hE_;have qk:x3.cell? ⟨g3,7,none⟩=some (.int .i64 c.kind):=(blk_cell Gg3.out (7)).trans (rfl);have qt:x3.cell? ⟨g2,6,none⟩=some (.slice uA m.trace.length uc):=(blk_cell Gg2.out (6)).trans (rfl);have qm:x3.cell? ⟨g2,4,none⟩=some (.int .i64 m.made):=(blk_cell Gg2.out (4)).trans (rfl)))
 go_upto_region 8 with(first|(refine bx 5 #[.int .i64 0,.int .i64 0,.slice none 0 0,.int .i64 0] 30 (h:= ?_);intro g5 hg_ x4 hbox hbel;have Lg5:=lg hg_ KP.out.size;have NE_g4_g5:=nel hg_ Gg4.out;have hE_:=Evt.below hbel 0;replace KP:=kv KP hE_;replace HS:=rs HS hE_;replace Gg2:=hE_.b Gg2;replace Gg3:=hE_.b Gg3;replace Gg4:=hE_.b Gg4;have Gg5:=am hbox;clear hbel hbox hg_ hE_;clear qk qt qm;have qk:x4.cell? ⟨g3,7,none⟩=some (.int .i64 c.kind):=(blk_cell Gg3.out (7)).trans (rfl);have qt:x4.cell? ⟨g2,6,none⟩=some (.slice uA m.trace.length uc):=(blk_cell Gg2.out (6)).trans (rfl);have qm:x4.cell? ⟨g2,4,none⟩=some (.int .i64 m.made):=(blk_cell Gg2.out (4)).trans (rfl))|(refine ag 5 #[.int .i64 c.kind,.int .i64 0,.slice uA m.trace.length uc,.int .i64 m.made] Gg5.out size_oc (h:= ?_);intro x5 hbox hev;replace KP:=kv KP hev;replace HS:=rs HS hev;replace Gg2:=hev.b Gg2;replace Gg3:=hev.b Gg3;replace Gg4:=hev.b' Gg4 (ne_some NE_g4_g5);clear Gg5;have Gg5:=am hbox;clear hbox hev;clear qk qt qm;have qs:x5.cell? ⟨g2,2,none⟩=some (.bool true):=(blk_cell Gg2.out (2)).trans (by rw [← HSP.out];rfl);have qk:x5.cell? ⟨g3,7,none⟩=some (.int .i64 c.kind):=(blk_cell Gg3.out (7)).trans (rfl);have qo:x5.cell? ⟨g5,0,none⟩=some (.int .i64 c.kind):=(blk_cell Gg5.out (0)).trans (rfl);have zqo:=blk_frozen Gg5.out (0)))
 clear qs qk qo zqo
 have hev:=Evt.set Gg5.out (0) (.int .i64 4)
 replace KP:=kv KP hev
 replace HS:=rs HS hev
 replace Gg2:=hev.b Gg2
 replace Gg3:=hev.b Gg3
 replace Gg4:=hev.b' Gg4 (ne_some NE_g4_g5)
 replace Gg5:=Z ((blk_set Gg5.out (0) (.int .i64 4)).trans (show _=some (Obj.cells #[.int .i64 4,.int .i64 0,.slice uA m.trace.length uc,.int .i64 m.made] 30 (0,0)) from rfl))
 clear hev
 generalize x5.setCell ⟨g5,0,none⟩ (.int .i64 4)=x6 at KP HS Gg2 Gg3 Gg4 Gg5 ⊢
 go_wp2_with (first|(refine lr 32 Gg5.out und_oc size_oc (h:= ?_))|(refine ag 4 #[.int .i64 4,.int .i64 0,.slice uA m.trace.length uc,.int .i64 m.made] Gg4.out size_oc (h:= ?_);intro x7 hbox hev;replace KP:=kv KP hev;replace HS:=rs HS hev;replace Gg2:=hev.b Gg2;replace Gg3:=hev.b Gg3;replace Gg5:=hev.b' Gg5 (ne_some' NE_g4_g5);clear Gg4;have Gg4:=am hbox;clear hbox hev))
 refine bodyPost_ret (results_cell_row rfl _ _ g4 30 #[.int .i64 4,.int .i64 0,.slice uA m.trace.length uc,.int .i64 m.made] (0,0) _ rfl Gg4.out und_oc rfl size_oc) rfl ?_
 exact⟨rfl,HS.out,KP.out.all⟩
theorem l2Told_1(w:World)(base:Nat)(A0:Value)(fuel:Int)(m:SM)(c:SF)(uA:Option Addr)(uc:Nat)(sv:Value)(dA:Option Addr)(dn dc:Nat)(pA:Option Addr)(pn pc:Nat)(hA:A0= .slice pA pn pc)(vA:Option Addr)(vn vc:Nat)(hV:sv= .slice vA vn vc)(H:SRows w base m (.slice uA m.trace.length uc) sv)(hsp:m.spent=false)(hk:c.kind=1) :
  Calls Try.prog 228 #[.agg (smC A0 fuel m (.slice uA m.trace.length uc) sv).toArray,.agg (sfC c (.slice dA dn dc)).toArray] w fun e w'=>e= .returned (.agg #[.int .i64 1,.int .i64 c.r1,.slice uA m.trace.length uc,.int .i64 m.made])∧SRows w' base m (.slice uA m.trace.length uc) sv∧Below w.heap.size w w':=by
 subst hA
 subst hV
 have KP:=Z (KeptS.refl (.slice none 0 0) (.slice none 0 0) w)
 have HS:=am H
 clear H
 have HSP:=am hsp
 clear hsp
 have HK:=am hk
 clear hk
 go_enter Try.func228,Try.ntmps228
 go_upto_region 1 with(first|(refine bx 2 (smC (.slice pA pn pc) fuel m (.slice uA m.trace.length uc) (.slice vA vn vc)).toArray 167 (h:= ?_);intro g2 hg_ x1 hbox hbel;have Lg2:=lg hg_ KP.out.size;have hE_:=Evt.below hbel 0;replace KP:=kv KP hE_;replace HS:=rs HS hE_;have Gg2:=am hbox;clear hbel hbox hg_ hE_)|(refine bx 3 (sfC c (.slice dA dn dc)).toArray 169 (h:= ?_);intro g3 hg_ x2 hbox hbel;have Lg3:=lg hg_ KP.out.size;have hE_:=Evt.below hbel 0;replace KP:=kv KP hE_;replace HS:=rs HS hE_;replace Gg2:=hE_.b Gg2;have Gg3:=am hbox;clear hbel hbox hg_ hE_)|(refine bx 4 #[.int .i64 0,.int .i64 0,.slice none 0 0,.int .i64 0] 30 (h:= ?_);intro g4 hg_ x3 hbox hbel;have Lg4:=lg hg_ KP.out.size;have hE_:=Evt.below hbel 0;replace KP:=kv KP hE_;replace HS:=rs HS hE_;replace Gg2:=hE_.b Gg2;replace Gg3:=hE_.b Gg3;have Gg4:=am hbox;clear hbel hbox hg_ hE_;have qk:x3.cell? ⟨g3,7,none⟩=some (.int .i64 1):=(blk_cell Gg3.out (7)).trans zq108;have qt:x3.cell? ⟨g2,6,none⟩=some (.slice uA m.trace.length uc):=(blk_cell Gg2.out (6)).trans (rfl);have qm:x3.cell? ⟨g2,4,none⟩=some (.int .i64 m.made):=(blk_cell Gg2.out (4)).trans (rfl)))
 go_upto_region 8 with(first|(refine bx 5 #[.int .i64 0,.int .i64 0,.slice none 0 0,.int .i64 0] 30 (h:= ?_);intro g5 hg_ x4 hbox hbel;have Lg5:=lg hg_ KP.out.size;have NE_g4_g5:=nel hg_ Gg4.out;have hE_:=Evt.below hbel 0;replace KP:=kv KP hE_;replace HS:=rs HS hE_;replace Gg2:=hE_.b Gg2;replace Gg3:=hE_.b Gg3;replace Gg4:=hE_.b Gg4;have Gg5:=am hbox;clear hbel hbox hg_ hE_;clear qk qt qm;have qk:x4.cell? ⟨g3,7,none⟩=some (.int .i64 1):=(blk_cell Gg3.out (7)).trans zq108;have qt:x4.cell? ⟨g2,6,none⟩=some (.slice uA m.trace.length uc):=(blk_cell Gg2.out (6)).trans (rfl);have qm:x4.cell? ⟨g2,4,none⟩=some (.int .i64 m.made):=(blk_cell Gg2.out (4)).trans (rfl))|(refine ag 5 #[.int .i64 1,.int .i64 0,.slice uA m.trace.length uc,.int .i64 m.made] Gg5.out size_oc (h:= ?_);intro x5 hbox hev;replace KP:=kv KP hev;replace HS:=rs HS hev;replace Gg2:=hev.b Gg2;replace Gg3:=hev.b Gg3;replace Gg4:=hev.b' Gg4 (ne_some NE_g4_g5);clear Gg5;have Gg5:=am hbox;clear hbox hev;clear qk qt qm;have qs:x5.cell? ⟨g2,2,none⟩=some (.bool false):=(blk_cell Gg2.out (2)).trans (by rw [← HSP.out];rfl);have qk:x5.cell? ⟨g3,7,none⟩=some (.int .i64 1):=(blk_cell Gg3.out (7)).trans zq108;have qv:x5.cell? ⟨g3,3,none⟩=some (.int .i64 c.r1):=(blk_cell Gg3.out (3)).trans (rfl);have qo:x5.cell? ⟨g5,1,none⟩=some (.int .i64 0):=(blk_cell Gg5.out (1)).trans (rfl);have zqo:=blk_frozen Gg5.out (1)))
 clear qs qk qv qo zqo
 have hev:=Evt.set Gg5.out (1) (.int .i64 c.r1)
 replace KP:=kv KP hev
 replace HS:=rs HS hev
 replace Gg2:=hev.b Gg2
 replace Gg3:=hev.b Gg3
 replace Gg4:=hev.b' Gg4 (ne_some NE_g4_g5)
 replace Gg5:=Z ((blk_set Gg5.out (1) (.int .i64 c.r1)).trans (show _=some (Obj.cells #[.int .i64 1,.int .i64 c.r1,.slice uA m.trace.length uc,.int .i64 m.made] 30 (0,0)) from rfl))
 clear hev
 generalize x5.setCell ⟨g5,1,none⟩ (.int .i64 c.r1)=x6 at KP HS Gg2 Gg3 Gg4 Gg5 ⊢
 go_wp2_with (first|(refine lr 32 Gg5.out und_oc size_oc (h:= ?_))|(refine ag 4 #[.int .i64 1,.int .i64 c.r1,.slice uA m.trace.length uc,.int .i64 m.made] Gg4.out size_oc (h:= ?_);intro x7 hbox hev;replace KP:=kv KP hev;replace HS:=rs HS hev;replace Gg2:=hev.b Gg2;replace Gg3:=hev.b Gg3;replace Gg5:=hev.b' Gg5 (ne_some' NE_g4_g5);clear Gg4;have Gg4:=am hbox;clear hbox hev))
 refine bodyPost_ret (results_cell_row rfl _ _ g4 30 #[.int .i64 1,.int .i64 c.r1,.slice uA m.trace.length uc,.int .i64 m.made] (0,0) _ rfl Gg4.out und_oc rfl size_oc) rfl ?_
 exact⟨rfl,HS.out,KP.out.all⟩
theorem l2Told_2(w:World)(base:Nat)(A0:Value)(fuel:Int)(m:SM)(c:SF)(uA:Option Addr)(uc:Nat)(sv:Value)(dA:Option Addr)(dn dc:Nat)(pA:Option Addr)(pn pc:Nat)(hA:A0= .slice pA pn pc)(vA:Option Addr)(vn vc:Nat)(hV:sv= .slice vA vn vc)(H:SRows w base m (.slice uA m.trace.length uc) sv)(hsp:m.spent=false)(hk:c.kind=2) :
  Calls Try.prog 228 #[.agg (smC A0 fuel m (.slice uA m.trace.length uc) sv).toArray,.agg (sfC c (.slice dA dn dc)).toArray] w fun e w'=>e= .returned (.agg #[.int .i64 2,.int .i64 c.value,.slice uA m.trace.length uc,.int .i64 m.made])∧SRows w' base m (.slice uA m.trace.length uc) sv∧Below w.heap.size w w':=by
 subst hA
 subst hV
 have KP:=Z (KeptS.refl (.slice none 0 0) (.slice none 0 0) w)
 have HS:=am H
 clear H
 have HSP:=am hsp
 clear hsp
 have HK:=am hk
 clear hk
 go_enter Try.func228,Try.ntmps228
 go_upto_region 1 with(first|(refine bx 2 (smC (.slice pA pn pc) fuel m (.slice uA m.trace.length uc) (.slice vA vn vc)).toArray 167 (h:= ?_);intro g2 hg_ x1 hbox hbel;have Lg2:=lg hg_ KP.out.size;have hE_:=Evt.below hbel 0;replace KP:=kv KP hE_;replace HS:=rs HS hE_;have Gg2:=am hbox;clear hbel hbox hg_ hE_)|(refine bx 3 (sfC c (.slice dA dn dc)).toArray 169 (h:= ?_);intro g3 hg_ x2 hbox hbel;have Lg3:=lg hg_ KP.out.size;have hE_:=Evt.below hbel 0;replace KP:=kv KP hE_;replace HS:=rs HS hE_;replace Gg2:=hE_.b Gg2;have Gg3:=am hbox;clear hbel hbox hg_ hE_)|(refine bx 4 #[.int .i64 0,.int .i64 0,.slice none 0 0,.int .i64 0] 30 (h:= ?_);intro g4 hg_ x3 hbox hbel;have Lg4:=lg hg_ KP.out.size;have hE_:=Evt.below hbel 0;replace KP:=kv KP hE_;replace HS:=rs HS hE_;replace Gg2:=hE_.b Gg2;replace Gg3:=hE_.b Gg3;have Gg4:=am hbox;clear hbel hbox hg_ hE_;have qk:x3.cell? ⟨g3,7,none⟩=some (.int .i64 2):=(blk_cell Gg3.out (7)).trans zq108;have qt:x3.cell? ⟨g2,6,none⟩=some (.slice uA m.trace.length uc):=(blk_cell Gg2.out (6)).trans (rfl);have qm:x3.cell? ⟨g2,4,none⟩=some (.int .i64 m.made):=(blk_cell Gg2.out (4)).trans (rfl)))
 go_upto_region 8 with(first|(refine bx 5 #[.int .i64 0,.int .i64 0,.slice none 0 0,.int .i64 0] 30 (h:= ?_);intro g5 hg_ x4 hbox hbel;have Lg5:=lg hg_ KP.out.size;have NE_g4_g5:=nel hg_ Gg4.out;have hE_:=Evt.below hbel 0;replace KP:=kv KP hE_;replace HS:=rs HS hE_;replace Gg2:=hE_.b Gg2;replace Gg3:=hE_.b Gg3;replace Gg4:=hE_.b Gg4;have Gg5:=am hbox;clear hbel hbox hg_ hE_;clear qk qt qm;have qk:x4.cell? ⟨g3,7,none⟩=some (.int .i64 2):=(blk_cell Gg3.out (7)).trans zq108;have qt:x4.cell? ⟨g2,6,none⟩=some (.slice uA m.trace.length uc):=(blk_cell Gg2.out (6)).trans (rfl);have qm:x4.cell? ⟨g2,4,none⟩=some (.int .i64 m.made):=(blk_cell Gg2.out (4)).trans (rfl))|(refine ag 5 #[.int .i64 2,.int .i64 0,.slice uA m.trace.length uc,.int .i64 m.made] Gg5.out size_oc (h:= ?_);intro x5 hbox hev;replace KP:=kv KP hev;replace HS:=rs HS hev;replace Gg2:=hev.b Gg2;replace Gg3:=hev.b Gg3;replace Gg4:=hev.b' Gg4 (ne_some NE_g4_g5);clear Gg5;have Gg5:=am hbox;clear hbox hev;clear qk qt qm;have qs:x5.cell? ⟨g2,2,none⟩=some (.bool false):=(blk_cell Gg2.out (2)).trans (by rw [← HSP.out];rfl);have qk:x5.cell? ⟨g3,7,none⟩=some (.int .i64 2):=(blk_cell Gg3.out (7)).trans zq108;have qv:x5.cell? ⟨g3,8,none⟩=some (.int .i64 c.value):=(blk_cell Gg3.out (8)).trans (rfl);have qo:x5.cell? ⟨g5,1,none⟩=some (.int .i64 0):=(blk_cell Gg5.out (1)).trans (rfl);have zqo:=blk_frozen Gg5.out (1)))
 clear qs qk qv qo zqo
 have hev:=Evt.set Gg5.out (1) (.int .i64 c.value)
 replace KP:=kv KP hev
 replace HS:=rs HS hev
 replace Gg2:=hev.b Gg2
 replace Gg3:=hev.b Gg3
 replace Gg4:=hev.b' Gg4 (ne_some NE_g4_g5)
 replace Gg5:=Z ((blk_set Gg5.out (1) (.int .i64 c.value)).trans (show _=some (Obj.cells #[.int .i64 2,.int .i64 c.value,.slice uA m.trace.length uc,.int .i64 m.made] 30 (0,0)) from rfl))
 clear hev
 generalize x5.setCell ⟨g5,1,none⟩ (.int .i64 c.value)=x6 at KP HS Gg2 Gg3 Gg4 Gg5 ⊢
 go_wp2_with (first|(refine lr 32 Gg5.out und_oc size_oc (h:= ?_))|(refine ag 4 #[.int .i64 2,.int .i64 c.value,.slice uA m.trace.length uc,.int .i64 m.made] Gg4.out size_oc (h:= ?_);intro x7 hbox hev;replace KP:=kv KP hev;replace HS:=rs HS hev;replace Gg2:=hev.b Gg2;replace Gg3:=hev.b Gg3;replace Gg5:=hev.b' Gg5 (ne_some' NE_g4_g5);clear Gg4;have Gg4:=am hbox;clear hbox hev))
 refine bodyPost_ret (results_cell_row rfl _ _ g4 30 #[.int .i64 2,.int .i64 c.value,.slice uA m.trace.length uc,.int .i64 m.made] (0,0) _ rfl Gg4.out und_oc rfl size_oc) rfl ?_
 exact⟨rfl,HS.out,KP.out.all⟩
theorem l2Told_3(w:World)(base:Nat)(A0:Value)(fuel:Int)(m:SM)(c:SF)(uA:Option Addr)(uc:Nat)(sv:Value)(dA:Option Addr)(dn dc:Nat)(pA:Option Addr)(pn pc:Nat)(hA:A0= .slice pA pn pc)(vA:Option Addr)(vn vc:Nat)(hV:sv= .slice vA vn vc)(H:SRows w base m (.slice uA m.trace.length uc) sv)(hsp:m.spent=false)(hk:c.kind=3) :
  Calls Try.prog 228 #[.agg (smC A0 fuel m (.slice uA m.trace.length uc) sv).toArray,.agg (sfC c (.slice dA dn dc)).toArray] w fun e w'=>e= .returned (.agg #[.int .i64 3,.int .i64 0,.slice uA m.trace.length uc,.int .i64 m.made])∧SRows w' base m (.slice uA m.trace.length uc) sv∧Below w.heap.size w w':=by
 subst hA
 subst hV
 have KP:=Z (KeptS.refl (.slice none 0 0) (.slice none 0 0) w)
 have HS:=am H
 clear H
 have HSP:=am hsp
 clear hsp
 have HK:=am hk
 clear hk
 go_enter Try.func228,Try.ntmps228
 go_upto_region 1 with(first|(refine bx 2 (smC (.slice pA pn pc) fuel m (.slice uA m.trace.length uc) (.slice vA vn vc)).toArray 167 (h:= ?_);intro g2 hg_ x1 hbox hbel;have Lg2:=lg hg_ KP.out.size;have hE_:=Evt.below hbel 0;replace KP:=kv KP hE_;replace HS:=rs HS hE_;have Gg2:=am hbox;clear hbel hbox hg_ hE_)|(refine bx 3 (sfC c (.slice dA dn dc)).toArray 169 (h:= ?_);intro g3 hg_ x2 hbox hbel;have Lg3:=lg hg_ KP.out.size;have hE_:=Evt.below hbel 0;replace KP:=kv KP hE_;replace HS:=rs HS hE_;replace Gg2:=hE_.b Gg2;have Gg3:=am hbox;clear hbel hbox hg_ hE_)|(refine bx 4 #[.int .i64 0,.int .i64 0,.slice none 0 0,.int .i64 0] 30 (h:= ?_);intro g4 hg_ x3 hbox hbel;have Lg4:=lg hg_ KP.out.size;have hE_:=Evt.below hbel 0;replace KP:=kv KP hE_;replace HS:=rs HS hE_;replace Gg2:=hE_.b Gg2;replace Gg3:=hE_.b Gg3;have Gg4:=am hbox;clear hbel hbox hg_ hE_;have qk:x3.cell? ⟨g3,7,none⟩=some (.int .i64 3):=(blk_cell Gg3.out (7)).trans zq108;have qt:x3.cell? ⟨g2,6,none⟩=some (.slice uA m.trace.length uc):=(blk_cell Gg2.out (6)).trans (rfl);have qm:x3.cell? ⟨g2,4,none⟩=some (.int .i64 m.made):=(blk_cell Gg2.out (4)).trans (rfl)))
 go_upto_region 8 with(first|(refine bx 5 #[.int .i64 0,.int .i64 0,.slice none 0 0,.int .i64 0] 30 (h:= ?_);intro g5 hg_ x4 hbox hbel;have Lg5:=lg hg_ KP.out.size;have NE_g4_g5:=nel hg_ Gg4.out;have hE_:=Evt.below hbel 0;replace KP:=kv KP hE_;replace HS:=rs HS hE_;replace Gg2:=hE_.b Gg2;replace Gg3:=hE_.b Gg3;replace Gg4:=hE_.b Gg4;have Gg5:=am hbox;clear hbel hbox hg_ hE_;clear qk qt qm;have qk:x4.cell? ⟨g3,7,none⟩=some (.int .i64 3):=(blk_cell Gg3.out (7)).trans zq108;have qt:x4.cell? ⟨g2,6,none⟩=some (.slice uA m.trace.length uc):=(blk_cell Gg2.out (6)).trans (rfl);have qm:x4.cell? ⟨g2,4,none⟩=some (.int .i64 m.made):=(blk_cell Gg2.out (4)).trans (rfl))|(refine ag 5 #[.int .i64 3,.int .i64 0,.slice uA m.trace.length uc,.int .i64 m.made] Gg5.out size_oc (h:= ?_);intro x5 hbox hev;replace KP:=kv KP hev;replace HS:=rs HS hev;replace Gg2:=hev.b Gg2;replace Gg3:=hev.b Gg3;replace Gg4:=hev.b' Gg4 (ne_some NE_g4_g5);clear Gg5;have Gg5:=am hbox;clear hbox hev;clear qk qt qm;have qs:x5.cell? ⟨g2,2,none⟩=some (.bool false):=(blk_cell Gg2.out (2)).trans (by rw [← HSP.out];rfl);have qk:x5.cell? ⟨g3,7,none⟩=some (.int .i64 3):=(blk_cell Gg3.out (7)).trans zq108))
 clear qs qk
 go_wp2_with (first|(refine lr 32 Gg5.out und_oc size_oc (h:= ?_))|(refine ag 4 #[.int .i64 3,.int .i64 0,.slice uA m.trace.length uc,.int .i64 m.made] Gg4.out size_oc (h:= ?_);intro x6 hbox hev;replace KP:=kv KP hev;replace HS:=rs HS hev;replace Gg2:=hev.b Gg2;replace Gg3:=hev.b Gg3;replace Gg5:=hev.b' Gg5 (ne_some' NE_g4_g5);clear Gg4;have Gg4:=am hbox;clear hbox hev))
 refine bodyPost_ret (results_cell_row rfl _ _ g4 30 #[.int .i64 3,.int .i64 0,.slice uA m.trace.length uc,.int .i64 m.made] (0,0) _ rfl Gg4.out und_oc rfl size_oc) rfl ?_
 exact⟨rfl,HS.out,KP.out.all⟩
theorem l2Told_0(w:World)(base:Nat)(A0:Value)(fuel:Int)(m:SM)(c:SF)(uA:Option Addr)(uc:Nat)(sv:Value)(dA:Option Addr)(dn dc:Nat)(pA:Option Addr)(pn pc:Nat)(hA:A0= .slice pA pn pc)(vA:Option Addr)(vn vc:Nat)(hV:sv= .slice vA vn vc)(H:SRows w base m (.slice uA m.trace.length uc) sv)(hsp:m.spent=false)(hk:c.kind=0) :
  Calls Try.prog 228 #[.agg (smC A0 fuel m (.slice uA m.trace.length uc) sv).toArray,.agg (sfC c (.slice dA dn dc)).toArray] w fun e w'=>e= .returned (.agg #[.int .i64 0,.int .i64 0,.slice uA m.trace.length uc,.int .i64 m.made])∧SRows w' base m (.slice uA m.trace.length uc) sv∧Below w.heap.size w w':=by
 subst hA
 subst hV
 have KP:=Z (KeptS.refl (.slice none 0 0) (.slice none 0 0) w)
 have HS:=am H
 clear H
 have HSP:=am hsp
 clear hsp
 have HK:=am hk
 clear hk
 go_enter Try.func228,Try.ntmps228
 go_upto_region 1 with(first|(refine bx 2 (smC (.slice pA pn pc) fuel m (.slice uA m.trace.length uc) (.slice vA vn vc)).toArray 167 (h:= ?_);intro g2 hg_ x1 hbox hbel;have Lg2:=lg hg_ KP.out.size;have hE_:=Evt.below hbel 0;replace KP:=kv KP hE_;replace HS:=rs HS hE_;have Gg2:=am hbox;clear hbel hbox hg_ hE_)|(refine bx 3 (sfC c (.slice dA dn dc)).toArray 169 (h:= ?_);intro g3 hg_ x2 hbox hbel;have Lg3:=lg hg_ KP.out.size;have hE_:=Evt.below hbel 0;replace KP:=kv KP hE_;replace HS:=rs HS hE_;replace Gg2:=hE_.b Gg2;have Gg3:=am hbox;clear hbel hbox hg_ hE_)|(refine bx 4 #[.int .i64 0,.int .i64 0,.slice none 0 0,.int .i64 0] 30 (h:= ?_);intro g4 hg_ x3 hbox hbel;have Lg4:=lg hg_ KP.out.size;have hE_:=Evt.below hbel 0;replace KP:=kv KP hE_;replace HS:=rs HS hE_;replace Gg2:=hE_.b Gg2;replace Gg3:=hE_.b Gg3;have Gg4:=am hbox;clear hbel hbox hg_ hE_;have qk:x3.cell? ⟨g3,7,none⟩=some (.int .i64 0):=(blk_cell Gg3.out (7)).trans zq108;have qt:x3.cell? ⟨g2,6,none⟩=some (.slice uA m.trace.length uc):=(blk_cell Gg2.out (6)).trans (rfl);have qm:x3.cell? ⟨g2,4,none⟩=some (.int .i64 m.made):=(blk_cell Gg2.out (4)).trans (rfl)))
 go_upto_region 8 with(first|(refine bx 5 #[.int .i64 0,.int .i64 0,.slice none 0 0,.int .i64 0] 30 (h:= ?_);intro g5 hg_ x4 hbox hbel;have Lg5:=lg hg_ KP.out.size;have NE_g4_g5:=nel hg_ Gg4.out;have hE_:=Evt.below hbel 0;replace KP:=kv KP hE_;replace HS:=rs HS hE_;replace Gg2:=hE_.b Gg2;replace Gg3:=hE_.b Gg3;replace Gg4:=hE_.b Gg4;have Gg5:=am hbox;clear hbel hbox hg_ hE_;clear qk qt qm;have qk:x4.cell? ⟨g3,7,none⟩=some (.int .i64 0):=(blk_cell Gg3.out (7)).trans zq108;have qt:x4.cell? ⟨g2,6,none⟩=some (.slice uA m.trace.length uc):=(blk_cell Gg2.out (6)).trans (rfl);have qm:x4.cell? ⟨g2,4,none⟩=some (.int .i64 m.made):=(blk_cell Gg2.out (4)).trans (rfl))|(refine ag 5 #[.int .i64 0,.int .i64 0,.slice uA m.trace.length uc,.int .i64 m.made] Gg5.out size_oc (h:= ?_);intro x5 hbox hev;replace KP:=kv KP hev;replace HS:=rs HS hev;replace Gg2:=hev.b Gg2;replace Gg3:=hev.b Gg3;replace Gg4:=hev.b' Gg4 (ne_some NE_g4_g5);clear Gg5;have Gg5:=am hbox;clear hbox hev;clear qk qt qm;have qs:x5.cell? ⟨g2,2,none⟩=some (.bool false):=(blk_cell Gg2.out (2)).trans (by rw [← HSP.out];rfl);have qk:x5.cell? ⟨g3,7,none⟩=some (.int .i64 0):=(blk_cell Gg3.out (7)).trans zq108))
 clear qs qk
 go_wp2_with (first|(refine lr 32 Gg5.out und_oc size_oc (h:= ?_))|(refine ag 4 #[.int .i64 0,.int .i64 0,.slice uA m.trace.length uc,.int .i64 m.made] Gg4.out size_oc (h:= ?_);intro x6 hbox hev;replace KP:=kv KP hev;replace HS:=rs HS hev;replace Gg2:=hev.b Gg2;replace Gg3:=hev.b Gg3;replace Gg5:=hev.b' Gg5 (ne_some' NE_g4_g5);clear Gg4;have Gg4:=am hbox;clear hbox hev))
 refine bodyPost_ret (results_cell_row rfl _ _ g4 30 #[.int .i64 0,.int .i64 0,.slice uA m.trace.length uc,.int .i64 m.made] (0,0) _ rfl Gg4.out und_oc rfl size_oc) rfl ?_
 exact⟨rfl,HS.out,KP.out.all⟩
def toldK(m:SM)(c:SF):Int:=if m.spent=true then 4 else c.kind
def toldV(m:SM)(c:SF):Int:=if m.spent=true then 0 else if c.kind=1 then c.r1 else if c.kind=2 then c.value else 0
theorem l2Told.calls(w:World)(base:Nat)(A0:Value)(fuel:Int)(m:SM)(c:SF)(uA:Option Addr)(uc:Nat)(sv:Value)(dA:Option Addr)(dn dc:Nat)(pA:Option Addr)(pn pc:Nat)(hA:A0= .slice pA pn pc)(vA:Option Addr)(vn vc:Nat)(hV:sv= .slice vA vn vc)(H:SRows w base m (.slice uA m.trace.length uc) sv)(hki:0≤c.kind∧c.kind≤3) :
  Calls Try.prog 228 #[.agg (smC A0 fuel m (.slice uA m.trace.length uc) sv).toArray,.agg (sfC c (.slice dA dn dc)).toArray] w fun e w'=>e= .returned (.agg #[.int .i64 (toldK m c),.int .i64 (toldV m c),.slice uA m.trace.length uc,.int .i64 m.made])∧SRows w' base m (.slice uA m.trace.length uc) sv∧Below w.heap.size w w':=by
 unfold toldK toldV
 rcases Bool.eq_false_or_eq_true m.spent with hsp|hsp
 ·rw [if_pos hsp,if_pos hsp]
  exact l2Told_s w base A0 fuel m c uA uc sv dA dn dc pA pn pc hA vA vn vc hV H hsp
 ·rw [if_neg (by rw [hsp];decide),if_neg (by rw [hsp];decide)]
  have hk:c.kind=0∨c.kind=1∨c.kind=2∨c.kind=3:=by omega
  rcases hk with hk|hk|hk|hk
  ·rw [if_neg zq90,if_neg zq90,hk]
   exact l2Told_0 w base A0 fuel m c uA uc sv dA dn dc pA pn pc hA vA vn vc hV H hsp hk
  ·rw [if_pos hk,hk]
   exact l2Told_1 w base A0 fuel m c uA uc sv dA dn dc pA pn pc hA vA vn vc hV H hsp hk
  ·rw [if_neg zq90,if_pos hk,hk]
   exact l2Told_2 w base A0 fuel m c uA uc sv dA dn dc pA pn pc hA vA vn vc hV H hsp hk
  ·rw [if_neg zq90,if_neg zq90,hk]
   exact l2Told_3 w base A0 fuel m c uA uc sv dA dn dc pA pn pc hA vA vn vc hV H hsp hk
def runD(p:List (List St))(R d:Nat)(f arg fuel:Int):OutM:=⟨toldK (callS p fuel R d sm0 (sf0 f arg)).1 (callS p fuel R d sm0 (sf0 f arg)).2,toldV (callS p fuel R d sm0 (sf0 f arg)).1 (callS p fuel R d sm0 (sf0 f arg)).2,(callS p fuel R d sm0 (sf0 f arg)).1.trace,(callS p fuel R d sm0 (sf0 f arg)).1.made⟩
theorem runS_runD(p:List (List St))(R d:Nat)(hd:d=8)(f arg fuel:Int):runS p R f arg fuel=runD p R d f arg fuel:=by
 subst hd
 unfold runS runD toldK toldV sm0 sf0
 generalize callS p fuel R 8 ⟨false,0,0,0,[],[]⟩ ⟨f,1,arg,0,0,0,[],0,0,false,false,false,0,false,0⟩=r
 obtain⟨m,c⟩:=r
 rfl
def RunSP(w w':World)(q:OutM)(e:Ending):Prop :=
 ∃ uA uc,e= .returned (.agg #[.int .i64 q.kind,.int .i64 q.value,.slice uA q.trace.length uc,.int .i64 q.spent])∧w'.ownsRow w.heap.size 63 3 (.slice uA q.trace.length uc) q.trace.length (q.trace.flatMap evC)∧Below w.heap.size w w'
theorem l2Run.calls(k:Nat)(w:World)(A0:Option Addr)(c0:Nat)(p:List (List St))(N fuel:Int)(R:Nat)(f arg:Int)(hr0:Kd.C (Kd.slice 219 k219) w A0 p.length p)(hc0:p.length≤c0)(hown:spec_l2Own.f k p=some p)
  (hok:ProgOk N p) (hwf: ∀ b∈p,∀ s∈b,StepWf s) (hlen:(p.length:Int)=N) (hbody: ∀ b∈p,b.length≤1000) (hf0:0≤fuel∧fuel≤1000) (hfR:fuel<R) (hf:0≤f∧f<N) (ha:Num arg) (d8:Nat) (h8:d8=8) :
  Calls Try.prog 144 #[.agg #[.slice A0 p.length c0],.int .i64 f,.int .i64 arg,.int .i64 fuel] w fun e w'=>RunSP w w' (runD p R d8 f arg fuel) e:=by
 have KP:=Z (KeptS.refl (.slice none 0 0) (.slice none 0 0) w)
 have HWH:=Z (fun(w1:World) (hb:Below w.heap.size w w1)=>l2Whole.calls k w1 A0 c0 p N fuel R f arg (Kd.C_below hr0 hb) hc0 hown hok hwf hlen hbody hf0 hfR hf ha d8 h8)
 have HKI:=Z ((callS_ok (N:=N) (fuel:=fuel) hok R d8 sm0 (sf0 f arg) ⟨num0,Int.le_refl _,hf0.1,rfl⟩ (SFok.start hf ha _ _ num0 num0) rfl).oc.ki)
 clear hr0 hown hok hwf hlen hbody hf0 hfR hf ha h8 hc0
 unfold runD
 rcases hr8:callS p fuel R d8 sm0 (sf0 f arg) with⟨m2,i2⟩
 rw [hr8] at HKI
 have HR8:=am hr8
 clear hr8
 dsimp only
 obtain⟨kk,hkk⟩: ∃ kk,kk=toldK m2 i2:=⟨_,rfl⟩
 obtain⟨vv,hvv⟩: ∃ vv,vv=toldV m2 i2:=⟨_,rfl⟩
 rw [← hkk,←hvv]
 have HKK:=am hkk
 have HVV:=am hvv
 clear hkk hvv
 go_enter Try.func144,Try.ntmps144
 go_upto_region 2 with(first|(refine bx 4 #[.slice A0 p.length c0] 35 (h:= ?_);intro g4 hg_ x1 hbox hbel;have Lg4:=lg hg_ KP.out.size;have hE_:=Evt.below hbel 0;replace KP:=kv KP hE_;have Gg4:=am hbox;clear hbel hbox hg_ hE_)|(refine bx 8 #[.int .i64 0,.int .i64 0,.slice none 0 0,.int .i64 0] 30 (h:= ?_);intro g8 hg_ x2 hbox hbel;have Lg8:=lg hg_ KP.out.size;have hE_:=Evt.below hbel 0;replace KP:=kv KP hE_;replace Gg4:=hE_.b Gg4;have Gg8:=am hbox;clear hbel hbox hg_ hE_;have qp:x2.cell? ⟨g4,0,none⟩=some (.slice A0 p.length c0):=(blk_cell Gg4.out (0)).trans (rfl)))
 refine(HWH.out _ KP.out.all).mono ?_
 rw [HR8.out]
 rintro e w1 ⟨A1,n1,c1,tv,sv,eA,en,ec,rfl,hS,hb⟩
 have hE_:=Evt.below hb 0
 clear qp
 replace Gg4:=hE_.b Gg4
 replace Gg8:=hE_.b Gg8
 have HSZ:=am KP.out.size
 replace KP:=Z (KP.out.below hb)
 have HS:=Z (hS.base HSZ.out)
 clear hb hE_ hS
 obtain⟨uB,ud,hu⟩:=own_slice HS.out.tr
 obtain⟨vC,ve,hv⟩:=own_slice HS.out.se
 subst hu
 subst hv
 clear Gg4
 go_upto_region 2 with(first|(refine bx 9 zsm 167 (h:= ?_);intro g9 hg_ x3 hbox hbel;have Lg9:=lg hg_ KP.out.size;have hE_:=Evt.below hbel 0;replace KP:=kv KP hE_;replace Gg8:=hE_.b Gg8;replace HS:=rs HS hE_;have Gg9:=am hbox;clear hbel hbox hg_ hE_)|(refine bx 10 zsf 169 (h:= ?_);intro g10 hg_ x4 hbox hbel;have Lg10:=lg hg_ KP.out.size;have hE_:=Evt.below hbel 0;replace KP:=kv KP hE_;replace Gg8:=hE_.b Gg8;replace HS:=rs HS hE_;replace Gg9:=hE_.b Gg9;have Gg10:=am hbox;clear hbel hbox hg_ hE_)|(refine ag 9 (smC (.slice A1 n1 c1) fuel m2 (.slice uB m2.trace.length ud) (.slice vC m2.seen.length ve)).toArray Gg9.out size_sm (h:= ?_);intro x5 hbox hev;replace KP:=kv KP hev;replace Gg8:=hev.b Gg8;replace HS:=rs HS hev;replace Gg10:=hev.b Gg10;clear Gg9;have Gg9:=am hbox;clear hbox hev)|(refine ag 10 (sfC i2 (.slice eA en ec)).toArray Gg10.out size_sf (h:= ?_);intro x6 hbox hev;replace KP:=kv KP hev;replace Gg8:=hev.b Gg8;replace HS:=rs HS hev;replace Gg9:=hev.b Gg9;clear Gg10;have Gg10:=am hbox;clear hbox hev))
 go_wp2_with (first|(refine lr 19 Gg9.out und_sm size_sm (h:= ?_))|(refine lr 20 Gg10.out und_sf size_sf (h:= ?_)))
 refine(show Calls Try.prog 228 #[.agg (smC (.slice A1 n1 c1) fuel m2 (.slice uB m2.trace.length ud) (.slice vC m2.seen.length ve)).toArray,.agg (sfC i2 (.slice eA en ec)).toArray] x6 (fun e w'=>e= .returned (.agg #[.int .i64 kk,.int .i64 vv,.slice uB m2.trace.length ud,.int .i64 m2.made])∧SRows w' w.heap.size m2 (.slice uB m2.trace.length ud) (.slice vC m2.seen.length ve)∧Below (x6).heap.size x6 w') from by
  rw [HKK.out,HVV.out]
  exact l2Told.calls x6 w.heap.size (.slice A1 n1 c1) fuel m2 i2 uB ud (.slice vC m2.seen.length ve) eA en ec A1 n1 c1 rfl vC m2.seen.length ve rfl HS.out HKI.out).mono ?_
 rintro e w2 ⟨rfl,hS,hb⟩
 have hE_:=Evt.below hb 0
 clear Gg9 Gg10
 replace Gg8:=hE_.b Gg8
 replace KP:=Z (KP.out.below hb)
 replace HS:=Z (hS)
 clear hb hE_ hS
 go_wp2_with (first|(refine ag 8 #[.int .i64 kk,.int .i64 vv,.slice uB m2.trace.length ud,.int .i64 m2.made] Gg8.out size_oc (h:= ?_);intro x7 hbox hev;replace KP:=kv KP hev;replace HS:=rs HS hev;clear Gg8;have Gg8:=am hbox;clear hbox hev))
 refine bodyPost_ret (results_cell_row rfl _ _ g8 30 #[.int .i64 kk,.int .i64 vv,.slice uB m2.trace.length ud,.int .i64 m2.made] (0,0) _ rfl Gg8.out und_oc rfl size_oc) rfl ?_
 exact⟨_,_,rfl,HS.out.tr,KP.out.all⟩
theorem call_sf(W0:World)(A0:Option Addr)(c0:Nat)(p:List (List St))(N fuel:Int)(R dd:Nat)(hIH:CallC W0 A0 c0 p N fuel R dd)(hPr:ProgAt W0 A0 c0 p N)(hf0:0≤fuel∧fuel≤1000)(hfR:fuel<R)(hd8:dd+1≤8)(w:World)(gm:Nat)(m:MS)(v:MV)(fn arg:Int)(pf:Fr)(gp:Nat)(rp pp:Value)
  (H:Mach w W0.heap.size gm (.slice A0 p.length c0) fuel m v) (hPl:PlOk w W0.heap.size v.pl m.places) (hbel:Below W0.heap.size W0 w) (hPA:PaOk w W0.heap.size w.heap.size (some pf) (.pointer (some ⟨gp,0,none⟩)) rp pp) (hwf:WF N (beginI m fn arg (some pf) false) (frameI m fn arg false) (some pf)) (hle:m.made≤fuel) (hdep:m.depth+(dd+1:Nat)=8) (hroom:(m.trace.length:Int)+3*(fuel-m.made)+2≤100000) (hpls:(m.places.length:Int)=m.made) :
  Calls Try.prog 292 #[.pointer (some ⟨gm,0,none⟩),.int .i64 fn,.int .i64 arg,(.pointer (some ⟨gp,0,none⟩)),.bool false] w fun e w'=>CallPost w w' W0.heap.size gm (.slice A0 p.length c0) fuel v (.pointer (some ⟨gp,0,none⟩)) rp pp (callI p fuel R (dd+1) m fn arg (some pf) false) e:=by
 have hb:W0.heap.size≤w.heap.size:=hbel.size
 have HA:=Z (H.wk hb (parG (.pointer (some ⟨gp,0,none⟩))) w.heap.size)
 clear H
 have HPO:=am hPA
 have HPL:=am hPl
 have HBEL:=am hbel
 have HIH:=am hIH
 have HPR:=am hPr
 have HWF:=am hwf
 have HDEP:=am hdep
 have HPLS:=am hpls
 have hdlo:0≤m.depth:=by omega
 have hdhi:m.depth≤7:=by omega
 have hd8n:(m.depth==8)=false:=by simpa using (show m.depth≠8 by omega)
 clear hPA hPl hbel hIH hPr hwf hdep hpls
 obtain⟨cA,cc,hca⟩:=own_slice HA.out.rows.ca
 have HCA:=am hca
 clear hca
 have e170: ∀ args w,(callFunc 302 args).run Try.prog w= .ok (.enter 302 args) w:=enters_of Try.func302 zq27 rfl
 have e171: ∀ args w,(callFunc 303 args).run Try.prog w= .ok (.enter 303 args) w:=enters_of Try.func303 zq27 rfl
 have e165: ∀ args w,(callFunc 292 args).run Try.prog w= .ok (.enter 292 args) w:=enters_of Try.func292 zq27 rfl
 have e172: ∀ args w,(callFunc 304 args).run Try.prog w= .ok (.enter 304 args) w:=enters_of Try.func304 zq27 rfl
 have e173: ∀ args w,(callFunc 305 args).run Try.prog w= .ok (.enter 305 args) w:=enters_of Try.func305 zq27 rfl
 have hc4:w.cell? ⟨gm,4,none⟩=some (.int .i64 m.depth):=(blk_cell HA.out.blk 4).trans rfl
 have hc8:w.cell? ⟨gm,8,none⟩=some (.slice cA m.calls.length cc):=(blk_cell HA.out.blk 8).trans zq122
 go_enter Try.func292,Try.ntmps292
 go_upto_region 6 with(first|(refine bx 31 (frC { (frameI m fn arg false) with r0:=0 } (.slice none 0 0) (.pointer (some ⟨gp,0,none⟩))).toArray 292 (h:= ?_);intro gf hgf w1 hbox hbel;have hE_:=Evt.below hbel 0;replace HA:=Z (HA.out.below hbel);have HF:=am hbox;replace HPO:=Z (show PaOk w1 W0.heap.size gf (some pf) (.pointer (some ⟨gp,0,none⟩)) rp pp from by rw [hgf];exact HPO.out.ev hE_ (fun h=>absurd h zq83));have HGF:=am hgf;clear hbel hbox hgf hE_;have hk2:w1.cell? ⟨gf,2,none⟩=some (.int .i64 0):=(blk_cell HF.out 2).trans rfl;have hz2:=blk_frozen HF.out 2;obtain⟨gq_,hq1_,hq2_,hq3_,hq4_⟩:=HPO.out;have hqe_:gp=gq_:=by { injection hq1_ with h_;injection h_ with h_;injection h_ };subst hqe_;have hid0:w1.cell? ⟨gp,0,none⟩=some (.int .i64 pf.id):=(blk_cell hq2_ 0).trans rfl;clear hq1_ hq2_ hq4_))
 clear hk2 hz2 hc4 hc8
 have hBf:w.heap.size≤gf:=Nat.le_of_eq HGF.out.symm
 have hbf:W0.heap.size≤gf:=Nat.le_trans hb hBf
 have hev:=Evt.set HF.out 2 (.int .i64 arg)
 replace HA:=Z (HA.out.other hev zq83 (fun q hq=>zq85))
 replace HF:=Z ((blk_set HF.out 2 (.int .i64 arg)).trans (show _=some (Obj.cells (frC (frameI m fn arg false) (.slice none 0 0) (.pointer (some ⟨gp,0,none⟩))).toArray 292 (0,0)) from rfl))
 replace HPO:=Z (HPO.out.ev hev)
 clear hid0
 clear hev
 generalize w1.setCell ⟨gf,2,none⟩ (.int .i64 arg)=x1 at HA HF HPO ⊢
 obtain⟨gq_,hq1_,hq2_,hq3_,hq4_⟩:=HPO.out
 have hqe_:gp=gq_:=by injection hq1_ with h_;injection h_ with h_;injection h_
 subst hqe_
 have hid0:x1.cell? ⟨gp,0,none⟩=some (.int .i64 pf.id):=(blk_cell hq2_ 0).trans rfl
 clear hq1_ hq2_ hq3_ hq4_
 go_upto_region 10 with(fail)
 clear hid0
 have hbr:=HWF.out.wm.room (show(beginI m fn arg (some pf) false).trace.length≤100000 from by show(m.trace++ [_]).length≤_;rw [len1];omega)
 have hcl:m.calls.length≤100000:=by have h:(m.calls++ [_]).length≤100000:=hbr.2.1;rw [len1] at h;omega
 have hol:m.owners.length≤100000:=by have h:(m.owners++ [_]).length≤100000:=hbr.1;rw [len1] at h;omega
 have htl:m.trace.length≤100000:=by omega
 clear hbr
 have hc8:x1.cell? ⟨gm,8,none⟩=some (.slice cA m.calls.length cc):=(blk_cell HA.out.blk 8).trans zq122
 go_upto_region 11 with(first|((with_reducible refine gate_dst (N:=55) rfl ?_);refine allocL_ (cs:=(ciC (⟨fn,pf.id,false,4,0,arg⟩:CI)).toArray) (e:=184) (n:=1) rfl ?run ?_;(case run=>first|(go_simp;done)|(go_simp;rfl));intro gA hgA w3 hnew hbel;have hE_:=Evt.below hbel 0;replace HA:=Z (HA.out.below hbel);replace HF:=hE_.b HF;replace HPO:=Z (HPO.out.ev hE_);have GgA:=am hnew;clear hbel hnew hgA hE_ hc8)|((with_reducible refine gate_dst (N:=56) rfl ?_);have hca2:=HCA.out;obtain⟨t,w4,hE,hA',hev⟩:=HA.out.appCa gA 1 (⟨fn,pf.id,false,4,0,arg⟩:CI) GgA.out hcl;rw [hca2] at hE;refine Kd.event_run rfl (appRun_ _ _ _ rfl rfl rfl rfl hE) ?_;clear hE hca2 GgA;have n1_:=am hA';replace HF:=hev.b HF;replace HPO:=Z (HPO.out.ev hev);clear HA;have HA:=n1_;clear n1_ hA' hev;obtain⟨tA,tc,ht⟩:=own_slice HA.out.rows.ca;have ht':t= .slice tA (m.calls.length+1) tc:=by { have h':=ht;rw [len1] at h';exact h' };clear ht;subst ht';have hm8:w4.cell? ⟨gm,8,none⟩=some v.ca:=(blk_cell HA.out.blk 8).trans rfl;have hz8:=blk_frozen HA.out.blk 8))
 clear hm8 hz8
 have hst:=HA.out.setM 8 (.slice tA (m.calls.length+1) tc)
 have hev:=hst.2
 replace HA:=Z (hst.1)
 replace HF:=hev.b HF
 replace HPO:=Z (HPO.out.ev hev)
 clear hst hev
 generalize w4.setCell ⟨gm,8,none⟩ (.slice tA (m.calls.length+1) tc)=x2 at HA HF HPO ⊢
 have hid:x2.cell? ⟨gf,0,none⟩=some (.int .i64 (m.calls.length:Int)):=(blk_cell HF.out 0).trans rfl
 go_upto_region 13 with(first|(go_at_fn 302;refine(tell.calls _ W0.heap.size gm (.slice A0 p.length c0) fuel { m with calls:=m.calls++ [(⟨fn,pf.id,false,4,0,arg⟩:CI)] } { v with ca:= .slice tA (m.calls.length+1) tc } 1 fn arg (m.calls.length:Int) (HA.out.mach (fuel:=fuel) (m:= { m with calls:=m.calls++ [(⟨fn,pf.id,false,4,0,arg⟩:CI)] }) (v:= { v with ca:= .slice tA (m.calls.length+1) tc })) HA.out.sz htl hol).mono ?_;rintro e w5 ⟨rfl,t5,q5,hM,hK2⟩;replace HF:=Z (KeptM.blk hK2 HF.out zq83 zq87);replace HPO:=Z (HPO.out.kept hK2 (.inl rfl));have n1_:=Z (HA.out.call hK2 hM (fun g e=>zq121) HA.out.kept.size);clear HA hM hK2 hid;have HA:=n1_;clear n1_;have hm4:w5.cell? ⟨gm,4,none⟩=some (.int .i64 m.depth):=(blk_cell HA.out.blk 4).trans rfl;have hz4:=blk_frozen HA.out.blk 4))
 clear hm4 hz4
 have hst:=HA.out.setM 4 (.int .i64 (m.depth+1))
 have hev:=hst.2
 replace HA:=Z (hst.1)
 replace HF:=hev.b HF
 replace HPO:=Z (HPO.out.ev hev)
 clear hst hev
 generalize w5.setCell ⟨gm,4,none⟩ (.int .i64 (m.depth+1))=x3 at HA HF HPO ⊢
 have hE0_:=Evt.drew x3 292
 replace HA:=Z (HA.out.drew)
 replace HF:=(Evt.drew x3 0).b HF
 replace HPO:=Z (HPO.out.ev (Evt.drew x3 0))
 clear hE0_
 refine start_ (n:=13) (S:=fun w'=>w'.cell? ⟨gm,5,none⟩=some (.int .i64 m.deepest)∧w'.cell? ⟨gm,4,none⟩=some (.int .i64 (m.depth+1))∧True) (ds:= [12]) (bb 13 0) zq27 rfl rfl ⟨(blk_cell HA.out.blk 5).trans rfl,(blk_cell HA.out.blk 4).trans rfl,trivial⟩ (fun hHeld=> ?_)
 generalize x3.drew=x4 at HA HF HPO hHeld ⊢
 refine pure1 0 75 (bb 13 1) (h:= ?_)
 refine pure1 1 76 (bb 13 3) (h:= ?_)
 refine pure1 2 77 (bb 13 7) (h:= ?_)
 refine pure1 3 78 (bb 13 15) (h:= ?_)
 refine take1 4 79 (bb 13 31) (hS:=hHeld) (h:= ?_)
 refine pure1 5 80 (bb 13 63) (h:= ?_)
 refine pure1 6 81 (bb 13 127) (h:= ?_)
 refine pure1 7 82 (bb 13 255) (h:= ?_)
 refine take1 8 83 (bb 13 511) (hS:=hHeld) (h:= ?_)
 refine pure1 9 84 (bb 13 1023) (h:= ?_)
 refine pure1 10 85 (bb 13 2047) (h:= ?_)
 refine pure1 11 86 (bb 13 4095) (h:= ?_)
 refine la 12 none (bb 13 8191) (h:=fun K hK=> ?_)
 have hc_:=(blk_cell HA.out.blk 5).trans (show _=some (Value.int .i64 m.deepest) from rfl)
 have hf_:=blk_frozen HA.out.blk 5
 rw [if_pos (by rfl)]
 unfold Oper.wp
 go_simp
 clear hc_ hf_
 have hev:=(HA.out.setM 5 (.int .i64 (if m.deepest<m.depth+1 then m.depth+1 else m.deepest))).2
 replace HA:=Z ((HA.out.setM 5 (.int .i64 (if m.deepest<m.depth+1 then m.depth+1 else m.deepest))).1)
 replace HF:=hev.b HF
 replace HPO:=Z (HPO.out.ev hev)
 generalize x4.setCell ⟨gm,5,none⟩ (.int .i64 (if m.deepest<m.depth+1 then m.depth+1 else m.deepest))=x5 at HA HF HPO ⊢
 clear hev
 refine hK.out _ _ ?_
 clear hK K
 refine done_ zq27 ?_
 have HMB:=Z (⟨HA.out.blk,HA.out.low,⟨HA.out.rows.tr,HA.out.rows.ow,HA.out.rows.ca,HA.out.rows.pa,HA.out.rows.re,HA.out.rows.ul,HA.out.rows.un,HA.out.rows.so,HA.out.rows.su⟩⟩:Mach x5 W0.heap.size gm (.slice A0 p.length c0) fuel (beginI m fn arg (some pf) false) { v with ca:= .slice tA (m.calls.length+1) tc,tr:=t5,ow:=q5 })
 have HK0:=am HA.out.kept
 have HB0:=Z (HA.out.kept.bel HBEL.out)
 have HP0:=Z (show PlOk x5 W0.heap.size v.pl (beginI m fn arg (some pf) false).places from HPL.out.maps HA.out.maps)
 have hdep2:(beginI m fn arg (some pf) false).depth+dd=8:=by have h:=HDEP.out;show m.depth+1+(dd:Int)=8;omega
 have HD2:=am hdep2
 have hrm2:((beginI m fn arg (some pf) false).trace.length:Int)+2*((frameI m fn arg false).runs.length:Nat)+3*(fuel-(beginI m fn arg (some pf) false).made)+1≤100000:=by show(((m.trace++ [_]).length:Nat):Int)+2*((0:Nat):Int)+3*(fuel-m.made)+1≤100000;rw [len1];omega
 have HCE:=Z (call_eq HPR.out.ok R hfR dd)
 have hmp0:0≤m.made:=by have h:=HPLS.out;omega
 have HC:=Z (body.calls W0 A0 c0 p N fuel R dd HIH.out HPR.out HCE.out x5 w.heap.size gm gf (beginI m fn arg (some pf) false) { v with ca:= .slice tA (m.calls.length+1) tc,tr:=t5,ow:=q5 } (frameI m fn arg false) (some pf) (.slice none 0 0) (.pointer (some ⟨gp,0,none⟩)) rp pp ⟨HMB.out,⟨HF.out,own_nil _ _ _ _,hbf,hBf,fun q hq=>by simp [Value.ownBlock] at hq⟩,HPO.out,HP0.out,rfl,KeptB.refl _ _ _ _⟩ HB0.out HK0.out.size HWF.out rfl hf0 hfR hle HD2.out hrm2 HPLS.out)
 have HWB:=Z (WF.body (n:=R) (at_:=0) HPR.out.ok HCE.out HWF.out (show(beginI m fn arg (some pf) false).made≤fuel from hle) (show(fuel-m.made).toNat<R by omega) rfl)
 have HRB:=Z (body_room (p:=p) (fuel:=fuel) (call_room (p:=p) (fuel:=fuel) R dd) R (beginI m fn arg (some pf) false) (frameI m fn arg false) (some pf) 0).1
 have HPB:=Z (body_pl (p:=p) (fuel:=fuel) (call_pl (p:=p) (fuel:=fuel) R dd) R (beginI m fn arg (some pf) false) (frameI m fn arg false) (some pf) 0)
 have HRM2:=am hrm2
 clear HA HF HPO HP0 hdep2 hrm2
 generalize (if m.deepest<m.depth+1 then m.depth+1 else m.deepest)=dX
 go_wp2_with (fail)
 refine HC.out.mono ?_
 clear HC
 rintro e w6 hpost
 rcases hpost with⟨hr,rfl,v6,hpl,hM,hPl,hK⟩|⟨f6,par6,rv6,v6,hr,rfl,hpl,hM,hFr,hPa,hPl,hK⟩
 ·refine⟨rfl,?_⟩
  rw [callI_spent (Prod.ext rfl hr)]
  exact .inl ⟨rfl,rfl,v6,hpl,hM,hPl,HK0.out.trans hK⟩
 obtain⟨m6,hm6⟩: ∃ m6,m6=(bodyI (callI p fuel R dd) p fuel R (beginI m fn arg (some pf) false) (frameI m fn arg false) (some pf) 0).1:=⟨_,rfl⟩
 have HBI:=Z (show bodyI (callI p fuel R dd) p fuel R (beginI m fn arg (some pf) false) (frameI m fn arg false) (some pf) 0=(m6,some (f6,par6)) from by rw [hm6];exact Prod.ext rfl hr)
 obtain⟨hw1,hw2⟩:=HWB.out
 obtain⟨hw3,hw4,hw5,hw6⟩:=hw2 f6 par6 hr
 have hrb:=HRB.out
 have hpb:=HPB.out
 have hrn:runsOf (bodyI (callI p fuel R dd) p fuel R (beginI m fn arg (some pf) false) (frameI m fn arg false) (some pf) 0).2=f6.runs.length:=by rw [hr];rfl
 rw [hrn] at hrb
 rw [← hm6] at hM hPl hw1 hw3 hw4 hrb hpb
 have HM6:=Z (show CJ N fuel R dd p (runsI (callI p fuel R dd) f6.runs.reverse m6 f6 par6) f6.runs.reverse m6 f6 par6 from by
  refine⟨hw3,(List.reverse_reverse _).symm,hw1,by rw [hw4];exact HD2.out,?_,?_,rfl⟩
  ·have h:=HRM2.out;rw [List.length_reverse];omega
  ·unfold Pl0 at hpb;have h:=HPLS.out;have h2:((beginI m fn arg (some pf) false).places.length:Int)-(beginI m fn arg (some pf) false).made=m.places.length-m.made:=rfl;omega)
 have HI6:=Z (show BI w w6 W0 w.heap.size gm gf (.slice A0 p.length c0) fuel m6 v6 v f6 par6 rv6 (.pointer (some ⟨gp,0,none⟩)) rp pp from⟨hM,hFr,hPa,by rw [hpl];exact hPl,hpl,HK0.out.trans hK⟩)
 clear hr hpl hM hFr hPa hPl hK hw1 hw2 hw3 hw4 hw5 hw6 hrb hpb hrn hm6 HWB HRB HPB HRM2 HMB HK0 HB0 HD2
 go_wp2_with (fail)
 go_loopg [14] f6.runs.length (fun gg s14 wr=> ∃ (l:List (Int×Int)) (m1:MS) (f1:Fr) (v1:MV) (rv1:Value),l.length=gg∧Aside0 (BI w wr W0 w.heap.size gm gf (.slice A0 p.length c0) fuel m1 v1 v f1 par6 rv1 (.pointer (some ⟨gp,0,none⟩)) rp pp)∧Aside0 (CJ N fuel R dd p (runsI (callI p fuel R dd) f6.runs.reverse m6 f6 par6) l m1 f1 par6))
 case atStart=>exact⟨f6.runs.reverse,m6,f6,v6,rv6,List.length_reverse,HI6,HM6⟩
 case round =>
  obtain⟨l,m1,f1,v1,rv1,hl,BB,JJ⟩:=hrel
  have HL:=am hl
  clear hl
  have hbw:W0.heap.size≤wr.heap.size:=Nat.le_trans hb BB.out.kept.size
  cases l with
  |nil =>
   have hr0:f1.runs= []:=JJ.out.runs
   obtain⟨rA,rc,hrv⟩:=own_slice BB.out.fr.run
   rw [hr0] at hrv
   have hk6:wr.cell? ⟨gf,6,none⟩=some (.slice rA 0 rc):=(blk_cell BB.out.fr.blk 6).trans (show some rv1=_ by rw [hrv];rfl)
   have HR0:=am hr0
   clear hr0 hrv
   obtain⟨x1,x2,x3,x4,x5,x6,x7⟩:=JJ.out.wf.frame
   have hmm:=JJ.out.made
   have htr:m1.trace.length≤100000:=by have h:=JJ.out.room;omega
   obtain⟨y1,y2,y3,y4,y5,y6⟩:=JJ.out.wf.wm.room htr
   have HCF:=Z (finish.calls wr W0.heap.size gm gf (.slice A0 p.length c0) fuel m1 v1 f1 rv1 (.pointer (some ⟨gp,0,none⟩)) BB.out.mach BB.out.fr.blk hbw x2 x3 x5 y5 htr y1)
   clear x1 x2 x3 x4 x5 x6 x7 y1 y2 y3 y4 y5 y6
   go_wp2_with (fail)
   refine HCF.out.mono ?_
   clear hk6 HCF
   rintro e w7 ⟨rfl,v7,hpl7,hM7,hK7⟩
   have HDQ:=am JJ.out.wf.finish
   have hdq:(finishI m1 f1).depth=m1.depth:=HDQ.out.2.2
   have hdz:=JJ.out.depth
   have hm4:w7.cell? ⟨gm,4,none⟩=some (.int .i64 m1.depth):=(blk_cell hM7.blk 4).trans (show some (Value.int .i64 (finishI m1 f1).depth)=_ by rw [hdq])
   have hz4:=blk_frozen hM7.blk 4
   have MM7:=Z (And.intro hpl7 (And.intro hM7 hK7))
   have hdl: -100≤m1.depth:=by omega
   have hdh:m1.depth≤100:=by omega
   clear hpl7 hM7 hK7 hdq hdz
   go_wp2_with (fail)
   go_ret
   obtain⟨hpl7,hM7,hK7⟩:=MM7.out
   have HA7:=hM7.wk (Nat.le_trans hbw hK7.size) (parG (.pointer (some ⟨gp,0,none⟩))) w.heap.size
   obtain⟨hA8,hev8⟩:=HA7.setM 4 (.int .i64 (m1.depth-1))
   have hff:({ f1 with runs:= [] } :Fr)=f1:=by have h:=HR0.out;cases f1;cases h;rfl
   have hres:=JJ.out.res
   have hres2:(m1,some (f1,par6))=(runsI (callI p fuel R dd) f6.runs.reverse m6 f6 par6):=by rw [← hres,←hff];rfl
   rw [callI_done HBI.out hres2.symm]
   refine .inr ⟨f1,par6,gf,rv1,v7,rfl,rfl,hpl7.trans BB.out.eq,?_,?_,hBf,?_,?_,?_⟩
   ·exact⟨hA8.blk,hA8.low,⟨hA8.rows.tr,hA8.rows.ow,hA8.rows.ca,hA8.rows.pa,hA8.rows.re,hA8.rows.ul,hA8.rows.un,hA8.rows.so,hA8.rows.su⟩⟩
   ·have h1:=(BB.out.pl.maps hK7.maps).maps hA8.maps
    rw [BB.out.eq] at h1
    rw [show (({ finishI m1 f1 with depth:=m1.depth-1 } :MS)).places=m1.places from finishI_places m1 f1]
    exact h1
   ·exact hev8.blk (hK7.blk BB.out.fr.blk zq83 (fun _=>by simp)) zq83
   ·exact(BB.out.pa.kept hK7 (.inl rfl)).ev hev8 (fun h=>absurd h zq83)
   ·exact(BB.out.kept.trans ((hK7.weak (par:=parG (.pointer (some ⟨gp,0,none⟩)))).toB _)).trans hA8.kept
  |cons x l =>
   obtain⟨g,a⟩:=x
   have hruns:f1.runs=l.reverse++ [(g,a)]:=by rw [JJ.out.runs,List.reverse_cons]
   have hn:f1.runs.length=l.length+1:=by rw [hruns];simp
   obtain⟨gr,rc,hrv,hgr,hcap,hcm⟩:=own_form BB.out.fr.run zq90
   have hrow:=BB.out.fr.run
   rw [hrv,hn,hruns] at hrow
   have HA:=Z (BB.out.mach.wk hbw (parG (.pointer (some ⟨gp,0,none⟩))) w.heap.size)
   have HF:=am BB.out.fr.blk
   have HR:=am hrow
   have HPO:=am BB.out.pa
   have hBr:w.heap.size≤gr:=BB.out.fr.rB gr (by rw [hrv];rfl)
   have HRV:=Z (show rv1= .slice (some ⟨gr,0,none⟩) (l.length+1) rc from by rw [hrv,hn])
   have HRUNS:=am hruns
   unfold maxLen at hcm
   rw [hn] at hcap
   clear hrow hrv hruns hn
   have hsl: ∀ W:World,(Instr.slice 290 (.slice (some ⟨gr,0,none⟩) (l.length+1) rc) none (some (.int .i64 (l.length:Int))) none).run Try.prog W= .ok (.slice (some ⟨gr,0,none⟩) l.length rc) W:=by
    intro W
    obtain⟨i0,hi0,_⟩:=Option.map_eq_some_iff.1 info_pd
    have h:=cut_up (P:=Try.prog) 290 326 .i64 und_pd hi0 (some ⟨gr,0,none⟩) (l.length+1) rc (l.length:Int) zq90 zq90 W
    rwa [Int.toNat_natCast] at h
   have HSL:=am hsl
   clear hsl
   have hwl:wrap64 (l.length:Int)=(l.length:Int):=IntWalk.wrap64_in _ ⟨zq90,zq90⟩
   have hll:(l.length:Int)<(l.length:Int)+1:=by omega
   have hk6:wr.cell? ⟨gf,6,none⟩=some (.slice (some ⟨gr,0,none⟩) (l.length+1) rc):=(blk_cell HF.out 6).trans (show some rv1=_ by rw [HRV.out])
   go_upto_region 16 with(fail)
   clear hk6
   have hE0_:=Evt.drew wr 292
   replace HA:=Z (HA.out.drew)
   replace HF:=(Evt.drew wr 0).b HF
   replace HR:=(Evt.drew wr 0).r HR
   replace HPO:=Z (HPO.out.ev (Evt.drew wr 0))
   clear hE0_
   refine start_ (n:=14) (S:=fun w'=>w'.cell? ⟨gf,6,none⟩=some (.slice (some ⟨gr,0,none⟩) (l.length+1) rc)∧w'.cell? ⟨gr,l.length*2,none⟩=some (.int .i64 g)∧w'.cell? ⟨gr,l.length*2+1,none⟩=some (.int .i64 a)∧True) (ds:= [13]) (bb 14 0) zq27 rfl rfl ⟨(blk_cell HF.out 6).trans (show some rv1=_ by rw [HRV.out]),(row_last HR.out 0 zq83).trans rfl,(row_last HR.out 1 zq83).trans rfl,trivial⟩ (fun hHeld=> ?_)
   generalize wr.drew=x61 at HA HF HR HPO hHeld ⊢
   refine pure1 0 96 (bb 14 1) (h:= ?_)
   refine pure1 1 97 (bb 14 3) (h:= ?_)
   refine pure1 2 98 (bb 14 7) (h:= ?_)
   refine take1 3 99 (bb 14 15) (hS:=hHeld) (h:= ?_)
   refine pure1 4 100 (bb 14 31) (h:= ?_)
   refine pure1 5 101 (bb 14 63) (h:= ?_)
   refine pure1 6 102 (bb 14 127) (h:= ?_)
   refine take1 7 103 (bb 14 255) (hS:=hHeld) (h:= ?_)
   refine pure1 8 104 (bb 14 511) (h:= ?_)
   refine pure1 9 105 (bb 14 1023) (h:= ?_)
   refine pure1 10 106 (bb 14 2047) (h:= ?_)
   refine take1 11 107 (bb 14 4095) (hS:=hHeld) (h:= ?_)
   refine on_ 12 (some 14) (bb 14 8191) (h:=fun K hK=> ?_)
   refine box_step (by rfl) (N:=14) rfl (cs:= #[.int .i64 0,.int .i64 0]) (t:=326) ?_ ?_
   ·first|(go_simp;done)|(go_simp;rfl)
   intro gl hgl x62 hbox hbel
   have hE_:=Evt.below hbel 0
   have HNE:=Z (show gr≠gl from by have h:=own_lt HR.out gr rfl;omega)
   have hBl:w.heap.size≤gl:=by rw [hgl];exact Nat.le_trans BB.out.kept.size HA.out.kept.size
   replace HA:=Z (HA.out.below hbel)
   replace HF:=hE_.b HF
   replace HR:=hE_.r HR
   replace HPO:=Z (HPO.out.ev hE_)
   have HLB:=am hbox
   clear hbel hbox hgl hE_
   refine hK.out _ _ ⟨(blk_cell HF.out 6).trans (show some rv1=_ by rw [HRV.out]),(row_last HR.out 0 zq83).trans rfl,(row_last HR.out 1 zq83).trans rfl,trivial⟩ (fun hHeld=> ?_)
   clear hK K
   refine nm 14 (h:= ?_)
   refine la 13 none (bb 14 16383) (h:=fun K hK=> ?_)
   have hc_0:=(blk_cell HLB.out 0).trans (show _=some (Value.int .i64 0) from rfl)
   have hf_0:=blk_frozen HLB.out 0
   have hc_1:=(blk_cell HLB.out 1).trans (show _=some (Value.int .i64 0) from rfl)
   have hf_1:=blk_frozen HLB.out 1
   rw [if_pos (by rfl)]
   unfold Oper.wp
   go_simp
   clear hc_0 hf_0 hc_1 hf_1
   have hev:=Evt.set HLB.out 0 (.int .i64 g)
   replace HA:=Z (HA.out.other hev zq83 (fun q hq=>zq91))
   replace HF:=hev.b HF
   replace HR:=Z (HR.out.kept hev.g (.inr (fun e=>HNE.out (by injection e))))
   replace HPO:=Z (HPO.out.ev hev)
   replace HLB:=Z ((blk_set HLB.out 0 (.int .i64 g)).trans (show _=some (Obj.cells #[.int .i64 g,.int .i64 0] 326 (0,0)) from rfl))
   clear hev
   generalize x62.setCell ⟨gl,0,none⟩ (.int .i64 g)=x63 at HA HF HR HPO HLB ⊢
   have hev:=Evt.set HLB.out 1 (.int .i64 a)
   replace HA:=Z (HA.out.other hev zq83 (fun q hq=>zq91))
   replace HF:=hev.b HF
   replace HR:=Z (HR.out.kept hev.g (.inr (fun e=>HNE.out (by injection e))))
   replace HPO:=Z (HPO.out.ev hev)
   replace HLB:=Z ((blk_set HLB.out 1 (.int .i64 a)).trans (show _=some (Obj.cells #[.int .i64 g,.int .i64 a] 326 (0,0)) from rfl))
   clear hev
   generalize x63.setCell ⟨gl,1,none⟩ (.int .i64 a)=x64 at HA HF HR HPO HLB ⊢
   refine hK.out _ _ ?_
   clear hK K
   refine done_ zq27 ?_
   go_upto_region 17 with(fail)
   have hsl:=HSL.out
   have hE0_:=Evt.drew x64 292
   replace HA:=Z (HA.out.drew)
   replace HF:=(Evt.drew x64 0).b HF
   replace HR:=(Evt.drew x64 0).r HR
   replace HPO:=Z (HPO.out.ev (Evt.drew x64 0))
   replace HLB:=(Evt.drew x64 0).b HLB
   clear hE0_
   refine start_ (n:=15) (S:=fun w'=>w'.cell? ⟨gf,6,none⟩=some (.slice (some ⟨gr,0,none⟩) (l.length+1) rc)∧True) (ds:= [14]) (bb 15 0) zq27 rfl rfl ⟨(blk_cell HF.out 6).trans (show some rv1=_ by rw [HRV.out]),trivial⟩ (fun hHeld=> ?_)
   generalize x64.drew=x65 at HA HF HR HPO HLB hHeld ⊢
   refine pure1 0 108 (bb 15 1) (h:= ?_)
   refine pure1 1 109 (bb 15 3) (h:= ?_)
   refine pure1 2 110 (bb 15 7) (h:= ?_)
   refine pure1 3 111 (bb 15 15) (h:= ?_)
   refine take1 4 112 (bb 15 31) (hS:=hHeld) (h:= ?_)
   refine pure1 5 113 (bb 15 63) (h:= ?_)
   refine pure1 6 114 (bb 15 127) (h:= ?_)
   refine pure1 7 115 (bb 15 255) (h:= ?_)
   refine take1 8 116 (bb 15 511) (hS:=hHeld) (h:= ?_)
   refine pure1 9 117 (bb 15 1023) (h:= ?_)
   refine pure1 10 118 (bb 15 2047) (h:= ?_)
   refine pure1 11 119 (bb 15 4095) (h:= ?_)
   refine pure1 12 120 (bb 15 8191) (h:= ?_)
   refine pure1 13 121 (bb 15 16383) (h:= ?_)
   refine la 14 none (bb 15 32767) (h:=fun K hK=> ?_)
   have hc_:=(blk_cell HF.out 6).trans (show _=some (Value.slice (some ⟨gr,0,none⟩) (l.length+1) rc) from by rw [HRV.out];rfl)
   have hf_:=blk_frozen HF.out 6
   rw [if_pos (by rfl)]
   unfold Oper.wp
   go_simp
   clear hc_ hf_
   have hev:=Evt.set HF.out 6 (.slice (some ⟨gr,0,none⟩) l.length rc)
   replace HA:=Z (HA.out.other hev zq83 (fun q hq=>zq85))
   replace HF:=Z ((blk_set HF.out 6 (.slice (some ⟨gr,0,none⟩) l.length rc)).trans (show _=some (Obj.cells (frC { f1 with runs:=l.reverse } (.slice (some ⟨gr,0,none⟩) l.length rc) (.pointer (some ⟨gp,0,none⟩))).toArray 292 (0,0)) from rfl))
   replace HR:=hev.r HR
   replace HPO:=Z (HPO.out.ev hev)
   replace HLB:=hev.b HLB
   generalize x65.setCell ⟨gf,6,none⟩ (.slice (some ⟨gr,0,none⟩) l.length rc)=x66 at HA HF HR HPO HLB ⊢
   clear hev
   refine hK.out _ _ ?_
   clear hK K
   refine done_ zq27 ?_
   clear hsl hwl hll
   have HRC:=Z (row_cut HR.out)
   clear HR
   have hmem:(g,a)∈f1.runs:=by rw [HRUNS.out];simp
   obtain⟨hga,hg0,hgN⟩:=JJ.out.wf.frame.2.2.2.2.2.2 (g,a) hmem
   have hrest: ∀ x∈l.reverse,Num x.2∧0≤x.1∧x.1<N:=fun x hx=>JJ.out.wf.frame.2.2.2.2.2.2 x (by rw [HRUNS.out];exact List.mem_append_left _ hx)
   have HDI:=Z (WF.dinner HCE.out JJ.out.wf JJ.out.made g a l.reverse hga ⟨hg0,hgN⟩ hrest)
   have hsm: ∃ sm,RM m1 sm∧sm.spent=false:=by obtain⟨sm,c,h1,h2,_⟩:=JJ.out.wf;exact⟨sm,h1,h2⟩
   have hrm:(m1.trace.length:Int)+3*(fuel-m1.made)+2≤100000:=by have h:=JJ.out.room;rw [List.length_cons] at h;omega
   have hr1:Num f1.r1:=JJ.out.wf.frame.1 1
   have HCI:=Z (HIH.out x66 gm m1 v1 g a (some { f1 with runs:=l.reverse }) (.pointer (some ⟨gf,0,none⟩)) (.slice (some ⟨gr,0,none⟩) l.length rc) (.pointer (some ⟨gp,0,none⟩)) true HA.out.mach ((BB.out.pl).maps HA.out.maps) (HA.out.kept.bel (BB.out.kept.bel HBEL.out)) ⟨gf,rfl,HF.out,hbf⟩ hsm JJ.out.made hga ⟨hg0,hgN⟩ (fun _=>⟨_,rfl,hr1,fun e=>JJ.out.wf.frame.2.2.2.2.1 e⟩) JJ.out.depth hrm JJ.out.pls)
   have HRM:=Z (call_room (p:=p) (fuel:=fuel) R dd m1 g a (some { f1 with runs:=l.reverse }) true).1
   have HPZ:=Z (call_pl (p:=p) (fuel:=fuel) R dd m1 g a (some { f1 with runs:=l.reverse }) true)
   have HK1:=am HA.out.kept
   have HSZ:=am HA.out.sz
   have HPO1:=HPO
   have hl0:x66.cell? ⟨gl,0,none⟩=some (.int .i64 g):=(blk_cell HLB.out 0).trans rfl
   have hl1:x66.cell? ⟨gl,1,none⟩=some (.int .i64 a):=(blk_cell HLB.out 1).trans rfl
   clear hmem hga hg0 hgN hrest hsm hrm hr1 HA HF HPO HLB
   go_wp2_with (fail)
   refine HCI.out.mono ?_
   clear HCI hl0 hl1
   rintro e w8 hpost
   rcases hpost with⟨hr,rfl,v8,hpl,hM,hPl,hK⟩|⟨d,par8,gd,rd,v8,hr,rfl,hpl,hM,hPl,hgd,hD,hPA8,hK⟩
   ·refine⟨rfl,?_⟩
    have hres:=JJ.out.res
    rw [runsI_cons0 hr] at hres
    rw [callI_spent2 HBI.out hres.symm]
    exact .inl ⟨rfl,rfl,v8,hpl.trans BB.out.eq,hM,by rw [← BB.out.eq];exact hPl,(BB.out.kept.trans HK1.out).inner hK (Nat.le_trans BB.out.kept.size HK1.out.size) (fun q e=>zq89)⟩
   obtain⟨u,hpu,hdfin,hdpan,hfpan,hwf9,hmd9,hdp9,hrn9⟩:=HDI.out.2.2.2 d par8 hr
   subst hpu
   obtain⟨gq,hq1,hq2,hq3,hq4⟩:=hPA8
   have hqe:gf=gq:=by injection hq1 with hq1;injection hq1 with hq1;injection hq1
   subst hqe
   have hb8:W0.heap.size≤w8.heap.size:=Nat.le_trans HSZ.out hK.size
   have HCB:=Z (behind.calls w8 W0.heap.size gm gf gd (.slice A0 p.length c0) fuel (callI p fuel R dd m1 g a (some { f1 with runs:=l.reverse }) true).1 v8 { f1 with runs:=l.reverse,r1:=u } d (.slice (some ⟨gr,0,none⟩) l.length rc) (.pointer (some ⟨gp,0,none⟩)) rd (.pointer (some ⟨gf,0,none⟩)) hM hq2 hD (fun e=>hq3 e.symm) hbf hb8 hdfin hfpan hdpan)
   have HR8:=Z (KeptB.row hK (Nat.le_refl _) HRC.out zq83 zq83)
   have HPO8:=Z (HPO1.out.keptB hK (Nat.le_refl _) (.inr rfl))
   have HK8:=Z ((BB.out.kept.trans HK1.out).inner hK (Nat.le_trans BB.out.kept.size HK1.out.size) (fun q e=>zq89))
   have HP8:=am hPl
   have HV8:=am hpl
   have HRR:=am hr
   have HW9:=am hwf9
   have HMD:=am hmd9
   have HDP:=am hdp9
   have HRN:=am hrn9
   have HMM:=am HDI.out.2.1
   clear hr hpl hM hPl hgd hD hK hq1 hq2 hq3 hq4 hb8 hdfin hdpan hfpan hwf9 hmd9 hdp9 hrn9 HDI HPO1 HRC
   go_wp2_with (fail)
   refine HCB.out.mono ?_
   clear HCB
   rintro e w9 ⟨rfl,hM9,hF9,hK9⟩
   have MM9:=Z (And.intro hM9 (And.intro hF9 hK9))
   clear hM9 hF9 hK9
   go_wp2_with (fail)
   go_roundg l.length
   case measure=>have h:=HL.out;rw [List.length_cons] at h;omega
   case rel =>
    obtain⟨hM9,hF9,hK9⟩:=MM9.out
    refine⟨l,_,_,v8,.slice (some ⟨gr,0,none⟩) l.length rc,rfl,⟨⟨hM9,⟨hF9,?_,hbf,hBf,fun q hq=> ?_⟩,HPO8.out.kept hK9 (.inr rfl),?_,HV8.out.trans BB.out.eq,HK8.out.inner (hK9.toB w.heap.size) (Nat.le_refl _) (fun q e=>zq89)⟩⟩,⟨HW9.out,HRN.out,by rw [HMD.out];exact HMM.out,by rw [HDP.out];exact JJ.out.depth,?_,?_,?_⟩⟩
    ·rw [HRN.out,List.length_reverse]
     exact KeptM.row hK9 HR8.out zq83 zq83
    ·have e:gr=q:=by simpa [Value.ownBlock] using hq
     subst e;exact hBr
    ·rw [behindI_places]
     rw [HV8.out]
     exact HP8.out.maps hK9.maps
    ·obtain⟨b1,b2,_⟩:=behindI_room (callI p fuel R dd m1 g a (some { f1 with runs:=l.reverse }) true).1 { f1 with runs:=l.reverse,r1:=u } d
     rw [b1,b2]
     have h1:=HRM.out
     have h2:=JJ.out.room
     rw [List.length_cons] at h2
     omega
    ·have b3:=behindI_pl (callI p fuel R dd m1 g a (some { f1 with runs:=l.reverse }) true).1 { f1 with runs:=l.reverse,r1:=u } d
     have h1:=HPZ.out
     unfold Pl0 at b3 h1
     have h2:=JJ.out.pls
     omega
    ·rw [← JJ.out.res]
     exact(runsI_cons1 HRR.out).symm
end Go.Proofs.Yteiafboknimgbaa.Pr.M
end
