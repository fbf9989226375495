import Derived.Test.YteiafboknimgbaaMa17
import Derived.Defers
import Derived.Recover
import Derived.Laws.Pointers
set_option maxHeartbeats 8000000
set_option maxRecDepth 100000
set_option linter.unusedVariables false
set_option linter.unusedSimpArgs false
section
namespace Go.Proofs.Yteiafboknimgbaa.Pr
open Go.RowKit Go.Proofs.W.PrintWords Go.Proofs.W.PrintLast Go.Proofs.W.PrintMore
theorem cl1 {w:World} {g:Nat} {t:TypeId} {v0:Value} (h:w.heap[g]? =some (.cells #[v0] t (0,0))):w.cell? ⟨g,0,none⟩=some v0:=(blk_cell h 0).trans rfl
end Go.Proofs.Yteiafboknimgbaa.Pr
end
section
namespace Go.Proofs.Yteiafboknimgbaa.Pr.M
open Go.RowKit Go.Proofs.W.PrintWords Go.Proofs.W.PrintLast Go.Proofs.W.PrintMore
theorem call_st(W0:World)(A0:Option Addr)(c0:Nat)(p:List (List St))(N fuel:Int)(R dd:Nat)(hIH:CallC W0 A0 c0 p N fuel R dd)(hPr:ProgAt W0 A0 c0 p N)(hf0:0≤fuel∧fuel≤1000)(hfR:fuel<R)(hd8:dd+1≤8)(w:World)(gm:Nat)(m:MS)(v:MV)(fn arg:Int)(pf:Fr)(gp:Nat)(rp pp:Value)
  (H:Mach w W0.heap.size gm (.slice A0 p.length c0) fuel m v) (hPl:PlOk w W0.heap.size v.pl m.places) (hbel:Below W0.heap.size W0 w) (hPA:PaOk w W0.heap.size w.heap.size (some pf) (.pointer (some ⟨gp,0,none⟩)) rp pp) (hwf:WF N (beginI m fn arg (some pf) true) (frameI m fn arg true) (some pf)) (hle:m.made≤fuel) (hdep:m.depth+(dd+1:Nat)=8) (hroom:(m.trace.length:Int)+3*(fuel-m.made)+2≤100000) (hpls:(m.places.length:Int)=m.made) :
  Calls Try.prog 292 #[.pointer (some ⟨gm,0,none⟩),.int .i64 fn,.int .i64 arg,(.pointer (some ⟨gp,0,none⟩)),.bool true] w fun e w'=>CallPost w w' W0.heap.size gm (.slice A0 p.length c0) fuel v (.pointer (some ⟨gp,0,none⟩)) rp pp (callI p fuel R (dd+1) m fn arg (some pf) true) e:=by
 have hb:W0.heap.size≤w.heap.size:=hbel.size
 have HA:=Z (H.wk hb (parG (.pointer (some ⟨gp,0,none⟩))) w.heap.size)
 clear H
 have HPO:=am hPA
 have HPL:=am hPl
 have HBEL:=am hbel
 have HIH:=am hIH
 have HPR:=am hPr
 have HWF:=am hwf
 have HDEP:=am hdep
 have HPLS:=am hpls
 have hdlo:0≤m.depth:=by omega
 have hdhi:m.depth≤7:=by omega
 have hd8n:(m.depth==8)=false:=by simpa using (show m.depth≠8 by omega)
 clear hPA hPl hbel hIH hPr hwf hdep hpls
 obtain⟨cA,cc,hca⟩:=own_slice HA.out.rows.ca
 have HCA:=am hca
 clear hca
 have e170: ∀ args w,(callFunc 302 args).run Try.prog w= .ok (.enter 302 args) w:=enters_of Try.func302 zq27 rfl
 have e171: ∀ args w,(callFunc 303 args).run Try.prog w= .ok (.enter 303 args) w:=enters_of Try.func303 zq27 rfl
 have e165: ∀ args w,(callFunc 292 args).run Try.prog w= .ok (.enter 292 args) w:=enters_of Try.func292 zq27 rfl
 have e172: ∀ args w,(callFunc 304 args).run Try.prog w= .ok (.enter 304 args) w:=enters_of Try.func304 zq27 rfl
 have e173: ∀ args w,(callFunc 305 args).run Try.prog w= .ok (.enter 305 args) w:=enters_of Try.func305 zq27 rfl
 have hc4:w.cell? ⟨gm,4,none⟩=some (.int .i64 m.depth):=(blk_cell HA.out.blk 4).trans rfl
 have hc8:w.cell? ⟨gm,8,none⟩=some (.slice cA m.calls.length cc):=(blk_cell HA.out.blk 8).trans zq122
 go_enter Try.func292,Try.ntmps292
 go_upto_region 6 with(first|(refine bx 31 (frC { (frameI m fn arg true) with r0:=0 } (.slice none 0 0) (.pointer (some ⟨gp,0,none⟩))).toArray 292 (h:= ?_);intro gf hgf w1 hbox hbel;have hE_:=Evt.below hbel 0;replace HA:=Z (HA.out.below hbel);have HF:=am hbox;replace HPO:=Z (show PaOk w1 W0.heap.size gf (some pf) (.pointer (some ⟨gp,0,none⟩)) rp pp from by rw [hgf];exact HPO.out.ev hE_ (fun h=>absurd h zq83));have HGF:=am hgf;clear hbel hbox hgf hE_;have hk2:w1.cell? ⟨gf,2,none⟩=some (.int .i64 0):=(blk_cell HF.out 2).trans rfl;have hz2:=blk_frozen HF.out 2;obtain⟨gq_,hq1_,hq2_,hq3_,hq4_⟩:=HPO.out;have hqe_:gp=gq_:=by { injection hq1_ with h_;injection h_ with h_;injection h_ };subst hqe_;have hid0:w1.cell? ⟨gp,0,none⟩=some (.int .i64 pf.id):=(blk_cell hq2_ 0).trans rfl;clear hq1_ hq2_ hq4_))
 clear hk2 hz2 hc4 hc8
 have hBf:w.heap.size≤gf:=Nat.le_of_eq HGF.out.symm
 have hbf:W0.heap.size≤gf:=Nat.le_trans hb hBf
 have hev:=Evt.set HF.out 2 (.int .i64 arg)
 replace HA:=Z (HA.out.other hev zq83 (fun q hq=>zq85))
 replace HF:=Z ((blk_set HF.out 2 (.int .i64 arg)).trans (show _=some (Obj.cells (frC (frameI m fn arg true) (.slice none 0 0) (.pointer (some ⟨gp,0,none⟩))).toArray 292 (0,0)) from rfl))
 replace HPO:=Z (HPO.out.ev hev)
 clear hid0
 clear hev
 generalize w1.setCell ⟨gf,2,none⟩ (.int .i64 arg)=x1 at HA HF HPO ⊢
 obtain⟨gq_,hq1_,hq2_,hq3_,hq4_⟩:=HPO.out
 have hqe_:gp=gq_:=by injection hq1_ with h_;injection h_ with h_;injection h_
 subst hqe_
 have hid0:x1.cell? ⟨gp,0,none⟩=some (.int .i64 pf.id):=(blk_cell hq2_ 0).trans rfl
 clear hq1_ hq2_ hq3_ hq4_
 go_upto_region 10 with(fail)
 clear hid0
 have hbr:=HWF.out.wm.room (show(beginI m fn arg (some pf) true).trace.length≤100000 from by show(m.trace++ [_]).length≤_;rw [len1];omega)
 have hcl:m.calls.length≤100000:=by have h:(m.calls++ [_]).length≤100000:=hbr.2.1;rw [len1] at h;omega
 have hol:m.owners.length≤100000:=by have h:(m.owners++ [_]).length≤100000:=hbr.1;rw [len1] at h;omega
 have htl:m.trace.length≤100000:=by omega
 clear hbr
 have hc8:x1.cell? ⟨gm,8,none⟩=some (.slice cA m.calls.length cc):=(blk_cell HA.out.blk 8).trans zq122
 go_upto_region 11 with(first|((with_reducible refine gate_dst (N:=55) rfl ?_);refine allocL_ (cs:=(ciC (⟨fn,pf.id,true,4,0,arg⟩:CI)).toArray) (e:=184) (n:=1) rfl ?run ?_;(case run=>first|(go_simp;done)|(go_simp;rfl));intro gA hgA w3 hnew hbel;have hE_:=Evt.below hbel 0;replace HA:=Z (HA.out.below hbel);replace HF:=hE_.b HF;replace HPO:=Z (HPO.out.ev hE_);have GgA:=am hnew;clear hbel hnew hgA hE_ hc8)|((with_reducible refine gate_dst (N:=56) rfl ?_);have hca2:=HCA.out;obtain⟨t,w4,hE,hA',hev⟩:=HA.out.appCa gA 1 (⟨fn,pf.id,true,4,0,arg⟩:CI) GgA.out hcl;rw [hca2] at hE;refine Kd.event_run rfl (appRun_ _ _ _ rfl rfl rfl rfl hE) ?_;clear hE hca2 GgA;have n1_:=am hA';replace HF:=hev.b HF;replace HPO:=Z (HPO.out.ev hev);clear HA;have HA:=n1_;clear n1_ hA' hev;obtain⟨tA,tc,ht⟩:=own_slice HA.out.rows.ca;have ht':t= .slice tA (m.calls.length+1) tc:=by { have h':=ht;rw [len1] at h';exact h' };clear ht;subst ht';have hm8:w4.cell? ⟨gm,8,none⟩=some v.ca:=(blk_cell HA.out.blk 8).trans rfl;have hz8:=blk_frozen HA.out.blk 8))
 clear hm8 hz8
 have hst:=HA.out.setM 8 (.slice tA (m.calls.length+1) tc)
 have hev:=hst.2
 replace HA:=Z (hst.1)
 replace HF:=hev.b HF
 replace HPO:=Z (HPO.out.ev hev)
 clear hst hev
 generalize w4.setCell ⟨gm,8,none⟩ (.slice tA (m.calls.length+1) tc)=x2 at HA HF HPO ⊢
 have hid:x2.cell? ⟨gf,0,none⟩=some (.int .i64 (m.calls.length:Int)):=(blk_cell HF.out 0).trans rfl
 go_upto_region 13 with(first|(go_at_fn 302;refine(tell.calls _ W0.heap.size gm (.slice A0 p.length c0) fuel { m with calls:=m.calls++ [(⟨fn,pf.id,true,4,0,arg⟩:CI)] } { v with ca:= .slice tA (m.calls.length+1) tc } 3 fn arg (m.calls.length:Int) (HA.out.mach (fuel:=fuel) (m:= { m with calls:=m.calls++ [(⟨fn,pf.id,true,4,0,arg⟩:CI)] }) (v:= { v with ca:= .slice tA (m.calls.length+1) tc })) HA.out.sz htl hol).mono ?_;rintro e w5 ⟨rfl,t5,q5,hM,hK2⟩;replace HF:=Z (KeptM.blk hK2 HF.out zq83 zq87);replace HPO:=Z (HPO.out.kept hK2 (.inl rfl));have n1_:=Z (HA.out.call hK2 hM (fun g e=>zq121) HA.out.kept.size);clear HA hM hK2 hid;have HA:=n1_;clear n1_;have hm4:w5.cell? ⟨gm,4,none⟩=some (.int .i64 m.depth):=(blk_cell HA.out.blk 4).trans rfl;have hz4:=blk_frozen HA.out.blk 4))
 clear hm4 hz4
 have hst:=HA.out.setM 4 (.int .i64 (m.depth+1))
 have hev:=hst.2
 replace HA:=Z (hst.1)
 replace HF:=hev.b HF
 replace HPO:=Z (HPO.out.ev hev)
 clear hst hev
 generalize w5.setCell ⟨gm,4,none⟩ (.int .i64 (m.depth+1))=x3 at HA HF HPO ⊢
 have hE0_:=Evt.drew x3 292
 replace HA:=Z (HA.out.drew)
 replace HF:=(Evt.drew x3 0).b HF
 replace HPO:=Z (HPO.out.ev (Evt.drew x3 0))
 clear hE0_
 refine start_ (n:=13) (S:=fun w'=>w'.cell? ⟨gm,5,none⟩=some (.int .i64 m.deepest)∧w'.cell? ⟨gm,4,none⟩=some (.int .i64 (m.depth+1))∧True) (ds:= [12]) (bb 13 0) zq27 rfl rfl ⟨(blk_cell HA.out.blk 5).trans rfl,(blk_cell HA.out.blk 4).trans rfl,trivial⟩ (fun hHeld=> ?_)
 generalize x3.drew=x4 at HA HF HPO hHeld ⊢
 refine pure1 0 75 (bb 13 1) (h:= ?_)
 refine pure1 1 76 (bb 13 3) (h:= ?_)
 refine pure1 2 77 (bb 13 7) (h:= ?_)
 refine pure1 3 78 (bb 13 15) (h:= ?_)
 refine take1 4 79 (bb 13 31) (hS:=hHeld) (h:= ?_)
 refine pure1 5 80 (bb 13 63) (h:= ?_)
 refine pure1 6 81 (bb 13 127) (h:= ?_)
 refine pure1 7 82 (bb 13 255) (h:= ?_)
 refine take1 8 83 (bb 13 511) (hS:=hHeld) (h:= ?_)
 refine pure1 9 84 (bb 13 1023) (h:= ?_)
 refine pure1 10 85 (bb 13 2047) (h:= ?_)
 refine pure1 11 86 (bb 13 4095) (h:= ?_)
 refine la 12 none (bb 13 8191) (h:=fun K hK=> ?_)
 have hc_:=(blk_cell HA.out.blk 5).trans (show _=some (Value.int .i64 m.deepest) from rfl)
 have hf_:=blk_frozen HA.out.blk 5
 rw [if_pos (by rfl)]
 unfold Oper.wp
 go_simp
 clear hc_ hf_
 have hev:=(HA.out.setM 5 (.int .i64 (if m.deepest<m.depth+1 then m.depth+1 else m.deepest))).2
 replace HA:=Z ((HA.out.setM 5 (.int .i64 (if m.deepest<m.depth+1 then m.depth+1 else m.deepest))).1)
 replace HF:=hev.b HF
 replace HPO:=Z (HPO.out.ev hev)
 generalize x4.setCell ⟨gm,5,none⟩ (.int .i64 (if m.deepest<m.depth+1 then m.depth+1 else m.deepest))=x5 at HA HF HPO ⊢
 clear hev
 refine hK.out _ _ ?_
 clear hK K
 refine done_ zq27 ?_
 have HMB:=Z (⟨HA.out.blk,HA.out.low,⟨HA.out.rows.tr,HA.out.rows.ow,HA.out.rows.ca,HA.out.rows.pa,HA.out.rows.re,HA.out.rows.ul,HA.out.rows.un,HA.out.rows.so,HA.out.rows.su⟩⟩:Mach x5 W0.heap.size gm (.slice A0 p.length c0) fuel (beginI m fn arg (some pf) true) { v with ca:= .slice tA (m.calls.length+1) tc,tr:=t5,ow:=q5 })
 have HK0:=am HA.out.kept
 have HB0:=Z (HA.out.kept.bel HBEL.out)
 have HP0:=Z (show PlOk x5 W0.heap.size v.pl (beginI m fn arg (some pf) true).places from HPL.out.maps HA.out.maps)
 have hdep2:(beginI m fn arg (some pf) true).depth+dd=8:=by have h:=HDEP.out;show m.depth+1+(dd:Int)=8;omega
 have HD2:=am hdep2
 have hrm2:((beginI m fn arg (some pf) true).trace.length:Int)+2*((frameI m fn arg true).runs.length:Nat)+3*(fuel-(beginI m fn arg (some pf) true).made)+1≤100000:=by show(((m.trace++ [_]).length:Nat):Int)+2*((0:Nat):Int)+3*(fuel-m.made)+1≤100000;rw [len1];omega
 have HCE:=Z (call_eq HPR.out.ok R hfR dd)
 have hmp0:0≤m.made:=by have h:=HPLS.out;omega
 have HC:=Z (body.calls W0 A0 c0 p N fuel R dd HIH.out HPR.out HCE.out x5 w.heap.size gm gf (beginI m fn arg (some pf) true) { v with ca:= .slice tA (m.calls.length+1) tc,tr:=t5,ow:=q5 } (frameI m fn arg true) (some pf) (.slice none 0 0) (.pointer (some ⟨gp,0,none⟩)) rp pp ⟨HMB.out,⟨HF.out,own_nil _ _ _ _,hbf,hBf,fun q hq=>by simp [Value.ownBlock] at hq⟩,HPO.out,HP0.out,rfl,KeptB.refl _ _ _ _⟩ HB0.out HK0.out.size HWF.out rfl hf0 hfR hle HD2.out hrm2 HPLS.out)
 have HWB:=Z (WF.body (n:=R) (at_:=0) HPR.out.ok HCE.out HWF.out (show(beginI m fn arg (some pf) true).made≤fuel from hle) (show(fuel-m.made).toNat<R by omega) rfl)
 have HRB:=Z (body_room (p:=p) (fuel:=fuel) (call_room (p:=p) (fuel:=fuel) R dd) R (beginI m fn arg (some pf) true) (frameI m fn arg true) (some pf) 0).1
 have HPB:=Z (body_pl (p:=p) (fuel:=fuel) (call_pl (p:=p) (fuel:=fuel) R dd) R (beginI m fn arg (some pf) true) (frameI m fn arg true) (some pf) 0)
 have HRM2:=am hrm2
 clear HA HF HPO HP0 hdep2 hrm2
 generalize (if m.deepest<m.depth+1 then m.depth+1 else m.deepest)=dX
 go_wp2_with (fail)
 refine HC.out.mono ?_
 clear HC
 rintro e w6 hpost
 rcases hpost with⟨hr,rfl,v6,hpl,hM,hPl,hK⟩|⟨f6,par6,rv6,v6,hr,rfl,hpl,hM,hFr,hPa,hPl,hK⟩
 ·refine⟨rfl,?_⟩
  rw [callI_spent (Prod.ext rfl hr)]
  exact .inl ⟨rfl,rfl,v6,hpl,hM,hPl,HK0.out.trans hK⟩
 obtain⟨m6,hm6⟩: ∃ m6,m6=(bodyI (callI p fuel R dd) p fuel R (beginI m fn arg (some pf) true) (frameI m fn arg true) (some pf) 0).1:=⟨_,rfl⟩
 have HBI:=Z (show bodyI (callI p fuel R dd) p fuel R (beginI m fn arg (some pf) true) (frameI m fn arg true) (some pf) 0=(m6,some (f6,par6)) from by rw [hm6];exact Prod.ext rfl hr)
 obtain⟨hw1,hw2⟩:=HWB.out
 obtain⟨hw3,hw4,hw5,hw6⟩:=hw2 f6 par6 hr
 have hrb:=HRB.out
 have hpb:=HPB.out
 have hrn:runsOf (bodyI (callI p fuel R dd) p fuel R (beginI m fn arg (some pf) true) (frameI m fn arg true) (some pf) 0).2=f6.runs.length:=by rw [hr];rfl
 rw [hrn] at hrb
 rw [← hm6] at hM hPl hw1 hw3 hw4 hrb hpb
 have HM6:=Z (show CJ N fuel R dd p (runsI (callI p fuel R dd) f6.runs.reverse m6 f6 par6) f6.runs.reverse m6 f6 par6 from by
  refine⟨hw3,(List.reverse_reverse _).symm,hw1,by rw [hw4];exact HD2.out,?_,?_,rfl⟩
  ·have h:=HRM2.out;rw [List.length_reverse];omega
  ·unfold Pl0 at hpb;have h:=HPLS.out;have h2:((beginI m fn arg (some pf) true).places.length:Int)-(beginI m fn arg (some pf) true).made=m.places.length-m.made:=rfl;omega)
 have HI6:=Z (show BI w w6 W0 w.heap.size gm gf (.slice A0 p.length c0) fuel m6 v6 v f6 par6 rv6 (.pointer (some ⟨gp,0,none⟩)) rp pp from⟨hM,hFr,hPa,by rw [hpl];exact hPl,hpl,HK0.out.trans hK⟩)
 clear hr hpl hM hFr hPa hPl hK hw1 hw2 hw3 hw4 hw5 hw6 hrb hpb hrn hm6 HWB HRB HPB HRM2 HMB HK0 HB0 HD2
 go_wp2_with (fail)
 go_loopg [14] f6.runs.length (fun gg s14 wr=> ∃ (l:List (Int×Int)) (m1:MS) (f1:Fr) (v1:MV) (rv1:Value),l.length=gg∧Aside0 (BI w wr W0 w.heap.size gm gf (.slice A0 p.length c0) fuel m1 v1 v f1 par6 rv1 (.pointer (some ⟨gp,0,none⟩)) rp pp)∧Aside0 (CJ N fuel R dd p (runsI (callI p fuel R dd) f6.runs.reverse m6 f6 par6) l m1 f1 par6))
 case atStart=>exact⟨f6.runs.reverse,m6,f6,v6,rv6,List.length_reverse,HI6,HM6⟩
 case round =>
  obtain⟨l,m1,f1,v1,rv1,hl,BB,JJ⟩:=hrel
  have HL:=am hl
  clear hl
  have hbw:W0.heap.size≤wr.heap.size:=Nat.le_trans hb BB.out.kept.size
  cases l with
  |nil =>
   have hr0:f1.runs= []:=JJ.out.runs
   obtain⟨rA,rc,hrv⟩:=own_slice BB.out.fr.run
   rw [hr0] at hrv
   have hk6:wr.cell? ⟨gf,6,none⟩=some (.slice rA 0 rc):=(blk_cell BB.out.fr.blk 6).trans (show some rv1=_ by rw [hrv];rfl)
   have HR0:=am hr0
   clear hr0 hrv
   obtain⟨x1,x2,x3,x4,x5,x6,x7⟩:=JJ.out.wf.frame
   have hmm:=JJ.out.made
   have htr:m1.trace.length≤100000:=by have h:=JJ.out.room;omega
   obtain⟨y1,y2,y3,y4,y5,y6⟩:=JJ.out.wf.wm.room htr
   have HCF:=Z (finish.calls wr W0.heap.size gm gf (.slice A0 p.length c0) fuel m1 v1 f1 rv1 (.pointer (some ⟨gp,0,none⟩)) BB.out.mach BB.out.fr.blk hbw x2 x3 x5 y5 htr y1)
   clear x1 x2 x3 x4 x5 x6 x7 y1 y2 y3 y4 y5 y6
   go_wp2_with (fail)
   refine HCF.out.mono ?_
   clear hk6 HCF
   rintro e w7 ⟨rfl,v7,hpl7,hM7,hK7⟩
   have HDQ:=am JJ.out.wf.finish
   have hdq:(finishI m1 f1).depth=m1.depth:=HDQ.out.2.2
   have hdz:=JJ.out.depth
   have hm4:w7.cell? ⟨gm,4,none⟩=some (.int .i64 m1.depth):=(blk_cell hM7.blk 4).trans (show some (Value.int .i64 (finishI m1 f1).depth)=_ by rw [hdq])
   have hz4:=blk_frozen hM7.blk 4
   have MM7:=Z (And.intro hpl7 (And.intro hM7 hK7))
   have hdl: -100≤m1.depth:=by omega
   have hdh:m1.depth≤100:=by omega
   clear hpl7 hM7 hK7 hdq hdz
   go_wp2_with (fail)
   go_ret
   obtain⟨hpl7,hM7,hK7⟩:=MM7.out
   have HA7:=hM7.wk (Nat.le_trans hbw hK7.size) (parG (.pointer (some ⟨gp,0,none⟩))) w.heap.size
   obtain⟨hA8,hev8⟩:=HA7.setM 4 (.int .i64 (m1.depth-1))
   have hff:({ f1 with runs:= [] } :Fr)=f1:=by have h:=HR0.out;cases f1;cases h;rfl
   have hres:=JJ.out.res
   have hres2:(m1,some (f1,par6))=(runsI (callI p fuel R dd) f6.runs.reverse m6 f6 par6):=by rw [← hres,←hff];rfl
   rw [callI_done HBI.out hres2.symm]
   refine .inr ⟨f1,par6,gf,rv1,v7,rfl,rfl,hpl7.trans BB.out.eq,?_,?_,hBf,?_,?_,?_⟩
   ·exact⟨hA8.blk,hA8.low,⟨hA8.rows.tr,hA8.rows.ow,hA8.rows.ca,hA8.rows.pa,hA8.rows.re,hA8.rows.ul,hA8.rows.un,hA8.rows.so,hA8.rows.su⟩⟩
   ·have h1:=(BB.out.pl.maps hK7.maps).maps hA8.maps
    rw [BB.out.eq] at h1
    rw [show (({ finishI m1 f1 with depth:=m1.depth-1 } :MS)).places=m1.places from finishI_places m1 f1]
    exact h1
   ·exact hev8.blk (hK7.blk BB.out.fr.blk zq83 (fun _=>by simp)) zq83
   ·exact(BB.out.pa.kept hK7 (.inl rfl)).ev hev8 (fun h=>absurd h zq83)
   ·exact(BB.out.kept.trans ((hK7.weak (par:=parG (.pointer (some ⟨gp,0,none⟩)))).toB _)).trans hA8.kept
  |cons x l =>
   obtain⟨g,a⟩:=x
   have hruns:f1.runs=l.reverse++ [(g,a)]:=by rw [JJ.out.runs,List.reverse_cons]
   have hn:f1.runs.length=l.length+1:=by rw [hruns];simp
   obtain⟨gr,rc,hrv,hgr,hcap,hcm⟩:=own_form BB.out.fr.run zq90
   have hrow:=BB.out.fr.run
   rw [hrv,hn,hruns] at hrow
   have HA:=Z (BB.out.mach.wk hbw (parG (.pointer (some ⟨gp,0,none⟩))) w.heap.size)
   have HF:=am BB.out.fr.blk
   have HR:=am hrow
   have HPO:=am BB.out.pa
   have hBr:w.heap.size≤gr:=BB.out.fr.rB gr (by rw [hrv];rfl)
   have HRV:=Z (show rv1= .slice (some ⟨gr,0,none⟩) (l.length+1) rc from by rw [hrv,hn])
   have HRUNS:=am hruns
   unfold maxLen at hcm
   rw [hn] at hcap
   clear hrow hrv hruns hn
   have hsl: ∀ W:World,(Instr.slice 290 (.slice (some ⟨gr,0,none⟩) (l.length+1) rc) none (some (.int .i64 (l.length:Int))) none).run Try.prog W= .ok (.slice (some ⟨gr,0,none⟩) l.length rc) W:=by
    intro W
    obtain⟨i0,hi0,_⟩:=Option.map_eq_some_iff.1 info_pd
    have h:=cut_up (P:=Try.prog) 290 326 .i64 und_pd hi0 (some ⟨gr,0,none⟩) (l.length+1) rc (l.length:Int) zq90 zq90 W
    rwa [Int.toNat_natCast] at h
   have HSL:=am hsl
   clear hsl
   have hwl:wrap64 (l.length:Int)=(l.length:Int):=IntWalk.wrap64_in _ ⟨zq90,zq90⟩
   have hll:(l.length:Int)<(l.length:Int)+1:=by omega
   have hk6:wr.cell? ⟨gf,6,none⟩=some (.slice (some ⟨gr,0,none⟩) (l.length+1) rc):=(blk_cell HF.out 6).trans (show some rv1=_ by rw [HRV.out])
   go_upto_region 16 with(fail)
   clear hk6
   have hE0_:=Evt.drew wr 292
   replace HA:=Z (HA.out.drew)
   replace HF:=(Evt.drew wr 0).b HF
   replace HR:=(Evt.drew wr 0).r HR
   replace HPO:=Z (HPO.out.ev (Evt.drew wr 0))
   clear hE0_
   refine start_ (n:=14) (S:=fun w'=>w'.cell? ⟨gf,6,none⟩=some (.slice (some ⟨gr,0,none⟩) (l.length+1) rc)∧w'.cell? ⟨gr,l.length*2,none⟩=some (.int .i64 g)∧w'.cell? ⟨gr,l.length*2+1,none⟩=some (.int .i64 a)∧True) (ds:= [13]) (bb 14 0) zq27 rfl rfl ⟨(blk_cell HF.out 6).trans (show some rv1=_ by rw [HRV.out]),(row_last HR.out 0 zq83).trans rfl,(row_last HR.out 1 zq83).trans rfl,trivial⟩ (fun hHeld=> ?_)
   generalize wr.drew=x61 at HA HF HR HPO hHeld ⊢
   refine pure1 0 96 (bb 14 1) (h:= ?_)
   refine pure1 1 97 (bb 14 3) (h:= ?_)
   refine pure1 2 98 (bb 14 7) (h:= ?_)
   refine take1 3 99 (bb 14 15) (hS:=hHeld) (h:= ?_)
   refine pure1 4 100 (bb 14 31) (h:= ?_)
   refine pure1 5 101 (bb 14 63) (h:= ?_)
   refine pure1 6 102 (bb 14 127) (h:= ?_)
   refine take1 7 103 (bb 14 255) (hS:=hHeld) (h:= ?_)
   refine pure1 8 104 (bb 14 511) (h:= ?_)
   refine pure1 9 105 (bb 14 1023) (h:= ?_)
   refine pure1 10 106 (bb 14 2047) (h:= ?_)
   refine take1 11 107 (bb 14 4095) (hS:=hHeld) (h:= ?_)
   refine on_ 12 (some 14) (bb 14 8191) (h:=fun K hK=> ?_)
   refine box_step (by rfl) (N:=14) rfl (cs:= #[.int .i64 0,.int .i64 0]) (t:=326) ?_ ?_
   ·first|(go_simp;done)|(go_simp;rfl)
   intro gl hgl x62 hbox hbel
   have hE_:=Evt.below hbel 0
   have HNE:=Z (show gr≠gl from by have h:=own_lt HR.out gr rfl;omega)
   have hBl:w.heap.size≤gl:=by rw [hgl];exact Nat.le_trans BB.out.kept.size HA.out.kept.size
   replace HA:=Z (HA.out.below hbel)
   replace HF:=hE_.b HF
   replace HR:=hE_.r HR
   replace HPO:=Z (HPO.out.ev hE_)
   have HLB:=am hbox
   clear hbel hbox hgl hE_
   refine hK.out _ _ ⟨(blk_cell HF.out 6).trans (show some rv1=_ by rw [HRV.out]),(row_last HR.out 0 zq83).trans rfl,(row_last HR.out 1 zq83).trans rfl,trivial⟩ (fun hHeld=> ?_)
   clear hK K
   refine nm 14 (h:= ?_)
   refine la 13 none (bb 14 16383) (h:=fun K hK=> ?_)
   have hc_0:=(blk_cell HLB.out 0).trans (show _=some (Value.int .i64 0) from rfl)
   have hf_0:=blk_frozen HLB.out 0
   have hc_1:=(blk_cell HLB.out 1).trans (show _=some (Value.int .i64 0) from rfl)
   have hf_1:=blk_frozen HLB.out 1
   rw [if_pos (by rfl)]
   unfold Oper.wp
   go_simp
   clear hc_0 hf_0 hc_1 hf_1
   have hev:=Evt.set HLB.out 0 (.int .i64 g)
   replace HA:=Z (HA.out.other hev zq83 (fun q hq=>zq91))
   replace HF:=hev.b HF
   replace HR:=Z (HR.out.kept hev.g (.inr (fun e=>HNE.out (by injection e))))
   replace HPO:=Z (HPO.out.ev hev)
   replace HLB:=Z ((blk_set HLB.out 0 (.int .i64 g)).trans (show _=some (Obj.cells #[.int .i64 g,.int .i64 0] 326 (0,0)) from rfl))
   clear hev
   generalize x62.setCell ⟨gl,0,none⟩ (.int .i64 g)=x63 at HA HF HR HPO HLB ⊢
   have hev:=Evt.set HLB.out 1 (.int .i64 a)
   replace HA:=Z (HA.out.other hev zq83 (fun q hq=>zq91))
   replace HF:=hev.b HF
   replace HR:=Z (HR.out.kept hev.g (.inr (fun e=>HNE.out (by injection e))))
   replace HPO:=Z (HPO.out.ev hev)
   replace HLB:=Z ((blk_set HLB.out 1 (.int .i64 a)).trans (show _=some (Obj.cells #[.int .i64 g,.int .i64 a] 326 (0,0)) from rfl))
   clear hev
   generalize x63.setCell ⟨gl,1,none⟩ (.int .i64 a)=x64 at HA HF HR HPO HLB ⊢
   refine hK.out _ _ ?_
   clear hK K
   refine done_ zq27 ?_
   go_upto_region 17 with(fail)
   have hsl:=HSL.out
   have hE0_:=Evt.drew x64 292
   replace HA:=Z (HA.out.drew)
   replace HF:=(Evt.drew x64 0).b HF
   replace HR:=(Evt.drew x64 0).r HR
   replace HPO:=Z (HPO.out.ev (Evt.drew x64 0))
   replace HLB:=(Evt.drew x64 0).b HLB
   clear hE0_
   refine start_ (n:=15) (S:=fun w'=>w'.cell? ⟨gf,6,none⟩=some (.slice (some ⟨gr,0,none⟩) (l.length+1) rc)∧True) (ds:= [14]) (bb 15 0) zq27 rfl rfl ⟨(blk_cell HF.out 6).trans (show some rv1=_ by rw [HRV.out]),trivial⟩ (fun hHeld=> ?_)
   generalize x64.drew=x65 at HA HF HR HPO HLB hHeld ⊢
   refine pure1 0 108 (bb 15 1) (h:= ?_)
   refine pure1 1 109 (bb 15 3) (h:= ?_)
   refine pure1 2 110 (bb 15 7) (h:= ?_)
   refine pure1 3 111 (bb 15 15) (h:= ?_)
   refine take1 4 112 (bb 15 31) (hS:=hHeld) (h:= ?_)
   refine pure1 5 113 (bb 15 63) (h:= ?_)
   refine pure1 6 114 (bb 15 127) (h:= ?_)
   refine pure1 7 115 (bb 15 255) (h:= ?_)
   refine take1 8 116 (bb 15 511) (hS:=hHeld) (h:= ?_)
   refine pure1 9 117 (bb 15 1023) (h:= ?_)
   refine pure1 10 118 (bb 15 2047) (h:= ?_)
   refine pure1 11 119 (bb 15 4095) (h:= ?_)
   refine pure1 12 120 (bb 15 8191) (h:= ?_)
   refine pure1 13 121 (bb 15 16383) (h:= ?_)
   refine la 14 none (bb 15 32767) (h:=fun K hK=> ?_)
   have hc_:=(blk_cell HF.out 6).trans (show _=some (Value.slice (some ⟨gr,0,none⟩) (l.length+1) rc) from by rw [HRV.out];rfl)
   have hf_:=blk_frozen HF.out 6
   rw [if_pos (by rfl)]
   unfold Oper.wp
   go_simp
   clear hc_ hf_
   have hev:=Evt.set HF.out 6 (.slice (some ⟨gr,0,none⟩) l.length rc)
   replace HA:=Z (HA.out.other hev zq83 (fun q hq=>zq85))
   replace HF:=Z ((blk_set HF.out 6 (.slice (some ⟨gr,0,none⟩) l.length rc)).trans (show _=some (Obj.cells (frC { f1 with runs:=l.reverse } (.slice (some ⟨gr,0,none⟩) l.length rc) (.pointer (some ⟨gp,0,none⟩))).toArray 292 (0,0)) from rfl))
   replace HR:=hev.r HR
   replace HPO:=Z (HPO.out.ev hev)
   replace HLB:=hev.b HLB
   generalize x65.setCell ⟨gf,6,none⟩ (.slice (some ⟨gr,0,none⟩) l.length rc)=x66 at HA HF HR HPO HLB ⊢
   clear hev
   refine hK.out _ _ ?_
   clear hK K
   refine done_ zq27 ?_
   clear hsl hwl hll
   have HRC:=Z (row_cut HR.out)
   clear HR
   have hmem:(g,a)∈f1.runs:=by rw [HRUNS.out];simp
   obtain⟨hga,hg0,hgN⟩:=JJ.out.wf.frame.2.2.2.2.2.2 (g,a) hmem
   have hrest: ∀ x∈l.reverse,Num x.2∧0≤x.1∧x.1<N:=fun x hx=>JJ.out.wf.frame.2.2.2.2.2.2 x (by rw [HRUNS.out];exact List.mem_append_left _ hx)
   have HDI:=Z (WF.dinner HCE.out JJ.out.wf JJ.out.made g a l.reverse hga ⟨hg0,hgN⟩ hrest)
   have hsm: ∃ sm,RM m1 sm∧sm.spent=false:=by obtain⟨sm,c,h1,h2,_⟩:=JJ.out.wf;exact⟨sm,h1,h2⟩
   have hrm:(m1.trace.length:Int)+3*(fuel-m1.made)+2≤100000:=by have h:=JJ.out.room;rw [List.length_cons] at h;omega
   have hr1:Num f1.r1:=JJ.out.wf.frame.1 1
   have HCI:=Z (HIH.out x66 gm m1 v1 g a (some { f1 with runs:=l.reverse }) (.pointer (some ⟨gf,0,none⟩)) (.slice (some ⟨gr,0,none⟩) l.length rc) (.pointer (some ⟨gp,0,none⟩)) true HA.out.mach ((BB.out.pl).maps HA.out.maps) (HA.out.kept.bel (BB.out.kept.bel HBEL.out)) ⟨gf,rfl,HF.out,hbf⟩ hsm JJ.out.made hga ⟨hg0,hgN⟩ (fun _=>⟨_,rfl,hr1,fun e=>JJ.out.wf.frame.2.2.2.2.1 e⟩) JJ.out.depth hrm JJ.out.pls)
   have HRM:=Z (call_room (p:=p) (fuel:=fuel) R dd m1 g a (some { f1 with runs:=l.reverse }) true).1
   have HPZ:=Z (call_pl (p:=p) (fuel:=fuel) R dd m1 g a (some { f1 with runs:=l.reverse }) true)
   have HK1:=am HA.out.kept
   have HSZ:=am HA.out.sz
   have HPO1:=HPO
   have hl0:x66.cell? ⟨gl,0,none⟩=some (.int .i64 g):=(blk_cell HLB.out 0).trans rfl
   have hl1:x66.cell? ⟨gl,1,none⟩=some (.int .i64 a):=(blk_cell HLB.out 1).trans rfl
   clear hmem hga hg0 hgN hrest hsm hrm hr1 HA HF HPO HLB
   go_wp2_with (fail)
   refine HCI.out.mono ?_
   clear HCI hl0 hl1
   rintro e w8 hpost
   rcases hpost with⟨hr,rfl,v8,hpl,hM,hPl,hK⟩|⟨d,par8,gd,rd,v8,hr,rfl,hpl,hM,hPl,hgd,hD,hPA8,hK⟩
   ·refine⟨rfl,?_⟩
    have hres:=JJ.out.res
    rw [runsI_cons0 hr] at hres
    rw [callI_spent2 HBI.out hres.symm]
    exact .inl ⟨rfl,rfl,v8,hpl.trans BB.out.eq,hM,by rw [← BB.out.eq];exact hPl,(BB.out.kept.trans HK1.out).inner hK (Nat.le_trans BB.out.kept.size HK1.out.size) (fun q e=>zq89)⟩
   obtain⟨u,hpu,hdfin,hdpan,hfpan,hwf9,hmd9,hdp9,hrn9⟩:=HDI.out.2.2.2 d par8 hr
   subst hpu
   obtain⟨gq,hq1,hq2,hq3,hq4⟩:=hPA8
   have hqe:gf=gq:=by injection hq1 with hq1;injection hq1 with hq1;injection hq1
   subst hqe
   have hb8:W0.heap.size≤w8.heap.size:=Nat.le_trans HSZ.out hK.size
   have HCB:=Z (behind.calls w8 W0.heap.size gm gf gd (.slice A0 p.length c0) fuel (callI p fuel R dd m1 g a (some { f1 with runs:=l.reverse }) true).1 v8 { f1 with runs:=l.reverse,r1:=u } d (.slice (some ⟨gr,0,none⟩) l.length rc) (.pointer (some ⟨gp,0,none⟩)) rd (.pointer (some ⟨gf,0,none⟩)) hM hq2 hD (fun e=>hq3 e.symm) hbf hb8 hdfin hfpan hdpan)
   have HR8:=Z (KeptB.row hK (Nat.le_refl _) HRC.out zq83 zq83)
   have HPO8:=Z (HPO1.out.keptB hK (Nat.le_refl _) (.inr rfl))
   have HK8:=Z ((BB.out.kept.trans HK1.out).inner hK (Nat.le_trans BB.out.kept.size HK1.out.size) (fun q e=>zq89))
   have HP8:=am hPl
   have HV8:=am hpl
   have HRR:=am hr
   have HW9:=am hwf9
   have HMD:=am hmd9
   have HDP:=am hdp9
   have HRN:=am hrn9
   have HMM:=am HDI.out.2.1
   clear hr hpl hM hPl hgd hD hK hq1 hq2 hq3 hq4 hb8 hdfin hdpan hfpan hwf9 hmd9 hdp9 hrn9 HDI HPO1 HRC
   go_wp2_with (fail)
   refine HCB.out.mono ?_
   clear HCB
   rintro e w9 ⟨rfl,hM9,hF9,hK9⟩
   have MM9:=Z (And.intro hM9 (And.intro hF9 hK9))
   clear hM9 hF9 hK9
   go_wp2_with (fail)
   go_roundg l.length
   case measure=>have h:=HL.out;rw [List.length_cons] at h;omega
   case rel =>
    obtain⟨hM9,hF9,hK9⟩:=MM9.out
    refine⟨l,_,_,v8,.slice (some ⟨gr,0,none⟩) l.length rc,rfl,⟨⟨hM9,⟨hF9,?_,hbf,hBf,fun q hq=> ?_⟩,HPO8.out.kept hK9 (.inr rfl),?_,HV8.out.trans BB.out.eq,HK8.out.inner (hK9.toB w.heap.size) (Nat.le_refl _) (fun q e=>zq89)⟩⟩,⟨HW9.out,HRN.out,by rw [HMD.out];exact HMM.out,by rw [HDP.out];exact JJ.out.depth,?_,?_,?_⟩⟩
    ·rw [HRN.out,List.length_reverse]
     exact KeptM.row hK9 HR8.out zq83 zq83
    ·have e:gr=q:=by simpa [Value.ownBlock] using hq
     subst e;exact hBr
    ·rw [behindI_places]
     rw [HV8.out]
     exact HP8.out.maps hK9.maps
    ·obtain⟨b1,b2,_⟩:=behindI_room (callI p fuel R dd m1 g a (some { f1 with runs:=l.reverse }) true).1 { f1 with runs:=l.reverse,r1:=u } d
     rw [b1,b2]
     have h1:=HRM.out
     have h2:=JJ.out.room
     rw [List.length_cons] at h2
     omega
    ·have b3:=behindI_pl (callI p fuel R dd m1 g a (some { f1 with runs:=l.reverse }) true).1 { f1 with runs:=l.reverse,r1:=u } d
     have h1:=HPZ.out
     unfold Pl0 at b3 h1
     have h2:=JJ.out.pls
     omega
    ·rw [← JJ.out.res]
     exact(runsI_cons1 HRR.out).symm
theorem call_all(W0:World)(A0:Option Addr)(c0:Nat)(p:List (List St))(N fuel:Int)(R:Nat)(hPr:ProgAt W0 A0 c0 p N)(hf0:0≤fuel∧fuel≤1000)(hfR:fuel<R): ∀ d,d≤8→CallC W0 A0 c0 p N fuel R d:=by
 intro d
 induction d with
 |zero=>intro _;exact call_zero W0 A0 c0 p N fuel R
 |succ d ih =>
  intro hd w gm m v fn arg par pv rp pp dfr H hPl hbel hPa hsm hle hna hfn hdp hdep hroom hpls
  have hih:=ih zq90
  obtain⟨sm,hRM,hsp⟩:=hsm
  have hwf:=WM.begin_ (N:=N) (par:=par) (dfr:=dfr) hRM hsp hna hfn hdp
  have hpa:=PaOk.mk0 hPa
  cases par with
  |none =>
   have hpv:pv= .pointer none:=hPa
   subst hpv
   cases dfr with
   |false=>exact call_nf W0 A0 c0 p N fuel R d hih hPr hf0 hfR zq90 w gm m v fn arg rp pp H hPl hbel hpa hwf hle hdep hroom hpls
   |true=>obtain⟨pf,h,_⟩:=hdp rfl;cases h
  |some pf =>
   obtain⟨gp,rfl,h2,h3⟩:=hPa
   cases dfr with
   |false=>exact call_sf W0 A0 c0 p N fuel R d hih hPr hf0 hfR zq90 w gm m v fn arg pf gp rp pp H hPl hbel hpa hwf hle hdep hroom hpls
   |true=>exact call_st W0 A0 c0 p N fuel R d hih hPr hf0 hfR zq90 w gm m v fn arg pf gp rp pp H hPl hbel hpa hwf hle hdep hroom hpls
theorem stop_panicking(p:Addr)(x:Value)(w:World)(hc:w.cell? p=some x)(hz:w.frozen? p=false) :
  CallsD Try.prog 291 #[.pointer (some p)] (.panicking spentChain) w fun e u' w' =>
   e= .returned (.tuple #[])∧u'= .panicking [{ v:= .iface 313 (.agg #[]),recovered:=true }]∧w'=(w.alloc (.cells #[] 313)).setCell p (.pointer none):=by
 have hta: ∀ w:World,(Instr.typeAssert (.iface 313 (.agg #[])) 20 313 true).run Try.prog w= .ok (.tuple #[.agg #[],.bool true]) w:=fun _=>by kernel_rfl
 refine callsD_of_wpS Try.func291 rfl fun c₀ cs hu=> ?_
 unfold spentChain at hu
 apply wpS_seq
 apply wpS_region
 simp [wpOpsS,go_sem,recoverD,hu,Try.ntmps291,Exit.thenS,hta]
 have hc1:(w.alloc (.cells #[] 313)).cell? p=some x:=pw_cell_below (below_alloc (Below.refl _ _) _) hc
 have hz1:(w.alloc (.cells #[] 313)).frozen? p=false:=(World.frozen?_alloc_old w _ p (Nat.ne_of_lt (World.block_lt_of_cell? w p hc))).trans hz
 apply wpS_seq
 apply wpS_region
 simp [wpOpsS,go_sem,Exit.thenS]
 refine wpS_cond (t:=true) (by simp [Act.eval,Array.replicate]) ?_
 simp only [if_true]
 apply wpS_region
 simp [wpOpsS,go_sem,hc1,hz1,bodyPostS,results,Try.results291]
theorem stop_idle(p:Addr)(w:World) :
  CallsD Try.prog 291 #[.pointer (some p)] .returning w fun e u' w'=>e= .returned (.tuple #[])∧u'= .returning∧w'=w.alloc (.cells #[] 313):=by
 have hta: ∀ w:World,(Instr.typeAssert .nilIface 20 313 true).run Try.prog w= .ok (.tuple #[.agg #[],.bool false]) w:=fun _=>by kernel_rfl
 refine callsD_of_wpS Try.func291 rfl fun c₀ cs hu=> ?_
 apply wpS_seq
 apply wpS_region
 simp [wpOpsS,go_sem,recoverD,hu,Try.ntmps291,Exit.thenS,hta]
 apply wpS_seq
 apply wpS_region
 simp [wpOpsS,go_sem,Exit.thenS]
 refine wpS_cond (t:=false) (by simp [Act.eval,Array.replicate]) ?_
 simp only [Bool.false_eq_true,if_false]
 refine wpS_of_wp (wp_skip ?_)
 cases c₀
 simp_all [bodyPostS,results,Try.results291]
def FirstPost(w w':World)(base gm:Nat)(A0:Value)(fuel:Int)(v:MV)(r:ResI)(e:Ending):Prop :=
 ∃ v',v'.pl=v.pl∧Mach w' base gm A0 fuel r.1 v'∧PlOk w' base v.pl r.1.places∧KeptB base none w.heap.size w w' ∧
  ((r.2=none∧e= .returned (.pointer none))∨ ∃ d par' gd rd pd,r.2=some (d,par')∧e= .returned (.pointer (some ⟨gd,0,none⟩))∧w.heap.size≤gd∧w'.heap[gd]? =some (.cells (frC d rd pd).toArray 292 (0,0)))
theorem first.calls(W0:World)(A0:Option Addr)(c0:Nat)(p:List (List St))(N fuel:Int)(R:Nat)(hPr:ProgAt W0 A0 c0 p N)(hf0:0≤fuel∧fuel≤1000)(hfR:fuel<R)(w:World)(gm:Nat)(sh:Int)(v:MV)(fn arg:Int)(H:Mach w W0.heap.size gm (.slice A0 p.length c0) fuel (ms0 sh) v)(hPl:PlOk w W0.heap.size v.pl [])(hbel:Below W0.heap.size W0 w)
  (hsh:Num sh) (hna:Num arg) (hfn:0≤fn∧fn<N) :
  Calls Try.prog 268 #[.pointer (some ⟨gm,0,none⟩),.int .i64 fn,.int .i64 arg] w fun e w'=>FirstPost w w' W0.heap.size gm (.slice A0 p.length c0) fuel v (callI p fuel R 8 (ms0 sh) fn arg none false) e:=by
 have hmf: ∀ (fn:Fn) (first cap:Array Value) (w:World),(Instr.makeFunc fn first cap).run Try.prog w= .ok (.func fn first cap) w:=fun _ _ _ _=>rfl
 have e165: ∀ args w,(callFunc 292 args).run Try.prog w= .ok (.enter 292 args) w:=enters_of Try.func292 zq27 rfl
 have HM:=am H
 have HPL:=am hPl
 have HBEL:=am hbel
 have HPR:=am hPr
 clear H hPl hbel hPr
 go_enter_defers Try.func268,Try.ntmps268
 go_wp2_with (fail)
 obtain⟨gv,hgv⟩: ∃ gv,gv=w.heap.size:=⟨_,rfl⟩
 have hb:W0.heap.size≤w.heap.size:=HBEL.out.size
 have hnew:=blk_new w (.cells #[.pointer none] 288 (0,0))
 have hbl:=below_alloc (Below.refl w.heap.size w) (.cells #[.pointer none] 288 (0,0))
 rw [← hgv] at hnew ⊢
 have HA:=Z ((HM.out.wk hb none w.heap.size).below hbl)
 have HGV:=am hgv
 have HV:=am hnew
 clear hgv hnew hbl
 generalize w.alloc (.cells #[.pointer none] 288 (0,0))=w1 at HA HV ⊢
 refine(call_all W0 A0 c0 p N fuel R HPR.out hf0 hfR 8 (Nat.le_refl _) w1 gm (ms0 sh) v fn arg none (.pointer none) undef undef false HA.out.mach (HPL.out.maps HA.out.maps) (HA.out.kept.bel HBEL.out) rfl ⟨⟨false,sh,0,0,[],[]⟩,⟨rfl,rfl,rfl,rfl,rfl,hsh,Int.le_refl _,rfl,Nat.le_refl _,Nat.le_refl _,Nat.le_refl _,fun q hq=>(by cases hq),fun q hq=>(by cases hq)⟩,rfl⟩ hf0.1 hna hfn (fun e=>zq121) rfl (by show((0:Nat):Int)+3*(fuel-0)+2≤100000;omega) rfl).mono ?_
 rintro e w8 hpost
 rcases hpost with⟨hr,rfl,v8,hpl,hM,hPl,hK⟩|⟨d,par8,gd,rd,v8,hr,rfl,hpl,hM,hPl,hgd,hD,hPA8,hK⟩
 ·have hV8:=hK.cells _ _ _ _ (blk_lt HV.out) HV.out zq83 (fun e=>absurd e zq83)
  change bodyPostD _ _ _ (Exit.panic _) _ _
  refine leaves_cons (f:=291) (args:= #[.pointer (some ⟨gv,0,none⟩)]) (by simp [spentChain]) (by simp [go_sem]) ?_
  refine(stop_panicking ⟨gv,0,none⟩ (.pointer none) w8 ((blk_cell hV8 0).trans rfl) (blk_frozen hV8 0)).mono ?_
  rintro e u' w'' ⟨rfl,rfl,rfl⟩
  have hbw:=below_alloc (Below.refl w8.heap.size w8) (.cells #[] 313)
  have hV9:=blk_below hV8 hbw
  have hev:=Evt.set hV9 0 (.pointer none)
  have hA9:=((hM.wk (Nat.le_trans HA.out.sz hK.size) none w.heap.size).below hbw).other hev zq83 (fun q hq=>by injection hq with hq;subst hq;rw [HGV.out];exact⟨hb,.inr (.inr (Nat.le_refl _))⟩)
  have hcz:((w8.alloc (.cells #[] 313)).setCell ⟨gv,0,none⟩ (.pointer none)).cell? ⟨gv,0,none⟩=some (.pointer none):=(blk_cell (blk_set hV9 0 (.pointer none)) 0).trans rfl
  have hP9:=hPl.maps hA9.maps
  generalize (w8.alloc (.cells #[] 313)).setCell ⟨gv,0,none⟩ (.pointer none)=w9 at *
  have hK9:=(HA.out.kept.inner hK HA.out.kept.size (fun q e=>zq121)).trans hA9.kept
  have hfin:FirstPost w w9 W0.heap.size gm (.slice A0 p.length c0) fuel v (callI p fuel R 8 (ms0 sh) fn arg none false) (.returned (.pointer none)):=⟨v8,hpl,hA9.mach,hP9,hK9,.inl ⟨hr,rfl⟩⟩
  simp [Leaves,settle,results,Try.results268,go_sem,hcz]
  exact hfin
 ·have hV8:=hK.cells _ _ _ _ (blk_lt HV.out) HV.out zq83 (fun e=>absurd e zq83)
  have hc8:w8.cell? ⟨gv,0,none⟩=some (.pointer none):=(blk_cell hV8 0).trans rfl
  have hz8:=blk_frozen hV8 0
  have MM:=Z (And.intro hr (And.intro hpl (And.intro hM (And.intro hPl (And.intro hgd (And.intro hD (And.intro hPA8 (And.intro hK hV8))))))))
  clear hr hpl hM hPl hgd hD hPA8 hK hV8
  go_wp2_with (fail)
  clear hc8 hz8
  obtain⟨hr,hpl,hM,hPl,hgd,hD,hPA8,hK,hV8⟩:=MM.out
  refine leaves_cons (f:=291) (args:= #[.pointer (some ⟨gv,0,none⟩)]) (by simp) (by simp [go_sem]) ?_
  refine(stop_idle ⟨gv,0,none⟩ _).mono ?_
  rintro e u' w'' ⟨rfl,rfl,rfl⟩
  have hev:=Evt.set hV8 0 (.pointer (some ⟨gd,0,none⟩))
  have hA9:=(hM.wk (Nat.le_trans HA.out.sz hK.size) none w.heap.size).other hev zq83 (fun q hq=>by injection hq with hq;subst hq;rw [HGV.out];exact⟨hb,.inr (.inr (Nat.le_refl _))⟩)
  have hbw:=below_alloc (Below.refl (w8.setCell ⟨gv,0,none⟩ (.pointer (some ⟨gd,0,none⟩))).heap.size (w8.setCell ⟨gv,0,none⟩ (.pointer (some ⟨gd,0,none⟩)))) (.cells #[] 313)
  have hA10:=hA9.below hbw
  have hcz:((w8.setCell ⟨gv,0,none⟩ (.pointer (some ⟨gd,0,none⟩))).alloc (.cells #[] 313)).cell? ⟨gv,0,none⟩=some (.pointer (some ⟨gd,0,none⟩)):=(blk_cell (blk_below (blk_set hV8 0 (.pointer (some ⟨gd,0,none⟩))) hbw) 0).trans rfl
  have hP9:=hPl.maps hA10.maps
  have hD9:=blk_below (hev.blk hD zq83) hbw
  generalize (w8.setCell ⟨gv,0,none⟩ (.pointer (some ⟨gd,0,none⟩))).alloc (.cells #[] 313)=w9 at *
  have hK9:=(HA.out.kept.inner hK HA.out.kept.size (fun q e=>zq121)).trans hA10.kept
  have hfin:FirstPost w w9 W0.heap.size gm (.slice A0 p.length c0) fuel v (callI p fuel R 8 (ms0 sh) fn arg none false) (.returned (.pointer (some ⟨gd,0,none⟩))):=⟨v8,hpl,hA10.mach,hP9,hK9,.inr ⟨d,par8,gd,rd,_,hr,rfl,Nat.le_trans HA.out.kept.size hgd,hD9⟩⟩
  simp [Leaves,settle,results,Try.results268,go_sem,hcz]
  exact hfin
def askI(p:List (List St))(f arg fuel:Int):Bool:=progOk p&&(decide (0≤f∧f≤(p.length:Int)-1)&&(decide (-32768≤arg∧arg≤32767)&&decide (0≤fuel∧fuel≤200)))
def machO(A0:Value)(fuel:Int)(m:MS)(v:MV)(o:OutM):List Value :=
 [A0,.int .i64 fuel,.int .i64 m.made,.int .i64 m.shared,.int .i64 m.depth,.int .i64 m.deepest,v.tr,v.ow,v.ca,v.pa,v.re,v.pl,.int .i64 o.kind,.int .i64 o.value,v.tr,.int .i64 o.spent]
structure MachO(w:World)(base gm:Nat)(A0:Value)(fuel:Int)(m:MS)(v:MV)(o:OutM):Prop where
 blk:w.heap[gm]? =some (.cells (machO A0 fuel m v o).toArray 155 (0,0))
 low:base≤gm
 rows:Rows w base m v
theorem mapL_ {P:Program} {ops:Array Oper} {rest:List Oper} {o:Oper} {a:Act} {Q:Exit→Act→World→Prop} {W:World} {base:Nat} (hb:base≤W.heap.size)(hgd:o.guard=none)
  (hrun:(execOp a.eval o).run P W= .ok (.value (.map (some W.heap.size))) (W.alloc (.map #[] 0)))
  (h: ∀ g w1,PlOk w1 base (.map (some g)) []→Below W.heap.size W w1→wpList P ops Q rest (a.put o.dst (.map (some g))) w1):wpList P ops Q (o::rest) a W :=
 Kd.event_run hgd hrun (h _ _ (PlOk.made W base hb) (below_alloc (Below.refl _ _) _))
theorem drawn_below {w w':World} (h:Drawn0 w w'):Below w.heap.size w w':=by
 obtain⟨n,rfl⟩:=h.out
 exact pw_below_drewN (Below.refl _ _) n
theorem stepOk_wf {n:Int} {s:St} (h:stepOk n s=true):StepOk n s∧StepWf s:=by
 unfold stepOk at h
 have h:=of_decide_eq_true h
 refine⟨⟨fun e=> ?_,fun e=> ?_,fun e=> ?_⟩,⟨?_,fun h4 h5 h10 h11=> ?_,fun e=> ?_⟩⟩
 ·unfold Num;omega
 ·omega
 ·omega
 ·omega
 ·omega
 ·omega
theorem progAt_of {W0:World} {A0:Option Addr} {c0:Nat} {p:List (List St)} (hC:Kd.C (Kd.slice 219 k219) W0 A0 p.length p)(hc:p.length≤c0)(h:progOk p=true):ProgAt W0 A0 c0 p p.length∧1≤p.length:=by
 unfold progOk at h
 simp only [Bool.and_eq_true,decide_eq_true_eq] at h
 obtain⟨⟨h1,h2⟩,h3⟩:=h
 have hb: ∀ b∈p,bodyOk p.length b=true:=fun b hb=>List.all_eq_true.1 h3 b hb
 have hs: ∀ b∈p,b.length≤8∧ ∀ s∈b,stepOk p.length s=true:=fun b hbm=>by
  have h4:=hb b hbm
  unfold bodyOk at h4
  simp only [Bool.and_eq_true,decide_eq_true_eq] at h4
  exact⟨h4.1,fun s hsm=>List.all_eq_true.1 h4.2 s hsm⟩
 exact⟨⟨hC,hc,fun b hbm s hsm=>(stepOk_wf ((hs b hbm).2 s hsm)).1,fun b hbm s hsm=>(stepOk_wf ((hs b hbm).2 s hsm)).2,rfl,fun b hbm=>by have:=(hs b hbm).1;omega⟩,h1⟩
theorem Rows.zero(W:World)(base:Nat)(sh:Int)(pl:Value):Rows W base (ms0 sh) ⟨.slice none 0 0,.slice none 0 0,.slice none 0 0,.slice none 0 0,.slice none 0 0,pl,[]⟩ :=
 ⟨own_nil _ _ _ _,own_nil _ _ _ _,own_nil _ _ _ _,own_nil _ _ _ _,own_nil _ _ _ _,rfl,fun i q u hq=>by simp [ms0] at hq,fun i u hu=>by simp at hu,fun i j u u' _ hu=>by simp at hu⟩
theorem ranFrom_no(A0:Option Addr)(c0:Nat)(p:List (List St))(f arg fuel sh:Int)(w:World)(hC:Kd.C (Kd.slice 219 k219) w A0 p.length p)(hc:p.length≤c0)(h:askI p f arg fuel=false) :
  Calls Try.prog 220 #[.agg #[.slice A0 p.length c0],.int .i64 f,.int .i64 arg,.int .i64 fuel,.int .i64 sh] w fun e w'=>e= .returned (.tuple #[.pointer none,.bool false])∧Below w.heap.size w w':=by
 have hu28:=Try.underlying35
 have HC:=am hC
 have hlen:p.length≤9223372036854775807:=hC.2.1
 clear hC
 have e1: ∀ args w,(callFunc 216 args).run Try.prog w= .ok (.enter 216 args) w:=enters_of Try.func216 zq27 rfl
 have e2: ∀ args w,(callFunc 188 args).run Try.prog w= .ok (.enter 188 args) w:=enters_of Try.func188 zq27 rfl
 have e3: ∀ args w,(callFunc 219 args).run Try.prog w= .ok (.enter 219 args) w:=enters_of Try.func219 zq27 rfl
 have h115:=fun W (hb:Below w.heap.size w W)=>impl_IsProgram.calls A0 c0 p (progOk p) W (Kd.C_below HC.out hb) hc rfl
 have h97f:=fun W=>impl_in.calls f 0 ((p.length:Int)-1) _ W (in_eq _ _ _)
 have h130:=fun W=>impl_isNumber.calls arg (decide (-32768≤arg∧arg≤32767)) W (by unfold impl_isNumber.f;rw [in_eq];rfl)
 have h97g:=fun W=>impl_in.calls fuel 0 200 _ W (in_eq _ _ _)
 unfold askI at h
 generalize progOk p=b1 at h h115
 generalize decide (0≤f∧f≤(p.length:Int)-1)=b2 at h h97f
 generalize decide (-32768≤arg∧arg≤32767)=b3 at h h130
 generalize decide (0≤fuel∧fuel≤200)=b4 at h h97g
 have H115:=am h115
 have H97F:=am h97f
 have H130:=am h130
 have H97G:=am h97g
 have HB:=am h
 clear h115 h97f h130 h97g h
 go_enter Try.func220,Try.ntmps220
 cases b1 with
 |false =>
  go_wp2_with (first|(refine bx 5 #[.slice A0 p.length c0] 35 (h:= ?_);intro g5 hg5 w1 hbox hb;have B:=am hb;have C:=am hbox;clear hb hbox hg5;have hp5:=cl1 C.out)|(go_at_fn 216;refine(H115.out _ B.out).mono ?_;rintro e w2 ⟨rfl,hb'⟩;replace B:=Z (below_step B.out hb');replace C:=Z (blk_below C.out hb');replace hp5:=cl1 C.out;clear hb')|(go_at_fn 188;(with_reducible refine(H97F.out _).mono ?_);rintro e w3 ⟨rfl,hD⟩;have hb':=drawn_below hD;clear hD;replace B:=Z (below_step B.out hb');replace C:=Z (blk_below C.out hb');replace hp5:=cl1 C.out;clear hb')|(go_at_fn 188;(with_reducible refine(H97G.out _).mono ?_);rintro e w3 ⟨rfl,hD⟩;have hb':=drawn_below hD;clear hD;replace B:=Z (below_step B.out hb');replace C:=Z (blk_below C.out hb');replace hp5:=cl1 C.out;clear hb')|(go_at_fn 219;refine(H130.out _).mono ?_;rintro e w4 ⟨rfl,hD⟩;have hb':=drawn_below hD;clear hD;replace B:=Z (below_step B.out hb');replace C:=Z (blk_below C.out hb');replace hp5:=cl1 C.out;clear hb'))
  go_ret2
  exact⟨rfl,B.out⟩
 |true =>
  cases b2 with
  |false =>
   go_wp2_with (first|(refine bx 5 #[.slice A0 p.length c0] 35 (h:= ?_);intro g5 hg5 w1 hbox hb;have B:=am hb;have C:=am hbox;clear hb hbox hg5;have hp5:=cl1 C.out)|(go_at_fn 216;refine(H115.out _ B.out).mono ?_;rintro e w2 ⟨rfl,hb'⟩;replace B:=Z (below_step B.out hb');replace C:=Z (blk_below C.out hb');replace hp5:=cl1 C.out;clear hb')|(go_at_fn 188;(with_reducible refine(H97F.out _).mono ?_);rintro e w3 ⟨rfl,hD⟩;have hb':=drawn_below hD;clear hD;replace B:=Z (below_step B.out hb');replace C:=Z (blk_below C.out hb');replace hp5:=cl1 C.out;clear hb')|(go_at_fn 188;(with_reducible refine(H97G.out _).mono ?_);rintro e w3 ⟨rfl,hD⟩;have hb':=drawn_below hD;clear hD;replace B:=Z (below_step B.out hb');replace C:=Z (blk_below C.out hb');replace hp5:=cl1 C.out;clear hb')|(go_at_fn 219;refine(H130.out _).mono ?_;rintro e w4 ⟨rfl,hD⟩;have hb':=drawn_below hD;clear hD;replace B:=Z (below_step B.out hb');replace C:=Z (blk_below C.out hb');replace hp5:=cl1 C.out;clear hb'))
   go_ret2
   exact⟨rfl,B.out⟩
  |true =>
   cases b3 with
   |false =>
    go_wp2_with (first|(refine bx 5 #[.slice A0 p.length c0] 35 (h:= ?_);intro g5 hg5 w1 hbox hb;have B:=am hb;have C:=am hbox;clear hb hbox hg5;have hp5:=cl1 C.out)|(go_at_fn 216;refine(H115.out _ B.out).mono ?_;rintro e w2 ⟨rfl,hb'⟩;replace B:=Z (below_step B.out hb');replace C:=Z (blk_below C.out hb');replace hp5:=cl1 C.out;clear hb')|(go_at_fn 188;(with_reducible refine(H97F.out _).mono ?_);rintro e w3 ⟨rfl,hD⟩;have hb':=drawn_below hD;clear hD;replace B:=Z (below_step B.out hb');replace C:=Z (blk_below C.out hb');replace hp5:=cl1 C.out;clear hb')|(go_at_fn 188;(with_reducible refine(H97G.out _).mono ?_);rintro e w3 ⟨rfl,hD⟩;have hb':=drawn_below hD;clear hD;replace B:=Z (below_step B.out hb');replace C:=Z (blk_below C.out hb');replace hp5:=cl1 C.out;clear hb')|(go_at_fn 219;refine(H130.out _).mono ?_;rintro e w4 ⟨rfl,hD⟩;have hb':=drawn_below hD;clear hD;replace B:=Z (below_step B.out hb');replace C:=Z (blk_below C.out hb');replace hp5:=cl1 C.out;clear hb'))
    go_ret2
    exact⟨rfl,B.out⟩
   |true =>
    cases b4 with
    |false =>
     go_wp2_with (first|(refine bx 5 #[.slice A0 p.length c0] 35 (h:= ?_);intro g5 hg5 w1 hbox hb;have B:=am hb;have C:=am hbox;clear hb hbox hg5;have hp5:=cl1 C.out)|(go_at_fn 216;refine(H115.out _ B.out).mono ?_;rintro e w2 ⟨rfl,hb'⟩;replace B:=Z (below_step B.out hb');replace C:=Z (blk_below C.out hb');replace hp5:=cl1 C.out;clear hb')|(go_at_fn 188;(with_reducible refine(H97F.out _).mono ?_);rintro e w3 ⟨rfl,hD⟩;have hb':=drawn_below hD;clear hD;replace B:=Z (below_step B.out hb');replace C:=Z (blk_below C.out hb');replace hp5:=cl1 C.out;clear hb')|(go_at_fn 188;(with_reducible refine(H97G.out _).mono ?_);rintro e w3 ⟨rfl,hD⟩;have hb':=drawn_below hD;clear hD;replace B:=Z (below_step B.out hb');replace C:=Z (blk_below C.out hb');replace hp5:=cl1 C.out;clear hb')|(go_at_fn 219;refine(H130.out _).mono ?_;rintro e w4 ⟨rfl,hD⟩;have hb':=drawn_below hD;clear hD;replace B:=Z (below_step B.out hb');replace C:=Z (blk_below C.out hb');replace hp5:=cl1 C.out;clear hb'))
     go_ret2
     exact⟨rfl,B.out⟩
    |true=>exact absurd HB.out zq83
theorem ran_facts {N:Int} {p:List (List St)} {fuel:Int} (hp:ProgOk N p)(R:Nat)(hf0:0≤fuel)(hfu:fuel<R)(f arg sh:Int)(hfn:0≤f∧f<N)(ha:Num arg)(hs:Num sh) :
  WM (callI p fuel R 8 (ms0 sh) f arg none false).1∧ ∀ d par',(callI p fuel R 8 (ms0 sh) f arg none false).2=some (d,par')→(d.fin=1∨d.fin=2∨d.fin=3)∧(d.fin=2→Valid (callI p fuel R 8 (ms0 sh) f arg none false).1 d.pan)∧0<(callI p fuel R 8 (ms0 sh) f arg none false).1.calls.length:=by
 have C:=(ran_rel hp R hf0 hfu f arg sh hfn ha hs).res
 refine⟨⟨_,C.rm⟩,fun d par' hd=> ?_⟩
 obtain⟨c1,c2,c3,c4,c5,c6,c7,c8⟩:=C.some_ d par' hd
 exact⟨c3.fin,fun e=>(c3.pan e).1,by have:=c3.idok;omega⟩
theorem ranI_spent {p:List (List St)} {R:Nat} {f arg fuel sh:Int} (h:(callI p fuel R 8 (ms0 sh) f arg none false).2=none):ranI p R f arg fuel sh=((callI p fuel R 8 (ms0 sh) f arg none false).1,⟨4,0,(callI p fuel R 8 (ms0 sh) f arg none false).1.trace,(callI p fuel R 8 (ms0 sh) f arg none false).1.made⟩):=by
 unfold ranI
 generalize (callI p fuel R 8 (ms0 sh) f arg none false)=r at *
 obtain⟨m,ro⟩:=r
 subst h
 rfl
theorem ranI_two {p:List (List St)} {R:Nat} {f arg fuel sh:Int} {d:Fr} {par':Option Fr} {m8:MS} (h:(callI p fuel R 8 (ms0 sh) f arg none false).2=some (d,par'))(hm:(callI p fuel R 8 (ms0 sh) f arg none false).1=m8)(hcl:0<m8.calls.length)(h2:d.fin=2){i:Nat} (hi:d.pan=i)(hlt:i<m8.panics.length) :
  ranI p R f arg fuel sh=({ m8 with panics:=m8.panics.set i { m8.panics[i] with fate:=3 } },⟨d.fin,(m8.calls[0]'hcl).val,m8.trace,m8.made⟩):=by
 unfold ranI
 generalize (callI p fuel R 8 (ms0 sh) f arg none false)=r at *
 obtain⟨m,ro⟩:=r
 subst h
 have hm:m=m8:=hm
 subst hm
 simp only [if_pos h2,setPan,panAt,hi,List.getD_eq_getElem?_getD,Int.toNat_natCast,List.getElem?_eq_getElem hlt,List.getElem?_eq_getElem hcl,Option.getD_some]
theorem ranI_not2 {p:List (List St)} {R:Nat} {f arg fuel sh:Int} {d:Fr} {par':Option Fr} {m8:MS} (h:(callI p fuel R 8 (ms0 sh) f arg none false).2=some (d,par'))(hm:(callI p fuel R 8 (ms0 sh) f arg none false).1=m8)(hcl:0<m8.calls.length)(h2:d.fin≠2) :
  ranI p R f arg fuel sh=(m8,⟨d.fin,(m8.calls[0]'hcl).val,m8.trace,m8.made⟩):=by
 unfold ranI
 generalize (callI p fuel R 8 (ms0 sh) f arg none false)=r at *
 obtain⟨m,ro⟩:=r
 subst h
 have hm:m=m8:=hm
 subst hm
 simp only [if_neg h2,List.getD_eq_getElem?_getD,List.getElem?_eq_getElem hcl,Option.getD_some]
def RanPost(w w':World)(A0:Value)(fuel:Int)(r:MS×OutM)(e:Ending):Prop :=
 ∃ gm v,e= .returned (.tuple #[.pointer (some ⟨gm,0,none⟩),.bool true])∧MachO w' w.heap.size gm A0 fuel r.1 v r.2∧PlOk w' w.heap.size v.pl r.1.places∧Below w.heap.size w w'
theorem ranFrom_yes(A0:Option Addr)(c0:Nat)(p:List (List St))(f arg fuel sh:Int)(R:Nat)(hR:200<R)(w:World)(hC:Kd.C (Kd.slice 219 k219) w A0 p.length p)(hc:p.length≤c0)(h:askI p f arg fuel=true)(hsh:Num sh) :
  Calls Try.prog 220 #[.agg #[.slice A0 p.length c0],.int .i64 f,.int .i64 arg,.int .i64 fuel,.int .i64 sh] w fun e w'=>RanPost w w' (.slice A0 p.length c0) fuel (ranI p R f arg fuel sh) e:=by
 have hu28:=Try.underlying35
 have HC:=am hC
 have hlen:p.length≤9223372036854775807:=hC.2.1
 clear hC
 have e1: ∀ args w,(callFunc 216 args).run Try.prog w= .ok (.enter 216 args) w:=enters_of Try.func216 zq27 rfl
 have e2: ∀ args w,(callFunc 188 args).run Try.prog w= .ok (.enter 188 args) w:=enters_of Try.func188 zq27 rfl
 have e3: ∀ args w,(callFunc 219 args).run Try.prog w= .ok (.enter 219 args) w:=enters_of Try.func219 zq27 rfl
 have e4: ∀ args w,(callFunc 268 args).run Try.prog w= .ok (.enter 268 args) w:=enters_of Try.func268 zq27 rfl
 have h115:=fun W (hb:Below w.heap.size w W)=>impl_IsProgram.calls A0 c0 p (progOk p) W (Kd.C_below HC.out hb) hc rfl
 have h97f:=fun W=>impl_in.calls f 0 ((p.length:Int)-1) _ W (in_eq _ _ _)
 have h130:=fun W=>impl_isNumber.calls arg (decide (-32768≤arg∧arg≤32767)) W (by unfold impl_isNumber.f;rw [in_eq];rfl)
 have h97g:=fun W=>impl_in.calls fuel 0 200 _ W (in_eq _ _ _)
 unfold askI at h
 simp only [Bool.and_eq_true] at h
 obtain⟨b1,b2,b3,b4⟩:=h
 rw [b1] at h115
 rw [b2] at h97f
 rw [b3] at h130
 rw [b4] at h97g
 have hf2:=of_decide_eq_true b2
 have ha2:=of_decide_eq_true b3
 have hu2:=of_decide_eq_true b4
 obtain⟨hpr,hp1⟩:=progAt_of HC.out hc b1
 have H115:=am h115
 have H97F:=am h97f
 have H130:=am h130
 have H97G:=am h97g
 have HPR:=am hpr
 have HRF:=Z (ran_facts (sh:=sh) hpr.ok R hu2.1 zq90 f arg ⟨hf2.1,zq90⟩ ha2 hsh)
 clear h115 h97f h130 h97g b1 b2 b3 b4 hpr
 go_enter Try.func220,Try.ntmps220
 go_upto_region 3 with(first|(refine bx 5 #[.slice A0 p.length c0] 35 (h:= ?_);intro g5 hg5 w1 hbox hb;have B:=am hb;have C:=am hbox;clear hb hbox hg5;have hp5:=cl1 C.out)|(go_at_fn 216;refine(H115.out _ B.out).mono ?_;rintro e w2 ⟨rfl,hb'⟩;replace B:=Z (below_step B.out hb');replace C:=Z (blk_below C.out hb');replace hp5:=cl1 C.out;clear hb')|(go_at_fn 188;(with_reducible refine(H97F.out _).mono ?_);rintro e w3 ⟨rfl,hD⟩;have hb':=drawn_below hD;clear hD;replace B:=Z (below_step B.out hb');replace C:=Z (blk_below C.out hb');replace hp5:=cl1 C.out;clear hb')|(go_at_fn 188;(with_reducible refine(H97G.out _).mono ?_);rintro e w3 ⟨rfl,hD⟩;have hb':=drawn_below hD;clear hD;replace B:=Z (below_step B.out hb');replace C:=Z (blk_below C.out hb');replace hp5:=cl1 C.out;clear hb')|(go_at_fn 219;refine(H130.out _).mono ?_;rintro e w4 ⟨rfl,hD⟩;have hb':=drawn_below hD;clear hD;replace B:=Z (below_step B.out hb');replace C:=Z (blk_below C.out hb');replace hp5:=cl1 C.out;clear hb'))
 go_upto_region 4 with(first|((with_reducible refine gate_dst (N:=39) rfl ?_);refine mapL_ (base:=w.heap.size) B.out.size rfl zq88 ?_;intro gpl w5 hmp hb';have HMP:=am hmp;clear hmp;replace B:=Z (below_step B.out hb');replace C:=Z (blk_below C.out hb');replace hp5:=cl1 C.out;clear hb')|(refine bx 41 (machC (.slice A0 p.length c0) fuel (ms0 sh) ⟨.slice none 0 0,.slice none 0 0,.slice none 0 0,.slice none 0 0,.slice none 0 0,.map (some gpl),[]⟩).toArray 155 (h:= ?_);intro gm hgm w6 hbox hb';have HMB:=am hbox;have HGM:=Z (show w.heap.size≤gm from by rw [hgm];exact B.out.size);replace HMP:=Z (HMP.out.maps (fun k es n h=>blk_below h hb'));clear hbox hgm;replace B:=Z (below_step B.out hb');replace C:=Z (blk_below C.out hb');replace hp5:=cl1 C.out;clear hb'))
 clear hp5
 have HM0:=Z (⟨HMB.out,HGM.out,Rows.zero _ _ _ _⟩:Mach w6 w.heap.size gm (.slice A0 p.length c0) fuel (ms0 sh) ⟨.slice none 0 0,.slice none 0 0,.slice none 0 0,.slice none 0 0,.slice none 0 0,.map (some gpl),[]⟩)
 have HCF:=Z (first.calls w A0 c0 p p.length fuel R HPR.out zq90 zq90 w6 gm sh ⟨.slice none 0 0,.slice none 0 0,.slice none 0 0,.slice none 0 0,.slice none 0 0,.map (some gpl),[]⟩ f arg HM0.out HMP.out B.out hsh ha2 zq90)
 have HB6:=am B.out
 clear HMB B C HM0 HMP
 go_wp2_with (fail)
 refine HCF.out.mono ?_
 clear HCF
 rintro e w8 ⟨v8,hpl,hM,hPl,hK,hcase⟩
 have hb8:w.heap.size≤w8.heap.size:=Nat.le_trans HB6.out.size hK.size
 have HA:=Z (hM.wk hb8 none w.heap.size)
 have HB8:=Z (hK.bel HB6.out)
 have HPL:=Z (show PlOk w8 w.heap.size v8.pl _ from by rw [hpl];exact hPl)
 have HWM:=am HRF.out.1
 clear hM hPl hK hb8 HB6
 obtain⟨tA,tc,htr⟩:=own_slice HA.out.rows.tr
 have HTR:=am htr
 clear htr
 generalize hm8:(callI p fuel R 8 (ms0 sh) f arg none false).1=m8 at *
 rcases hcase with⟨hr,rfl⟩|⟨d,par8,gd,rd,pd,hr,rfl,hgd,hD⟩
 ·
  have HRR:=am hr
  clear hr
  go_upto_region 5 with(fail)
  replace HA:=Z (HA.out.drew)
  refine start_ (n:=13) (S:=fun w'=>w'.cell? ⟨gm,6,none⟩=some (.slice tA m8.trace.length tc)∧w'.cell? ⟨gm,2,none⟩=some (.int .i64 m8.made)∧True) (ds:= [12]) (bb 13 0) zq27 rfl rfl ⟨(blk_cell HA.out.blk 6).trans (show some v8.tr=_ by rw [HTR.out]),(blk_cell HA.out.blk 2).trans rfl,trivial⟩ (fun hHeld=> ?_)
  generalize w8.drew=x31 at HA hHeld ⊢
  refine pure1 0 46 (bb 13 1) (h:= ?_)
  refine pure1 1 47 (bb 13 3) (h:= ?_)
  refine pure1 2 48 (bb 13 7) (h:= ?_)
  refine pure1 3 49 (bb 13 15) (h:= ?_)
  refine take1 4 50 (bb 13 31) (hS:=hHeld) (h:= ?_)
  refine pure1 5 51 (bb 13 63) (h:= ?_)
  refine pure1 6 52 (bb 13 127) (h:= ?_)
  refine pure1 7 53 (bb 13 255) (h:= ?_)
  refine take1 8 54 (bb 13 511) (hS:=hHeld) (h:= ?_)
  refine pure1 9 55 (bb 13 1023) (h:= ?_)
  refine pure1 10 56 (bb 13 2047) (h:= ?_)
  refine pure1 11 57 (bb 13 4095) (h:= ?_)
  refine la 12 none (bb 13 8191) (h:=fun K hK=> ?_)
  have hc_12:=(blk_cell HA.out.blk 12).trans (show _=some (Value.int .i64 0) from rfl)
  have hf_12:=blk_frozen HA.out.blk 12
  have hc_13:=(blk_cell HA.out.blk 13).trans (show _=some (Value.int .i64 0) from rfl)
  have hf_13:=blk_frozen HA.out.blk 13
  have hc_14:=(blk_cell HA.out.blk 14).trans (show _=some (Value.slice none 0 0) from rfl)
  have hf_14:=blk_frozen HA.out.blk 14
  have hc_15:=(blk_cell HA.out.blk 15).trans (show _=some (Value.int .i64 0) from rfl)
  have hf_15:=blk_frozen HA.out.blk 15
  rw [if_pos (by rfl)]
  unfold Oper.wp
  go_simp
  clear hc_12 hf_12 hc_13 hf_13 hc_14 hf_14 hc_15 hf_15
  have hst:=HA.out.setM 12 (.int .i64 4)
  have hev:=hst.2
  replace HA:=Z (hst.1)
  clear hst hev
  generalize x31.setCell ⟨gm,12,none⟩ (.int .i64 4)=x32 at HA ⊢
  have hst:=HA.out.setM 13 (.int .i64 0)
  have hev:=hst.2
  replace HA:=Z (hst.1)
  clear hst hev
  generalize x32.setCell ⟨gm,13,none⟩ (.int .i64 0)=x33 at HA ⊢
  have hst:=HA.out.setM 14 (.slice tA m8.trace.length tc)
  have hev:=hst.2
  replace HA:=Z (hst.1)
  clear hst hev
  generalize x33.setCell ⟨gm,14,none⟩ (.slice tA m8.trace.length tc)=x34 at HA ⊢
  have hst:=HA.out.setM 15 (.int .i64 m8.made)
  have hev:=hst.2
  replace HA:=Z (hst.1)
  clear hst hev
  generalize x34.setCell ⟨gm,15,none⟩ (.int .i64 m8.made)=x35 at HA ⊢
  refine hK.out _ _ ?_
  clear hK K
  refine done_ zq27 ?_
  go_wp2_with (fail)
  go_ret2
  rw [ranI_spent HRR.out,hm8]
  refine⟨gm,v8,rfl,⟨?_,HA.out.low,HA.out.rows⟩,HPL.out.maps HA.out.maps,HA.out.kept.bel HB8.out⟩
  have h:=HA.out.blk
  unfold machC at h
  unfold machO
  rw [HTR.out] at h ⊢
  exact h
 ·
  have HRR:=am hr
  have HD:=am hD
  obtain⟨hdfin,hdpan,hcl⟩:=HRF.out.2 d par8 hr
  have HDF:=am hdfin
  have HDP:=am hdpan
  clear hr hD hdfin hdpan
  obtain⟨gc,cc,hca,hgc,hcc,hcm⟩:=own_form HA.out.rows.ca hcl
  have HCA:=am hca
  clear hca
  unfold maxLen at hcm
  go_upto_region 5 with(fail)
  have hE0_:=Evt.drew w8 292
  replace HA:=Z (HA.out.drew)
  replace HD:=(Evt.drew w8 0).b HD
  clear hE0_
  refine start_ (n:=13) (S:=fun w'=>w'.cell? ⟨gm,6,none⟩=some (.slice tA m8.trace.length tc)∧w'.cell? ⟨gm,2,none⟩=some (.int .i64 m8.made)∧True) (ds:= [12]) (bb 13 0) zq27 rfl rfl ⟨(blk_cell HA.out.blk 6).trans (show some v8.tr=_ by rw [HTR.out]),(blk_cell HA.out.blk 2).trans rfl,trivial⟩ (fun hHeld=> ?_)
  generalize w8.drew=x61 at HA HD hHeld ⊢
  refine pure1 0 46 (bb 13 1) (h:= ?_)
  refine pure1 1 47 (bb 13 3) (h:= ?_)
  refine pure1 2 48 (bb 13 7) (h:= ?_)
  refine pure1 3 49 (bb 13 15) (h:= ?_)
  refine take1 4 50 (bb 13 31) (hS:=hHeld) (h:= ?_)
  refine pure1 5 51 (bb 13 63) (h:= ?_)
  refine pure1 6 52 (bb 13 127) (h:= ?_)
  refine pure1 7 53 (bb 13 255) (h:= ?_)
  refine take1 8 54 (bb 13 511) (hS:=hHeld) (h:= ?_)
  refine pure1 9 55 (bb 13 1023) (h:= ?_)
  refine pure1 10 56 (bb 13 2047) (h:= ?_)
  refine pure1 11 57 (bb 13 4095) (h:= ?_)
  refine la 12 none (bb 13 8191) (h:=fun K hK=> ?_)
  have hc_12:=(blk_cell HA.out.blk 12).trans (show _=some (Value.int .i64 0) from rfl)
  have hf_12:=blk_frozen HA.out.blk 12
  have hc_13:=(blk_cell HA.out.blk 13).trans (show _=some (Value.int .i64 0) from rfl)
  have hf_13:=blk_frozen HA.out.blk 13
  have hc_14:=(blk_cell HA.out.blk 14).trans (show _=some (Value.slice none 0 0) from rfl)
  have hf_14:=blk_frozen HA.out.blk 14
  have hc_15:=(blk_cell HA.out.blk 15).trans (show _=some (Value.int .i64 0) from rfl)
  have hf_15:=blk_frozen HA.out.blk 15
  rw [if_pos (by rfl)]
  unfold Oper.wp
  go_simp
  clear hc_12 hf_12 hc_13 hf_13 hc_14 hf_14 hc_15 hf_15
  have hst:=HA.out.setM 12 (.int .i64 4)
  have hev:=hst.2
  replace HA:=Z (hst.1)
  replace HD:=hev.b HD
  clear hst hev
  generalize x61.setCell ⟨gm,12,none⟩ (.int .i64 4)=x62 at HA HD ⊢
  have hst:=HA.out.setM 13 (.int .i64 0)
  have hev:=hst.2
  replace HA:=Z (hst.1)
  replace HD:=hev.b HD
  clear hst hev
  generalize x62.setCell ⟨gm,13,none⟩ (.int .i64 0)=x63 at HA HD ⊢
  have hst:=HA.out.setM 14 (.slice tA m8.trace.length tc)
  have hev:=hst.2
  replace HA:=Z (hst.1)
  replace HD:=hev.b HD
  clear hst hev
  generalize x63.setCell ⟨gm,14,none⟩ (.slice tA m8.trace.length tc)=x64 at HA HD ⊢
  have hst:=HA.out.setM 15 (.int .i64 m8.made)
  have hev:=hst.2
  replace HA:=Z (hst.1)
  replace HD:=hev.b HD
  clear hst hev
  generalize x64.setCell ⟨gm,15,none⟩ (.int .i64 m8.made)=x65 at HA HD ⊢
  refine hK.out _ _ ?_
  clear hK K
  refine done_ zq27 ?_
  go_upto_region 7 with(fail)
  have hE0_:=Evt.drew x65 292
  replace HA:=Z (HA.out.drew)
  replace HD:=(Evt.drew x65 0).b HD
  clear hE0_
  refine start_ (n:=22) (S:=fun w'=>w'.cell? ⟨gd,11,none⟩=some (.int .i64 d.fin)∧w'.cell? ⟨gm,8,none⟩=some (.slice (some ⟨gc,0,none⟩) m8.calls.length cc)∧w'.cell? ⟨gc,4,none⟩=some (.int .i64 (m8.calls[0]'hcl).val)∧True) (ds:= [17,21]) (bb 22 0) zq27 rfl rfl ⟨(blk_cell HD.out 11).trans rfl,(blk_cell HA.out.blk 8).trans (show some v8.ca=_ by rw [HCA.out]),(show _ from(HA.out.callCell HCA.out 0 4 hcl zq83).1).trans rfl,trivial⟩ (fun hHeld=> ?_)
  generalize x65.drew=x66 at HA HD hHeld ⊢
  refine pure1 0 60 (bb 22 1) (h:= ?_)
  refine pure1 1 61 (bb 22 3) (h:= ?_)
  refine pure1 2 62 (bb 22 7) (h:= ?_)
  refine pure1 3 63 (bb 22 15) (h:= ?_)
  refine pure1 4 64 (bb 22 31) (h:= ?_)
  refine take1 5 65 (bb 22 63) (hS:=hHeld) (h:= ?_)
  refine pure1 6 66 (bb 22 127) (h:= ?_)
  refine pure1 7 67 (bb 22 255) (h:= ?_)
  refine pure1 8 68 (bb 22 511) (h:= ?_)
  refine take1 9 69 (bb 22 1023) (hS:=hHeld) (h:= ?_)
  refine pure1 10 70 (bb 22 2047) (h:= ?_)
  refine pure1 11 71 (bb 22 4095) (h:= ?_)
  refine pure1 12 72 (bb 22 8191) (h:= ?_)
  refine take1 13 73 (bb 22 16383) (hS:=hHeld) (h:= ?_)
  refine pure1 14 74 (bb 22 32767) (h:= ?_)
  refine pure1 15 75 (bb 22 65535) (h:= ?_)
  refine pure1 16 76 (bb 22 131071) (h:= ?_)
  refine la 17 none (bb 22 262143) (h:=fun K hK=> ?_)
  have hc_12:=(blk_cell HA.out.blk 12).trans (show _=some (Value.int .i64 4) from rfl)
  have hf_12:=blk_frozen HA.out.blk 12
  rw [if_pos (by rfl)]
  unfold Oper.wp
  go_simp
  clear hc_12 hf_12
  have hst:=HA.out.setM 12 (.int .i64 d.fin)
  have hev:=hst.2
  replace HA:=Z (hst.1)
  replace HD:=hev.b HD
  clear hst hev
  generalize x66.setCell ⟨gm,12,none⟩ (.int .i64 d.fin)=x67 at HA HD ⊢
  refine hK.out _ _ ?_
  clear hK K
  refine pure1 18 77 (bb 22 524287) (h:= ?_)
  refine pure1 19 78 (bb 22 1048575) (h:= ?_)
  refine pure1 20 79 (bb 22 2097151) (h:= ?_)
  refine la 21 none (bb 22 4194303) (h:=fun K hK=> ?_)
  have hc_13:=(blk_cell HA.out.blk 13).trans (show _=some (Value.int .i64 0) from rfl)
  have hf_13:=blk_frozen HA.out.blk 13
  rw [if_pos (by rfl)]
  unfold Oper.wp
  go_simp
  clear hc_13 hf_13
  have hst:=HA.out.setM 13 (.int .i64 (m8.calls[0]'hcl).val)
  have hev:=hst.2
  replace HA:=Z (hst.1)
  replace HD:=hev.b HD
  clear hst hev
  generalize x67.setCell ⟨gm,13,none⟩ (.int .i64 (m8.calls[0]'hcl).val)=x68 at HA HD ⊢
  refine hK.out _ _ ?_
  clear hK K
  refine done_ zq27 ?_
  have hc11:x68.cell? ⟨gd,11,none⟩=some (.int .i64 d.fin):=(blk_cell HD.out 11).trans rfl
  by_cases hd2:d.fin=2
  rotate_left
  ·have hdb:(d.fin==2)=false:=by simpa using hd2
   have HD2:=am hd2
   clear hd2
   go_wp2_with (fail)
   go_ret2
   rw [ranI_not2 HRR.out hm8 hcl HD2.out]
   refine⟨gm,v8,rfl,⟨?_,HA.out.low,HA.out.rows⟩,HPL.out.maps HA.out.maps,HA.out.kept.bel HB8.out⟩
   have h:=HA.out.blk
   unfold machC at h
   unfold machO
   rw [HTR.out] at h ⊢
   exact h
  have hdb:(d.fin==2)=true:=by simpa using hd2
  have hval:=HDP.out hd2
  obtain⟨i,hi⟩:=nat_of hval.1
  have hlt:i<m8.panics.length:=by have h:=hval.2;omega
  obtain⟨gp,cp,hpa,hgp,hcp,hcpm⟩:=own_form HA.out.rows.pa zq90
  have HPA:=am hpa
  have HPI:=am hi
  have HD2:=am hd2
  unfold maxLen at hcpm
  clear hpa hi hval hd2
  go_upto_region 9 with(fail)
  clear hc11 hdb
  have hE0_:=Evt.drew x68 292
  replace HA:=Z (HA.out.drew)
  replace HD:=(Evt.drew x68 0).b HD
  clear hE0_
  refine start_ (n:=11) (S:=fun w'=>w'.cell? ⟨gm,9,none⟩=some (.slice (some ⟨gp,0,none⟩) m8.panics.length cp)∧w'.cell? ⟨gd,12,none⟩=some (.int .i64 (i:Int))∧True) (ds:= [10]) (bb 11 0) zq27 rfl rfl ⟨(blk_cell HA.out.blk 9).trans (show some v8.pa=_ by rw [HPA.out]),(blk_cell HD.out 12).trans (by rw [← HPI.out];rfl),trivial⟩ (fun hHeld=> ?_)
  generalize x68.drew=x69 at HA HD hHeld ⊢
  refine pure1 0 85 (bb 11 1) (h:= ?_)
  refine pure1 1 86 (bb 11 3) (h:= ?_)
  refine pure1 2 87 (bb 11 7) (h:= ?_)
  refine take1 3 88 (bb 11 15) (hS:=hHeld) (h:= ?_)
  refine pure1 4 89 (bb 11 31) (h:= ?_)
  refine pure1 5 90 (bb 11 63) (h:= ?_)
  refine pure1 6 91 (bb 11 127) (h:= ?_)
  refine take1 7 92 (bb 11 255) (hS:=hHeld) (h:= ?_)
  refine pure1 8 93 (bb 11 511) (h:= ?_)
  refine pure1 9 94 (bb 11 1023) (h:= ?_)
  refine la 10 none (bb 11 2047) (h:=fun K hK=> ?_)
  have hc_:=(HA.out.panCell HPA.out i 4 hlt zq83).1.trans (show _=some (Value.int .i64 m8.panics[i].fate) from rfl)
  have hf_:=(HA.out.panCell HPA.out i 4 hlt zq83).2
  rw [if_pos (by rfl)]
  unfold Oper.wp
  go_simp
  clear hc_ hf_
  have hev:=(HA.out.setPanic HPA.out i 4 hlt zq83 (.int .i64 3) { m8.panics[i] with fate:=3 } (fun _=>rfl) rfl).2
  replace HA:=Z ((HA.out.setPanic HPA.out i 4 hlt zq83 (.int .i64 3) { m8.panics[i] with fate:=3 } (fun _=>rfl) rfl).1)
  replace HD:=hev.b HD
  generalize x69.setCell ⟨gp,i*9+4,none⟩ (.int .i64 3)=x70 at HA HD ⊢
  clear hev
  refine hK.out _ _ ?_
  clear hK K
  refine done_ zq27 ?_
  go_wp2_with (fail)
  go_ret2
  rw [ranI_two HRR.out hm8 hcl HD2.out HPI.out hlt]
  refine⟨gm,v8,rfl,⟨?_,HA.out.low,HA.out.rows⟩,HPL.out.maps HA.out.maps,HA.out.kept.bel HB8.out⟩
  have h:=HA.out.blk
  unfold machC at h
  unfold machO
  rw [HTR.out] at h ⊢
  exact h
end Go.Proofs.Yteiafboknimgbaa.Pr.M
end

section
namespace Go.Proofs.Yteiafboknimgbaa.Pr
open Go.RowKit Go.Proofs.W.PrintWords Go.Proofs.W.PrintLast Go.Proofs.W.PrintMore
section
variable {α:Type} {enc:α→List Value} {n:Nat}
theorem flat_len(hl: ∀ x,(enc x).length=n)(l:List α):(l.flatMap enc).length=l.length*n:=by
 induction l with
 |nil=>simp
 |cons x l ih=>rw [List.flatMap_cons,List.length_append,hl,ih,List.length_cons,Nat.add_mul,Nat.one_mul,Nat.add_comm]
theorem flat_at(hl: ∀ x,(enc x).length=n)(l:List α): ∀ (j:Nat)(p:α),l[j]? =some p→((l.flatMap enc).drop (j*n)).take n=enc p:=by
 induction l with
 |nil=>intro j p h;simp at h
 |cons x l ih =>
  intro j p h
  rw [List.flatMap_cons]
  cases j with
  |zero =>
   rw [List.getElem?_cons_zero] at h
   injection h with h
   subst h
   rw [Nat.zero_mul,List.drop_zero,List.take_left' (hl x)]
  |succ j =>
   rw [List.getElem?_cons_succ] at h
   rw [Nat.add_mul,Nat.one_mul,Nat.add_comm,←List.drop_drop,List.drop_left' (hl x)]
   exact ih j p h
theorem reps_of {d:α→List Value→Prop} (hl: ∀ x,(enc x).length=n)(hm: ∀ x,d x (enc x))(l:List α):Reps d n l (l.flatMap enc) :=
 ⟨flat_len hl l,fun j p hj=>by rw [flat_at hl l j p hj];exact hm p⟩
theorem R_of {d:Kd α} {e base:Nat} {w:World} {v:Value} {ok:Nat→Prop} (hz:d.sz=n)(hl: ∀ x,(enc x).length=n)(hm: ∀ (ok:Nat→Prop) x,d.M w base ok x (enc x))(l:List α)(hk: ∀ k,v.ownBlock=some k→ok k)(h:w.ownsRow base e n v l.length (l.flatMap enc)):d.R e w base ok v l:=by
 subst hz
 exact⟨hk,_,h,reps_of hl (hm _) l⟩
end
def toEv(x:M.Ev):S63:=⟨x.f0,x.f1,x.f2⟩
def encE(x:S63):List Value:= [.int .i64 x.f0,.int .i64 x.f1,.int .i64 x.f2]
theorem encE_flat(l:List M.Ev):(l.map toEv).flatMap encE=l.flatMap M.evC:=by
 induction l with
 |nil=>rfl
 |cons x l ih=>rw [List.map_cons,List.flatMap_cons,List.flatMap_cons,ih];rfl
theorem R_events {w:World} {base:Nat} {v:Value} {l:List M.Ev} (h:w.ownsRow base 63 3 v l.length (l.flatMap M.evC)):Kd.R k63 63 w base (fun _=>True) v (l.map toEv) :=
 R_of (enc:=encE) (n:=3) rfl (fun _=>rfl) (fun ok x=>k63_mkM w base ok x) _ (fun _ _=>trivial) (by rw [List.length_map,encE_flat];exact h)
end Go.Proofs.Yteiafboknimgbaa.Pr
end
