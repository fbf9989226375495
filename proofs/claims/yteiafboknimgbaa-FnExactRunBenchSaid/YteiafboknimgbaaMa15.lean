import Derived.Test.YteiafboknimgbaaMa14
set_option maxHeartbeats 8000000
set_option maxRecDepth 100000
set_option linter.unusedVariables false
set_option linter.unusedSimpArgs false
section
namespace Go.Proofs.Yteiafboknimgbaa.Pr.M
open Go.RowKit Go.Proofs.W.PrintWords Go.Proofs.W.PrintLast Go.Proofs.W.PrintMore
theorem allocL_ {P:Program} {ops:Array Oper} {rest:List Oper} {o:Oper} {a:Act} {Q:Exit→Act→World→Prop} {W:World} (hgd:o.guard=none){cs:Array Value} {e n:Nat}
  (hrun:(execOp a.eval o).run P W= .ok (.value (.slice (some ⟨W.heap.size,0,none⟩) n n)) (W.alloc (.cells cs e (0,0))))
  (h: ∀ g,g=W.heap.size→ ∀ w1,w1.heap[g]? =some (.cells cs e (0,0))→Below W.heap.size W w1→wpList P ops Q rest (a.put o.dst (.slice (some ⟨g,0,none⟩) n n)) w1):wpList P ops Q (o::rest) a W :=
 Kd.event_run hgd hrun (h _ rfl _ (blk_new W _) (below_alloc (Below.refl _ _) _))
theorem PaOk.mk0 {w:World} {base:Nat} {par:Option Fr} {pv rp pp:Value} (h:match par with
   |none=>pv= .pointer none
   |some pf=> ∃ gp,pv= .pointer (some ⟨gp,0,none⟩)∧w.heap[gp]? =some (.cells (frC pf rp pp).toArray 292 (0,0))∧base≤gp):PaOk w base w.heap.size par pv rp pp:=by
 cases par with
 |none=>exact h
 |some pf =>
  obtain⟨gp,h1,h2,h3⟩:=h
  exact⟨gp,h1,h2,fun e=>by have:=blk_lt h2;omega,h3⟩
theorem finishI_places(m:MS)(f:Fr):(finishI m f).places=m.places:=by
 unfold finishI tell
 dsimp only
 split<;>rfl
theorem behindI_places(m:MS)(f d:Fr):(behindI m f d).1.places=m.places:=by
 unfold behindI
 dsimp only
 split
 ·split<;>exact rfl
 split
 ·split<;>exact rfl
 split<;>exact rfl
section
variable {rec:MS→Int→Int→Option Fr→Bool→ResI} {l:List (Int×Int)} {m:MS} {f:Fr} {par:Option Fr} {g a:Int}
theorem runsI_cons0(h:(rec m g a (some { f with runs:=l.reverse }) true).2=none):runsI rec ((g,a)::l) m f par=((rec m g a (some { f with runs:=l.reverse }) true).1,none):=by
 rw [runsI]
 generalize rec m g a (some { f with runs:=l.reverse }) true=r at *
 obtain⟨m1,ro⟩:=r
 subst h
 rfl
theorem runsI_cons1 {d f1:Fr} (h:(rec m g a (some { f with runs:=l.reverse }) true).2=some (d,some f1)):runsI rec ((g,a)::l) m f par=runsI rec l (behindI (rec m g a (some { f with runs:=l.reverse }) true).1 f1 d).1 (behindI (rec m g a (some { f with runs:=l.reverse }) true).1 f1 d).2 par:=by
 rw [runsI]
 generalize rec m g a (some { f with runs:=l.reverse }) true=r at *
 obtain⟨m1,ro⟩:=r
 subst h
 rfl
end
theorem prC_len(x:Int×Int):(prC x).length=2:=rfl
theorem row_last {W:World} {base gr rc:Nat} {T:TypeId} {l:List (Int×Int)} {x:Int×Int} (h:W.ownsRow base T 2 (.slice (some ⟨gr,0,none⟩) (l.length+1) rc) (l.length+1) ((l.reverse++ [x]).flatMap prC))(j:Nat)(hj:j<2):W.cell? ⟨gr,l.length*2+j,none⟩=(prC x)[j]? :=by
 have h1:=(own_cell h (l.length*2+j) zq90).1
 have h2:=flat_at prC 2 prC_len (l.reverse++ [x]) l.length j (by simp) hj
 rw [h1,h2]
 congr 2
 rw [List.getElem_append_right (by simp)]
 simp
theorem row_cut {W:World} {base gr rc:Nat} {T:TypeId} {l:List (Int×Int)} {x:Int×Int} (h:W.ownsRow base T 2 (.slice (some ⟨gr,0,none⟩) (l.length+1) rc) (l.length+1) ((l.reverse++ [x]).flatMap prC)):W.ownsRow base T 2 (.slice (some ⟨gr,0,none⟩) l.length rc) l.length (l.reverse.flatMap prC):=by
 have hl:(l.reverse.flatMap prC).length=l.length*2:=by rw [flat_len prC 2 prC_len,List.length_reverse]
 refine⟨hl,?_⟩
 rcases h.2 with⟨he,_⟩|⟨g',cap',cur,he,hb,hh,h1,h2,h3,h4⟩
 ·cases he
 ·simp only [Value.slice.injEq,Option.some.injEq,Addr.mk.injEq,and_true] at he
  obtain⟨rfl,-,rfl⟩:=he
  refine .inr ⟨gr,rc,cur,rfl,hb,hh,zq90,h2,h3,?_⟩
  have h5:(cur.toList.take ((l.length+1)*2)).take (l.length*2)=((l.reverse++ [x]).flatMap prC).take (l.length*2):=by rw [h4]
  rw [List.take_take,Nat.min_eq_left zq90] at h5
  rw [h5,List.flatMap_append,List.take_append_of_le_length zq90,List.take_of_length_le zq90]
theorem own_nil(W:World)(base e s:Nat):W.ownsRow base e s (.slice none 0 0) 0 []:=⟨by simp,.inl ⟨rfl,rfl⟩⟩
structure CJ(N fuel:Int)(R dd:Nat)(p:List (List St))(RES:ResI)(l:List (Int×Int))(m1:MS)(f1:Fr)(par1:Option Fr):Prop where
 wf:WF N m1 f1 par1
 runs:f1.runs=l.reverse
 made:m1.made≤fuel
 depth:m1.depth+dd=8
 room:(m1.trace.length:Int)+2*(l.length:Nat)+3*(fuel-m1.made)+1≤100000
 pls:(m1.places.length:Int)=m1.made
 res:runsI (callI p fuel R dd) l m1 f1 par1=RES
section
variable {p:List (List St)} {fuel:Int} {R d:Nat} {m m1 m2:MS} {fn arg:Int} {par par1 par2:Option Fr} {dfr:Bool} {f1 f2:Fr}
theorem callI_spent(h:(bodyI (callI p fuel R d) p fuel R (beginI m fn arg par dfr) (frameI m fn arg dfr) par 0)=(m1,none)):callI p fuel R (d+1) m fn arg par dfr=(m1,none):=by rw [callI,h]
theorem callI_spent2(h:(bodyI (callI p fuel R d) p fuel R (beginI m fn arg par dfr) (frameI m fn arg dfr) par 0)=(m1,some (f1,par1)))(h2:runsI (callI p fuel R d) f1.runs.reverse m1 f1 par1=(m2,none)):callI p fuel R (d+1) m fn arg par dfr=(m2,none):=by rw [callI,h];dsimp only;rw [h2]
theorem callI_done(h:(bodyI (callI p fuel R d) p fuel R (beginI m fn arg par dfr) (frameI m fn arg dfr) par 0)=(m1,some (f1,par1)))(h2:runsI (callI p fuel R d) f1.runs.reverse m1 f1 par1=(m2,some (f2,par2))):callI p fuel R (d+1) m fn arg par dfr=({ finishI m2 f2 with depth:=m2.depth-1 },some (f2,par2)):=by rw [callI,h];dsimp only;rw [h2]
end
theorem call_zero(W0:World)(A0:Option Addr)(c0:Nat)(p:List (List St))(N fuel:Int)(R:Nat):CallC W0 A0 c0 p N fuel R 0:=by
 intro w gm m v fn arg par pv rp pp dfr H hPl hbel hPa hsm hle hna hfn hdp hdep hroom hpls
 have HM:=am H
 have HPL:=am hPl
 have hd8:m.depth=8:=by simpa using hdep
 have hc4:w.cell? ⟨gm,4,none⟩=some (.int .i64 8):=(blk_cell H.blk 4).trans (by rw [← hd8];rfl)
 have hpn: ∀ w:World,(Instr.panic (.iface 313 (.agg #[]))).run Try.prog w= .halt (.panic (.iface 313 (.agg #[]))) w:=fun _=>rfl
 clear H hPl hbel hPa hsm hdp hdep hroom hpls hd8
 go_enter Try.func292,Try.ntmps292
 go_wp2_with (fail)
 refine⟨rfl,.inl ⟨rfl,rfl,v,rfl,HM.out,HPL.out,KeptB.refl _ _ _ _⟩⟩
theorem call_nf(W0:World)(A0:Option Addr)(c0:Nat)(p:List (List St))(N fuel:Int)(R dd:Nat)(hIH:CallC W0 A0 c0 p N fuel R dd)(hPr:ProgAt W0 A0 c0 p N)(hf0:0≤fuel∧fuel≤1000)(hfR:fuel<R)(hd8:dd+1≤8)(w:World)(gm:Nat)(m:MS)(v:MV)(fn arg:Int)(rp pp:Value)
  (H:Mach w W0.heap.size gm (.slice A0 p.length c0) fuel m v) (hPl:PlOk w W0.heap.size v.pl m.places) (hbel:Below W0.heap.size W0 w) (hPA:PaOk w W0.heap.size w.heap.size none (.pointer none) rp pp) (hwf:WF N (beginI m fn arg none false) (frameI m fn arg false) none) (hle:m.made≤fuel) (hdep:m.depth+(dd+1:Nat)=8) (hroom:(m.trace.length:Int)+3*(fuel-m.made)+2≤100000) (hpls:(m.places.length:Int)=m.made) :
  Calls Try.prog 292 #[.pointer (some ⟨gm,0,none⟩),.int .i64 fn,.int .i64 arg,(.pointer none),.bool false] w fun e w'=>CallPost w w' W0.heap.size gm (.slice A0 p.length c0) fuel v (.pointer none) rp pp (callI p fuel R (dd+1) m fn arg none false) e:=by
 have hb:W0.heap.size≤w.heap.size:=hbel.size
 have HA:=Z (H.wk hb (parG (.pointer none)) w.heap.size)
 clear H
 have HPO:=am hPA
 have HPL:=am hPl
 have HBEL:=am hbel
 have HIH:=am hIH
 have HPR:=am hPr
 have HWF:=am hwf
 have HDEP:=am hdep
 have HPLS:=am hpls
 have hdlo:0≤m.depth:=by omega
 have hdhi:m.depth≤7:=by omega
 have hd8n:(m.depth==8)=false:=by simpa using (show m.depth≠8 by omega)
 clear hPA hPl hbel hIH hPr hwf hdep hpls
 obtain⟨cA,cc,hca⟩:=own_slice HA.out.rows.ca
 have HCA:=am hca
 clear hca
 have e170: ∀ args w,(callFunc 302 args).run Try.prog w= .ok (.enter 302 args) w:=enters_of Try.func302 zq27 rfl
 have e171: ∀ args w,(callFunc 303 args).run Try.prog w= .ok (.enter 303 args) w:=enters_of Try.func303 zq27 rfl
 have e165: ∀ args w,(callFunc 292 args).run Try.prog w= .ok (.enter 292 args) w:=enters_of Try.func292 zq27 rfl
 have e172: ∀ args w,(callFunc 304 args).run Try.prog w= .ok (.enter 304 args) w:=enters_of Try.func304 zq27 rfl
 have e173: ∀ args w,(callFunc 305 args).run Try.prog w= .ok (.enter 305 args) w:=enters_of Try.func305 zq27 rfl
 have hc4:w.cell? ⟨gm,4,none⟩=some (.int .i64 m.depth):=(blk_cell HA.out.blk 4).trans rfl
 have hc8:w.cell? ⟨gm,8,none⟩=some (.slice cA m.calls.length cc):=(blk_cell HA.out.blk 8).trans zq122
 go_enter Try.func292,Try.ntmps292
 go_upto_region 6 with(first|(refine bx 31 (frC { (frameI m fn arg false) with r0:=0 } (.slice none 0 0) (.pointer none)).toArray 292 (h:= ?_);intro gf hgf w1 hbox hbel;have hE_:=Evt.below hbel 0;replace HA:=Z (HA.out.below hbel);have HF:=am hbox;replace HPO:=Z (show PaOk w1 W0.heap.size gf none (.pointer none) rp pp from by rw [hgf];exact HPO.out.ev hE_ (fun h=>absurd h zq83));have HGF:=am hgf;clear hbel hbox hgf hE_;have hk2:w1.cell? ⟨gf,2,none⟩=some (.int .i64 0):=(blk_cell HF.out 2).trans rfl;have hz2:=blk_frozen HF.out 2))
 clear hk2 hz2 hc4 hc8
 have hBf:w.heap.size≤gf:=Nat.le_of_eq HGF.out.symm
 have hbf:W0.heap.size≤gf:=Nat.le_trans hb hBf
 have hev:=Evt.set HF.out 2 (.int .i64 arg)
 replace HA:=Z (HA.out.other hev zq83 (fun q hq=>zq85))
 replace HF:=Z ((blk_set HF.out 2 (.int .i64 arg)).trans (show _=some (Obj.cells (frC (frameI m fn arg false) (.slice none 0 0) (.pointer none)).toArray 292 (0,0)) from rfl))
 replace HPO:=Z (HPO.out.ev hev)
 clear hev
 generalize w1.setCell ⟨gf,2,none⟩ (.int .i64 arg)=x1 at HA HF HPO ⊢
 go_upto_region 10 with(fail)
 have hbr:=HWF.out.wm.room (show(beginI m fn arg none false).trace.length≤100000 from by show(m.trace++ [_]).length≤_;rw [len1];omega)
 have hcl:m.calls.length≤100000:=by have h:(m.calls++ [_]).length≤100000:=hbr.2.1;rw [len1] at h;omega
 have hol:m.owners.length≤100000:=by have h:(m.owners++ [_]).length≤100000:=hbr.1;rw [len1] at h;omega
 have htl:m.trace.length≤100000:=by omega
 clear hbr
 have hc8:x1.cell? ⟨gm,8,none⟩=some (.slice cA m.calls.length cc):=(blk_cell HA.out.blk 8).trans zq122
 go_upto_region 11 with(first|((with_reducible refine gate_dst (N:=55) rfl ?_);refine allocL_ (cs:=(ciC (⟨fn,-1,false,4,0,arg⟩:CI)).toArray) (e:=184) (n:=1) rfl ?run ?_;(case run=>first|(go_simp;done)|(go_simp;rfl));intro gA hgA w3 hnew hbel;have hE_:=Evt.below hbel 0;replace HA:=Z (HA.out.below hbel);replace HF:=hE_.b HF;replace HPO:=Z (HPO.out.ev hE_);have GgA:=am hnew;clear hbel hnew hgA hE_ hc8)|((with_reducible refine gate_dst (N:=56) rfl ?_);have hca2:=HCA.out;obtain⟨t,w4,hE,hA',hev⟩:=HA.out.appCa gA 1 (⟨fn,-1,false,4,0,arg⟩:CI) GgA.out hcl;rw [hca2] at hE;refine Kd.event_run rfl (appRun_ _ _ _ rfl rfl rfl rfl hE) ?_;clear hE hca2 GgA;have n1_:=am hA';replace HF:=hev.b HF;replace HPO:=Z (HPO.out.ev hev);clear HA;have HA:=n1_;clear n1_ hA' hev;obtain⟨tA,tc,ht⟩:=own_slice HA.out.rows.ca;have ht':t= .slice tA (m.calls.length+1) tc:=by { have h':=ht;rw [len1] at h';exact h' };clear ht;subst ht';have hm8:w4.cell? ⟨gm,8,none⟩=some v.ca:=(blk_cell HA.out.blk 8).trans rfl;have hz8:=blk_frozen HA.out.blk 8))
 clear hm8 hz8
 have hst:=HA.out.setM 8 (.slice tA (m.calls.length+1) tc)
 have hev:=hst.2
 replace HA:=Z (hst.1)
 replace HF:=hev.b HF
 replace HPO:=Z (HPO.out.ev hev)
 clear hst hev
 generalize w4.setCell ⟨gm,8,none⟩ (.slice tA (m.calls.length+1) tc)=x2 at HA HF HPO ⊢
 have hid:x2.cell? ⟨gf,0,none⟩=some (.int .i64 (m.calls.length:Int)):=(blk_cell HF.out 0).trans rfl
 go_upto_region 13 with(first|(go_at_fn 302;refine(tell.calls _ W0.heap.size gm (.slice A0 p.length c0) fuel { m with calls:=m.calls++ [(⟨fn,-1,false,4,0,arg⟩:CI)] } { v with ca:= .slice tA (m.calls.length+1) tc } 1 fn arg (m.calls.length:Int) (HA.out.mach (fuel:=fuel) (m:= { m with calls:=m.calls++ [(⟨fn,-1,false,4,0,arg⟩:CI)] }) (v:= { v with ca:= .slice tA (m.calls.length+1) tc })) HA.out.sz htl hol).mono ?_;rintro e w5 ⟨rfl,t5,q5,hM,hK2⟩;replace HF:=Z (KeptM.blk hK2 HF.out zq83 zq87);replace HPO:=Z (HPO.out.kept hK2 (.inl rfl));have n1_:=Z (HA.out.call hK2 hM (fun g e=>zq121) HA.out.kept.size);clear HA hM hK2 hid;have HA:=n1_;clear n1_;have hm4:w5.cell? ⟨gm,4,none⟩=some (.int .i64 m.depth):=(blk_cell HA.out.blk 4).trans rfl;have hz4:=blk_frozen HA.out.blk 4))
 clear hm4 hz4
 have hst:=HA.out.setM 4 (.int .i64 (m.depth+1))
 have hev:=hst.2
 replace HA:=Z (hst.1)
 replace HF:=hev.b HF
 replace HPO:=Z (HPO.out.ev hev)
 clear hst hev
 generalize w5.setCell ⟨gm,4,none⟩ (.int .i64 (m.depth+1))=x3 at HA HF HPO ⊢
 have hE0_:=Evt.drew x3 292
 replace HA:=Z (HA.out.drew)
 replace HF:=(Evt.drew x3 0).b HF
 replace HPO:=Z (HPO.out.ev (Evt.drew x3 0))
 clear hE0_
 refine start_ (n:=13) (S:=fun w'=>w'.cell? ⟨gm,5,none⟩=some (.int .i64 m.deepest)∧w'.cell? ⟨gm,4,none⟩=some (.int .i64 (m.depth+1))∧True) (ds:= [12]) (bb 13 0) zq27 rfl rfl ⟨(blk_cell HA.out.blk 5).trans rfl,(blk_cell HA.out.blk 4).trans rfl,trivial⟩ (fun hHeld=> ?_)
 generalize x3.drew=x4 at HA HF HPO hHeld ⊢
 refine pure1 0 75 (bb 13 1) (h:= ?_)
 refine pure1 1 76 (bb 13 3) (h:= ?_)
 refine pure1 2 77 (bb 13 7) (h:= ?_)
 refine pure1 3 78 (bb 13 15) (h:= ?_)
 refine take1 4 79 (bb 13 31) (hS:=hHeld) (h:= ?_)
 refine pure1 5 80 (bb 13 63) (h:= ?_)
 refine pure1 6 81 (bb 13 127) (h:= ?_)
 refine pure1 7 82 (bb 13 255) (h:= ?_)
 refine take1 8 83 (bb 13 511) (hS:=hHeld) (h:= ?_)
 refine pure1 9 84 (bb 13 1023) (h:= ?_)
 refine pure1 10 85 (bb 13 2047) (h:= ?_)
 refine pure1 11 86 (bb 13 4095) (h:= ?_)
 refine la 12 none (bb 13 8191) (h:=fun K hK=> ?_)
 have hc_:=(blk_cell HA.out.blk 5).trans (show _=some (Value.int .i64 m.deepest) from rfl)
 have hf_:=blk_frozen HA.out.blk 5
 rw [if_pos (by rfl)]
 unfold Oper.wp
 go_simp
 clear hc_ hf_
 have hev:=(HA.out.setM 5 (.int .i64 (if m.deepest<m.depth+1 then m.depth+1 else m.deepest))).2
 replace HA:=Z ((HA.out.setM 5 (.int .i64 (if m.deepest<m.depth+1 then m.depth+1 else m.deepest))).1)
 replace HF:=hev.b HF
 replace HPO:=Z (HPO.out.ev hev)
 generalize x4.setCell ⟨gm,5,none⟩ (.int .i64 (if m.deepest<m.depth+1 then m.depth+1 else m.deepest))=x5 at HA HF HPO ⊢
 clear hev
 refine hK.out _ _ ?_
 clear hK K
 refine done_ zq27 ?_
 have HMB:=Z (⟨HA.out.blk,HA.out.low,⟨HA.out.rows.tr,HA.out.rows.ow,HA.out.rows.ca,HA.out.rows.pa,HA.out.rows.re,HA.out.rows.ul,HA.out.rows.un,HA.out.rows.so,HA.out.rows.su⟩⟩:Mach x5 W0.heap.size gm (.slice A0 p.length c0) fuel (beginI m fn arg none false) { v with ca:= .slice tA (m.calls.length+1) tc,tr:=t5,ow:=q5 })
 have HK0:=am HA.out.kept
 have HB0:=Z (HA.out.kept.bel HBEL.out)
 have HP0:=Z (show PlOk x5 W0.heap.size v.pl (beginI m fn arg none false).places from HPL.out.maps HA.out.maps)
 have hdep2:(beginI m fn arg none false).depth+dd=8:=by have h:=HDEP.out;show m.depth+1+(dd:Int)=8;omega
 have HD2:=am hdep2
 have hrm2:((beginI m fn arg none false).trace.length:Int)+2*((frameI m fn arg false).runs.length:Nat)+3*(fuel-(beginI m fn arg none false).made)+1≤100000:=by show(((m.trace++ [_]).length:Nat):Int)+2*((0:Nat):Int)+3*(fuel-m.made)+1≤100000;rw [len1];omega
 have HCE:=Z (call_eq HPR.out.ok R hfR dd)
 have hmp0:0≤m.made:=by have h:=HPLS.out;omega
 have HC:=Z (body.calls W0 A0 c0 p N fuel R dd HIH.out HPR.out HCE.out x5 w.heap.size gm gf (beginI m fn arg none false) { v with ca:= .slice tA (m.calls.length+1) tc,tr:=t5,ow:=q5 } (frameI m fn arg false) none (.slice none 0 0) (.pointer none) rp pp ⟨HMB.out,⟨HF.out,own_nil _ _ _ _,hbf,hBf,fun q hq=>by simp [Value.ownBlock] at hq⟩,HPO.out,HP0.out,rfl,KeptB.refl _ _ _ _⟩ HB0.out HK0.out.size HWF.out rfl hf0 hfR hle HD2.out hrm2 HPLS.out)
 have HWB:=Z (WF.body (n:=R) (at_:=0) HPR.out.ok HCE.out HWF.out (show(beginI m fn arg none false).made≤fuel from hle) (show(fuel-m.made).toNat<R by omega) rfl)
 have HRB:=Z (body_room (p:=p) (fuel:=fuel) (call_room (p:=p) (fuel:=fuel) R dd) R (beginI m fn arg none false) (frameI m fn arg false) none 0).1
 have HPB:=Z (body_pl (p:=p) (fuel:=fuel) (call_pl (p:=p) (fuel:=fuel) R dd) R (beginI m fn arg none false) (frameI m fn arg false) none 0)
 have HRM2:=am hrm2
 clear HA HF HPO HP0 hdep2 hrm2
 generalize (if m.deepest<m.depth+1 then m.depth+1 else m.deepest)=dX
 go_wp2_with (fail)
 refine HC.out.mono ?_
 clear HC
 rintro e w6 hpost
 rcases hpost with⟨hr,rfl,v6,hpl,hM,hPl,hK⟩|⟨f6,par6,rv6,v6,hr,rfl,hpl,hM,hFr,hPa,hPl,hK⟩
 ·refine⟨rfl,?_⟩
  rw [callI_spent (Prod.ext rfl hr)]
  exact .inl ⟨rfl,rfl,v6,hpl,hM,hPl,HK0.out.trans hK⟩
 obtain⟨m6,hm6⟩: ∃ m6,m6=(bodyI (callI p fuel R dd) p fuel R (beginI m fn arg none false) (frameI m fn arg false) none 0).1:=⟨_,rfl⟩
 have HBI:=Z (show bodyI (callI p fuel R dd) p fuel R (beginI m fn arg none false) (frameI m fn arg false) none 0=(m6,some (f6,par6)) from by rw [hm6];exact Prod.ext rfl hr)
 obtain⟨hw1,hw2⟩:=HWB.out
 obtain⟨hw3,hw4,hw5,hw6⟩:=hw2 f6 par6 hr
 have hrb:=HRB.out
 have hpb:=HPB.out
 have hrn:runsOf (bodyI (callI p fuel R dd) p fuel R (beginI m fn arg none false) (frameI m fn arg false) none 0).2=f6.runs.length:=by rw [hr];rfl
 rw [hrn] at hrb
 rw [← hm6] at hM hPl hw1 hw3 hw4 hrb hpb
 have HM6:=Z (show CJ N fuel R dd p (runsI (callI p fuel R dd) f6.runs.reverse m6 f6 par6) f6.runs.reverse m6 f6 par6 from by
  refine⟨hw3,(List.reverse_reverse _).symm,hw1,by rw [hw4];exact HD2.out,?_,?_,rfl⟩
  ·have h:=HRM2.out;rw [List.length_reverse];omega
  ·unfold Pl0 at hpb;have h:=HPLS.out;have h2:((beginI m fn arg none false).places.length:Int)-(beginI m fn arg none false).made=m.places.length-m.made:=rfl;omega)
 have HI6:=Z (show BI w w6 W0 w.heap.size gm gf (.slice A0 p.length c0) fuel m6 v6 v f6 par6 rv6 (.pointer none) rp pp from⟨hM,hFr,hPa,by rw [hpl];exact hPl,hpl,HK0.out.trans hK⟩)
 clear hr hpl hM hFr hPa hPl hK hw1 hw2 hw3 hw4 hw5 hw6 hrb hpb hrn hm6 HWB HRB HPB HRM2 HMB HK0 HB0 HD2
 go_wp2_with (fail)
 go_loopg [14] f6.runs.length (fun gg s14 wr=> ∃ (l:List (Int×Int)) (m1:MS) (f1:Fr) (v1:MV) (rv1:Value),l.length=gg∧Aside0 (BI w wr W0 w.heap.size gm gf (.slice A0 p.length c0) fuel m1 v1 v f1 par6 rv1 (.pointer none) rp pp)∧Aside0 (CJ N fuel R dd p (runsI (callI p fuel R dd) f6.runs.reverse m6 f6 par6) l m1 f1 par6))
 case atStart=>exact⟨f6.runs.reverse,m6,f6,v6,rv6,List.length_reverse,HI6,HM6⟩
 case round =>
  obtain⟨l,m1,f1,v1,rv1,hl,BB,JJ⟩:=hrel
  have HL:=am hl
  clear hl
  have hbw:W0.heap.size≤wr.heap.size:=Nat.le_trans hb BB.out.kept.size
  cases l with
  |nil =>
   have hr0:f1.runs= []:=JJ.out.runs
   obtain⟨rA,rc,hrv⟩:=own_slice BB.out.fr.run
   rw [hr0] at hrv
   have hk6:wr.cell? ⟨gf,6,none⟩=some (.slice rA 0 rc):=(blk_cell BB.out.fr.blk 6).trans (show some rv1=_ by rw [hrv];rfl)
   have HR0:=am hr0
   clear hr0 hrv
   obtain⟨x1,x2,x3,x4,x5,x6,x7⟩:=JJ.out.wf.frame
   have hmm:=JJ.out.made
   have htr:m1.trace.length≤100000:=by have h:=JJ.out.room;omega
   obtain⟨y1,y2,y3,y4,y5,y6⟩:=JJ.out.wf.wm.room htr
   have HCF:=Z (finish.calls wr W0.heap.size gm gf (.slice A0 p.length c0) fuel m1 v1 f1 rv1 (.pointer none) BB.out.mach BB.out.fr.blk hbw x2 x3 x5 y5 htr y1)
   clear x1 x2 x3 x4 x5 x6 x7 y1 y2 y3 y4 y5 y6
   go_wp2_with (fail)
   refine HCF.out.mono ?_
   clear hk6 HCF
   rintro e w7 ⟨rfl,v7,hpl7,hM7,hK7⟩
   have HDQ:=am JJ.out.wf.finish
   have hdq:(finishI m1 f1).depth=m1.depth:=HDQ.out.2.2
   have hdz:=JJ.out.depth
   have hm4:w7.cell? ⟨gm,4,none⟩=some (.int .i64 m1.depth):=(blk_cell hM7.blk 4).trans (show some (Value.int .i64 (finishI m1 f1).depth)=_ by rw [hdq])
   have hz4:=blk_frozen hM7.blk 4
   have MM7:=Z (And.intro hpl7 (And.intro hM7 hK7))
   have hdl: -100≤m1.depth:=by omega
   have hdh:m1.depth≤100:=by omega
   clear hpl7 hM7 hK7 hdq hdz
   go_wp2_with (fail)
   go_ret
   obtain⟨hpl7,hM7,hK7⟩:=MM7.out
   have HA7:=hM7.wk (Nat.le_trans hbw hK7.size) (parG (.pointer none)) w.heap.size
   obtain⟨hA8,hev8⟩:=HA7.setM 4 (.int .i64 (m1.depth-1))
   have hff:({ f1 with runs:= [] } :Fr)=f1:=by have h:=HR0.out;cases f1;cases h;rfl
   have hres:=JJ.out.res
   have hres2:(m1,some (f1,par6))=(runsI (callI p fuel R dd) f6.runs.reverse m6 f6 par6):=by rw [← hres,←hff];rfl
   rw [callI_done HBI.out hres2.symm]
   refine .inr ⟨f1,par6,gf,rv1,v7,rfl,rfl,hpl7.trans BB.out.eq,?_,?_,hBf,?_,?_,?_⟩
   ·exact⟨hA8.blk,hA8.low,⟨hA8.rows.tr,hA8.rows.ow,hA8.rows.ca,hA8.rows.pa,hA8.rows.re,hA8.rows.ul,hA8.rows.un,hA8.rows.so,hA8.rows.su⟩⟩
   ·have h1:=(BB.out.pl.maps hK7.maps).maps hA8.maps
    rw [BB.out.eq] at h1
    rw [show (({ finishI m1 f1 with depth:=m1.depth-1 } :MS)).places=m1.places from finishI_places m1 f1]
    exact h1
   ·exact hev8.blk (hK7.blk BB.out.fr.blk zq83 (fun _=>by simp)) zq83
   ·exact(BB.out.pa.kept hK7 (.inl rfl)).ev hev8 (fun h=>absurd h zq83)
   ·exact(BB.out.kept.trans ((hK7.weak (par:=parG (.pointer none))).toB _)).trans hA8.kept
  |cons x l =>
   obtain⟨g,a⟩:=x
   have hruns:f1.runs=l.reverse++ [(g,a)]:=by rw [JJ.out.runs,List.reverse_cons]
   have hn:f1.runs.length=l.length+1:=by rw [hruns];simp
   obtain⟨gr,rc,hrv,hgr,hcap,hcm⟩:=own_form BB.out.fr.run zq90
   have hrow:=BB.out.fr.run
   rw [hrv,hn,hruns] at hrow
   have HA:=Z (BB.out.mach.wk hbw (parG (.pointer none)) w.heap.size)
   have HF:=am BB.out.fr.blk
   have HR:=am hrow
   have HPO:=am BB.out.pa
   have hBr:w.heap.size≤gr:=BB.out.fr.rB gr (by rw [hrv];rfl)
   have HRV:=Z (show rv1= .slice (some ⟨gr,0,none⟩) (l.length+1) rc from by rw [hrv,hn])
   have HRUNS:=am hruns
   unfold maxLen at hcm
   rw [hn] at hcap
   clear hrow hrv hruns hn
   have hsl: ∀ W:World,(Instr.slice 290 (.slice (some ⟨gr,0,none⟩) (l.length+1) rc) none (some (.int .i64 (l.length:Int))) none).run Try.prog W= .ok (.slice (some ⟨gr,0,none⟩) l.length rc) W:=by
    intro W
    obtain⟨i0,hi0,_⟩:=Option.map_eq_some_iff.1 info_pd
    have h:=cut_up (P:=Try.prog) 290 326 .i64 und_pd hi0 (some ⟨gr,0,none⟩) (l.length+1) rc (l.length:Int) zq90 zq90 W
    rwa [Int.toNat_natCast] at h
   have HSL:=am hsl
   clear hsl
   have hwl:wrap64 (l.length:Int)=(l.length:Int):=IntWalk.wrap64_in _ ⟨zq90,zq90⟩
   have hll:(l.length:Int)<(l.length:Int)+1:=by omega
   have hk6:wr.cell? ⟨gf,6,none⟩=some (.slice (some ⟨gr,0,none⟩) (l.length+1) rc):=(blk_cell HF.out 6).trans (show some rv1=_ by rw [HRV.out])
   go_upto_region 16 with(fail)
   clear hk6
   have hE0_:=Evt.drew wr 292
   replace HA:=Z (HA.out.drew)
   replace HF:=(Evt.drew wr 0).b HF
   replace HR:=(Evt.drew wr 0).r HR
   replace HPO:=Z (HPO.out.ev (Evt.drew wr 0))
   clear hE0_
   refine start_ (n:=14) (S:=fun w'=>w'.cell? ⟨gf,6,none⟩=some (.slice (some ⟨gr,0,none⟩) (l.length+1) rc)∧w'.cell? ⟨gr,l.length*2,none⟩=some (.int .i64 g)∧w'.cell? ⟨gr,l.length*2+1,none⟩=some (.int .i64 a)∧True) (ds:= [13]) (bb 14 0) zq27 rfl rfl ⟨(blk_cell HF.out 6).trans (show some rv1=_ by rw [HRV.out]),(row_last HR.out 0 zq83).trans rfl,(row_last HR.out 1 zq83).trans rfl,trivial⟩ (fun hHeld=> ?_)
   generalize wr.drew=x61 at HA HF HR HPO hHeld ⊢
   refine pure1 0 96 (bb 14 1) (h:= ?_)
   refine pure1 1 97 (bb 14 3) (h:= ?_)
   refine pure1 2 98 (bb 14 7) (h:= ?_)
   refine take1 3 99 (bb 14 15) (hS:=hHeld) (h:= ?_)
   refine pure1 4 100 (bb 14 31) (h:= ?_)
   refine pure1 5 101 (bb 14 63) (h:= ?_)
   refine pure1 6 102 (bb 14 127) (h:= ?_)
   refine take1 7 103 (bb 14 255) (hS:=hHeld) (h:= ?_)
   refine pure1 8 104 (bb 14 511) (h:= ?_)
   refine pure1 9 105 (bb 14 1023) (h:= ?_)
   refine pure1 10 106 (bb 14 2047) (h:= ?_)
   refine take1 11 107 (bb 14 4095) (hS:=hHeld) (h:= ?_)
   refine on_ 12 (some 14) (bb 14 8191) (h:=fun K hK=> ?_)
   refine box_step (by rfl) (N:=14) rfl (cs:= #[.int .i64 0,.int .i64 0]) (t:=326) ?_ ?_
   ·first|(go_simp;done)|(go_simp;rfl)
   intro gl hgl x62 hbox hbel
   have hE_:=Evt.below hbel 0
   have HNE:=Z (show gr≠gl from by have h:=own_lt HR.out gr rfl;omega)
   have hBl:w.heap.size≤gl:=by rw [hgl];exact Nat.le_trans BB.out.kept.size HA.out.kept.size
   replace HA:=Z (HA.out.below hbel)
   replace HF:=hE_.b HF
   replace HR:=hE_.r HR
   replace HPO:=Z (HPO.out.ev hE_)
   have HLB:=am hbox
   clear hbel hbox hgl hE_
   refine hK.out _ _ ⟨(blk_cell HF.out 6).trans (show some rv1=_ by rw [HRV.out]),(row_last HR.out 0 zq83).trans rfl,(row_last HR.out 1 zq83).trans rfl,trivial⟩ (fun hHeld=> ?_)
   clear hK K
   refine nm 14 (h:= ?_)
   refine la 13 none (bb 14 16383) (h:=fun K hK=> ?_)
   have hc_0:=(blk_cell HLB.out 0).trans (show _=some (Value.int .i64 0) from rfl)
   have hf_0:=blk_frozen HLB.out 0
   have hc_1:=(blk_cell HLB.out 1).trans (show _=some (Value.int .i64 0) from rfl)
   have hf_1:=blk_frozen HLB.out 1
   rw [if_pos (by rfl)]
   unfold Oper.wp
   go_simp
   clear hc_0 hf_0 hc_1 hf_1
   have hev:=Evt.set HLB.out 0 (.int .i64 g)
   replace HA:=Z (HA.out.other hev zq83 (fun q hq=>zq91))
   replace HF:=hev.b HF
   replace HR:=Z (HR.out.kept hev.g (.inr (fun e=>HNE.out (by injection e))))
   replace HPO:=Z (HPO.out.ev hev)
   replace HLB:=Z ((blk_set HLB.out 0 (.int .i64 g)).trans (show _=some (Obj.cells #[.int .i64 g,.int .i64 0] 326 (0,0)) from rfl))
   clear hev
   generalize x62.setCell ⟨gl,0,none⟩ (.int .i64 g)=x63 at HA HF HR HPO HLB ⊢
   have hev:=Evt.set HLB.out 1 (.int .i64 a)
   replace HA:=Z (HA.out.other hev zq83 (fun q hq=>zq91))
   replace HF:=hev.b HF
   replace HR:=Z (HR.out.kept hev.g (.inr (fun e=>HNE.out (by injection e))))
   replace HPO:=Z (HPO.out.ev hev)
   replace HLB:=Z ((blk_set HLB.out 1 (.int .i64 a)).trans (show _=some (Obj.cells #[.int .i64 g,.int .i64 a] 326 (0,0)) from rfl))
   clear hev
   generalize x63.setCell ⟨gl,1,none⟩ (.int .i64 a)=x64 at HA HF HR HPO HLB ⊢
   refine hK.out _ _ ?_
   clear hK K
   refine done_ zq27 ?_
   go_upto_region 17 with(fail)
   have hsl:=HSL.out
   have hE0_:=Evt.drew x64 292
   replace HA:=Z (HA.out.drew)
   replace HF:=(Evt.drew x64 0).b HF
   replace HR:=(Evt.drew x64 0).r HR
   replace HPO:=Z (HPO.out.ev (Evt.drew x64 0))
   replace HLB:=(Evt.drew x64 0).b HLB
   clear hE0_
   refine start_ (n:=15) (S:=fun w'=>w'.cell? ⟨gf,6,none⟩=some (.slice (some ⟨gr,0,none⟩) (l.length+1) rc)∧True) (ds:= [14]) (bb 15 0) zq27 rfl rfl ⟨(blk_cell HF.out 6).trans (show some rv1=_ by rw [HRV.out]),trivial⟩ (fun hHeld=> ?_)
   generalize x64.drew=x65 at HA HF HR HPO HLB hHeld ⊢
   refine pure1 0 108 (bb 15 1) (h:= ?_)
   refine pure1 1 109 (bb 15 3) (h:= ?_)
   refine pure1 2 110 (bb 15 7) (h:= ?_)
   refine pure1 3 111 (bb 15 15) (h:= ?_)
   refine take1 4 112 (bb 15 31) (hS:=hHeld) (h:= ?_)
   refine pure1 5 113 (bb 15 63) (h:= ?_)
   refine pure1 6 114 (bb 15 127) (h:= ?_)
   refine pure1 7 115 (bb 15 255) (h:= ?_)
   refine take1 8 116 (bb 15 511) (hS:=hHeld) (h:= ?_)
   refine pure1 9 117 (bb 15 1023) (h:= ?_)
   refine pure1 10 118 (bb 15 2047) (h:= ?_)
   refine pure1 11 119 (bb 15 4095) (h:= ?_)
   refine pure1 12 120 (bb 15 8191) (h:= ?_)
   refine pure1 13 121 (bb 15 16383) (h:= ?_)
   refine la 14 none (bb 15 32767) (h:=fun K hK=> ?_)
   have hc_:=(blk_cell HF.out 6).trans (show _=some (Value.slice (some ⟨gr,0,none⟩) (l.length+1) rc) from by rw [HRV.out];rfl)
   have hf_:=blk_frozen HF.out 6
   rw [if_pos (by rfl)]
   unfold Oper.wp
   go_simp
   clear hc_ hf_
   have hev:=Evt.set HF.out 6 (.slice (some ⟨gr,0,none⟩) l.length rc)
   replace HA:=Z (HA.out.other hev zq83 (fun q hq=>zq85))
   replace HF:=Z ((blk_set HF.out 6 (.slice (some ⟨gr,0,none⟩) l.length rc)).trans (show _=some (Obj.cells (frC { f1 with runs:=l.reverse } (.slice (some ⟨gr,0,none⟩) l.length rc) (.pointer none)).toArray 292 (0,0)) from rfl))
   replace HR:=hev.r HR
   replace HPO:=Z (HPO.out.ev hev)
   replace HLB:=hev.b HLB
   generalize x65.setCell ⟨gf,6,none⟩ (.slice (some ⟨gr,0,none⟩) l.length rc)=x66 at HA HF HR HPO HLB ⊢
   clear hev
   refine hK.out _ _ ?_
   clear hK K
   refine done_ zq27 ?_
   clear hsl hwl hll
   have HRC:=Z (row_cut HR.out)
   clear HR
   have hmem:(g,a)∈f1.runs:=by rw [HRUNS.out];simp
   obtain⟨hga,hg0,hgN⟩:=JJ.out.wf.frame.2.2.2.2.2.2 (g,a) hmem
   have hrest: ∀ x∈l.reverse,Num x.2∧0≤x.1∧x.1<N:=fun x hx=>JJ.out.wf.frame.2.2.2.2.2.2 x (by rw [HRUNS.out];exact List.mem_append_left _ hx)
   have HDI:=Z (WF.dinner HCE.out JJ.out.wf JJ.out.made g a l.reverse hga ⟨hg0,hgN⟩ hrest)
   have hsm: ∃ sm,RM m1 sm∧sm.spent=false:=by obtain⟨sm,c,h1,h2,_⟩:=JJ.out.wf;exact⟨sm,h1,h2⟩
   have hrm:(m1.trace.length:Int)+3*(fuel-m1.made)+2≤100000:=by have h:=JJ.out.room;rw [List.length_cons] at h;omega
   have hr1:Num f1.r1:=JJ.out.wf.frame.1 1
   have HCI:=Z (HIH.out x66 gm m1 v1 g a (some { f1 with runs:=l.reverse }) (.pointer (some ⟨gf,0,none⟩)) (.slice (some ⟨gr,0,none⟩) l.length rc) (.pointer none) true HA.out.mach ((BB.out.pl).maps HA.out.maps) (HA.out.kept.bel (BB.out.kept.bel HBEL.out)) ⟨gf,rfl,HF.out,hbf⟩ hsm JJ.out.made hga ⟨hg0,hgN⟩ (fun _=>⟨_,rfl,hr1,fun e=>JJ.out.wf.frame.2.2.2.2.1 e⟩) JJ.out.depth hrm JJ.out.pls)
   have HRM:=Z (call_room (p:=p) (fuel:=fuel) R dd m1 g a (some { f1 with runs:=l.reverse }) true).1
   have HPZ:=Z (call_pl (p:=p) (fuel:=fuel) R dd m1 g a (some { f1 with runs:=l.reverse }) true)
   have HK1:=am HA.out.kept
   have HSZ:=am HA.out.sz
   have HPO1:=HPO
   have hl0:x66.cell? ⟨gl,0,none⟩=some (.int .i64 g):=(blk_cell HLB.out 0).trans rfl
   have hl1:x66.cell? ⟨gl,1,none⟩=some (.int .i64 a):=(blk_cell HLB.out 1).trans rfl
   clear hmem hga hg0 hgN hrest hsm hrm hr1 HA HF HPO HLB
   go_wp2_with (fail)
   refine HCI.out.mono ?_
   clear HCI hl0 hl1
   rintro e w8 hpost
   rcases hpost with⟨hr,rfl,v8,hpl,hM,hPl,hK⟩|⟨d,par8,gd,rd,v8,hr,rfl,hpl,hM,hPl,hgd,hD,hPA8,hK⟩
   ·refine⟨rfl,?_⟩
    have hres:=JJ.out.res
    rw [runsI_cons0 hr] at hres
    rw [callI_spent2 HBI.out hres.symm]
    exact .inl ⟨rfl,rfl,v8,hpl.trans BB.out.eq,hM,by rw [← BB.out.eq];exact hPl,(BB.out.kept.trans HK1.out).inner hK (Nat.le_trans BB.out.kept.size HK1.out.size) (fun q e=>zq89)⟩
   obtain⟨u,hpu,hdfin,hdpan,hfpan,hwf9,hmd9,hdp9,hrn9⟩:=HDI.out.2.2.2 d par8 hr
   subst hpu
   obtain⟨gq,hq1,hq2,hq3,hq4⟩:=hPA8
   have hqe:gf=gq:=by injection hq1 with hq1;injection hq1 with hq1;injection hq1
   subst hqe
   have hb8:W0.heap.size≤w8.heap.size:=Nat.le_trans HSZ.out hK.size
   have HCB:=Z (behind.calls w8 W0.heap.size gm gf gd (.slice A0 p.length c0) fuel (callI p fuel R dd m1 g a (some { f1 with runs:=l.reverse }) true).1 v8 { f1 with runs:=l.reverse,r1:=u } d (.slice (some ⟨gr,0,none⟩) l.length rc) (.pointer none) rd (.pointer (some ⟨gf,0,none⟩)) hM hq2 hD (fun e=>hq3 e.symm) hbf hb8 hdfin hfpan hdpan)
   have HR8:=Z (KeptB.row hK (Nat.le_refl _) HRC.out zq83 zq83)
   have HPO8:=Z (HPO1.out.keptB hK (Nat.le_refl _) (.inr rfl))
   have HK8:=Z ((BB.out.kept.trans HK1.out).inner hK (Nat.le_trans BB.out.kept.size HK1.out.size) (fun q e=>zq89))
   have HP8:=am hPl
   have HV8:=am hpl
   have HRR:=am hr
   have HW9:=am hwf9
   have HMD:=am hmd9
   have HDP:=am hdp9
   have HRN:=am hrn9
   have HMM:=am HDI.out.2.1
   clear hr hpl hM hPl hgd hD hK hq1 hq2 hq3 hq4 hb8 hdfin hdpan hfpan hwf9 hmd9 hdp9 hrn9 HDI HPO1 HRC
   go_wp2_with (fail)
   refine HCB.out.mono ?_
   clear HCB
   rintro e w9 ⟨rfl,hM9,hF9,hK9⟩
   have MM9:=Z (And.intro hM9 (And.intro hF9 hK9))
   clear hM9 hF9 hK9
   go_wp2_with (fail)
   go_roundg l.length
   case measure=>have h:=HL.out;rw [List.length_cons] at h;omega
   case rel =>
    obtain⟨hM9,hF9,hK9⟩:=MM9.out
    refine⟨l,_,_,v8,.slice (some ⟨gr,0,none⟩) l.length rc,rfl,⟨⟨hM9,⟨hF9,?_,hbf,hBf,fun q hq=> ?_⟩,HPO8.out.kept hK9 (.inr rfl),?_,HV8.out.trans BB.out.eq,HK8.out.inner (hK9.toB w.heap.size) (Nat.le_refl _) (fun q e=>zq89)⟩⟩,⟨HW9.out,HRN.out,by rw [HMD.out];exact HMM.out,by rw [HDP.out];exact JJ.out.depth,?_,?_,?_⟩⟩
    ·rw [HRN.out,List.length_reverse]
     exact KeptM.row hK9 HR8.out zq83 zq83
    ·have e:gr=q:=by simpa [Value.ownBlock] using hq
     subst e;exact hBr
    ·rw [behindI_places]
     rw [HV8.out]
     exact HP8.out.maps hK9.maps
    ·obtain⟨b1,b2,_⟩:=behindI_room (callI p fuel R dd m1 g a (some { f1 with runs:=l.reverse }) true).1 { f1 with runs:=l.reverse,r1:=u } d
     rw [b1,b2]
     have h1:=HRM.out
     have h2:=JJ.out.room
     rw [List.length_cons] at h2
     omega
    ·have b3:=behindI_pl (callI p fuel R dd m1 g a (some { f1 with runs:=l.reverse }) true).1 { f1 with runs:=l.reverse,r1:=u } d
     have h1:=HPZ.out
     unfold Pl0 at b3 h1
     have h2:=JJ.out.pls
     omega
    ·rw [← JJ.out.res]
     exact(runsI_cons1 HRR.out).symm
theorem size_pr:(Try.prog.info? 74).map (·.size)=some 2:=by kernel_rfl
def LastSP(w w':World)(base:Nat)(A0:Value)(fuel:Int)(tv sv:Value)(r:SM×SF)(e:Ending):Prop :=
 ∃ tv' sv' dA dn dc,e= .returned (.tuple #[.agg (smC A0 fuel r.1 tv' sv').toArray,.agg (sfC r.2 (.slice dA dn dc)).toArray])∧SRows w' base r.1 tv' sv'∧New w tv tv'∧New w sv sv'∧DRow w' base (.slice dA dn dc) r.2.defers∧ApartD (.slice dA dn dc) sv'∧KeptS tv sv w w'
theorem l2Last_walk(W0:World)(A0:Option Addr)(c0:Nat)(p:List (List St))(N fuel:Int)(R d:Nat)(hC:SCallC W0 A0 c0 p N fuel R d)(w:World)(m:SM)(c:SF)(tv sv:Value)(l:List (Int×Int))(g a:Int)(gd dc:Nat)(H:SRows w W0.heap.size m tv sv)
  (D:w.ownsRow W0.heap.size 74 2 (.slice (some ⟨gd,0,none⟩) (l.length+1) dc) (l.length+1) ((l.reverse++ [(g,a)]).flatMap prC)) (DA:ApartD (.slice (some ⟨gd,0,none⟩) (l.length+1) dc) sv) (hbel:Below W0.heap.size W0 w)
  (hm:SMok fuel m) (hc:SFok N c) (hdf:c.defers=l.reverse++ [(g,a)]) (hl:l.length≤99000) (hsp:m.spent=false) (hd:d≤8) (hdep:c.depth+(d:Int)=8) (hroom:sroom fuel m 0+2≤90000) (hga:Num a∧0≤g∧g<N) (hcm:l.length+1≤dc∧dc≤9223372036854775807)
  (pk:Bool) (pv:Int) (hp1:c.kind=2→pk=true∧pv=c.value) (hp2: ¬ c.kind=2→pk=false∧pv=0) (hpn:Num pv)
  (m2:SM) (i2:SF) (lv:Bool) (hv1:c.leaving=true→lv=true) (hv2:c.leaving=false→lv=i2.leaving) (k4 k5 v5 k6:Int) (hk1:i2.recovered=true→lv=true→k4=3) (hk2:i2.recovered=true→lv=false→k4=1) (hk3:i2.recovered=false→k4=c.kind)
  (hk4:i2.kind=2→k5=2∧v5=i2.value) (hk5: ¬ i2.kind=2→k5=k4∧v5=c.value) (hk6:i2.kind=3→k6=3) (hk7: ¬ i2.kind=3→k6=k5)
  (r:SM×SF) (hq1:m2.spent=true→r=(m2,{ c with defers:=l.reverse })) (hq2:m2.spent=false→r=(m2,{ c with defers:=l.reverse,r1:=i2.outer,leaving:=lv,kind:=k6,value:=v5 })) (hr:callS p fuel R d m ⟨g,c.depth+1,a,0,0,0,[],0,0,false,true,pk,pv,false,c.r1⟩=(m2,i2)) :
  Calls Try.prog 276 #[.agg (smC (.slice A0 p.length c0) fuel m tv sv).toArray,.agg (sfC c (.slice (some ⟨gd,0,none⟩) (l.length+1) dc)).toArray] w fun e w'=>LastSP w w' W0.heap.size (.slice A0 p.length c0) fuel tv sv r e:=by
 obtain⟨tA,tc,htv⟩:=own_slice H.tr
 obtain⟨sA,sc,hsv⟩:=own_slice H.se
 subst htv
 subst hsv
 have HT0:=Z (own_lt H.tr)
 have HV0:=Z (own_lt H.se)
 have H0:=am H
 have HS:=am H
 have HDL:=Z (own_lt D)
 have HD:=am D
 have HDA:=am DA
 have KP:=Z (KeptS.refl (.slice tA m.trace.length tc) (.slice sA m.seen.length sc) w)
 have HB:=am hbel
 have HM:=am hm
 have HF:=am hc
 clear H D DA hbel hm hc
 have hwd:wrap64 (c.depth+1)=c.depth+1:=IntWalk.wrap64_in _ ⟨zq90,zq90⟩
 have hsl: ∀ W:World,(Instr.slice 70 (.slice (some ⟨gd,0,none⟩) (l.length+1) dc) none (some (.int .i64 (l.length:Int))) none).run Try.prog W= .ok (.slice (some ⟨gd,0,none⟩) l.length dc) W:=by
  intro W
  obtain⟨i0,hi0,_⟩:=Option.map_eq_some_iff.1 info_pr
  have h:=cut_up (P:=Try.prog) 70 74 .i64 und_pr hi0 (some ⟨gd,0,none⟩) (l.length+1) dc (l.length:Int) zq90 zq90 W
  rwa [Int.toNat_natCast] at h
 have HSL:=am hsl
 have HW:=am hwd
 have HR:=am hr
 have HC:=am hC
 have HRM:=am hroom
 have HSP:=am hsp
 have HDP:=am hdep
 have HFF:=am hga
 have HLL:=am hl
 have HDF:=am hdf
 have HCM:=am hcm
 have hwl:wrap64 (l.length:Int)=(l.length:Int):=IntWalk.wrap64_in _ ⟨zq90,zq90⟩
 have hll:(l.length:Int)<(l.length:Int)+1:=by omega
 have HQ1:=am hq1
 have HQ2:=am hq2
 clear hq1 hq2
 have HP1:=am hp1
 have HP2:=am hp2
 have HPN:=am hpn
 have HV1:=am hv1
 have HV2:=am hv2
 have HK1:=am hk1
 have HK2:=am hk2
 have HK3:=am hk3
 have HK4:=am hk4
 have HK5:=am hk5
 have HK6:=am hk6
 have HK7:=am hk7
 clear hsl hwd hr hC hroom hsp hdep hga hdf hcm hp1 hp2 hpn hv1 hv2 hk1 hk2 hk3 hk4 hk5 hk6 hk7
 go_enter Try.func276,Try.ntmps276
 go_upto_region 2 with(first|(refine bx 2 (smC (.slice A0 p.length c0) fuel (m) (.slice tA m.trace.length tc) (.slice sA m.seen.length sc)).toArray 167 (h:= ?_);intro g2 hg_ x1 hbox hbel;have Lg2:=lg hg_ KP.out.size;have hE_:=Evt.below hbel 0;replace HS:=rs HS hE_;replace KP:=kv KP hE_;replace HD:=hE_.r HD;have Gg2:=am hbox;clear hbel hbox hg_ hE_)|(refine bx 3 (sfC (c) (.slice (some ⟨gd,0,none⟩) (l.length+1) dc)).toArray 169 (h:= ?_);intro g3 hg_ x2 hbox hbel;have Lg3:=lg hg_ KP.out.size;have hE_:=Evt.below hbel 0;replace HS:=rs HS hE_;replace KP:=kv KP hE_;replace HD:=hE_.r HD;replace Gg2:=hE_.b Gg2;have Gg3:=am hbox;clear hbel hbox hg_ hE_)|(refine bx 4 zsm 167 (h:= ?_);intro g4 hg_ x3 hbox hbel;have Lg4:=lg hg_ KP.out.size;have NE_g2_g4:=nel hg_ Gg2.out;have hE_:=Evt.below hbel 0;replace HS:=rs HS hE_;replace KP:=kv KP hE_;replace HD:=hE_.r HD;replace Gg2:=hE_.b Gg2;replace Gg3:=hE_.b Gg3;have Gg4:=am hbox;clear hbel hbox hg_ hE_)|(refine bx 5 zsf 169 (h:= ?_);intro g5 hg_ x4 hbox hbel;have Lg5:=lg hg_ KP.out.size;have NE_g3_g5:=nel hg_ Gg3.out;have hE_:=Evt.below hbel 0;replace HS:=rs HS hE_;replace KP:=kv KP hE_;replace HD:=hE_.r HD;replace Gg2:=hE_.b Gg2;replace Gg3:=hE_.b Gg3;replace Gg4:=hE_.b Gg4;have Gg5:=am hbox;clear hbel hbox hg_ hE_;have q6:x4.cell? ⟨g3,6,none⟩=some (.slice (some ⟨gd,0,none⟩) (l.length+1) dc):=(blk_cell Gg3.out (6)).trans (rfl);have zq6:=blk_frozen Gg3.out (6)))
 have hr0:x4.cell? ⟨gd,l.length*2,none⟩=some (.int .i64 g):=(row_last HD.out 0 zq83).trans rfl
 have hr1:x4.cell? ⟨gd,l.length*2+1,none⟩=some (.int .i64 a):=(row_last HD.out 1 zq83).trans rfl
 go_upto_region 3 with(first|(refine bx 7 #[.int .i64 0,.int .i64 0] 74 (h:= ?_);intro g7 hg_ x5 hbox hbel;have Lg7:=lg hg_ KP.out.size;have hE_:=Evt.below hbel 0;replace HS:=rs HS hE_;replace KP:=kv KP hE_;replace HD:=hE_.r HD;replace Gg2:=hE_.b Gg2;replace Gg3:=hE_.b Gg3;replace Gg4:=hE_.b Gg4;replace Gg5:=hE_.b Gg5;have Gg7:=am hbox;clear hbel hbox hg_ hE_)|(refine ag 7 #[.int .i64 g,.int .i64 a] Gg7.out size_pr (h:= ?_);intro x6 hbox hev;replace HS:=Z (HS.out.newP hev (fun e=>zq146));replace KP:=kv KP hev;replace HD:=Z (row_grown HD.out hev.g (fun q hq e=>by have h_:=HDL.out q hq;injection e with e;omega));replace Gg2:=hev.b Gg2;replace Gg3:=hev.b Gg3;replace Gg4:=hev.b Gg4;replace Gg5:=hev.b Gg5;clear Gg7;have Gg7:=am hbox;clear hbox hev))
 clear hr0 hr1 q6 zq6
 have q6:x6.cell? ⟨g3,6,none⟩=some (.slice (some ⟨gd,0,none⟩) (l.length+1) dc):=(blk_cell Gg3.out (6)).trans (rfl);have zq6:=blk_frozen Gg3.out (6)
 have hsl:=HSL.out
 go_upto_region 4 with(first|((with_reducible refine gate_dst (N:=18) rfl ?_);refine sliceL_ (cs:= #[]) (e:=74) (n:=0) rfl ?run ?_;(case run=>first|(go_simp;done)|(go_simp;rfl));intro gE hg_ x7 hbox hbel;have LgE:=lg hg_ KP.out.size;have NEg:=Z (show g7≠gE from fun e=>by have h_:=blk_lt Gg7.out;omega);have hE_:=Evt.below hbel 0;replace HS:=rs HS hE_;replace KP:=kv KP hE_;replace HD:=hE_.r HD;replace Gg2:=hE_.b Gg2;replace Gg3:=hE_.b Gg3;replace Gg4:=hE_.b Gg4;replace Gg5:=hE_.b Gg5;replace Gg7:=hE_.b Gg7;have GgE:=am hbox;clear hbel hbox hg_ hE_;clear q6 zq6;have q6:x7.cell? ⟨g3,6,none⟩=some (.slice (some ⟨gd,0,none⟩) (l.length+1) dc):=(blk_cell Gg3.out (6)).trans (rfl);have zq6:=blk_frozen Gg3.out (6))|((with_reducible refine gate_dst (N:=23) rfl ?_);obtain⟨tE,x8,hE,hT,hev,hnb⟩:=app_all (l:=l.reverse) GgE.out (Nat.le_trans HB.out.size LgE) (show DRow _ _ (.slice (some ⟨gd,0,none⟩) l.length dc) l.reverse from(by unfold DRow;rw [List.length_reverse];exact row_cut HD.out)) (by rw [List.length_reverse];have:=HLL.out;omega) (Nat.le_trans HB.out.size KP.out.size);refine Kd.event_run rfl (appRun_ _ _ _ rfl rfl rfl rfl hE) ?_;clear hE;have HNT:=Z (show ∀ q,tE.ownBlock=some q→w.heap.size≤q from fun q e=>(by rcases hnb with h|h<;>rw [h] at e<;>injection e with e<;>subst e;exact LgE;exact KP.out.size));clear GgE;replace HS:=Z (HS.out.newP hev (fun e=>zq146));replace KP:=kv KP hev;replace HD:=Z (row_grown HD.out hev.g (fun q hq e=>by have h_:=HDL.out q hq;injection e with e;omega));replace Gg2:=hev.b Gg2;replace Gg3:=hev.b Gg3;replace Gg4:=hev.b Gg4;replace Gg5:=hev.b Gg5;replace Gg7:=hev.b' Gg7 (fun e=>NEg.out (by injection e));have HT:=am hT;clear hT hev hnb;obtain⟨fA,fc,hu⟩:=own_slice HT.out;have hu':tE= .slice fA l.length fc:=(by rw [hu,List.length_reverse]);clear hu;subst hu';clear q6 zq6;have q6:x8.cell? ⟨g3,6,none⟩=some (.slice (some ⟨gd,0,none⟩) (l.length+1) dc):=(blk_cell Gg3.out (6)).trans (rfl);have zq6:=blk_frozen Gg3.out (6)))
 clear hsl q6 zq6 HD
 have hev:=Evt.set Gg3.out (6) (.slice fA l.length fc)
 replace HS:=rs HS hev
 replace KP:=kv KP hev
 replace Gg2:=hev.b Gg2
 replace Gg3:=Z ((blk_set Gg3.out (6) (.slice fA l.length fc)).trans (show _=some (Obj.cells (sfC ({ c with defers:=l.reverse }) (.slice fA l.length fc)).toArray 169 (0,0)) from rfl))
 replace Gg4:=hev.b Gg4
 replace Gg5:=hev.b' Gg5 (ne_some' NE_g3_g5)
 replace Gg7:=hev.b Gg7
 replace HT:=Z (HT.out.ev hev)
 clear hev
 generalize x8.setCell ⟨g3,6,none⟩ (.slice fA l.length fc)=x9 at HS KP Gg2 Gg3 Gg4 Gg5 Gg7 HT ⊢
 have HD:=HT
 clear HT
 have HAP:=Z (apart_new HNT.out HV0.out)
 clear HNT hwl hll
 have r0:x9.cell? ⟨g7,0,none⟩=some (.int .i64 g):=(blk_cell Gg7.out (0)).trans (rfl);have r1:x9.cell? ⟨g7,1,none⟩=some (.int .i64 a):=(blk_cell Gg7.out (1)).trans (rfl);have qd:x9.cell? ⟨g3,1,none⟩=some (.int .i64 c.depth):=(blk_cell Gg3.out (1)).trans (rfl);have qr:x9.cell? ⟨g3,3,none⟩=some (.int .i64 c.r1):=(blk_cell Gg3.out (3)).trans (rfl)
 go_upto_region 5 with(first|(refine bx 8 zsf 169 (h:= ?_);intro g8 hg_ x10 hbox hbel;have Lg8:=lg hg_ KP.out.size;have NE_g3_g8:=nel hg_ Gg3.out;have NE_g5_g8:=nel hg_ Gg5.out;have hE_:=Evt.below hbel 0;replace HS:=rs HS hE_;replace KP:=kv KP hE_;replace Gg2:=hE_.b Gg2;replace Gg3:=hE_.b Gg3;replace Gg4:=hE_.b Gg4;replace Gg5:=hE_.b Gg5;replace Gg7:=hE_.b Gg7;replace HD:=dv HD hE_;have Gg8:=am hbox;clear hbel hbox hg_ hE_;clear r0 r1 qd qr;have r0:x10.cell? ⟨g7,0,none⟩=some (.int .i64 g):=(blk_cell Gg7.out (0)).trans (rfl);have r1:x10.cell? ⟨g7,1,none⟩=some (.int .i64 a):=(blk_cell Gg7.out (1)).trans (rfl);have qd:x10.cell? ⟨g3,1,none⟩=some (.int .i64 c.depth):=(blk_cell Gg3.out (1)).trans (rfl);have qr:x10.cell? ⟨g3,3,none⟩=some (.int .i64 c.r1):=(blk_cell Gg3.out (3)).trans (rfl))|(refine ag 8 (sfC (⟨g,wrap64 (c.depth+1),a,0,0,0,[],0,0,false,true,false,0,false,c.r1⟩) (.slice none 0 0)).toArray Gg8.out size_sf (h:= ?_);intro x11 hbox hev;replace HS:=rs HS hev;replace KP:=kv KP hev;replace Gg2:=hev.b Gg2;replace Gg3:=hev.b' Gg3 (ne_some NE_g3_g8);replace Gg4:=hev.b Gg4;replace Gg5:=hev.b' Gg5 (ne_some NE_g5_g8);replace Gg7:=hev.b Gg7;replace HD:=dv HD hev;clear Gg8;have Gg8:=am hbox;clear hbox hev;clear r0 r1 qd qr;))
 have h_:=Gg8.out
 rw [HW.out] at h_
 clear Gg8
 have Gg8:=am h_
 clear h_ Gg7
 have qk:x11.cell? ⟨g3,7,none⟩=some (.int .i64 c.kind):=(blk_cell Gg3.out (7)).trans (rfl)
 go_upto_if 39 with(fail)
 clear qk
 have qp:x11.cell? ⟨g8,11,none⟩=some (.bool false):=(blk_cell Gg8.out (11)).trans (rfl);have zqp:=blk_frozen Gg8.out (11)
 go_cut [] from 9 (fun wc=>Aside0 (SRows wc W0.heap.size (m) (.slice tA m.trace.length tc) (.slice sA m.seen.length sc))∧Aside0 (KeptS (.slice tA m.trace.length tc) (.slice sA m.seen.length sc) w wc)∧Aside0 (DRow wc W0.heap.size (.slice fA l.length fc) (l.reverse))∧Aside0 (wc.heap[g2]? =some (.cells (smC (.slice A0 p.length c0) fuel (m) (.slice tA m.trace.length tc) (.slice sA m.seen.length sc)).toArray 167 (0,0)))∧Aside0 (wc.heap[g3]? =some (.cells (sfC ({ c with defers:=l.reverse }) (.slice fA l.length fc)).toArray 169 (0,0)))∧Aside0 (wc.heap[g4]? =some (.cells zsm 167 (0,0)))∧Aside0 (wc.heap[g5]? =some (.cells zsf 169 (0,0)))∧Aside0 (wc.heap[g8]? =some (.cells (sfC (⟨g,c.depth+1,a,0,0,0,[],0,0,false,true,pk,pv,false,c.r1⟩) (.slice none 0 0)).toArray 169 (0,0))))
 case first =>
  by_cases hk2:c.kind=2
  rotate_left
  ·skip
   go_wp2_with (fail)
   clear qp zqp
   have h_:=Gg8.out
   clear Gg8
   have Gg8:=Z (show x11.heap[g8]? =some (.cells (sfC (⟨g,c.depth+1,a,0,0,0,[],0,0,false,true,pk,pv,false,c.r1⟩) (.slice none 0 0)).toArray 169 (0,0)) from by rw [h_,(HP2.out hk2).1,(HP2.out hk2).2])
   clear h_
   go_meet
   case rel=>exact⟨HS,KP,HD,Gg2,Gg3,Gg4,Gg5,Gg8⟩
  ·skip
   go_upto_region 7 with(fail)
   clear qp zqp
   have hev:=Evt.set Gg8.out (11) (.bool true)
   replace HS:=rs HS hev
   replace KP:=kv KP hev
   replace Gg2:=hev.b Gg2
   replace Gg3:=hev.b' Gg3 (ne_some NE_g3_g8)
   replace Gg4:=hev.b Gg4
   replace Gg5:=hev.b' Gg5 (ne_some NE_g5_g8)
   replace HD:=dv HD hev
   replace Gg8:=Z ((blk_set Gg8.out (11) (.bool true)).trans (show _=some (Obj.cells (sfC (⟨g,c.depth+1,a,0,0,0,[],0,0,false,true,true,0,false,c.r1⟩) (.slice none 0 0)).toArray 169 (0,0)) from rfl))
   clear hev
   generalize x11.setCell ⟨g8,11,none⟩ (.bool true)=x12 at HS KP Gg2 Gg3 Gg4 Gg5 HD Gg8 ⊢
   have qv:x12.cell? ⟨g3,8,none⟩=some (.int .i64 c.value):=(blk_cell Gg3.out (8)).trans (rfl);have qn:x12.cell? ⟨g8,12,none⟩=some (.int .i64 0):=(blk_cell Gg8.out (12)).trans (rfl);have zqn:=blk_frozen Gg8.out (12)
   go_wp2_with (fail)
   clear qv qn zqn
   have hev:=Evt.set Gg8.out (12) (.int .i64 c.value)
   replace HS:=rs HS hev
   replace KP:=kv KP hev
   replace Gg2:=hev.b Gg2
   replace Gg3:=hev.b' Gg3 (ne_some NE_g3_g8)
   replace Gg4:=hev.b Gg4
   replace Gg5:=hev.b' Gg5 (ne_some NE_g5_g8)
   replace HD:=dv HD hev
   replace Gg8:=Z ((blk_set Gg8.out 12 (.int .i64 c.value)).trans (show _=some (Obj.cells (sfC (⟨g,c.depth+1,a,0,0,0,[],0,0,false,true,pk,pv,false,c.r1⟩) (.slice none 0 0)).toArray 169 (0,0)) from by rw [(HP1.out hk2).1,(HP1.out hk2).2];rfl))
   clear hev
   generalize x12.setCell ⟨g8,12,none⟩ (.int .i64 c.value)=x13 at HS KP Gg2 Gg3 Gg4 Gg5 HD Gg8 ⊢
   go_meet
   case rel=>exact⟨HS,KP,HD,Gg2,Gg3,Gg4,Gg5,Gg8⟩
 clear HS KP Gg2 Gg3 Gg4 Gg5 HD Gg8
 obtain⟨HS,KP,HD,Gg2,Gg3,Gg4,Gg5,Gg8⟩:=hcut
 generalize wc=x14 at HS KP HD Gg2 Gg3 Gg4 Gg5 Gg8 ⊢
 go_upto_region 9 with(first|(refine lr 45 Gg2.out und_sm size_sm (h:= ?_))|(refine lr 46 Gg8.out und_sf size_sf (h:= ?_)))
 refine(show Calls Try.prog 233 #[.agg (smC (.slice A0 p.length c0) fuel (m) (.slice tA m.trace.length tc) (.slice sA m.seen.length sc)).toArray,.agg (sfC ⟨g,c.depth+1,a,0,0,0,[],0,0,false,true,pk,pv,false,c.r1⟩ (.slice none 0 0)).toArray] x14 (fun e w'=>CallSP x14 w' W0.heap.size (.slice A0 p.length c0) fuel (.slice tA m.trace.length tc) (.slice sA m.seen.length sc) (m2,i2) e) from by
  rw [← HR.out]
  exact HC.out x14 m _ (.slice tA m.trace.length tc) (.slice sA m.seen.length sc) HS.out (KP.out.bel HB.out H0.out) HM.out (SFok.start HFF.out.2 HFF.out.1 _ _ HPN.out HF.out.n1) rfl HSP.out (by have:=HDP.out;show c.depth+1+(d:Int)=9;omega) HRM.out).mono ?_
 rintro e wz ⟨tv2,sv2,eA,en,ec,rfl,hS2,hT2,hV2,hK2⟩
 have HNT:=Z (New.trans (New.refl w (.slice tA m.trace.length tc)) hT2 KP.out.size)
 have HNV:=Z (New.trans (New.refl w (.slice sA m.seen.length sc)) hV2 KP.out.size)
 have HAP2:=Z (HAP.out.new HD.out hV2)
 clear HDA
 replace HD:=Z (HD.out.kept HS.out HAP.out hK2)
 replace HS:=Z (hS2)
 replace KP:=Z (KP.out.trans hK2 (New.refl _ _) (New.refl _ _))
 replace Gg2:=Z (hK2.blk _ _ Gg2.out (free_tv HT0.out Lg2) (free_tv HV0.out Lg2))
 replace Gg3:=Z (hK2.blk _ _ Gg3.out (free_tv HT0.out Lg3) (free_tv HV0.out Lg3))
 replace Gg4:=Z (hK2.blk _ _ Gg4.out (free_tv HT0.out Lg4) (free_tv HV0.out Lg4))
 replace Gg5:=Z (hK2.blk _ _ Gg5.out (free_tv HT0.out Lg5) (free_tv HV0.out Lg5))
 replace Gg8:=Z (hK2.blk _ _ Gg8.out (free_tv HT0.out Lg8) (free_tv HV0.out Lg8))
 clear hS2 hT2 hV2 hK2 HAP
 obtain⟨uA,uc,hu⟩:=own_slice HS.out.tr
 obtain⟨vA,vc,hv⟩:=own_slice HS.out.se
 subst hu
 subst hv
 go_upto_region 9 with(first|(refine ag 2 (smC (.slice A0 p.length c0) fuel (m2) (.slice uA m2.trace.length uc) (.slice vA m2.seen.length vc)).toArray Gg2.out size_sm (h:= ?_);intro x15 hbox hev;replace HS:=rs HS hev;replace KP:=kv KP hev;replace HD:=dv HD hev;replace Gg3:=hev.b Gg3;replace Gg4:=hev.b' Gg4 (ne_some' NE_g2_g4);replace Gg5:=hev.b Gg5;replace Gg8:=hev.b Gg8;clear Gg2;have Gg2:=am hbox;clear hbox hev)|(refine ag 8 (sfC (i2) (.slice eA en ec)).toArray Gg8.out size_sf (h:= ?_);intro x16 hbox hev;replace HS:=rs HS hev;replace KP:=kv KP hev;replace HD:=dv HD hev;replace Gg2:=hev.b Gg2;replace Gg3:=hev.b' Gg3 (ne_some NE_g3_g8);replace Gg4:=hev.b Gg4;replace Gg5:=hev.b' Gg5 (ne_some NE_g5_g8);clear Gg8;have Gg8:=am hbox;clear hbox hev;))
 rcases Bool.eq_false_or_eq_true m2.spent with hs2|hs2
 ·skip
  have HS2:=am hs2
  clear hs2
  have qs:x16.cell? ⟨g2,2,none⟩=some (.bool true):=(blk_cell Gg2.out (2)).trans (by rw [← HS2.out];rfl)
  go_upto_region 10 with(fail)
  clear qs
  have hE0_:=Evt.drew x16 292
  replace HS:=Z (HS.out.ev (Evt.drew x16 0))
  replace KP:=Z (KP.out.ev (Evt.drew x16 0) (fun q e=>zq121))
  replace HD:=Z (HD.out.ev (Evt.drew x16 0))
  replace Gg2:=(Evt.drew x16 0).b Gg2
  replace Gg3:=(Evt.drew x16 0).b Gg3
  replace Gg4:=(Evt.drew x16 0).b Gg4
  replace Gg5:=(Evt.drew x16 0).b Gg5
  replace Gg8:=(Evt.drew x16 0).b Gg8
  clear hE0_
  refine start_ (n:=4) (S:=fun w'=>w'.heap[g2]? =some (.cells (smC (.slice A0 p.length c0) fuel (m2) (.slice uA m2.trace.length uc) (.slice vA m2.seen.length vc)).toArray 167 (0,0))∧w'.heap[g3]? =some (.cells (sfC ({ c with defers:=l.reverse }) (.slice fA l.length fc)).toArray 169 (0,0))∧True) (ds:= [3]) (bb 4 0) zq27 rfl rfl ⟨Gg2.out,Gg3.out,trivial⟩ (fun hHeld=> ?_)
  generalize x16.drew=x17 at HS KP HD Gg2 Gg3 Gg4 Gg5 Gg8 hHeld ⊢
  refine take1 0 52 (bb 4 1) (hy:=Or.inl ⟨by rfl,zq95⟩) (hS:=hHeld) (h:= ?_)
  refine take1 1 53 (bb 4 3) (hy:=Or.inl ⟨by rfl,zq96⟩) (hS:=hHeld) (h:= ?_)
  refine on_ 2 none (bb 4 7) (h:=fun K hK=> ?_)
  refine sto Gg4.out size_sm (smC_one ..) (h:= ?_)
  intro x18 hc_ hev
  replace HS:=rs HS hev
  replace KP:=kv KP hev
  replace HD:=dv HD hev
  replace Gg2:=hev.b' Gg2 (ne_some NE_g2_g4)
  replace Gg3:=hev.b Gg3
  replace Gg4:=Z (hc_)
  replace Gg5:=hev.b Gg5
  replace Gg8:=hev.b Gg8
  clear hc_ hev
  refine hK.out _ _ ⟨Gg2.out,Gg3.out,trivial⟩ (fun hHeld=> ?_)
  clear hK K
  refine la 3 none (bb 4 15) (h:=fun K hK=> ?_)
  refine sto Gg5.out size_sf (sfC_one ..) (h:= ?_)
  intro x19 hc_ hev
  replace HS:=rs HS hev
  replace KP:=kv KP hev
  replace HD:=dv HD hev
  replace Gg2:=hev.b Gg2
  replace Gg3:=hev.b' Gg3 (ne_some NE_g3_g5)
  replace Gg4:=hev.b Gg4
  replace Gg5:=Z (hc_)
  replace Gg8:=hev.b' Gg8 (ne_some' NE_g5_g8)
  clear hc_ hev
  refine hK.out _ _ ?_
  clear hK K
  refine done_ zq27 ?_
  go_wp2_with (fail)
  refine bodyPost_ret (results_cc rfl _ _ g4 g5 167 169 (smC (.slice A0 p.length c0) fuel (m2) (.slice uA m2.trace.length uc) (.slice vA m2.seen.length vc)).toArray (sfC ({ c with defers:=l.reverse }) (.slice fA l.length fc)).toArray (0,0) (0,0) _ _ rfl Gg4.out und_sm rfl size_sm rfl Gg5.out und_sf rfl size_sf) rfl ?_
  rw [HQ1.out HS2.out]
  exact⟨_,_,_,_,_,rfl,HS.out,HNT.out,HNV.out,HD.out,HAP2.out,KP.out⟩
 have HS2:=am hs2
 clear hs2
 have qs:x16.cell? ⟨g2,2,none⟩=some (.bool false):=(blk_cell Gg2.out (2)).trans (by rw [← HS2.out];rfl);have qo:x16.cell? ⟨g8,14,none⟩=some (.int .i64 i2.outer):=(blk_cell Gg8.out (14)).trans (rfl);have q1:x16.cell? ⟨g3,3,none⟩=some (.int .i64 c.r1):=(blk_cell Gg3.out (3)).trans (rfl);have zq1:=blk_frozen Gg3.out (3)
 go_upto_region 12 with(fail)
 clear qs qo q1 zq1
 have hev:=Evt.set Gg3.out (3) (.int .i64 i2.outer)
 replace HS:=rs HS hev
 replace KP:=kv KP hev
 replace HD:=dv HD hev
 replace Gg2:=hev.b Gg2
 replace Gg3:=Z ((blk_set Gg3.out (3) (.int .i64 i2.outer)).trans (show _=some (Obj.cells (sfC ({ c with defers:=l.reverse,r1:=i2.outer }) (.slice fA l.length fc)).toArray 169 (0,0)) from rfl))
 replace Gg4:=hev.b Gg4
 replace Gg5:=hev.b' Gg5 (ne_some' NE_g3_g5)
 replace Gg8:=hev.b' Gg8 (ne_some' NE_g3_g8)
 clear hev
 generalize x16.setCell ⟨g3,3,none⟩ (.int .i64 i2.outer)=x17 at HS KP HD Gg2 Gg3 Gg4 Gg5 Gg8 ⊢
 skip
 go_cut [] from 9 (fun wc=>Aside0 (SRows wc W0.heap.size (m2) (.slice uA m2.trace.length uc) (.slice vA m2.seen.length vc))∧Aside0 (KeptS (.slice tA m.trace.length tc) (.slice sA m.seen.length sc) w wc)∧Aside0 (DRow wc W0.heap.size (.slice fA l.length fc) (l.reverse))∧Aside0 (wc.heap[g2]? =some (.cells (smC (.slice A0 p.length c0) fuel (m2) (.slice uA m2.trace.length uc) (.slice vA m2.seen.length vc)).toArray 167 (0,0)))∧Aside0 (wc.heap[g3]? =some (.cells (sfC ({ c with defers:=l.reverse,r1:=i2.outer,leaving:=lv }) (.slice fA l.length fc)).toArray 169 (0,0)))∧Aside0 (wc.heap[g4]? =some (.cells zsm 167 (0,0)))∧Aside0 (wc.heap[g5]? =some (.cells zsf 169 (0,0)))∧Aside0 (wc.heap[g8]? =some (.cells (sfC (i2) (.slice eA en ec)).toArray 169 (0,0))))
 case first =>
  rcases Bool.eq_false_or_eq_true c.leaving with hl|hl
  ·skip
   have ql:x17.cell? ⟨g3,9,none⟩=some (.bool true):=(blk_cell Gg3.out (9)).trans (by rw [← hl];rfl);have zql:=blk_frozen Gg3.out (9);have qm:x17.cell? ⟨g8,9,none⟩=some (.bool i2.leaving):=(blk_cell Gg8.out (9)).trans (rfl)
   go_wp2_with (fail)
   clear ql zql qm
   have hev:=Evt.set Gg3.out (9) (.bool true)
   replace HS:=rs HS hev
   replace KP:=kv KP hev
   replace HD:=dv HD hev
   replace Gg2:=hev.b Gg2
   replace Gg3:=Z ((blk_set Gg3.out 9 (.bool true)).trans (show _=some (Obj.cells (sfC ({ c with defers:=l.reverse,r1:=i2.outer,leaving:=lv }) (.slice fA l.length fc)).toArray 169 (0,0)) from by rw [HV1.out hl];rfl))
   replace Gg4:=hev.b Gg4
   replace Gg5:=hev.b' Gg5 (ne_some' NE_g3_g5)
   replace Gg8:=hev.b' Gg8 (ne_some' NE_g3_g8)
   clear hev
   generalize x17.setCell ⟨g3,9,none⟩ (.bool true)=x18 at HS KP HD Gg2 Gg3 Gg4 Gg5 Gg8 ⊢
   go_meet
   case rel=>exact⟨HS,KP,HD,Gg2,Gg3,Gg4,Gg5,Gg8⟩
  ·skip
   have ql:x17.cell? ⟨g3,9,none⟩=some (.bool false):=(blk_cell Gg3.out (9)).trans (by rw [← hl];rfl);have zql:=blk_frozen Gg3.out (9);have qm:x17.cell? ⟨g8,9,none⟩=some (.bool i2.leaving):=(blk_cell Gg8.out (9)).trans (rfl)
   go_wp2_with (fail)
   clear ql zql qm
   have hev:=Evt.set Gg3.out (9) (.bool i2.leaving)
   replace HS:=rs HS hev
   replace KP:=kv KP hev
   replace HD:=dv HD hev
   replace Gg2:=hev.b Gg2
   replace Gg3:=Z ((blk_set Gg3.out 9 (.bool i2.leaving)).trans (show _=some (Obj.cells (sfC ({ c with defers:=l.reverse,r1:=i2.outer,leaving:=lv }) (.slice fA l.length fc)).toArray 169 (0,0)) from by rw [HV2.out hl];rfl))
   replace Gg4:=hev.b Gg4
   replace Gg5:=hev.b' Gg5 (ne_some' NE_g3_g5)
   replace Gg8:=hev.b' Gg8 (ne_some' NE_g3_g8)
   clear hev
   generalize x17.setCell ⟨g3,9,none⟩ (.bool i2.leaving)=x18 at HS KP HD Gg2 Gg3 Gg4 Gg5 Gg8 ⊢
   go_meet
   case rel=>exact⟨HS,KP,HD,Gg2,Gg3,Gg4,Gg5,Gg8⟩
 clear HS KP HD Gg2 Gg3 Gg4 Gg5 Gg8
 obtain⟨HS,KP,HD,Gg2,Gg3,Gg4,Gg5,Gg8⟩:=hcut
 generalize wc=x19 at HS KP HD Gg2 Gg3 Gg4 Gg5 Gg8 ⊢
 have qr:x19.cell? ⟨g8,13,none⟩=some (.bool i2.recovered):=(blk_cell Gg8.out (13)).trans (rfl)
 go_upto_if 66 with(fail)
 clear qr
 skip
 go_cut [] from 9 (fun wc=>Aside0 (SRows wc W0.heap.size (m2) (.slice uA m2.trace.length uc) (.slice vA m2.seen.length vc))∧Aside0 (KeptS (.slice tA m.trace.length tc) (.slice sA m.seen.length sc) w wc)∧Aside0 (DRow wc W0.heap.size (.slice fA l.length fc) (l.reverse))∧Aside0 (wc.heap[g2]? =some (.cells (smC (.slice A0 p.length c0) fuel (m2) (.slice uA m2.trace.length uc) (.slice vA m2.seen.length vc)).toArray 167 (0,0)))∧Aside0 (wc.heap[g3]? =some (.cells (sfC ({ c with defers:=l.reverse,r1:=i2.outer,leaving:=lv,kind:=k4 }) (.slice fA l.length fc)).toArray 169 (0,0)))∧Aside0 (wc.heap[g4]? =some (.cells zsm 167 (0,0)))∧Aside0 (wc.heap[g5]? =some (.cells zsf 169 (0,0)))∧Aside0 (wc.heap[g8]? =some (.cells (sfC (i2) (.slice eA en ec)).toArray 169 (0,0))))
 case first =>
  rcases Bool.eq_false_or_eq_true i2.recovered with hrc|hrc
  rcases Bool.eq_false_or_eq_true lv with hl|hl
  ·skip
   have qk:x19.cell? ⟨g3,7,none⟩=some (.int .i64 c.kind):=(blk_cell Gg3.out (7)).trans (rfl);have zqk:=blk_frozen Gg3.out (7)
   rw [hrc]
   go_upto_region 15 with(fail)
   clear qk zqk
   have hev:=Evt.set Gg3.out (7) (.int .i64 1)
   replace HS:=rs HS hev
   replace KP:=kv KP hev
   replace HD:=dv HD hev
   replace Gg2:=hev.b Gg2
   replace Gg3:=Z ((blk_set Gg3.out (7) (.int .i64 1)).trans (show _=some (Obj.cells (sfC ({ c with defers:=l.reverse,r1:=i2.outer,leaving:=lv,kind:=1 }) (.slice fA l.length fc)).toArray 169 (0,0)) from rfl))
   replace Gg4:=hev.b Gg4
   replace Gg5:=hev.b' Gg5 (ne_some' NE_g3_g5)
   replace Gg8:=hev.b' Gg8 (ne_some' NE_g3_g8)
   clear hev
   generalize x19.setCell ⟨g3,7,none⟩ (.int .i64 1)=x20 at HS KP HD Gg2 Gg3 Gg4 Gg5 Gg8 ⊢
   have ql:x20.cell? ⟨g3,9,none⟩=some (.bool true):=(blk_cell Gg3.out (9)).trans (by rw [← hl];rfl);have qk:x20.cell? ⟨g3,7,none⟩=some (.int .i64 1):=(blk_cell Gg3.out (7)).trans (rfl);have zqk:=blk_frozen Gg3.out (7)
   go_wp2_with (fail)
   clear ql qk zqk
   have hev:=Evt.set Gg3.out (7) (.int .i64 3)
   replace HS:=rs HS hev
   replace KP:=kv KP hev
   replace HD:=dv HD hev
   replace Gg2:=hev.b Gg2
   replace Gg3:=Z ((blk_set Gg3.out (7) (.int .i64 3)).trans (show _=some (Obj.cells (sfC ({ c with defers:=l.reverse,r1:=i2.outer,leaving:=lv,kind:=3 }) (.slice fA l.length fc)).toArray 169 (0,0)) from rfl))
   replace Gg4:=hev.b Gg4
   replace Gg5:=hev.b' Gg5 (ne_some' NE_g3_g5)
   replace Gg8:=hev.b' Gg8 (ne_some' NE_g3_g8)
   clear hev
   generalize x20.setCell ⟨g3,7,none⟩ (.int .i64 3)=x21 at HS KP HD Gg2 Gg3 Gg4 Gg5 Gg8 ⊢
   have h_:=Gg3.out
   clear Gg3
   have Gg3:=Z (show x21.heap[g3]? =some (.cells (sfC ({ c with defers:=l.reverse,r1:=i2.outer,leaving:=lv,kind:=k4 }) (.slice fA l.length fc)).toArray 169 (0,0)) from by rw [h_,HK1.out hrc hl])
   clear h_
   go_meet
   case rel=>exact⟨HS,KP,HD,Gg2,Gg3,Gg4,Gg5,Gg8⟩
  ·skip
   have qk:x19.cell? ⟨g3,7,none⟩=some (.int .i64 c.kind):=(blk_cell Gg3.out (7)).trans (rfl);have zqk:=blk_frozen Gg3.out (7)
   rw [hrc]
   go_upto_region 15 with(fail)
   clear qk zqk
   have hev:=Evt.set Gg3.out (7) (.int .i64 1)
   replace HS:=rs HS hev
   replace KP:=kv KP hev
   replace HD:=dv HD hev
   replace Gg2:=hev.b Gg2
   replace Gg3:=Z ((blk_set Gg3.out (7) (.int .i64 1)).trans (show _=some (Obj.cells (sfC ({ c with defers:=l.reverse,r1:=i2.outer,leaving:=lv,kind:=1 }) (.slice fA l.length fc)).toArray 169 (0,0)) from rfl))
   replace Gg4:=hev.b Gg4
   replace Gg5:=hev.b' Gg5 (ne_some' NE_g3_g5)
   replace Gg8:=hev.b' Gg8 (ne_some' NE_g3_g8)
   clear hev
   generalize x19.setCell ⟨g3,7,none⟩ (.int .i64 1)=x20 at HS KP HD Gg2 Gg3 Gg4 Gg5 Gg8 ⊢
   have ql:x20.cell? ⟨g3,9,none⟩=some (.bool false):=(blk_cell Gg3.out (9)).trans (by rw [← hl];rfl)
   go_wp2_with (fail)
   clear ql
   have h_:=Gg3.out
   clear Gg3
   have Gg3:=Z (show x20.heap[g3]? =some (.cells (sfC ({ c with defers:=l.reverse,r1:=i2.outer,leaving:=lv,kind:=k4 }) (.slice fA l.length fc)).toArray 169 (0,0)) from by rw [h_,HK2.out hrc hl])
   clear h_
   go_meet
   case rel=>exact⟨HS,KP,HD,Gg2,Gg3,Gg4,Gg5,Gg8⟩
  ·skip
   rw [hrc]
   go_wp2_with (fail)
   have h_:=Gg3.out
   clear Gg3
   have Gg3:=Z (show x19.heap[g3]? =some (.cells (sfC ({ c with defers:=l.reverse,r1:=i2.outer,leaving:=lv,kind:=k4 }) (.slice fA l.length fc)).toArray 169 (0,0)) from by rw [h_,HK3.out hrc])
   clear h_
   go_meet
   case rel=>exact⟨HS,KP,HD,Gg2,Gg3,Gg4,Gg5,Gg8⟩
 clear HS KP HD Gg2 Gg3 Gg4 Gg5 Gg8
 obtain⟨HS,KP,HD,Gg2,Gg3,Gg4,Gg5,Gg8⟩:=hcut
 generalize wc=x22 at HS KP HD Gg2 Gg3 Gg4 Gg5 Gg8 ⊢
 have qi:x22.cell? ⟨g8,7,none⟩=some (.int .i64 i2.kind):=(blk_cell Gg8.out (7)).trans (rfl)
 go_upto_if 73 with(fail)
 clear qi
 skip
 go_cut [] from 9 (fun wc=>Aside0 (SRows wc W0.heap.size (m2) (.slice uA m2.trace.length uc) (.slice vA m2.seen.length vc))∧Aside0 (KeptS (.slice tA m.trace.length tc) (.slice sA m.seen.length sc) w wc)∧Aside0 (DRow wc W0.heap.size (.slice fA l.length fc) (l.reverse))∧Aside0 (wc.heap[g2]? =some (.cells (smC (.slice A0 p.length c0) fuel (m2) (.slice uA m2.trace.length uc) (.slice vA m2.seen.length vc)).toArray 167 (0,0)))∧Aside0 (wc.heap[g3]? =some (.cells (sfC ({ c with defers:=l.reverse,r1:=i2.outer,leaving:=lv,kind:=k5,value:=v5 }) (.slice fA l.length fc)).toArray 169 (0,0)))∧Aside0 (wc.heap[g4]? =some (.cells zsm 167 (0,0)))∧Aside0 (wc.heap[g5]? =some (.cells zsf 169 (0,0)))∧Aside0 (wc.heap[g8]? =some (.cells (sfC (i2) (.slice eA en ec)).toArray 169 (0,0))))
 case first =>
  by_cases hk:i2.kind=2
  ·skip
   have qk:x22.cell? ⟨g3,7,none⟩=some (.int .i64 k4):=(blk_cell Gg3.out (7)).trans (rfl);have zqk:=blk_frozen Gg3.out (7)
   go_upto_region 19 with(fail)
   clear qk zqk
   have hev:=Evt.set Gg3.out (7) (.int .i64 2)
   replace HS:=rs HS hev
   replace KP:=kv KP hev
   replace HD:=dv HD hev
   replace Gg2:=hev.b Gg2
   replace Gg3:=Z ((blk_set Gg3.out (7) (.int .i64 2)).trans (show _=some (Obj.cells (sfC ({ c with defers:=l.reverse,r1:=i2.outer,leaving:=lv,kind:=2 }) (.slice fA l.length fc)).toArray 169 (0,0)) from rfl))
   replace Gg4:=hev.b Gg4
   replace Gg5:=hev.b' Gg5 (ne_some' NE_g3_g5)
   replace Gg8:=hev.b' Gg8 (ne_some' NE_g3_g8)
   clear hev
   generalize x22.setCell ⟨g3,7,none⟩ (.int .i64 2)=x23 at HS KP HD Gg2 Gg3 Gg4 Gg5 Gg8 ⊢
   have qv:x23.cell? ⟨g8,8,none⟩=some (.int .i64 i2.value):=(blk_cell Gg8.out (8)).trans (rfl);have qw:x23.cell? ⟨g3,8,none⟩=some (.int .i64 c.value):=(blk_cell Gg3.out (8)).trans (rfl);have zqw:=blk_frozen Gg3.out (8)
   go_wp2_with (fail)
   clear qv qw zqw
   have hev:=Evt.set Gg3.out (8) (.int .i64 i2.value)
   replace HS:=rs HS hev
   replace KP:=kv KP hev
   replace HD:=dv HD hev
   replace Gg2:=hev.b Gg2
   replace Gg3:=Z ((blk_set Gg3.out 8 (.int .i64 i2.value)).trans (show _=some (Obj.cells (sfC ({ c with defers:=l.reverse,r1:=i2.outer,leaving:=lv,kind:=k5,value:=v5 }) (.slice fA l.length fc)).toArray 169 (0,0)) from by rw [(HK4.out hk).1,(HK4.out hk).2];rfl))
   replace Gg4:=hev.b Gg4
   replace Gg5:=hev.b' Gg5 (ne_some' NE_g3_g5)
   replace Gg8:=hev.b' Gg8 (ne_some' NE_g3_g8)
   clear hev
   generalize x23.setCell ⟨g3,8,none⟩ (.int .i64 i2.value)=x24 at HS KP HD Gg2 Gg3 Gg4 Gg5 Gg8 ⊢
   go_meet
   case rel=>exact⟨HS,KP,HD,Gg2,Gg3,Gg4,Gg5,Gg8⟩
  ·skip
   go_wp2_with (fail)
   have h_:=Gg3.out
   clear Gg3
   have Gg3:=Z (show x22.heap[g3]? =some (.cells (sfC ({ c with defers:=l.reverse,r1:=i2.outer,leaving:=lv,kind:=k5,value:=v5 }) (.slice fA l.length fc)).toArray 169 (0,0)) from by rw [h_,(HK5.out hk).1,(HK5.out hk).2])
   clear h_
   go_meet
   case rel=>exact⟨HS,KP,HD,Gg2,Gg3,Gg4,Gg5,Gg8⟩
 clear HS KP HD Gg2 Gg3 Gg4 Gg5 Gg8
 obtain⟨HS,KP,HD,Gg2,Gg3,Gg4,Gg5,Gg8⟩:=hcut
 generalize wc=x25 at HS KP HD Gg2 Gg3 Gg4 Gg5 Gg8 ⊢
 have qi:x25.cell? ⟨g8,7,none⟩=some (.int .i64 i2.kind):=(blk_cell Gg8.out (7)).trans (rfl)
 go_upto_if 80 with(fail)
 clear qi
 skip
 go_cut [] from 9 (fun wc=>Aside0 (SRows wc W0.heap.size (m2) (.slice uA m2.trace.length uc) (.slice vA m2.seen.length vc))∧Aside0 (KeptS (.slice tA m.trace.length tc) (.slice sA m.seen.length sc) w wc)∧Aside0 (DRow wc W0.heap.size (.slice fA l.length fc) (l.reverse))∧Aside0 (wc.heap[g2]? =some (.cells (smC (.slice A0 p.length c0) fuel (m2) (.slice uA m2.trace.length uc) (.slice vA m2.seen.length vc)).toArray 167 (0,0)))∧Aside0 (wc.heap[g3]? =some (.cells (sfC ({ c with defers:=l.reverse,r1:=i2.outer,leaving:=lv,kind:=k6,value:=v5 }) (.slice fA l.length fc)).toArray 169 (0,0)))∧Aside0 (wc.heap[g4]? =some (.cells zsm 167 (0,0)))∧Aside0 (wc.heap[g5]? =some (.cells zsf 169 (0,0)))∧Aside0 (wc.heap[g8]? =some (.cells (sfC (i2) (.slice eA en ec)).toArray 169 (0,0))))
 case first =>
  by_cases hk:i2.kind=3
  ·skip
   have qk:x25.cell? ⟨g3,7,none⟩=some (.int .i64 k5):=(blk_cell Gg3.out (7)).trans (rfl);have zqk:=blk_frozen Gg3.out (7)
   go_wp2_with (fail)
   clear qk zqk
   have hev:=Evt.set Gg3.out (7) (.int .i64 3)
   replace HS:=rs HS hev
   replace KP:=kv KP hev
   replace HD:=dv HD hev
   replace Gg2:=hev.b Gg2
   replace Gg3:=Z ((blk_set Gg3.out 7 (.int .i64 3)).trans (show _=some (Obj.cells (sfC ({ c with defers:=l.reverse,r1:=i2.outer,leaving:=lv,kind:=k6,value:=v5 }) (.slice fA l.length fc)).toArray 169 (0,0)) from by rw [HK6.out hk];rfl))
   replace Gg4:=hev.b Gg4
   replace Gg5:=hev.b' Gg5 (ne_some' NE_g3_g5)
   replace Gg8:=hev.b' Gg8 (ne_some' NE_g3_g8)
   clear hev
   generalize x25.setCell ⟨g3,7,none⟩ (.int .i64 3)=x26 at HS KP HD Gg2 Gg3 Gg4 Gg5 Gg8 ⊢
   go_meet
   case rel=>exact⟨HS,KP,HD,Gg2,Gg3,Gg4,Gg5,Gg8⟩
  ·skip
   go_wp2_with (fail)
   have h_:=Gg3.out
   clear Gg3
   have Gg3:=Z (show x25.heap[g3]? =some (.cells (sfC ({ c with defers:=l.reverse,r1:=i2.outer,leaving:=lv,kind:=k6,value:=v5 }) (.slice fA l.length fc)).toArray 169 (0,0)) from by rw [h_,HK7.out hk])
   clear h_
   go_meet
   case rel=>exact⟨HS,KP,HD,Gg2,Gg3,Gg4,Gg5,Gg8⟩
 clear HS KP HD Gg2 Gg3 Gg4 Gg5 Gg8
 obtain⟨HS,KP,HD,Gg2,Gg3,Gg4,Gg5,Gg8⟩:=hcut
 generalize wc=x27 at HS KP HD Gg2 Gg3 Gg4 Gg5 Gg8 ⊢
 go_upto_region 22 with(fail)
 have hE0_:=Evt.drew x27 292
 replace HS:=Z (HS.out.ev (Evt.drew x27 0))
 replace KP:=Z (KP.out.ev (Evt.drew x27 0) (fun q e=>zq121))
 replace HD:=Z (HD.out.ev (Evt.drew x27 0))
 replace Gg2:=(Evt.drew x27 0).b Gg2
 replace Gg3:=(Evt.drew x27 0).b Gg3
 replace Gg4:=(Evt.drew x27 0).b Gg4
 replace Gg5:=(Evt.drew x27 0).b Gg5
 replace Gg8:=(Evt.drew x27 0).b Gg8
 clear hE0_
 refine start_ (n:=4) (S:=fun w'=>w'.heap[g2]? =some (.cells (smC (.slice A0 p.length c0) fuel (m2) (.slice uA m2.trace.length uc) (.slice vA m2.seen.length vc)).toArray 167 (0,0))∧w'.heap[g3]? =some (.cells (sfC ({ c with defers:=l.reverse,r1:=i2.outer,leaving:=lv,kind:=k6,value:=v5 }) (.slice fA l.length fc)).toArray 169 (0,0))∧True) (ds:= [3]) (bb 4 0) zq27 rfl rfl ⟨Gg2.out,Gg3.out,trivial⟩ (fun hHeld=> ?_)
 generalize x27.drew=x28 at HS KP HD Gg2 Gg3 Gg4 Gg5 Gg8 hHeld ⊢
 refine take1 0 82 (bb 4 1) (hy:=Or.inl ⟨by rfl,zq95⟩) (hS:=hHeld) (h:= ?_)
 refine take1 1 83 (bb 4 3) (hy:=Or.inl ⟨by rfl,zq96⟩) (hS:=hHeld) (h:= ?_)
 refine on_ 2 none (bb 4 7) (h:=fun K hK=> ?_)
 refine sto Gg4.out size_sm (smC_one ..) (h:= ?_)
 intro x29 hc_ hev
 replace HS:=rs HS hev
 replace KP:=kv KP hev
 replace HD:=dv HD hev
 replace Gg2:=hev.b' Gg2 (ne_some NE_g2_g4)
 replace Gg3:=hev.b Gg3
 replace Gg4:=Z (hc_)
 replace Gg5:=hev.b Gg5
 replace Gg8:=hev.b Gg8
 clear hc_ hev
 refine hK.out _ _ ⟨Gg2.out,Gg3.out,trivial⟩ (fun hHeld=> ?_)
 clear hK K
 refine la 3 none (bb 4 15) (h:=fun K hK=> ?_)
 refine sto Gg5.out size_sf (sfC_one ..) (h:= ?_)
 intro x30 hc_ hev
 replace HS:=rs HS hev
 replace KP:=kv KP hev
 replace HD:=dv HD hev
 replace Gg2:=hev.b Gg2
 replace Gg3:=hev.b' Gg3 (ne_some NE_g3_g5)
 replace Gg4:=hev.b Gg4
 replace Gg5:=Z (hc_)
 replace Gg8:=hev.b' Gg8 (ne_some' NE_g5_g8)
 clear hc_ hev
 refine hK.out _ _ ?_
 clear hK K
 refine done_ zq27 ?_
 go_wp2_with (fail)
 refine bodyPost_ret (results_cc rfl _ _ g4 g5 167 169 (smC (.slice A0 p.length c0) fuel (m2) (.slice uA m2.trace.length uc) (.slice vA m2.seen.length vc)).toArray (sfC ({ c with defers:=l.reverse,r1:=i2.outer,leaving:=lv,kind:=k6,value:=v5 }) (.slice fA l.length fc)).toArray (0,0) (0,0) _ _ rfl Gg4.out und_sm rfl size_sm rfl Gg5.out und_sf rfl size_sf) rfl ?_
 rw [HQ2.out HS2.out]
 exact⟨_,_,_,_,_,rfl,HS.out,HNT.out,HNV.out,HD.out,HAP2.out,KP.out⟩
end Go.Proofs.Yteiafboknimgbaa.Pr.M
end
