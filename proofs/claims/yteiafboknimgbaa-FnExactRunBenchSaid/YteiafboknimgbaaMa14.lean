import Derived.Test.YteiafboknimgbaaMa13
set_option maxHeartbeats 8000000
set_option maxRecDepth 100000
set_option linter.unusedVariables false
set_option linter.unusedSimpArgs false
section
namespace Go.Proofs.Yteiafboknimgbaa.Pr.M
open Go.RowKit Go.Proofs.W.PrintWords Go.Proofs.W.PrintLast Go.Proofs.W.PrintMore
theorem PaOk.keptB {W W':World} {base gf B:Nat} {par:Option Fr} {pv rp pp:Value} {p:Option Nat} (h:PaOk W base gf par pv rp pp)(k:KeptB base p B W W')(hB:W.heap.size≤B)(hp:p=none∨p=some gf):PaOk W' base gf par pv rp pp:=by
 cases par with
 |none=>exact h
 |some pf =>
  obtain⟨gp,h1,h2,h3,h4⟩:=h
  refine⟨gp,h1,k.cells _ _ _ _ (Nat.lt_of_lt_of_le (blk_lt h2) hB) h2 zq83 (fun _ he=> ?_),h3,h4⟩
  rcases hp with h5|h5
  ·rw [h5] at he;cases he
  ·rw [h5] at he;injection he with he;exact h3 he.symm
theorem KeptB.row {W W':World} {base B:Nat} {p:Option Nat} (k:KeptB base p B W W')(hB:W.heap.size≤B){b e s n:Nat} {a:Value} {xs:List Value} (hr:W.ownsRow b e s a n xs)(ht:mty e=false)(hp:e≠292):W'.ownsRow b e s a n xs:=by
 refine⟨hr.1,?_⟩
 rcases hr.2 with e1|⟨g,cap,cur,e1,e2,e3,e4⟩
 ·exact .inl e1
 ·exact .inr ⟨g,cap,cur,e1,e2,k.cells _ _ _ _ (Nat.lt_of_lt_of_le (blk_lt e3) hB) e3 ht (fun e'=>absurd e' hp),e4⟩
def Step4(w w':World)(base B gm gf:Nat)(A0:Value)(fuel:Int)(v:MV)(f:Fr)(par:Option Fr)(rv pv rp pp:Value)(r:ResI)(e:Ending):Prop :=
 (r.2=none∧e= .panicked spentChain∧ ∃ v',v'.pl=v.pl∧Mach w' base gm A0 fuel r.1 v'∧PlOk w' base v.pl r.1.places∧KeptB base (parG pv) B w w') ∨
 ∃ d f' b v',r.2=some (d,some f)∧((d.fin=1∧b=false∧f'= { f with leaving:=f.leaving||d.leaving,r2:=d.r1 })∨(d.fin≠1∧b=true∧f'= { f with leaving:=f.leaving||d.leaving,fin:=d.fin,pan:=d.pan }))∧e= .returned (.bool b) ∧
  v'.pl=v.pl∧Mach w' base gm A0 fuel r.1 v'∧FrOk w' base B gf f' rv pv∧PaOk w' base gf par pv rp pp∧PlOk w' base v.pl r.1.places∧KeptB base (parG pv) B w w'
theorem Step4.ret {w x W:World} {base B gm gf:Nat} {A0:Value} {fuel:Int} {v v':MV} {f d f':Fr} {par:Option Fr} {rv pv rp pp:Value} {r:ResI} {b:Bool} {cs:List Value} (hr:r.2=some (d,some f))(hf:(d.fin=1∧b=false∧f'= { f with leaving:=f.leaving||d.leaving,r2:=d.r1 })∨(d.fin≠1∧b=true∧f'= { f with leaving:=f.leaving||d.leaving,fin:=d.fin,pan:=d.pan }))
  (hpl:v'.pl=v.pl) (hA:Wk x W base (parG pv) B gm cs r.1 v') (hc:cs=machC A0 fuel r.1 v') (hF:W.heap[gf]? =some (.cells (frC f' rv pv).toArray 292 (0,0))) (hR:W.ownsRow base 326 2 rv f'.runs.length (f'.runs.flatMap prC)) (hbf:base≤gf) (hBf:B≤gf) (hrB: ∀ q,rv.ownBlock=some q→B≤q)
  (hP:PaOk W base gf par pv rp pp) (hPl:PlOk x base v.pl r.1.places) (hk:KeptB base (parG pv) B w x):Step4 w W base B gm gf A0 fuel v f par rv pv rp pp r (.returned (.bool b)):=by
 subst hc
 exact .inr ⟨d,f',b,v',hr,hf,rfl,hpl,hA.mach,⟨hF,hR,hbf,hBf,hrB⟩,hP,hPl.maps hA.maps,hk.trans hA.kept⟩
theorem step_4(W0:World)(A0:Option Addr)(c0:Nat)(p:List (List St))(N fuel:Int)(R dd:Nat)(hC:CallC W0 A0 c0 p N fuel R dd)(w:World)(B gm gf:Nat)(m:MS)(v:MV)(f:Fr)(par:Option Fr)(rv pv rp pp:Value)(H:Mach w W0.heap.size gm (.slice A0 p.length c0) fuel m v)(F:FrOk w W0.heap.size B gf f rv pv)(PA:PaOk w W0.heap.size gf par pv rp pp)
  (hPL:PlOk w W0.heap.size v.pl m.places) (hbel:Below W0.heap.size W0 w) (hB:B≤w.heap.size) (b:Nat) (hb4:b<4) (x:Int) (hsm: ∃ sm,RM m sm∧sm.spent=false) (hle:m.made≤fuel) (hna:Num (reg f b)) (hx:0≤x∧x<N) (hdep:m.depth+dd=8) (hroom:(m.trace.length:Int)+3*(fuel-m.made)+2≤100000) (hpls:(m.places.length:Int)=m.made)
  (hin: ∀ d par',(callI p fuel R dd m x (reg f b) (some f) false).2=some (d,par')→par'=some f∧(d.fin=1∨d.fin=2∨d.fin=3)) :
  Calls Try.prog 308 #[.pointer (some ⟨gm,0,none⟩),.pointer (some ⟨gf,0,none⟩),.agg #[.int .i64 4,.int .i64 x,.int .i64 (b:Int)]] w fun e w'=>Step4 w w' W0.heap.size B gm gf (.slice A0 p.length c0) fuel v f par rv pv rp pp (callI p fuel R dd m x (reg f b) (some f) false) e:=by
 have hb:W0.heap.size≤w.heap.size:=hbel.size
 have HA:=Z (H.wk hb (parG pv) B)
 clear H
 have HF:=am F.blk
 have HR:=am F.run
 have hbf:=F.low
 have hBf:=F.hB
 have HRB:=am F.rB
 have HPO:=am PA
 clear F PA
 have HPL:=am hPL
 have HBEL:=am hbel
 have HCC:=am hC
 have HSM:=am hsm
 have HDEP:=am hdep
 have HPLS:=am hpls
 have HIN:=am hin
 have HNA:=am hna
 have hb4i:(b:Int)<4:=by omega
 clear hPL hbel hC hsm hpls hdep hin hna
 have e165: ∀ args w,(callFunc 292 args).run Try.prog w= .ok (.enter 292 args) w:=enters_of Try.func292 zq27 rfl
 go_enter Try.func308,Try.ntmps308
 go_upto_region 10 with(first|(refine bx 5 #[.int .i64 4,.int .i64 x,.int .i64 (b:Int)] 219 (h:= ?_);intro gs hgs w1 hbox hbel;have hE_:=Evt.below hbel 0;replace HA:=Z (HA.out.below hbel);replace HF:=hE_.b HF;replace HR:=hE_.r HR;replace HPO:=Z (HPO.out.ev hE_);have HS:=am hbox;clear hbel hbox hgs hE_;obtain⟨hs0,hs1,hs2⟩:=cl3 HS.out))
 clear hs0 hs1 hs2
 have hE0_:=Evt.drew w1 292
 replace HA:=Z (HA.out.drew)
 replace HF:=(Evt.drew w1 0).b HF
 replace HR:=(Evt.drew w1 0).r HR
 replace HPO:=Z (HPO.out.ev (Evt.drew w1 0))
 replace HS:=(Evt.drew w1 0).b HS
 clear hE0_
 refine start_ (n:=13) (S:=fun w'=>w'.cell? ⟨gs,1,none⟩=some (.int .i64 x)∧w'.cell? ⟨gs,2,none⟩=some (.int .i64 (b:Int))∧w'.cell? ⟨gf,2+b,none⟩=some (.int .i64 (reg f b))∧True) (ds:= [11]) (bb 13 0) zq27 rfl rfl ⟨(blk_cell HS.out 1).trans rfl,(blk_cell HS.out 2).trans rfl,frC_cell HF.out b hb4,trivial⟩ (fun hHeld=> ?_)
 generalize w1.drew=x1 at HA HF HR HPO HS hHeld ⊢
 refine pure1 0 65 (bb 13 1) (h:= ?_)
 refine pure1 1 66 (bb 13 3) (h:= ?_)
 refine take1 2 67 (bb 13 7) (hS:=hHeld) (h:= ?_)
 refine pure1 3 68 (bb 13 15) (h:= ?_)
 refine pure1 4 69 (bb 13 31) (h:= ?_)
 refine take1 5 70 (bb 13 63) (hS:=hHeld) (h:= ?_)
 refine pure1 6 71 (bb 13 127) (h:= ?_)
 refine pure1 7 72 (bb 13 255) (h:= ?_)
 refine pure1 8 73 (bb 13 511) (h:= ?_)
 refine take1 9 74 (bb 13 1023) (hS:=hHeld) (h:= ?_)
 refine pure1 10 75 (bb 13 2047) (h:= ?_)
 refine la 11 (some 76) (bb 13 4095) (h:=fun K hK=> ?_)
 refine goesP_ Try.func292 zq27 rfl #[.pointer (some ⟨gm,0,none⟩),.int .i64 x,.int .i64 (reg f b),.pointer (some ⟨gf,0,none⟩),.bool false] (by rfl) rfl rfl zq84 ?_
 refine(HCC.out _ gm m v x (reg f b) (some f) (.pointer (some ⟨gf,0,none⟩)) rv pv false HA.out.mach (HPL.out.maps HA.out.maps) (HA.out.kept.bel HBEL.out) ⟨gf,rfl,HF.out,hbf⟩ HSM.out hle HNA.out hx (fun e=>zq121) HDEP.out hroom HPLS.out).mono ?_
 rintro e wz hpost
 have HK0:=Z (HA.out.kept)
 have hszB:B≤x1.heap.size:=Nat.le_trans hB HA.out.kept.size
 rcases hpost with⟨hr,rfl,v',hpl,hM,hPl,hK1⟩|⟨d,par',gd,rd,v',hr,rfl,hpl,hM,hPl,hgd,hD,hPA,hK1⟩
 ·refine Or.inr ⟨_,rfl,?_⟩
  exact⟨rfl,Or.inl ⟨hr,rfl,v',hpl,hM,hPl,HK0.out.inner hK1 hszB (fun g e=>zq89)⟩⟩
 refine Or.inl ⟨_,rfl,?_⟩
 obtain⟨hpe,hdfin⟩:=HIN.out d par' hr
 subst hpe
 obtain⟨gq,hq1,hq2,hq3,hq4⟩:=hPA
 have hq:gf=gq:=by injection hq1 with hq1;injection hq1 with hq1;injection hq1
 subst hq
 have HF2:=am hq2
 have NE:=am hq3
 have HD:=am hD
 have HRR:=am hr
 have HPLL:=am hpl
 have HDF:=am hdfin
 have HPL2:=am hPl
 have HKK:=Z (HK0.out.inner hK1 hszB (fun g e=>zq89))
 have HR2:=Z (KeptB.row hK1 (Nat.le_refl _) HR.out zq83 zq83)
 have HPO2:=Z (HPO.out.keptB hK1 (Nat.le_refl _) (.inr rfl))
 have HA2:=Z (hM.wk (Nat.le_trans HA.out.sz hK1.size) (parG pv) B)
 clear HF HR HPO HA HK0 hD hq2 hq3 hq1 hr hpl hdfin hPl hK1 hM HS hszB hgd hq4
 have HF:=HF2
 have HR:=HR2
 have HPO:=HPO2
 have HA:=HA2
 clear HF2 HR2 HPO2 HA2
 refine hK.out _ _ ?_
 clear hK K
 refine nm 76 (h:= ?_)
 refine pure1 12 8 (bb 13 8191) (h:= ?_)
 refine done_ zq27 ?_
 have hca0:wz.cell? ⟨gf,10,none⟩=some (.bool f.leaving):=(blk_cell HF.out 10).trans rfl
 have hfa0:=blk_frozen HF.out 10
 have hca1:wz.cell? ⟨gd,10,none⟩=some (.bool d.leaving):=(blk_cell HD.out 10).trans rfl
 cases hfl:f.leaving
 all_goals
  go_upto_region 12 with(fail)
  first
  |rw [show wz.setCell ⟨gf,10,none⟩ (.bool d.leaving)=wz.setCell ⟨gf,10,none⟩ (.bool (f.leaving||d.leaving)) from by rw [hfl];rfl]
  |rw [show wz.setCell ⟨gf,10,none⟩ (.bool true)=wz.setCell ⟨gf,10,none⟩ (.bool (f.leaving||d.leaving)) from by rw [hfl];rfl]
  clear hfl hca0 hfa0 hca1
  have hev:=Evt.set HF.out (10) (.bool (f.leaving||d.leaving))
  replace HA:=Z (HA.out.other hev zq83 (fun q hq=>zq85))
  replace HF:=Z ((blk_set HF.out (10) (.bool (f.leaving||d.leaving))).trans (show _=some (Obj.cells (frC ({ f with leaving:=(f.leaving||d.leaving) }) rv pv).toArray 292 (0,0)) from rfl))
  replace HR:=hev.r HR
  replace HPO:=Z (HPO.out.ev hev)
  replace HD:=hev.b' HD (by simpa using NE.out.symm)
  clear hev
  generalize wz.setCell ⟨gf,10,none⟩ (.bool (f.leaving||d.leaving))=x2 at HA HF HR HPO HD ⊢
  have hcd:x2.cell? ⟨gd,11,none⟩=some (.int .i64 d.fin):=(blk_cell HD.out 11).trans rfl
  by_cases hd1:d.fin=1
  ·
   go_upto_region 13 with(fail)
   clear hcd
   have HD1:=am hd1
   clear hd1
   have hE0_:=Evt.drew x2 292
   replace HA:=Z (HA.out.drew)
   replace HF:=(Evt.drew x2 0).b HF
   replace HR:=(Evt.drew x2 0).r HR
   replace HPO:=Z (HPO.out.ev (Evt.drew x2 0))
   replace HD:=(Evt.drew x2 0).b HD
   clear hE0_
   refine start_ (n:=10) (S:=fun w'=>w'.cell? ⟨gd,3,none⟩=some (.int .i64 d.r1)∧True) (ds:= [9]) (bb 10 0) zq27 rfl rfl ⟨(blk_cell HD.out 3).trans rfl,trivial⟩ (fun hHeld=> ?_)
   generalize x2.drew=x3 at HA HF HR HPO HD hHeld ⊢
   refine pure1 0 95 (bb 10 1) (h:= ?_)
   refine pure1 1 96 (bb 10 3) (h:= ?_)
   refine pure1 2 97 (bb 10 7) (h:= ?_)
   refine pure1 3 98 (bb 10 15) (h:= ?_)
   refine pure1 4 99 (bb 10 31) (h:= ?_)
   refine take1 5 100 (bb 10 63) (hS:=hHeld) (h:= ?_)
   refine pure1 6 101 (bb 10 127) (h:= ?_)
   refine pure1 7 102 (bb 10 255) (h:= ?_)
   refine pure1 8 103 (bb 10 511) (h:= ?_)
   refine la 9 none (bb 10 1023) (h:=fun K hK=> ?_)
   have hc_:=(blk_cell HF.out (4)).trans (show _=some (Value.int .i64 f.r2) from rfl)
   have hf_:=blk_frozen HF.out (4)
   rw [if_pos (by rfl)]
   unfold Oper.wp
   go_simp
   clear hc_ hf_
   have hev:=Evt.set HF.out (4) (.int .i64 d.r1)
   replace HA:=Z (HA.out.other hev zq83 (fun q hq=>zq85))
   replace HF:=Z ((blk_set HF.out (4) (.int .i64 d.r1)).trans (show _=some (Obj.cells (frC ({ f with leaving:=(f.leaving||d.leaving),r2:=d.r1 }) rv pv).toArray 292 (0,0)) from rfl))
   replace HR:=hev.r HR
   replace HPO:=Z (HPO.out.ev hev)
   replace HD:=hev.b' HD (by simpa using NE.out.symm)
   generalize x3.setCell ⟨gf,4,none⟩ (.int .i64 d.r1)=x4 at HA HF HR HPO HD ⊢
   clear hev
   refine hK.out _ _ ?_
   clear hK K
   refine done_ zq27 ?_
   go_wp2_with (fail)
   go_ret
   exact Step4.ret HRR.out (.inl ⟨HD1.out,rfl,rfl⟩) HPLL.out HA.out rfl HF.out HR.out hbf hBf HRB.out HPO.out HPL2.out HKK.out
  ·
   have hdb:(d.fin==1)=false:=by simpa using hd1
   go_upto_region 15 with(fail)
   clear hcd hdb
   have HD1:=am hd1
   clear hd1
   have hE0_:=Evt.drew x2 292
   replace HA:=Z (HA.out.drew)
   replace HF:=(Evt.drew x2 0).b HF
   replace HR:=(Evt.drew x2 0).r HR
   replace HPO:=Z (HPO.out.ev (Evt.drew x2 0))
   replace HD:=(Evt.drew x2 0).b HD
   clear hE0_
   refine start_ (n:=16) (S:=fun w'=>w'.cell? ⟨gd,11,none⟩=some (.int .i64 d.fin)∧w'.cell? ⟨gd,12,none⟩=some (.int .i64 d.pan)∧True) (ds:= [12,15]) (bb 16 0) zq27 rfl rfl ⟨(blk_cell HD.out 11).trans rfl,(blk_cell HD.out 12).trans rfl,trivial⟩ (fun hHeld=> ?_)
   generalize x2.drew=x3 at HA HF HR HPO HD hHeld ⊢
   refine pure1 0 104 (bb 16 1) (h:= ?_)
   refine pure1 1 105 (bb 16 3) (h:= ?_)
   refine pure1 2 106 (bb 16 7) (h:= ?_)
   refine pure1 3 107 (bb 16 15) (h:= ?_)
   refine pure1 4 108 (bb 16 31) (h:= ?_)
   refine take1 5 109 (bb 16 63) (hS:=hHeld) (h:= ?_)
   refine pure1 6 110 (bb 16 127) (h:= ?_)
   refine pure1 7 111 (bb 16 255) (h:= ?_)
   refine pure1 8 112 (bb 16 511) (h:= ?_)
   refine take1 9 113 (bb 16 1023) (hS:=hHeld) (h:= ?_)
   refine pure1 10 114 (bb 16 2047) (h:= ?_)
   refine pure1 11 115 (bb 16 4095) (h:= ?_)
   refine la 12 none (bb 16 8191) (h:=fun K hK=> ?_)
   have hc_:=(blk_cell HF.out (11)).trans (show _=some (Value.int .i64 f.fin) from rfl)
   have hf_:=blk_frozen HF.out (11)
   rw [if_pos (by rfl)]
   unfold Oper.wp
   go_simp
   clear hc_ hf_
   have hev:=Evt.set HF.out (11) (.int .i64 d.fin)
   replace HA:=Z (HA.out.other hev zq83 (fun q hq=>zq85))
   replace HF:=Z ((blk_set HF.out (11) (.int .i64 d.fin)).trans (show _=some (Obj.cells (frC ({ f with leaving:=(f.leaving||d.leaving),fin:=d.fin }) rv pv).toArray 292 (0,0)) from rfl))
   replace HR:=hev.r HR
   replace HPO:=Z (HPO.out.ev hev)
   replace HD:=hev.b' HD (by simpa using NE.out.symm)
   generalize x3.setCell ⟨gf,11,none⟩ (.int .i64 d.fin)=x4 at HA HF HR HPO HD ⊢
   clear hev
   refine hK.out _ _ ?_
   clear hK K
   refine pure1 13 116 (bb 16 16383) (h:= ?_)
   refine pure1 14 117 (bb 16 32767) (h:= ?_)
   refine la 15 none (bb 16 65535) (h:=fun K hK=> ?_)
   have hc_:=(blk_cell HF.out (12)).trans (show _=some (Value.int .i64 f.pan) from rfl)
   have hf_:=blk_frozen HF.out (12)
   rw [if_pos (by rfl)]
   unfold Oper.wp
   go_simp
   clear hc_ hf_
   have hev:=Evt.set HF.out (12) (.int .i64 d.pan)
   replace HA:=Z (HA.out.other hev zq83 (fun q hq=>zq85))
   replace HF:=Z ((blk_set HF.out (12) (.int .i64 d.pan)).trans (show _=some (Obj.cells (frC ({ f with leaving:=(f.leaving||d.leaving),fin:=d.fin,pan:=d.pan }) rv pv).toArray 292 (0,0)) from rfl))
   replace HR:=hev.r HR
   replace HPO:=Z (HPO.out.ev hev)
   replace HD:=hev.b' HD (by simpa using NE.out.symm)
   generalize x4.setCell ⟨gf,12,none⟩ (.int .i64 d.pan)=x5 at HA HF HR HPO HD ⊢
   clear hev
   refine hK.out _ _ ?_
   clear hK K
   refine done_ zq27 ?_
   go_wp2_with (fail)
   go_ret
   exact Step4.ret HRR.out (.inr ⟨HD1.out,rfl,rfl⟩) HPLL.out HA.out rfl HF.out HR.out hbf hBf HRB.out HPO.out HPL2.out HKK.out
def BodyPost(w w':World)(base B gm gf:Nat)(A0:Value)(fuel:Int)(v:MV)(pv rp pp:Value)(r:ResI)(e:Ending):Prop :=
 (r.2=none∧e= .panicked spentChain∧ ∃ v',v'.pl=v.pl∧Mach w' base gm A0 fuel r.1 v'∧PlOk w' base v.pl r.1.places∧KeptB base (parG pv) B w w') ∨
 ∃ f' par' rv' v',r.2=some (f',par')∧e= .returned (.tuple #[])∧v'.pl=v.pl∧Mach w' base gm A0 fuel r.1 v'∧FrOk w' base B gf f' rv' pv∧PaOk w' base gf par' pv rp pp∧PlOk w' base v.pl r.1.places∧KeptB base (parG pv) B w w'
theorem low_cell {W0 W:World} (hB:Below W0.heap.size W0 W){a:Addr} {u:Value} (h:W0.cell? a=some u):W.cell? a=some u:=(hB.cell (World.block_lt_of_cell? W0 _ h)).trans h
theorem mapRun_ {P:Program} {oi:Oper} {a:Act} {W W':World} {t:TypeId} {m x v:Operand} {vm vx vv:Value} (ho:oi.op=Op.mapUpdate t m x v)(hm:a.eval m=vm)(hx:a.eval x=vx)(hv:a.eval v=vv)(hr:(Instr.mapUpdate t vm vx vv).run P W= .ok () W'):(execOp a.eval oi).run P W= .ok .skip W':=by
 unfold execOp
 simp [ho,hm,hx,hv,hr,Result.andThen]
theorem PaOk.evm {W W':World} {base gf g:Nat} {par:Option Fr} {pv rp pp:Value} (h:PaOk W base gf par pv rp pp)(e:Evm W W' g):PaOk W' base gf par pv rp pp:=by
 cases par with
 |none=>exact h
 |some pf =>
  obtain⟨gp,h1,h2,h3,h4⟩:=h
  exact⟨gp,h1,e.blk h2,h3,h4⟩
theorem Rows.made {W:World} {base:Nat} {m:MS} {v:MV} (R:Rows W base m v)(fn at_:Int):Rows W base (madeI m fn at_) v:=⟨R.tr,R.ow,R.ca,R.pa,R.re,R.ul,R.un,R.so,R.su⟩
structure BI(w W W0:World)(B gm gf:Nat)(A0:Value)(fuel:Int)(m:MS)(v v0:MV)(f:Fr)(par:Option Fr)(rv pv rp pp:Value):Prop where
 mach:Mach W W0.heap.size gm A0 fuel m v
 fr:FrOk W W0.heap.size B gf f rv pv
 pa:PaOk W W0.heap.size gf par pv rp pp
 pl:PlOk W W0.heap.size v.pl m.places
 eq:v.pl=v0.pl
 kept:KeptB W0.heap.size (parG pv) B w W
section
variable {rec:MS→Int→Int→Option Fr→Bool→ResI} {p:List (List St)} {fuel:Int} {n at_:Nat} {m:MS} {f:Fr} {par:Option Fr} {s:St}
theorem bodyI_none(h:(p.getD f.fn.toNat [])[at_]? =none):bodyI rec p fuel (n+1) m f par at_=(m,some (f,par)):=by rw [bodyI,h]
theorem bodyI_spent(h:(p.getD f.fn.toNat [])[at_]? =some s)(hm:m.made=fuel):bodyI rec p fuel (n+1) m f par at_=(m,none):=by rw [bodyI,h];dsimp only;rw [if_pos hm]
theorem bodyI_jump(h:(p.getD f.fn.toNat [])[at_]? =some s)(hm:m.made≠fuel)(k:s.f0=11):bodyI rec p fuel (n+1) m f par at_=bodyI rec p fuel n (madeI m f.fn at_) f par (if 0<reg f s.f2 then s.f1.toNat else at_+1):=by rw [bodyI,h];dsimp only;rw [if_neg hm,if_pos k]
theorem bodyI_call0(h:(p.getD f.fn.toNat [])[at_]? =some s)(hm:m.made≠fuel)(k:s.f0=4)(hr:(rec (madeI m f.fn at_) s.f1 (reg f s.f2) (some f) false).2=none):bodyI rec p fuel (n+1) m f par at_=((rec (madeI m f.fn at_) s.f1 (reg f s.f2) (some f) false).1,none):=by
 rw [bodyI,h];dsimp only;rw [if_neg hm,if_neg (by rw [k];decide),if_pos k]
 generalize rec (madeI m f.fn at_) s.f1 (reg f s.f2) (some f) false=r at *
 obtain⟨m1,ro⟩:=r
 subst hr
 rfl
theorem bodyI_call1(h:(p.getD f.fn.toNat [])[at_]? =some s)(hm:m.made≠fuel)(k:s.f0=4){d f1:Fr} (hr:(rec (madeI m f.fn at_) s.f1 (reg f s.f2) (some f) false).2=some (d,some f1))(hd:d.fin=1):bodyI rec p fuel (n+1) m f par at_=bodyI rec p fuel n (rec (madeI m f.fn at_) s.f1 (reg f s.f2) (some f) false).1 { f1 with leaving:=f1.leaving||d.leaving,r2:=d.r1 } par (at_+1):=by
 rw [bodyI,h];dsimp only;rw [if_neg hm,if_neg (by rw [k];decide),if_pos k]
 generalize rec (madeI m f.fn at_) s.f1 (reg f s.f2) (some f) false=r at *
 obtain⟨m1,ro⟩:=r
 subst hr
 exact if_pos hd
theorem bodyI_call2(h:(p.getD f.fn.toNat [])[at_]? =some s)(hm:m.made≠fuel)(k:s.f0=4){d f1:Fr} (hr:(rec (madeI m f.fn at_) s.f1 (reg f s.f2) (some f) false).2=some (d,some f1))(hd:d.fin≠1):bodyI rec p fuel (n+1) m f par at_=((rec (madeI m f.fn at_) s.f1 (reg f s.f2) (some f) false).1,some ({ f1 with leaving:=f1.leaving||d.leaving,fin:=d.fin,pan:=d.pan },par)):=by
 rw [bodyI,h];dsimp only;rw [if_neg hm,if_neg (by rw [k];decide),if_pos k]
 generalize rec (madeI m f.fn at_) s.f1 (reg f s.f2) (some f) false=r at *
 obtain⟨m1,ro⟩:=r
 subst hr
 exact if_neg hd
theorem bodyI_step(h:(p.getD f.fn.toNat [])[at_]? =some s)(hm:m.made≠fuel)(k4:s.f0≠4)(k11:s.f0≠11) :
  bodyI rec p fuel (n+1) m f par at_=if(stepI (madeI m f.fn at_) f par s).2.2.2=true then((stepI (madeI m f.fn at_) f par s).1,some ((stepI (madeI m f.fn at_) f par s).2.1,(stepI (madeI m f.fn at_) f par s).2.2.1)) else bodyI rec p fuel n (stepI (madeI m f.fn at_) f par s).1 (stepI (madeI m f.fn at_) f par s).2.1 (stepI (madeI m f.fn at_) f par s).2.2.1 (at_+1):=by
 rw [bodyI,h];dsimp only;rw [if_neg hm,if_neg k11,if_neg k4]
 generalize stepI (madeI m f.fn at_) f par s=r
 obtain⟨m1,f1,par1,b⟩:=r
 cases b<;>rfl
end
theorem recoverI_places(m:MS)(f:Fr)(par:Option Fr)(r:Int):(recoverI m f par r).1.places=m.places:=by
 unfold recoverI
 split
 ·split<;>exact rfl
 ·exact rfl
theorem stepI_places(m:MS)(f:Fr)(par:Option Fr)(s:St):(stepI m f par s).1.places=m.places:=by
 let Q:MS×Fr×Option Fr×Bool→Prop:=fun r=>r.1.places=m.places
 have ite_: ∀ (b:Prop) [Decidable b] (x y:MS×Fr×Option Fr×Bool),Q x→Q y→Q (if b then x else y):=fun b _ x y hx hy=>by split;exact hx;exact hy
 show Q (stepI m f par s)
 unfold stepI
 refine ite_ _ _ _ rfl (ite_ _ _ _ rfl (ite_ _ _ _ rfl (ite_ _ _ _ rfl (ite_ _ _ _ rfl (ite_ _ _ _ (recoverI_places _ _ _ _) (ite_ _ _ _ rfl (ite_ _ _ _ rfl (ite_ _ _ _ rfl (ite_ _ _ _ rfl (ite_ _ _ _ rfl rfl))))))))))
structure BJ(N fuel:Int)(R dd:Nat)(p:List (List St))(m:MS)(f:Fr)(par:Option Fr)(gg:Nat)(m1:MS)(f1:Fr)(par1:Option Fr)(at_:Nat):Prop where
 wf:WF N m1 f1 par1
 fin:f1.fin=1
 fn:f1.fn=f.fn
 made:m1.made≤fuel
 left:(fuel-m1.made).toNat<gg
 depth:m1.depth+dd=8
 room:(m1.trace.length:Int)+2*(f1.runs.length:Nat)+3*(fuel-m1.made)+1≤100000
 pls:(m1.places.length:Int)=m1.made
 res:bodyI (callI p fuel R dd) p fuel gg m1 f1 par1 at_=bodyI (callI p fuel R dd) p fuel R m f par 0
theorem body.calls(W0:World)(A0:Option Addr)(c0:Nat)(p:List (List St))(N fuel:Int)(R dd:Nat)(hC:CallC W0 A0 c0 p N fuel R dd)(hPr:ProgAt W0 A0 c0 p N)(hrec:RecR N fuel (callI p fuel R dd) (callS p fuel R dd))(w:World)(B gm gf:Nat)(m:MS)(v:MV)(f:Fr)(par:Option Fr)(rv pv rp pp:Value)
  (H:BI w w W0 B gm gf (.slice A0 p.length c0) fuel m v v f par rv pv rp pp) (hbel:Below W0.heap.size W0 w) (hB:B≤w.heap.size) (hwf:WF N m f par) (hfin:f.fin=1) (hf0:0≤fuel∧fuel≤1000) (hfR:fuel<R) (hle:m.made≤fuel) (hdep:m.depth+dd=8) (hroom:(m.trace.length:Int)+2*(f.runs.length:Nat)+3*(fuel-m.made)+1≤100000) (hpls:(m.places.length:Int)=m.made) :
  Calls Try.prog 303 #[.pointer (some ⟨gm,0,none⟩),.pointer (some ⟨gf,0,none⟩)] w fun e w'=>BodyPost w w' W0.heap.size B gm gf (.slice A0 p.length c0) fuel v pv rp pp (bodyI (callI p fuel R dd) p fuel R m f par 0) e:=by
 have hb:W0.heap.size≤w.heap.size:=hbel.size
 have HA:=Z (H.mach.wk hb (parG pv) B)
 have HF:=am H.fr.blk
 have HR:=am H.fr.run
 have HPO:=am H.pa
 have HI:=am H
 clear H
 have HBEL:=am hbel
 have HCC:=am hC
 have HPR:=am hPr
 have HRC:=am hrec
 have HWF:=am hwf
 have HDEP:=am hdep
 have HFIN:=am hfin
 have HPLS:=am hpls
 clear hbel hC hPr hrec hwf hdep hfin hpls
 obtain⟨q,hq⟩:=nat_of HWF.out.frame.2.2.2.1.1
 have hqN:q<p.length:=by have h1:=HWF.out.frame.2.2.2.1.2;have h2:=HPR.out.len;omega
 have HQ:=am hq
 clear hq
 obtain⟨ad,A1,c1,hA0,hcell,hlen1,hrow⟩:=at_L4 HPR.out.c (q:Int) zq90 zq90
 simp only [Int.toNat_natCast] at hcell
 obtain⟨bd,hbd⟩: ∃ bd,bd=rd_L4 p (q:Int):=⟨_,rfl⟩
 rw [← hbd] at hcell hlen1 hrow
 have HBD:=am hbd
 have HROW:=am hrow
 have HCELL:=am hcell
 clear hrow hcell hbd
 subst hA0
 go_enter Try.func303,Try.ntmps303
 go_upto_region 0 with(fail)
 have hE0_:=Evt.drew w 292
 replace HA:=Z (HA.out.drew)
 replace HF:=(Evt.drew w 0).b HF
 replace HR:=(Evt.drew w 0).r HR
 replace HPO:=Z (HPO.out.ev (Evt.drew w 0))
 clear hE0_
 refine start_ (n:=12) (S:=fun w'=>w'.cell? ⟨gm,0,none⟩=some (.slice (some ad) p.length c0)∧w'.cell? ⟨gf,1,none⟩=some (.int .i64 (q:Int))∧w'.cell? (ad.add q)=some (.slice A1 bd.length c1)∧True) (ds:= []) (bb 12 0) zq27 rfl rfl ⟨(blk_cell HA.out.blk 0).trans rfl,(blk_cell HF.out 1).trans (by rw [← HQ.out];rfl),low_cell (HA.out.kept.bel HBEL.out) HCELL.out,trivial⟩ (fun hHeld=> ?_)
 generalize w.drew=x1 at HA HF HR HPO hHeld ⊢
 refine pure1 0 7 (bb 12 1) (h:= ?_)
 refine pure1 1 8 (bb 12 3) (h:= ?_)
 refine pure1 2 9 (bb 12 7) (h:= ?_)
 refine pure1 3 10 (bb 12 15) (h:= ?_)
 refine take1 4 11 (bb 12 31) (hS:=hHeld) (h:= ?_)
 refine pure1 5 12 (bb 12 63) (h:= ?_)
 refine pure1 6 13 (bb 12 127) (h:= ?_)
 refine pure1 7 14 (bb 12 255) (h:= ?_)
 refine take1 8 15 (bb 12 511) (hS:=hHeld) (h:= ?_)
 refine pure1 9 16 (bb 12 1023) (h:= ?_)
 refine take1 10 17 (bb 12 2047) (hS:=hHeld) (h:= ?_)
 refine pure1 11 4 (bb 12 4095) (h:= ?_)
 refine done_ zq27 ?_
 go_wp2_with (fail)
 go_loopg [5] R (fun gg s5 wr=> ∃ (at_:Nat) (m1:MS) (f1:Fr) (par1:Option Fr) (v1:MV) (rv1:Value),s5= .int .i64 (at_:Int)∧Aside0 (BI w wr W0 B gm gf (.slice (some ad) p.length c0) fuel m1 v1 v f1 par1 rv1 pv rp pp)∧Aside0 (BJ N fuel R dd p m f par gg m1 f1 par1 at_))
 case atStart =>
  have hmp:=(HWF.out.wm.room (Nat.le_refl _)).2.2.2.2.2
  refine⟨0,m,f,par,v,rv,rfl,⟨?_⟩,⟨⟨HWF.out,HFIN.out,rfl,hle,zq90,HDEP.out,hroom,HPLS.out,rfl⟩⟩⟩
  exact⟨HA.out.mach,⟨HF.out,HR.out,HI.out.fr.low,HI.out.fr.hB,HI.out.fr.rB⟩,HPO.out,HI.out.pl.maps HA.out.maps,rfl,HA.out.kept⟩
 case round =>
  clear hHeld
  obtain⟨at_,m1,f1,par1,v1,rv1,rfl,BB,JJ⟩:=hrel
  clear HA HF HR HPO
  have HA:=Z (BB.out.mach.wk (Nat.le_trans hb BB.out.kept.size) (parG pv) B)
  have HF:=am BB.out.fr.blk
  have HR:=am BB.out.fr.run
  have HPO:=am BB.out.pa
  have hgk:0<gk:=by have:=JJ.out.left;omega
  obtain⟨kk,hkk⟩: ∃ kk,gk=kk+1:=⟨gk-1,zq90⟩
  subst hkk
  have hbq:p.getD f1.fn.toNat []=bd:=by rw [JJ.out.fn,HQ.out,HBD.out];rfl
  have HBQ:=am hbq
  clear hbq
  have hbl:bd.length≤1000:=by
   rw [HBD.out]
   unfold rd_L4
   rw [List.getD_eq_getElem?_getD,Int.toNat_natCast,List.getElem?_eq_getElem hqN]
   exact HPR.out.body _ (List.getElem_mem hqN)
  have HFQ:=Z (show some (Value.int .i64 f1.fn)=some (Value.int .i64 (q:Int)) from by rw [JJ.out.fn,HQ.out])
  have hrowN:p.length≤9223372036854775807:=HPR.out.c.2.1
  by_cases hlt:at_<bd.length
  rotate_left
  ·have hltz: ¬(at_:Int)<(bd.length:Int):=by omega
   go_wp2_with (fail)
   refine end0_ rfl rfl ?_
   have e:=JJ.out.res
   rw [bodyI_none (by rw [HBQ.out];exact List.getElem?_eq_none zq90)] at e
   rw [← e]
   exact .inr ⟨f1,par1,rv1,v1,rfl,rfl,BB.out.eq,BB.out.mach,BB.out.fr,BB.out.pa,by rw [← BB.out.eq];exact BB.out.pl,BB.out.kept⟩
  have hltz:(at_:Int)<(bd.length:Int):=by omega
  obtain⟨s,hs⟩: ∃ s,s=bd[at_]:=⟨_,rfl⟩
  have HS0:=Z (show(p.getD f1.fn.toNat [])[at_]? =some s from by rw [HBQ.out,hs];exact List.getElem?_eq_getElem hlt)
  have HSS:=am hs
  obtain⟨a2,hA1,hx0,hx1,hx2⟩:=at_T219 HROW.out (at_:Int) zq90 hltz
  subst hA1
  have hrd:rd_T219 bd (at_:Int)=s:=by rw [hs];unfold rd_T219;rw [List.getD_eq_getElem?_getD,Int.toNat_natCast,List.getElem?_eq_getElem hlt];rfl
  rw [hrd] at hx0 hx1 hx2
  simp only [Int.toNat_natCast] at hx0 hx1 hx2
  have HX0:=am hx0
  have HX1:=am hx1
  have HX2:=am hx2
  clear hs hrd hx0 hx1 hx2
  go_upto_region 3 with(fail)
  have hE0_:=Evt.drew wr 292
  replace HA:=Z (HA.out.drew)
  replace HF:=(Evt.drew wr 0).b HF
  replace HR:=(Evt.drew wr 0).r HR
  replace HPO:=Z (HPO.out.ev (Evt.drew wr 0))
  clear hE0_
  refine start_ (n:=9) (S:=fun w'=>w'.cell? ⟨gm,2,none⟩=some (.int .i64 m1.made)∧w'.cell? ⟨gm,1,none⟩=some (.int .i64 fuel)∧True) (ds:= []) (bb 9 0) zq27 rfl rfl ⟨(blk_cell HA.out.blk 2).trans rfl,(blk_cell HA.out.blk 1).trans rfl,trivial⟩ (fun hHeld=> ?_)
  generalize wr.drew=x21 at HA HF HR HPO hHeld ⊢
  refine pure1 0 22 (bb 9 1) (h:= ?_)
  refine pure1 1 23 (bb 9 3) (h:= ?_)
  refine pure1 2 24 (bb 9 7) (h:= ?_)
  refine take1 3 25 (bb 9 15) (hS:=hHeld) (h:= ?_)
  refine pure1 4 26 (bb 9 31) (h:= ?_)
  refine pure1 5 27 (bb 9 63) (h:= ?_)
  refine pure1 6 28 (bb 9 127) (h:= ?_)
  refine take1 7 29 (bb 9 255) (hS:=hHeld) (h:= ?_)
  refine pure1 8 30 (bb 9 511) (h:= ?_)
  refine done_ zq27 ?_
  have hpn: ∀ w:World,(Instr.panic (.iface 313 (.agg #[]))).run Try.prog w= .halt (.panic (.iface 313 (.agg #[]))) w:=fun _=>rfl
  by_cases hm:m1.made=fuel
  ·have hmb:(m1.made==fuel)=true:=by simpa using hm
   have HM:=am hm
   clear hm
   go_wp2_with (fail)
   have e:=JJ.out.res
   rw [bodyI_spent HS0.out HM.out] at e
   refine⟨rfl,?_⟩
   rw [← e]
   exact .inl ⟨rfl,rfl,v1,BB.out.eq,HA.out.mach,by rw [← BB.out.eq];exact BB.out.pl.maps HA.out.maps,BB.out.kept.trans HA.out.kept⟩
  clear hpn
  have hmb:(m1.made==fuel)=false:=by simpa using hm
  have HM:=am hm
  clear hm
  have hc2:x21.cell? ⟨gm,2,none⟩=some (.int .i64 m1.made):=(blk_cell HA.out.blk 2).trans rfl
  have hz2:=blk_frozen HA.out.blk 2
  have hm0:0≤m1.made:=(JJ.out.wf.wm.room (Nat.le_refl _)).2.2.2.2.2
  have hm1:m1.made≤1000:=by have:=JJ.out.made;omega
  go_upto_region 6 with(fail)
  clear hc2 hz2 hmb
  have hst:=HA.out.setM 2 (.int .i64 (m1.made+1))
  have hev:=hst.2
  replace HA:=Z (hst.1)
  replace HF:=hev.b HF
  replace HR:=hev.r HR
  replace HPO:=Z (HPO.out.ev hev)
  clear hst hev
  generalize x21.setCell ⟨gm,2,none⟩ (.int .i64 (m1.made+1))=x22 at HA HF HR HPO ⊢
  have hE0_:=Evt.drew x22 292
  replace HA:=Z (HA.out.drew)
  replace HF:=(Evt.drew x22 0).b HF
  replace HR:=(Evt.drew x22 0).r HR
  replace HPO:=Z (HPO.out.ev (Evt.drew x22 0))
  clear hE0_
  refine start_ (n:=11) (S:=fun w'=>w'.cell? ⟨gm,11,none⟩=some (v1.pl)∧w'.cell? ⟨gf,1,none⟩=some (.int .i64 (q:Int))∧True) (ds:= []) (bb 11 0) zq27 rfl rfl ⟨(blk_cell HA.out.blk 11).trans rfl,(blk_cell HF.out 1).trans HFQ.out,trivial⟩ (fun hHeld=> ?_)
  generalize x22.drew=x23 at HA HF HR HPO hHeld ⊢
  refine pure1 0 40 (bb 11 1) (h:= ?_)
  refine pure1 1 41 (bb 11 3) (h:= ?_)
  refine pure1 2 42 (bb 11 7) (h:= ?_)
  refine take1 3 43 (bb 11 15) (hS:=hHeld) (h:= ?_)
  refine pure1 4 44 (bb 11 31) (h:= ?_)
  refine pure1 5 45 (bb 11 63) (h:= ?_)
  refine pure1 6 46 (bb 11 127) (h:= ?_)
  refine take1 7 47 (bb 11 255) (hS:=hHeld) (h:= ?_)
  refine pure1 8 48 (bb 11 511) (h:= ?_)
  refine pure1 9 49 (bb 11 1023) (h:= ?_)
  refine on_ 10 none (bb 11 2047) (h:=fun K hK=> ?_)
  have hkB:=BB.out.kept.trans HA.out.kept
  obtain⟨x24,gpl,hrun,hPl,hple,hbg,hEv⟩:=(BB.out.pl.maps HA.out.maps).upd ((q:Int),(at_:Int)) (WalkArith.wf_i64 (by have:=HPR.out.len;have:=hrowN;omega)) (WalkArith.wf_i64 zq90) (by have:=JJ.out.pls;omega)
  refine skip_ (w':=x24) (by rfl) rfl (mapRun_ rfl rfl rfl rfl hrun) ?_
  have hM:=(⟨hEv.blk HA.out.blk,HA.out.low,(hEv.rows HA.out.rows).made f1.fn at_⟩:Mach x24 W0.heap.size gm (.slice (some ad) p.length c0) fuel (madeI m1 f1.fn at_) v1)
  have hsz:=Nat.le_trans HA.out.sz hEv.gr.size
  have HKB:=Z (hkB.trans (hEv.kept (par:=parG pv) (B:=B) hbg HA.out.sz))
  have HPB:=Z (show PlOk x24 W0.heap.size v1.pl (madeI m1 f1.fn at_).places from by
   show PlOk _ _ _ ((f1.fn,(at_:Int))::m1.places)
   have h:=HFQ.out
   simp only [Option.some.injEq,Value.int.injEq,true_and] at h
   rw [h];exact hPl)
  have nF:=Z (hEv.blk HF.out)
  have nR:=Z (hEv.row HR.out)
  have nP:=Z (HPO.out.evm hEv)
  have nA:=Z (hM.wk hsz (parG pv) B)
  clear HA HF HR HPO hM hsz hEv hPl hrun hkB hple hbg
  have HA:=nA
  have HF:=nF
  have HR:=nR
  have HPO:=nP
  clear nA nF nR nP
  refine hK.out _ _ ⟨(blk_cell HA.out.blk 11).trans rfl,(blk_cell HF.out 1).trans HFQ.out,trivial⟩ (fun hHeld=> ?_)
  clear hK K
  refine done_ zq27 ?_
  have hB1:=HBEL.out
  have hx0:=low_cell (HA.out.kept.bel (HKB.out.bel HBEL.out)) HX0.out
  have hx1:=low_cell (HA.out.kept.bel (HKB.out.bel HBEL.out)) HX1.out
  have hx2:=low_cell (HA.out.kept.bel (HKB.out.bel HBEL.out)) HX2.out
  clear hB1
  go_upto_region 8 with(fail)
  clear hx0 hx1 hx2
  have hnew:=blk_new x24 (.cells #[.int .i64 s.f0,.int .i64 s.f1,.int .i64 s.f2] 219 (0,0))
  have hbl:=below_alloc (Below.refl x24.heap.size x24) (.cells #[.int .i64 s.f0,.int .i64 s.f1,.int .i64 s.f2] 219 (0,0))
  obtain⟨gs,hgs⟩: ∃ gs,gs=x24.heap.size:=⟨_,rfl⟩
  rw [← hgs] at hnew ⊢
  have hE_:=Evt.below hbl 0
  replace HA:=Z (HA.out.below hbl)
  replace HF:=hE_.b HF
  replace HR:=hE_.r HR
  replace HPO:=Z (HPO.out.ev hE_)
  have HS:=am hnew
  clear hnew hbl hE_ hgs
  generalize x24.alloc (.cells #[.int .i64 s.f0,.int .i64 s.f1,.int .i64 s.f2] 219 (0,0))=x25 at HA HF HR HPO HS ⊢
  have hat1:at_+1≤100000:=by omega
  have hs0:x25.cell? ⟨gs,0,none⟩=some (.int .i64 s.f0):=(blk_cell HS.out 0).trans rfl
  have hs1:x25.cell? ⟨gs,1,none⟩=some (.int .i64 s.f1):=(blk_cell HS.out 1).trans rfl
  have hs2:x25.cell? ⟨gs,2,none⟩=some (.int .i64 s.f2):=(blk_cell HS.out 2).trans rfl
  have hmem:s∈bd:=by rw [HSS.out];exact List.getElem_mem hlt
  have hbmem:bd∈p:=by
   rw [HBD.out]
   unfold rd_L4
   rw [List.getD_eq_getElem?_getD,Int.toNat_natCast,List.getElem?_eq_getElem hqN]
   exact List.getElem_mem hqN
  have HWS:=Z (HPR.out.wf bd hbmem s hmem)
  have HOK:=Z (HPR.out.ok bd hbmem s hmem)
  clear hmem hbmem
  by_cases k11:s.f0=11
  ·
   obtain⟨b,hb2⟩:=nat_of (HWS.out.b (.inr (.inr (.inr k11)))).1
   have hb4:b<4:=by have h1:=(HWS.out.b (.inr (.inr (.inr k11)))).2;omega
   have hb4i:(b:Int)<4:=by omega
   obtain⟨ja,hja⟩:=nat_of (HOK.out.2.1 k11)
   have HB2:=am hb2
   have HJA:=am hja
   have hkb:(s.f0==11)=true:=by simpa using k11
   have HK:=am k11
   clear hb2 hja k11 hs1 hs2
   go_upto_region 10 with(fail)
   clear hs0 hkb
   have hE0_:=Evt.drew x25 292
   replace HA:=Z (HA.out.drew)
   replace HF:=(Evt.drew x25 0).b HF
   replace HR:=(Evt.drew x25 0).r HR
   replace HPO:=Z (HPO.out.ev (Evt.drew x25 0))
   replace HS:=(Evt.drew x25 0).b HS
   clear hE0_
   refine start_ (n:=8) (S:=fun w'=>w'.cell? ⟨gs,2,none⟩=some (.int .i64 (b:Int))∧w'.cell? ⟨gf,2+b,none⟩=some (.int .i64 (reg f1 b))∧True) (ds:= []) (bb 8 0) zq27 rfl rfl ⟨(blk_cell HS.out 2).trans (by rw [← HB2.out];rfl),frC_cell HF.out b hb4,trivial⟩ (fun hHeld=> ?_)
   generalize x25.drew=x26 at HA HF HR HPO HS hHeld ⊢
   refine pure1 0 59 (bb 8 1) (h:= ?_)
   refine pure1 1 60 (bb 8 3) (h:= ?_)
   refine take1 2 61 (bb 8 7) (hS:=hHeld) (h:= ?_)
   refine pure1 3 62 (bb 8 15) (h:= ?_)
   refine pure1 4 63 (bb 8 31) (h:= ?_)
   refine pure1 5 64 (bb 8 63) (h:= ?_)
   refine take1 6 65 (bb 8 127) (hS:=hHeld) (h:= ?_)
   refine pure1 7 66 (bb 8 255) (h:= ?_)
   refine done_ zq27 ?_
   have hs1:x26.cell? ⟨gs,1,none⟩=some (.int .i64 (ja:Int)):=(blk_cell HS.out 1).trans (by rw [← HJA.out];rfl)
   by_cases hg:0<reg f1 b
   ·go_wp2_with (fail)
    go_roundg kk
    case measure=>omega
    case rel =>
     refine⟨ja,madeI m1 f1.fn at_,f1,par1,v1,rv1,by first|rfl|go_num,⟨⟨HA.out.mach,⟨HF.out,HR.out,BB.out.fr.low,BB.out.fr.hB,BB.out.fr.rB⟩,HPO.out,HPB.out.maps HA.out.maps,BB.out.eq,HKB.out.trans HA.out.kept⟩⟩,⟨?_⟩⟩
     have e:=JJ.out.res
     rw [bodyI_jump HS0.out HM.out HK.out] at e
     have e3:reg f1 s.f2=reg f1 (b:Int):=by rw [HB2.out]
     rw [e3,if_pos hg,HJA.out,Int.toNat_natCast] at e
     have h0:=JJ.out.made
     have h1:=JJ.out.left
     have h2:=JJ.out.room
     have h3:=HM.out
     have h4:=JJ.out.pls
     refine⟨JJ.out.wf.made _ _,JJ.out.fin,JJ.out.fn,?_,?_,JJ.out.depth,?_,?_,e⟩
     ·show m1.made+1≤fuel;omega
     ·show(fuel-(m1.made+1)).toNat<kk;omega
     ·show(m1.trace.length:Int)+2*(f1.runs.length:Nat)+3*(fuel-(m1.made+1))+1≤100000;omega
     ·show(((_::m1.places).length:Nat):Int)=m1.made+1;rw [List.length_cons];omega
   ·go_wp2_with (fail)
    go_roundg kk
    case measure=>omega
    case rel =>
     refine⟨at_+1,madeI m1 f1.fn at_,f1,par1,v1,rv1,by first|rfl|go_num,⟨⟨HA.out.mach,⟨HF.out,HR.out,BB.out.fr.low,BB.out.fr.hB,BB.out.fr.rB⟩,HPO.out,HPB.out.maps HA.out.maps,BB.out.eq,HKB.out.trans HA.out.kept⟩⟩,⟨?_⟩⟩
     have e:=JJ.out.res
     rw [bodyI_jump HS0.out HM.out HK.out] at e
     have e3:reg f1 s.f2=reg f1 (b:Int):=by rw [HB2.out]
     rw [e3,if_neg zq90] at e
     have h0:=JJ.out.made
     have h1:=JJ.out.left
     have h2:=JJ.out.room
     have h3:=HM.out
     have h4:=JJ.out.pls
     refine⟨JJ.out.wf.made _ _,JJ.out.fin,JJ.out.fn,?_,?_,JJ.out.depth,?_,?_,e⟩
     ·show m1.made+1≤fuel;omega
     ·show(fuel-(m1.made+1)).toNat<kk;omega
     ·show(m1.trace.length:Int)+2*(f1.runs.length:Nat)+3*(fuel-(m1.made+1))+1≤100000;omega
     ·show(((_::m1.places).length:Nat):Int)=m1.made+1;rw [List.length_cons];omega
  ·
   have hkb:(s.f0==11)=false:=by simpa using k11
   have HK:=am k11
   clear k11
   have HWM:=Z (JJ.out.wf.made f1.fn (at_:Int))
   have hleM:(madeI m1 f1.fn at_).made≤fuel:=by have h0:=JJ.out.made;have h3:=HM.out;show m1.made+1≤fuel;omega
   have hdM:(madeI m1 f1.fn at_).depth+dd=8:=JJ.out.depth
   have hrM:(m1.trace.length:Int)+2*(f1.runs.length:Nat)+3*(fuel-m1.made)+1≤100000:=JJ.out.room
   have hpM:((madeI m1 f1.fn at_).places.length:Int)=(madeI m1 f1.fn at_).made:=by have h4:=JJ.out.pls;show(((_::m1.places).length:Nat):Int)=m1.made+1;rw [List.length_cons];omega
   have HDM:=am hdM
   have HPM:=am hpM
   clear hdM hpM
   by_cases k4:s.f0=4
   ·
     obtain⟨b,hb2⟩:=nat_of (HWS.out.b (.inr (.inl k4))).1
     have hb4:b<4:=by have h1:=(HWS.out.b (.inr (.inl k4))).2;omega
     have hx:=HOK.out.2.2 (.inl k4)
     have HB2:=am hb2
     have HIN:=Z (WF.inner HRC.out HWM.out hleM s.f1 (reg f1 b) (HWM.out.frame.1 _) hx)
     have HK4:=am k4
     clear hs0 hs2 hb2 k4
     have hs0:x25.cell? ⟨gs,0,none⟩=some (.int .i64 4):=(blk_cell HS.out 0).trans (by rw [← HK4.out];rfl)
     have hs2:x25.cell? ⟨gs,2,none⟩=some (.int .i64 (b:Int)):=(blk_cell HS.out 2).trans (by rw [← HB2.out];rfl)
     have hsm: ∃ sm,RM (madeI m1 f1.fn at_) sm∧sm.spent=false:=by obtain⟨sm,c,h1,h2,_⟩:=HWM.out;exact⟨sm,h1,h2⟩
     have hroomM:((madeI m1 f1.fn at_).trace.length:Int)+3*(fuel-(madeI m1 f1.fn at_).made)+2≤100000:=by show(m1.trace.length:Int)+3*(fuel-(m1.made+1))+2≤100000;omega
     have hC4:=step_4 W0 (some ad) c0 p N fuel R dd HCC.out x25 B gm gf (madeI m1 f1.fn at_) v1 f1 par1 rv1 pv rp pp HA.out.mach ⟨HF.out,HR.out,BB.out.fr.low,BB.out.fr.hB,BB.out.fr.rB⟩ HPO.out (HPB.out.maps HA.out.maps) (HA.out.kept.bel (HKB.out.bel HBEL.out)) (Nat.le_trans hB (HKB.out.trans HA.out.kept).size) b hb4 s.f1 hsm hleM (HWM.out.frame.1 _) hx HDM.out hroomM HPM.out (fun d par' h=>by obtain⟨h1,_,h3,_⟩:=HIN.out.2.2.2 d par' h;exact⟨h1,h3⟩)
     have HC4:=am hC4
     clear hC4 hsm hroomM
     have HKZ:=Z (HKB.out.trans HA.out.kept)
     clear HA HF HR HPO HS HPB HKB
     go_upto_region 12 with(fail)
     go_wp2_with (fail)
     refine HC4.out.mono ?_
     rintro e w2 hpost
     have e3:reg f1 s.f2=reg f1 (b:Int):=by rw [HB2.out]
     have E3:=am e3
     clear e3
     rcases hpost with⟨hr,rfl,v2,hpl,hM,hPl,hK⟩|⟨d,f',b',v2,hr,hcase,rfl,hpl,hM,hFr,hPa,hPl,hK⟩
     ·have e:=JJ.out.res
      rw [bodyI_call0 HS0.out HM.out HK4.out (by rw [E3.out];exact hr),E3.out] at e
      refine⟨rfl,?_⟩
      rw [← e]
      exact .inl ⟨rfl,rfl,v2,hpl.trans BB.out.eq,hM,by rw [← BB.out.eq];exact hPl,HKZ.out.trans hK⟩
     obtain⟨-,hwf2,hfin2,hnum2,hlv2,hval2,hdep2⟩:=HIN.out.2.2.2 d (some f1) hr
     have HN1:=am HIN.out.2.1
     have HN2:=am HIN.out.2.2.1
     have HRM:=Z (call_room (p:=p) (fuel:=fuel) R dd (madeI m1 f1.fn at_) s.f1 (reg f1 b) (some f1) false).1
     have HPLZ:=Z (call_pl (p:=p) (fuel:=fuel) R dd (madeI m1 f1.fn at_) s.f1 (reg f1 b) (some f1) false)
     have HRR:=am hr
     have W2:=am hwf2
     have D2:=am hdep2
     have P2:=am hpl
     have M2:=am hM
     have FR2:=am hFr
     have PA2:=am hPa
     have PL2:=am hPl
     have K2:=am hK
     have L2:=am hlv2
     have N2:=am hnum2
     have V2:=am hval2
     have FI2:=am hfin2
     clear hr hwf2 hdep2 hpl hM hFr hPa hPl hK hlv2 hnum2 hval2 hfin2
     rcases hcase with⟨hd,rfl,rfl⟩|⟨hd,rfl,rfl⟩
     ·have HD:=am hd
      clear hd
      go_wp2_with (fail)
      go_roundg kk
      case measure=>omega
      case rel =>
       refine⟨at_+1,_,_,par1,v2,rv1,by first|rfl|go_num,⟨⟨M2.out,FR2.out,PA2.out,by rw [P2.out];exact PL2.out,P2.out.trans BB.out.eq,HKZ.out.trans K2.out⟩⟩,⟨?_⟩⟩
       have e:=JJ.out.res
       rw [bodyI_call1 HS0.out HM.out HK4.out (by rw [E3.out];exact HRR.out) HD.out,E3.out] at e
       have h1:=JJ.out.left
       have h5:m1.made+1≤_:=HN2.out
       have h9:m1.made+1≤fuel:=hleM
       have h6:_≤(m1.trace.length:Int)+3*(fuel-(m1.made+1))+2:=HRM.out
       have h7:=HPLZ.out
       unfold Pl0 at h7
       have h8:=HPM.out
       refine⟨W2.out.after1 N2.out (L2.out HD.out),JJ.out.fin,JJ.out.fn,HN1.out,zq90,by rw [D2.out];exact HDM.out,?_,zq90,e⟩
       show _+2*((f1.runs.length:Nat):Int)+_+1≤100000
       omega
     ·have HD:=am hd
      clear hd
      go_wp2_with (fail)
      refine bodyPost_ret (results_none rfl _ _ _) rfl ?_
      have e:=JJ.out.res
      rw [bodyI_call2 HS0.out HM.out HK4.out (by rw [E3.out];exact HRR.out) HD.out,E3.out] at e
      rw [← e]
      exact .inr ⟨_,par1,rv1,v2,rfl,rfl,P2.out.trans BB.out.eq,M2.out,FR2.out,PA2.out,by rw [← BB.out.eq];exact PL2.out,HKZ.out.trans K2.out⟩
   ·
     have hroomM:(madeI m1 f1.fn at_).trace.length+2*f1.runs.length≤100000:=by have h0:=JJ.out.made;show m1.trace.length+2*f1.runs.length≤100000;omega
     have hC5:=step.calls x25 W0.heap.size B gm gf (.slice (some ad) p.length c0) fuel (madeI m1 f1.fn at_) v1 f1 par1 rv1 pv rp pp HA.out.mach ⟨HF.out,HR.out,BB.out.fr.low,BB.out.fr.hB,BB.out.fr.rB⟩ HPO.out HA.out.sz (Nat.le_trans hB (HKB.out.trans HA.out.kept).size) HWM.out s HWS.out k4 HK.out hroomM
     have HST:=Z (HWM.out.step HOK.out k4 HK.out)
     have HRM:=Z (stepI_room (madeI m1 f1.fn at_) f1 par1 s)
     have HPLZ:=Z (stepI_pl (madeI m1 f1.fn at_) f1 par1 s)
     have e:=JJ.out.res
     rw [bodyI_step HS0.out HM.out k4 HK.out] at e
     have HKZ:=Z (HKB.out.trans HA.out.kept)
     have HPZ:=Z (HPB.out.maps HA.out.maps)
     have HE:=am e
     clear e hroomM k4 HA HF HR HPO HPB HKB
     cases hbb:(stepI (madeI m1 f1.fn at_) f1 par1 s).2.2.2 with
     |true =>
      rw [hbb] at hC5
      have HC5:=am hC5
      have HBB:=am hbb
      clear hC5 hbb
      go_wp2_with (fail)
      refine HC5.out.mono ?_
      rintro e w2 ⟨rfl,v2,rv2,hpl,hM,hFr,hPa,hK,hmp⟩
      have MM2:=Z (And.intro hpl (And.intro hM (And.intro hFr (And.intro hPa (And.intro hK hmp)))))
      clear hpl hM hFr hPa hK hmp
      go_wp2_with (fail)
      refine bodyPost_ret (results_none rfl _ _ _) rfl ?_
      obtain⟨hpl,hM,hFr,hPa,hK,hmp⟩:=MM2.out
      have e:=HE.out
      rw [if_pos HBB.out] at e
      rw [← e]
      exact .inr ⟨_,_,rv2,v2,rfl,rfl,hpl.trans BB.out.eq,hM,hFr,hPa,by rw [← BB.out.eq];have h:=HPZ.out.maps hmp;rw [← stepI_places (madeI m1 f1.fn at_) f1 par1 s] at h;exact h,HKZ.out.trans hK⟩
     |false =>
      rw [hbb] at hC5
      have HC5:=am hC5
      have HBB:=am hbb
      clear hC5 hbb
      go_wp2_with (fail)
      refine HC5.out.mono ?_
      rintro e w2 ⟨rfl,v2,rv2,hpl,hM,hFr,hPa,hK,hmp⟩
      have MM2:=Z (And.intro hpl (And.intro hM (And.intro hFr (And.intro hPa (And.intro hK hmp)))))
      clear hpl hM hFr hPa hK hmp
      go_wp2_with (fail)
      go_roundg kk
      case measure=>omega
      case rel =>
       obtain⟨hpl,hM,hFr,hPa,hK,hmp⟩:=MM2.out
       have e:=HE.out
       rw [if_neg (by rw [HBB.out];decide)] at e
       obtain⟨t1,t2,t3,t4,t5,t6,t7,t8⟩:=HST.out
       refine⟨at_+1,_,_,_,v2,rv2,by first|rfl|go_num,⟨⟨hM,hFr,hPa,by rw [hpl];have h:=HPZ.out.maps hmp;rw [← stepI_places (madeI m1 f1.fn at_) f1 par1 s] at h;exact h,hpl.trans BB.out.eq,HKZ.out.trans hK⟩⟩,⟨?_⟩⟩
       have h1:=JJ.out.left
       have h6:_≤m1.trace.length+2*f1.runs.length+3:=HRM.out.1
       have h7:=HPLZ.out
       unfold Pl0 at h7
       have h8:=HPM.out
       have h9:_=m1.made+1:=t3
       have h10:m1.made+1≤fuel:=hleM
       refine⟨t1,(t8 HBB.out).trans JJ.out.fin,t7.trans JJ.out.fn,by rw [t3];exact hleM,zq90,by rw [t4];exact HDM.out,zq90,zq90,e⟩
end Go.Proofs.Yteiafboknimgbaa.Pr.M
end
