import Derived.Test.YteiafboknimgbaaMa9
import Derived.Maps.Own
import Derived.DeepKeys4
set_option maxHeartbeats 8000000
set_option maxRecDepth 100000
set_option linter.unusedVariables false
set_option linter.unusedSimpArgs false
section
namespace Go.Proofs.Yteiafboknimgbaa.Pr.M
open Go.RowKit Go.Proofs.W.PrintWords Go.Proofs.W.PrintLast Go.Proofs.W.PrintMore
def Left(w w':World)(base B gm gf:Nat)(A0:Value)(fuel:Int)(m':MS)(v:MV)(f':Fr)(par':Option Fr)(pv rp pp:Value):Prop :=
 ∃ v' rv',v'.pl=v.pl∧Mach w' base gm A0 fuel m' v'∧FrOk w' base B gf f' rv' pv∧PaOk w' base gf par' pv rp pp∧KeptB base (parG pv) B w w'∧ ∀ (k:Nat) es n,w.heap[k]? =some (Obj.map es n)→w'.heap[k]? =some (Obj.map es n)
theorem Left.mk {w W:World} {base B gm gf:Nat} {A0:Value} {fuel:Int} {m':MS} {v v':MV} {f':Fr} {par':Option Fr} {pv rp pp rv':Value} {cs:List Value} (h:Wk w W base (parG pv) B gm cs m' v')(hc:cs=machC A0 fuel m' v')(hpl:v'.pl=v.pl)(hF:W.heap[gf]? =some (.cells (frC f' rv' pv).toArray 292 (0,0)))
  (hR:W.ownsRow base 326 2 rv' f'.runs.length (f'.runs.flatMap prC)) (hbf:base≤gf) (hBf:B≤gf) (hrB: ∀ q,rv'.ownBlock=some q→B≤q) (hP:PaOk W base gf par' pv rp pp):Left w W base B gm gf A0 fuel m' v f' par' pv rp pp:=by
 subst hc
 exact⟨v',rv',hpl,h.mach,⟨hF,hR,hbf,hBf,hrB⟩,hP,h.kept,h.maps⟩
theorem setReg_runs(f:Fr)(i x:Int):(setReg f i x).runs=f.runs∧(setReg f i x).id=f.id∧(setReg f i x).fn=f.fn:=by
 unfold setReg
 split
 ·exact⟨rfl,rfl,rfl⟩
 split
 ·exact⟨rfl,rfl,rfl⟩
 split<;>exact⟨rfl,rfl,rfl⟩
theorem frC_cell {W:World} {gf:Nat} {f:Fr} {rv pv:Value} (h:W.heap[gf]? =some (.cells (frC f rv pv).toArray 292 (0,0)))(r:Nat)(hr:r<4):W.cell? ⟨gf,2+r,none⟩=some (.int .i64 (reg f r)):=(blk_cell h (2+r)).trans (frC_reg f rv pv r hr)
theorem frC_put {W:World} {gf:Nat} {f:Fr} {rv pv:Value} (h:W.heap[gf]? =some (.cells (frC f rv pv).toArray 292 (0,0)))(r:Nat)(hr:r<4)(x:Int):(W.setCell ⟨gf,2+r,none⟩ (.int .i64 x)).heap[gf]? =some (.cells (frC (setReg f r x) rv pv).toArray 292 (0,0)) :=
 (blk_set h (2+r) _).trans (congrArg (fun c=>some (Obj.cells c 292 (0,0))) (frC_set f rv pv r hr x))
theorem step_1(w:World)(base B gm gf:Nat)(A0:Value)(fuel:Int)(m:MS)(v:MV)(f:Fr)(par:Option Fr)(rv pv rp pp:Value)(H:Mach w base gm A0 fuel m v)(F:FrOk w base B gf f rv pv)(PA:PaOk w base gf par pv rp pp)(hb:base≤w.heap.size)(hB:B≤w.heap.size)(a:Nat)(ha4:a<4)(x:Int) :
  Calls Try.prog 308 #[.pointer (some ⟨gm,0,none⟩),.pointer (some ⟨gf,0,none⟩),.agg #[.int .i64 1,.int .i64 (a:Int),.int .i64 x]] w fun e w'=>e= .returned (.bool false)∧Left w w' base B gm gf A0 fuel (m) v (setReg f a x) (par) pv rp pp:=by
 have HA:=Z (H.wk hb (parG pv) B)
 clear H
 have HF:=am F.blk
 have HR:=am F.run
 have hbf:=F.low
 have hBf:=F.hB
 have HRB:=am F.rB
 have HPO:=am PA
 clear F PA
 have ha4i:(a:Int)<4:=by omega
 go_enter Try.func308,Try.ntmps308
 go_upto_region 4 with(first|(refine bx 5 #[.int .i64 1,.int .i64 (a:Int),.int .i64 x] 219 (h:= ?_);intro gs hgs w1 hbox hbel;have hE_:=Evt.below hbel 0;replace HA:=Z (HA.out.below hbel);replace HF:=hE_.b HF;replace HR:=hE_.r HR;replace HPO:=Z (HPO.out.ev hE_);have HS:=am hbox;clear hbel hbox hgs hE_;obtain⟨hs0,hs1,hs2⟩:=cl3 HS.out))
 clear hs0 hs1 hs2
 have hE0_:=Evt.drew w1 292
 replace HA:=Z (HA.out.drew)
 replace HF:=(Evt.drew w1 0).b HF
 replace HR:=(Evt.drew w1 0).r HR
 replace HPO:=Z (HPO.out.ev (Evt.drew w1 0))
 replace HS:=(Evt.drew w1 0).b HS
 clear hE0_
 refine start_ (n:=8) (S:=fun w'=>w'.cell? ⟨gs,2,none⟩=some (.int .i64 x)∧True) (ds:= [7]) (bb 8 0) zq27 rfl rfl ⟨(blk_cell HS.out 2).trans rfl,trivial⟩ (fun hHeld=> ?_)
 generalize w1.drew=x1 at HA HF HR HPO HS hHeld ⊢
 refine pure1 0 15 (bb 8 1) (h:= ?_)
 refine pure1 1 16 (bb 8 3) (h:= ?_)
 refine pure1 2 17 (bb 8 7) (h:= ?_)
 refine take1 3 18 (bb 8 15) (hS:=hHeld) (h:= ?_)
 refine pure1 4 19 (bb 8 31) (h:= ?_)
 refine pure1 5 20 (bb 8 63) (h:= ?_)
 refine pure1 6 21 (bb 8 127) (h:= ?_)
 refine la 7 none (bb 8 255) (h:=fun K hK=> ?_)
 have hc_:=frC_cell HF.out a ha4
 have hf_:=blk_frozen HF.out (2+a)
 rw [if_pos (by rfl)]
 unfold Oper.wp
 go_simp
 clear hc_ hf_
 have hev:=Evt.set HF.out (2+a) (.int .i64 x)
 replace HA:=Z (HA.out.other hev zq83 (fun q hq=>zq85))
 replace HF:=Z (frC_put HF.out a ha4 x)
 replace HR:=hev.r HR
 replace HPO:=Z (HPO.out.ev hev)
 replace HS:=hev.b HS
 generalize x1.setCell ⟨gf,2+a,none⟩ (.int .i64 x)=x2 at HA HF HR HPO HS ⊢
 clear hev
 refine hK.out _ _ ?_
 clear hK K
 refine done_ zq27 ?_
 go_wp2_with (fail)
 go_ret
 exact⟨rfl,Left.mk HA.out rfl rfl HF.out ((by rw [(setReg_runs _ _ _).1];exact HR.out)) hbf hBf HRB.out HPO.out⟩
theorem step_2(w:World)(base B gm gf:Nat)(A0:Value)(fuel:Int)(m:MS)(v:MV)(f:Fr)(par:Option Fr)(rv pv rp pp:Value)(H:Mach w base gm A0 fuel m v)(F:FrOk w base B gf f rv pv)(PA:PaOk w base gf par pv rp pp)(hb:base≤w.heap.size)(hB:B≤w.heap.size)(a:Nat)(ha4:a<4)(b:Nat)(hb4:b<4)(ha:Num (reg f a))(hbn:Num (reg f b)) :
  Calls Try.prog 308 #[.pointer (some ⟨gm,0,none⟩),.pointer (some ⟨gf,0,none⟩),.agg #[.int .i64 2,.int .i64 (a:Int),.int .i64 (b:Int)]] w fun e w'=>e= .returned (.bool false)∧Left w w' base B gm gf A0 fuel (m) v (setReg f a (wrap16 (reg f a+reg f b))) (par) pv rp pp:=by
 have HA:=Z (H.wk hb (parG pv) B)
 clear H
 have HF:=am F.blk
 have HR:=am F.run
 have hbf:=F.low
 have hBf:=F.hB
 have HRB:=am F.rB
 have HPO:=am PA
 clear F PA
 have ha4i:(a:Int)<4:=by omega
 have hb4i:(b:Int)<4:=by omega
 unfold Num at ha hbn
 have w16: ∀ x:Int,IntKind.i16.wrap x=wrap16 x:=fun x=>by unfold wrap16;simp only [IntKind.wrap,IntKind.bits,IntKind.signed];simp;split<;>omega
 have hw1:wrap64 (reg f a+reg f b)=reg f a+reg f b:=IntWalk.wrap64_in _ ⟨zq90,zq90⟩
 have hw2:wrap64 (wrap16 (reg f a+reg f b))=wrap16 (reg f a+reg f b):=IntWalk.wrap64_in _ ⟨by have:=(wrap16_num (reg f a+reg f b)).1;omega,by have:=(wrap16_num (reg f a+reg f b)).2;omega⟩
 go_enter Try.func308,Try.ntmps308
 go_upto_region 6 with(first|(refine bx 5 #[.int .i64 2,.int .i64 (a:Int),.int .i64 (b:Int)] 219 (h:= ?_);intro gs hgs w1 hbox hbel;have hE_:=Evt.below hbel 0;replace HA:=Z (HA.out.below hbel);replace HF:=hE_.b HF;replace HR:=hE_.r HR;replace HPO:=Z (HPO.out.ev hE_);have HS:=am hbox;clear hbel hbox hgs hE_;obtain⟨hs0,hs1,hs2⟩:=cl3 HS.out))
 clear hs0 hs1 hs2
 have hE0_:=Evt.drew w1 292
 replace HA:=Z (HA.out.drew)
 replace HF:=(Evt.drew w1 0).b HF
 replace HR:=(Evt.drew w1 0).r HR
 replace HPO:=Z (HPO.out.ev (Evt.drew w1 0))
 replace HS:=(Evt.drew w1 0).b HS
 clear hE0_
 refine start_ (n:=22) (S:=fun w'=>w'.cell? ⟨gf,2+a,none⟩=some (.int .i64 (reg f a))∧w'.cell? ⟨gs,2,none⟩=some (.int .i64 (b:Int))∧w'.cell? ⟨gf,2+b,none⟩=some (.int .i64 (reg f b))∧True) (ds:= [21]) (bb 22 0) zq27 rfl rfl ⟨frC_cell HF.out a ha4,(blk_cell HS.out 2).trans rfl,frC_cell HF.out b hb4,trivial⟩ (fun hHeld=> ?_)
 generalize w1.drew=x1 at HA HF HR HPO HS hHeld ⊢
 refine pure1 0 24 (bb 22 1) (h:= ?_)
 refine pure1 1 25 (bb 22 3) (h:= ?_)
 refine pure1 2 26 (bb 22 7) (h:= ?_)
 refine pure1 3 27 (bb 22 15) (h:= ?_)
 refine pure1 4 28 (bb 22 31) (h:= ?_)
 refine pure1 5 29 (bb 22 63) (h:= ?_)
 refine pure1 6 30 (bb 22 127) (h:= ?_)
 refine take1 7 31 (bb 22 255) (hS:=hHeld) (h:= ?_)
 refine pure1 8 32 (bb 22 511) (h:= ?_)
 refine pure1 9 33 (bb 22 1023) (h:= ?_)
 refine take1 10 34 (bb 22 2047) (hS:=hHeld) (h:= ?_)
 refine pure1 11 35 (bb 22 4095) (h:= ?_)
 refine pure1 12 36 (bb 22 8191) (h:= ?_)
 refine pure1 13 37 (bb 22 16383) (h:= ?_)
 refine take1 14 38 (bb 22 32767) (hS:=hHeld) (h:= ?_)
 refine pure1 15 39 (bb 22 65535) (h:= ?_)
 refine pure1 16 40 (bb 22 131071) (h:= ?_)
 refine pure1 17 41 (bb 22 262143) (h:= ?_)
 refine pure1 18 42 (bb 22 524287) (h:= ?_)
 refine pure1 19 43 (bb 22 1048575) (h:= ?_)
 refine pure1 20 44 (bb 22 2097151) (h:= ?_)
 refine la 21 none (bb 22 4194303) (h:=fun K hK=> ?_)
 have hc_:=frC_cell HF.out a ha4
 have hf_:=blk_frozen HF.out (2+a)
 rw [if_pos (by rfl)]
 unfold Oper.wp
 go_simp
 clear hc_ hf_
 have hev:=Evt.set HF.out (2+a) (.int .i64 (wrap16 (reg f a+reg f b)))
 replace HA:=Z (HA.out.other hev zq83 (fun q hq=>zq85))
 replace HF:=Z (frC_put HF.out a ha4 (wrap16 (reg f a+reg f b)))
 replace HR:=hev.r HR
 replace HPO:=Z (HPO.out.ev hev)
 replace HS:=hev.b HS
 generalize x1.setCell ⟨gf,2+a,none⟩ (.int .i64 (wrap16 (reg f a+reg f b)))=x2 at HA HF HR HPO HS ⊢
 clear hev
 refine hK.out _ _ ?_
 clear hK K
 refine done_ zq27 ?_
 go_wp2_with (fail)
 go_ret
 exact⟨rfl,Left.mk HA.out rfl rfl HF.out ((by rw [(setReg_runs _ _ _).1];exact HR.out)) hbf hBf HRB.out HPO.out⟩
theorem step_3(w:World)(base B gm gf:Nat)(A0:Value)(fuel:Int)(m:MS)(v:MV)(f:Fr)(par:Option Fr)(rv pv rp pp:Value)(H:Mach w base gm A0 fuel m v)(F:FrOk w base B gf f rv pv)(PA:PaOk w base gf par pv rp pp)(hb:base≤w.heap.size)(hB:B≤w.heap.size)(a:Nat)(ha4:a<4)(x:Int)(hr:m.trace.length≤100000)(ho:m.owners.length≤100000) :
  Calls Try.prog 308 #[.pointer (some ⟨gm,0,none⟩),.pointer (some ⟨gf,0,none⟩),.agg #[.int .i64 3,.int .i64 (a:Int),.int .i64 x]] w fun e w'=>e= .returned (.bool false)∧Left w w' base B gm gf A0 fuel (tell m 4 f.fn (reg f a) f.id) v (f) (par) pv rp pp:=by
 have HA:=Z (H.wk hb (parG pv) B)
 clear H
 have HF:=am F.blk
 have HR:=am F.run
 have hbf:=F.low
 have hBf:=F.hB
 have HRB:=am F.rB
 have HPO:=am PA
 clear F PA
 have ha4i:(a:Int)<4:=by omega
 have e170: ∀ args w,(callFunc 302 args).run Try.prog w= .ok (.enter 302 args) w:=enters_of Try.func302 zq27 rfl
 go_enter Try.func308,Try.ntmps308
 go_upto_region 8 with(first|(refine bx 5 #[.int .i64 3,.int .i64 (a:Int),.int .i64 x] 219 (h:= ?_);intro gs hgs w1 hbox hbel;have hE_:=Evt.below hbel 0;replace HA:=Z (HA.out.below hbel);replace HF:=hE_.b HF;replace HR:=hE_.r HR;replace HPO:=Z (HPO.out.ev hE_);have HS:=am hbox;clear hbel hbox hgs hE_;obtain⟨hs0,hs1,hs2⟩:=cl3 HS.out))
 clear hs0 hs1 hs2
 have hE0_:=Evt.drew w1 292
 replace HA:=Z (HA.out.drew)
 replace HF:=(Evt.drew w1 0).b HF
 replace HR:=(Evt.drew w1 0).r HR
 replace HPO:=Z (HPO.out.ev (Evt.drew w1 0))
 replace HS:=(Evt.drew w1 0).b HS
 clear hE0_
 refine start_ (n:=16) (S:=fun w'=>w'.cell? ⟨gf,1,none⟩=some (.int .i64 f.fn)∧w'.cell? ⟨gf,2+a,none⟩=some (.int .i64 (reg f a))∧w'.cell? ⟨gf,0,none⟩=some (.int .i64 f.id)∧True) (ds:= [15]) (bb 16 0) zq27 rfl rfl ⟨(blk_cell HF.out 1).trans rfl,frC_cell HF.out a ha4,(blk_cell HF.out 0).trans rfl,trivial⟩ (fun hHeld=> ?_)
 generalize w1.drew=x1 at HA HF HR HPO HS hHeld ⊢
 refine pure1 0 47 (bb 16 1) (h:= ?_)
 refine pure1 1 48 (bb 16 3) (h:= ?_)
 refine pure1 2 49 (bb 16 7) (h:= ?_)
 refine pure1 3 50 (bb 16 15) (h:= ?_)
 refine take1 4 51 (bb 16 31) (hS:=hHeld) (h:= ?_)
 refine pure1 5 52 (bb 16 63) (h:= ?_)
 refine pure1 6 53 (bb 16 127) (h:= ?_)
 refine pure1 7 54 (bb 16 255) (h:= ?_)
 refine pure1 8 55 (bb 16 511) (h:= ?_)
 refine pure1 9 56 (bb 16 1023) (h:= ?_)
 refine take1 10 57 (bb 16 2047) (hS:=hHeld) (h:= ?_)
 refine pure1 11 58 (bb 16 4095) (h:= ?_)
 refine pure1 12 59 (bb 16 8191) (h:= ?_)
 refine pure1 13 60 (bb 16 16383) (h:= ?_)
 refine take1 14 61 (bb 16 32767) (hS:=hHeld) (h:= ?_)
 refine la 15 (some 62) (bb 16 65535) (h:=fun K hK=> ?_)
 refine goes_ Try.func302 zq27 rfl #[.pointer (some ⟨gm,0,none⟩),.int .i64 4,.int .i64 (f.fn),.int .i64 (reg f a),.int .i64 (f.id)] (by rfl) rfl rfl zq84 ?_
 refine(tell.calls _ base gm A0 fuel (m) (v) 4 (f.fn) (reg f a) (f.id) (HA.out.mach (A0:=A0) (fuel:=fuel) (m:=m) (v:=v)) HA.out.sz (by exact hr) (by exact ho)).mono ?_
 rintro e wz ⟨rfl,t,q,hM,hK2⟩
 refine⟨_,rfl,?_⟩
 replace HF:=Z (KeptM.blk hK2 HF.out zq83 zq87)
 replace HR:=Z (KeptM.row hK2 HR.out zq83 zq83)
 replace HPO:=Z (HPO.out.kept hK2 (.inl rfl))
 replace HS:=Z (KeptM.blk hK2 HS.out zq83 zq87)
 replace HA:=Z (HA.out.call hK2 hM (fun g e=>zq121) (Nat.le_trans hB HA.out.kept.size))
 clear hM hK2
 refine hK.out _ _ ?_
 clear hK K
 refine nm 62 (h:= ?_)
 refine done_ zq27 ?_
 go_wp2_with (fail)
 go_ret
 exact⟨rfl,Left.mk HA.out rfl rfl HF.out (HR.out) hbf hBf HRB.out HPO.out⟩
theorem step_5(w:World)(base B gm gf:Nat)(A0:Value)(fuel:Int)(m:MS)(v:MV)(f:Fr)(par:Option Fr)(rv pv rp pp:Value)(H:Mach w base gm A0 fuel m v)(F:FrOk w base B gf f rv pv)(PA:PaOk w base gf par pv rp pp)(hb:base≤w.heap.size)(hB:B≤w.heap.size)(b:Nat)(hb4:b<4)(x:Int)(hn:f.runs.length≤100000)(hr:m.trace.length≤100000)(ho:m.owners.length≤100000) :
  Calls Try.prog 308 #[.pointer (some ⟨gm,0,none⟩),.pointer (some ⟨gf,0,none⟩),.agg #[.int .i64 5,.int .i64 x,.int .i64 (b:Int)]] w fun e w'=>e= .returned (.bool false)∧Left w w' base B gm gf A0 fuel (tell m 2 x (reg f b) f.id) v ({ f with runs:=f.runs++ [(x,reg f b)] }) (par) pv rp pp:=by
 have HA:=Z (H.wk hb (parG pv) B)
 clear H
 have HF:=am F.blk
 have HR:=am F.run
 have hbf:=F.low
 have hBf:=F.hB
 have HRB:=am F.rB
 have HPO:=am PA
 clear F PA
 have hb4i:(b:Int)<4:=by omega
 have e170: ∀ args w,(callFunc 302 args).run Try.prog w= .ok (.enter 302 args) w:=enters_of Try.func302 zq27 rfl
 go_enter Try.func308,Try.ntmps308
 go_upto_region 18 with(first|(refine bx 5 #[.int .i64 5,.int .i64 x,.int .i64 (b:Int)] 219 (h:= ?_);intro gs hgs w1 hbox hbel;have hE_:=Evt.below hbel 0;replace HA:=Z (HA.out.below hbel);replace HF:=hE_.b HF;replace HR:=hE_.r HR;replace HPO:=Z (HPO.out.ev hE_);have HS:=am hbox;clear hbel hbox hgs hE_;obtain⟨hs0,hs1,hs2⟩:=cl3 HS.out))
 clear hs0 hs1 hs2
 have hE0_:=Evt.drew w1 292
 replace HA:=Z (HA.out.drew)
 replace HF:=(Evt.drew w1 0).b HF
 replace HR:=(Evt.drew w1 0).r HR
 replace HPO:=Z (HPO.out.ev (Evt.drew w1 0))
 replace HS:=(Evt.drew w1 0).b HS
 clear hE0_
 refine start_ (n:=20) (S:=fun w'=>w'.cell? ⟨gf,6,none⟩=some (rv)∧w'.cell? ⟨gs,1,none⟩=some (.int .i64 x)∧w'.cell? ⟨gs,2,none⟩=some (.int .i64 (b:Int))∧w'.cell? ⟨gf,2+b,none⟩=some (.int .i64 (reg f b))∧True) (ds:= [16,19]) (bb 20 0) zq27 rfl rfl ⟨(blk_cell HF.out 6).trans rfl,(blk_cell HS.out 1).trans rfl,(blk_cell HS.out 2).trans rfl,frC_cell HF.out b hb4,trivial⟩ (fun hHeld=> ?_)
 generalize w1.drew=x1 at HA HF HR HPO HS hHeld ⊢
 refine pure1 0 120 (bb 20 1) (h:= ?_)
 refine pure1 1 121 (bb 20 3) (h:= ?_)
 refine pure1 2 122 (bb 20 7) (h:= ?_)
 refine pure1 3 123 (bb 20 15) (h:= ?_)
 refine take1 4 124 (bb 20 31) (hS:=hHeld) (h:= ?_)
 refine pure1 5 125 (bb 20 63) (h:= ?_)
 refine take1 6 126 (bb 20 127) (hS:=hHeld) (h:= ?_)
 refine pure1 7 127 (bb 20 255) (h:= ?_)
 refine pure1 8 128 (bb 20 511) (h:= ?_)
 refine take1 9 129 (bb 20 1023) (hS:=hHeld) (h:= ?_)
 refine pure1 10 130 (bb 20 2047) (h:= ?_)
 refine pure1 11 131 (bb 20 4095) (h:= ?_)
 refine pure1 12 132 (bb 20 8191) (h:= ?_)
 refine take1 13 133 (bb 20 16383) (hS:=hHeld) (h:= ?_)
 refine pure1 14 134 (bb 20 32767) (h:= ?_)
 refine on_ 15 (some 135) (bb 20 65535) (h:=fun K hK=> ?_)
 refine alloc_ (cs:=(prC (x,reg f b)).toArray) (e:=326) (n:=1) (by rfl) rfl zq88 ?_
 intro gA hgA x2 hnew hbel
 have hE_:=Evt.below hbel 0
 replace HA:=Z (HA.out.below hbel)
 replace HF:=hE_.b HF
 replace HR:=hE_.r HR
 replace HPO:=Z (HPO.out.ev hE_)
 replace HS:=hE_.b HS
 have GgA:=am hnew
 clear hnew hbel hgA hE_
 refine hK.out _ _ ⟨(blk_cell HF.out 6).trans rfl,(blk_cell HS.out 1).trans rfl,(blk_cell HS.out 2).trans rfl,frC_cell HF.out b hb4,trivial⟩ (fun hHeld=> ?_)
 clear hK K
 refine nm 135 (h:= ?_)
 refine la 16 (some 136) (bb 20 131071) (h:=fun K hK=> ?_)
 obtain⟨t,x3,hE,hown,hev,hto⟩:=app_pd HR.out gA 1 (x,reg f b) GgA.out hn HA.out.sz
 obtain⟨tA,tc,ht⟩:=own_slice hown
 refine ev_ (v:=t) (w':=x3) (by rfl) rfl (appRun_ _ _ _ rfl rfl rfl rfl hE) ?_
 clear hE GgA
 have n1_:=Z (show ∀ q,t.ownBlock=some q→B≤q from fun q hq=>by
  rcases hto with h1|h1
  ·rw [h1] at hq;exact HRB.out q hq
  ·rw [h1] at hq;injection hq with hq;rw [← hq];exact Nat.le_trans hB HA.out.kept.size)
 clear hto
 replace HA:=Z (HA.out.other hev zq83 (fun q hq=>⟨own_base HR.out q hq,.inr (.inr (HRB.out q hq))⟩))
 replace HF:=hev.b HF
 replace HPO:=Z (HPO.out.ev hev)
 replace HS:=hev.b HS
 clear HR HRB hev
 have HR:=am hown
 have HRB:=n1_
 clear hown n1_
 subst ht
 refine hK.out _ _ ?_
 clear hK K
 refine nm 136 (h:= ?_)
 refine pure1 17 137 (bb 20 262143) (h:= ?_)
 refine pure1 18 138 (bb 20 524287) (h:= ?_)
 refine la 19 none (bb 20 1048575) (h:=fun K hK=> ?_)
 have hc_:=(blk_cell HF.out 6).trans (show _=some rv from rfl)
 have hf_:=blk_frozen HF.out 6
 rw [if_pos (by rfl)]
 unfold Oper.wp
 go_simp
 clear hc_ hf_
 have hev:=Evt.set HF.out 6 (.slice tA (f.runs.length+1) tc)
 replace HA:=Z (HA.out.other hev zq83 (fun q hq=>zq85))
 replace HF:=Z ((blk_set HF.out 6 (.slice tA (f.runs.length+1) tc)).trans (show _=some (Obj.cells (frC { f with runs:=f.runs++ [(x,reg f b)] } (.slice tA (f.runs.length+1) tc) pv).toArray 292 (0,0)) from rfl))
 replace HR:=hev.r HR
 replace HPO:=Z (HPO.out.ev hev)
 replace HS:=hev.b HS
 generalize x3.setCell ⟨gf,6,none⟩ (.slice tA (f.runs.length+1) tc)=x4 at HA HF HR HPO HS ⊢
 clear hev
 refine hK.out _ _ ?_
 clear hK K
 refine done_ zq27 ?_
 go_upto_region 19 with(fail)
 have hE0_:=Evt.drew x4 292
 replace HA:=Z (HA.out.drew)
 replace HF:=(Evt.drew x4 0).b HF
 replace HR:=(Evt.drew x4 0).r HR
 replace HPO:=Z (HPO.out.ev (Evt.drew x4 0))
 replace HS:=(Evt.drew x4 0).b HS
 clear hE0_
 refine start_ (n:=15) (S:=fun w'=>w'.cell? ⟨gs,1,none⟩=some (.int .i64 x)∧w'.cell? ⟨gs,2,none⟩=some (.int .i64 (b:Int))∧w'.cell? ⟨gf,2+b,none⟩=some (.int .i64 (reg f b))∧w'.cell? ⟨gf,0,none⟩=some (.int .i64 f.id)∧True) (ds:= [14]) (bb 15 0) zq27 rfl rfl ⟨(blk_cell HS.out 1).trans rfl,(blk_cell HS.out 2).trans rfl,(frC_cell HF.out b hb4).trans (by first|rfl|(unfold reg;rfl)),(blk_cell HF.out 0).trans rfl,trivial⟩ (fun hHeld=> ?_)
 generalize x4.drew=x5 at HA HF HR HPO HS hHeld ⊢
 refine pure1 0 139 (bb 15 1) (h:= ?_)
 refine pure1 1 140 (bb 15 3) (h:= ?_)
 refine take1 2 141 (bb 15 7) (hS:=hHeld) (h:= ?_)
 refine pure1 3 142 (bb 15 15) (h:= ?_)
 refine pure1 4 143 (bb 15 31) (h:= ?_)
 refine take1 5 144 (bb 15 63) (hS:=hHeld) (h:= ?_)
 refine pure1 6 145 (bb 15 127) (h:= ?_)
 refine pure1 7 146 (bb 15 255) (h:= ?_)
 refine pure1 8 147 (bb 15 511) (h:= ?_)
 refine take1 9 148 (bb 15 1023) (hS:=hHeld) (h:= ?_)
 refine pure1 10 149 (bb 15 2047) (h:= ?_)
 refine pure1 11 150 (bb 15 4095) (h:= ?_)
 refine pure1 12 151 (bb 15 8191) (h:= ?_)
 refine take1 13 152 (bb 15 16383) (hS:=hHeld) (h:= ?_)
 refine la 14 (some 153) (bb 15 32767) (h:=fun K hK=> ?_)
 refine goes_ Try.func302 zq27 rfl #[.pointer (some ⟨gm,0,none⟩),.int .i64 2,.int .i64 (x),.int .i64 (reg f b),.int .i64 (f.id)] (by rfl) rfl rfl zq84 ?_
 refine(tell.calls _ base gm A0 fuel (m) (v) 2 (x) (reg f b) (f.id) (HA.out.mach (A0:=A0) (fuel:=fuel) (m:=m) (v:=v)) HA.out.sz (by exact hr) (by exact ho)).mono ?_
 rintro e wz ⟨rfl,t,q,hM,hK2⟩
 refine⟨_,rfl,?_⟩
 replace HF:=Z (KeptM.blk hK2 HF.out zq83 zq87)
 replace HR:=Z (KeptM.row hK2 HR.out zq83 zq83)
 replace HPO:=Z (HPO.out.kept hK2 (.inl rfl))
 replace HS:=Z (KeptM.blk hK2 HS.out zq83 zq87)
 replace HA:=Z (HA.out.call hK2 hM (fun g e=>zq121) (Nat.le_trans hB HA.out.kept.size))
 clear hM hK2
 refine hK.out _ _ ?_
 clear hK K
 refine nm 153 (h:= ?_)
 refine done_ zq27 ?_
 go_wp2_with (fail)
 go_ret
 exact⟨rfl,Left.mk HA.out rfl rfl HF.out (by rw [len1,flat1];exact HR.out) hbf hBf HRB.out HPO.out⟩
theorem step_6(w:World)(base B gm gf:Nat)(A0:Value)(fuel:Int)(m:MS)(v:MV)(f:Fr)(par:Option Fr)(rv pv rp pp:Value)(H:Mach w base gm A0 fuel m v)(F:FrOk w base B gf f rv pv)(PA:PaOk w base gf par pv rp pp)(hb:base≤w.heap.size)(hB:B≤w.heap.size)(a:Nat)(ha4:a<4)(x:Int)(hp:m.panics.length≤100000)(hr:m.trace.length≤100000)(ho:m.owners.length≤100000) :
  Calls Try.prog 308 #[.pointer (some ⟨gm,0,none⟩),.pointer (some ⟨gf,0,none⟩),.agg #[.int .i64 6,.int .i64 (a:Int),.int .i64 x]] w fun e w'=>e= .returned (.bool true)∧Left w w' base B gm gf A0 fuel (tell { m with panics:=m.panics++ [(⟨f.id,f.fn,reg f a,m.depth,0,-1,-1,f.counted,[]⟩:PI)] } 5 f.fn (reg f a) f.id) v ({ f with fin:=2,pan:=(m.panics.length:Int) }) (par) pv rp pp:=by
 have HA:=Z (H.wk hb (parG pv) B)
 clear H
 have HF:=am F.blk
 have HR:=am F.run
 have hbf:=F.low
 have hBf:=F.hB
 have HRB:=am F.rB
 have HPO:=am PA
 clear F PA
 have ha4i:(a:Int)<4:=by omega
 have e170: ∀ args w,(callFunc 302 args).run Try.prog w= .ok (.enter 302 args) w:=enters_of Try.func302 zq27 rfl
 obtain⟨pA,pc,hpv⟩:=own_slice HA.out.rows.pa
 have HPV:=am hpv
 clear hpv
 go_enter Try.func308,Try.ntmps308
 go_upto_region 22 with(first|(refine bx 5 #[.int .i64 6,.int .i64 (a:Int),.int .i64 x] 219 (h:= ?_);intro gs hgs w1 hbox hbel;have hE_:=Evt.below hbel 0;replace HA:=Z (HA.out.below hbel);replace HF:=hE_.b HF;replace HR:=hE_.r HR;replace HPO:=Z (HPO.out.ev hE_);have HS:=am hbox;clear hbel hbox hgs hE_;obtain⟨hs0,hs1,hs2⟩:=cl3 HS.out;have hm9:w1.cell? ⟨gm,9,none⟩=some (.slice pA m.panics.length pc):=(blk_cell HA.out.blk 9).trans (by rw [← HPV.out];rfl);have hk11:w1.cell? ⟨gf,11,none⟩=some (.int .i64 f.fin):=(blk_cell HF.out 11).trans rfl;have hz11:=blk_frozen HF.out 11;have hk12:w1.cell? ⟨gf,12,none⟩=some (.int .i64 f.pan):=(blk_cell HF.out 12).trans rfl;have hz12:=blk_frozen HF.out 12))
 clear hs0 hs1 hs2
 clear hm9 hk11 hz11 hk12 hz12
 have hev:=Evt.set HF.out (11) (.int .i64 2)
 replace HA:=Z (HA.out.other hev zq83 (fun q hq=>zq85))
 replace HF:=Z ((blk_set HF.out (11) (.int .i64 2)).trans (show _=some (Obj.cells (frC ({ f with fin:=2 }) rv pv).toArray 292 (0,0)) from rfl))
 replace HR:=hev.r HR
 replace HPO:=Z (HPO.out.ev hev)
 replace HS:=hev.b HS
 clear hev
 generalize w1.setCell ⟨gf,11,none⟩ (.int .i64 2)=x1 at HA HF HR HPO HS ⊢
 have hev:=Evt.set HF.out (12) (.int .i64 (m.panics.length:Int))
 replace HA:=Z (HA.out.other hev zq83 (fun q hq=>zq85))
 replace HF:=Z ((blk_set HF.out (12) (.int .i64 (m.panics.length:Int))).trans (show _=some (Obj.cells (frC ({ f with fin:=2,pan:=(m.panics.length:Int) }) rv pv).toArray 292 (0,0)) from rfl))
 replace HR:=hev.r HR
 replace HPO:=Z (HPO.out.ev hev)
 replace HS:=hev.b HS
 clear hev
 generalize x1.setCell ⟨gf,12,none⟩ (.int .i64 (m.panics.length:Int))=x2 at HA HF HR HPO HS ⊢
 have hE0_:=Evt.drew x2 292
 replace HA:=Z (HA.out.drew)
 replace HF:=(Evt.drew x2 0).b HF
 replace HR:=(Evt.drew x2 0).r HR
 replace HPO:=Z (HPO.out.ev (Evt.drew x2 0))
 replace HS:=(Evt.drew x2 0).b HS
 clear hE0_
 refine start_ (n:=33) (S:=fun w'=>w'.cell? ⟨gm,9,none⟩=some (v.pa)∧w'.cell? ⟨gf,0,none⟩=some (.int .i64 f.id)∧w'.cell? ⟨gf,1,none⟩=some (.int .i64 f.fn)∧w'.cell? ⟨gf,2+a,none⟩=some (.int .i64 (reg f a))∧w'.cell? ⟨gm,4,none⟩=some (.int .i64 m.depth)∧w'.cell? ⟨gf,9,none⟩=some (.bool f.counted)∧True) (ds:= [29,32]) (bb 33 0) zq27 rfl rfl ⟨(blk_cell HA.out.blk 9).trans rfl,(blk_cell HF.out 0).trans rfl,(blk_cell HF.out 1).trans rfl,(frC_cell HF.out a ha4).trans (by first|rfl|(unfold reg;rfl)),(blk_cell HA.out.blk 4).trans rfl,(blk_cell HF.out 9).trans rfl,trivial⟩ (fun hHeld=> ?_)
 generalize x2.drew=x3 at HA HF HR HPO HS hHeld ⊢
 refine pure1 0 167 (bb 33 1) (h:= ?_)
 refine pure1 1 168 (bb 33 3) (h:= ?_)
 refine pure1 2 169 (bb 33 7) (h:= ?_)
 refine pure1 3 170 (bb 33 15) (h:= ?_)
 refine take1 4 171 (bb 33 31) (hS:=hHeld) (h:= ?_)
 refine pure1 5 172 (bb 33 63) (h:= ?_)
 refine pure1 6 173 (bb 33 127) (h:= ?_)
 refine pure1 7 174 (bb 33 255) (h:= ?_)
 refine take1 8 175 (bb 33 511) (hS:=hHeld) (h:= ?_)
 refine pure1 9 176 (bb 33 1023) (h:= ?_)
 refine pure1 10 177 (bb 33 2047) (h:= ?_)
 refine pure1 11 178 (bb 33 4095) (h:= ?_)
 refine take1 12 179 (bb 33 8191) (hS:=hHeld) (h:= ?_)
 refine pure1 13 180 (bb 33 16383) (h:= ?_)
 refine pure1 14 181 (bb 33 32767) (h:= ?_)
 refine pure1 15 182 (bb 33 65535) (h:= ?_)
 refine pure1 16 183 (bb 33 131071) (h:= ?_)
 refine pure1 17 184 (bb 33 262143) (h:= ?_)
 refine take1 18 185 (bb 33 524287) (hS:=hHeld) (h:= ?_)
 refine pure1 19 186 (bb 33 1048575) (h:= ?_)
 refine pure1 20 187 (bb 33 2097151) (h:= ?_)
 refine pure1 21 188 (bb 33 4194303) (h:= ?_)
 refine take1 22 189 (bb 33 8388607) (hS:=hHeld) (h:= ?_)
 refine pure1 23 190 (bb 33 16777215) (h:= ?_)
 refine pure1 24 191 (bb 33 33554431) (h:= ?_)
 refine pure1 25 192 (bb 33 67108863) (h:= ?_)
 refine take1 26 193 (bb 33 134217727) (hS:=hHeld) (h:= ?_)
 refine pure1 27 194 (bb 33 268435455) (h:= ?_)
 refine on_ 28 (some 195) (bb 33 536870911) (h:=fun K hK=> ?_)
 refine alloc_ (cs:=(piC ⟨f.id,f.fn,reg f a,m.depth,0,-1,-1,f.counted,[]⟩ (.slice none 0 0)).toArray) (e:=225) (n:=1) (by rfl) rfl zq88 ?_
 intro gA hgA x4 hnew hbel
 have hE_:=Evt.below hbel 0
 replace HA:=Z (HA.out.below hbel)
 replace HF:=hE_.b HF
 replace HR:=hE_.r HR
 replace HPO:=Z (HPO.out.ev hE_)
 replace HS:=hE_.b HS
 have GgA:=am hnew
 clear hnew hbel hgA hE_
 refine hK.out _ _ ⟨(blk_cell HA.out.blk 9).trans rfl,(blk_cell HF.out 0).trans rfl,(blk_cell HF.out 1).trans rfl,(frC_cell HF.out a ha4).trans (by first|rfl|(unfold reg;rfl)),(blk_cell HA.out.blk 4).trans rfl,(blk_cell HF.out 9).trans rfl,trivial⟩ (fun hHeld=> ?_)
 clear hK K
 refine nm 195 (h:= ?_)
 refine la 29 (some 196) (bb 33 1073741823) (h:=fun K hK=> ?_)
 obtain⟨t,x5,hE,hA',hev⟩:=HA.out.appPa gA 1 ⟨f.id,f.fn,reg f a,m.depth,0,-1,-1,f.counted,[]⟩ rfl GgA.out hp
 refine ev_ (v:=t) (w':=x5) (by rfl) rfl (appRun_ _ _ _ rfl rfl rfl rfl hE) ?_
 clear hE
 clear GgA
 replace HF:=hev.b HF
 replace HR:=hev.r HR
 replace HPO:=Z (HPO.out.ev hev)
 replace HS:=hev.b HS
 clear HA
 have HA:=am hA'
 clear hA' hev
 obtain⟨tA,tc,ht⟩:=own_slice HA.out.rows.pa
 have ht':t= .slice tA (m.panics.length+1) tc:=by have h':=ht;rw [len1] at h';exact h'
 clear ht
 subst ht'
 refine hK.out _ _ ?_
 clear hK K
 refine nm 196 (h:= ?_)
 refine pure1 30 197 (bb 33 2147483647) (h:= ?_)
 refine pure1 31 198 (bb 33 4294967295) (h:= ?_)
 refine la 32 none (bb 33 8589934591) (h:=fun K hK=> ?_)
 have hc_:=(blk_cell HA.out.blk 9).trans (show _=some v.pa from rfl)
 have hf_:=blk_frozen HA.out.blk 9
 rw [if_pos (by rfl)]
 unfold Oper.wp
 go_simp
 clear hc_ hf_
 have hev:=(HA.out.setM 9 (.slice tA (m.panics.length+1) tc)).2
 replace HA:=Z ((HA.out.setM 9 (.slice tA (m.panics.length+1) tc)).1)
 replace HF:=hev.b HF
 replace HR:=hev.r HR
 replace HPO:=Z (HPO.out.ev hev)
 replace HS:=hev.b HS
 generalize x5.setCell ⟨gm,9,none⟩ (.slice tA (m.panics.length+1) tc)=x6 at HA HF HR HPO HS ⊢
 clear hev
 refine hK.out _ _ ?_
 clear hK K
 refine done_ zq27 ?_
 go_upto_region 23 with(fail)
 have hE0_:=Evt.drew x6 292
 replace HA:=Z (HA.out.drew)
 replace HF:=(Evt.drew x6 0).b HF
 replace HR:=(Evt.drew x6 0).r HR
 replace HPO:=Z (HPO.out.ev (Evt.drew x6 0))
 replace HS:=(Evt.drew x6 0).b HS
 clear hE0_
 refine start_ (n:=16) (S:=fun w'=>w'.cell? ⟨gf,1,none⟩=some (.int .i64 f.fn)∧w'.cell? ⟨gf,2+a,none⟩=some (.int .i64 (reg f a))∧w'.cell? ⟨gf,0,none⟩=some (.int .i64 f.id)∧True) (ds:= [15]) (bb 16 0) zq27 rfl rfl ⟨(blk_cell HF.out 1).trans rfl,(frC_cell HF.out a ha4).trans (by first|rfl|(unfold reg;rfl)),(blk_cell HF.out 0).trans rfl,trivial⟩ (fun hHeld=> ?_)
 generalize x6.drew=x7 at HA HF HR HPO HS hHeld ⊢
 refine pure1 0 199 (bb 16 1) (h:= ?_)
 refine pure1 1 200 (bb 16 3) (h:= ?_)
 refine pure1 2 201 (bb 16 7) (h:= ?_)
 refine pure1 3 202 (bb 16 15) (h:= ?_)
 refine take1 4 203 (bb 16 31) (hS:=hHeld) (h:= ?_)
 refine pure1 5 204 (bb 16 63) (h:= ?_)
 refine pure1 6 205 (bb 16 127) (h:= ?_)
 refine pure1 7 206 (bb 16 255) (h:= ?_)
 refine pure1 8 207 (bb 16 511) (h:= ?_)
 refine pure1 9 208 (bb 16 1023) (h:= ?_)
 refine take1 10 209 (bb 16 2047) (hS:=hHeld) (h:= ?_)
 refine pure1 11 210 (bb 16 4095) (h:= ?_)
 refine pure1 12 211 (bb 16 8191) (h:= ?_)
 refine pure1 13 212 (bb 16 16383) (h:= ?_)
 refine take1 14 213 (bb 16 32767) (hS:=hHeld) (h:= ?_)
 refine la 15 (some 214) (bb 16 65535) (h:=fun K hK=> ?_)
 refine goes_ Try.func302 zq27 rfl #[.pointer (some ⟨gm,0,none⟩),.int .i64 5,.int .i64 (f.fn),.int .i64 (reg f a),.int .i64 (f.id)] (by rfl) rfl rfl zq84 ?_
 refine(tell.calls _ base gm A0 fuel ({ m with panics:=m.panics++ [(⟨f.id,f.fn,reg f a,m.depth,0,-1,-1,f.counted,[]⟩:PI)] }) ({ v with pa:= .slice tA (m.panics.length+1) tc,unw:=v.unw++ [.slice none 0 0] }) 5 (f.fn) (reg f a) (f.id) (HA.out.mach (A0:=A0) (fuel:=fuel) (m:= { m with panics:=m.panics++ [(⟨f.id,f.fn,reg f a,m.depth,0,-1,-1,f.counted,[]⟩:PI)] }) (v:= { v with pa:= .slice tA (m.panics.length+1) tc,unw:=v.unw++ [.slice none 0 0] })) HA.out.sz (by exact hr) (by exact ho)).mono ?_
 rintro e wz ⟨rfl,t,q,hM,hK2⟩
 refine⟨_,rfl,?_⟩
 replace HF:=Z (KeptM.blk hK2 HF.out zq83 zq87)
 replace HR:=Z (KeptM.row hK2 HR.out zq83 zq83)
 replace HPO:=Z (HPO.out.kept hK2 (.inl rfl))
 replace HS:=Z (KeptM.blk hK2 HS.out zq83 zq87)
 replace HA:=Z (HA.out.call hK2 hM (fun g e=>zq121) (Nat.le_trans hB HA.out.kept.size))
 clear hM hK2
 refine hK.out _ _ ?_
 clear hK K
 refine nm 214 (h:= ?_)
 refine done_ zq27 ?_
 go_wp2_with (fail)
 go_ret
 exact⟨rfl,Left.mk HA.out rfl rfl HF.out (HR.out) hbf hBf HRB.out HPO.out⟩
theorem step_7(w:World)(base B gm gf:Nat)(A0:Value)(fuel:Int)(m:MS)(v:MV)(f:Fr)(par:Option Fr)(rv pv rp pp:Value)(H:Mach w base gm A0 fuel m v)(F:FrOk w base B gf f rv pv)(PA:PaOk w base gf par pv rp pp)(hb:base≤w.heap.size)(hB:B≤w.heap.size)(a:Nat)(ha4:a<4)(x:Int)(hdp:f.dfr=true→ ∃ pf,par=some pf∧(pf.fin=2→Valid m pf.pan))(hrc:m.recs.length≤100000)(hr:m.trace.length≤100000)(ho:m.owners.length≤100000) :
  Calls Try.prog 308 #[.pointer (some ⟨gm,0,none⟩),.pointer (some ⟨gf,0,none⟩),.agg #[.int .i64 7,.int .i64 (a:Int),.int .i64 x]] w fun e w'=>e= .returned (.bool false)∧Left w w' base B gm gf A0 fuel ((recoverI m f par a).1) v ((recoverI m f par a).2) (par) pv rp pp:=by
 have HA:=Z (H.wk hb (parG pv) B)
 clear H
 have HF:=am F.blk
 have HR:=am F.run
 have hbf:=F.low
 have hBf:=F.hB
 have HRB:=am F.rB
 have HPO:=am PA
 clear F PA
 have ha4i:(a:Int)<4:=by omega
 have e193: ∀ args w,(callFunc 311 args).run Try.prog w= .ok (.enter 311 args) w:=enters_of Try.func311 zq27 rfl
 go_enter Try.func308,Try.ntmps308
 go_wp2_with (first|(refine bx 5 #[.int .i64 7,.int .i64 (a:Int),.int .i64 x] 219 (h:= ?_);intro gs hgs w1 hbox hbel;have hE_:=Evt.below hbel 0;replace HA:=Z (HA.out.below hbel);replace HF:=hE_.b HF;replace HR:=hE_.r HR;replace HPO:=Z (HPO.out.ev hE_);have HS:=am hbox;clear hbel hbox hgs hE_;obtain⟨hs0,hs1,hs2⟩:=cl3 HS.out)|(go_at_fn 311;refine(recover.calls _ base gm gf A0 fuel m v f par rv pv rp pp a ha4 HA.out.mach HF.out HPO.out hbf HA.out.sz hdp hr ho hrc).mono ?_;rintro e w2 ⟨rfl,v2,hpl,hM,hF2,hK2⟩;replace HR:=Z (KeptM.row hK2 HR.out zq83 zq83);replace HPO:=Z (HPO.out.kept hK2 (.inr rfl));replace HS:=Z (KeptM.blk hK2 HS.out zq83 zq87);replace HA:=Z (HA.out.call hK2 hM (fun g e=>zq89) (Nat.le_trans hB HA.out.kept.size));clear HF;have HF:=am hF2;clear hF2 hM hK2;have HPL:=am hpl;clear hpl))
 go_ret
 have hruns:(recoverI m f par a).2.runs=f.runs:=by
  unfold recoverI
  split
  ·split
   ·exact(setReg_runs _ _ _).1
   ·exact(setReg_runs _ _ _).1
  ·exact(setReg_runs _ _ _).1
 exact⟨rfl,Left.mk HA.out rfl HPL.out HF.out (by rw [hruns];exact HR.out) hbf hBf HRB.out HPO.out⟩
theorem step_8(w:World)(base B gm gf:Nat)(A0:Value)(fuel:Int)(m:MS)(v:MV)(f:Fr)(par:Option Fr)(rv pv rp pp:Value)(H:Mach w base gm A0 fuel m v)(F:FrOk w base B gf f rv pv)(PA:PaOk w base gf par pv rp pp)(hb:base≤w.heap.size)(hB:B≤w.heap.size)(a:Nat)(ha4:a<4)(x:Int) :
  Calls Try.prog 308 #[.pointer (some ⟨gm,0,none⟩),.pointer (some ⟨gf,0,none⟩),.agg #[.int .i64 8,.int .i64 (a:Int),.int .i64 x]] w fun e w'=>e= .returned (.bool true)∧Left w w' base B gm gf A0 fuel (m) v ({ f with r1:=reg f a }) (par) pv rp pp:=by
 have HA:=Z (H.wk hb (parG pv) B)
 clear H
 have HF:=am F.blk
 have HR:=am F.run
 have hbf:=F.low
 have hBf:=F.hB
 have HRB:=am F.rB
 have HPO:=am PA
 clear F PA
 have ha4i:(a:Int)<4:=by omega
 go_enter Try.func308,Try.ntmps308
 go_upto_region 28 with(first|(refine bx 5 #[.int .i64 8,.int .i64 (a:Int),.int .i64 x] 219 (h:= ?_);intro gs hgs w1 hbox hbel;have hE_:=Evt.below hbel 0;replace HA:=Z (HA.out.below hbel);replace HF:=hE_.b HF;replace HR:=hE_.r HR;replace HPO:=Z (HPO.out.ev hE_);have HS:=am hbox;clear hbel hbox hgs hE_;obtain⟨hs0,hs1,hs2⟩:=cl3 HS.out))
 clear hs0 hs1 hs2
 have hE0_:=Evt.drew w1 292
 replace HA:=Z (HA.out.drew)
 replace HF:=(Evt.drew w1 0).b HF
 replace HR:=(Evt.drew w1 0).r HR
 replace HPO:=Z (HPO.out.ev (Evt.drew w1 0))
 replace HS:=(Evt.drew w1 0).b HS
 clear hE0_
 refine start_ (n:=11) (S:=fun w'=>w'.cell? ⟨gf,2+a,none⟩=some (.int .i64 (reg f a))∧True) (ds:= [10]) (bb 11 0) zq27 rfl rfl ⟨frC_cell HF.out a ha4,trivial⟩ (fun hHeld=> ?_)
 generalize w1.drew=x1 at HA HF HR HPO HS hHeld ⊢
 refine pure1 0 223 (bb 11 1) (h:= ?_)
 refine pure1 1 224 (bb 11 3) (h:= ?_)
 refine pure1 2 225 (bb 11 7) (h:= ?_)
 refine pure1 3 226 (bb 11 15) (h:= ?_)
 refine pure1 4 227 (bb 11 31) (h:= ?_)
 refine pure1 5 228 (bb 11 63) (h:= ?_)
 refine take1 6 229 (bb 11 127) (hS:=hHeld) (h:= ?_)
 refine pure1 7 230 (bb 11 255) (h:= ?_)
 refine pure1 8 231 (bb 11 511) (h:= ?_)
 refine pure1 9 232 (bb 11 1023) (h:= ?_)
 refine la 10 none (bb 11 2047) (h:=fun K hK=> ?_)
 have hc_:=(blk_cell HF.out 3).trans (show _=some (Value.int .i64 f.r1) from rfl)
 have hf_:=blk_frozen HF.out (3)
 rw [if_pos (by rfl)]
 unfold Oper.wp
 go_simp
 clear hc_ hf_
 have hev:=Evt.set HF.out (3) (.int .i64 (reg f a))
 replace HA:=Z (HA.out.other hev zq83 (fun q hq=>zq85))
 replace HF:=Z ((blk_set HF.out (3) (.int .i64 (reg f a))).trans (show _=some (Obj.cells (frC ({ f with r1:=reg f a }) rv pv).toArray 292 (0,0)) from rfl))
 replace HR:=hev.r HR
 replace HPO:=Z (HPO.out.ev hev)
 replace HS:=hev.b HS
 generalize x1.setCell ⟨gf,3,none⟩ (.int .i64 (reg f a))=x2 at HA HF HR HPO HS ⊢
 clear hev
 refine hK.out _ _ ?_
 clear hK K
 refine done_ zq27 ?_
 go_wp2_with (fail)
 go_ret
 exact⟨rfl,Left.mk HA.out rfl rfl HF.out (HR.out) hbf hBf HRB.out HPO.out⟩
theorem step_9n(w:World)(base B gm gf:Nat)(A0:Value)(fuel:Int)(m:MS)(v:MV)(f:Fr)(par:Option Fr)(rv pv rp pp:Value)(H:Mach w base gm A0 fuel m v)(F:FrOk w base B gf f rv pv)(PA:PaOk w base gf par pv rp pp)(hb:base≤w.heap.size)(hB:B≤w.heap.size)(a:Nat)(ha4:a<4)(x:Int)(hd:f.dfr=false) :
  Calls Try.prog 308 #[.pointer (some ⟨gm,0,none⟩),.pointer (some ⟨gf,0,none⟩),.agg #[.int .i64 9,.int .i64 (a:Int),.int .i64 x]] w fun e w'=>e= .returned (.bool false)∧Left w w' base B gm gf A0 fuel (m) v (f) (par) pv rp pp:=by
 have HA:=Z (H.wk hb (parG pv) B)
 clear H
 have HF:=am F.blk
 have HR:=am F.run
 have hbf:=F.low
 have hBf:=F.hB
 have HRB:=am F.rB
 have HPO:=am PA
 clear F PA
 have ha4i:(a:Int)<4:=by omega
 have H1:=am hd
 clear hd
 go_enter Try.func308,Try.ntmps308
 go_wp2_with (first|(refine bx 5 #[.int .i64 9,.int .i64 (a:Int),.int .i64 x] 219 (h:= ?_);intro gs hgs w1 hbox hbel;have hE_:=Evt.below hbel 0;replace HA:=Z (HA.out.below hbel);replace HF:=hE_.b HF;replace HR:=hE_.r HR;replace HPO:=Z (HPO.out.ev hE_);have HS:=am hbox;clear hbel hbox hgs hE_;obtain⟨hs0,hs1,hs2⟩:=cl3 HS.out;have hk8:w1.cell? ⟨gf,8,none⟩=some (.bool false):=(blk_cell HF.out 8).trans zq102))
 go_ret
 exact⟨rfl,Left.mk HA.out rfl rfl HF.out HR.out hbf hBf HRB.out HPO.out⟩
theorem step_9y(w:World)(base B gm gf:Nat)(A0:Value)(fuel:Int)(m:MS)(v:MV)(f:Fr)(par:Option Fr)(rv pv rp pp:Value)(H:Mach w base gm A0 fuel m v)(F:FrOk w base B gf f rv pv)(PA:PaOk w base gf par pv rp pp)(hb:base≤w.heap.size)(hB:B≤w.heap.size)(a:Nat)(ha4:a<4)(x:Int)(hd:f.dfr=true)(pf:Fr)(hpf:par=some pf) :
  Calls Try.prog 308 #[.pointer (some ⟨gm,0,none⟩),.pointer (some ⟨gf,0,none⟩),.agg #[.int .i64 9,.int .i64 (a:Int),.int .i64 x]] w fun e w'=>e= .returned (.bool false)∧Left w w' base B gm gf A0 fuel (m) v (f) (some { pf with r1:=reg f a }) pv rp pp:=by
 have HA:=Z (H.wk hb (parG pv) B)
 clear H
 have HF:=am F.blk
 have HR:=am F.run
 have hbf:=F.low
 have hBf:=F.hB
 have HRB:=am F.rB
 have HPO:=am PA
 clear F PA
 have ha4i:(a:Int)<4:=by omega
 have H1:=am hd
 clear hd
 subst hpf
 obtain⟨gp,hpv,hPB,hne,hbp⟩:=HPO.out
 clear HPO
 subst hpv
 have HP:=am hPB
 clear hPB
 have NE:=am hne
 clear hne
 go_enter Try.func308,Try.ntmps308
 go_upto_region 32 with(first|(refine bx 5 #[.int .i64 9,.int .i64 (a:Int),.int .i64 x] 219 (h:= ?_);intro gs hgs w1 hbox hbel;have hE_:=Evt.below hbel 0;replace HA:=Z (HA.out.below hbel);replace HF:=hE_.b HF;replace HR:=hE_.r HR;replace HP:=hE_.b HP;have HS:=am hbox;clear hbel hbox hgs hE_;obtain⟨hs0,hs1,hs2⟩:=cl3 HS.out;have hk8:w1.cell? ⟨gf,8,none⟩=some (.bool true):=(blk_cell HF.out 8).trans zq102))
 clear hs0 hs1 hs2
 clear hk8
 have hE0_:=Evt.drew w1 292
 replace HA:=Z (HA.out.drew)
 replace HF:=(Evt.drew w1 0).b HF
 replace HR:=(Evt.drew w1 0).r HR
 replace HS:=(Evt.drew w1 0).b HS
 replace HP:=(Evt.drew w1 0).b HP
 clear hE0_
 refine start_ (n:=14) (S:=fun w'=>w'.cell? ⟨gf,7,none⟩=some (.pointer (some ⟨gp,0,none⟩))∧w'.cell? ⟨gf,2+a,none⟩=some (.int .i64 (reg f a))∧True) (ds:= [13]) (bb 14 0) zq27 rfl rfl ⟨(blk_cell HF.out 7).trans rfl,frC_cell HF.out a ha4,trivial⟩ (fun hHeld=> ?_)
 generalize w1.drew=x1 at HA HF HR HS HP hHeld ⊢
 refine pure1 0 239 (bb 14 1) (h:= ?_)
 refine pure1 1 240 (bb 14 3) (h:= ?_)
 refine pure1 2 241 (bb 14 7) (h:= ?_)
 refine take1 3 242 (bb 14 15) (hS:=hHeld) (h:= ?_)
 refine pure1 4 243 (bb 14 31) (h:= ?_)
 refine pure1 5 244 (bb 14 63) (h:= ?_)
 refine pure1 6 245 (bb 14 127) (h:= ?_)
 refine pure1 7 246 (bb 14 255) (h:= ?_)
 refine pure1 8 247 (bb 14 511) (h:= ?_)
 refine take1 9 248 (bb 14 1023) (hS:=hHeld) (h:= ?_)
 refine pure1 10 249 (bb 14 2047) (h:= ?_)
 refine pure1 11 250 (bb 14 4095) (h:= ?_)
 refine pure1 12 251 (bb 14 8191) (h:= ?_)
 refine la 13 none (bb 14 16383) (h:=fun K hK=> ?_)
 have hc_:=(blk_cell HP.out 3).trans (show _=some (Value.int .i64 pf.r1) from rfl)
 have hf_:=blk_frozen HP.out 3
 rw [if_pos (by rfl)]
 unfold Oper.wp
 go_simp
 clear hc_ hf_
 have hev:=Evt.set HP.out 3 (.int .i64 (reg f a))
 replace HA:=Z (HA.out.other hev zq83 (fun q hq=>by injection hq with hq;subst hq;exact⟨hbp,.inr (.inl ⟨rfl,rfl⟩)⟩))
 replace HF:=hev.b' HF (fun he=>NE.out (by injection he with he;exact he.symm))
 replace HR:=hev.r HR
 replace HS:=hev.b HS
 replace HP:=Z ((blk_set HP.out 3 (.int .i64 (reg f a))).trans (show _=some (Obj.cells (frC { pf with r1:=reg f a } rp pp).toArray 292 (0,0)) from rfl))
 generalize x1.setCell ⟨gp,3,none⟩ (.int .i64 (reg f a))=x2 at HA HF HR HS HP ⊢
 clear hev
 refine hK.out _ _ ?_
 clear hK K
 refine done_ zq27 ?_
 go_wp2_with (fail)
 go_ret
 exact⟨rfl,Left.mk HA.out rfl rfl HF.out (HR.out) hbf hBf HRB.out ⟨gp,rfl,HP.out,NE.out,hbp⟩⟩
theorem step_10(w:World)(base B gm gf:Nat)(A0:Value)(fuel:Int)(m:MS)(v:MV)(f:Fr)(par:Option Fr)(rv pv rp pp:Value)(H:Mach w base gm A0 fuel m v)(F:FrOk w base B gf f rv pv)(PA:PaOk w base gf par pv rp pp)(hb:base≤w.heap.size)(hB:B≤w.heap.size)(x y:Int) :
  Calls Try.prog 308 #[.pointer (some ⟨gm,0,none⟩),.pointer (some ⟨gf,0,none⟩),.agg #[.int .i64 10,.int .i64 y,.int .i64 x]] w fun e w'=>e= .returned (.bool true)∧Left w w' base B gm gf A0 fuel (m) v ({ f with leaving:=true,fin:=3 }) (par) pv rp pp:=by
 have HA:=Z (H.wk hb (parG pv) B)
 clear H
 have HF:=am F.blk
 have HR:=am F.run
 have hbf:=F.low
 have hBf:=F.hB
 have HRB:=am F.rB
 have HPO:=am PA
 clear F PA
 go_enter Try.func308,Try.ntmps308
 go_wp2_with (first|(refine bx 5 #[.int .i64 10,.int .i64 y,.int .i64 x] 219 (h:= ?_);intro gs hgs w1 hbox hbel;have hE_:=Evt.below hbel 0;replace HA:=Z (HA.out.below hbel);replace HF:=hE_.b HF;replace HR:=hE_.r HR;replace HPO:=Z (HPO.out.ev hE_);have HS:=am hbox;clear hbel hbox hgs hE_;obtain⟨hs0,hs1,hs2⟩:=cl3 HS.out;have hk10:w1.cell? ⟨gf,10,none⟩=some (.bool f.leaving):=(blk_cell HF.out 10).trans rfl;have hz10:=blk_frozen HF.out 10;have hk11:w1.cell? ⟨gf,11,none⟩=some (.int .i64 f.fin):=(blk_cell HF.out 11).trans rfl;have hz11:=blk_frozen HF.out 11))
 clear hk10 hz10 hk11 hz11 hs0 hs1 hs2
 have hev:=Evt.set HF.out (10) (.bool true)
 replace HA:=Z (HA.out.other hev zq83 (fun q hq=>zq85))
 replace HF:=Z ((blk_set HF.out (10) (.bool true)).trans (show _=some (Obj.cells (frC ({ f with leaving:=true }) rv pv).toArray 292 (0,0)) from rfl))
 replace HR:=hev.r HR
 replace HPO:=Z (HPO.out.ev hev)
 replace HS:=hev.b HS
 clear hev
 generalize w1.setCell ⟨gf,10,none⟩ (.bool true)=x1 at HA HF HR HPO HS ⊢
 have hev:=Evt.set HF.out (11) (.int .i64 3)
 replace HA:=Z (HA.out.other hev zq83 (fun q hq=>zq85))
 replace HF:=Z ((blk_set HF.out (11) (.int .i64 3)).trans (show _=some (Obj.cells (frC ({ f with leaving:=true,fin:=3 }) rv pv).toArray 292 (0,0)) from rfl))
 replace HR:=hev.r HR
 replace HPO:=Z (HPO.out.ev hev)
 replace HS:=hev.b HS
 clear hev
 generalize x1.setCell ⟨gf,11,none⟩ (.int .i64 3)=x2 at HA HF HR HPO HS ⊢
 go_ret
 exact⟨rfl,Left.mk HA.out rfl rfl HF.out HR.out hbf hBf HRB.out HPO.out⟩
theorem step_12(w:World)(base B gm gf:Nat)(A0:Value)(fuel:Int)(m:MS)(v:MV)(f:Fr)(par:Option Fr)(rv pv rp pp:Value)(H:Mach w base gm A0 fuel m v)(F:FrOk w base B gf f rv pv)(PA:PaOk w base gf par pv rp pp)(hb:base≤w.heap.size)(hB:B≤w.heap.size)(a:Nat)(ha4:a<4)(x:Int) :
  Calls Try.prog 308 #[.pointer (some ⟨gm,0,none⟩),.pointer (some ⟨gf,0,none⟩),.agg #[.int .i64 12,.int .i64 (a:Int),.int .i64 x]] w fun e w'=>e= .returned (.bool false)∧Left w w' base B gm gf A0 fuel ({ m with shared:=reg f a }) v (f) (par) pv rp pp:=by
 have HA:=Z (H.wk hb (parG pv) B)
 clear H
 have HF:=am F.blk
 have HR:=am F.run
 have hbf:=F.low
 have hBf:=F.hB
 have HRB:=am F.rB
 have HPO:=am PA
 clear F PA
 have ha4i:(a:Int)<4:=by omega
 go_enter Try.func308,Try.ntmps308
 go_wp2_with (first|(refine bx 5 #[.int .i64 12,.int .i64 (a:Int),.int .i64 x] 219 (h:= ?_);intro gs hgs w1 hbox hbel;have hE_:=Evt.below hbel 0;replace HA:=Z (HA.out.below hbel);replace HF:=hE_.b HF;replace HR:=hE_.r HR;replace HPO:=Z (HPO.out.ev hE_);have HS:=am hbox;clear hbel hbox hgs hE_;obtain⟨hs0,hs1,hs2⟩:=cl3 HS.out;have hk2:w1.cell? ⟨gf,2+a,none⟩=some (.int .i64 (reg f a)):=frC_cell HF.out a ha4;have hk3:w1.cell? ⟨gm,3,none⟩=some (.int .i64 m.shared):=(blk_cell HA.out.blk 3).trans rfl;have hz3:=blk_frozen HA.out.blk 3))
 clear hk2 hk3 hz3 hs0 hs1 hs2
 have hst:=HA.out.setM 3 (.int .i64 (reg f a))
 have hev:=hst.2
 replace HA:=Z (hst.1)
 replace HF:=hev.b HF
 replace HR:=hev.r HR
 replace HPO:=Z (HPO.out.ev hev)
 replace HS:=hev.b HS
 clear hst hev
 go_ret
 exact⟨rfl,Left.mk (v':=v) (cs:=machC A0 fuel { m with shared:=reg f a } v) ⟨HA.out.blk,⟨HA.out.rows.tr,HA.out.rows.ow,HA.out.rows.ca,HA.out.rows.pa,HA.out.rows.re,HA.out.rows.ul,HA.out.rows.un,HA.out.rows.so,HA.out.rows.su⟩,HA.out.kept,HA.out.low,HA.out.sz,HA.out.maps⟩ rfl rfl HF.out HR.out hbf hBf HRB.out HPO.out⟩
theorem step_13(w:World)(base B gm gf:Nat)(A0:Value)(fuel:Int)(m:MS)(v:MV)(f:Fr)(par:Option Fr)(rv pv rp pp:Value)(H:Mach w base gm A0 fuel m v)(F:FrOk w base B gf f rv pv)(PA:PaOk w base gf par pv rp pp)(hb:base≤w.heap.size)(hB:B≤w.heap.size)(a:Nat)(ha4:a<4)(x:Int) :
  Calls Try.prog 308 #[.pointer (some ⟨gm,0,none⟩),.pointer (some ⟨gf,0,none⟩),.agg #[.int .i64 13,.int .i64 (a:Int),.int .i64 x]] w fun e w'=>e= .returned (.bool false)∧Left w w' base B gm gf A0 fuel (m) v (setReg f a m.shared) (par) pv rp pp:=by
 have HA:=Z (H.wk hb (parG pv) B)
 clear H
 have HF:=am F.blk
 have HR:=am F.run
 have hbf:=F.low
 have hBf:=F.hB
 have HRB:=am F.rB
 have HPO:=am PA
 clear F PA
 have ha4i:(a:Int)<4:=by omega
 go_enter Try.func308,Try.ntmps308
 go_upto_region 39 with(first|(refine bx 5 #[.int .i64 13,.int .i64 (a:Int),.int .i64 x] 219 (h:= ?_);intro gs hgs w1 hbox hbel;have hE_:=Evt.below hbel 0;replace HA:=Z (HA.out.below hbel);replace HF:=hE_.b HF;replace HR:=hE_.r HR;replace HPO:=Z (HPO.out.ev hE_);have HS:=am hbox;clear hbel hbox hgs hE_;obtain⟨hs0,hs1,hs2⟩:=cl3 HS.out))
 clear hs0 hs1 hs2
 have hE0_:=Evt.drew w1 292
 replace HA:=Z (HA.out.drew)
 replace HF:=(Evt.drew w1 0).b HF
 replace HR:=(Evt.drew w1 0).r HR
 replace HPO:=Z (HPO.out.ev (Evt.drew w1 0))
 replace HS:=(Evt.drew w1 0).b HS
 clear hE0_
 refine start_ (n:=10) (S:=fun w'=>w'.cell? ⟨gm,3,none⟩=some (.int .i64 m.shared)∧True) (ds:= [9]) (bb 10 0) zq27 rfl rfl ⟨(blk_cell HA.out.blk 3).trans rfl,trivial⟩ (fun hHeld=> ?_)
 generalize w1.drew=x1 at HA HF HR HPO HS hHeld ⊢
 refine pure1 0 273 (bb 10 1) (h:= ?_)
 refine pure1 1 274 (bb 10 3) (h:= ?_)
 refine pure1 2 275 (bb 10 7) (h:= ?_)
 refine pure1 3 276 (bb 10 15) (h:= ?_)
 refine pure1 4 277 (bb 10 31) (h:= ?_)
 refine take1 5 278 (bb 10 63) (hS:=hHeld) (h:= ?_)
 refine pure1 6 279 (bb 10 127) (h:= ?_)
 refine pure1 7 280 (bb 10 255) (h:= ?_)
 refine pure1 8 281 (bb 10 511) (h:= ?_)
 refine la 9 none (bb 10 1023) (h:=fun K hK=> ?_)
 have hc_:=frC_cell HF.out a ha4
 have hf_:=blk_frozen HF.out (2+a)
 rw [if_pos (by rfl)]
 unfold Oper.wp
 go_simp
 clear hc_ hf_
 have hev:=Evt.set HF.out (2+a) (.int .i64 m.shared)
 replace HA:=Z (HA.out.other hev zq83 (fun q hq=>zq85))
 replace HF:=Z (frC_put HF.out a ha4 m.shared)
 replace HR:=hev.r HR
 replace HPO:=Z (HPO.out.ev hev)
 replace HS:=hev.b HS
 generalize x1.setCell ⟨gf,2+a,none⟩ (.int .i64 m.shared)=x2 at HA HF HR HPO HS ⊢
 clear hev
 refine hK.out _ _ ?_
 clear hK K
 refine done_ zq27 ?_
 go_wp2_with (fail)
 go_ret
 exact⟨rfl,Left.mk HA.out rfl rfl HF.out ((by rw [(setReg_runs _ _ _).1];exact HR.out)) hbf hBf HRB.out HPO.out⟩
end Go.Proofs.Yteiafboknimgbaa.Pr.M
end

section
namespace Go.Proofs.Yteiafboknimgbaa.Pr.M
open Go.RowKit Go.Maps Go.Proofs.W.PrintWords Go.Proofs.W.PrintLast Go.Proofs.W.PrintMore
open Go.ChangeShapes Go.WideShapes Go.MapKept
theorem und_pair:Try.prog.underlying 74=some (.array 2 3):=by kernel_rfl
theorem und_places:Try.prog.underlying 153=some (.map 74 4):=by kernel_rfl
theorem und_bool:Try.prog.underlying 4=some .bool:=by kernel_rfl
theorem und_i:Try.prog.underlying 3=some (.int .i64):=by kernel_rfl
theorem laidOut:laidOutB Try.prog=true:=by kernel_rfl
theorem wide_pair:(match Try.prog.underlying 74 with|some (.array _ _)|some (.struct _)=>true|_=>false)=true:=by rw [und_pair]
theorem row_pair:(74:TypeId)<Try.prog.types.size:=of_decide_eq_true zq27
theorem deep_pair:Try.prog.keyTypeAt 2 74=true:=by kernel_rfl
theorem ktype_pair:Try.prog.keyType 74=true:=by kernel_rfl
theorem cells_pair:Try.prog.cellsOf 74=2:=by kernel_rfl
theorem cells_int3:Try.prog.cellsOf 3=1:=by kernel_rfl
theorem law_pair:WideMaps.KeyLaw Try.prog 74:=deep_law_laid laidOut (m:=2) (show 2+1≤10000 from Nat.le_of_ble_eq_true rfl) row_pair deep_pair wide_pair
theorem keyed_pair:Keyed Try.prog 74:=Keyed.of_law law_pair
def plKey(x:Int×Int):Lit:= .string (keyBytes [.int .i64 x.1,.int .i64 x.2])
theorem plKey_eq(x:Int×Int)(h1:(Lit.int .i64 x.1).wf=true)(h2:(Lit.int .i64 x.2).wf=true):keyOf Try.prog 74 (.agg #[.int .i64 x.1,.int .i64 x.2])=some (plKey x):=by
 obtain⟨n,hn⟩: ∃ n,Try.prog.types.size=n+1:=⟨_,(Nat.succ_pred_eq_of_pos (Nat.lt_of_le_of_lt (Nat.zero_le _) row_pair)).symm⟩
 have hf:Value.formed Try.prog 74 (.agg #[.int .i64 x.1,.int .i64 x.2])=true:=by simp [Value.formed,und_pair,cells_pair]
 have hl:Try.prog.keyLits (Try.prog.types.size+1) 74 (Value.agg #[.int .i64 x.1,.int .i64 x.2]).cells.toList=some [.int .i64 x.1,.int .i64 x.2]:=by
  rw [hn]
  simp [Program.keyLits,und_pair,und_i,cells_pair,cells_int3,Value.cells,List.range,List.range.loop,h1,h2]
 unfold keyOf
 simp only [und_pair,ktype_pair,hf,hl,Bool.and_self,if_true,Option.map_some,plKey]
def plD(l:List (Int×Int)):DataW Unit:=l.foldr (fun x D=>D.put (plKey x) (.lit (.bool true))) (.map [])
def PlOk(W:World)(base:Nat)(pl:Value)(l:List (Int×Int)):Prop:= ∃ g,pl= .map (some g)∧base≤g∧W.ownsMap Try.prog 74 (plainElem Try.prog 4) g l.length (plD l)
structure Evm(W W':World)(g:Nat):Prop where
 gr:W.grownBy W' (some g)
 m: ∃ es n,W.heap[g]? =some (Obj.map es n)
theorem Evm.blk {W W':World} {g:Nat} (h:Evm W W' g){k:Nat} {c:Array Value} {ty:TypeId} {z:Nat×Nat} (hb:W.heap[k]? =some (.cells c ty z)):W'.heap[k]? =some (.cells c ty z):=by
 refine blk_grown hb h.gr (fun e=> ?_)
 injection e with e
 subst e
 obtain⟨es,n,hm⟩:=h.m
 rw [hb] at hm
 injection hm with hm
 cases hm
theorem Evm.ne {W W':World} {g:Nat} (h:Evm W W' g){b e s n:Nat} {a:Value} {xs:List Value} (hr:W.ownsRow b e s a n xs):a.ownBlock=none∨a.ownBlock≠some g:=by
 rcases hr.2 with⟨rfl,_⟩|⟨q,cap,cur,rfl,_,hh,_⟩
 ·exact .inl rfl
 ·refine .inr (fun e'=> ?_)
  have hq:q=g:=by simpa [Value.ownBlock] using e'
  subst hq
  obtain⟨es,n,hm⟩:=h.m
  rw [hh] at hm
  injection hm with hm
  cases hm
theorem Evm.row {W W':World} {g:Nat} (h:Evm W W' g){b e s n:Nat} {a:Value} {xs:List Value} (hr:W.ownsRow b e s a n xs):W'.ownsRow b e s a n xs:=hr.kept h.gr (h.ne hr)
theorem Evm.rows {W W':World} {g base:Nat} {m:MS} {v:MV} (h:Evm W W' g)(hr:Rows W base m v):Rows W' base m v :=
 {tr:=h.row hr.tr,ow:=h.row hr.ow,ca:=h.row hr.ca,pa:=h.row hr.pa,re:=h.row hr.re,ul:=hr.ul,un:=fun i q u hq hu=>h.row (hr.un i q u hq hu),so:=hr.so,su:=hr.su }
theorem Evm.kept {W W':World} {g base:Nat} {par:Option Nat} {B:Nat} (h:Evm W W' g)(hg:base≤g)(hb:base≤W.heap.size):KeptB base par B W W' :=
 ⟨h.gr.os,h.gr.tape,h.gr.output,h.gr.size,fun i hi=>h.gr.block i zq90 (fun e=>by injection e with e;omega),fun i cur t z _ hi _ _=>h.blk hi⟩
theorem PlOk.upd {W:World} {base:Nat} {pl:Value} {l:List (Int×Int)} (h:PlOk W base pl l)(x:Int×Int)(h1:(Lit.int .i64 x.1).wf=true)(h2:(Lit.int .i64 x.2).wf=true)(hl:l.length≤100000) :
  ∃ W' g,(Instr.mapUpdate 153 pl (.agg #[.int .i64 x.1,.int .i64 x.2]) (.bool true)).run Try.prog W= .ok () W'∧PlOk W' base pl (x::l)∧pl= .map (some g)∧base≤g∧Evm W W' g:=by
 obtain⟨g,rfl,hg,hm⟩:=h
 obtain⟨es,n,hb,_⟩:=id hm
 obtain⟨W',hr,ho,hw⟩:=hm.update keyed_pair und_places (by unfold maxLen;omega) (plKey_eq x h1 h2) (plainElem_bool und_bool true)
 exact⟨W',g,hr,⟨g,rfl,hg,ho⟩,rfl,hg,⟨hw,es,n,hb⟩⟩
theorem PlOk.maps {W W':World} {base:Nat} {pl:Value} {l:List (Int×Int)} (h:PlOk W base pl l)(hm: ∀ (k:Nat) es n,W.heap[k]? =some (Obj.map es n)→W'.heap[k]? =some (Obj.map es n)):PlOk W' base pl l:=by
 obtain⟨g,rfl,hg,es,n,hb,hr⟩:=h
 exact⟨g,rfl,hg,es,n,hm _ _ _ hb,hr⟩
theorem PlOk.made(W:World)(base:Nat)(hb:base≤W.heap.size):PlOk (W.alloc (.map #[] 0)) base (.map (some W.heap.size)) []:=⟨_,rfl,hb,World.ownsMap_made _ _ _ _⟩
end Go.Proofs.Yteiafboknimgbaa.Pr.M
end

section
namespace Go.Proofs.Yteiafboknimgbaa.Pr.M
theorem setReg_runs'(f:Fr)(i x:Int):(setReg f i x).runs=f.runs:=by
 unfold setReg;split
 ·rfl
 split
 ·rfl
 split<;>rfl
theorem recoverI_room(m:MS)(f:Fr)(par:Option Fr)(r:Int):(recoverI m f par r).1.trace.length≤m.trace.length+1∧(recoverI m f par r).2.runs=f.runs∧(recoverI m f par r).1.made=m.made:=by
 unfold recoverI
 split
 ·split
  ·refine⟨?_,setReg_runs' _ _ _,rfl⟩
   show(m.trace++ [_]).length≤_
   rw [len1];exact Nat.le_refl _
  ·exact⟨Nat.le_succ _,setReg_runs' _ _ _,rfl⟩
 ·exact⟨Nat.le_succ _,setReg_runs' _ _ _,rfl⟩
theorem stepI_room(m:MS)(f:Fr)(par:Option Fr)(s:St):(stepI m f par s).1.trace.length+2*(stepI m f par s).2.1.runs.length≤m.trace.length+2*f.runs.length+3∧(stepI m f par s).2.2.1.map Fr.runs=par.map Fr.runs∧(stepI m f par s).1.made=m.made:=by
 have t1: ∀ (l:List Ev) (x:Ev),(l++ [x]).length=l.length+1:=fun l x=>len1 l x
 let Q:MS×Fr×Option Fr×Bool→Prop:=fun r=>r.1.trace.length+2*r.2.1.runs.length≤m.trace.length+2*f.runs.length+3∧r.2.2.1.map Fr.runs=par.map Fr.runs∧r.1.made=m.made
 have ite_: ∀ (b:Prop) [Decidable b] (x y:MS×Fr×Option Fr×Bool),Q x→Q y→Q (if b then x else y):=fun b _ x y hx hy=>by split;exact hx;exact hy
 show Q (stepI m f par s)
 unfold stepI
 refine ite_ _ _ _ ⟨zq112,rfl,rfl⟩ ?_
 refine ite_ _ _ _ ⟨zq112,rfl,rfl⟩ ?_
 refine ite_ _ _ _ ⟨by show(m.trace++ [_]).length+2*f.runs.length≤_;rw [t1];omega,rfl,rfl⟩ ?_
 refine ite_ _ _ _ ⟨by show(m.trace++ [_]).length+2*(f.runs++ [_]).length≤_;rw [t1,len1];omega,rfl,rfl⟩ ?_
 refine ite_ _ _ _ ⟨by show(m.trace++ [_]).length+2*f.runs.length≤_;rw [t1];omega,rfl,rfl⟩ ?_
 refine ite_ _ _ _ ?_ ?_
 ·obtain⟨h1,h2,h3⟩:=recoverI_room m f par s.f1
  exact⟨by show(recoverI m f par s.f1).1.trace.length+2*(recoverI m f par s.f1).2.runs.length≤_;rw [h2];omega,rfl,h3⟩
 refine ite_ _ _ _ ⟨zq103,rfl,rfl⟩ ?_
 refine ite_ _ _ _ ⟨zq103,?_,rfl⟩ ?_
 ·show(if f.dfr=true then par.map _ else par).map Fr.runs=_
  split
  ·cases par<;>rfl
  ·rfl
 refine ite_ _ _ _ ⟨zq103,rfl,rfl⟩ ?_
 refine ite_ _ _ _ ⟨zq103,rfl,rfl⟩ ?_
 refine ite_ _ _ _ ⟨zq112,rfl,rfl⟩ ?_
 exact⟨zq103,rfl,rfl⟩
def runsOf(r:Option (Fr×Option Fr)):Nat:=match r with
 |some (f,_)=>f.runs.length
 |none=>0
def RecRoom(fuel:Int)(rec:MS→Int→Int→Option Fr→Bool→ResI):Prop :=
 ∀ m fn arg par dfr,((rec m fn arg par dfr).1.trace.length:Int)+3*(fuel-(rec m fn arg par dfr).1.made)≤m.trace.length+3*(fuel-m.made)+2∧ ∀ f' par',(rec m fn arg par dfr).2=some (f',par')→par'.map Fr.runs=par.map Fr.runs
theorem body_room {p:List (List St)} {fuel:Int} {rec:MS→Int→Int→Option Fr→Bool→ResI} (hrec:RecRoom fuel rec) :
  ∀ (n:Nat) (m:MS) (f:Fr) (par:Option Fr) (at_:Nat),((bodyI rec p fuel n m f par at_).1.trace.length:Int)+3*(fuel-(bodyI rec p fuel n m f par at_).1.made)+2*(runsOf (bodyI rec p fuel n m f par at_).2:Nat)≤m.trace.length+3*(fuel-m.made)+2*(f.runs.length:Nat)
   ∧ ∀ f' par',(bodyI rec p fuel n m f par at_).2=some (f',par')→par'.map Fr.runs=par.map Fr.runs:=by
 intro n
 induction n with
 |zero=>intro m f par at_;exact⟨by show(m.trace.length:Int)+3*(fuel-m.made)+2*((0:Nat):Int)≤_;omega,fun f' par' h=>zq120⟩
 |succ n ih =>
  intro m f par at_
  rw [bodyI]
  cases hs:(p.getD f.fn.toNat [])[at_]? with
  |none=>exact⟨by show(m.trace.length:Int)+3*(fuel-m.made)+2*((f.runs.length:Nat):Int)≤_;omega,fun f' par' h=>(by cases h;rfl)⟩
  |some s =>
   have e1:((madeI m f.fn at_).trace.length:Int)=m.trace.length:=rfl
   have e2:(madeI m f.fn at_).made=m.made+1:=rfl
   dsimp only
   split
   ·exact⟨by show(m.trace.length:Int)+3*(fuel-m.made)+2*((0:Nat):Int)≤_;omega,fun f' par' h=>zq120⟩
   split
   ·obtain⟨h1,h2⟩:=ih (madeI m f.fn at_) f par (if 0<reg f s.f2 then s.f1.toNat else at_+1)
    exact⟨zq90,h2⟩
   split
   ·obtain⟨h1,h2⟩:=hrec (madeI m f.fn at_) s.f1 (reg f s.f2) (some f) false
    generalize rec (madeI m f.fn at_) s.f1 (reg f s.f2) (some f) false=r at *
    obtain⟨m1,ro⟩:=r
    have h1:(m1.trace.length:Int)+3*(fuel-m1.made)≤(madeI m f.fn at_).trace.length+3*(fuel-(madeI m f.fn at_).made)+2:=h1
    rcases ro with _|⟨d,_|f1⟩
    ·exact⟨by show(m1.trace.length:Int)+3*(fuel-m1.made)+2*((0:Nat):Int)≤_;omega,fun f' par' h=>zq120⟩
    ·exact⟨by show(m1.trace.length:Int)+3*(fuel-m1.made)+2*((0:Nat):Int)≤_;omega,fun f' par' h=>zq120⟩
    ·have hru:f1.runs=f.runs:=by have:=h2 d (some f1) rfl;simpa using this
     dsimp only
     split
     ·obtain⟨h3,h4⟩:=ih m1 { f1 with leaving:=f1.leaving||d.leaving,r2:=d.r1 } par (at_+1)
      have e3:(({ f1 with leaving:=f1.leaving||d.leaving,r2:=d.r1 } :Fr).runs.length:Int)=f.runs.length:=by show((f1.runs.length:Nat):Int)=_;rw [hru]
      exact⟨zq90,h4⟩
     ·refine⟨?_,fun f' par' h=>(by cases h;rfl)⟩
      show(m1.trace.length:Int)+3*(fuel-m1.made)+2*((f1.runs.length:Nat):Int)≤_
      rw [hru];omega
   ·obtain⟨h1,h2,h3⟩:=stepI_room (madeI m f.fn at_) f par s
    generalize stepI (madeI m f.fn at_) f par s=r at *
    obtain⟨m1,f1,par1,b⟩:=r
    have h1:m1.trace.length+2*f1.runs.length≤(madeI m f.fn at_).trace.length+2*f.runs.length+3:=h1
    have h3:m1.made=(madeI m f.fn at_).made:=h3
    have h2:par1.map Fr.runs=par.map Fr.runs:=h2
    cases b with
    |true =>
     refine⟨?_,fun f' par' h=>(by cases h;exact h2)⟩
     show(m1.trace.length:Int)+3*(fuel-m1.made)+2*((f1.runs.length:Nat):Int)≤_
     omega
    |false =>
     obtain⟨h4,h5⟩:=ih m1 f1 par1 (at_+1)
     refine⟨Int.le_trans h4 ?_,fun f' par' h=>(h5 f' par' h).trans h2⟩
     omega
theorem behindI_room(m:MS)(f d:Fr):(behindI m f d).1.trace=m.trace∧(behindI m f d).1.made=m.made∧(behindI m f d).2.runs=f.runs:=by
 unfold behindI
 dsimp only
 split
 ·refine⟨?_,?_,rfl⟩<;>(split<;>rfl)
 split
 ·refine⟨?_,?_,rfl⟩<;>(split<;>rfl)
 split<;>exact⟨rfl,rfl,rfl⟩
theorem runs_room {fuel:Int} {rec:MS→Int→Int→Option Fr→Bool→ResI} (hrec:RecRoom fuel rec) :
  ∀ (l:List (Int×Int)) (m:MS) (f:Fr) (par:Option Fr),((runsI rec l m f par).1.trace.length:Int)+3*(fuel-(runsI rec l m f par).1.made)≤m.trace.length+3*(fuel-m.made)+2*(l.length:Nat)
   ∧ ∀ f' par',(runsI rec l m f par).2=some (f',par')→par'=par:=by
 intro l
 induction l with
 |nil=>intro m f par;exact⟨by show(m.trace.length:Int)+3*(fuel-m.made)≤_;simp,fun f' par' h=>(by cases h;rfl)⟩
 |cons x l ih =>
  intro m f par
  obtain⟨g,a⟩:=x
  rw [runsI]
  obtain⟨h1,h2⟩:=hrec m g a (some { f with runs:=l.reverse }) true
  generalize rec m g a (some { f with runs:=l.reverse }) true=r at *
  obtain⟨m1,ro⟩:=r
  have h1:(m1.trace.length:Int)+3*(fuel-m1.made)≤m.trace.length+3*(fuel-m.made)+2:=h1
  have e:(((g,a)::l).length:Int)=l.length+1:=by simp
  rcases ro with _|⟨d,_|f1⟩
  ·exact⟨zq133,fun f' par' h=>zq120⟩
  ·exact⟨zq133,fun f' par' h=>zq120⟩
  ·obtain⟨h3,h4⟩:=ih (behindI m1 f1 d).1 (behindI m1 f1 d).2 par
   obtain⟨b1,b2,_⟩:=behindI_room m1 f1 d
   have b1:((behindI m1 f1 d).1.trace.length:Int)=m1.trace.length:=by rw [b1]
   refine⟨Int.le_trans h3 ?_,fun f' par' h=>h4 f' par' h⟩
   omega
theorem finishI_room(m:MS)(f:Fr):((finishI m f).trace.length:Int)=m.trace.length+1∧(finishI m f).made=m.made:=by
 unfold finishI tell
 dsimp only
 constructor
 ·have: ∀ (l:List Ev) (x:Ev),((l++ [x]).length:Int)=l.length+1:=fun l x=>by rw [len1];rfl
  rw [this]
  split<;>rfl
 ·split<;>rfl
theorem call_room {p:List (List St)} {fuel:Int} (R:Nat): ∀ d,RecRoom fuel (callI p fuel R d):=by
 intro d
 induction d with
 |zero=>intro m fn arg par dfr;exact⟨by show(m.trace.length:Int)+3*(fuel-m.made)≤_;omega,fun f' par' h=>zq120⟩
 |succ d ih =>
  intro m fn arg par dfr
  rw [callI]
  obtain⟨h1,h2⟩:=body_room (p:=p) ih R (beginI m fn arg par dfr) (frameI m fn arg dfr) par 0
  have e1:((beginI m fn arg par dfr).trace.length:Int)=m.trace.length+1:=by show(((m.trace++ [_]).length:Nat):Int)=_;rw [len1];rfl
  have e2:(beginI m fn arg par dfr).made=m.made:=rfl
  have e3:(((frameI m fn arg dfr).runs.length:Nat):Int)=0:=rfl
  generalize bodyI (callI p fuel R d) p fuel R (beginI m fn arg par dfr) (frameI m fn arg dfr) par 0=r at *
  obtain⟨m1,ro⟩:=r
  rcases ro with _|⟨f1,par1⟩
  ·have h1:(m1.trace.length:Int)+3*(fuel-m1.made)+2*((0:Nat):Int)≤_:=h1
   exact⟨zq133,fun f' par' h=>zq120⟩
  ·have h1:(m1.trace.length:Int)+3*(fuel-m1.made)+2*((f1.runs.length:Nat):Int)≤_:=h1
   have h2:par1.map Fr.runs=par.map Fr.runs:=h2 f1 par1 rfl
   obtain⟨h3,h4⟩:=runs_room ih f1.runs.reverse m1 f1 par1
   rw [List.length_reverse] at h3
   dsimp only
   generalize runsI (callI p fuel R d) f1.runs.reverse m1 f1 par1=r at *
   obtain⟨m2,ro⟩:=r
   have h3:(m2.trace.length:Int)+3*(fuel-m2.made)≤_:=h3
   rcases ro with _|⟨f2,par2⟩
   ·exact⟨by show(m2.trace.length:Int)+3*(fuel-m2.made)≤_;omega,fun f' par' h=>zq120⟩
   ·obtain⟨h5,h6⟩:=finishI_room m2 f2
    refine⟨?_,fun f' par' h=> ?_⟩
    ·show((finishI m2 f2).trace.length:Int)+3*(fuel-(finishI m2 f2).made)≤_
     omega
    ·cases h
     rw [h4 f2 par2 rfl];exact h2
end Go.Proofs.Yteiafboknimgbaa.Pr.M
end
