import Derived.Test.YteiafboknimgbaaMa11
set_option maxHeartbeats 8000000
set_option maxRecDepth 100000
set_option linter.unusedVariables false
set_option linter.unusedSimpArgs false
section
namespace Go.Proofs.Yteiafboknimgbaa.Pr.M
open Go.RowKit Go.Proofs.W.PrintWords Go.Proofs.W.PrintLast Go.Proofs.W.PrintMore
theorem sfC_reg(c:SF)(dv:Value)(r:Nat)(hr:r<4):(sfC c dv).toArray[2+r]? =some (.int .i64 (sreg c r)):=by
 rcases r with _|_|_|_|r
 ·rfl
 ·rfl
 ·rfl
 ·rfl
 ·omega
theorem sfC_set(c:SF)(dv:Value)(r:Nat)(hr:r<4)(x:Int):(sfC c dv).toArray.setIfInBounds (2+r) (.int .i64 x)=(sfC (setSreg c r x) dv).toArray:=by
 rcases r with _|_|_|_|r
 ·rfl
 ·rfl
 ·rfl
 ·rfl
 ·omega
theorem sfC_put {W:World} {g:Nat} {c:SF} {dv:Value} (h:W.heap[g]? =some (.cells (sfC c dv).toArray 169 (0,0)))(r:Nat)(hr:r<4)(x:Int):(W.setCell ⟨g,2+r,none⟩ (.int .i64 x)).heap[g]? =some (.cells (sfC (setSreg c r x) dv).toArray 169 (0,0)) :=
 (blk_set h (2+r) _).trans (congrArg (fun q=>some (Obj.cells q 169 (0,0))) (sfC_set c dv r hr x))
theorem ne_some {a b:Nat} (h:a≠b):some a≠some b:=fun e=>h (by injection e)
theorem ne_some' {a b:Nat} (h:a≠b):some b≠some a:=fun e=>h (by injection e with e;exact e.symm)
theorem l2Wrap.calls(w:World)(n:Int)(h: -100000≤n∧n≤100000):Calls Try.prog 244 #[.int .i64 n] w fun e w'=>e= .returned (.int .i64 ((n+163840).tmod 65536-32768))∧w=w':=by
 have h1: -100000≤n:=h.1
 have h2:n≤100000:=h.2
 clear h
 have ht:(n+163840).tmod 65536=(n+163840)%65536:=Int.tmod_eq_emod_of_nonneg zq90
 rw [ht]
 clear ht
 go_enter Try.func244,Try.ntmps244
 go_wp2
 go_ret
 exact⟨congrArg (fun z=>Ending.returned (.int .i64 z)) zq90,rfl⟩
theorem free_tv {v:Value} {n g:Nat} (h: ∀ q,v.ownBlock=some q→q<n)(hg:n≤g):some g≠v.ownBlock:=fun e=>by have:=h g e.symm;omega
theorem loadRun_ {P:Program} {oi:Oper} {a:Act} {W:World} {ty t:TypeId} {x:Operand} {g:Nat} {cs:Array Value} {d:TypeDesc} (ho:oi.op= .load ty x)(hx:a.eval x= .pointer (some ⟨g,0,none⟩))(hg:W.heap[g]? =some (.cells cs t (0,0)))
  (hu:P.underlying ty=some d) (hd:(match d with| .struct _| .array _ _=>true|_=>false)=true) (hi:(P.info? ty).map (·.size)=some cs.size):(execOp a.eval oi).run P W= .ok (.value (.agg cs)) W:=by
 unfold execOp
 simp only [ho,hx,Instr.loadAt,Instr.sureAddr,Sem.run_bind,Sem.run_pure,Result.andThen_ok,run_loadVar_row W g t ty cs (0,0) d hg hu hd hi]
theorem storeRun_ {P:Program} {oi:Oper} {a:Act} {W W':World} {ty:TypeId} {x y:Operand} {g:Nat} {cs:Array Value} (ho:oi.op= .store ty x y)(hx:a.eval x= .pointer (some ⟨g,0,none⟩))(hy:a.eval y= .agg cs)(hr:(storeVar ty ⟨g,0,none⟩ (.agg cs)).run P W= .ok () W'):(execOp a.eval oi).run P W= .ok .skip W':=by
 unfold execOp
 simp only [ho,hx,hy,Instr.storeAt,Instr.sureAddr,Sem.run_bind,Sem.run_pure,Result.andThen_ok,hr]
theorem lR {P:Program} {oi:Oper} {a:Act} {W:World} {ty t:TypeId} {g n:Nat} {cs:Array Value} {d:TypeDesc} (x:Tmp)(hg:W.heap[g]? =some (.cells cs t (0,0)))(hu:P.underlying ty=some d)(hi:(P.info? ty).map (·.size)=some n)
  (ho:oi.op= .load ty (.tmp x):=by rfl) (hx:a.eval (.tmp x)= .pointer (some ⟨g,0,none⟩):=by rfl) (hd:(match d with| .struct _| .array _ _=>true|_=>false)=true:=by rfl) (hn:cs.size=n:=by rfl):(execOp a.eval oi).run P W= .ok (.value (.agg cs)) W:=loadRun_ ho hx hg hu hd (hi.trans (by rw [hn]))
theorem sto {P:Program} {ops:Array Oper} {oi:Oper} {a:Act} {W:World} {K:Act→World→Prop} {Q:Exit→Act→World→Prop} {g n:Nat} {ty t:TypeId} {x y:Operand} {old cells:Array Value} (hg:W.heap[g]? =some (.cells old t (0,0)))(hi:(P.info? ty).map (·.size)=some n)(h1:cells.all (·.oneCell')=true)
  (ho:oi.op= .store ty x y:=by rfl) (hx:a.eval x= .pointer (some ⟨g,0,none⟩):=by rfl) (hy:a.eval y= .agg cells:=by rfl) (hn:cells.size=n:=by rfl) (hold:old.size=cells.size:=by rfl) (hw:Region.wanted oi (yielded ops a.tmps)=true:=by rfl) (hN:oi.dst=none:=by rfl)
  (h: ∀ W',W'.heap[g]? =some (.cells cells t (0,0))→Evt W W' (some g) t→K a W'):if Region.wanted oi (yielded ops a.tmps)=true then Oper.wp P oi a W K Q else K (a.put none undef) W:=by
 obtain⟨W',hr,hc,he⟩:=storeAll (P:=P) hg (hi.trans (by rw [hn])) hold h1
 exact skip_ hw hN (storeRun_ ho hx hy hr) (h W' hc he)
def SimplePost(w w':World)(base:Nat)(A0:Value)(fuel:Int)(tv sv dv:Value)(r:SM×SF)(e:Ending):Prop :=
 ∃ tv',e= .returned (.tuple #[.agg (smC A0 fuel r.1 tv' sv).toArray,.agg (sfC r.2 dv).toArray])∧SRows w' base r.1 tv' sv∧New w tv tv'∧KeptS tv tv w w'
theorem setSreg_f(c:SF)(i v:Int):(setSreg c i v).f=c.f:=by unfold setSreg;(repeat' split)<;>rfl
theorem setSreg_p(c:SF)(i v:Int):(setSreg c i v).panic=c.panic:=by unfold setSreg;(repeat' split)<;>rfl
section
variable {m:SM} {c:SF} {s:St}
theorem simpleS_1(h:s.f0=1):simpleS m c s=(m,setSreg c s.f1 s.f2):=by unfold simpleS;rw [h];rfl
theorem simpleS_2(h:s.f0=2):simpleS m c s=(m,setSreg c s.f1 ((sreg c s.f1+sreg c s.f2+163840).tmod 65536-32768)):=by unfold simpleS;rw [h];rfl
theorem simpleS_3(h:s.f0=3):simpleS m c s=(stell m 4 c.f (sreg c s.f1),c):=by unfold simpleS;rw [h];rfl
theorem simpleS_9(h:s.f0=9):simpleS m c s=(m,if c.deferred=true then { c with outer:=sreg c s.f1 } else c):=by unfold simpleS;rw [h];rfl
theorem simpleS_12(h:s.f0=12):simpleS m c s=({ m with shared:=sreg c s.f1 },c):=by unfold simpleS;rw [h];rfl
theorem simpleS_13(h:s.f0=13):simpleS m c s=(m,setSreg c s.f1 m.shared):=by unfold simpleS;rw [h];rfl
theorem simpleS_7(h:s.f0=7):simpleS m c s=(if c.panicking=true∧c.recovered=false then(stell m 6 c.f c.panic,{ setSreg { c with recovered:=true } s.f1 c.panic with r3:=1 }) else(m,{ setSreg c s.f1 0 with r3:=0 })):=by unfold simpleS;rw [h];rfl
end
theorem l2Simple.calls(w:World)(base:Nat)(pA:Option Addr)(pn pc:Nat)(fuel:Int)(m:SM)(c:SF)(tv sv:Value)(dA:Option Addr)(dn dc:Nat)(H:SRows w base m tv sv)(hb:base≤w.heap.size)(hn:m.trace.length≤100000)
  (s:St) (hs:StepWf s) (hreg: ∀ i,Num (sreg c i)) (k4:s.f0≠4) (k5:s.f0≠5) (k6:s.f0≠6) (k8:s.f0≠8) (k10:s.f0≠10) (k11:s.f0≠11) :
  Calls Try.prog 297 #[.agg (smC (.slice pA pn pc) fuel m tv sv).toArray,.agg (sfC c (.slice dA dn dc)).toArray,.agg #[.int .i64 s.f0,.int .i64 s.f1,.int .i64 s.f2]] w fun e w'=>SimplePost w w' base (.slice pA pn pc) fuel tv sv (.slice dA dn dc) (simpleS m c s) e:=by
 obtain⟨q0,q1,x⟩:=s
 have hk:q0=1∨q0=2∨q0=3∨q0=7∨q0=9∨q0=12∨q0=13:=by
  have h1:1≤q0:=hs.k.1
  have h2:q0≤13:=hs.k.2
  have h3:q0≠4:=k4
  have h5:q0≠5:=k5
  have h6:q0≠6:=k6
  have h8:q0≠8:=k8
  have h10:q0≠10:=k10
  have h11:q0≠11:=k11
  omega
 obtain⟨a,ha⟩:=nat_of (hs.a k4 k5 k10 k11).1
 have ha4:=(hs.a k4 k5 k10 k11).2
 have hb2:=hs.b
 dsimp only at ha ha4 hb2 ⊢
 clear k4 k5 k6 k8 k10 k11 hs
 subst ha
 have ha4:a<4:=by omega
 obtain⟨q,hq⟩: ∃ q,q=simpleS m c ⟨q0,(a:Int),x⟩:=⟨_,rfl⟩
 rw [← hq]
 have HQ:=am hq
 have HK:=am hk
 have HB2:=am hb2
 have HREG:=am hreg
 clear hq hk hb2 hreg
 have ha4i:(a:Int)<4:=by omega
 obtain⟨tA,tc,htv⟩:=own_slice H.tr
 obtain⟨sA,sc,hsv⟩:=own_slice H.se
 subst htv
 subst hsv
 have HT0:=Z (own_lt H.tr)
 have HS:=am H
 have KP:=Z (KeptS.refl (.slice tA m.trace.length tc) (.slice tA m.trace.length tc) w)
 clear H
 go_enter Try.func297,Try.ntmps297
 go_upto_block 0 with(first|(refine bx 3 (smC (.slice pA pn pc) fuel (m) (.slice tA m.trace.length tc) (.slice sA m.seen.length sc)).toArray 167 (h:= ?_);intro g3 hg_ x1 hbox hbel;have Lg3:=lg hg_ KP.out.size;have hE_:=Evt.below hbel 0;replace HS:=rs HS hE_;replace KP:=kv KP hE_;have Gg3:=am hbox;clear hbel hbox hg_ hE_)|(refine bx 4 (sfC (c) (.slice dA dn dc)).toArray 169 (h:= ?_);intro g4 hg_ x2 hbox hbel;have Lg4:=lg hg_ KP.out.size;have hE_:=Evt.below hbel 0;replace HS:=rs HS hE_;replace KP:=kv KP hE_;replace Gg3:=hE_.b Gg3;have Gg4:=am hbox;clear hbel hbox hg_ hE_)|(refine bx 5 #[.int .i64 q0,.int .i64 (a:Int),.int .i64 x] 219 (h:= ?_);intro g5 hg_ x3 hbox hbel;have Lg5:=lg hg_ KP.out.size;have hE_:=Evt.below hbel 0;replace HS:=rs HS hE_;replace KP:=kv KP hE_;replace Gg3:=hE_.b Gg3;replace Gg4:=hE_.b Gg4;have Gg5:=am hbox;clear hbel hbox hg_ hE_)|(refine bx 6 zsm 167 (h:= ?_);intro g6 hg_ x4 hbox hbel;have Lg6:=lg hg_ KP.out.size;have NE_g3_g6:=nel hg_ Gg3.out;have hE_:=Evt.below hbel 0;replace HS:=rs HS hE_;replace KP:=kv KP hE_;replace Gg3:=hE_.b Gg3;replace Gg4:=hE_.b Gg4;replace Gg5:=hE_.b Gg5;have Gg6:=am hbox;clear hbel hbox hg_ hE_)|(refine bx 7 zsf 169 (h:= ?_);intro g7 hg_ x5 hbox hbel;have Lg7:=lg hg_ KP.out.size;have NE_g4_g7:=nel hg_ Gg4.out;have hE_:=Evt.below hbel 0;replace HS:=rs HS hE_;replace KP:=kv KP hE_;replace Gg3:=hE_.b Gg3;replace Gg4:=hE_.b Gg4;replace Gg5:=hE_.b Gg5;replace Gg6:=hE_.b Gg6;have Gg7:=am hbox;clear hbel hbox hg_ hE_;have p0:x5.cell? ⟨g5,0,none⟩=some (.int .i64 q0):=(blk_cell Gg5.out (0)).trans (rfl)))
 clear p0
 go_cut [] from 8 (fun wc=> ∃ (uA:Option Addr) (uc:Nat),Aside0 (SRows wc base q.1 (.slice uA q.1.trace.length uc) (.slice sA m.seen.length sc))∧Aside0 (KeptS (.slice tA m.trace.length tc) (.slice tA m.trace.length tc) w wc)∧Aside0 (New w (.slice tA m.trace.length tc) (.slice uA q.1.trace.length uc))∧Aside0 (wc.heap[g3]? =some (.cells (smC (.slice pA pn pc) fuel (q.1) (.slice uA q.1.trace.length uc) (.slice sA m.seen.length sc)).toArray 167 (0,0)))∧Aside0 (wc.heap[g4]? =some (.cells (sfC (q.2) (.slice dA dn dc)).toArray 169 (0,0)))∧Aside0 (wc.heap[g6]? =some (.cells zsm 167 (0,0)))∧Aside0 (wc.heap[g7]? =some (.cells zsf 169 (0,0))))
 case first =>
  have hk:=HK.out
  clear HK
  rcases hk with rfl|rfl|rfl|rfl|rfl|rfl|rfl
  ·skip
   have hq:=HQ.out
   rw [simpleS_1 rfl] at hq
   have p1:x5.cell? ⟨g5,1,none⟩=some (.int .i64 (a:Int)):=(blk_cell Gg5.out (1)).trans (rfl);have p2:x5.cell? ⟨g5,2,none⟩=some (.int .i64 x):=(blk_cell Gg5.out (2)).trans (rfl);have qa:x5.cell? ⟨g4,2+a,none⟩=some (.int .i64 (sreg (c) a)):=(blk_cell Gg4.out (2+a)).trans (sfC_reg (c) (.slice dA dn dc) a ha4);have zqa:=blk_frozen Gg4.out (2+a)
   go_wp2_with (fail)
   clear p1 p2 qa zqa
   have hev:=Evt.set Gg4.out (2+a) (.int .i64 x)
   replace HS:=rs HS hev
   replace KP:=kv KP hev
   replace Gg3:=hev.b Gg3
   replace Gg4:=Z (sfC_put Gg4.out a ha4 (x))
   replace Gg5:=hev.b Gg5
   replace Gg6:=hev.b Gg6
   replace Gg7:=hev.b' Gg7 (ne_some' NE_g4_g7)
   clear hev
   generalize x5.setCell ⟨g4,2+a,none⟩ (.int .i64 x)=x6 at HS KP Gg3 Gg4 Gg5 Gg6 Gg7 ⊢
   have HNW:=Z (New.refl w (.slice tA m.trace.length tc))
   subst hq
   go_meet
   case rel=>exact⟨tA,tc,HS,KP,HNW,Gg3,Gg4,Gg6,Gg7⟩
  ·skip
   have hq:=HQ.out
   rw [simpleS_2 rfl] at hq
   obtain⟨b,rfl⟩:=nat_of (HB2.out (.inl rfl)).1
   have hb4:b<4:=(by have:=(HB2.out (.inl rfl)).2;omega)
   have hb4i:(b:Int)<4:=zq90
   have ha_:Num (sreg c a):=HREG.out _
   have hb_:Num (sreg c b):=HREG.out _
   unfold Num at ha_ hb_
   have hw1:wrap64 (sreg c a+sreg c b)=sreg c a+sreg c b:=IntWalk.wrap64_in _ ⟨zq90,zq90⟩
   go_upto_region 5 with(fail)
   have hE0_:=Evt.drew x5 292
   replace HS:=Z (HS.out.ev (Evt.drew x5 0))
   replace KP:=Z (KP.out.ev (Evt.drew x5 0) (fun q e=>zq121))
   replace Gg3:=(Evt.drew x5 0).b Gg3
   replace Gg4:=(Evt.drew x5 0).b Gg4
   replace Gg5:=(Evt.drew x5 0).b Gg5
   replace Gg6:=(Evt.drew x5 0).b Gg6
   replace Gg7:=(Evt.drew x5 0).b Gg7
   clear hE0_
   refine start_ (n:=17) (S:=fun w'=>w'.cell? ⟨g5,1,none⟩=some (.int .i64 (a:Int))∧w'.cell? ⟨g5,2,none⟩=some (.int .i64 (b:Int))∧w'.cell? ⟨g4,2+a,none⟩=some (.int .i64 (sreg c a))∧w'.cell? ⟨g4,2+b,none⟩=some (.int .i64 (sreg c b))∧True) (ds:= [16]) (bb 17 0) zq27 rfl rfl ⟨(blk_cell Gg5.out 1).trans rfl,(blk_cell Gg5.out 2).trans rfl,(blk_cell Gg4.out (2+a)).trans (sfC_reg c (.slice dA dn dc) a ha4),(blk_cell Gg4.out (2+b)).trans (sfC_reg c (.slice dA dn dc) b hb4),trivial⟩ (fun hHeld=> ?_)
   generalize x5.drew=x6 at HS KP Gg3 Gg4 Gg5 Gg6 Gg7 hHeld ⊢
   refine pure1 0 20 (bb 17 1) (h:= ?_)
   refine take1 1 21 (bb 17 3) (hS:=hHeld) (h:= ?_)
   refine pure1 2 22 (bb 17 7) (h:= ?_)
   refine take1 3 23 (bb 17 15) (hS:=hHeld) (h:= ?_)
   refine pure1 4 24 (bb 17 31) (h:= ?_)
   refine pure1 5 25 (bb 17 63) (h:= ?_)
   refine take1 6 26 (bb 17 127) (hS:=hHeld) (h:= ?_)
   refine pure1 7 27 (bb 17 255) (h:= ?_)
   refine take1 8 28 (bb 17 511) (hS:=hHeld) (h:= ?_)
   refine pure1 9 29 (bb 17 1023) (h:= ?_)
   refine pure1 10 30 (bb 17 2047) (h:= ?_)
   refine take1 11 31 (bb 17 4095) (hS:=hHeld) (h:= ?_)
   refine pure1 12 32 (bb 17 8191) (h:= ?_)
   refine pure1 14 34 (bb 17 24575) (h:= ?_)
   refine on_ 13 (some 33) (bb 17 32767) (h:=fun K hK=> ?_)
   refine goes_ Try.func244 zq27 rfl #[.int .i64 (wrap64 (sreg c a+sreg c b))] (by rfl) rfl rfl zq84 ?_
   refine(show Calls _ _ #[.int .i64 (wrap64 (sreg c a+sreg c b))] x6 (fun e w'=>e= .returned (.int .i64 ((sreg c a+sreg c b+163840).tmod 65536-32768))∧x6=w') from by rw [hw1];exact l2Wrap.calls _ (sreg c a+sreg c b) ⟨zq90,zq90⟩).mono ?_
   rintro e wz ⟨rfl,rfl⟩
   refine⟨_,rfl,?_⟩
   refine hK.out _ _ ⟨(blk_cell Gg5.out 1).trans rfl,(blk_cell Gg5.out 2).trans rfl,(blk_cell Gg4.out (2+a)).trans (sfC_reg c (.slice dA dn dc) a ha4),(blk_cell Gg4.out (2+b)).trans (sfC_reg c (.slice dA dn dc) b hb4),trivial⟩ (fun hHeld=> ?_)
   clear hK K
   refine nm 33 (h:= ?_)
   refine pure1 15 35 (bb 17 65535) (h:= ?_)
   refine la 16 none (bb 17 131071) (h:=fun K hK=> ?_)
   have hc_:=(blk_cell Gg4.out (2+a)).trans (sfC_reg c (.slice dA dn dc) a ha4)
   have hf_:=blk_frozen Gg4.out (2+a)
   rw [if_pos (by rfl)]
   unfold Oper.wp
   go_simp
   clear hc_ hf_
   have hev:=Evt.set Gg4.out (2+a) (.int .i64 ((sreg c a+sreg c b+163840).tmod 65536-32768))
   replace HS:=rs HS hev
   replace KP:=kv KP hev
   replace Gg3:=hev.b Gg3
   replace Gg4:=Z (sfC_put Gg4.out a ha4 ((sreg c a+sreg c b+163840).tmod 65536-32768))
   replace Gg5:=hev.b Gg5
   replace Gg6:=hev.b Gg6
   replace Gg7:=hev.b' Gg7 (ne_some' NE_g4_g7)
   generalize x6.setCell ⟨g4,2+a,none⟩ (.int .i64 ((sreg c a+sreg c b+163840).tmod 65536-32768))=x7 at HS KP Gg3 Gg4 Gg5 Gg6 Gg7 ⊢
   clear hev
   refine hK.out _ _ ?_
   clear hK K
   refine done_ zq27 ?_
   go_wp2_with (fail)
   have HNW:=Z (New.refl w (.slice tA m.trace.length tc))
   subst hq
   go_meet
   case rel=>exact⟨tA,tc,HS,KP,HNW,Gg3,Gg4,Gg6,Gg7⟩
  ·skip
   have hq:=HQ.out
   rw [simpleS_3 rfl] at hq
   go_upto_region 7 with(fail)
   have hE0_:=Evt.drew x5 292
   replace HS:=Z (HS.out.ev (Evt.drew x5 0))
   replace KP:=Z (KP.out.ev (Evt.drew x5 0) (fun q e=>zq121))
   replace Gg3:=(Evt.drew x5 0).b Gg3
   replace Gg4:=(Evt.drew x5 0).b Gg4
   replace Gg5:=(Evt.drew x5 0).b Gg5
   replace Gg6:=(Evt.drew x5 0).b Gg6
   replace Gg7:=(Evt.drew x5 0).b Gg7
   clear hE0_
   refine start_ (n:=10) (S:=fun w'=>w'.heap[g3]? =some (.cells (smC (.slice pA pn pc) fuel (m) (.slice tA m.trace.length tc) (.slice sA m.seen.length sc)).toArray 167 (0,0))∧w'.cell? ⟨g4,0,none⟩=some (.int .i64 c.f)∧w'.cell? ⟨g5,1,none⟩=some (.int .i64 (a:Int))∧w'.cell? ⟨g4,2+a,none⟩=some (.int .i64 (sreg c a))∧True) (ds:= [8,9]) (bb 10 0) zq27 rfl rfl ⟨Gg3.out,(blk_cell Gg4.out 0).trans rfl,(blk_cell Gg5.out 1).trans rfl,(blk_cell Gg4.out (2+a)).trans (sfC_reg c (.slice dA dn dc) a ha4),trivial⟩ (fun hHeld=> ?_)
   generalize x5.drew=x6 at HS KP Gg3 Gg4 Gg5 Gg6 Gg7 hHeld ⊢
   refine take1 0 38 (bb 10 1) (hy:=Or.inl ⟨by rfl,by rintro w' ⟨s0,s1,s2,s3,_⟩;exact lR 3 s0 und_sm size_sm⟩) (hS:=hHeld) (h:= ?_)
   refine pure1 1 39 (bb 10 3) (h:= ?_)
   refine take1 2 40 (bb 10 7) (hS:=hHeld) (h:= ?_)
   refine pure1 3 41 (bb 10 15) (h:= ?_)
   refine take1 4 42 (bb 10 31) (hS:=hHeld) (h:= ?_)
   refine pure1 5 43 (bb 10 63) (h:= ?_)
   refine pure1 6 44 (bb 10 127) (h:= ?_)
   refine take1 7 45 (bb 10 255) (hS:=hHeld) (h:= ?_)
   refine la 8 (some 46) (bb 10 511) (h:=fun K hK=> ?_)
   refine goes_ Try.func274 zq27 rfl #[.agg (smC (.slice pA pn pc) fuel (m) (.slice tA m.trace.length tc) (.slice sA m.seen.length sc)).toArray,.int .i64 4,.int .i64 (c.f),.int .i64 (sreg c a)] (by rfl) rfl rfl zq84 ?_
   refine(l2Tell.calls _ base pA pn pc fuel m (.slice tA m.trace.length tc) (.slice sA m.seen.length sc) 4 c.f (sreg c a) HS.out (Nat.le_trans hb KP.out.size) hn).mono ?_
   rintro e wz ⟨tv2,rfl,hS2,hN2,hK2⟩
   refine⟨_,rfl,?_⟩
   have HNW:=Z (New.trans (New.refl w (.slice tA m.trace.length tc)) hN2 KP.out.size)
   replace HS:=Z (hS2)
   replace KP:=Z (KP.out.trans hK2 (New.refl _ _) (New.refl _ _))
   replace Gg3:=Z (hK2.blk _ _ Gg3.out (free_tv HT0.out Lg3) (free_tv HT0.out Lg3))
   replace Gg4:=Z (hK2.blk _ _ Gg4.out (free_tv HT0.out Lg4) (free_tv HT0.out Lg4))
   replace Gg5:=Z (hK2.blk _ _ Gg5.out (free_tv HT0.out Lg5) (free_tv HT0.out Lg5))
   replace Gg6:=Z (hK2.blk _ _ Gg6.out (free_tv HT0.out Lg6) (free_tv HT0.out Lg6))
   replace Gg7:=Z (hK2.blk _ _ Gg7.out (free_tv HT0.out Lg7) (free_tv HT0.out Lg7))
   clear hS2 hN2 hK2
   obtain⟨uA,uc,hu⟩:=own_slice HS.out.tr
   have hu':tv2= .slice uA (m.trace.length+1) uc:=(by rw [hu];show Value.slice _ (m.trace++ [_]).length _=_;rw [len1])
   clear hu
   subst hu'
   refine hK.out _ _ ?_
   clear hK K
   refine nm 46 (h:= ?_)
   refine la 9 none (bb 10 1023) (h:=fun K hK=> ?_)
   refine sto Gg3.out size_sm (smC_one ..) (h:= ?_)
   intro x7 hc_ hev
   replace HS:=rs HS hev
   replace KP:=kv KP hev
   replace Gg3:=Z (hc_)
   replace Gg4:=hev.b Gg4
   replace Gg5:=hev.b Gg5
   replace Gg6:=hev.b' Gg6 (ne_some' NE_g3_g6)
   replace Gg7:=hev.b Gg7
   clear hc_ hev
   refine hK.out _ _ ?_
   clear hK K
   refine done_ zq27 ?_
   go_wp2_with (fail)
   subst hq
   go_meet
   case rel =>
    refine⟨uA,uc,?_⟩
    rw [show (stell m 4 c.f (sreg c (a:Int))).trace.length=m.trace.length+1 from len1 _ _]
    exact⟨HS,KP,HNW,Gg3,Gg4,Gg6,Gg7⟩
  ·rcases Bool.eq_false_or_eq_true c.panicking with hd|hd
   ·rcases Bool.eq_false_or_eq_true c.recovered with hr|hr
    ·skip
     have hq:=HQ.out
     rw [simpleS_7 rfl,if_neg (fun h=>by rw [hr] at h;cases h.2)] at hq
     have qd:x5.cell? ⟨g4,11,none⟩=some (.bool true):=(blk_cell Gg4.out (11)).trans (by rw [← hd];rfl);have qr:x5.cell? ⟨g4,13,none⟩=some (.bool true):=(blk_cell Gg4.out (13)).trans (by rw [← hr];rfl);have p1:x5.cell? ⟨g5,1,none⟩=some (.int .i64 (a:Int)):=(blk_cell Gg5.out (1)).trans (rfl);have qa:x5.cell? ⟨g4,2+a,none⟩=some (.int .i64 (sreg (c) a)):=(blk_cell Gg4.out (2+a)).trans (sfC_reg (c) (.slice dA dn dc) a ha4);have zqa:=blk_frozen Gg4.out (2+a)
     go_upto_region 22 with(fail)
     clear qd qr p1 qa zqa
     have hev:=Evt.set Gg4.out (2+a) (.int .i64 0)
     replace HS:=rs HS hev
     replace KP:=kv KP hev
     replace Gg3:=hev.b Gg3
     replace Gg4:=Z (sfC_put Gg4.out a ha4 (0))
     replace Gg5:=hev.b Gg5
     replace Gg6:=hev.b Gg6
     replace Gg7:=hev.b' Gg7 (ne_some' NE_g4_g7)
     clear hev
     generalize x5.setCell ⟨g4,2+a,none⟩ (.int .i64 0)=x6 at HS KP Gg3 Gg4 Gg5 Gg6 Gg7 ⊢
     have qb:x6.cell? ⟨g4,5,none⟩=some (.int .i64 (setSreg c a 0).r3):=(blk_cell Gg4.out (5)).trans (rfl);have zqb:=blk_frozen Gg4.out (5)
     go_wp2_with (fail)
     clear qb zqb
     have hev:=Evt.set Gg4.out (5) (.int .i64 0)
     replace HS:=rs HS hev
     replace KP:=kv KP hev
     replace Gg3:=hev.b Gg3
     replace Gg4:=Z ((blk_set Gg4.out (5) (.int .i64 0)).trans (show _=some (Obj.cells (sfC ({ setSreg c a 0 with r3:=0 }) (.slice dA dn dc)).toArray 169 (0,0)) from rfl))
     replace Gg5:=hev.b Gg5
     replace Gg6:=hev.b Gg6
     replace Gg7:=hev.b' Gg7 (ne_some' NE_g4_g7)
     clear hev
     generalize x6.setCell ⟨g4,5,none⟩ (.int .i64 0)=x7 at HS KP Gg3 Gg4 Gg5 Gg6 Gg7 ⊢
     have HNW:=Z (New.refl w (.slice tA m.trace.length tc))
     subst hq
     go_meet
     case rel=>exact⟨tA,tc,HS,KP,HNW,Gg3,Gg4,Gg6,Gg7⟩
    ·skip
     have hq:=HQ.out
     rw [simpleS_7 rfl,if_pos ⟨hd,hr⟩] at hq
     have qd:x5.cell? ⟨g4,11,none⟩=some (.bool true):=(blk_cell Gg4.out (11)).trans (by rw [← hd];rfl);have qr:x5.cell? ⟨g4,13,none⟩=some (.bool false):=(blk_cell Gg4.out (13)).trans (by rw [← hr];rfl);have zqr:=blk_frozen Gg4.out (13)
     go_upto_region 18 with(fail)
     clear qd qr zqr
     have hev:=Evt.set Gg4.out (13) (.bool true)
     replace HS:=rs HS hev
     replace KP:=kv KP hev
     replace Gg3:=hev.b Gg3
     replace Gg4:=Z ((blk_set Gg4.out (13) (.bool true)).trans (show _=some (Obj.cells (sfC ({ c with recovered:=true }) (.slice dA dn dc)).toArray 169 (0,0)) from rfl))
     replace Gg5:=hev.b Gg5
     replace Gg6:=hev.b Gg6
     replace Gg7:=hev.b' Gg7 (ne_some' NE_g4_g7)
     clear hev
     generalize x5.setCell ⟨g4,13,none⟩ (.bool true)=x6 at HS KP Gg3 Gg4 Gg5 Gg6 Gg7 ⊢
     have p1:x6.cell? ⟨g5,1,none⟩=some (.int .i64 (a:Int)):=(blk_cell Gg5.out (1)).trans (rfl);have qp:x6.cell? ⟨g4,12,none⟩=some (.int .i64 c.panic):=(blk_cell Gg4.out (12)).trans (rfl);have qa:x6.cell? ⟨g4,2+a,none⟩=some (.int .i64 (sreg ({ c with recovered:=true }) a)):=(blk_cell Gg4.out (2+a)).trans (sfC_reg ({ c with recovered:=true }) (.slice dA dn dc) a ha4);have zqa:=blk_frozen Gg4.out (2+a)
     go_upto_region 19 with(fail)
     clear p1 qp qa zqa
     have hev:=Evt.set Gg4.out (2+a) (.int .i64 c.panic)
     replace HS:=rs HS hev
     replace KP:=kv KP hev
     replace Gg3:=hev.b Gg3
     replace Gg4:=Z (sfC_put Gg4.out a ha4 (c.panic))
     replace Gg5:=hev.b Gg5
     replace Gg6:=hev.b Gg6
     replace Gg7:=hev.b' Gg7 (ne_some' NE_g4_g7)
     clear hev
     generalize x6.setCell ⟨g4,2+a,none⟩ (.int .i64 c.panic)=x7 at HS KP Gg3 Gg4 Gg5 Gg6 Gg7 ⊢
     have qb:x7.cell? ⟨g4,5,none⟩=some (.int .i64 (setSreg { c with recovered:=true } a c.panic).r3):=(blk_cell Gg4.out (5)).trans (rfl);have zqb:=blk_frozen Gg4.out (5)
     go_upto_region 20 with(fail)
     clear qb zqb
     have hev:=Evt.set Gg4.out (5) (.int .i64 1)
     replace HS:=rs HS hev
     replace KP:=kv KP hev
     replace Gg3:=hev.b Gg3
     replace Gg4:=Z ((blk_set Gg4.out (5) (.int .i64 1)).trans (show _=some (Obj.cells (sfC ({ setSreg { c with recovered:=true } a c.panic with r3:=1 }) (.slice dA dn dc)).toArray 169 (0,0)) from rfl))
     replace Gg5:=hev.b Gg5
     replace Gg6:=hev.b Gg6
     replace Gg7:=hev.b' Gg7 (ne_some' NE_g4_g7)
     clear hev
     generalize x7.setCell ⟨g4,5,none⟩ (.int .i64 1)=x8 at HS KP Gg3 Gg4 Gg5 Gg6 Gg7 ⊢
     have qf:x8.cell? ⟨g4,0,none⟩=some (.int .i64 c.f):=(blk_cell Gg4.out (0)).trans (congrArg (fun q=>some (Value.int .i64 q)) (setSreg_f { c with recovered:=true } a c.panic));have qp:x8.cell? ⟨g4,12,none⟩=some (.int .i64 c.panic):=(blk_cell Gg4.out (12)).trans (congrArg (fun q=>some (Value.int .i64 q)) (setSreg_p { c with recovered:=true } a c.panic))
     go_wp2_with (first|(refine lr 91 Gg3.out und_sm size_sm (h:= ?_)))
     refine(l2Tell.calls _ base pA pn pc fuel m (.slice tA m.trace.length tc) (.slice sA m.seen.length sc) 6 c.f c.panic HS.out (Nat.le_trans hb KP.out.size) hn).mono ?_
     rintro e wz ⟨tv2,rfl,hS2,hN2,hK2⟩
     have HNW:=Z (New.trans (New.refl w (.slice tA m.trace.length tc)) hN2 KP.out.size)
     replace HS:=Z (hS2)
     replace KP:=Z (KP.out.trans hK2 (New.refl _ _) (New.refl _ _))
     replace Gg3:=Z (hK2.blk _ _ Gg3.out (free_tv HT0.out Lg3) (free_tv HT0.out Lg3))
     replace Gg4:=Z (hK2.blk _ _ Gg4.out (free_tv HT0.out Lg4) (free_tv HT0.out Lg4))
     replace Gg5:=Z (hK2.blk _ _ Gg5.out (free_tv HT0.out Lg5) (free_tv HT0.out Lg5))
     replace Gg6:=Z (hK2.blk _ _ Gg6.out (free_tv HT0.out Lg6) (free_tv HT0.out Lg6))
     replace Gg7:=Z (hK2.blk _ _ Gg7.out (free_tv HT0.out Lg7) (free_tv HT0.out Lg7))
     clear hS2 hN2 hK2
     obtain⟨uA,uc,hu⟩:=own_slice HS.out.tr
     have hu':tv2= .slice uA (m.trace.length+1) uc:=(by rw [hu];show Value.slice _ (m.trace++ [_]).length _=_;rw [len1])
     clear hu
     subst hu'
     go_wp2_with (first|(refine ag 3 (smC (.slice pA pn pc) fuel (stell m 6 c.f c.panic) (.slice uA (m.trace.length+1) uc) (.slice sA m.seen.length sc)).toArray Gg3.out size_sm (h:= ?_);intro x9 hbox hev;replace HS:=rs HS hev;replace KP:=kv KP hev;replace Gg4:=hev.b Gg4;replace Gg5:=hev.b Gg5;replace Gg6:=hev.b' Gg6 (ne_some' NE_g3_g6);replace Gg7:=hev.b Gg7;clear Gg3;have Gg3:=am hbox;clear hbox hev))
     clear qf qp
     subst hq
     go_meet
     case rel =>
      refine⟨uA,uc,?_⟩
      rw [show (stell m 6 c.f c.panic).trace.length=m.trace.length+1 from len1 _ _]
      exact⟨HS,KP,HNW,Gg3,Gg4,Gg6,Gg7⟩
   ·skip
    have hq:=HQ.out
    rw [simpleS_7 rfl,if_neg (fun h=>by rw [hd] at h;cases h.1)] at hq
    have qd:x5.cell? ⟨g4,11,none⟩=some (.bool false):=(blk_cell Gg4.out (11)).trans (by rw [← hd];rfl);have p1:x5.cell? ⟨g5,1,none⟩=some (.int .i64 (a:Int)):=(blk_cell Gg5.out (1)).trans (rfl);have qa:x5.cell? ⟨g4,2+a,none⟩=some (.int .i64 (sreg (c) a)):=(blk_cell Gg4.out (2+a)).trans (sfC_reg (c) (.slice dA dn dc) a ha4);have zqa:=blk_frozen Gg4.out (2+a)
    go_upto_region 22 with(fail)
    clear qd p1 qa zqa
    have hev:=Evt.set Gg4.out (2+a) (.int .i64 0)
    replace HS:=rs HS hev
    replace KP:=kv KP hev
    replace Gg3:=hev.b Gg3
    replace Gg4:=Z (sfC_put Gg4.out a ha4 (0))
    replace Gg5:=hev.b Gg5
    replace Gg6:=hev.b Gg6
    replace Gg7:=hev.b' Gg7 (ne_some' NE_g4_g7)
    clear hev
    generalize x5.setCell ⟨g4,2+a,none⟩ (.int .i64 0)=x6 at HS KP Gg3 Gg4 Gg5 Gg6 Gg7 ⊢
    have qb:x6.cell? ⟨g4,5,none⟩=some (.int .i64 (setSreg c a 0).r3):=(blk_cell Gg4.out (5)).trans (rfl);have zqb:=blk_frozen Gg4.out (5)
    go_wp2_with (fail)
    clear qb zqb
    have hev:=Evt.set Gg4.out (5) (.int .i64 0)
    replace HS:=rs HS hev
    replace KP:=kv KP hev
    replace Gg3:=hev.b Gg3
    replace Gg4:=Z ((blk_set Gg4.out (5) (.int .i64 0)).trans (show _=some (Obj.cells (sfC ({ setSreg c a 0 with r3:=0 }) (.slice dA dn dc)).toArray 169 (0,0)) from rfl))
    replace Gg5:=hev.b Gg5
    replace Gg6:=hev.b Gg6
    replace Gg7:=hev.b' Gg7 (ne_some' NE_g4_g7)
    clear hev
    generalize x6.setCell ⟨g4,5,none⟩ (.int .i64 0)=x7 at HS KP Gg3 Gg4 Gg5 Gg6 Gg7 ⊢
    have HNW:=Z (New.refl w (.slice tA m.trace.length tc))
    subst hq
    go_meet
    case rel=>exact⟨tA,tc,HS,KP,HNW,Gg3,Gg4,Gg6,Gg7⟩
  ·rcases Bool.eq_false_or_eq_true c.deferred with hd|hd
   ·skip
    have hq:=HQ.out
    rw [simpleS_9 rfl,if_pos hd] at hq
    have qd:x5.cell? ⟨g4,10,none⟩=some (.bool true):=(blk_cell Gg4.out (10)).trans (by rw [← hd];rfl);have p1:x5.cell? ⟨g5,1,none⟩=some (.int .i64 (a:Int)):=(blk_cell Gg5.out (1)).trans (rfl);have qa:x5.cell? ⟨g4,2+a,none⟩=some (.int .i64 (sreg (c) a)):=(blk_cell Gg4.out (2+a)).trans (sfC_reg (c) (.slice dA dn dc) a ha4);have qo:x5.cell? ⟨g4,14,none⟩=some (.int .i64 c.outer):=(blk_cell Gg4.out (14)).trans (rfl);have zqo:=blk_frozen Gg4.out (14)
    go_wp2_with (fail)
    clear qd p1 qa qo zqo
    have hev:=Evt.set Gg4.out (14) (.int .i64 (sreg c a))
    replace HS:=rs HS hev
    replace KP:=kv KP hev
    replace Gg3:=hev.b Gg3
    replace Gg4:=Z ((blk_set Gg4.out (14) (.int .i64 (sreg c a))).trans (show _=some (Obj.cells (sfC ({ c with outer:=sreg c a }) (.slice dA dn dc)).toArray 169 (0,0)) from rfl))
    replace Gg5:=hev.b Gg5
    replace Gg6:=hev.b Gg6
    replace Gg7:=hev.b' Gg7 (ne_some' NE_g4_g7)
    clear hev
    generalize x5.setCell ⟨g4,14,none⟩ (.int .i64 (sreg c a))=x6 at HS KP Gg3 Gg4 Gg5 Gg6 Gg7 ⊢
    have HNW:=Z (New.refl w (.slice tA m.trace.length tc))
    subst hq
    go_meet
    case rel=>exact⟨tA,tc,HS,KP,HNW,Gg3,Gg4,Gg6,Gg7⟩
   ·skip
    have hq:=HQ.out
    rw [simpleS_9 rfl,if_neg (by rw [hd];decide)] at hq
    have qd:x5.cell? ⟨g4,10,none⟩=some (.bool false):=(blk_cell Gg4.out (10)).trans (by rw [← hd];rfl)
    go_wp2_with (fail)
    clear qd
    have HNW:=Z (New.refl w (.slice tA m.trace.length tc))
    subst hq
    go_meet
    case rel=>exact⟨tA,tc,HS,KP,HNW,Gg3,Gg4,Gg6,Gg7⟩
  ·skip
   have hq:=HQ.out
   rw [simpleS_12 rfl] at hq
   have p1:x5.cell? ⟨g5,1,none⟩=some (.int .i64 (a:Int)):=(blk_cell Gg5.out (1)).trans (rfl);have qa:x5.cell? ⟨g4,2+a,none⟩=some (.int .i64 (sreg (c) a)):=(blk_cell Gg4.out (2+a)).trans (sfC_reg (c) (.slice dA dn dc) a ha4);have qm:x5.cell? ⟨g3,3,none⟩=some (.int .i64 m.shared):=(blk_cell Gg3.out (3)).trans (rfl);have zqm:=blk_frozen Gg3.out (3)
   go_wp2_with (fail)
   clear p1 qa qm zqm
   have hev:=Evt.set Gg3.out (3) (.int .i64 (sreg c a))
   replace HS:=rs HS hev
   replace KP:=kv KP hev
   replace Gg3:=Z ((blk_set Gg3.out (3) (.int .i64 (sreg c a))).trans (show _=some (Obj.cells (smC (.slice pA pn pc) fuel ({ m with shared:=sreg c a }) (.slice tA m.trace.length tc) (.slice sA m.seen.length sc)).toArray 167 (0,0)) from rfl))
   replace Gg4:=hev.b Gg4
   replace Gg5:=hev.b Gg5
   replace Gg6:=hev.b' Gg6 (ne_some' NE_g3_g6)
   replace Gg7:=hev.b Gg7
   clear hev
   generalize x5.setCell ⟨g3,3,none⟩ (.int .i64 (sreg c a))=x6 at HS KP Gg3 Gg4 Gg5 Gg6 Gg7 ⊢
   replace HS:=Z (show SRows x6 base { m with shared:=sreg c a } (.slice tA m.trace.length tc) (.slice sA m.seen.length sc) from⟨HS.out.tr,HS.out.se⟩)
   have HNW:=Z (New.refl w (.slice tA m.trace.length tc))
   subst hq
   go_meet
   case rel=>exact⟨tA,tc,HS,KP,HNW,Gg3,Gg4,Gg6,Gg7⟩
  ·skip
   have hq:=HQ.out
   rw [simpleS_13 rfl] at hq
   have p1:x5.cell? ⟨g5,1,none⟩=some (.int .i64 (a:Int)):=(blk_cell Gg5.out (1)).trans (rfl);have qa:x5.cell? ⟨g4,2+a,none⟩=some (.int .i64 (sreg (c) a)):=(blk_cell Gg4.out (2+a)).trans (sfC_reg (c) (.slice dA dn dc) a ha4);have zqa:=blk_frozen Gg4.out (2+a);have qm:x5.cell? ⟨g3,3,none⟩=some (.int .i64 m.shared):=(blk_cell Gg3.out (3)).trans (rfl)
   go_wp2_with (fail)
   clear p1 qa zqa qm
   have hev:=Evt.set Gg4.out (2+a) (.int .i64 m.shared)
   replace HS:=rs HS hev
   replace KP:=kv KP hev
   replace Gg3:=hev.b Gg3
   replace Gg4:=Z (sfC_put Gg4.out a ha4 (m.shared))
   replace Gg5:=hev.b Gg5
   replace Gg6:=hev.b Gg6
   replace Gg7:=hev.b' Gg7 (ne_some' NE_g4_g7)
   clear hev
   generalize x5.setCell ⟨g4,2+a,none⟩ (.int .i64 m.shared)=x6 at HS KP Gg3 Gg4 Gg5 Gg6 Gg7 ⊢
   have HNW:=Z (New.refl w (.slice tA m.trace.length tc))
   subst hq
   go_meet
   case rel=>exact⟨tA,tc,HS,KP,HNW,Gg3,Gg4,Gg6,Gg7⟩
 clear HS KP Gg3 Gg4 Gg5 Gg6 Gg7
 obtain⟨uA,uc,HS,KP,HNW,Gg3,Gg4,Gg6,Gg7⟩:=hcut
 generalize wc=x10 at HS KP HNW Gg3 Gg4 Gg6 Gg7 ⊢
 go_upto_region 23 with(fail)
 have hE0_:=Evt.drew x10 292
 replace HS:=Z (HS.out.ev (Evt.drew x10 0))
 replace KP:=Z (KP.out.ev (Evt.drew x10 0) (fun q e=>zq121))
 replace Gg3:=(Evt.drew x10 0).b Gg3
 replace Gg4:=(Evt.drew x10 0).b Gg4
 replace Gg6:=(Evt.drew x10 0).b Gg6
 replace Gg7:=(Evt.drew x10 0).b Gg7
 clear hE0_
 refine start_ (n:=4) (S:=fun w'=>w'.heap[g3]? =some (.cells (smC (.slice pA pn pc) fuel (q.1) (.slice uA q.1.trace.length uc) (.slice sA m.seen.length sc)).toArray 167 (0,0))∧w'.heap[g4]? =some (.cells (sfC (q.2) (.slice dA dn dc)).toArray 169 (0,0))∧True) (ds:= [3]) (bb 4 0) zq27 rfl rfl ⟨Gg3.out,Gg4.out,trivial⟩ (fun hHeld=> ?_)
 generalize x10.drew=x11 at HS KP Gg3 Gg4 Gg6 Gg7 hHeld ⊢
 refine take1 0 103 (bb 4 1) (hy:=Or.inl ⟨by rfl,by rintro w' ⟨s0,s1,_⟩;exact lR 3 s0 und_sm size_sm⟩) (hS:=hHeld) (h:= ?_)
 refine take1 1 104 (bb 4 3) (hy:=Or.inl ⟨by rfl,by rintro w' ⟨s0,s1,_⟩;exact lR 4 s1 und_sf size_sf⟩) (hS:=hHeld) (h:= ?_)
 refine on_ 2 none (bb 4 7) (h:=fun K hK=> ?_)
 refine sto Gg6.out size_sm (smC_one ..) (h:= ?_)
 intro x12 hc_ hev
 replace HS:=rs HS hev
 replace KP:=kv KP hev
 replace Gg3:=hev.b' Gg3 (ne_some NE_g3_g6)
 replace Gg4:=hev.b Gg4
 replace Gg6:=Z (hc_)
 replace Gg7:=hev.b Gg7
 clear hc_ hev
 refine hK.out _ _ ⟨Gg3.out,Gg4.out,trivial⟩ (fun hHeld=> ?_)
 clear hK K
 refine la 3 none (bb 4 15) (h:=fun K hK=> ?_)
 refine sto Gg7.out size_sf (sfC_one ..) (h:= ?_)
 intro x13 hc_ hev
 replace HS:=rs HS hev
 replace KP:=kv KP hev
 replace Gg3:=hev.b Gg3
 replace Gg4:=hev.b' Gg4 (ne_some NE_g4_g7)
 replace Gg6:=hev.b Gg6
 replace Gg7:=Z (hc_)
 clear hc_ hev
 refine hK.out _ _ ?_
 clear hK K
 refine done_ zq27 ?_
 go_wp2_with (fail)
 refine bodyPost_ret (results_cc rfl _ _ g6 g7 167 169 (smC (.slice pA pn pc) fuel (q.1) (.slice uA q.1.trace.length uc) (.slice sA m.seen.length sc)).toArray (sfC (q.2) (.slice dA dn dc)).toArray (0,0) (0,0) _ _ rfl Gg6.out und_sm rfl size_sm rfl Gg7.out und_sf rfl size_sf) rfl ?_
 exact⟨_,rfl,HS.out,HNW.out,KP.out⟩
def CallSP(w w':World)(base:Nat)(A0:Value)(fuel:Int)(tv sv:Value)(r:SM×SF)(e:Ending):Prop :=
 ∃ tv' sv' dA dn dc,e= .returned (.tuple #[.agg (smC A0 fuel r.1 tv' sv').toArray,.agg (sfC r.2 (.slice dA dn dc)).toArray])∧SRows w' base r.1 tv' sv'∧New w tv tv'∧New w sv sv'∧KeptS tv sv w w'
def SCallC(W0:World)(A0:Option Addr)(c0:Nat)(p:List (List St))(N fuel:Int)(R d:Nat):Prop :=
 ∀ (w:World) (m:SM) (c:SF) (tv sv:Value),SRows w W0.heap.size m tv sv→Below W0.heap.size W0 w→SMok fuel m→SFok N c→c.defers= []→m.spent=false→c.depth+(d:Int)=9→sroom fuel m 0+2≤90000 →
  Calls Try.prog 233 #[.agg (smC (.slice A0 p.length c0) fuel m tv sv).toArray,.agg (sfC c (.slice none 0 0)).toArray] w fun e w'=>CallSP w w' W0.heap.size (.slice A0 p.length c0) fuel tv sv (callS p fuel R d m c) e
def DRow(w:World)(base:Nat)(dv:Value)(l:List (Int×Int)):Prop:=w.ownsRow base 74 2 dv l.length (l.flatMap prC)
def ApartD(dv sv:Value):Prop:=dv.ownBlock=none∨dv.ownBlock≠sv.ownBlock
def MakeSP(w w':World)(base:Nat)(A0:Value)(fuel:Int)(tv sv:Value)(r:SM×SF×Int)(e:Ending):Prop :=
 ∃ tv' sv' dA dn dc,e= .returned (.tuple #[.agg (smC A0 fuel r.1 tv' sv').toArray,.agg (sfC r.2.1 (.slice dA dn dc)).toArray,.int .i64 r.2.2])∧SRows w' base r.1 tv' sv'∧New w tv tv'∧New w sv sv'∧DRow w' base (.slice dA dn dc) r.2.1.defers∧ApartD (.slice dA dn dc) sv'∧KeptS tv sv w w'
theorem apart_ty {w:World} {b b' e e' s s' n n':Nat} {a a':Value} {xs xs':List Value} (h:w.ownsRow b e s a n xs)(k:w.ownsRow b' e' s' a' n' xs')(he:e≠e'):a.ownBlock=none∨a.ownBlock≠a'.ownBlock:=by
 cases hq:a.ownBlock with
 |none=>exact .inl rfl
 |some q =>
  refine .inr fun e1=>he ?_
  obtain⟨c1,z1,h1⟩:=own_blk h q hq
  obtain⟨c2,z2,h2⟩:=own_blk k q e1.symm
  rw [h1] at h2
  injection h2 with h2
  injection h2 with _ h2
theorem ApartD.new {w:World} {base:Nat} {dv sv sv':Value} {l:List (Int×Int)} (h:ApartD dv sv)(hd:DRow w base dv l)(hn:New w sv sv'):ApartD dv sv':=by
 rcases h with h|h
 ·exact .inl h
 ·rcases hn with hn|⟨b,hn,hb⟩
  ·exact .inr (by rw [hn];exact h)
  ·refine .inr fun e=> ?_
   rw [hn] at e
   have:=own_lt hd b e
   omega
theorem DRow.kept {w w':World} {base:Nat} {m:SM} {tv sv dv:Value} {l:List (Int×Int)} (h:DRow w base dv l)(hs:SRows w base m tv sv)(ha:ApartD dv sv)(k:KeptS tv sv w w'):DRow w' base dv l :=
 k.row h (apart_ty h hs.tr zq83) ha
theorem DRow.ev {w w':World} {base:Nat} {dv:Value} {l:List (Int×Int)} {k:Option Nat} {T:TypeId} (h:DRow w base dv l)(e:Evt w w' k T)(hT:T≠74:=by decide):DRow w' base dv l:=e.row h (fun e=>hT e.symm)
theorem dv {w w':World} {base:Nat} {dv:Value} {l:List (Int×Int)} {k:Option Nat} {T:TypeId} (h:Aside0 (DRow w base dv l))(e:Evt w w' k T)(hT:T≠74:=by decide):Aside0 (DRow w' base dv l):=⟨h.out.ev e hT⟩
theorem KeptS.bel {W0 w w':World} {m:SM} {tv sv:Value} (k:KeptS tv sv w w')(h:Below W0.heap.size W0 w)(hs:SRows w W0.heap.size m tv sv):Below W0.heap.size W0 w':=by
 refine⟨k.os.trans h.os,k.tape.trans h.tape,k.output.trans h.output,Nat.le_trans h.size k.size,fun i hi=> ?_⟩
 have h1:=h.block i hi
 have hlt:i<w.heap.size:=Nat.lt_of_lt_of_le hi h.size
 obtain⟨o,ho⟩: ∃ o,w.heap[i]? =some o:=⟨_,Array.getElem?_eq_getElem hlt⟩
 rw [← h1,ho]
 refine k.blk i o ho (fun e=> ?_) (fun e=> ?_)
 ·rcases hs.tr.2 with⟨e1,_⟩|⟨g,cap,cur,e1,e2,_⟩
  ·rw [e1] at e;simp [Value.ownBlock] at e
  ·rw [e1] at e;simp only [Value.ownBlock,Option.some.injEq] at e;omega
 ·rcases hs.se.2 with⟨e1,_⟩|⟨g,cap,cur,e1,e2,_⟩
  ·rw [e1] at e;simp [Value.ownBlock] at e
  ·rw [e1] at e;simp only [Value.ownBlock,Option.some.injEq] at e;omega
theorem results_cct {P:Program} {fn:Func} {p p' u:Tmp} {ty ty':TypeId} (h:fn.results= #[.cell p ty,.cell p' ty',.tmp u])(tmps:Array Value)(w:World)(g g':Nat)(t t':TypeId)(cs cs':Array Value)(fr fr':Nat×Nat)(d d':TypeDesc)
  (hp:tmps.getD p undef= .pointer (some ⟨g,0,none⟩)) (hg:w.heap[g]? =some (.cells cs t fr))
  (hu:P.underlying ty=some d) (hd:(match d with| .struct _| .array _ _=>true|_=>false)=true) (hi:(P.info? ty).map (·.size)=some cs.size)
  (hp':tmps.getD p' undef= .pointer (some ⟨g',0,none⟩)) (hg':w.heap[g']? =some (.cells cs' t' fr'))
  (hu':P.underlying ty'=some d') (hd':(match d' with| .struct _| .array _ _=>true|_=>false)=true) (hi':(P.info? ty').map (·.size)=some cs'.size) {v:Value} (hv:tmps.getD u undef=v) :
  (results fn tmps).run P w= .ok (.tuple #[.agg cs,.agg cs',v]) w:=by
 have h1:tmps[p]?.getD undef= .pointer (some ⟨g,0,none⟩):=by simpa using hp
 have h2:tmps[p']?.getD undef= .pointer (some ⟨g',0,none⟩):=by simpa using hp'
 have h3:tmps[u]?.getD undef=v:=by simpa using hv
 simp [results,h,h1,h2,h3,asAddr,run_loadVar_row w g t ty cs fr d hg hu hd hi,run_loadVar_row w g' t' ty' cs' fr' d' hg' hu' hd' hi']
section
variable {rec:SM→SF→SM×SF} {m m2:SM} {c i2:SF} {at_:Int} {s:St}
theorem innerS_1(h:rec m ⟨s.f1,c.depth+1,sreg c s.f2,0,0,0,[],0,0,false,false,false,0,false,0⟩=(m2,i2))(k:i2.kind=1):innerS rec m c at_ s=(m2,{ c with r2:=i2.r1 },at_+1):=by
 unfold innerS;rw [h];exact if_pos k
theorem innerS_2(h:rec m ⟨s.f1,c.depth+1,sreg c s.f2,0,0,0,[],0,0,false,false,false,0,false,0⟩=(m2,i2))(k:i2.kind=2):innerS rec m c at_ s=(m2,{ c with kind:=2,value:=i2.value,leaving:=c.leaving||i2.leaving },-1):=by
 unfold innerS;rw [h];exact(if_neg (by rw [k];decide)).trans (if_pos k)
theorem innerS_3(h:rec m ⟨s.f1,c.depth+1,sreg c s.f2,0,0,0,[],0,0,false,false,false,0,false,0⟩=(m2,i2))(k:i2.kind=3):innerS rec m c at_ s=(m2,{ c with kind:=3,leaving:=c.leaving||i2.leaving },-1):=by
 unfold innerS;rw [h];exact(if_neg (by rw [k];decide)).trans ((if_neg (by rw [k];decide)).trans (if_pos k))
theorem innerS_0(h:rec m ⟨s.f1,c.depth+1,sreg c s.f2,0,0,0,[],0,0,false,false,false,0,false,0⟩=(m2,i2))(k:i2.kind=0):innerS rec m c at_ s=(m2,{ c with leaving:=c.leaving||i2.leaving },-1):=by
 unfold innerS;rw [h];exact(if_neg (by rw [k];decide)).trans ((if_neg (by rw [k];decide)).trans (if_neg (by rw [k];decide)))
end
theorem l2Inner.calls(W0:World)(A0:Option Addr)(c0:Nat)(p:List (List St))(N fuel:Int)(R d:Nat)(hp:ProgOk N p)(hC:SCallC W0 A0 c0 p N fuel R d)(w:World)(m:SM)(c:SF)(tv sv:Value)(dA:Option Addr)(dn dc:Nat)(H:SRows w W0.heap.size m tv sv)(D:DRow w W0.heap.size (.slice dA dn dc) c.defers)(DA:ApartD (.slice dA dn dc) sv)(hbel:Below W0.heap.size W0 w)
  (hm:SMok fuel m) (hc:SFok N c) (hsp:m.spent=false) (hd:d≤8) (hdep:c.depth+(d:Int)=8) (hroom:sroom fuel m 0+2≤90000) (at_:Int) (hat: -1000≤at_∧at_≤1000) (f:Int) (hf:0≤f∧f<N) (b:Nat) (hb4:b<4) :
  Calls Try.prog 296 #[.agg (smC (.slice A0 p.length c0) fuel m tv sv).toArray,.agg (sfC c (.slice dA dn dc)).toArray,.int .i64 at_,.agg #[.int .i64 4,.int .i64 f,.int .i64 (b:Int)]] w fun e w'=>MakeSP w w' W0.heap.size (.slice A0 p.length c0) fuel tv sv (innerS (callS p fuel R d) m c at_ ⟨4,f,(b:Int)⟩) e:=by
 have ck:=(callS_ok (N:=N) (fuel:=fuel) hp R d m ⟨f,c.depth+1,sreg c b,0,0,0,[],0,0,false,false,false,0,false,0⟩ hm (SFok.start hf (hc.reg _) _ _ num0 num0) rfl).oc.ki
 rcases hr:callS p fuel R d m ⟨f,c.depth+1,sreg c b,0,0,0,[],0,0,false,false,false,0,false,0⟩ with⟨m2,i2⟩
 rw [hr] at ck
 have ck:0≤i2.kind∧i2.kind≤3:=ck
 obtain⟨q,hq⟩: ∃ q,q=innerS (callS p fuel R d) m c at_ ⟨4,f,(b:Int)⟩:=⟨_,rfl⟩
 rw [← hq]
 obtain⟨k',hk'⟩: ∃ k',k'=(if i2.kind=2 then 2 else if i2.kind=3 then 3 else c.kind):=⟨_,rfl⟩
 obtain⟨v',hv'⟩: ∃ v',v'=(if i2.kind=2 then i2.value else c.value):=⟨_,rfl⟩
 obtain⟨lv,hlv⟩: ∃ lv,lv=(c.leaving||i2.leaving):=⟨_,rfl⟩
 have HQ1:=Z (fun h:i2.kind=1=>hq.trans (innerS_1 (s:=⟨4,f,(b:Int)⟩) hr h))
 have HQ2:Aside0 (i2.kind≠1→q=(m2,{ c with kind:=k',value:=v',leaving:=lv },-1)):=⟨fun hn=>by
  rw [hq,hk',hv',hlv]
  rcases(zq90:i2.kind=0∨i2.kind=2∨i2.kind=3) with h|h|h
  ·rw [innerS_0 (s:=⟨4,f,(b:Int)⟩) hr h,h];rfl
  ·rw [innerS_2 (s:=⟨4,f,(b:Int)⟩) hr h,h];rfl
  ·rw [innerS_3 (s:=⟨4,f,(b:Int)⟩) hr h,h];rfl⟩
 have HKK:=am hk'
 have HVV:=am hv'
 have HLV:=am hlv
 have HCK:=am ck
 clear hq hk' hv' hlv ck
 obtain⟨tA,tc,htv⟩:=own_slice H.tr
 obtain⟨sA,sc,hsv⟩:=own_slice H.se
 subst htv
 subst hsv
 have HT0:=Z (own_lt H.tr)
 have HV0:=Z (own_lt H.se)
 have H0:=am H
 have HS:=am H
 have HD:=am D
 have HDA:=am DA
 have KP:=Z (KeptS.refl (.slice tA m.trace.length tc) (.slice sA m.seen.length sc) w)
 have HB:=am hbel
 have HM:=am hm
 have HF:=am hc
 clear H D DA hbel hm hc
 have hb4i:(b:Int)<4:=by omega
 have hwd:wrap64 (c.depth+1)=c.depth+1:=IntWalk.wrap64_in _ ⟨zq90,zq90⟩
 have hwa:wrap64 (at_+1)=at_+1:=IntWalk.wrap64_in _ ⟨zq90,zq90⟩
 have HW:=am hwd
 have HAT:=am hwa
 have HR:=am hr
 have HC:=am hC
 have HRM:=am hroom
 have HSP:=am hsp
 have HDP:=am hdep
 have HFF:=am hf
 clear hwd hwa hr hC hroom hsp hdep hf hat
 go_enter Try.func296,Try.ntmps296
 go_upto_region 2 with(first|(refine bx 4 (smC (.slice A0 p.length c0) fuel (m) (.slice tA m.trace.length tc) (.slice sA m.seen.length sc)).toArray 167 (h:= ?_);intro g4 hg_ x1 hbox hbel;have Lg4:=lg hg_ KP.out.size;have hE_:=Evt.below hbel 0;replace HS:=rs HS hE_;replace KP:=kv KP hE_;replace HD:=dv HD hE_;have Gg4:=am hbox;clear hbel hbox hg_ hE_)|(refine bx 5 (sfC (c) (.slice dA dn dc)).toArray 169 (h:= ?_);intro g5 hg_ x2 hbox hbel;have Lg5:=lg hg_ KP.out.size;have hE_:=Evt.below hbel 0;replace HS:=rs HS hE_;replace KP:=kv KP hE_;replace HD:=dv HD hE_;replace Gg4:=hE_.b Gg4;have Gg5:=am hbox;clear hbel hbox hg_ hE_)|(refine bx 7 #[.int .i64 4,.int .i64 f,.int .i64 (b:Int)] 219 (h:= ?_);intro g7 hg_ x3 hbox hbel;have Lg7:=lg hg_ KP.out.size;have hE_:=Evt.below hbel 0;replace HS:=rs HS hE_;replace KP:=kv KP hE_;replace HD:=dv HD hE_;replace Gg4:=hE_.b Gg4;replace Gg5:=hE_.b Gg5;have Gg7:=am hbox;clear hbel hbox hg_ hE_)|(refine bx 8 zsm 167 (h:= ?_);intro g8 hg_ x4 hbox hbel;have Lg8:=lg hg_ KP.out.size;have NE_g4_g8:=nel hg_ Gg4.out;have hE_:=Evt.below hbel 0;replace HS:=rs HS hE_;replace KP:=kv KP hE_;replace HD:=dv HD hE_;replace Gg4:=hE_.b Gg4;replace Gg5:=hE_.b Gg5;replace Gg7:=hE_.b Gg7;have Gg8:=am hbox;clear hbel hbox hg_ hE_)|(refine bx 9 zsf 169 (h:= ?_);intro g9 hg_ x5 hbox hbel;have Lg9:=lg hg_ KP.out.size;have NE_g5_g9:=nel hg_ Gg5.out;have hE_:=Evt.below hbel 0;replace HS:=rs HS hE_;replace KP:=kv KP hE_;replace HD:=dv HD hE_;replace Gg4:=hE_.b Gg4;replace Gg5:=hE_.b Gg5;replace Gg7:=hE_.b Gg7;replace Gg8:=hE_.b Gg8;have Gg9:=am hbox;clear hbel hbox hg_ hE_;have p2:x5.cell? ⟨g7,2,none⟩=some (.int .i64 (b:Int)):=(blk_cell Gg7.out (2)).trans (rfl);have qb:x5.cell? ⟨g5,2+b,none⟩=some (.int .i64 (sreg c b)):=(blk_cell Gg5.out (2+b)).trans (sfC_reg c (.slice dA dn dc) b hb4);have p1:x5.cell? ⟨g7,1,none⟩=some (.int .i64 f):=(blk_cell Gg7.out (1)).trans (rfl);have qd:x5.cell? ⟨g5,1,none⟩=some (.int .i64 c.depth):=(blk_cell Gg5.out (1)).trans (rfl)))
 go_upto_region 3 with(first|(refine lr 19 Gg4.out und_sm size_sm (h:= ?_)))
 refine(show Calls Try.prog 233 #[.agg (smC (.slice A0 p.length c0) fuel (m) (.slice tA m.trace.length tc) (.slice sA m.seen.length sc)).toArray,.agg (sfC ⟨f,wrap64 (c.depth+1),sreg c b,0,0,0,[],0,0,false,false,false,0,false,0⟩ (.slice none 0 0)).toArray] x5 (fun e w'=>CallSP x5 w' W0.heap.size (.slice A0 p.length c0) fuel (.slice tA m.trace.length tc) (.slice sA m.seen.length sc) (m2,i2) e) from by
  rw [HW.out,←HR.out]
  exact HC.out x5 m ⟨f,c.depth+1,sreg c b,0,0,0,[],0,0,false,false,false,0,false,0⟩ (.slice tA m.trace.length tc) (.slice sA m.seen.length sc) HS.out (KP.out.bel HB.out H0.out) HM.out (SFok.start HFF.out (HF.out.reg _) _ _ num0 num0) rfl HSP.out (by have:=HDP.out;show c.depth+1+(d:Int)=9;omega) HRM.out).mono ?_
 rintro e wz ⟨tv2,sv2,eA,en,ec,rfl,hS2,hT2,hV2,hK2⟩
 have HNT:=Z (New.trans (New.refl w (.slice tA m.trace.length tc)) hT2 KP.out.size)
 have HNV:=Z (New.trans (New.refl w (.slice sA m.seen.length sc)) hV2 KP.out.size)
 have HAP:=Z (HDA.out.new HD.out hV2)
 clear p1 p2 qb qd Gg7
 replace HD:=Z (HD.out.kept HS.out HDA.out hK2)
 replace HS:=Z (hS2)
 replace KP:=Z (KP.out.trans hK2 (New.refl _ _) (New.refl _ _))
 replace Gg4:=Z (hK2.blk _ _ Gg4.out (free_tv HT0.out Lg4) (free_tv HV0.out Lg4))
 replace Gg5:=Z (hK2.blk _ _ Gg5.out (free_tv HT0.out Lg5) (free_tv HV0.out Lg5))
 replace Gg8:=Z (hK2.blk _ _ Gg8.out (free_tv HT0.out Lg8) (free_tv HV0.out Lg8))
 replace Gg9:=Z (hK2.blk _ _ Gg9.out (free_tv HT0.out Lg9) (free_tv HV0.out Lg9))
 clear hS2 hT2 hV2 hK2
 obtain⟨uA,uc,hu⟩:=own_slice HS.out.tr
 obtain⟨vA,vc,hv⟩:=own_slice HS.out.se
 subst hu
 subst hv
 go_upto_region 3 with(first|(refine bx 12 zsf 169 (h:= ?_);intro g12 hg_ x6 hbox hbel;have Lg12:=lg hg_ KP.out.size;have NE_g5_g12:=nel hg_ Gg5.out;have NE_g9_g12:=nel hg_ Gg9.out;have hE_:=Evt.below hbel 0;replace HS:=rs HS hE_;replace KP:=kv KP hE_;replace HD:=dv HD hE_;replace Gg4:=hE_.b Gg4;replace Gg5:=hE_.b Gg5;replace Gg8:=hE_.b Gg8;replace Gg9:=hE_.b Gg9;have Gg12:=am hbox;clear hbel hbox hg_ hE_)|(refine ag 4 (smC (.slice A0 p.length c0) fuel (m2) (.slice uA m2.trace.length uc) (.slice vA m2.seen.length vc)).toArray Gg4.out size_sm (h:= ?_);intro x7 hbox hev;replace HS:=rs HS hev;replace KP:=kv KP hev;replace HD:=dv HD hev;replace Gg5:=hev.b Gg5;replace Gg8:=hev.b' Gg8 (ne_some' NE_g4_g8);replace Gg9:=hev.b Gg9;replace Gg12:=hev.b Gg12;clear Gg4;have Gg4:=am hbox;clear hbox hev)|(refine ag 12 (sfC (i2) (.slice eA en ec)).toArray Gg12.out size_sf (h:= ?_);intro x8 hbox hev;replace HS:=rs HS hev;replace KP:=kv KP hev;replace HD:=dv HD hev;replace Gg4:=hev.b Gg4;replace Gg5:=hev.b' Gg5 (ne_some NE_g5_g12);replace Gg8:=hev.b Gg8;replace Gg9:=hev.b' Gg9 (ne_some NE_g9_g12);clear Gg12;have Gg12:=am hbox;clear hbox hev;))
 by_cases hk1:i2.kind=1
 ·skip
  have qk:x8.cell? ⟨g12,7,none⟩=some (.int .i64 1):=(blk_cell Gg12.out (7)).trans (by rw [← hk1];rfl);have q1:x8.cell? ⟨g12,3,none⟩=some (.int .i64 i2.r1):=(blk_cell Gg12.out (3)).trans (rfl);have q2:x8.cell? ⟨g5,4,none⟩=some (.int .i64 c.r2):=(blk_cell Gg5.out (4)).trans (rfl);have zq2:=blk_frozen Gg5.out (4)
  go_upto_region 6 with(fail)
  clear qk q1 q2 zq2
  have hev:=Evt.set Gg5.out (4) (.int .i64 i2.r1)
  replace HS:=rs HS hev
  replace KP:=kv KP hev
  replace HD:=dv HD hev
  replace Gg4:=hev.b Gg4
  replace Gg5:=Z ((blk_set Gg5.out (4) (.int .i64 i2.r1)).trans (show _=some (Obj.cells (sfC ({ c with r2:=i2.r1 }) (.slice dA dn dc)).toArray 169 (0,0)) from rfl))
  replace Gg8:=hev.b Gg8
  replace Gg9:=hev.b' Gg9 (ne_some' NE_g5_g9)
  replace Gg12:=hev.b' Gg12 (ne_some' NE_g5_g12)
  clear hev
  generalize x8.setCell ⟨g5,4,none⟩ (.int .i64 i2.r1)=x9 at HS KP HD Gg4 Gg5 Gg8 Gg9 Gg12 ⊢
  have hE0_:=Evt.drew x9 292
  replace HS:=Z (HS.out.ev (Evt.drew x9 0))
  replace KP:=Z (KP.out.ev (Evt.drew x9 0) (fun q e=>zq121))
  replace HD:=Z (HD.out.ev (Evt.drew x9 0))
  replace Gg4:=(Evt.drew x9 0).b Gg4
  replace Gg5:=(Evt.drew x9 0).b Gg5
  replace Gg8:=(Evt.drew x9 0).b Gg8
  replace Gg9:=(Evt.drew x9 0).b Gg9
  replace Gg12:=(Evt.drew x9 0).b Gg12
  clear hE0_
  refine start_ (n:=7) (S:=fun w'=>w'.heap[g4]? =some (.cells (smC (.slice A0 p.length c0) fuel (m2) (.slice uA m2.trace.length uc) (.slice vA m2.seen.length vc)).toArray 167 (0,0))∧w'.heap[g5]? =some (.cells (sfC ({ c with r2:=i2.r1 }) (.slice dA dn dc)).toArray 169 (0,0))∧True) (ds:= [5]) (bb 7 0) zq27 rfl rfl ⟨Gg4.out,Gg5.out,trivial⟩ (fun hHeld=> ?_)
  generalize x9.drew=x10 at HS KP HD Gg4 Gg5 Gg8 Gg9 Gg12 hHeld ⊢
  refine take1 0 40 (bb 7 1) (hy:=Or.inl ⟨by rfl,zq99⟩) (hS:=hHeld) (h:= ?_)
  refine take1 1 41 (bb 7 3) (hy:=Or.inl ⟨by rfl,zq100⟩) (hS:=hHeld) (h:= ?_)
  refine pure1 2 42 (bb 7 7) (h:= ?_)
  refine pure1 3 43 (bb 7 15) (h:= ?_)
  refine on_ 4 none (bb 7 31) (h:=fun K hK=> ?_)
  refine sto Gg8.out size_sm (smC_one ..) (h:= ?_)
  intro x11 hc_ hev
  replace HS:=rs HS hev
  replace KP:=kv KP hev
  replace HD:=dv HD hev
  replace Gg4:=hev.b' Gg4 (ne_some NE_g4_g8)
  replace Gg5:=hev.b Gg5
  replace Gg8:=Z (hc_)
  replace Gg9:=hev.b Gg9
  replace Gg12:=hev.b Gg12
  clear hc_ hev
  refine hK.out _ _ ⟨Gg4.out,Gg5.out,trivial⟩ (fun hHeld=> ?_)
  clear hK K
  refine la 5 none (bb 7 63) (h:=fun K hK=> ?_)
  refine sto Gg9.out size_sf (sfC_one ..) (h:= ?_)
  intro x12 hc_ hev
  replace HS:=rs HS hev
  replace KP:=kv KP hev
  replace HD:=dv HD hev
  replace Gg4:=hev.b Gg4
  replace Gg5:=hev.b' Gg5 (ne_some NE_g5_g9)
  replace Gg8:=hev.b Gg8
  replace Gg9:=Z (hc_)
  replace Gg12:=hev.b' Gg12 (ne_some' NE_g9_g12)
  clear hc_ hev
  refine hK.out _ _ ?_
  clear hK K
  refine pure1 6 10 (bb 7 127) (h:= ?_)
  refine done_ zq27 ?_
  go_wp2_with (fail)
  refine bodyPost_ret (results_cct rfl _ _ g8 g9 167 169 (smC (.slice A0 p.length c0) fuel (m2) (.slice uA m2.trace.length uc) (.slice vA m2.seen.length vc)).toArray (sfC ({ c with r2:=i2.r1 }) (.slice dA dn dc)).toArray (0,0) (0,0) _ _ rfl Gg8.out und_sm rfl size_sm rfl Gg9.out und_sf rfl size_sf rfl) rfl ?_
  rw [HQ1.out hk1]
  exact⟨_,_,_,_,_,by rw [HAT.out];rfl,HS.out,HNT.out,HNV.out,HD.out,HAP.out,KP.out⟩
 have qk:x8.cell? ⟨g12,7,none⟩=some (.int .i64 i2.kind):=(blk_cell Gg12.out (7)).trans (rfl)
 go_upto_block 0 with(fail)
 clear qk
 skip
 go_cut [] from 13 (fun wc=>Aside0 (SRows wc W0.heap.size m2 (.slice uA m2.trace.length uc) (.slice vA m2.seen.length vc))∧Aside0 (KeptS (.slice tA m.trace.length tc) (.slice sA m.seen.length sc) w wc)∧Aside0 (DRow wc W0.heap.size (.slice dA dn dc) c.defers)∧Aside0 (wc.heap[g4]? =some (.cells (smC (.slice A0 p.length c0) fuel (m2) (.slice uA m2.trace.length uc) (.slice vA m2.seen.length vc)).toArray 167 (0,0)))∧Aside0 (wc.heap[g5]? =some (.cells (sfC ({ c with kind:=k',value:=v' }) (.slice dA dn dc)).toArray 169 (0,0)))∧Aside0 (wc.heap[g8]? =some (.cells zsm 167 (0,0)))∧Aside0 (wc.heap[g9]? =some (.cells zsf 169 (0,0)))∧Aside0 (wc.heap[g12]? =some (.cells (sfC (i2) (.slice eA en ec)).toArray 169 (0,0))))
 case first =>
  rcases(by have:=HCK.out;omega:i2.kind=0∨i2.kind=2∨i2.kind=3) with hk|hk|hk
  ·skip
   rw [hk]
   go_wp2_with (fail)
   replace Gg5:=Z (show x8.heap[g5]? =some (.cells (sfC ({ c with kind:=k',value:=v' }) (.slice dA dn dc)).toArray 169 (0,0)) from by rw [Gg5.out,show k'=c.kind from by rw [HKK.out,hk];rfl,show v'=c.value from by rw [HVV.out,hk];rfl])
   go_meet
   case rel=>exact⟨HS,KP,HD,Gg4,Gg5,Gg8,Gg9,Gg12⟩
  ·skip
   rw [hk]
   have qn:x8.cell? ⟨g5,7,none⟩=some (.int .i64 c.kind):=(blk_cell Gg5.out (7)).trans (rfl);have zqn:=blk_frozen Gg5.out (7)
   go_upto_region 9 with(fail)
   clear qn zqn
   have hev:=Evt.set Gg5.out (7) (.int .i64 2)
   replace HS:=rs HS hev
   replace KP:=kv KP hev
   replace HD:=dv HD hev
   replace Gg4:=hev.b Gg4
   replace Gg5:=Z ((blk_set Gg5.out (7) (.int .i64 2)).trans (show _=some (Obj.cells (sfC ({ c with kind:=2 }) (.slice dA dn dc)).toArray 169 (0,0)) from rfl))
   replace Gg8:=hev.b Gg8
   replace Gg9:=hev.b' Gg9 (ne_some' NE_g5_g9)
   replace Gg12:=hev.b' Gg12 (ne_some' NE_g5_g12)
   clear hev
   generalize x8.setCell ⟨g5,7,none⟩ (.int .i64 2)=x9 at HS KP HD Gg4 Gg5 Gg8 Gg9 Gg12 ⊢
   have qv:x9.cell? ⟨g5,8,none⟩=some (.int .i64 c.value):=(blk_cell Gg5.out (8)).trans (rfl);have zqv:=blk_frozen Gg5.out (8);have qw:x9.cell? ⟨g12,8,none⟩=some (.int .i64 i2.value):=(blk_cell Gg12.out (8)).trans (rfl)
   go_wp2_with (fail)
   clear qv zqv qw
   have hev:=Evt.set Gg5.out (8) (.int .i64 i2.value)
   replace HS:=rs HS hev
   replace KP:=kv KP hev
   replace HD:=dv HD hev
   replace Gg4:=hev.b Gg4
   replace Gg5:=Z ((blk_set Gg5.out (8) (.int .i64 i2.value)).trans (show _=some (Obj.cells (sfC ({ c with kind:=2,value:=i2.value }) (.slice dA dn dc)).toArray 169 (0,0)) from rfl))
   replace Gg8:=hev.b Gg8
   replace Gg9:=hev.b' Gg9 (ne_some' NE_g5_g9)
   replace Gg12:=hev.b' Gg12 (ne_some' NE_g5_g12)
   clear hev
   generalize x9.setCell ⟨g5,8,none⟩ (.int .i64 i2.value)=x10 at HS KP HD Gg4 Gg5 Gg8 Gg9 Gg12 ⊢
   replace Gg5:=Z (show x10.heap[g5]? =some (.cells (sfC ({ c with kind:=k',value:=v' }) (.slice dA dn dc)).toArray 169 (0,0)) from by rw [Gg5.out,show k'=2 from by rw [HKK.out,hk];rfl,show v'=i2.value from by rw [HVV.out,hk];rfl])
   go_meet
   case rel=>exact⟨HS,KP,HD,Gg4,Gg5,Gg8,Gg9,Gg12⟩
  ·skip
   rw [hk]
   have qn:x8.cell? ⟨g5,7,none⟩=some (.int .i64 c.kind):=(blk_cell Gg5.out (7)).trans (rfl);have zqn:=blk_frozen Gg5.out (7)
   go_wp2_with (fail)
   clear qn zqn
   have hev:=Evt.set Gg5.out (7) (.int .i64 3)
   replace HS:=rs HS hev
   replace KP:=kv KP hev
   replace HD:=dv HD hev
   replace Gg4:=hev.b Gg4
   replace Gg5:=Z ((blk_set Gg5.out (7) (.int .i64 3)).trans (show _=some (Obj.cells (sfC ({ c with kind:=3 }) (.slice dA dn dc)).toArray 169 (0,0)) from rfl))
   replace Gg8:=hev.b Gg8
   replace Gg9:=hev.b' Gg9 (ne_some' NE_g5_g9)
   replace Gg12:=hev.b' Gg12 (ne_some' NE_g5_g12)
   clear hev
   generalize x8.setCell ⟨g5,7,none⟩ (.int .i64 3)=x9 at HS KP HD Gg4 Gg5 Gg8 Gg9 Gg12 ⊢
   replace Gg5:=Z (show x9.heap[g5]? =some (.cells (sfC ({ c with kind:=k',value:=v' }) (.slice dA dn dc)).toArray 169 (0,0)) from by rw [Gg5.out,show k'=3 from by rw [HKK.out,hk];rfl,show v'=c.value from by rw [HVV.out,hk];rfl])
   go_meet
   case rel=>exact⟨HS,KP,HD,Gg4,Gg5,Gg8,Gg9,Gg12⟩
 clear HS KP HD Gg4 Gg5 Gg8 Gg9 Gg12
 obtain⟨HS,KP,HD,Gg4,Gg5,Gg8,Gg9,Gg12⟩:=hcut
 generalize wc=x11 at HS KP HD Gg4 Gg5 Gg8 Gg9 Gg12 ⊢
 go_upto_region 12 with(fail)
 go_cut [] from 13 (fun wc=>Aside0 (SRows wc W0.heap.size m2 (.slice uA m2.trace.length uc) (.slice vA m2.seen.length vc))∧Aside0 (KeptS (.slice tA m.trace.length tc) (.slice sA m.seen.length sc) w wc)∧Aside0 (DRow wc W0.heap.size (.slice dA dn dc) c.defers)∧Aside0 (wc.heap[g4]? =some (.cells (smC (.slice A0 p.length c0) fuel (m2) (.slice uA m2.trace.length uc) (.slice vA m2.seen.length vc)).toArray 167 (0,0)))∧Aside0 (wc.heap[g5]? =some (.cells (sfC ({ c with kind:=k',value:=v',leaving:=lv }) (.slice dA dn dc)).toArray 169 (0,0)))∧Aside0 (wc.heap[g8]? =some (.cells zsm 167 (0,0)))∧Aside0 (wc.heap[g9]? =some (.cells zsf 169 (0,0)))∧Aside0 (wc.heap[g12]? =some (.cells (sfC (i2) (.slice eA en ec)).toArray 169 (0,0))))
 case first =>
  rcases Bool.eq_false_or_eq_true c.leaving with hl|hl
  ·skip
   have ql:x11.cell? ⟨g5,9,none⟩=some (.bool true):=(blk_cell Gg5.out (9)).trans (by rw [← hl];rfl);have zql:=blk_frozen Gg5.out (9);have qm:x11.cell? ⟨g12,9,none⟩=some (.bool i2.leaving):=(blk_cell Gg12.out (9)).trans (rfl)
   go_wp2_with (fail)
   clear ql zql qm
   have hev:=Evt.set Gg5.out (9) (.bool true)
   replace HS:=rs HS hev
   replace KP:=kv KP hev
   replace HD:=dv HD hev
   replace Gg4:=hev.b Gg4
   replace Gg5:=Z ((blk_set Gg5.out 9 (.bool true)).trans (show _=some (Obj.cells (sfC ({ c with kind:=k',value:=v',leaving:=lv }) (.slice dA dn dc)).toArray 169 (0,0)) from by rw [HLV.out,hl];rfl))
   replace Gg8:=hev.b Gg8
   replace Gg9:=hev.b' Gg9 (ne_some' NE_g5_g9)
   replace Gg12:=hev.b' Gg12 (ne_some' NE_g5_g12)
   clear hev
   generalize x11.setCell ⟨g5,9,none⟩ (.bool true)=x12 at HS KP HD Gg4 Gg5 Gg8 Gg9 Gg12 ⊢
   go_meet
   case rel=>exact⟨HS,KP,HD,Gg4,Gg5,Gg8,Gg9,Gg12⟩
  ·skip
   have ql:x11.cell? ⟨g5,9,none⟩=some (.bool false):=(blk_cell Gg5.out (9)).trans (by rw [← hl];rfl);have zql:=blk_frozen Gg5.out (9);have qm:x11.cell? ⟨g12,9,none⟩=some (.bool i2.leaving):=(blk_cell Gg12.out (9)).trans (rfl)
   go_wp2_with (fail)
   clear ql zql qm
   have hev:=Evt.set Gg5.out (9) (.bool i2.leaving)
   replace HS:=rs HS hev
   replace KP:=kv KP hev
   replace HD:=dv HD hev
   replace Gg4:=hev.b Gg4
   replace Gg5:=Z ((blk_set Gg5.out 9 (.bool i2.leaving)).trans (show _=some (Obj.cells (sfC ({ c with kind:=k',value:=v',leaving:=lv }) (.slice dA dn dc)).toArray 169 (0,0)) from by rw [HLV.out,hl];rfl))
   replace Gg8:=hev.b Gg8
   replace Gg9:=hev.b' Gg9 (ne_some' NE_g5_g9)
   replace Gg12:=hev.b' Gg12 (ne_some' NE_g5_g12)
   clear hev
   generalize x11.setCell ⟨g5,9,none⟩ (.bool i2.leaving)=x12 at HS KP HD Gg4 Gg5 Gg8 Gg9 Gg12 ⊢
   go_meet
   case rel=>exact⟨HS,KP,HD,Gg4,Gg5,Gg8,Gg9,Gg12⟩
 clear HS KP HD Gg4 Gg5 Gg8 Gg9 Gg12
 obtain⟨HS,KP,HD,Gg4,Gg5,Gg8,Gg9,Gg12⟩:=hcut
 generalize wc=x13 at HS KP HD Gg4 Gg5 Gg8 Gg9 Gg12 ⊢
 go_upto_region 13 with(fail)
 have hE0_:=Evt.drew x13 292
 replace HS:=Z (HS.out.ev (Evt.drew x13 0))
 replace KP:=Z (KP.out.ev (Evt.drew x13 0) (fun q e=>zq121))
 replace HD:=Z (HD.out.ev (Evt.drew x13 0))
 replace Gg4:=(Evt.drew x13 0).b Gg4
 replace Gg5:=(Evt.drew x13 0).b Gg5
 replace Gg8:=(Evt.drew x13 0).b Gg8
 replace Gg9:=(Evt.drew x13 0).b Gg9
 replace Gg12:=(Evt.drew x13 0).b Gg12
 clear hE0_
 refine start_ (n:=5) (S:=fun w'=>w'.heap[g4]? =some (.cells (smC (.slice A0 p.length c0) fuel (m2) (.slice uA m2.trace.length uc) (.slice vA m2.seen.length vc)).toArray 167 (0,0))∧w'.heap[g5]? =some (.cells (sfC ({ c with kind:=k',value:=v',leaving:=lv }) (.slice dA dn dc)).toArray 169 (0,0))∧True) (ds:= [3]) (bb 5 0) zq27 rfl rfl ⟨Gg4.out,Gg5.out,trivial⟩ (fun hHeld=> ?_)
 generalize x13.drew=x14 at HS KP HD Gg4 Gg5 Gg8 Gg9 Gg12 hHeld ⊢
 refine take1 0 60 (bb 5 1) (hy:=Or.inl ⟨by rfl,zq99⟩) (hS:=hHeld) (h:= ?_)
 refine take1 1 61 (bb 5 3) (hy:=Or.inl ⟨by rfl,zq100⟩) (hS:=hHeld) (h:= ?_)
 refine on_ 2 none (bb 5 7) (h:=fun K hK=> ?_)
 refine sto Gg8.out size_sm (smC_one ..) (h:= ?_)
 intro x15 hc_ hev
 replace HS:=rs HS hev
 replace KP:=kv KP hev
 replace HD:=dv HD hev
 replace Gg4:=hev.b' Gg4 (ne_some NE_g4_g8)
 replace Gg5:=hev.b Gg5
 replace Gg8:=Z (hc_)
 replace Gg9:=hev.b Gg9
 replace Gg12:=hev.b Gg12
 clear hc_ hev
 refine hK.out _ _ ⟨Gg4.out,Gg5.out,trivial⟩ (fun hHeld=> ?_)
 clear hK K
 refine la 3 none (bb 5 15) (h:=fun K hK=> ?_)
 refine sto Gg9.out size_sf (sfC_one ..) (h:= ?_)
 intro x16 hc_ hev
 replace HS:=rs HS hev
 replace KP:=kv KP hev
 replace HD:=dv HD hev
 replace Gg4:=hev.b Gg4
 replace Gg5:=hev.b' Gg5 (ne_some NE_g5_g9)
 replace Gg8:=hev.b Gg8
 replace Gg9:=Z (hc_)
 replace Gg12:=hev.b' Gg12 (ne_some' NE_g9_g12)
 clear hc_ hev
 refine hK.out _ _ ?_
 clear hK K
 refine pure1 4 10 (bb 5 31) (h:= ?_)
 refine done_ zq27 ?_
 go_wp2_with (fail)
 refine bodyPost_ret (results_cct rfl _ _ g8 g9 167 169 (smC (.slice A0 p.length c0) fuel (m2) (.slice uA m2.trace.length uc) (.slice vA m2.seen.length vc)).toArray (sfC ({ c with kind:=k',value:=v',leaving:=lv }) (.slice dA dn dc)).toArray (0,0) (0,0) _ _ rfl Gg8.out und_sm rfl size_sm rfl Gg9.out und_sf rfl size_sf rfl) rfl ?_
 rw [HQ2.out hk1]
 exact⟨_,_,_,_,_,rfl,HS.out,HNT.out,HNV.out,HD.out,HAP.out,KP.out⟩
theorem und_pr:Try.prog.underlying 70=some (.slice 74):=by kernel_rfl
theorem info_pr:(Try.prog.info? 74).map (fun i=>(i.zero,i.size,i.bytes))=some (some (.agg #[.int .i64 0,.int .i64 0]),2,16):=by kernel_rfl
theorem prC_one(l:List (Int×Int)): ∀ u∈l.flatMap prC,u.oneCell'=true:=by
 intro u hu
 obtain⟨x,_,hx⟩:=List.mem_flatMap.1 hu
 simp [prC] at hx
 rcases hx with rfl|rfl<;>rfl
theorem app_all {W:World} {base g0:Nat} {dv:Value} {l:List (Int×Int)} (h0:W.heap[g0]? =some (.cells #[] 74 (0,0)))(hg:base≤g0)(hd:DRow W base dv l)(hl:l.length≤100000)(hb:base≤W.heap.size) :
  ∃ t W',(Builtin.append_ #[70,70] 70 #[.slice (some ⟨g0,0,none⟩) 0 0,dv]).run Try.prog W= .ok t W'∧DRow W' base t l∧Evt W W' (some g0) 74∧(t.ownBlock=some g0∨t.ownBlock=some W.heap.size):=by
 obtain⟨i0,hi,hzz⟩:=Option.map_eq_some_iff.1 info_pr
 simp only [Prod.mk.injEq] at hzz
 obtain⟨hz0,hz1,hz2⟩:=hzz
 have hown:W.ownsRow base 74 2 (.slice (some ⟨g0,0,none⟩) 0 0) 0 []:=⟨rfl,.inr ⟨g0,0,#[],rfl,hg,h0,Nat.le_refl _,Nat.zero_le _,rfl,rfl⟩⟩
 rcases hd.2 with⟨rfl,hl0⟩|⟨g,cap,cur,rfl,h1,h2,h3,h4,h5,h6⟩
 ·have hl1:l= []:=List.eq_nil_of_length_eq_zero hl0
  subst hl1
  refine⟨.slice (some ⟨g0,0,none⟩) 0 0,W,?_,hown,⟨⟨rfl,rfl,rfl,Nat.le_refl _,fun _ _ _=>rfl⟩,fun q e=>by injection e with e;subst e;exact⟨_,_,h0⟩⟩,.inl rfl⟩
  simp [Builtin.append_,run_underlying und_pr,sizeOf,typeInfo,hi,Builtin.lenOf,Builtin.firstCells,storeCells]
 ·obtain⟨v',W',r1,r2,r3,_,r5⟩:=run_append_own_at (P:=Try.prog) W base 70 70 74 i0 _ 2 16 und_pr hi hz0 hz1 hz2 rfl zq83 (.slice (some ⟨g0,0,none⟩) 0 0) 0 [] hown ⟨g,0,none⟩ l.length cap (l.flatMap prC) hd.1
   (fun j u hu=>by rw [add_plain,cells_at h2];rw [← h6,List.getElem?_take] at hu;split at hu;exact hu;cases hu) (prC_one l) (by simp only [maxLen];omega) zq90 hb
  refine⟨v',W',r1,?_,Evt.own hown r3,r5⟩
  rw [Nat.zero_add,List.nil_append] at r2
  exact r2
theorem app_pr {W:World} {base:Nat} {rv:Value} {l:List (Int×Int)} (hr:DRow W base rv l)(gA c:Nat)(x:Int×Int)(hA:W.heap[gA]? =some (.cells (prC x).toArray 74 (0,0)))(hn:l.length≤100000)(hb:base≤W.heap.size) :
  ∃ t W',(Builtin.append_ #[70,70] 70 #[rv,.slice (some ⟨gA,0,none⟩) 1 c]).run Try.prog W= .ok t W'∧DRow W' base t (l++ [x])∧Evt W W' rv.ownBlock 74∧(t.ownBlock=rv.ownBlock∨t.ownBlock=some W.heap.size):=by
 obtain⟨t,W',h1,h2,h3,h4⟩:=app_one und_pr info_pr rfl zq83 rv _ _ hr gA c (prC x) hA rfl zq135 hn zq83 hb
 refine⟨t,W',h1,?_,Evt.own hr h3,h4⟩
 unfold DRow
 rw [len1,List.flatMap_append,List.flatMap_singleton]
 exact h2
theorem row_grown {w w':World} {base e s n:Nat} {a:Value} {xs:List Value} {k:Option Nat} (h:w.ownsRow base e s a n xs)(g:w.grownBy w' k)(hne: ∀ q,a.ownBlock=some q→k≠some q):w'.ownsRow base e s a n xs:=by
 refine h.kept g ?_
 cases hq:a.ownBlock with
 |none=>exact .inl rfl
 |some q=>exact .inr fun e=>hne q hq e.symm
theorem SRows.newQ {w0 w w':World} {base:Nat} {m:SM} {tv sv tE:Value} (h:SRows w base m tv sv)(e:Evt w w' tE.ownBlock 74)(hn: ∀ q,tE.ownBlock=some q→w0.heap.size≤q)(hv: ∀ q,sv.ownBlock=some q→q<w0.heap.size):SRows w' base m tv sv :=
 ⟨e.row h.tr zq83,row_grown h.se e.g (fun q hq=>fun e2=>by have h1:=hv q hq;have h2:=hn q e2;omega)⟩
theorem DRow.newQ {w0 w w':World} {base:Nat} {dv tE:Value} {l:List (Int×Int)} (h:DRow w base dv l)(e:Evt w w' tE.ownBlock 74)(hn: ∀ q,tE.ownBlock=some q→w0.heap.size≤q)(hv: ∀ q,dv.ownBlock=some q→q<w0.heap.size):DRow w' base dv l :=
 row_grown h e.g (fun q hq=>fun e2=>by have h1:=hv q hq;have h2:=hn q e2;omega)
theorem SRows.newP {w w':World} {base g0:Nat} {m:SM} {tv sv:Value} (h:SRows w base m tv sv)(e:Evt w w' (some g0) 74)(hv:sv.ownBlock≠some g0):SRows w' base m tv sv :=
 ⟨e.row h.tr zq83,row_grown h.se e.g (fun q hq=>fun e2=>hv (by rw [hq,e2]))⟩
theorem DRow.newP {w w':World} {base g0:Nat} {dv:Value} {l:List (Int×Int)} (h:DRow w base dv l)(e:Evt w w' (some g0) 74)(hv:dv.ownBlock≠some g0):DRow w' base dv l :=
 row_grown h e.g (fun q hq=>fun e2=>hv (by rw [hq,e2]))
theorem apart_new {w0:World} {dv sv:Value} (h: ∀ q,dv.ownBlock=some q→w0.heap.size≤q)(hv: ∀ q,sv.ownBlock=some q→q<w0.heap.size):ApartD dv sv:=by
 cases hq:dv.ownBlock with
 |none=>exact .inl hq
 |some q=>exact .inr fun e=>by have h1:=h q hq;have h2:=hv q (by rw [← e,hq]);omega
end Go.Proofs.Yteiafboknimgbaa.Pr.M
end
