import Derived.Test.YteiafboknimgbaaMa10
set_option maxHeartbeats 8000000
set_option maxRecDepth 100000
set_option linter.unusedVariables false
set_option linter.unusedSimpArgs false
section
namespace Go.Proofs.Yteiafboknimgbaa.Pr.M
def WM(m:MS):Prop:= ∃ sm,RM m sm
def WF(N:Int)(m:MS)(f:Fr)(par:Option Fr):Prop:= ∃ sm c,RM m sm∧sm.spent=false∧RF N m f par c∧c.depth=m.depth
theorem WF.wm {N:Int} {m:MS} {f:Fr} {par:Option Fr} (h:WF N m f par):WM m:=by obtain⟨sm,c,h1,_⟩:=h;exact⟨sm,h1⟩
theorem WM.room {m:MS} (h:WM m){n:Nat} (hn:m.trace.length≤n):m.owners.length≤n∧m.calls.length≤n∧m.panics.length≤n∧m.recs.length≤n∧(∀ q∈m.panics,q.unw.length≤n)∧0≤m.made:=by
 obtain⟨sm,h⟩:=h
 exact⟨by rw [h.own];exact hn,Nat.le_trans h.ncalls hn,Nat.le_trans h.npanics hn,Nat.le_trans h.nrecs hn,fun q hq=>Nat.le_trans (h.nunw q hq) hn,h.pos⟩
theorem WF.frame {N:Int} {m:MS} {f:Fr} {par:Option Fr} (h:WF N m f par):(∀ i,Num (reg f i))∧(f.fin=1∨f.fin=2∨f.fin=3)∧(0≤f.id∧f.id<m.calls.length)∧(0≤f.fn∧f.fn<N)∧(f.fin=2→Valid m f.pan)∧(f.dfr=true→ ∃ pf,par=some pf∧(pf.fin=2→Valid m pf.pan))∧(∀ x∈f.runs,Num x.2∧0≤x.1∧x.1<N):=by
 obtain⟨sm,c,_,_,h,_⟩:=h
 refine⟨reg_num h,h.fin,h.idok,h.fnok,fun hf=>(h.pan hf).1,fun hd=> ?_,h.runs⟩
 obtain⟨pf,h1,_,_,_,h5⟩:=h.par hd
 exact⟨pf,h1,fun hp=>(h5 hp).1⟩
theorem WF.made {N:Int} {m:MS} {f:Fr} {par:Option Fr} (h:WF N m f par)(fn at_:Int):WF N (madeI m fn at_) f par:=by
 obtain⟨sm,c,h1,h2,h3,h4⟩:=h
 exact⟨madeS sm fn at_,c,h1.made1 fn at_,h2,h3.mono (Ext.of_eq rfl),h4⟩
theorem WF.step {N:Int} {m:MS} {f:Fr} {par:Option Fr} {s:St} (h:WF N m f par)(hs:StepOk N s)(k4:s.f0≠4)(k11:s.f0≠11) :
  WF N (stepI m f par s).1 (stepI m f par s).2.1 (stepI m f par s).2.2.1∧Par f.dfr par (stepI m f par s).2.2.1∧(stepI m f par s).1.made=m.made∧(stepI m f par s).1.depth=m.depth∧(stepI m f par s).2.1.dfr=f.dfr∧(stepI m f par s).2.1.id=f.id∧(stepI m f par s).2.1.fn=f.fn∧((stepI m f par s).2.2.2=false→(stepI m f par s).2.1.fin=f.fin):=by
 obtain⟨sm,c,h1,h2,h3,h4⟩:=h
 have S:=stepI_eq (rec:=fun m c=>(m,c)) (at_:=0) hs h1 h3 k4 k11
 exact⟨⟨_,_,S.rm,S.spent.trans h2,S.rf,by rw [makeS_depth _ _ _ _ _ k4,h4,S.depth]⟩,S.par,S.made,S.depth,S.dfr,S.id,S.fn,S.fin⟩
theorem WF.inner {N fuel:Int} {rec:MS→Int→Int→Option Fr→Bool→ResI} {srec:SM→SF→SM×SF} (hrec:RecR N fuel rec srec){m:MS} {f:Fr} {par:Option Fr} (h:WF N m f par)(hle:m.made≤fuel)(g a:Int)(hna:Num a)(hg:0≤g∧g<N) :
  WM (rec m g a (some f) false).1∧(rec m g a (some f) false).1.made≤fuel∧m.made≤(rec m g a (some f) false).1.made ∧
   ∀ d par',(rec m g a (some f) false).2=some (d,par')→par'=some f∧WF N (rec m g a (some f) false).1 f par∧(d.fin=1∨d.fin=2∨d.fin=3)∧Num d.r1∧(d.fin=1→d.leaving=false)∧(d.fin=2→Valid (rec m g a (some f) false).1 d.pan)∧(rec m g a (some f) false).1.depth=m.depth:=by
 obtain⟨sm,c,h1,h2,h3,h4⟩:=h
 have C:=(hrec m sm g a (some f) false false 0 0 h1 h2 hle hna hg (fun e=>zq121) (fun _=>rfl)).res
 refine⟨⟨_,C.rm⟩,C.made,C.mono,fun d par' hd=> ?_⟩
 obtain⟨c1,c2,c3,c4,c5,c6,c7,c8⟩:=C.some_ d par' hd
 have hp:par'=some f:=by simpa [Par] using c4
 subst hp
 exact⟨rfl,⟨_,c,C.rm,c1,h3.mono c6,by rw [h4,c2]⟩,c3.fin,c3.n1,c3.left,fun e=>(c3.pan e).1,c2⟩
theorem WF.after1 {N:Int} {m:MS} {f d:Fr} {par:Option Fr} (h:WF N m f par)(hn:Num d.r1)(hl:d.leaving=false):WF N m { f with leaving:=f.leaving||d.leaving,r2:=d.r1 } par:=by
 obtain⟨sm,c,h1,h2,h3,h4⟩:=h
 exact⟨sm,{ c with r2:=d.r1 },h1,h2,{ h3 with r2:=rfl,n2:=hn,leaving:=by show c.leaving=(f.leaving||d.leaving);rw [hl,Bool.or_false];exact h3.leaving,left:=fun e=>by show(f.leaving||d.leaving)=false;rw [hl,Bool.or_false];exact h3.left e },h4⟩
theorem WF.dinner {N fuel:Int} {rec:MS→Int→Int→Option Fr→Bool→ResI} {srec:SM→SF→SM×SF} (hrec:RecR N fuel rec srec){m:MS} {f:Fr} {par:Option Fr} (h:WF N m f par)(hle:m.made≤fuel)(g a:Int)(rest:List (Int×Int))(hna:Num a)(hg:0≤g∧g<N)(hr: ∀ x∈rest,Num x.2∧0≤x.1∧x.1<N) :
  WM (rec m g a (some { f with runs:=rest }) true).1∧(rec m g a (some { f with runs:=rest }) true).1.made≤fuel∧m.made≤(rec m g a (some { f with runs:=rest }) true).1.made ∧
   ∀ d par',(rec m g a (some { f with runs:=rest }) true).2=some (d,par')→ ∃ u,par'=some { f with runs:=rest,r1:=u } ∧(d.fin=1∨d.fin=2∨d.fin=3)∧(d.fin=2→Valid (rec m g a (some { f with runs:=rest }) true).1 d.pan)∧(f.fin=2→Valid (rec m g a (some { f with runs:=rest }) true).1 f.pan)
    ∧WF N (behindI (rec m g a (some { f with runs:=rest }) true).1 { f with runs:=rest,r1:=u } d).1 (behindI (rec m g a (some { f with runs:=rest }) true).1 { f with runs:=rest,r1:=u } d).2 par
    ∧(behindI (rec m g a (some { f with runs:=rest }) true).1 { f with runs:=rest,r1:=u } d).1.made=(rec m g a (some { f with runs:=rest }) true).1.made∧(behindI (rec m g a (some { f with runs:=rest }) true).1 { f with runs:=rest,r1:=u } d).1.depth=m.depth
    ∧(behindI (rec m g a (some { f with runs:=rest }) true).1 { f with runs:=rest,r1:=u } d).2.runs=rest:=by
 obtain⟨sm,c,h1,h2,h3,h4⟩:=h
 have C:=(hrec m sm g a (some { f with runs:=rest }) true (decide (f.fin=2)) (panAt m f.pan).val f.r1 h1 h2 hle hna hg (fun _=>⟨_,rfl,rfl,h3.n1,rfl,fun e=>⟨(h3.pan e).1,rfl⟩⟩) (fun e=>zq121)).res
 refine⟨⟨_,C.rm⟩,C.made,C.mono,fun d par' hd=> ?_⟩
 obtain⟨c1,c2,c3,c4,c5,c6,c7,c8⟩:=C.some_ d par' hd
 have hp: ∃ u,par'=some { f with runs:=rest,r1:=u } :=by
  have c4':=c4
  unfold Par at c4'
  rw [if_pos rfl] at c4'
  obtain⟨u,hu⟩:=c4' _ rfl
  exact⟨u,hu⟩
 obtain⟨u,rfl⟩:=hp
 have B:=behind_eq C.rm (h3.mono c6) c3 c5 hr
 obtain⟨b1,b2,b3,b4,b5,b6,b7,b8⟩:=B
 refine⟨u,rfl,c3.fin,fun e=>(c3.pan e).1,fun e=>c6.valid (h3.pan e).1,⟨_,_,b1,c1,b8,?_⟩,b3,b4.trans c2,b6⟩
 show c.depth=_
 rw [b4,c2,h4]
theorem WF.finish {N:Int} {m:MS} {f:Fr} {par:Option Fr} (h:WF N m f par):WM (finishI m f)∧(finishI m f).made=m.made∧(finishI m f).depth=m.depth:=by
 obtain⟨sm,c,h1,h2,h3,h4⟩:=h
 obtain⟨g1,g2,g3,g4⟩:=finish_eq h1 h3
 refine⟨⟨_,g1⟩,g3,?_⟩
 unfold finishI tell
 dsimp only
 split<;>rfl
theorem WM.begin_ {N:Int} {m:MS} {sm:SM} (h:RM m sm)(hsp:sm.spent=false){fn arg:Int} {par:Option Fr} {dfr:Bool} (hna:Num arg)(hfn:0≤fn∧fn<N)(hpar:dfr=true→ ∃ pf,par=some pf∧Num pf.r1∧(pf.fin=2→Valid m pf.pan)):WF N (beginI m fn arg par dfr) (frameI m fn arg dfr) par:=by
 have hx:Ext m (beginI m fn arg par dfr):=Ext.of_eq rfl (by show m.calls.length≤(m.calls++ [_]).length;rw [List.length_append];omega)
 have key: ∀ pk pv ou,(dfr=true→ ∃ pf,par=some pf∧ou=pf.r1∧Num pf.r1∧pk=decide (pf.fin=2)∧(pf.fin=2→Valid m pf.pan∧pv=(panAt m pf.pan).val))→(dfr=false→pk=false)→WF N (beginI m fn arg par dfr) (frameI m fn arg dfr) par:=by
  intro pk pv ou hpar hnd
  have hb:RM (beginI m fn arg par dfr) (beginS sm ⟨fn,m.depth+1,arg,0,0,0,[],0,0,false,dfr,pk,pv,false,ou⟩) :=
   {h.tellCall ⟨fn,parId par,dfr,4,0,arg⟩ (if dfr=true then 3 else 1) fn arg m.calls.length with
    deep:=by show(if sm.deep<m.depth+1 then _ else sm.deep)=(if m.deepest<m.depth+1 then _ else m.deepest);rw [h.deep] }
  have hf:RF N (beginI m fn arg par dfr) (frameI m fn arg dfr) par ⟨fn,m.depth+1,arg,0,0,0,[],1,0,false,dfr,pk,pv,false,ou⟩:=by
   refine⟨rfl,rfl,rfl,rfl,rfl,hna,num0,num0,num0,rfl,fun x hx=>(by cases hx),⟨Int.natCast_nonneg _,by show(m.calls.length:Int)<((m.calls++ [_]).length:Nat);rw [len1];omega⟩,hfn,rfl,rfl,rfl,rfl,Or.inl rfl,fun _=>rfl,fun h=>zq120,?_,hnd⟩
   intro hd
   obtain⟨pf,h1,h2,h3,h4,h5⟩:=hpar hd
   exact⟨pf,h1,h2,h3,h4,fun hp=>⟨hx.valid (h5 hp).1,(h5 hp).2.trans (hx.val _ (h5 hp).1).symm⟩⟩
  exact⟨_,_,hb,hsp,hf,rfl⟩
 cases dfr with
 |false=>exact key false 0 0 (fun e=>zq121) (fun _=>rfl)
 |true =>
  obtain⟨pf,h1,h2,h3⟩:=hpar rfl
  exact key (decide (pf.fin=2)) (panAt m pf.pan).val pf.r1 (fun _=>⟨pf,h1,rfl,h2,rfl,fun e=>⟨h3 e,rfl⟩⟩) (fun e=>zq121)
theorem WF.body {N:Int} {p:List (List St)} {fuel:Int} (hp:ProgOk N p){rec:MS→Int→Int→Option Fr→Bool→ResI} {srec:SM→SF→SM×SF} (hrec:RecR N fuel rec srec){n:Nat} {m:MS} {f:Fr} {par:Option Fr} {at_:Nat} (h:WF N m f par)(hle:m.made≤fuel)(hn:(fuel-m.made).toNat<n)(hfin:f.fin=1) :
  (bodyI rec p fuel n m f par at_).1.made≤fuel∧ ∀ f' par',(bodyI rec p fuel n m f par at_).2=some (f',par')→WF N (bodyI rec p fuel n m f par at_).1 f' par'∧(bodyI rec p fuel n m f par at_).1.depth=m.depth∧f'.dfr=f.dfr∧f'.id=f.id:=by
 obtain⟨sm,c,h1,h2,h3,h4⟩:=h
 have B:=body_eq hp hrec n m f par at_ sm c h1 h2 hle hn h3 hfin h4
 refine⟨B.made,fun f' par' hr=> ?_⟩
 obtain⟨b1,b2,b3,b4,b5,b6,b7,b8⟩:=B.some_ f' par' hr
 exact⟨⟨_,_,B.rm,b1,b3,by rw [b7,h4,b2]⟩,b2,b5,b8⟩
end Go.Proofs.Yteiafboknimgbaa.Pr.M
end

section
namespace Go.Proofs.Yteiafboknimgbaa.Pr.M
open Go.RowKit Go.Proofs.W.PrintWords Go.Proofs.W.PrintLast Go.Proofs.W.PrintMore
structure StepWf(s:St):Prop where
 k:1≤s.f0∧s.f0≤13
 a:s.f0≠4→s.f0≠5→s.f0≠10→s.f0≠11→0≤s.f1∧s.f1<4
 b:s.f0=2∨s.f0=4∨s.f0=5∨s.f0=11→0≤s.f2∧s.f2<4
theorem stepI_1 {m:MS} {f:Fr} {par:Option Fr} {s:St} (h:s.f0=1):stepI m f par s=(m,setReg f s.f1 s.f2,par,false):=by unfold stepI;rw [h];rfl
theorem stepI_2 {m:MS} {f:Fr} {par:Option Fr} {s:St} (h:s.f0=2):stepI m f par s=(m,setReg f s.f1 (wrap16 (reg f s.f1+reg f s.f2)),par,false):=by unfold stepI;rw [h];rfl
theorem stepI_3 {m:MS} {f:Fr} {par:Option Fr} {s:St} (h:s.f0=3):stepI m f par s=(tell m 4 f.fn (reg f s.f1) f.id,f,par,false):=by unfold stepI;rw [h];rfl
theorem stepI_5 {m:MS} {f:Fr} {par:Option Fr} {s:St} (h:s.f0=5):stepI m f par s=(tell m 2 s.f1 (reg f s.f2) f.id,{ f with runs:=f.runs++ [(s.f1,reg f s.f2)] },par,false):=by unfold stepI;rw [h];rfl
theorem stepI_6 {m:MS} {f:Fr} {par:Option Fr} {s:St} (h:s.f0=6):stepI m f par s=(tell { m with panics:=m.panics++ [⟨f.id,f.fn,reg f s.f1,m.depth,0,-1,-1,f.counted,[]⟩] } 5 f.fn (reg f s.f1) f.id,{ f with fin:=2,pan:=m.panics.length },par,true):=by unfold stepI;rw [h];rfl
theorem stepI_7 {m:MS} {f:Fr} {par:Option Fr} {s:St} (h:s.f0=7):stepI m f par s=((recoverI m f par s.f1).1,(recoverI m f par s.f1).2,par,false):=by unfold stepI;rw [h];rfl
theorem stepI_8 {m:MS} {f:Fr} {par:Option Fr} {s:St} (h:s.f0=8):stepI m f par s=(m,{ f with r1:=reg f s.f1 },par,true):=by unfold stepI;rw [h];rfl
theorem stepI_9 {m:MS} {f:Fr} {par:Option Fr} {s:St} (h:s.f0=9):stepI m f par s=(m,f,if f.dfr=true then par.map (fun pf=> { pf with r1:=reg f s.f1 }) else par,false):=by unfold stepI;rw [h];rfl
theorem stepI_10 {m:MS} {f:Fr} {par:Option Fr} {s:St} (h:s.f0=10):stepI m f par s=(m,{ f with leaving:=true,fin:=3 },par,true):=by unfold stepI;rw [h];rfl
theorem stepI_12 {m:MS} {f:Fr} {par:Option Fr} {s:St} (h:s.f0=12):stepI m f par s=({ m with shared:=reg f s.f1 },f,par,false):=by unfold stepI;rw [h];rfl
theorem stepI_13 {m:MS} {f:Fr} {par:Option Fr} {s:St} (h:s.f0=13):stepI m f par s=(m,setReg f s.f1 m.shared,par,false):=by unfold stepI;rw [h];rfl
theorem step.calls {N:Int} (w:World)(base B gm gf:Nat)(A0:Value)(fuel:Int)(m:MS)(v:MV)(f:Fr)(par:Option Fr)(rv pv rp pp:Value)(H:Mach w base gm A0 fuel m v)(F:FrOk w base B gf f rv pv)(PA:PaOk w base gf par pv rp pp)(hb:base≤w.heap.size)(hB:B≤w.heap.size)
  (hwf:WF N m f par) (s:St) (hs:StepWf s) (k4:s.f0≠4) (k11:s.f0≠11) (hroom:m.trace.length+2*f.runs.length≤100000) :
  Calls Try.prog 308 #[.pointer (some ⟨gm,0,none⟩),.pointer (some ⟨gf,0,none⟩),.agg #[.int .i64 s.f0,.int .i64 s.f1,.int .i64 s.f2]] w fun e w'=>e= .returned (.bool (stepI m f par s).2.2.2)∧Left w w' base B gm gf A0 fuel (stepI m f par s).1 v (stepI m f par s).2.1 (stepI m f par s).2.2.1 pv rp pp:=by
 obtain⟨ho,hca,hpa,hre,hun,hpos⟩:=hwf.wm.room (show m.trace.length≤100000 by omega)
 have hr:m.trace.length≤100000:=by omega
 obtain⟨hreg,hfin,hid,hfn,hpan,hpar,hruns⟩:=hwf.frame
 obtain⟨q0,q1,q2⟩:=s
 have hk:q0=1∨q0=2∨q0=3∨q0=5∨q0=6∨q0=7∨q0=8∨q0=9∨q0=10∨q0=12∨q0=13:=by
  have h1:1≤q0:=hs.k.1
  have h2:q0≤13:=hs.k.2
  have h3:q0≠4:=k4
  have h4:q0≠11:=k11
  omega
 have ha:=hs.a
 have hb2:=hs.b
 dsimp only at ha hb2 ⊢
 rcases hk with rfl|rfl|rfl|rfl|rfl|rfl|rfl|rfl|rfl|rfl|rfl
 ·rw [stepI_1 rfl]
  obtain⟨a,rfl⟩:=nat_of (ha zq83 zq83 zq83 zq83).1
  have:=(ha zq83 zq83 zq83 zq83).2
  exact step_1 w base B gm gf A0 fuel m v f par rv pv rp pp H F PA hb hB a zq90 q2
 ·rw [stepI_2 rfl]
  obtain⟨a,rfl⟩:=nat_of (ha zq83 zq83 zq83 zq83).1
  have:=(ha zq83 zq83 zq83 zq83).2
  obtain⟨b,rfl⟩:=nat_of (hb2 (.inl rfl)).1
  have:=(hb2 (.inl rfl)).2
  exact step_2 w base B gm gf A0 fuel m v f par rv pv rp pp H F PA hb hB a zq90 b zq90 (hreg _) (hreg _)
 ·rw [stepI_3 rfl]
  obtain⟨a,rfl⟩:=nat_of (ha zq83 zq83 zq83 zq83).1
  have:=(ha zq83 zq83 zq83 zq83).2
  exact step_3 w base B gm gf A0 fuel m v f par rv pv rp pp H F PA hb hB a zq90 q2 hr ho
 ·rw [stepI_5 rfl]
  obtain⟨b,rfl⟩:=nat_of (hb2 (.inr (.inr (.inl rfl)))).1
  have:=(hb2 (.inr (.inr (.inl rfl)))).2
  exact step_5 w base B gm gf A0 fuel m v f par rv pv rp pp H F PA hb hB b zq90 q1 zq90 hr ho
 ·rw [stepI_6 rfl]
  obtain⟨a,rfl⟩:=nat_of (ha zq83 zq83 zq83 zq83).1
  have:=(ha zq83 zq83 zq83 zq83).2
  exact step_6 w base B gm gf A0 fuel m v f par rv pv rp pp H F PA hb hB a zq90 q2 hpa hr ho
 ·rw [stepI_7 rfl]
  obtain⟨a,rfl⟩:=nat_of (ha zq83 zq83 zq83 zq83).1
  have:=(ha zq83 zq83 zq83 zq83).2
  exact step_7 w base B gm gf A0 fuel m v f par rv pv rp pp H F PA hb hB a zq90 q2 hpar hre hr ho
 ·rw [stepI_8 rfl]
  obtain⟨a,rfl⟩:=nat_of (ha zq83 zq83 zq83 zq83).1
  have:=(ha zq83 zq83 zq83 zq83).2
  exact step_8 w base B gm gf A0 fuel m v f par rv pv rp pp H F PA hb hB a zq90 q2
 ·rw [stepI_9 rfl]
  obtain⟨a,rfl⟩:=nat_of (ha zq83 zq83 zq83 zq83).1
  have:=(ha zq83 zq83 zq83 zq83).2
  cases hd:f.dfr with
  |false=>exact step_9n w base B gm gf A0 fuel m v f par rv pv rp pp H F PA hb hB a zq90 q2 hd
  |true =>
   obtain⟨pf,rfl,_⟩:=hpar hd
   exact step_9y w base B gm gf A0 fuel m v f (some pf) rv pv rp pp H F PA hb hB a zq90 q2 hd pf rfl
 ·rw [stepI_10 rfl]
  exact step_10 w base B gm gf A0 fuel m v f par rv pv rp pp H F PA hb hB q2 q1
 ·rw [stepI_12 rfl]
  obtain⟨a,rfl⟩:=nat_of (ha zq83 zq83 zq83 zq83).1
  have:=(ha zq83 zq83 zq83 zq83).2
  exact step_12 w base B gm gf A0 fuel m v f par rv pv rp pp H F PA hb hB a zq90 q2
 ·rw [stepI_13 rfl]
  obtain⟨a,rfl⟩:=nat_of (ha zq83 zq83 zq83 zq83).1
  have:=(ha zq83 zq83 zq83 zq83).2
  exact step_13 w base B gm gf A0 fuel m v f par rv pv rp pp H F PA hb hB a zq90 q2
def spentChain:List PanicEntry:= [{ v:= .iface 313 (.agg #[]),recovered:=false }]
def CallPost(w w':World)(base gm:Nat)(A0:Value)(fuel:Int)(v:MV)(pv rp pp:Value)(r:ResI)(e:Ending):Prop :=
 (r.2=none∧e= .panicked spentChain∧ ∃ v',v'.pl=v.pl∧Mach w' base gm A0 fuel r.1 v'∧PlOk w' base v.pl r.1.places∧KeptB base (parG pv) w.heap.size w w') ∨
 ∃ d par' gd rd v',r.2=some (d,par')∧e= .returned (.pointer (some ⟨gd,0,none⟩))∧v'.pl=v.pl∧Mach w' base gm A0 fuel r.1 v'∧PlOk w' base v.pl r.1.places∧w.heap.size≤gd∧w'.heap[gd]? =some (.cells (frC d rd pv).toArray 292 (0,0))∧PaOk w' base gd par' pv rp pp∧KeptB base (parG pv) w.heap.size w w'
structure ProgAt(W0:World)(A0:Option Addr)(c0:Nat)(p:List (List St))(N:Int):Prop where
 c:Kd.C (Kd.slice 219 k219) W0 A0 p.length p
 n:p.length≤c0
 ok:ProgOk N p
 wf: ∀ b∈p,∀ s∈b,StepWf s
 len:(p.length:Int)=N
 body: ∀ b∈p,b.length≤1000
def CallC(W0:World)(A0:Option Addr)(c0:Nat)(p:List (List St))(N fuel:Int)(R d:Nat):Prop :=
 ∀ (w:World) (gm:Nat) (m:MS) (v:MV) (fn arg:Int) (par:Option Fr) (pv rp pp:Value) (dfr:Bool),
  Mach w W0.heap.size gm (.slice A0 p.length c0) fuel m v→PlOk w W0.heap.size v.pl m.places→Below W0.heap.size W0 w →
  (match par with
   |none=>pv= .pointer none
   |some pf=> ∃ gp,pv= .pointer (some ⟨gp,0,none⟩)∧w.heap[gp]? =some (.cells (frC pf rp pp).toArray 292 (0,0))∧W0.heap.size≤gp) →
  (∃ sm,RM m sm∧sm.spent=false)→m.made≤fuel→Num arg→0≤fn∧fn<N→(dfr=true→ ∃ pf,par=some pf∧Num pf.r1∧(pf.fin=2→Valid m pf.pan)) →
  m.depth+d=8→(m.trace.length:Int)+3*(fuel-m.made)+2≤100000→(m.places.length:Int)=m.made →
  Calls Try.prog 292 #[.pointer (some ⟨gm,0,none⟩),.int .i64 fn,.int .i64 arg,pv,.bool dfr] w fun e w'=>CallPost w w' W0.heap.size gm (.slice A0 p.length c0) fuel v pv rp pp (callI p fuel R d m fn arg par dfr) e
theorem goesP_ {P : Program} {ops : Array Oper} {Q : Exit → Act → World → Prop} {oi : Oper} {N : Option Tmp} {a : Act} {w : World} {K : Act → World → Prop} {f : FuncId} {fn : Func} {ar : Array Operand} {ts : Array TypeId} (hf : P.funcs[f]? = some fn) (hname : (fn.name == "runtime.NumGoroutine") = false) (hb : fn.body.isSome = true) (args : Array Value)
  (hw:Region.wanted oi (yielded ops a.tmps)=true) (hN:oi.dst=N) (hop:oi.op= .call { callee:= .value (.func f),args:=ar,argTypes:=ts }) (hargs:ar.map a.eval=args)
  (h:Calls P f args w fun e w'=>(∃ v,e= .returned v∧K (a.put N v) w')∨ ∃ chain,e= .panicked chain∧Q (.panic chain) a w'):if Region.wanted oi (yielded ops a.tmps)=true then Oper.wp P oi a w K Q else K (a.put N undef) w:=by
 have he:=enters_ hf hname hb args w
 have hrun:(execOp a.eval oi).run P w= .ok (.enter f args) w:=by
  unfold execOp
  simp [hop,resolve,Deferred.ofValue,invoke,Act.eval,hargs,he]
 rw [if_pos hw]
 subst hN
 unfold Oper.wp
 rw [hrun,Oper.upon_enter]
 refine h.mono fun e w'' hh=> ?_
 rcases hh with⟨v,rfl,hk⟩|⟨chain,rfl,hk⟩
 ·exact hk
 ·exact hk
theorem KeptB.bel {W0 w w':World} {par:Option Nat} {B:Nat} (h:Below W0.heap.size W0 w)(k:KeptB W0.heap.size par B w w'):Below W0.heap.size W0 w' :=
 ⟨k.os.trans h.os,k.tape.trans h.tape,k.output.trans h.output,Nat.le_trans h.size k.size,fun i hi=>(k.low i hi).trans (h.block i hi)⟩
theorem ProgAt.at_ {W0 w:World} {A0:Option Addr} {c0:Nat} {p:List (List St)} {N:Int} (h:ProgAt W0 A0 c0 p N)(hb:Below W0.heap.size W0 w):Kd.C (Kd.slice 219 k219) w A0 p.length p:=Kd.C_below h.c hb
def smC(A0:Value)(fuel:Int)(m:SM)(tv sv:Value):List Value:= [A0,.int .i64 fuel,.bool m.spent,.int .i64 m.shared,.int .i64 m.made,.int .i64 m.deep,tv,sv]
def sfC(c:SF)(dv:Value):List Value:= [.int .i64 c.f,.int .i64 c.depth,.int .i64 c.r0,.int .i64 c.r1,.int .i64 c.r2,.int .i64 c.r3,dv,.int .i64 c.kind,.int .i64 c.value,.bool c.leaving,.bool c.deferred,.bool c.panicking,.int .i64 c.panic,.bool c.recovered,.int .i64 c.outer]
def New(w:World)(v v':Value):Prop:=v'.ownBlock=v.ownBlock∨ ∃ b,v'.ownBlock=some b∧w.heap.size≤b
theorem New.refl(w:World)(v:Value):New w v v:= .inl rfl
theorem New.trans {a b:World} {v v' v'':Value} (h:New a v v')(k:New b v' v'')(hs:a.heap.size≤b.heap.size):New a v v'':=by
 rcases k with k|⟨q,k,hq⟩
 ·rcases h with h|⟨q,h,hq⟩
  ·exact .inl (k.trans h)
  ·exact .inr ⟨q,k.trans h,hq⟩
 ·exact .inr ⟨q,k,zq90⟩
structure KeptS(tv sv:Value)(w w':World):Prop where
 os:w'.os=w.os
 tape:w'.tape=w.tape
 output:w'.output=w.output
 size:w.heap.size≤w'.heap.size
 blk: ∀ (k:Nat) o,w.heap[k]? =some o→some k≠tv.ownBlock→some k≠sv.ownBlock→w'.heap[k]? =some o
theorem KeptS.refl(tv sv:Value)(w:World):KeptS tv sv w w:=⟨rfl,rfl,rfl,Nat.le_refl _,fun _ _ h _ _=>h⟩
theorem KeptS.trans {tv sv tv1 sv1:Value} {a b c:World} (h:KeptS tv sv a b)(k:KeptS tv1 sv1 b c)(ht:New a tv tv1)(hs:New a sv sv1):KeptS tv sv a c:=by
 refine⟨k.os.trans h.os,k.tape.trans h.tape,k.output.trans h.output,Nat.le_trans h.size k.size,fun i o hi h1 h2=>k.blk i o (h.blk i o hi h1 h2) (fun e=> ?_) (fun e=> ?_)⟩
 ·rcases ht with ht|⟨q,ht,hq⟩
  ·rw [ht] at e;exact h1 e
  ·rw [ht] at e;injection e with e
   have:=blk_lt hi
   omega
 ·rcases hs with hs|⟨q,hs,hq⟩
  ·rw [hs] at e;exact h2 e
  ·rw [hs] at e;injection e with e
   have:=blk_lt hi
   omega
theorem KeptS.ev {tv sv:Value} {w W W':World} {k:Option Nat} {T:TypeId} (h:KeptS tv sv w W)(e:Evt W W' k T)(hk: ∀ q,k=some q→w.heap.size≤q∨some q=tv.ownBlock∨some q=sv.ownBlock:=by first|(intro q e;cases e;done)|exact fun q e=> .inr (.inl e.symm)|exact fun q e=> .inr (.inr e.symm)|(intro q e;injection e with e;subst e;left;omega)):KeptS tv sv w W':=by
 refine⟨e.g.os.trans h.os,e.g.tape.trans h.tape,e.g.output.trans h.output,Nat.le_trans h.size e.g.size,fun i o hi h1 h2=>e.blk' (h.blk i o hi h1 h2) (fun he=> ?_)⟩
 rcases hk i he.symm with h3|h3|h3
 ·have:=blk_lt hi
  omega
 ·exact h1 h3
 ·exact h2 h3
theorem kv {tv sv:Value} {w W W':World} {k:Option Nat} {T:TypeId} (h:Aside0 (KeptS tv sv w W))(e:Evt W W' k T)(hk: ∀ q,k=some q→w.heap.size≤q∨some q=tv.ownBlock∨some q=sv.ownBlock:=by first|(intro q e;cases e;done)|exact fun q e=> .inr (.inl e.symm)|exact fun q e=> .inr (.inr e.symm)|(intro q e;injection e with e;subst e;left;omega)):Aside0 (KeptS tv sv w W'):=⟨h.out.ev e hk⟩
theorem KeptS.below {tv sv:Value} {w W W':World} (h:KeptS tv sv w W)(hB:Below W.heap.size W W'):KeptS tv sv w W':=h.ev (Evt.below hB 0) (fun q e=>zq121)
theorem KeptS.row {tv sv:Value} {w w':World} (h:KeptS tv sv w w'){b e s n:Nat} {a:Value} {xs:List Value} (hr:w.ownsRow b e s a n xs)(h1:a.ownBlock=none∨a.ownBlock≠tv.ownBlock)(h2:a.ownBlock=none∨a.ownBlock≠sv.ownBlock):w'.ownsRow b e s a n xs:=by
 refine⟨hr.1,?_⟩
 rcases hr.2 with e1|⟨g,cap,cur,e1,e2,e3,e4⟩
 ·exact .inl e1
 ·refine .inr ⟨g,cap,cur,e1,e2,h.blk _ _ e3 (fun e=> ?_) (fun e=> ?_),e4⟩
  ·subst e1
   rcases h1 with h1|h1
   ·simp [Value.ownBlock] at h1
   ·exact h1 (by simpa [Value.ownBlock] using e)
  ·subst e1
   rcases h2 with h2|h2
   ·simp [Value.ownBlock] at h2
   ·exact h2 (by simpa [Value.ownBlock] using e)
theorem sliceL_ {P:Program} {ops:Array Oper} {rest:List Oper} {o:Oper} {a:Act} {Q:Exit→Act→World→Prop} {W:World} (hgd:o.guard=none){cs:Array Value} {e n:Nat}
  (hrun:(execOp a.eval o).run P W= .ok (.value (.slice (some ⟨W.heap.size,0,none⟩) n n)) (W.alloc (.cells cs e (0,0))))
  (h: ∀ g,g=W.heap.size→ ∀ w1,w1.heap[g]? =some (.cells cs e (0,0))→Below W.heap.size W w1→wpList P ops Q rest (a.put o.dst (.slice (some ⟨g,0,none⟩) n n)) w1):wpList P ops Q (o::rest) a W :=
 Kd.event_run hgd hrun (h _ rfl _ (blk_new W _) (below_alloc (Below.refl _ _) _))
structure SRows(w:World)(base:Nat)(m:SM)(tv sv:Value):Prop where
 tr:w.ownsRow base 63 3 tv m.trace.length (m.trace.flatMap evC)
 se:w.ownsRow base 74 2 sv m.seen.length (m.seen.flatMap prC)
theorem SRows.ev {w w':World} {base:Nat} {m:SM} {tv sv:Value} {k:Option Nat} {T:TypeId} (h:SRows w base m tv sv)(e:Evt w w' k T)(h1:T≠63:=by decide)(h2:T≠74:=by decide):SRows w' base m tv sv:=⟨e.row h.tr (fun e=>h1 e.symm),e.row h.se (fun e=>h2 e.symm)⟩
theorem rs {w w':World} {base:Nat} {m:SM} {tv sv:Value} {k:Option Nat} {T:TypeId} (h:Aside0 (SRows w base m tv sv))(e:Evt w w' k T)(h1:T≠63:=by decide)(h2:T≠74:=by decide):Aside0 (SRows w' base m tv sv):=⟨h.out.ev e h1 h2⟩
theorem SRows.below {w w':World} {base:Nat} {m:SM} {tv sv:Value} (h:SRows w base m tv sv)(hB:Below w.heap.size w w'):SRows w' base m tv sv:=h.ev (Evt.below hB 0) zq83 zq83
theorem storeAll {P:Program} {W:World} {g:Nat} {t ty:TypeId} {old cells:Array Value} (hg:W.heap[g]? =some (.cells old t (0,0)))(hi:(P.info? ty).map (·.size)=some cells.size)(ho:old.size=cells.size)(h1:cells.all (·.oneCell')=true) :
  ∃ W',(storeVar ty ⟨g,0,none⟩ (.agg cells)).run P W= .ok () W'∧W'.heap[g]? =some (.cells cells t (0,0))∧Evt W W' (some g) t:=by
 refine⟨_,run_storeVar_row W g t ty old cells hg hi ho h1,setRow_heap W g old cells t _ hg,⟨rfl,rfl,rfl,by simp [World.setRow],fun i hi hne=> ?_⟩,fun q e=>by injection e with e;subst e;exact⟨_,_,hg⟩⟩
 have:i≠g:=fun e=>hne (by rw [e])
 simp [World.setRow,Array.getElem?_modify,Ne.symm this]
theorem store_event' {P:Program} {ops:Array Oper} {rest:List Oper} {o:Oper} {a:Act} {Q:Exit→Act→World→Prop} {W w1:World} (hgd:o.guard=none)(hN:o.dst=none)
  (hrun:(execOp a.eval o).run P W= .ok .skip w1) (h:wpList P ops Q rest a w1):wpList P ops Q (o::rest) a W:=by
 refine wpList_plain hgd fun K hK=> ?_
 unfold Oper.wp
 rw [hrun]
 show K (a.put o.dst undef) w1
 rw [hN]
 exact hK _ _ h
theorem aggL_ {P:Program} {ops:Array Oper} {rest:List Oper} {o:Oper} {a:Act} {Q:Exit→Act→World→Prop} {W:World} (hgd:o.guard=none)(hN:o.dst=none){ty:TypeId} {x y:Operand} (ho:o.op= .store ty x y)(g:Nat)(cells:Array Value)(hx:a.eval x= .pointer (some ⟨g,0,none⟩))(hy:a.eval y= .agg cells)
  {t:TypeId} {old:Array Value} (hg:W.heap[g]? =some (.cells old t (0,0))) (hi:(P.info? ty).map (·.size)=some cells.size) (hold:old.size=cells.size) (h1:cells.all (·.oneCell')=true)
  (h: ∀ W',W'.heap[g]? =some (.cells cells t (0,0))→Evt W W' (some g) t→wpList P ops Q rest a W'):wpList P ops Q (o::rest) a W:=by
 obtain⟨W',hr,hc,he⟩:=storeAll (P:=P) hg hi hold h1
 refine store_event' hgd hN (w1:=W') ?_ (h W' hc he)
 unfold execOp
 simp only [ho,hx,hy,Instr.storeAt,Instr.sureAddr,Sem.run_bind,Sem.run_pure,Result.andThen_ok,hr]
theorem ag {P:Program} {ops:Array Oper} {rest:List Oper} {o:Oper} {a:Act} {Q:Exit→Act→World→Prop} {W:World} {g n:Nat} {ty t:TypeId} {y:Operand} {old:Array Value} (p:Tmp)(cells:Array Value)(hg:W.heap[g]? =some (.cells old t (0,0)))(hi:(P.info? ty).map (·.size)=some n)
  (hgd:o.guard=none:=by rfl) (hN:o.dst=none:=by rfl) (ho:o.op= .store ty (.tmp p) y:=by rfl) (hx:a.eval (.tmp p)= .pointer (some ⟨g,0,none⟩):=by rfl) (hy:a.eval y= .agg cells:=by rfl) (hn:cells.size=n:=by rfl) (hold:old.size=cells.size:=by rfl) (h1:cells.all (·.oneCell')=true:=by first|exact smC_one .. |exact sfC_one .. |simp [Value.oneCell'])
  (h: ∀ W',W'.heap[g]? =some (.cells cells t (0,0))→Evt W W' (some g) t→wpList P ops Q rest a W'):wpList P ops Q (o::rest) a W:=aggL_ hgd hN ho g cells hx hy hg (hi.trans (by rw [hn])) hold h1 h
theorem und_sm:Try.prog.underlying 167=some (.struct (((Try.prog.underlying 167).bind fun d=>match d with| .struct f=>some f|_=>none).getD #[])):=by kernel_rfl
theorem und_sf:Try.prog.underlying 169=some (.struct (((Try.prog.underlying 169).bind fun d=>match d with| .struct f=>some f|_=>none).getD #[])):=by kernel_rfl
theorem size_sm:(Try.prog.info? 167).map (·.size)=some 8:=by kernel_rfl
theorem size_sf:(Try.prog.info? 169).map (·.size)=some 15:=by kernel_rfl
def zsm:Array Value:= #[.slice none 0 0,.int .i64 0,.bool false,.int .i64 0,.int .i64 0,.int .i64 0,.slice none 0 0,.slice none 0 0]
def zsf:Array Value:= #[.int .i64 0,.int .i64 0,.int .i64 0,.int .i64 0,.int .i64 0,.int .i64 0,.slice none 0 0,.int .i64 0,.int .i64 0,.bool false,.bool false,.bool false,.int .i64 0,.bool false,.int .i64 0]
theorem smC_one(a1:Option Addr)(n1 c1:Nat)(fuel:Int)(m:SM)(a2:Option Addr)(n2 c2:Nat)(a3:Option Addr)(n3 c3:Nat):(smC (.slice a1 n1 c1) fuel m (.slice a2 n2 c2) (.slice a3 n3 c3)).toArray.all (·.oneCell')=true:=by simp [smC,Value.oneCell']
theorem sfC_one(c:SF)(a1:Option Addr)(n1 c1:Nat):(sfC c (.slice a1 n1 c1)).toArray.all (·.oneCell')=true:=by simp [sfC,Value.oneCell']
theorem KeptS.weak {tv sv:Value} {w w':World} (h:KeptS tv tv w w'):KeptS tv sv w w':=⟨h.os,h.tape,h.output,h.size,fun k o hk h1 _=>h.blk k o hk h1 h1⟩
theorem l2Tell.calls(w:World)(base:Nat)(pA:Option Addr)(pn pc:Nat)(fuel:Int)(m:SM)(tv sv:Value)(k f x:Int)(H:SRows w base m tv sv)(hb:base≤w.heap.size)(hn:m.trace.length≤100000) :
  Calls Try.prog 274 #[.agg (smC (.slice pA pn pc) fuel m tv sv).toArray,.int .i64 k,.int .i64 f,.int .i64 x] w fun e w'=> ∃ tv',e= .returned (.agg (smC (.slice pA pn pc) fuel (stell m k f x) tv' sv).toArray)∧SRows w' base (stell m k f x) tv' sv∧New w tv tv'∧KeptS tv tv w w':=by
 obtain⟨tA,tc,htv⟩:=own_slice H.tr
 obtain⟨sA,sc,hsv⟩:=own_slice H.se
 subst htv
 subst hsv
 have KP:=Z (KeptS.refl (.slice tA m.trace.length tc) (.slice tA m.trace.length tc) w)
 have HS:=am H
 clear H
 go_enter Try.func274,Try.ntmps274
 go_upto_region 1 with(first|(refine bx 4 (smC (.slice pA pn pc) fuel m (.slice tA m.trace.length tc) (.slice sA m.seen.length sc)).toArray 167 (h:= ?_);intro g4 hg_ x1 hbox hbel;have Lg4:=lg hg_ KP.out.size;have hE_:=Evt.below hbel 0;replace HS:=rs HS hE_;replace KP:=kv KP hE_;have Gg4:=am hbox;clear hbel hbox hg_ hE_)|(refine bx 8 zsm 167 (h:= ?_);intro g8 hg_ x2 hbox hbel;have Lg8:=lg hg_ KP.out.size;have NE48:g4≠g8:=(fun e=>by have h_:=blk_lt Gg4.out;omega);have hE_:=Evt.below hbel 0;replace HS:=rs HS hE_;replace KP:=kv KP hE_;replace Gg4:=hE_.b Gg4;have Gg8:=am hbox;clear hbel hbox hg_ hE_;have q6:x2.cell? ⟨g4,6,none⟩=some (.slice tA m.trace.length tc):=(blk_cell Gg4.out (6)).trans (rfl)))
 go_upto_region 2 with(first|((with_reducible refine gate_dst (N:=15) rfl ?_);refine sliceL_ (cs:=(evC ⟨k,f,x⟩).toArray) (e:=63) (n:=1) rfl ?run ?_;(case run=>first|(go_simp;done)|(go_simp;rfl));intro gA hg_ x3 hbox hbel;have LgA:=lg hg_ KP.out.size;have hE_:=Evt.below hbel 0;replace HS:=rs HS hE_;replace KP:=kv KP hE_;replace Gg4:=hE_.b Gg4;replace Gg8:=hE_.b Gg8;have GgA:=am hbox;clear hbel hbox hg_ hE_;clear q6;have q6:x3.cell? ⟨g4,6,none⟩=some (.slice tA m.trace.length tc):=(blk_cell Gg4.out (6)).trans (rfl))|((with_reducible refine gate_dst (N:=16) rfl ?_);obtain⟨t,x4,hE,hown,hgr,hnw⟩:=app_one und_ev info_ev rfl zq83 _ _ _ HS.out.tr gA 1 (evC ⟨k,f,x⟩) GgA.out rfl zq129 hn zq83 (Nat.le_trans hb KP.out.size);have hev:=Evt.own HS.out.tr hgr;refine Kd.event_run rfl (appRun_ _ _ _ rfl rfl rfl rfl hE) ?_;have HSE:=Z (hev.row HS.out.se zq83);have HNW:=Z (show New w (.slice tA m.trace.length tc) t from hnw.elim .inl (fun e=> .inr ⟨_,e,KP.out.size⟩));clear hE GgA LgA;replace KP:=kv KP hev;replace Gg4:=hev.b Gg4;replace Gg8:=hev.b Gg8;clear HS;have HTR:=am hown;clear hown hgr hnw hev;obtain⟨uA,uc,hu⟩:=own_slice HTR.out;subst hu;clear q6;have q6:x4.cell? ⟨g4,6,none⟩=some (.slice tA m.trace.length tc):=(blk_cell Gg4.out (6)).trans (rfl);have zq6:=blk_frozen Gg4.out (6)))
 clear q6 zq6
 have hev:=Evt.set Gg4.out 6 (.slice uA (m.trace.length+1) uc)
 replace KP:=kv KP hev
 replace Gg4:=Z ((blk_set Gg4.out 6 (.slice uA (m.trace.length+1) uc)).trans (show _=some (Obj.cells (smC (.slice pA pn pc) fuel (stell m k f x) (.slice uA (m.trace.length+1) uc) (.slice sA m.seen.length sc)).toArray 167 (0,0)) from rfl))
 replace Gg8:=hev.b' Gg8 (fun e=>NE48 (by injection e with e;exact e.symm))
 replace HTR:=hev.r HTR
 replace HSE:=hev.r HSE
 clear hev
 generalize x4.setCell ⟨g4,6,none⟩ (.slice uA (m.trace.length+1) uc)=x5 at KP Gg4 Gg8 HTR HSE ⊢
 go_wp2_with (first|(refine lr 18 Gg4.out und_sm size_sm (h:= ?_))|(refine ag 8 (smC (.slice pA pn pc) fuel (stell m k f x) (.slice uA (m.trace.length+1) uc) (.slice sA m.seen.length sc)).toArray Gg8.out size_sm (h:= ?_);intro x6 hbox hev;replace KP:=kv KP hev;replace Gg4:=hev.b' Gg4 (fun e=>NE48 (by injection e));replace HTR:=hev.r HTR;replace HSE:=hev.r HSE;clear Gg8;have Gg8:=am hbox;clear hbox hev))
 refine bodyPost_ret (results_cell_row rfl _ _ g8 167 (smC (.slice pA pn pc) fuel (stell m k f x) (.slice uA (m.trace.length+1) uc) (.slice sA m.seen.length sc)).toArray (0,0) _ rfl Gg8.out und_sm rfl size_sm) rfl ?_
 exact⟨_,rfl,⟨by show World.ownsRow _ _ _ _ _ (m.trace++ [_]).length ((m.trace++ [_]).flatMap evC);rw [flat1,len1];exact HTR.out,HSE.out⟩,HNW.out,KP.out⟩
end Go.Proofs.Yteiafboknimgbaa.Pr.M
end

section
namespace Go.Proofs.Yteiafboknimgbaa.Pr.M
structure SMok(fuel:Int)(m:SM):Prop where
 sh:Num m.shared
 made0:0≤m.made
 made:m.made≤fuel
 seen:(m.seen.length:Int)=m.made
structure SFok(N:Int)(c:SF):Prop where
 n0:Num c.r0
 n1:Num c.r1
 n2:Num c.r2
 n3:Num c.r3
 nv:Num c.value
 np:Num c.panic
 no:Num c.outer
 df: ∀ x∈c.defers,Num x.2∧0≤x.1∧x.1<N
 fn:0≤c.f∧c.f<N
 ki:0≤c.kind∧c.kind≤3
theorem SFok.reg {N:Int} {c:SF} (h:SFok N c)(i:Int):Num (sreg c i):=by
 unfold sreg
 split;· exact h.n0
 split;· exact h.n1
 split;· exact h.n2
 exact h.n3
theorem SFok.set {N:Int} {c:SF} (h:SFok N c)(i v:Int)(hv:Num v):SFok N (setSreg c i v):=by
 unfold setSreg
 split;· exact⟨hv,h.n1,h.n2,h.n3,h.nv,h.np,h.no,h.df,h.fn,h.ki⟩
 split;· exact⟨h.n0,hv,h.n2,h.n3,h.nv,h.np,h.no,h.df,h.fn,h.ki⟩
 split;· exact⟨h.n0,h.n1,hv,h.n3,h.nv,h.np,h.no,h.df,h.fn,h.ki⟩
 exact⟨h.n0,h.n1,h.n2,hv,h.nv,h.np,h.no,h.df,h.fn,h.ki⟩
theorem setSreg_keep(c:SF)(i v:Int):(setSreg c i v).defers=c.defers∧(setSreg c i v).depth=c.depth∧(setSreg c i v).f=c.f:=by
 unfold setSreg;(repeat' split)<;>exact⟨rfl,rfl,rfl⟩
theorem SMok.tell {fuel:Int} {m:SM} (h:SMok fuel m)(k f v:Int):SMok fuel (stell m k f v):=⟨h.sh,h.made0,h.made,h.seen⟩
theorem stell_len(m:SM)(k f v:Int):(stell m k f v).trace.length=m.trace.length+1:=len1 _ _
structure SimQ(N fuel:Int)(m:SM)(c:SF)(r:SM×SF):Prop where
 om:SMok fuel r.1
 oc:SFok N r.2
 made:r.1.made=m.made
 room:r.1.trace.length≤m.trace.length+1
 df:r.2.defers=c.defers
 sp:r.1.spent=m.spent
 dep:r.2.depth=c.depth
 fn:r.2.f=c.f
theorem SimQ.set {N fuel:Int} {m:SM} {c:SF} (hm:SMok fuel m)(hc:SFok N c)(i v:Int)(hv:Num v):SimQ N fuel m c (m,setSreg c i v) :=
 ⟨hm,hc.set i v hv,rfl,Nat.le_succ _,(setSreg_keep c i v).1,rfl,(setSreg_keep c i v).2.1,(setSreg_keep c i v).2.2⟩
theorem simpleS_ok {N fuel:Int} {m:SM} {c:SF} (hm:SMok fuel m)(hc:SFok N c)(s:St)(hs:s.f0=1→Num s.f2):SimQ N fuel m c (simpleS m c s):=by
 have ite_: ∀ (b:Prop) [Decidable b] (x y:SM×SF),(b→SimQ N fuel m c x)→SimQ N fuel m c y→SimQ N fuel m c (if b then x else y):=fun b _ x y hx hy=>by
  split
  ·exact hx ‹_›
  ·exact hy
 unfold simpleS
 refine ite_ _ _ _ (fun h=>SimQ.set hm hc _ _ (hs h)) ?_
 refine ite_ _ _ _ (fun h=>SimQ.set hm hc _ _ (by rw [wrap16_eq (hc.reg _) (hc.reg _)];exact wrap16_num _)) ?_
 refine ite_ _ _ _ (fun h=>⟨hm.tell _ _ _,hc,rfl,Nat.le_of_eq (stell_len _ _ _ _),rfl,rfl,rfl,rfl⟩) ?_
 refine ite_ _ _ _ (fun h=> ?_) ?_
 ·cases hd:c.deferred with
  |false=>rw [if_neg zq83];exact⟨hm,hc,rfl,Nat.le_succ _,rfl,rfl,rfl,rfl⟩
  |true=>rw [if_pos rfl];exact⟨hm,⟨hc.n0,hc.n1,hc.n2,hc.n3,hc.nv,hc.np,hc.reg _,hc.df,hc.fn,hc.ki⟩,rfl,Nat.le_succ _,rfl,rfl,rfl,rfl⟩
 refine ite_ _ _ _ (fun h=>⟨⟨hc.reg _,hm.made0,hm.made,hm.seen⟩,hc,rfl,Nat.le_succ _,rfl,rfl,rfl,rfl⟩) ?_
 refine ite_ _ _ _ (fun h=>SimQ.set hm hc _ _ hm.sh) ?_
 refine ite_ _ _ _ (fun h=> ?_) ⟨hm,hc,rfl,Nat.le_succ _,rfl,rfl,rfl,rfl⟩
 split
 ·have h1:SFok N { c with recovered:=true } :=⟨hc.n0,hc.n1,hc.n2,hc.n3,hc.nv,hc.np,hc.no,hc.df,hc.fn,hc.ki⟩
  have h2:=h1.set s.f1 c.panic hc.np
  have h3:=setSreg_keep { c with recovered:=true } s.f1 c.panic
  exact⟨hm.tell _ _ _,⟨h2.n0,h2.n1,h2.n2,num1,h2.nv,h2.np,h2.no,h2.df,h2.fn,h2.ki⟩,rfl,Nat.le_of_eq (stell_len _ _ _ _),h3.1,rfl,h3.2.1,h3.2.2⟩
 ·have h2:=hc.set s.f1 0 num0
  have h3:=setSreg_keep c s.f1 0
  exact⟨hm,⟨h2.n0,h2.n1,h2.n2,num0,h2.nv,h2.np,h2.no,h2.df,h2.fn,h2.ki⟩,rfl,Nat.le_succ _,h3.1,rfl,h3.2.1,h3.2.2⟩
def sroom(fuel:Int)(m:SM)(k:Nat):Int:=(m.trace.length:Int)+3*(fuel-m.made)+2*(k:Int)
structure RecQ(N fuel:Int)(m:SM)(c:SF)(r:SM×SF):Prop where
 om:SMok fuel r.1
 oc:SFok N r.2
 mono:m.made≤r.1.made
 room:sroom fuel r.1 0≤sroom fuel m 0+2
 dep:r.2.depth=c.depth
def RecS(N fuel:Int)(rec:SM→SF→SM×SF):Prop:= ∀ m c,SMok fuel m→SFok N c→c.defers= []→RecQ N fuel m c (rec m c)
structure MakeQ(N fuel:Int)(m:SM)(c:SF)(r:SM×SF):Prop where
 om:SMok fuel r.1
 oc:SFok N r.2
 mono:m.made≤r.1.made
 room:sroom fuel r.1 r.2.defers.length≤sroom fuel m c.defers.length+3
 dep:r.2.depth=c.depth
 fn:r.2.f=c.f
theorem SFok.start {N f a depth:Int} (hf:0≤f∧f<N)(ha:Num a)(dfr pk:Bool){pv ou:Int} (hp:Num pv)(ho:Num ou):SFok N ⟨f,depth,a,0,0,0,[],0,0,false,dfr,pk,pv,false,ou⟩ :=
 ⟨ha,num0,num0,num0,num0,hp,ho,fun x h=>absurd h (by simp),hf,(by show(0:Int)≤0∧(0:Int)≤3;decide)⟩
theorem makeS_ok {N fuel:Int} {rec:SM→SF→SM×SF} (hrec:RecS N fuel rec){m:SM} {c:SF} (hm:SMok fuel m)(hc:SFok N c)(at_:Int)(s:St)(hs:StepOk N s):MakeQ N fuel m c ((makeS rec m c at_ s).1,(makeS rec m c at_ s).2.1):=by
 unfold makeS
 by_cases k4:s.f0=4
 ·rw [if_pos k4]
  unfold innerS
  have Q:=hrec m ⟨s.f1,c.depth+1,sreg c s.f2,0,0,0,[],0,0,false,false,false,0,false,0⟩ hm (SFok.start (hs.2.2 (.inl k4)) (hc.reg _) _ _ num0 num0) rfl
  generalize rec m ⟨s.f1,c.depth+1,sreg c s.f2,0,0,0,[],0,0,false,false,false,0,false,0⟩=r at *
  obtain⟨m1,d⟩:=r
  have h1:SMok fuel m1:=Q.om
  have h2:SFok N d:=Q.oc
  have h3:m.made≤m1.made:=Q.mono
  have h4:sroom fuel m1 0≤sroom fuel m 0+2:=Q.room
  have h5:sroom fuel m1 c.defers.length≤sroom fuel m c.defers.length+3:=by unfold sroom at *;omega
  dsimp only
  split
  ·exact⟨h1,⟨hc.n0,hc.n1,h2.n1,hc.n3,hc.nv,hc.np,hc.no,hc.df,hc.fn,hc.ki⟩,h3,h5,rfl,rfl⟩
  split
  ·exact⟨h1,⟨hc.n0,hc.n1,hc.n2,hc.n3,h2.nv,hc.np,hc.no,hc.df,hc.fn,(by show(0:Int)≤2∧(2:Int)≤3;decide)⟩,h3,h5,rfl,rfl⟩
  split
  ·exact⟨h1,⟨hc.n0,hc.n1,hc.n2,hc.n3,hc.nv,hc.np,hc.no,hc.df,hc.fn,(by show(0:Int)≤3∧(3:Int)≤3;decide)⟩,h3,h5,rfl,rfl⟩
  ·exact⟨h1,⟨hc.n0,hc.n1,hc.n2,hc.n3,hc.nv,hc.np,hc.no,hc.df,hc.fn,hc.ki⟩,h3,h5,rfl,rfl⟩
 rw [if_neg k4]
 have t1: ∀ k f v,(((stell m k f v).trace.length:Nat):Int)=m.trace.length+1:=fun k f v=>by rw [stell_len];rfl
 have t2: ∀ k f v,(stell m k f v).made=m.made:=fun _ _ _=>rfl
 have z:sroom fuel m c.defers.length≤sroom fuel m c.defers.length+3:=by omega
 by_cases k5:s.f0=5
 ·rw [if_pos k5]
  refine⟨hm.tell _ _ _,⟨hc.n0,hc.n1,hc.n2,hc.n3,hc.nv,hc.np,hc.no,fun x hx=> ?_,hc.fn,hc.ki⟩,Int.le_refl _,?_,rfl,rfl⟩
  ·rcases List.mem_append.1 hx with h|h
   ·exact hc.df x h
   ·rw [List.mem_singleton] at h;subst h;exact⟨hc.reg _,hs.2.2 (.inr k5)⟩
  ·have t3:(((c.defers++ [(s.f1,sreg c s.f2)]).length:Nat):Int)=c.defers.length+1:=by rw [len1];rfl
   show sroom fuel (stell m _ _ _) (c.defers++ [_]).length≤_
   unfold sroom
   rw [t1,t2,t3]
   omega
 rw [if_neg k5]
 by_cases k6:s.f0=6
 ·rw [if_pos k6]
  refine⟨hm.tell _ _ _,⟨hc.n0,hc.n1,hc.n2,hc.n3,hc.reg _,hc.np,hc.no,hc.df,hc.fn,(by show(0:Int)≤2∧(2:Int)≤3;decide)⟩,Int.le_refl _,?_,rfl,rfl⟩
  show sroom fuel (stell m _ _ _) c.defers.length≤_
  unfold sroom
  rw [t1,t2]
  omega
 rw [if_neg k6]
 by_cases k8:s.f0=8
 ·rw [if_pos k8]
  exact⟨hm,⟨hc.n0,hc.reg _,hc.n2,hc.n3,hc.nv,hc.np,hc.no,hc.df,hc.fn,hc.ki⟩,Int.le_refl _,z,rfl,rfl⟩
 rw [if_neg k8]
 by_cases k10:s.f0=10
 ·rw [if_pos k10]
  exact⟨hm,⟨hc.n0,hc.n1,hc.n2,hc.n3,hc.nv,hc.np,hc.no,hc.df,hc.fn,(by show(0:Int)≤3∧(3:Int)≤3;decide)⟩,Int.le_refl _,z,rfl,rfl⟩
 rw [if_neg k10]
 by_cases k11:s.f0=11
 ·rw [if_pos k11]
  exact⟨hm,hc,Int.le_refl _,z,rfl,rfl⟩
 rw [if_neg k11]
 have Q:=simpleS_ok hm hc s hs.1
 refine⟨Q.om,Q.oc,Int.le_of_eq Q.made.symm,?_,Q.dep,Q.fn⟩
 have q1:=Q.room
 have q2:=Q.made
 show sroom fuel (simpleS m c s).1 (simpleS m c s).2.defers.length≤_
 rw [Q.df]
 unfold sroom
 rw [q2]
 omega
theorem madeS_ok {fuel:Int} {m:SM} (hm:SMok fuel m)(h:m.made≠fuel)(fn at_:Int):SMok fuel (madeS m fn at_) :=
 ⟨hm.sh,by show 0≤m.made+1;have:=hm.made0;omega,by show m.made+1≤fuel;have:=hm.made;omega,by show(((m.seen++ [_]).length:Nat):Int)=m.made+1;rw [len1];have:=hm.seen;omega⟩
structure BodyQ(N fuel:Int)(m:SM)(c:SF)(r:SM×SF):Prop where
 om:SMok fuel r.1
 oc:SFok N r.2
 mono:m.made≤r.1.made
 room:sroom fuel r.1 r.2.defers.length≤sroom fuel m c.defers.length
 dep:r.2.depth=c.depth
 fn:r.2.f=c.f
theorem step_at {N:Int} {p:List (List St)} (hp:ProgOk N p){f:Nat} {at_:Int} (h:0≤at_∧at_<(p.getD f []).length):StepOk N ((p.getD f []).getD at_.toNat ⟨0,0,0⟩):=by
 have hl:at_.toNat<(p.getD f []).length:=by omega
 have hs:(p.getD f [])[at_.toNat]? =some ((p.getD f []).getD at_.toNat ⟨0,0,0⟩):=by
  generalize p.getD f []=b at hl ⊢
  rw [List.getD_eq_getElem?_getD,List.getElem?_eq_getElem hl];rfl
 obtain⟨b,hb1,hb2⟩:=getD_mem hs
 exact hp b hb1 _ hb2
theorem bodyS_ok {N fuel:Int} {p:List (List St)} (hp:ProgOk N p){rec:SM→SF→SM×SF} (hrec:RecS N fuel rec) :
  ∀ (n:Nat) (m:SM) (c:SF) (at_:Int),SMok fuel m→SFok N c→BodyQ N fuel m c (bodyS rec p fuel n m c at_):=by
 intro n
 induction n with
 |zero=>intro m c at_ hm hc;exact⟨hm,hc,Int.le_refl _,Int.le_refl _,rfl,rfl⟩
 |succ n ih =>
  intro m c at_ hm hc
  rw [bodyS]
  dsimp only
  split
  ·rename_i hat
   split
   ·exact⟨⟨hm.sh,hm.made0,hm.made,hm.seen⟩,hc,Int.le_refl _,Int.le_refl _,rfl,rfl⟩
   ·rename_i hne
    have hm1:=madeS_ok hm hne c.f at_
    have Q:=makeS_ok hrec hm1 hc at_ _ (step_at hp hat)
    have e1:(madeS m c.f at_).made=m.made+1:=rfl
    have e2:(madeS m c.f at_).trace=m.trace:=rfl
    generalize makeS rec (madeS m c.f at_) c at_ ((p.getD c.f.toNat []).getD at_.toNat ⟨0,0,0⟩)=r at *
    obtain⟨m1,c1,a1⟩:=r
    have q3:(madeS m c.f at_).made≤m1.made:=Q.mono
    have q4:sroom fuel m1 c1.defers.length≤sroom fuel (madeS m c.f at_) c.defers.length+3:=Q.room
    have q5:c1.depth=c.depth:=Q.dep
    have q6:c1.f=c.f:=Q.fn
    have q7:sroom fuel m1 c1.defers.length≤sroom fuel m c.defers.length:=by unfold sroom at *;rw [e1,e2] at q4;omega
    split
    ·exact⟨Q.om,Q.oc,by show m.made≤m1.made;omega,q7,q5,q6⟩
    ·have B:=ih m1 c1 a1 Q.om Q.oc
     exact⟨B.om,B.oc,Int.le_trans (show m.made≤m1.made by omega) B.mono,Int.le_trans B.room q7,B.dep.trans q5,B.fn.trans q6⟩
  ·exact⟨hm,hc,Int.le_refl _,Int.le_refl _,rfl,rfl⟩
structure LastQ(N fuel:Int)(m:SM)(c:SF)(rest:List (Int×Int))(r:SM×SF):Prop where
 om:SMok fuel r.1
 oc:SFok N r.2
 mono:m.made≤r.1.made
 room:sroom fuel r.1 0≤sroom fuel m 0+2
 dep:r.2.depth=c.depth
 fn:r.2.f=c.f
 df:r.2.defers=rest
theorem lastS_ok {N fuel:Int} {rec:SM→SF→SM×SF} (hrec:RecS N fuel rec){m:SM} {c:SF} (hm:SMok fuel m)(hc:SFok N c)(g a:Int)(rest:List (Int×Int))(ha:Num a)(hg:0≤g∧g<N)(hr: ∀ x∈rest,Num x.2∧0≤x.1∧x.1<N):LastQ N fuel m c rest (lastS rec m c g a rest):=by
 unfold lastS
 have hp:Num (if c.kind=2 then c.value else 0):=by
  split
  ·exact hc.nv
  ·exact num0
 have Q:=hrec m ⟨g,c.depth+1,a,0,0,0,[],0,0,false,true,decide (c.kind=2),if c.kind=2 then c.value else 0,false,c.r1⟩ hm (SFok.start hg ha _ _ hp hc.n1) rfl
 generalize rec m ⟨g,c.depth+1,a,0,0,0,[],0,0,false,true,decide (c.kind=2),if c.kind=2 then c.value else 0,false,c.r1⟩=r at *
 obtain⟨m1,d⟩:=r
 dsimp only
 split
 ·exact⟨Q.om,⟨hc.n0,hc.n1,hc.n2,hc.n3,hc.nv,hc.np,hc.no,hr,hc.fn,hc.ki⟩,Q.mono,Q.room,rfl,rfl,rfl⟩
 ·have hv:Num (if d.kind=2 then d.value else c.value):=by
   split
   ·exact Q.oc.nv
   ·exact hc.nv
  have hk:0≤(lastC c d rest).kind∧(lastC c d rest).kind≤3:=by
   show 0≤(if d.kind=3 then 3 else if d.kind=2 then 2 else if d.recovered=true then(if(c.leaving||d.leaving)=true then 3 else 1) else c.kind)∧(if d.kind=3 then 3 else if d.kind=2 then 2 else if d.recovered=true then(if(c.leaving||d.leaving)=true then 3 else 1) else c.kind)≤3
   have:=hc.ki
   (repeat' split)<;>omega
  exact⟨Q.om,⟨hc.n0,Q.oc.no,hc.n2,hc.n3,hv,hc.np,hc.no,hr,hc.fn,hk⟩,Q.mono,Q.room,rfl,rfl,rfl⟩
structure DefQ(N fuel:Int)(m:SM)(c:SF)(k:Nat)(r:SM×SF):Prop where
 om:SMok fuel r.1
 oc:SFok N r.2
 mono:m.made≤r.1.made
 room:sroom fuel r.1 0≤sroom fuel m k
 dep:r.2.depth=c.depth
 fn:r.2.f=c.f
theorem defersS_ok {N fuel:Int} {rec:SM→SF→SM×SF} (hrec:RecS N fuel rec) :
  ∀ (l:List (Int×Int)) (m:SM) (c:SF),SMok fuel m→SFok N c→(∀ x∈l,Num x.2∧0≤x.1∧x.1<N)→DefQ N fuel m c l.length (defersS rec l m c):=by
 intro l
 induction l with
 |nil=>intro m c hm hc _;exact⟨hm,hc,Int.le_refl _,Int.le_refl _,rfl,rfl⟩
 |cons x l ih =>
  intro m c hm hc hl
  obtain⟨g,a⟩:=x
  have hx:Num a∧0≤g∧g<N:=hl (g,a) (by simp)
  have hl': ∀ x∈l,Num x.2∧0≤x.1∧x.1<N:=fun x hx=>hl x (by simp [hx])
  rw [defersS]
  have Q:=lastS_ok hrec hm hc g a l.reverse hx.1 hx.2 (fun x hx=>hl' x (List.mem_reverse.1 hx))
  generalize lastS rec m c g a l.reverse=r at *
  obtain⟨m1,c1⟩:=r
  have q1:sroom fuel m1 0≤sroom fuel m 0+2:=Q.room
  have q2:sroom fuel m1 l.length≤sroom fuel m (l.length+1):=by unfold sroom at *;omega
  dsimp only
  split
  ·refine⟨Q.om,Q.oc,Q.mono,?_,Q.dep,Q.fn⟩
   show sroom fuel m1 0≤sroom fuel m (l.length+1)
   unfold sroom at *;omega
  ·have D:=ih m1 c1 Q.om Q.oc hl'
   exact⟨D.om,D.oc,Int.le_trans Q.mono D.mono,Int.le_trans D.room q2,D.dep.trans Q.dep,D.fn.trans Q.fn⟩
theorem endS_ok {fuel:Int} {m:SM} (hm:SMok fuel m)(c:SF):SMok fuel (endS m c)∧(endS m c).made=m.made∧(endS m c).trace.length≤m.trace.length+1:=by
 unfold endS
 split;· exact⟨hm.tell _ _ _,rfl,Nat.le_of_eq (stell_len _ _ _ _)⟩
 split;· exact⟨hm.tell _ _ _,rfl,Nat.le_of_eq (stell_len _ _ _ _)⟩
 split;· exact⟨hm.tell _ _ _,rfl,Nat.le_of_eq (stell_len _ _ _ _)⟩
 exact⟨hm,rfl,Nat.le_succ _⟩
theorem beginS_ok {fuel:Int} {m:SM} (hm:SMok fuel m)(c:SF):SMok fuel (beginS m c):=⟨hm.sh,hm.made0,hm.made,hm.seen⟩
theorem beginS_room(fuel:Int)(m:SM)(c:SF):sroom fuel (beginS m c) 0=sroom fuel m 0+1:=by
 have h:(((beginS m c).trace.length:Nat):Int)=m.trace.length+1:=by show(((m.trace++ [_]).length:Nat):Int)=_;rw [len1];rfl
 have h2:(beginS m c).made=m.made:=rfl
 unfold sroom
 rw [h,h2]
 omega
theorem SFok.one {N:Int} {c:SF} (hc:SFok N c):SFok N { c with kind:=1 } :=⟨hc.n0,hc.n1,hc.n2,hc.n3,hc.nv,hc.np,hc.no,hc.df,hc.fn,(by show(0:Int)≤1∧(1:Int)≤3;decide)⟩
theorem callS_ok {N fuel:Int} {p:List (List St)} (hp:ProgOk N p)(R:Nat): ∀ d,RecS N fuel (callS p fuel R d):=by
 intro d
 induction d with
 |zero=>intro m c hm hc _;exact⟨⟨hm.sh,hm.made0,hm.made,hm.seen⟩,hc,Int.le_refl _,by show sroom fuel m 0≤sroom fuel m 0+2;omega,rfl⟩
 |succ d ih =>
  intro m c hm hc hd
  rw [callS]
  have B:=bodyS_ok hp ih R (beginS m c) { c with kind:=1 } 0 (beginS_ok hm c) hc.one
  have e0:=beginS_room fuel m c
  have e1:(beginS m c).made=m.made:=rfl
  generalize bodyS (callS p fuel R d) p fuel R (beginS m c) { c with kind:=1 } 0=r at *
  obtain⟨m1,c1⟩:=r
  have b1:sroom fuel m1 c1.defers.length≤sroom fuel (beginS m c) c.defers.length:=B.room
  rw [hd] at b1
  have b1:sroom fuel m1 c1.defers.length≤sroom fuel (beginS m c) 0:=b1
  have b2:(beginS m c).made≤m1.made:=B.mono
  dsimp only
  split
  ·exact⟨B.om,B.oc,by show m.made≤m1.made;omega,by show sroom fuel m1 0≤_;unfold sroom at *;omega,B.dep⟩
  ·have D:=defersS_ok ih c1.defers.reverse m1 c1 B.om B.oc (fun x hx=>B.oc.df x (List.mem_reverse.1 hx))
   rw [List.length_reverse] at D
   generalize defersS (callS p fuel R d) c1.defers.reverse m1 c1=r at *
   obtain⟨m2,c2⟩:=r
   have d1:sroom fuel m2 0≤sroom fuel m1 c1.defers.length:=D.room
   have d2:m1.made≤m2.made:=D.mono
   dsimp only
   split
   ·exact⟨D.om,D.oc,by show m.made≤m2.made;omega,by show sroom fuel m2 0≤_;omega,D.dep.trans B.dep⟩
   ·obtain⟨f1,f2,f3⟩:=endS_ok D.om c2
    have f2:(endS m2 c2).made=m2.made:=f2
    have f3:(((endS m2 c2).trace.length:Nat):Int)≤m2.trace.length+1:=by exact_mod_cast f3
    refine⟨f1,D.oc,by show m.made≤(endS m2 c2).made;rw [f2];show m.made≤m2.made;omega,?_,D.dep.trans B.dep⟩
    show sroom fuel (endS m2 c2) 0≤_
    unfold sroom at *
    rw [f2]
    omega
end Go.Proofs.Yteiafboknimgbaa.Pr.M
end
