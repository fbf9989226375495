import Derived.Test.YteiafboknimgbaaMa4
set_option maxHeartbeats 8000000
set_option maxRecDepth 100000
set_option linter.unusedVariables false
set_option linter.unusedSimpArgs false
section
namespace Go.Proofs.Yteiafboknimgbaa.Pr.M
structure ResR(N fuel:Int)(m:MS)(dfr:Bool)(par:Option Fr)(dep id:Int)(r:ResI)(q:SM×SF):Prop where
 rm:RM r.1 q.1
 made:r.1.made≤fuel
 mono:m.made≤r.1.made
 none_:r.2=none→q.1.spent=true
 some_: ∀ f' par',r.2=some (f',par')→q.1.spent=false∧r.1.depth=m.depth∧RF N r.1 f' par' q.2∧Par dfr par par'∧f'.dfr=dfr∧Ext m r.1∧q.2.depth=dep∧f'.id=id
def endVal(m:MS)(f:Fr):Int:=if f.fin=1 then f.r1 else if f.fin=2 then(panAt m f.pan).val else 0
def ciz:CI:=⟨0,0,false,0,0,0⟩
structure CallR(N fuel:Int)(m:MS)(dfr:Bool)(par:Option Fr)(r:ResI)(q:SM×SF):Prop where
 res:ResR N fuel m dfr par (m.depth+1) m.calls.length r q
 fin: ∀ f' par',r.2=some (f',par')→(r.1.calls.getD m.calls.length ciz).val=endVal r.1 f'
def RecR(N fuel:Int)(rec:MS→Int→Int→Option Fr→Bool→ResI)(srec:SM→SF→SM×SF):Prop :=
 ∀ (m:MS) (sm:SM) (fn arg:Int) (par:Option Fr) (dfr pk:Bool) (pv ou:Int),RM m sm→sm.spent=false→m.made≤fuel→Num arg→0≤fn∧fn<N →
  (dfr=true→ ∃ pf,par=some pf∧ou=pf.r1∧Num pf.r1∧pk=decide (pf.fin=2)∧(pf.fin=2→Valid m pf.pan∧pv=(panAt m pf.pan).val)) →
  (dfr=false→pk=false) →
  CallR N fuel m dfr par (rec m fn arg par dfr) (srec sm ⟨fn,m.depth+1,arg,0,0,0,[],0,0,false,dfr,pk,pv,false,ou⟩)
theorem RM.made1 {m:MS} {sm:SM} (h:RM m sm)(fn at_:Int):RM (madeI m fn at_) (madeS sm fn at_) :=
 {h with
  made:=by show sm.made+1=m.made+1;rw [h.made]
  pos:=by show 0≤m.made+1;have:=h.pos;omega
  seen:=by show sm.seen++_=(_::m.places).reverse;rw [List.reverse_cons,h.seen] }
theorem setSreg_depth(c:SF)(i v:Int):(setSreg c i v).depth=c.depth:=by
 unfold setSreg;split;· rfl
 split;· rfl
 split<;>rfl
theorem simpleS_depth(m:SM)(c:SF)(s:St):(simpleS m c s).2.depth=c.depth:=by
 unfold simpleS
 split;· exact setSreg_depth _ _ _
 split;· exact setSreg_depth _ _ _
 split;· rfl
 split
 ·show(if _ then _ else _:SF).depth=_
  split<;>rfl
 split;· rfl
 split;· exact setSreg_depth _ _ _
 split
 ·split
  ·exact setSreg_depth _ _ _
  ·exact setSreg_depth _ _ _
 ·rfl
theorem makeS_depth(rec:SM→SF→SM×SF)(m:SM)(c:SF)(at_:Int)(s:St)(k4:s.f0≠4):(makeS rec m c at_ s).2.1.depth=c.depth:=by
 unfold makeS
 rw [if_neg k4]
 split;· rfl
 split;· rfl
 split;· rfl
 split;· rfl
 split;· rfl
 exact simpleS_depth _ _ _
theorem getD_mem {p:List (List St)} {i at_:Nat} {s:St} (h:(p.getD i [])[at_]? =some s): ∃ b∈p,s∈b:=by
 have hs:=List.mem_of_getElem? h
 by_cases hi:i<p.length
 ·rw [List.getD_eq_getElem?_getD,List.getElem?_eq_getElem hi] at hs
  exact⟨_,List.getElem_mem hi,hs⟩
 ·rw [List.getD_eq_getElem?_getD,List.getElem?_eq_none zq90] at hs
  cases hs
theorem body_eq {N:Int} {p:List (List St)} {fuel:Int} (hp:ProgOk N p){rec:MS→Int→Int→Option Fr→Bool→ResI} {srec:SM→SF→SM×SF} (hrec:RecR N fuel rec srec) :
  ∀ (n:Nat) (m:MS) (f:Fr) (par:Option Fr) (at_:Nat) (sm:SM) (c:SF),RM m sm→sm.spent=false→m.made≤fuel→(fuel-m.made).toNat<n →
   RF N m f par c→f.fin=1→c.depth=m.depth→ResR N fuel m f.dfr par c.depth f.id (bodyI rec p fuel n m f par at_) (bodyS srec p fuel n sm c at_):=by
 intro n
 induction n with
 |zero=>intro m f par at_ sm c _ _ _ hn;exact absurd hn (Nat.not_lt_zero _)
 |succ n ih =>
  intro m f par at_ sm c hm hsp hle hn hf hfin hdep
  rw [bodyI,bodyS,hf.fn]
  have hend:ResR N fuel m f.dfr par c.depth f.id (m,some (f,par)) (sm,c):=by
   refine⟨hm,hle,Int.le_refl _,fun h=>zq120,?_⟩
   intro f' par' h
   cases h
   exact⟨hsp,rfl,hf,Par.refl _ _,rfl,Ext.refl _,rfl,rfl⟩
  cases hb:(p.getD f.fn.toNat [])[at_]? with
  |none =>
   rw [if_neg (by have:=List.getElem?_eq_none_iff.1 hb;omega)]
   exact hend
  |some s =>
   obtain⟨hlt,hget⟩:=List.getElem?_eq_some_iff.1 hb
   have hs:StepOk N s:=by obtain⟨b,hb1,hb2⟩:=getD_mem hb;exact hp b hb1 s hb2
   have e:(p.getD f.fn.toNat []).getD (at_:Int).toNat ⟨0,0,0⟩=s:=by
    rw [Int.toNat_natCast,List.getD_eq_getElem?_getD,hb];rfl
   show ResR N fuel m f.dfr par c.depth f.id (if m.made=fuel then _ else _) _
   rw [if_pos (⟨zq90,zq90⟩:(0:Int)≤at_∧(at_:Int)<(p.getD f.fn.toNat []).length),e]
   by_cases hfu:m.made=fuel
   ·rw [if_pos hfu,if_pos (hm.made.trans hfu)]
    exact⟨{ hm with },hle,Int.le_refl _,fun _=>rfl,fun f' par' h=>zq120⟩
   rw [if_neg hfu,if_neg (fun h=>hfu (hm.made.symm.trans h))]
   have hm1:=hm.made1 f.fn at_
   have hsp1:(madeS sm f.fn at_).spent=false:=hsp
   have hf1:RF N (madeI m f.fn at_) f par c:=hf.mono (Ext.of_eq rfl)
   have hle1:(madeI m f.fn at_).made≤fuel:=by show m.made+1≤fuel;omega
   have hn1:(fuel-(madeI m f.fn at_).made).toNat<n:=by show(fuel-(m.made+1)).toNat<n;omega
   have hd1:c.depth=(madeI m f.fn at_).depth:=hdep
   have hx1:Ext m (madeI m f.fn at_):=Ext.of_eq rfl
   have hmo:m.made≤(madeI m f.fn at_).made:=by show m.made≤m.made+1;omega
   have hdm:(madeI m f.fn at_).depth=m.depth:=rfl
   generalize madeI m f.fn at_=m1 at *
   generalize madeS sm f.fn at_=sm1 at *
   have lift: ∀ {dfr:Bool} {r:ResI} {q:SM×SF} {m2:MS} {f2:Fr} {par2:Option Fr},m1.made≤m2.made→m2.depth=m1.depth→Ext m1 m2→Par f.dfr par par2→f2.dfr=f.dfr→f2.id=f.id →
     ResR N fuel m2 f2.dfr par2 c.depth f2.id r q→ResR N fuel m f.dfr par c.depth f.id r q:=by
    intro dfr r q m2 f2 par2 g1 g2 g3 g4 g5 gid R
    refine⟨R.rm,R.made,by have:=R.mono;omega,R.none_,fun f' par' h=> ?_⟩
    obtain⟨h1,h2,h3,h4,h5,h6,h7,h8⟩:=R.some_ f' par' h
    rw [g5] at h4 h5
    exact⟨h1,h2.trans (g2.trans hdm),h3,g4.trans h4,h5,(hx1.trans g3).trans h6,h7,h8.trans gid⟩
   by_cases k11:s.f0=11
   ·rw [if_pos k11]
    have hmk:makeS srec sm1 c at_ s=(sm1,c,if 0<sreg c s.f2 then s.f1 else(at_:Int)+1):=by unfold makeS;rw [k11];rfl
    rw [hmk]
    show ResR N fuel m f.dfr par c.depth f.id _ (if sm1.spent=true then _ else _)
    rw [if_neg (show ¬ sm1.spent=true by rw [hsp1];decide),reg_eq hf1]
    have ec:(if 0<reg f s.f2 then s.f1 else(at_:Int)+1)=((if 0<reg f s.f2 then s.f1.toNat else at_+1:Nat):Int):=by
     have:=hs.2.1 k11
     split<;>omega
    rw [ec]
    exact lift (dfr:=f.dfr) (Int.le_refl _) rfl (Ext.refl _) (Par.refl _ _) rfl rfl (ih m1 f par _ sm1 c hm1 hsp1 hle1 hn1 hf1 hfin hd1)
   rw [if_neg k11]
   by_cases k4:s.f0=4
   ·rw [if_pos k4]
    have hmk:makeS srec sm1 c at_ s=innerS srec sm1 c at_ s:=by unfold makeS;rw [if_pos k4]
    have R:=(hrec m1 sm1 s.f1 (reg f s.f2) (some f) false false 0 0 hm1 hsp1 hle1 (reg_num hf1 _) (hs.2.2 (Or.inl k4)) (fun h=>zq120) (fun _=>rfl)).res
    rw [← hd1] at R
    have hin: ∀ sm2 inner,srec sm1 ⟨s.f1,c.depth+1,reg f s.f2,0,0,0,[],0,0,false,false,false,0,false,0⟩=(sm2,inner)→makeS srec sm1 c at_ s =
      (if inner.kind=1 then(sm2,{ c with r2:=inner.r1 },(at_:Int)+1)
      else if inner.kind=2 then(sm2,{ c with kind:=2,value:=inner.value,leaving:=c.leaving||inner.leaving },-1)
      else if inner.kind=3 then(sm2,{ c with kind:=3,leaving:=c.leaving||inner.leaving },-1)
      else(sm2,{ c with leaving:=c.leaving||inner.leaving },-1)):=by
     intro sm2 inner hq
     rw [hmk]
     unfold innerS
     rw [reg_eq hf1,hq]
    generalize hr:rec m1 s.f1 (reg f s.f2) (some f) false=r at *
    generalize hq:srec sm1 ⟨s.f1,c.depth+1,reg f s.f2,0,0,0,[],0,0,false,false,false,0,false,0⟩=q at *
    obtain⟨m2,ro⟩:=r
    obtain⟨sm2,inner⟩:=q
    rw [hin sm2 inner rfl]
    clear hin
    cases ro with
    |none =>
     have hz:sm2.spent=true:=R.none_ rfl
     have hq: ∀ x:SM×SF×Int,x.1=sm2→ ∃ c',(if x.1.spent=true then(x.1,x.2.1) else bodyS srec p fuel n x.1 x.2.1 x.2.2)=(sm2,c'):=by
      rintro⟨a,b,d⟩ rfl
      exact⟨b,if_pos hz⟩
     obtain⟨c',hc'⟩:=hq (if inner.kind=1 then(sm2,{ c with r2:=inner.r1 },(at_:Int)+1)
      else if inner.kind=2 then(sm2,{ c with kind:=2,value:=inner.value,leaving:=c.leaving||inner.leaving },-1)
      else if inner.kind=3 then(sm2,{ c with kind:=3,leaving:=c.leaving||inner.leaving },-1)
      else(sm2,{ c with leaving:=c.leaving||inner.leaving },-1)) (by(repeat' split)<;>rfl)
     show ResR N fuel m f.dfr par c.depth f.id (m2,none) _
     refine Eq.mpr (congrArg _ hc') ?_
     exact⟨R.rm,R.made,by have:=R.mono;exact Int.le_trans hmo this,fun _=>hz,fun f' par' h=>zq120⟩
    |some dp =>
     obtain⟨d,par2⟩:=dp
     obtain⟨hz,hd2,hrf,hpar,hdd,hx2,-,-⟩:=R.some_ d par2 rfl
     unfold Par at hpar
     rw [if_neg zq83] at hpar
     subst hpar
     have hm2:=R.rm
     have hle2:=R.made
     have hmo2:=R.mono
     simp only at hz hd2 hrf hx2 hm2 hle2 hmo2
     have hf2:RF N m2 f par c:=hf1.mono hx2
     show ResR N fuel m f.dfr par c.depth f.id (if d.fin=1 then _ else _) _
     rw [hrf.kind]
     by_cases hd:d.fin=1
     ·rw [if_pos hd,if_pos hd]
      show ResR N fuel m f.dfr par c.depth f.id _ (if sm2.spent=true then _ else _)
      rw [if_neg (show ¬ sm2.spent=true by rw [hz];decide),hrf.left hd,Bool.or_false,hrf.r1]
      have hf3:RF N m2 { f with r2:=d.r1 } par { c with r2:=d.r1 } := { hf2 with r2:=rfl,n2:=hrf.n1 }
      have:=ih m2 { f with r2:=d.r1 } par (at_+1) sm2 { c with r2:=d.r1 } hm2 hz hle2 zq90 hf3 hfin (hd1.trans hd2.symm)
      exact lift (dfr:=f.dfr) (m2:=m2) (f2:= { f with r2:=d.r1 }) hmo2 hd2 hx2 (Par.refl _ _) rfl rfl this
     ·rw [if_neg hd,if_neg hd]
      have fin_: ∀ (c':SF),RF N m2 { f with leaving:=f.leaving||d.leaving,fin:=d.fin,pan:=d.pan } par c'→c'.depth=c.depth →
        ResR N fuel m f.dfr par c.depth f.id (m2,some ({ f with leaving:=f.leaving||d.leaving,fin:=d.fin,pan:=d.pan },par)) (sm2,c'):=by
       intro c' hc' hcd
       refine⟨hm2,hle2,Int.le_trans hmo hmo2,fun h=>zq120,fun f' par' h=> ?_⟩
       cases h
       exact⟨hz,hd2.trans hdm,hc',Par.refl _ _,rfl,hx1.trans hx2,hcd,rfl⟩
      have stop: ∀ (c':SF),(if sm2.spent=true then(sm2,c') else bodyS srec p fuel n sm2 c' (-1))=(sm2,c'):=by
       intro c'
       rw [if_neg (show ¬ sm2.spent=true by rw [hz];decide)]
       cases n with
       |zero=>rfl
       |succ n=>rw [bodyS,if_neg zq90]
      by_cases hk:d.fin=2
      ·rw [if_pos hk]
       refine Eq.mpr (congrArg _ (stop _)) (fin_ _ ?_ rfl)
       exact { hf2 with kind:=hk.symm,leaving:=(by show(c.leaving||inner.leaving)=(f.leaving||d.leaving);rw [hf2.leaving,hrf.leaving]),fin:=hrf.fin,left:=(fun h=>absurd h hd),pan:=hrf.pan }
      ·rw [if_neg hk]
       have h3:d.fin=3:=by
        rcases hrf.fin with h|h|h
        ·exact absurd h hd
        ·exact absurd h hk
        ·exact h
       rw [if_pos h3]
       refine Eq.mpr (congrArg _ (stop _)) (fin_ _ ?_ rfl)
       exact { hf2 with kind:=h3.symm,leaving:=(by show(c.leaving||inner.leaving)=(f.leaving||d.leaving);rw [hf2.leaving,hrf.leaving]),fin:=hrf.fin,left:=(fun h=>absurd h hd),pan:=(fun h=>absurd h hk) }
   ·rw [if_neg k4]
    have R:=stepI_eq (rec:=srec) (at_:=(at_:Int)) hs hm1 hf1 k4 k11
    have hdq:=makeS_depth srec sm1 c at_ s k4
    generalize stepI m1 f par s=r at *
    generalize makeS srec sm1 c at_ s=q at *
    obtain⟨m2,f2,par2,b⟩:=r
    obtain⟨sm2,c2,a2⟩:=q
    have hz:sm2.spent=false:=R.spent.trans hsp1
    have hmade2:m2.made=m1.made:=R.made
    have hle2:m2.made≤fuel:=by rw [hmade2];exact hle1
    show ResR N fuel m f.dfr par c.depth f.id _ (if sm2.spent=true then _ else bodyS srec p fuel n sm2 c2 a2)
    rw [if_neg (show ¬ sm2.spent=true by rw [hz];decide)]
    cases b with
    |true =>
     have ha:a2= -1:=R.next
     show ResR N fuel m f.dfr par c.depth f.id (m2,some (f2,par2)) _
     have stop:bodyS srec p fuel n sm2 c2 a2=(sm2,c2):=by
      rw [ha]
      cases n with
      |zero=>rfl
      |succ n=>rw [bodyS,if_neg zq90]
     rw [stop]
     refine⟨R.rm,hle2,by show m.made≤m2.made;omega,fun h=>zq120,fun f' par' h=> ?_⟩
     cases h
     exact⟨hz,R.depth.trans hdm,R.rf,R.par,R.dfr,hx1.trans R.ext,hdq,R.id⟩
    |false =>
     have ha:a2=(at_:Int)+1:=R.next
     show ResR N fuel m f.dfr par c.depth f.id (bodyI rec p fuel n m2 f2 par2 (at_+1)) _
     rw [ha]
     have:=ih m2 f2 par2 (at_+1) sm2 c2 R.rm hz hle2 zq90 R.rf ((R.fin rfl).trans hfin) (hdq.trans (hd1.trans R.depth.symm))
     have hdq':c2.depth=c.depth:=hdq
     rw [hdq'] at this
     exact lift (dfr:=f.dfr) (Int.le_of_eq hmade2.symm) R.depth R.ext R.par R.dfr R.id this
theorem behind_eq {N:Int} {m:MS} {sm:SM} {f d:Fr} {par:Option Fr} {c inner:SF} {rest:List (Int×Int)} {v:Int} (hm:RM m sm)(hf:RF N m f par c)(hd:RF N m d (some { f with runs:=rest,r1:=v }) inner)(hdd:d.dfr=true)(hr: ∀ x∈rest,Num x.2∧0≤x.1∧x.1<N) :
  RM (behindI m { f with runs:=rest,r1:=v } d).1 sm∧Ext m (behindI m { f with runs:=rest,r1:=v } d).1∧(behindI m { f with runs:=rest,r1:=v } d).1.made=m.made∧(behindI m { f with runs:=rest,r1:=v } d).1.depth=m.depth
  ∧(behindI m { f with runs:=rest,r1:=v } d).2.dfr=f.dfr∧(behindI m { f with runs:=rest,r1:=v } d).2.runs=rest∧(behindI m { f with runs:=rest,r1:=v } d).2.id=f.id
  ∧RF N (behindI m { f with runs:=rest,r1:=v } d).1 (behindI m { f with runs:=rest,r1:=v } d).2 par
   (lastC c inner rest):=by
 obtain⟨pf,hpf,hou,hnv,-,-⟩:=hd.par hdd
 injection hpf with hpf
 subst hpf
 have hou:inner.outer=v:=hou
 have hnv:Num v:=hnv
 have hlv:(c.leaving||inner.leaving)=(f.leaving||d.leaving):=by rw [hf.leaving,hd.leaving]
 have base:RF N m { f with runs:=rest,r1:=v,leaving:=f.leaving||d.leaving,fin:=3 } par { c with defers:=rest,r1:=inner.outer,leaving:=c.leaving||inner.leaving,kind:=3 } :=
  {hf with defers:=rfl,runs:=hr,r1:=hou,n1:=hnv,leaving:=hlv,kind:=rfl,fin:=Or.inr (Or.inr rfl),left:=(fun h=>zq120),pan:=(fun h=>zq120) }
 rcases hd.fin with h|h|h
 ·
  have hk:inner.kind=1:=hd.kind.trans h
  have hdl:=hd.left h
  have n3: ¬ inner.kind=3:=by rw [hk];decide
  have n2: ¬ inner.kind=2:=by rw [hk];decide
  by_cases hc:d.counted=true
  ·have e:behindI m { f with runs:=rest,r1:=v } d=(m,{ f with runs:=rest,r1:=v,leaving:=f.leaving||d.leaving,fin:=if(f.leaving||d.leaving)=true then 3 else 1 }):=by
    unfold behindI;rw [h]
    show(if d.counted=true then _ else _)=_
    rw [if_pos hc]
   rw [e]
   refine⟨hm,Ext.refl _,rfl,rfl,rfl,rfl,rfl,?_⟩
   have ek:(lastC c inner rest).kind=if(f.leaving||d.leaving)=true then 3 else 1:=by
    show(if inner.kind=3 then 3 else if inner.kind=2 then 2 else if inner.recovered=true then(if(c.leaving||inner.leaving)=true then 3 else 1) else c.kind:Int)=_
    rw [if_neg n3,if_neg n2,if_pos (hd.recovered.trans hc),hlv]
   have ev:(lastC c inner rest).value=c.value:=if_neg n2
   by_cases hl:(f.leaving||d.leaving)=true
   ·rw [if_pos hl] at ek ⊢
    exact { base with kind:=ek,pan:=(fun h=>zq120) }
   ·rw [if_neg hl] at ek ⊢
    exact { base with kind:=ek,fin:=Or.inl rfl,left:=(fun _=>Bool.eq_false_iff.2 hl),pan:=(fun h=>zq120) }
  ·have e:behindI m { f with runs:=rest,r1:=v } d=(m,{ f with runs:=rest,r1:=v,leaving:=f.leaving||d.leaving }):=by
    unfold behindI;rw [h]
    show(if d.counted=true then _ else _)=_
    rw [if_neg hc]
   rw [e]
   refine⟨hm,Ext.refl _,rfl,rfl,rfl,rfl,rfl,?_⟩
   have ek:(lastC c inner rest).kind=c.kind:=by
    show(if inner.kind=3 then 3 else if inner.kind=2 then 2 else if inner.recovered=true then(if(c.leaving||inner.leaving)=true then 3 else 1) else c.kind:Int)=_
    rw [if_neg n3,if_neg n2,if_neg (fun h=>hc (hd.recovered.symm.trans h))]
   have ev:(lastC c inner rest).value=c.value:=if_neg n2
   exact { hf with kind:=ek.trans hf.kind,pan:=(fun h=>⟨(hf.pan h).1,ev.trans (hf.pan h).2⟩),defers:=rfl,runs:=hr,r1:=hou,n1:=hnv,leaving:=hlv,left:=(fun h1=>by show(f.leaving||d.leaving)=false;rw [hf.left h1,hdl];rfl) }
 ·
  have hk:inner.kind=2:=hd.kind.trans h
  have n3: ¬ inner.kind=3:=by rw [hk];decide
  have ek:(lastC c inner rest).kind=2:=by
   show(if inner.kind=3 then 3 else if inner.kind=2 then 2 else if inner.recovered=true then(if(c.leaving||inner.leaving)=true then 3 else 1) else c.kind:Int)=_
   rw [if_neg n3,if_pos hk]
  have ev:(lastC c inner rest).value=inner.value:=if_pos hk
  have e:(behindI m { f with runs:=rest,r1:=v } d).2= { f with runs:=rest,r1:=v,leaving:=f.leaving||d.leaving,fin:=2,pan:=d.pan } :=by
   unfold behindI;rw [h];rfl
  have e1:(behindI m { f with runs:=rest,r1:=v } d).1=(if f.fin=2∧d.counted=false then
    setPan (setPan m f.pan { panAt m f.pan with fate:=2,by_:=d.pan }) d.pan { panAt (setPan m f.pan { panAt m f.pan with fate:=2,by_:=d.pan }) d.pan with last:=f.pan } else m):=by
   unfold behindI;rw [h];rfl
  obtain⟨hvd,hpd⟩:=hd.pan h
  have key:RM (behindI m { f with runs:=rest,r1:=v } d).1 sm∧Ext m (behindI m { f with runs:=rest,r1:=v } d).1∧(behindI m { f with runs:=rest,r1:=v } d).1.made=m.made∧(behindI m { f with runs:=rest,r1:=v } d).1.depth=m.depth:=by
   rw [e1]
   by_cases hon:f.fin=2∧d.counted=false
   ·rw [if_pos hon]
    have hvf:=(hf.pan hon.1).1
    have x1:Ext m (setPan m f.pan { panAt m f.pan with fate:=2,by_:=d.pan }):=setPan_ext rfl
    have m1:RM (setPan m f.pan { panAt m f.pan with fate:=2,by_:=d.pan }) sm:=hm.pan _ _ (panAt_num hm.vals _ hvf) (panAt_unw hm _)
    have v1:=m1.vals
    have x2:=setPan_ext (m:=setPan m f.pan { panAt m f.pan with fate:=2,by_:=d.pan }) (i:=d.pan) (q:= { panAt (setPan m f.pan { panAt m f.pan with fate:=2,by_:=d.pan }) d.pan with last:=f.pan }) rfl
    exact⟨m1.pan d.pan { panAt (setPan m f.pan { panAt m f.pan with fate:=2,by_:=d.pan }) d.pan with last:=f.pan } (panAt_num v1 _ (x1.valid hvd)) (panAt_unw m1 _),x1.trans x2,rfl,rfl⟩
   ·rw [if_neg hon]
    exact⟨hm,Ext.refl _,rfl,rfl⟩
  refine⟨key.1,key.2.1,key.2.2.1,key.2.2.2,by rw [e],by rw [e],by rw [e],?_⟩
  rw [e]
  have hx:=key.2.1
  have b1:RF N (behindI m { f with runs:=rest,r1:=v } d).1 { f with runs:=rest,r1:=v,leaving:=f.leaving||d.leaving,fin:=3 } par { c with defers:=rest,r1:=inner.outer,leaving:=c.leaving||inner.leaving,kind:=3 } :=base.mono hx
  exact { b1 with kind:=ek,fin:=Or.inr (Or.inl rfl),left:=(fun h=>zq120),pan:=(fun _=>⟨hx.valid hvd,ev.trans (hpd.trans (hx.val _ hvd).symm)⟩) }
 ·
  have hk:inner.kind=3:=hd.kind.trans h
  have ek:(lastC c inner rest).kind=3:=if_pos hk
  have e:(behindI m { f with runs:=rest,r1:=v } d).2= { f with runs:=rest,r1:=v,leaving:=f.leaving||d.leaving,fin:=3 } :=by
   unfold behindI;rw [h];rfl
  have e1:(behindI m { f with runs:=rest,r1:=v } d).1=(if f.fin=2∧d.counted=false then setPan m f.pan { panAt m f.pan with fate:=4 } else m):=by
   unfold behindI;rw [h];rfl
  have key:RM (behindI m { f with runs:=rest,r1:=v } d).1 sm∧Ext m (behindI m { f with runs:=rest,r1:=v } d).1∧(behindI m { f with runs:=rest,r1:=v } d).1.made=m.made∧(behindI m { f with runs:=rest,r1:=v } d).1.depth=m.depth:=by
   rw [e1]
   by_cases hon:f.fin=2∧d.counted=false
   ·rw [if_pos hon]
    exact⟨hm.pan _ _ (panAt_num hm.vals _ (hf.pan hon.1).1) (panAt_unw hm _),setPan_ext rfl,rfl,rfl⟩
   ·rw [if_neg hon]
    exact⟨hm,Ext.refl _,rfl,rfl⟩
  refine⟨key.1,key.2.1,key.2.2.1,key.2.2.2,by rw [e],by rw [e],by rw [e],?_⟩
  rw [e]
  have b1:RF N (behindI m { f with runs:=rest,r1:=v } d).1 { f with runs:=rest,r1:=v,leaving:=f.leaving||d.leaving,fin:=3 } par { c with defers:=rest,r1:=inner.outer,leaving:=c.leaving||inner.leaving,kind:=3 } :=base.mono key.2.1
  exact { b1 with kind:=ek,pan:=(fun h=>zq120) }
theorem runs_eq {N fuel:Int} {rec:MS→Int→Int→Option Fr→Bool→ResI} {srec:SM→SF→SM×SF} (hrec:RecR N fuel rec srec) :
  ∀ (l:List (Int×Int)) (m:MS) (f:Fr) (par:Option Fr) (sm:SM) (c:SF),RM m sm→sm.spent=false→m.made≤fuel →
   RF N m f par c→f.runs=l.reverse→c.depth=m.depth→ResR N fuel m f.dfr par c.depth f.id (runsI rec l m f par) (defersS srec l sm c):=by
 intro l
 induction l with
 |nil =>
  intro m f par sm c hm hsp hle hf hl hdep
  refine⟨hm,hle,Int.le_refl _,fun h=>zq120,?_⟩
  intro f' par' h
  cases h
  refine⟨hsp,rfl,?_,Par.refl _ _,rfl,Ext.refl _,rfl,rfl⟩
  have:f.runs= []:=hl
  exact { hf with defers:=hf.defers.trans this,runs:=fun x hx=>(by cases hx) }
 |cons ga l ih =>
  obtain⟨g,a⟩:=ga
  intro m f par sm c hm hsp hle hf hl hdep
  have hrl: ∀ x∈l.reverse,Num x.2∧0≤x.1∧x.1<N:=fun x hx=>hf.runs x (by rw [hl,List.reverse_cons];exact List.mem_append_left _ hx)
  have hna:Num a∧0≤g∧g<N:=hf.runs (g,a) (by rw [hl,List.reverse_cons];exact List.mem_append_right _ (List.mem_singleton.2 rfl))
  have R:=(hrec m sm g a (some { f with runs:=l.reverse }) true (decide (c.kind=2)) (if c.kind=2 then c.value else 0) c.r1 hm hsp hle hna.1 hna.2
   (fun _=>⟨_,rfl,hf.r1,hf.n1,by rw [hf.kind],fun hp=>⟨(hf.pan hp).1,by rw [if_pos (hf.kind.trans hp)];exact(hf.pan hp).2⟩⟩) (fun h=>zq120)).res
  rw [← hdep] at R
  rw [runsI,defersS]
  have hla: ∀ sm2 inner,srec sm ⟨g,c.depth+1,a,0,0,0,[],0,0,false,true,decide (c.kind=2),if c.kind=2 then c.value else 0,false,c.r1⟩=(sm2,inner) →
    lastS srec sm c g a l.reverse=(if sm2.spent=true then(sm2,{ c with defers:=l.reverse }) else(sm2,lastC c inner l.reverse)):=by
   intro sm2 inner hq
   unfold lastS
   rw [hq]
  generalize hr:rec m g a (some { f with runs:=l.reverse }) true=r at *
  generalize hq:srec sm ⟨g,c.depth+1,a,0,0,0,[],0,0,false,true,decide (c.kind=2),if c.kind=2 then c.value else 0,false,c.r1⟩=q at *
  obtain⟨m2,ro⟩:=r
  obtain⟨sm2,inner⟩:=q
  rw [hla sm2 inner rfl]
  clear hla
  cases ro with
  |none =>
   have hz:sm2.spent=true:=R.none_ rfl
   rw [if_pos hz]
   show ResR N fuel m f.dfr par c.depth f.id (m2,none) (if sm2.spent=true then _ else _)
   rw [if_pos hz]
   exact⟨R.rm,R.made,R.mono,fun _=>hz,fun f' par' h=>zq120⟩
  |some dp =>
   obtain⟨d,par2⟩:=dp
   obtain⟨hz,hd2,hrf,hpar,hdd,hx2,-,-⟩:=R.some_ d par2 rfl
   have hz:sm2.spent=false:=hz
   have hz': ¬ sm2.spent=true:=by rw [hz];decide
   obtain⟨v,hv⟩:=(by unfold Par at hpar;rw [if_pos rfl] at hpar;exact hpar _ rfl: ∃ v,par2=some { f with runs:=l.reverse,r1:=v })
   subst hv
   have hm2:RM m2 sm2:=R.rm
   have hle2:m2.made≤fuel:=R.made
   have hmo2:m.made≤m2.made:=R.mono
   have hd2:m2.depth=m.depth:=hd2
   have hx2:Ext m m2:=hx2
   obtain⟨b1,b2,b3,b4,b5,b6,bid,b7⟩:=behind_eq (rest:=l.reverse) (v:=v) hm2 (hf.mono hx2) hrf hdd hrl
   rw [if_neg hz']
   show ResR N fuel m f.dfr par c.depth f.id (runsI rec l (behindI m2 { f with runs:=l.reverse,r1:=v } d).1 (behindI m2 { f with runs:=l.reverse,r1:=v } d).2 par) (if sm2.spent=true then _ else _)
   rw [if_neg hz']
   have hcd:(lastC c inner l.reverse).depth=c.depth:=rfl
   have:=ih _ _ par sm2 _ b1 hz (by rw [b3];exact hle2) b7 b6 (hcd.trans (hdep.trans (hd2.symm.trans b4.symm)))
   rw [hcd,b5,bid] at this
   refine⟨this.rm,this.made,by have:=this.mono;rw [b3] at this;exact Int.le_trans hmo2 this,this.none_,?_⟩
   intro f' par' h
   obtain⟨h1,h2,h3,h4,h5,h6,h7,h8⟩:=this.some_ f' par' h
   exact⟨h1,h2.trans (b4.trans hd2),h3,h4,h5,(hx2.trans b2).trans h6,h7,h8⟩
theorem finish_eq {N:Int} {m:MS} {sm:SM} {f:Fr} {par:Option Fr} {c:SF} (hm:RM m sm)(hf:RF N m f par c):RM (finishI m f) (endS sm c)∧Ext m (finishI m f)∧(finishI m f).made=m.made∧(endS sm c).spent=sm.spent:=by
 rcases hf.fin with h|h|h
 ·have e:finishI m f=tell { m with calls:=m.calls.set f.id.toNat { m.calls.getD f.id.toNat ⟨0,0,false,0,0,0⟩ with fin:=f.fin,val:=f.r1 } } 7 f.fn f.r1 f.id:=by
   unfold finishI;rw [h];rfl
  have e2:endS sm c=stell sm 7 c.f c.r1:=by unfold endS;rw [hf.kind,h];rfl
  rw [e,e2,hf.fn,hf.r1]
  exact⟨hm.tellEnd _ _ _ _ _ _,Ext.of_eq rfl (Nat.le_of_eq (List.length_set ..).symm),rfl,rfl⟩
 ·have e:finishI m f=tell { setPan m f.pan { panAt m f.pan with unw:=(panAt m f.pan).unw++ [f.fn] } with calls:=m.calls.set f.id.toNat { m.calls.getD f.id.toNat ⟨0,0,false,0,0,0⟩ with fin:=f.fin,val:=(panAt m f.pan).val } } 8 f.fn (panAt m f.pan).val f.id:=by
   unfold finishI;rw [h];rfl
  have e2:endS sm c=stell sm 8 c.f c.value:=by unfold endS;rw [hf.kind,h];rfl
  obtain⟨hv,hp⟩:=hf.pan h
  rw [e,e2,hf.fn,hp]
  have x1:Ext m (setPan m f.pan { panAt m f.pan with unw:=(panAt m f.pan).unw++ [f.fn] }):=setPan_ext rfl
  exact⟨hm.tellUnw f.pan { panAt m f.pan with unw:=(panAt m f.pan).unw++ [f.fn] } (panAt_num hm.vals _ hv) (by show((panAt m f.pan).unw++ [f.fn]).length≤_;rw [len1];exact Nat.succ_le_succ (panAt_unw hm _)) _ _ _ _ _ _,x1.trans (Ext.of_eq rfl (Nat.le_of_eq (List.length_set ..).symm)),rfl,rfl⟩
 ·have e:finishI m f=tell { m with calls:=m.calls.set f.id.toNat { m.calls.getD f.id.toNat ⟨0,0,false,0,0,0⟩ with fin:=f.fin,val:=0 } } 9 f.fn 0 f.id:=by
   unfold finishI;rw [h];rfl
  have e2:endS sm c=stell sm 9 c.f 0:=by unfold endS;rw [hf.kind,h];rfl
  rw [e,e2,hf.fn]
  exact⟨hm.tellEnd _ _ _ _ _ _,Ext.of_eq rfl (Nat.le_of_eq (List.length_set ..).symm),rfl,rfl⟩
theorem call_eq {N:Int} {p:List (List St)} {fuel:Int} (hp:ProgOk N p)(R:Nat)(hfu:fuel<R): ∀ d,RecR N fuel (callI p fuel R d) (callS p fuel R d):=by
 intro d
 induction d with
 |zero =>
  intro m sm fn arg par dfr pk pv ou hm hsp hle hna hfn hpar hnd
  exact⟨⟨{ hm with },hle,Int.le_refl _,fun _=>rfl,fun f' par' h=>zq120⟩,fun f' par' h=>zq120⟩
 |succ d ih =>
  intro m sm fn arg par dfr pk pv ou hm hsp hle hna hfn hpar hnd
  rw [callI,callS]
  have hb:RM (beginI m fn arg par dfr) (beginS sm ⟨fn,m.depth+1,arg,0,0,0,[],0,0,false,dfr,pk,pv,false,ou⟩) :=
   {hm.tellCall ⟨fn,parId par,dfr,4,0,arg⟩ (if dfr=true then 3 else 1) fn arg m.calls.length with
    deep:=by show(if sm.deep<m.depth+1 then _ else sm.deep)=(if m.deepest<m.depth+1 then _ else m.deepest);rw [hm.deep] }
  have hx:Ext m (beginI m fn arg par dfr):=Ext.of_eq rfl (by show m.calls.length≤(m.calls++ [_]).length;rw [List.length_append];omega)
  have hf:RF N (beginI m fn arg par dfr) (frameI m fn arg dfr) par ⟨fn,m.depth+1,arg,0,0,0,[],1,0,false,dfr,pk,pv,false,ou⟩:=by
   refine⟨rfl,rfl,rfl,rfl,rfl,hna,num0,num0,num0,rfl,fun x hx=>(by cases hx),⟨Int.natCast_nonneg _,by show(m.calls.length:Int)<((m.calls++ [_]).length:Nat);rw [len1];omega⟩,hfn,rfl,rfl,rfl,rfl,Or.inl rfl,fun _=>rfl,fun h=>zq120,?_,hnd⟩
   intro hd
   obtain⟨pf,h1,h2,h3,h4,h5⟩:=hpar hd
   exact⟨pf,h1,h2,h3,h4,fun hp=>⟨hx.valid (h5 hp).1,(h5 hp).2.trans (hx.val _ (h5 hp).1).symm⟩⟩
  have B:=body_eq hp ih R (beginI m fn arg par dfr) (frameI m fn arg dfr) par 0 (beginS sm ⟨fn,m.depth+1,arg,0,0,0,[],0,0,false,dfr,pk,pv,false,ou⟩) ⟨fn,m.depth+1,arg,0,0,0,[],1,0,false,dfr,pk,pv,false,ou⟩ hb hsp hle (by have:=hm.pos;show(fuel-m.made).toNat<R;omega) hf rfl rfl
  show CallR N fuel m dfr par _ (match bodyS (callS p fuel R d) p fuel R (beginS sm ⟨fn,m.depth+1,arg,0,0,0,[],0,0,false,dfr,pk,pv,false,ou⟩) ⟨fn,m.depth+1,arg,0,0,0,[],1,0,false,dfr,pk,pv,false,ou⟩ ((0:Nat):Int) with
   |(m,c)=>if m.spent=true then(m,c) else
    match defersS (callS p fuel R d) c.defers.reverse m c with
    |(m,c)=>if m.spent=true then(m,c) else(endS m c,c))
  have hdb:(beginI m fn arg par dfr).depth=m.depth+1:=rfl
  have hmb:(beginI m fn arg par dfr).made=m.made:=rfl
  have hdf:(frameI m fn arg dfr).dfr=dfr:=rfl
  have hidf:(frameI m fn arg dfr).id=m.calls.length:=rfl
  have hc0:(⟨fn,m.depth+1,arg,0,0,0,[],1,0,false,dfr,pk,pv,false,ou⟩:SF).depth=m.depth+1:=rfl
  rw [hdf,hc0,hidf] at B
  generalize bodyI (callI p fuel R d) p fuel R (beginI m fn arg par dfr) (frameI m fn arg dfr) par 0=r at *
  generalize bodyS (callS p fuel R d) p fuel R (beginS sm ⟨fn,m.depth+1,arg,0,0,0,[],0,0,false,dfr,pk,pv,false,ou⟩) ⟨fn,m.depth+1,arg,0,0,0,[],1,0,false,dfr,pk,pv,false,ou⟩ ((0:Nat):Int)=q at *
  obtain⟨m1,ro⟩:=r
  obtain⟨sm1,c1⟩:=q
  have hmo1:m.made≤m1.made:=by have:=B.mono;rw [hmb] at this;exact this
  cases ro with
  |none =>
   have hz:sm1.spent=true:=B.none_ rfl
   show CallR N fuel m dfr par (m1,none) (if sm1.spent=true then _ else _)
   rw [if_pos hz]
   exact⟨⟨B.rm,B.made,hmo1,fun _=>hz,fun f' par' h=>zq120⟩,fun f' par' h=>zq120⟩
  |some fp =>
   obtain⟨f1,par1⟩:=fp
   obtain⟨hz,hd1,hf1,hp1,hdf1,hx1,hcd1,hi1⟩:=B.some_ f1 par1 rfl
   have hz: ¬ sm1.spent=true:=by rw [show sm1.spent=false from hz];decide
   have hd1:m1.depth=m.depth+1:=hd1
   have hcd1:c1.depth=m.depth+1:=hcd1
   have Q:=runs_eq ih f1.runs.reverse m1 f1 par1 sm1 c1 B.rm (Bool.eq_false_iff.2 hz) B.made hf1 (List.reverse_reverse _).symm (hcd1.trans hd1.symm)
   rw [hdf1,hcd1,hi1] at Q
   show CallR N fuel m dfr par (match runsI (callI p fuel R d) f1.runs.reverse m1 f1 par1 with
    |(m,none)=>(m,none)
    |(m,some (f,par))=>({ finishI m f with depth:=m.depth-1 },some (f,par))) (if sm1.spent=true then _ else match defersS (callS p fuel R d) c1.defers.reverse sm1 c1 with
    |(m,c)=>if m.spent=true then(m,c) else(endS m c,c))
   rw [if_neg hz,hf1.defers]
   generalize runsI (callI p fuel R d) f1.runs.reverse m1 f1 par1=r at *
   generalize defersS (callS p fuel R d) f1.runs.reverse sm1 c1=q at *
   obtain⟨m2,ro⟩:=r
   obtain⟨sm2,c2⟩:=q
   have hmo2:m1.made≤m2.made:=Q.mono
   cases ro with
   |none =>
    have hz2:sm2.spent=true:=Q.none_ rfl
    show CallR N fuel m dfr par (m2,none) (if sm2.spent=true then _ else _)
    rw [if_pos hz2]
    exact⟨⟨Q.rm,Q.made,Int.le_trans hmo1 hmo2,fun _=>hz2,fun f' par' h=>zq120⟩,fun f' par' h=>zq120⟩
   |some fp =>
    obtain⟨f2,par2⟩:=fp
    obtain⟨hz2,hd2,hf2,hp2,hdf2,hx2,hcd2,hi2⟩:=Q.some_ f2 par2 rfl
    have hz2: ¬ sm2.spent=true:=by rw [show sm2.spent=false from hz2];decide
    have hd2:m2.depth=m1.depth:=hd2
    obtain⟨g1,g2,g3,g4⟩:=finish_eq (show RM m2 sm2 from Q.rm) hf2
    show CallR N fuel m dfr par ({ finishI m2 f2 with depth:=m2.depth-1 },some (f2,par2)) (if sm2.spent=true then _ else _)
    rw [if_neg hz2]
    have hle2:m2.made≤fuel:=Q.made
    refine⟨⟨{ g1 with },by show(finishI m2 f2).made≤fuel;rw [g3];exact hle2,by show m.made≤(finishI m2 f2).made;rw [g3];exact Int.le_trans hmo1 hmo2,fun h=>zq120,?_⟩,?_⟩
    ·intro f' par' h
     cases h
     have hx3:Ext m2 { finishI m2 f2 with depth:=m2.depth-1 } :=g2.trans (Ext.of_eq rfl)
     exact⟨g4.trans (Bool.eq_false_iff.2 hz2),by show m2.depth-1=m.depth;omega,hf2.mono hx3,hp1.trans hp2,hdf2,((hx.trans hx1).trans hx2).trans hx3,hcd2,hi2⟩
    ·intro f' par' h
     cases h
     have hl:m.calls.length<m2.calls.length:=by
      have h1:=hx1.calls
      have h2:m1.calls.length≤m2.calls.length:=hx2.calls
      have h3:(beginI m fn arg par dfr).calls.length=m.calls.length+1:=by show(m.calls++ [_]).length=_;rw [List.length_append];rfl
      have h4:(beginI m fn arg par dfr).calls.length≤m1.calls.length:=h1
      omega
     have hid:f2.id.toNat=m.calls.length:=by rw [hi2];rfl
     show((finishI m2 f2).calls.getD m.calls.length ciz).val=endVal { finishI m2 f2 with depth:=m2.depth-1 } f2
     have hval: ∀ x:CI,((m2.calls.set f2.id.toNat x).getD m.calls.length ciz)=x:=by
      intro x
      rw [hid,List.getD_eq_getElem?_getD,List.getElem?_set_self hl];rfl
     unfold endVal
     rcases hf2.fin with h|h|h
     ·rw [if_pos h]
      unfold finishI
      rw [h]
      show((m2.calls.set f2.id.toNat _).getD m.calls.length ciz).val=_
      rw [hval];rfl
     ·have hn: ¬ f2.fin=1:=by rw [h];decide
      rw [if_neg hn,if_pos h]
      have hv:=(hf2.pan h).1
      have hx3:Ext m2 { finishI m2 f2 with depth:=m2.depth-1 } :=g2.trans (Ext.of_eq rfl)
      rw [hx3.val _ hv]
      unfold finishI
      rw [h]
      show((m2.calls.set f2.id.toNat _).getD m.calls.length ciz).val=_
      rw [hval];rfl
     ·have hn: ¬ f2.fin=1:=by rw [h];decide
      have hn2: ¬ f2.fin=2:=by rw [h];decide
      rw [if_neg hn,if_neg hn2]
      unfold finishI
      rw [h]
      show((m2.calls.set f2.id.toNat _).getD m.calls.length ciz).val=_
      rw [hval];rfl
theorem ran_rel {N:Int} {p:List (List St)} {fuel:Int} (hp:ProgOk N p)(R:Nat)(hf0:0≤fuel)(hfu:fuel<R)(f arg shared:Int)(hfn:0≤f∧f<N)(ha:Num arg)(hs:Num shared) :
  CallR N fuel (ms0 shared) false none (callI p fuel R 8 (ms0 shared) f arg none false) (callS p fuel R 8 ⟨false,shared,0,0,[],[]⟩ ⟨f,1,arg,0,0,0,[],0,0,false,false,false,0,false,0⟩) :=
 call_eq hp R hfu 8 (ms0 shared) ⟨false,shared,0,0,[],[]⟩ f arg none false false 0 0 ⟨rfl,rfl,rfl,rfl,rfl,hs,Int.le_refl _,rfl,Nat.le_refl _,Nat.le_refl _,Nat.le_refl _,fun q hq=>(by cases hq),fun q hq=>(by cases hq)⟩ rfl hf0 ha hfn (fun h=>zq120) (fun _=>rfl)
theorem ran_eq {N:Int} {p:List (List St)} {fuel:Int} (hp:ProgOk N p)(R:Nat)(hf0:0≤fuel)(hfu:fuel<R)(f arg:Int)(hfn:0≤f∧f<N)(ha:Num arg):runS p R f arg fuel=(ranI p R f arg fuel 0).2:=by
 have C:=ran_rel hp R hf0 hfu f arg 0 hfn ha num0
 unfold runS ranI
 generalize callI p fuel R 8 (ms0 0) f arg none false=r at *
 generalize callS p fuel R 8 ⟨false,0,0,0,[],[]⟩ ⟨f,1,arg,0,0,0,[],0,0,false,false,false,0,false,0⟩=q at *
 obtain⟨m,ro⟩:=r
 obtain⟨sm,c⟩:=q
 have hm:RM m sm:=C.res.rm
 cases ro with
 |none =>
  have hz:sm.spent=true:=C.res.none_ rfl
  show(⟨if sm.spent=true then 4 else c.kind,if sm.spent=true then 0 else _,sm.trace,sm.made⟩:OutM)=⟨4,0,m.trace,m.made⟩
  rw [if_pos hz,if_pos hz,hm.trace,hm.made]
 |some fp =>
  obtain⟨fr,par⟩:=fp
  obtain⟨hz,-,hf,-,-,-,-,-⟩:=C.res.some_ fr par rfl
  have hz:sm.spent=false:=hz
  have hz': ¬ sm.spent=true:=by rw [hz];decide
  have hv:(m.calls.getD 0 ciz).val=endVal m fr:=C.fin fr par rfl
  show(⟨if sm.spent=true then 4 else c.kind,if sm.spent=true then 0 else _,sm.trace,sm.made⟩:OutM)=⟨fr.fin,(m.calls.getD 0 ciz).val,m.trace,m.made⟩
  rw [if_neg hz',if_neg hz',hm.trace,hm.made,hv,hf.kind]
  unfold endVal
  rcases hf.fin with h|h|h
  ·rw [if_pos h,if_pos h,hf.r1]
  ·have hn: ¬ fr.fin=1:=by rw [h];decide
   rw [if_neg hn,if_neg hn,if_pos h,if_pos h,(hf.pan h).2]
  ·have hn: ¬ fr.fin=1:=by rw [h];decide
   have hn2: ¬ fr.fin=2:=by rw [h];decide
   rw [if_neg hn,if_neg hn,if_neg hn2,if_neg hn2]
end Go.Proofs.Yteiafboknimgbaa.Pr.M
end
