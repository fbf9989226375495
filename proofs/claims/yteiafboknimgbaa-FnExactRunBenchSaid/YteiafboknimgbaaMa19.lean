import Derived.Test.YteiafboknimgbaaMa18
set_option maxHeartbeats 8000000
set_option maxRecDepth 100000
set_option linter.unusedVariables false
set_option linter.unusedSimpArgs false
section
namespace Go.Proofs.Yteiafboknimgbaa.Pr.M
open Go.RowKit Go.Proofs.W.PrintWords Go.Proofs.W.PrintLast Go.Proofs.W.PrintMore
theorem Rows.base {w:World} {b b':Nat} {m:MS} {v:MV} (h:Rows w b m v)(hb:b'≤b):Rows w b' m v :=
 {tr:=own_weaken h.tr hb,ow:=own_weaken h.ow hb,ca:=own_weaken h.ca hb,pa:=own_weaken h.pa hb,re:=own_weaken h.re hb,ul:=h.ul,un:=fun i q u hq hu=>own_weaken (h.un i q u hq hu) hb,so:=h.so,su:=h.su }
theorem MachO.base {w:World} {b b' gm:Nat} {A0:Value} {fuel:Int} {m:MS} {v:MV} {o:OutM} (h:MachO w b gm A0 fuel m v o)(hb:b'≤b):MachO w b' gm A0 fuel m v o:=⟨h.blk,Nat.le_trans hb h.low,h.rows.base hb⟩
theorem PlOk.base {w:World} {b b':Nat} {pl:Value} {l:List (Int×Int)} (h:PlOk w b pl l)(hb:b'≤b):PlOk w b' pl l:=by
 obtain⟨g,e,hl,hm⟩:=h
 exact⟨g,e,Nat.le_trans hb hl,hm⟩
theorem ran_yes(A0:Option Addr)(c0:Nat)(p:List (List St))(f arg fuel:Int)(R:Nat)(hR:200<R)(w:World)(hC:Kd.C (Kd.slice 219 k219) w A0 p.length p)(hc:p.length≤c0)(h:askI p f arg fuel=true) :
  Calls Try.prog 146 #[.agg #[.slice A0 p.length c0],.int .i64 f,.int .i64 arg,.int .i64 fuel] w fun e w'=>RanPost w w' (.slice A0 p.length c0) fuel (ranI p R f arg fuel 0) e:=by
 have e1: ∀ args w,(callFunc 220 args).run Try.prog w= .ok (.enter 220 args) w:=enters_of Try.func220 zq27 rfl
 have hu:=Try.underlying35
 have HC:=am hC
 clear hC
 have HRN:=Z (fun(w1:World) (hb:Below w.heap.size w w1)=>ranFrom_yes A0 c0 p f arg fuel 0 R hR w1 (Kd.C_below HC.out hb) hc h num0)
 clear h hc hR
 generalize ranI p R f arg fuel 0=q at HRN ⊢
 go_enter Try.func146,Try.ntmps146
 go_upto_region 1 with(first|((with_reducible refine gate_dst (N:=4) rfl ?_);refine box_event ?hg (N:=4) ?hd (cs:= #[.slice A0 p.length c0]) (t:=35) ?hr ?_;(case hd=>rfl);(case hg=>rfl);(case hr=>first|(go_simp;done)|(go_simp;rfl));intro g hg w1 hbox hb;have B:=am hb;have C:=am hbox;clear hb hbox hg))
 have hc_:=cl1 C.out
 go_wp2_with (go_at_fn 220;refine(HRN.out _ B.out).mono ?_;rintro e w2 ⟨gm,v,rfl,hm,hp,hb⟩;have F:=Z (And.intro (hm.base B.out.size) (And.intro (hp.base B.out.size) (below_step B.out hb)));clear hm hp hb)
 go_ret2
 exact⟨gm,v,rfl,F.out.1,F.out.2.1,F.out.2.2⟩
theorem ran_no(A0:Option Addr)(c0:Nat)(p:List (List St))(f arg fuel:Int)(w:World)(hC:Kd.C (Kd.slice 219 k219) w A0 p.length p)(hc:p.length≤c0)(h:askI p f arg fuel=false) :
  Calls Try.prog 146 #[.agg #[.slice A0 p.length c0],.int .i64 f,.int .i64 arg,.int .i64 fuel] w fun e w'=>e= .returned (.tuple #[.pointer none,.bool false])∧Below w.heap.size w w':=by
 have e1: ∀ args w,(callFunc 220 args).run Try.prog w= .ok (.enter 220 args) w:=enters_of Try.func220 zq27 rfl
 have hu:=Try.underlying35
 have HC:=am hC
 clear hC
 have HRN:=Z (fun(w1:World) (hb:Below w.heap.size w w1)=>ranFrom_no A0 c0 p f arg fuel 0 w1 (Kd.C_below HC.out hb) hc h)
 clear h hc
 go_enter Try.func146,Try.ntmps146
 go_upto_region 1 with(first|((with_reducible refine gate_dst (N:=4) rfl ?_);refine box_event ?hg (N:=4) ?hd (cs:= #[.slice A0 p.length c0]) (t:=35) ?hr ?_;(case hd=>rfl);(case hg=>rfl);(case hr=>first|(go_simp;done)|(go_simp;rfl));intro g hg w1 hbox hb;have B:=am hb;have C:=am hbox;clear hb hbox hg))
 have hc_:=cl1 C.out
 go_wp2_with (go_at_fn 220;refine(HRN.out _ B.out).mono ?_;rintro e w2 ⟨rfl,hb⟩;have F:=Z (below_step B.out hb);clear hb)
 go_ret2
 exact⟨rfl,F.out⟩
end Go.Proofs.Yteiafboknimgbaa.Pr.M
namespace Go.Proofs.Yteiafboknimgbaa.Pr
open Go.RowKit Go.Proofs.W.PrintWords Go.Proofs.W.PrintLast Go.Proofs.W.PrintMore
def RN:Nat:=1001
def ranQ(l:List (List S219))(f arg fuel:Int):M.MS×M.OutM:=M.ranI l RN f arg fuel 0
def impl_RunProgram.f(l:List (List S219))(f arg fuel:Int):Option (Int×Int×List S63×Int×Bool) :=
 if M.askI l f arg fuel=true then some ((ranQ l f arg fuel).2.kind,(ranQ l f arg fuel).2.value,(ranQ l f arg fuel).2.trace.map toEv,(ranQ l f arg fuel).2.spent,true) else some (0,0,[],0,false)
theorem RunProgram_yes(A0:Option Addr)(c0:Nat)(p:List (List S219))(f arg fuel:Int)(w:World)(hC:Kd.C (Kd.slice 219 k219) w A0 p.length p)(hc:p.length≤c0)(h:M.askI p f arg fuel=true) :
  Calls Try.prog 35 #[.agg #[.slice A0 p.length c0],.int .i64 f,.int .i64 arg,.int .i64 fuel] w fun e w'=> ∃ v0_:Value,e= .returned (.tuple #[.agg #[.int .i64 (ranQ p f arg fuel).2.kind,.int .i64 (ranQ p f arg fuel).2.value,v0_,.int .i64 (ranQ p f arg fuel).2.spent],.bool true])∧Kd.R k63 63 w' w.heap.size (fun _=>True) v0_ ((ranQ p f arg fuel).2.trace.map toEv)∧Below w.heap.size w w':=by
 have e1: ∀ args w,(callFunc 146 args).run Try.prog w= .ok (.enter 146 args) w:=enters_of Try.func146 zq27 rfl
 have hu:=Try.underlying35
 have hu2:=Try.underlying30
 have HC:=am hC
 clear hC
 have KP:=am (M.KeptS.refl (.slice none 0 0) (.slice none 0 0) w)
 have HTR:Aside0 ((ranQ p f arg fuel).2.trace=(ranQ p f arg fuel).1.trace):=⟨by
  unfold ranQ M.ranI
  split
  ·rfl
  ·dsimp only
   split<;>rfl⟩
 have HRN:=am (fun(w1:World) (hb:Below w.heap.size w w1)=>M.ran_yes A0 c0 p f arg fuel RN (by unfold RN;omega) w1 (Kd.C_below HC.out hb) hc h)
 clear h hc
 unfold ranQ at HTR ⊢
 generalize M.ranI p RN f arg fuel 0=q at HRN HTR ⊢
 obtain⟨m,o⟩:=q
 dsimp only at HTR ⊢
 go_enter Try.func35,Try.ntmps35
 go_upto_region 1 with(first|((with_reducible refine gate_dst (N:=4) rfl ?_);refine box_event ?hg (N:=4) ?hd (cs:= #[.slice A0 p.length c0]) (t:=35) ?hr ?_;(case hd=>rfl);(case hg=>rfl);(case hr=>first|(go_simp;done)|(go_simp;rfl));intro g4 hg w1 hbox hb;replace KP:=am (KP.out.below hb);have C:=am hbox;clear hb hbox hg)|((with_reducible refine gate_dst (N:=8) rfl ?_);refine box_event ?hg (N:=8) ?hd (cs:= #[.int .i64 0,.int .i64 0,.slice none 0 0,.int .i64 0]) (t:=30) ?hr ?_;(case hd=>rfl);(case hg=>rfl);(case hr=>first|(go_simp;done)|(go_simp;rfl));intro g8 hg w2 hbox hb;have L:=am (show w.heap.size≤g8 from by rw [hg];exact KP.out.size);replace KP:=am (KP.out.below hb);replace C:=am (blk_below C.out hb);have D:=am hbox;clear hb hbox hg))
 have hc_:=cl1 C.out
 go_upto_region 2 with(go_at_fn 146;refine(HRN.out _ KP.out.all).mono ?_;rintro e w3 ⟨gm,v,rfl,hm,hp,hb⟩;have F:=am (hm.base KP.out.size);replace KP:=am (KP.out.below hb);replace D:=am (blk_below D.out hb);clear hm hp hb hc_ C)
 have q0:=(blk_cell F.out.blk 12).trans (show _=some (Value.int .i64 o.kind) from rfl)
 have q1:=(blk_cell F.out.blk 13).trans (show _=some (Value.int .i64 o.value) from rfl)
 have q2:=(blk_cell F.out.blk 14).trans (show _=some v.tr from rfl)
 have q3:=(blk_cell F.out.blk 15).trans (show _=some (Value.int .i64 o.spent) from rfl)
 obtain⟨tA,tc,htv⟩:=own_slice F.out.rows.tr
 have HV:=am htv
 clear htv
 rw [HV.out] at q2
 go_wp2_with (first|((with_reducible refine gate_store (p:=8) rfl ?_);refine M.aggL_ rfl rfl rfl g8 #[.int .i64 o.kind,.int .i64 o.value,.slice tA m.trace.length tc,.int .i64 o.spent] rfl rfl D.out M.size_oc rfl (by simp [Value.oneCell']) ?_;intro x7 hbox hev;clear q0 q1 q2 q3;have G:=am (hev.row F.out.rows.tr);replace KP:=am (KP.out.ev hev (fun q e=>by injection e with e;subst e;exact .inl L.out));clear D;have D:=am hbox;clear hbox hev))
 refine bodyPost_ret (results_ct (P:=Try.prog) (fn:=Try.f35) (ty:=30) rfl _ _ g8 30 #[.int .i64 o.kind,.int .i64 o.value,.slice tA m.trace.length tc,.int .i64 o.spent] (0,0) _ rfl D.out M.und_oc rfl M.size_oc) rfl ⟨_,rfl,?_,KP.out.all⟩
 rw [HTR.out]
 have h:=R_events G.out
 rw [HV.out] at h
 exact h
theorem RunProgram_no(A0:Option Addr)(c0:Nat)(p:List (List S219))(f arg fuel:Int)(w:World)(hC:Kd.C (Kd.slice 219 k219) w A0 p.length p)(hc:p.length≤c0)(h:M.askI p f arg fuel=false) :
  Calls Try.prog 35 #[.agg #[.slice A0 p.length c0],.int .i64 f,.int .i64 arg,.int .i64 fuel] w fun e w'=> ∃ v0_:Value,e= .returned (.tuple #[.agg #[.int .i64 0,.int .i64 0,v0_,.int .i64 0],.bool false])∧Kd.R k63 63 w' w.heap.size (fun _=>True) v0_ []∧Below w.heap.size w w':=by
 have e1: ∀ args w,(callFunc 146 args).run Try.prog w= .ok (.enter 146 args) w:=enters_of Try.func146 zq27 rfl
 have hu:=Try.underlying35
 have hu2:=Try.underlying30
 have HC:=am hC
 clear hC
 have KP:=am (M.KeptS.refl (.slice none 0 0) (.slice none 0 0) w)
 have HRN:=am (fun(w1:World) (hb:Below w.heap.size w w1)=>M.ran_no A0 c0 p f arg fuel w1 (Kd.C_below HC.out hb) hc h)
 clear h hc
 go_enter Try.func35,Try.ntmps35
 go_upto_region 1 with(first|((with_reducible refine gate_dst (N:=4) rfl ?_);refine box_event ?hg (N:=4) ?hd (cs:= #[.slice A0 p.length c0]) (t:=35) ?hr ?_;(case hd=>rfl);(case hg=>rfl);(case hr=>first|(go_simp;done)|(go_simp;rfl));intro g4 hg w1 hbox hb;replace KP:=am (KP.out.below hb);have C:=am hbox;clear hb hbox hg)|((with_reducible refine gate_dst (N:=8) rfl ?_);refine box_event ?hg (N:=8) ?hd (cs:= #[.int .i64 0,.int .i64 0,.slice none 0 0,.int .i64 0]) (t:=30) ?hr ?_;(case hd=>rfl);(case hg=>rfl);(case hr=>first|(go_simp;done)|(go_simp;rfl));intro g8 hg w2 hbox hb;have L:=am (show w.heap.size≤g8 from by rw [hg];exact KP.out.size);replace KP:=am (KP.out.below hb);replace C:=am (blk_below C.out hb);have D:=am hbox;clear hb hbox hg))
 have hc_:=cl1 C.out
 go_upto_region 2 with(go_at_fn 146;refine(HRN.out _ KP.out.all).mono ?_;rintro e w3 ⟨rfl,hb⟩;replace KP:=am (KP.out.below hb);replace D:=am (blk_below D.out hb);clear hb hc_ C)
 go_wp2_with (first|((with_reducible refine gate_store (p:=8) rfl ?_);refine M.aggL_ rfl rfl rfl g8 #[.int .i64 0,.int .i64 0,.slice none 0 0,.int .i64 0] rfl rfl D.out M.size_oc rfl (by simp [Value.oneCell']) ?_;intro x7 hbox hev;replace KP:=am (KP.out.ev hev (fun q e=>by injection e with e;subst e;exact .inl L.out));clear D;have D:=am hbox;clear hbox hev))
 refine bodyPost_ret (results_ct (P:=Try.prog) (fn:=Try.f35) (ty:=30) rfl _ _ g8 30 #[.int .i64 0,.int .i64 0,.slice none 0 0,.int .i64 0] (0,0) _ rfl D.out M.und_oc rfl M.size_oc) rfl ⟨_,rfl,Kd.R_nil _ _ _ _ _,KP.out.all⟩
theorem impl_RunProgram.calls(A0_0:Option Addr)(c0_0:Nat)(l0_0:List (List S219))(a1 a2 a3:Int)(r1_0 r1_1:Int)(r1_2:List S63)(r1_3:Int)(r2:Bool)(w:World)(hr0_0:Kd.C (Kd.slice 219 k219) w A0_0 l0_0.length l0_0)(hc0_0:l0_0.length≤c0_0)(h:impl_RunProgram.f l0_0 a1 a2 a3=some (r1_0,r1_1,r1_2,r1_3,r2)) :
  Calls Try.prog 35 #[.agg #[.slice A0_0 l0_0.length c0_0],.int .i64 a1,.int .i64 a2,.int .i64 a3] w fun e w'=> ∃ v0_:Value,e= .returned (.tuple #[.agg #[.int .i64 r1_0,.int .i64 r1_1,v0_,.int .i64 r1_3],.bool r2])∧Kd.R k63 63 w' w.heap.size (fun _=>True) v0_ r1_2∧Below w.heap.size w w':=by
 unfold impl_RunProgram.f at h
 by_cases ha:M.askI l0_0 a1 a2 a3=true
 ·rw [if_pos ha] at h
  have h:=Option.some.inj h
  simp only [Prod.mk.injEq] at h
  obtain⟨rfl,rfl,rfl,rfl,rfl⟩:=h
  exact RunProgram_yes A0_0 c0_0 l0_0 a1 a2 a3 w hr0_0 hc0_0 ha
 ·rw [if_neg ha] at h
  have h:=Option.some.inj h
  simp only [Prod.mk.injEq] at h
  obtain⟨rfl,rfl,rfl,rfl,rfl⟩:=h
  exact RunProgram_no A0_0 c0_0 l0_0 a1 a2 a3 w hr0_0 hc0_0 (Bool.eq_false_iff.2 ha)
end Go.Proofs.Yteiafboknimgbaa.Pr
end

section
namespace Go.Proofs.Yteiafboknimgbaa.Pr
open Go.RowKit Go.Proofs.W.PrintWords Go.Proofs.W.PrintLast Go.Proofs.W.PrintMore
theorem rdL_at(l:List (List S219))(i:Nat)(h:i<l.length):rd_L4 l (i:Int)=l[i]:=by unfold rd_L4;rw [Int.toNat_natCast,List.getD_eq_getElem?_getD,List.getElem?_eq_getElem h];rfl
theorem wrapIn {i:Int} (h0: -9223372036854775808≤i)(h1:i≤9223372036854775807):wrap64 i=i:=by unfold wrap64;omega
theorem ownL(l:List (List S219))(hl:l.length≤1048576)(hb: ∀ b∈l,b.length≤1048576): ∀ (d i:Nat),d+i=l.length→ ∀ k,d<k→spec_l2Own.l0 k i l (l.take i)=some l:=by
 intro d
 induction d with
 |zero =>
  intro i hd k hk
  obtain⟨k,rfl⟩: ∃ z,k=z+1:=⟨k-1,zq90⟩
  rw [spec_l2Own.l0,if_neg zq90,List.take_of_length_le zq90]
 |succ d ih =>
  intro i hd k hk
  obtain⟨k,rfl⟩: ∃ z,k=z+1:=⟨k-1,zq90⟩
  have hi:i<l.length:=by omega
  have hbi:=hb _ (List.getElem_mem hi)
  rw [spec_l2Own.l0,if_pos zq90,Option.bind_some,if_pos zq90,rdL_at l i hi,if_pos (by simp only [List.length_nil];omega),if_pos (by rw [List.length_take];omega),wrapIn zq90 zq90,List.nil_append]
  have:l.take i++ [l[i]]=l.take (i+1):=by rw [List.take_add_one,List.getElem?_eq_getElem hi];rfl
  rw [this]
  exact_mod_cast ih (i+1) zq90 k zq90
theorem ownOk(l:List (List S219))(hl:l.length≤1048576)(hb: ∀ b∈l,b.length≤1048576)(k:Nat)(hk:l.length<k):spec_l2Own.f k l=some l:=by
 unfold spec_l2Own.f
 have:=ownL l hl hb l.length 0 zq90 k zq90
 rw [Int.natCast_zero,List.take_zero] at this
 exact this
def runQ(l:List (List S219))(f arg fuel:Int):M.OutM:=M.runD l RN 8 f arg fuel
def spec_l2Run.f(l:List (List S219))(f arg fuel:Int):Option (Int×Int×List S63×Int) :=
 if M.askI l f arg fuel=true then some ((runQ l f arg fuel).kind,(runQ l f arg fuel).value,(runQ l f arg fuel).trace.map toEv,(runQ l f arg fuel).spent) else none
theorem spec_l2Run.calls(A0_0:Option Addr)(c0_0:Nat)(l0_0:List (List S219))(a1 a2 a3:Int)(r_0 r_1:Int)(r_2:List S63)(r_3:Int)(w:World)(hr0_0:Kd.C (Kd.slice 219 k219) w A0_0 l0_0.length l0_0)(hc0_0:l0_0.length≤c0_0)(h:spec_l2Run.f l0_0 a1 a2 a3=some (r_0,r_1,r_2,r_3)) :
  Calls Try.prog 144 #[.agg #[.slice A0_0 l0_0.length c0_0],.int .i64 a1,.int .i64 a2,.int .i64 a3] w fun e w'=> ∃ v0_:Value,e= .returned (.agg #[.int .i64 r_0,.int .i64 r_1,v0_,.int .i64 r_3])∧Kd.R k63 63 w' w.heap.size (fun _=>True) v0_ r_2∧Below w.heap.size w w':=by
 unfold spec_l2Run.f at h
 by_cases ha:M.askI l0_0 a1 a2 a3=true
 ·rw [if_pos ha] at h
  have h:=Option.some.inj h
  simp only [Prod.mk.injEq] at h
  obtain⟨rfl,rfl,rfl,rfl⟩:=h
  unfold M.askI at ha
  simp only [Bool.and_eq_true,decide_eq_true_eq] at ha
  obtain⟨hP,hf,hn,hfu⟩:=ha
  obtain⟨hA,h1⟩:=M.progAt_of hr0_0 hc0_0 hP
  have hl6:l0_0.length≤6:=by
   unfold progOk at hP
   simp only [Bool.and_eq_true,decide_eq_true_eq] at hP
   exact hP.1.2
  have hown:=ownOk l0_0 zq90 (fun b hb=>by have:=hA.body b hb;omega) 100 zq90
  refine(M.l2Run.calls 100 w A0_0 c0_0 l0_0 l0_0.length a3 RN a1 a2 hr0_0 hc0_0 hown hA.ok hA.wf rfl hA.body ⟨hfu.1,zq90⟩ (by unfold RN;omega) ⟨hf.1,zq90⟩ hn 8 rfl).mono ?_
  rintro e w' ⟨uA,uc,rfl,ho,hb⟩
  exact⟨_,rfl,R_events ho,hb⟩
 ·rw [if_neg ha] at h;cases h
theorem runQ_eq(l:List (List S219))(f arg fuel:Int)(h:M.askI l f arg fuel=true):runQ l f arg fuel=(ranQ l f arg fuel).2:=by
 unfold M.askI at h
 simp only [Bool.and_eq_true,decide_eq_true_eq] at h
 obtain⟨hP,hf,hn,hfu⟩:=h
 have hok:M.ProgOk l.length l:=by
  unfold progOk at hP
  simp only [Bool.and_eq_true,decide_eq_true_eq] at hP
  intro b hb s hs
  have h4:=List.all_eq_true.1 hP.2 b hb
  unfold bodyOk at h4
  simp only [Bool.and_eq_true,decide_eq_true_eq] at h4
  exact(M.stepOk_wf (List.all_eq_true.1 h4.2 s hs)).1
 unfold runQ ranQ
 rw [← M.runS_runD l RN 8 rfl f arg fuel]
 exact M.ran_eq hok RN hfu.1 (by unfold RN;omega) f arg ⟨hf.1,zq90⟩ hn
def Made(w W:World)(a b:Nat)(v:Value)(l:List (List S219)):Prop:=Kd.S (Kd.slice 219 k219) 217 W w.heap.size (fun q=>a≤q∧q<b) v l
theorem Made.new {w W W':World} {v:Value} {l:List (List S219)} (h:Kd.S (Kd.slice 219 k219) 217 W' W.heap.size (fun _=>True) v l)(hb:w.heap.size≤W.heap.size):Made w W' W.heap.size W'.heap.size v l :=
 Kd.S_mono (Kd.S_lower (Kd.S_bound h) hb) (fun q hq=>⟨hq.2.1,hq.2.2.1⟩)
theorem MadeR.new {α:Type} {d:Kd α} {e:Nat} {w W W':World} {v:Value} {l:List α} (h:d.R e W' W.heap.size (fun _=>True) v l)(hb:w.heap.size≤W.heap.size):d.R e W' w.heap.size (fun q=>W.heap.size≤q∧q<W'.heap.size) v l :=
 Kd.R_mono (Kd.R_lower (Kd.R_bound h) hb) (fun q hq=>⟨hq.2.1,hq.2.2.1⟩)
end Go.Proofs.Yteiafboknimgbaa.Pr
end

section
namespace Go.Proofs.Yteiafboknimgbaa.Pr
open Go.RowKit Go.Proofs.W.PrintWords Go.Proofs.W.PrintLast Go.Proofs.W.PrintMore
attribute [local go_sem] max2_int min2_int max_two min_two max_three min_three max_four min_four
structure S30 where
 f0:Int
 f1:Int
 f2:(List S63)
 f3:Int
structure S37 where
 f0:S35
 f1:Int
 f2:Int
def laws_szStepS.f(l0:List (S295))(a1:Int):Option (Int):=if(wrap64 (a1-(l0.length:Int)))<0 then(some (-1)) else(some (wrap64 (a1-(l0.length:Int))))
theorem laws_szStepS.calls(A0:Option Addr)(c0:Nat)(l0:List (S295))(a1:Int)(r:Int)(w:World)(hr0:Kd.C k295 w A0 l0.length l0)(hc0:l0.length≤c0)(h:laws_szStepS.f l0 a1=some r) :
  Calls Try.prog 224 #[.slice A0 l0.length c0,.int .i64 a1] w fun e w'=>e= .returned (.int .i64 r)∧Drawn0 w w':=by
 have HR0:=am hr0
 have HC0:=am hc0
 clear hr0 hc0
 have H:(if(wrap64 (a1-(l0.length:Int)))<0 then(some (-1)) else(some (wrap64 (a1-(l0.length:Int)))))=some r:=h
 clear h
 by_cases c3:(wrap64 (a1-(l0.length:Int)))<0
 ·rw [if_pos c3] at H
  have c3b0:decide ((wrap64 (a1-(l0.length:Int)))<0)=true:=decide_eq_true c3
  clear c3
  obtain rfl:=Option.some.inj H
  go_enter Try.func224,Try.ntmps224
  go_wp2
  go_ret
  exact⟨zq8,zq12⟩
 ·rw [if_neg c3] at H
  have c3b0:decide ((wrap64 (a1-(l0.length:Int)))<0)=false:=decide_eq_false c3
  clear c3
  obtain rfl:=Option.some.inj H
  go_enter Try.func224,Try.ntmps224
  go_wp2
  go_ret
  exact⟨zq8,zq12⟩
def laws_szStepSS.l0:Nat→List (List (S295))→Int→Int→Option (Int)
 |0,_,_,_=>none
 |k+1,x0,x1,x5=>if x5<(x0.length:Int) then(if 0≤x5 then((laws_szStepS.f (rd_L2 x0 x5) x1).bind fun t102=>(if t102<0 then(some (-1)) else(laws_szStepSS.l0 k x0 t102 (wrap64 (x5+1))))) else(none)) else(some x1)
def laws_szStepSS.f(k:Nat)(l0:List (List (S295)))(a1:Int):Option (Int):=if(wrap64 (a1-(l0.length:Int)))<0 then(some (-1)) else(laws_szStepSS.l0 k l0 (wrap64 (a1-(l0.length:Int))) 0)
theorem laws_szStepSS.calls(k:Nat)(A0:Option Addr)(c0:Nat)(l0:List (List (S295)))(a1:Int)(r:Int)(w:World)(hr0:Kd.C (Kd.slice 295 k295) w A0 l0.length l0)(hc0:l0.length≤c0)(h:laws_szStepSS.f k l0 a1=some r) :
  Calls Try.prog 141 #[.slice A0 l0.length c0,.int .i64 a1] w fun e w'=>e= .returned (.int .i64 r)∧Drawn0 w w':=by
 have HR0:=am hr0
 have HC0:=am hc0
 clear hr0 hc0
 have H:(if(wrap64 (a1-(l0.length:Int)))<0 then(some (-1)) else(laws_szStepSS.l0 k l0 (wrap64 (a1-(l0.length:Int))) 0))=some r:=h
 clear h
 by_cases c3:(wrap64 (a1-(l0.length:Int)))<0
 ·rw [if_pos c3] at H
  have c3b0:decide ((wrap64 (a1-(l0.length:Int)))<0)=true:=decide_eq_true c3
  clear c3
  obtain rfl:=Option.some.inj H
  go_enter Try.func141,Try.ntmps141
  go_wp2
  go_ret
  exact⟨zq8,zq12⟩
 ·rw [if_neg c3] at H
  have c3b0:decide ((wrap64 (a1-(l0.length:Int)))<0)=false:=decide_eq_false c3
  clear c3
  have H':=am H
  clear H
  go_enter Try.func141,Try.ntmps141
  go_wp2
  go_loopg [1,5] k (fun kq v1 v5 w'=> ∃ (x1_1:Int) (x5_1:Int),v1= .int .i64 x1_1∧v5= .int .i64 x5_1∧Aside0 (laws_szStepSS.l0 kq l0 x1_1 x5_1=some r)∧Aside0 (kq≤k)∧Drawn0 w w')
  case atStart=>exact⟨(wrap64 (a1-(l0.length:Int))),(0),zq8,zq8,H',⟨Nat.le_refl _⟩,zq12⟩
  case round =>
   clear H'
   try clear c1
   try clear p2
   try clear c3
   try clear c3b0
   obtain⟨x1_1,x5_1,rfl,rfl,HA,HK1,⟨m1,rfl⟩⟩:=hrel
   cases gk with
   |zero=>exact absurd HA.out (by simp [laws_szStepSS.l0])
   |succ k1 =>
    have H:=HA.out
    clear HA
    simp only [laws_szStepSS.l0] at H
    by_cases c4:x5_1<(l0.length:Int)
    ·rw [if_pos c4] at H
     have c4b0:decide (x5_1<(l0.length:Int))=true:=decide_eq_true c4
     clear c4
     by_cases c5:0≤x5_1
     ·rw [if_pos c5] at H
      have c5b0:decide (0≤x5_1)=true:=decide_eq_true c5
      clear c5
      obtain⟨t102,A6,H⟩:=bms H
      try dsimp only at H
      by_cases c7:t102<0
      ·rw [if_pos c7] at H
       have c7b0:decide (t102<0)=true:=decide_eq_true c7
       clear c7
       obtain rfl:=Option.some.inj H
       have p101:0≤(x5_1:Int):=of_decide_eq_true zq26
       have q101:x5_1<(l0.length:Int):=of_decide_eq_true zq26
       obtain⟨ad101,A101_0,c101_0,e101,hx101_0,hl101_0,hi101_0⟩:=at_L2 HR0.out x5_1 p101 q101
       cases e101
       have HR101_0:=am hi101_0
       have HC101_0:=am hl101_0
       clear hi101_0 hl101_0
       replace p101:=eq_true p101
       replace q101:=eq_true q101
       go_wp2_with (first|(refine gl (some 23) 224 Try.func224 #[.slice A101_0 (rd_L2 l0 x5_1).length c101_0,.int .i64 x1_1] (h:= ?_);(with_reducible refine(laws_szStepS.calls _ _ (rd_L2 l0 x5_1) x1_1 t102 _ ?side1 ?side2 A6.out).mono ?_);(case side1=>exact zq119);(case side2=>exact HC101_0.out);rintro e w' ⟨rfl,⟨nd,rfl⟩⟩;refine⟨_,rfl,?_⟩))
       go_ret
       exact⟨zq8,zq12⟩
      ·rw [if_neg c7] at H
       have c7b0:decide (t102<0)=false:=decide_eq_false c7
       clear c7
       have H':=am H
       clear H
       have p101:0≤(x5_1:Int):=of_decide_eq_true zq26
       have q101:x5_1<(l0.length:Int):=of_decide_eq_true zq26
       obtain⟨ad101,A101_0,c101_0,e101,hx101_0,hl101_0,hi101_0⟩:=at_L2 HR0.out x5_1 p101 q101
       cases e101
       have HR101_0:=am hi101_0
       have HC101_0:=am hl101_0
       clear hi101_0 hl101_0
       replace p101:=eq_true p101
       replace q101:=eq_true q101
       go_wp2_with (first|(refine gl (some 23) 224 Try.func224 #[.slice A101_0 (rd_L2 l0 x5_1).length c101_0,.int .i64 x1_1] (h:= ?_);(with_reducible refine(laws_szStepS.calls _ _ (rd_L2 l0 x5_1) x1_1 t102 _ ?side1 ?side2 A6.out).mono ?_);(case side1=>exact zq119);(case side2=>exact HC101_0.out);rintro e w' ⟨rfl,⟨nd,rfl⟩⟩;refine⟨_,rfl,?_⟩))
       go_roundg k1
       case measure=>have:=HK1.out;omega
       case rel=>exact⟨(t102),(wrap64 (x5_1+1)),zq8,zq8,H',⟨zq110⟩,zq12⟩
     ·rw [if_neg c5] at H
      exact absurd H (by simp)
    ·rw [if_neg c4] at H
     have c4b0:decide (x5_1<(l0.length:Int))=false:=decide_eq_false c4
     clear c4
     obtain rfl:=Option.some.inj H
     go_wp2
     go_ret
     exact⟨zq8,zq12⟩
def laws_szProgram.f(k:Nat)(l0_0:List (List (S295)))(a1:Int):Option (Int):=(laws_szStepSS.f k l0_0 a1).bind fun t104=>(if t104<0 then(some (-1)) else(some t104))
theorem laws_szProgram.calls(k:Nat)(A0_0:Option Addr)(c0_0:Nat)(l0_0:List (List (S295)))(a1:Int)(r:Int)(w:World)(hr0_0:Kd.C (Kd.slice 295 k295) w A0_0 l0_0.length l0_0)(hc0_0:l0_0.length≤c0_0)(h:laws_szProgram.f k l0_0 a1=some r) :
  Calls Try.prog 24 #[.agg #[.slice A0_0 l0_0.length c0_0],.int .i64 a1] w fun e w'=>e= .returned (.int .i64 r)∧Below w.heap.size w w':=by
 have hu24:=Try.underlying24
 have HR0_0:=am hr0_0
 have HC0_0:=am hc0_0
 clear hr0_0 hc0_0
 have HB:=am (Below.refl w.heap.size w)
 have H:((laws_szStepSS.f k l0_0 a1).bind fun t104=>(if t104<0 then(some (-1)) else(some t104)))=some r:=h
 clear h
 obtain⟨t104,A3,H⟩:=bms H
 try dsimp only at H
 by_cases c4:t104<0
 ·rw [if_pos c4] at H
  have c4b0:decide (t104<0)=true:=decide_eq_true c4
  clear c4
  obtain rfl:=Option.some.inj H
  go_enter Try.func24,Try.ntmps24
  go_wp2_with (first|(refine bx 2 #[.slice A0_0 l0_0.length c0_0] 24 (h:= ?_);intro gb103 hg w5 hbox hb;have BK103:=am (hbox);have GE103:=am ((zq4:w.heap.size≤gb103));replace HB:=am (below_step zq0 hb);clear hb hbox hg;obtain⟨hcz6_0,hfz6_0⟩:=cf1 BK103.out)|(refine gl (some 8) 141 Try.func141 #[.slice A0_0 l0_0.length c0_0,.int .i64 a1] (h:= ?_);(with_reducible refine(laws_szStepSS.calls k _ _ l0_0 a1 t104 _ ?side1 ?side2 A3.out).mono ?_);(case side1=>exact zq13);(case side2=>exact HC0_0.out);rintro e w' ⟨rfl,⟨nd,rfl⟩⟩;refine⟨_,rfl,?_⟩))
  go_ret
  exact⟨zq3,zq113⟩
 ·rw [if_neg c4] at H
  have c4b0:decide (t104<0)=false:=decide_eq_false c4
  clear c4
  obtain rfl:=Option.some.inj H
  go_enter Try.func24,Try.ntmps24
  go_wp2_with (first|(refine bx 2 #[.slice A0_0 l0_0.length c0_0] 24 (h:= ?_);intro gb103 hg w7 hbox hb;have BK103:=am (hbox);have GE103:=am ((zq4:w.heap.size≤gb103));replace HB:=am (below_step zq0 hb);clear hb hbox hg;obtain⟨hcz8_0,hfz8_0⟩:=cf1 BK103.out)|(refine gl (some 8) 141 Try.func141 #[.slice A0_0 l0_0.length c0_0,.int .i64 a1] (h:= ?_);(with_reducible refine(laws_szStepSS.calls k _ _ l0_0 a1 t104 _ ?side1 ?side2 A3.out).mono ?_);(case side1=>exact zq13);(case side2=>exact HC0_0.out);rintro e w' ⟨rfl,⟨nd,rfl⟩⟩;refine⟨_,rfl,?_⟩))
  go_ret
  exact⟨zq3,zq113⟩
def laws_szBench.f(k:Nat)(l0_0:List (List (S295)))(a0_1:Int)(a0_2:Int)(a1:Int):Option (Int):=(laws_szProgram.f k l0_0 a1).bind fun t106=>(if t106<0 then(some (-1)) else(some t106))
theorem laws_szBench.calls(k:Nat)(A0_0:Option Addr)(c0_0:Nat)(l0_0:List (List (S295)))(a0_1:Int)(a0_2:Int)(a1:Int)(r:Int)(w:World)(hr0_0:Kd.C (Kd.slice 295 k295) w A0_0 l0_0.length l0_0)(hc0_0:l0_0.length≤c0_0)(h:laws_szBench.f k l0_0 a0_1 a0_2 a1=some r) :
  Calls Try.prog 15 #[.agg #[.slice A0_0 l0_0.length c0_0,.int .i64 a0_1,.int .i64 a0_2],.int .i64 a1] w fun e w'=>e= .returned (.int .i64 r)∧Below w.heap.size w w':=by
 have hu26:=Try.underlying26
 have hu24:=Try.underlying24
 have HR0_0:=am hr0_0
 have HC0_0:=am hc0_0
 clear hr0_0 hc0_0
 have HB:=am (Below.refl w.heap.size w)
 have H:((laws_szProgram.f k l0_0 a1).bind fun t106=>(if t106<0 then(some (-1)) else(some t106)))=some r:=h
 clear h
 obtain⟨t106,A3,H⟩:=bms H
 try dsimp only at H
 by_cases c4:t106<0
 ·rw [if_pos c4] at H
  have c4b0:decide (t106<0)=true:=decide_eq_true c4
  clear c4
  obtain rfl:=Option.some.inj H
  go_enter Try.func15,Try.ntmps15
  go_wp2_with (first|(refine bx 2 #[.slice A0_0 l0_0.length c0_0,.int .i64 a0_1,.int .i64 a0_2] 26 (h:= ?_);intro gb105 hg w5 hbox hb;have BK105:=am (hbox);have GE105:=am ((zq4:w.heap.size≤gb105));replace HB:=am (below_step zq0 hb);clear hb hbox hg;obtain⟨hcz6_0,hcz6_1,hcz6_2,hfz6_0,hfz6_1,hfz6_2⟩:=cf3 BK105.out)|(refine gl (some 8) 24 Try.func24 #[.agg #[.slice A0_0 l0_0.length c0_0],.int .i64 a1] (h:= ?_);(with_reducible refine(laws_szProgram.calls k _ _ l0_0 a1 t106 _ ?side1 ?side2 A3.out).mono ?_);(case side1=>exact zq13);(case side2=>exact HC0_0.out);rintro e w7 ⟨rfl,hb⟩;refine⟨_,rfl,?_⟩;replace BK105:=am (blk_below (g:=gb105) (o:= .cells #[.slice A0_0 l0_0.length c0_0,.int .i64 a0_1,.int .i64 a0_2] 26 (0,0)) zq139 hb);replace HB:=am (below_step zq14 hb);(try clear hb)))
  go_ret
  exact⟨zq3,zq14⟩
 ·rw [if_neg c4] at H
  have c4b0:decide (t106<0)=false:=decide_eq_false c4
  clear c4
  obtain rfl:=Option.some.inj H
  go_enter Try.func15,Try.ntmps15
  go_wp2_with (first|(refine bx 2 #[.slice A0_0 l0_0.length c0_0,.int .i64 a0_1,.int .i64 a0_2] 26 (h:= ?_);intro gb105 hg w8 hbox hb;have BK105:=am (hbox);have GE105:=am ((zq4:w.heap.size≤gb105));replace HB:=am (below_step zq0 hb);clear hb hbox hg;obtain⟨hcz9_0,hcz9_1,hcz9_2,hfz9_0,hfz9_1,hfz9_2⟩:=cf3 BK105.out)|(refine gl (some 8) 24 Try.func24 #[.agg #[.slice A0_0 l0_0.length c0_0],.int .i64 a1] (h:= ?_);(with_reducible refine(laws_szProgram.calls k _ _ l0_0 a1 t106 _ ?side1 ?side2 A3.out).mono ?_);(case side1=>exact zq13);(case side2=>exact HC0_0.out);rintro e w10 ⟨rfl,hb⟩;refine⟨_,rfl,?_⟩;replace BK105:=am (blk_below (g:=gb105) (o:= .cells #[.slice A0_0 l0_0.length c0_0,.int .i64 a0_1,.int .i64 a0_2] 26 (0,0)) zq139 hb);replace HB:=am (below_step zq14 hb);(try clear hb)))
  go_ret
  exact⟨zq3,zq14⟩
def spec_l1In.f(a0:Int)(a1:Int)(a2:Int):Option (Bool):=if a0≥a1 then(some (decide (a0≤a2))) else(some false)
theorem spec_l1In.calls(a0:Int)(a1:Int)(a2:Int)(r:Bool)(w:World)(h:spec_l1In.f a0 a1 a2=some r) :
  Calls Try.prog 211 #[.int .i64 a0,.int .i64 a1,.int .i64 a2] w fun e w'=>e= .returned (.bool r)∧Drawn0 w w':=by
 have H:(if a0≥a1 then(some (decide (a0≤a2))) else(some false))=some r:=h
 clear h
 by_cases c4:a0≥a1
 ·rw [if_pos c4] at H
  have c4b0:decide (a1≤a0)=true:=decide_eq_true c4
  clear c4
  obtain rfl:=Option.some.inj H
  go_enter Try.func211,Try.ntmps211
  go_wp2
  go_ret
  exact⟨zq8,zq12⟩
 ·rw [if_neg c4] at H
  have c4b0:decide (a1≤a0)=false:=decide_eq_false c4
  clear c4
  obtain rfl:=Option.some.inj H
  go_enter Try.func211,Try.ntmps211
  go_wp2
  go_ret
  exact⟨zq8,zq12⟩
def spec_l2Number.f(a0:Int):Option (Bool):=(spec_l1In.f a0 (-32768) 32767).bind fun t107=>(some t107)
theorem spec_l2Number.calls(a0:Int)(r:Bool)(w:World)(h:spec_l2Number.f a0=some r) :
  Calls Try.prog 221 #[.int .i64 a0] w fun e w'=>e= .returned (.bool r)∧Drawn0 w w':=by
 have H:((spec_l1In.f a0 (-32768) 32767).bind fun t107=>(some t107))=some r:=h
 clear h
 obtain⟨t107,A2,H⟩:=bms H
 try dsimp only at H
 obtain rfl:=Option.some.inj H
 go_enter Try.func221,Try.ntmps221
 go_wp2_with (first|(refine gl (some 4) 211 Try.func211 #[.int .i64 a0,.int .i64 (-32768),.int .i64 32767] (h:= ?_);(with_reducible refine(spec_l1In.calls a0 (-32768) 32767 t107 _ A2.out).mono ?_);rintro e w' ⟨rfl,⟨nd,rfl⟩⟩;refine⟨_,rfl,?_⟩))
 go_ret
 exact⟨zq8,zq12⟩
def spec_l2Function.f(l0_0:List (List (S219)))(a1:Int):Option (Bool):=(spec_l1In.f a1 0 (wrap64 ((l0_0.length:Int)-1))).bind fun t109=>(some t109)
theorem spec_l2Function.calls(A0_0:Option Addr)(c0_0:Nat)(l0_0:List (List (S219)))(a1:Int)(r:Bool)(w:World)(hr0_0:Kd.C (Kd.slice 219 k219) w A0_0 l0_0.length l0_0)(hc0_0:l0_0.length≤c0_0)(h:spec_l2Function.f l0_0 a1=some r) :
  Calls Try.prog 225 #[.agg #[.slice A0_0 l0_0.length c0_0],.int .i64 a1] w fun e w'=>e= .returned (.bool r)∧Below w.heap.size w w':=by
 have hu35:=Try.underlying35
 have HR0_0:=am hr0_0
 have HC0_0:=am hc0_0
 clear hr0_0 hc0_0
 have HB:=am (Below.refl w.heap.size w)
 have H:((spec_l1In.f a1 0 (wrap64 ((l0_0.length:Int)-1))).bind fun t109=>(some t109))=some r:=h
 clear h
 obtain⟨t109,A3,H⟩:=bms H
 try dsimp only at H
 obtain rfl:=Option.some.inj H
 go_enter Try.func225,Try.ntmps225
 go_wp2_with (first|(refine bx 2 #[.slice A0_0 l0_0.length c0_0] 35 (h:= ?_);intro gb108 hg w4 hbox hb;have BK108:=am (hbox);have GE108:=am ((zq4:w.heap.size≤gb108));replace HB:=am (below_step zq0 hb);clear hb hbox hg;obtain⟨hcz5_0,hfz5_0⟩:=cf1 BK108.out)|(refine gl (some 10) 211 Try.func211 #[.int .i64 a1,.int .i64 0,.int .i64 (wrap64 ((l0_0.length:Int)-1))] (h:= ?_);(with_reducible refine(spec_l1In.calls a1 0 (wrap64 ((l0_0.length:Int)-1)) t109 _ A3.out).mono ?_);rintro e w' ⟨rfl,⟨nd,rfl⟩⟩;refine⟨_,rfl,?_⟩))
 go_ret
 exact⟨zq3,by repeat(first|(with_reducible first|exact HB.out|apply below_alloc|apply pw_below_drewN|apply below_drew1|refine below_set ?_ GE108.out)|exact HB.out)⟩
def spec_l2Reg.f(a0:Int):Option (Bool):=(spec_l1In.f a0 0 3).bind fun t110=>(some t110)
theorem spec_l2Reg.calls(a0:Int)(r:Bool)(w:World)(h:spec_l2Reg.f a0=some r) :
  Calls Try.prog 279 #[.int .i64 a0] w fun e w'=>e= .returned (.bool r)∧Drawn0 w w':=by
 have H:((spec_l1In.f a0 0 3).bind fun t110=>(some t110))=some r:=h
 clear h
 obtain⟨t110,A2,H⟩:=bms H
 try dsimp only at H
 obtain rfl:=Option.some.inj H
 go_enter Try.func279,Try.ntmps279
 go_wp2_with (first|(refine gl (some 4) 211 Try.func211 #[.int .i64 a0,.int .i64 0,.int .i64 3] (h:= ?_);(with_reducible refine(spec_l1In.calls a0 0 3 t110 _ A2.out).mono ?_);rintro e w' ⟨rfl,⟨nd,rfl⟩⟩;refine⟨_,rfl,?_⟩))
 go_ret
 exact⟨zq8,zq12⟩
def impl_IsBench.f(l0_0:List (List (S219)))(a0_1:Int)(a0_2:Int):Option (Bool):=(impl_IsProgram.f l0_0).bind fun t189=>(if t189=true then((impl_in.f a0_1 0 200).bind fun t190=>(if t190=true then((impl_in.f a0_2 0 1000).bind fun t191=>(some t191)) else(some false))) else(some false))
theorem impl_IsBench.calls(A0_0:Option Addr)(c0_0:Nat)(l0_0:List (List (S219)))(a0_1:Int)(a0_2:Int)(r:Bool)(w:World)(hr0_0:Kd.C (Kd.slice 219 k219) w A0_0 l0_0.length l0_0)(hc0_0:l0_0.length≤c0_0)(h:impl_IsBench.f l0_0 a0_1 a0_2=some r) :
  Calls Try.prog 137 #[.agg #[.slice A0_0 l0_0.length c0_0,.int .i64 a0_1,.int .i64 a0_2]] w fun e w'=>e= .returned (.bool r)∧Below w.heap.size w w':=by
 have hu37:=Try.underlying37
 have hu35:=Try.underlying35
 have HR0_0:=am hr0_0
 have HC0_0:=am hc0_0
 clear hr0_0 hc0_0
 have HB:=am (Below.refl w.heap.size w)
 have H:((impl_IsProgram.f l0_0).bind fun t189=>(if t189=true then((impl_in.f a0_1 0 200).bind fun t190=>(if t190=true then((impl_in.f a0_2 0 1000).bind fun t191=>(some t191)) else(some false))) else(some false)))=some r:=h
 clear h
 obtain⟨t189,A2,H⟩:=bms H
 try dsimp only at H
 by_cases c3:t189=true
 ·subst c3
  rw [if_pos rfl] at H
  obtain⟨t190,A4,H⟩:=bms H
  try dsimp only at H
  by_cases c5:t190=true
  ·subst c5
   rw [if_pos rfl] at H
   obtain⟨t191,A6,H⟩:=bms H
   try dsimp only at H
   obtain rfl:=Option.some.inj H
   go_enter Try.func137,Try.ntmps137
   go_wp2_with (first|(refine bx 1 #[.slice A0_0 l0_0.length c0_0,.int .i64 a0_1,.int .i64 a0_2] 37 (h:= ?_);intro gb188 hg w7 hbox hb;have BK188:=am (hbox);have GE188:=am ((zq4:w.heap.size≤gb188));replace HB:=am (below_step zq0 hb);clear hb hbox hg;obtain⟨hcz8_0,hcz8_1,hcz8_2,hfz8_0,hfz8_1,hfz8_2⟩:=cf3 BK188.out)|(refine gl (some 5) 216 Try.func216 #[.agg #[.slice A0_0 l0_0.length c0_0]] (h:= ?_);(with_reducible refine(impl_IsProgram.calls _ _ l0_0 true _ ?side1 ?side2 A2.out).mono ?_);(case side1=>exact zq13);(case side2=>exact HC0_0.out);rintro e w9 ⟨rfl,hb⟩;refine⟨_,rfl,?_⟩;replace BK188:=am (blk_below (g:=gb188) (o:= .cells #[.slice A0_0 l0_0.length c0_0,.int .i64 a0_1,.int .i64 a0_2] 37 (0,0)) zq24 hb);replace HB:=am (below_step zq19 hb);(try clear hb);obtain⟨hcz10_0,hcz10_1,hcz10_2,hfz10_0,hfz10_1,hfz10_2⟩:=cf3 BK188.out)|(go_at_call 188;(with_reducible refine(impl_in.calls a0_1 0 200 true _ A4.out).mono ?_);rintro e w' ⟨rfl,⟨nd,rfl⟩⟩)|(go_at_call 188;(with_reducible refine(impl_in.calls a0_2 0 1000 t191 _ A6.out).mono ?_);rintro e w' ⟨rfl,⟨nd,rfl⟩⟩))
   go_ret
   exact⟨zq3,zq19⟩
  ·replace c5:=Bool.eq_false_iff.mpr c5
   subst c5
   rw [if_neg (show ¬(false=true) by decide)] at H
   obtain rfl:=Option.some.inj H
   go_enter Try.func137,Try.ntmps137
   go_wp2_with (first|(refine bx 1 #[.slice A0_0 l0_0.length c0_0,.int .i64 a0_1,.int .i64 a0_2] 37 (h:= ?_);intro gb188 hg w11 hbox hb;have BK188:=am (hbox);have GE188:=am ((zq4:w.heap.size≤gb188));replace HB:=am (below_step zq0 hb);clear hb hbox hg;obtain⟨hcz12_0,hcz12_1,hcz12_2,hfz12_0,hfz12_1,hfz12_2⟩:=cf3 BK188.out)|(refine gl (some 5) 216 Try.func216 #[.agg #[.slice A0_0 l0_0.length c0_0]] (h:= ?_);(with_reducible refine(impl_IsProgram.calls _ _ l0_0 true _ ?side1 ?side2 A2.out).mono ?_);(case side1=>exact zq13);(case side2=>exact HC0_0.out);rintro e w13 ⟨rfl,hb⟩;refine⟨_,rfl,?_⟩;replace BK188:=am (blk_below (g:=gb188) (o:= .cells #[.slice A0_0 l0_0.length c0_0,.int .i64 a0_1,.int .i64 a0_2] 37 (0,0)) zq24 hb);replace HB:=am (below_step zq19 hb);(try clear hb);obtain⟨hcz14_0,hcz14_1,hcz14_2,hfz14_0,hfz14_1,hfz14_2⟩:=cf3 BK188.out)|(go_at_call 188;(with_reducible refine(impl_in.calls a0_1 0 200 false _ A4.out).mono ?_);rintro e w' ⟨rfl,⟨nd,rfl⟩⟩))
   go_ret
   exact⟨zq3,zq19⟩
 ·replace c3:=Bool.eq_false_iff.mpr c3
  subst c3
  rw [if_neg (show ¬(false=true) by decide)] at H
  obtain rfl:=Option.some.inj H
  go_enter Try.func137,Try.ntmps137
  go_wp2_with (first|(refine bx 1 #[.slice A0_0 l0_0.length c0_0,.int .i64 a0_1,.int .i64 a0_2] 37 (h:= ?_);intro gb188 hg w15 hbox hb;have BK188:=am (hbox);have GE188:=am ((zq4:w.heap.size≤gb188));replace HB:=am (below_step zq0 hb);clear hb hbox hg;obtain⟨hcz16_0,hcz16_1,hcz16_2,hfz16_0,hfz16_1,hfz16_2⟩:=cf3 BK188.out)|(refine gl (some 5) 216 Try.func216 #[.agg #[.slice A0_0 l0_0.length c0_0]] (h:= ?_);(with_reducible refine(impl_IsProgram.calls _ _ l0_0 false _ ?side1 ?side2 A2.out).mono ?_);(case side1=>exact zq13);(case side2=>exact HC0_0.out);rintro e w17 ⟨rfl,hb⟩;refine⟨_,rfl,?_⟩;replace BK188:=am (blk_below (g:=gb188) (o:= .cells #[.slice A0_0 l0_0.length c0_0,.int .i64 a0_1,.int .i64 a0_2] 37 (0,0)) zq24 hb);replace HB:=am (below_step zq19 hb);(try clear hb)))
  go_ret
  exact⟨zq3,zq19⟩
def impl_RunBench.f(l0_0:List (List (S219)))(a0_1:Int)(a0_2:Int)(a1:Int)(a2:Int):Option (Int×Int×(List (S63))×Int×Bool):=(impl_IsBench.f l0_0 a0_1 a0_2).bind fun t194=>(if t194=true then((impl_RunProgram.f l0_0 a1 a2 a0_1).bind fun bt195=>(some (bt195.1,bt195.2.1,bt195.2.2.1,bt195.2.2.2.1,bt195.2.2.2.2))) else(some (0,0,([]:List (S63)),0,false)))
theorem impl_RunBench.calls(A0_0:Option Addr)(c0_0:Nat)(l0_0:List (List (S219)))(a0_1:Int)(a0_2:Int)(a1:Int)(a2:Int)(r1:Int)(r2:Int)(r3:List (S63))(r4:Int)(r5:Bool)(w:World)(hr0_0:Kd.C (Kd.slice 219 k219) w A0_0 l0_0.length l0_0)(hc0_0:l0_0.length≤c0_0)(h:impl_RunBench.f l0_0 a0_1 a0_2 a1 a2=some (r1,r2,r3,r4,r5)) :
  Calls Try.prog 18 #[.agg #[.slice A0_0 l0_0.length c0_0,.int .i64 a0_1,.int .i64 a0_2],.int .i64 a1,.int .i64 a2] w fun e w'=> ∃ v2_:Value,e= .returned (.tuple #[.agg #[.int .i64 r1,.int .i64 r2,v2_,.int .i64 r4],.bool r5])∧Kd.R k63 63 w' w.heap.size (fun _=>True) v2_ r3∧Below w.heap.size w w':=by
 have hu37:=Try.underlying37
 have hu30:=Try.underlying30
 have hu35:=Try.underlying35
 have HR0_0:=am hr0_0
 have HC0_0:=am hc0_0
 clear hr0_0 hc0_0
 have HB:=am (Below.refl w.heap.size w)
 have H:((impl_IsBench.f l0_0 a0_1 a0_2).bind fun t194=>(if t194=true then((impl_RunProgram.f l0_0 a1 a2 a0_1).bind fun bt195=>(some (bt195.1,bt195.2.1,bt195.2.2.1,bt195.2.2.2.1,bt195.2.2.2.2))) else(some (0,0,([]:List (S63)),0,false))))=some (r1,r2,r3,r4,r5):=h
 clear h
 obtain⟨t194,A4,H⟩:=bms H
 try dsimp only at H
 by_cases c5:t194=true
 ·subst c5
  rw [if_pos rfl] at H
  obtain⟨⟨t195,t196,t197,t200,t201⟩,A6,H⟩:=bms H
  try dsimp only at H
  simp only [Option.some.injEq,Prod.mk.injEq] at H
  obtain⟨rfl,rfl,rfl,rfl,rfl⟩:=H
  go_enter Try.func18,Try.ntmps18
  go_wp2_with (first|(refine bx 3 #[.slice A0_0 l0_0.length c0_0,.int .i64 a0_1,.int .i64 a0_2] 37 (h:= ?_);intro gb192 hg w7 hbox hb;have BK192:=am (hbox);have GE192:=am ((zq4:w.heap.size≤gb192));replace HB:=am (below_step zq0 hb);clear hb hbox hg)|(refine bx 6 #[.int .i64 0,.int .i64 0,.slice none 0 0,.int .i64 0] 30 (h:= ?_);intro gb193 hg w8 hbox hb;have BK193:=am (hbox);have GE193:=am ((by rw [hg];exact(below_size zq21):w.heap.size≤gb193));replace HB:=am (below_step zq21 hb);have NB192_193:=am ((zq123:gb192≠gb193));have NB193_192:=am ((zq124:gb193≠gb192));replace BK192:=am (blk_below (g:=gb192) (o:= .cells #[.slice A0_0 l0_0.length c0_0,.int .i64 a0_1,.int .i64 a0_2] 37 (0,0)) zq18 hb);clear hb hbox hg;have hnb9:=NB192_193.out;have hnc9:=NB193_192.out;obtain⟨hcz10_0,hcz10_1,hcz10_2,hfz10_0,hfz10_1,hfz10_2⟩:=cf3 BK192.out)|(refine gl (some 9) 137 Try.func137 #[.agg #[.slice A0_0 l0_0.length c0_0,.int .i64 a0_1,.int .i64 a0_2]] (h:= ?_);(with_reducible refine(impl_IsBench.calls _ _ l0_0 a0_1 a0_2 true _ ?side1 ?side2 A4.out).mono ?_);(case side1=>exact zq13);(case side2=>exact HC0_0.out);rintro e w11 ⟨rfl,hb⟩;refine⟨_,rfl,?_⟩;replace BK192:=am (blk_below (g:=gb192) (o:= .cells #[.slice A0_0 l0_0.length c0_0,.int .i64 a0_1,.int .i64 a0_2] 37 (0,0)) zq18 hb);replace BK193:=am (blk_below (g:=gb193) (o:= .cells #[.int .i64 0,.int .i64 0,.slice none 0 0,.int .i64 0] 30 (0,0)) zq25 hb);replace HB:=am (below_step zq17 hb);(try clear hb);obtain⟨hcz12_0,hcz12_1,hcz12_2,hfz12_0,hfz12_1,hfz12_2⟩:=cf3 BK192.out)|(refine gl (some 18) 35 Try.func35 #[.agg #[.slice A0_0 l0_0.length c0_0],.int .i64 a1,.int .i64 a2,.int .i64 a0_1] (h:= ?_);(with_reducible refine(impl_RunProgram.calls _ _ l0_0 a1 a2 a0_1 t195 t196 t197 t200 t201 _ ?side1 ?side2 A6.out).mono ?_);(case side1=>exact zq13);(case side2=>exact HC0_0.out);rintro e w13 ⟨v198,rfl,ho0,hb⟩;refine⟨_,rfl,?_⟩;have HO199:=am (Kd.R_lower ho0 (below_size zq17));replace BK192:=am (blk_below (g:=gb192) (o:= .cells #[.slice A0_0 l0_0.length c0_0,.int .i64 a0_1,.int .i64 a0_2] 37 (0,0)) zq18 hb);replace BK193:=am (blk_below (g:=gb193) (o:= .cells #[.int .i64 0,.int .i64 0,.slice none 0 0,.int .i64 0] 30 (0,0)) zq25 hb);replace HB:=am (below_step zq17 hb);(try clear hb);(try clear ho0);obtain⟨hcz14_0,hcz14_1,hcz14_2,hcz14_3,hfz14_0,hfz14_1,hfz14_2,hfz14_3⟩:=cf4 BK193.out;obtain⟨Ao15,co15,eo15⟩:=Kd.R_slice HO199.out;subst eo15))
  refine bodyPost_ret (results_ct rfl _ _ gb193 30 #[.int .i64 t195,.int .i64 t196,.slice Ao15 t197.length co15,.int .i64 t200] (0,0) _ rfl (by(with_reducible repeat(first|refine blk_drewN ?_ _|refine blk_drew ?_|refine blk_alloc ?_ _));refine blk_put (cs:= #[.int .i64 t195,.int .i64 t196,.slice Ao15 t197.length co15,.int .i64 0]) ?_ 3 _ rfl;(with_reducible repeat(first|refine blk_drewN ?_ _|refine blk_drew ?_|refine blk_alloc ?_ _));refine blk_put (cs:= #[.int .i64 t195,.int .i64 t196,.slice none 0 0,.int .i64 0]) ?_ 2 _ rfl;(with_reducible repeat(first|refine blk_drewN ?_ _|refine blk_drew ?_|refine blk_alloc ?_ _));refine blk_put (cs:= #[.int .i64 t195,.int .i64 0,.slice none 0 0,.int .i64 0]) ?_ 1 _ rfl;(with_reducible repeat(first|refine blk_drewN ?_ _|refine blk_drew ?_|refine blk_alloc ?_ _));refine blk_put (cs:= #[.int .i64 0,.int .i64 0,.slice none 0 0,.int .i64 0]) ?_ 0 _ rfl;(with_reducible repeat(first|refine blk_drewN ?_ _|refine blk_drew ?_|refine blk_alloc ?_ _));exact BK193.out) Try.underlying30 rfl zq27) rfl ?_
  exact⟨_,zq3,by(with_reducible repeat(first|apply Kd.R_alloc|apply Kd.R_drewN|apply Kd.R_drew));exact Kd.R_mono (Kd.R_far (p:=⟨gb193,3,none⟩) (Kd.R_far (p:=⟨gb193,2,none⟩) (Kd.R_far (p:=⟨gb193,1,none⟩) (Kd.R_far (p:=⟨gb193,0,none⟩) (Kd.R_types HO199.out BK193.out zq83) (fun _ hk=>hk.2) (.int .i64 t195)) (fun _ hk=>hk.2) (.int .i64 t196)) (fun _ hk=>hk.2) (.slice Ao15 t197.length co15)) (fun _ hk=>hk.2) (.int .i64 t200)) (fun _ hk=>trivial),zq17⟩
 ·replace c5:=Bool.eq_false_iff.mpr c5
  subst c5
  rw [if_neg (show ¬(false=true) by decide)] at H
  simp only [Option.some.injEq,Prod.mk.injEq] at H
  obtain⟨rfl,rfl,rfl,rfl,rfl⟩:=H
  go_enter Try.func18,Try.ntmps18
  go_wp2_with (first|(refine bx 3 #[.slice A0_0 l0_0.length c0_0,.int .i64 a0_1,.int .i64 a0_2] 37 (h:= ?_);intro gb192 hg w16 hbox hb;have BK192:=am (hbox);have GE192:=am ((zq4:w.heap.size≤gb192));replace HB:=am (below_step zq0 hb);clear hb hbox hg)|(refine bx 6 #[.int .i64 0,.int .i64 0,.slice none 0 0,.int .i64 0] 30 (h:= ?_);intro gb193 hg w17 hbox hb;have BK193:=am (hbox);have GE193:=am ((by rw [hg];exact(below_size zq21):w.heap.size≤gb193));replace HB:=am (below_step zq21 hb);have NB192_193:=am ((zq123:gb192≠gb193));have NB193_192:=am ((zq124:gb193≠gb192));replace BK192:=am (blk_below (g:=gb192) (o:= .cells #[.slice A0_0 l0_0.length c0_0,.int .i64 a0_1,.int .i64 a0_2] 37 (0,0)) zq18 hb);clear hb hbox hg;have hnb18:=NB192_193.out;have hnc18:=NB193_192.out;obtain⟨hcz19_0,hcz19_1,hcz19_2,hfz19_0,hfz19_1,hfz19_2⟩:=cf3 BK192.out)|(refine gl (some 9) 137 Try.func137 #[.agg #[.slice A0_0 l0_0.length c0_0,.int .i64 a0_1,.int .i64 a0_2]] (h:= ?_);(with_reducible refine(impl_IsBench.calls _ _ l0_0 a0_1 a0_2 false _ ?side1 ?side2 A4.out).mono ?_);(case side1=>exact zq13);(case side2=>exact HC0_0.out);rintro e w20 ⟨rfl,hb⟩;refine⟨_,rfl,?_⟩;replace BK192:=am (blk_below (g:=gb192) (o:= .cells #[.slice A0_0 l0_0.length c0_0,.int .i64 a0_1,.int .i64 a0_2] 37 (0,0)) zq18 hb);replace BK193:=am (blk_below (g:=gb193) (o:= .cells #[.int .i64 0,.int .i64 0,.slice none 0 0,.int .i64 0] 30 (0,0)) zq25 hb);replace HB:=am (below_step zq17 hb);(try clear hb);obtain⟨hcz21_0,hcz21_1,hcz21_2,hcz21_3,hfz21_0,hfz21_1,hfz21_2,hfz21_3⟩:=cf4 BK193.out))
  refine bodyPost_ret (results_ct rfl _ _ gb193 30 #[.int .i64 0,.int .i64 0,.slice none 0 0,.int .i64 0] (0,0) _ rfl (by(with_reducible repeat(first|refine blk_drewN ?_ _|refine blk_drew ?_|refine blk_alloc ?_ _));refine blk_put (cs:= #[.int .i64 0,.int .i64 0,.slice none 0 0,.int .i64 0]) ?_ 3 _ rfl;(with_reducible repeat(first|refine blk_drewN ?_ _|refine blk_drew ?_|refine blk_alloc ?_ _));refine blk_put (cs:= #[.int .i64 0,.int .i64 0,.slice none 0 0,.int .i64 0]) ?_ 2 _ rfl;(with_reducible repeat(first|refine blk_drewN ?_ _|refine blk_drew ?_|refine blk_alloc ?_ _));refine blk_put (cs:= #[.int .i64 0,.int .i64 0,.slice none 0 0,.int .i64 0]) ?_ 1 _ rfl;(with_reducible repeat(first|refine blk_drewN ?_ _|refine blk_drew ?_|refine blk_alloc ?_ _));refine blk_put (cs:= #[.int .i64 0,.int .i64 0,.slice none 0 0,.int .i64 0]) ?_ 0 _ rfl;(with_reducible repeat(first|refine blk_drewN ?_ _|refine blk_drew ?_|refine blk_alloc ?_ _));exact BK193.out) Try.underlying30 rfl zq27) rfl ?_
  exact⟨_,zq3,zq98,zq17⟩
def laws_eqEvent.f(a0_0:Int)(a0_1:Int)(a0_2:Int)(a1_0:Int)(a1_1:Int)(a1_2:Int):Option (Bool):=if a0_0=a1_0 then(if a0_1=a1_1 then(if a0_2=a1_2 then(some true) else(some false)) else(some false)) else(some false)
theorem laws_eqEvent.calls(a0_0:Int)(a0_1:Int)(a0_2:Int)(a1_0:Int)(a1_1:Int)(a1_2:Int)(r:Bool)(w:World)(h:laws_eqEvent.f a0_0 a0_1 a0_2 a1_0 a1_1 a1_2=some r) :
  Calls Try.prog 223 #[.agg #[.int .i64 a0_0,.int .i64 a0_1,.int .i64 a0_2],.agg #[.int .i64 a1_0,.int .i64 a1_1,.int .i64 a1_2]] w fun e w'=>e= .returned (.bool r)∧Below w.heap.size w w':=by
 have hu63:=Try.underlying63
 have HB:=am (Below.refl w.heap.size w)
 have H:(if a0_0=a1_0 then(if a0_1=a1_1 then(if a0_2=a1_2 then(some true) else(some false)) else(some false)) else(some false))=some r:=h
 clear h
 by_cases c3:a0_0=a1_0
 ·rw [if_pos c3] at H
  have c3b0:(a0_0==a1_0)=true:=beq_iff_eq.mpr c3
  have c3b1:(a0_0 != a1_0)=false:=bne_eq_false_iff_eq.mpr c3
  clear c3
  by_cases c4:a0_1=a1_1
  ·rw [if_pos c4] at H
   have c4b0:(a0_1==a1_1)=true:=beq_iff_eq.mpr c4
   have c4b1:(a0_1 != a1_1)=false:=bne_eq_false_iff_eq.mpr c4
   clear c4
   by_cases c5:a0_2=a1_2
   ·rw [if_pos c5] at H
    have c5b0:(a0_2==a1_2)=true:=beq_iff_eq.mpr c5
    have c5b1:(a0_2 != a1_2)=false:=bne_eq_false_iff_eq.mpr c5
    clear c5
    obtain rfl:=Option.some.inj H
    go_enter Try.func223,Try.ntmps223
    go_wp2_with (first|(refine bx 2 #[.int .i64 a0_0,.int .i64 a0_1,.int .i64 a0_2] 63 (h:= ?_);intro gb202 hg w6 hbox hb;have BK202:=am (hbox);have GE202:=am ((zq4:w.heap.size≤gb202));replace HB:=am (below_step zq0 hb);clear hb hbox hg)|(refine bx 3 #[.int .i64 a1_0,.int .i64 a1_1,.int .i64 a1_2] 63 (h:= ?_);intro gb203 hg w7 hbox hb;have BK203:=am (hbox);have GE203:=am ((by rw [hg];exact(below_size zq16):w.heap.size≤gb203));replace HB:=am (below_step zq16 hb);have NB202_203:=am ((zq22:gb202≠gb203));have NB203_202:=am ((zq23:gb203≠gb202));replace BK202:=am (blk_below (g:=gb202) (o:= .cells #[.int .i64 a0_0,.int .i64 a0_1,.int .i64 a0_2] 63 (0,0)) zq15 hb);clear hb hbox hg;have hnb8:=NB202_203.out;have hnc8:=NB203_202.out;obtain⟨hcz9_0,hcz9_1,hcz9_2,hfz9_0,hfz9_1,hfz9_2⟩:=cf3 BK202.out;obtain⟨hcz10_0,hcz10_1,hcz10_2,hfz10_0,hfz10_1,hfz10_2⟩:=cf3 BK203.out))
    go_ret
    exact⟨zq3,zq20⟩
   ·rw [if_neg c5] at H
    have c5b0:(a0_2==a1_2)=false:=beq_eq_false_iff_ne.mpr c5
    have c5b1:(a0_2 != a1_2)=true:=bne_iff_ne.mpr c5
    obtain rfl:=Option.some.inj H
    go_enter Try.func223,Try.ntmps223
    go_wp2_with (first|(refine bx 2 #[.int .i64 a0_0,.int .i64 a0_1,.int .i64 a0_2] 63 (h:= ?_);intro gb202 hg w11 hbox hb;have BK202:=am (hbox);have GE202:=am ((zq4:w.heap.size≤gb202));replace HB:=am (below_step zq0 hb);clear hb hbox hg)|(refine bx 3 #[.int .i64 a1_0,.int .i64 a1_1,.int .i64 a1_2] 63 (h:= ?_);intro gb203 hg w12 hbox hb;have BK203:=am (hbox);have GE203:=am ((by rw [hg];exact(below_size zq16):w.heap.size≤gb203));replace HB:=am (below_step zq16 hb);have NB202_203:=am ((zq22:gb202≠gb203));have NB203_202:=am ((zq23:gb203≠gb202));replace BK202:=am (blk_below (g:=gb202) (o:= .cells #[.int .i64 a0_0,.int .i64 a0_1,.int .i64 a0_2] 63 (0,0)) zq15 hb);clear hb hbox hg;have hnb13:=NB202_203.out;have hnc13:=NB203_202.out;obtain⟨hcz14_0,hcz14_1,hcz14_2,hfz14_0,hfz14_1,hfz14_2⟩:=cf3 BK202.out;obtain⟨hcz15_0,hcz15_1,hcz15_2,hfz15_0,hfz15_1,hfz15_2⟩:=cf3 BK203.out))
    go_ret
    exact⟨zq3,zq20⟩
  ·rw [if_neg c4] at H
   have c4b0:(a0_1==a1_1)=false:=beq_eq_false_iff_ne.mpr c4
   have c4b1:(a0_1 != a1_1)=true:=bne_iff_ne.mpr c4
   obtain rfl:=Option.some.inj H
   go_enter Try.func223,Try.ntmps223
   go_wp2_with (first|(refine bx 2 #[.int .i64 a0_0,.int .i64 a0_1,.int .i64 a0_2] 63 (h:= ?_);intro gb202 hg w16 hbox hb;have BK202:=am (hbox);have GE202:=am ((zq4:w.heap.size≤gb202));replace HB:=am (below_step zq0 hb);clear hb hbox hg)|(refine bx 3 #[.int .i64 a1_0,.int .i64 a1_1,.int .i64 a1_2] 63 (h:= ?_);intro gb203 hg w17 hbox hb;have BK203:=am (hbox);have GE203:=am ((by rw [hg];exact(below_size zq16):w.heap.size≤gb203));replace HB:=am (below_step zq16 hb);have NB202_203:=am ((zq22:gb202≠gb203));have NB203_202:=am ((zq23:gb203≠gb202));replace BK202:=am (blk_below (g:=gb202) (o:= .cells #[.int .i64 a0_0,.int .i64 a0_1,.int .i64 a0_2] 63 (0,0)) zq15 hb);clear hb hbox hg;have hnb18:=NB202_203.out;have hnc18:=NB203_202.out;obtain⟨hcz19_0,hcz19_1,hcz19_2,hfz19_0,hfz19_1,hfz19_2⟩:=cf3 BK202.out;obtain⟨hcz20_0,hcz20_1,hcz20_2,hfz20_0,hfz20_1,hfz20_2⟩:=cf3 BK203.out))
   go_ret
   exact⟨zq3,zq20⟩
 ·rw [if_neg c3] at H
  have c3b0:(a0_0==a1_0)=false:=beq_eq_false_iff_ne.mpr c3
  have c3b1:(a0_0 != a1_0)=true:=bne_iff_ne.mpr c3
  obtain rfl:=Option.some.inj H
  go_enter Try.func223,Try.ntmps223
  go_wp2_with (first|(refine bx 2 #[.int .i64 a0_0,.int .i64 a0_1,.int .i64 a0_2] 63 (h:= ?_);intro gb202 hg w21 hbox hb;have BK202:=am (hbox);have GE202:=am ((zq4:w.heap.size≤gb202));replace HB:=am (below_step zq0 hb);clear hb hbox hg)|(refine bx 3 #[.int .i64 a1_0,.int .i64 a1_1,.int .i64 a1_2] 63 (h:= ?_);intro gb203 hg w22 hbox hb;have BK203:=am (hbox);have GE203:=am ((by rw [hg];exact(below_size zq16):w.heap.size≤gb203));replace HB:=am (below_step zq16 hb);have NB202_203:=am ((zq22:gb202≠gb203));have NB203_202:=am ((zq23:gb203≠gb202));replace BK202:=am (blk_below (g:=gb202) (o:= .cells #[.int .i64 a0_0,.int .i64 a0_1,.int .i64 a0_2] 63 (0,0)) zq15 hb);clear hb hbox hg;have hnb23:=NB202_203.out;have hnc23:=NB203_202.out;obtain⟨hcz24_0,hcz24_1,hcz24_2,hfz24_0,hfz24_1,hfz24_2⟩:=cf3 BK202.out;obtain⟨hcz25_0,hcz25_1,hcz25_2,hfz25_0,hfz25_1,hfz25_2⟩:=cf3 BK203.out))
  go_ret
  exact⟨zq3,zq20⟩
def laws_eqEventS.l0:Nat→List (S63)→List (S63)→Int→Option (Bool)
 |0,_,_,_=>none
 |k+1,x0,x1,x5=>if x5<(x0.length:Int) then(if 0≤x5 then(if x5<(x1.length:Int) then((laws_eqEvent.f ((rd_T63 x0 x5).f0) ((rd_T63 x0 x5).f1) ((rd_T63 x0 x5).f2) ((rd_T63 x1 x5).f0) ((rd_T63 x1 x5).f1) ((rd_T63 x1 x5).f2)).bind fun t206=>(if t206=true then(laws_eqEventS.l0 k x0 x1 (wrap64 (x5+1))) else(some false))) else(none)) else(none)) else(some true)
def laws_eqEventS.f(k:Nat)(l0:List (S63))(l1:List (S63)):Option (Bool):=if(l0.length:Int)=(l1.length:Int) then(laws_eqEventS.l0 k l0 l1 0) else(some false)
def laws_eqEventS.T6:Bool×List (List Nat×List Nat):=(true,[([],[]),([],[]),([0,1],[0,1]),([2],[2]),([],[]),([],[]),([4,5],[4,5]),([6],[6]),([3,7],[3,7]),([8],[8])])
def laws_eqEventS.B6:List Nat:= [0,0,3,7,0,0,48,112,255,511]
theorem laws_eqEventS.tab6:rtab .any (opsOf Try.f138 6)=laws_eqEventS.T6:=by kernel_rfl
theorem laws_eqEventS.bits6:waitsOk laws_eqEventS.T6.2 laws_eqEventS.B6=true:=by kernel_rfl
theorem laws_eqEventS.calls(k:Nat)(A0:Option Addr)(c0:Nat)(l0:List (S63))(A1:Option Addr)(c1:Nat)(l1:List (S63))(r:Bool)(w:World)(hr0:Kd.C k63 w A0 l0.length l0)(hc0:l0.length≤c0)(hr1:Kd.C k63 w A1 l1.length l1)(hc1:l1.length≤c1)(h:laws_eqEventS.f k l0 l1=some r) :
  Calls Try.prog 138 #[.slice A0 l0.length c0,.slice A1 l1.length c1] w fun e w'=>e= .returned (.bool r)∧Below w.heap.size w w':=by
 have hu63:=Try.underlying63
 have HR0:=am hr0
 have HC0:=am hc0
 clear hr0 hc0
 have HR1:=am hr1
 have HC1:=am hc1
 clear hr1 hc1
 have HB:=am (Below.refl w.heap.size w)
 have H:(if(l0.length:Int)=(l1.length:Int) then(laws_eqEventS.l0 k l0 l1 0) else(some false))=some r:=h
 clear h
 by_cases c3:(l0.length:Int)=(l1.length:Int)
 ·rw [if_pos c3] at H
  have c3b0:((l0.length:Int)==(l1.length:Int))=true:=beq_iff_eq.mpr c3
  have c3b1:((l0.length:Int) !=(l1.length:Int))=false:=bne_eq_false_iff_eq.mpr c3
  have c3b2:(l0.length==l1.length)=true:=by first|simpa using c3|(simp at c3 ⊢;omega)
  clear c3
  have H':=am H
  clear H
  go_enter Try.func138,Try.ntmps138
  go_wp2
  go_loopg [5] k (fun kq v5 w'=> ∃ (x5_1:Int),v5= .int .i64 x5_1∧Aside0 (laws_eqEventS.l0 kq l0 l1 x5_1=some r)∧Aside0 (kq≤k)∧Aside0 (Below w.heap.size w w'))
  case atStart=>exact⟨(0),zq8,H',⟨Nat.le_refl _⟩,⟨zq0⟩⟩
  case round =>
   clear H'
   try clear c1
   try clear p2
   try clear c3
   try clear c3b0
   try clear c3b1
   try clear c3b2
   obtain⟨x5_1,rfl,HA,HK1,HB⟩:=hrel
   cases gk with
   |zero=>exact absurd HA.out (by simp [laws_eqEventS.l0])
   |succ k1 =>
    have H:=HA.out
    clear HA
    simp only [laws_eqEventS.l0] at H
    by_cases c4:x5_1<(l0.length:Int)
    ·rw [if_pos c4] at H
     have c4b0:decide (x5_1<(l0.length:Int))=true:=decide_eq_true c4
     clear c4
     by_cases c5:0≤x5_1
     ·rw [if_pos c5] at H
      have c5b0:decide (0≤x5_1)=true:=decide_eq_true c5
      clear c5
      by_cases c6:x5_1<(l1.length:Int)
      ·rw [if_pos c6] at H
       have c6b0:decide (x5_1<(l1.length:Int))=true:=decide_eq_true c6
       clear c6
       obtain⟨t206,A7,H⟩:=bms H
       try dsimp only at H
       by_cases c8:t206=true
       ·subst c8
        rw [if_pos rfl] at H
        have H':=am H
        clear H
        try go_wp2
        replace HB:=am (below_drew1 HB.out)
        have p204:0≤(x5_1:Int):=of_decide_eq_true zq26
        have q204:x5_1<(l0.length:Int):=of_decide_eq_true zq26
        obtain⟨ad204,e204,hx204_0,hx204_1,hx204_2⟩:=at_T63 HR0.out x5_1 p204 q204
        have hw204_2:=hx204_2
        have hw204_1:=hx204_1
        have hw204_0:=hx204_0
        cases e204
        replace hx204_0:=cb HB hx204_0
        replace hx204_1:=cb HB hx204_1
        replace hx204_2:=cb HB hx204_2
        replace p204:=eq_true p204
        replace q204:=eq_true q204
        have p205:0≤(x5_1:Int):=of_decide_eq_true zq26
        have q205:x5_1<(l1.length:Int):=of_decide_eq_true zq26
        obtain⟨ad205,e205,hx205_0,hx205_1,hx205_2⟩:=at_T63 HR1.out x5_1 p205 q205
        have hw205_2:=hx205_2
        have hw205_1:=hx205_1
        have hw205_0:=hx205_0
        cases e205
        replace hx205_0:=cb HB hx205_0
        replace hx205_1:=cb HB hx205_1
        replace hx205_2:=cb HB hx205_2
        replace p205:=eq_true p205
        replace q205:=eq_true q205
        refine start_ (n:=10) (S:=fun w'=>w'.cell? (ad204.add ((x5_1).toNat*3))=some (.int .i64 ((rd_T63 l0 x5_1).f0))∧w'.cell? ⟨(ad204.add ((x5_1).toNat*3)).block,(ad204.add ((x5_1).toNat*3)).off+1,none⟩=some (.int .i64 ((rd_T63 l0 x5_1).f1))∧w'.cell? ⟨(ad204.add ((x5_1).toNat*3)).block,(ad204.add ((x5_1).toNat*3)).off+2,none⟩=some (.int .i64 ((rd_T63 l0 x5_1).f2))∧w'.cell? (ad205.add ((x5_1).toNat*3))=some (.int .i64 ((rd_T63 l1 x5_1).f0))∧w'.cell? ⟨(ad205.add ((x5_1).toNat*3)).block,(ad205.add ((x5_1).toNat*3)).off+1,none⟩=some (.int .i64 ((rd_T63 l1 x5_1).f1))∧w'.cell? ⟨(ad205.add ((x5_1).toNat*3)).block,(ad205.add ((x5_1).toNat*3)).off+2,none⟩=some (.int .i64 ((rd_T63 l1 x5_1).f2))) (ds:= []) (bb 10 0) zq27 rfl rfl ⟨(cb HB hw204_0),(cb HB hw204_1),(cb HB hw204_2),(cb HB hw205_0),(cb HB hw205_1),(cb HB hw205_2)⟩ (fun hHeld=> ?_);refine with_tabW laws_eqEventS.tab6 laws_eqEventS.bits6 (fun HT_ HW_=> ?_)
        generalize wr.drew=w9 at HB hx204_0 hx204_1 hx204_2 hx205_0 hx205_1 hx205_2 hHeld ⊢
        refine pu 0 17 (bb 10 1) (any_of HT_.out zq27) (h:= ?_)
        refine pu 1 18 (bb 10 3) (any_of HT_.out zq27) (h:= ?_)
        refine pu 2 19 (bb 10 7) (any_of HT_.out zq27) (h:= ?_)
        refine pu 4 21 (bb 10 23) (any_of HT_.out zq27) (h:= ?_)
        refine pu 5 22 (bb 10 55) (any_of HT_.out zq27) (h:= ?_)
        refine pu 6 23 (bb 10 119) (any_of HT_.out zq27) (h:= ?_)
        refine tk 3 20 (bb 10 127) (take_ofW HT_.out HW_.out zq27) hHeld (h:= ?_)
        refine tk 7 24 (bb 10 255) (take_ofW HT_.out HW_.out zq27) hHeld (h:= ?_)
        refine oe 8 (some 25) (bb 10 511) (one_of HT_.out zq27) (h:=fun K hK=> ?_)
        refine goes_ Try.func223 zq27 rfl #[.agg #[.int .i64 ((rd_T63 l0 x5_1).f0),.int .i64 ((rd_T63 l0 x5_1).f1),.int .i64 ((rd_T63 l0 x5_1).f2)],.agg #[.int .i64 ((rd_T63 l1 x5_1).f0),.int .i64 ((rd_T63 l1 x5_1).f1),.int .i64 ((rd_T63 l1 x5_1).f2)]] (by rfl) rfl rfl zq86 ?_
        with_reducible refine(laws_eqEvent.calls ((rd_T63 l0 x5_1).f0) ((rd_T63 l0 x5_1).f1) ((rd_T63 l0 x5_1).f2) ((rd_T63 l1 x5_1).f0) ((rd_T63 l1 x5_1).f1) ((rd_T63 l1 x5_1).f2) true _ A7.out).mono ?_
        rintro e w10 ⟨rfl,hb⟩
        refine⟨_,rfl,?_⟩
        replace HB:=am (below_step zq0 hb)
        (try clear hb)
        (try clear hb2)
        (try clear hk)
        (try clear hi)
        refine hK.out _ _ ⟨(cb HB hw204_0),(cb HB hw204_1),(cb HB hw204_2),(cb HB hw205_0),(cb HB hw205_1),(cb HB hw205_2)⟩ (fun hHeld=> ?_)
        clear hK K
        refine nm 25 (h:= ?_)
        refine pu 9 26 (bb 10 1023) (any_of HT_.out zq27) (h:= ?_)
        refine done_ (done_of HT_.out zq27) ?_
        try go_wp2
        go_roundg k1
        case measure=>have:=HK1.out;omega
        case rel=>exact⟨(wrap64 (x5_1+1)),zq8,H',⟨zq110⟩,⟨zq0⟩⟩
       ·replace c8:=Bool.eq_false_iff.mpr c8
        subst c8
        rw [if_neg (show ¬(false=true) by decide)] at H
        obtain rfl:=Option.some.inj H
        try go_wp2
        replace HB:=am (below_drew1 HB.out)
        have p204:0≤(x5_1:Int):=of_decide_eq_true zq26
        have q204:x5_1<(l0.length:Int):=of_decide_eq_true zq26
        obtain⟨ad204,e204,hx204_0,hx204_1,hx204_2⟩:=at_T63 HR0.out x5_1 p204 q204
        have hw204_2:=hx204_2
        have hw204_1:=hx204_1
        have hw204_0:=hx204_0
        cases e204
        replace hx204_0:=cb HB hx204_0
        replace hx204_1:=cb HB hx204_1
        replace hx204_2:=cb HB hx204_2
        replace p204:=eq_true p204
        replace q204:=eq_true q204
        have p205:0≤(x5_1:Int):=of_decide_eq_true zq26
        have q205:x5_1<(l1.length:Int):=of_decide_eq_true zq26
        obtain⟨ad205,e205,hx205_0,hx205_1,hx205_2⟩:=at_T63 HR1.out x5_1 p205 q205
        have hw205_2:=hx205_2
        have hw205_1:=hx205_1
        have hw205_0:=hx205_0
        cases e205
        replace hx205_0:=cb HB hx205_0
        replace hx205_1:=cb HB hx205_1
        replace hx205_2:=cb HB hx205_2
        replace p205:=eq_true p205
        replace q205:=eq_true q205
        refine start_ (n:=10) (S:=fun w'=>w'.cell? (ad204.add ((x5_1).toNat*3))=some (.int .i64 ((rd_T63 l0 x5_1).f0))∧w'.cell? ⟨(ad204.add ((x5_1).toNat*3)).block,(ad204.add ((x5_1).toNat*3)).off+1,none⟩=some (.int .i64 ((rd_T63 l0 x5_1).f1))∧w'.cell? ⟨(ad204.add ((x5_1).toNat*3)).block,(ad204.add ((x5_1).toNat*3)).off+2,none⟩=some (.int .i64 ((rd_T63 l0 x5_1).f2))∧w'.cell? (ad205.add ((x5_1).toNat*3))=some (.int .i64 ((rd_T63 l1 x5_1).f0))∧w'.cell? ⟨(ad205.add ((x5_1).toNat*3)).block,(ad205.add ((x5_1).toNat*3)).off+1,none⟩=some (.int .i64 ((rd_T63 l1 x5_1).f1))∧w'.cell? ⟨(ad205.add ((x5_1).toNat*3)).block,(ad205.add ((x5_1).toNat*3)).off+2,none⟩=some (.int .i64 ((rd_T63 l1 x5_1).f2))) (ds:= []) (bb 10 0) zq27 rfl rfl ⟨(cb HB hw204_0),(cb HB hw204_1),(cb HB hw204_2),(cb HB hw205_0),(cb HB hw205_1),(cb HB hw205_2)⟩ (fun hHeld=> ?_);refine with_tabW laws_eqEventS.tab6 laws_eqEventS.bits6 (fun HT_ HW_=> ?_)
        generalize wr.drew=w11 at HB hx204_0 hx204_1 hx204_2 hx205_0 hx205_1 hx205_2 hHeld ⊢
        refine pu 0 17 (bb 10 1) (any_of HT_.out zq27) (h:= ?_)
        refine pu 1 18 (bb 10 3) (any_of HT_.out zq27) (h:= ?_)
        refine pu 2 19 (bb 10 7) (any_of HT_.out zq27) (h:= ?_)
        refine pu 4 21 (bb 10 23) (any_of HT_.out zq27) (h:= ?_)
        refine pu 5 22 (bb 10 55) (any_of HT_.out zq27) (h:= ?_)
        refine pu 6 23 (bb 10 119) (any_of HT_.out zq27) (h:= ?_)
        refine tk 3 20 (bb 10 127) (take_ofW HT_.out HW_.out zq27) hHeld (h:= ?_)
        refine tk 7 24 (bb 10 255) (take_ofW HT_.out HW_.out zq27) hHeld (h:= ?_)
        refine oe 8 (some 25) (bb 10 511) (one_of HT_.out zq27) (h:=fun K hK=> ?_)
        refine goes_ Try.func223 zq27 rfl #[.agg #[.int .i64 ((rd_T63 l0 x5_1).f0),.int .i64 ((rd_T63 l0 x5_1).f1),.int .i64 ((rd_T63 l0 x5_1).f2)],.agg #[.int .i64 ((rd_T63 l1 x5_1).f0),.int .i64 ((rd_T63 l1 x5_1).f1),.int .i64 ((rd_T63 l1 x5_1).f2)]] (by rfl) rfl rfl zq86 ?_
        with_reducible refine(laws_eqEvent.calls ((rd_T63 l0 x5_1).f0) ((rd_T63 l0 x5_1).f1) ((rd_T63 l0 x5_1).f2) ((rd_T63 l1 x5_1).f0) ((rd_T63 l1 x5_1).f1) ((rd_T63 l1 x5_1).f2) false _ A7.out).mono ?_
        rintro e w12 ⟨rfl,hb⟩
        refine⟨_,rfl,?_⟩
        replace HB:=am (below_step zq0 hb)
        (try clear hb)
        (try clear hb2)
        (try clear hk)
        (try clear hi)
        refine hK.out _ _ ⟨(cb HB hw204_0),(cb HB hw204_1),(cb HB hw204_2),(cb HB hw205_0),(cb HB hw205_1),(cb HB hw205_2)⟩ (fun hHeld=> ?_)
        clear hK K
        refine nm 25 (h:= ?_)
        refine pu 9 26 (bb 10 1023) (any_of HT_.out zq27) (h:= ?_)
        refine done_ (done_of HT_.out zq27) ?_
        try go_wp2
        go_ret
        exact⟨zq3,zq0⟩
      ·rw [if_neg c6] at H
       exact absurd H (by simp)
     ·rw [if_neg c5] at H
      exact absurd H (by simp)
    ·rw [if_neg c4] at H
     have c4b0:decide (x5_1<(l0.length:Int))=false:=decide_eq_false c4
     clear c4
     obtain rfl:=Option.some.inj H
     go_wp2
     go_ret
     exact⟨zq3,zq0⟩
 ·rw [if_neg c3] at H
  have c3b0:((l0.length:Int)==(l1.length:Int))=false:=beq_eq_false_iff_ne.mpr c3
  have c3b1:((l0.length:Int) !=(l1.length:Int))=true:=bne_iff_ne.mpr c3
  have c3b2:(l0.length==l1.length)=false:=by first|simpa using c3|(simp at c3 ⊢;omega)
  obtain rfl:=Option.some.inj H
  go_enter Try.func138,Try.ntmps138
  go_wp2
  go_ret
  exact⟨zq3,zq0⟩
end Go.Proofs.Yteiafboknimgbaa.Pr
end
