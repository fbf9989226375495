import Derived.Test.YteiafboknimgbaaMa4
set_option maxHeartbeats 8000000
set_option maxRecDepth 100000
set_option linter.unusedVariables false
set_option linter.unusedSimpArgs false
section
namespace Go.Proofs.Yteiafboknimgbaa.Pr
open Go.RowKit Go.Proofs.W.PrintWords Go.Proofs.W.PrintLast Go.Proofs.W.PrintMore
attribute [local go_sem] max2_int min2_int max_two min_two max_three min_three max_four min_four
def impl_in.f(a0:Int)(a1:Int)(a2:Int):Option (Bool):=if a1≤a0 then(some (decide (a0≤a2))) else(some false)
theorem impl_in.calls(a0:Int)(a1:Int)(a2:Int)(r:Bool)(w:World)(h:impl_in.f a0 a1 a2=some r) :
  Calls Try.prog 188 #[.int .i64 a0,.int .i64 a1,.int .i64 a2] w fun e w'=>e= .returned (.bool r)∧Drawn0 w w':=by
 have H:(if a1≤a0 then(some (decide (a0≤a2))) else(some false))=some r:=h
 clear h
 by_cases c4:a1≤a0
 ·rw [if_pos c4] at H
  have c4b0:decide (a1≤a0)=true:=decide_eq_true c4
  clear c4
  obtain rfl:=Option.some.inj H
  go_enter Try.func188,Try.ntmps188
  go_wp2
  go_ret
  exact⟨zq8,zq12⟩
 ·rw [if_neg c4] at H
  have c4b0:decide (a1≤a0)=false:=decide_eq_false c4
  clear c4
  obtain rfl:=Option.some.inj H
  go_enter Try.func188,Try.ntmps188
  go_wp2
  go_ret
  exact⟨zq8,zq12⟩
def impl_isRegister.f(a0:Int):Option (Bool):=(impl_in.f a0 0 3).bind fun t354=>(some t354)
theorem impl_isRegister.calls(a0:Int)(r:Bool)(w:World)(h:impl_isRegister.f a0=some r) :
  Calls Try.prog 289 #[.int .i64 a0] w fun e w'=>e= .returned (.bool r)∧Drawn0 w w':=by
 have H:((impl_in.f a0 0 3).bind fun t354=>(some t354))=some r:=h
 clear h
 obtain⟨t354,A2,H⟩:=bms H
 try dsimp only at H
 obtain rfl:=Option.some.inj H
 go_enter Try.func289,Try.ntmps289
 go_wp2_with (first|(refine gl (some 4) 188 Try.func188 #[.int .i64 a0,.int .i64 0,.int .i64 3] (h:= ?_);(with_reducible refine(impl_in.calls a0 0 3 t354 _ A2.out).mono ?_);rintro e w' ⟨rfl,⟨nd,rfl⟩⟩;refine⟨_,rfl,?_⟩))
 go_ret
 exact⟨zq8,zq12⟩
def impl_isNumber.f(a0:Int):Option (Bool):=(impl_in.f a0 (-32768) 32767).bind fun t193=>(some t193)
theorem impl_isNumber.calls(a0:Int)(r:Bool)(w:World)(h:impl_isNumber.f a0=some r) :
  Calls Try.prog 219 #[.int .i64 a0] w fun e w'=>e= .returned (.bool r)∧Drawn0 w w':=by
 have H:((impl_in.f a0 (-32768) 32767).bind fun t193=>(some t193))=some r:=h
 clear h
 obtain⟨t193,A2,H⟩:=bms H
 try dsimp only at H
 obtain rfl:=Option.some.inj H
 go_enter Try.func219,Try.ntmps219
 go_wp2_with (first|(refine gl (some 4) 188 Try.func188 #[.int .i64 a0,.int .i64 (-32768),.int .i64 32767] (h:= ?_);(with_reducible refine(impl_in.calls a0 (-32768) 32767 t193 _ A2.out).mono ?_);rintro e w' ⟨rfl,⟨nd,rfl⟩⟩;refine⟨_,rfl,?_⟩))
 go_ret
 exact⟨zq8,zq12⟩
def impl_isStep.j0:Nat→Int→Bool→Bool→Int→Bool→Int→Int→Int→Option (Bool)
 |0,_,_,_,_,_,_,_,_=>none
 |k+1,x1,x5,x6,x14,x25,x356000,x356001,x356002=>if x25=true then((impl_in.f x356001 0 (wrap64 (x1-1))).bind fun t361=>((impl_isRegister.f x356002).bind fun t362=>((impl_in.f x356000 1 13).bind fun t363=>(if t363=true then(if t361=true then(some t362) else(some false)) else(some false))))) else(if x14=11 then((impl_in.f x356001 0 8).bind fun t364=>((impl_isRegister.f x356002).bind fun t365=>((impl_in.f x356000 1 13).bind fun t366=>(if t366=true then(if t364=true then(some t365) else(some false)) else(some false))))) else(if x14=10 then((impl_in.f x356000 1 13).bind fun t367=>(if t367=true then(if x356001=0 then(some x6) else(some false)) else(some false))) else((impl_in.f x356000 1 13).bind fun t368=>(if t368=true then(if x5=true then(some x6) else(some false)) else(some false)))))
def impl_isStep.f(k:Nat)(a0_0:Int)(a0_1:Int)(a0_2:Int)(a1:Int):Option (Bool):=(impl_isRegister.f a0_1).bind fun t356=>(if a0_0=1 then((impl_isNumber.f a0_2).bind fun t357=>((impl_in.f a0_0 1 13).bind fun t358=>(if t358=true then(if t356=true then(some t357) else(some false)) else(some false)))) else(if a0_0=2 then((impl_isRegister.f a0_2).bind fun t359=>((impl_in.f a0_0 1 13).bind fun t360=>(if t360=true then(if t356=true then(some t359) else(some false)) else(some false)))) else(if a0_0=4 then(impl_isStep.j0 k a1 t356 (a0_2==0) a0_0 (a0_0==4) a0_0 a0_1 a0_2) else(impl_isStep.j0 k a1 t356 (a0_2==0) a0_0 (a0_0==5) a0_0 a0_1 a0_2))))
theorem impl_isStep.calls(k:Nat)(a0_0:Int)(a0_1:Int)(a0_2:Int)(a1:Int)(r:Bool)(w:World)(h:impl_isStep.f k a0_0 a0_1 a0_2 a1=some r) :
  Calls Try.prog 264 #[.agg #[.int .i64 a0_0,.int .i64 a0_1,.int .i64 a0_2],.int .i64 a1] w fun e w'=>e= .returned (.bool r)∧Below w.heap.size w w':=by
 have hu219:=Try.underlying219
 have HB:=am (Below.refl w.heap.size w)
 have H:((impl_isRegister.f a0_1).bind fun t356=>(if a0_0=1 then((impl_isNumber.f a0_2).bind fun t357=>((impl_in.f a0_0 1 13).bind fun t358=>(if t358=true then(if t356=true then(some t357) else(some false)) else(some false)))) else(if a0_0=2 then((impl_isRegister.f a0_2).bind fun t359=>((impl_in.f a0_0 1 13).bind fun t360=>(if t360=true then(if t356=true then(some t359) else(some false)) else(some false)))) else(if a0_0=4 then(impl_isStep.j0 k a1 t356 (a0_2==0) a0_0 (a0_0==4) a0_0 a0_1 a0_2) else(impl_isStep.j0 k a1 t356 (a0_2==0) a0_0 (a0_0==5) a0_0 a0_1 a0_2)))))=some r:=h
 clear h
 obtain⟨t356,A3,H⟩:=bms H
 try dsimp only at H
 by_cases c4:a0_0=1
 ·rw [if_pos c4] at H
  have c4b0:(a0_0==1)=true:=beq_iff_eq.mpr c4
  have c4b1:(a0_0 != 1)=false:=bne_eq_false_iff_eq.mpr c4
  clear c4
  obtain⟨t357,A5,H⟩:=bms H
  try dsimp only at H
  obtain⟨t358,A6,H⟩:=bms H
  try dsimp only at H
  by_cases c7:t358=true
  ·subst c7
   rw [if_pos rfl] at H
   by_cases c8:t356=true
   ·subst c8
    rw [if_pos rfl] at H
    obtain rfl:=Option.some.inj H
    go_enter Try.func264,Try.ntmps264
    go_wp2_with (first|(refine bx 2 #[.int .i64 a0_0,.int .i64 a0_1,.int .i64 a0_2] 219 (h:= ?_);intro gb355 hg w9 hbox hb;have BK355:=am (hbox);have GW355:=am ((zq4:w.heap.size≤gb355));have GE355:=am ((zq4:w.heap.size≤gb355));replace HB:=am (below_step zq0 hb);clear hb hbox hg;obtain⟨hcz10_0,hcz10_1,hcz10_2,hfz10_0,hfz10_1,hfz10_2⟩:=cf3 BK355.out)|(go_at_call 289;(with_reducible refine(impl_isRegister.calls a0_1 true _ A3.out).mono ?_);rintro e w' ⟨rfl,⟨nd,rfl⟩⟩;(try exact zq81))|(go_at_call 219;(with_reducible refine(impl_isNumber.calls a0_2 t357 _ A5.out).mono ?_);rintro e w' ⟨rfl,⟨nd,rfl⟩⟩;(try exact zq81))|(go_at_call 188;(with_reducible refine(impl_in.calls a0_0 1 13 true _ A6.out).mono ?_);rintro e w' ⟨rfl,⟨nd,rfl⟩⟩;(try exact zq81)))
    repeat(go_quiet (first|((with_reducible refine gate_dst (N:=2) rfl ?_);refine box_event ?hg (N:=2) ?hd (cs:= #[.int .i64 a0_0,.int .i64 a0_1,.int .i64 a0_2]) (t:=219) ?hr ?_;(case hd=>rfl);(case hg=>rfl);(case hr=>first|(go_simp;done)|(go_simp;rfl));intro gb355 hg w9 hbox hb;have n0_:=am (below_step zq0 hb);have n1_:=am (hbox);have n2_:=am ((zq4:w.heap.size≤gb355));have n3_:=am ((zq4:w.heap.size≤gb355));clear HB;have HB:=n0_;have BK355:=n1_;have GW355:=n2_;have GE355:=n3_;clear n0_ n1_ n2_ n3_;clear hb hbox hg;have hcz10_0:w9.cell? ⟨gb355,0,none⟩=some (.int .i64 a0_0):=(blk_cell BK355.out 0).trans rfl;have hcz10_1:w9.cell? ⟨gb355,1,none⟩=some (.int .i64 a0_1):=(blk_cell BK355.out 1).trans rfl;have hcz10_2:w9.cell? ⟨gb355,2,none⟩=some (.int .i64 a0_2):=(blk_cell BK355.out 2).trans rfl;have hfz10_0:=blk_frozen BK355.out 0;have hfz10_1:=blk_frozen BK355.out 1;have hfz10_2:=blk_frozen BK355.out 2)|(go_at_call 289;(with_reducible refine(impl_isRegister.calls a0_1 true _ A3.out).mono ?_);rintro e w' ⟨rfl,⟨nd,rfl⟩⟩;(try exact zq81))|(go_at_call 219;(with_reducible refine(impl_isNumber.calls a0_2 t357 _ A5.out).mono ?_);rintro e w' ⟨rfl,⟨nd,rfl⟩⟩;(try exact zq81))|(go_at_call 188;(with_reducible refine(impl_in.calls a0_0 1 13 true _ A6.out).mono ?_);rintro e w' ⟨rfl,⟨nd,rfl⟩⟩;(try exact zq81)));try go_wp2_with (first|(refine bx 2 #[.int .i64 a0_0,.int .i64 a0_1,.int .i64 a0_2] 219 (h:= ?_);intro gb355 hg w9 hbox hb;have BK355:=am (hbox);have GW355:=am ((zq4:w.heap.size≤gb355));have GE355:=am ((zq4:w.heap.size≤gb355));replace HB:=am (below_step zq0 hb);clear hb hbox hg;obtain⟨hcz10_0,hcz10_1,hcz10_2,hfz10_0,hfz10_1,hfz10_2⟩:=cf3 BK355.out)|(go_at_call 289;(with_reducible refine(impl_isRegister.calls a0_1 true _ A3.out).mono ?_);rintro e w' ⟨rfl,⟨nd,rfl⟩⟩;(try exact zq81))|(go_at_call 219;(with_reducible refine(impl_isNumber.calls a0_2 t357 _ A5.out).mono ?_);rintro e w' ⟨rfl,⟨nd,rfl⟩⟩;(try exact zq81))|(go_at_call 188;(with_reducible refine(impl_in.calls a0_0 1 13 true _ A6.out).mono ?_);rintro e w' ⟨rfl,⟨nd,rfl⟩⟩;(try exact zq81))))
    go_ret
    exact⟨zq3,zq1⟩
   ·replace c8:=Bool.eq_false_iff.mpr c8
    subst c8
    rw [if_neg (show ¬(false=true) by decide)] at H
    obtain rfl:=Option.some.inj H
    go_enter Try.func264,Try.ntmps264
    go_wp2_with (first|(refine bx 2 #[.int .i64 a0_0,.int .i64 a0_1,.int .i64 a0_2] 219 (h:= ?_);intro gb355 hg w11 hbox hb;have BK355:=am (hbox);have GW355:=am ((zq4:w.heap.size≤gb355));have GE355:=am ((zq4:w.heap.size≤gb355));replace HB:=am (below_step zq0 hb);clear hb hbox hg;obtain⟨hcz12_0,hcz12_1,hcz12_2,hfz12_0,hfz12_1,hfz12_2⟩:=cf3 BK355.out)|(go_at_call 289;(with_reducible refine(impl_isRegister.calls a0_1 false _ A3.out).mono ?_);rintro e w' ⟨rfl,⟨nd,rfl⟩⟩;(try exact zq81))|(go_at_call 219;(with_reducible refine(impl_isNumber.calls a0_2 t357 _ A5.out).mono ?_);rintro e w' ⟨rfl,⟨nd,rfl⟩⟩;(try exact zq81))|(go_at_call 188;(with_reducible refine(impl_in.calls a0_0 1 13 true _ A6.out).mono ?_);rintro e w' ⟨rfl,⟨nd,rfl⟩⟩;(try exact zq81)))
    repeat(go_quiet (first|((with_reducible refine gate_dst (N:=2) rfl ?_);refine box_event ?hg (N:=2) ?hd (cs:= #[.int .i64 a0_0,.int .i64 a0_1,.int .i64 a0_2]) (t:=219) ?hr ?_;(case hd=>rfl);(case hg=>rfl);(case hr=>first|(go_simp;done)|(go_simp;rfl));intro gb355 hg w11 hbox hb;have n0_:=am (below_step zq0 hb);have n1_:=am (hbox);have n2_:=am ((zq4:w.heap.size≤gb355));have n3_:=am ((zq4:w.heap.size≤gb355));clear HB;have HB:=n0_;have BK355:=n1_;have GW355:=n2_;have GE355:=n3_;clear n0_ n1_ n2_ n3_;clear hb hbox hg;have hcz12_0:w11.cell? ⟨gb355,0,none⟩=some (.int .i64 a0_0):=(blk_cell BK355.out 0).trans rfl;have hcz12_1:w11.cell? ⟨gb355,1,none⟩=some (.int .i64 a0_1):=(blk_cell BK355.out 1).trans rfl;have hcz12_2:w11.cell? ⟨gb355,2,none⟩=some (.int .i64 a0_2):=(blk_cell BK355.out 2).trans rfl;have hfz12_0:=blk_frozen BK355.out 0;have hfz12_1:=blk_frozen BK355.out 1;have hfz12_2:=blk_frozen BK355.out 2)|(go_at_call 289;(with_reducible refine(impl_isRegister.calls a0_1 false _ A3.out).mono ?_);rintro e w' ⟨rfl,⟨nd,rfl⟩⟩;(try exact zq81))|(go_at_call 219;(with_reducible refine(impl_isNumber.calls a0_2 t357 _ A5.out).mono ?_);rintro e w' ⟨rfl,⟨nd,rfl⟩⟩;(try exact zq81))|(go_at_call 188;(with_reducible refine(impl_in.calls a0_0 1 13 true _ A6.out).mono ?_);rintro e w' ⟨rfl,⟨nd,rfl⟩⟩;(try exact zq81)));try go_wp2_with (first|(refine bx 2 #[.int .i64 a0_0,.int .i64 a0_1,.int .i64 a0_2] 219 (h:= ?_);intro gb355 hg w11 hbox hb;have BK355:=am (hbox);have GW355:=am ((zq4:w.heap.size≤gb355));have GE355:=am ((zq4:w.heap.size≤gb355));replace HB:=am (below_step zq0 hb);clear hb hbox hg;obtain⟨hcz12_0,hcz12_1,hcz12_2,hfz12_0,hfz12_1,hfz12_2⟩:=cf3 BK355.out)|(go_at_call 289;(with_reducible refine(impl_isRegister.calls a0_1 false _ A3.out).mono ?_);rintro e w' ⟨rfl,⟨nd,rfl⟩⟩;(try exact zq81))|(go_at_call 219;(with_reducible refine(impl_isNumber.calls a0_2 t357 _ A5.out).mono ?_);rintro e w' ⟨rfl,⟨nd,rfl⟩⟩;(try exact zq81))|(go_at_call 188;(with_reducible refine(impl_in.calls a0_0 1 13 true _ A6.out).mono ?_);rintro e w' ⟨rfl,⟨nd,rfl⟩⟩;(try exact zq81))))
    go_ret
    exact⟨zq3,zq1⟩
  ·replace c7:=Bool.eq_false_iff.mpr c7
   subst c7
   rw [if_neg (show ¬(false=true) by decide)] at H
   obtain rfl:=Option.some.inj H
   go_enter Try.func264,Try.ntmps264
   go_wp2_with (first|(refine bx 2 #[.int .i64 a0_0,.int .i64 a0_1,.int .i64 a0_2] 219 (h:= ?_);intro gb355 hg w13 hbox hb;have BK355:=am (hbox);have GW355:=am ((zq4:w.heap.size≤gb355));have GE355:=am ((zq4:w.heap.size≤gb355));replace HB:=am (below_step zq0 hb);clear hb hbox hg;obtain⟨hcz14_0,hcz14_1,hcz14_2,hfz14_0,hfz14_1,hfz14_2⟩:=cf3 BK355.out)|(go_at_call 289;(with_reducible refine(impl_isRegister.calls a0_1 t356 _ A3.out).mono ?_);rintro e w' ⟨rfl,⟨nd,rfl⟩⟩;(try exact zq81))|(go_at_call 219;(with_reducible refine(impl_isNumber.calls a0_2 t357 _ A5.out).mono ?_);rintro e w' ⟨rfl,⟨nd,rfl⟩⟩;(try exact zq81))|(go_at_call 188;(with_reducible refine(impl_in.calls a0_0 1 13 false _ A6.out).mono ?_);rintro e w' ⟨rfl,⟨nd,rfl⟩⟩;(try exact zq81)))
   repeat(go_quiet (first|((with_reducible refine gate_dst (N:=2) rfl ?_);refine box_event ?hg (N:=2) ?hd (cs:= #[.int .i64 a0_0,.int .i64 a0_1,.int .i64 a0_2]) (t:=219) ?hr ?_;(case hd=>rfl);(case hg=>rfl);(case hr=>first|(go_simp;done)|(go_simp;rfl));intro gb355 hg w13 hbox hb;have n0_:=am (below_step zq0 hb);have n1_:=am (hbox);have n2_:=am ((zq4:w.heap.size≤gb355));have n3_:=am ((zq4:w.heap.size≤gb355));clear HB;have HB:=n0_;have BK355:=n1_;have GW355:=n2_;have GE355:=n3_;clear n0_ n1_ n2_ n3_;clear hb hbox hg;have hcz14_0:w13.cell? ⟨gb355,0,none⟩=some (.int .i64 a0_0):=(blk_cell BK355.out 0).trans rfl;have hcz14_1:w13.cell? ⟨gb355,1,none⟩=some (.int .i64 a0_1):=(blk_cell BK355.out 1).trans rfl;have hcz14_2:w13.cell? ⟨gb355,2,none⟩=some (.int .i64 a0_2):=(blk_cell BK355.out 2).trans rfl;have hfz14_0:=blk_frozen BK355.out 0;have hfz14_1:=blk_frozen BK355.out 1;have hfz14_2:=blk_frozen BK355.out 2)|(go_at_call 289;(with_reducible refine(impl_isRegister.calls a0_1 t356 _ A3.out).mono ?_);rintro e w' ⟨rfl,⟨nd,rfl⟩⟩;(try exact zq81))|(go_at_call 219;(with_reducible refine(impl_isNumber.calls a0_2 t357 _ A5.out).mono ?_);rintro e w' ⟨rfl,⟨nd,rfl⟩⟩;(try exact zq81))|(go_at_call 188;(with_reducible refine(impl_in.calls a0_0 1 13 false _ A6.out).mono ?_);rintro e w' ⟨rfl,⟨nd,rfl⟩⟩;(try exact zq81)));try go_wp2_with (first|(refine bx 2 #[.int .i64 a0_0,.int .i64 a0_1,.int .i64 a0_2] 219 (h:= ?_);intro gb355 hg w13 hbox hb;have BK355:=am (hbox);have GW355:=am ((zq4:w.heap.size≤gb355));have GE355:=am ((zq4:w.heap.size≤gb355));replace HB:=am (below_step zq0 hb);clear hb hbox hg;obtain⟨hcz14_0,hcz14_1,hcz14_2,hfz14_0,hfz14_1,hfz14_2⟩:=cf3 BK355.out)|(go_at_call 289;(with_reducible refine(impl_isRegister.calls a0_1 t356 _ A3.out).mono ?_);rintro e w' ⟨rfl,⟨nd,rfl⟩⟩;(try exact zq81))|(go_at_call 219;(with_reducible refine(impl_isNumber.calls a0_2 t357 _ A5.out).mono ?_);rintro e w' ⟨rfl,⟨nd,rfl⟩⟩;(try exact zq81))|(go_at_call 188;(with_reducible refine(impl_in.calls a0_0 1 13 false _ A6.out).mono ?_);rintro e w' ⟨rfl,⟨nd,rfl⟩⟩;(try exact zq81))))
   go_ret
   exact⟨zq3,zq1⟩
 ·rw [if_neg c4] at H
  have c4b0:(a0_0==1)=false:=beq_eq_false_iff_ne.mpr c4
  have c4b1:(a0_0 != 1)=true:=bne_iff_ne.mpr c4
  by_cases c15:a0_0=2
  ·rw [if_pos c15] at H
   have c15b0:(a0_0==2)=true:=beq_iff_eq.mpr c15
   have c15b1:(a0_0 != 2)=false:=bne_eq_false_iff_eq.mpr c15
   clear c15
   obtain⟨t359,A16,H⟩:=bms H
   try dsimp only at H
   obtain⟨t360,A17,H⟩:=bms H
   try dsimp only at H
   by_cases c18:t360=true
   ·subst c18
    rw [if_pos rfl] at H
    by_cases c19:t356=true
    ·subst c19
     rw [if_pos rfl] at H
     obtain rfl:=Option.some.inj H
     go_enter Try.func264,Try.ntmps264
     go_wp2_with (first|(refine bx 2 #[.int .i64 a0_0,.int .i64 a0_1,.int .i64 a0_2] 219 (h:= ?_);intro gb355 hg w20 hbox hb;have BK355:=am (hbox);have GW355:=am ((zq4:w.heap.size≤gb355));have GE355:=am ((zq4:w.heap.size≤gb355));replace HB:=am (below_step zq0 hb);clear hb hbox hg;obtain⟨hcz21_0,hcz21_1,hcz21_2,hfz21_0,hfz21_1,hfz21_2⟩:=cf3 BK355.out)|(go_at_call 289;(with_reducible refine(impl_isRegister.calls a0_1 true _ A3.out).mono ?_);rintro e w' ⟨rfl,⟨nd,rfl⟩⟩;(try exact zq81))|(go_at_call 289;(with_reducible refine(impl_isRegister.calls a0_2 t359 _ A16.out).mono ?_);rintro e w' ⟨rfl,⟨nd,rfl⟩⟩;(try exact zq81))|(go_at_call 188;(with_reducible refine(impl_in.calls a0_0 1 13 true _ A17.out).mono ?_);rintro e w' ⟨rfl,⟨nd,rfl⟩⟩;(try exact zq81)))
     repeat(go_quiet (first|((with_reducible refine gate_dst (N:=2) rfl ?_);refine box_event ?hg (N:=2) ?hd (cs:= #[.int .i64 a0_0,.int .i64 a0_1,.int .i64 a0_2]) (t:=219) ?hr ?_;(case hd=>rfl);(case hg=>rfl);(case hr=>first|(go_simp;done)|(go_simp;rfl));intro gb355 hg w20 hbox hb;have n0_:=am (below_step zq0 hb);have n1_:=am (hbox);have n2_:=am ((zq4:w.heap.size≤gb355));have n3_:=am ((zq4:w.heap.size≤gb355));clear HB;have HB:=n0_;have BK355:=n1_;have GW355:=n2_;have GE355:=n3_;clear n0_ n1_ n2_ n3_;clear hb hbox hg;have hcz21_0:w20.cell? ⟨gb355,0,none⟩=some (.int .i64 a0_0):=(blk_cell BK355.out 0).trans rfl;have hcz21_1:w20.cell? ⟨gb355,1,none⟩=some (.int .i64 a0_1):=(blk_cell BK355.out 1).trans rfl;have hcz21_2:w20.cell? ⟨gb355,2,none⟩=some (.int .i64 a0_2):=(blk_cell BK355.out 2).trans rfl;have hfz21_0:=blk_frozen BK355.out 0;have hfz21_1:=blk_frozen BK355.out 1;have hfz21_2:=blk_frozen BK355.out 2)|(go_at_call 289;(with_reducible refine(impl_isRegister.calls a0_1 true _ A3.out).mono ?_);rintro e w' ⟨rfl,⟨nd,rfl⟩⟩;(try exact zq81))|(go_at_call 289;(with_reducible refine(impl_isRegister.calls a0_2 t359 _ A16.out).mono ?_);rintro e w' ⟨rfl,⟨nd,rfl⟩⟩;(try exact zq81))|(go_at_call 188;(with_reducible refine(impl_in.calls a0_0 1 13 true _ A17.out).mono ?_);rintro e w' ⟨rfl,⟨nd,rfl⟩⟩;(try exact zq81)));try go_wp2_with (first|(refine bx 2 #[.int .i64 a0_0,.int .i64 a0_1,.int .i64 a0_2] 219 (h:= ?_);intro gb355 hg w20 hbox hb;have BK355:=am (hbox);have GW355:=am ((zq4:w.heap.size≤gb355));have GE355:=am ((zq4:w.heap.size≤gb355));replace HB:=am (below_step zq0 hb);clear hb hbox hg;obtain⟨hcz21_0,hcz21_1,hcz21_2,hfz21_0,hfz21_1,hfz21_2⟩:=cf3 BK355.out)|(go_at_call 289;(with_reducible refine(impl_isRegister.calls a0_1 true _ A3.out).mono ?_);rintro e w' ⟨rfl,⟨nd,rfl⟩⟩;(try exact zq81))|(go_at_call 289;(with_reducible refine(impl_isRegister.calls a0_2 t359 _ A16.out).mono ?_);rintro e w' ⟨rfl,⟨nd,rfl⟩⟩;(try exact zq81))|(go_at_call 188;(with_reducible refine(impl_in.calls a0_0 1 13 true _ A17.out).mono ?_);rintro e w' ⟨rfl,⟨nd,rfl⟩⟩;(try exact zq81))))
     go_ret
     exact⟨zq3,zq1⟩
    ·replace c19:=Bool.eq_false_iff.mpr c19
     subst c19
     rw [if_neg (show ¬(false=true) by decide)] at H
     obtain rfl:=Option.some.inj H
     go_enter Try.func264,Try.ntmps264
     go_wp2_with (first|(refine bx 2 #[.int .i64 a0_0,.int .i64 a0_1,.int .i64 a0_2] 219 (h:= ?_);intro gb355 hg w22 hbox hb;have BK355:=am (hbox);have GW355:=am ((zq4:w.heap.size≤gb355));have GE355:=am ((zq4:w.heap.size≤gb355));replace HB:=am (below_step zq0 hb);clear hb hbox hg;obtain⟨hcz23_0,hcz23_1,hcz23_2,hfz23_0,hfz23_1,hfz23_2⟩:=cf3 BK355.out)|(go_at_call 289;(with_reducible refine(impl_isRegister.calls a0_1 false _ A3.out).mono ?_);rintro e w' ⟨rfl,⟨nd,rfl⟩⟩;(try exact zq81))|(go_at_call 289;(with_reducible refine(impl_isRegister.calls a0_2 t359 _ A16.out).mono ?_);rintro e w' ⟨rfl,⟨nd,rfl⟩⟩;(try exact zq81))|(go_at_call 188;(with_reducible refine(impl_in.calls a0_0 1 13 true _ A17.out).mono ?_);rintro e w' ⟨rfl,⟨nd,rfl⟩⟩;(try exact zq81)))
     repeat(go_quiet (first|((with_reducible refine gate_dst (N:=2) rfl ?_);refine box_event ?hg (N:=2) ?hd (cs:= #[.int .i64 a0_0,.int .i64 a0_1,.int .i64 a0_2]) (t:=219) ?hr ?_;(case hd=>rfl);(case hg=>rfl);(case hr=>first|(go_simp;done)|(go_simp;rfl));intro gb355 hg w22 hbox hb;have n0_:=am (below_step zq0 hb);have n1_:=am (hbox);have n2_:=am ((zq4:w.heap.size≤gb355));have n3_:=am ((zq4:w.heap.size≤gb355));clear HB;have HB:=n0_;have BK355:=n1_;have GW355:=n2_;have GE355:=n3_;clear n0_ n1_ n2_ n3_;clear hb hbox hg;have hcz23_0:w22.cell? ⟨gb355,0,none⟩=some (.int .i64 a0_0):=(blk_cell BK355.out 0).trans rfl;have hcz23_1:w22.cell? ⟨gb355,1,none⟩=some (.int .i64 a0_1):=(blk_cell BK355.out 1).trans rfl;have hcz23_2:w22.cell? ⟨gb355,2,none⟩=some (.int .i64 a0_2):=(blk_cell BK355.out 2).trans rfl;have hfz23_0:=blk_frozen BK355.out 0;have hfz23_1:=blk_frozen BK355.out 1;have hfz23_2:=blk_frozen BK355.out 2)|(go_at_call 289;(with_reducible refine(impl_isRegister.calls a0_1 false _ A3.out).mono ?_);rintro e w' ⟨rfl,⟨nd,rfl⟩⟩;(try exact zq81))|(go_at_call 289;(with_reducible refine(impl_isRegister.calls a0_2 t359 _ A16.out).mono ?_);rintro e w' ⟨rfl,⟨nd,rfl⟩⟩;(try exact zq81))|(go_at_call 188;(with_reducible refine(impl_in.calls a0_0 1 13 true _ A17.out).mono ?_);rintro e w' ⟨rfl,⟨nd,rfl⟩⟩;(try exact zq81)));try go_wp2_with (first|(refine bx 2 #[.int .i64 a0_0,.int .i64 a0_1,.int .i64 a0_2] 219 (h:= ?_);intro gb355 hg w22 hbox hb;have BK355:=am (hbox);have GW355:=am ((zq4:w.heap.size≤gb355));have GE355:=am ((zq4:w.heap.size≤gb355));replace HB:=am (below_step zq0 hb);clear hb hbox hg;obtain⟨hcz23_0,hcz23_1,hcz23_2,hfz23_0,hfz23_1,hfz23_2⟩:=cf3 BK355.out)|(go_at_call 289;(with_reducible refine(impl_isRegister.calls a0_1 false _ A3.out).mono ?_);rintro e w' ⟨rfl,⟨nd,rfl⟩⟩;(try exact zq81))|(go_at_call 289;(with_reducible refine(impl_isRegister.calls a0_2 t359 _ A16.out).mono ?_);rintro e w' ⟨rfl,⟨nd,rfl⟩⟩;(try exact zq81))|(go_at_call 188;(with_reducible refine(impl_in.calls a0_0 1 13 true _ A17.out).mono ?_);rintro e w' ⟨rfl,⟨nd,rfl⟩⟩;(try exact zq81))))
     go_ret
     exact⟨zq3,zq1⟩
   ·replace c18:=Bool.eq_false_iff.mpr c18
    subst c18
    rw [if_neg (show ¬(false=true) by decide)] at H
    obtain rfl:=Option.some.inj H
    go_enter Try.func264,Try.ntmps264
    go_wp2_with (first|(refine bx 2 #[.int .i64 a0_0,.int .i64 a0_1,.int .i64 a0_2] 219 (h:= ?_);intro gb355 hg w24 hbox hb;have BK355:=am (hbox);have GW355:=am ((zq4:w.heap.size≤gb355));have GE355:=am ((zq4:w.heap.size≤gb355));replace HB:=am (below_step zq0 hb);clear hb hbox hg;obtain⟨hcz25_0,hcz25_1,hcz25_2,hfz25_0,hfz25_1,hfz25_2⟩:=cf3 BK355.out)|(go_at_call 289;(with_reducible refine(impl_isRegister.calls a0_1 t356 _ A3.out).mono ?_);rintro e w' ⟨rfl,⟨nd,rfl⟩⟩;(try exact zq81))|(go_at_call 289;(with_reducible refine(impl_isRegister.calls a0_2 t359 _ A16.out).mono ?_);rintro e w' ⟨rfl,⟨nd,rfl⟩⟩;(try exact zq81))|(go_at_call 188;(with_reducible refine(impl_in.calls a0_0 1 13 false _ A17.out).mono ?_);rintro e w' ⟨rfl,⟨nd,rfl⟩⟩;(try exact zq81)))
    repeat(go_quiet (first|((with_reducible refine gate_dst (N:=2) rfl ?_);refine box_event ?hg (N:=2) ?hd (cs:= #[.int .i64 a0_0,.int .i64 a0_1,.int .i64 a0_2]) (t:=219) ?hr ?_;(case hd=>rfl);(case hg=>rfl);(case hr=>first|(go_simp;done)|(go_simp;rfl));intro gb355 hg w24 hbox hb;have n0_:=am (below_step zq0 hb);have n1_:=am (hbox);have n2_:=am ((zq4:w.heap.size≤gb355));have n3_:=am ((zq4:w.heap.size≤gb355));clear HB;have HB:=n0_;have BK355:=n1_;have GW355:=n2_;have GE355:=n3_;clear n0_ n1_ n2_ n3_;clear hb hbox hg;have hcz25_0:w24.cell? ⟨gb355,0,none⟩=some (.int .i64 a0_0):=(blk_cell BK355.out 0).trans rfl;have hcz25_1:w24.cell? ⟨gb355,1,none⟩=some (.int .i64 a0_1):=(blk_cell BK355.out 1).trans rfl;have hcz25_2:w24.cell? ⟨gb355,2,none⟩=some (.int .i64 a0_2):=(blk_cell BK355.out 2).trans rfl;have hfz25_0:=blk_frozen BK355.out 0;have hfz25_1:=blk_frozen BK355.out 1;have hfz25_2:=blk_frozen BK355.out 2)|(go_at_call 289;(with_reducible refine(impl_isRegister.calls a0_1 t356 _ A3.out).mono ?_);rintro e w' ⟨rfl,⟨nd,rfl⟩⟩;(try exact zq81))|(go_at_call 289;(with_reducible refine(impl_isRegister.calls a0_2 t359 _ A16.out).mono ?_);rintro e w' ⟨rfl,⟨nd,rfl⟩⟩;(try exact zq81))|(go_at_call 188;(with_reducible refine(impl_in.calls a0_0 1 13 false _ A17.out).mono ?_);rintro e w' ⟨rfl,⟨nd,rfl⟩⟩;(try exact zq81)));try go_wp2_with (first|(refine bx 2 #[.int .i64 a0_0,.int .i64 a0_1,.int .i64 a0_2] 219 (h:= ?_);intro gb355 hg w24 hbox hb;have BK355:=am (hbox);have GW355:=am ((zq4:w.heap.size≤gb355));have GE355:=am ((zq4:w.heap.size≤gb355));replace HB:=am (below_step zq0 hb);clear hb hbox hg;obtain⟨hcz25_0,hcz25_1,hcz25_2,hfz25_0,hfz25_1,hfz25_2⟩:=cf3 BK355.out)|(go_at_call 289;(with_reducible refine(impl_isRegister.calls a0_1 t356 _ A3.out).mono ?_);rintro e w' ⟨rfl,⟨nd,rfl⟩⟩;(try exact zq81))|(go_at_call 289;(with_reducible refine(impl_isRegister.calls a0_2 t359 _ A16.out).mono ?_);rintro e w' ⟨rfl,⟨nd,rfl⟩⟩;(try exact zq81))|(go_at_call 188;(with_reducible refine(impl_in.calls a0_0 1 13 false _ A17.out).mono ?_);rintro e w' ⟨rfl,⟨nd,rfl⟩⟩;(try exact zq81))))
    go_ret
    exact⟨zq3,zq1⟩
  ·rw [if_neg c15] at H
   have c15b0:(a0_0==2)=false:=beq_eq_false_iff_ne.mpr c15
   have c15b1:(a0_0 != 2)=true:=bne_iff_ne.mpr c15
   have HC26:=am H
   clear H
   go_enter Try.func264,Try.ntmps264
   go_upto_if 25 with(first|(refine bx 2 #[.int .i64 a0_0,.int .i64 a0_1,.int .i64 a0_2] 219 (h:= ?_);intro gb355 hg w27 hbox hb;have BK355:=am (hbox);have GW355:=am ((zq4:w.heap.size≤gb355));have GE355:=am ((zq4:w.heap.size≤gb355));replace HB:=am (below_step zq0 hb);clear hb hbox hg;obtain⟨hcz28_0,hcz28_1,hcz28_2,hfz28_0,hfz28_1,hfz28_2⟩:=cf3 BK355.out)|(go_at_call 289;(with_reducible refine(impl_isRegister.calls a0_1 t356 _ A3.out).mono ?_);rintro e w' ⟨rfl,⟨nd,rfl⟩⟩;(try exact zq81)))
   repeat(go_quiet (first|((with_reducible refine gate_dst (N:=2) rfl ?_);refine box_event ?hg (N:=2) ?hd (cs:= #[.int .i64 a0_0,.int .i64 a0_1,.int .i64 a0_2]) (t:=219) ?hr ?_;(case hd=>rfl);(case hg=>rfl);(case hr=>first|(go_simp;done)|(go_simp;rfl));intro gb355 hg w27 hbox hb;have n0_:=am (below_step zq0 hb);have n1_:=am (hbox);have n2_:=am ((zq4:w.heap.size≤gb355));have n3_:=am ((zq4:w.heap.size≤gb355));clear HB;have HB:=n0_;have BK355:=n1_;have GW355:=n2_;have GE355:=n3_;clear n0_ n1_ n2_ n3_;clear hb hbox hg;have hcz28_0:w27.cell? ⟨gb355,0,none⟩=some (.int .i64 a0_0):=(blk_cell BK355.out 0).trans rfl;have hcz28_1:w27.cell? ⟨gb355,1,none⟩=some (.int .i64 a0_1):=(blk_cell BK355.out 1).trans rfl;have hcz28_2:w27.cell? ⟨gb355,2,none⟩=some (.int .i64 a0_2):=(blk_cell BK355.out 2).trans rfl;have hfz28_0:=blk_frozen BK355.out 0;have hfz28_1:=blk_frozen BK355.out 1;have hfz28_2:=blk_frozen BK355.out 2)|(go_at_call 289;(with_reducible refine(impl_isRegister.calls a0_1 t356 _ A3.out).mono ?_);rintro e w' ⟨rfl,⟨nd,rfl⟩⟩;(try exact zq81)));go_upto_if 25 with(first|(refine bx 2 #[.int .i64 a0_0,.int .i64 a0_1,.int .i64 a0_2] 219 (h:= ?_);intro gb355 hg w27 hbox hb;have BK355:=am (hbox);have GW355:=am ((zq4:w.heap.size≤gb355));have GE355:=am ((zq4:w.heap.size≤gb355));replace HB:=am (below_step zq0 hb);clear hb hbox hg;obtain⟨hcz28_0,hcz28_1,hcz28_2,hfz28_0,hfz28_1,hfz28_2⟩:=cf3 BK355.out)|(go_at_call 289;(with_reducible refine(impl_isRegister.calls a0_1 t356 _ A3.out).mono ?_);rintro e w' ⟨rfl,⟨nd,rfl⟩⟩;(try exact zq81))))
   (try simp only [Act.put,List.setIfInBounds_toArray,List.set_cons_zero,List.set_cons_succ])
   go_cut [25] (fun v25 wc=> ∃ (kq:Nat) (x25_25:Bool),v25= .bool x25_25∧Aside0 (impl_isStep.j0 kq a1 t356 (a0_2==0) a0_0 x25_25 a0_0 a0_1 a0_2=some r)∧Aside0 (kq≤k)∧Aside0 (wc.heap[gb355]? =some (.cells #[.int .i64 a0_0,.int .i64 a0_1,.int .i64 a0_2] 219 (0,0)))∧Aside0 (Below w.heap.size w wc))
   case first =>
    have H:=HC26.out
    clear HC26
    by_cases c29:a0_0=4
    ·rw [if_pos c29] at H
     have c29b0:(a0_0==4)=true:=beq_iff_eq.mpr c29
     have c29b1:(a0_0 != 4)=false:=bne_eq_false_iff_eq.mpr c29
     clear c29
     (first|rw [c29b0]|(simp only [i64_w,i32_w];rw [c29b0])|skip)
     have H':=am H
     clear H
     go_wp2
     repeat(go_quiet (fail);try go_wp2)
     go_meet
     case rel=>exact⟨_,((a0_0==4)),zq8,H',⟨by first|omega|exact Nat.le_refl _⟩,⟨zq138⟩,⟨zq1⟩⟩
    ·rw [if_neg c29] at H
     have c29b0:(a0_0==4)=false:=beq_eq_false_iff_ne.mpr c29
     have c29b1:(a0_0 != 4)=true:=bne_iff_ne.mpr c29
     (first|rw [c29b0]|(simp only [i64_w,i32_w];rw [c29b0])|skip)
     have H':=am H
     clear H
     go_wp2
     repeat(go_quiet (fail);try go_wp2)
     go_meet
     case rel=>exact⟨_,((a0_0==5)),zq8,H',⟨by first|omega|exact Nat.le_refl _⟩,⟨zq138⟩,⟨zq1⟩⟩
   case rest =>
    clear HC26
    try clear c1
    try clear c2
    try clear p2
    try clear c4
    try clear c4b0
    try clear c4b1
    try clear c7
    try clear c8
    try clear c15
    try clear c15b0
    try clear c15b1
    try clear c18
    try clear c19
    try clear c26
    try clear c29
    try clear c29b0
    try clear c29b1
    try clear hcz10_0
    try clear hcz10_1
    try clear hcz10_2
    try clear hcz12_0
    try clear hcz12_1
    try clear hcz12_2
    try clear hcz14_0
    try clear hcz14_1
    try clear hcz14_2
    try clear hcz21_0
    try clear hcz21_1
    try clear hcz21_2
    try clear hcz23_0
    try clear hcz23_1
    try clear hcz23_2
    try clear hcz25_0
    try clear hcz25_1
    try clear hcz25_2
    try clear hcz28_0
    try clear hcz28_1
    try clear hcz28_2
    try clear hfz10_0
    try clear hfz10_1
    try clear hfz10_2
    try clear hfz12_0
    try clear hfz12_1
    try clear hfz12_2
    try clear hfz14_0
    try clear hfz14_1
    try clear hfz14_2
    try clear hfz21_0
    try clear hfz21_1
    try clear hfz21_2
    try clear hfz23_0
    try clear hfz23_1
    try clear hfz23_2
    try clear hfz25_0
    try clear hfz25_1
    try clear hfz25_2
    try clear hfz28_0
    try clear hfz28_1
    try clear hfz28_2
    obtain⟨kq,x25_25,rfl,HA,HJ25,BK355,HB⟩:=hcut
    cases kq with
    |zero=>exact absurd HA.out (by simp [impl_isStep.j0])
    |succ kj25 =>
     have H:=HA.out
     clear HA
     simp only [impl_isStep.j0] at H
     by_cases c30:x25_25=true
     ·subst c30
      rw [if_pos rfl] at H
      obtain⟨t361,A31,H⟩:=bms H
      try dsimp only at H
      obtain⟨t362,A32,H⟩:=bms H
      try dsimp only at H
      obtain⟨t363,A33,H⟩:=bms H
      try dsimp only at H
      by_cases c34:t363=true
      ·subst c34
       rw [if_pos rfl] at H
       by_cases c35:t361=true
       ·subst c35
        rw [if_pos rfl] at H
        obtain rfl:=Option.some.inj H
        obtain⟨hcz36_0,hcz36_1,hcz36_2,hfz36_0,hfz36_1,hfz36_2⟩:=cf3 BK355.out
        go_wp2_with (first|(go_at_call 188;(with_reducible refine(impl_in.calls a0_1 0 (wrap64 (a1-1)) true _ A31.out).mono ?_);rintro e w' ⟨rfl,⟨nd,rfl⟩⟩;(try exact zq81))|(go_at_call 289;(with_reducible refine(impl_isRegister.calls a0_2 t362 _ A32.out).mono ?_);rintro e w' ⟨rfl,⟨nd,rfl⟩⟩;(try exact zq81))|(go_at_call 188;(with_reducible refine(impl_in.calls a0_0 1 13 true _ A33.out).mono ?_);rintro e w' ⟨rfl,⟨nd,rfl⟩⟩;(try exact zq81)))
        repeat(go_quiet (first|(go_at_call 188;(with_reducible refine(impl_in.calls a0_1 0 (wrap64 (a1-1)) true _ A31.out).mono ?_);rintro e w' ⟨rfl,⟨nd,rfl⟩⟩;(try exact zq81))|(go_at_call 289;(with_reducible refine(impl_isRegister.calls a0_2 t362 _ A32.out).mono ?_);rintro e w' ⟨rfl,⟨nd,rfl⟩⟩;(try exact zq81))|(go_at_call 188;(with_reducible refine(impl_in.calls a0_0 1 13 true _ A33.out).mono ?_);rintro e w' ⟨rfl,⟨nd,rfl⟩⟩;(try exact zq81)));try go_wp2_with (first|(go_at_call 188;(with_reducible refine(impl_in.calls a0_1 0 (wrap64 (a1-1)) true _ A31.out).mono ?_);rintro e w' ⟨rfl,⟨nd,rfl⟩⟩;(try exact zq81))|(go_at_call 289;(with_reducible refine(impl_isRegister.calls a0_2 t362 _ A32.out).mono ?_);rintro e w' ⟨rfl,⟨nd,rfl⟩⟩;(try exact zq81))|(go_at_call 188;(with_reducible refine(impl_in.calls a0_0 1 13 true _ A33.out).mono ?_);rintro e w' ⟨rfl,⟨nd,rfl⟩⟩;(try exact zq81))))
        go_ret
        exact⟨zq3,zq1⟩
       ·replace c35:=Bool.eq_false_iff.mpr c35
        subst c35
        rw [if_neg (show ¬(false=true) by decide)] at H
        obtain rfl:=Option.some.inj H
        obtain⟨hcz37_0,hcz37_1,hcz37_2,hfz37_0,hfz37_1,hfz37_2⟩:=cf3 BK355.out
        go_wp2_with (first|(go_at_call 188;(with_reducible refine(impl_in.calls a0_1 0 (wrap64 (a1-1)) false _ A31.out).mono ?_);rintro e w' ⟨rfl,⟨nd,rfl⟩⟩;(try exact zq81))|(go_at_call 289;(with_reducible refine(impl_isRegister.calls a0_2 t362 _ A32.out).mono ?_);rintro e w' ⟨rfl,⟨nd,rfl⟩⟩;(try exact zq81))|(go_at_call 188;(with_reducible refine(impl_in.calls a0_0 1 13 true _ A33.out).mono ?_);rintro e w' ⟨rfl,⟨nd,rfl⟩⟩;(try exact zq81)))
        repeat(go_quiet (first|(go_at_call 188;(with_reducible refine(impl_in.calls a0_1 0 (wrap64 (a1-1)) false _ A31.out).mono ?_);rintro e w' ⟨rfl,⟨nd,rfl⟩⟩;(try exact zq81))|(go_at_call 289;(with_reducible refine(impl_isRegister.calls a0_2 t362 _ A32.out).mono ?_);rintro e w' ⟨rfl,⟨nd,rfl⟩⟩;(try exact zq81))|(go_at_call 188;(with_reducible refine(impl_in.calls a0_0 1 13 true _ A33.out).mono ?_);rintro e w' ⟨rfl,⟨nd,rfl⟩⟩;(try exact zq81)));try go_wp2_with (first|(go_at_call 188;(with_reducible refine(impl_in.calls a0_1 0 (wrap64 (a1-1)) false _ A31.out).mono ?_);rintro e w' ⟨rfl,⟨nd,rfl⟩⟩;(try exact zq81))|(go_at_call 289;(with_reducible refine(impl_isRegister.calls a0_2 t362 _ A32.out).mono ?_);rintro e w' ⟨rfl,⟨nd,rfl⟩⟩;(try exact zq81))|(go_at_call 188;(with_reducible refine(impl_in.calls a0_0 1 13 true _ A33.out).mono ?_);rintro e w' ⟨rfl,⟨nd,rfl⟩⟩;(try exact zq81))))
        go_ret
        exact⟨zq3,zq1⟩
      ·replace c34:=Bool.eq_false_iff.mpr c34
       subst c34
       rw [if_neg (show ¬(false=true) by decide)] at H
       obtain rfl:=Option.some.inj H
       obtain⟨hcz38_0,hcz38_1,hcz38_2,hfz38_0,hfz38_1,hfz38_2⟩:=cf3 BK355.out
       go_wp2_with (first|(go_at_call 188;(with_reducible refine(impl_in.calls a0_1 0 (wrap64 (a1-1)) t361 _ A31.out).mono ?_);rintro e w' ⟨rfl,⟨nd,rfl⟩⟩;(try exact zq81))|(go_at_call 289;(with_reducible refine(impl_isRegister.calls a0_2 t362 _ A32.out).mono ?_);rintro e w' ⟨rfl,⟨nd,rfl⟩⟩;(try exact zq81))|(go_at_call 188;(with_reducible refine(impl_in.calls a0_0 1 13 false _ A33.out).mono ?_);rintro e w' ⟨rfl,⟨nd,rfl⟩⟩;(try exact zq81)))
       repeat(go_quiet (first|(go_at_call 188;(with_reducible refine(impl_in.calls a0_1 0 (wrap64 (a1-1)) t361 _ A31.out).mono ?_);rintro e w' ⟨rfl,⟨nd,rfl⟩⟩;(try exact zq81))|(go_at_call 289;(with_reducible refine(impl_isRegister.calls a0_2 t362 _ A32.out).mono ?_);rintro e w' ⟨rfl,⟨nd,rfl⟩⟩;(try exact zq81))|(go_at_call 188;(with_reducible refine(impl_in.calls a0_0 1 13 false _ A33.out).mono ?_);rintro e w' ⟨rfl,⟨nd,rfl⟩⟩;(try exact zq81)));try go_wp2_with (first|(go_at_call 188;(with_reducible refine(impl_in.calls a0_1 0 (wrap64 (a1-1)) t361 _ A31.out).mono ?_);rintro e w' ⟨rfl,⟨nd,rfl⟩⟩;(try exact zq81))|(go_at_call 289;(with_reducible refine(impl_isRegister.calls a0_2 t362 _ A32.out).mono ?_);rintro e w' ⟨rfl,⟨nd,rfl⟩⟩;(try exact zq81))|(go_at_call 188;(with_reducible refine(impl_in.calls a0_0 1 13 false _ A33.out).mono ?_);rintro e w' ⟨rfl,⟨nd,rfl⟩⟩;(try exact zq81))))
       go_ret
       exact⟨zq3,zq1⟩
     ·replace c30:=Bool.eq_false_iff.mpr c30
      subst c30
      rw [if_neg (show ¬(false=true) by decide)] at H
      by_cases c39:a0_0=11
      ·rw [if_pos c39] at H
       have c39b0:(a0_0==11)=true:=beq_iff_eq.mpr c39
       have c39b1:(a0_0 != 11)=false:=bne_eq_false_iff_eq.mpr c39
       clear c39
       obtain⟨t364,A40,H⟩:=bms H
       try dsimp only at H
       obtain⟨t365,A41,H⟩:=bms H
       try dsimp only at H
       obtain⟨t366,A42,H⟩:=bms H
       try dsimp only at H
       by_cases c43:t366=true
       ·subst c43
        rw [if_pos rfl] at H
        by_cases c44:t364=true
        ·subst c44
         rw [if_pos rfl] at H
         obtain rfl:=Option.some.inj H
         obtain⟨hcz45_0,hcz45_1,hcz45_2,hfz45_0,hfz45_1,hfz45_2⟩:=cf3 BK355.out
         go_wp2_with (first|(go_at_call 188;(with_reducible refine(impl_in.calls a0_1 0 8 true _ A40.out).mono ?_);rintro e w' ⟨rfl,⟨nd,rfl⟩⟩;(try exact zq81))|(go_at_call 289;(with_reducible refine(impl_isRegister.calls a0_2 t365 _ A41.out).mono ?_);rintro e w' ⟨rfl,⟨nd,rfl⟩⟩;(try exact zq81))|(go_at_call 188;(with_reducible refine(impl_in.calls a0_0 1 13 true _ A42.out).mono ?_);rintro e w' ⟨rfl,⟨nd,rfl⟩⟩;(try exact zq81)))
         repeat(go_quiet (first|(go_at_call 188;(with_reducible refine(impl_in.calls a0_1 0 8 true _ A40.out).mono ?_);rintro e w' ⟨rfl,⟨nd,rfl⟩⟩;(try exact zq81))|(go_at_call 289;(with_reducible refine(impl_isRegister.calls a0_2 t365 _ A41.out).mono ?_);rintro e w' ⟨rfl,⟨nd,rfl⟩⟩;(try exact zq81))|(go_at_call 188;(with_reducible refine(impl_in.calls a0_0 1 13 true _ A42.out).mono ?_);rintro e w' ⟨rfl,⟨nd,rfl⟩⟩;(try exact zq81)));try go_wp2_with (first|(go_at_call 188;(with_reducible refine(impl_in.calls a0_1 0 8 true _ A40.out).mono ?_);rintro e w' ⟨rfl,⟨nd,rfl⟩⟩;(try exact zq81))|(go_at_call 289;(with_reducible refine(impl_isRegister.calls a0_2 t365 _ A41.out).mono ?_);rintro e w' ⟨rfl,⟨nd,rfl⟩⟩;(try exact zq81))|(go_at_call 188;(with_reducible refine(impl_in.calls a0_0 1 13 true _ A42.out).mono ?_);rintro e w' ⟨rfl,⟨nd,rfl⟩⟩;(try exact zq81))))
         go_ret
         exact⟨zq3,zq1⟩
        ·replace c44:=Bool.eq_false_iff.mpr c44
         subst c44
         rw [if_neg (show ¬(false=true) by decide)] at H
         obtain rfl:=Option.some.inj H
         obtain⟨hcz46_0,hcz46_1,hcz46_2,hfz46_0,hfz46_1,hfz46_2⟩:=cf3 BK355.out
         go_wp2_with (first|(go_at_call 188;(with_reducible refine(impl_in.calls a0_1 0 8 false _ A40.out).mono ?_);rintro e w' ⟨rfl,⟨nd,rfl⟩⟩;(try exact zq81))|(go_at_call 289;(with_reducible refine(impl_isRegister.calls a0_2 t365 _ A41.out).mono ?_);rintro e w' ⟨rfl,⟨nd,rfl⟩⟩;(try exact zq81))|(go_at_call 188;(with_reducible refine(impl_in.calls a0_0 1 13 true _ A42.out).mono ?_);rintro e w' ⟨rfl,⟨nd,rfl⟩⟩;(try exact zq81)))
         repeat(go_quiet (first|(go_at_call 188;(with_reducible refine(impl_in.calls a0_1 0 8 false _ A40.out).mono ?_);rintro e w' ⟨rfl,⟨nd,rfl⟩⟩;(try exact zq81))|(go_at_call 289;(with_reducible refine(impl_isRegister.calls a0_2 t365 _ A41.out).mono ?_);rintro e w' ⟨rfl,⟨nd,rfl⟩⟩;(try exact zq81))|(go_at_call 188;(with_reducible refine(impl_in.calls a0_0 1 13 true _ A42.out).mono ?_);rintro e w' ⟨rfl,⟨nd,rfl⟩⟩;(try exact zq81)));try go_wp2_with (first|(go_at_call 188;(with_reducible refine(impl_in.calls a0_1 0 8 false _ A40.out).mono ?_);rintro e w' ⟨rfl,⟨nd,rfl⟩⟩;(try exact zq81))|(go_at_call 289;(with_reducible refine(impl_isRegister.calls a0_2 t365 _ A41.out).mono ?_);rintro e w' ⟨rfl,⟨nd,rfl⟩⟩;(try exact zq81))|(go_at_call 188;(with_reducible refine(impl_in.calls a0_0 1 13 true _ A42.out).mono ?_);rintro e w' ⟨rfl,⟨nd,rfl⟩⟩;(try exact zq81))))
         go_ret
         exact⟨zq3,zq1⟩
       ·replace c43:=Bool.eq_false_iff.mpr c43
        subst c43
        rw [if_neg (show ¬(false=true) by decide)] at H
        obtain rfl:=Option.some.inj H
        obtain⟨hcz47_0,hcz47_1,hcz47_2,hfz47_0,hfz47_1,hfz47_2⟩:=cf3 BK355.out
        go_wp2_with (first|(go_at_call 188;(with_reducible refine(impl_in.calls a0_1 0 8 t364 _ A40.out).mono ?_);rintro e w' ⟨rfl,⟨nd,rfl⟩⟩;(try exact zq81))|(go_at_call 289;(with_reducible refine(impl_isRegister.calls a0_2 t365 _ A41.out).mono ?_);rintro e w' ⟨rfl,⟨nd,rfl⟩⟩;(try exact zq81))|(go_at_call 188;(with_reducible refine(impl_in.calls a0_0 1 13 false _ A42.out).mono ?_);rintro e w' ⟨rfl,⟨nd,rfl⟩⟩;(try exact zq81)))
        repeat(go_quiet (first|(go_at_call 188;(with_reducible refine(impl_in.calls a0_1 0 8 t364 _ A40.out).mono ?_);rintro e w' ⟨rfl,⟨nd,rfl⟩⟩;(try exact zq81))|(go_at_call 289;(with_reducible refine(impl_isRegister.calls a0_2 t365 _ A41.out).mono ?_);rintro e w' ⟨rfl,⟨nd,rfl⟩⟩;(try exact zq81))|(go_at_call 188;(with_reducible refine(impl_in.calls a0_0 1 13 false _ A42.out).mono ?_);rintro e w' ⟨rfl,⟨nd,rfl⟩⟩;(try exact zq81)));try go_wp2_with (first|(go_at_call 188;(with_reducible refine(impl_in.calls a0_1 0 8 t364 _ A40.out).mono ?_);rintro e w' ⟨rfl,⟨nd,rfl⟩⟩;(try exact zq81))|(go_at_call 289;(with_reducible refine(impl_isRegister.calls a0_2 t365 _ A41.out).mono ?_);rintro e w' ⟨rfl,⟨nd,rfl⟩⟩;(try exact zq81))|(go_at_call 188;(with_reducible refine(impl_in.calls a0_0 1 13 false _ A42.out).mono ?_);rintro e w' ⟨rfl,⟨nd,rfl⟩⟩;(try exact zq81))))
        go_ret
        exact⟨zq3,zq1⟩
      ·rw [if_neg c39] at H
       have c39b0:(a0_0==11)=false:=beq_eq_false_iff_ne.mpr c39
       have c39b1:(a0_0 != 11)=true:=bne_iff_ne.mpr c39
       by_cases c48:a0_0=10
       ·rw [if_pos c48] at H
        have c48b0:(a0_0==10)=true:=beq_iff_eq.mpr c48
        have c48b1:(a0_0 != 10)=false:=bne_eq_false_iff_eq.mpr c48
        clear c48
        obtain⟨t367,A49,H⟩:=bms H
        try dsimp only at H
        by_cases c50:t367=true
        ·subst c50
         rw [if_pos rfl] at H
         by_cases c51:a0_1=0
         ·rw [if_pos c51] at H
          have c51b0:(a0_1==0)=true:=beq_iff_eq.mpr c51
          have c51b1:(a0_1 != 0)=false:=bne_eq_false_iff_eq.mpr c51
          clear c51
          obtain rfl:=Option.some.inj H
          obtain⟨hcz52_0,hcz52_1,hcz52_2,hfz52_0,hfz52_1,hfz52_2⟩:=cf3 BK355.out
          go_wp2_with (first|(go_at_call 188;(with_reducible refine(impl_in.calls a0_0 1 13 true _ A49.out).mono ?_);rintro e w' ⟨rfl,⟨nd,rfl⟩⟩;(try exact zq81)))
          repeat(go_quiet (first|(go_at_call 188;(with_reducible refine(impl_in.calls a0_0 1 13 true _ A49.out).mono ?_);rintro e w' ⟨rfl,⟨nd,rfl⟩⟩;(try exact zq81)));try go_wp2_with (first|(go_at_call 188;(with_reducible refine(impl_in.calls a0_0 1 13 true _ A49.out).mono ?_);rintro e w' ⟨rfl,⟨nd,rfl⟩⟩;(try exact zq81))))
          go_ret
          exact⟨zq3,zq1⟩
         ·rw [if_neg c51] at H
          have c51b0:(a0_1==0)=false:=beq_eq_false_iff_ne.mpr c51
          have c51b1:(a0_1 != 0)=true:=bne_iff_ne.mpr c51
          obtain rfl:=Option.some.inj H
          obtain⟨hcz53_0,hcz53_1,hcz53_2,hfz53_0,hfz53_1,hfz53_2⟩:=cf3 BK355.out
          go_wp2_with (first|(go_at_call 188;(with_reducible refine(impl_in.calls a0_0 1 13 true _ A49.out).mono ?_);rintro e w' ⟨rfl,⟨nd,rfl⟩⟩;(try exact zq81)))
          repeat(go_quiet (first|(go_at_call 188;(with_reducible refine(impl_in.calls a0_0 1 13 true _ A49.out).mono ?_);rintro e w' ⟨rfl,⟨nd,rfl⟩⟩;(try exact zq81)));try go_wp2_with (first|(go_at_call 188;(with_reducible refine(impl_in.calls a0_0 1 13 true _ A49.out).mono ?_);rintro e w' ⟨rfl,⟨nd,rfl⟩⟩;(try exact zq81))))
          go_ret
          exact⟨zq3,zq1⟩
        ·replace c50:=Bool.eq_false_iff.mpr c50
         subst c50
         rw [if_neg (show ¬(false=true) by decide)] at H
         obtain rfl:=Option.some.inj H
         obtain⟨hcz54_0,hcz54_1,hcz54_2,hfz54_0,hfz54_1,hfz54_2⟩:=cf3 BK355.out
         go_wp2_with (first|(go_at_call 188;(with_reducible refine(impl_in.calls a0_0 1 13 false _ A49.out).mono ?_);rintro e w' ⟨rfl,⟨nd,rfl⟩⟩;(try exact zq81)))
         repeat(go_quiet (first|(go_at_call 188;(with_reducible refine(impl_in.calls a0_0 1 13 false _ A49.out).mono ?_);rintro e w' ⟨rfl,⟨nd,rfl⟩⟩;(try exact zq81)));try go_wp2_with (first|(go_at_call 188;(with_reducible refine(impl_in.calls a0_0 1 13 false _ A49.out).mono ?_);rintro e w' ⟨rfl,⟨nd,rfl⟩⟩;(try exact zq81))))
         go_ret
         exact⟨zq3,zq1⟩
       ·rw [if_neg c48] at H
        have c48b0:(a0_0==10)=false:=beq_eq_false_iff_ne.mpr c48
        have c48b1:(a0_0 != 10)=true:=bne_iff_ne.mpr c48
        obtain⟨t368,A55,H⟩:=bms H
        try dsimp only at H
        by_cases c56:t368=true
        ·subst c56
         rw [if_pos rfl] at H
         by_cases c57:t356=true
         ·subst c57
          rw [if_pos rfl] at H
          obtain rfl:=Option.some.inj H
          obtain⟨hcz58_0,hcz58_1,hcz58_2,hfz58_0,hfz58_1,hfz58_2⟩:=cf3 BK355.out
          go_wp2_with (first|(go_at_call 188;(with_reducible refine(impl_in.calls a0_0 1 13 true _ A55.out).mono ?_);rintro e w' ⟨rfl,⟨nd,rfl⟩⟩;(try exact zq81)))
          repeat(go_quiet (first|(go_at_call 188;(with_reducible refine(impl_in.calls a0_0 1 13 true _ A55.out).mono ?_);rintro e w' ⟨rfl,⟨nd,rfl⟩⟩;(try exact zq81)));try go_wp2_with (first|(go_at_call 188;(with_reducible refine(impl_in.calls a0_0 1 13 true _ A55.out).mono ?_);rintro e w' ⟨rfl,⟨nd,rfl⟩⟩;(try exact zq81))))
          go_ret
          exact⟨zq3,zq1⟩
         ·replace c57:=Bool.eq_false_iff.mpr c57
          subst c57
          rw [if_neg (show ¬(false=true) by decide)] at H
          obtain rfl:=Option.some.inj H
          obtain⟨hcz59_0,hcz59_1,hcz59_2,hfz59_0,hfz59_1,hfz59_2⟩:=cf3 BK355.out
          go_wp2_with (first|(go_at_call 188;(with_reducible refine(impl_in.calls a0_0 1 13 true _ A55.out).mono ?_);rintro e w' ⟨rfl,⟨nd,rfl⟩⟩;(try exact zq81)))
          repeat(go_quiet (first|(go_at_call 188;(with_reducible refine(impl_in.calls a0_0 1 13 true _ A55.out).mono ?_);rintro e w' ⟨rfl,⟨nd,rfl⟩⟩;(try exact zq81)));try go_wp2_with (first|(go_at_call 188;(with_reducible refine(impl_in.calls a0_0 1 13 true _ A55.out).mono ?_);rintro e w' ⟨rfl,⟨nd,rfl⟩⟩;(try exact zq81))))
          go_ret
          exact⟨zq3,zq1⟩
        ·replace c56:=Bool.eq_false_iff.mpr c56
         subst c56
         rw [if_neg (show ¬(false=true) by decide)] at H
         obtain rfl:=Option.some.inj H
         obtain⟨hcz60_0,hcz60_1,hcz60_2,hfz60_0,hfz60_1,hfz60_2⟩:=cf3 BK355.out
         go_wp2_with (first|(go_at_call 188;(with_reducible refine(impl_in.calls a0_0 1 13 false _ A55.out).mono ?_);rintro e w' ⟨rfl,⟨nd,rfl⟩⟩;(try exact zq81)))
         repeat(go_quiet (first|(go_at_call 188;(with_reducible refine(impl_in.calls a0_0 1 13 false _ A55.out).mono ?_);rintro e w' ⟨rfl,⟨nd,rfl⟩⟩;(try exact zq81)));try go_wp2_with (first|(go_at_call 188;(with_reducible refine(impl_in.calls a0_0 1 13 false _ A55.out).mono ?_);rintro e w' ⟨rfl,⟨nd,rfl⟩⟩;(try exact zq81))))
         go_ret
         exact⟨zq3,zq1⟩
def spec_l2Own.l0:Nat→Int→List (List (S219))→List (List (S219))→Option ((List (List (S219))))
 |0,_,_,_=>none
 |k+1,x4,x135000,x140000=>if x4<(x135000.length:Int) then((some (([]:List (S219)):List (S219))).bind fun y140=>(if 0≤x4 then(if y140.length+(rd_L4 x135000 x4).length<5864062014805 then(if x140000.length<5864062014805 then(spec_l2Own.l0 k (wrap64 (x4+1)) x135000 (x140000++ [(y140++(rd_L4 x135000 x4))])) else(none)) else(none)) else(none))) else(some x140000)
def spec_l2Own.f(k:Nat)(l0_0:List (List (S219))):Option ((List (List (S219)))):=spec_l2Own.l0 k 0 l0_0 (([]:List (List (S219))))
def spec_l2Own.T5:Bool×List (List Nat×List Nat):=(true,[([],[]),([0],[0]),([],[]),([],[]),([3],[3]),([],[]),([4,5],[4,5]),([6],[6]),([2,7],[2,7]),([8],[8]),([1,9,8],[1,9]),([0,1,2,3,4,5,6,7,8,9,10],[]),([11,10,10,0,1,2,3,4,5,6,7,8,9,10],[10,11])])
def spec_l2Own.B5:List Nat:= [0,1,0,0,8,0,56,120,252,508,1023,2047,4095]
theorem spec_l2Own.tab5:rtab .any (opsOf Try.f193 5)=spec_l2Own.T5:=by kernel_rfl
theorem spec_l2Own.bits5:waitsOk spec_l2Own.T5.2 spec_l2Own.B5=true:=by kernel_rfl
theorem spec_l2Own.calls(k:Nat)(A0_0:Option Addr)(c0_0:Nat)(l0_0:List (List (S219)))(r:List (List (S219)))(w:World)(hr0_0:Kd.C (Kd.slice 219 k219) w A0_0 l0_0.length l0_0)(hc0_0:l0_0.length≤c0_0)(h:spec_l2Own.f k l0_0=some r) :
  Calls Try.prog 193 #[.agg #[.slice A0_0 l0_0.length c0_0]] w fun e w'=> ∃ v0_:Value,e= .returned (.agg #[v0_])∧Kd.S (Kd.slice 219 k219) 217 w' w.heap.size (fun _=>True) v0_ r∧Below w.heap.size w w':=by
 have hu35:=Try.underlying35
 have HR0_0:=am hr0_0
 have HC0_0:=am hc0_0
 clear hr0_0 hc0_0
 have HB:=am (Below.refl w.heap.size w)
 have H:(spec_l2Own.l0 k 0 l0_0 (([]:List (List (S219)))))=some r:=h
 clear h
 obtain⟨y136,hy136⟩: ∃ y_:List (List (S219)),y_=(([]:List (List (S219)))):=⟨_,rfl⟩
 replace H:(spec_l2Own.l0 k 0 l0_0 y136)=some r:=by first|(rw [hy136];with_reducible exact H)|(have H2_:=(Option.bind_some _ _).symm.trans H;rw [hy136];with_reducible exact H2_)|(have H2_:=(Option.bind_some _ _).symm.trans H;with_reducible exact H2_)|with_reducible exact H|(rw [hy136];exact H)|exact H
 have Ny136:=am hy136
 clear hy136
 have H':=am H
 clear H
 go_enter Try.func193,Try.ntmps193
 go_wp2_with (first|(refine bx 1 #[.slice A0_0 l0_0.length c0_0] 35 (h:= ?_);intro gb134 hg w2 hbox hb;have BK134:=am (hbox);have GE134:=am ((zq4:w.heap.size≤gb134));replace HB:=am (below_step zq0 hb);clear hb hbox hg)|(refine bx 2 #[.slice none 0 0] 35 (h:= ?_);intro gb135 hg w3 hbox hb;have BK135:=am (hbox);have GE135:=am ((by rw [hg];exact(below_size zq68):w.heap.size≤gb135));replace HB:=am (below_step zq68 hb);have NB134_135:=am ((zq93:gb134≠gb135));have NB135_134:=am ((zq94:gb135≠gb134));replace BK134:=am (blk_below (g:=gb134) (o:= .cells #[.slice A0_0 l0_0.length c0_0] 35 (0,0)) zq5 hb);clear hb hbox hg)|((with_reducible refine gate_dst (N:=5) rfl ?_);refine Kd.S_lit (Kd.slice 219 k219) _ 217 ?hg (N:=5) ?hd (xs:=([]:List (List (S219)))) (inner:= []) (ok:=fun _=>True) (okp:=fun _=>True) ?hr ?hp (fun _ hk=>hk) trivial (Below.refl _ _) (Nat.le_refl _) (by simp) ?_;(case hd=>rfl);(case hg=>rfl);(case hr=>first|(go_simp;done)|(go_simp;rfl));(case hp=>exact(Reps.none _ _));intro v137 w4 ho5 hb hg_ hnew_;clear hg_ hnew_;(first|rw [← Ny136.out] at ho5|(simp only [Int.reduceToNat] at ho5;rw [← Ny136.out] at ho5));have HO138:=am (Kd.S_lower ho5 (below_size zq7));replace BK134:=am (blk_below (g:=gb134) (o:= .cells #[.slice A0_0 l0_0.length c0_0] 35 (0,0)) zq5 hb);replace BK135:=am (blk_below (g:=gb135) (o:= .cells #[.slice none 0 0] 35 (0,0)) zq6 hb);replace HB:=am (below_step zq7 hb);clear hb ho5;obtain⟨Ao6,co6,eo6⟩:=Kd.S_slice HO138.out;subst eo6)|(refine bx 3 #[.slice none 0 0] 35 (h:= ?_);intro gb139 hg w7 hbox hb;replace HO138:=am (Kd.S_below (by(with_reducible repeat(first|apply Kd.S_alloc|apply Kd.S_drewN|apply Kd.S_drew));exact HO138.out) hb);have BK139:=am (hbox);have GE139:=am ((by rw [hg];exact(below_size zq7):w.heap.size≤gb139));replace HB:=am (below_step zq7 hb);have NB134_139:=am ((zq93:gb134≠gb139));have NB139_134:=am ((zq94:gb139≠gb134));replace BK134:=am (blk_below (g:=gb134) (o:= .cells #[.slice A0_0 l0_0.length c0_0] 35 (0,0)) zq5 hb);have NB135_139:=am ((by rw [hg];exact Nat.ne_of_lt (blk_lt (g:=gb135) (o:= .cells #[.slice none 0 0] 35 (0,0)) zq6):gb135≠gb139));have NB139_135:=am ((by rw [hg];exact Nat.ne_of_gt (blk_lt (g:=gb135) (o:= .cells #[.slice none 0 0] 35 (0,0)) zq6):gb139≠gb135));replace BK135:=am (blk_below (g:=gb135) (o:= .cells #[.slice none 0 0] 35 (0,0)) zq6 hb);clear hb hbox hg;have hnb8:=NB139_134.out;have hnc8:=NB134_139.out;have hnb9:=NB139_135.out;have hnc9:=NB135_139.out;obtain⟨hcz10_0,hfz10_0⟩:=cf1 BK139.out))
 go_loopg [4] k (fun kq v4 w'=> ∃ (x4_1:Int) (x140000_1:List (List (S219))) (u140000:Value),v4= .int .i64 x4_1∧Aside0 (spec_l2Own.l0 kq x4_1 l0_0 x140000_1=some r)∧Aside0 (kq≤k)∧Aside0 (Kd.S (Kd.slice 219 k219) 217 w' w.heap.size (fun _=>True) u140000 x140000_1)∧Aside0 (w'.heap[gb134]? =some (.cells #[(.slice A0_0 l0_0.length c0_0)] 35 (0,0)))∧Aside0 (w'.heap[gb135]? =some (.cells #[(.slice none 0 0)] 35 (0,0)))∧Aside0 (w'.heap[gb139]? =some (.cells #[u140000] 35 (0,0)))∧Aside0 (Below w.heap.size w w'))
 case atStart=>exact⟨(0),(y136),(.slice Ao6 y136.length co6),zq8,H',⟨Nat.le_refl _⟩,⟨by(with_reducible repeat(first|apply Kd.S_alloc|apply Kd.S_drewN|apply Kd.S_drew));exact Kd.S_mono (Kd.S_far (p:=⟨gb139,0,none⟩) (Kd.S_types HO138.out BK139.out zq83) (fun _ hk=>hk.2) (.slice Ao6 y136.length co6)) (fun _ hk=>trivial)⟩,⟨zq9⟩,⟨zq10⟩,⟨by(with_reducible repeat(first|refine blk_drewN ?_ _|refine blk_drew ?_|refine blk_alloc ?_ _));refine blk_put (cs:= #[.slice none 0 0]) ?_ 0 _ rfl;(with_reducible repeat(first|refine blk_drewN ?_ _|refine blk_drew ?_|refine blk_alloc ?_ _));exact BK139.out⟩,⟨zq2⟩⟩
 case round =>
  clear H'
  try clear c1
  try clear p2
  try clear c8
  try clear c9
  try clear hcz10_0
  try clear hfz10_0
  obtain⟨x4_1,x140000_1,u140000,rfl,HA,HK1,HO_140000,BK134,BK135,BK139,HB⟩:=hrel
  cases gk with
  |zero=>exact absurd HA.out (by simp [spec_l2Own.l0])
  |succ k1 =>
   have H:=HA.out
   clear HA
   simp only [spec_l2Own.l0] at H
   by_cases c11:x4_1<(l0_0.length:Int)
   ·rw [if_pos c11] at H
    have c11b0:decide (x4_1<(l0_0.length:Int))=true:=decide_eq_true c11
    clear c11
    obtain⟨y140,hy140⟩: ∃ y_:List (S219),y_=(([]:List (S219))):=⟨_,rfl⟩
    replace H:(if 0≤x4_1 then(if y140.length+(rd_L4 l0_0 x4_1).length<5864062014805 then(if x140000_1.length<5864062014805 then(spec_l2Own.l0 k1 (wrap64 (x4_1+1)) l0_0 (x140000_1++ [(y140++(rd_L4 l0_0 x4_1))])) else(none)) else(none)) else(none))=some r:=by first|(rw [hy140];with_reducible exact H)|(have H2_:=(Option.bind_some _ _).symm.trans H;rw [hy140];with_reducible exact H2_)|(have H2_:=(Option.bind_some _ _).symm.trans H;with_reducible exact H2_)|with_reducible exact H|(rw [hy140];exact H)|exact H
    have Ny140:=am hy140
    clear hy140
    by_cases c12:0≤x4_1
    ·rw [if_pos c12] at H
     have c12b0:decide (0≤x4_1)=true:=decide_eq_true c12
     clear c12
     by_cases c13:y140.length+(rd_L4 l0_0 x4_1).length<5864062014805
     ·rw [if_pos c13] at H
      have LMc13:=am c13
      clear c13
      obtain⟨y144,hy144⟩: ∃ y_:List (S219),y_=(y140++(rd_L4 l0_0 x4_1)):=⟨_,rfl⟩
      replace H:(if x140000_1.length<5864062014805 then(spec_l2Own.l0 k1 (wrap64 (x4_1+1)) l0_0 (x140000_1++ [y144])) else(none))=some r:=by first|(rw [hy144];with_reducible exact H)|(have H2_:=(Option.bind_some _ _).symm.trans H;rw [hy144];with_reducible exact H2_)|(have H2_:=(Option.bind_some _ _).symm.trans H;with_reducible exact H2_)|with_reducible exact H|(rw [hy144];exact H)|exact H
      have Ny144:=am hy144
      clear hy144
      by_cases c14:x140000_1.length<5864062014805
      ·rw [if_pos c14] at H
       have LMc14:=am c14
       clear c14
       obtain⟨y147,hy147⟩: ∃ y_:List (List (S219)),y_=(x140000_1++ [y144]):=⟨_,rfl⟩
       replace H:(spec_l2Own.l0 k1 (wrap64 (x4_1+1)) l0_0 y147)=some r:=by first|(rw [hy147];with_reducible exact H)|(have H2_:=(Option.bind_some _ _).symm.trans H;rw [hy147];with_reducible exact H2_)|(have H2_:=(Option.bind_some _ _).symm.trans H;with_reducible exact H2_)|with_reducible exact H|(rw [hy147];exact H)|exact H
       have Ny147:=am hy147
       clear hy147
       have H':=am H
       clear H
       have hnb15:=NB134_135.out
       have hnc15:=NB135_134.out
       have hnb16:=NB134_139.out
       have hnc16:=NB139_134.out
       obtain⟨hcz17_0,hfz17_0⟩:=cf1 BK134.out
       try go_wp2
       replace HO_140000:=am (Kd.S_drew HO_140000.out)
       replace BK134:=am (blk_drew BK134.out)
       replace BK135:=am (blk_drew BK135.out)
       replace BK139:=am (blk_drew BK139.out)
       replace HB:=am (below_drew1 HB.out)
       have p143:0≤(x4_1:Int):=of_decide_eq_true zq26
       have q143:x4_1<(l0_0.length:Int):=of_decide_eq_true zq26
       obtain⟨ad143,A143_0,c143_0,e143,hx143_0,hl143_0,hi143_0⟩:=at_L4 HR0_0.out x4_1 p143 q143
       have hw143_0:=hx143_0
       cases e143
       replace hx143_0:=cb HB hx143_0
       have HR143_0:=am hi143_0
       have HC143_0:=am hl143_0
       clear hi143_0 hl143_0
       replace p143:=eq_true p143
       replace q143:=eq_true q143
       refine start_ (n:=13) (S:=fun w'=>w'.cell? ⟨gb139,0,none⟩=some (u140000)∧w'.cell? ⟨gb134,0,none⟩=some (.slice (some ad143) l0_0.length c0_0)∧w'.cell? (ad143.add (x4_1).toNat)=some (.slice A143_0 (rd_L4 l0_0 x4_1).length c143_0)) (ds:= [12]) (bb 13 0) zq27 rfl rfl ⟨(blk_cell BK139.out 0).trans rfl,(blk_cell BK134.out 0).trans rfl,(cb HB hw143_0)⟩ (fun hHeld=> ?_);refine with_tabW spec_l2Own.tab5 spec_l2Own.bits5 (fun HT_ HW_=> ?_)
       generalize wr.drew=w18 at HO_140000 BK134 BK135 BK139 HB HR143_0 hx143_0 hHeld ⊢
       refine pu 0 14 (bb 13 1) (any_of HT_.out zq27) (h:= ?_)
       refine pu 3 17 (bb 13 9) (any_of HT_.out zq27) (h:= ?_)
       refine pu 5 19 (bb 13 41) (any_of HT_.out zq27) (h:= ?_)
       refine tk 1 15 (bb 13 43) (take_ofW HT_.out HW_.out zq27) hHeld (h:= ?_)
       refine tk 4 18 (bb 13 59) (take_ofW HT_.out HW_.out zq27) hHeld (h:= ?_)
       refine pu 6 20 (bb 13 123) (any_of HT_.out zq27) (h:= ?_)
       refine tk 7 21 (bb 13 251) (take_ofW HT_.out HW_.out zq27) hHeld (h:= ?_)
       refine oe 2 (some 16) (bb 13 255) (one_of HT_.out zq27) (h:=fun K hK=> ?_)
       refine Kd.R_lit_step k219 _ 219 ?hg (N:=16) ?hd (xs:=([]:List (S219))) (inner:= []) (ok:=fun _=>True) (okp:=fun _=>True) ?hr ?hp (fun _ hk=>hk) trivial (Below.refl _ _) (Nat.le_refl _) (by simp) ?_;(case hd=>rfl);(case hg=>rfl);(case hr=>first|(go_simp;done)|(go_simp;rfl));(case hp=>exact(Reps.none _ _))
       intro v141 w19 ho20 hb hg_ hnew_
       clear hg_ hnew_
       (first|rw [← Ny140.out] at ho20|(simp only [Int.reduceToNat] at ho20;rw [← Ny140.out] at ho20))
       replace HO_140000:=am (Kd.S_elder' zq145 (Kd.R_base ho20) hb)
       have HO142:=am (Kd.R_lower ho20 (below_size zq2))
       replace BK134:=am (blk_below (g:=gb134) (o:= .cells #[.slice (some ad143) l0_0.length c0_0] 35 (0,0)) zq5 hb)
       replace BK135:=am (blk_below (g:=gb135) (o:= .cells #[.slice none 0 0] 35 (0,0)) zq6 hb)
       replace BK139:=am (blk_below (g:=gb139) (o:= .cells #[u140000] 35 (0,0)) zq11 hb)
       replace HB:=am (below_step zq2 hb)
       clear hb ho20
       refine hK.out _ _ ⟨(blk_cell BK139.out 0).trans rfl,(blk_cell BK134.out 0).trans rfl,(cb HB hw143_0)⟩ (fun hHeld=> ?_)
       clear hK K
       refine nm 16 (h:= ?_)
       refine oe 8 (some 22) (bb 13 511) (one_of HT_.out zq27) (h:=fun K hK=> ?_)
       refine Kd.R_append_rows_step k219 (w0:=w) w.heap.size (by rfl) (.tmp 16) (.tmp 21) 217 219 (.agg #[(.int .i64 0),(.int .i64 0),(.int .i64 0)]) 24 rfl Try.underlying217 info219 rfl zq83 zq90 v141 y140 (rd_L4 l0_0 x4_1) _ _ _ (fun _=>True) (fun _=>False) rfl rfl ?aO ?aR (fun _ _ h=>h) (fun _ h=>h.elim) ?aF ?aB ?aS ?aL ?_
       (case aR=>repeat(first|exact(Kd.C_below HR143_0.out HB.out)|(with_reducible refine Kd.C_alloc ?_ _)|(with_reducible refine Kd.C_drewN ?_ _)|(with_reducible refine Kd.C_drew ?_)))
       (case aB=>exact zq2)
       (case aF=>exact(fun _ _=>trivial))
       (case aO=>exact(by(with_reducible repeat(first|apply Kd.R_alloc|apply Kd.R_drewN|apply Kd.R_drew));exact HO142.out))
       (case aS=>exact(below_size zq2))
       (case aL=>have:=LMc13.out;omega)
       intro v145 w21 ho hb hg hat
       rw [← Ny144.out] at ho
       replace HO_140000:=am (Kd.S_after (ok:=(fun _=>True)) zq145 hg hat)
       replace BK134:=am (blk_grown (g:=gb134) (o:= .cells #[.slice (some ad143) l0_0.length c0_0] 35 (0,0)) zq5 hg (Kd.R_ne HO142.out BK134.out zq83))
       replace BK135:=am (blk_grown (g:=gb135) (o:= .cells #[.slice none 0 0] 35 (0,0)) zq6 hg (Kd.R_ne HO142.out BK135.out zq83))
       replace BK139:=am (blk_grown (g:=gb139) (o:= .cells #[u140000] 35 (0,0)) zq11 hg (Kd.R_ne HO142.out BK139.out zq83))
       replace HB:=am (hb)
       have HO146:=am (ho)
       clear HO142
       clear ho hb hg hat
       obtain⟨Ao23,co23,eo23⟩:=Kd.R_slice HO146.out
       (first|subst eo23|(injection eo23 with f1_ f2_ f3_;have f4_:=f1_.symm;have f5_:=f3_.symm;clear f1_ f2_ f3_;subst f4_;subst f5_))
       refine hK.out _ _ ⟨(blk_cell BK139.out 0).trans rfl,(blk_cell BK134.out 0).trans rfl,(cb HB hw143_0)⟩ (fun hHeld=> ?_)
       clear hK K
       refine nm 22 (h:= ?_)
       refine oe 9 (some 23) (bb 13 1023) (one_of HT_.out zq27) (h:=fun K hK=> ?_)
       refine value_ (w1:= ?_) (v:= ?_) (by rfl) rfl ?_ ?_
       rotate_left 2
       ·go_simp
        constructor
        ·rfl
        ·rfl
       refine hK.out _ _ ⟨(blk_cell (blk_alloc BK139.out _) 0).trans rfl,(blk_cell (blk_alloc BK134.out _) 0).trans rfl,(World.cell?_alloc_lt _ _ _ (World.block_lt_of_cell? _ _ ((cb HB hw143_0)))).trans ((cb HB hw143_0))⟩ (fun hHeld=> ?_)
       clear hK K
       refine nm 23 (h:= ?_)
       refine oe 10 (some 24) (bb 13 2047) (one_of HT_.out zq27) (h:=fun K hK=> ?_)
       refine Kd.S_append_step (Kd.slice 219 k219) (w0:=w) w.heap.size (by rfl) (.tmp 15) (.tmp 23) 33 217 (.slice none 0 0) 24 rfl Try.underlying33 info217 rfl zq83 zq90 u140000 x140000_1 y144 [.slice Ao23 y144.length co23] (fun _=>True) (fun k_=>some k_=(.slice Ao23 y144.length co23:Value).ownBlock) rfl rfl ?aP (fun k_ hk_=>((Kd.R_mono (ok':=fun k_=>((fun _=>True)) k_∧some k_≠(u140000:Value).ownBlock) (Kd.R_apart' (HO146.out) (Kd.S_typed HO_140000.out) zq83) (fun k_ hk=>⟨trivial,hk.2⟩))).1 k_ hk_.symm) ?aF ?aO ?aB ?aS ?aL ?_
       (case aP=>exact Kd.M_row (Kd.R_mono (Kd.R_tight rfl (Kd.R_mono (ok':=fun k_=>((fun _=>True)) k_∧some k_≠(u140000:Value).ownBlock) (Kd.R_apart' (HO146.out) (Kd.S_typed HO_140000.out) zq83) (fun k_ hk=>⟨trivial,hk.2⟩))) (fun _ h_=>h_)))
       (case aB=>exact zq2)
       (case aF=>exact(fun _ _=>trivial))
       (case aO=>exact(by(with_reducible repeat(first|apply Kd.S_alloc|apply Kd.S_drewN|apply Kd.S_drew));exact Kd.S_mono HO_140000.out (fun k_ hk=>⟨trivial,fun e_=>hk.2 e_⟩)))
       (case aS=>exact(below_size zq2))
       (case aL=>have:=LMc14.out;omega)
       intro v148 w22 ho hb hg hat
       rw [← Ny147.out] at ho
       replace BK134:=am (blk_grown (g:=gb134) (o:= .cells #[.slice (some ad143) l0_0.length c0_0] 35 (0,0)) zq5 hg (Kd.S_ne HO_140000.out BK134.out zq83))
       replace BK135:=am (blk_grown (g:=gb135) (o:= .cells #[.slice none 0 0] 35 (0,0)) zq6 hg (Kd.S_ne HO_140000.out BK135.out zq83))
       replace BK139:=am (blk_grown (g:=gb139) (o:= .cells #[u140000] 35 (0,0)) zq11 hg (Kd.S_ne HO_140000.out BK139.out zq83))
       replace HB:=am (hb)
       have HO149:=am (ho)
       clear HO146 HO_140000
       clear ho hb hg hat
       obtain⟨Ao24,co24,eo24⟩:=Kd.S_slice HO149.out
       (first|subst eo24|(injection eo24 with f1_ f2_ f3_;have f4_:=f1_.symm;have f5_:=f3_.symm;clear f1_ f2_ f3_;subst f4_;subst f5_))
       refine hK.out _ _ ⟨(blk_cell BK139.out 0).trans rfl,(blk_cell BK134.out 0).trans rfl,(cb HB hw143_0)⟩ (fun hHeld=> ?_)
       clear hK K
       refine nm 24 (h:= ?_)
       refine pu 11 25 (bb 13 4095) (any_of HT_.out zq27) (h:= ?_)
       refine le_ 12 none (bb 13 8191) (one_of HT_.out zq27) (h:=fun K hK=> ?_)
       have hs25:w22.cell? ⟨gb139,0,none⟩=some (u140000):=(blk_cell BK139.out 0).trans rfl
       have hfs25:=blk_frozen BK139.out 0
       have hns25_0:=NB134_139.out
       have hns25_1:=NB135_139.out
       have hms25_0:=NB139_134.out
       have hms25_1:=NB139_135.out
       refine skip_ (w1:= ?_) (by rfl) rfl ?_ ?_
       rotate_left
       ·go_simp
        rfl
       refine hK.out _ _ ?_
       clear hK K
       refine done_ (done_of HT_.out zq27) ?_
       try go_wp2
       go_roundg k1
       case measure=>have:=HK1.out;omega
       case rel=>exact⟨(wrap64 (x4_1+1)),(y147),(.slice Ao24 y147.length co24),zq8,H',⟨zq110⟩,⟨by(with_reducible repeat(first|apply Kd.S_alloc|apply Kd.S_drewN|apply Kd.S_drew));exact Kd.S_mono (Kd.S_far (p:=⟨gb139,0,none⟩) (Kd.S_types HO149.out BK139.out zq83) (fun _ hk=>hk.2) (.slice Ao24 y147.length co24)) (fun _ hk=>trivial)⟩,⟨zq9⟩,⟨zq10⟩,⟨by(with_reducible repeat(first|refine blk_drewN ?_ _|refine blk_drew ?_|refine blk_alloc ?_ _));refine blk_put (cs:= #[u140000]) ?_ 0 _ rfl;(with_reducible repeat(first|refine blk_drewN ?_ _|refine blk_drew ?_|refine blk_alloc ?_ _));exact BK139.out⟩,⟨zq2⟩⟩
      ·rw [if_neg c14] at H
       exact absurd H (by simp)
     ·rw [if_neg c13] at H
      exact absurd H (by simp)
    ·rw [if_neg c12] at H
     exact absurd H (by simp)
   ·rw [if_neg c11] at H
    have c11b0:decide (x4_1<(l0_0.length:Int))=false:=decide_eq_false c11
    clear c11
    obtain rfl:=Option.some.inj H
    have hnb26:=NB134_135.out
    have hnc26:=NB135_134.out
    have hnb27:=NB134_139.out
    have hnc27:=NB139_134.out
    obtain⟨hcz28_0,hfz28_0⟩:=cf1 BK134.out
    have hnb29:=NB139_135.out
    have hnc29:=NB135_139.out
    obtain⟨hcz30_0,hfz30_0⟩:=cf1 BK139.out
    obtain⟨Ao31,co31,eo31⟩:=Kd.S_slice HO_140000.out
    subst eo31
    obtain⟨hcz32_0,hfz32_0⟩:=cf1 BK135.out
    go_wp2
    refine bodyPost_ret (results_cell_row rfl _ _ gb135 35 #[.slice Ao31 x140000_1.length co31] (0,0) _ rfl (by repeat(first|exact BK135.out|refine blk_drewN ?_ _|refine blk_drew ?_|refine blk_alloc ?_ _|apply blk_put|rfl)) Try.underlying35 rfl zq27) rfl ?_
    exact⟨_,zq3,by(with_reducible repeat(first|apply Kd.S_alloc|apply Kd.S_drewN|apply Kd.S_drew));exact Kd.S_mono (Kd.S_far (p:=⟨gb135,0,none⟩) (Kd.S_types HO_140000.out BK135.out zq83) (fun _ hk=>hk.2) (.slice Ao31 x140000_1.length co31)) (fun _ hk=>trivial),zq2⟩
end Go.Proofs.Yteiafboknimgbaa.Pr
end
