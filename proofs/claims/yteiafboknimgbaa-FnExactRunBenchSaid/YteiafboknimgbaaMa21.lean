import Derived.Test.YteiafboknimgbaaMa20
set_option maxHeartbeats 8000000
set_option maxRecDepth 100000
set_option linter.unusedVariables false
set_option linter.unusedSimpArgs false
section
namespace Go.Proofs.Yteiafboknimgbaa.Pr
open Go.RowKit Go.Proofs.W.PrintWords Go.Proofs.W.PrintLast Go.Proofs.W.PrintMore
attribute [local go_sem] max2_int min2_int max_two min_two max_three min_three max_four min_four
def laws_eqProgram.f(k:Nat)(l0_0:List (List (S219)))(l1_0:List (List (S219))):Option (Bool):=(laws_eqStepSS.f k l0_0 l1_0).bind fun t220=>(if t220=true then(some true) else(some false))
theorem laws_eqProgram.calls(k:Nat)(A0_0:Option Addr)(c0_0:Nat)(l0_0:List (List (S219)))(A1_0:Option Addr)(c1_0:Nat)(l1_0:List (List (S219)))(r:Bool)(w:World)(hr0_0:Kd.C (Kd.slice 219 k219) w A0_0 l0_0.length l0_0)(hc0_0:l0_0.length≤c0_0)(hr1_0:Kd.C (Kd.slice 219 k219) w A1_0 l1_0.length l1_0)(hc1_0:l1_0.length≤c1_0)(h:laws_eqProgram.f k l0_0 l1_0=some r) :
  Calls Try.prog 29 #[.agg #[.slice A0_0 l0_0.length c0_0],.agg #[.slice A1_0 l1_0.length c1_0]] w fun e w'=>e= .returned (.bool r)∧Below w.heap.size w w':=by
 have hu35:=Try.underlying35
 have HR0_0:=am hr0_0
 have HC0_0:=am hc0_0
 clear hr0_0 hc0_0
 have HR1_0:=am hr1_0
 have HC1_0:=am hc1_0
 clear hr1_0 hc1_0
 have HB:=am (Below.refl w.heap.size w)
 have H:((laws_eqStepSS.f k l0_0 l1_0).bind fun t220=>(if t220=true then(some true) else(some false)))=some r:=h
 clear h
 obtain⟨t220,A3,H⟩:=bms H
 try dsimp only at H
 by_cases c4:t220=true
 ·subst c4
  rw [if_pos rfl] at H
  obtain rfl:=Option.some.inj H
  go_enter Try.func29,Try.ntmps29
  go_wp2_with (first|(refine bx 2 #[.slice A0_0 l0_0.length c0_0] 35 (h:= ?_);intro gb218 hg w5 hbox hb;have BK218:=am (hbox);have GE218:=am ((zq4:w.heap.size≤gb218));replace HB:=am (below_step zq0 hb);clear hb hbox hg)|(refine bx 3 #[.slice A1_0 l1_0.length c1_0] 35 (h:= ?_);intro gb219 hg w6 hbox hb;have BK219:=am (hbox);have GE219:=am ((by rw [hg];exact(below_size zq48):w.heap.size≤gb219));replace HB:=am (below_step zq48 hb);have NB218_219:=am ((zq141:gb218≠gb219));have NB219_218:=am ((zq142:gb219≠gb218));replace BK218:=am (blk_below (g:=gb218) (o:= .cells #[.slice A0_0 l0_0.length c0_0] 35 (0,0)) zq45 hb);clear hb hbox hg;have hnb7:=NB218_219.out;have hnc7:=NB219_218.out;obtain⟨hcz8_0,hfz8_0⟩:=cf1 BK218.out;obtain⟨hcz9_0,hfz9_0⟩:=cf1 BK219.out)|(refine gl (some 9) 148 Try.func148 #[.slice A0_0 l0_0.length c0_0,.slice A1_0 l1_0.length c1_0] (h:= ?_);(with_reducible refine(laws_eqStepSS.calls k _ _ l0_0 _ _ l1_0 true _ ?side1 ?side2 ?side3 ?side4 A3.out).mono ?_);(case side1=>exact zq13);(case side2=>exact HC0_0.out);(case side3=>exact zq44);(case side4=>exact HC1_0.out);rintro e w10 ⟨rfl,hb⟩;refine⟨_,rfl,?_⟩;replace BK218:=am (blk_below (g:=gb218) (o:= .cells #[.slice A0_0 l0_0.length c0_0] 35 (0,0)) zq45 hb);replace BK219:=am (blk_below (g:=gb219) (o:= .cells #[.slice A1_0 l1_0.length c1_0] 35 (0,0)) zq140 hb);replace HB:=am (below_step zq47 hb);(try clear hb)))
  go_ret
  exact⟨zq3,zq47⟩
 ·replace c4:=Bool.eq_false_iff.mpr c4
  subst c4
  rw [if_neg (show ¬(false=true) by decide)] at H
  obtain rfl:=Option.some.inj H
  go_enter Try.func29,Try.ntmps29
  go_wp2_with (first|(refine bx 2 #[.slice A0_0 l0_0.length c0_0] 35 (h:= ?_);intro gb218 hg w11 hbox hb;have BK218:=am (hbox);have GE218:=am ((zq4:w.heap.size≤gb218));replace HB:=am (below_step zq0 hb);clear hb hbox hg)|(refine bx 3 #[.slice A1_0 l1_0.length c1_0] 35 (h:= ?_);intro gb219 hg w12 hbox hb;have BK219:=am (hbox);have GE219:=am ((by rw [hg];exact(below_size zq48):w.heap.size≤gb219));replace HB:=am (below_step zq48 hb);have NB218_219:=am ((zq141:gb218≠gb219));have NB219_218:=am ((zq142:gb219≠gb218));replace BK218:=am (blk_below (g:=gb218) (o:= .cells #[.slice A0_0 l0_0.length c0_0] 35 (0,0)) zq45 hb);clear hb hbox hg;have hnb13:=NB218_219.out;have hnc13:=NB219_218.out;obtain⟨hcz14_0,hfz14_0⟩:=cf1 BK218.out;obtain⟨hcz15_0,hfz15_0⟩:=cf1 BK219.out)|(refine gl (some 9) 148 Try.func148 #[.slice A0_0 l0_0.length c0_0,.slice A1_0 l1_0.length c1_0] (h:= ?_);(with_reducible refine(laws_eqStepSS.calls k _ _ l0_0 _ _ l1_0 false _ ?side1 ?side2 ?side3 ?side4 A3.out).mono ?_);(case side1=>exact zq13);(case side2=>exact HC0_0.out);(case side3=>exact zq44);(case side4=>exact HC1_0.out);rintro e w16 ⟨rfl,hb⟩;refine⟨_,rfl,?_⟩;replace BK218:=am (blk_below (g:=gb218) (o:= .cells #[.slice A0_0 l0_0.length c0_0] 35 (0,0)) zq45 hb);replace BK219:=am (blk_below (g:=gb219) (o:= .cells #[.slice A1_0 l1_0.length c1_0] 35 (0,0)) zq140 hb);replace HB:=am (below_step zq47 hb);(try clear hb)))
  go_ret
  exact⟨zq3,zq47⟩
def laws_eqBench.f(k:Nat)(l0_0:List (List (S219)))(a0_1:Int)(a0_2:Int)(l1_0:List (List (S219)))(a1_1:Int)(a1_2:Int):Option (Bool):=(laws_eqProgram.f k l0_0 l1_0).bind fun t223=>(if t223=true then(if a0_1=a1_1 then(if a0_2=a1_2 then(some true) else(some false)) else(some false)) else(some false))
theorem laws_eqBench.calls(k:Nat)(A0_0:Option Addr)(c0_0:Nat)(l0_0:List (List (S219)))(a0_1:Int)(a0_2:Int)(A1_0:Option Addr)(c1_0:Nat)(l1_0:List (List (S219)))(a1_1:Int)(a1_2:Int)(r:Bool)(w:World)(hr0_0:Kd.C (Kd.slice 219 k219) w A0_0 l0_0.length l0_0)(hc0_0:l0_0.length≤c0_0)(hr1_0:Kd.C (Kd.slice 219 k219) w A1_0 l1_0.length l1_0)(hc1_0:l1_0.length≤c1_0)(h:laws_eqBench.f k l0_0 a0_1 a0_2 l1_0 a1_1 a1_2=some r) :
  Calls Try.prog 20 #[.agg #[.slice A0_0 l0_0.length c0_0,.int .i64 a0_1,.int .i64 a0_2],.agg #[.slice A1_0 l1_0.length c1_0,.int .i64 a1_1,.int .i64 a1_2]] w fun e w'=>e= .returned (.bool r)∧Below w.heap.size w w':=by
 have hu37:=Try.underlying37
 have hu35:=Try.underlying35
 have HR0_0:=am hr0_0
 have HC0_0:=am hc0_0
 clear hr0_0 hc0_0
 have HR1_0:=am hr1_0
 have HC1_0:=am hc1_0
 clear hr1_0 hc1_0
 have HB:=am (Below.refl w.heap.size w)
 have H:((laws_eqProgram.f k l0_0 l1_0).bind fun t223=>(if t223=true then(if a0_1=a1_1 then(if a0_2=a1_2 then(some true) else(some false)) else(some false)) else(some false)))=some r:=h
 clear h
 obtain⟨t223,A3,H⟩:=bms H
 try dsimp only at H
 by_cases c4:t223=true
 ·subst c4
  rw [if_pos rfl] at H
  by_cases c5:a0_1=a1_1
  ·rw [if_pos c5] at H
   have c5b0:(a0_1==a1_1)=true:=beq_iff_eq.mpr c5
   have c5b1:(a0_1 != a1_1)=false:=bne_eq_false_iff_eq.mpr c5
   clear c5
   by_cases c6:a0_2=a1_2
   ·rw [if_pos c6] at H
    have c6b0:(a0_2==a1_2)=true:=beq_iff_eq.mpr c6
    have c6b1:(a0_2 != a1_2)=false:=bne_eq_false_iff_eq.mpr c6
    clear c6
    obtain rfl:=Option.some.inj H
    go_enter Try.func20,Try.ntmps20
    go_wp2_with (first|(refine bx 2 #[.slice A0_0 l0_0.length c0_0,.int .i64 a0_1,.int .i64 a0_2] 37 (h:= ?_);intro gb221 hg w7 hbox hb;have BK221:=am (hbox);have GE221:=am ((zq4:w.heap.size≤gb221));replace HB:=am (below_step zq0 hb);clear hb hbox hg)|(refine bx 3 #[.slice A1_0 l1_0.length c1_0,.int .i64 a1_1,.int .i64 a1_2] 37 (h:= ?_);intro gb222 hg w8 hbox hb;have BK222:=am (hbox);have GE222:=am ((by rw [hg];exact(below_size zq43):w.heap.size≤gb222));replace HB:=am (below_step zq43 hb);have NB221_222:=am ((zq49:gb221≠gb222));have NB222_221:=am ((zq50:gb222≠gb221));replace BK221:=am (blk_below (g:=gb221) (o:= .cells #[.slice A0_0 l0_0.length c0_0,.int .i64 a0_1,.int .i64 a0_2] 37 (0,0)) zq41 hb);clear hb hbox hg;have hnb9:=NB221_222.out;have hnc9:=NB222_221.out;obtain⟨hcz10_0,hcz10_1,hcz10_2,hfz10_0,hfz10_1,hfz10_2⟩:=cf3 BK221.out;obtain⟨hcz11_0,hcz11_1,hcz11_2,hfz11_0,hfz11_1,hfz11_2⟩:=cf3 BK222.out)|(refine gl (some 9) 29 Try.func29 #[.agg #[.slice A0_0 l0_0.length c0_0],.agg #[.slice A1_0 l1_0.length c1_0]] (h:= ?_);(with_reducible refine(laws_eqProgram.calls k _ _ l0_0 _ _ l1_0 true _ ?side1 ?side2 ?side3 ?side4 A3.out).mono ?_);(case side1=>exact zq13);(case side2=>exact HC0_0.out);(case side3=>exact zq44);(case side4=>exact HC1_0.out);rintro e w12 ⟨rfl,hb⟩;refine⟨_,rfl,?_⟩;replace BK221:=am (blk_below (g:=gb221) (o:= .cells #[.slice A0_0 l0_0.length c0_0,.int .i64 a0_1,.int .i64 a0_2] 37 (0,0)) zq41 hb);replace BK222:=am (blk_below (g:=gb222) (o:= .cells #[.slice A1_0 l1_0.length c1_0,.int .i64 a1_1,.int .i64 a1_2] 37 (0,0)) zq52 hb);replace HB:=am (below_step zq42 hb);(try clear hb);obtain⟨hcz13_0,hcz13_1,hcz13_2,hfz13_0,hfz13_1,hfz13_2⟩:=cf3 BK221.out;obtain⟨hcz14_0,hcz14_1,hcz14_2,hfz14_0,hfz14_1,hfz14_2⟩:=cf3 BK222.out))
    go_ret
    exact⟨zq3,zq42⟩
   ·rw [if_neg c6] at H
    have c6b0:(a0_2==a1_2)=false:=beq_eq_false_iff_ne.mpr c6
    have c6b1:(a0_2 != a1_2)=true:=bne_iff_ne.mpr c6
    obtain rfl:=Option.some.inj H
    go_enter Try.func20,Try.ntmps20
    go_wp2_with (first|(refine bx 2 #[.slice A0_0 l0_0.length c0_0,.int .i64 a0_1,.int .i64 a0_2] 37 (h:= ?_);intro gb221 hg w15 hbox hb;have BK221:=am (hbox);have GE221:=am ((zq4:w.heap.size≤gb221));replace HB:=am (below_step zq0 hb);clear hb hbox hg)|(refine bx 3 #[.slice A1_0 l1_0.length c1_0,.int .i64 a1_1,.int .i64 a1_2] 37 (h:= ?_);intro gb222 hg w16 hbox hb;have BK222:=am (hbox);have GE222:=am ((by rw [hg];exact(below_size zq43):w.heap.size≤gb222));replace HB:=am (below_step zq43 hb);have NB221_222:=am ((zq49:gb221≠gb222));have NB222_221:=am ((zq50:gb222≠gb221));replace BK221:=am (blk_below (g:=gb221) (o:= .cells #[.slice A0_0 l0_0.length c0_0,.int .i64 a0_1,.int .i64 a0_2] 37 (0,0)) zq41 hb);clear hb hbox hg;have hnb17:=NB221_222.out;have hnc17:=NB222_221.out;obtain⟨hcz18_0,hcz18_1,hcz18_2,hfz18_0,hfz18_1,hfz18_2⟩:=cf3 BK221.out;obtain⟨hcz19_0,hcz19_1,hcz19_2,hfz19_0,hfz19_1,hfz19_2⟩:=cf3 BK222.out)|(refine gl (some 9) 29 Try.func29 #[.agg #[.slice A0_0 l0_0.length c0_0],.agg #[.slice A1_0 l1_0.length c1_0]] (h:= ?_);(with_reducible refine(laws_eqProgram.calls k _ _ l0_0 _ _ l1_0 true _ ?side1 ?side2 ?side3 ?side4 A3.out).mono ?_);(case side1=>exact zq13);(case side2=>exact HC0_0.out);(case side3=>exact zq44);(case side4=>exact HC1_0.out);rintro e w20 ⟨rfl,hb⟩;refine⟨_,rfl,?_⟩;replace BK221:=am (blk_below (g:=gb221) (o:= .cells #[.slice A0_0 l0_0.length c0_0,.int .i64 a0_1,.int .i64 a0_2] 37 (0,0)) zq41 hb);replace BK222:=am (blk_below (g:=gb222) (o:= .cells #[.slice A1_0 l1_0.length c1_0,.int .i64 a1_1,.int .i64 a1_2] 37 (0,0)) zq52 hb);replace HB:=am (below_step zq42 hb);(try clear hb);obtain⟨hcz21_0,hcz21_1,hcz21_2,hfz21_0,hfz21_1,hfz21_2⟩:=cf3 BK221.out;obtain⟨hcz22_0,hcz22_1,hcz22_2,hfz22_0,hfz22_1,hfz22_2⟩:=cf3 BK222.out))
    go_ret
    exact⟨zq3,zq42⟩
  ·rw [if_neg c5] at H
   have c5b0:(a0_1==a1_1)=false:=beq_eq_false_iff_ne.mpr c5
   have c5b1:(a0_1 != a1_1)=true:=bne_iff_ne.mpr c5
   obtain rfl:=Option.some.inj H
   go_enter Try.func20,Try.ntmps20
   go_wp2_with (first|(refine bx 2 #[.slice A0_0 l0_0.length c0_0,.int .i64 a0_1,.int .i64 a0_2] 37 (h:= ?_);intro gb221 hg w23 hbox hb;have BK221:=am (hbox);have GE221:=am ((zq4:w.heap.size≤gb221));replace HB:=am (below_step zq0 hb);clear hb hbox hg)|(refine bx 3 #[.slice A1_0 l1_0.length c1_0,.int .i64 a1_1,.int .i64 a1_2] 37 (h:= ?_);intro gb222 hg w24 hbox hb;have BK222:=am (hbox);have GE222:=am ((by rw [hg];exact(below_size zq43):w.heap.size≤gb222));replace HB:=am (below_step zq43 hb);have NB221_222:=am ((zq49:gb221≠gb222));have NB222_221:=am ((zq50:gb222≠gb221));replace BK221:=am (blk_below (g:=gb221) (o:= .cells #[.slice A0_0 l0_0.length c0_0,.int .i64 a0_1,.int .i64 a0_2] 37 (0,0)) zq41 hb);clear hb hbox hg;have hnb25:=NB221_222.out;have hnc25:=NB222_221.out;obtain⟨hcz26_0,hcz26_1,hcz26_2,hfz26_0,hfz26_1,hfz26_2⟩:=cf3 BK221.out;obtain⟨hcz27_0,hcz27_1,hcz27_2,hfz27_0,hfz27_1,hfz27_2⟩:=cf3 BK222.out)|(refine gl (some 9) 29 Try.func29 #[.agg #[.slice A0_0 l0_0.length c0_0],.agg #[.slice A1_0 l1_0.length c1_0]] (h:= ?_);(with_reducible refine(laws_eqProgram.calls k _ _ l0_0 _ _ l1_0 true _ ?side1 ?side2 ?side3 ?side4 A3.out).mono ?_);(case side1=>exact zq13);(case side2=>exact HC0_0.out);(case side3=>exact zq44);(case side4=>exact HC1_0.out);rintro e w28 ⟨rfl,hb⟩;refine⟨_,rfl,?_⟩;replace BK221:=am (blk_below (g:=gb221) (o:= .cells #[.slice A0_0 l0_0.length c0_0,.int .i64 a0_1,.int .i64 a0_2] 37 (0,0)) zq41 hb);replace BK222:=am (blk_below (g:=gb222) (o:= .cells #[.slice A1_0 l1_0.length c1_0,.int .i64 a1_1,.int .i64 a1_2] 37 (0,0)) zq52 hb);replace HB:=am (below_step zq42 hb);(try clear hb);obtain⟨hcz29_0,hcz29_1,hcz29_2,hfz29_0,hfz29_1,hfz29_2⟩:=cf3 BK221.out;obtain⟨hcz30_0,hcz30_1,hcz30_2,hfz30_0,hfz30_1,hfz30_2⟩:=cf3 BK222.out))
   go_ret
   exact⟨zq3,zq42⟩
 ·replace c4:=Bool.eq_false_iff.mpr c4
  subst c4
  rw [if_neg (show ¬(false=true) by decide)] at H
  obtain rfl:=Option.some.inj H
  go_enter Try.func20,Try.ntmps20
  go_wp2_with (first|(refine bx 2 #[.slice A0_0 l0_0.length c0_0,.int .i64 a0_1,.int .i64 a0_2] 37 (h:= ?_);intro gb221 hg w31 hbox hb;have BK221:=am (hbox);have GE221:=am ((zq4:w.heap.size≤gb221));replace HB:=am (below_step zq0 hb);clear hb hbox hg)|(refine bx 3 #[.slice A1_0 l1_0.length c1_0,.int .i64 a1_1,.int .i64 a1_2] 37 (h:= ?_);intro gb222 hg w32 hbox hb;have BK222:=am (hbox);have GE222:=am ((by rw [hg];exact(below_size zq43):w.heap.size≤gb222));replace HB:=am (below_step zq43 hb);have NB221_222:=am ((zq49:gb221≠gb222));have NB222_221:=am ((zq50:gb222≠gb221));replace BK221:=am (blk_below (g:=gb221) (o:= .cells #[.slice A0_0 l0_0.length c0_0,.int .i64 a0_1,.int .i64 a0_2] 37 (0,0)) zq41 hb);clear hb hbox hg;have hnb33:=NB221_222.out;have hnc33:=NB222_221.out;obtain⟨hcz34_0,hcz34_1,hcz34_2,hfz34_0,hfz34_1,hfz34_2⟩:=cf3 BK221.out;obtain⟨hcz35_0,hcz35_1,hcz35_2,hfz35_0,hfz35_1,hfz35_2⟩:=cf3 BK222.out)|(refine gl (some 9) 29 Try.func29 #[.agg #[.slice A0_0 l0_0.length c0_0],.agg #[.slice A1_0 l1_0.length c1_0]] (h:= ?_);(with_reducible refine(laws_eqProgram.calls k _ _ l0_0 _ _ l1_0 false _ ?side1 ?side2 ?side3 ?side4 A3.out).mono ?_);(case side1=>exact zq13);(case side2=>exact HC0_0.out);(case side3=>exact zq44);(case side4=>exact HC1_0.out);rintro e w36 ⟨rfl,hb⟩;refine⟨_,rfl,?_⟩;replace BK221:=am (blk_below (g:=gb221) (o:= .cells #[.slice A0_0 l0_0.length c0_0,.int .i64 a0_1,.int .i64 a0_2] 37 (0,0)) zq41 hb);replace BK222:=am (blk_below (g:=gb222) (o:= .cells #[.slice A1_0 l1_0.length c1_0,.int .i64 a1_1,.int .i64 a1_2] 37 (0,0)) zq52 hb);replace HB:=am (below_step zq42 hb);(try clear hb)))
  go_ret
  exact⟨zq3,zq42⟩
def laws_markEventS.l0:Nat→List (S63)→Int→Int→Option (Int×(List (S63)))
 |0,_,_,_=>none
 |k+1,x0,x1,x5=>if x5<(x0.length:Int) then(if 0≤x5 then((some (x0.set (x5:Int).toNat (⟨x1,(rd_T63 x0 x5).f1,(rd_T63 x0 x5).f2⟩:S63):List (S63))).bind fun y224=>((some (y224.set (x5:Int).toNat (⟨(rd_T63 y224 x5).f0,wrap64 (x1+1),(rd_T63 y224 x5).f2⟩:S63):List (S63))).bind fun y225=>(laws_markEventS.l0 k (y225.set (x5:Int).toNat (⟨(rd_T63 y225 x5).f0,(rd_T63 y225 x5).f1,wrap64 ((wrap64 (x1+1))+1)⟩:S63)) (wrap64 ((wrap64 ((wrap64 (x1+1))+1))+1)) (wrap64 (x5+1))))) else(none)) else(some (x1,x0))
def laws_markEventS.f(k:Nat)(l0:List (S63))(a1:Int):Option (Int×(List (S63))):=laws_markEventS.l0 k l0 a1 0
theorem laws_markEventS.calls(k:Nat)(P0_:Nat→Prop)(u9000_:Value)(l0:List (S63))(a1:Int)(r1:Int)(r2:List (S63))(w0 w:World)(hB:Below w0.heap.size w0 w)(ho0:Kd.R k63 63 w w0.heap.size P0_ u9000_ l0)(h:laws_markEventS.f k l0 a1=some (r1,r2)) :
  Calls Try.prog 139 #[u9000_,.int .i64 a1] w fun e w'=>e= .returned (.int .i64 r1)∧Kd.R k63 63 w' w0.heap.size (fun k_=>(P0_ k_∨w.heap.size≤k_)) u9000_ r2∧Below w0.heap.size w0 w'∧Kept w w' (fun k_=>P0_ k_):=by
 have HO0:=am (show Kd.R k63 63 w w0.heap.size (fun k_=>(P0_ k_∨w.heap.size≤k_)) u9000_ l0 from Kd.R_mono ho0 (fun k_ hk=>(.inl hk)))
 have HK:=am (Kept.refl w (fun k_=>P0_ k_))
 have HW0:=am hB.size
 have HB:=am hB
 clear hB
 have H:(laws_markEventS.l0 k l0 a1 0)=some (r1,r2):=h
 clear h
 have H':=am H
 clear H
 go_enter Try.func139,Try.ntmps139
 go_wp2
 go_loopg [1,5] k (fun kq v1 v5 w'=> ∃ (x0_1:List (S63)) (x1_1:Int) (x5_1:Int),v1= .int .i64 x1_1∧v5= .int .i64 x5_1∧Aside0 (laws_markEventS.l0 kq x0_1 x1_1 x5_1=some (r1,r2))∧Aside0 (kq≤k)∧Aside0 (Kd.R k63 63 w' w0.heap.size (fun k_=>(P0_ k_∨w.heap.size≤k_)) u9000_ x0_1)∧Aside0 (Kept w w' (fun k_=>P0_ k_))∧Aside0 (Below w0.heap.size w0 w'))
 case atStart=>exact⟨(l0),(a1),(0),zq8,zq8,H',⟨Nat.le_refl _⟩,⟨zq149⟩,⟨zq46⟩,⟨zq0⟩⟩
 case round =>
  clear H'
  try clear c1
  try clear p2
  obtain⟨x0_1,x1_1,x5_1,rfl,rfl,HA,HK1,HO_0,HK,HB⟩:=hrel
  cases gk with
  |zero=>exact absurd HA.out (by simp [laws_markEventS.l0])
  |succ k1 =>
   have H:=HA.out
   clear HA
   simp only [laws_markEventS.l0] at H
   by_cases c3:x5_1<(x0_1.length:Int)
   ·rw [if_pos c3] at H
    have c3b0:decide (x5_1<(x0_1.length:Int))=true:=decide_eq_true c3
    clear c3
    by_cases c4:0≤x5_1
    ·rw [if_pos c4] at H
     have c4b0:decide (0≤x5_1)=true:=decide_eq_true c4
     clear c4
     obtain⟨y224,hy224⟩: ∃ y_:List (S63),y_=(x0_1.set (x5_1:Int).toNat (⟨x1_1,(rd_T63 x0_1 x5_1).f1,(rd_T63 x0_1 x5_1).f2⟩:S63)):=⟨_,rfl⟩
     replace H:((some (y224.set (x5_1:Int).toNat (⟨(rd_T63 y224 x5_1).f0,wrap64 (x1_1+1),(rd_T63 y224 x5_1).f2⟩:S63):List (S63))).bind fun y225=>(laws_markEventS.l0 k1 (y225.set (x5_1:Int).toNat (⟨(rd_T63 y225 x5_1).f0,(rd_T63 y225 x5_1).f1,wrap64 ((wrap64 (x1_1+1))+1)⟩:S63)) (wrap64 ((wrap64 ((wrap64 (x1_1+1))+1))+1)) (wrap64 (x5_1+1))))=some (r1,r2):=by first|(rw [hy224];with_reducible exact H)|(have H2_:=(Option.bind_some _ _).symm.trans H;rw [hy224];with_reducible exact H2_)|(have H2_:=(Option.bind_some _ _).symm.trans H;with_reducible exact H2_)|with_reducible exact H|(rw [hy224];exact H)|exact H
     have Ny224:=am hy224
     clear hy224
     obtain⟨y225,hy225⟩: ∃ y_:List (S63),y_=(y224.set (x5_1:Int).toNat (⟨(rd_T63 y224 x5_1).f0,wrap64 (x1_1+1),(rd_T63 y224 x5_1).f2⟩:S63)):=⟨_,rfl⟩
     replace H:(laws_markEventS.l0 k1 (y225.set (x5_1:Int).toNat (⟨(rd_T63 y225 x5_1).f0,(rd_T63 y225 x5_1).f1,wrap64 ((wrap64 (x1_1+1))+1)⟩:S63)) (wrap64 ((wrap64 ((wrap64 (x1_1+1))+1))+1)) (wrap64 (x5_1+1)))=some (r1,r2):=by first|(rw [hy225];with_reducible exact H)|(have H2_:=(Option.bind_some _ _).symm.trans H;rw [hy225];with_reducible exact H2_)|(have H2_:=(Option.bind_some _ _).symm.trans H;with_reducible exact H2_)|with_reducible exact H|(rw [hy225];exact H)|exact H
     have Ny225:=am hy225
     clear hy225
     obtain⟨y226,hy226⟩: ∃ y_:List (S63),y_=(y225.set (x5_1:Int).toNat (⟨(rd_T63 y225 x5_1).f0,(rd_T63 y225 x5_1).f1,wrap64 ((wrap64 (x1_1+1))+1)⟩:S63)):=⟨_,rfl⟩
     replace H:(laws_markEventS.l0 k1 y226 (wrap64 ((wrap64 ((wrap64 (x1_1+1))+1))+1)) (wrap64 (x5_1+1)))=some (r1,r2):=by first|(rw [hy226];with_reducible exact H)|(have H2_:=(Option.bind_some _ _).symm.trans H;rw [hy226];with_reducible exact H2_)|(have H2_:=(Option.bind_some _ _).symm.trans H;with_reducible exact H2_)|with_reducible exact H|(rw [hy226];exact H)|exact H
     have Ny226:=am hy226
     clear hy226
     have H':=am H
     clear H
     obtain⟨Ao8,co8,eo8⟩:=Kd.R_slice HO_0.out
     subst eo8
     have p5:0≤(x5_1:Int):=of_decide_eq_true zq26
     have q5:(x5_1:Int)<((x0_1.length:Int):Int):=of_decide_eq_true zq26
     obtain⟨go5,co5,eo5,gb5,gl5,cl5,HG5⟩:=Kd.R_form HO_0.out zq90
     (first|cases eo5|(injection eo5 with ea_ en_ ec_;(first|subst ea_|(injection ea_ with ea_;subst ea_));subst ec_;clear en_))
     have GB5:=am gb5
     have GG5:=am HG5
     clear gb5 gl5 HG5
     have HMgo5:=am (show(P0_ go5∨w.heap.size≤go5) from(HO_0.out.1 _ rfl))
     obtain⟨ce5,hcl5,hM5,hcc5,hfr5⟩:=Kd.R_elem HO_0.out z63 (x5_1:Int) p5 q5
     obtain rfl:=k63_openM hM5
     have hx5_0:wr.cell? ⟨go5,(x5_1:Int).toNat*3,none⟩=some (.int .i64 ((rd_T63 x0_1 x5_1).f0)):=hcc5 0 _ rfl
     have hx5_1:wr.cell? ⟨go5,(x5_1:Int).toNat*3+1,none⟩=some (.int .i64 ((rd_T63 x0_1 x5_1).f1)):=hcc5 1 _ rfl
     have hx5_2:wr.cell? ⟨go5,(x5_1:Int).toNat*3+2,none⟩=some (.int .i64 ((rd_T63 x0_1 x5_1).f2)):=hcc5 2 _ rfl
     have hf5_0:wr.frozen? ⟨go5,(x5_1:Int).toNat*3,none⟩=false:=hfr5 0
     have hf5_1:wr.frozen? ⟨go5,(x5_1:Int).toNat*3+1,none⟩=false:=hfr5 1
     have hf5_2:wr.frozen? ⟨go5,(x5_1:Int).toNat*3+2,none⟩=false:=hfr5 2
     clear hcl5 hcc5 hfr5;(try clear hM5)
     replace p5:=eq_true p5
     replace q5:=eq_true q5
     have HX9:=am (show Kd.R k63 63 wr w0.heap.size (fun k_=>(P0_ k_∨w.heap.size≤k_)) (.slice (some ⟨go5,0,none⟩) x0_1.length co8) x0_1 from zq51)
     obtain⟨ce9,hcl9,hM9,hcc9,hfr9⟩:=Kd.R_elem HX9.out z63 (x5_1:Int) (of_decide_eq_true zq26) (by have h_:(x5_1:Int)<((x0_1.length:Int):Int):=of_decide_eq_true zq26;first|exact h_|(have e_:=(Kd.R_reads' HO_0.out).1;omega)|simpa using h_)
     obtain rfl:=k63_openM hM9
     have HP9:=Kd.R_seg HX9.out (x5_1:Int) (of_decide_eq_true zq26) (by have h_:(x5_1:Int)<((x0_1.length:Int):Int):=of_decide_eq_true zq26;first|exact h_|(have e_:=(Kd.R_reads' HO_0.out).1;omega)|simpa using h_) (seg:= [.int .i64 x1_1]) (j:=0) hcl9 hcc9 (show 1≤3 from by decide) (x':=(⟨x1_1,(rd_T63 x0_1 x5_1).f1,(rd_T63 x0_1 x5_1).f2⟩:S63)) (k63_mkM _ _ _ (⟨x1_1,(rd_T63 x0_1 x5_1).f1,(rd_T63 x0_1 x5_1).f2⟩:S63)) (fun _ hk=>hk)
     have hx9_0:=hcc9 0 _ rfl
     (try simp only [show (k63).sz=3 from rfl,Nat.mul_one,Nat.add_zero] at hx9_0)
     have hf9_0:=hfr9 0
     (try simp only [show (k63).sz=3 from rfl,Nat.mul_one,Nat.add_zero] at hf9_0)
     clear hcl9 hcc9 hfr9;(try clear hM9)
     go_wp2_with (first|((with_reducible refine gate_store (t:=3) (p:=16) rfl ?_);refine store_event (t:=3) (p:=16) (v:= ?vo_w10) (w1:=(wr.setCell ⟨go5,(x5_1:Int).toNat*3,none⟩ (.int .i64 x1_1))) ?hg ?ho ?hn ?hr ?_;(case ho=>rfl);(case hg=>rfl);(case hn=>rfl);(case hr=>first|(go_simp;done)|(go_simp;rfl));intro w10 hw;have hg:wr.grownBy w10 (some go5):=(by rw [hw];exact HP9.2);have hp_:Kd.R k63 63 w10 w0.heap.size (fun k_=>(P0_ k_∨w.heap.size≤k_)) (.slice (some ⟨go5,0,none⟩) x0_1.length co8) y224:=(by rw [hw,Ny224.out];exact HP9.1);clear HP9;replace HB:=am ((zq107:Below w0.heap.size w0 w10));replace HK:=am (Kept.of_grown (S:=(fun k_=>P0_ k_)) hg zq46 (fun k_ e_=>(HO_0.out.1 k_ e_)));replace HO_0:=am (hp_);clear hg hw hp_;have p6:0≤(x5_1:Int):=of_decide_eq_true zq26;have q6:(x5_1:Int)<((x0_1.length:Int):Int):=of_decide_eq_true zq26;obtain⟨ce6,hcl6,hM6,hcc6,hfr6⟩:=Kd.R_elem HO_0.out z63 (x5_1:Int) p6 q6;obtain rfl:=k63_openM hM6;have hx6_0:w10.cell? ⟨go5,(x5_1:Int).toNat*3,none⟩=some (.int .i64 ((rd_T63 y224 x5_1).f0)):=hcc6 0 _ rfl;have hx6_1:w10.cell? ⟨go5,(x5_1:Int).toNat*3+1,none⟩=some (.int .i64 ((rd_T63 y224 x5_1).f1)):=hcc6 1 _ rfl;have hx6_2:w10.cell? ⟨go5,(x5_1:Int).toNat*3+2,none⟩=some (.int .i64 ((rd_T63 y224 x5_1).f2)):=hcc6 2 _ rfl;have hf6_0:w10.frozen? ⟨go5,(x5_1:Int).toNat*3,none⟩=false:=hfr6 0;have hf6_1:w10.frozen? ⟨go5,(x5_1:Int).toNat*3+1,none⟩=false:=hfr6 1;have hf6_2:w10.frozen? ⟨go5,(x5_1:Int).toNat*3+2,none⟩=false:=hfr6 2;clear hcl6 hcc6 hfr6;(try clear hM6);replace p6:=eq_true p6;replace q6:=eq_true q6;have HX11:=am (show Kd.R k63 63 w10 w0.heap.size (fun k_=>(P0_ k_∨w.heap.size≤k_)) (.slice (some ⟨go5,0,none⟩) x0_1.length co8) y224 from zq51);obtain⟨ce11,hcl11,hM11,hcc11,hfr11⟩:=Kd.R_elem HX11.out z63 (x5_1:Int) (of_decide_eq_true zq26) (by have h_:(x5_1:Int)<((x0_1.length:Int):Int):=of_decide_eq_true zq26;first|exact h_|(have e_:=(Kd.R_reads' HO_0.out).1;omega)|simpa using h_);obtain rfl:=k63_openM hM11;have HP11:=Kd.R_seg HX11.out (x5_1:Int) (of_decide_eq_true zq26) (by have h_:(x5_1:Int)<((x0_1.length:Int):Int):=of_decide_eq_true zq26;first|exact h_|(have e_:=(Kd.R_reads' HO_0.out).1;omega)|simpa using h_) (seg:= [.int .i64 (wrap64 (x1_1+1))]) (j:=1) hcl11 hcc11 (show 2≤3 from by decide) (x':=(⟨(rd_T63 y224 x5_1).f0,wrap64 (x1_1+1),(rd_T63 y224 x5_1).f2⟩:S63)) (k63_mkM _ _ _ (⟨(rd_T63 y224 x5_1).f0,wrap64 (x1_1+1),(rd_T63 y224 x5_1).f2⟩:S63)) (fun _ hk=>hk);have hx11_1:=hcc11 1 _ rfl;(try simp only [show (k63).sz=3 from rfl,Nat.mul_one,Nat.add_zero] at hx11_1);have hf11_1:=hfr11 1;(try simp only [show (k63).sz=3 from rfl,Nat.mul_one,Nat.add_zero] at hf11_1);clear hcl11 hcc11 hfr11;(try clear hM11))|((with_reducible refine gate_store (t:=3) (p:=23) rfl ?_);refine store_event (t:=3) (p:=23) (v:= ?vo_w12) (w1:=(w10.setCell ⟨go5,(x5_1:Int).toNat*3+1,none⟩ (.int .i64 (wrap64 (x1_1+1))))) ?hg ?ho ?hn ?hr ?_;(case ho=>rfl);(case hg=>rfl);(case hn=>rfl);(case hr=>first|(go_simp;done)|(go_simp;rfl));intro w12 hw;have hg:w10.grownBy w12 (some go5):=(by rw [hw];exact HP11.2);have hp_:Kd.R k63 63 w12 w0.heap.size (fun k_=>(P0_ k_∨w.heap.size≤k_)) (.slice (some ⟨go5,0,none⟩) x0_1.length co8) y225:=(by rw [hw,Ny225.out];exact HP11.1);clear HP11;replace HB:=am ((zq107:Below w0.heap.size w0 w12));replace HK:=am (Kept.of_grown (S:=(fun k_=>P0_ k_)) hg zq46 (fun k_ e_=>(HO_0.out.1 k_ e_)));replace HO_0:=am (hp_);clear hg hw hp_;have p7:0≤(x5_1:Int):=of_decide_eq_true zq26;have q7:(x5_1:Int)<((x0_1.length:Int):Int):=of_decide_eq_true zq26;obtain⟨ce7,hcl7,hM7,hcc7,hfr7⟩:=Kd.R_elem HO_0.out z63 (x5_1:Int) p7 q7;obtain rfl:=k63_openM hM7;have hx7_0:w12.cell? ⟨go5,(x5_1:Int).toNat*3,none⟩=some (.int .i64 ((rd_T63 y225 x5_1).f0)):=hcc7 0 _ rfl;have hx7_1:w12.cell? ⟨go5,(x5_1:Int).toNat*3+1,none⟩=some (.int .i64 ((rd_T63 y225 x5_1).f1)):=hcc7 1 _ rfl;have hx7_2:w12.cell? ⟨go5,(x5_1:Int).toNat*3+2,none⟩=some (.int .i64 ((rd_T63 y225 x5_1).f2)):=hcc7 2 _ rfl;have hf7_0:w12.frozen? ⟨go5,(x5_1:Int).toNat*3,none⟩=false:=hfr7 0;have hf7_1:w12.frozen? ⟨go5,(x5_1:Int).toNat*3+1,none⟩=false:=hfr7 1;have hf7_2:w12.frozen? ⟨go5,(x5_1:Int).toNat*3+2,none⟩=false:=hfr7 2;clear hcl7 hcc7 hfr7;(try clear hM7);replace p7:=eq_true p7;replace q7:=eq_true q7;have HX13:=am (show Kd.R k63 63 w12 w0.heap.size (fun k_=>(P0_ k_∨w.heap.size≤k_)) (.slice (some ⟨go5,0,none⟩) x0_1.length co8) y225 from zq51);obtain⟨ce13,hcl13,hM13,hcc13,hfr13⟩:=Kd.R_elem HX13.out z63 (x5_1:Int) (of_decide_eq_true zq26) (by have h_:(x5_1:Int)<((x0_1.length:Int):Int):=of_decide_eq_true zq26;first|exact h_|(have e_:=(Kd.R_reads' HO_0.out).1;omega)|simpa using h_);obtain rfl:=k63_openM hM13;have HP13:=Kd.R_seg HX13.out (x5_1:Int) (of_decide_eq_true zq26) (by have h_:(x5_1:Int)<((x0_1.length:Int):Int):=of_decide_eq_true zq26;first|exact h_|(have e_:=(Kd.R_reads' HO_0.out).1;omega)|simpa using h_) (seg:= [.int .i64 (wrap64 ((wrap64 (x1_1+1))+1))]) (j:=2) hcl13 hcc13 (show 3≤3 from by decide) (x':=(⟨(rd_T63 y225 x5_1).f0,(rd_T63 y225 x5_1).f1,wrap64 ((wrap64 (x1_1+1))+1)⟩:S63)) (k63_mkM _ _ _ (⟨(rd_T63 y225 x5_1).f0,(rd_T63 y225 x5_1).f1,wrap64 ((wrap64 (x1_1+1))+1)⟩:S63)) (fun _ hk=>hk);have hx13_2:=hcc13 2 _ rfl;(try simp only [show (k63).sz=3 from rfl,Nat.mul_one,Nat.add_zero] at hx13_2);have hf13_2:=hfr13 2;(try simp only [show (k63).sz=3 from rfl,Nat.mul_one,Nat.add_zero] at hf13_2);clear hcl13 hcc13 hfr13;(try clear hM13))|((with_reducible refine gate_store (t:=3) (p:=30) rfl ?_);refine store_event (t:=3) (p:=30) (v:= ?vo_w14) (w1:=(w12.setCell ⟨go5,(x5_1:Int).toNat*3+2,none⟩ (.int .i64 (wrap64 ((wrap64 (x1_1+1))+1))))) ?hg ?ho ?hn ?hr ?_;(case ho=>rfl);(case hg=>rfl);(case hn=>rfl);(case hr=>first|(go_simp;done)|(go_simp;rfl));intro w14 hw;have hg:w12.grownBy w14 (some go5):=(by rw [hw];exact HP13.2);have hp_:Kd.R k63 63 w14 w0.heap.size (fun k_=>(P0_ k_∨w.heap.size≤k_)) (.slice (some ⟨go5,0,none⟩) x0_1.length co8) y226:=(by rw [hw,Ny226.out];exact HP13.1);clear HP13;replace HB:=am ((zq107:Below w0.heap.size w0 w14));replace HK:=am (Kept.of_grown (S:=(fun k_=>P0_ k_)) hg zq46 (fun k_ e_=>(HO_0.out.1 k_ e_)));replace HO_0:=am (hp_);clear hg hw hp_))
     go_roundg k1
     case measure=>have:=HK1.out;omega
     case rel=>exact⟨(y226),(wrap64 ((wrap64 ((wrap64 (x1_1+1))+1))+1)),(wrap64 (x5_1+1)),zq8,zq8,H',⟨zq110⟩,⟨zq51⟩,⟨zq46⟩,⟨zq0⟩⟩
    ·rw [if_neg c4] at H
     exact absurd H (by simp)
   ·rw [if_neg c3] at H
    have c3b0:decide (x5_1<(x0_1.length:Int))=false:=decide_eq_false c3
    clear c3
    simp only [Option.some.injEq,Prod.mk.injEq] at H
    obtain⟨rfl,rfl⟩:=H
    obtain⟨Ao15,co15,eo15⟩:=Kd.R_slice HO_0.out
    subst eo15
    go_wp2
    go_ret
    exact⟨zq3,zq51,zq0,zq46⟩
def laws_markOutcome.f(k:Nat)(a0_0:Int)(a0_1:Int)(l0_2:List (S63))(a0_3:Int)(a1:Int):Option (Int×(List (S63))):=(laws_markEventS.f k l0_2 a1).bind fun bt228=>(some (bt228.1,bt228.2))
theorem laws_markOutcome.calls(k:Nat)(a0_0:Int)(a0_1:Int)(P0_2_:Nat→Prop)(u9000_:Value)(l0_2:List (S63))(a0_3:Int)(a1:Int)(r1:Int)(r2:List (S63))(w0 w:World)(hB:Below w0.heap.size w0 w)(ho0_2:Kd.R k63 63 w w0.heap.size P0_2_ u9000_ l0_2)(h:laws_markOutcome.f k a0_0 a0_1 l0_2 a0_3 a1=some (r1,r2)) :
  Calls Try.prog 22 #[.agg #[.int .i64 a0_0,.int .i64 a0_1,u9000_,.int .i64 a0_3],.int .i64 a1] w fun e w'=>e= .returned (.int .i64 r1)∧Kd.R k63 63 w' w0.heap.size (fun k_=>(P0_2_ k_∨w.heap.size≤k_)) u9000_ r2∧Below w0.heap.size w0 w'∧Kept w w' (fun k_=>P0_2_ k_):=by
 have hu30:=Try.underlying30
 have HO0_2:=am (show Kd.R k63 63 w w0.heap.size (fun k_=>(P0_2_ k_∨w.heap.size≤k_)) u9000_ l0_2 from Kd.R_mono ho0_2 (fun k_ hk=>(.inl hk)))
 have HK:=am (Kept.refl w (fun k_=>P0_2_ k_))
 have HW0:=am hB.size
 have HB:=am hB
 clear hB
 have H:((laws_markEventS.f k l0_2 a1).bind fun bt228=>(some (bt228.1,bt228.2)))=some (r1,r2):=h
 clear h
 obtain⟨⟨t228,t229⟩,A3,H⟩:=bms H
 try dsimp only at H
 simp only [Option.some.injEq,Prod.mk.injEq] at H
 obtain⟨rfl,rfl⟩:=H
 obtain⟨Ao4,co4,eo4⟩:=Kd.R_slice HO0_2.out
 subst eo4
 go_enter Try.func22,Try.ntmps22
 go_wp2_with (first|(refine bx 2 #[.int .i64 a0_0,.int .i64 a0_1,.slice Ao4 l0_2.length co4,.int .i64 a0_3] 30 (h:= ?_);intro gb227 hg w5 hbox hb;replace HO0_2:=am (Kd.R_below zq148 hb);have BK227:=am (hbox);have GW227:=am ((by rw [hg];exact(by first|exact HK.out.1|exact(show Kept w _ (fun k_=>P0_2_ k_) from by repeat(first|(with_reducible first|exact HK.out|apply Kept.alloc|apply Kept.drewN|apply Kept.drew)|exact HK.out)).1):w.heap.size≤gb227));replace HK:=am (Kept.below (S:=(fun k_=>P0_2_ k_)) zq46 hb);have GE227:=am ((zq4:w0.heap.size≤gb227));replace HB:=am (below_step zq0 hb);clear hb hbox hg;obtain⟨hcz6_0,hcz6_1,hcz6_2,hcz6_3,hfz6_0,hfz6_1,hfz6_2,hfz6_3⟩:=cf4 BK227.out)|(refine gl (some 8) 139 Try.func139 #[.slice Ao4 l0_2.length co4,.int .i64 a1] (h:= ?_);(with_reducible refine(laws_markEventS.calls k (fun k_=>some k_=(.slice Ao4 l0_2.length co4:Value).ownBlock) (.slice Ao4 l0_2.length co4) l0_2 a1 t228 t229 w0 _ ?side1 ?side2 A3.out).mono ?_);(case side1=>exact zq114);(case side2=>exact Kd.R_tight rfl HO0_2.out);rintro e w7 ⟨rfl,hy0,hb,hkp⟩;refine⟨_,rfl,?_⟩;replace BK227:=am (blk_kept (by(with_reducible repeat(first|refine blk_drewN ?_ _|refine blk_drew ?_|refine blk_alloc ?_ _));exact BK227.out) hkp (fun hs_=>(fun e_=>(Kd.R_ne HO0_2.out BK227.out zq83) e_) hs_));replace HK:=am (Kept.then_ (S:=(fun k_=>P0_2_ k_)) zq111 hkp (fun k_ hs_=>(fun e_=>(HO0_2.out.1 k_ e_.symm)) hs_));replace HO0_2:=am (Kd.R_reok rfl hy0 (fun k_ e_=>HO0_2.out.1 k_ e_));replace HB:=am (hb);(try clear hb);(try clear hkp);(try clear hy0)))
 go_ret
 exact⟨zq3,zq148,zq114,zq111⟩
def laws_heldEventS.l0:Nat→List (S63)→Int→Int→Option (Int)
 |0,_,_,_=>none
 |k+1,x0,x1,x5=>if x5<(x0.length:Int) then(if 0≤x5 then(if((rd_T63 x0 x5).f0)=x1 then(if((rd_T63 x0 x5).f1)=(wrap64 (x1+1)) then(if((rd_T63 x0 x5).f2)=(wrap64 ((wrap64 (x1+1))+1)) then(laws_heldEventS.l0 k x0 (wrap64 ((wrap64 ((wrap64 (x1+1))+1))+1)) (wrap64 (x5+1))) else(some (-1))) else(some (-1))) else(some (-1))) else(none)) else(some x1)
def laws_heldEventS.f(k:Nat)(l0:List (S63))(a1:Int):Option (Int):=laws_heldEventS.l0 k l0 a1 0
theorem laws_heldEventS.calls(k:Nat)(A0:Option Addr)(c0:Nat)(l0:List (S63))(a1:Int)(r:Int)(w:World)(hr0:Kd.C k63 w A0 l0.length l0)(hc0:l0.length≤c0)(h:laws_heldEventS.f k l0 a1=some r) :
  Calls Try.prog 140 #[.slice A0 l0.length c0,.int .i64 a1] w fun e w'=>e= .returned (.int .i64 r)∧Drawn0 w w':=by
 have HR0:=am hr0
 have HC0:=am hc0
 clear hr0 hc0
 have H:(laws_heldEventS.l0 k l0 a1 0)=some r:=h
 clear h
 have H':=am H
 clear H
 go_enter Try.func140,Try.ntmps140
 go_wp2
 go_loopg [1,5] k (fun kq v1 v5 w'=> ∃ (x1_1:Int) (x5_1:Int),v1= .int .i64 x1_1∧v5= .int .i64 x5_1∧Aside0 (laws_heldEventS.l0 kq l0 x1_1 x5_1=some r)∧Aside0 (kq≤k)∧Drawn0 w w')
 case atStart=>exact⟨(a1),(0),zq8,zq8,H',⟨Nat.le_refl _⟩,zq12⟩
 case round =>
  clear H'
  try clear c1
  try clear p2
  obtain⟨x1_1,x5_1,rfl,rfl,HA,HK1,⟨m1,rfl⟩⟩:=hrel
  cases gk with
  |zero=>exact absurd HA.out (by simp [laws_heldEventS.l0])
  |succ k1 =>
   have H:=HA.out
   clear HA
   simp only [laws_heldEventS.l0] at H
   by_cases c3:x5_1<(l0.length:Int)
   ·rw [if_pos c3] at H
    have c3b0:decide (x5_1<(l0.length:Int))=true:=decide_eq_true c3
    clear c3
    by_cases c4:0≤x5_1
    ·rw [if_pos c4] at H
     have c4b0:decide (0≤x5_1)=true:=decide_eq_true c4
     clear c4
     by_cases c5:((rd_T63 l0 x5_1).f0)=x1_1
     ·rw [if_pos c5] at H
      have c5b0:(((rd_T63 l0 x5_1).f0)==x1_1)=true:=beq_iff_eq.mpr c5
      have c5b1:(((rd_T63 l0 x5_1).f0) != x1_1)=false:=bne_eq_false_iff_eq.mpr c5
      clear c5
      by_cases c6:((rd_T63 l0 x5_1).f1)=(wrap64 (x1_1+1))
      ·rw [if_pos c6] at H
       have c6b0:(((rd_T63 l0 x5_1).f1)==(wrap64 (x1_1+1)))=true:=beq_iff_eq.mpr c6
       have c6b1:(((rd_T63 l0 x5_1).f1) !=(wrap64 (x1_1+1)))=false:=bne_eq_false_iff_eq.mpr c6
       clear c6
       by_cases c7:((rd_T63 l0 x5_1).f2)=(wrap64 ((wrap64 (x1_1+1))+1))
       ·rw [if_pos c7] at H
        have c7b0:(((rd_T63 l0 x5_1).f2)==(wrap64 ((wrap64 (x1_1+1))+1)))=true:=beq_iff_eq.mpr c7
        have c7b1:(((rd_T63 l0 x5_1).f2) !=(wrap64 ((wrap64 (x1_1+1))+1)))=false:=bne_eq_false_iff_eq.mpr c7
        clear c7
        have H':=am H
        clear H
        have p230:0≤(x5_1:Int):=of_decide_eq_true zq26
        have q230:x5_1<(l0.length:Int):=of_decide_eq_true zq26
        obtain⟨ad230,e230,hx230_0,hx230_1,hx230_2⟩:=at_T63 HR0.out x5_1 p230 q230
        cases e230
        replace p230:=eq_true p230
        replace q230:=eq_true q230
        have p231:0≤(x5_1:Int):=of_decide_eq_true zq26
        have q231:x5_1<(l0.length:Int):=of_decide_eq_true zq26
        obtain⟨ad231,e231,hx231_0,hx231_1,hx231_2⟩:=at_T63 HR0.out x5_1 p231 q231
        obtain rfl:ad230=ad231:=(by injection e231)
        replace p231:=eq_true p231
        replace q231:=eq_true q231
        have p232:0≤(x5_1:Int):=of_decide_eq_true zq26
        have q232:x5_1<(l0.length:Int):=of_decide_eq_true zq26
        obtain⟨ad232,e232,hx232_0,hx232_1,hx232_2⟩:=at_T63 HR0.out x5_1 p232 q232
        obtain rfl:ad230=ad232:=(by injection e232)
        replace p232:=eq_true p232
        replace q232:=eq_true q232
        go_wp2
        go_roundg k1
        case measure=>have:=HK1.out;omega
        case rel=>exact⟨(wrap64 ((wrap64 ((wrap64 (x1_1+1))+1))+1)),(wrap64 (x5_1+1)),zq8,zq8,H',⟨zq110⟩,zq12⟩
       ·rw [if_neg c7] at H
        have c7b0:(((rd_T63 l0 x5_1).f2)==(wrap64 ((wrap64 (x1_1+1))+1)))=false:=beq_eq_false_iff_ne.mpr c7
        have c7b1:(((rd_T63 l0 x5_1).f2) !=(wrap64 ((wrap64 (x1_1+1))+1)))=true:=bne_iff_ne.mpr c7
        obtain rfl:=Option.some.inj H
        have p230:0≤(x5_1:Int):=of_decide_eq_true zq26
        have q230:x5_1<(l0.length:Int):=of_decide_eq_true zq26
        obtain⟨ad230,e230,hx230_0,hx230_1,hx230_2⟩:=at_T63 HR0.out x5_1 p230 q230
        cases e230
        replace p230:=eq_true p230
        replace q230:=eq_true q230
        have p231:0≤(x5_1:Int):=of_decide_eq_true zq26
        have q231:x5_1<(l0.length:Int):=of_decide_eq_true zq26
        obtain⟨ad231,e231,hx231_0,hx231_1,hx231_2⟩:=at_T63 HR0.out x5_1 p231 q231
        obtain rfl:ad230=ad231:=(by injection e231)
        replace p231:=eq_true p231
        replace q231:=eq_true q231
        have p232:0≤(x5_1:Int):=of_decide_eq_true zq26
        have q232:x5_1<(l0.length:Int):=of_decide_eq_true zq26
        obtain⟨ad232,e232,hx232_0,hx232_1,hx232_2⟩:=at_T63 HR0.out x5_1 p232 q232
        obtain rfl:ad230=ad232:=(by injection e232)
        replace p232:=eq_true p232
        replace q232:=eq_true q232
        go_wp2
        go_ret
        exact⟨zq8,zq12⟩
      ·rw [if_neg c6] at H
       have c6b0:(((rd_T63 l0 x5_1).f1)==(wrap64 (x1_1+1)))=false:=beq_eq_false_iff_ne.mpr c6
       have c6b1:(((rd_T63 l0 x5_1).f1) !=(wrap64 (x1_1+1)))=true:=bne_iff_ne.mpr c6
       obtain rfl:=Option.some.inj H
       have p230:0≤(x5_1:Int):=of_decide_eq_true zq26
       have q230:x5_1<(l0.length:Int):=of_decide_eq_true zq26
       obtain⟨ad230,e230,hx230_0,hx230_1,hx230_2⟩:=at_T63 HR0.out x5_1 p230 q230
       cases e230
       replace p230:=eq_true p230
       replace q230:=eq_true q230
       have p231:0≤(x5_1:Int):=of_decide_eq_true zq26
       have q231:x5_1<(l0.length:Int):=of_decide_eq_true zq26
       obtain⟨ad231,e231,hx231_0,hx231_1,hx231_2⟩:=at_T63 HR0.out x5_1 p231 q231
       obtain rfl:ad230=ad231:=(by injection e231)
       replace p231:=eq_true p231
       replace q231:=eq_true q231
       go_wp2
       go_ret
       exact⟨zq8,zq12⟩
     ·rw [if_neg c5] at H
      have c5b0:(((rd_T63 l0 x5_1).f0)==x1_1)=false:=beq_eq_false_iff_ne.mpr c5
      have c5b1:(((rd_T63 l0 x5_1).f0) != x1_1)=true:=bne_iff_ne.mpr c5
      obtain rfl:=Option.some.inj H
      have p230:0≤(x5_1:Int):=of_decide_eq_true zq26
      have q230:x5_1<(l0.length:Int):=of_decide_eq_true zq26
      obtain⟨ad230,e230,hx230_0,hx230_1,hx230_2⟩:=at_T63 HR0.out x5_1 p230 q230
      cases e230
      replace p230:=eq_true p230
      replace q230:=eq_true q230
      go_wp2
      go_ret
      exact⟨zq8,zq12⟩
    ·rw [if_neg c4] at H
     exact absurd H (by simp)
   ·rw [if_neg c3] at H
    have c3b0:decide (x5_1<(l0.length:Int))=false:=decide_eq_false c3
    clear c3
    obtain rfl:=Option.some.inj H
    go_wp2
    go_ret
    exact⟨zq8,zq12⟩
def laws_heldOutcome.f(k:Nat)(a0_0:Int)(a0_1:Int)(l0_2:List (S63))(a0_3:Int)(a1:Int):Option (Int):=(laws_heldEventS.f k l0_2 a1).bind fun t234=>(if t234<0 then(some (-1)) else(some t234))
theorem laws_heldOutcome.calls(k:Nat)(a0_0:Int)(a0_1:Int)(A0_2:Option Addr)(c0_2:Nat)(l0_2:List (S63))(a0_3:Int)(a1:Int)(r:Int)(w:World)(hr0_2:Kd.C k63 w A0_2 l0_2.length l0_2)(hc0_2:l0_2.length≤c0_2)(h:laws_heldOutcome.f k a0_0 a0_1 l0_2 a0_3 a1=some r) :
  Calls Try.prog 23 #[.agg #[.int .i64 a0_0,.int .i64 a0_1,.slice A0_2 l0_2.length c0_2,.int .i64 a0_3],.int .i64 a1] w fun e w'=>e= .returned (.int .i64 r)∧Below w.heap.size w w':=by
 have hu30:=Try.underlying30
 have HR0_2:=am hr0_2
 have HC0_2:=am hc0_2
 clear hr0_2 hc0_2
 have HB:=am (Below.refl w.heap.size w)
 have H:((laws_heldEventS.f k l0_2 a1).bind fun t234=>(if t234<0 then(some (-1)) else(some t234)))=some r:=h
 clear h
 obtain⟨t234,A3,H⟩:=bms H
 try dsimp only at H
 by_cases c4:t234<0
 ·rw [if_pos c4] at H
  have c4b0:decide (t234<0)=true:=decide_eq_true c4
  clear c4
  obtain rfl:=Option.some.inj H
  go_enter Try.func23,Try.ntmps23
  go_wp2_with (first|(refine bx 2 #[.int .i64 a0_0,.int .i64 a0_1,.slice A0_2 l0_2.length c0_2,.int .i64 a0_3] 30 (h:= ?_);intro gb233 hg w5 hbox hb;have BK233:=am (hbox);have GE233:=am ((zq4:w.heap.size≤gb233));replace HB:=am (below_step zq0 hb);clear hb hbox hg;obtain⟨hcz6_0,hcz6_1,hcz6_2,hcz6_3,hfz6_0,hfz6_1,hfz6_2,hfz6_3⟩:=cf4 BK233.out)|(refine gl (some 8) 140 Try.func140 #[.slice A0_2 l0_2.length c0_2,.int .i64 a1] (h:= ?_);(with_reducible refine(laws_heldEventS.calls k _ _ l0_2 a1 t234 _ ?side1 ?side2 A3.out).mono ?_);(case side1=>exact zq38);(case side2=>exact HC0_2.out);rintro e w' ⟨rfl,⟨nd,rfl⟩⟩;refine⟨_,rfl,?_⟩))
  go_ret
  exact⟨zq3,zq115⟩
 ·rw [if_neg c4] at H
  have c4b0:decide (t234<0)=false:=decide_eq_false c4
  clear c4
  obtain rfl:=Option.some.inj H
  go_enter Try.func23,Try.ntmps23
  go_wp2_with (first|(refine bx 2 #[.int .i64 a0_0,.int .i64 a0_1,.slice A0_2 l0_2.length c0_2,.int .i64 a0_3] 30 (h:= ?_);intro gb233 hg w7 hbox hb;have BK233:=am (hbox);have GE233:=am ((zq4:w.heap.size≤gb233));replace HB:=am (below_step zq0 hb);clear hb hbox hg;obtain⟨hcz8_0,hcz8_1,hcz8_2,hcz8_3,hfz8_0,hfz8_1,hfz8_2,hfz8_3⟩:=cf4 BK233.out)|(refine gl (some 8) 140 Try.func140 #[.slice A0_2 l0_2.length c0_2,.int .i64 a1] (h:= ?_);(with_reducible refine(laws_heldEventS.calls k _ _ l0_2 a1 t234 _ ?side1 ?side2 A3.out).mono ?_);(case side1=>exact zq38);(case side2=>exact HC0_2.out);rintro e w' ⟨rfl,⟨nd,rfl⟩⟩;refine⟨_,rfl,?_⟩))
  go_ret
  exact⟨zq3,zq115⟩
end Go.Proofs.Yteiafboknimgbaa.Pr
end

section
namespace Go.Proofs.Yteiafboknimgbaa.Pr
open Go.RowKit Go.Proofs.W.PrintWords Go.Proofs.W.PrintLast Go.Proofs.W.PrintMore
attribute [local go_sem] max2_int min2_int max_two min_two max_three min_three max_four min_four
mutual
def spec_l2Step.j0:Nat→Int→Bool→List (List (S219))→Int→Int→Int→Option (Bool)
 |0,_,_,_,_,_,_=>none
 |k+1,x6,x27,x112000,x113000,x113001,x113002=>if x27=true then((spec_l2Function.f x112000 x113001).bind fun t117=>(if t117=true then((spec_l2Reg.f x113002).bind fun t118=>(some t118)) else(some false))) else(if x6=3 then(spec_l2Step.j1 k x6 (x6==3) x113000 x113001 x113002) else(if x6=6 then(spec_l2Step.j1 k x6 (x6==6) x113000 x113001 x113002) else(if x6=7 then(spec_l2Step.j1 k x6 (x6==7) x113000 x113001 x113002) else(if x6=8 then(spec_l2Step.j1 k x6 (x6==8) x113000 x113001 x113002) else(if x6=9 then(spec_l2Step.j1 k x6 (x6==9) x113000 x113001 x113002) else(if x6=12 then(spec_l2Step.j1 k x6 (x6==12) x113000 x113001 x113002) else(spec_l2Step.j1 k x6 (x6==13) x113000 x113001 x113002)))))))
def spec_l2Step.j1:Nat→Int→Bool→Int→Int→Int→Option (Bool)
 |0,_,_,_,_,_=>none
 |k+1,x6,x39,x113000,x113001,x113002=>if x39=true then((spec_l2Reg.f x113001).bind fun t119=>(if t119=true then(some (x113002==0)) else(some false))) else(if x6=10 then(if x113001=0 then(some (x113002==0)) else(some false)) else(if x6=11 then((spec_l1In.f x113001 0 8).bind fun t120=>(if t120=true then((spec_l2Reg.f x113002).bind fun t121=>(some t121)) else(some false))) else(some false)))
end
def spec_l2Step.f(k:Nat)(l0_0:List (List (S219)))(a1_0:Int)(a1_1:Int)(a1_2:Int):Option (Bool):=if a1_0=1 then((spec_l2Reg.f a1_1).bind fun t113=>(if t113=true then((spec_l2Number.f a1_2).bind fun t114=>(some t114)) else(some false))) else(if a1_0=2 then((spec_l2Reg.f a1_1).bind fun t115=>(if t115=true then((spec_l2Reg.f a1_2).bind fun t116=>(some t116)) else(some false))) else(if a1_0=4 then(spec_l2Step.j0 k a1_0 (a1_0==4) l0_0 a1_0 a1_1 a1_2) else(spec_l2Step.j0 k a1_0 (a1_0==5) l0_0 a1_0 a1_1 a1_2)))
theorem spec_l2Step.calls(k:Nat)(A0_0:Option Addr)(c0_0:Nat)(l0_0:List (List (S219)))(a1_0:Int)(a1_1:Int)(a1_2:Int)(r:Bool)(w:World)(hr0_0:Kd.C (Kd.slice 219 k219) w A0_0 l0_0.length l0_0)(hc0_0:l0_0.length≤c0_0)(h:spec_l2Step.f k l0_0 a1_0 a1_1 a1_2=some r) :
  Calls Try.prog 245 #[.agg #[.slice A0_0 l0_0.length c0_0],.agg #[.int .i64 a1_0,.int .i64 a1_1,.int .i64 a1_2]] w fun e w'=>e= .returned (.bool r)∧Below w.heap.size w w':=by
 have hu35:=Try.underlying35
 have hu219:=Try.underlying219
 have HR0_0:=am hr0_0
 have HC0_0:=am hc0_0
 clear hr0_0 hc0_0
 have HB:=am (Below.refl w.heap.size w)
 have H:(if a1_0=1 then((spec_l2Reg.f a1_1).bind fun t113=>(if t113=true then((spec_l2Number.f a1_2).bind fun t114=>(some t114)) else(some false))) else(if a1_0=2 then((spec_l2Reg.f a1_1).bind fun t115=>(if t115=true then((spec_l2Reg.f a1_2).bind fun t116=>(some t116)) else(some false))) else(if a1_0=4 then(spec_l2Step.j0 k a1_0 (a1_0==4) l0_0 a1_0 a1_1 a1_2) else(spec_l2Step.j0 k a1_0 (a1_0==5) l0_0 a1_0 a1_1 a1_2))))=some r:=h
 clear h
 by_cases c3:a1_0=1
 ·rw [if_pos c3] at H
  have c3b0:(a1_0==1)=true:=beq_iff_eq.mpr c3
  have c3b1:(a1_0 != 1)=false:=bne_eq_false_iff_eq.mpr c3
  clear c3
  obtain⟨t113,A4,H⟩:=bms H
  try dsimp only at H
  by_cases c5:t113=true
  ·subst c5
   rw [if_pos rfl] at H
   obtain⟨t114,A6,H⟩:=bms H
   try dsimp only at H
   obtain rfl:=Option.some.inj H
   go_enter Try.func245,Try.ntmps245
   go_wp2_with (first|(refine bx 2 #[.slice A0_0 l0_0.length c0_0] 35 (h:= ?_);intro gb111 hg w7 hbox hb;have BK111:=am (hbox);have GE111:=am ((zq4:w.heap.size≤gb111));replace HB:=am (below_step zq0 hb);clear hb hbox hg)|(refine bx 3 #[.int .i64 a1_0,.int .i64 a1_1,.int .i64 a1_2] 219 (h:= ?_);intro gb112 hg w8 hbox hb;have BK112:=am (hbox);have GE112:=am ((zq137:w.heap.size≤gb112));replace HB:=am (below_step zq55 hb);have NB111_112:=am ((zq57:gb111≠gb112));have NB112_111:=am ((zq58:gb112≠gb111));replace BK111:=am (blk_below (g:=gb111) (o:= .cells #[.slice A0_0 l0_0.length c0_0] 35 (0,0)) zq54 hb);clear hb hbox hg;have hnb9:=NB112_111.out;have hnc9:=NB111_112.out;obtain⟨hcz10_0,hcz10_1,hcz10_2,hfz10_0,hfz10_1,hfz10_2⟩:=cf3 BK112.out)|(refine gl (some 11) 279 Try.func279 #[.int .i64 a1_1] (h:= ?_);(with_reducible refine(spec_l2Reg.calls a1_1 true _ A4.out).mono ?_);rintro e w' ⟨rfl,⟨nd,rfl⟩⟩;refine⟨_,rfl,?_⟩)|(go_at_call 221;(with_reducible refine(spec_l2Number.calls a1_2 t114 _ A6.out).mono ?_);rintro e w' ⟨rfl,⟨nd,rfl⟩⟩))
   go_ret
   exact⟨zq3,zq53⟩
  ·replace c5:=Bool.eq_false_iff.mpr c5
   subst c5
   rw [if_neg (show ¬(false=true) by decide)] at H
   obtain rfl:=Option.some.inj H
   go_enter Try.func245,Try.ntmps245
   go_wp2_with (first|(refine bx 2 #[.slice A0_0 l0_0.length c0_0] 35 (h:= ?_);intro gb111 hg w11 hbox hb;have BK111:=am (hbox);have GE111:=am ((zq4:w.heap.size≤gb111));replace HB:=am (below_step zq0 hb);clear hb hbox hg)|(refine bx 3 #[.int .i64 a1_0,.int .i64 a1_1,.int .i64 a1_2] 219 (h:= ?_);intro gb112 hg w12 hbox hb;have BK112:=am (hbox);have GE112:=am ((zq137:w.heap.size≤gb112));replace HB:=am (below_step zq55 hb);have NB111_112:=am ((zq57:gb111≠gb112));have NB112_111:=am ((zq58:gb112≠gb111));replace BK111:=am (blk_below (g:=gb111) (o:= .cells #[.slice A0_0 l0_0.length c0_0] 35 (0,0)) zq54 hb);clear hb hbox hg;have hnb13:=NB112_111.out;have hnc13:=NB111_112.out;obtain⟨hcz14_0,hcz14_1,hcz14_2,hfz14_0,hfz14_1,hfz14_2⟩:=cf3 BK112.out)|(refine gl (some 11) 279 Try.func279 #[.int .i64 a1_1] (h:= ?_);(with_reducible refine(spec_l2Reg.calls a1_1 false _ A4.out).mono ?_);rintro e w' ⟨rfl,⟨nd,rfl⟩⟩;refine⟨_,rfl,?_⟩))
   go_ret
   exact⟨zq3,zq53⟩
 ·rw [if_neg c3] at H
  have c3b0:(a1_0==1)=false:=beq_eq_false_iff_ne.mpr c3
  have c3b1:(a1_0 != 1)=true:=bne_iff_ne.mpr c3
  by_cases c15:a1_0=2
  ·rw [if_pos c15] at H
   have c15b0:(a1_0==2)=true:=beq_iff_eq.mpr c15
   have c15b1:(a1_0 != 2)=false:=bne_eq_false_iff_eq.mpr c15
   clear c15
   obtain⟨t115,A16,H⟩:=bms H
   try dsimp only at H
   by_cases c17:t115=true
   ·subst c17
    rw [if_pos rfl] at H
    obtain⟨t116,A18,H⟩:=bms H
    try dsimp only at H
    obtain rfl:=Option.some.inj H
    go_enter Try.func245,Try.ntmps245
    go_wp2_with (first|(refine bx 2 #[.slice A0_0 l0_0.length c0_0] 35 (h:= ?_);intro gb111 hg w19 hbox hb;have BK111:=am (hbox);have GE111:=am ((zq4:w.heap.size≤gb111));replace HB:=am (below_step zq0 hb);clear hb hbox hg)|(refine bx 3 #[.int .i64 a1_0,.int .i64 a1_1,.int .i64 a1_2] 219 (h:= ?_);intro gb112 hg w20 hbox hb;have BK112:=am (hbox);have GE112:=am ((zq137:w.heap.size≤gb112));replace HB:=am (below_step zq55 hb);have NB111_112:=am ((zq57:gb111≠gb112));have NB112_111:=am ((zq58:gb112≠gb111));replace BK111:=am (blk_below (g:=gb111) (o:= .cells #[.slice A0_0 l0_0.length c0_0] 35 (0,0)) zq54 hb);clear hb hbox hg;have hnb21:=NB112_111.out;have hnc21:=NB111_112.out;obtain⟨hcz22_0,hcz22_1,hcz22_2,hfz22_0,hfz22_1,hfz22_2⟩:=cf3 BK112.out)|(refine gl (some 21) 279 Try.func279 #[.int .i64 a1_1] (h:= ?_);(with_reducible refine(spec_l2Reg.calls a1_1 true _ A16.out).mono ?_);rintro e w' ⟨rfl,⟨nd,rfl⟩⟩;refine⟨_,rfl,?_⟩)|(go_at_call 279;(with_reducible refine(spec_l2Reg.calls a1_2 t116 _ A18.out).mono ?_);rintro e w' ⟨rfl,⟨nd,rfl⟩⟩))
    go_ret
    exact⟨zq3,zq53⟩
   ·replace c17:=Bool.eq_false_iff.mpr c17
    subst c17
    rw [if_neg (show ¬(false=true) by decide)] at H
    obtain rfl:=Option.some.inj H
    go_enter Try.func245,Try.ntmps245
    go_wp2_with (first|(refine bx 2 #[.slice A0_0 l0_0.length c0_0] 35 (h:= ?_);intro gb111 hg w23 hbox hb;have BK111:=am (hbox);have GE111:=am ((zq4:w.heap.size≤gb111));replace HB:=am (below_step zq0 hb);clear hb hbox hg)|(refine bx 3 #[.int .i64 a1_0,.int .i64 a1_1,.int .i64 a1_2] 219 (h:= ?_);intro gb112 hg w24 hbox hb;have BK112:=am (hbox);have GE112:=am ((zq137:w.heap.size≤gb112));replace HB:=am (below_step zq55 hb);have NB111_112:=am ((zq57:gb111≠gb112));have NB112_111:=am ((zq58:gb112≠gb111));replace BK111:=am (blk_below (g:=gb111) (o:= .cells #[.slice A0_0 l0_0.length c0_0] 35 (0,0)) zq54 hb);clear hb hbox hg;have hnb25:=NB112_111.out;have hnc25:=NB111_112.out;obtain⟨hcz26_0,hcz26_1,hcz26_2,hfz26_0,hfz26_1,hfz26_2⟩:=cf3 BK112.out)|(refine gl (some 21) 279 Try.func279 #[.int .i64 a1_1] (h:= ?_);(with_reducible refine(spec_l2Reg.calls a1_1 false _ A16.out).mono ?_);rintro e w' ⟨rfl,⟨nd,rfl⟩⟩;refine⟨_,rfl,?_⟩))
    go_ret
    exact⟨zq3,zq53⟩
  ·rw [if_neg c15] at H
   have c15b0:(a1_0==2)=false:=beq_eq_false_iff_ne.mpr c15
   have c15b1:(a1_0 != 2)=true:=bne_iff_ne.mpr c15
   have HC27:=am H
   clear H
   go_enter Try.func245,Try.ntmps245
   go_upto_if 27 with(first|(refine bx 2 #[.slice A0_0 l0_0.length c0_0] 35 (h:= ?_);intro gb111 hg w28 hbox hb;have BK111:=am (hbox);have GE111:=am ((zq4:w.heap.size≤gb111));replace HB:=am (below_step zq0 hb);clear hb hbox hg)|(refine bx 3 #[.int .i64 a1_0,.int .i64 a1_1,.int .i64 a1_2] 219 (h:= ?_);intro gb112 hg w29 hbox hb;have BK112:=am (hbox);have GE112:=am ((zq137:w.heap.size≤gb112));replace HB:=am (below_step zq55 hb);have NB111_112:=am ((zq57:gb111≠gb112));have NB112_111:=am ((zq58:gb112≠gb111));replace BK111:=am (blk_below (g:=gb111) (o:= .cells #[.slice A0_0 l0_0.length c0_0] 35 (0,0)) zq54 hb);clear hb hbox hg;have hnb30:=NB112_111.out;have hnc30:=NB111_112.out;obtain⟨hcz31_0,hcz31_1,hcz31_2,hfz31_0,hfz31_1,hfz31_2⟩:=cf3 BK112.out))
   (try simp only [Act.put,List.setIfInBounds_toArray,List.set_cons_zero,List.set_cons_succ])
   go_cut [27] (fun v27 wc=> ∃ (kq:Nat) (x27_26:Bool),v27= .bool x27_26∧Aside0 (spec_l2Step.j0 kq a1_0 x27_26 l0_0 a1_0 a1_1 a1_2=some r)∧Aside0 (kq≤k)∧Aside0 (wc.heap[gb111]? =some (.cells #[(.slice A0_0 l0_0.length c0_0)] 35 (0,0)))∧Aside0 (wc.heap[gb112]? =some (.cells #[.int .i64 a1_0,.int .i64 a1_1,.int .i64 a1_2] 219 (0,0)))∧Aside0 (Below w.heap.size w wc))
   case first =>
    have H:=HC27.out
    clear HC27
    by_cases c32:a1_0=4
    ·rw [if_pos c32] at H
     have c32b0:(a1_0==4)=true:=beq_iff_eq.mpr c32
     have c32b1:(a1_0 != 4)=false:=bne_eq_false_iff_eq.mpr c32
     clear c32
     (first|rw [c32b0]|(simp only [i64_w,i32_w];rw [c32b0])|skip)
     have H':=am H
     clear H
     go_wp2
     go_meet
     case rel=>exact⟨_,((a1_0==4)),zq8,H',⟨by first|omega|exact Nat.le_refl _⟩,⟨zq54⟩,⟨zq56⟩,⟨zq53⟩⟩
    ·rw [if_neg c32] at H
     have c32b0:(a1_0==4)=false:=beq_eq_false_iff_ne.mpr c32
     have c32b1:(a1_0 != 4)=true:=bne_iff_ne.mpr c32
     (first|rw [c32b0]|(simp only [i64_w,i32_w];rw [c32b0])|skip)
     have H':=am H
     clear H
     go_wp2
     go_meet
     case rel=>exact⟨_,((a1_0==5)),zq8,H',⟨by first|omega|exact Nat.le_refl _⟩,⟨zq54⟩,⟨zq56⟩,⟨zq53⟩⟩
   case rest =>
    clear HC27
    try clear c1
    try clear c2
    try clear p2
    try clear c3
    try clear c3b0
    try clear c3b1
    try clear c5
    try clear c9
    try clear c13
    try clear c15
    try clear c15b0
    try clear c15b1
    try clear c17
    try clear c21
    try clear c24
    try clear c25
    try clear c27
    try clear c30
    try clear c32
    try clear c32b0
    try clear c32b1
    try clear hcz10_0
    try clear hcz10_1
    try clear hcz10_2
    try clear hcz14_0
    try clear hcz14_1
    try clear hcz14_2
    try clear hcz22_0
    try clear hcz22_1
    try clear hcz22_2
    try clear hcz26_0
    try clear hcz26_1
    try clear hcz26_2
    try clear hcz31_0
    try clear hcz31_1
    try clear hcz31_2
    try clear hfz10_0
    try clear hfz10_1
    try clear hfz10_2
    try clear hfz14_0
    try clear hfz14_1
    try clear hfz14_2
    try clear hfz22_0
    try clear hfz22_1
    try clear hfz22_2
    try clear hfz26_0
    try clear hfz26_1
    try clear hfz26_2
    try clear hfz31_0
    try clear hfz31_1
    try clear hfz31_2
    obtain⟨kq,x27_26,rfl,HA,HJ26,BK111,BK112,HB⟩:=hcut
    cases kq with
    |zero=>exact absurd HA.out (by simp [spec_l2Step.j0])
    |succ kj26 =>
     have H:=HA.out
     clear HA
     simp only [spec_l2Step.j0] at H
     by_cases c33:x27_26=true
     ·subst c33
      rw [if_pos rfl] at H
      obtain⟨t117,A34,H⟩:=bms H
      try dsimp only at H
      by_cases c35:t117=true
      ·subst c35
       rw [if_pos rfl] at H
       obtain⟨t118,A36,H⟩:=bms H
       try dsimp only at H
       obtain rfl:=Option.some.inj H
       have hnb37:=NB111_112.out
       have hnc37:=NB112_111.out
       obtain⟨hcz38_0,hfz38_0⟩:=cf1 BK111.out
       obtain⟨hcz39_0,hcz39_1,hcz39_2,hfz39_0,hfz39_1,hfz39_2⟩:=cf3 BK112.out
       go_wp2_with (first|(refine gl (some 33) 225 Try.func225 #[.agg #[.slice A0_0 l0_0.length c0_0],.int .i64 a1_1] (h:= ?_);(with_reducible refine(spec_l2Function.calls _ _ l0_0 a1_1 true _ ?side1 ?side2 A34.out).mono ?_);(case side1=>exact zq13);(case side2=>exact HC0_0.out);rintro e w40 ⟨rfl,hb⟩;refine⟨_,rfl,?_⟩;replace BK111:=am (blk_below (g:=gb111) (o:= .cells #[.slice A0_0 l0_0.length c0_0] 35 (0,0)) zq54 hb);replace BK112:=am (blk_below (g:=gb112) (o:= .cells #[.int .i64 a1_0,.int .i64 a1_1,.int .i64 a1_2] 219 (0,0)) zq56 hb);replace HB:=am (below_step zq53 hb);(try clear hb);obtain⟨hcz41_0,hcz41_1,hcz41_2,hfz41_0,hfz41_1,hfz41_2⟩:=cf3 BK112.out)|(go_at_call 279;(with_reducible refine(spec_l2Reg.calls a1_2 t118 _ A36.out).mono ?_);rintro e w' ⟨rfl,⟨nd,rfl⟩⟩))
       go_ret
       exact⟨zq3,zq53⟩
      ·replace c35:=Bool.eq_false_iff.mpr c35
       subst c35
       rw [if_neg (show ¬(false=true) by decide)] at H
       obtain rfl:=Option.some.inj H
       have hnb42:=NB111_112.out
       have hnc42:=NB112_111.out
       obtain⟨hcz43_0,hfz43_0⟩:=cf1 BK111.out
       obtain⟨hcz44_0,hcz44_1,hcz44_2,hfz44_0,hfz44_1,hfz44_2⟩:=cf3 BK112.out
       go_wp2_with (first|(refine gl (some 33) 225 Try.func225 #[.agg #[.slice A0_0 l0_0.length c0_0],.int .i64 a1_1] (h:= ?_);(with_reducible refine(spec_l2Function.calls _ _ l0_0 a1_1 false _ ?side1 ?side2 A34.out).mono ?_);(case side1=>exact zq13);(case side2=>exact HC0_0.out);rintro e w45 ⟨rfl,hb⟩;refine⟨_,rfl,?_⟩;replace BK111:=am (blk_below (g:=gb111) (o:= .cells #[.slice A0_0 l0_0.length c0_0] 35 (0,0)) zq54 hb);replace BK112:=am (blk_below (g:=gb112) (o:= .cells #[.int .i64 a1_0,.int .i64 a1_1,.int .i64 a1_2] 219 (0,0)) zq56 hb);replace HB:=am (below_step zq53 hb);(try clear hb)))
       go_ret
       exact⟨zq3,zq53⟩
     ·replace c33:=Bool.eq_false_iff.mpr c33
      subst c33
      rw [if_neg (show ¬(false=true) by decide)] at H
      have HC46:=am H
      clear H
      go_upto_if 39 with(fail)
      go_cut [39] (fun v39 wc=> ∃ (kq:Nat) (x39_45:Bool),v39= .bool x39_45∧Aside0 (spec_l2Step.j1 kq a1_0 x39_45 a1_0 a1_1 a1_2=some r)∧Aside0 (kq≤kj26)∧Aside0 (wc.heap[gb111]? =some (.cells #[(.slice A0_0 l0_0.length c0_0)] 35 (0,0)))∧Aside0 (wc.heap[gb112]? =some (.cells #[.int .i64 a1_0,.int .i64 a1_1,.int .i64 a1_2] 219 (0,0)))∧Aside0 (Below w.heap.size w wc))
      case first =>
       have H:=HC46.out
       clear HC46
       by_cases c47:a1_0=3
       ·rw [if_pos c47] at H
        have c47b0:(a1_0==3)=true:=beq_iff_eq.mpr c47
        have c47b1:(a1_0 != 3)=false:=bne_eq_false_iff_eq.mpr c47
        clear c47
        (first|rw [c47b0]|(simp only [i64_w,i32_w];rw [c47b0])|skip)
        have H':=am H
        clear H
        go_wp2
        go_meet
        case rel=>exact⟨_,((a1_0==3)),zq8,H',⟨zq59⟩,⟨zq54⟩,⟨zq56⟩,⟨zq53⟩⟩
       ·rw [if_neg c47] at H
        have c47b0:(a1_0==3)=false:=beq_eq_false_iff_ne.mpr c47
        have c47b1:(a1_0 != 3)=true:=bne_iff_ne.mpr c47
        (first|rw [c47b0]|(simp only [i64_w,i32_w];rw [c47b0])|skip)
        by_cases c48:a1_0=6
        ·rw [if_pos c48] at H
         have c48b0:(a1_0==6)=true:=beq_iff_eq.mpr c48
         have c48b1:(a1_0 != 6)=false:=bne_eq_false_iff_eq.mpr c48
         clear c48
         have H':=am H
         clear H
         go_wp2
         go_meet
         case rel=>exact⟨_,((a1_0==6)),zq8,H',⟨zq59⟩,⟨zq54⟩,⟨zq56⟩,⟨zq53⟩⟩
        ·rw [if_neg c48] at H
         have c48b0:(a1_0==6)=false:=beq_eq_false_iff_ne.mpr c48
         have c48b1:(a1_0 != 6)=true:=bne_iff_ne.mpr c48
         by_cases c49:a1_0=7
         ·rw [if_pos c49] at H
          have c49b0:(a1_0==7)=true:=beq_iff_eq.mpr c49
          have c49b1:(a1_0 != 7)=false:=bne_eq_false_iff_eq.mpr c49
          clear c49
          have H':=am H
          clear H
          go_wp2
          go_meet
          case rel=>exact⟨_,((a1_0==7)),zq8,H',⟨zq59⟩,⟨zq54⟩,⟨zq56⟩,⟨zq53⟩⟩
         ·rw [if_neg c49] at H
          have c49b0:(a1_0==7)=false:=beq_eq_false_iff_ne.mpr c49
          have c49b1:(a1_0 != 7)=true:=bne_iff_ne.mpr c49
          by_cases c50:a1_0=8
          ·rw [if_pos c50] at H
           have c50b0:(a1_0==8)=true:=beq_iff_eq.mpr c50
           have c50b1:(a1_0 != 8)=false:=bne_eq_false_iff_eq.mpr c50
           clear c50
           have H':=am H
           clear H
           go_wp2
           go_meet
           case rel=>exact⟨_,((a1_0==8)),zq8,H',⟨zq59⟩,⟨zq54⟩,⟨zq56⟩,⟨zq53⟩⟩
          ·rw [if_neg c50] at H
           have c50b0:(a1_0==8)=false:=beq_eq_false_iff_ne.mpr c50
           have c50b1:(a1_0 != 8)=true:=bne_iff_ne.mpr c50
           by_cases c51:a1_0=9
           ·rw [if_pos c51] at H
            have c51b0:(a1_0==9)=true:=beq_iff_eq.mpr c51
            have c51b1:(a1_0 != 9)=false:=bne_eq_false_iff_eq.mpr c51
            clear c51
            have H':=am H
            clear H
            go_wp2
            go_meet
            case rel=>exact⟨_,((a1_0==9)),zq8,H',⟨zq59⟩,⟨zq54⟩,⟨zq56⟩,⟨zq53⟩⟩
           ·rw [if_neg c51] at H
            have c51b0:(a1_0==9)=false:=beq_eq_false_iff_ne.mpr c51
            have c51b1:(a1_0 != 9)=true:=bne_iff_ne.mpr c51
            by_cases c52:a1_0=12
            ·rw [if_pos c52] at H
             have c52b0:(a1_0==12)=true:=beq_iff_eq.mpr c52
             have c52b1:(a1_0 != 12)=false:=bne_eq_false_iff_eq.mpr c52
             clear c52
             have H':=am H
             clear H
             go_wp2
             go_meet
             case rel=>exact⟨_,((a1_0==12)),zq8,H',⟨zq59⟩,⟨zq54⟩,⟨zq56⟩,⟨zq53⟩⟩
            ·rw [if_neg c52] at H
             have c52b0:(a1_0==12)=false:=beq_eq_false_iff_ne.mpr c52
             have c52b1:(a1_0 != 12)=true:=bne_iff_ne.mpr c52
             have H':=am H
             clear H
             go_wp2
             go_meet
             case rel=>exact⟨_,((a1_0==13)),zq8,H',⟨zq59⟩,⟨zq54⟩,⟨zq56⟩,⟨zq53⟩⟩
      case rest =>
       clear HC46
       try clear c1
       try clear c2
       try clear p2
       try clear c3
       try clear c3b0
       try clear c3b1
       try clear c4
       try clear c5
       try clear c9
       try clear c13
       try clear c15
       try clear c15b0
       try clear c15b1
       try clear c17
       try clear c21
       try clear c22
       try clear c24
       try clear c25
       try clear c27
       try clear c30
       try clear c32
       try clear c32b0
       try clear c32b1
       try clear c33
       try clear c35
       try clear c37
       try clear c42
       try clear c47
       try clear c47b0
       try clear c47b1
       try clear c48
       try clear c48b0
       try clear c48b1
       try clear c49
       try clear c49b0
       try clear c49b1
       try clear c50
       try clear c50b0
       try clear c50b1
       try clear c51
       try clear c51b0
       try clear c51b1
       try clear c52
       try clear c52b0
       try clear c52b1
       try clear hcz10_0
       try clear hcz10_1
       try clear hcz10_2
       try clear hcz14_0
       try clear hcz14_1
       try clear hcz14_2
       try clear hcz22_0
       try clear hcz22_1
       try clear hcz22_2
       try clear hcz26_0
       try clear hcz26_1
       try clear hcz26_2
       try clear hcz31_0
       try clear hcz31_1
       try clear hcz31_2
       try clear hcz38_0
       try clear hcz39_0
       try clear hcz39_1
       try clear hcz39_2
       try clear hcz41_0
       try clear hcz41_1
       try clear hcz41_2
       try clear hcz43_0
       try clear hcz44_0
       try clear hcz44_1
       try clear hcz44_2
       try clear hfz10_0
       try clear hfz10_1
       try clear hfz10_2
       try clear hfz14_0
       try clear hfz14_1
       try clear hfz14_2
       try clear hfz22_0
       try clear hfz22_1
       try clear hfz22_2
       try clear hfz26_0
       try clear hfz26_1
       try clear hfz26_2
       try clear hfz31_0
       try clear hfz31_1
       try clear hfz31_2
       try clear hfz38_0
       try clear hfz39_0
       try clear hfz39_1
       try clear hfz39_2
       try clear hfz41_0
       try clear hfz41_1
       try clear hfz41_2
       try clear hfz43_0
       try clear hfz44_0
       try clear hfz44_1
       try clear hfz44_2
       try clear p2
       obtain⟨kq,x39_45,rfl,HA,HJ45,BK111,BK112,HB⟩:=hcut
       cases kq with
       |zero=>exact absurd HA.out (by simp [spec_l2Step.j1])
       |succ kj45 =>
        have H:=HA.out
        clear HA
        simp only [spec_l2Step.j1] at H
        by_cases c53:x39_45=true
        ·subst c53
         rw [if_pos rfl] at H
         obtain⟨t119,A54,H⟩:=bms H
         try dsimp only at H
         by_cases c55:t119=true
         ·subst c55
          rw [if_pos rfl] at H
          obtain rfl:=Option.some.inj H
          have hnb56:=NB112_111.out
          have hnc56:=NB111_112.out
          obtain⟨hcz57_0,hcz57_1,hcz57_2,hfz57_0,hfz57_1,hfz57_2⟩:=cf3 BK112.out
          go_wp2_with (first|(refine gl (some 49) 279 Try.func279 #[.int .i64 a1_1] (h:= ?_);(with_reducible refine(spec_l2Reg.calls a1_1 true _ A54.out).mono ?_);rintro e w' ⟨rfl,⟨nd,rfl⟩⟩;refine⟨_,rfl,?_⟩))
          go_ret
          exact⟨zq3,zq53⟩
         ·replace c55:=Bool.eq_false_iff.mpr c55
          subst c55
          rw [if_neg (show ¬(false=true) by decide)] at H
          obtain rfl:=Option.some.inj H
          have hnb58:=NB112_111.out
          have hnc58:=NB111_112.out
          obtain⟨hcz59_0,hcz59_1,hcz59_2,hfz59_0,hfz59_1,hfz59_2⟩:=cf3 BK112.out
          go_wp2_with (first|(refine gl (some 49) 279 Try.func279 #[.int .i64 a1_1] (h:= ?_);(with_reducible refine(spec_l2Reg.calls a1_1 false _ A54.out).mono ?_);rintro e w' ⟨rfl,⟨nd,rfl⟩⟩;refine⟨_,rfl,?_⟩))
          go_ret
          exact⟨zq3,zq53⟩
        ·replace c53:=Bool.eq_false_iff.mpr c53
         subst c53
         rw [if_neg (show ¬(false=true) by decide)] at H
         by_cases c60:a1_0=10
         ·rw [if_pos c60] at H
          have c60b0:(a1_0==10)=true:=beq_iff_eq.mpr c60
          have c60b1:(a1_0 != 10)=false:=bne_eq_false_iff_eq.mpr c60
          clear c60
          by_cases c61:a1_1=0
          ·rw [if_pos c61] at H
           have c61b0:(a1_1==0)=true:=beq_iff_eq.mpr c61
           have c61b1:(a1_1 != 0)=false:=bne_eq_false_iff_eq.mpr c61
           clear c61
           obtain rfl:=Option.some.inj H
           have hnb62:=NB112_111.out
           have hnc62:=NB111_112.out
           obtain⟨hcz63_0,hcz63_1,hcz63_2,hfz63_0,hfz63_1,hfz63_2⟩:=cf3 BK112.out
           go_wp2
           go_ret
           exact⟨zq3,zq53⟩
          ·rw [if_neg c61] at H
           have c61b0:(a1_1==0)=false:=beq_eq_false_iff_ne.mpr c61
           have c61b1:(a1_1 != 0)=true:=bne_iff_ne.mpr c61
           obtain rfl:=Option.some.inj H
           have hnb64:=NB112_111.out
           have hnc64:=NB111_112.out
           obtain⟨hcz65_0,hcz65_1,hcz65_2,hfz65_0,hfz65_1,hfz65_2⟩:=cf3 BK112.out
           go_wp2
           go_ret
           exact⟨zq3,zq53⟩
         ·rw [if_neg c60] at H
          have c60b0:(a1_0==10)=false:=beq_eq_false_iff_ne.mpr c60
          have c60b1:(a1_0 != 10)=true:=bne_iff_ne.mpr c60
          by_cases c66:a1_0=11
          ·rw [if_pos c66] at H
           have c66b0:(a1_0==11)=true:=beq_iff_eq.mpr c66
           have c66b1:(a1_0 != 11)=false:=bne_eq_false_iff_eq.mpr c66
           clear c66
           obtain⟨t120,A67,H⟩:=bms H
           try dsimp only at H
           by_cases c68:t120=true
           ·subst c68
            rw [if_pos rfl] at H
            obtain⟨t121,A69,H⟩:=bms H
            try dsimp only at H
            obtain rfl:=Option.some.inj H
            have hnb70:=NB112_111.out
            have hnc70:=NB111_112.out
            obtain⟨hcz71_0,hcz71_1,hcz71_2,hfz71_0,hfz71_1,hfz71_2⟩:=cf3 BK112.out
            go_wp2_with (first|(refine gl (some 69) 211 Try.func211 #[.int .i64 a1_1,.int .i64 0,.int .i64 8] (h:= ?_);(with_reducible refine(spec_l1In.calls a1_1 0 8 true _ A67.out).mono ?_);rintro e w' ⟨rfl,⟨nd,rfl⟩⟩;refine⟨_,rfl,?_⟩)|(go_at_call 279;(with_reducible refine(spec_l2Reg.calls a1_2 t121 _ A69.out).mono ?_);rintro e w' ⟨rfl,⟨nd,rfl⟩⟩))
            go_ret
            exact⟨zq3,zq53⟩
           ·replace c68:=Bool.eq_false_iff.mpr c68
            subst c68
            rw [if_neg (show ¬(false=true) by decide)] at H
            obtain rfl:=Option.some.inj H
            have hnb72:=NB112_111.out
            have hnc72:=NB111_112.out
            obtain⟨hcz73_0,hcz73_1,hcz73_2,hfz73_0,hfz73_1,hfz73_2⟩:=cf3 BK112.out
            go_wp2_with (first|(refine gl (some 69) 211 Try.func211 #[.int .i64 a1_1,.int .i64 0,.int .i64 8] (h:= ?_);(with_reducible refine(spec_l1In.calls a1_1 0 8 false _ A67.out).mono ?_);rintro e w' ⟨rfl,⟨nd,rfl⟩⟩;refine⟨_,rfl,?_⟩))
            go_ret
            exact⟨zq3,zq53⟩
          ·rw [if_neg c66] at H
           have c66b0:(a1_0==11)=false:=beq_eq_false_iff_ne.mpr c66
           have c66b1:(a1_0 != 11)=true:=bne_iff_ne.mpr c66
           obtain rfl:=Option.some.inj H
           go_wp2
           go_ret
           exact⟨zq3,zq53⟩
end Go.Proofs.Yteiafboknimgbaa.Pr
end
