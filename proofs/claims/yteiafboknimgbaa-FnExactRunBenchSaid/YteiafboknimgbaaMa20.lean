import Derived.Test.YteiafboknimgbaaMa19
set_option maxHeartbeats 8000000
set_option maxRecDepth 100000
set_option linter.unusedVariables false
set_option linter.unusedSimpArgs false
section
namespace Go.Proofs.Yteiafboknimgbaa.Pr
open Go.RowKit Go.Proofs.W.PrintWords Go.Proofs.W.PrintLast Go.Proofs.W.PrintMore
attribute [local go_sem] max2_int min2_int max_two min_two max_three min_three max_four min_four
def laws_eqOutcome.f(k:Nat)(a0_0:Int)(a0_1:Int)(l0_2:List (S63))(a0_3:Int)(a1_0:Int)(a1_1:Int)(l1_2:List (S63))(a1_3:Int):Option (Bool):=if a0_0=a1_0 then(if a0_1=a1_1 then((laws_eqEventS.f k l0_2 l1_2).bind fun t209=>(if t209=true then(if a0_3=a1_3 then(some true) else(some false)) else(some false))) else(some false)) else(some false)
theorem laws_eqOutcome.calls(k:Nat)(a0_0:Int)(a0_1:Int)(A0_2:Option Addr)(c0_2:Nat)(l0_2:List (S63))(a0_3:Int)(a1_0:Int)(a1_1:Int)(A1_2:Option Addr)(c1_2:Nat)(l1_2:List (S63))(a1_3:Int)(r:Bool)(w:World)(hr0_2:Kd.C k63 w A0_2 l0_2.length l0_2)(hc0_2:l0_2.length≤c0_2)(hr1_2:Kd.C k63 w A1_2 l1_2.length l1_2)(hc1_2:l1_2.length≤c1_2)(h:laws_eqOutcome.f k a0_0 a0_1 l0_2 a0_3 a1_0 a1_1 l1_2 a1_3=some r) :
  Calls Try.prog 19 #[.agg #[.int .i64 a0_0,.int .i64 a0_1,.slice A0_2 l0_2.length c0_2,.int .i64 a0_3],.agg #[.int .i64 a1_0,.int .i64 a1_1,.slice A1_2 l1_2.length c1_2,.int .i64 a1_3]] w fun e w'=>e= .returned (.bool r)∧Below w.heap.size w w':=by
 have hu30:=Try.underlying30
 have HR0_2:=am hr0_2
 have HC0_2:=am hc0_2
 clear hr0_2 hc0_2
 have HR1_2:=am hr1_2
 have HC1_2:=am hc1_2
 clear hr1_2 hc1_2
 have HB:=am (Below.refl w.heap.size w)
 have H:(if a0_0=a1_0 then(if a0_1=a1_1 then((laws_eqEventS.f k l0_2 l1_2).bind fun t209=>(if t209=true then(if a0_3=a1_3 then(some true) else(some false)) else(some false))) else(some false)) else(some false))=some r:=h
 clear h
 by_cases c3:a0_0=a1_0
 ·rw [if_pos c3] at H
  have c3b0:(a0_0==a1_0)=true:=beq_iff_eq.mpr c3
  have c3b1:(a0_0 != a1_0)=false:=bne_eq_false_iff_eq.mpr c3
  clear c3
  by_cases c4:a0_1=a1_1
  ·rw [if_pos c4] at H
   have c4b0:(a0_1==a1_1)=true:=beq_iff_eq.mpr c4
   have c4b1:(a0_1 != a1_1)=false:=bne_eq_false_iff_eq.mpr c4
   clear c4
   obtain⟨t209,A5,H⟩:=bms H
   try dsimp only at H
   by_cases c6:t209=true
   ·subst c6
    rw [if_pos rfl] at H
    by_cases c7:a0_3=a1_3
    ·rw [if_pos c7] at H
     have c7b0:(a0_3==a1_3)=true:=beq_iff_eq.mpr c7
     have c7b1:(a0_3 != a1_3)=false:=bne_eq_false_iff_eq.mpr c7
     clear c7
     obtain rfl:=Option.some.inj H
     go_enter Try.func19,Try.ntmps19
     go_wp2_with (first|(refine bx 2 #[.int .i64 a0_0,.int .i64 a0_1,.slice A0_2 l0_2.length c0_2,.int .i64 a0_3] 30 (h:= ?_);intro gb207 hg w8 hbox hb;have BK207:=am (hbox);have GE207:=am ((zq4:w.heap.size≤gb207));replace HB:=am (below_step zq0 hb);clear hb hbox hg)|(refine bx 3 #[.int .i64 a1_0,.int .i64 a1_1,.slice A1_2 l1_2.length c1_2,.int .i64 a1_3] 30 (h:= ?_);intro gb208 hg w9 hbox hb;have BK208:=am (hbox);have GE208:=am ((zq136:w.heap.size≤gb208));replace HB:=am (below_step zq29 hb);have NB207_208:=am ((zq33:gb207≠gb208));have NB208_207:=am ((zq34:gb208≠gb207));replace BK207:=am (blk_below (g:=gb207) (o:= .cells #[.int .i64 a0_0,.int .i64 a0_1,.slice A0_2 l0_2.length c0_2,.int .i64 a0_3] 30 (0,0)) zq28 hb);clear hb hbox hg;have hnb10:=NB207_208.out;have hnc10:=NB208_207.out;obtain⟨hcz11_0,hcz11_1,hcz11_2,hcz11_3,hfz11_0,hfz11_1,hfz11_2,hfz11_3⟩:=cf4 BK207.out;obtain⟨hcz12_0,hcz12_1,hcz12_2,hcz12_3,hfz12_0,hfz12_1,hfz12_2,hfz12_3⟩:=cf4 BK208.out)|(refine gl (some 19) 138 Try.func138 #[.slice A0_2 l0_2.length c0_2,.slice A1_2 l1_2.length c1_2] (h:= ?_);(with_reducible refine(laws_eqEventS.calls k _ _ l0_2 _ _ l1_2 true _ ?side1 ?side2 ?side3 ?side4 A5.out).mono ?_);(case side1=>exact zq38);(case side2=>exact HC0_2.out);(case side3=>exact zq39);(case side4=>exact HC1_2.out);rintro e w13 ⟨rfl,hb⟩;refine⟨_,rfl,?_⟩;replace BK207:=am (blk_below (g:=gb207) (o:= .cells #[.int .i64 a0_0,.int .i64 a0_1,.slice A0_2 l0_2.length c0_2,.int .i64 a0_3] 30 (0,0)) zq28 hb);replace BK208:=am (blk_below (g:=gb208) (o:= .cells #[.int .i64 a1_0,.int .i64 a1_1,.slice A1_2 l1_2.length c1_2,.int .i64 a1_3] 30 (0,0)) zq40 hb);replace HB:=am (below_step zq30 hb);(try clear hb);obtain⟨hcz14_0,hcz14_1,hcz14_2,hcz14_3,hfz14_0,hfz14_1,hfz14_2,hfz14_3⟩:=cf4 BK207.out;obtain⟨hcz15_0,hcz15_1,hcz15_2,hcz15_3,hfz15_0,hfz15_1,hfz15_2,hfz15_3⟩:=cf4 BK208.out))
     go_ret
     exact⟨zq3,zq30⟩
    ·rw [if_neg c7] at H
     have c7b0:(a0_3==a1_3)=false:=beq_eq_false_iff_ne.mpr c7
     have c7b1:(a0_3 != a1_3)=true:=bne_iff_ne.mpr c7
     obtain rfl:=Option.some.inj H
     go_enter Try.func19,Try.ntmps19
     go_wp2_with (first|(refine bx 2 #[.int .i64 a0_0,.int .i64 a0_1,.slice A0_2 l0_2.length c0_2,.int .i64 a0_3] 30 (h:= ?_);intro gb207 hg w16 hbox hb;have BK207:=am (hbox);have GE207:=am ((zq4:w.heap.size≤gb207));replace HB:=am (below_step zq0 hb);clear hb hbox hg)|(refine bx 3 #[.int .i64 a1_0,.int .i64 a1_1,.slice A1_2 l1_2.length c1_2,.int .i64 a1_3] 30 (h:= ?_);intro gb208 hg w17 hbox hb;have BK208:=am (hbox);have GE208:=am ((zq136:w.heap.size≤gb208));replace HB:=am (below_step zq29 hb);have NB207_208:=am ((zq33:gb207≠gb208));have NB208_207:=am ((zq34:gb208≠gb207));replace BK207:=am (blk_below (g:=gb207) (o:= .cells #[.int .i64 a0_0,.int .i64 a0_1,.slice A0_2 l0_2.length c0_2,.int .i64 a0_3] 30 (0,0)) zq28 hb);clear hb hbox hg;have hnb18:=NB207_208.out;have hnc18:=NB208_207.out;obtain⟨hcz19_0,hcz19_1,hcz19_2,hcz19_3,hfz19_0,hfz19_1,hfz19_2,hfz19_3⟩:=cf4 BK207.out;obtain⟨hcz20_0,hcz20_1,hcz20_2,hcz20_3,hfz20_0,hfz20_1,hfz20_2,hfz20_3⟩:=cf4 BK208.out)|(refine gl (some 19) 138 Try.func138 #[.slice A0_2 l0_2.length c0_2,.slice A1_2 l1_2.length c1_2] (h:= ?_);(with_reducible refine(laws_eqEventS.calls k _ _ l0_2 _ _ l1_2 true _ ?side1 ?side2 ?side3 ?side4 A5.out).mono ?_);(case side1=>exact zq38);(case side2=>exact HC0_2.out);(case side3=>exact zq39);(case side4=>exact HC1_2.out);rintro e w21 ⟨rfl,hb⟩;refine⟨_,rfl,?_⟩;replace BK207:=am (blk_below (g:=gb207) (o:= .cells #[.int .i64 a0_0,.int .i64 a0_1,.slice A0_2 l0_2.length c0_2,.int .i64 a0_3] 30 (0,0)) zq28 hb);replace BK208:=am (blk_below (g:=gb208) (o:= .cells #[.int .i64 a1_0,.int .i64 a1_1,.slice A1_2 l1_2.length c1_2,.int .i64 a1_3] 30 (0,0)) zq40 hb);replace HB:=am (below_step zq30 hb);(try clear hb);obtain⟨hcz22_0,hcz22_1,hcz22_2,hcz22_3,hfz22_0,hfz22_1,hfz22_2,hfz22_3⟩:=cf4 BK207.out;obtain⟨hcz23_0,hcz23_1,hcz23_2,hcz23_3,hfz23_0,hfz23_1,hfz23_2,hfz23_3⟩:=cf4 BK208.out))
     go_ret
     exact⟨zq3,zq30⟩
   ·replace c6:=Bool.eq_false_iff.mpr c6
    subst c6
    rw [if_neg (show ¬(false=true) by decide)] at H
    obtain rfl:=Option.some.inj H
    go_enter Try.func19,Try.ntmps19
    go_wp2_with (first|(refine bx 2 #[.int .i64 a0_0,.int .i64 a0_1,.slice A0_2 l0_2.length c0_2,.int .i64 a0_3] 30 (h:= ?_);intro gb207 hg w24 hbox hb;have BK207:=am (hbox);have GE207:=am ((zq4:w.heap.size≤gb207));replace HB:=am (below_step zq0 hb);clear hb hbox hg)|(refine bx 3 #[.int .i64 a1_0,.int .i64 a1_1,.slice A1_2 l1_2.length c1_2,.int .i64 a1_3] 30 (h:= ?_);intro gb208 hg w25 hbox hb;have BK208:=am (hbox);have GE208:=am ((zq136:w.heap.size≤gb208));replace HB:=am (below_step zq29 hb);have NB207_208:=am ((zq33:gb207≠gb208));have NB208_207:=am ((zq34:gb208≠gb207));replace BK207:=am (blk_below (g:=gb207) (o:= .cells #[.int .i64 a0_0,.int .i64 a0_1,.slice A0_2 l0_2.length c0_2,.int .i64 a0_3] 30 (0,0)) zq28 hb);clear hb hbox hg;have hnb26:=NB207_208.out;have hnc26:=NB208_207.out;obtain⟨hcz27_0,hcz27_1,hcz27_2,hcz27_3,hfz27_0,hfz27_1,hfz27_2,hfz27_3⟩:=cf4 BK207.out;obtain⟨hcz28_0,hcz28_1,hcz28_2,hcz28_3,hfz28_0,hfz28_1,hfz28_2,hfz28_3⟩:=cf4 BK208.out)|(refine gl (some 19) 138 Try.func138 #[.slice A0_2 l0_2.length c0_2,.slice A1_2 l1_2.length c1_2] (h:= ?_);(with_reducible refine(laws_eqEventS.calls k _ _ l0_2 _ _ l1_2 false _ ?side1 ?side2 ?side3 ?side4 A5.out).mono ?_);(case side1=>exact zq38);(case side2=>exact HC0_2.out);(case side3=>exact zq39);(case side4=>exact HC1_2.out);rintro e w29 ⟨rfl,hb⟩;refine⟨_,rfl,?_⟩;replace BK207:=am (blk_below (g:=gb207) (o:= .cells #[.int .i64 a0_0,.int .i64 a0_1,.slice A0_2 l0_2.length c0_2,.int .i64 a0_3] 30 (0,0)) zq28 hb);replace BK208:=am (blk_below (g:=gb208) (o:= .cells #[.int .i64 a1_0,.int .i64 a1_1,.slice A1_2 l1_2.length c1_2,.int .i64 a1_3] 30 (0,0)) zq40 hb);replace HB:=am (below_step zq30 hb);(try clear hb)))
    go_ret
    exact⟨zq3,zq30⟩
  ·rw [if_neg c4] at H
   have c4b0:(a0_1==a1_1)=false:=beq_eq_false_iff_ne.mpr c4
   have c4b1:(a0_1 != a1_1)=true:=bne_iff_ne.mpr c4
   obtain rfl:=Option.some.inj H
   go_enter Try.func19,Try.ntmps19
   go_wp2_with (first|(refine bx 2 #[.int .i64 a0_0,.int .i64 a0_1,.slice A0_2 l0_2.length c0_2,.int .i64 a0_3] 30 (h:= ?_);intro gb207 hg w30 hbox hb;have BK207:=am (hbox);have GE207:=am ((zq4:w.heap.size≤gb207));replace HB:=am (below_step zq0 hb);clear hb hbox hg)|(refine bx 3 #[.int .i64 a1_0,.int .i64 a1_1,.slice A1_2 l1_2.length c1_2,.int .i64 a1_3] 30 (h:= ?_);intro gb208 hg w31 hbox hb;have BK208:=am (hbox);have GE208:=am ((zq136:w.heap.size≤gb208));replace HB:=am (below_step zq29 hb);have NB207_208:=am ((zq33:gb207≠gb208));have NB208_207:=am ((zq34:gb208≠gb207));replace BK207:=am (blk_below (g:=gb207) (o:= .cells #[.int .i64 a0_0,.int .i64 a0_1,.slice A0_2 l0_2.length c0_2,.int .i64 a0_3] 30 (0,0)) zq28 hb);clear hb hbox hg;have hnb32:=NB207_208.out;have hnc32:=NB208_207.out;obtain⟨hcz33_0,hcz33_1,hcz33_2,hcz33_3,hfz33_0,hfz33_1,hfz33_2,hfz33_3⟩:=cf4 BK207.out;obtain⟨hcz34_0,hcz34_1,hcz34_2,hcz34_3,hfz34_0,hfz34_1,hfz34_2,hfz34_3⟩:=cf4 BK208.out))
   go_ret
   exact⟨zq3,zq30⟩
 ·rw [if_neg c3] at H
  have c3b0:(a0_0==a1_0)=false:=beq_eq_false_iff_ne.mpr c3
  have c3b1:(a0_0 != a1_0)=true:=bne_iff_ne.mpr c3
  obtain rfl:=Option.some.inj H
  go_enter Try.func19,Try.ntmps19
  go_wp2_with (first|(refine bx 2 #[.int .i64 a0_0,.int .i64 a0_1,.slice A0_2 l0_2.length c0_2,.int .i64 a0_3] 30 (h:= ?_);intro gb207 hg w35 hbox hb;have BK207:=am (hbox);have GE207:=am ((zq4:w.heap.size≤gb207));replace HB:=am (below_step zq0 hb);clear hb hbox hg)|(refine bx 3 #[.int .i64 a1_0,.int .i64 a1_1,.slice A1_2 l1_2.length c1_2,.int .i64 a1_3] 30 (h:= ?_);intro gb208 hg w36 hbox hb;have BK208:=am (hbox);have GE208:=am ((zq136:w.heap.size≤gb208));replace HB:=am (below_step zq29 hb);have NB207_208:=am ((zq33:gb207≠gb208));have NB208_207:=am ((zq34:gb208≠gb207));replace BK207:=am (blk_below (g:=gb207) (o:= .cells #[.int .i64 a0_0,.int .i64 a0_1,.slice A0_2 l0_2.length c0_2,.int .i64 a0_3] 30 (0,0)) zq28 hb);clear hb hbox hg;have hnb37:=NB207_208.out;have hnc37:=NB208_207.out;obtain⟨hcz38_0,hcz38_1,hcz38_2,hcz38_3,hfz38_0,hfz38_1,hfz38_2,hfz38_3⟩:=cf4 BK207.out;obtain⟨hcz39_0,hcz39_1,hcz39_2,hcz39_3,hfz39_0,hfz39_1,hfz39_2,hfz39_3⟩:=cf4 BK208.out))
  go_ret
  exact⟨zq3,zq30⟩
def laws_eqStep.f(a0_0:Int)(a0_1:Int)(a0_2:Int)(a1_0:Int)(a1_1:Int)(a1_2:Int):Option (Bool):=if a0_0=a1_0 then(if a0_1=a1_1 then(if a0_2=a1_2 then(some true) else(some false)) else(some false)) else(some false)
theorem laws_eqStep.calls(a0_0:Int)(a0_1:Int)(a0_2:Int)(a1_0:Int)(a1_1:Int)(a1_2:Int)(r:Bool)(w:World)(h:laws_eqStep.f a0_0 a0_1 a0_2 a1_0 a1_1 a1_2=some r) :
  Calls Try.prog 273 #[.agg #[.int .i64 a0_0,.int .i64 a0_1,.int .i64 a0_2],.agg #[.int .i64 a1_0,.int .i64 a1_1,.int .i64 a1_2]] w fun e w'=>e= .returned (.bool r)∧Below w.heap.size w w':=by
 have hu219:=Try.underlying219
 have HB:=am (Below.refl w.heap.size w)
 have H:(if a0_0=a1_0 then(if a0_1=a1_1 then(if a0_2=a1_2 then(some true) else(some false)) else(some false)) else(some false))=some r:=h
 clear h
 by_cases c3:a0_0=a1_0
 ·rw [if_pos c3] at H
  have c3b0:(a0_0==a1_0)=true:=beq_iff_eq.mpr c3
  have c3b1:(a0_0 != a1_0)=false:=bne_eq_false_iff_eq.mpr c3
  clear c3
  by_cases c4:a0_1=a1_1
  ·rw [if_pos c4] at H
   have c4b0:(a0_1==a1_1)=true:=beq_iff_eq.mpr c4
   have c4b1:(a0_1 != a1_1)=false:=bne_eq_false_iff_eq.mpr c4
   clear c4
   by_cases c5:a0_2=a1_2
   ·rw [if_pos c5] at H
    have c5b0:(a0_2==a1_2)=true:=beq_iff_eq.mpr c5
    have c5b1:(a0_2 != a1_2)=false:=bne_eq_false_iff_eq.mpr c5
    clear c5
    obtain rfl:=Option.some.inj H
    go_enter Try.func273,Try.ntmps273
    go_wp2_with (first|(refine bx 2 #[.int .i64 a0_0,.int .i64 a0_1,.int .i64 a0_2] 219 (h:= ?_);intro gb210 hg w6 hbox hb;have BK210:=am (hbox);have GE210:=am ((zq4:w.heap.size≤gb210));replace HB:=am (below_step zq0 hb);clear hb hbox hg)|(refine bx 3 #[.int .i64 a1_0,.int .i64 a1_1,.int .i64 a1_2] 219 (h:= ?_);intro gb211 hg w7 hbox hb;have BK211:=am (hbox);have GE211:=am ((by rw [hg];exact(below_size zq32):w.heap.size≤gb211));replace HB:=am (below_step zq32 hb);have NB210_211:=am ((zq36:gb210≠gb211));have NB211_210:=am ((zq37:gb211≠gb210));replace BK210:=am (blk_below (g:=gb210) (o:= .cells #[.int .i64 a0_0,.int .i64 a0_1,.int .i64 a0_2] 219 (0,0)) zq31 hb);clear hb hbox hg;have hnb8:=NB210_211.out;have hnc8:=NB211_210.out;obtain⟨hcz9_0,hcz9_1,hcz9_2,hfz9_0,hfz9_1,hfz9_2⟩:=cf3 BK210.out;obtain⟨hcz10_0,hcz10_1,hcz10_2,hfz10_0,hfz10_1,hfz10_2⟩:=cf3 BK211.out))
    go_ret
    exact⟨zq3,zq35⟩
   ·rw [if_neg c5] at H
    have c5b0:(a0_2==a1_2)=false:=beq_eq_false_iff_ne.mpr c5
    have c5b1:(a0_2 != a1_2)=true:=bne_iff_ne.mpr c5
    obtain rfl:=Option.some.inj H
    go_enter Try.func273,Try.ntmps273
    go_wp2_with (first|(refine bx 2 #[.int .i64 a0_0,.int .i64 a0_1,.int .i64 a0_2] 219 (h:= ?_);intro gb210 hg w11 hbox hb;have BK210:=am (hbox);have GE210:=am ((zq4:w.heap.size≤gb210));replace HB:=am (below_step zq0 hb);clear hb hbox hg)|(refine bx 3 #[.int .i64 a1_0,.int .i64 a1_1,.int .i64 a1_2] 219 (h:= ?_);intro gb211 hg w12 hbox hb;have BK211:=am (hbox);have GE211:=am ((by rw [hg];exact(below_size zq32):w.heap.size≤gb211));replace HB:=am (below_step zq32 hb);have NB210_211:=am ((zq36:gb210≠gb211));have NB211_210:=am ((zq37:gb211≠gb210));replace BK210:=am (blk_below (g:=gb210) (o:= .cells #[.int .i64 a0_0,.int .i64 a0_1,.int .i64 a0_2] 219 (0,0)) zq31 hb);clear hb hbox hg;have hnb13:=NB210_211.out;have hnc13:=NB211_210.out;obtain⟨hcz14_0,hcz14_1,hcz14_2,hfz14_0,hfz14_1,hfz14_2⟩:=cf3 BK210.out;obtain⟨hcz15_0,hcz15_1,hcz15_2,hfz15_0,hfz15_1,hfz15_2⟩:=cf3 BK211.out))
    go_ret
    exact⟨zq3,zq35⟩
  ·rw [if_neg c4] at H
   have c4b0:(a0_1==a1_1)=false:=beq_eq_false_iff_ne.mpr c4
   have c4b1:(a0_1 != a1_1)=true:=bne_iff_ne.mpr c4
   obtain rfl:=Option.some.inj H
   go_enter Try.func273,Try.ntmps273
   go_wp2_with (first|(refine bx 2 #[.int .i64 a0_0,.int .i64 a0_1,.int .i64 a0_2] 219 (h:= ?_);intro gb210 hg w16 hbox hb;have BK210:=am (hbox);have GE210:=am ((zq4:w.heap.size≤gb210));replace HB:=am (below_step zq0 hb);clear hb hbox hg)|(refine bx 3 #[.int .i64 a1_0,.int .i64 a1_1,.int .i64 a1_2] 219 (h:= ?_);intro gb211 hg w17 hbox hb;have BK211:=am (hbox);have GE211:=am ((by rw [hg];exact(below_size zq32):w.heap.size≤gb211));replace HB:=am (below_step zq32 hb);have NB210_211:=am ((zq36:gb210≠gb211));have NB211_210:=am ((zq37:gb211≠gb210));replace BK210:=am (blk_below (g:=gb210) (o:= .cells #[.int .i64 a0_0,.int .i64 a0_1,.int .i64 a0_2] 219 (0,0)) zq31 hb);clear hb hbox hg;have hnb18:=NB210_211.out;have hnc18:=NB211_210.out;obtain⟨hcz19_0,hcz19_1,hcz19_2,hfz19_0,hfz19_1,hfz19_2⟩:=cf3 BK210.out;obtain⟨hcz20_0,hcz20_1,hcz20_2,hfz20_0,hfz20_1,hfz20_2⟩:=cf3 BK211.out))
   go_ret
   exact⟨zq3,zq35⟩
 ·rw [if_neg c3] at H
  have c3b0:(a0_0==a1_0)=false:=beq_eq_false_iff_ne.mpr c3
  have c3b1:(a0_0 != a1_0)=true:=bne_iff_ne.mpr c3
  obtain rfl:=Option.some.inj H
  go_enter Try.func273,Try.ntmps273
  go_wp2_with (first|(refine bx 2 #[.int .i64 a0_0,.int .i64 a0_1,.int .i64 a0_2] 219 (h:= ?_);intro gb210 hg w21 hbox hb;have BK210:=am (hbox);have GE210:=am ((zq4:w.heap.size≤gb210));replace HB:=am (below_step zq0 hb);clear hb hbox hg)|(refine bx 3 #[.int .i64 a1_0,.int .i64 a1_1,.int .i64 a1_2] 219 (h:= ?_);intro gb211 hg w22 hbox hb;have BK211:=am (hbox);have GE211:=am ((by rw [hg];exact(below_size zq32):w.heap.size≤gb211));replace HB:=am (below_step zq32 hb);have NB210_211:=am ((zq36:gb210≠gb211));have NB211_210:=am ((zq37:gb211≠gb210));replace BK210:=am (blk_below (g:=gb210) (o:= .cells #[.int .i64 a0_0,.int .i64 a0_1,.int .i64 a0_2] 219 (0,0)) zq31 hb);clear hb hbox hg;have hnb23:=NB210_211.out;have hnc23:=NB211_210.out;obtain⟨hcz24_0,hcz24_1,hcz24_2,hfz24_0,hfz24_1,hfz24_2⟩:=cf3 BK210.out;obtain⟨hcz25_0,hcz25_1,hcz25_2,hfz25_0,hfz25_1,hfz25_2⟩:=cf3 BK211.out))
  go_ret
  exact⟨zq3,zq35⟩
def laws_eqStepS.l0:Nat→List (S219)→List (S219)→Int→Option (Bool)
 |0,_,_,_=>none
 |k+1,x0,x1,x5=>if x5<(x0.length:Int) then(if 0≤x5 then(if x5<(x1.length:Int) then((laws_eqStep.f ((rd_T219 x0 x5).f0) ((rd_T219 x0 x5).f1) ((rd_T219 x0 x5).f2) ((rd_T219 x1 x5).f0) ((rd_T219 x1 x5).f1) ((rd_T219 x1 x5).f2)).bind fun t214=>(if t214=true then(laws_eqStepS.l0 k x0 x1 (wrap64 (x5+1))) else(some false))) else(none)) else(none)) else(some true)
def laws_eqStepS.f(k:Nat)(l0:List (S219))(l1:List (S219)):Option (Bool):=if(l0.length:Int)=(l1.length:Int) then(laws_eqStepS.l0 k l0 l1 0) else(some false)
def laws_eqStepS.T6:Bool×List (List Nat×List Nat):=(true,[([],[]),([],[]),([0,1],[0,1]),([2],[2]),([],[]),([],[]),([4,5],[4,5]),([6],[6]),([3,7],[3,7]),([8],[8])])
def laws_eqStepS.B6:List Nat:= [0,0,3,7,0,0,48,112,255,511]
theorem laws_eqStepS.tab6:rtab .any (opsOf Try.f231 6)=laws_eqStepS.T6:=by kernel_rfl
theorem laws_eqStepS.bits6:waitsOk laws_eqStepS.T6.2 laws_eqStepS.B6=true:=by kernel_rfl
theorem laws_eqStepS.calls(k:Nat)(A0:Option Addr)(c0:Nat)(l0:List (S219))(A1:Option Addr)(c1:Nat)(l1:List (S219))(r:Bool)(w:World)(hr0:Kd.C k219 w A0 l0.length l0)(hc0:l0.length≤c0)(hr1:Kd.C k219 w A1 l1.length l1)(hc1:l1.length≤c1)(h:laws_eqStepS.f k l0 l1=some r) :
  Calls Try.prog 231 #[.slice A0 l0.length c0,.slice A1 l1.length c1] w fun e w'=>e= .returned (.bool r)∧Below w.heap.size w w':=by
 have hu219:=Try.underlying219
 have HR0:=am hr0
 have HC0:=am hc0
 clear hr0 hc0
 have HR1:=am hr1
 have HC1:=am hc1
 clear hr1 hc1
 have HB:=am (Below.refl w.heap.size w)
 have H:(if(l0.length:Int)=(l1.length:Int) then(laws_eqStepS.l0 k l0 l1 0) else(some false))=some r:=h
 clear h
 by_cases c3:(l0.length:Int)=(l1.length:Int)
 ·rw [if_pos c3] at H
  have c3b0:((l0.length:Int)==(l1.length:Int))=true:=beq_iff_eq.mpr c3
  have c3b1:((l0.length:Int) !=(l1.length:Int))=false:=bne_eq_false_iff_eq.mpr c3
  have c3b2:(l0.length==l1.length)=true:=by first|simpa using c3|(simp at c3 ⊢;omega)
  clear c3
  have H':=am H
  clear H
  go_enter Try.func231,Try.ntmps231
  go_wp2
  go_loopg [5] k (fun kq v5 w'=> ∃ (x5_1:Int),v5= .int .i64 x5_1∧Aside0 (laws_eqStepS.l0 kq l0 l1 x5_1=some r)∧Aside0 (kq≤k)∧Aside0 (Below w.heap.size w w'))
  case atStart=>exact⟨(0),zq8,H',⟨Nat.le_refl _⟩,⟨zq0⟩⟩
  case round =>
   clear H'
   try clear c1
   try clear c2
   try clear p2
   try clear c3
   try clear c3b0
   try clear c3b1
   try clear c3b2
   obtain⟨x5_1,rfl,HA,HK1,HB⟩:=hrel
   cases gk with
   |zero=>exact absurd HA.out (by simp [laws_eqStepS.l0])
   |succ k1 =>
    have H:=HA.out
    clear HA
    simp only [laws_eqStepS.l0] at H
    by_cases c4:x5_1<(l0.length:Int)
    ·rw [if_pos c4] at H
     have c4b0:decide (x5_1<(l0.length:Int))=true:=decide_eq_true c4
     clear c4
     by_cases c5:0≤x5_1
     ·rw [if_pos c5] at H
      have c5b0:decide (0≤x5_1)=true:=decide_eq_true c5
      clear c5
      by_cases c6:x5_1<(l1.length:Int)
      ·rw [if_pos c6] at H
       have c6b0:decide (x5_1<(l1.length:Int))=true:=decide_eq_true c6
       clear c6
       obtain⟨t214,A7,H⟩:=bms H
       try dsimp only at H
       by_cases c8:t214=true
       ·subst c8
        rw [if_pos rfl] at H
        have H':=am H
        clear H
        try go_wp2
        replace HB:=am (below_drew1 HB.out)
        have p212:0≤(x5_1:Int):=of_decide_eq_true zq26
        have q212:x5_1<(l0.length:Int):=of_decide_eq_true zq26
        obtain⟨ad212,e212,hx212_0,hx212_1,hx212_2⟩:=at_T219 HR0.out x5_1 p212 q212
        have hw212_2:=hx212_2
        have hw212_1:=hx212_1
        have hw212_0:=hx212_0
        cases e212
        replace hx212_0:=cb HB hx212_0
        replace hx212_1:=cb HB hx212_1
        replace hx212_2:=cb HB hx212_2
        replace p212:=eq_true p212
        replace q212:=eq_true q212
        have p213:0≤(x5_1:Int):=of_decide_eq_true zq26
        have q213:x5_1<(l1.length:Int):=of_decide_eq_true zq26
        obtain⟨ad213,e213,hx213_0,hx213_1,hx213_2⟩:=at_T219 HR1.out x5_1 p213 q213
        have hw213_2:=hx213_2
        have hw213_1:=hx213_1
        have hw213_0:=hx213_0
        cases e213
        replace hx213_0:=cb HB hx213_0
        replace hx213_1:=cb HB hx213_1
        replace hx213_2:=cb HB hx213_2
        replace p213:=eq_true p213
        replace q213:=eq_true q213
        refine start_ (n:=10) (S:=fun w'=>w'.cell? (ad212.add ((x5_1).toNat*3))=some (.int .i64 ((rd_T219 l0 x5_1).f0))∧w'.cell? ⟨(ad212.add ((x5_1).toNat*3)).block,(ad212.add ((x5_1).toNat*3)).off+1,none⟩=some (.int .i64 ((rd_T219 l0 x5_1).f1))∧w'.cell? ⟨(ad212.add ((x5_1).toNat*3)).block,(ad212.add ((x5_1).toNat*3)).off+2,none⟩=some (.int .i64 ((rd_T219 l0 x5_1).f2))∧w'.cell? (ad213.add ((x5_1).toNat*3))=some (.int .i64 ((rd_T219 l1 x5_1).f0))∧w'.cell? ⟨(ad213.add ((x5_1).toNat*3)).block,(ad213.add ((x5_1).toNat*3)).off+1,none⟩=some (.int .i64 ((rd_T219 l1 x5_1).f1))∧w'.cell? ⟨(ad213.add ((x5_1).toNat*3)).block,(ad213.add ((x5_1).toNat*3)).off+2,none⟩=some (.int .i64 ((rd_T219 l1 x5_1).f2))) (ds:= []) (bb 10 0) zq27 rfl rfl ⟨(cb HB hw212_0),(cb HB hw212_1),(cb HB hw212_2),(cb HB hw213_0),(cb HB hw213_1),(cb HB hw213_2)⟩ (fun hHeld=> ?_);refine with_tabW laws_eqStepS.tab6 laws_eqStepS.bits6 (fun HT_ HW_=> ?_)
        generalize wr.drew=w9 at HB hx212_0 hx212_1 hx212_2 hx213_0 hx213_1 hx213_2 hHeld ⊢
        refine pu 0 17 (bb 10 1) (any_of HT_.out zq27) (h:= ?_)
        refine pu 1 18 (bb 10 3) (any_of HT_.out zq27) (h:= ?_)
        refine pu 2 19 (bb 10 7) (any_of HT_.out zq27) (h:= ?_)
        refine pu 4 21 (bb 10 23) (any_of HT_.out zq27) (h:= ?_)
        refine pu 5 22 (bb 10 55) (any_of HT_.out zq27) (h:= ?_)
        refine pu 6 23 (bb 10 119) (any_of HT_.out zq27) (h:= ?_)
        refine tk 3 20 (bb 10 127) (take_ofW HT_.out HW_.out zq27) hHeld (h:= ?_)
        refine tk 7 24 (bb 10 255) (take_ofW HT_.out HW_.out zq27) hHeld (h:= ?_)
        refine oe 8 (some 25) (bb 10 511) (one_of HT_.out zq27) (h:=fun K hK=> ?_)
        refine goes_ Try.func273 zq27 rfl #[.agg #[.int .i64 ((rd_T219 l0 x5_1).f0),.int .i64 ((rd_T219 l0 x5_1).f1),.int .i64 ((rd_T219 l0 x5_1).f2)],.agg #[.int .i64 ((rd_T219 l1 x5_1).f0),.int .i64 ((rd_T219 l1 x5_1).f1),.int .i64 ((rd_T219 l1 x5_1).f2)]] (by rfl) rfl rfl zq86 ?_
        with_reducible refine(laws_eqStep.calls ((rd_T219 l0 x5_1).f0) ((rd_T219 l0 x5_1).f1) ((rd_T219 l0 x5_1).f2) ((rd_T219 l1 x5_1).f0) ((rd_T219 l1 x5_1).f1) ((rd_T219 l1 x5_1).f2) true _ A7.out).mono ?_
        rintro e w10 ⟨rfl,hb⟩
        refine⟨_,rfl,?_⟩
        replace HB:=am (below_step zq0 hb)
        (try clear hb)
        (try clear hb2)
        (try clear hk)
        (try clear hi)
        refine hK.out _ _ ⟨(cb HB hw212_0),(cb HB hw212_1),(cb HB hw212_2),(cb HB hw213_0),(cb HB hw213_1),(cb HB hw213_2)⟩ (fun hHeld=> ?_)
        clear hK K
        refine nm 25 (h:= ?_)
        refine pu 9 26 (bb 10 1023) (any_of HT_.out zq27) (h:= ?_)
        refine done_ (done_of HT_.out zq27) ?_
        try go_wp2
        go_roundg k1
        case measure=>have:=HK1.out;omega
        case rel=>exact⟨(wrap64 (x5_1+1)),zq8,H',⟨zq110⟩,⟨zq0⟩⟩
       ·replace c8:=Bool.eq_false_iff.mpr c8
        subst c8
        rw [if_neg (show ¬(false=true) by decide)] at H
        obtain rfl:=Option.some.inj H
        try go_wp2
        replace HB:=am (below_drew1 HB.out)
        have p212:0≤(x5_1:Int):=of_decide_eq_true zq26
        have q212:x5_1<(l0.length:Int):=of_decide_eq_true zq26
        obtain⟨ad212,e212,hx212_0,hx212_1,hx212_2⟩:=at_T219 HR0.out x5_1 p212 q212
        have hw212_2:=hx212_2
        have hw212_1:=hx212_1
        have hw212_0:=hx212_0
        cases e212
        replace hx212_0:=cb HB hx212_0
        replace hx212_1:=cb HB hx212_1
        replace hx212_2:=cb HB hx212_2
        replace p212:=eq_true p212
        replace q212:=eq_true q212
        have p213:0≤(x5_1:Int):=of_decide_eq_true zq26
        have q213:x5_1<(l1.length:Int):=of_decide_eq_true zq26
        obtain⟨ad213,e213,hx213_0,hx213_1,hx213_2⟩:=at_T219 HR1.out x5_1 p213 q213
        have hw213_2:=hx213_2
        have hw213_1:=hx213_1
        have hw213_0:=hx213_0
        cases e213
        replace hx213_0:=cb HB hx213_0
        replace hx213_1:=cb HB hx213_1
        replace hx213_2:=cb HB hx213_2
        replace p213:=eq_true p213
        replace q213:=eq_true q213
        refine start_ (n:=10) (S:=fun w'=>w'.cell? (ad212.add ((x5_1).toNat*3))=some (.int .i64 ((rd_T219 l0 x5_1).f0))∧w'.cell? ⟨(ad212.add ((x5_1).toNat*3)).block,(ad212.add ((x5_1).toNat*3)).off+1,none⟩=some (.int .i64 ((rd_T219 l0 x5_1).f1))∧w'.cell? ⟨(ad212.add ((x5_1).toNat*3)).block,(ad212.add ((x5_1).toNat*3)).off+2,none⟩=some (.int .i64 ((rd_T219 l0 x5_1).f2))∧w'.cell? (ad213.add ((x5_1).toNat*3))=some (.int .i64 ((rd_T219 l1 x5_1).f0))∧w'.cell? ⟨(ad213.add ((x5_1).toNat*3)).block,(ad213.add ((x5_1).toNat*3)).off+1,none⟩=some (.int .i64 ((rd_T219 l1 x5_1).f1))∧w'.cell? ⟨(ad213.add ((x5_1).toNat*3)).block,(ad213.add ((x5_1).toNat*3)).off+2,none⟩=some (.int .i64 ((rd_T219 l1 x5_1).f2))) (ds:= []) (bb 10 0) zq27 rfl rfl ⟨(cb HB hw212_0),(cb HB hw212_1),(cb HB hw212_2),(cb HB hw213_0),(cb HB hw213_1),(cb HB hw213_2)⟩ (fun hHeld=> ?_);refine with_tabW laws_eqStepS.tab6 laws_eqStepS.bits6 (fun HT_ HW_=> ?_)
        generalize wr.drew=w11 at HB hx212_0 hx212_1 hx212_2 hx213_0 hx213_1 hx213_2 hHeld ⊢
        refine pu 0 17 (bb 10 1) (any_of HT_.out zq27) (h:= ?_)
        refine pu 1 18 (bb 10 3) (any_of HT_.out zq27) (h:= ?_)
        refine pu 2 19 (bb 10 7) (any_of HT_.out zq27) (h:= ?_)
        refine pu 4 21 (bb 10 23) (any_of HT_.out zq27) (h:= ?_)
        refine pu 5 22 (bb 10 55) (any_of HT_.out zq27) (h:= ?_)
        refine pu 6 23 (bb 10 119) (any_of HT_.out zq27) (h:= ?_)
        refine tk 3 20 (bb 10 127) (take_ofW HT_.out HW_.out zq27) hHeld (h:= ?_)
        refine tk 7 24 (bb 10 255) (take_ofW HT_.out HW_.out zq27) hHeld (h:= ?_)
        refine oe 8 (some 25) (bb 10 511) (one_of HT_.out zq27) (h:=fun K hK=> ?_)
        refine goes_ Try.func273 zq27 rfl #[.agg #[.int .i64 ((rd_T219 l0 x5_1).f0),.int .i64 ((rd_T219 l0 x5_1).f1),.int .i64 ((rd_T219 l0 x5_1).f2)],.agg #[.int .i64 ((rd_T219 l1 x5_1).f0),.int .i64 ((rd_T219 l1 x5_1).f1),.int .i64 ((rd_T219 l1 x5_1).f2)]] (by rfl) rfl rfl zq86 ?_
        with_reducible refine(laws_eqStep.calls ((rd_T219 l0 x5_1).f0) ((rd_T219 l0 x5_1).f1) ((rd_T219 l0 x5_1).f2) ((rd_T219 l1 x5_1).f0) ((rd_T219 l1 x5_1).f1) ((rd_T219 l1 x5_1).f2) false _ A7.out).mono ?_
        rintro e w12 ⟨rfl,hb⟩
        refine⟨_,rfl,?_⟩
        replace HB:=am (below_step zq0 hb)
        (try clear hb)
        (try clear hb2)
        (try clear hk)
        (try clear hi)
        refine hK.out _ _ ⟨(cb HB hw212_0),(cb HB hw212_1),(cb HB hw212_2),(cb HB hw213_0),(cb HB hw213_1),(cb HB hw213_2)⟩ (fun hHeld=> ?_)
        clear hK K
        refine nm 25 (h:= ?_)
        refine pu 9 26 (bb 10 1023) (any_of HT_.out zq27) (h:= ?_)
        refine done_ (done_of HT_.out zq27) ?_
        try go_wp2
        go_ret
        exact⟨zq3,zq0⟩
      ·rw [if_neg c6] at H
       exact absurd H (by simp)
     ·rw [if_neg c5] at H
      exact absurd H (by simp)
    ·rw [if_neg c4] at H
     have c4b0:decide (x5_1<(l0.length:Int))=false:=decide_eq_false c4
     clear c4
     obtain rfl:=Option.some.inj H
     go_wp2
     go_ret
     exact⟨zq3,zq0⟩
 ·rw [if_neg c3] at H
  have c3b0:((l0.length:Int)==(l1.length:Int))=false:=beq_eq_false_iff_ne.mpr c3
  have c3b1:((l0.length:Int) !=(l1.length:Int))=true:=bne_iff_ne.mpr c3
  have c3b2:(l0.length==l1.length)=false:=by first|simpa using c3|(simp at c3 ⊢;omega)
  obtain rfl:=Option.some.inj H
  go_enter Try.func231,Try.ntmps231
  go_wp2
  go_ret
  exact⟨zq3,zq0⟩
def laws_eqStepSS.l0:Nat→List (List (S219))→List (List (S219))→Int→Option (Bool)
 |0,_,_,_=>none
 |k+1,x0,x1,x5=>if x5<(x0.length:Int) then(if 0≤x5 then(if x5<(x1.length:Int) then((laws_eqStepS.f k (rd_L4 x0 x5) (rd_L4 x1 x5)).bind fun t217=>(if t217=true then(laws_eqStepSS.l0 k x0 x1 (wrap64 (x5+1))) else(some false))) else(none)) else(none)) else(some true)
def laws_eqStepSS.f(k:Nat)(l0:List (List (S219)))(l1:List (List (S219))):Option (Bool):=if(l0.length:Int)=(l1.length:Int) then(laws_eqStepSS.l0 k l0 l1 0) else(some false)
def laws_eqStepSS.T6:Bool×List (List Nat×List Nat):=(true,[([],[]),([],[]),([0,1],[0,1]),([2],[2]),([],[]),([],[]),([4,5],[4,5]),([6],[6]),([3,7],[3,7]),([8],[8])])
def laws_eqStepSS.B6:List Nat:= [0,0,3,7,0,0,48,112,255,511]
theorem laws_eqStepSS.tab6:rtab .any (opsOf Try.f148 6)=laws_eqStepSS.T6:=by kernel_rfl
theorem laws_eqStepSS.bits6:waitsOk laws_eqStepSS.T6.2 laws_eqStepSS.B6=true:=by kernel_rfl
theorem laws_eqStepSS.calls(k:Nat)(A0:Option Addr)(c0:Nat)(l0:List (List (S219)))(A1:Option Addr)(c1:Nat)(l1:List (List (S219)))(r:Bool)(w:World)(hr0:Kd.C (Kd.slice 219 k219) w A0 l0.length l0)(hc0:l0.length≤c0)(hr1:Kd.C (Kd.slice 219 k219) w A1 l1.length l1)(hc1:l1.length≤c1)(h:laws_eqStepSS.f k l0 l1=some r) :
  Calls Try.prog 148 #[.slice A0 l0.length c0,.slice A1 l1.length c1] w fun e w'=>e= .returned (.bool r)∧Below w.heap.size w w':=by
 have HR0:=am hr0
 have HC0:=am hc0
 clear hr0 hc0
 have HR1:=am hr1
 have HC1:=am hc1
 clear hr1 hc1
 have HB:=am (Below.refl w.heap.size w)
 have H:(if(l0.length:Int)=(l1.length:Int) then(laws_eqStepSS.l0 k l0 l1 0) else(some false))=some r:=h
 clear h
 by_cases c3:(l0.length:Int)=(l1.length:Int)
 ·rw [if_pos c3] at H
  have c3b0:((l0.length:Int)==(l1.length:Int))=true:=beq_iff_eq.mpr c3
  have c3b1:((l0.length:Int) !=(l1.length:Int))=false:=bne_eq_false_iff_eq.mpr c3
  have c3b2:(l0.length==l1.length)=true:=by first|simpa using c3|(simp at c3 ⊢;omega)
  clear c3
  have H':=am H
  clear H
  go_enter Try.func148,Try.ntmps148
  go_wp2
  go_loopg [5] k (fun kq v5 w'=> ∃ (x5_1:Int),v5= .int .i64 x5_1∧Aside0 (laws_eqStepSS.l0 kq l0 l1 x5_1=some r)∧Aside0 (kq≤k)∧Aside0 (Below w.heap.size w w'))
  case atStart=>exact⟨(0),zq8,H',⟨Nat.le_refl _⟩,⟨zq0⟩⟩
  case round =>
   clear H'
   try clear c1
   try clear p2
   try clear c3
   try clear c3b0
   try clear c3b1
   try clear c3b2
   obtain⟨x5_1,rfl,HA,HK1,HB⟩:=hrel
   cases gk with
   |zero=>exact absurd HA.out (by simp [laws_eqStepSS.l0])
   |succ k1 =>
    have H:=HA.out
    clear HA
    simp only [laws_eqStepSS.l0] at H
    by_cases c4:x5_1<(l0.length:Int)
    ·rw [if_pos c4] at H
     have c4b0:decide (x5_1<(l0.length:Int))=true:=decide_eq_true c4
     clear c4
     by_cases c5:0≤x5_1
     ·rw [if_pos c5] at H
      have c5b0:decide (0≤x5_1)=true:=decide_eq_true c5
      clear c5
      by_cases c6:x5_1<(l1.length:Int)
      ·rw [if_pos c6] at H
       have c6b0:decide (x5_1<(l1.length:Int))=true:=decide_eq_true c6
       clear c6
       obtain⟨t217,A7,H⟩:=bms H
       try dsimp only at H
       by_cases c8:t217=true
       ·subst c8
        rw [if_pos rfl] at H
        have H':=am H
        clear H
        try go_wp2
        replace HB:=am (below_drew1 HB.out)
        have p215:0≤(x5_1:Int):=of_decide_eq_true zq26
        have q215:x5_1<(l0.length:Int):=of_decide_eq_true zq26
        obtain⟨ad215,A215_0,c215_0,e215,hx215_0,hl215_0,hi215_0⟩:=at_L4 HR0.out x5_1 p215 q215
        have hw215_0:=hx215_0
        cases e215
        replace hx215_0:=cb HB hx215_0
        have HR215_0:=am hi215_0
        have HC215_0:=am hl215_0
        clear hi215_0 hl215_0
        replace p215:=eq_true p215
        replace q215:=eq_true q215
        have p216:0≤(x5_1:Int):=of_decide_eq_true zq26
        have q216:x5_1<(l1.length:Int):=of_decide_eq_true zq26
        obtain⟨ad216,A216_0,c216_0,e216,hx216_0,hl216_0,hi216_0⟩:=at_L4 HR1.out x5_1 p216 q216
        have hw216_0:=hx216_0
        cases e216
        replace hx216_0:=cb HB hx216_0
        have HR216_0:=am hi216_0
        have HC216_0:=am hl216_0
        clear hi216_0 hl216_0
        replace p216:=eq_true p216
        replace q216:=eq_true q216
        refine start_ (n:=10) (S:=fun w'=>w'.cell? (ad215.add (x5_1).toNat)=some (.slice A215_0 (rd_L4 l0 x5_1).length c215_0)∧w'.cell? (ad216.add (x5_1).toNat)=some (.slice A216_0 (rd_L4 l1 x5_1).length c216_0)) (ds:= []) (bb 10 0) zq27 rfl rfl ⟨(cb HB hw215_0),(cb HB hw216_0)⟩ (fun hHeld=> ?_);refine with_tabW laws_eqStepSS.tab6 laws_eqStepSS.bits6 (fun HT_ HW_=> ?_)
        generalize wr.drew=w9 at HB HR215_0 HR216_0 hx215_0 hx216_0 hHeld ⊢
        refine pu 0 17 (bb 10 1) (any_of HT_.out zq27) (h:= ?_)
        refine pu 1 18 (bb 10 3) (any_of HT_.out zq27) (h:= ?_)
        refine pu 2 19 (bb 10 7) (any_of HT_.out zq27) (h:= ?_)
        refine pu 4 21 (bb 10 23) (any_of HT_.out zq27) (h:= ?_)
        refine pu 5 22 (bb 10 55) (any_of HT_.out zq27) (h:= ?_)
        refine pu 6 23 (bb 10 119) (any_of HT_.out zq27) (h:= ?_)
        refine tk 3 20 (bb 10 127) (take_ofW HT_.out HW_.out zq27) hHeld (h:= ?_)
        refine tk 7 24 (bb 10 255) (take_ofW HT_.out HW_.out zq27) hHeld (h:= ?_)
        refine oe 8 (some 25) (bb 10 511) (one_of HT_.out zq27) (h:=fun K hK=> ?_)
        refine goes_ Try.func231 zq27 rfl #[.slice A215_0 (rd_L4 l0 x5_1).length c215_0,.slice A216_0 (rd_L4 l1 x5_1).length c216_0] (by rfl) rfl rfl zq86 ?_
        with_reducible refine(laws_eqStepS.calls k1 _ _ (rd_L4 l0 x5_1) _ _ (rd_L4 l1 x5_1) true _ ?side1 ?side2 ?side3 ?side4 A7.out).mono ?_
        (case side1=>repeat(first|exact(Kd.C_below HR215_0.out HB.out)|(with_reducible refine Kd.C_alloc ?_ _)|(with_reducible refine Kd.C_drewN ?_ _)|(with_reducible refine Kd.C_drew ?_)))
        (case side2=>exact HC215_0.out)
        (case side3=>repeat(first|exact(Kd.C_below HR216_0.out HB.out)|(with_reducible refine Kd.C_alloc ?_ _)|(with_reducible refine Kd.C_drewN ?_ _)|(with_reducible refine Kd.C_drew ?_)))
        (case side4=>exact HC216_0.out)
        rintro e w10 ⟨rfl,hb⟩
        refine⟨_,rfl,?_⟩
        replace HB:=am (below_step zq0 hb)
        (try clear hb)
        (try clear hb2)
        (try clear hk)
        (try clear hi)
        refine hK.out _ _ ⟨(cb HB hw215_0),(cb HB hw216_0)⟩ (fun hHeld=> ?_)
        clear hK K
        refine nm 25 (h:= ?_)
        refine pu 9 26 (bb 10 1023) (any_of HT_.out zq27) (h:= ?_)
        refine done_ (done_of HT_.out zq27) ?_
        try go_wp2
        go_roundg k1
        case measure=>have:=HK1.out;omega
        case rel=>exact⟨(wrap64 (x5_1+1)),zq8,H',⟨zq110⟩,⟨zq0⟩⟩
       ·replace c8:=Bool.eq_false_iff.mpr c8
        subst c8
        rw [if_neg (show ¬(false=true) by decide)] at H
        obtain rfl:=Option.some.inj H
        try go_wp2
        replace HB:=am (below_drew1 HB.out)
        have p215:0≤(x5_1:Int):=of_decide_eq_true zq26
        have q215:x5_1<(l0.length:Int):=of_decide_eq_true zq26
        obtain⟨ad215,A215_0,c215_0,e215,hx215_0,hl215_0,hi215_0⟩:=at_L4 HR0.out x5_1 p215 q215
        have hw215_0:=hx215_0
        cases e215
        replace hx215_0:=cb HB hx215_0
        have HR215_0:=am hi215_0
        have HC215_0:=am hl215_0
        clear hi215_0 hl215_0
        replace p215:=eq_true p215
        replace q215:=eq_true q215
        have p216:0≤(x5_1:Int):=of_decide_eq_true zq26
        have q216:x5_1<(l1.length:Int):=of_decide_eq_true zq26
        obtain⟨ad216,A216_0,c216_0,e216,hx216_0,hl216_0,hi216_0⟩:=at_L4 HR1.out x5_1 p216 q216
        have hw216_0:=hx216_0
        cases e216
        replace hx216_0:=cb HB hx216_0
        have HR216_0:=am hi216_0
        have HC216_0:=am hl216_0
        clear hi216_0 hl216_0
        replace p216:=eq_true p216
        replace q216:=eq_true q216
        refine start_ (n:=10) (S:=fun w'=>w'.cell? (ad215.add (x5_1).toNat)=some (.slice A215_0 (rd_L4 l0 x5_1).length c215_0)∧w'.cell? (ad216.add (x5_1).toNat)=some (.slice A216_0 (rd_L4 l1 x5_1).length c216_0)) (ds:= []) (bb 10 0) zq27 rfl rfl ⟨(cb HB hw215_0),(cb HB hw216_0)⟩ (fun hHeld=> ?_);refine with_tabW laws_eqStepSS.tab6 laws_eqStepSS.bits6 (fun HT_ HW_=> ?_)
        generalize wr.drew=w11 at HB HR215_0 HR216_0 hx215_0 hx216_0 hHeld ⊢
        refine pu 0 17 (bb 10 1) (any_of HT_.out zq27) (h:= ?_)
        refine pu 1 18 (bb 10 3) (any_of HT_.out zq27) (h:= ?_)
        refine pu 2 19 (bb 10 7) (any_of HT_.out zq27) (h:= ?_)
        refine pu 4 21 (bb 10 23) (any_of HT_.out zq27) (h:= ?_)
        refine pu 5 22 (bb 10 55) (any_of HT_.out zq27) (h:= ?_)
        refine pu 6 23 (bb 10 119) (any_of HT_.out zq27) (h:= ?_)
        refine tk 3 20 (bb 10 127) (take_ofW HT_.out HW_.out zq27) hHeld (h:= ?_)
        refine tk 7 24 (bb 10 255) (take_ofW HT_.out HW_.out zq27) hHeld (h:= ?_)
        refine oe 8 (some 25) (bb 10 511) (one_of HT_.out zq27) (h:=fun K hK=> ?_)
        refine goes_ Try.func231 zq27 rfl #[.slice A215_0 (rd_L4 l0 x5_1).length c215_0,.slice A216_0 (rd_L4 l1 x5_1).length c216_0] (by rfl) rfl rfl zq86 ?_
        with_reducible refine(laws_eqStepS.calls k1 _ _ (rd_L4 l0 x5_1) _ _ (rd_L4 l1 x5_1) false _ ?side1 ?side2 ?side3 ?side4 A7.out).mono ?_
        (case side1=>repeat(first|exact(Kd.C_below HR215_0.out HB.out)|(with_reducible refine Kd.C_alloc ?_ _)|(with_reducible refine Kd.C_drewN ?_ _)|(with_reducible refine Kd.C_drew ?_)))
        (case side2=>exact HC215_0.out)
        (case side3=>repeat(first|exact(Kd.C_below HR216_0.out HB.out)|(with_reducible refine Kd.C_alloc ?_ _)|(with_reducible refine Kd.C_drewN ?_ _)|(with_reducible refine Kd.C_drew ?_)))
        (case side4=>exact HC216_0.out)
        rintro e w12 ⟨rfl,hb⟩
        refine⟨_,rfl,?_⟩
        replace HB:=am (below_step zq0 hb)
        (try clear hb)
        (try clear hb2)
        (try clear hk)
        (try clear hi)
        refine hK.out _ _ ⟨(cb HB hw215_0),(cb HB hw216_0)⟩ (fun hHeld=> ?_)
        clear hK K
        refine nm 25 (h:= ?_)
        refine pu 9 26 (bb 10 1023) (any_of HT_.out zq27) (h:= ?_)
        refine done_ (done_of HT_.out zq27) ?_
        try go_wp2
        go_ret
        exact⟨zq3,zq0⟩
      ·rw [if_neg c6] at H
       exact absurd H (by simp)
     ·rw [if_neg c5] at H
      exact absurd H (by simp)
    ·rw [if_neg c4] at H
     have c4b0:decide (x5_1<(l0.length:Int))=false:=decide_eq_false c4
     clear c4
     obtain rfl:=Option.some.inj H
     go_wp2
     go_ret
     exact⟨zq3,zq0⟩
 ·rw [if_neg c3] at H
  have c3b0:((l0.length:Int)==(l1.length:Int))=false:=beq_eq_false_iff_ne.mpr c3
  have c3b1:((l0.length:Int) !=(l1.length:Int))=true:=bne_iff_ne.mpr c3
  have c3b2:(l0.length==l1.length)=false:=by first|simpa using c3|(simp at c3 ⊢;omega)
  obtain rfl:=Option.some.inj H
  go_enter Try.func148,Try.ntmps148
  go_wp2
  go_ret
  exact⟨zq3,zq0⟩
end Go.Proofs.Yteiafboknimgbaa.Pr
end
