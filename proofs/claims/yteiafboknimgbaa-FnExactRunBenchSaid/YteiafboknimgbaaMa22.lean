import Derived.Test.YteiafboknimgbaaMa21
set_option maxHeartbeats 8000000
set_option maxRecDepth 100000
set_option linter.unusedVariables false
set_option linter.unusedSimpArgs false
section
namespace Go.Proofs.Yteiafboknimgbaa.Pr
open Go.RowKit Go.Proofs.W.PrintWords Go.Proofs.W.PrintLast Go.Proofs.W.PrintMore
attribute [local go_sem] max2_int min2_int max_two min_two max_three min_three max_four min_four
mutual
def spec_l2Program.l0:Nat→Int→List (List (S219))→Option (Bool)
 |0,_,_=>none
 |k+1,x3,x123000=>if x3<(x123000.length:Int) then(if 0≤x3 then(if((rd_L4 x123000 x3).length:Int)>8 then(some false) else(spec_l2Program.l1 k x3 0 x123000)) else(none)) else(some true)
def spec_l2Program.l1:Nat→Int→Int→List (List (S219))→Option (Bool)
 |0,_,_,_=>none
 |k+1,x3,x4,x123000=>if 0≤x3 then(if x3<(x123000.length:Int) then(if x4<((rd_L4 x123000 x3).length:Int) then(if 0≤x4 then((spec_l2Step.f k x123000 ((rd_T219 (rd_L4 x123000 x3) x4).f0) ((rd_T219 (rd_L4 x123000 x3) x4).f1) ((rd_T219 (rd_L4 x123000 x3) x4).f2)).bind fun t128=>(if t128=true then(spec_l2Program.l1 k x3 (wrap64 (x4+1)) x123000) else(some false))) else(none)) else(spec_l2Program.l0 k (wrap64 (x3+1)) x123000)) else(none)) else(none)
end
def spec_l2Program.f(k:Nat)(l0_0:List (List (S219))):Option (Bool):=(spec_l1In.f (l0_0.length:Int) 1 6).bind fun t123=>(if t123=true then(spec_l2Program.l0 k 0 l0_0) else(some false))
def spec_l2Program.T11:Bool×List (List Nat×List Nat):=(true,[([],[]),([],[]),([1],[1]),([],[]),([2,3],[2,3]),([4],[4]),([],[]),([5,6],[5,6]),([7],[7]),([0,8],[0,8]),([9],[9])])
def spec_l2Program.B11:List Nat:= [0,0,2,0,14,30,0,126,254,511,1023]
theorem spec_l2Program.tab11:rtab .any (opsOf Try.f189 11)=spec_l2Program.T11:=by kernel_rfl
theorem spec_l2Program.bits11:waitsOk spec_l2Program.T11.2 spec_l2Program.B11=true:=by kernel_rfl
theorem spec_l2Program.calls(k:Nat)(A0_0:Option Addr)(c0_0:Nat)(l0_0:List (List (S219)))(r:Bool)(w:World)(hr0_0:Kd.C (Kd.slice 219 k219) w A0_0 l0_0.length l0_0)(hc0_0:l0_0.length≤c0_0)(h:spec_l2Program.f k l0_0=some r) :
  Calls Try.prog 189 #[.agg #[.slice A0_0 l0_0.length c0_0]] w fun e w'=>e= .returned (.bool r)∧Below w.heap.size w w':=by
 have hu35:=Try.underlying35
 have hu219:=Try.underlying219
 have HR0_0:=am hr0_0
 have HC0_0:=am hc0_0
 clear hr0_0 hc0_0
 have HB:=am (Below.refl w.heap.size w)
 have H:((spec_l1In.f (l0_0.length:Int) 1 6).bind fun t123=>(if t123=true then(spec_l2Program.l0 k 0 l0_0) else(some false)))=some r:=h
 clear h
 obtain⟨t123,A2,H⟩:=bms H
 try dsimp only at H
 by_cases c3:t123=true
 ·subst c3
  rw [if_pos rfl] at H
  have H':=am H
  clear H
  go_enter Try.func189,Try.ntmps189
  go_wp2_with (first|(refine bx 1 #[.slice A0_0 l0_0.length c0_0] 35 (h:= ?_);intro gb122 hg w4 hbox hb;have BK122:=am (hbox);have GE122:=am ((zq4:w.heap.size≤gb122));replace HB:=am (below_step zq0 hb);clear hb hbox hg;obtain⟨hcz5_0,hfz5_0⟩:=cf1 BK122.out)|(refine gl (some 8) 211 Try.func211 #[.int .i64 (l0_0.length:Int),.int .i64 1,.int .i64 6] (h:= ?_);(with_reducible refine(spec_l1In.calls (l0_0.length:Int) 1 6 true _ A2.out).mono ?_);rintro e w' ⟨rfl,⟨nd,rfl⟩⟩;refine⟨_,rfl,?_⟩))
  go_loopg [3] k (fun kq v3 w'=> ∃ (x3_1:Int),v3= .int .i64 x3_1∧Aside0 (spec_l2Program.l0 kq x3_1 l0_0=some r)∧Aside0 (kq≤k)∧Aside0 (w'.heap[gb122]? =some (.cells #[(.slice A0_0 l0_0.length c0_0)] 35 (0,0)))∧Aside0 (Below w.heap.size w w'))
  case atStart=>exact⟨(0),zq8,H',⟨Nat.le_refl _⟩,⟨zq61⟩,⟨zq60⟩⟩
  case round =>
   clear H'
   try clear c1
   try clear c2
   try clear p2
   try clear c3
   try clear hcz5_0
   try clear hfz5_0
   obtain⟨x3_1,rfl,HA,HK1,BK122,HB⟩:=hrel
   cases gk with
   |zero=>exact absurd HA.out (by simp [spec_l2Program.l0])
   |succ k1 =>
    have H:=HA.out
    clear HA
    simp only [spec_l2Program.l0] at H
    by_cases c6:x3_1<(l0_0.length:Int)
    ·rw [if_pos c6] at H
     have c6b0:decide (x3_1<(l0_0.length:Int))=true:=decide_eq_true c6
     clear c6
     by_cases c7:0≤x3_1
     ·rw [if_pos c7] at H
      have c7b0:decide (0≤x3_1)=true:=decide_eq_true c7
      clear c7
      by_cases c8:((rd_L4 l0_0 x3_1).length:Int)>8
      ·rw [if_pos c8] at H
       have c8b0:decide (8<((rd_L4 l0_0 x3_1).length:Int))=true:=decide_eq_true c8
       have c8b1:decide (8<(rd_L4 l0_0 x3_1).length)=true:=decide_eq_true zq90
       clear c8
       obtain rfl:=Option.some.inj H
       obtain⟨hcz9_0,hfz9_0⟩:=cf1 BK122.out
       have p124:0≤(x3_1:Int):=of_decide_eq_true zq26
       have q124:x3_1<(l0_0.length:Int):=of_decide_eq_true zq26
       obtain⟨ad124,A124_0,c124_0,e124,hx124_0,hl124_0,hi124_0⟩:=at_L4 HR0_0.out x3_1 p124 q124
       cases e124
       replace hx124_0:=cb HB hx124_0
       have HR124_0:=am hi124_0
       have HC124_0:=am hl124_0
       clear hi124_0 hl124_0
       replace p124:=eq_true p124
       replace q124:=eq_true q124
       go_wp2
       go_ret
       exact⟨zq3,zq60⟩
      ·rw [if_neg c8] at H
       have c8b0:decide (8<((rd_L4 l0_0 x3_1).length:Int))=false:=decide_eq_false c8
       have c8b1:decide (8<(rd_L4 l0_0 x3_1).length)=false:=decide_eq_false zq90
       clear c8
       have H':=am H
       clear H
       obtain⟨hcz10_0,hfz10_0⟩:=cf1 BK122.out
       have p124:0≤(x3_1:Int):=of_decide_eq_true zq26
       have q124:x3_1<(l0_0.length:Int):=of_decide_eq_true zq26
       obtain⟨ad124,A124_0,c124_0,e124,hx124_0,hl124_0,hi124_0⟩:=at_L4 HR0_0.out x3_1 p124 q124
       cases e124
       replace hx124_0:=cb HB hx124_0
       have HR124_0:=am hi124_0
       have HC124_0:=am hl124_0
       clear hi124_0 hl124_0
       replace p124:=eq_true p124
       replace q124:=eq_true q124
       go_wp2
       go_loopg [4] k1 (fun kq v4 w'=> ∃ (x4_2:Int),v4= .int .i64 x4_2∧Aside0 (spec_l2Program.l1 kq x3_1 x4_2 l0_0=some r)∧Aside0 (kq≤k1)∧Aside0 (w'.heap[gb122]? =some (.cells #[(.slice (some ad124) l0_0.length c0_0)] 35 (0,0)))∧Aside0 (Below w.heap.size w w'))
       case atStart=>exact⟨(0),zq8,H',⟨Nat.le_refl _⟩,⟨zq61⟩,⟨zq60⟩⟩
       case round =>
        clear H'
        try clear c1
        try clear p1
        try clear q1
        try clear hx1
        try clear c2
        try clear p2
        try clear c3
        try clear c6
        try clear c6b0
        try clear c7
        try clear c7b0
        try clear c8
        try clear c8b0
        try clear c8b1
        try clear hcz10_0
        try clear hcz5_0
        try clear hcz9_0
        try clear hfz10_0
        try clear hfz5_0
        try clear hfz9_0
        try clear hx124_0
        try clear p124
        try clear p2
        try clear q124
        obtain⟨x4_2,rfl,HA,HK2,BK122,HB⟩:=hrel
        cases gk with
        |zero=>exact absurd HA.out (by simp [spec_l2Program.l1])
        |succ k2 =>
         have H:=HA.out
         clear HA
         simp only [spec_l2Program.l1] at H
         by_cases c11:0≤x3_1
         ·rw [if_pos c11] at H
          have c11b0:decide (0≤x3_1)=true:=decide_eq_true c11
          clear c11
          by_cases c12:x3_1<(l0_0.length:Int)
          ·rw [if_pos c12] at H
           have c12b0:decide (x3_1<(l0_0.length:Int))=true:=decide_eq_true c12
           clear c12
           by_cases c13:x4_2<((rd_L4 l0_0 x3_1).length:Int)
           ·rw [if_pos c13] at H
            have c13b0:decide (x4_2<((rd_L4 l0_0 x3_1).length:Int))=true:=decide_eq_true c13
            clear c13
            by_cases c14:0≤x4_2
            ·rw [if_pos c14] at H
             have c14b0:decide (0≤x4_2)=true:=decide_eq_true c14
             clear c14
             obtain⟨t128,A15,H⟩:=bms H
             try dsimp only at H
             by_cases c16:t128=true
             ·subst c16
              rw [if_pos rfl] at H
              have H':=am H
              clear H
              obtain⟨hcz17_0,hfz17_0⟩:=cf1 BK122.out
              have p125:0≤(x3_1:Int):=of_decide_eq_true zq26
              have q125:x3_1<(l0_0.length:Int):=of_decide_eq_true zq26
              obtain⟨ad125,A125_0,c125_0,e125,hx125_0,hl125_0,hi125_0⟩:=at_L4 HR0_0.out x3_1 p125 q125
              obtain rfl:ad124=ad125:=(by injection e125)
              replace hx125_0:=cb HB hx125_0
              have HR125_0:=am hi125_0
              have HC125_0:=am hl125_0
              clear hi125_0 hl125_0
              replace p125:=eq_true p125
              replace q125:=eq_true q125
              try go_wp2
              replace BK122:=am (blk_drew BK122.out)
              replace HB:=am (below_drew1 HB.out)
              have p126:0≤(x3_1:Int):=of_decide_eq_true zq26
              have q126:x3_1<(l0_0.length:Int):=of_decide_eq_true zq26
              obtain⟨ad126,A126_0,c126_0,e126,hx126_0,hl126_0,hi126_0⟩:=at_L4 HR0_0.out x3_1 p126 q126
              have hw126_0:=hx126_0
              obtain rfl:ad124=ad126:=(by injection e126)
              replace hx126_0:=cb HB hx126_0
              have HR126_0:=am hi126_0
              have HC126_0:=am hl126_0
              clear hi126_0 hl126_0
              replace p126:=eq_true p126
              replace q126:=eq_true q126
              have p127:0≤(x4_2:Int):=of_decide_eq_true zq26
              have q127:x4_2<((rd_L4 l0_0 x3_1).length:Int):=of_decide_eq_true zq26
              obtain⟨ad127,e127,hx127_0,hx127_1,hx127_2⟩:=at_T219 HR126_0.out x4_2 p127 q127
              have hw127_2:=hx127_2
              have hw127_1:=hx127_1
              have hw127_0:=hx127_0
              cases e127
              replace hx127_0:=cb HB hx127_0
              replace hx127_1:=cb HB hx127_1
              replace hx127_2:=cb HB hx127_2
              replace p127:=eq_true p127
              replace q127:=eq_true q127
              refine start_ (n:=11) (S:=fun w'=>w'.cell? ⟨gb122,0,none⟩=some (.slice (some ad124) l0_0.length c0_0)∧w'.cell? (ad124.add (x3_1).toNat)=some (.slice (some ad127) (rd_L4 l0_0 x3_1).length c126_0)∧w'.cell? (ad127.add ((x4_2).toNat*3))=some (.int .i64 ((rd_T219 (rd_L4 l0_0 x3_1) x4_2).f0))∧w'.cell? ⟨(ad127.add ((x4_2).toNat*3)).block,(ad127.add ((x4_2).toNat*3)).off+1,none⟩=some (.int .i64 ((rd_T219 (rd_L4 l0_0 x3_1) x4_2).f1))∧w'.cell? ⟨(ad127.add ((x4_2).toNat*3)).block,(ad127.add ((x4_2).toNat*3)).off+2,none⟩=some (.int .i64 ((rd_T219 (rd_L4 l0_0 x3_1) x4_2).f2))) (ds:= []) (bb 11 0) zq27 rfl rfl ⟨(blk_cell BK122.out 0).trans rfl,(cb HB hw126_0),(cb HB hw127_0),(cb HB hw127_1),(cb HB hw127_2)⟩ (fun hHeld=> ?_);refine with_tabW spec_l2Program.tab11 spec_l2Program.bits11 (fun HT_ HW_=> ?_)
              generalize wr.drew=w18 at BK122 HB HR126_0 hx126_0 hx127_0 hx127_1 hx127_2 hHeld ⊢
              refine pu 1 35 (bb 11 2) (any_of HT_.out zq27) (h:= ?_)
              refine pu 3 37 (bb 11 10) (any_of HT_.out zq27) (h:= ?_)
              refine pu 6 40 (bb 11 74) (any_of HT_.out zq27) (h:= ?_)
              refine tk 0 34 (bb 11 75) (take_ofW HT_.out HW_.out zq27) hHeld (h:= ?_)
              refine tk 2 36 (bb 11 79) (take_ofW HT_.out HW_.out zq27) hHeld (h:= ?_)
              refine pu 4 38 (bb 11 95) (any_of HT_.out zq27) (h:= ?_)
              refine tk 5 39 (bb 11 127) (take_ofW HT_.out HW_.out zq27) hHeld (h:= ?_)
              refine pu 7 41 (bb 11 255) (any_of HT_.out zq27) (h:= ?_)
              refine tk 8 42 (bb 11 511) (take_ofW HT_.out HW_.out zq27) hHeld (h:= ?_)
              refine oe 9 (some 43) (bb 11 1023) (one_of HT_.out zq27) (h:=fun K hK=> ?_)
              refine goes_ Try.func245 zq27 rfl #[.agg #[.slice (some ad124) l0_0.length c0_0],.agg #[.int .i64 ((rd_T219 (rd_L4 l0_0 x3_1) x4_2).f0),.int .i64 ((rd_T219 (rd_L4 l0_0 x3_1) x4_2).f1),.int .i64 ((rd_T219 (rd_L4 l0_0 x3_1) x4_2).f2)]] (by rfl) rfl rfl zq86 ?_
              with_reducible refine(spec_l2Step.calls k2 _ _ l0_0 ((rd_T219 (rd_L4 l0_0 x3_1) x4_2).f0) ((rd_T219 (rd_L4 l0_0 x3_1) x4_2).f1) ((rd_T219 (rd_L4 l0_0 x3_1) x4_2).f2) true _ ?side1 ?side2 A15.out).mono ?_
              (case side1=>repeat(first|exact(Kd.C_below HR0_0.out HB.out)|(with_reducible refine Kd.C_alloc ?_ _)|(with_reducible refine Kd.C_drewN ?_ _)|(with_reducible refine Kd.C_drew ?_)))
              (case side2=>exact HC0_0.out)
              rintro e w19 ⟨rfl,hb⟩
              refine⟨_,rfl,?_⟩
              replace BK122:=am (blk_below (g:=gb122) (o:= .cells #[.slice (some ad124) l0_0.length c0_0] 35 (0,0)) zq61 hb)
              replace HB:=am (below_step zq60 hb)
              (try clear hb)
              (try clear hb2)
              (try clear hk)
              (try clear hi)
              refine hK.out _ _ ⟨(blk_cell BK122.out 0).trans rfl,(cb HB hw126_0),(cb HB hw127_0),(cb HB hw127_1),(cb HB hw127_2)⟩ (fun hHeld=> ?_)
              clear hK K
              refine nm 43 (h:= ?_)
              refine pu 10 44 (bb 11 2047) (any_of HT_.out zq27) (h:= ?_)
              refine done_ (done_of HT_.out zq27) ?_
              try go_wp2
              go_roundg k2
              case measure=>have:=HK1.out;have:=HK2.out;omega
              case rel=>exact⟨(wrap64 (x4_2+1)),zq8,H',⟨by have:=HK1.out;have:=HK2.out;omega⟩,⟨zq61⟩,⟨zq60⟩⟩
             ·replace c16:=Bool.eq_false_iff.mpr c16
              subst c16
              rw [if_neg (show ¬(false=true) by decide)] at H
              obtain rfl:=Option.some.inj H
              obtain⟨hcz20_0,hfz20_0⟩:=cf1 BK122.out
              have p125:0≤(x3_1:Int):=of_decide_eq_true zq26
              have q125:x3_1<(l0_0.length:Int):=of_decide_eq_true zq26
              obtain⟨ad125,A125_0,c125_0,e125,hx125_0,hl125_0,hi125_0⟩:=at_L4 HR0_0.out x3_1 p125 q125
              obtain rfl:ad124=ad125:=(by injection e125)
              replace hx125_0:=cb HB hx125_0
              have HR125_0:=am hi125_0
              have HC125_0:=am hl125_0
              clear hi125_0 hl125_0
              replace p125:=eq_true p125
              replace q125:=eq_true q125
              try go_wp2
              replace BK122:=am (blk_drew BK122.out)
              replace HB:=am (below_drew1 HB.out)
              have p126:0≤(x3_1:Int):=of_decide_eq_true zq26
              have q126:x3_1<(l0_0.length:Int):=of_decide_eq_true zq26
              obtain⟨ad126,A126_0,c126_0,e126,hx126_0,hl126_0,hi126_0⟩:=at_L4 HR0_0.out x3_1 p126 q126
              have hw126_0:=hx126_0
              obtain rfl:ad124=ad126:=(by injection e126)
              replace hx126_0:=cb HB hx126_0
              have HR126_0:=am hi126_0
              have HC126_0:=am hl126_0
              clear hi126_0 hl126_0
              replace p126:=eq_true p126
              replace q126:=eq_true q126
              have p127:0≤(x4_2:Int):=of_decide_eq_true zq26
              have q127:x4_2<((rd_L4 l0_0 x3_1).length:Int):=of_decide_eq_true zq26
              obtain⟨ad127,e127,hx127_0,hx127_1,hx127_2⟩:=at_T219 HR126_0.out x4_2 p127 q127
              have hw127_2:=hx127_2
              have hw127_1:=hx127_1
              have hw127_0:=hx127_0
              cases e127
              replace hx127_0:=cb HB hx127_0
              replace hx127_1:=cb HB hx127_1
              replace hx127_2:=cb HB hx127_2
              replace p127:=eq_true p127
              replace q127:=eq_true q127
              refine start_ (n:=11) (S:=fun w'=>w'.cell? ⟨gb122,0,none⟩=some (.slice (some ad124) l0_0.length c0_0)∧w'.cell? (ad124.add (x3_1).toNat)=some (.slice (some ad127) (rd_L4 l0_0 x3_1).length c126_0)∧w'.cell? (ad127.add ((x4_2).toNat*3))=some (.int .i64 ((rd_T219 (rd_L4 l0_0 x3_1) x4_2).f0))∧w'.cell? ⟨(ad127.add ((x4_2).toNat*3)).block,(ad127.add ((x4_2).toNat*3)).off+1,none⟩=some (.int .i64 ((rd_T219 (rd_L4 l0_0 x3_1) x4_2).f1))∧w'.cell? ⟨(ad127.add ((x4_2).toNat*3)).block,(ad127.add ((x4_2).toNat*3)).off+2,none⟩=some (.int .i64 ((rd_T219 (rd_L4 l0_0 x3_1) x4_2).f2))) (ds:= []) (bb 11 0) zq27 rfl rfl ⟨(blk_cell BK122.out 0).trans rfl,(cb HB hw126_0),(cb HB hw127_0),(cb HB hw127_1),(cb HB hw127_2)⟩ (fun hHeld=> ?_);refine with_tabW spec_l2Program.tab11 spec_l2Program.bits11 (fun HT_ HW_=> ?_)
              generalize wr.drew=w21 at BK122 HB HR126_0 hx126_0 hx127_0 hx127_1 hx127_2 hHeld ⊢
              refine pu 1 35 (bb 11 2) (any_of HT_.out zq27) (h:= ?_)
              refine pu 3 37 (bb 11 10) (any_of HT_.out zq27) (h:= ?_)
              refine pu 6 40 (bb 11 74) (any_of HT_.out zq27) (h:= ?_)
              refine tk 0 34 (bb 11 75) (take_ofW HT_.out HW_.out zq27) hHeld (h:= ?_)
              refine tk 2 36 (bb 11 79) (take_ofW HT_.out HW_.out zq27) hHeld (h:= ?_)
              refine pu 4 38 (bb 11 95) (any_of HT_.out zq27) (h:= ?_)
              refine tk 5 39 (bb 11 127) (take_ofW HT_.out HW_.out zq27) hHeld (h:= ?_)
              refine pu 7 41 (bb 11 255) (any_of HT_.out zq27) (h:= ?_)
              refine tk 8 42 (bb 11 511) (take_ofW HT_.out HW_.out zq27) hHeld (h:= ?_)
              refine oe 9 (some 43) (bb 11 1023) (one_of HT_.out zq27) (h:=fun K hK=> ?_)
              refine goes_ Try.func245 zq27 rfl #[.agg #[.slice (some ad124) l0_0.length c0_0],.agg #[.int .i64 ((rd_T219 (rd_L4 l0_0 x3_1) x4_2).f0),.int .i64 ((rd_T219 (rd_L4 l0_0 x3_1) x4_2).f1),.int .i64 ((rd_T219 (rd_L4 l0_0 x3_1) x4_2).f2)]] (by rfl) rfl rfl zq86 ?_
              with_reducible refine(spec_l2Step.calls k2 _ _ l0_0 ((rd_T219 (rd_L4 l0_0 x3_1) x4_2).f0) ((rd_T219 (rd_L4 l0_0 x3_1) x4_2).f1) ((rd_T219 (rd_L4 l0_0 x3_1) x4_2).f2) false _ ?side1 ?side2 A15.out).mono ?_
              (case side1=>repeat(first|exact(Kd.C_below HR0_0.out HB.out)|(with_reducible refine Kd.C_alloc ?_ _)|(with_reducible refine Kd.C_drewN ?_ _)|(with_reducible refine Kd.C_drew ?_)))
              (case side2=>exact HC0_0.out)
              rintro e w22 ⟨rfl,hb⟩
              refine⟨_,rfl,?_⟩
              replace BK122:=am (blk_below (g:=gb122) (o:= .cells #[.slice (some ad124) l0_0.length c0_0] 35 (0,0)) zq61 hb)
              replace HB:=am (below_step zq60 hb)
              (try clear hb)
              (try clear hb2)
              (try clear hk)
              (try clear hi)
              refine hK.out _ _ ⟨(blk_cell BK122.out 0).trans rfl,(cb HB hw126_0),(cb HB hw127_0),(cb HB hw127_1),(cb HB hw127_2)⟩ (fun hHeld=> ?_)
              clear hK K
              refine nm 43 (h:= ?_)
              refine pu 10 44 (bb 11 2047) (any_of HT_.out zq27) (h:= ?_)
              refine done_ (done_of HT_.out zq27) ?_
              try go_wp2
              go_ret
              exact⟨zq3,zq60⟩
            ·rw [if_neg c14] at H
             exact absurd H (by simp)
           ·rw [if_neg c13] at H
            have c13b0:decide (x4_2<((rd_L4 l0_0 x3_1).length:Int))=false:=decide_eq_false c13
            clear c13
            have H':=am H
            clear H
            obtain⟨hcz23_0,hfz23_0⟩:=cf1 BK122.out
            have p125:0≤(x3_1:Int):=of_decide_eq_true zq26
            have q125:x3_1<(l0_0.length:Int):=of_decide_eq_true zq26
            obtain⟨ad125,A125_0,c125_0,e125,hx125_0,hl125_0,hi125_0⟩:=at_L4 HR0_0.out x3_1 p125 q125
            obtain rfl:ad124=ad125:=(by injection e125)
            replace hx125_0:=cb HB hx125_0
            have HR125_0:=am hi125_0
            have HC125_0:=am hl125_0
            clear hi125_0 hl125_0
            replace p125:=eq_true p125
            replace q125:=eq_true q125
            go_wp2
            go_roundg k2
            case measure=>have:=HK1.out;have:=HK2.out;omega
            case rel=>exact⟨(wrap64 (x3_1+1)),zq8,H',⟨by have:=HK1.out;have:=HK2.out;omega⟩,⟨zq61⟩,⟨zq60⟩⟩
          ·rw [if_neg c12] at H
           exact absurd H (by simp)
         ·rw [if_neg c11] at H
          exact absurd H (by simp)
     ·rw [if_neg c7] at H
      exact absurd H (by simp)
    ·rw [if_neg c6] at H
     have c6b0:decide (x3_1<(l0_0.length:Int))=false:=decide_eq_false c6
     clear c6
     obtain rfl:=Option.some.inj H
     obtain⟨hcz24_0,hfz24_0⟩:=cf1 BK122.out
     go_wp2
     go_ret
     exact⟨zq3,zq60⟩
 ·replace c3:=Bool.eq_false_iff.mpr c3
  subst c3
  rw [if_neg (show ¬(false=true) by decide)] at H
  obtain rfl:=Option.some.inj H
  go_enter Try.func189,Try.ntmps189
  go_wp2_with (first|(refine bx 1 #[.slice A0_0 l0_0.length c0_0] 35 (h:= ?_);intro gb122 hg w25 hbox hb;have BK122:=am (hbox);have GE122:=am ((zq4:w.heap.size≤gb122));replace HB:=am (below_step zq0 hb);clear hb hbox hg;obtain⟨hcz26_0,hfz26_0⟩:=cf1 BK122.out)|(refine gl (some 8) 211 Try.func211 #[.int .i64 (l0_0.length:Int),.int .i64 1,.int .i64 6] (h:= ?_);(with_reducible refine(spec_l1In.calls (l0_0.length:Int) 1 6 false _ A2.out).mono ?_);rintro e w' ⟨rfl,⟨nd,rfl⟩⟩;refine⟨_,rfl,?_⟩))
  go_ret
  exact⟨zq3,zq60⟩
end Go.Proofs.Yteiafboknimgbaa.Pr
end

section
namespace Go.Proofs.Yteiafboknimgbaa.Pr
open Go.RowKit Go.Proofs.W.PrintWords Go.Proofs.W.PrintLast Go.Proofs.W.PrintMore
attribute [local go_sem] max2_int min2_int max_two min_two max_three min_three max_four min_four
def spec_l2Ask.f(k:Nat)(l0_0:List (List (S219)))(a1:Int)(a2:Int)(a3:Int):Option (Bool):=(spec_l2Program.f k l0_0).bind fun t130=>(if t130=true then((spec_l2Function.f l0_0 a1).bind fun t131=>(if t131=true then((spec_l2Number.f a2).bind fun t132=>(if t132=true then((spec_l1In.f a3 0 200).bind fun t133=>(some t133)) else(some false))) else(some false))) else(some false))
theorem spec_l2Ask.calls(k:Nat)(A0_0:Option Addr)(c0_0:Nat)(l0_0:List (List (S219)))(a1:Int)(a2:Int)(a3:Int)(r:Bool)(w:World)(hr0_0:Kd.C (Kd.slice 219 k219) w A0_0 l0_0.length l0_0)(hc0_0:l0_0.length≤c0_0)(h:spec_l2Ask.f k l0_0 a1 a2 a3=some r) :
  Calls Try.prog 142 #[.agg #[.slice A0_0 l0_0.length c0_0],.int .i64 a1,.int .i64 a2,.int .i64 a3] w fun e w'=>e= .returned (.bool r)∧Below w.heap.size w w':=by
 have hu35:=Try.underlying35
 have HR0_0:=am hr0_0
 have HC0_0:=am hc0_0
 clear hr0_0 hc0_0
 have HB:=am (Below.refl w.heap.size w)
 have H:((spec_l2Program.f k l0_0).bind fun t130=>(if t130=true then((spec_l2Function.f l0_0 a1).bind fun t131=>(if t131=true then((spec_l2Number.f a2).bind fun t132=>(if t132=true then((spec_l1In.f a3 0 200).bind fun t133=>(some t133)) else(some false))) else(some false))) else(some false)))=some r:=h
 clear h
 obtain⟨t130,A5,H⟩:=bms H
 try dsimp only at H
 by_cases c6:t130=true
 ·subst c6
  rw [if_pos rfl] at H
  obtain⟨t131,A7,H⟩:=bms H
  try dsimp only at H
  by_cases c8:t131=true
  ·subst c8
   rw [if_pos rfl] at H
   obtain⟨t132,A9,H⟩:=bms H
   try dsimp only at H
   by_cases c10:t132=true
   ·subst c10
    rw [if_pos rfl] at H
    obtain⟨t133,A11,H⟩:=bms H
    try dsimp only at H
    obtain rfl:=Option.some.inj H
    go_enter Try.func142,Try.ntmps142
    go_wp2_with (first|(refine bx 4 #[.slice A0_0 l0_0.length c0_0] 35 (h:= ?_);intro gb129 hg w12 hbox hb;have BK129:=am (hbox);have GE129:=am ((zq4:w.heap.size≤gb129));replace HB:=am (below_step zq0 hb);clear hb hbox hg;obtain⟨hcz13_0,hfz13_0⟩:=cf1 BK129.out)|(refine gl (some 10) 189 Try.func189 #[.agg #[.slice A0_0 l0_0.length c0_0]] (h:= ?_);(with_reducible refine(spec_l2Program.calls k _ _ l0_0 true _ ?side1 ?side2 A5.out).mono ?_);(case side1=>exact zq13);(case side2=>exact HC0_0.out);rintro e w14 ⟨rfl,hb⟩;refine⟨_,rfl,?_⟩;replace BK129:=am (blk_below (g:=gb129) (o:= .cells #[.slice A0_0 l0_0.length c0_0] 35 (0,0)) zq66 hb);replace HB:=am (below_step zq62 hb);(try clear hb);obtain⟨hcz15_0,hfz15_0⟩:=cf1 BK129.out)|(go_at_call 225;(with_reducible refine(spec_l2Function.calls _ _ l0_0 a1 true _ ?side1 ?side2 A7.out).mono ?_);(case side1=>exact zq13);(case side2=>exact HC0_0.out);rintro e w16 ⟨rfl,hb⟩;replace BK129:=am (blk_below (g:=gb129) (o:= .cells #[.slice A0_0 l0_0.length c0_0] 35 (0,0)) zq66 hb);replace HB:=am (below_step zq62 hb);(try clear hb))|(go_at_call 221;(with_reducible refine(spec_l2Number.calls a2 true _ A9.out).mono ?_);rintro e w' ⟨rfl,⟨nd,rfl⟩⟩)|(go_at_call 211;(with_reducible refine(spec_l1In.calls a3 0 200 t133 _ A11.out).mono ?_);rintro e w' ⟨rfl,⟨nd,rfl⟩⟩))
    go_ret
    exact⟨zq3,zq62⟩
   ·replace c10:=Bool.eq_false_iff.mpr c10
    subst c10
    rw [if_neg (show ¬(false=true) by decide)] at H
    obtain rfl:=Option.some.inj H
    go_enter Try.func142,Try.ntmps142
    go_wp2_with (first|(refine bx 4 #[.slice A0_0 l0_0.length c0_0] 35 (h:= ?_);intro gb129 hg w17 hbox hb;have BK129:=am (hbox);have GE129:=am ((zq4:w.heap.size≤gb129));replace HB:=am (below_step zq0 hb);clear hb hbox hg;obtain⟨hcz18_0,hfz18_0⟩:=cf1 BK129.out)|(refine gl (some 10) 189 Try.func189 #[.agg #[.slice A0_0 l0_0.length c0_0]] (h:= ?_);(with_reducible refine(spec_l2Program.calls k _ _ l0_0 true _ ?side1 ?side2 A5.out).mono ?_);(case side1=>exact zq13);(case side2=>exact HC0_0.out);rintro e w19 ⟨rfl,hb⟩;refine⟨_,rfl,?_⟩;replace BK129:=am (blk_below (g:=gb129) (o:= .cells #[.slice A0_0 l0_0.length c0_0] 35 (0,0)) zq66 hb);replace HB:=am (below_step zq62 hb);(try clear hb);obtain⟨hcz20_0,hfz20_0⟩:=cf1 BK129.out)|(go_at_call 225;(with_reducible refine(spec_l2Function.calls _ _ l0_0 a1 true _ ?side1 ?side2 A7.out).mono ?_);(case side1=>exact zq13);(case side2=>exact HC0_0.out);rintro e w21 ⟨rfl,hb⟩;replace BK129:=am (blk_below (g:=gb129) (o:= .cells #[.slice A0_0 l0_0.length c0_0] 35 (0,0)) zq66 hb);replace HB:=am (below_step zq62 hb);(try clear hb))|(go_at_call 221;(with_reducible refine(spec_l2Number.calls a2 false _ A9.out).mono ?_);rintro e w' ⟨rfl,⟨nd,rfl⟩⟩))
    go_ret
    exact⟨zq3,zq62⟩
  ·replace c8:=Bool.eq_false_iff.mpr c8
   subst c8
   rw [if_neg (show ¬(false=true) by decide)] at H
   obtain rfl:=Option.some.inj H
   go_enter Try.func142,Try.ntmps142
   go_wp2_with (first|(refine bx 4 #[.slice A0_0 l0_0.length c0_0] 35 (h:= ?_);intro gb129 hg w22 hbox hb;have BK129:=am (hbox);have GE129:=am ((zq4:w.heap.size≤gb129));replace HB:=am (below_step zq0 hb);clear hb hbox hg;obtain⟨hcz23_0,hfz23_0⟩:=cf1 BK129.out)|(refine gl (some 10) 189 Try.func189 #[.agg #[.slice A0_0 l0_0.length c0_0]] (h:= ?_);(with_reducible refine(spec_l2Program.calls k _ _ l0_0 true _ ?side1 ?side2 A5.out).mono ?_);(case side1=>exact zq13);(case side2=>exact HC0_0.out);rintro e w24 ⟨rfl,hb⟩;refine⟨_,rfl,?_⟩;replace BK129:=am (blk_below (g:=gb129) (o:= .cells #[.slice A0_0 l0_0.length c0_0] 35 (0,0)) zq66 hb);replace HB:=am (below_step zq62 hb);(try clear hb);obtain⟨hcz25_0,hfz25_0⟩:=cf1 BK129.out)|(go_at_call 225;(with_reducible refine(spec_l2Function.calls _ _ l0_0 a1 false _ ?side1 ?side2 A7.out).mono ?_);(case side1=>exact zq13);(case side2=>exact HC0_0.out);rintro e w26 ⟨rfl,hb⟩;replace BK129:=am (blk_below (g:=gb129) (o:= .cells #[.slice A0_0 l0_0.length c0_0] 35 (0,0)) zq66 hb);replace HB:=am (below_step zq62 hb);(try clear hb)))
   go_ret
   exact⟨zq3,zq62⟩
 ·replace c6:=Bool.eq_false_iff.mpr c6
  subst c6
  rw [if_neg (show ¬(false=true) by decide)] at H
  obtain rfl:=Option.some.inj H
  go_enter Try.func142,Try.ntmps142
  go_wp2_with (first|(refine bx 4 #[.slice A0_0 l0_0.length c0_0] 35 (h:= ?_);intro gb129 hg w27 hbox hb;have BK129:=am (hbox);have GE129:=am ((zq4:w.heap.size≤gb129));replace HB:=am (below_step zq0 hb);clear hb hbox hg;obtain⟨hcz28_0,hfz28_0⟩:=cf1 BK129.out)|(refine gl (some 10) 189 Try.func189 #[.agg #[.slice A0_0 l0_0.length c0_0]] (h:= ?_);(with_reducible refine(spec_l2Program.calls k _ _ l0_0 false _ ?side1 ?side2 A5.out).mono ?_);(case side1=>exact zq13);(case side2=>exact HC0_0.out);rintro e w29 ⟨rfl,hb⟩;refine⟨_,rfl,?_⟩;replace BK129:=am (blk_below (g:=gb129) (o:= .cells #[.slice A0_0 l0_0.length c0_0] 35 (0,0)) zq66 hb);replace HB:=am (below_step zq62 hb);(try clear hb)))
  go_ret
  exact⟨zq3,zq62⟩
def spec_RunProgram.f(k:Nat)(l0_0:List (List (S219)))(a1:Int)(a2:Int)(a3:Int):Option (Int×Int×(List (S63))×Int×Bool):=(spec_l2Ask.f k l0_0 a1 a2 a3).bind fun t136=>(if t136=true then((spec_l2Run.f l0_0 a1 a2 a3).bind fun bt137=>(some (bt137.1,bt137.2.1,bt137.2.2.1,bt137.2.2.2,true))) else(some (0,0,([]:List (S63)),0,false)))
theorem spec_RunProgram.calls(k:Nat)(A0_0:Option Addr)(c0_0:Nat)(l0_0:List (List (S219)))(a1:Int)(a2:Int)(a3:Int)(r1:Int)(r2:Int)(r3:List (S63))(r4:Int)(r5:Bool)(w:World)(hr0_0:Kd.C (Kd.slice 219 k219) w A0_0 l0_0.length l0_0)(hc0_0:l0_0.length≤c0_0)(h:spec_RunProgram.f k l0_0 a1 a2 a3=some (r1,r2,r3,r4,r5)) :
  Calls Try.prog 36 #[.agg #[.slice A0_0 l0_0.length c0_0],.int .i64 a1,.int .i64 a2,.int .i64 a3] w fun e w'=> ∃ v2_:Value,e= .returned (.tuple #[.agg #[.int .i64 r1,.int .i64 r2,v2_,.int .i64 r4],.bool r5])∧Kd.R k63 63 w' w.heap.size (fun _=>True) v2_ r3∧Below w.heap.size w w':=by
 have hu35:=Try.underlying35
 have hu30:=Try.underlying30
 have HR0_0:=am hr0_0
 have HC0_0:=am hc0_0
 clear hr0_0 hc0_0
 have HB:=am (Below.refl w.heap.size w)
 have H:((spec_l2Ask.f k l0_0 a1 a2 a3).bind fun t136=>(if t136=true then((spec_l2Run.f l0_0 a1 a2 a3).bind fun bt137=>(some (bt137.1,bt137.2.1,bt137.2.2.1,bt137.2.2.2,true))) else(some (0,0,([]:List (S63)),0,false))))=some (r1,r2,r3,r4,r5):=h
 clear h
 obtain⟨t136,A5,H⟩:=bms H
 try dsimp only at H
 by_cases c6:t136=true
 ·subst c6
  rw [if_pos rfl] at H
  obtain⟨⟨t137,t138,t139,t142⟩,A7,H⟩:=bms H
  try dsimp only at H
  simp only [Option.some.injEq,Prod.mk.injEq] at H
  obtain⟨rfl,rfl,rfl,rfl,rfl⟩:=H
  go_enter Try.func36,Try.ntmps36
  go_wp2_with (first|(refine bx 4 #[.slice A0_0 l0_0.length c0_0] 35 (h:= ?_);intro gb134 hg w8 hbox hb;have BK134:=am (hbox);have GE134:=am ((zq4:w.heap.size≤gb134));replace HB:=am (below_step zq0 hb);clear hb hbox hg)|(refine bx 8 #[.int .i64 0,.int .i64 0,.slice none 0 0,.int .i64 0] 30 (h:= ?_);intro gb135 hg w9 hbox hb;have BK135:=am (hbox);have GE135:=am ((by rw [hg];exact(below_size zq68):w.heap.size≤gb135));replace HB:=am (below_step zq68 hb);have NB134_135:=am ((zq93:gb134≠gb135));have NB135_134:=am ((zq94:gb135≠gb134));replace BK134:=am (blk_below (g:=gb134) (o:= .cells #[.slice A0_0 l0_0.length c0_0] 35 (0,0)) zq5 hb);clear hb hbox hg;have hnb10:=NB134_135.out;have hnc10:=NB135_134.out;obtain⟨hcz11_0,hfz11_0⟩:=cf1 BK134.out)|(refine gl (some 14) 142 Try.func142 #[.agg #[.slice A0_0 l0_0.length c0_0],.int .i64 a1,.int .i64 a2,.int .i64 a3] (h:= ?_);(with_reducible refine(spec_l2Ask.calls k _ _ l0_0 a1 a2 a3 true _ ?side1 ?side2 A5.out).mono ?_);(case side1=>exact zq13);(case side2=>exact HC0_0.out);rintro e w12 ⟨rfl,hb⟩;refine⟨_,rfl,?_⟩;replace BK134:=am (blk_below (g:=gb134) (o:= .cells #[.slice A0_0 l0_0.length c0_0] 35 (0,0)) zq5 hb);replace BK135:=am (blk_below (g:=gb135) (o:= .cells #[.int .i64 0,.int .i64 0,.slice none 0 0,.int .i64 0] 30 (0,0)) zq6 hb);replace HB:=am (below_step zq7 hb);(try clear hb);obtain⟨hcz13_0,hfz13_0⟩:=cf1 BK134.out)|(refine gl (some 21) 144 Try.func144 #[.agg #[.slice A0_0 l0_0.length c0_0],.int .i64 a1,.int .i64 a2,.int .i64 a3] (h:= ?_);(with_reducible refine(spec_l2Run.calls _ _ l0_0 a1 a2 a3 t137 t138 t139 t142 _ ?side1 ?side2 A7.out).mono ?_);(case side1=>exact zq13);(case side2=>exact HC0_0.out);rintro e w14 ⟨v140,rfl,ho0,hb⟩;refine⟨_,rfl,?_⟩;have HO141:=am (Kd.R_lower ho0 (below_size zq7));replace BK134:=am (blk_below (g:=gb134) (o:= .cells #[.slice A0_0 l0_0.length c0_0] 35 (0,0)) zq5 hb);replace BK135:=am (blk_below (g:=gb135) (o:= .cells #[.int .i64 0,.int .i64 0,.slice none 0 0,.int .i64 0] 30 (0,0)) zq6 hb);replace HB:=am (below_step zq7 hb);(try clear hb);(try clear ho0);obtain⟨hcz15_0,hcz15_1,hcz15_2,hcz15_3,hfz15_0,hfz15_1,hfz15_2,hfz15_3⟩:=cf4 BK135.out;obtain⟨Ao16,co16,eo16⟩:=Kd.R_slice HO141.out;subst eo16))
  refine bodyPost_ret (results_ct rfl _ _ gb135 30 #[.int .i64 t137,.int .i64 t138,.slice Ao16 t139.length co16,.int .i64 t142] (0,0) _ rfl (by(with_reducible repeat(first|refine blk_drewN ?_ _|refine blk_drew ?_|refine blk_alloc ?_ _));refine blk_put (cs:= #[.int .i64 t137,.int .i64 t138,.slice Ao16 t139.length co16,.int .i64 0]) ?_ 3 _ rfl;(with_reducible repeat(first|refine blk_drewN ?_ _|refine blk_drew ?_|refine blk_alloc ?_ _));refine blk_put (cs:= #[.int .i64 t137,.int .i64 t138,.slice none 0 0,.int .i64 0]) ?_ 2 _ rfl;(with_reducible repeat(first|refine blk_drewN ?_ _|refine blk_drew ?_|refine blk_alloc ?_ _));refine blk_put (cs:= #[.int .i64 t137,.int .i64 0,.slice none 0 0,.int .i64 0]) ?_ 1 _ rfl;(with_reducible repeat(first|refine blk_drewN ?_ _|refine blk_drew ?_|refine blk_alloc ?_ _));refine blk_put (cs:= #[.int .i64 0,.int .i64 0,.slice none 0 0,.int .i64 0]) ?_ 0 _ rfl;(with_reducible repeat(first|refine blk_drewN ?_ _|refine blk_drew ?_|refine blk_alloc ?_ _));exact BK135.out) Try.underlying30 rfl zq27) rfl ?_
  exact⟨_,zq3,by(with_reducible repeat(first|apply Kd.R_alloc|apply Kd.R_drewN|apply Kd.R_drew));exact Kd.R_mono (Kd.R_far (p:=⟨gb135,3,none⟩) (Kd.R_far (p:=⟨gb135,2,none⟩) (Kd.R_far (p:=⟨gb135,1,none⟩) (Kd.R_far (p:=⟨gb135,0,none⟩) (Kd.R_types HO141.out BK135.out zq83) (fun _ hk=>hk.2) (.int .i64 t137)) (fun _ hk=>hk.2) (.int .i64 t138)) (fun _ hk=>hk.2) (.slice Ao16 t139.length co16)) (fun _ hk=>hk.2) (.int .i64 t142)) (fun _ hk=>trivial),zq7⟩
 ·replace c6:=Bool.eq_false_iff.mpr c6
  subst c6
  rw [if_neg (show ¬(false=true) by decide)] at H
  simp only [Option.some.injEq,Prod.mk.injEq] at H
  obtain⟨rfl,rfl,rfl,rfl,rfl⟩:=H
  go_enter Try.func36,Try.ntmps36
  go_wp2_with (first|(refine bx 4 #[.slice A0_0 l0_0.length c0_0] 35 (h:= ?_);intro gb134 hg w17 hbox hb;have BK134:=am (hbox);have GE134:=am ((zq4:w.heap.size≤gb134));replace HB:=am (below_step zq0 hb);clear hb hbox hg)|(refine bx 8 #[.int .i64 0,.int .i64 0,.slice none 0 0,.int .i64 0] 30 (h:= ?_);intro gb135 hg w18 hbox hb;have BK135:=am (hbox);have GE135:=am ((by rw [hg];exact(below_size zq68):w.heap.size≤gb135));replace HB:=am (below_step zq68 hb);have NB134_135:=am ((zq93:gb134≠gb135));have NB135_134:=am ((zq94:gb135≠gb134));replace BK134:=am (blk_below (g:=gb134) (o:= .cells #[.slice A0_0 l0_0.length c0_0] 35 (0,0)) zq5 hb);clear hb hbox hg;have hnb19:=NB134_135.out;have hnc19:=NB135_134.out;obtain⟨hcz20_0,hfz20_0⟩:=cf1 BK134.out)|(refine gl (some 14) 142 Try.func142 #[.agg #[.slice A0_0 l0_0.length c0_0],.int .i64 a1,.int .i64 a2,.int .i64 a3] (h:= ?_);(with_reducible refine(spec_l2Ask.calls k _ _ l0_0 a1 a2 a3 false _ ?side1 ?side2 A5.out).mono ?_);(case side1=>exact zq13);(case side2=>exact HC0_0.out);rintro e w21 ⟨rfl,hb⟩;refine⟨_,rfl,?_⟩;replace BK134:=am (blk_below (g:=gb134) (o:= .cells #[.slice A0_0 l0_0.length c0_0] 35 (0,0)) zq5 hb);replace BK135:=am (blk_below (g:=gb135) (o:= .cells #[.int .i64 0,.int .i64 0,.slice none 0 0,.int .i64 0] 30 (0,0)) zq6 hb);replace HB:=am (below_step zq7 hb);(try clear hb);obtain⟨hcz22_0,hcz22_1,hcz22_2,hcz22_3,hfz22_0,hfz22_1,hfz22_2,hfz22_3⟩:=cf4 BK135.out))
  refine bodyPost_ret (results_ct rfl _ _ gb135 30 #[.int .i64 0,.int .i64 0,.slice none 0 0,.int .i64 0] (0,0) _ rfl (by(with_reducible repeat(first|refine blk_drewN ?_ _|refine blk_drew ?_|refine blk_alloc ?_ _));refine blk_put (cs:= #[.int .i64 0,.int .i64 0,.slice none 0 0,.int .i64 0]) ?_ 3 _ rfl;(with_reducible repeat(first|refine blk_drewN ?_ _|refine blk_drew ?_|refine blk_alloc ?_ _));refine blk_put (cs:= #[.int .i64 0,.int .i64 0,.slice none 0 0,.int .i64 0]) ?_ 2 _ rfl;(with_reducible repeat(first|refine blk_drewN ?_ _|refine blk_drew ?_|refine blk_alloc ?_ _));refine blk_put (cs:= #[.int .i64 0,.int .i64 0,.slice none 0 0,.int .i64 0]) ?_ 1 _ rfl;(with_reducible repeat(first|refine blk_drewN ?_ _|refine blk_drew ?_|refine blk_alloc ?_ _));refine blk_put (cs:= #[.int .i64 0,.int .i64 0,.slice none 0 0,.int .i64 0]) ?_ 0 _ rfl;(with_reducible repeat(first|refine blk_drewN ?_ _|refine blk_drew ?_|refine blk_alloc ?_ _));exact BK135.out) Try.underlying30 rfl zq27) rfl ?_
  exact⟨_,zq3,zq98,zq7⟩
def spec_l12Good.f(k:Nat)(l0_0:List (List (S219)))(a0_1:Int)(a0_2:Int):Option (Bool):=(spec_l2Program.f k l0_0).bind fun t144=>(if t144=true then((spec_l1In.f a0_1 0 200).bind fun t145=>(if t145=true then((spec_l1In.f a0_2 0 1000).bind fun t146=>(some t146)) else(some false))) else(some false))
theorem spec_l12Good.calls(k:Nat)(A0_0:Option Addr)(c0_0:Nat)(l0_0:List (List (S219)))(a0_1:Int)(a0_2:Int)(r:Bool)(w:World)(hr0_0:Kd.C (Kd.slice 219 k219) w A0_0 l0_0.length l0_0)(hc0_0:l0_0.length≤c0_0)(h:spec_l12Good.f k l0_0 a0_1 a0_2=some r) :
  Calls Try.prog 136 #[.agg #[.slice A0_0 l0_0.length c0_0,.int .i64 a0_1,.int .i64 a0_2]] w fun e w'=>e= .returned (.bool r)∧Below w.heap.size w w':=by
 have hu37:=Try.underlying37
 have hu35:=Try.underlying35
 have HR0_0:=am hr0_0
 have HC0_0:=am hc0_0
 clear hr0_0 hc0_0
 have HB:=am (Below.refl w.heap.size w)
 have H:((spec_l2Program.f k l0_0).bind fun t144=>(if t144=true then((spec_l1In.f a0_1 0 200).bind fun t145=>(if t145=true then((spec_l1In.f a0_2 0 1000).bind fun t146=>(some t146)) else(some false))) else(some false)))=some r:=h
 clear h
 obtain⟨t144,A2,H⟩:=bms H
 try dsimp only at H
 by_cases c3:t144=true
 ·subst c3
  rw [if_pos rfl] at H
  obtain⟨t145,A4,H⟩:=bms H
  try dsimp only at H
  by_cases c5:t145=true
  ·subst c5
   rw [if_pos rfl] at H
   obtain⟨t146,A6,H⟩:=bms H
   try dsimp only at H
   obtain rfl:=Option.some.inj H
   go_enter Try.func136,Try.ntmps136
   go_wp2_with (first|(refine bx 1 #[.slice A0_0 l0_0.length c0_0,.int .i64 a0_1,.int .i64 a0_2] 37 (h:= ?_);intro gb143 hg w7 hbox hb;have BK143:=am (hbox);have GE143:=am ((zq4:w.heap.size≤gb143));replace HB:=am (below_step zq0 hb);clear hb hbox hg;obtain⟨hcz8_0,hcz8_1,hcz8_2,hfz8_0,hfz8_1,hfz8_2⟩:=cf3 BK143.out)|(refine gl (some 5) 189 Try.func189 #[.agg #[.slice A0_0 l0_0.length c0_0]] (h:= ?_);(with_reducible refine(spec_l2Program.calls k _ _ l0_0 true _ ?side1 ?side2 A2.out).mono ?_);(case side1=>exact zq13);(case side2=>exact HC0_0.out);rintro e w9 ⟨rfl,hb⟩;refine⟨_,rfl,?_⟩;replace BK143:=am (blk_below (g:=gb143) (o:= .cells #[.slice A0_0 l0_0.length c0_0,.int .i64 a0_1,.int .i64 a0_2] 37 (0,0)) zq70 hb);replace HB:=am (below_step zq65 hb);(try clear hb);obtain⟨hcz10_0,hcz10_1,hcz10_2,hfz10_0,hfz10_1,hfz10_2⟩:=cf3 BK143.out)|(go_at_call 211;(with_reducible refine(spec_l1In.calls a0_1 0 200 true _ A4.out).mono ?_);rintro e w' ⟨rfl,⟨nd,rfl⟩⟩)|(go_at_call 211;(with_reducible refine(spec_l1In.calls a0_2 0 1000 t146 _ A6.out).mono ?_);rintro e w' ⟨rfl,⟨nd,rfl⟩⟩))
   go_ret
   exact⟨zq3,zq65⟩
  ·replace c5:=Bool.eq_false_iff.mpr c5
   subst c5
   rw [if_neg (show ¬(false=true) by decide)] at H
   obtain rfl:=Option.some.inj H
   go_enter Try.func136,Try.ntmps136
   go_wp2_with (first|(refine bx 1 #[.slice A0_0 l0_0.length c0_0,.int .i64 a0_1,.int .i64 a0_2] 37 (h:= ?_);intro gb143 hg w11 hbox hb;have BK143:=am (hbox);have GE143:=am ((zq4:w.heap.size≤gb143));replace HB:=am (below_step zq0 hb);clear hb hbox hg;obtain⟨hcz12_0,hcz12_1,hcz12_2,hfz12_0,hfz12_1,hfz12_2⟩:=cf3 BK143.out)|(refine gl (some 5) 189 Try.func189 #[.agg #[.slice A0_0 l0_0.length c0_0]] (h:= ?_);(with_reducible refine(spec_l2Program.calls k _ _ l0_0 true _ ?side1 ?side2 A2.out).mono ?_);(case side1=>exact zq13);(case side2=>exact HC0_0.out);rintro e w13 ⟨rfl,hb⟩;refine⟨_,rfl,?_⟩;replace BK143:=am (blk_below (g:=gb143) (o:= .cells #[.slice A0_0 l0_0.length c0_0,.int .i64 a0_1,.int .i64 a0_2] 37 (0,0)) zq70 hb);replace HB:=am (below_step zq65 hb);(try clear hb);obtain⟨hcz14_0,hcz14_1,hcz14_2,hfz14_0,hfz14_1,hfz14_2⟩:=cf3 BK143.out)|(go_at_call 211;(with_reducible refine(spec_l1In.calls a0_1 0 200 false _ A4.out).mono ?_);rintro e w' ⟨rfl,⟨nd,rfl⟩⟩))
   go_ret
   exact⟨zq3,zq65⟩
 ·replace c3:=Bool.eq_false_iff.mpr c3
  subst c3
  rw [if_neg (show ¬(false=true) by decide)] at H
  obtain rfl:=Option.some.inj H
  go_enter Try.func136,Try.ntmps136
  go_wp2_with (first|(refine bx 1 #[.slice A0_0 l0_0.length c0_0,.int .i64 a0_1,.int .i64 a0_2] 37 (h:= ?_);intro gb143 hg w15 hbox hb;have BK143:=am (hbox);have GE143:=am ((zq4:w.heap.size≤gb143));replace HB:=am (below_step zq0 hb);clear hb hbox hg;obtain⟨hcz16_0,hcz16_1,hcz16_2,hfz16_0,hfz16_1,hfz16_2⟩:=cf3 BK143.out)|(refine gl (some 5) 189 Try.func189 #[.agg #[.slice A0_0 l0_0.length c0_0]] (h:= ?_);(with_reducible refine(spec_l2Program.calls k _ _ l0_0 false _ ?side1 ?side2 A2.out).mono ?_);(case side1=>exact zq13);(case side2=>exact HC0_0.out);rintro e w17 ⟨rfl,hb⟩;refine⟨_,rfl,?_⟩;replace BK143:=am (blk_below (g:=gb143) (o:= .cells #[.slice A0_0 l0_0.length c0_0,.int .i64 a0_1,.int .i64 a0_2] 37 (0,0)) zq70 hb);replace HB:=am (below_step zq65 hb);(try clear hb)))
  go_ret
  exact⟨zq3,zq65⟩
def spec_RunBench.f(k:Nat)(l0_0:List (List (S219)))(a0_1:Int)(a0_2:Int)(a1:Int)(a2:Int):Option (Int×Int×(List (S63))×Int×Bool):=(spec_l12Good.f k l0_0 a0_1 a0_2).bind fun t149=>(if t149=true then((spec_RunProgram.f k l0_0 a1 a2 a0_1).bind fun bt150=>(some (bt150.1,bt150.2.1,bt150.2.2.1,bt150.2.2.2.1,bt150.2.2.2.2))) else(some (0,0,([]:List (S63)),0,false)))
theorem spec_RunBench.calls(k:Nat)(A0_0:Option Addr)(c0_0:Nat)(l0_0:List (List (S219)))(a0_1:Int)(a0_2:Int)(a1:Int)(a2:Int)(r1:Int)(r2:Int)(r3:List (S63))(r4:Int)(r5:Bool)(w:World)(hr0_0:Kd.C (Kd.slice 219 k219) w A0_0 l0_0.length l0_0)(hc0_0:l0_0.length≤c0_0)(h:spec_RunBench.f k l0_0 a0_1 a0_2 a1 a2=some (r1,r2,r3,r4,r5)) :
  Calls Try.prog 16 #[.agg #[.slice A0_0 l0_0.length c0_0,.int .i64 a0_1,.int .i64 a0_2],.int .i64 a1,.int .i64 a2] w fun e w'=> ∃ v2_:Value,e= .returned (.tuple #[.agg #[.int .i64 r1,.int .i64 r2,v2_,.int .i64 r4],.bool r5])∧Kd.R k63 63 w' w.heap.size (fun _=>True) v2_ r3∧Below w.heap.size w w':=by
 have hu37:=Try.underlying37
 have hu30:=Try.underlying30
 have hu35:=Try.underlying35
 have HR0_0:=am hr0_0
 have HC0_0:=am hc0_0
 clear hr0_0 hc0_0
 have HB:=am (Below.refl w.heap.size w)
 have H:((spec_l12Good.f k l0_0 a0_1 a0_2).bind fun t149=>(if t149=true then((spec_RunProgram.f k l0_0 a1 a2 a0_1).bind fun bt150=>(some (bt150.1,bt150.2.1,bt150.2.2.1,bt150.2.2.2.1,bt150.2.2.2.2))) else(some (0,0,([]:List (S63)),0,false))))=some (r1,r2,r3,r4,r5):=h
 clear h
 obtain⟨t149,A4,H⟩:=bms H
 try dsimp only at H
 by_cases c5:t149=true
 ·subst c5
  rw [if_pos rfl] at H
  obtain⟨⟨t150,t151,t152,t155,t156⟩,A6,H⟩:=bms H
  try dsimp only at H
  simp only [Option.some.injEq,Prod.mk.injEq] at H
  obtain⟨rfl,rfl,rfl,rfl,rfl⟩:=H
  go_enter Try.func16,Try.ntmps16
  go_wp2_with (first|(refine bx 3 #[.slice A0_0 l0_0.length c0_0,.int .i64 a0_1,.int .i64 a0_2] 37 (h:= ?_);intro gb147 hg w7 hbox hb;have BK147:=am (hbox);have GE147:=am ((zq4:w.heap.size≤gb147));replace HB:=am (below_step zq0 hb);clear hb hbox hg)|(refine bx 6 #[.int .i64 0,.int .i64 0,.slice none 0 0,.int .i64 0] 30 (h:= ?_);intro gb148 hg w8 hbox hb;have BK148:=am (hbox);have GE148:=am ((by rw [hg];exact(below_size zq69):w.heap.size≤gb148));replace HB:=am (below_step zq69 hb);have NB147_148:=am ((zq125:gb147≠gb148));have NB148_147:=am ((zq126:gb148≠gb147));replace BK147:=am (blk_below (g:=gb147) (o:= .cells #[.slice A0_0 l0_0.length c0_0,.int .i64 a0_1,.int .i64 a0_2] 37 (0,0)) zq64 hb);clear hb hbox hg;have hnb9:=NB147_148.out;have hnc9:=NB148_147.out;obtain⟨hcz10_0,hcz10_1,hcz10_2,hfz10_0,hfz10_1,hfz10_2⟩:=cf3 BK147.out)|(refine gl (some 9) 136 Try.func136 #[.agg #[.slice A0_0 l0_0.length c0_0,.int .i64 a0_1,.int .i64 a0_2]] (h:= ?_);(with_reducible refine(spec_l12Good.calls k _ _ l0_0 a0_1 a0_2 true _ ?side1 ?side2 A4.out).mono ?_);(case side1=>exact zq13);(case side2=>exact HC0_0.out);rintro e w11 ⟨rfl,hb⟩;refine⟨_,rfl,?_⟩;replace BK147:=am (blk_below (g:=gb147) (o:= .cells #[.slice A0_0 l0_0.length c0_0,.int .i64 a0_1,.int .i64 a0_2] 37 (0,0)) zq64 hb);replace BK148:=am (blk_below (g:=gb148) (o:= .cells #[.int .i64 0,.int .i64 0,.slice none 0 0,.int .i64 0] 30 (0,0)) zq71 hb);replace HB:=am (below_step zq63 hb);(try clear hb);obtain⟨hcz12_0,hcz12_1,hcz12_2,hfz12_0,hfz12_1,hfz12_2⟩:=cf3 BK147.out)|(refine gl (some 18) 36 Try.func36 #[.agg #[.slice A0_0 l0_0.length c0_0],.int .i64 a1,.int .i64 a2,.int .i64 a0_1] (h:= ?_);(with_reducible refine(spec_RunProgram.calls k _ _ l0_0 a1 a2 a0_1 t150 t151 t152 t155 t156 _ ?side1 ?side2 A6.out).mono ?_);(case side1=>exact zq13);(case side2=>exact HC0_0.out);rintro e w13 ⟨v153,rfl,ho0,hb⟩;refine⟨_,rfl,?_⟩;have HO154:=am (Kd.R_lower ho0 (below_size zq63));replace BK147:=am (blk_below (g:=gb147) (o:= .cells #[.slice A0_0 l0_0.length c0_0,.int .i64 a0_1,.int .i64 a0_2] 37 (0,0)) zq64 hb);replace BK148:=am (blk_below (g:=gb148) (o:= .cells #[.int .i64 0,.int .i64 0,.slice none 0 0,.int .i64 0] 30 (0,0)) zq71 hb);replace HB:=am (below_step zq63 hb);(try clear hb);(try clear ho0);obtain⟨hcz14_0,hcz14_1,hcz14_2,hcz14_3,hfz14_0,hfz14_1,hfz14_2,hfz14_3⟩:=cf4 BK148.out;obtain⟨Ao15,co15,eo15⟩:=Kd.R_slice HO154.out;subst eo15))
  refine bodyPost_ret (results_ct rfl _ _ gb148 30 #[.int .i64 t150,.int .i64 t151,.slice Ao15 t152.length co15,.int .i64 t155] (0,0) _ rfl (by(with_reducible repeat(first|refine blk_drewN ?_ _|refine blk_drew ?_|refine blk_alloc ?_ _));refine blk_put (cs:= #[.int .i64 t150,.int .i64 t151,.slice Ao15 t152.length co15,.int .i64 0]) ?_ 3 _ rfl;(with_reducible repeat(first|refine blk_drewN ?_ _|refine blk_drew ?_|refine blk_alloc ?_ _));refine blk_put (cs:= #[.int .i64 t150,.int .i64 t151,.slice none 0 0,.int .i64 0]) ?_ 2 _ rfl;(with_reducible repeat(first|refine blk_drewN ?_ _|refine blk_drew ?_|refine blk_alloc ?_ _));refine blk_put (cs:= #[.int .i64 t150,.int .i64 0,.slice none 0 0,.int .i64 0]) ?_ 1 _ rfl;(with_reducible repeat(first|refine blk_drewN ?_ _|refine blk_drew ?_|refine blk_alloc ?_ _));refine blk_put (cs:= #[.int .i64 0,.int .i64 0,.slice none 0 0,.int .i64 0]) ?_ 0 _ rfl;(with_reducible repeat(first|refine blk_drewN ?_ _|refine blk_drew ?_|refine blk_alloc ?_ _));exact BK148.out) Try.underlying30 rfl zq27) rfl ?_
  exact⟨_,zq3,by(with_reducible repeat(first|apply Kd.R_alloc|apply Kd.R_drewN|apply Kd.R_drew));exact Kd.R_mono (Kd.R_far (p:=⟨gb148,3,none⟩) (Kd.R_far (p:=⟨gb148,2,none⟩) (Kd.R_far (p:=⟨gb148,1,none⟩) (Kd.R_far (p:=⟨gb148,0,none⟩) (Kd.R_types HO154.out BK148.out zq83) (fun _ hk=>hk.2) (.int .i64 t150)) (fun _ hk=>hk.2) (.int .i64 t151)) (fun _ hk=>hk.2) (.slice Ao15 t152.length co15)) (fun _ hk=>hk.2) (.int .i64 t155)) (fun _ hk=>trivial),zq63⟩
 ·replace c5:=Bool.eq_false_iff.mpr c5
  subst c5
  rw [if_neg (show ¬(false=true) by decide)] at H
  simp only [Option.some.injEq,Prod.mk.injEq] at H
  obtain⟨rfl,rfl,rfl,rfl,rfl⟩:=H
  go_enter Try.func16,Try.ntmps16
  go_wp2_with (first|(refine bx 3 #[.slice A0_0 l0_0.length c0_0,.int .i64 a0_1,.int .i64 a0_2] 37 (h:= ?_);intro gb147 hg w16 hbox hb;have BK147:=am (hbox);have GE147:=am ((zq4:w.heap.size≤gb147));replace HB:=am (below_step zq0 hb);clear hb hbox hg)|(refine bx 6 #[.int .i64 0,.int .i64 0,.slice none 0 0,.int .i64 0] 30 (h:= ?_);intro gb148 hg w17 hbox hb;have BK148:=am (hbox);have GE148:=am ((by rw [hg];exact(below_size zq69):w.heap.size≤gb148));replace HB:=am (below_step zq69 hb);have NB147_148:=am ((zq125:gb147≠gb148));have NB148_147:=am ((zq126:gb148≠gb147));replace BK147:=am (blk_below (g:=gb147) (o:= .cells #[.slice A0_0 l0_0.length c0_0,.int .i64 a0_1,.int .i64 a0_2] 37 (0,0)) zq64 hb);clear hb hbox hg;have hnb18:=NB147_148.out;have hnc18:=NB148_147.out;obtain⟨hcz19_0,hcz19_1,hcz19_2,hfz19_0,hfz19_1,hfz19_2⟩:=cf3 BK147.out)|(refine gl (some 9) 136 Try.func136 #[.agg #[.slice A0_0 l0_0.length c0_0,.int .i64 a0_1,.int .i64 a0_2]] (h:= ?_);(with_reducible refine(spec_l12Good.calls k _ _ l0_0 a0_1 a0_2 false _ ?side1 ?side2 A4.out).mono ?_);(case side1=>exact zq13);(case side2=>exact HC0_0.out);rintro e w20 ⟨rfl,hb⟩;refine⟨_,rfl,?_⟩;replace BK147:=am (blk_below (g:=gb147) (o:= .cells #[.slice A0_0 l0_0.length c0_0,.int .i64 a0_1,.int .i64 a0_2] 37 (0,0)) zq64 hb);replace BK148:=am (blk_below (g:=gb148) (o:= .cells #[.int .i64 0,.int .i64 0,.slice none 0 0,.int .i64 0] 30 (0,0)) zq71 hb);replace HB:=am (below_step zq63 hb);(try clear hb);obtain⟨hcz21_0,hcz21_1,hcz21_2,hcz21_3,hfz21_0,hfz21_1,hfz21_2,hfz21_3⟩:=cf4 BK148.out))
  refine bodyPost_ret (results_ct rfl _ _ gb148 30 #[.int .i64 0,.int .i64 0,.slice none 0 0,.int .i64 0] (0,0) _ rfl (by(with_reducible repeat(first|refine blk_drewN ?_ _|refine blk_drew ?_|refine blk_alloc ?_ _));refine blk_put (cs:= #[.int .i64 0,.int .i64 0,.slice none 0 0,.int .i64 0]) ?_ 3 _ rfl;(with_reducible repeat(first|refine blk_drewN ?_ _|refine blk_drew ?_|refine blk_alloc ?_ _));refine blk_put (cs:= #[.int .i64 0,.int .i64 0,.slice none 0 0,.int .i64 0]) ?_ 2 _ rfl;(with_reducible repeat(first|refine blk_drewN ?_ _|refine blk_drew ?_|refine blk_alloc ?_ _));refine blk_put (cs:= #[.int .i64 0,.int .i64 0,.slice none 0 0,.int .i64 0]) ?_ 1 _ rfl;(with_reducible repeat(first|refine blk_drewN ?_ _|refine blk_drew ?_|refine blk_alloc ?_ _));refine blk_put (cs:= #[.int .i64 0,.int .i64 0,.slice none 0 0,.int .i64 0]) ?_ 0 _ rfl;(with_reducible repeat(first|refine blk_drewN ?_ _|refine blk_drew ?_|refine blk_alloc ?_ _));exact BK148.out) Try.underlying30 rfl zq27) rfl ?_
  exact⟨_,zq3,zq98,zq63⟩
def laws_toStep.f(a0_0:Int)(a0_1:Int)(a0_2:Int):Option (Int×Int×Int):=some (a0_0,a0_1,a0_2)
theorem laws_toStep.calls(a0_0:Int)(a0_1:Int)(a0_2:Int)(r1:Int)(r2:Int)(r3:Int)(w:World)(h:laws_toStep.f a0_0 a0_1 a0_2=some (r1,r2,r3)) :
  Calls Try.prog 270 #[.agg #[.int .i64 a0_0,.int .i64 a0_1,.int .i64 a0_2]] w fun e w'=>e= .returned (.agg #[.int .i64 r1,.int .i64 r2,.int .i64 r3])∧Below w.heap.size w w':=by
 have hu295:=Try.underlying295
 have hu219:=Try.underlying219
 have HB:=am (Below.refl w.heap.size w)
 have H:(some (a0_0,a0_1,a0_2))=some (r1,r2,r3):=h
 clear h
 simp only [Option.some.injEq,Prod.mk.injEq] at H
 obtain⟨rfl,rfl,rfl⟩:=H
 go_enter Try.func270,Try.ntmps270
 go_wp2_with (first|(refine bx 1 #[.int .i64 a0_0,.int .i64 a0_1,.int .i64 a0_2] 295 (h:= ?_);intro gb157 hg w2 hbox hb;have BK157:=am (hbox);have GE157:=am ((zq4:w.heap.size≤gb157));replace HB:=am (below_step zq0 hb);clear hb hbox hg)|(refine bx 2 #[.int .i64 0,.int .i64 0,.int .i64 0] 219 (h:= ?_);intro gb158 hg w3 hbox hb;have BK158:=am (hbox);have GE158:=am ((by rw [hg];exact(below_size zq116):w.heap.size≤gb158));replace HB:=am (below_step zq116 hb);have NB157_158:=am ((zq131:gb157≠gb158));have NB158_157:=am ((zq132:gb158≠gb157));replace BK157:=am (blk_below (g:=gb157) (o:= .cells #[.int .i64 a0_0,.int .i64 a0_1,.int .i64 a0_2] 295 (0,0)) zq67 hb);clear hb hbox hg)|(refine bx 3 #[.int .i64 0,.int .i64 0,.int .i64 0] 219 (h:= ?_);intro gb159 hg w4 hbox hb;have BK159:=am (hbox);have GE159:=am ((by rw [hg];exact(below_size zq104):w.heap.size≤gb159));replace HB:=am (below_step zq104 hb);have NB157_159:=am ((zq131:gb157≠gb159));have NB159_157:=am ((zq132:gb159≠gb157));replace BK157:=am (blk_below (g:=gb157) (o:= .cells #[.int .i64 a0_0,.int .i64 a0_1,.int .i64 a0_2] 295 (0,0)) zq67 hb);have NB158_159:=am ((by rw [hg];exact Nat.ne_of_lt (blk_lt (g:=gb158) (o:= .cells #[.int .i64 0,.int .i64 0,.int .i64 0] 219 (0,0)) zq72):gb158≠gb159));have NB159_158:=am ((by rw [hg];exact Nat.ne_of_gt (blk_lt (g:=gb158) (o:= .cells #[.int .i64 0,.int .i64 0,.int .i64 0] 219 (0,0)) zq72):gb159≠gb158));replace BK158:=am (blk_below (g:=gb158) (o:= .cells #[.int .i64 0,.int .i64 0,.int .i64 0] 219 (0,0)) zq72 hb);clear hb hbox hg;have hnb5:=NB157_158.out;have hnc5:=NB158_157.out;have hnb6:=NB157_159.out;have hnc6:=NB159_157.out;obtain⟨hcz7_0,hcz7_1,hcz7_2,hfz7_0,hfz7_1,hfz7_2⟩:=cf3 BK157.out;have hnb8:=NB159_158.out;have hnc8:=NB158_159.out;obtain⟨hcz9_0,hcz9_1,hcz9_2,hfz9_0,hfz9_1,hfz9_2⟩:=cf3 BK159.out;obtain⟨hcz10_0,hcz10_1,hcz10_2,hfz10_0,hfz10_1,hfz10_2⟩:=cf3 BK158.out))
 refine bodyPost_ret (results_cell_row rfl _ _ gb158 219 #[.int .i64 a0_0,.int .i64 a0_1,.int .i64 a0_2] (0,0) _ rfl (by(with_reducible repeat(first|refine blk_drewN ?_ _|refine blk_drew ?_|refine blk_alloc ?_ _));refine blk_put (cs:= #[.int .i64 a0_0,.int .i64 a0_1,.int .i64 0]) ?_ 2 _ rfl;(with_reducible repeat(first|refine blk_drewN ?_ _|refine blk_drew ?_|refine blk_alloc ?_ _));refine blk_put (cs:= #[.int .i64 a0_0,.int .i64 0,.int .i64 0]) ?_ 1 _ rfl;(with_reducible repeat(first|refine blk_drewN ?_ _|refine blk_drew ?_|refine blk_alloc ?_ _));refine blk_put (cs:= #[.int .i64 0,.int .i64 0,.int .i64 0]) ?_ 0 _ rfl;(with_reducible repeat(first|refine blk_drewN ?_ _|refine blk_drew ?_|refine blk_alloc ?_ _));refine blk_far ?_ NB158_159.out _;(with_reducible repeat(first|refine blk_drewN ?_ _|refine blk_drew ?_|refine blk_alloc ?_ _));refine blk_far ?_ NB158_159.out _;(with_reducible repeat(first|refine blk_drewN ?_ _|refine blk_drew ?_|refine blk_alloc ?_ _));refine blk_far ?_ NB158_159.out _;(with_reducible repeat(first|refine blk_drewN ?_ _|refine blk_drew ?_|refine blk_alloc ?_ _));exact BK158.out) Try.underlying219 rfl zq27) rfl ?_
 exact⟨zq3,by repeat(first|(with_reducible first|exact HB.out|apply below_alloc|apply pw_below_drewN|apply below_drew1|refine below_set ?_ GE157.out|refine below_set ?_ GE158.out|refine below_set ?_ GE159.out)|exact HB.out)⟩
end Go.Proofs.Yteiafboknimgbaa.Pr
end
