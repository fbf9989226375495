import Derived.Test.YteiafboknimgbaaMa22
set_option maxHeartbeats 8000000
set_option maxRecDepth 100000
set_option linter.unusedVariables false
set_option linter.unusedSimpArgs false
section
namespace Go.Proofs.Yteiafboknimgbaa.Pr
open Go.RowKit Go.Proofs.W.PrintWords Go.Proofs.W.PrintLast Go.Proofs.W.PrintMore
attribute [local go_sem] max2_int min2_int max_two min_two max_three min_three max_four min_four
def laws_toStepS.l0:Nat→List (S295)→List (S219)→Int→Option ((List (S219)))
 |0,_,_,_=>none
 |k+1,x0,x3,x4=>if x4<(x0.length:Int) then(if 0≤x4 then((laws_toStep.f ((rd_T295 x0 x4).f0) ((rd_T295 x0 x4).f1) ((rd_T295 x0 x4).f2)).bind fun bt164=>(if x4<(x3.length:Int) then(laws_toStepS.l0 k x0 (x3.set (x4:Int).toNat (⟨bt164.1,bt164.2.1,bt164.2.2⟩:S219)) (wrap64 (x4+1))) else(none))) else(none)) else(some x3)
def laws_toStepS.f(k:Nat)(l0:List (S295)):Option ((List (S219))):=if 0≤(l0.length:Int) then(if((l0.length:Int):Int).toNat≤11728124029610 then(laws_toStepS.l0 k l0 (List.replicate ((l0.length:Int):Int).toNat z219) 0) else(none)) else(none)
theorem laws_toStepS.calls(k:Nat)(A0:Option Addr)(c0:Nat)(l0:List (S295))(r:List (S219))(w:World)(hr0:Kd.C k295 w A0 l0.length l0)(hc0:l0.length≤c0)(h:laws_toStepS.f k l0=some r) :
  Calls Try.prog 229 #[.slice A0 l0.length c0] w fun e w'=> ∃ v0_:Value,e= .returned (v0_)∧Kd.R k219 219 w' w.heap.size (fun _=>True) v0_ r∧Below w.heap.size w w':=by
 have hu295:=Try.underlying295
 have hu219:=Try.underlying219
 have HR0:=am hr0
 have HC0:=am hc0
 clear hr0 hc0
 have HB:=am (Below.refl w.heap.size w)
 have H:(if 0≤(l0.length:Int) then(if((l0.length:Int):Int).toNat≤11728124029610 then(laws_toStepS.l0 k l0 (List.replicate ((l0.length:Int):Int).toNat z219) 0) else(none)) else(none))=some r:=h
 clear h
 by_cases c2:0≤(l0.length:Int)
 ·rw [if_pos c2] at H
  have c2b0:=eq_true c2
  have c2b1:decide (0≤(l0.length:Int))=true:=decide_eq_true c2
  clear c2
  by_cases c3:((l0.length:Int):Int).toNat≤11728124029610
  ·rw [if_pos c3] at H
   have c3b0:=eq_true c3
   have c3b1:decide (((l0.length:Int):Int).toNat≤11728124029610)=true:=decide_eq_true c3
   clear c3
   obtain⟨y160,hy160⟩: ∃ y_:List (S219),y_=(List.replicate ((l0.length:Int):Int).toNat z219):=⟨_,rfl⟩
   replace H:(laws_toStepS.l0 k l0 y160 0)=some r:=by first|(rw [hy160];with_reducible exact H)|(have H2_:=(Option.bind_some _ _).symm.trans H;rw [hy160];with_reducible exact H2_)|(have H2_:=(Option.bind_some _ _).symm.trans H;with_reducible exact H2_)|with_reducible exact H|(rw [hy160];exact H)|exact H
   have Ny160:=am hy160
   clear hy160
   have H':=am H
   clear H
   go_enter Try.func229,Try.ntmps229
   go_wp2_with (first|((with_reducible refine gate_dst (N:=7) rfl ?_);refine Kd.R_make k219 _ 219 rfl (N:=7) rfl 217 _ _ rfl (l0.length:Int) rfl rfl Try.underlying217 (.agg #[(.int .i64 0),(.int .i64 0),(.int .i64 0)]) 24 info219 rfl zq83 zq90 z219 (ok:=fun _=>True) (okp:=fun _=>True) (k219_mkM _ _ _ z219) (fun _ hk=>hk) trivial (of_decide_eq_true zq26) (Nat.le_trans (Nat.mul_le_mul_right _ (of_decide_eq_true zq26:(l0.length:Int).toNat≤11728124029610)) zq90) (Below.refl _ _) (Nat.le_refl _) ?_;intro v161 w4 ho5 hb hg_ hnew_;clear hg_ hnew_;(first|rw [← Ny160.out] at ho5|(simp only [Int.reduceToNat] at ho5;rw [← Ny160.out] at ho5));have HO162:=am (Kd.R_lower ho5 (below_size zq0));replace HB:=am (below_step zq0 hb);clear hb ho5))
   go_loopg [4] k (fun kq v4 w'=> ∃ (x3_1:List (S219)) (x4_1:Int),v4= .int .i64 x4_1∧Aside0 (laws_toStepS.l0 kq l0 x3_1 x4_1=some r)∧Aside0 (kq≤k)∧Aside0 (Kd.R k219 219 w' w.heap.size (fun _=>True) v161 x3_1)∧Aside0 (Below w.heap.size w w'))
   case atStart=>exact⟨(y160),(0),zq8,H',⟨Nat.le_refl _⟩,⟨by(with_reducible repeat(first|apply Kd.R_alloc|apply Kd.R_drewN|apply Kd.R_drew));exact HO162.out⟩,⟨zq0⟩⟩
   case round =>
    clear H'
    try clear c2
    try clear c2b0
    try clear c2b1
    try clear p2
    try clear c3
    try clear c3b0
    try clear c3b1
    obtain⟨x3_1,x4_1,rfl,HA,HK1,HO_3,HB⟩:=hrel
    cases gk with
    |zero=>exact absurd HA.out (by simp [laws_toStepS.l0])
    |succ k1 =>
     have H:=HA.out
     clear HA
     simp only [laws_toStepS.l0] at H
     by_cases c6:x4_1<(l0.length:Int)
     ·rw [if_pos c6] at H
      have c6b0:decide (x4_1<(l0.length:Int))=true:=decide_eq_true c6
      clear c6
      by_cases c7:0≤x4_1
      ·rw [if_pos c7] at H
       have c7b0:decide (0≤x4_1)=true:=decide_eq_true c7
       clear c7
       obtain⟨⟨t164,t165,t166⟩,A8,H⟩:=bms H
       try dsimp only at H
       by_cases c9:x4_1<(x3_1.length:Int)
       ·rw [if_pos c9] at H
        have c9b0:decide (x4_1<(x3_1.length:Int))=true:=decide_eq_true c9
        clear c9
        obtain⟨y167,hy167⟩: ∃ y_:List (S219),y_=(x3_1.set (x4_1:Int).toNat (⟨t164,t165,t166⟩:S219)):=⟨_,rfl⟩
        replace H:(laws_toStepS.l0 k1 l0 y167 (wrap64 (x4_1+1)))=some r:=by first|(rw [hy167];with_reducible exact H)|(have H2_:=(Option.bind_some _ _).symm.trans H;rw [hy167];with_reducible exact H2_)|(have H2_:=(Option.bind_some _ _).symm.trans H;with_reducible exact H2_)|with_reducible exact H|(rw [hy167];exact H)|exact H
        have Ny167:=am hy167
        clear hy167
        have H':=am H
        clear H
        have p163:0≤(x4_1:Int):=of_decide_eq_true zq26
        have q163:x4_1<(l0.length:Int):=of_decide_eq_true zq26
        obtain⟨ad163,e163,hx163_0,hx163_1,hx163_2⟩:=at_T295 HR0.out x4_1 p163 q163
        cases e163
        replace hx163_0:=cb HB hx163_0
        replace hx163_1:=cb HB hx163_1
        replace hx163_2:=cb HB hx163_2
        replace p163:=eq_true p163
        replace q163:=eq_true q163
        go_wp2_with (first|(refine gl (some 20) 270 Try.func270 #[.agg #[.int .i64 ((rd_T295 l0 x4_1).f0),.int .i64 ((rd_T295 l0 x4_1).f1),.int .i64 ((rd_T295 l0 x4_1).f2)]] (h:= ?_);(with_reducible refine(laws_toStep.calls ((rd_T295 l0 x4_1).f0) ((rd_T295 l0 x4_1).f1) ((rd_T295 l0 x4_1).f2) t164 t165 t166 _ A8.out).mono ?_);rintro e w11 ⟨rfl,hb⟩;refine⟨_,rfl,?_⟩;replace HO_3:=am (Kd.R_below zq79 hb);replace HB:=am (below_step zq0 hb);(try clear hb);(try clear hk);have p10:0≤(x4_1:Int):=of_decide_eq_true zq26;have q10:(x4_1:Int)<((x3_1.length:Int):Int):=of_decide_eq_true zq26;obtain⟨go10,co10,eo10,gb10,gl10,cl10,HG10⟩:=Kd.R_form HO_3.out zq90;(first|cases eo10|(injection eo10 with ea_ en_ ec_;(first|subst ea_|(injection ea_ with ea_;subst ea_));subst ec_;clear en_));have GB10:=am gb10;have GG10:=am HG10;clear gb10 gl10 HG10;obtain⟨ce10,hcl10,hM10,hcc10,hfr10⟩:=Kd.R_elem HO_3.out z219 (x4_1:Int) p10 q10;obtain rfl:=k219_openM hM10;have hx10_0:w11.cell? ⟨go10,(x4_1:Int).toNat*3,none⟩=some (.int .i64 ((rd_T219 x3_1 x4_1).f0)):=hcc10 0 _ rfl;have hx10_1:w11.cell? ⟨go10,(x4_1:Int).toNat*3+1,none⟩=some (.int .i64 ((rd_T219 x3_1 x4_1).f1)):=hcc10 1 _ rfl;have hx10_2:w11.cell? ⟨go10,(x4_1:Int).toNat*3+2,none⟩=some (.int .i64 ((rd_T219 x3_1 x4_1).f2)):=hcc10 2 _ rfl;have hf10_0:w11.frozen? ⟨go10,(x4_1:Int).toNat*3,none⟩=false:=hfr10 0;have hf10_1:w11.frozen? ⟨go10,(x4_1:Int).toNat*3+1,none⟩=false:=hfr10 1;have hf10_2:w11.frozen? ⟨go10,(x4_1:Int).toNat*3+2,none⟩=false:=hfr10 2;clear hcl10 hcc10 hfr10;(try clear hM10);replace p10:=eq_true p10;replace q10:=eq_true q10;have HX12:=am (show Kd.R k219 219 w11 w.heap.size (fun _=>True) (.slice (some ⟨go10,0,none⟩) x3_1.length co10) x3_1 from zq79);obtain⟨ce12,hcl12,hM12,hcc12,hfr12⟩:=Kd.R_elem HX12.out z219 (x4_1:Int) (of_decide_eq_true zq26) (by have h_:(x4_1:Int)<((x3_1.length:Int):Int):=of_decide_eq_true zq26;first|exact h_|(have e_:=(Kd.R_reads' HO_3.out).1;omega)|simpa using h_);obtain rfl:=k219_openM hM12;have HP12:=Kd.R_seg HX12.out (x4_1:Int) (of_decide_eq_true zq26) (by have h_:(x4_1:Int)<((x3_1.length:Int):Int):=of_decide_eq_true zq26;first|exact h_|(have e_:=(Kd.R_reads' HO_3.out).1;omega)|simpa using h_) (seg:= [.int .i64 t164,.int .i64 t165,.int .i64 t166]) (j:=0) hcl12 hcc12 (show 3≤3 from by decide) (x':=(⟨t164,t165,t166⟩:S219)) (k219_mkM _ _ _ (⟨t164,t165,t166⟩:S219)) (fun _ hk=>hk);have hx12_0:=hcc12 0 _ rfl;(try simp only [show (k219).sz=3 from rfl,Nat.mul_one,Nat.add_zero] at hx12_0);have hf12_0:=hfr12 0;(try simp only [show (k219).sz=3 from rfl,Nat.mul_one,Nat.add_zero] at hf12_0);have hx12_1:=hcc12 1 _ rfl;(try simp only [show (k219).sz=3 from rfl,Nat.mul_one,Nat.add_zero] at hx12_1);have hf12_1:=hfr12 1;(try simp only [show (k219).sz=3 from rfl,Nat.mul_one,Nat.add_zero] at hf12_1);have hx12_2:=hcc12 2 _ rfl;(try simp only [show (k219).sz=3 from rfl,Nat.mul_one,Nat.add_zero] at hx12_2);have hf12_2:=hfr12 2;(try simp only [show (k219).sz=3 from rfl,Nat.mul_one,Nat.add_zero] at hf12_2);clear hcl12 hcc12 hfr12;(try clear hM12))|((with_reducible refine gate_store (t:=219) (p:=21) rfl ?_);refine store_event (t:=219) (p:=21) (v:= ?vo_w13) (w1:=(((w11.setCell ⟨go10,(x4_1:Int).toNat*3,none⟩ (.int .i64 t164)).setCell ⟨go10,(x4_1:Int).toNat*3+1,none⟩ (.int .i64 t165)).setCell ⟨go10,(x4_1:Int).toNat*3+2,none⟩ (.int .i64 t166))) ?hg ?ho ?hn ?hr ?_;(case ho=>rfl);(case hg=>rfl);(case hn=>rfl);(case hr=>first|(go_simp;done)|(go_simp;rfl));intro w13 hw;have hg:w11.grownBy w13 (some go10):=(by rw [hw];exact HP12.2);have hp_:Kd.R k219 219 w13 w.heap.size (fun _=>True) (.slice (some ⟨go10,0,none⟩) x3_1.length co10) y167:=(by rw [hw,Ny167.out];exact HP12.1);clear HP12;replace HO_3:=am (hp_);replace HB:=am ((by rw [hw];exact below_set (below_set (below_set (HB.out) GB10.out) GB10.out) GB10.out:Below w.heap.size w w13));clear hg hw hp_))
        go_roundg k1
        case measure=>have:=HK1.out;omega
        case rel=>exact⟨(y167),(wrap64 (x4_1+1)),zq8,H',⟨zq110⟩,⟨zq79⟩,⟨zq0⟩⟩
       ·rw [if_neg c9] at H
        exact absurd H (by simp)
      ·rw [if_neg c7] at H
       exact absurd H (by simp)
     ·rw [if_neg c6] at H
      have c6b0:decide (x4_1<(l0.length:Int))=false:=decide_eq_false c6
      clear c6
      obtain rfl:=Option.some.inj H
      go_wp2
      go_ret
      exact⟨_,zq3,zq79,zq0⟩
  ·rw [if_neg c3] at H
   exact absurd H (by simp)
 ·rw [if_neg c2] at H
  exact absurd H (by simp)
def laws_toStepSS.l0:Nat→List (List (S295))→List (List (S219))→Int→Option ((List (List (S219))))
 |0,_,_,_=>none
 |k+1,x0,x3,x4=>if x4<(x0.length:Int) then(if 0≤x4 then((laws_toStepS.f k (rd_L2 x0 x4)).bind fun t172=>(if x4<(x3.length:Int) then(laws_toStepSS.l0 k x0 (x3.set (x4:Int).toNat t172) (wrap64 (x4+1))) else(none))) else(none)) else(some x3)
def laws_toStepSS.f(k:Nat)(l0:List (List (S295))):Option ((List (List (S219)))):=if 0≤(l0.length:Int) then(if((l0.length:Int):Int).toNat≤11728124029610 then(laws_toStepSS.l0 k l0 (List.replicate ((l0.length:Int):Int).toNat []) 0) else(none)) else(none)
theorem laws_toStepSS.calls(k:Nat)(A0:Option Addr)(c0:Nat)(l0:List (List (S295)))(r:List (List (S219)))(w:World)(hr0:Kd.C (Kd.slice 295 k295) w A0 l0.length l0)(hc0:l0.length≤c0)(h:laws_toStepSS.f k l0=some r) :
  Calls Try.prog 145 #[.slice A0 l0.length c0] w fun e w'=> ∃ v0_:Value,e= .returned (v0_)∧Kd.S (Kd.slice 219 k219) 217 w' w.heap.size (fun _=>True) v0_ r∧Below w.heap.size w w':=by
 have HR0:=am hr0
 have HC0:=am hc0
 clear hr0 hc0
 have HB:=am (Below.refl w.heap.size w)
 have H:(if 0≤(l0.length:Int) then(if((l0.length:Int):Int).toNat≤11728124029610 then(laws_toStepSS.l0 k l0 (List.replicate ((l0.length:Int):Int).toNat []) 0) else(none)) else(none))=some r:=h
 clear h
 by_cases c2:0≤(l0.length:Int)
 ·rw [if_pos c2] at H
  have c2b0:=eq_true c2
  have c2b1:decide (0≤(l0.length:Int))=true:=decide_eq_true c2
  clear c2
  by_cases c3:((l0.length:Int):Int).toNat≤11728124029610
  ·rw [if_pos c3] at H
   have c3b0:=eq_true c3
   have c3b1:decide (((l0.length:Int):Int).toNat≤11728124029610)=true:=decide_eq_true c3
   clear c3
   obtain⟨y168,hy168⟩: ∃ y_:List (List (S219)),y_=(List.replicate ((l0.length:Int):Int).toNat []):=⟨_,rfl⟩
   replace H:(laws_toStepSS.l0 k l0 y168 0)=some r:=by first|(rw [hy168];with_reducible exact H)|(have H2_:=(Option.bind_some _ _).symm.trans H;rw [hy168];with_reducible exact H2_)|(have H2_:=(Option.bind_some _ _).symm.trans H;with_reducible exact H2_)|with_reducible exact H|(rw [hy168];exact H)|exact H
   have Ny168:=am hy168
   clear hy168
   have H':=am H
   clear H
   go_enter Try.func145,Try.ntmps145
   go_wp2_with (first|((with_reducible refine gate_dst (N:=7) rfl ?_);refine Kd.S_make (Kd.slice 219 k219) _ 217 rfl (N:=7) rfl 33 _ _ rfl (l0.length:Int) rfl rfl Try.underlying33 (.slice none 0 0) 24 info217 rfl zq83 zq90 [] (ok:=fun _=>True) (okp:=fun _=>True) ⟨_,rfl,Kd.R_nil _ _ _ _ _⟩ (fun _ hk=>hk) trivial (of_decide_eq_true zq26) (Nat.le_trans (Nat.mul_le_mul_right _ (of_decide_eq_true zq26:(l0.length:Int).toNat≤11728124029610)) zq90) (Below.refl _ _) (Nat.le_refl _) ?_;intro v169 w4 ho5 hb hg_ hnew_;clear hg_ hnew_;(first|rw [← Ny168.out] at ho5|(simp only [Int.reduceToNat] at ho5;rw [← Ny168.out] at ho5));have HO170:=am (Kd.S_lower ho5 (below_size zq0));replace HB:=am (below_step zq0 hb);clear hb ho5))
   go_loopg [4] k (fun kq v4 w'=> ∃ (x3_1:List (List (S219))) (x4_1:Int),v4= .int .i64 x4_1∧Aside0 (laws_toStepSS.l0 kq l0 x3_1 x4_1=some r)∧Aside0 (kq≤k)∧Aside0 (Kd.S (Kd.slice 219 k219) 217 w' w.heap.size (fun _=>True) v169 x3_1)∧Aside0 (Below w.heap.size w w'))
   case atStart=>exact⟨(y168),(0),zq8,H',⟨Nat.le_refl _⟩,⟨by(with_reducible repeat(first|apply Kd.S_alloc|apply Kd.S_drewN|apply Kd.S_drew));exact HO170.out⟩,⟨zq0⟩⟩
   case round =>
    clear H'
    try clear c1
    try clear c2
    try clear c2b0
    try clear c2b1
    try clear p2
    try clear c3
    try clear c3b0
    try clear c3b1
    obtain⟨x3_1,x4_1,rfl,HA,HK1,HO_3,HB⟩:=hrel
    cases gk with
    |zero=>exact absurd HA.out (by simp [laws_toStepSS.l0])
    |succ k1 =>
     have H:=HA.out
     clear HA
     simp only [laws_toStepSS.l0] at H
     by_cases c6:x4_1<(l0.length:Int)
     ·rw [if_pos c6] at H
      have c6b0:decide (x4_1<(l0.length:Int))=true:=decide_eq_true c6
      clear c6
      by_cases c7:0≤x4_1
      ·rw [if_pos c7] at H
       have c7b0:decide (0≤x4_1)=true:=decide_eq_true c7
       clear c7
       obtain⟨t172,A8,H⟩:=bms H
       try dsimp only at H
       by_cases c9:x4_1<(x3_1.length:Int)
       ·rw [if_pos c9] at H
        have c9b0:decide (x4_1<(x3_1.length:Int))=true:=decide_eq_true c9
        clear c9
        obtain⟨y175,hy175⟩: ∃ y_:List (List (S219)),y_=(x3_1.set (x4_1:Int).toNat t172):=⟨_,rfl⟩
        replace H:(laws_toStepSS.l0 k1 l0 y175 (wrap64 (x4_1+1)))=some r:=by first|(rw [hy175];with_reducible exact H)|(have H2_:=(Option.bind_some _ _).symm.trans H;rw [hy175];with_reducible exact H2_)|(have H2_:=(Option.bind_some _ _).symm.trans H;with_reducible exact H2_)|with_reducible exact H|(rw [hy175];exact H)|exact H
        have Ny175:=am hy175
        clear hy175
        have H':=am H
        clear H
        have p171:0≤(x4_1:Int):=of_decide_eq_true zq26
        have q171:x4_1<(l0.length:Int):=of_decide_eq_true zq26
        obtain⟨ad171,A171_0,c171_0,e171,hx171_0,hl171_0,hi171_0⟩:=at_L2 HR0.out x4_1 p171 q171
        cases e171
        replace hx171_0:=cb HB hx171_0
        have HR171_0:=am hi171_0
        have HC171_0:=am hl171_0
        clear hi171_0 hl171_0
        replace p171:=eq_true p171
        replace q171:=eq_true q171
        go_wp2_with (first|(refine gl (some 20) 229 Try.func229 #[.slice A171_0 (rd_L2 l0 x4_1).length c171_0] (h:= ?_);(with_reducible refine(laws_toStepS.calls k1 _ _ (rd_L2 l0 x4_1) t172 _ ?side1 ?side2 A8.out).mono ?_);(case side1=>exact(by repeat(first|exact(Kd.C_below HR171_0.out HB.out)|(with_reducible refine Kd.C_alloc ?_ _)|(with_reducible refine Kd.C_drewN ?_ _)|(with_reducible refine Kd.C_drew ?_))));(case side2=>exact HC171_0.out);rintro e w11 ⟨v173,rfl,ho0,hb⟩;refine⟨_,rfl,?_⟩;replace HO_3:=am (Kd.S_elder' zq80 (Kd.R_base ho0) hb);have HO174:=am (Kd.R_lower ho0 (below_size zq0));replace HB:=am (below_step zq0 hb);(try clear hb);(try clear hk);(try clear ho0);have p10:0≤(x4_1:Int):=of_decide_eq_true zq26;have q10:(x4_1:Int)<((x3_1.length:Int):Int):=of_decide_eq_true zq26;obtain⟨go10,co10,eo10,gb10,gl10,cl10,HG10⟩:=Kd.S_form HO_3.out zq90;(first|cases eo10|(injection eo10 with ea_ en_ ec_;(first|subst ea_|(injection ea_ with ea_;subst ea_));subst ec_;clear en_));have GB10:=am gb10;have GG10:=am HG10;clear gb10 gl10 HG10;obtain⟨_,ce10,hcl10,hM10,hcc10,hfr10,_,_⟩:=Kd.S_elem HO_3.out [] (x4_1:Int) p10 q10;obtain⟨ve10_0,rfl,ge10_0⟩:=hM10;have hx10_0:=hcc10 0 _ rfl;have hf10_0:=hfr10 0;(try simp only [show ((Kd.slice 219 k219)).sz=1 from rfl,Nat.mul_one,Nat.add_zero] at hx10_0);(try simp only [show ((Kd.slice 219 k219)).sz=1 from rfl,Nat.mul_one,Nat.add_zero] at hf10_0);clear hcl10 hcc10 hfr10;(try clear hM10);replace p10:=eq_true p10;replace q10:=eq_true q10;have n_:=am (Kd.S_mono (ok':=(fun k_=>some k_≠(v173:Value).ownBlock)) HO_3.out (fun k_ hk=>hk.2));clear HO_3;have HO_3:=n_;clear n_;have HX12:=am (show Kd.S (Kd.slice 219 k219) 217 w11 w.heap.size (fun k_=>((fun _=>True)) k_∧ ¬((fun k_=>some k_=(v173:Value).ownBlock)) k_) (.slice (some ⟨go10,0,none⟩) x3_1.length co10) x3_1 from(by(with_reducible repeat(first|apply Kd.S_alloc|apply Kd.S_drewN|apply Kd.S_drew));exact Kd.S_mono HO_3.out (fun k_ hk=>⟨trivial,fun e_=>hk e_⟩)));obtain⟨oki12,ce12,hcl12,hM12,hcc12,hfr12,hoki12,hH12⟩:=Kd.S_elem HX12.out [] (x4_1:Int) (of_decide_eq_true zq26) (by have h_:(x4_1:Int)<((x3_1.length:Int):Int):=of_decide_eq_true zq26;first|exact h_|(have e_:=(Kd.S_reads' HO_3.out).1;omega)|simpa using h_);obtain⟨ve12_0,rfl,ge12_0⟩:=hM12;have HP12:=Kd.S_seg hH12 (of_decide_eq_true zq26) (by have h_:(x4_1:Int)<((x3_1.length:Int):Int):=of_decide_eq_true zq26;first|exact h_|(have e_:=(Kd.S_reads' HO_3.out).1;omega)|simpa using h_) (seg:= [v173]) (j:=0) (show 1≤1 from by decide) (x':=t172) (Kd.M_row (Kd.R_mono (Kd.R_tight rfl (Kd.R_mono (ok':=fun k_=>((fun _=>True)) k_∧k_≠go10) (Kd.R_apart' (HO174.out) (Kd.S_typed HO_3.out) zq83) (fun k_ hk=>⟨trivial,fun e_=>(hk.2) (by rw [e_];rfl)⟩))) (fun _ h_=>Or.inr (h_)))) (fun _ hk=>hk) (fun k_ hk_=>((Kd.R_mono (ok':=fun k_=>((fun _=>True)) k_∧k_≠go10) (Kd.R_apart' (HO174.out) (Kd.S_typed HO_3.out) zq83) (fun k_ hk=>⟨trivial,fun e_=>(hk.2) (by rw [e_];rfl)⟩))).1 k_ hk_.symm);have hx12_0:=hcc12 0 _ rfl;(try simp only [show ((Kd.slice 219 k219)).sz=1 from rfl,Nat.mul_one,Nat.add_zero] at hx12_0);have hf12_0:=hfr12 0;(try simp only [show ((Kd.slice 219 k219)).sz=1 from rfl,Nat.mul_one,Nat.add_zero] at hf12_0);clear hcl12 hcc12 hfr12 hoki12 hH12;(try clear hM12);(try simp only [show ((Kd.slice 219 k219)).sz=1 from rfl,Nat.mul_one,Nat.add_zero] at HP12))|((with_reducible refine gate_store (t:=217) (p:=21) rfl ?_);refine store_event (t:=217) (p:=21) (v:= ?vo_w13) (w1:=(w11.setCell ⟨go10,(x4_1:Int).toNat,none⟩ (v173))) ?hg ?ho ?hn ?hr ?_;(case ho=>rfl);(case hg=>rfl);(case hn=>rfl);(case hr=>exact(by first|(go_simp;done)|(go_simp;rfl)|(obtain⟨_,_,e_⟩:=Kd.R_slice HO_3.out;subst e_;first|(go_simp;done)|(go_simp;rfl))|(obtain⟨_,_,e_⟩:=Kd.R_slice HO174.out;subst e_;first|(go_simp;done)|(go_simp;rfl))));intro w13 hw;have hg:w11.grownBy w13 (some go10):=(by rw [hw];exact HP12.2);have hp_:Kd.S (Kd.slice 219 k219) 217 w13 w.heap.size (fun _=>True) (.slice (some ⟨go10,0,none⟩) x3_1.length co10) y175:=(by rw [hw,Ny175.out];exact HP12.1);clear HP12;replace HO_3:=am (hp_);replace HB:=am ((by rw [hw];exact below_set (HB.out) GB10.out:Below w.heap.size w w13));clear HO174;clear hg hw hp_))
        go_roundg k1
        case measure=>have:=HK1.out;omega
        case rel=>exact⟨(y175),(wrap64 (x4_1+1)),zq8,H',⟨zq110⟩,⟨zq80⟩,⟨zq0⟩⟩
       ·rw [if_neg c9] at H
        exact absurd H (by simp)
      ·rw [if_neg c7] at H
       exact absurd H (by simp)
     ·rw [if_neg c6] at H
      have c6b0:decide (x4_1<(l0.length:Int))=false:=decide_eq_false c6
      clear c6
      obtain rfl:=Option.some.inj H
      go_wp2
      go_ret
      exact⟨_,zq3,zq80,zq0⟩
  ·rw [if_neg c3] at H
   exact absurd H (by simp)
 ·rw [if_neg c2] at H
  exact absurd H (by simp)
def laws_toProgram.f(k:Nat)(l0_0:List (List (S295))):Option ((List (List (S219)))):=(laws_toStepSS.f k l0_0).bind fun t179=>(some t179)
theorem laws_toProgram.calls(k:Nat)(A0_0:Option Addr)(c0_0:Nat)(l0_0:List (List (S295)))(r:List (List (S219)))(w:World)(hr0_0:Kd.C (Kd.slice 295 k295) w A0_0 l0_0.length l0_0)(hc0_0:l0_0.length≤c0_0)(h:laws_toProgram.f k l0_0=some r) :
  Calls Try.prog 26 #[.agg #[.slice A0_0 l0_0.length c0_0]] w fun e w'=> ∃ v0_:Value,e= .returned (.agg #[v0_])∧Kd.S (Kd.slice 219 k219) 217 w' w.heap.size (fun _=>True) v0_ r∧Below w.heap.size w w':=by
 have hu24:=Try.underlying24
 have hu35:=Try.underlying35
 have HR0_0:=am hr0_0
 have HC0_0:=am hc0_0
 clear hr0_0 hc0_0
 have HB:=am (Below.refl w.heap.size w)
 have H:((laws_toStepSS.f k l0_0).bind fun t179=>(some t179))=some r:=h
 clear h
 obtain⟨t179,A2,H⟩:=bms H
 try dsimp only at H
 obtain rfl:=Option.some.inj H
 go_enter Try.func26,Try.ntmps26
 go_wp2_with (first|(refine bx 1 #[.slice A0_0 l0_0.length c0_0] 24 (h:= ?_);intro gb176 hg w3 hbox hb;have BK176:=am (hbox);have GE176:=am ((zq4:w.heap.size≤gb176));replace HB:=am (below_step zq0 hb);clear hb hbox hg)|(refine bx 2 #[.slice none 0 0] 35 (h:= ?_);intro gb177 hg w4 hbox hb;have BK177:=am (hbox);have GE177:=am ((by rw [hg];exact(below_size zq117):w.heap.size≤gb177));replace HB:=am (below_step zq117 hb);have NB176_177:=am ((zq143:gb176≠gb177));have NB177_176:=am ((zq144:gb177≠gb176));replace BK176:=am (blk_below (g:=gb176) (o:= .cells #[.slice A0_0 l0_0.length c0_0] 24 (0,0)) zq73 hb);clear hb hbox hg)|(refine bx 3 #[.slice none 0 0] 35 (h:= ?_);intro gb178 hg w5 hbox hb;have BK178:=am (hbox);have GE178:=am ((by rw [hg];exact(below_size zq105):w.heap.size≤gb178));replace HB:=am (below_step zq105 hb);have NB176_178:=am ((zq143:gb176≠gb178));have NB178_176:=am ((zq144:gb178≠gb176));replace BK176:=am (blk_below (g:=gb176) (o:= .cells #[.slice A0_0 l0_0.length c0_0] 24 (0,0)) zq73 hb);have NB177_178:=am ((by rw [hg];exact Nat.ne_of_lt (blk_lt (g:=gb177) (o:= .cells #[.slice none 0 0] 35 (0,0)) zq77):gb177≠gb178));have NB178_177:=am ((by rw [hg];exact Nat.ne_of_gt (blk_lt (g:=gb177) (o:= .cells #[.slice none 0 0] 35 (0,0)) zq77):gb178≠gb177));replace BK177:=am (blk_below (g:=gb177) (o:= .cells #[.slice none 0 0] 35 (0,0)) zq77 hb);clear hb hbox hg;have hnb6:=NB176_177.out;have hnc6:=NB177_176.out;have hnb7:=NB176_178.out;have hnc7:=NB178_176.out;obtain⟨hcz8_0,hfz8_0⟩:=cf1 BK176.out)|(refine gl (some 6) 145 Try.func145 #[.slice A0_0 l0_0.length c0_0] (h:= ?_);(with_reducible refine(laws_toStepSS.calls k _ _ l0_0 t179 _ ?side1 ?side2 A2.out).mono ?_);(case side1=>exact zq13);(case side2=>exact HC0_0.out);rintro e w9 ⟨v180,rfl,ho0,hb⟩;refine⟨_,rfl,?_⟩;have HO181:=am (Kd.S_lower ho0 (below_size zq75));replace BK176:=am (blk_below (g:=gb176) (o:= .cells #[.slice A0_0 l0_0.length c0_0] 24 (0,0)) zq73 hb);replace BK177:=am (blk_below (g:=gb177) (o:= .cells #[.slice none 0 0] 35 (0,0)) zq77 hb);replace BK178:=am (blk_below (g:=gb178) (o:= .cells #[.slice none 0 0] 35 (0,0)) (by(with_reducible repeat(first|refine blk_drewN ?_ _|refine blk_drew ?_|refine blk_alloc ?_ _));exact BK178.out) hb);replace HB:=am (below_step zq75 hb);(try clear hb);(try clear ho0);obtain⟨Ao10,co10,eo10⟩:=Kd.S_slice HO181.out;subst eo10;have hnb11:=NB178_177.out;have hnc11:=NB177_178.out;obtain⟨hcz12_0,hfz12_0⟩:=cf1 BK178.out;obtain⟨hcz13_0,hfz13_0⟩:=cf1 BK177.out))
 refine bodyPost_ret (results_cell_row rfl _ _ gb177 35 #[.slice Ao10 t179.length co10] (0,0) _ rfl (by(with_reducible repeat(first|refine blk_drewN ?_ _|refine blk_drew ?_|refine blk_alloc ?_ _));refine blk_put (cs:= #[.slice none 0 0]) ?_ 0 _ rfl;(with_reducible repeat(first|refine blk_drewN ?_ _|refine blk_drew ?_|refine blk_alloc ?_ _));refine blk_far ?_ NB177_178.out _;(with_reducible repeat(first|refine blk_drewN ?_ _|refine blk_drew ?_|refine blk_alloc ?_ _));exact BK177.out) Try.underlying35 rfl zq27) rfl ?_
 exact⟨_,zq3,by(with_reducible repeat(first|apply Kd.S_alloc|apply Kd.S_drewN|apply Kd.S_drew));exact Kd.S_mono (Kd.S_far (p:=⟨gb177,0,none⟩) (Kd.S_far (p:=⟨gb178,0,none⟩) (Kd.S_types (Kd.S_types HO181.out BK178.out zq83) BK177.out zq83) (fun _ hk=>hk.1.2) (.slice Ao10 t179.length co10)) (fun _ hk=>hk.2) (.slice Ao10 t179.length co10)) (fun _ hk=>trivial),zq75⟩
def laws_toBench.f(k:Nat)(l0_0:List (List (S295)))(a0_1:Int)(a0_2:Int):Option ((List (List (S219)))×Int×Int):=(laws_toProgram.f k l0_0).bind fun t185=>(some (t185,a0_1,a0_2))
theorem laws_toBench.calls(k:Nat)(A0_0:Option Addr)(c0_0:Nat)(l0_0:List (List (S295)))(a0_1:Int)(a0_2:Int)(r1:List (List (S219)))(r2:Int)(r3:Int)(w:World)(hr0_0:Kd.C (Kd.slice 295 k295) w A0_0 l0_0.length l0_0)(hc0_0:l0_0.length≤c0_0)(h:laws_toBench.f k l0_0 a0_1 a0_2=some (r1,r2,r3)) :
  Calls Try.prog 17 #[.agg #[.slice A0_0 l0_0.length c0_0,.int .i64 a0_1,.int .i64 a0_2]] w fun e w'=> ∃ v0_:Value,e= .returned (.agg #[v0_,.int .i64 r2,.int .i64 r3])∧Kd.S (Kd.slice 219 k219) 217 w' w.heap.size (fun _=>True) v0_ r1∧Below w.heap.size w w':=by
 have hu26:=Try.underlying26
 have hu37:=Try.underlying37
 have hu24:=Try.underlying24
 have hu35:=Try.underlying35
 have HR0_0:=am hr0_0
 have HC0_0:=am hc0_0
 clear hr0_0 hc0_0
 have HB:=am (Below.refl w.heap.size w)
 have H:((laws_toProgram.f k l0_0).bind fun t185=>(some (t185,a0_1,a0_2)))=some (r1,r2,r3):=h
 clear h
 obtain⟨t185,A2,H⟩:=bms H
 try dsimp only at H
 simp only [Option.some.injEq,Prod.mk.injEq] at H
 obtain⟨rfl,rfl,rfl⟩:=H
 go_enter Try.func17,Try.ntmps17
 go_wp2_with (first|(refine bx 1 #[.slice A0_0 l0_0.length c0_0,.int .i64 a0_1,.int .i64 a0_2] 26 (h:= ?_);intro gb182 hg w3 hbox hb;have BK182:=am (hbox);have GE182:=am ((zq4:w.heap.size≤gb182));replace HB:=am (below_step zq0 hb);clear hb hbox hg)|(refine bx 2 #[.slice none 0 0,.int .i64 0,.int .i64 0] 37 (h:= ?_);intro gb183 hg w4 hbox hb;have BK183:=am (hbox);have GE183:=am ((by rw [hg];exact(below_size zq118):w.heap.size≤gb183));replace HB:=am (below_step zq118 hb);have NB182_183:=am ((zq127:gb182≠gb183));have NB183_182:=am ((zq128:gb183≠gb182));replace BK182:=am (blk_below (g:=gb182) (o:= .cells #[.slice A0_0 l0_0.length c0_0,.int .i64 a0_1,.int .i64 a0_2] 26 (0,0)) zq74 hb);clear hb hbox hg)|(refine bx 3 #[.slice none 0 0,.int .i64 0,.int .i64 0] 37 (h:= ?_);intro gb184 hg w5 hbox hb;have BK184:=am (hbox);have GE184:=am ((by rw [hg];exact(below_size zq106):w.heap.size≤gb184));replace HB:=am (below_step zq106 hb);have NB182_184:=am ((zq127:gb182≠gb184));have NB184_182:=am ((zq128:gb184≠gb182));replace BK182:=am (blk_below (g:=gb182) (o:= .cells #[.slice A0_0 l0_0.length c0_0,.int .i64 a0_1,.int .i64 a0_2] 26 (0,0)) zq74 hb);have NB183_184:=am ((by rw [hg];exact Nat.ne_of_lt (blk_lt (g:=gb183) (o:= .cells #[.slice none 0 0,.int .i64 0,.int .i64 0] 37 (0,0)) zq78):gb183≠gb184));have NB184_183:=am ((by rw [hg];exact Nat.ne_of_gt (blk_lt (g:=gb183) (o:= .cells #[.slice none 0 0,.int .i64 0,.int .i64 0] 37 (0,0)) zq78):gb184≠gb183));replace BK183:=am (blk_below (g:=gb183) (o:= .cells #[.slice none 0 0,.int .i64 0,.int .i64 0] 37 (0,0)) zq78 hb);clear hb hbox hg;have hnb6:=NB182_183.out;have hnc6:=NB183_182.out;have hnb7:=NB182_184.out;have hnc7:=NB184_182.out;obtain⟨hcz8_0,hcz8_1,hcz8_2,hfz8_0,hfz8_1,hfz8_2⟩:=cf3 BK182.out)|(refine gl (some 6) 26 Try.func26 #[.agg #[.slice A0_0 l0_0.length c0_0]] (h:= ?_);(with_reducible refine(laws_toProgram.calls k _ _ l0_0 t185 _ ?side1 ?side2 A2.out).mono ?_);(case side1=>exact zq13);(case side2=>exact HC0_0.out);rintro e w9 ⟨v186,rfl,ho0,hb⟩;refine⟨_,rfl,?_⟩;have HO187:=am (Kd.S_lower ho0 (below_size zq76));replace BK182:=am (blk_below (g:=gb182) (o:= .cells #[.slice A0_0 l0_0.length c0_0,.int .i64 a0_1,.int .i64 a0_2] 26 (0,0)) zq74 hb);replace BK183:=am (blk_below (g:=gb183) (o:= .cells #[.slice none 0 0,.int .i64 0,.int .i64 0] 37 (0,0)) zq78 hb);replace BK184:=am (blk_below (g:=gb184) (o:= .cells #[.slice none 0 0,.int .i64 0,.int .i64 0] 37 (0,0)) (by(with_reducible repeat(first|refine blk_drewN ?_ _|refine blk_drew ?_|refine blk_alloc ?_ _));exact BK184.out) hb);replace HB:=am (below_step zq76 hb);(try clear hb);(try clear ho0);obtain⟨Ao10,co10,eo10⟩:=Kd.S_slice HO187.out;subst eo10;have hnb11:=NB184_183.out;have hnc11:=NB183_184.out;obtain⟨hcz12_0,hcz12_1,hcz12_2,hfz12_0,hfz12_1,hfz12_2⟩:=cf3 BK184.out;obtain⟨hcz13_0,hcz13_1,hcz13_2,hfz13_0,hfz13_1,hfz13_2⟩:=cf3 BK182.out;obtain⟨hcz14_0,hcz14_1,hcz14_2,hfz14_0,hfz14_1,hfz14_2⟩:=cf3 BK183.out))
 refine bodyPost_ret (results_cell_row rfl _ _ gb183 37 #[.slice Ao10 t185.length co10,.int .i64 a0_1,.int .i64 a0_2] (0,0) _ rfl (by(with_reducible repeat(first|refine blk_drewN ?_ _|refine blk_drew ?_|refine blk_alloc ?_ _));refine blk_put (cs:= #[.slice Ao10 t185.length co10,.int .i64 a0_1,.int .i64 0]) ?_ 2 _ rfl;(with_reducible repeat(first|refine blk_drewN ?_ _|refine blk_drew ?_|refine blk_alloc ?_ _));refine blk_put (cs:= #[.slice Ao10 t185.length co10,.int .i64 0,.int .i64 0]) ?_ 1 _ rfl;(with_reducible repeat(first|refine blk_drewN ?_ _|refine blk_drew ?_|refine blk_alloc ?_ _));refine blk_put (cs:= #[.slice none 0 0,.int .i64 0,.int .i64 0]) ?_ 0 _ rfl;(with_reducible repeat(first|refine blk_drewN ?_ _|refine blk_drew ?_|refine blk_alloc ?_ _));refine blk_far ?_ NB183_184.out _;(with_reducible repeat(first|refine blk_drewN ?_ _|refine blk_drew ?_|refine blk_alloc ?_ _));refine blk_far ?_ NB183_184.out _;(with_reducible repeat(first|refine blk_drewN ?_ _|refine blk_drew ?_|refine blk_alloc ?_ _));refine blk_far ?_ NB183_184.out _;(with_reducible repeat(first|refine blk_drewN ?_ _|refine blk_drew ?_|refine blk_alloc ?_ _));exact BK183.out) Try.underlying37 rfl zq27) rfl ?_
 exact⟨_,zq3,by(with_reducible repeat(first|apply Kd.S_alloc|apply Kd.S_drewN|apply Kd.S_drew));exact Kd.S_mono (Kd.S_far (p:=⟨gb183,2,none⟩) (Kd.S_far (p:=⟨gb183,1,none⟩) (Kd.S_far (p:=⟨gb183,0,none⟩) (Kd.S_far (p:=⟨gb184,2,none⟩) (Kd.S_far (p:=⟨gb184,1,none⟩) (Kd.S_far (p:=⟨gb184,0,none⟩) (Kd.S_types (Kd.S_types HO187.out BK184.out zq83) BK183.out zq83) (fun _ hk=>hk.1.2) (.slice Ao10 t185.length co10)) (fun _ hk=>hk.1.2) (.int .i64 a0_1)) (fun _ hk=>hk.1.2) (.int .i64 a0_2)) (fun _ hk=>hk.2) (.slice Ao10 t185.length co10)) (fun _ hk=>hk.2) (.int .i64 a0_1)) (fun _ hk=>hk.2) (.int .i64 a0_2)) (fun _ hk=>trivial),zq76⟩
end Go.Proofs.Yteiafboknimgbaa.Pr
end

section
namespace Go.Proofs.Yteiafboknimgbaa.Pr
open Go.RowKit Go.Proofs.W.PrintWords Go.Proofs.W.PrintLast Go.Proofs.W.PrintMore
theorem runBench_big(k:Nat)(A0:Option Addr)(c0:Nat)(l0:List (List S295))(u v:Int)(x1 x2:Int)(w:World)(hr0:Kd.C (Kd.slice 295 k295) w A0 l0.length l0)(hc0:l0.length≤c0)(sz:Int)(hsz:laws_szBench.f k l0 u v 1048576=some sz)(hsz0:sz<0) :
  Calls Try.prog 3 #[.agg #[.slice A0 l0.length c0,.int .i64 u,.int .i64 v],.int .i64 x1,.int .i64 x2] w fun e w'=>e= .returned (.bool true)∧Below w.heap.size w w':=by
 have hu0:=Try.underlying26
 have hu1:=Try.underlying37
 have hu2:=Try.underlying30
 have e0: ∀ args w,(callFunc 18 args).run Try.prog w= .ok (.enter 18 args) w:=enters_of Try.func18 zq27 rfl
 have e1: ∀ args w,(callFunc 20 args).run Try.prog w= .ok (.enter 20 args) w:=enters_of Try.func20 zq27 rfl
 have e2: ∀ args w,(callFunc 19 args).run Try.prog w= .ok (.enter 19 args) w:=enters_of Try.func19 zq27 rfl
 have e3: ∀ args w,(callFunc 23 args).run Try.prog w= .ok (.enter 23 args) w:=enters_of Try.func23 zq27 rfl
 have e4: ∀ args w,(callFunc 21 args).run Try.prog w= .ok (.enter 21 args) w:=enters_of Try.func21 zq27 rfl
 have e5: ∀ args w,(callFunc 22 args).run Try.prog w= .ok (.enter 22 args) w:=enters_of Try.func22 zq27 rfl
 have e6: ∀ args w,(callFunc 15 args).run Try.prog w= .ok (.enter 15 args) w:=enters_of Try.func15 zq27 rfl
 have e7: ∀ args w,(callFunc 17 args).run Try.prog w= .ok (.enter 17 args) w:=enters_of Try.func17 zq27 rfl
 have e8: ∀ args w,(callFunc 16 args).run Try.prog w= .ok (.enter 16 args) w:=enters_of Try.func16 zq27 rfl
 have hszd:decide (sz<0)=true:=decide_eq_true hsz0
 clear hsz0
 have HR:=am hr0
 clear hr0
 go_enter Try.func3,Try.ntmps3
 go_upto_region 2 with(first|(refine bx 3 #[.slice A0 l0.length c0,.int .i64 u,.int .i64 v] 26 (h:= ?_);intro g2 hg2 w1 hbox hb;have B:=am hb;have C2:=am hbox;clear hb hbox hg2))
 obtain⟨hc2_0,hc2_1,hc2_2⟩:=cl3 C2.out
 go_wp2_with (first|(go_at_fn 15;refine(laws_szBench.calls k A0 c0 l0 u v 1048576 sz _ (Kd.C_below HR.out B.out) hc0 hsz).mono ?_;rintro e w2 ⟨rfl,hb⟩;replace B:=am (below_step B.out hb);replace C2:=am (blk_below C2.out hb);clear hb))
 go_ret
 exact⟨rfl,B.out⟩
theorem runBench_walk(k:Nat)(A0:Option Addr)(c0:Nat)(l0:List (List S295))(u v:Int)(x1 x2:Int)(w:World)(hr0:Kd.C (Kd.slice 295 k295) w A0 l0.length l0)(hc0:l0.length≤c0)
  (sz:Int) (p:List (List S219)) (b b':List S63) (ka kv ks:Int) (o:Bool) (m1 m2:Int) (p':List (List S219))
  (hsz:laws_szBench.f k l0 u v 1048576=some sz) (hsz0:0≤sz) (hT:laws_toBench.f k l0 u v=some (p,u,v)) (hS:spec_RunBench.f k p u v x1 x2=some (ka,kv,b,ks,o)) (hI:impl_RunBench.f p u v x1 x2=some (ka,kv,b,ks,o)) (hE:laws_eqOutcome.f k ka kv b ks ka kv b ks=some true) (hEp:laws_eqBench.f k p u v p u v=some true) (hM1:laws_markStepSS.f k p 1=some (m1,p')) (h1:0≤m1) (hM2:laws_markOutcome.f k ka kv b ks 1=some (m2,b')) (hlen:b'.length=b.length) (hH:laws_heldOutcome.f k ka kv b' ks 1=some m2) (h2:0≤m2) :
  Calls Try.prog 3 #[.agg #[.slice A0 l0.length c0,.int .i64 u,.int .i64 v],.int .i64 x1,.int .i64 x2] w fun e w'=>e= .returned (.bool true)∧Below w.heap.size w w':=by
 have hu0:=Try.underlying26
 have hu1:=Try.underlying37
 have hu2:=Try.underlying30
 have e0: ∀ args w,(callFunc 18 args).run Try.prog w= .ok (.enter 18 args) w:=enters_of Try.func18 zq27 rfl
 have e1: ∀ args w,(callFunc 20 args).run Try.prog w= .ok (.enter 20 args) w:=enters_of Try.func20 zq27 rfl
 have e2: ∀ args w,(callFunc 19 args).run Try.prog w= .ok (.enter 19 args) w:=enters_of Try.func19 zq27 rfl
 have e3: ∀ args w,(callFunc 23 args).run Try.prog w= .ok (.enter 23 args) w:=enters_of Try.func23 zq27 rfl
 have e4: ∀ args w,(callFunc 21 args).run Try.prog w= .ok (.enter 21 args) w:=enters_of Try.func21 zq27 rfl
 have e5: ∀ args w,(callFunc 22 args).run Try.prog w= .ok (.enter 22 args) w:=enters_of Try.func22 zq27 rfl
 have e6: ∀ args w,(callFunc 15 args).run Try.prog w= .ok (.enter 15 args) w:=enters_of Try.func15 zq27 rfl
 have e7: ∀ args w,(callFunc 17 args).run Try.prog w= .ok (.enter 17 args) w:=enters_of Try.func17 zq27 rfl
 have e8: ∀ args w,(callFunc 16 args).run Try.prog w= .ok (.enter 16 args) w:=enters_of Try.func16 zq27 rfl
 have hszd:decide (sz<0)=false:=decide_eq_false zq90
 have ho:(o != o)=false:=by simp
 have hd1:decide (m1<0)=false:=decide_eq_false zq90
 have hd2:decide (m2<0)=false:=decide_eq_false zq90
 have hn2:(m2 != m2)=false:=by simp
 have HR:=am hr0
 clear hr0
 go_enter Try.func3,Try.ntmps3
 go_upto_region 2 with(first|(refine bx 3 #[.slice A0 l0.length c0,.int .i64 u,.int .i64 v] 26 (h:= ?_);intro g2 hg2 w1 hbox hb;have B:=am hb;have C2:=am hbox;clear hb hbox hg2))
 obtain⟨hc2_0,hc2_1,hc2_2⟩:=cl3 C2.out
 go_upto_region 5 with(first|(go_at_fn 15;refine(laws_szBench.calls k A0 c0 l0 u v 1048576 sz _ (Kd.C_below HR.out B.out) hc0 hsz).mono ?_;rintro e w2 ⟨rfl,hb⟩;replace B:=am (below_step B.out hb);replace C2:=am (blk_below C2.out hb);clear hb))
 clear hc2_0 hc2_1 hc2_2
 obtain⟨hc2_0,hc2_1,hc2_2⟩:=cl3 C2.out
 have LT:=am (show w.heap.size≤w2.heap.size∧g2<w2.heap.size from⟨B.out.size,blk_lt C2.out⟩)
 go_upto_region 6 with(first|(go_at_fn 17;refine(laws_toBench.calls k A0 c0 l0 u v p u v _ (Kd.C_below HR.out B.out) hc0 hT).mono ?_;rintro e w3 ⟨v1,rfl,hs,hb⟩;have S1:=am (Made.new (Kd.S_mono hs (fun _ _=>trivial)) B.out.size);have Z1:=am hb.size;replace B:=am (below_step B.out hb);replace C2:=am (blk_below C2.out hb);clear hb hs;obtain⟨Av1,cv1,ev1⟩:=Kd.S_slice S1.out;subst ev1)|(go_at_fn 16;refine(spec_RunBench.calls k Av1 cv1 p u v x1 x2 ka kv b ks o _ (Kd.S_reads' S1.out).2.2 (Kd.S_reads' S1.out).2.1 hS).mono ?_;rintro e w4 ⟨v2,rfl,hs,hb⟩;have R2:=am (MadeR.new (Kd.R_mono hs (fun _ _=>trivial)) B.out.size);have Z2:=am hb.size;replace B:=am (below_step B.out hb);replace C2:=am (blk_below C2.out hb);replace S1:=am (Kd.S_below S1.out hb);clear hb hs;obtain⟨Av2,cv2,ev2⟩:=Kd.R_slice R2.out;subst ev2)|(refine bx 8 #[.int .i64 0,.int .i64 0,.slice none 0 0,.int .i64 0] 30 (h:= ?_);intro g6 hg6 w5 hbox hb;replace B:=am (below_step B.out hb);replace C2:=am (blk_below C2.out hb);replace R2:=am (Kd.R_below R2.out hb);have C6:=am hbox;have G6:=am hg6;clear hb hbox hg6;obtain⟨hc6_0,hc6_1,hc6_2,hc6_3,hf6_0,hf6_1,hf6_2,hf6_3⟩:=cf4 C6.out))
 replace LT:=am (And.intro LT.out (show w2.heap.size≤w3.heap.size∧w3.heap.size≤w4.heap.size∧g6=w4.heap.size∧g6<w5.heap.size from by have:=LT.out;have:=Z1.out;have:=Z2.out;have:=G6.out;have:=blk_lt C6.out;omega))
 clear Z1 Z2 G6
 clear S1 hc2_0 hc2_1 hc2_2
 obtain⟨w6,hw6⟩: ∃ w6,w6=((((w5.setCell ⟨g6,0,none⟩ (.int .i64 ka)).setCell ⟨g6,1,none⟩ (.int .i64 kv)).setCell ⟨g6,2,none⟩ (.slice Av2 b.length cv2)).setCell ⟨g6,3,none⟩ (.int .i64 ks)):=⟨_,rfl⟩
 rw [← hw6]
 have K6:Kept w5 w6 (fun q=>q=g6):=by
  rw [hw6]
  exact Kept.setCell (S:=fun q=>q=g6) (p:=⟨g6,3,none⟩) (Kept.setCell (S:=fun q=>q=g6) (p:=⟨g6,2,none⟩) (Kept.setCell (S:=fun q=>q=g6) (p:=⟨g6,1,none⟩) (Kept.setCell (S:=fun q=>q=g6) (p:=⟨g6,0,none⟩) (Kept.refl w5 (fun q=>q=g6)) (.inl rfl) (.int .i64 ka)) (.inl rfl) (.int .i64 kv)) (.inl rfl) (.slice Av2 b.length cv2)) (.inl rfl) (.int .i64 ks)
 replace B:=am (show Below w.heap.size w w6 from by rw [hw6];exact below_set (below_set (below_set (below_set (B.out) zq101) zq101) zq101) zq101)
 replace C6:=am (show w6.heap[g6]? =some (.cells #[.int .i64 ka,.int .i64 kv,.slice Av2 b.length cv2,.int .i64 ks] 30 (0,0)) from by
  rw [hw6]
  have p0:(w5.setCell ⟨g6,0,none⟩ (.int .i64 ka)).heap[g6]? =some (.cells #[.int .i64 ka,.int .i64 0,.slice none 0 0,.int .i64 0] 30 (0,0)):=blk_put C6.out 0 (.int .i64 ka) rfl
  have p1:((w5.setCell ⟨g6,0,none⟩ (.int .i64 ka)).setCell ⟨g6,1,none⟩ (.int .i64 kv)).heap[g6]? =some (.cells #[.int .i64 ka,.int .i64 kv,.slice none 0 0,.int .i64 0] 30 (0,0)):=blk_put p0 1 (.int .i64 kv) rfl
  have p2:(((w5.setCell ⟨g6,0,none⟩ (.int .i64 ka)).setCell ⟨g6,1,none⟩ (.int .i64 kv)).setCell ⟨g6,2,none⟩ (.slice Av2 b.length cv2)).heap[g6]? =some (.cells #[.int .i64 ka,.int .i64 kv,.slice Av2 b.length cv2,.int .i64 0] 30 (0,0)):=blk_put p1 2 (.slice Av2 b.length cv2) rfl
  have p3:((((w5.setCell ⟨g6,0,none⟩ (.int .i64 ka)).setCell ⟨g6,1,none⟩ (.int .i64 kv)).setCell ⟨g6,2,none⟩ (.slice Av2 b.length cv2)).setCell ⟨g6,3,none⟩ (.int .i64 ks)).heap[g6]? =some (.cells #[.int .i64 ka,.int .i64 kv,.slice Av2 b.length cv2,.int .i64 ks] 30 (0,0)):=blk_put p2 3 (.int .i64 ks) rfl
  exact p3)
 replace C2:=am (blk_kept C2.out K6 zq92)
 replace R2:=am (Kd.R_kept R2.out K6 (fun q hq e_=>zq92))
 clear hw6 K6 hc6_0 hf6_0 hc6_1 hf6_1 hc6_2 hf6_2 hc6_3 hf6_3
 replace LT:=am (And.intro LT.out (show g6<w6.heap.size from blk_lt C6.out))
 obtain⟨hc2_0,hc2_1,hc2_2⟩:=cl3 C2.out
 go_upto_region 7 with(first|(go_at_fn 17;refine(laws_toBench.calls k A0 c0 l0 u v p u v _ (Kd.C_below HR.out B.out) hc0 hT).mono ?_;rintro e w7 ⟨v3,rfl,hs,hb⟩;have S3:=am (Made.new (Kd.S_mono hs (fun _ _=>trivial)) B.out.size);have Z3:=am hb.size;replace B:=am (below_step B.out hb);replace C2:=am (blk_below C2.out hb);replace R2:=am (Kd.R_below R2.out hb);replace C6:=am (blk_below C6.out hb);clear hb hs;obtain⟨Av3,cv3,ev3⟩:=Kd.S_slice S3.out;subst ev3)|(refine bx 10 #[.slice none 0 0,.int .i64 0,.int .i64 0] 37 (h:= ?_);intro g8 hg8 w8 hbox hb;replace B:=am (below_step B.out hb);replace C2:=am (blk_below C2.out hb);replace R2:=am (Kd.R_below R2.out hb);replace S3:=am (Kd.S_below S3.out hb);replace C6:=am (blk_below C6.out hb);have C8:=am hbox;have G8:=am hg8;clear hb hbox hg8;obtain⟨hc8_0,hc8_1,hc8_2,hf8_0,hf8_1,hf8_2⟩:=cf3 C8.out))
 clear hc2_0 hc2_1 hc2_2
 replace LT:=am (And.intro LT.out (show w6.heap.size≤w7.heap.size∧g8=w7.heap.size∧g8<w8.heap.size from by have:=LT.out;have:=Z3.out;have:=G8.out;have:=blk_lt C8.out;omega))
 clear Z3 G8
 obtain⟨w9,hw9⟩: ∃ w9,w9=(((w8.setCell ⟨g8,0,none⟩ (.slice Av3 p.length cv3)).setCell ⟨g8,1,none⟩ (.int .i64 u)).setCell ⟨g8,2,none⟩ (.int .i64 v)):=⟨_,rfl⟩
 rw [← hw9]
 have K8:Kept w8 w9 (fun q=>q=g8):=by
  rw [hw9]
  exact Kept.setCell (S:=fun q=>q=g8) (p:=⟨g8,2,none⟩) (Kept.setCell (S:=fun q=>q=g8) (p:=⟨g8,1,none⟩) (Kept.setCell (S:=fun q=>q=g8) (p:=⟨g8,0,none⟩) (Kept.refl w8 (fun q=>q=g8)) (.inl rfl) (.slice Av3 p.length cv3)) (.inl rfl) (.int .i64 u)) (.inl rfl) (.int .i64 v)
 replace B:=am (show Below w.heap.size w w9 from by rw [hw9];exact below_set (below_set (below_set (B.out) zq101) zq101) zq101)
 replace C8:=am (show w9.heap[g8]? =some (.cells #[.slice Av3 p.length cv3,.int .i64 u,.int .i64 v] 37 (0,0)) from by
  rw [hw9]
  have p0:(w8.setCell ⟨g8,0,none⟩ (.slice Av3 p.length cv3)).heap[g8]? =some (.cells #[.slice Av3 p.length cv3,.int .i64 0,.int .i64 0] 37 (0,0)):=blk_put C8.out 0 (.slice Av3 p.length cv3) rfl
  have p1:((w8.setCell ⟨g8,0,none⟩ (.slice Av3 p.length cv3)).setCell ⟨g8,1,none⟩ (.int .i64 u)).heap[g8]? =some (.cells #[.slice Av3 p.length cv3,.int .i64 u,.int .i64 0] 37 (0,0)):=blk_put p0 1 (.int .i64 u) rfl
  have p2:(((w8.setCell ⟨g8,0,none⟩ (.slice Av3 p.length cv3)).setCell ⟨g8,1,none⟩ (.int .i64 u)).setCell ⟨g8,2,none⟩ (.int .i64 v)).heap[g8]? =some (.cells #[.slice Av3 p.length cv3,.int .i64 u,.int .i64 v] 37 (0,0)):=blk_put p1 2 (.int .i64 v) rfl
  exact p2)
 replace C2:=am (blk_kept C2.out K8 zq92)
 replace R2:=am (Kd.R_kept R2.out K8 (fun q hq e_=>zq92))
 replace S3:=am (Kd.S_kept S3.out K8 (fun q hq e_=>zq92))
 replace C6:=am (blk_kept C6.out K8 zq92)
 clear hw9 K8 hc8_0 hf8_0 hc8_1 hf8_1 hc8_2 hf8_2
 replace LT:=am (And.intro LT.out (show g8<w9.heap.size from blk_lt C8.out))
 obtain⟨hc8_0,hc8_1,hc8_2⟩:=cl3 C8.out
 go_upto_region 8 with(first|(go_at_fn 18;refine(impl_RunBench.calls Av3 cv3 p u v x1 x2 ka kv b ks o _ (Kd.S_reads' S3.out).2.2 (Kd.S_reads' S3.out).2.1 hI).mono ?_;rintro e w10 ⟨v4,rfl,hs,hb⟩;have R4:=am (MadeR.new (Kd.R_mono hs (fun _ _=>trivial)) B.out.size);have Z4:=am hb.size;replace B:=am (below_step B.out hb);replace C2:=am (blk_below C2.out hb);replace C8:=am (blk_below C8.out hb);replace R2:=am (Kd.R_below R2.out hb);replace S3:=am (Kd.S_below S3.out hb);replace C6:=am (blk_below C6.out hb);clear hb hs;obtain⟨Av4,cv4,ev4⟩:=Kd.R_slice R4.out;subst ev4)|(refine bx 11 #[.int .i64 0,.int .i64 0,.slice none 0 0,.int .i64 0] 30 (h:= ?_);intro g9 hg9 w11 hbox hb;replace B:=am (below_step B.out hb);replace C2:=am (blk_below C2.out hb);replace C8:=am (blk_below C8.out hb);replace R2:=am (Kd.R_below R2.out hb);replace S3:=am (Kd.S_below S3.out hb);replace C6:=am (blk_below C6.out hb);replace R4:=am (Kd.R_below R4.out hb);have C9:=am hbox;have G9:=am hg9;clear hb hbox hg9;obtain⟨hc9_0,hc9_1,hc9_2,hc9_3,hf9_0,hf9_1,hf9_2,hf9_3⟩:=cf4 C9.out))
 clear hc8_0 hc8_1 hc8_2
 replace LT:=am (And.intro LT.out (show w9.heap.size≤w10.heap.size∧g9=w10.heap.size∧g9<w11.heap.size from by have:=LT.out;have:=Z4.out;have:=G9.out;have:=blk_lt C9.out;omega))
 clear Z4 G9
 obtain⟨w12,hw12⟩: ∃ w12,w12=((((w11.setCell ⟨g9,0,none⟩ (.int .i64 ka)).setCell ⟨g9,1,none⟩ (.int .i64 kv)).setCell ⟨g9,2,none⟩ (.slice Av4 b.length cv4)).setCell ⟨g9,3,none⟩ (.int .i64 ks)):=⟨_,rfl⟩
 rw [← hw12]
 have K9:Kept w11 w12 (fun q=>q=g9):=by
  rw [hw12]
  exact Kept.setCell (S:=fun q=>q=g9) (p:=⟨g9,3,none⟩) (Kept.setCell (S:=fun q=>q=g9) (p:=⟨g9,2,none⟩) (Kept.setCell (S:=fun q=>q=g9) (p:=⟨g9,1,none⟩) (Kept.setCell (S:=fun q=>q=g9) (p:=⟨g9,0,none⟩) (Kept.refl w11 (fun q=>q=g9)) (.inl rfl) (.int .i64 ka)) (.inl rfl) (.int .i64 kv)) (.inl rfl) (.slice Av4 b.length cv4)) (.inl rfl) (.int .i64 ks)
 replace B:=am (show Below w.heap.size w w12 from by rw [hw12];exact below_set (below_set (below_set (below_set (B.out) zq101) zq101) zq101) zq101)
 replace C9:=am (show w12.heap[g9]? =some (.cells #[.int .i64 ka,.int .i64 kv,.slice Av4 b.length cv4,.int .i64 ks] 30 (0,0)) from by
  rw [hw12]
  have p0:(w11.setCell ⟨g9,0,none⟩ (.int .i64 ka)).heap[g9]? =some (.cells #[.int .i64 ka,.int .i64 0,.slice none 0 0,.int .i64 0] 30 (0,0)):=blk_put C9.out 0 (.int .i64 ka) rfl
  have p1:((w11.setCell ⟨g9,0,none⟩ (.int .i64 ka)).setCell ⟨g9,1,none⟩ (.int .i64 kv)).heap[g9]? =some (.cells #[.int .i64 ka,.int .i64 kv,.slice none 0 0,.int .i64 0] 30 (0,0)):=blk_put p0 1 (.int .i64 kv) rfl
  have p2:(((w11.setCell ⟨g9,0,none⟩ (.int .i64 ka)).setCell ⟨g9,1,none⟩ (.int .i64 kv)).setCell ⟨g9,2,none⟩ (.slice Av4 b.length cv4)).heap[g9]? =some (.cells #[.int .i64 ka,.int .i64 kv,.slice Av4 b.length cv4,.int .i64 0] 30 (0,0)):=blk_put p1 2 (.slice Av4 b.length cv4) rfl
  have p3:((((w11.setCell ⟨g9,0,none⟩ (.int .i64 ka)).setCell ⟨g9,1,none⟩ (.int .i64 kv)).setCell ⟨g9,2,none⟩ (.slice Av4 b.length cv4)).setCell ⟨g9,3,none⟩ (.int .i64 ks)).heap[g9]? =some (.cells #[.int .i64 ka,.int .i64 kv,.slice Av4 b.length cv4,.int .i64 ks] 30 (0,0)):=blk_put p2 3 (.int .i64 ks) rfl
  exact p3)
 replace C2:=am (blk_kept C2.out K9 zq92)
 replace C8:=am (blk_kept C8.out K9 zq92)
 replace R2:=am (Kd.R_kept R2.out K9 (fun q hq e_=>zq92))
 replace S3:=am (Kd.S_kept S3.out K9 (fun q hq e_=>zq92))
 replace R4:=am (Kd.R_kept R4.out K9 (fun q hq e_=>zq92))
 replace C6:=am (blk_kept C6.out K9 zq92)
 clear hw12 K9 hc9_0 hf9_0 hc9_1 hf9_1 hc9_2 hf9_2 hc9_3 hf9_3
 replace LT:=am (And.intro LT.out (show g9<w12.heap.size from blk_lt C9.out))
 obtain⟨hc9_0,hc9_1,hc9_2,hc9_3⟩:=cl4 C9.out
 obtain⟨hc6_0,hc6_1,hc6_2,hc6_3⟩:=cl4 C6.out
 go_upto_region 10 with(first|(go_at_fn 19;refine(laws_eqOutcome.calls k ka kv Av4 cv4 b ks ka kv Av2 cv2 b ks true _ (Kd.R_reads' R4.out).2.2 (Kd.R_reads' R4.out).2.1 (Kd.R_reads' R2.out).2.2 (Kd.R_reads' R2.out).2.1 hE).mono ?_;rintro e w13 ⟨rfl,hb⟩;replace B:=am (below_step B.out hb);replace C2:=am (blk_below C2.out hb);replace C8:=am (blk_below C8.out hb);replace R2:=am (Kd.R_below R2.out hb);replace S3:=am (Kd.S_below S3.out hb);replace C6:=am (blk_below C6.out hb);replace R4:=am (Kd.R_below R4.out hb);replace C9:=am (blk_below C9.out hb);clear hb))
 clear hc9_0 hc9_1 hc9_2 hc9_3 hc6_0 hc6_1 hc6_2 hc6_3
 try go_wp2
 have hdr:Below w13.heap.size w13 w13.drew:=below_drew1 (Below.refl _ _)
 replace B:=am (below_step B.out hdr)
 replace C2:=am (blk_below C2.out hdr)
 replace C8:=am (blk_below C8.out hdr)
 replace R2:=am (Kd.R_below R2.out hdr)
 replace S3:=am (Kd.S_below S3.out hdr)
 replace C6:=am (blk_below C6.out hdr)
 replace R4:=am (Kd.R_below R4.out hdr)
 replace C9:=am (blk_below C9.out hdr)
 clear hdr
 refine start_ (n:=5) (S:=fun w'=>w'.cell? ⟨g8,0,none⟩=some (.slice Av3 p.length cv3)∧w'.cell? ⟨g8,1,none⟩=some (.int .i64 u)∧w'.cell? ⟨g8,2,none⟩=some (.int .i64 v)∧w'.cell? ⟨g2,0,none⟩=some (.slice A0 l0.length c0)∧w'.cell? ⟨g2,1,none⟩=some (.int .i64 u)∧w'.cell? ⟨g2,2,none⟩=some (.int .i64 v)∧True) (ds:= []) (bb 5 0) zq27 rfl rfl ⟨(blk_cell C8.out 0).trans rfl,(blk_cell C8.out 1).trans rfl,(blk_cell C8.out 2).trans rfl,(blk_cell C2.out 0).trans rfl,(blk_cell C2.out 1).trans rfl,(blk_cell C2.out 2).trans rfl,trivial⟩ (fun hHeld=> ?_)
 generalize w13.drew=wd at B C2 C8 R2 S3 C6 R4 C9 hHeld ⊢
 refine tk 0 49 (bb 5 1) zq27 hHeld (h:= ?_)
 refine tk 1 50 (bb 5 3) zq27 hHeld (h:= ?_)
 refine oe 2 (some 51) (bb 5 7) zq27 (h:=fun K hK=> ?_)
 refine goes_ Try.func17 zq27 rfl #[.agg #[.slice A0 l0.length c0,.int .i64 u,.int .i64 v]] (by rfl) rfl rfl zq84 ?_
 refine(laws_toBench.calls k A0 c0 l0 u v p u v _ (Kd.C_below HR.out B.out) hc0 hT).mono ?_
 rintro e w14 ⟨v5,rfl,hs,hb⟩
 refine⟨_,rfl,?_⟩
 have S5:=am hs
 replace B:=am (below_step B.out hb)
 replace C2:=am (blk_below C2.out hb)
 replace C8:=am (blk_below C8.out hb)
 replace R2:=am (Kd.R_below R2.out hb)
 replace S3:=am (Kd.S_below S3.out hb)
 replace C6:=am (blk_below C6.out hb)
 replace R4:=am (Kd.R_below R4.out hb)
 replace C9:=am (blk_below C9.out hb)
 clear hb hs
 obtain⟨Av5,cv5,ev5⟩:=Kd.S_slice S5.out
 subst ev5
 refine hK.out _ _ ⟨(blk_cell C8.out 0).trans rfl,(blk_cell C8.out 1).trans rfl,(blk_cell C8.out 2).trans rfl,(blk_cell C2.out 0).trans rfl,(blk_cell C2.out 1).trans rfl,(blk_cell C2.out 2).trans rfl,trivial⟩ (fun hHeld=> ?_)
 clear hK K
 refine nm 51 (h:= ?_)
 refine oe 3 (some 52) (bb 5 15) zq27 (h:=fun K hK=> ?_)
 refine goes_ Try.func20 zq27 rfl #[.agg #[.slice Av3 p.length cv3,.int .i64 u,.int .i64 v],.agg #[.slice Av5 p.length cv5,.int .i64 u,.int .i64 v]] (by rfl) rfl rfl zq84 ?_
 refine(laws_eqBench.calls k Av3 cv3 p u v Av5 cv5 p u v true _ (Kd.S_reads' S3.out).2.2 (Kd.S_reads' S3.out).2.1 (Kd.S_reads' S5.out).2.2 (Kd.S_reads' S5.out).2.1 hEp).mono ?_
 rintro e w15 ⟨rfl,hb⟩
 refine⟨_,rfl,?_⟩
 replace B:=am (below_step B.out hb)
 replace C2:=am (blk_below C2.out hb)
 replace C8:=am (blk_below C8.out hb)
 replace R2:=am (Kd.R_below R2.out hb)
 replace S3:=am (Kd.S_below S3.out hb)
 replace C6:=am (blk_below C6.out hb)
 replace R4:=am (Kd.R_below R4.out hb)
 replace C9:=am (blk_below C9.out hb)
 clear hb S5
 refine hK.out _ _ ⟨(blk_cell C8.out 0).trans rfl,(blk_cell C8.out 1).trans rfl,(blk_cell C8.out 2).trans rfl,(blk_cell C2.out 0).trans rfl,(blk_cell C2.out 1).trans rfl,(blk_cell C2.out 2).trans rfl,trivial⟩ (fun hHeld=> ?_)
 clear hK K
 refine nm 52 (h:= ?_)
 refine pu 4 53 (bb 5 31) zq27 (h:= ?_)
 refine done_ zq27 ?_
 obtain⟨hc8_0,hc8_1,hc8_2⟩:=cl3 C8.out
 go_upto_region 14 with(first|(go_at_fn 21;refine(laws_markBench.calls k (fun q=>w6.heap.size≤q∧q<w7.heap.size) (.slice Av3 p.length cv3) p u v 1 m1 p' w _ B.out S3.out hM1).mono ?_;rintro e w16 ⟨rfl,hs,hb,hk⟩;clear S3;replace B:=am hb;replace C2:=am (blk_kept C2.out hk zq92);replace R2:=am (Kd.R_kept R2.out hk (fun q hq e_=>zq92));replace R4:=am (Kd.R_kept R4.out hk (fun q hq e_=>zq92));replace C6:=am (blk_kept C6.out hk zq92);replace C9:=am (blk_kept C9.out hk zq92);clear hs hb hk C8))
 clear hc8_0 hc8_1 hc8_2
 obtain⟨hc9_0,hc9_1,hc9_2,hc9_3⟩:=cl4 C9.out
 obtain⟨hc6_0,hc6_1,hc6_2,hc6_3⟩:=cl4 C6.out
 go_upto_region 16 with(first|(go_at_fn 19;refine(laws_eqOutcome.calls k ka kv Av4 cv4 b ks ka kv Av2 cv2 b ks true _ (Kd.R_reads' R4.out).2.2 (Kd.R_reads' R4.out).2.1 (Kd.R_reads' R2.out).2.2 (Kd.R_reads' R2.out).2.1 hE).mono ?_;rintro e w17 ⟨rfl,hb⟩;replace B:=am (below_step B.out hb);replace C2:=am (blk_below C2.out hb);replace R2:=am (Kd.R_below R2.out hb);replace R4:=am (Kd.R_below R4.out hb);replace C6:=am (blk_below C6.out hb);replace C9:=am (blk_below C9.out hb);clear hb))
 clear hc9_0 hc9_1 hc9_2 hc9_3 hc6_0 hc6_1 hc6_2 hc6_3
 obtain⟨hc9_0,hc9_1,hc9_2,hc9_3⟩:=cl4 C9.out
 replace LT:=am (And.intro LT.out (show g2+1≤w17.heap.size from by have:=LT.out;have:=blk_lt C2.out;omega))
 replace LT:=am (And.intro LT.out (show g6<w17.heap.size∧g9<w17.heap.size from⟨blk_lt C6.out,blk_lt C9.out⟩))
 go_upto_region 18 with(first|(go_at_fn 22;refine(laws_markOutcome.calls k ka kv (fun q=>w9.heap.size≤q∧q<w10.heap.size) (.slice Av4 b.length cv4) b ks 1 m2 b' w _ B.out R4.out hM2).mono ?_;rintro e w18 ⟨rfl,hs,hb,hk⟩;have O4:=am R4.out.1;clear R4;have R4:=am (Kd.R_mono (Kd.R_tight rfl hs) (fun q hq=>O4.out q hq.symm));replace B:=am hb;replace C2:=am (blk_kept C2.out hk zq92);replace R2:=am (Kd.R_kept R2.out hk (fun q hq e_=>zq92));replace C6:=am (blk_kept C6.out hk zq92);replace C9:=am (blk_kept C9.out hk zq92);clear hs hb hk O4))
 clear hc9_0 hc9_1 hc9_2 hc9_3
 obtain⟨hc9_0,hc9_1,hc9_2,hc9_3⟩:=cl4 C9.out
 have hheld:=fun(W:World) (h:Kd.C k63 W Av4 b'.length b') (hc:b'.length≤cv4)=>laws_heldOutcome.calls k ka kv Av4 cv4 b' ks 1 m2 W h hc hH
 rw [hlen] at hheld
 have HL:=am hlen
 clear hlen
 go_upto_region 24 with(first|(go_at_fn 23;refine(hheld _ (by have h_:=(Kd.R_reads' R4.out).2.2;rw [HL.out] at h_;exact h_) (Kd.R_reads' R4.out).2.1).mono ?_;rintro e w19 ⟨rfl,hb⟩;replace B:=am (below_step B.out hb);replace C2:=am (blk_below C2.out hb);replace R2:=am (Kd.R_below R2.out hb);replace R4:=am (Kd.R_below R4.out hb);replace C6:=am (blk_below C6.out hb);replace C9:=am (blk_below C9.out hb);clear hb))
 clear hc9_0 hc9_1 hc9_2 hc9_3
 obtain⟨hc2_0,hc2_1,hc2_2⟩:=cl3 C2.out
 go_upto_region 25 with(first|(go_at_fn 17;refine(laws_toBench.calls k A0 c0 l0 u v p u v _ (Kd.C_below HR.out B.out) hc0 hT).mono ?_;rintro e w20 ⟨v6,rfl,hs,hb⟩;have S6:=am (Made.new (Kd.S_mono hs (fun _ _=>trivial)) B.out.size);have Z6:=am hb.size;replace B:=am (below_step B.out hb);replace C2:=am (blk_below C2.out hb);replace R2:=am (Kd.R_below R2.out hb);replace R4:=am (Kd.R_below R4.out hb);replace C6:=am (blk_below C6.out hb);replace C9:=am (blk_below C9.out hb);clear hb hs;obtain⟨Av6,cv6,ev6⟩:=Kd.S_slice S6.out;subst ev6)|(go_at_fn 18;refine(impl_RunBench.calls Av6 cv6 p u v x1 x2 ka kv b ks o _ (Kd.S_reads' S6.out).2.2 (Kd.S_reads' S6.out).2.1 hI).mono ?_;rintro e w21 ⟨v7,rfl,hs,hb⟩;have R7:=am (MadeR.new (Kd.R_mono hs (fun _ _=>trivial)) B.out.size);have Z7:=am hb.size;replace B:=am (below_step B.out hb);replace C2:=am (blk_below C2.out hb);replace R2:=am (Kd.R_below R2.out hb);replace R4:=am (Kd.R_below R4.out hb);replace C6:=am (blk_below C6.out hb);replace C9:=am (blk_below C9.out hb);replace S6:=am (Kd.S_below S6.out hb);clear hb hs;obtain⟨Av7,cv7,ev7⟩:=Kd.R_slice R7.out;subst ev7)|(refine bx 16 #[.int .i64 0,.int .i64 0,.slice none 0 0,.int .i64 0] 30 (h:= ?_);intro g14 hg14 w22 hbox hb;have P14:=am (show g6<g14∧g9<g14∧w.heap.size≤g14 from by rw [hg14];exact⟨blk_lt C6.out,blk_lt C9.out,B.out.size⟩);replace B:=am (below_step B.out hb);replace C2:=am (blk_below C2.out hb);replace R2:=am (Kd.R_below R2.out hb);replace R4:=am (Kd.R_below R4.out hb);replace C6:=am (blk_below C6.out hb);replace C9:=am (blk_below C9.out hb);replace R7:=am (Kd.R_below R7.out hb);have C14:=am hbox;have G14:=am hg14;clear hb hbox hg14;obtain⟨hc14_0,hc14_1,hc14_2,hc14_3,hf14_0,hf14_1,hf14_2,hf14_3⟩:=cf4 C14.out))
 clear C2 S6 Z6 hc2_0 hc2_1 hc2_2
 replace LT:=am (And.intro LT.out P14.out)
 obtain⟨w23,hw23⟩: ∃ w23,w23=((((w22.setCell ⟨g14,0,none⟩ (.int .i64 ka)).setCell ⟨g14,1,none⟩ (.int .i64 kv)).setCell ⟨g14,2,none⟩ (.slice Av7 b.length cv7)).setCell ⟨g14,3,none⟩ (.int .i64 ks)):=⟨_,rfl⟩
 rw [← hw23]
 have K14:Kept w22 w23 (fun q=>q=g14):=by
  rw [hw23]
  exact Kept.setCell (S:=fun q=>q=g14) (p:=⟨g14,3,none⟩) (Kept.setCell (S:=fun q=>q=g14) (p:=⟨g14,2,none⟩) (Kept.setCell (S:=fun q=>q=g14) (p:=⟨g14,1,none⟩) (Kept.setCell (S:=fun q=>q=g14) (p:=⟨g14,0,none⟩) (Kept.refl w22 (fun q=>q=g14)) (.inl rfl) (.int .i64 ka)) (.inl rfl) (.int .i64 kv)) (.inl rfl) (.slice Av7 b.length cv7)) (.inl rfl) (.int .i64 ks)
 replace B:=am (show Below w.heap.size w w23 from by rw [hw23];exact below_set (below_set (below_set (below_set (B.out) (P14.out.2.2)) (P14.out.2.2)) (P14.out.2.2)) (P14.out.2.2))
 replace C14:=am (show w23.heap[g14]? =some (.cells #[.int .i64 ka,.int .i64 kv,.slice Av7 b.length cv7,.int .i64 ks] 30 (0,0)) from by
  rw [hw23]
  have p0:(w22.setCell ⟨g14,0,none⟩ (.int .i64 ka)).heap[g14]? =some (.cells #[.int .i64 ka,.int .i64 0,.slice none 0 0,.int .i64 0] 30 (0,0)):=blk_put C14.out 0 (.int .i64 ka) rfl
  have p1:((w22.setCell ⟨g14,0,none⟩ (.int .i64 ka)).setCell ⟨g14,1,none⟩ (.int .i64 kv)).heap[g14]? =some (.cells #[.int .i64 ka,.int .i64 kv,.slice none 0 0,.int .i64 0] 30 (0,0)):=blk_put p0 1 (.int .i64 kv) rfl
  have p2:(((w22.setCell ⟨g14,0,none⟩ (.int .i64 ka)).setCell ⟨g14,1,none⟩ (.int .i64 kv)).setCell ⟨g14,2,none⟩ (.slice Av7 b.length cv7)).heap[g14]? =some (.cells #[.int .i64 ka,.int .i64 kv,.slice Av7 b.length cv7,.int .i64 0] 30 (0,0)):=blk_put p1 2 (.slice Av7 b.length cv7) rfl
  have p3:((((w22.setCell ⟨g14,0,none⟩ (.int .i64 ka)).setCell ⟨g14,1,none⟩ (.int .i64 kv)).setCell ⟨g14,2,none⟩ (.slice Av7 b.length cv7)).setCell ⟨g14,3,none⟩ (.int .i64 ks)).heap[g14]? =some (.cells #[.int .i64 ka,.int .i64 kv,.slice Av7 b.length cv7,.int .i64 ks] 30 (0,0)):=blk_put p2 3 (.int .i64 ks) rfl
  exact p3)
 replace C6:=am (blk_kept C6.out K14 zq92)
 replace C9:=am (blk_kept C9.out K14 zq92)
 replace R2:=am (Kd.R_kept R2.out K14 (fun q hq e_=>zq101))
 replace R4:=am (Kd.R_kept R4.out K14 (fun q hq e_=>zq101))
 replace R7:=am (Kd.R_kept R7.out K14 (fun q hq e_=>by have:=G14.out;omega))
 clear hw23 K14 hc14_0 hf14_0 hc14_1 hf14_1 hc14_2 hf14_2 hc14_3 hf14_3
 obtain⟨hc14_0,hc14_1,hc14_2,hc14_3⟩:=cl4 C14.out
 obtain⟨hc6_0,hc6_1,hc6_2,hc6_3⟩:=cl4 C6.out
 go_upto_region 27 with(first|(go_at_fn 19;refine(laws_eqOutcome.calls k ka kv Av7 cv7 b ks ka kv Av2 cv2 b ks true _ (Kd.R_reads' R7.out).2.2 (Kd.R_reads' R7.out).2.1 (Kd.R_reads' R2.out).2.2 (Kd.R_reads' R2.out).2.1 hE).mono ?_;rintro e w24 ⟨rfl,hb⟩;replace B:=am (below_step B.out hb);replace R4:=am (Kd.R_below R4.out hb);replace C9:=am (blk_below C9.out hb);clear hb))
 clear hc14_0 hc14_1 hc14_2 hc14_3 hc6_0 hc6_1 hc6_2 hc6_3
 obtain⟨hc9_0,hc9_1,hc9_2,hc9_3⟩:=cl4 C9.out
 go_wp2_with (first|(go_at_fn 23;refine(hheld _ (by have h_:=(Kd.R_reads' R4.out).2.2;rw [HL.out] at h_;exact h_) (Kd.R_reads' R4.out).2.1).mono ?_;rintro e w25 ⟨rfl,hb⟩;replace B:=am (below_step B.out hb);clear hb))
 go_ret
 exact⟨rfl,B.out⟩
end Go.Proofs.Yteiafboknimgbaa.Pr
end
