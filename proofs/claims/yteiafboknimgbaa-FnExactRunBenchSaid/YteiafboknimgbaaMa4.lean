import Derived.Test.YteiafboknimgbaaProg
import Derived.Test.YteiafboknimgbaaMa3
import Derived.Test.YteiafboknimgbaaMa2
import Derived.Shelf.Abstract
set_option maxHeartbeats 8000000
set_option maxRecDepth 100000
set_option linter.unusedVariables false
set_option linter.unusedSimpArgs false
section
namespace Go.Proofs.Yteiafboknimgbaa.Pr
open Go.RowKit Go.Proofs.W.PrintWords Go.Proofs.W.PrintLast Go.Proofs.W.PrintMore
attribute [local go_sem] max2_int min2_int max_two min_two max_three min_three max_four min_four
def errW:Option Int→Value
 |none=> .nilIface
 |some c=> .iface 0 (.int .i64 c)
theorem errW_none:errW none= .nilIface:=rfl
theorem errW_some(c:Int):errW (some c)= .iface 0 (.int .i64 c):=rfl
theorem info217:(Try.prog.info? 217).map (fun i=>(i.zero,i.size,i.bytes))=some (some (.slice none 0 0),1,24):=by kernel_rfl
theorem info219:(Try.prog.info? 219).map (fun i=>(i.zero,i.size,i.bytes))=some (some (.agg #[(.int .i64 0),(.int .i64 0),(.int .i64 0)]),3,24):=by kernel_rfl
structure S295 where
 f0:Int
 f1:Int
 f2:Int
def z295:S295:=⟨(0:Int),(0:Int),(0:Int)⟩
def k295:Kd S295:=Kd.iso (Kd.pair (Kd.int .i64) (Kd.pair (Kd.int .i64) (Kd.int .i64))) (fun x:S295=>(x.f0,x.f1,x.f2))
theorem k295_open {w:World} {x:S295} {cs:List Value} (h:k295.K w x cs):cs= [.int .i64 x.f0,.int .i64 x.f1,.int .i64 x.f2]:=by
 obtain⟨_,_,rfl,rfl,⟨_,_,rfl,rfl,rfl⟩⟩:=h
 exact rfl
theorem k295_mk(w:World)(x:S295):k295.K w x [.int .i64 x.f0,.int .i64 x.f1,.int .i64 x.f2]:=⟨[.int .i64 x.f0],[.int .i64 x.f1,.int .i64 x.f2],rfl,rfl,⟨[.int .i64 x.f1],[.int .i64 x.f2],rfl,rfl,rfl⟩⟩
def rd_T295(xs:List S295)(i:Int):S295:=xs.getD i.toNat z295
theorem at_T295 {w:World} {A:Option Addr} {n:Nat} {xs:List S295} (h:Kd.C k295 w A n xs)(i:Int)(h0:0≤i)(h1:i<n): ∃ ad,A=some ad∧w.cell? (ad.add (i.toNat*3))=some (.int .i64 (rd_T295 xs i).f0)∧w.cell? ⟨(ad.add (i.toNat*3)).block,(ad.add (i.toNat*3)).off+1,none⟩=some (.int .i64 (rd_T295 xs i).f1)∧w.cell? ⟨(ad.add (i.toNat*3)).block,(ad.add (i.toNat*3)).off+2,none⟩=some (.int .i64 (rd_T295 xs i).f2):=by
 obtain⟨ad,c,e,_,hK,hc0⟩:=Kd.C_get h z295 i h0 h1
 have hc: ∀ j u,c[j]? =some u→w.cell? (ad.add (i.toNat*3+j))=some u:=hc0
 obtain rfl:=k295_open hK
 exact⟨ad,e,hc 0 _ rfl,by rw [← add_field _ _ 1 zq90];exact hc 1 _ rfl,by rw [← add_field _ _ 2 zq90];exact hc 2 _ rfl⟩
def rd_L2(xs:List (List S295))(i:Int):(List S295):=xs.getD i.toNat ([]:List S295)
theorem at_L2 {w:World} {A:Option Addr} {n:Nat} {xs:List (List S295)} (h:Kd.C (Kd.slice 295 k295) w A n xs)(i:Int)(h0:0≤i)(h1:i<n): ∃ ad A0 c0,A=some ad∧w.cell? (ad.add i.toNat)=some (.slice A0 (rd_L2 xs i).length c0)∧(rd_L2 xs i).length≤c0∧k295.C w A0 (rd_L2 xs i).length (rd_L2 xs i):=by
 obtain⟨ad,c,e,_,hK,hc0⟩:=Kd.C_get h ([]:List S295) i h0 h1
 have hc: ∀ j u,c[j]? =some u→w.cell? (ad.add (i.toNat*1+j))=some u:=hc0
 obtain⟨A0,c0,rfl,l0,g0⟩:=hK
 exact⟨ad,A0,c0,e,by have hq:=hc 0 _ rfl;rwa [Nat.mul_one,Nat.add_zero] at hq,l0,g0⟩
structure S219 where
 f0:Int
 f1:Int
 f2:Int
def z219:S219:=⟨(0:Int),(0:Int),(0:Int)⟩
def k219:Kd S219:=Kd.iso (Kd.pair (Kd.int .i64) (Kd.pair (Kd.int .i64) (Kd.int .i64))) (fun x:S219=>(x.f0,x.f1,x.f2))
theorem k219_open {w:World} {x:S219} {cs:List Value} (h:k219.K w x cs):cs= [.int .i64 x.f0,.int .i64 x.f1,.int .i64 x.f2]:=by
 obtain⟨_,_,rfl,rfl,⟨_,_,rfl,rfl,rfl⟩⟩:=h
 exact rfl
theorem k219_openM {w:World} {base:Nat} {ok:Nat→Prop} {x:S219} {cs:List Value} (h:k219.M w base ok x cs):cs= [.int .i64 x.f0,.int .i64 x.f1,.int .i64 x.f2]:=by
 obtain⟨_,_,rfl,rfl,⟨_,_,rfl,rfl,rfl⟩⟩:=h
 exact rfl
theorem k219_mkM(w:World)(base:Nat)(ok:Nat→Prop)(x:S219):k219.M w base ok x [.int .i64 x.f0,.int .i64 x.f1,.int .i64 x.f2]:=⟨[.int .i64 x.f0],[.int .i64 x.f1,.int .i64 x.f2],rfl,rfl,⟨[.int .i64 x.f1],[.int .i64 x.f2],rfl,rfl,rfl⟩⟩
def rd_T219(xs:List S219)(i:Int):S219:=xs.getD i.toNat z219
theorem at_T219 {w:World} {A:Option Addr} {n:Nat} {xs:List S219} (h:Kd.C k219 w A n xs)(i:Int)(h0:0≤i)(h1:i<n): ∃ ad,A=some ad∧w.cell? (ad.add (i.toNat*3))=some (.int .i64 (rd_T219 xs i).f0)∧w.cell? ⟨(ad.add (i.toNat*3)).block,(ad.add (i.toNat*3)).off+1,none⟩=some (.int .i64 (rd_T219 xs i).f1)∧w.cell? ⟨(ad.add (i.toNat*3)).block,(ad.add (i.toNat*3)).off+2,none⟩=some (.int .i64 (rd_T219 xs i).f2):=by
 obtain⟨ad,c,e,_,hK,hc0⟩:=Kd.C_get h z219 i h0 h1
 have hc: ∀ j u,c[j]? =some u→w.cell? (ad.add (i.toNat*3+j))=some u:=hc0
 obtain rfl:=k219_open hK
 exact⟨ad,e,hc 0 _ rfl,by rw [← add_field _ _ 1 zq90];exact hc 1 _ rfl,by rw [← add_field _ _ 2 zq90];exact hc 2 _ rfl⟩
def rd_L4(xs:List (List S219))(i:Int):(List S219):=xs.getD i.toNat ([]:List S219)
theorem at_L4 {w:World} {A:Option Addr} {n:Nat} {xs:List (List S219)} (h:Kd.C (Kd.slice 219 k219) w A n xs)(i:Int)(h0:0≤i)(h1:i<n): ∃ ad A0 c0,A=some ad∧w.cell? (ad.add i.toNat)=some (.slice A0 (rd_L4 xs i).length c0)∧(rd_L4 xs i).length≤c0∧k219.C w A0 (rd_L4 xs i).length (rd_L4 xs i):=by
 obtain⟨ad,c,e,_,hK,hc0⟩:=Kd.C_get h ([]:List S219) i h0 h1
 have hc: ∀ j u,c[j]? =some u→w.cell? (ad.add (i.toNat*1+j))=some u:=hc0
 obtain⟨A0,c0,rfl,l0,g0⟩:=hK
 exact⟨ad,A0,c0,e,by have hq:=hc 0 _ rfl;rwa [Nat.mul_one,Nat.add_zero] at hq,l0,g0⟩
structure S35 where
 f0:(List (List S219))
structure S63 where
 f0:Int
 f1:Int
 f2:Int
def z63:S63:=⟨(0:Int),(0:Int),(0:Int)⟩
def k63:Kd S63:=Kd.iso (Kd.pair (Kd.int .i64) (Kd.pair (Kd.int .i64) (Kd.int .i64))) (fun x:S63=>(x.f0,x.f1,x.f2))
theorem k63_open {w:World} {x:S63} {cs:List Value} (h:k63.K w x cs):cs= [.int .i64 x.f0,.int .i64 x.f1,.int .i64 x.f2]:=by
 obtain⟨_,_,rfl,rfl,⟨_,_,rfl,rfl,rfl⟩⟩:=h
 exact rfl
theorem k63_openM {w:World} {base:Nat} {ok:Nat→Prop} {x:S63} {cs:List Value} (h:k63.M w base ok x cs):cs= [.int .i64 x.f0,.int .i64 x.f1,.int .i64 x.f2]:=by
 obtain⟨_,_,rfl,rfl,⟨_,_,rfl,rfl,rfl⟩⟩:=h
 exact rfl
theorem k63_mkM(w:World)(base:Nat)(ok:Nat→Prop)(x:S63):k63.M w base ok x [.int .i64 x.f0,.int .i64 x.f1,.int .i64 x.f2]:=⟨[.int .i64 x.f0],[.int .i64 x.f1,.int .i64 x.f2],rfl,rfl,⟨[.int .i64 x.f1],[.int .i64 x.f2],rfl,rfl,rfl⟩⟩
def rd_T63(xs:List S63)(i:Int):S63:=xs.getD i.toNat z63
theorem at_T63 {w:World} {A:Option Addr} {n:Nat} {xs:List S63} (h:Kd.C k63 w A n xs)(i:Int)(h0:0≤i)(h1:i<n): ∃ ad,A=some ad∧w.cell? (ad.add (i.toNat*3))=some (.int .i64 (rd_T63 xs i).f0)∧w.cell? ⟨(ad.add (i.toNat*3)).block,(ad.add (i.toNat*3)).off+1,none⟩=some (.int .i64 (rd_T63 xs i).f1)∧w.cell? ⟨(ad.add (i.toNat*3)).block,(ad.add (i.toNat*3)).off+2,none⟩=some (.int .i64 (rd_T63 xs i).f2):=by
 obtain⟨ad,c,e,_,hK,hc0⟩:=Kd.C_get h z63 i h0 h1
 have hc: ∀ j u,c[j]? =some u→w.cell? (ad.add (i.toNat*3+j))=some u:=hc0
 obtain rfl:=k63_open hK
 exact⟨ad,e,hc 0 _ rfl,by rw [← add_field _ _ 1 zq90];exact hc 1 _ rfl,by rw [← add_field _ _ 2 zq90];exact hc 2 _ rfl⟩
structure S174 where
 f0:Int
 f1:(List S63)
structure S84 where
 f0:Int
 f1:Int
 f2:Bool
 f3:Int
 f4:Int
structure S93 where
 f0:Int
 f1:Int
structure S137 where
 f0:Int
 f1:Int
def laws_markStepS.l0:Nat→List (S219)→Int→Int→Option (Int×(List (S219)))
 |0,_,_,_=>none
 |k+1,x0,x1,x5=>if x5<(x0.length:Int) then(if 0≤x5 then((some (x0.set (x5:Int).toNat (⟨x1,(rd_T219 x0 x5).f1,(rd_T219 x0 x5).f2⟩:S219):List (S219))).bind fun y225=>((some (y225.set (x5:Int).toNat (⟨(rd_T219 y225 x5).f0,wrap64 (x1+1),(rd_T219 y225 x5).f2⟩:S219):List (S219))).bind fun y226=>(laws_markStepS.l0 k (y226.set (x5:Int).toNat (⟨(rd_T219 y226 x5).f0,(rd_T219 y226 x5).f1,wrap64 ((wrap64 (x1+1))+1)⟩:S219)) (wrap64 ((wrap64 ((wrap64 (x1+1))+1))+1)) (wrap64 (x5+1))))) else(none)) else(some (x1,x0))
def laws_markStepS.f(k:Nat)(l0:List (S219))(a1:Int):Option (Int×(List (S219))):=laws_markStepS.l0 k l0 a1 0
theorem laws_markStepS.calls(k:Nat)(P0_:Nat→Prop)(u9000_:Value)(l0:List (S219))(a1:Int)(r1:Int)(r2:List (S219))(w0 w:World)(hB:Below w0.heap.size w0 w)(ho0:Kd.R k219 219 w w0.heap.size P0_ u9000_ l0)(h:laws_markStepS.f k l0 a1=some (r1,r2)) :
  Calls Try.prog 232 #[u9000_,.int .i64 a1] w fun e w'=>e= .returned (.int .i64 r1)∧Kd.R k219 219 w' w0.heap.size (fun k_=>(P0_ k_∨w.heap.size≤k_)) u9000_ r2∧Below w0.heap.size w0 w'∧Kept w w' (fun k_=>P0_ k_):=by
 have HO0:=am (show Kd.R k219 219 w w0.heap.size (fun k_=>(P0_ k_∨w.heap.size≤k_)) u9000_ l0 from Kd.R_mono ho0 (fun k_ hk=>(.inl hk)))
 have HK:=am (Kept.refl w (fun k_=>P0_ k_))
 have HW0:=am hB.size
 have HB:=am hB
 clear hB
 have H:(laws_markStepS.l0 k l0 a1 0)=some (r1,r2):=h
 clear h
 have H':=am H
 clear H
 go_enter Try.func232,Try.ntmps232
 go_wp2
 go_loopg [1,5] k (fun kq v1 v5 w'=> ∃ (x0_1:List (S219)) (x1_1:Int) (x5_1:Int),v1= .int .i64 x1_1∧v5= .int .i64 x5_1∧Aside0 (laws_markStepS.l0 kq x0_1 x1_1 x5_1=some (r1,r2))∧Aside0 (kq≤k)∧Aside0 (Kd.R k219 219 w' w0.heap.size (fun k_=>(P0_ k_∨w.heap.size≤k_)) u9000_ x0_1)∧Aside0 (Kept w w' (fun k_=>P0_ k_))∧Aside0 (Below w0.heap.size w0 w'))
 case atStart=>exact⟨(l0),(a1),(0),zq8,zq8,H',⟨Nat.le_refl _⟩,⟨zq149⟩,⟨zq46⟩,⟨zq0⟩⟩
 case round =>
  clear H'
  try clear c2
  try clear p2
  obtain⟨x0_1,x1_1,x5_1,rfl,rfl,HA,HK1,HO_0,HK,HB⟩:=hrel
  cases gk with
  |zero=>exact absurd HA.out (by simp [laws_markStepS.l0])
  |succ k1 =>
   have H:=HA.out
   clear HA
   simp only [laws_markStepS.l0] at H
   by_cases c3:x5_1<(x0_1.length:Int)
   ·rw [if_pos c3] at H
    have c3b0:decide (x5_1<(x0_1.length:Int))=true:=decide_eq_true c3
    clear c3
    by_cases c4:0≤x5_1
    ·rw [if_pos c4] at H
     have c4b0:decide (0≤x5_1)=true:=decide_eq_true c4
     clear c4
     obtain⟨y225,hy225⟩: ∃ y_:List (S219),y_=(x0_1.set (x5_1:Int).toNat (⟨x1_1,(rd_T219 x0_1 x5_1).f1,(rd_T219 x0_1 x5_1).f2⟩:S219)):=⟨_,rfl⟩
     replace H:((some (y225.set (x5_1:Int).toNat (⟨(rd_T219 y225 x5_1).f0,wrap64 (x1_1+1),(rd_T219 y225 x5_1).f2⟩:S219):List (S219))).bind fun y226=>(laws_markStepS.l0 k1 (y226.set (x5_1:Int).toNat (⟨(rd_T219 y226 x5_1).f0,(rd_T219 y226 x5_1).f1,wrap64 ((wrap64 (x1_1+1))+1)⟩:S219)) (wrap64 ((wrap64 ((wrap64 (x1_1+1))+1))+1)) (wrap64 (x5_1+1))))=some (r1,r2):=by first|(rw [hy225];with_reducible exact H)|(have H2_:=(Option.bind_some _ _).symm.trans H;rw [hy225];with_reducible exact H2_)|(have H2_:=(Option.bind_some _ _).symm.trans H;with_reducible exact H2_)|with_reducible exact H|(rw [hy225];exact H)|exact H
     have Ny225:=am hy225
     clear hy225
     obtain⟨y226,hy226⟩: ∃ y_:List (S219),y_=(y225.set (x5_1:Int).toNat (⟨(rd_T219 y225 x5_1).f0,wrap64 (x1_1+1),(rd_T219 y225 x5_1).f2⟩:S219)):=⟨_,rfl⟩
     replace H:(laws_markStepS.l0 k1 (y226.set (x5_1:Int).toNat (⟨(rd_T219 y226 x5_1).f0,(rd_T219 y226 x5_1).f1,wrap64 ((wrap64 (x1_1+1))+1)⟩:S219)) (wrap64 ((wrap64 ((wrap64 (x1_1+1))+1))+1)) (wrap64 (x5_1+1)))=some (r1,r2):=by first|(rw [hy226];with_reducible exact H)|(have H2_:=(Option.bind_some _ _).symm.trans H;rw [hy226];with_reducible exact H2_)|(have H2_:=(Option.bind_some _ _).symm.trans H;with_reducible exact H2_)|with_reducible exact H|(rw [hy226];exact H)|exact H
     have Ny226:=am hy226
     clear hy226
     obtain⟨y227,hy227⟩: ∃ y_:List (S219),y_=(y226.set (x5_1:Int).toNat (⟨(rd_T219 y226 x5_1).f0,(rd_T219 y226 x5_1).f1,wrap64 ((wrap64 (x1_1+1))+1)⟩:S219)):=⟨_,rfl⟩
     replace H:(laws_markStepS.l0 k1 y227 (wrap64 ((wrap64 ((wrap64 (x1_1+1))+1))+1)) (wrap64 (x5_1+1)))=some (r1,r2):=by first|(rw [hy227];with_reducible exact H)|(have H2_:=(Option.bind_some _ _).symm.trans H;rw [hy227];with_reducible exact H2_)|(have H2_:=(Option.bind_some _ _).symm.trans H;with_reducible exact H2_)|with_reducible exact H|(rw [hy227];exact H)|exact H
     have Ny227:=am hy227
     clear hy227
     have H':=am H
     clear H
     obtain⟨Ao8,co8,eo8⟩:=Kd.R_slice HO_0.out
     subst eo8
     have p5:0≤(x5_1:Int):=of_decide_eq_true zq26
     have q5:(x5_1:Int)<((x0_1.length:Int):Int):=of_decide_eq_true zq26
     obtain⟨go5,co5,eo5,gb5,gl5,cl5,HG5⟩:=Kd.R_form HO_0.out zq90
     (first|cases eo5|(injection eo5 with ea_ en_ ec_;(first|subst ea_|(injection ea_ with ea_;subst ea_));subst ec_;clear en_))
     have GB5:=am gb5
     have GG5:=am HG5
     clear gb5 gl5 HG5
     have HMgo5:=am (show(P0_ go5∨w.heap.size≤go5) from(HO_0.out.1 _ rfl))
     obtain⟨ce5,hcl5,hM5,hcc5,hfr5⟩:=Kd.R_elem HO_0.out z219 (x5_1:Int) p5 q5
     obtain rfl:=k219_openM hM5
     have hx5_0:wr.cell? ⟨go5,(x5_1:Int).toNat*3,none⟩=some (.int .i64 ((rd_T219 x0_1 x5_1).f0)):=hcc5 0 _ rfl
     have hx5_1:wr.cell? ⟨go5,(x5_1:Int).toNat*3+1,none⟩=some (.int .i64 ((rd_T219 x0_1 x5_1).f1)):=hcc5 1 _ rfl
     have hx5_2:wr.cell? ⟨go5,(x5_1:Int).toNat*3+2,none⟩=some (.int .i64 ((rd_T219 x0_1 x5_1).f2)):=hcc5 2 _ rfl
     have hf5_0:wr.frozen? ⟨go5,(x5_1:Int).toNat*3,none⟩=false:=hfr5 0
     have hf5_1:wr.frozen? ⟨go5,(x5_1:Int).toNat*3+1,none⟩=false:=hfr5 1
     have hf5_2:wr.frozen? ⟨go5,(x5_1:Int).toNat*3+2,none⟩=false:=hfr5 2
     clear hcl5 hcc5 hfr5;(try clear hM5)
     replace p5:=eq_true p5
     replace q5:=eq_true q5
     have HX9:=am (show Kd.R k219 219 wr w0.heap.size (fun k_=>(P0_ k_∨w.heap.size≤k_)) (.slice (some ⟨go5,0,none⟩) x0_1.length co8) x0_1 from zq51)
     obtain⟨ce9,hcl9,hM9,hcc9,hfr9⟩:=Kd.R_elem HX9.out z219 (x5_1:Int) (of_decide_eq_true zq26) (by have h_:(x5_1:Int)<((x0_1.length:Int):Int):=of_decide_eq_true zq26;first|exact h_|(have e_:=(Kd.R_reads' HO_0.out).1;omega)|simpa using h_)
     obtain rfl:=k219_openM hM9
     have HP9:=Kd.R_seg HX9.out (x5_1:Int) (of_decide_eq_true zq26) (by have h_:(x5_1:Int)<((x0_1.length:Int):Int):=of_decide_eq_true zq26;first|exact h_|(have e_:=(Kd.R_reads' HO_0.out).1;omega)|simpa using h_) (seg:= [.int .i64 x1_1]) (j:=0) hcl9 hcc9 (show 1≤3 from by decide) (x':=(⟨x1_1,(rd_T219 x0_1 x5_1).f1,(rd_T219 x0_1 x5_1).f2⟩:S219)) (k219_mkM _ _ _ (⟨x1_1,(rd_T219 x0_1 x5_1).f1,(rd_T219 x0_1 x5_1).f2⟩:S219)) (fun _ hk=>hk)
     have hx9_0:=hcc9 0 _ rfl
     (try simp only [show (k219).sz=3 from rfl,Nat.mul_one,Nat.add_zero] at hx9_0)
     have hf9_0:=hfr9 0
     (try simp only [show (k219).sz=3 from rfl,Nat.mul_one,Nat.add_zero] at hf9_0)
     clear hcl9 hcc9 hfr9;(try clear hM9)
     go_wp2_with (first|((with_reducible refine gate_store (t:=3) (p:=16) rfl ?_);refine store_event (t:=3) (p:=16) (v:= ?vo_w10) (w1:=(wr.setCell ⟨go5,(x5_1:Int).toNat*3,none⟩ (.int .i64 x1_1))) ?hg ?ho ?hn ?hr ?_;(case ho=>rfl);(case hg=>rfl);(case hn=>rfl);(case hr=>first|(go_simp;done)|(go_simp;rfl));intro w10 hw;have hg:wr.grownBy w10 (some go5):=(by rw [hw];exact HP9.2);have hp_:Kd.R k219 219 w10 w0.heap.size (fun k_=>(P0_ k_∨w.heap.size≤k_)) (.slice (some ⟨go5,0,none⟩) x0_1.length co8) y225:=(by rw [hw,Ny225.out];exact HP9.1);clear HP9;replace HB:=am ((zq107:Below w0.heap.size w0 w10));replace HK:=am (Kept.of_grown (S:=(fun k_=>P0_ k_)) hg zq46 (fun k_ e_=>(HO_0.out.1 k_ e_)));replace HO_0:=am (hp_);clear hg hw hp_;have p6:0≤(x5_1:Int):=of_decide_eq_true zq26;have q6:(x5_1:Int)<((x0_1.length:Int):Int):=of_decide_eq_true zq26;obtain⟨ce6,hcl6,hM6,hcc6,hfr6⟩:=Kd.R_elem HO_0.out z219 (x5_1:Int) p6 q6;obtain rfl:=k219_openM hM6;have hx6_0:w10.cell? ⟨go5,(x5_1:Int).toNat*3,none⟩=some (.int .i64 ((rd_T219 y225 x5_1).f0)):=hcc6 0 _ rfl;have hx6_1:w10.cell? ⟨go5,(x5_1:Int).toNat*3+1,none⟩=some (.int .i64 ((rd_T219 y225 x5_1).f1)):=hcc6 1 _ rfl;have hx6_2:w10.cell? ⟨go5,(x5_1:Int).toNat*3+2,none⟩=some (.int .i64 ((rd_T219 y225 x5_1).f2)):=hcc6 2 _ rfl;have hf6_0:w10.frozen? ⟨go5,(x5_1:Int).toNat*3,none⟩=false:=hfr6 0;have hf6_1:w10.frozen? ⟨go5,(x5_1:Int).toNat*3+1,none⟩=false:=hfr6 1;have hf6_2:w10.frozen? ⟨go5,(x5_1:Int).toNat*3+2,none⟩=false:=hfr6 2;clear hcl6 hcc6 hfr6;(try clear hM6);replace p6:=eq_true p6;replace q6:=eq_true q6;have HX11:=am (show Kd.R k219 219 w10 w0.heap.size (fun k_=>(P0_ k_∨w.heap.size≤k_)) (.slice (some ⟨go5,0,none⟩) x0_1.length co8) y225 from zq51);obtain⟨ce11,hcl11,hM11,hcc11,hfr11⟩:=Kd.R_elem HX11.out z219 (x5_1:Int) (of_decide_eq_true zq26) (by have h_:(x5_1:Int)<((x0_1.length:Int):Int):=of_decide_eq_true zq26;first|exact h_|(have e_:=(Kd.R_reads' HO_0.out).1;omega)|simpa using h_);obtain rfl:=k219_openM hM11;have HP11:=Kd.R_seg HX11.out (x5_1:Int) (of_decide_eq_true zq26) (by have h_:(x5_1:Int)<((x0_1.length:Int):Int):=of_decide_eq_true zq26;first|exact h_|(have e_:=(Kd.R_reads' HO_0.out).1;omega)|simpa using h_) (seg:= [.int .i64 (wrap64 (x1_1+1))]) (j:=1) hcl11 hcc11 (show 2≤3 from by decide) (x':=(⟨(rd_T219 y225 x5_1).f0,wrap64 (x1_1+1),(rd_T219 y225 x5_1).f2⟩:S219)) (k219_mkM _ _ _ (⟨(rd_T219 y225 x5_1).f0,wrap64 (x1_1+1),(rd_T219 y225 x5_1).f2⟩:S219)) (fun _ hk=>hk);have hx11_1:=hcc11 1 _ rfl;(try simp only [show (k219).sz=3 from rfl,Nat.mul_one,Nat.add_zero] at hx11_1);have hf11_1:=hfr11 1;(try simp only [show (k219).sz=3 from rfl,Nat.mul_one,Nat.add_zero] at hf11_1);clear hcl11 hcc11 hfr11;(try clear hM11))|((with_reducible refine gate_store (t:=3) (p:=23) rfl ?_);refine store_event (t:=3) (p:=23) (v:= ?vo_w12) (w1:=(w10.setCell ⟨go5,(x5_1:Int).toNat*3+1,none⟩ (.int .i64 (wrap64 (x1_1+1))))) ?hg ?ho ?hn ?hr ?_;(case ho=>rfl);(case hg=>rfl);(case hn=>rfl);(case hr=>first|(go_simp;done)|(go_simp;rfl));intro w12 hw;have hg:w10.grownBy w12 (some go5):=(by rw [hw];exact HP11.2);have hp_:Kd.R k219 219 w12 w0.heap.size (fun k_=>(P0_ k_∨w.heap.size≤k_)) (.slice (some ⟨go5,0,none⟩) x0_1.length co8) y226:=(by rw [hw,Ny226.out];exact HP11.1);clear HP11;replace HB:=am ((zq107:Below w0.heap.size w0 w12));replace HK:=am (Kept.of_grown (S:=(fun k_=>P0_ k_)) hg zq46 (fun k_ e_=>(HO_0.out.1 k_ e_)));replace HO_0:=am (hp_);clear hg hw hp_;have p7:0≤(x5_1:Int):=of_decide_eq_true zq26;have q7:(x5_1:Int)<((x0_1.length:Int):Int):=of_decide_eq_true zq26;obtain⟨ce7,hcl7,hM7,hcc7,hfr7⟩:=Kd.R_elem HO_0.out z219 (x5_1:Int) p7 q7;obtain rfl:=k219_openM hM7;have hx7_0:w12.cell? ⟨go5,(x5_1:Int).toNat*3,none⟩=some (.int .i64 ((rd_T219 y226 x5_1).f0)):=hcc7 0 _ rfl;have hx7_1:w12.cell? ⟨go5,(x5_1:Int).toNat*3+1,none⟩=some (.int .i64 ((rd_T219 y226 x5_1).f1)):=hcc7 1 _ rfl;have hx7_2:w12.cell? ⟨go5,(x5_1:Int).toNat*3+2,none⟩=some (.int .i64 ((rd_T219 y226 x5_1).f2)):=hcc7 2 _ rfl;have hf7_0:w12.frozen? ⟨go5,(x5_1:Int).toNat*3,none⟩=false:=hfr7 0;have hf7_1:w12.frozen? ⟨go5,(x5_1:Int).toNat*3+1,none⟩=false:=hfr7 1;have hf7_2:w12.frozen? ⟨go5,(x5_1:Int).toNat*3+2,none⟩=false:=hfr7 2;clear hcl7 hcc7 hfr7;(try clear hM7);replace p7:=eq_true p7;replace q7:=eq_true q7;have HX13:=am (show Kd.R k219 219 w12 w0.heap.size (fun k_=>(P0_ k_∨w.heap.size≤k_)) (.slice (some ⟨go5,0,none⟩) x0_1.length co8) y226 from zq51);obtain⟨ce13,hcl13,hM13,hcc13,hfr13⟩:=Kd.R_elem HX13.out z219 (x5_1:Int) (of_decide_eq_true zq26) (by have h_:(x5_1:Int)<((x0_1.length:Int):Int):=of_decide_eq_true zq26;first|exact h_|(have e_:=(Kd.R_reads' HO_0.out).1;omega)|simpa using h_);obtain rfl:=k219_openM hM13;have HP13:=Kd.R_seg HX13.out (x5_1:Int) (of_decide_eq_true zq26) (by have h_:(x5_1:Int)<((x0_1.length:Int):Int):=of_decide_eq_true zq26;first|exact h_|(have e_:=(Kd.R_reads' HO_0.out).1;omega)|simpa using h_) (seg:= [.int .i64 (wrap64 ((wrap64 (x1_1+1))+1))]) (j:=2) hcl13 hcc13 (show 3≤3 from by decide) (x':=(⟨(rd_T219 y226 x5_1).f0,(rd_T219 y226 x5_1).f1,wrap64 ((wrap64 (x1_1+1))+1)⟩:S219)) (k219_mkM _ _ _ (⟨(rd_T219 y226 x5_1).f0,(rd_T219 y226 x5_1).f1,wrap64 ((wrap64 (x1_1+1))+1)⟩:S219)) (fun _ hk=>hk);have hx13_2:=hcc13 2 _ rfl;(try simp only [show (k219).sz=3 from rfl,Nat.mul_one,Nat.add_zero] at hx13_2);have hf13_2:=hfr13 2;(try simp only [show (k219).sz=3 from rfl,Nat.mul_one,Nat.add_zero] at hf13_2);clear hcl13 hcc13 hfr13;(try clear hM13))|((with_reducible refine gate_store (t:=3) (p:=30) rfl ?_);refine store_event (t:=3) (p:=30) (v:= ?vo_w14) (w1:=(w12.setCell ⟨go5,(x5_1:Int).toNat*3+2,none⟩ (.int .i64 (wrap64 ((wrap64 (x1_1+1))+1))))) ?hg ?ho ?hn ?hr ?_;(case ho=>rfl);(case hg=>rfl);(case hn=>rfl);(case hr=>first|(go_simp;done)|(go_simp;rfl));intro w14 hw;have hg:w12.grownBy w14 (some go5):=(by rw [hw];exact HP13.2);have hp_:Kd.R k219 219 w14 w0.heap.size (fun k_=>(P0_ k_∨w.heap.size≤k_)) (.slice (some ⟨go5,0,none⟩) x0_1.length co8) y227:=(by rw [hw,Ny227.out];exact HP13.1);clear HP13;replace HB:=am ((zq107:Below w0.heap.size w0 w14));replace HK:=am (Kept.of_grown (S:=(fun k_=>P0_ k_)) hg zq46 (fun k_ e_=>(HO_0.out.1 k_ e_)));replace HO_0:=am (hp_);clear hg hw hp_))
     go_roundg k1
     case measure=>have:=HK1.out;omega
     case rel=>exact⟨(y227),(wrap64 ((wrap64 ((wrap64 (x1_1+1))+1))+1)),(wrap64 (x5_1+1)),zq8,zq8,H',⟨zq110⟩,⟨zq51⟩,⟨zq46⟩,⟨zq0⟩⟩
    ·rw [if_neg c4] at H
     exact absurd H (by simp)
   ·rw [if_neg c3] at H
    have c3b0:decide (x5_1<(x0_1.length:Int))=false:=decide_eq_false c3
    clear c3
    simp only [Option.some.injEq,Prod.mk.injEq] at H
    obtain⟨rfl,rfl⟩:=H
    obtain⟨Ao15,co15,eo15⟩:=Kd.R_slice HO_0.out
    subst eo15
    go_wp2
    go_ret
    exact⟨zq3,zq51,zq0,zq46⟩
end Go.Proofs.Yteiafboknimgbaa.Pr
end

section
namespace Go.Proofs.Yteiafboknimgbaa.Pr
open Go.RowKit Go.Proofs.W.PrintWords Go.Proofs.W.PrintLast Go.Proofs.W.PrintMore
def laws_markStepSS.g(k:Nat):List (List S219)→Int→Option (Int×List (List S219))
 | [],a=>some (a,[])
 |x::xs,a=>(laws_markStepS.f k x a).bind fun p=>(laws_markStepSS.g k xs p.1).bind fun q=>some (q.1,p.2::q.2)
def laws_markStepSS.f(k:Nat)(l0:List (List S219))(a1:Int):Option (Int×List (List S219)):=laws_markStepSS.g k l0 a1
theorem laws_markStepSS.calls(k:Nat)(P0_:Nat→Prop)(u9000_:Value)(l0:List (List S219))(a1:Int)(r1:Int)(r2:List (List S219))(w0 w:World)(hB:Below w0.heap.size w0 w)(ho0:Kd.S (Kd.slice 219 k219) 217 w w0.heap.size P0_ u9000_ l0)(h:laws_markStepSS.f k l0 a1=some (r1,r2)) :
  Calls Try.prog 149 #[u9000_,.int .i64 a1] w fun e w'=>e= .returned (.int .i64 r1)∧Kd.S (Kd.slice 219 k219) 217 w' w0.heap.size P0_ u9000_ r2∧Below w0.heap.size w0 w'∧Kept w w' (fun k_=>P0_ k_):=by
 have e117: ∀ args w,(callFunc 232 args).run Try.prog w= .ok (.enter 232 args) w:=enters_of Try.func232 zq27 rfl
 obtain⟨A,c,rfl⟩:=Kd.S_slice ho0
 have hmax:(l0.length:Int)≤9223372036854775807:=by
  have:=(Kd.S_reads' ho0).2.2.2.1
  omega
 have HB:=am hB
 have HS:=am ho0
 have HF:=am h
 have HMX:=am hmax
 clear hB ho0 h hmax
 go_enter Try.func149,Try.ntmps149
 go_wp2
 go_loopg [1,5] l0.length (fun gg v1 v5 wr=> ∃ (kk:Nat) (x1:Int),v1= .int .i64 x1∧v5= .int .i64 kk∧kk≤l0.length∧l0.length-kk≤gg ∧
  Aside0 (∃ d t t',d.length=kk∧(d++t).length=l0.length∧laws_markStepSS.g k t x1=some (r1,t')∧r2=d++t'∧Kd.S (Kd.slice 219 k219) 217 wr w0.heap.size P0_ (.slice A l0.length c) (d++t)∧Below w0.heap.size w0 wr∧Kept w wr (fun k_=>P0_ k_)))
 case atStart=>exact⟨0,a1,rfl,rfl,Nat.zero_le _,zq90,⟨[],l0,r2,rfl,rfl,HF.out,rfl,HS.out,HB.out,Kept.refl _ _⟩⟩
 case round =>
  obtain⟨kk,x1,rfl,rfl,hkk,hg,⟨d,t,t',hd,hl,hG,hr2,hS,hb0,hK⟩⟩:=hrel
  cases t with
  |nil =>
   simp only [laws_markStepSS.g,Option.some.injEq,Prod.mk.injEq] at hG
   obtain⟨rfl,rfl⟩:=hG
   have hz: ¬((kk:Int)<(l0.length:Int)):=by simp only [List.append_nil] at hl;omega
   have F:=am (And.intro hr2 (And.intro hS (And.intro hb0 hK)))
   clear hr2 hS hb0 hK HF HS hg hl hd hkk
   go_wp2
   go_ret
   obtain⟨hr2,hS,hb0,hK⟩:=F.out
   rw [hr2]
   exact⟨rfl,hS,hb0,hK⟩
  |cons x t =>
   simp only [laws_markStepSS.g] at hG
   obtain⟨⟨y1,x'⟩,h1,hG⟩:=Option.bind_eq_some_iff.1 hG
   obtain⟨⟨z1,t2⟩,h2,hG⟩:=Option.bind_eq_some_iff.1 hG
   simp only [Option.some.injEq,Prod.mk.injEq] at hG
   obtain⟨rfl,rfl⟩:=hG
   have hz:(kk:Int)<(l0.length:Int):=by simp only [List.length_append,List.length_cons] at hl;omega
   obtain⟨go,co,eo,_⟩:=Kd.S_form hS (by simp only [List.length_append,List.length_cons];omega)
   injection eo with ea e2 ec
   clear e2 ec
   subst ea
   have hS':=hS
   obtain⟨oki,ce,hcl,hM,hcc,hfr,hoki,hH⟩:=Kd.S_elem hS' [] (kk:Int) zq90 hz
   obtain⟨vi,rfl,hR⟩:=hM
   have hx:(d++x::t).getD (kk:Int).toNat []=x:=by
    rw [Int.toNat_natCast,List.getD_eq_getElem?_getD,List.getElem?_append_right zq90,hd,Nat.sub_self];rfl
   rw [hx] at hR
   obtain⟨Ai,ci,rfl⟩:=Kd.R_slice hR
   have hx0:=hcc 0 _ rfl
   have hf0:=hfr 0
   simp only [show (Kd.slice 219 k219).sz=1 from rfl,Nat.mul_one,Nat.add_zero,Int.toNat_natCast] at hx0 hf0
   have hcall:=laws_markStepS.calls k (fun q=>some q=(Value.slice Ai x.length ci).ownBlock) (.slice Ai x.length ci) x x1 y1 x' w0 wr hb0 (Kd.R_tight rfl hR) h1
   have F:=am (And.intro hr2 (And.intro hH (And.intro hb0 (And.intro hK (And.intro hR (And.intro hoki (And.intro h2 (And.intro hd hl))))))))
   clear hr2 hS hS' hb0 hK HF HS hH hR hoki hfr hcc hcl h1 h2 hd hl hx hkk
   go_wp2_with (go_at_fn 232;refine hcall.mono ?_;rintro e w' ⟨rfl,hro,hb',hk'⟩)
   go_roundg (l0.length-(kk+1))
   case measure=>omega
   case rel =>
    obtain⟨hr2,hH,hb0,hK,hR,hoki,h2,hd,hl⟩:=F.out
    have hl':d.length+(t.length+1)=l0.length:=by simpa using hl
    have hmx:=HMX.out
    have hkl:kk+1≤l0.length:=by omega
    have hown: ∀ q,some q=(Value.slice Ai x.length ci).ownBlock→oki q:=fun q hq=>hR.1 q hq.symm
    refine⟨kk+1,y1,rfl,by rw [show wrap64 ((kk:Int)+1)=((kk+1:Nat):Int) from by unfold wrap64;omega],zq90,zq90,⟨d++ [x'],t,t2,by simp [hd],by simp only [List.length_append,List.length_cons,List.length_nil] at hl ⊢;omega,h2,by rw [hr2];simp,?_,hb',hK.then_ hk' (fun q hq=> .inl (hoki q (hown q hq)).1)⟩⟩
    have hH':=Kd.H_step hH (w1:=w') (fun q _ hn hlt=>hk'.2 q hlt (fun hq=>hn (hown q hq)))
    have hB2:=Kd.H_back hH' (x':=x') (okp:=fun q=>some q=(Value.slice Ai x.length ci).ownBlock) ⟨_,rfl,Kd.R_tight rfl hro⟩ hown
    rw [Int.toNat_natCast,List.set_append_right _ _ zq90,hd,Nat.sub_self] at hB2
    simpa using hB2
theorem laws_markProgram.calls(k:Nat)(P0_:Nat→Prop)(u9000_:Value)(l0:List (List S219))(a1:Int)(r1:Int)(r2:List (List S219))(w0 w:World)(hB:Below w0.heap.size w0 w)(ho0:Kd.S (Kd.slice 219 k219) 217 w w0.heap.size P0_ u9000_ l0)(h:laws_markStepSS.f k l0 a1=some (r1,r2)) :
  Calls Try.prog 30 #[.agg #[u9000_],.int .i64 a1] w fun e w'=>e= .returned (.int .i64 r1)∧Kd.S (Kd.slice 219 k219) 217 w' w0.heap.size P0_ u9000_ r2∧Below w0.heap.size w0 w'∧Kept w w' (fun k_=>P0_ k_):=by
 have hu28:=Try.underlying35
 have e73: ∀ args w,(callFunc 149 args).run Try.prog w= .ok (.enter 149 args) w:=enters_of Try.func149 zq27 rfl
 obtain⟨A,c,rfl⟩:=Kd.S_slice ho0
 have hcall:=laws_markStepSS.calls k P0_ (.slice A l0.length c) l0 a1 r1 r2 w0 (w.alloc (.cells #[.slice A l0.length c] 35)) (below_alloc hB _) (Kd.S_alloc ho0 _) h
 clear ho0 h
 go_enter Try.func30,Try.ntmps30
 go_wp2_with (go_at_fn 149;refine hcall.mono ?_;rintro e w' ⟨rfl,h1,h2,h3⟩)
 go_ret
 exact⟨rfl,h1,h2,(Kept.alloc (Kept.refl w _) _).then_ h3 (fun q hq=> .inl hq)⟩
theorem laws_markBench.calls(k:Nat)(P0_:Nat→Prop)(u9000_:Value)(l0:List (List S219))(f c0:Int)(a1:Int)(r1:Int)(r2:List (List S219))(w0 w:World)(hB:Below w0.heap.size w0 w)(ho0:Kd.S (Kd.slice 219 k219) 217 w w0.heap.size P0_ u9000_ l0)(h:laws_markStepSS.f k l0 a1=some (r1,r2)) :
  Calls Try.prog 21 #[.agg #[u9000_,.int .i64 f,.int .i64 c0],.int .i64 a1] w fun e w'=>e= .returned (.int .i64 r1)∧Kd.S (Kd.slice 219 k219) 217 w' w0.heap.size P0_ u9000_ r2∧Below w0.heap.size w0 w'∧Kept w w' (fun k_=>P0_ k_):=by
 have hu28:=Try.underlying35
 have hu30:=Try.underlying37
 have e19: ∀ args w,(callFunc 30 args).run Try.prog w= .ok (.enter 30 args) w:=enters_of Try.func30 zq27 rfl
 obtain⟨A,c,rfl⟩:=Kd.S_slice ho0
 have hcall:=laws_markProgram.calls k P0_ (.slice A l0.length c) l0 a1 r1 r2 w0 (w.alloc (.cells #[.slice A l0.length c,.int .i64 f,.int .i64 c0] 37)) (below_alloc hB _) (Kd.S_alloc ho0 _) h
 clear ho0 h
 go_enter Try.func21,Try.ntmps21
 go_wp2_with (go_at_fn 30;refine hcall.mono ?_;rintro e w' ⟨rfl,h1,h2,h3⟩)
 go_ret
 exact⟨rfl,h1,h2,(Kept.alloc (Kept.refl w _) _).then_ h3 (fun q hq=> .inl hq)⟩
end Go.Proofs.Yteiafboknimgbaa.Pr
end

section
namespace Go.Proofs.Yteiafboknimgbaa.Pr.M
abbrev St:=S219
structure Ev where (f0 f1 f2:Int)
def wrap16(x:Int):Int:=(x+32768)%65536-32768
structure CI where (fn par:Int)(dfr:Bool)(fin val arg:Int)
structure PI where (call fn val depth fate by_ last:Int)(again:Bool)(unw:List Int)
structure RC where (call saved pan:Int)
structure MS where
 made:Int
 shared:Int
 depth:Int
 deepest:Int
 trace:List Ev
 owners:List Int
 calls:List CI
 panics:List PI
 recs:List RC
 places:List (Int×Int)
structure Fr where
 id:Int
 fn:Int
 r0:Int
 r1:Int
 r2:Int
 r3:Int
 runs:List (Int×Int)
 dfr:Bool
 counted:Bool
 leaving:Bool
 fin:Int
 pan:Int
def reg(f:Fr)(i:Int):Int:=if i=0 then f.r0 else if i=1 then f.r1 else if i=2 then f.r2 else f.r3
def setReg(f:Fr)(i v:Int):Fr:=if i=0 then { f with r0:=v } else if i=1 then { f with r1:=v } else if i=2 then { f with r2:=v } else { f with r3:=v }
def tell(m:MS)(k f v o:Int):MS:= { m with trace:=m.trace++ [⟨k,f,v⟩],owners:=m.owners++ [o] }
def pz:PI:=⟨0,0,0,0,0,0,0,false,[]⟩
def panAt(m:MS)(i:Int):PI:=m.panics.getD i.toNat pz
def setPan(m:MS)(i:Int)(p:PI):MS:= { m with panics:=m.panics.set i.toNat p }
def recoverI(m:MS)(f:Fr)(par:Option Fr)(r:Int):MS×Fr :=
 match par with
 |some pf =>
  if f.dfr=true∧f.counted=false∧pf.fin=2 then
   (tell { setPan m pf.pan { panAt m pf.pan with fate:=1 } with recs:=m.recs++ [⟨f.id,pf.id,pf.pan⟩] } 6 f.fn (panAt m pf.pan).val f.id,
    {setReg { f with counted:=true } r (panAt m pf.pan).val with r3:=1 })
  else(m,{ setReg f r 0 with r3:=0 })
 |none=>(m,{ setReg f r 0 with r3:=0 })
def stepI(m:MS)(f:Fr)(par:Option Fr)(s:St):MS×Fr×Option Fr×Bool :=
 if s.f0=1 then(m,setReg f s.f1 s.f2,par,false)
 else if s.f0=2 then(m,setReg f s.f1 (wrap16 (reg f s.f1+reg f s.f2)),par,false)
 else if s.f0=3 then(tell m 4 f.fn (reg f s.f1) f.id,f,par,false)
 else if s.f0=5 then(tell m 2 s.f1 (reg f s.f2) f.id,{ f with runs:=f.runs++ [(s.f1,reg f s.f2)] },par,false)
 else if s.f0=6 then(tell { m with panics:=m.panics++ [⟨f.id,f.fn,reg f s.f1,m.depth,0,-1,-1,f.counted,[]⟩] } 5 f.fn (reg f s.f1) f.id,{ f with fin:=2,pan:=m.panics.length },par,true)
 else if s.f0=7 then((recoverI m f par s.f1).1,(recoverI m f par s.f1).2,par,false)
 else if s.f0=8 then(m,{ f with r1:=reg f s.f1 },par,true)
 else if s.f0=9 then(m,f,if f.dfr=true then par.map (fun pf=> { pf with r1:=reg f s.f1 }) else par,false)
 else if s.f0=10 then(m,{ f with leaving:=true,fin:=3 },par,true)
 else if s.f0=12 then({ m with shared:=reg f s.f1 },f,par,false)
 else if s.f0=13 then(m,setReg f s.f1 m.shared,par,false)
 else(m,f,par,false)
abbrev ResI:=MS×Option (Fr×Option Fr)
def madeI(m:MS)(fn at_:Int):MS:= { m with made:=m.made+1,places:=(fn,at_)::m.places }
def bodyI(rec:MS→Int→Int→Option Fr→Bool→ResI)(p:List (List St))(fuel:Int):Nat→MS→Fr→Option Fr→Nat→ResI
 |0,m,_,_,_=>(m,none)
 |n+1,m,f,par,at_ =>
  match (p.getD f.fn.toNat [])[at_]? with
  |none=>(m,some (f,par))
  |some s =>
   if m.made=fuel then(m,none)
   else if s.f0=11 then bodyI rec p fuel n (madeI m f.fn at_) f par (if 0<reg f s.f2 then s.f1.toNat else at_+1)
   else if s.f0=4 then
    match rec (madeI m f.fn at_) s.f1 (reg f s.f2) (some f) false with
    |(m,some (d,some f)) =>
     if d.fin=1 then bodyI rec p fuel n m { f with leaving:=f.leaving||d.leaving,r2:=d.r1 } par (at_+1)
     else(m,some ({ f with leaving:=f.leaving||d.leaving,fin:=d.fin,pan:=d.pan },par))
    |(m,_)=>(m,none)
   else
    match stepI (madeI m f.fn at_) f par s with
    |(m,f,par,true)=>(m,some (f,par))
    |(m,f,par,false)=>bodyI rec p fuel n m f par (at_+1)
def behindI(m:MS)(f d:Fr):MS×Fr :=
  let f:= { f with leaving:=f.leaving||d.leaving }
  let on:=f.fin=2∧d.counted=false
  if d.fin=2 then
    (if on then
      let m1:=setPan m f.pan { panAt m f.pan with fate:=2,by_:=d.pan }
      setPan m1 d.pan { panAt m1 d.pan with last:=f.pan }
     else m,{ f with fin:=2,pan:=d.pan })
  else if d.fin=3 then(if on then setPan m f.pan { panAt m f.pan with fate:=4 } else m,{ f with fin:=3 })
  else if d.counted=true then(m,{ f with fin:=if f.leaving=true then 3 else 1 })
  else(m,f)
def runsI(rec:MS→Int→Int→Option Fr→Bool→ResI):List (Int×Int)→MS→Fr→Option Fr→ResI
 | [],m,f,par=>(m,some ({ f with runs:= [] },par))
 |(g,a)::l,m,f,par =>
  match rec m g a (some { f with runs:=l.reverse }) true with
  |(m,some (d,some f))=>runsI rec l (behindI m f d).1 (behindI m f d).2 par
  |(m,_)=>(m,none)
def finishI(m:MS)(f:Fr):MS :=
 let kv:Int×Int:=if f.fin=1 then(7,f.r1) else if f.fin=2 then(8,(panAt m f.pan).val) else(9,0)
 let m1:=if f.fin=2 then setPan m f.pan { panAt m f.pan with unw:=(panAt m f.pan).unw++ [f.fn] } else m
 let c:=m1.calls.getD f.id.toNat ⟨0,0,false,0,0,0⟩
 tell { m1 with calls:=m1.calls.set f.id.toNat { c with fin:=f.fin,val:=kv.2 } } kv.1 f.fn kv.2 f.id
def parId:Option Fr→Int
 |some pf=>pf.id
 |none=> -1
def beginI(m:MS)(fn arg:Int)(par:Option Fr)(dfr:Bool):MS :=
 {tell { m with calls:=m.calls++ [⟨fn,parId par,dfr,4,0,arg⟩] } (if dfr=true then 3 else 1) fn arg m.calls.length with
  depth:=m.depth+1
  deepest:=if m.deepest<m.depth+1 then m.depth+1 else m.deepest }
def frameI(m:MS)(fn arg:Int)(dfr:Bool):Fr:=⟨m.calls.length,fn,arg,0,0,0,[],dfr,false,false,1,-1⟩
def callI(p:List (List St))(fuel:Int)(R:Nat):Nat→MS→Int→Int→Option Fr→Bool→ResI
 |0,m,_,_,_,_=>(m,none)
 |d+1,m,fn,arg,par,dfr =>
  match bodyI (callI p fuel R d) p fuel R (beginI m fn arg par dfr) (frameI m fn arg dfr) par 0 with
  |(m,none)=>(m,none)
  |(m,some (f,par)) =>
   match runsI (callI p fuel R d) f.runs.reverse m f par with
   |(m,none)=>(m,none)
   |(m,some (f,par))=>({ finishI m f with depth:=m.depth-1 },some (f,par))
structure OutM where (kind value:Int)(trace:List Ev)(spent:Int)
def ms0(shared:Int):MS:=⟨0,shared,0,0,[],[],[],[],[],[]⟩
def ranI(p:List (List St))(R:Nat)(f arg fuel shared:Int):MS×OutM :=
 match callI p fuel R 8 (ms0 shared) f arg none false with
 |(m,none)=>(m,⟨4,0,m.trace,m.made⟩)
 |(m,some (fr,_))=>(if fr.fin=2 then setPan m fr.pan { panAt m fr.pan with fate:=3 } else m,⟨fr.fin,(m.calls.getD 0 ⟨0,0,false,0,0,0⟩).val,m.trace,m.made⟩)
structure SM where
 spent:Bool
 shared:Int
 made:Int
 deep:Int
 trace:List Ev
 seen:List (Int×Int)
structure SF where
 f:Int
 depth:Int
 r0:Int
 r1:Int
 r2:Int
 r3:Int
 defers:List (Int×Int)
 kind:Int
 value:Int
 leaving:Bool
 deferred:Bool
 panicking:Bool
 panic:Int
 recovered:Bool
 outer:Int
def sreg(f:SF)(i:Int):Int:=if i=0 then f.r0 else if i=1 then f.r1 else if i=2 then f.r2 else f.r3
def setSreg(f:SF)(i v:Int):SF:=if i=0 then { f with r0:=v } else if i=1 then { f with r1:=v } else if i=2 then { f with r2:=v } else { f with r3:=v }
def stell(m:SM)(k f v:Int):SM:= { m with trace:=m.trace++ [⟨k,f,v⟩] }
def simpleS(m:SM)(c:SF)(s:St):SM×SF :=
  if s.f0=1 then(m,setSreg c s.f1 s.f2)
  else if s.f0=2 then(m,setSreg c s.f1 ((sreg c s.f1+sreg c s.f2+163840).tmod 65536-32768))
  else if s.f0=3 then(stell m 4 c.f (sreg c s.f1),c)
  else if s.f0=9 then(m,if c.deferred=true then { c with outer:=sreg c s.f1 } else c)
  else if s.f0=12 then({ m with shared:=sreg c s.f1 },c)
  else if s.f0=13 then(m,setSreg c s.f1 m.shared)
  else if s.f0=7 then
    (if c.panicking=true∧c.recovered=false then(stell m 6 c.f c.panic,{ setSreg { c with recovered:=true } s.f1 c.panic with r3:=1 })
     else(m,{ setSreg c s.f1 0 with r3:=0 }))
  else(m,c)
def innerS(rec:SM→SF→SM×SF)(m:SM)(c:SF)(at_:Int)(s:St):SM×SF×Int :=
 match rec m ⟨s.f1,c.depth+1,sreg c s.f2,0,0,0,[],0,0,false,false,false,0,false,0⟩ with
 |(m,inner) =>
  if inner.kind=1 then(m,{ c with r2:=inner.r1 },at_+1)
  else if inner.kind=2 then(m,{ c with kind:=2,value:=inner.value,leaving:=c.leaving||inner.leaving },-1)
  else if inner.kind=3 then(m,{ c with kind:=3,leaving:=c.leaving||inner.leaving },-1)
  else(m,{ c with leaving:=c.leaving||inner.leaving },-1)
def makeS(rec:SM→SF→SM×SF)(m:SM)(c:SF)(at_:Int)(s:St):SM×SF×Int :=
 if s.f0=4 then innerS rec m c at_ s
 else if s.f0=5 then(stell m 2 s.f1 (sreg c s.f2),{ c with defers:=c.defers++ [(s.f1,sreg c s.f2)] },at_+1)
 else if s.f0=6 then(stell m 5 c.f (sreg c s.f1),{ c with kind:=2,value:=sreg c s.f1 },-1)
 else if s.f0=8 then(m,{ c with r1:=sreg c s.f1 },-1)
 else if s.f0=10 then(m,{ c with kind:=3,leaving:=true },-1)
 else if s.f0=11 then(m,c,if 0<sreg c s.f2 then s.f1 else at_+1)
 else((simpleS m c s).1,(simpleS m c s).2,at_+1)
def madeS(m:SM)(fn at_:Int):SM:= { m with made:=m.made+1,seen:=m.seen++ [(fn,at_)] }
def bodyS(rec:SM→SF→SM×SF)(p:List (List St))(fuel:Int):Nat→SM→SF→Int→SM×SF
 |0,m,c,_=>(m,c)
 |n+1,m,c,at_ =>
  let body:=p.getD c.f.toNat []
  if 0≤at_∧at_<body.length then
   if m.made=fuel then({ m with spent:=true },c)
   else
    let r:=makeS rec (madeS m c.f at_) c at_ (body.getD at_.toNat ⟨0,0,0⟩)
    if r.1.spent=true then(r.1,r.2.1) else bodyS rec p fuel n r.1 r.2.1 r.2.2
  else(m,c)
def lastC(c inner:SF)(rest:List (Int×Int)):SF :=
 {c with
  defers:=rest
  r1:=inner.outer
  leaving:=c.leaving||inner.leaving
  kind:=if inner.kind=3 then 3 else if inner.kind=2 then 2 else if inner.recovered=true then(if(c.leaving||inner.leaving)=true then 3 else 1) else c.kind
  value:=if inner.kind=2 then inner.value else c.value }
def lastS(rec:SM→SF→SM×SF)(m:SM)(c:SF)(g a:Int)(rest:List (Int×Int)):SM×SF :=
 match rec m ⟨g,c.depth+1,a,0,0,0,[],0,0,false,true,decide (c.kind=2),if c.kind=2 then c.value else 0,false,c.r1⟩ with
 |(m,inner)=>if m.spent=true then(m,{ c with defers:=rest }) else(m,lastC c inner rest)
def defersS(rec:SM→SF→SM×SF):List (Int×Int)→SM→SF→SM×SF
 | [],m,c=>(m,c)
 |(g,a)::l,m,c =>
  match lastS rec m c g a l.reverse with
  |(m,c)=>if m.spent=true then(m,c) else defersS rec l m c
def endS(m:SM)(c:SF):SM :=
 if c.kind=1 then stell m 7 c.f c.r1 else if c.kind=2 then stell m 8 c.f c.value else if c.kind=3 then stell m 9 c.f 0 else m
def beginS(m:SM)(c:SF):SM:=stell { m with deep:=if m.deep<c.depth then c.depth else m.deep } (if c.deferred=true then 3 else 1) c.f c.r0
def callS(p:List (List St))(fuel:Int)(R:Nat):Nat→SM→SF→SM×SF
 |0,m,c=>({ m with spent:=true },c)
 |d+1,m,c =>
  match bodyS (callS p fuel R d) p fuel R (beginS m c) { c with kind:=1 } 0 with
  |(m,c) =>
   if m.spent=true then(m,c) else
   match defersS (callS p fuel R d) c.defers.reverse m c with
   |(m,c)=>if m.spent=true then(m,c) else(endS m c,c)
def runS(p:List (List St))(R:Nat)(f arg fuel:Int):OutM :=
 match callS p fuel R 8 ⟨false,0,0,0,[],[]⟩ ⟨f,1,arg,0,0,0,[],0,0,false,false,false,0,false,0⟩ with
 |(m,c)=>⟨if m.spent=true then 4 else c.kind,if m.spent=true then 0 else if c.kind=1 then c.r1 else if c.kind=2 then c.value else 0,m.trace,m.made⟩
def Num(x:Int):Prop:= -32768≤x∧x≤32767
theorem wrap16_num(x:Int):Num (wrap16 x):=by unfold wrap16 Num;omega
theorem wrap16_eq {x y:Int} (hx:Num x)(hy:Num y):(x+y+163840).tmod 65536-32768=wrap16 (x+y):=by
 unfold Num at hx hy;unfold wrap16
 rw [Int.tmod_eq_emod_of_nonneg zq90]
 omega
def StepOk(N:Int)(s:St):Prop:=(s.f0=1→Num s.f2)∧(s.f0=11→0≤s.f1)∧(s.f0=4∨s.f0=5→0≤s.f1∧s.f1<N)
def ProgOk(N:Int)(p:List (List St)):Prop:= ∀ b∈p,∀ s∈b,StepOk N s
structure RM(m:MS)(sm:SM):Prop where
 shared:sm.shared=m.shared
 made:sm.made=m.made
 deep:sm.deep=m.deepest
 trace:sm.trace=m.trace
 seen:sm.seen=m.places.reverse
 num:Num m.shared
 pos:0≤m.made
 own:m.owners.length=m.trace.length
 ncalls:m.calls.length≤m.trace.length
 npanics:m.panics.length≤m.trace.length
 nrecs:m.recs.length≤m.trace.length
 nunw: ∀ q∈m.panics,q.unw.length≤m.trace.length
 vals: ∀ q∈m.panics,Num q.val
def Valid(m:MS)(i:Int):Prop:=0≤i∧i<m.panics.length
structure Ext(m m':MS):Prop where
 len:m.panics.length≤m'.panics.length
 val: ∀ i,Valid m i→(panAt m' i).val=(panAt m i).val
 calls:m.calls.length≤m'.calls.length
theorem Ext.refl(m:MS):Ext m m:=⟨Nat.le_refl _,fun _ _=>rfl,Nat.le_refl _⟩
theorem Ext.valid {m m':MS} (h:Ext m m'){i:Int} (hi:Valid m i):Valid m' i:=⟨hi.1,by have:=hi.2;have:=h.len;omega⟩
theorem Ext.trans {a b c:MS} (h:Ext a b)(k:Ext b c):Ext a c:=⟨Nat.le_trans h.len k.len,fun i hi=>(k.val i (h.valid hi)).trans (h.val i hi),Nat.le_trans h.calls k.calls⟩
theorem Ext.of_eq {m m':MS} (h:m'.panics=m.panics)(hc:m.calls.length≤m'.calls.length:=by exact Nat.le_refl _):Ext m m':=⟨by rw [h];exact Nat.le_refl _,fun i _=>by unfold panAt;rw [h],hc⟩
theorem panAt_num {m:MS} (h: ∀ q∈m.panics,Num q.val)(i:Int)(hi:Valid m i):Num (panAt m i).val:=by
 unfold panAt
 have:i.toNat<m.panics.length:=by have:=hi.1;have:=hi.2;omega
 rw [List.getD_eq_getElem?_getD,List.getElem?_eq_getElem this]
 exact h _ (List.getElem_mem this)
theorem setPan_panics(m:MS)(i:Int)(q:PI):(setPan m i q).panics=m.panics.set i.toNat q:=rfl
theorem setPan_ext {m:MS} {i:Int} {q:PI} (hq:q.val=(panAt m i).val):Ext m (setPan m i q):=by
 refine⟨by rw [setPan_panics,List.length_set];exact Nat.le_refl _,fun j hj=> ?_,Nat.le_refl _⟩
 unfold panAt
 rw [setPan_panics,List.getD_eq_getElem?_getD,List.getD_eq_getElem?_getD,List.getElem?_set]
 have hjl:j.toNat<m.panics.length:=by have:=hj.1;have:=hj.2;omega
 by_cases h:i.toNat=j.toNat
 ·rw [if_pos h]
  by_cases hl:i.toNat<m.panics.length
  ·rw [if_pos hl,Option.getD_some,hq]
   unfold panAt
   rw [List.getD_eq_getElem?_getD,h]
  ·omega
 ·rw [if_neg h]
theorem setPan_vals {m:MS} {i:Int} {q:PI} (hv: ∀ x∈m.panics,Num x.val)(hq:Num q.val): ∀ x∈(setPan m i q).panics,Num x.val:=by
 intro x hx
 rw [setPan_panics] at hx
 rcases List.mem_or_eq_of_mem_set hx with h|h
 ·exact hv x h
 ·rw [h];exact hq
theorem len1 {α:Type} (l:List α)(x:α):(l++ [x]).length=l.length+1:=by rw [List.length_append];rfl
theorem panAt_unw {m:MS} {sm:SM} (h:RM m sm)(i:Int):(panAt m i).unw.length≤m.trace.length:=by
 unfold panAt
 rw [List.getD_eq_getElem?_getD]
 cases e:m.panics[i.toNat]? with
 |none=>exact Nat.zero_le _
 |some x=>exact h.nunw x (List.mem_of_getElem? e)
theorem setPan_unw {m:MS} {i:Int} {q:PI} {n:Nat} (hv: ∀ x∈m.panics,x.unw.length≤n)(hq:q.unw.length≤n): ∀ x∈(setPan m i q).panics,x.unw.length≤n:=by
 intro x hx
 rw [setPan_panics] at hx
 rcases List.mem_or_eq_of_mem_set hx with h|h
 ·exact hv x h
 ·rw [h];exact hq
theorem RM.pan {m:MS} {sm:SM} (h:RM m sm)(i:Int)(q:PI)(hv:Num q.val)(hu:q.unw.length≤m.trace.length):RM (setPan m i q) sm :=
 {h with
  vals:=setPan_vals h.vals hv
  npanics:=by show(m.panics.set _ _).length≤_;rw [List.length_set];exact h.npanics
  nunw:=setPan_unw h.nunw hu }
theorem RM.tell {m:MS} {sm:SM} (h:RM m sm)(k f v o:Int):RM (tell m k f v o) (stell sm k f v) :=
 {h with
  trace:=by show sm.trace++_=m.trace++_;rw [h.trace]
  own:=by show(m.owners++ [_]).length=(m.trace++ [_]).length;rw [len1,len1,h.own]
  ncalls:=by show _≤(m.trace++ [_]).length;rw [len1];exact Nat.le_succ_of_le h.ncalls
  npanics:=by show _≤(m.trace++ [_]).length;rw [len1];exact Nat.le_succ_of_le h.npanics
  nrecs:=by show _≤(m.trace++ [_]).length;rw [len1];exact Nat.le_succ_of_le h.nrecs
  nunw:=fun q hq=>by show _≤(m.trace++ [_]).length;rw [len1];exact Nat.le_succ_of_le (h.nunw q hq) }
theorem RM.tellRec {m:MS} {sm:SM} (h:RM m sm)(x:RC)(k f v o:Int):RM (M.tell { m with recs:=m.recs++ [x] } k f v o) (stell sm k f v) :=
 {h.tell k f v o with nrecs:=by show(m.recs++ [_]).length≤(m.trace++ [_]).length;rw [len1,len1];exact Nat.succ_le_succ h.nrecs }
theorem RM.tellPan {m:MS} {sm:SM} (h:RM m sm)(x:PI)(hv:Num x.val)(hu:x.unw= [])(k f v o:Int):RM (M.tell { m with panics:=m.panics++ [x] } k f v o) (stell sm k f v) :=
 {h.tell k f v o with
  vals:=fun q hq=>by
   rcases List.mem_append.1 hq with e|e
   ·exact h.vals q e
   ·rw [List.mem_singleton.1 e];exact hv
  npanics:=by show(m.panics++ [_]).length≤(m.trace++ [_]).length;rw [len1,len1];exact Nat.succ_le_succ h.npanics
  nunw:=fun q hq=>by
   rcases List.mem_append.1 hq with e|e
   ·exact(h.tell k f v o).nunw q e
   ·rw [List.mem_singleton.1 e,hu];exact Nat.zero_le _ }
theorem RM.tellCall {m:MS} {sm:SM} (h:RM m sm)(x:CI)(k f v o:Int):RM (M.tell { m with calls:=m.calls++ [x] } k f v o) (stell sm k f v) :=
 {h.tell k f v o with ncalls:=by show(m.calls++ [_]).length≤(m.trace++ [_]).length;rw [len1,len1];exact Nat.succ_le_succ h.ncalls }
theorem RM.tellEnd {m:MS} {sm:SM} (h:RM m sm)(i:Nat)(x:CI)(k f v o:Int):RM (M.tell { m with calls:=m.calls.set i x } k f v o) (stell sm k f v) :=
 {h.tell k f v o with ncalls:=by show(m.calls.set _ _).length≤(m.trace++ [_]).length;rw [len1,List.length_set];exact Nat.le_succ_of_le h.ncalls }
theorem RM.tellUnw {m:MS} {sm:SM} (h:RM m sm)(j:Int)(q:PI)(hv:Num q.val)(hu:q.unw.length≤m.trace.length+1)(i:Nat)(x:CI)(k f v o:Int):RM (M.tell { setPan m j q with calls:=m.calls.set i x } k f v o) (stell sm k f v) :=
 {h.tellEnd i x k f v o with
  vals:=setPan_vals h.vals hv
  npanics:=by show(m.panics.set _ _).length≤(m.trace++ [_]).length;rw [len1,List.length_set];exact Nat.le_succ_of_le h.npanics
  nunw:=by
   show ∀ y∈(setPan m j q).panics,y.unw.length≤(m.trace++ [(⟨k,f,v⟩:Ev)]).length
   rw [len1]
   exact setPan_unw (fun y hy=>Nat.le_succ_of_le (h.nunw y hy)) hu }
structure RF(N:Int)(m:MS)(f:Fr)(par:Option Fr)(c:SF):Prop where
 fn:c.f=f.fn
 r0:c.r0=f.r0
 r1:c.r1=f.r1
 r2:c.r2=f.r2
 r3:c.r3=f.r3
 n0:Num f.r0
 n1:Num f.r1
 n2:Num f.r2
 n3:Num f.r3
 defers:c.defers=f.runs
 runs: ∀ x∈f.runs,Num x.2∧0≤x.1∧x.1<N
 idok:0≤f.id∧f.id<m.calls.length
 fnok:0≤f.fn∧f.fn<N
 leaving:c.leaving=f.leaving
 deferred:c.deferred=f.dfr
 recovered:c.recovered=f.counted
 kind:c.kind=f.fin
 fin:f.fin=1∨f.fin=2∨f.fin=3
 left:f.fin=1→f.leaving=false
 pan:f.fin=2→Valid m f.pan∧c.value=(panAt m f.pan).val
 par:f.dfr=true→ ∃ pf,par=some pf∧c.outer=pf.r1∧Num pf.r1∧c.panicking=decide (pf.fin=2)∧(pf.fin=2→Valid m pf.pan∧c.panic=(panAt m pf.pan).val)
 nodef:f.dfr=false→c.panicking=false
def Par(dfr:Bool)(par par':Option Fr):Prop:=if dfr=true then ∀ pf,par=some pf→ ∃ v,par'=some { pf with r1:=v } else par'=par
theorem Par.refl(d:Bool)(par:Option Fr):Par d par par:=by
 unfold Par;split
 ·intro pf h;exact⟨pf.r1,h⟩
 ·rfl
theorem Par.trans {d:Bool} {a b c:Option Fr} (h:Par d a b)(k:Par d b c):Par d a c:=by
 unfold Par at *
 split
 ·rename_i hd
  rw [if_pos hd] at h k
  intro pf hp
  obtain⟨v,hv⟩:=h pf hp
  obtain⟨u,hu⟩:=k _ hv
  exact⟨u,hu⟩
 ·rename_i hd
  rw [if_neg hd] at h k
  rw [k,h]
theorem RF.mono {N:Int} {m m':MS} {f:Fr} {par:Option Fr} {c:SF} (h:RF N m f par c)(he:Ext m m'):RF N m' f par c :=
 {h with
  idok:=⟨h.idok.1,by have:=h.idok.2;have:=he.calls;omega⟩
  pan:=fun hf=>⟨he.valid (h.pan hf).1,(h.pan hf).2.trans (he.val _ (h.pan hf).1).symm⟩
  par:=fun hf=>by
   obtain⟨pf,h1,h2,h3,h4,h5⟩:=h.par hf
   exact⟨pf,h1,h2,h3,h4,fun hp=>⟨he.valid (h5 hp).1,(h5 hp).2.trans (he.val _ (h5 hp).1).symm⟩⟩ }
theorem reg_eq {N:Int} {m:MS} {f:Fr} {par:Option Fr} {c:SF} (h:RF N m f par c)(i:Int):sreg c i=reg f i:=by
 unfold sreg reg;rw [h.r0,h.r1,h.r2,h.r3]
theorem reg_num {N:Int} {m:MS} {f:Fr} {par:Option Fr} {c:SF} (h:RF N m f par c)(i:Int):Num (reg f i):=by
 unfold reg
 split
 ·exact h.n0
 ·split
  ·exact h.n1
  ·split
   ·exact h.n2
   ·exact h.n3
theorem RF.set {N:Int} {m:MS} {f:Fr} {par:Option Fr} {c:SF} (h:RF N m f par c)(i v:Int)(hv:Num v):RF N m (setReg f i v) par (setSreg c i v):=by
 unfold setReg setSreg
 split
 ·exact { h with r0:=rfl,n0:=hv }
 ·split
  ·exact { h with r1:=rfl,n1:=hv }
  ·split
   ·exact { h with r2:=rfl,n2:=hv }
   ·exact { h with r3:=rfl,n3:=hv }
theorem num0:Num 0:=by unfold Num;omega
theorem num1:Num 1:=by unfold Num;omega
structure StepR(N:Int)(m:MS)(f:Fr)(par:Option Fr)(sm:SM)(at_:Int)(r:MS×Fr×Option Fr×Bool)(q:SM×SF×Int):Prop where
 rm:RM r.1 q.1
 rf:RF N r.1 r.2.1 r.2.2.1 q.2.1
 ext:Ext m r.1
 par:Par f.dfr par r.2.2.1
 made:r.1.made=m.made
 depth:r.1.depth=m.depth
 spent:q.1.spent=sm.spent
 dfr:r.2.1.dfr=f.dfr
 id:r.2.1.id=f.id
 fn:r.2.1.fn=f.fn
 fin:r.2.2.2=false→r.2.1.fin=f.fin
 next:q.2.2=if r.2.2.2=true then -1 else at_+1
theorem tell_ext(m:MS)(k f v o:Int):Ext m (tell m k f v o):=Ext.of_eq rfl
theorem recoverI_eq {N:Int} {m:MS} {f:Fr} {par:Option Fr} {sm:SM} {c:SF} {s:St} (hm:RM m sm)(hf:RF N m f par c)(h7:s.f0=7) :
  RM (recoverI m f par s.f1).1 (simpleS sm c s).1∧RF N (recoverI m f par s.f1).1 (recoverI m f par s.f1).2 par (simpleS sm c s).2∧Ext m (recoverI m f par s.f1).1
  ∧(recoverI m f par s.f1).1.made=m.made∧(recoverI m f par s.f1).1.depth=m.depth∧(simpleS sm c s).1.spent=sm.spent
  ∧(recoverI m f par s.f1).2.dfr=f.dfr∧(recoverI m f par s.f1).2.fn=f.fn∧(recoverI m f par s.f1).2.fin=f.fin∧(recoverI m f par s.f1).2.id=f.id:=by
 have hS:simpleS sm c s=(if c.panicking=true∧c.recovered=false then(stell sm 6 c.f c.panic,{ setSreg { c with recovered:=true } s.f1 c.panic with r3:=1 }) else(sm,{ setSreg c s.f1 0 with r3:=0 })):=by
  unfold simpleS;rw [h7];rfl
 have h0: ∀ (g:Fr) (i v:Int),(setReg g i v).dfr=g.dfr∧(setReg g i v).fn=g.fn∧(setReg g i v).fin=g.fin∧(setReg g i v).id=g.id:=by
  intro g i v;unfold setReg;split;· exact⟨rfl,rfl,rfl,rfl⟩
  split;· exact⟨rfl,rfl,rfl,rfl⟩
  split<;>exact⟨rfl,rfl,rfl,rfl⟩
 have hno:RF N m { setReg f s.f1 0 with r3:=0 } par { setSreg c s.f1 0 with r3:=0 } :=by
  have:=hf.set s.f1 0 (by unfold Num;omega)
  exact { this with r3:=rfl,n3:=num0 }
 by_cases hd:f.dfr=true
 ·obtain⟨pf,rfl,-,-,hpk,hpp⟩:=hf.par hd
  have hR:recoverI m f (some pf) s.f1=(if f.dfr=true∧f.counted=false∧pf.fin=2 then
   (M.tell { setPan m pf.pan { panAt m pf.pan with fate:=1 } with recs:=m.recs++ [⟨f.id,pf.id,pf.pan⟩] } 6 f.fn (panAt m pf.pan).val f.id,
    {setReg { f with counted:=true } s.f1 (panAt m pf.pan).val with r3:=1 })
   else(m,{ setReg f s.f1 0 with r3:=0 })):=rfl
  by_cases hk:f.counted=false∧pf.fin=2
  ·rw [if_pos ⟨hd,hk⟩] at hR
   rw [if_pos ⟨by rw [hpk,decide_eq_true hk.2],by rw [hf.recovered,hk.1]⟩] at hS
   obtain⟨hv,hpe⟩:=hpp hk.2
   have hn:=panAt_num hm.vals _ hv
   rw [hR,hS]
   refine⟨?_,?_,?_,rfl,rfl,rfl,(h0 _ _ _).1,(h0 _ _ _).2.1,(h0 _ _ _).2.2.1,(h0 _ _ _).2.2.2⟩
   ·show RM _ (stell sm 6 c.f c.panic)
    rw [hpe,hf.fn]
    exact(hm.pan pf.pan { panAt m pf.pan with fate:=1 } hn (panAt_unw hm pf.pan)).tellRec ⟨f.id,pf.id,pf.pan⟩ 6 f.fn _ f.id
   ·have h1:RF N (M.tell { setPan m pf.pan { panAt m pf.pan with fate:=1 } with recs:=m.recs++ [⟨f.id,pf.id,pf.pan⟩] } 6 f.fn (panAt m pf.pan).val f.id) f (some pf) c :=
     hf.mono ((setPan_ext (m:=m) (i:=pf.pan) (q:= { panAt m pf.pan with fate:=1 }) rfl).trans (Ext.of_eq rfl))
    have h2:RF N _ { f with counted:=true } (some pf) { c with recovered:=true } := { h1 with recovered:=rfl }
    have h4: ∀ v,v=(panAt m pf.pan).val→RF N (M.tell { setPan m pf.pan { panAt m pf.pan with fate:=1 } with recs:=m.recs++ [⟨f.id,pf.id,pf.pan⟩] } 6 f.fn (panAt m pf.pan).val f.id) { setReg { f with counted:=true } s.f1 (panAt m pf.pan).val with r3:=1 } (some pf) { setSreg { c with recovered:=true } s.f1 v with r3:=1 } :=by
     intro v hv
     rw [hv]
     have h3:=h2.set s.f1 _ hn
     exact { h3 with r3:=rfl,n3:=num1 }
    exact h4 _ hpe
   ·exact(setPan_ext (m:=m) (i:=pf.pan) (q:= { panAt m pf.pan with fate:=1 }) rfl).trans (Ext.of_eq rfl)
  ·rw [if_neg (fun h=>hk h.2)] at hR
   rw [if_neg (fun h=>hk ⟨by rw [← hf.recovered];exact h.2,by have:=h.1;rw [hpk] at this;exact of_decide_eq_true this⟩)] at hS
   rw [hR,hS]
   exact⟨hm,hno,Ext.refl m,rfl,rfl,rfl,(h0 _ _ _).1,(h0 _ _ _).2.1,(h0 _ _ _).2.2.1,(h0 _ _ _).2.2.2⟩
 ·have hd':f.dfr=false:=Bool.eq_false_iff.2 hd
  have hR:recoverI m f par s.f1=(m,{ setReg f s.f1 0 with r3:=0 }):=by
   unfold recoverI
   cases par with
   |none=>rfl
   |some pf=>exact if_neg (fun h=>hd h.1)
  rw [if_neg (fun h=>by have:=h.1;rw [hf.nodef hd'] at this;cases this)] at hS
  rw [hR,hS]
  exact⟨hm,hno,Ext.refl m,rfl,rfl,rfl,(h0 _ _ _).1,(h0 _ _ _).2.1,(h0 _ _ _).2.2.1,(h0 _ _ _).2.2.2⟩
theorem setReg_same(g:Fr)(i v:Int):(setReg g i v).dfr=g.dfr∧(setReg g i v).fn=g.fn∧(setReg g i v).fin=g.fin∧(setReg g i v).id=g.id:=by
 unfold setReg;split;· exact⟨rfl,rfl,rfl,rfl⟩
 split;· exact⟨rfl,rfl,rfl,rfl⟩
 split<;>exact⟨rfl,rfl,rfl,rfl⟩
theorem stepI_eq {N:Int} {rec:SM→SF→SM×SF} {m:MS} {f:Fr} {par:Option Fr} {sm:SM} {c:SF} {s:St} {at_:Int} (hs:StepOk N s)(hm:RM m sm)(hf:RF N m f par c)
  (k4:s.f0≠4) (k11:s.f0≠11):StepR N m f par sm at_ (stepI m f par s) (makeS rec sm c at_ s):=by
 have mk: ∀ {m':MS} {f':Fr} {par':Option Fr} {b:Bool} {sm':SM} {c':SF} {n':Int},
   stepI m f par s=(m',f',par',b)→makeS rec sm c at_ s=(sm',c',n')→RM m' sm'→RF N m' f' par' c'→Ext m m'→Par f.dfr par par'→m'.made=m.made→m'.depth=m.depth →
   sm'.spent=sm.spent→f'.dfr=f.dfr→f'.id=f.id→f'.fn=f.fn→(b=false→f'.fin=f.fin)→(n'=if b=true then -1 else at_+1)→StepR N m f par sm at_ (stepI m f par s) (makeS rec sm c at_ s):=by
  intro m' f' par' b sm' c' n' e1 e2 h1 h2 h3 h4 h5 h6 h7 h8 hid h9 h10 h11
  rw [e1,e2]
  exact⟨h1,h2,h3,h4,h5,h6,h7,h8,hid,h9,h10,h11⟩
 have hr: ∀ i,sreg c i=reg f i:=reg_eq hf
 have hn: ∀ i,Num (reg f i):=reg_num hf
 have pr:Par f.dfr par par:=Par.refl _ _
 by_cases k1:s.f0=1
 ·exact mk (m':=m) (sm':=sm) (f':=setReg f s.f1 s.f2) (c':=setSreg c s.f1 s.f2) (par':=par) (b:=false) (n':=at_+1) (by unfold stepI;rw [k1];rfl) (by unfold makeS simpleS;rw [k1];rfl) hm (hf.set _ _ (hs.1 k1)) (Ext.refl m) pr rfl rfl rfl (setReg_same _ _ _).1 (setReg_same _ _ _).2.2.2 (setReg_same _ _ _).2.1 (fun _=>(setReg_same _ _ _).2.2.1) rfl
 by_cases k2:s.f0=2
 ·refine mk (m':=m) (sm':=sm) (f':=setReg f s.f1 (wrap16 (reg f s.f1+reg f s.f2))) (c':=setSreg c s.f1 ((sreg c s.f1+sreg c s.f2+163840).tmod 65536-32768)) (par':=par) (b:=false) (n':=at_+1) (by unfold stepI;rw [k2];rfl) (by unfold makeS simpleS;rw [k2];rfl) hm ?_ (Ext.refl m) pr rfl rfl rfl (setReg_same _ _ _).1 (setReg_same _ _ _).2.2.2 (setReg_same _ _ _).2.1 (fun _=>(setReg_same _ _ _).2.2.1) rfl
  rw [hr,hr,wrap16_eq (hn _) (hn _)]
  exact hf.set _ _ (wrap16_num _)
 by_cases k3:s.f0=3
 ·refine mk (m':=M.tell m 4 f.fn (reg f s.f1) f.id) (sm':=stell sm 4 c.f (sreg c s.f1)) (f':=f) (c':=c) (par':=par) (b:=false) (n':=at_+1) (by unfold stepI;rw [k3];rfl) (by unfold makeS simpleS;rw [k3];rfl) ?_ (hf.mono (tell_ext m 4 f.fn (reg f s.f1) f.id)) (tell_ext _ _ _ _ _) pr rfl rfl rfl rfl rfl rfl (fun _=>rfl) rfl
  rw [hr,hf.fn];exact hm.tell _ _ _ _
 by_cases k5:s.f0=5
 ·refine mk (m':=M.tell m 2 s.f1 (reg f s.f2) f.id) (sm':=stell sm 2 s.f1 (sreg c s.f2)) (f':= { f with runs:=f.runs++ [(s.f1,reg f s.f2)] }) (c':= { c with defers:=c.defers++ [(s.f1,sreg c s.f2)] }) (par':=par) (b:=false) (n':=at_+1) (by unfold stepI;rw [k5];rfl) (by unfold makeS;rw [k5];rfl) ?_ ?_ (tell_ext m 2 s.f1 (reg f s.f2) f.id) pr rfl rfl rfl rfl rfl rfl (fun _=>rfl) rfl
  ·rw [hr];exact hm.tell _ _ _ _
  ·have h1:=hf.mono (tell_ext m 2 s.f1 (reg f s.f2) f.id)
   exact { h1 with
    defers:=by show c.defers++ [(s.f1,sreg c s.f2)]=f.runs++ [(s.f1,reg f s.f2)];rw [hf.defers,hr]
    runs:=fun x hx=>by
     rcases List.mem_append.1 hx with h|h
     ·exact hf.runs x h
     ·rw [List.mem_singleton.1 h];exact⟨hn _,hs.2.2 (Or.inr k5)⟩ }
 by_cases k6:s.f0=6
 ·have he:Ext m (M.tell { m with panics:=m.panics++ [⟨f.id,f.fn,reg f s.f1,m.depth,0,-1,-1,f.counted,[]⟩] } 5 f.fn (reg f s.f1) f.id):=by
   refine⟨by show m.panics.length≤(m.panics++ [_]).length;rw [List.length_append];omega,fun i hi=> ?_,Nat.le_refl _⟩
   unfold panAt
   show((m.panics++ [_]).getD _ _).val=_
   have:i.toNat<m.panics.length:=by have:=hi.1;have:=hi.2;omega
   rw [List.getD_eq_getElem?_getD,List.getElem?_append_left this,←List.getD_eq_getElem?_getD]
  refine mk (f':= { f with fin:=2,pan:=m.panics.length }) (sm':=stell sm 5 c.f (sreg c s.f1)) (c':= { c with kind:=2,value:=sreg c s.f1 }) (par':=par) (b:=true) (n':= -1) (by unfold stepI;rw [k6];rfl) (by unfold makeS;rw [k6];rfl) ?_ ?_ he pr rfl rfl rfl rfl rfl rfl (fun h=>zq120) rfl
  ·rw [hr,hf.fn]
   exact hm.tellPan _ (hn _) rfl _ _ _ _
  ·have h1:=hf.mono he
   exact { h1 with
    kind:=rfl
    fin:=Or.inr (Or.inl rfl)
    left:=fun h=>by cases h
    pan:=fun _=>by
     have hv:Valid (M.tell { m with panics:=m.panics++ [⟨f.id,f.fn,reg f s.f1,m.depth,0,-1,-1,f.counted,[]⟩] } 5 f.fn (reg f s.f1) f.id) (m.panics.length:Int) :=
      ⟨Int.natCast_nonneg _,by show(m.panics.length:Int)<((m.panics++ [_]).length:Int);rw [List.length_append];simp only [List.length_singleton];omega⟩
     refine⟨hv,?_⟩
     show sreg c s.f1=_
     unfold panAt
     show _=((m.panics++ [_]).getD ((m.panics.length:Int)).toNat _).val
     rw [Int.toNat_natCast,List.getD_eq_getElem?_getD,List.getElem?_append_right (Nat.le_refl _),Nat.sub_self]
     exact hr _ }
 by_cases k7:s.f0=7
 ·obtain⟨g1,g2,g3,g4,g5,g6,g7,g8,g9,g10⟩:=recoverI_eq (s:=s) hm hf k7
  exact mk (m':=(recoverI m f par s.f1).1) (f':=(recoverI m f par s.f1).2) (by unfold stepI;rw [k7];rfl) (by unfold makeS;rw [k7];rfl) g1 g2 g3 pr g4 g5 g6 g7 g10 g8 (fun _=>g9) rfl
 by_cases k8:s.f0=8
 ·refine mk (m':=m) (sm':=sm) (f':= { f with r1:=reg f s.f1 }) (c':= { c with r1:=sreg c s.f1 }) (par':=par) (b:=true) (n':= -1) (by unfold stepI;rw [k8];rfl) (by unfold makeS;rw [k8];rfl) hm ?_ (Ext.refl m) pr rfl rfl rfl rfl rfl rfl (fun h=>zq120) rfl
  rw [hr];exact { hf with r1:=rfl,n1:=hn _ }
 by_cases k9:s.f0=9
 ·refine mk (m':=m) (sm':=sm) (f':=f) (c':=if c.deferred=true then { c with outer:=sreg c s.f1 } else c) (par':=if f.dfr=true then par.map (fun pf=> { pf with r1:=reg f s.f1 }) else par) (b:=false) (n':=at_+1) (by unfold stepI;rw [k9];rfl) (by unfold makeS simpleS;rw [k9];rfl) hm ?_ (Ext.refl m) ?_ rfl rfl rfl rfl rfl rfl (fun _=>rfl) rfl
  ·by_cases hd:f.dfr=true
   ·rw [if_pos (hf.deferred.trans hd),if_pos hd]
    obtain⟨pf,rfl,h2,h3,h4,h5⟩:=hf.par hd
    exact { hf with par:=fun _=>⟨_,rfl,hr _,hn _,h4,h5⟩ }
   ·rw [if_neg (fun h=>hd (hf.deferred.symm.trans h)),if_neg hd];exact hf
  ·by_cases hd:f.dfr=true
   ·rw [if_pos hd];unfold Par;rw [if_pos hd]
    intro pf hp;rw [hp];exact⟨_,rfl⟩
   ·rw [if_neg hd];exact pr
 by_cases k10:s.f0=10
 ·refine mk (m':=m) (sm':=sm) (f':= { f with leaving:=true,fin:=3 }) (c':= { c with kind:=3,leaving:=true }) (par':=par) (b:=true) (n':= -1) (by unfold stepI;rw [k10];rfl) (by unfold makeS;rw [k10];rfl) hm ?_ (Ext.refl m) pr rfl rfl rfl rfl rfl rfl (fun h=>zq120) rfl
  exact { hf with kind:=rfl,leaving:=rfl,fin:=Or.inr (Or.inr rfl),left:=(fun h=>zq120),pan:=(fun h=>zq120) }
 by_cases k12:s.f0=12
 ·refine mk (m':= { m with shared:=reg f s.f1 }) (sm':= { sm with shared:=sreg c s.f1 }) (f':=f) (c':=c) (par':=par) (b:=false) (n':=at_+1) (by unfold stepI;rw [k12];rfl) (by unfold makeS simpleS;rw [k12];rfl) ?_ (hf.mono (Ext.of_eq rfl)) (Ext.of_eq rfl) pr rfl rfl rfl rfl rfl rfl (fun _=>rfl) rfl
  exact { hm with shared:=hr _,num:=hn _ }
 by_cases k13:s.f0=13
 ·refine mk (m':=m) (sm':=sm) (f':=setReg f s.f1 m.shared) (c':=setSreg c s.f1 sm.shared) (par':=par) (b:=false) (n':=at_+1) (by unfold stepI;rw [k13];rfl) (by unfold makeS simpleS;rw [k13];rfl) hm ?_ (Ext.refl m) pr rfl rfl rfl (setReg_same _ _ _).1 (setReg_same _ _ _).2.2.2 (setReg_same _ _ _).2.1 (fun _=>(setReg_same _ _ _).2.2.1) rfl
  rw [hm.shared];exact hf.set _ _ hm.num
 ·refine mk (m':=m) (f':=f) (par':=par) (b:=false) (sm':=sm) (c':=c) (n':=at_+1) ?_ ?_ hm hf (Ext.refl m) pr rfl rfl rfl rfl rfl rfl (fun _=>rfl) rfl
  ·unfold stepI
   rw [if_neg k1,if_neg k2,if_neg k3,if_neg k5,if_neg k6,if_neg k7,if_neg k8,if_neg k9,if_neg k10,if_neg k12,if_neg k13]
  ·unfold makeS simpleS
   rw [if_neg k4,if_neg k5,if_neg k6,if_neg k8,if_neg k10,if_neg k11,if_neg k1,if_neg k2,if_neg k3,if_neg k9,if_neg k12,if_neg k13,if_neg k7]
end Go.Proofs.Yteiafboknimgbaa.Pr.M
end
