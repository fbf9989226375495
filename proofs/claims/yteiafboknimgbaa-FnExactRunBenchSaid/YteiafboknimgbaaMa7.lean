import Derived.Test.YteiafboknimgbaaMa6
import Derived.Lib.LazyBuf
import Derived.Lib.Overlaps
import Derived.Shelf.RegionOpenPlain
import Derived.Test.YteiafboknimgbaaMa5
set_option maxHeartbeats 8000000
set_option maxRecDepth 100000
set_option linter.unusedVariables false
set_option linter.unusedSimpArgs false
section
namespace Go.Proofs.Yteiafboknimgbaa.Pr
open Go.RowKit Go.Proofs.W.PrintWords Go.Proofs.W.PrintLast Go.Proofs.W.PrintMore
def stepOk(n:Int)(s:S219):Bool:=decide
  ((s.f0=1∧(0≤s.f1∧s.f1≤3)∧(-32768≤s.f2∧s.f2≤32767))∨(s.f0=2∧(0≤s.f1∧s.f1≤3)∧(0≤s.f2∧s.f2≤3)) ∨
   ((s.f0=4∨s.f0=5)∧(0≤s.f1∧s.f1≤n-1)∧(0≤s.f2∧s.f2≤3)) ∨
   ((s.f0=3∨s.f0=6∨s.f0=7∨s.f0=8∨s.f0=9∨s.f0=12∨s.f0=13)∧(0≤s.f1∧s.f1≤3)∧s.f2=0) ∨
   (s.f0=10∧s.f1=0∧s.f2=0)∨(s.f0=11∧(0≤s.f1∧s.f1≤8)∧(0≤s.f2∧s.f2≤3)))
theorem wrap_near {x:Int} (h0: -1000≤x)(h1:x≤1000):wrap64 x=x:=by unfold wrap64;omega
theorem in_eq(a b c:Int):impl_in.f a b c=some (decide (b≤a∧a≤c)):=by
 unfold impl_in.f
 by_cases h:b≤a<;>simp [h]
theorem isStep_eq(s:S219)(n:Int)(h0:0≤n)(h1:n≤1000)(k:Nat)(hk:1<k):impl_isStep.f k s.f0 s.f1 s.f2 n=some (stepOk n s):=by
 obtain⟨a,b,c⟩:=s
 obtain⟨k,rfl⟩: ∃ z,k=z+1:=⟨k-1,zq90⟩
 have hw:wrap64 (n-1)=n-1:=wrap_near zq90 zq90
 simp only [stepOk,impl_isStep.f,impl_isStep.j0,impl_isRegister.f,impl_isNumber.f,in_eq,Option.bind_some,hw]
 by_cases k1:a=1
 ·subst k1;repeat' split
  all_goals(refine congrArg some ?_;rw [Bool.eq_iff_iff];simp at* <;>omega)
 by_cases k2:a=2
 ·subst k2;repeat' split
  all_goals(refine congrArg some ?_;rw [Bool.eq_iff_iff];simp at* <;>omega)
 rw [if_neg k1,if_neg k2]
 by_cases k4:a=4
 ·subst k4
  rw [if_pos rfl]
  by_cases hb:0≤b∧b≤n-1<;>by_cases hc:0≤c∧c≤3<;>simp [hb,hc]
 by_cases k5:a=5
 ·subst k5
  rw [if_neg k4]
  by_cases hb:0≤b∧b≤n-1<;>by_cases hc:0≤c∧c≤3<;>simp [hb,hc]
 have e5:(a==5)=false:=by simp [k5]
 rw [if_neg k4,e5,if_neg (by simp)]
 by_cases k11:a=11
 ·subst k11
  rw [if_pos rfl]
  by_cases hb:0≤b∧b≤8<;>by_cases hc:0≤c∧c≤3<;>simp [hb,hc]
 rw [if_neg k11]
 by_cases k10:a=10
 ·subst k10
  rw [if_pos rfl]
  by_cases hb:b=0<;>by_cases hc:c=0<;>simp [hb,hc]
 rw [if_neg k10]
 by_cases hb:0≤b∧b≤3<;>by_cases hc:c=0<;>by_cases ha:1≤a∧a≤13
 all_goals(simp only [hb,hc,ha];refine congrArg some ?_;rw [Bool.eq_iff_iff];simp [k1,k2,k4,k5,k10,k11,hb,hc]<;>omega)
theorem isProgram_inner.calls(W:World)(B:Nat)(A:Option Addr)(n c:Nat)(hn:n≤1000)(hc:W.cell? ⟨B,0,none⟩=some (.slice A n c))(s:S219) :
  Calls Try.prog 263 #[.agg #[.int .i64 s.f0,.int .i64 s.f1,.int .i64 s.f2],.pointer (some ⟨B,0,none⟩)] W fun e w'=>e= .returned (.bool (!stepOk n s))∧Below W.heap.size W w':=by
 have hu28:=Try.underlying35
 have hu72:=Try.underlying219
 have hB:=World.block_lt_of_cell? W _ hc
 have e98: ∀ args w,(callFunc 264 args).run Try.prog w= .ok (.enter 264 args) w:=enters_of Try.func264 zq27 rfl
 have hS:=isStep_eq s n zq90 zq90 2 zq90
 go_enter Try.func263,Try.ntmps263
 go_wp2_with (go_at_fn 264;refine(impl_isStep.calls 2 s.f0 s.f1 s.f2 n (stepOk n s) _ hS).mono ?_;rintro e w' ⟨rfl,hb'⟩)
 go_ret
 exact⟨rfl,below_step (below_alloc (Below.refl _ _) _) hb'⟩
def Told(r:Int)(b:Bool):Prop:=(b=true→r= -1)∧(b=false→0≤r)
theorem indexSteps.calls(W:World)(A0:Option Addr)(c0:Nat)(l0:List S219)(B:Nat)(A:Option Addr)(n c:Nat)(hn:n≤1000)(hc:W.cell? ⟨B,0,none⟩=some (.slice A n c))(hr0:Kd.C k219 W A0 l0.length l0)(hc0:l0.length≤c0) :
  Calls Try.prog 288 #[.slice A0 l0.length c0,.func (.func 263) #[] #[.pointer (some ⟨B,0,none⟩)]] W fun e w'=> ∃ r:Int,e= .returned (.int .i64 r)∧Told r (l0.all (stepOk n))∧Below W.heap.size W w':=by
 have hu28:=Try.underlying35
 have hu72:=Try.underlying219
 have hmax:l0.length≤9223372036854775807:=hr0.2.1
 have e144: ∀ args w,(callFunc 263 args).run Try.prog w= .ok (.enter 263 args) w:=enters_of Try.func263 zq27 rfl
 have HR:=am hr0
 have HC:=am hc
 clear hr0 hc
 go_enter Try.func288,Try.ntmps288
 go_wp2
 go_loopg [5,8] l0.length (fun gg _ s8 wr=> ∃ kk:Nat,kk≤l0.length∧l0.length-kk≤gg∧s8= .int .i64 kk∧Aside0 (Below W.heap.size W wr)∧Aside0 (∀ j,j<kk→stepOk n (rd_T219 l0 (j:Nat))=true))
 case atStart=>exact⟨0,Nat.zero_le _,zq90,rfl,⟨Below.refl _ _⟩,⟨fun j hj=>absurd hj (Nat.not_lt_zero _)⟩⟩
 case round =>
  obtain⟨kk,hkk,hg,rfl,BW,AL⟩:=hrel
  by_cases hlt:kk<l0.length
  ·have hltz:(kk:Int)<(l0.length:Int):=by omega
   obtain⟨ad,e,hx0,hx1,hx2⟩:=at_T219 HR.out (kk:Int) zq90 hltz
   cases e
   replace hx0:=(BW.out.cell (World.block_lt_of_cell? W _ hx0)).trans hx0
   replace hx1:=(BW.out.cell (World.block_lt_of_cell? W _ hx1)).trans hx1
   replace hx2:=(BW.out.cell (World.block_lt_of_cell? W _ hx2)).trans hx2
   simp only [Int.toNat_natCast] at hx0 hx1 hx2
   have hcall:=isProgram_inner.calls wr B A n c hn ((BW.out.cell (World.block_lt_of_cell? W _ HC.out)).trans HC.out) (rd_T219 l0 (kk:Int))
   generalize hs:rd_T219 l0 (kk:Int)=x at hx0 hx1 hx2 hcall
   have HS:=am hs
   clear hs
   obtain⟨b,hb⟩: ∃ b,stepOk n x=b:=⟨_,rfl⟩
   rw [hb] at hcall
   have HQ:=am hb
   clear hb
   cases b with
   |true =>
    simp only [Bool.not_true] at hcall
    go_wp2_with (go_at_fn 263;refine hcall.mono ?_;rintro e w' ⟨rfl,hb'⟩)
    go_roundg (l0.length-(kk+1))
    case measure=>omega
    case rel =>
     refine⟨kk+1,zq90,zq90,by go_num,⟨below_step BW.out hb'⟩,⟨fun j hj=> ?_⟩⟩
     by_cases e:j=kk
     ·subst e
      rw [HS.out]
      exact HQ.out
     ·exact AL.out j zq90
   |false =>
    simp only [Bool.not_false] at hcall
    go_wp2_with (go_at_fn 263;refine hcall.mono ?_;rintro e w' ⟨rfl,hb'⟩)
    go_ret
    refine⟨kk,rfl,⟨fun h=> ?_,fun _=>zq90⟩,below_step BW.out hb'⟩
    exfalso
    ·have hm:rd_T219 l0 (kk:Int)∈l0:=by
      unfold rd_T219
      rw [Int.toNat_natCast,List.getD_eq_getElem?_getD,List.getElem?_eq_getElem hlt]
      exact List.getElem_mem hlt
     have h2:=List.all_eq_true.1 h _ hm
     rw [HS.out,HQ.out] at h2
     cases h2
  ·have hltz: ¬(kk:Int)<(l0.length:Int):=by omega
   have HK:=am (show kk=l0.length by omega)
   clear hlt hkk hg
   go_wp2
   go_ret
   refine⟨-1,rfl,⟨fun _=>rfl,fun h=> ?_⟩,BW.out⟩
   exfalso
   have:l0.all (stepOk n)=true:=by
    rw [List.all_eq_true]
    intro x hx
    obtain⟨i,hi,rfl⟩:=List.getElem_of_mem hx
    have:=AL.out i (by rw [HK.out];exact hi)
    unfold rd_T219 at this
    rwa [Int.toNat_natCast,List.getD_eq_getElem?_getD,List.getElem?_eq_getElem hi] at this
   rw [this] at h
   cases h
def bodyOk(n:Int)(l:List S219):Bool:=decide (l.length≤8)&&l.all (stepOk n)
theorem containsSteps.calls(W:World)(A0:Option Addr)(c0:Nat)(l0:List S219)(B:Nat)(A:Option Addr)(n c:Nat)(hn:n≤1000)(hc:W.cell? ⟨B,0,none⟩=some (.slice A n c))(hr0:Kd.C k219 W A0 l0.length l0)(hc0:l0.length≤c0) :
  Calls Try.prog 262 #[.slice A0 l0.length c0,.func (.func 263) #[] #[.pointer (some ⟨B,0,none⟩)]] W fun e w'=>e= .returned (.bool (!l0.all (stepOk n)))∧Below W.heap.size W w':=by
 have e157: ∀ args w,(callFunc 288 args).run Try.prog w= .ok (.enter 288 args) w:=enters_of Try.func288 zq27 rfl
 have hcall:=indexSteps.calls W A0 c0 l0 B A n c hn hc hr0 hc0
 generalize l0.all (stepOk n)=b at hcall ⊢
 go_enter Try.func262,Try.ntmps262
 cases b with
 |true =>
  simp only [Bool.not_true]
  go_wp2_with (go_at_fn 288;refine hcall.mono ?_;rintro e w' ⟨r,rfl,⟨h1,_⟩,hb'⟩;have:=h1 rfl;subst this)
  go_ret
  exact⟨rfl,hb'⟩
 |false =>
  simp only [Bool.not_false]
  go_wp2_with (go_at_fn 288;refine hcall.mono ?_;rintro e w' ⟨r,rfl,⟨_,h1⟩,hb'⟩;have hr_:=h1 rfl;have hd_:decide (0≤r)=true:=decide_eq_true hr_)
  go_ret
  exact⟨by simp [hr_],hb'⟩
theorem isProgram_body.calls(W:World)(A0:Option Addr)(c0:Nat)(l0:List S219)(B:Nat)(A:Option Addr)(n c:Nat)(hn:n≤1000)(hc:W.cell? ⟨B,0,none⟩=some (.slice A n c))(hr0:Kd.C k219 W A0 l0.length l0)(hc0:l0.length≤c0) :
  Calls Try.prog 261 #[.slice A0 l0.length c0,.pointer (some ⟨B,0,none⟩)] W fun e w'=>e= .returned (.bool (!bodyOk n l0))∧Below W.heap.size W w':=by
 have e143: ∀ args w,(callFunc 262 args).run Try.prog w= .ok (.enter 262 args) w:=enters_of Try.func262 zq27 rfl
 have hcall:=containsSteps.calls W A0 c0 l0 B A n c hn hc hr0 hc0
 unfold bodyOk
 generalize l0.all (stepOk n)=b at hcall ⊢
 by_cases h8:l0.length≤8
 ·have h8z: ¬(l0.length:Int)>8:=by omega
  have h8d:decide ((l0.length:Int)>8)=false:=decide_eq_false h8z
  have h8e:decide (8<(l0.length:Int))=false:=decide_eq_false h8z
  have h8f:decide (8<l0.length)=false:=decide_eq_false zq90
  rw [decide_eq_true h8,Bool.true_and]
  clear h8 h8z
  go_enter Try.func261,Try.ntmps261
  go_wp2_with (go_at_fn 262;refine hcall.mono ?_;rintro e w' ⟨rfl,hb'⟩)
  go_ret
  exact⟨by first|rfl|simp,hb'⟩
 ·have h8z:(l0.length:Int)>8:=by omega
  have h8d:decide ((l0.length:Int)>8)=true:=decide_eq_true h8z
  have h8e:decide (8<(l0.length:Int))=true:=decide_eq_true h8z
  have h8f:decide (8<l0.length)=true:=decide_eq_true zq90
  rw [decide_eq_false h8,Bool.false_and]
  clear h8 h8z
  go_enter Try.func261,Try.ntmps261
  go_wp2
  go_ret
  exact⟨by first|rfl|simp,Below.refl _ _⟩
theorem indexBodies.calls(W:World)(A0:Option Addr)(c0:Nat)(l0:List (List S219))(B:Nat)(A:Option Addr)(n c:Nat)(hn:n≤1000)(hc:W.cell? ⟨B,0,none⟩=some (.slice A n c))(hr0:Kd.C (Kd.slice 219 k219) W A0 l0.length l0)(hc0:l0.length≤c0) :
  Calls Try.prog 287 #[.slice A0 l0.length c0,.func (.func 261) #[] #[.pointer (some ⟨B,0,none⟩)]] W fun e w'=> ∃ r:Int,e= .returned (.int .i64 r)∧Told r (l0.all (bodyOk n))∧Below W.heap.size W w':=by
 have hu28:=Try.underlying35
 have hu72:=Try.underlying219
 have hmax:l0.length≤9223372036854775807:=hr0.2.1
 have e144: ∀ args w,(callFunc 261 args).run Try.prog w= .ok (.enter 261 args) w:=enters_of Try.func261 zq27 rfl
 have HR:=am hr0
 have HC:=am hc
 clear hr0 hc
 go_enter Try.func287,Try.ntmps287
 go_wp2
 go_loopg [5,8] l0.length (fun gg _ s8 wr=> ∃ kk:Nat,kk≤l0.length∧l0.length-kk≤gg∧s8= .int .i64 kk∧Aside0 (Below W.heap.size W wr)∧Aside0 (∀ j,j<kk→bodyOk n (rd_L4 l0 (j:Nat))=true))
 case atStart=>exact⟨0,Nat.zero_le _,zq90,rfl,⟨Below.refl _ _⟩,⟨fun j hj=>absurd hj (Nat.not_lt_zero _)⟩⟩
 case round =>
  obtain⟨kk,hkk,hg,rfl,BW,AL⟩:=hrel
  by_cases hlt:kk<l0.length
  ·have hltz:(kk:Int)<(l0.length:Int):=by omega
   obtain⟨ad,A1,c1,e,hx0,hl1,hr1⟩:=at_L4 HR.out (kk:Int) zq90 hltz
   cases e
   replace hx0:=(BW.out.cell (World.block_lt_of_cell? W _ hx0)).trans hx0
   simp only [Int.toNat_natCast] at hx0
   have hcall:=isProgram_body.calls wr A1 c1 (rd_L4 l0 (kk:Int)) B A n c hn ((BW.out.cell (World.block_lt_of_cell? W _ HC.out)).trans HC.out) (Kd.C_below hr1 BW.out) hl1
   clear hl1 hr1
   generalize hs:rd_L4 l0 (kk:Int)=x at hx0 hcall
   have HS:=am hs
   clear hs
   obtain⟨b,hb⟩: ∃ b,bodyOk n x=b:=⟨_,rfl⟩
   rw [hb] at hcall
   have HQ:=am hb
   clear hb
   cases b with
   |true =>
    simp only [Bool.not_true] at hcall
    go_wp2_with (go_at_fn 261;refine hcall.mono ?_;rintro e w' ⟨rfl,hb'⟩)
    go_roundg (l0.length-(kk+1))
    case measure=>omega
    case rel =>
     refine⟨kk+1,zq90,zq90,by go_num,⟨below_step BW.out hb'⟩,⟨fun j hj=> ?_⟩⟩
     by_cases e:j=kk
     ·subst e
      rw [HS.out]
      exact HQ.out
     ·exact AL.out j zq90
   |false =>
    simp only [Bool.not_false] at hcall
    go_wp2_with (go_at_fn 261;refine hcall.mono ?_;rintro e w' ⟨rfl,hb'⟩)
    go_ret
    refine⟨kk,rfl,⟨fun h=> ?_,fun _=>zq90⟩,below_step BW.out hb'⟩
    exfalso
    ·have hm:rd_L4 l0 (kk:Int)∈l0:=by
      unfold rd_L4
      rw [Int.toNat_natCast,List.getD_eq_getElem?_getD,List.getElem?_eq_getElem hlt]
      exact List.getElem_mem hlt
     have h2:=List.all_eq_true.1 h _ hm
     rw [HS.out,HQ.out] at h2
     cases h2
  ·have hltz: ¬(kk:Int)<(l0.length:Int):=by omega
   have HK:=am (show kk=l0.length by omega)
   clear hlt hkk hg
   go_wp2
   go_ret
   refine⟨-1,rfl,⟨fun _=>rfl,fun h=> ?_⟩,BW.out⟩
   exfalso
   have:l0.all (bodyOk n)=true:=by
    rw [List.all_eq_true]
    intro x hx
    obtain⟨i,hi,rfl⟩:=List.getElem_of_mem hx
    have:=AL.out i (by rw [HK.out];exact hi)
    unfold rd_L4 at this
    rwa [Int.toNat_natCast,List.getD_eq_getElem?_getD,List.getElem?_eq_getElem hi] at this
   rw [this] at h
   cases h
def progOk(l:List (List S219)):Bool:=decide (1≤l.length)&&decide (l.length≤6)&&l.all (bodyOk l.length)
def impl_IsProgram.f(l0:List (List S219)):Option Bool:=some (progOk l0)
theorem containsBodies.calls(W:World)(A0:Option Addr)(c0:Nat)(l0:List (List S219))(B:Nat)(A:Option Addr)(n c:Nat)(hn:n≤1000)(hc:W.cell? ⟨B,0,none⟩=some (.slice A n c))(hr0:Kd.C (Kd.slice 219 k219) W A0 l0.length l0)(hc0:l0.length≤c0) :
  Calls Try.prog 260 #[.slice A0 l0.length c0,.func (.func 261) #[] #[.pointer (some ⟨B,0,none⟩)]] W fun e w'=>e= .returned (.bool (!l0.all (bodyOk n)))∧Below W.heap.size W w':=by
 have e156: ∀ args w,(callFunc 287 args).run Try.prog w= .ok (.enter 287 args) w:=enters_of Try.func287 zq27 rfl
 have hcall:=indexBodies.calls W A0 c0 l0 B A n c hn hc hr0 hc0
 generalize l0.all (bodyOk n)=b at hcall ⊢
 go_enter Try.func260,Try.ntmps260
 cases b with
 |true =>
  simp only [Bool.not_true]
  go_wp2_with (go_at_fn 287;refine hcall.mono ?_;rintro e w' ⟨r,rfl,⟨h1,_⟩,hb'⟩;have:=h1 rfl;subst this)
  go_ret
  exact⟨rfl,hb'⟩
 |false =>
  simp only [Bool.not_false]
  go_wp2_with (go_at_fn 287;refine hcall.mono ?_;rintro e w' ⟨r,rfl,⟨_,h1⟩,hb'⟩;have hr_:=h1 rfl;have hd_:decide (0≤r)=true:=decide_eq_true hr_)
  go_ret
  exact⟨by simp [hr_],hb'⟩
theorem impl_IsProgram.calls(A0_0:Option Addr)(c0_0:Nat)(l0_0:List (List S219))(r:Bool)(w:World)(hr0_0:Kd.C (Kd.slice 219 k219) w A0_0 l0_0.length l0_0)(hc0_0:l0_0.length≤c0_0)(h:impl_IsProgram.f l0_0=some r) :
  Calls Try.prog 216 #[.agg #[.slice A0_0 l0_0.length c0_0]] w fun e w'=>e= .returned (.bool r)∧Below w.heap.size w w':=by
 have hu28:=Try.underlying35
 have hr:r=progOk l0_0:=(Option.some.inj h).symm
 subst hr
 clear h
 have e97: ∀ args w,(callFunc 188 args).run Try.prog w= .ok (.enter 188 args) w:=enters_of Try.func188 zq27 rfl
 have e141: ∀ args w,(callFunc 260 args).run Try.prog w= .ok (.enter 260 args) w:=enters_of Try.func260 zq27 rfl
 have h97:=fun W=>impl_in.calls (l0_0.length:Int) 1 6 _ W (in_eq _ _ _)
 by_cases hz:1≤l0_0.length∧l0_0.length≤6
 ·have hpo:progOk l0_0=l0_0.all (bodyOk l0_0.length):=by unfold progOk;rw [decide_eq_true hz.1,decide_eq_true hz.2];rfl
  have hd:decide ((1:Int)≤(l0_0.length:Int)∧(l0_0.length:Int)≤6)=true:=decide_eq_true zq90
  rw [hpo]
  rw [hd] at h97
  have hcall:=fun W hb hc=>containsBodies.calls W A0_0 c0_0 l0_0 w.heap.size A0_0 l0_0.length c0_0 zq90 hc (Kd.C_below hr0_0 hb) hc0_0
  generalize l0_0.all (bodyOk l0_0.length)=b at hcall ⊢
  clear hd hpo hz hr0_0
  go_enter Try.func216,Try.ntmps216
  go_wp2_with (first|(go_at_fn 188;refine(h97 _).mono ?_;rintro e w' ⟨rfl,⟨nd,rfl⟩⟩)|(go_at_fn 260;refine(hcall _ (pw_below_drewN (below_alloc (Below.refl _ _) _) _) (by simp)).mono ?_;rintro e w' ⟨rfl,hb'⟩))
  go_ret
  exact⟨by simp,below_step (pw_below_drewN (below_alloc (Below.refl _ _) _) _) hb'⟩
 ·have hpo:progOk l0_0=false:=by
   unfold progOk
   by_cases h1:1≤l0_0.length
   ·rw [decide_eq_false (show ¬ l0_0.length≤6 by omega)];simp
   ·rw [decide_eq_false h1];simp
  have hd:decide ((1:Int)≤(l0_0.length:Int)∧(l0_0.length:Int)≤6)=false:=decide_eq_false zq90
  rw [hpo]
  rw [hd] at h97
  clear hd hpo hz hr0_0
  go_enter Try.func216,Try.ntmps216
  go_wp2_with (first|(go_at_fn 188;refine(h97 _).mono ?_;rintro e w' ⟨rfl,⟨nd,rfl⟩⟩))
  go_ret
  exact⟨rfl,pw_below_drewN (below_alloc (Below.refl _ _) _) _⟩
end Go.Proofs.Yteiafboknimgbaa.Pr
end

section

end

section
namespace Go.Proofs.Yteiafboknimgbaa.Pr
open Go.RowKit Go.Proofs.W.PrintWords Go.Proofs.W.PrintLast Go.Proofs.W.PrintMore
section
variable {P:Program}
theorem cut_up(t e:TypeId)(kh:IntKind){i:TypeInfo} (ht:P.underlying t=some (.slice e))(hi:P.info? e=some i)(A:Option Addr)(n c:Nat)(j:Int)(h0:0≤j)(hm:j≤c) :
  ∀ W:World,(Instr.slice t (.slice A n c) none (some (.int kh j)) none).run P W= .ok (.slice A j.toNat c) W:=by
 intro W
 have hel:P.elem t=e:=by simp [Program.elem,ht]
 have hu:P.underlying t=some (.slice (P.elem t)):=by rw [hel];exact ht
 have ha:(A.map fun x=>x.add 0)=A:=by cases A<;>simp [Addr.add]
 rw [run_slice_h W t A n c hu kh j h0 zq90,hel]
 simp [sizeOf,typeInfo,hi,sliced,Result.andThen,ha]
end
theorem cells_at {W:World} {g:Nat} {cur:Array Value} {t:TypeId} (hg:W.heap[g]? =some (.cells cur t (0,0)))(j:Nat):W.cell? ⟨g,j,none⟩=cur.toList[j]? :=by
 rw [cell_of_row W g j cur t (0,0) hg,Array.getElem?_toList]
end Go.Proofs.Yteiafboknimgbaa.Pr
end

section
namespace Go.Proofs.Yteiafboknimgbaa.Pr.M
open Go.RowKit Go.Proofs.W.PrintWords Go.Proofs.W.PrintLast Go.Proofs.W.PrintMore
def evC(e:Ev):List Value:= [.int .i64 e.f0,.int .i64 e.f1,.int .i64 e.f2]
def ciC(c:CI):List Value:= [.int .i64 c.fn,.int .i64 c.par,.bool c.dfr,.int .i64 c.fin,.int .i64 c.val,.int .i64 c.arg]
def piC(q:PI)(u:Value):List Value:= [.int .i64 q.call,.int .i64 q.fn,.int .i64 q.val,.int .i64 q.depth,.int .i64 q.fate,.int .i64 q.by_,.int .i64 q.last,.bool q.again,u]
def rcC(r:RC):List Value:= [.int .i64 r.call,.int .i64 r.saved,.int .i64 r.pan]
def prC(x:Int×Int):List Value:= [.int .i64 x.1,.int .i64 x.2]
def panC(l:List PI)(us:List Value):List Value:=(l.zip us).flatMap fun p=>piC p.1 p.2
structure MV where (tr ow ca pa re pl:Value)(unw:List Value)
def machC(A0:Value)(fuel:Int)(m:MS)(v:MV):List Value :=
 [A0,.int .i64 fuel,.int .i64 m.made,.int .i64 m.shared,.int .i64 m.depth,.int .i64 m.deepest,v.tr,v.ow,v.ca,v.pa,v.re,v.pl,.int .i64 0,.int .i64 0,.slice none 0 0,.int .i64 0]
def frC(f:Fr)(rv par:Value):List Value :=
 [.int .i64 f.id,.int .i64 f.fn,.int .i64 f.r0,.int .i64 f.r1,.int .i64 f.r2,.int .i64 f.r3,rv,par,.bool f.dfr,.bool f.counted,.bool f.leaving,.int .i64 f.fin,.int .i64 f.pan]
def Apart(a b:Value):Prop:=a.ownBlock=none∨a.ownBlock≠b.ownBlock
theorem Z {p:Prop} (h:p):Aside0 p:=⟨h⟩
section
variable {P:Program} {ops:Array Oper} {Q:Exit→Act→World→Prop} {md:Region.Mode} {S:World→Prop} {ds:List Nat} {oi:Oper} {v:Value} {fuel:Nat} {l:Array Bool} {a a':Act} {w:World}
theorem pure1(i N:Nat)(l':Array Bool)(hi:ops[i]? =some oi:=by rfl)(hN:oi.dst=some N:=by rfl)(hc:anyB md ops l l' i=true:=by kernel_rfl)(hQ: ∀ c a w,Q (.panic c) (a.put oi.dst v) w→Q (.panic c) a w:=by exact fun _ _ _ h=>h)(hy:Yields P ops oi v a:=by exact Or.inl ⟨by rfl,by intro w';go_simp;with_reducible rfl⟩)
  (ha:a.put (some N) v=a':=by simp only [Act.put,List.setIfInBounds_toArray,List.set_cons_zero,List.set_cons_succ,i64_w,i32_w];rfl) (h:wpAnyLast P md ops Q S ds fuel l' a' w):wpAnyLast P md ops Q S ds (fuel+1) l a w:=pure_ l' hi hN hc hQ hy ha h
theorem take1(i N:Nat)(l':Array Bool)(hi:ops[i]? =some oi:=by rfl)(hN:oi.dst=some N:=by rfl)(hc:takeB md ops ds l l' i=true:=by kernel_rfl)(hQ: ∀ c a w,Q (.panic c) (a.put oi.dst v) w→Q (.panic c) a w:=by exact fun _ _ _ h=>h)(hy:YieldsIf P ops S oi v a:=by exact Or.inl ⟨by rfl,by intro w' hS;(repeat obtain⟨_,hS⟩:=hS);go_simp;with_reducible rfl⟩)
  (hS:S w) (ha:a.put (some N) v=a':=by simp only [Act.put,List.setIfInBounds_toArray,List.set_cons_zero,List.set_cons_succ,i64_w,i32_w];rfl) (h:wpAnyLast P md ops Q S ds fuel l' a' w):wpAnyLast P md ops Q S ds (fuel+1) l a w:=take_ l' hi hN hc hQ hy hS ha h
theorem la(i:Nat)(N:Option Tmp)(l':Array Bool)(hi:ops[i]? =some oi:=by rfl)(hN:oi.dst=N:=by rfl)(hc:readyB md ops l l' i=true:=by kernel_rfl)(hd:i∈ds:=by decide)
  (h: ∀ K:Act→World→Prop,Shut (∀ a' w',wpAnyLast P md ops Q S ds fuel l' a' w'→K a' w')→if Region.wanted oi (yielded ops a.tmps)=true then Oper.wp P oi a w K Q else K (a.put N undef) w):wpAnyLast P md ops Q S ds (fuel+1) l a w:=last_ l' hi hN hc hd h
theorem on_(i:Nat)(N:Option Tmp)(l':Array Bool)(hi:ops[i]? =some oi:=by rfl)(hN:oi.dst=N:=by rfl)(hc:readyB md ops l l' i=true:=by kernel_rfl)(hd:i∉ds:=by decide)
  (h: ∀ K:Act→World→Prop,Shut (∀ a' w',S w'→(S w'→wpAnyLast P md ops Q S ds fuel l' a' w')→K a' w')→if Region.wanted oi (yielded ops a.tmps)=true then Oper.wp P oi a w K Q else K (a.put N undef) w):wpAnyLast P md ops Q S ds (fuel+1) l a w:=one_ l' hi hN hc hd h
end
theorem Apart.symm {a b:Value} (h:Apart a b):Apart b a:=by
 rcases h with h|h
 ·by_cases hb:b.ownBlock=none
  ·exact .inl hb
  ·exact .inr (fun e=>hb (e.trans h))
 ·exact .inr (fun e=>h e.symm)
structure Rows(w:World)(base:Nat)(m:MS)(v:MV):Prop where
 tr:w.ownsRow base 63 3 v.tr m.trace.length (m.trace.flatMap evC)
 ow:w.ownsRow base 3 1 v.ow m.owners.length (nums .i64 m.owners)
 ca:w.ownsRow base 184 6 v.ca m.calls.length (m.calls.flatMap ciC)
 pa:w.ownsRow base 225 9 v.pa m.panics.length (panC m.panics v.unw)
 re:w.ownsRow base 232 3 v.re m.recs.length (m.recs.flatMap rcC)
 ul:v.unw.length=m.panics.length
 un: ∀ (i:Nat) q u,m.panics[i]? =some q→v.unw[i]? =some u→w.ownsRow base 3 1 u q.unw.length (nums .i64 q.unw)
 so: ∀ (i:Nat) u,v.unw[i]? =some u→Apart u v.ow
 su: ∀ (i j:Nat) u u',i≠j→v.unw[i]? =some u→v.unw[j]? =some u'→Apart u u'
theorem Apart.grown {w:World} {b e s n:Nat} {a o o':Value} {xs:List Value} (h:w.ownsRow b e s a n xs)(k:Apart a o)(hb:o'.ownBlock=o.ownBlock∨o'.ownBlock=some w.heap.size):Apart a o':=by
 rcases hb with hb|hb
 ·unfold Apart;rw [hb];exact k
 ·refine .inr (fun e=> ?_)
  rw [hb] at e
  exact absurd (own_lt h _ e) (Nat.lt_irrefl _)
theorem flat1 {α:Type} (f:α→List Value)(l:List α)(x:α):(l++ [x]).flatMap f=l.flatMap f++f x:=by simp
theorem Rows.onTrace {w w':World} {base:Nat} {m:MS} {v:MV} (h:Rows w base m v){t:Value} {e:Ev} (hg:w.grownBy w' v.tr.ownBlock)(ho:w'.ownsRow base 63 3 t (m.trace.length+1) (m.trace.flatMap evC++evC e)) :
  Rows w' base { m with trace:=m.trace++ [e] } { v with tr:=t } :=
 {tr:=by show w'.ownsRow _ _ _ _ (m.trace++ [e]).length ((m.trace++ [e]).flatMap evC);rw [flat1,len1];exact ho
  ow:=h.ow.kept hg (own_type_ne h.ow h.tr zq83)
  ca:=h.ca.kept hg (own_type_ne h.ca h.tr zq83)
  pa:=h.pa.kept hg (own_type_ne h.pa h.tr zq83)
  re:=h.re.kept hg (own_type_ne h.re h.tr zq83)
  ul:=h.ul
  un:=fun i q u hq hu=>(h.un i q u hq hu).kept hg (own_type_ne (h.un i q u hq hu) h.tr zq83)
  so:=h.so
  su:=h.su }
theorem Rows.unw_at {w:World} {base:Nat} {m:MS} {v:MV} (h:Rows w base m v){i:Nat} {u:Value} (hu:v.unw[i]? =some u): ∃ q,m.panics[i]? =some q∧w.ownsRow base 3 1 u q.unw.length (nums .i64 q.unw):=by
 have hi:i<m.panics.length:=by rw [← h.ul];exact(List.getElem?_eq_some_iff.1 hu).1
 exact⟨_,List.getElem?_eq_getElem hi,h.un i _ u (List.getElem?_eq_getElem hi) hu⟩
theorem Rows.onOwners {w w':World} {base:Nat} {m:MS} {v:MV} (h:Rows w base m v){t:Value} {o:Int} (hg:w.grownBy w' v.ow.ownBlock)(ho:w'.ownsRow base 3 1 t (m.owners.length+1) (nums .i64 m.owners++ [.int .i64 o]))
  (hb:t.ownBlock=v.ow.ownBlock∨t.ownBlock=some w.heap.size):Rows w' base { m with owners:=m.owners++ [o] } { v with ow:=t } :=
 {tr:=h.tr.kept hg (own_type_ne h.tr h.ow zq83)
  ow:=by show w'.ownsRow _ _ _ _ (m.owners++ [o]).length (nums .i64 (m.owners++ [o]));rw [nums_append,len1];exact ho
  ca:=h.ca.kept hg (own_type_ne h.ca h.ow zq83)
  pa:=h.pa.kept hg (own_type_ne h.pa h.ow zq83)
  re:=h.re.kept hg (own_type_ne h.re h.ow zq83)
  ul:=h.ul
  un:=fun i q u hq hu=>(h.un i q u hq hu).kept hg (h.so i u hu)
  so:=fun i u hu=>by obtain⟨q,_,hq⟩:=h.unw_at hu;exact(h.so i u hu).grown hq hb
  su:=h.su }
theorem Rows.onCalls {w w':World} {base:Nat} {m:MS} {v:MV} (h:Rows w base m v){t:Value} {c:CI} (hg:w.grownBy w' v.ca.ownBlock)(ho:w'.ownsRow base 184 6 t (m.calls.length+1) (m.calls.flatMap ciC++ciC c)) :
  Rows w' base { m with calls:=m.calls++ [c] } { v with ca:=t } :=
 {tr:=h.tr.kept hg (own_type_ne h.tr h.ca zq83)
  ow:=h.ow.kept hg (own_type_ne h.ow h.ca zq83)
  ca:=by show w'.ownsRow _ _ _ _ (m.calls++ [c]).length ((m.calls++ [c]).flatMap ciC);rw [flat1,len1];exact ho
  pa:=h.pa.kept hg (own_type_ne h.pa h.ca zq83)
  re:=h.re.kept hg (own_type_ne h.re h.ca zq83)
  ul:=h.ul
  un:=fun i q u hq hu=>(h.un i q u hq hu).kept hg (own_type_ne (h.un i q u hq hu) h.ca zq83)
  so:=h.so
  su:=h.su }
theorem Rows.onRecs {w w':World} {base:Nat} {m:MS} {v:MV} (h:Rows w base m v){t:Value} {c:RC} (hg:w.grownBy w' v.re.ownBlock)(ho:w'.ownsRow base 232 3 t (m.recs.length+1) (m.recs.flatMap rcC++rcC c)) :
  Rows w' base { m with recs:=m.recs++ [c] } { v with re:=t } :=
 {tr:=h.tr.kept hg (own_type_ne h.tr h.re zq83)
  ow:=h.ow.kept hg (own_type_ne h.ow h.re zq83)
  ca:=h.ca.kept hg (own_type_ne h.ca h.re zq83)
  pa:=h.pa.kept hg (own_type_ne h.pa h.re zq83)
  re:=by show w'.ownsRow _ _ _ _ (m.recs++ [c]).length ((m.recs++ [c]).flatMap rcC);rw [flat1,len1];exact ho
  ul:=h.ul
  un:=fun i q u hq hu=>(h.un i q u hq hu).kept hg (own_type_ne (h.un i q u hq hu) h.re zq83)
  so:=h.so
  su:=h.su }
theorem Rows.other {w w':World} {base:Nat} {m:MS} {v:MV} (h:Rows w base m v){k:Option Nat} (hg:w.grownBy w' k)
  (hk: ∀ g,k=some g→ ∃ cur t z,w.heap[g]? =some (.cells cur t z)∧t≠63∧t≠3∧t≠184∧t≠225∧t≠232):Rows w' base m v:=by
 have ne: ∀ {e s n:Nat} {a:Value} {xs:List Value},w.ownsRow base e s a n xs→(∀ g cur t z,k=some g→w.heap[g]? =some (.cells cur t z)→t≠e)→a.ownBlock=none∨a.ownBlock≠k:=by
  intro e s n a xs ha ht
  rcases ha.2 with⟨rfl,_⟩|⟨g,cap,cur,rfl,_,hh,_⟩
  ·exact .inl rfl
  ·refine .inr (fun he=> ?_)
   have hkg:k=some g:=he.symm
   exact ht g cur e (0,0) hkg hh rfl
 have ok: ∀ {e:Nat},(e=63∨e=3∨e=184∨e=225∨e=232)→ ∀ g cur t z,k=some g→w.heap[g]? =some (.cells cur t z)→t≠e:=by
  intro e he g cur t z hkg hh
  obtain⟨cur',t',z',hh',h1,h2,h3,h4,h5⟩:=hk g hkg
  rw [hh] at hh'
  injection hh' with hh'
  injection hh' with _ ht _
  subst ht
  rcases he with rfl|rfl|rfl|rfl|rfl<;>assumption
 exact {
  tr:=h.tr.kept hg (ne h.tr (ok (.inl rfl)))
  ow:=h.ow.kept hg (ne h.ow (ok (.inr (.inl rfl))))
  ca:=h.ca.kept hg (ne h.ca (ok (.inr (.inr (.inl rfl)))))
  pa:=h.pa.kept hg (ne h.pa (ok (.inr (.inr (.inr (.inl rfl))))))
  re:=h.re.kept hg (ne h.re (ok (.inr (.inr (.inr (.inr rfl))))))
  ul:=h.ul
  un:=fun i q u hq hu=>(h.un i q u hq hu).kept hg (ne (h.un i q u hq hu) (ok (.inr (.inl rfl))))
  so:=h.so
  su:=h.su }
def mty(t:TypeId):Bool:=t==155||t==63||t==3||t==184||t==225||t==232
structure KeptM(base:Nat)(par:Option Nat)(w w':World):Prop where
 os:w'.os=w.os
 tape:w'.tape=w.tape
 output:w'.output=w.output
 size:w.heap.size≤w'.heap.size
 low: ∀ k,k<base→w'.heap[k]? =w.heap[k]?
 cells: ∀ k cur t z,w.heap[k]? =some (.cells cur t z)→mty t=false→(t=292→par≠some k)→w'.heap[k]? =some (.cells cur t z)
 maps: ∀ (k:Nat) es n,w.heap[k]? =some (Obj.map es n)→w'.heap[k]? =some (Obj.map es n)
theorem KeptM.refl(base:Nat)(par:Option Nat)(w:World):KeptM base par w w:=⟨rfl,rfl,rfl,Nat.le_refl _,fun _ _=>rfl,fun _ _ _ _ h _ _=>h,fun _ _ _ h=>h⟩
theorem KeptM.trans {base:Nat} {par:Option Nat} {a b c:World} (h:KeptM base par a b)(k:KeptM base par b c):KeptM base par a c :=
 ⟨k.os.trans h.os,k.tape.trans h.tape,k.output.trans h.output,Nat.le_trans h.size k.size,fun i hi=>(k.low i hi).trans (h.low i hi),
  fun i cur t z hi ht hp=>k.cells i cur t z (h.cells i cur t z hi ht hp) ht hp,fun i es n hi=>k.maps i es n (h.maps i es n hi)⟩
theorem KeptM.inner {base:Nat} {par:Option Nat} {g:Nat} {a b c:World} (h:KeptM base par a b)(k:KeptM base (some g) b c)(hg:a.heap.size≤g):KeptM base par a c :=
 ⟨k.os.trans h.os,k.tape.trans h.tape,k.output.trans h.output,Nat.le_trans h.size k.size,fun i hi=>(k.low i hi).trans (h.low i hi),
  fun i cur t z hi ht hp=>k.cells i cur t z (h.cells i cur t z hi ht hp) ht (fun _ e=>by
   injection e with e
   have:=(Array.getElem?_eq_some_iff.1 hi).1
   omega),fun i es n hi=>k.maps i es n (h.maps i es n hi)⟩
theorem KeptM.grown {base:Nat} {par:Option Nat} {w w':World} {row:Option Nat} (hg:w.grownBy w' row)(hb:base≤w.heap.size)
  (hrow: ∀ k,row=some k→base≤k∧ ∃ cur t z,w.heap[k]? =some (.cells cur t z)∧(mty t=true∨(t=292∧par=some k))):KeptM base par w w':=by
 refine⟨hg.os,hg.tape,hg.output,hg.size,fun k hk=> ?_,fun k cur t z hk ht hp=> ?_,fun k es n hk=> ?_⟩
 ·refine hg.block k zq90 (fun e=> ?_)
  have:=(hrow k e.symm).1
  omega
 ·refine(hg.block k (Array.getElem?_eq_some_iff.1 hk).1 (fun e=> ?_)).trans hk
  obtain⟨_,cur',t',z',hh,h⟩:=hrow k e.symm
  rw [hk] at hh
  injection hh with hh
  injection hh with _ hT _
  subst hT
  rcases h with h|h
  ·rw [ht] at h;cases h
  ·exact hp h.1 h.2
 ·refine(hg.block k (Array.getElem?_eq_some_iff.1 hk).1 (fun e=> ?_)).trans hk
  obtain⟨_,cur',t',z',hh,h⟩:=hrow k e.symm
  rw [hk] at hh
  injection hh with hh
  cases hh
theorem KeptM.weak {base:Nat} {par:Option Nat} {w w':World} (h:KeptM base none w w'):KeptM base par w w' :=
 ⟨h.os,h.tape,h.output,h.size,h.low,fun i cur t z hi ht _=>h.cells i cur t z hi ht (fun _=>by simp),h.maps⟩
theorem KeptM.own {base:Nat} {par:Option Nat} {w w':World} {e s n:Nat} {v:Value} {xs:List Value} (h:w.ownsRow base e s v n xs)(hg:w.grownBy w' v.ownBlock)(hb:base≤w.heap.size)(he:mty e=true):KeptM base par w w':=by
 refine KeptM.grown hg hb (fun k hk=>⟨own_base h k hk,?_⟩)
 rcases h.2 with⟨rfl,_⟩|⟨g,cap,cur',rfl,_,hh,_⟩
 ·simp [Value.ownBlock] at hk
 ·have:g=k:=by simpa [Value.ownBlock] using hk
  subst this
  exact⟨_,_,_,hh,.inl he⟩
structure Mach(w:World)(base gm:Nat)(A0:Value)(fuel:Int)(m:MS)(v:MV):Prop where
 blk:w.heap[gm]? =some (.cells (machC A0 fuel m v).toArray 155 (0,0))
 low:base≤gm
 rows:Rows w base m v
structure Frame(w:World)(base gf:Nat)(f:Fr)(rv par:Value):Prop where
 blk:w.heap[gf]? =some (.cells (frC f rv par).toArray 292 (0,0))
 low:base≤gf
 runs:w.ownsRow base 326 2 rv f.runs.length (f.runs.flatMap prC)
theorem Frame.kept {w w':World} {base gf:Nat} {f:Fr} {rv par:Value} {p:Option Nat} (h:Frame w base gf f rv par)(k:KeptM base p w w')(hp:p≠some gf):Frame w' base gf f rv par:=by
 refine⟨k.cells _ _ _ _ h.blk zq83 (fun _=>hp),h.low,⟨h.runs.1,?_⟩⟩
 rcases h.runs.2 with e|⟨g,cap,cur,e1,e2,e3,e4⟩
 ·exact .inl e
 ·refine .inr ⟨g,cap,cur,e1,e2,k.cells _ _ _ _ e3 zq83 (fun e=>absurd e zq83),e4⟩
theorem ev_ {P:Program} {ops:Array Oper} {Q:Exit→Act→World→Prop} {oi:Oper} {N:Option Tmp} {a:Act} {w w':World} {v:Value} {K:Act→World→Prop} (hw:Region.wanted oi (yielded ops a.tmps)=true)(hN:oi.dst=N)
  (hrun:(execOp a.eval oi).run P w= .ok (.value v) w') (h:K (a.put N v) w'):if Region.wanted oi (yielded ops a.tmps)=true then Oper.wp P oi a w K Q else K (a.put N undef) w:=by
 rw [if_pos hw]
 subst hN
 unfold Oper.wp
 rw [hrun,Oper.upon_value]
 exact h
theorem skip_ {P:Program} {ops:Array Oper} {Q:Exit→Act→World→Prop} {oi:Oper} {N:Option Tmp} {a:Act} {w w':World} {K:Act→World→Prop} (hw:Region.wanted oi (yielded ops a.tmps)=true)(hN:oi.dst=N)
  (hrun:(execOp a.eval oi).run P w= .ok .skip w') (h:K (a.put N undef) w'):if Region.wanted oi (yielded ops a.tmps)=true then Oper.wp P oi a w K Q else K (a.put N undef) w:=by
 rw [if_pos hw]
 subst hN
 unfold Oper.wp
 rw [hrun,Oper.upon_skip]
 exact h
theorem alloc_ {P:Program} {ops:Array Oper} {Q:Exit→Act→World→Prop} {oi:Oper} {N:Option Tmp} {a:Act} {W:World} {K:Act→World→Prop} {cs:Array Value} {e n:Nat} (hw:Region.wanted oi (yielded ops a.tmps)=true)(hN:oi.dst=N)
  (hrun:(execOp a.eval oi).run P W= .ok (.value (.slice (some ⟨W.heap.size,0,none⟩) n n)) (W.alloc (.cells cs e (0,0))))
  (h: ∀ g,g=W.heap.size→ ∀ w1,w1.heap[g]? =some (.cells cs e (0,0))→Below W.heap.size W w1→K (a.put N (.slice (some ⟨g,0,none⟩) n n)) w1):if Region.wanted oi (yielded ops a.tmps)=true then Oper.wp P oi a W K Q else K (a.put N undef) W :=
 ev_ hw hN hrun (h _ rfl _ (blk_new W _) (below_alloc (Below.refl _ _) _))
theorem appRun_ {P:Program} {oi:Oper} {a:Act} {W W':World} {v v1 x:Value} (s q:Operand)(t:TypeId)(ho:oi.op= .call { callee:= .builtin .append,args:= #[s,q],argTypes:= #[t,t] })(hty:oi.type=t)(hs:a.eval s=v)(hx:a.eval q=x)
  (hr:(Builtin.append_ #[t,t] t #[v,x]).run P W= .ok v1 W'):(execOp a.eval oi).run P W= .ok (.value v1) W':=by
 subst hty
 unfold execOp
 simp only [ho,resolve,invoke,builtin,Sem.run_bind,Sem.run_pure,Result.andThen_ok,List.map_toArray,List.map_cons,List.map_nil,hs,hx,hr]
theorem end0_ {P:Program} {fn:Func} {R:Ending→World→Prop} {a:Act} {w:World} (hr:fn.results= #[])(hd:a.defers= [])(hR:R (.returned (.tuple #[])) w):bodyPost P fn R .normal a w:=by
 have hres:(results fn a.tmps).run P w= .ok (.tuple #[]) w:=by simp [results,hr]
 exact⟨hd,_,hres,hR⟩
structure At(w W:World)(base gm:Nat)(cs:List Value)(m:MS)(v:MV):Prop where
 blk:W.heap[gm]? =some (.cells cs.toArray 155 (0,0))
 rows:Rows W base m v
 kept:KeptM base none w W
 low:base≤gm
theorem Mach.at_ {w:World} {base gm:Nat} {A0:Value} {fuel:Int} {m:MS} {v:MV} (h:Mach w base gm A0 fuel m v):At w w base gm (machC A0 fuel m v) m v:=⟨h.blk,h.rows,KeptM.refl _ _ _,h.low⟩
theorem At.sz {w W:World} {base gm:Nat} {cs:List Value} {m:MS} {v:MV} (h:At w W base gm cs m v)(hb:base≤w.heap.size):base≤W.heap.size:=Nat.le_trans hb h.kept.size
theorem At.below {w W W':World} {base gm:Nat} {cs:List Value} {m:MS} {v:MV} (h:At w W base gm cs m v)(hb:base≤w.heap.size)(hB:Below W.heap.size W W'):At w W' base gm cs m v :=
 ⟨blk_below h.blk hB,h.rows.other (grown_of_below hB none) (fun g e=>zq121),h.kept.trans (KeptM.grown (grown_of_below hB none) (h.sz hb) (fun k e=>zq121)),h.low⟩
theorem At.drew {w W:World} {base gm:Nat} {cs:List Value} {m:MS} {v:MV} (h:At w W base gm cs m v)(hb:base≤w.heap.size):At w W.drew base gm cs m v:=h.below hb (below_drew (Below.refl _ _))
theorem blk_ne_own {w:World} {b e s n g:Nat} {t:TypeId} {a:Value} {xs:List Value} {cur:Array Value} (h:w.ownsRow b e s a n xs)(hg:w.heap[g]? =some (.cells cur t (0,0)))(ht:t≠e):some g≠a.ownBlock:=by
 intro he
 rcases h.2 with⟨rfl,_⟩|⟨g',cap,cur',rfl,_,hh,_⟩
 ·simp [Value.ownBlock] at he
 ·have:g=g':=by simpa [Value.ownBlock] using he
  subst this
  rw [hg] at hh
  injection hh with hh
  injection hh with _ h2 _
  exact ht h2
theorem und_ev:Try.prog.underlying 28=some (.slice 63):=by kernel_rfl
theorem und_int:Try.prog.underlying 45=some (.slice 3):=by kernel_rfl
theorem und_ci:Try.prog.underlying 150=some (.slice 184):=by kernel_rfl
theorem und_pi:Try.prog.underlying 151=some (.slice 225):=by kernel_rfl
theorem und_rc:Try.prog.underlying 152=some (.slice 232):=by kernel_rfl
theorem info_ev:(Try.prog.info? 63).map (fun i=>(i.zero,i.size,i.bytes))=some (some (.agg #[.int .i64 0,.int .i64 0,.int .i64 0]),3,24):=by kernel_rfl
theorem info_int:(Try.prog.info? 3).map (fun i=>(i.zero,i.size,i.bytes))=some (some (.int .i64 0),1,8):=by kernel_rfl
theorem app_one {P:Program} {W:World} {base:Nat} {t e:TypeId} {z:Value} {size bytes:Nat} (ht:P.underlying t=some (.slice e))(hinfo:(P.info? e).map (fun i=>(i.zero,i.size,i.bytes))=some (some z,size,bytes))
  (hz:z.cells.size=size) (hs0:0<size) (v:Value) (n:Nat) (xs:List Value) (hown:W.ownsRow base e size v n xs) (gA c:Nat) (cs:List Value) (hA:W.heap[gA]? =some (.cells cs.toArray e (0,0))) (hcs:cs.length=size) (h1: ∀ u∈cs,u.oneCell'=true)
  (hn:n≤100000) (hbytes:bytes≤1000) (hbase:base≤W.heap.size) :
  ∃ v' W',(Builtin.append_ #[t,t] t #[v,.slice (some ⟨gA,0,none⟩) 1 c]).run P W= .ok v' W'∧W'.ownsRow base e size v' (n+1) (xs++cs)∧W.grownBy W' v.ownBlock∧(v'.ownBlock=v.ownBlock∨v'.ownBlock=some W.heap.size):=by
 obtain⟨i0,hi,hzz⟩:=Option.map_eq_some_iff.1 hinfo
 simp only [Prod.mk.injEq] at hzz
 obtain⟨hz0,hz1,hz2⟩:=hzz
 obtain⟨v',W',h⟩:=run_append_own_at (P:=P) W base t t e i0 z size bytes ht hi hz0 hz1 hz2 hz hs0 v n xs hown ⟨gA,0,none⟩ 1 c cs zq90 (fun j u hu=>by rw [add_plain,cells_at hA];exact hu) h1
  (by simp only [maxLen];omega) (Nat.le_trans (Nat.mul_le_mul (show n+1≤100001 by omega) hbytes) zq83) hbase
 exact⟨v',W',h.1,h.2.1,h.2.2.1,h.2.2.2.2⟩
theorem At.appTr {w W:World} {base gm:Nat} {cs:List Value} {m:MS} {v:MV} (h:At w W base gm cs m v)(hb:base≤w.heap.size)(gA c:Nat)(e:Ev)(hA:W.heap[gA]? =some (.cells (evC e).toArray 63 (0,0)))(hn:m.trace.length≤100000) :
  ∃ t W',(Builtin.append_ #[28,28] 28 #[v.tr,.slice (some ⟨gA,0,none⟩) 1 c]).run Try.prog W= .ok t W'∧At w W' base gm cs { m with trace:=m.trace++ [e] } { v with tr:=t }
   ∧(∀ (g:Nat) (cur:Array Value) (ty:TypeId),W.heap[g]? =some (.cells cur ty (0,0))→ty≠63→W'.heap[g]? =some (.cells cur ty (0,0))):=by
 obtain⟨t,W',h1,h2,h3,h4⟩:=app_one und_ev info_ev rfl zq83 v.tr _ _ h.rows.tr gA c (evC e) hA rfl zq129 hn zq83 (h.sz hb)
 exact⟨t,W',h1,⟨blk_grown h.blk h3 (blk_ne_own h.rows.tr h.blk zq83),h.rows.onTrace h3 h2,h.kept.trans (KeptM.own h.rows.tr h3 (h.sz hb) zq83),h.low⟩,fun g cur ty hg hty=>blk_grown hg h3 (blk_ne_own h.rows.tr hg hty)⟩
theorem At.appOw {w W:World} {base gm:Nat} {cs:List Value} {m:MS} {v:MV} (h:At w W base gm cs m v)(hb:base≤w.heap.size)(gA c:Nat)(o:Int)(hA:W.heap[gA]? =some (.cells [Value.int .i64 o].toArray 3 (0,0)))(hn:m.owners.length≤100000) :
  ∃ t W',(Builtin.append_ #[45,45] 45 #[v.ow,.slice (some ⟨gA,0,none⟩) 1 c]).run Try.prog W= .ok t W'∧At w W' base gm cs { m with owners:=m.owners++ [o] } { v with ow:=t }
   ∧(∀ (g:Nat) (cur:Array Value) (ty:TypeId),W.heap[g]? =some (.cells cur ty (0,0))→ty≠3→W'.heap[g]? =some (.cells cur ty (0,0))):=by
 obtain⟨t,W',h1,h2,h3,h4⟩:=app_one und_int info_int rfl zq83 v.ow _ _ h.rows.ow gA c [.int .i64 o] hA rfl (by intro u hu;simp at hu;subst hu;rfl) hn zq83 (h.sz hb)
 exact⟨t,W',h1,⟨blk_grown h.blk h3 (blk_ne_own h.rows.ow h.blk zq83),h.rows.onOwners h3 h2 h4,h.kept.trans (KeptM.own h.rows.ow h3 (h.sz hb) zq83),h.low⟩,fun g cur ty hg hty=>blk_grown hg h3 (blk_ne_own h.rows.ow hg hty)⟩
theorem At.store {w W:World} {base gm:Nat} {cs:List Value} {m:MS} {v:MV} (h:At w W base gm cs m v)(hb:base≤w.heap.size)(i:Nat)(u:Value):At w (W.setCell ⟨gm,i,none⟩ u) base gm (cs.set i u) m v:=by
 have hg:W.grownBy (W.setCell ⟨gm,i,none⟩ u) (some gm):=⟨rfl,rfl,rfl,by simp [World.setCell],fun k hk hne=>Below.heap_setCell W ⟨gm,i,none⟩ u k (fun e=>hne (by rw [e]))⟩
 refine⟨?_,h.rows.other hg (fun g e=> ?_),h.kept.trans (KeptM.grown hg (h.sz hb) (fun k e=> ?_)),h.low⟩
 ·rw [blk_set h.blk];simp
 ·injection e with e;subst e
  exact⟨_,_,_,h.blk,zq83,zq83,zq83,zq83,zq83⟩
 ·injection e with e;subst e
  exact⟨h.low,_,_,_,h.blk,.inl zq83⟩
theorem At.mach {w W:World} {base gm:Nat} {A0:Value} {fuel:Int} {m:MS} {v:MV} (h:At w W base gm (machC A0 fuel m v) m v):Mach W base gm A0 fuel m v:=⟨h.blk,h.low,h.rows⟩
theorem tell.calls(w:World)(base gm:Nat)(A0:Value)(fuel:Int)(m:MS)(v:MV)(k f x o:Int)(H:Mach w base gm A0 fuel m v)(hb:base≤w.heap.size)(hr:m.trace.length≤100000)(ho:m.owners.length≤100000) :
  Calls Try.prog 302 #[.pointer (some ⟨gm,0,none⟩),.int .i64 k,.int .i64 f,.int .i64 x,.int .i64 o] w fun e w'=>e= .returned (.tuple #[]) ∧
   ∃ t q,Mach w' base gm A0 fuel (tell m k f x o) { v with tr:=t,ow:=q } ∧KeptM base none w w':=by
 have HA:=Z (H.at_.drew hb)
 clear H
 go_enter Try.func302,Try.ntmps302
 refine start_ (n:=25) (S:=fun w'=>w'.cell? ⟨gm,6,none⟩=some v.tr∧w'.cell? ⟨gm,7,none⟩=some v.ow) (ds:= [21,24]) (bb 25 0) zq27 rfl rfl ⟨(blk_cell HA.out.blk 6).trans rfl,(blk_cell HA.out.blk 7).trans rfl⟩ (fun hHeld=> ?_)
 generalize w.drew=wd at HA hHeld ⊢
 refine pure1 0 10 (bb 25 1) (h:= ?_)
 refine pure1 1 11 (bb 25 3) (h:= ?_)
 refine pure1 2 12 (bb 25 7) (h:= ?_)
 refine pure1 3 13 (bb 25 15) (h:= ?_)
 refine pure1 4 14 (bb 25 31) (h:= ?_)
 refine take1 5 15 (bb 25 63) (hS:=hHeld) (h:= ?_)
 refine pure1 6 16 (bb 25 127) (h:= ?_)
 refine pure1 7 17 (bb 25 255) (h:= ?_)
 refine pure1 8 18 (bb 25 511) (h:= ?_)
 refine pure1 9 19 (bb 25 1023) (h:= ?_)
 refine pure1 12 22 (bb 25 5119) (h:= ?_)
 refine pure1 13 23 (bb 25 13311) (h:= ?_)
 refine pure1 14 24 (bb 25 29695) (h:= ?_)
 refine take1 15 25 (bb 25 62463) (hS:=hHeld) (h:= ?_)
 refine pure1 16 26 (bb 25 127999) (h:= ?_)
 refine two_ (i:=10) (j:=17) (Ni:=some 20) (Nj:=some 27) (bb 25 129023) (bb 25 259071) rfl rfl rfl rfl zq27 zq83 zq83 (fun K hK=> ?_) (fun K hK=> ?_)
 ·
  refine alloc_ (cs:=(evC ⟨k,f,x⟩).toArray) (e:=63) (n:=1) (by rfl) rfl zq88 ?_
  intro gA hgA x1 hnew hbel
  replace HA:=Z (HA.out.below hb hbel)
  have GgA:=am hnew
  clear hnew hbel hgA
  refine hK.out _ _ ⟨(blk_cell HA.out.blk 6).trans rfl,(blk_cell HA.out.blk 7).trans rfl⟩ (fun hHeld=> ?_)
  clear hK K
  refine nm 20 (h:= ?_)
  refine two_ (i:=11) (j:=17) (Ni:=some 21) (Nj:=some 27) (bb 25 131071) (bb 25 260095) rfl rfl rfl rfl zq27 zq83 zq83 (fun K hK=> ?_) (fun K hK=> ?_)
  ·
   obtain⟨t,x2,hE,hA',hkeep⟩:=HA.out.appTr hb gA 1 ⟨k,f,x⟩ GgA.out hr
   refine ev_ (v:=t) (w':=x2) (by rfl) rfl (appRun_ _ _ _ rfl rfl rfl rfl hE) ?_
   clear HA
   have HA:=am hA'
   clear GgA
   clear hE hA' hkeep
   obtain⟨tA,tc,ht⟩:=own_slice HA.out.rows.tr
   have ht:t= .slice tA (m.trace.length+1) tc:=by have h':=ht;rw [len1] at h';exact h'
   subst ht
   refine hK.out _ _ ⟨(blk_cell HA.out.blk 6).trans rfl,(blk_cell HA.out.blk 7).trans rfl⟩ (fun hHeld=> ?_)
   clear hK K
   refine nm 21 (h:= ?_)
   refine on_ 17 (some 27) (bb 25 262143) (h:=fun K hK=> ?_)
   refine alloc_ (cs:= [Value.int .i64 o].toArray) (e:=3) (n:=1) (by rfl) rfl zq88 ?_
   intro gB hgB x3 hnew hbel
   replace HA:=Z (HA.out.below hb hbel)
   have GgB:=am hnew
   clear hnew hbel hgB
   refine hK.out _ _ ⟨(blk_cell HA.out.blk 6).trans rfl,(blk_cell HA.out.blk 7).trans rfl⟩ (fun hHeld=> ?_)
   clear hK K
   refine nm 27 (h:= ?_)
   refine on_ 18 (some 28) (bb 25 524287) (h:=fun K hK=> ?_)
   obtain⟨q,x4,hE,hA',hkeep⟩:=HA.out.appOw hb gB 1 o GgB.out ho
   refine ev_ (v:=q) (w':=x4) (by rfl) rfl (appRun_ _ _ _ rfl rfl rfl rfl hE) ?_
   clear HA
   have HA:=am hA'
   clear GgB
   clear hE hA' hkeep
   obtain⟨qA,qc,hq⟩:=own_slice HA.out.rows.ow
   have hq:q= .slice qA (m.owners.length+1) qc:=by have h':=hq;rw [len1] at h';exact h'
   subst hq
   refine hK.out _ _ ⟨(blk_cell HA.out.blk 6).trans rfl,(blk_cell HA.out.blk 7).trans rfl⟩ (fun hHeld=> ?_)
   clear hK K
   refine nm 28 (h:= ?_)
   refine pure1 19 29 (bb 25 1048575) (h:= ?_)
   refine pure1 20 30 (bb 25 2097151) (h:= ?_)
   refine la 21 none (bb 25 4194303) (h:=fun K hK=> ?_)
   have hc_:=(blk_cell HA.out.blk 6).trans (show _=some (v.tr) from rfl)
   have hf_:=blk_frozen HA.out.blk 6
   rw [if_pos (by rfl)]
   unfold Oper.wp
   go_simp
   have n0_:=Z (HA.out.store hb 6 (.slice tA (m.trace.length+1) tc))
   clear HA hc_ hf_
   have HA:=n0_
   clear n0_
   generalize x4.setCell ⟨gm,6,none⟩ (.slice tA (m.trace.length+1) tc)=x5 at HA ⊢
   refine hK.out _ _ ?_
   clear hK K
   refine pure1 22 31 (bb 25 8388607) (h:= ?_)
   refine pure1 23 32 (bb 25 16777215) (h:= ?_)
   refine la 24 none (bb 25 33554431) (h:=fun K hK=> ?_)
   have hc_:=(blk_cell HA.out.blk 7).trans (show _=some (v.ow) from rfl)
   have hf_:=blk_frozen HA.out.blk 7
   rw [if_pos (by rfl)]
   unfold Oper.wp
   go_simp
   have n0_:=Z (HA.out.store hb 7 (.slice qA (m.owners.length+1) qc))
   clear HA hc_ hf_
   have HA:=n0_
   clear n0_
   generalize x5.setCell ⟨gm,7,none⟩ (.slice qA (m.owners.length+1) qc)=x6 at HA ⊢
   refine hK.out _ _ ?_
   clear hK K
   refine done_ zq27 ?_
   refine end0_ rfl rfl ?_
   exact⟨rfl,_,_,At.mach (A0:=A0) (fuel:=fuel) (m:=tell m k f x o) (v:= { v with tr:= .slice tA (m.trace.length+1) tc,ow:= .slice qA (m.owners.length+1) qc }) HA.out,HA.out.kept⟩
  ·
   refine alloc_ (cs:= [Value.int .i64 o].toArray) (e:=3) (n:=1) (by rfl) rfl zq88 ?_
   intro gB hgB x2 hnew hbel
   replace HA:=Z (HA.out.below hb hbel)
   replace GgA:=Z (blk_below GgA.out hbel)
   have GgB:=am hnew
   clear hnew hbel hgB
   refine hK.out _ _ ⟨(blk_cell HA.out.blk 6).trans rfl,(blk_cell HA.out.blk 7).trans rfl⟩ (fun hHeld=> ?_)
   clear hK K
   refine nm 27 (h:= ?_)
   refine on_ 11 (some 21) (bb 25 262143) (h:=fun K hK=> ?_)
   obtain⟨t,x3,hE,hA',hkeep⟩:=HA.out.appTr hb gA 1 ⟨k,f,x⟩ GgA.out hr
   refine ev_ (v:=t) (w':=x3) (by rfl) rfl (appRun_ _ _ _ rfl rfl rfl rfl hE) ?_
   clear HA
   have HA:=am hA'
   clear GgA
   replace GgB:=Z (hkeep _ _ _ GgB.out zq83)
   clear hE hA' hkeep
   obtain⟨tA,tc,ht⟩:=own_slice HA.out.rows.tr
   have ht:t= .slice tA (m.trace.length+1) tc:=by have h':=ht;rw [len1] at h';exact h'
   subst ht
   refine hK.out _ _ ⟨(blk_cell HA.out.blk 6).trans rfl,(blk_cell HA.out.blk 7).trans rfl⟩ (fun hHeld=> ?_)
   clear hK K
   refine nm 21 (h:= ?_)
   refine on_ 18 (some 28) (bb 25 524287) (h:=fun K hK=> ?_)
   obtain⟨q,x4,hE,hA',hkeep⟩:=HA.out.appOw hb gB 1 o GgB.out ho
   refine ev_ (v:=q) (w':=x4) (by rfl) rfl (appRun_ _ _ _ rfl rfl rfl rfl hE) ?_
   clear HA
   have HA:=am hA'
   clear GgB
   clear hE hA' hkeep
   obtain⟨qA,qc,hq⟩:=own_slice HA.out.rows.ow
   have hq:q= .slice qA (m.owners.length+1) qc:=by have h':=hq;rw [len1] at h';exact h'
   subst hq
   refine hK.out _ _ ⟨(blk_cell HA.out.blk 6).trans rfl,(blk_cell HA.out.blk 7).trans rfl⟩ (fun hHeld=> ?_)
   clear hK K
   refine nm 28 (h:= ?_)
   refine pure1 19 29 (bb 25 1048575) (h:= ?_)
   refine pure1 20 30 (bb 25 2097151) (h:= ?_)
   refine la 21 none (bb 25 4194303) (h:=fun K hK=> ?_)
   have hc_:=(blk_cell HA.out.blk 6).trans (show _=some (v.tr) from rfl)
   have hf_:=blk_frozen HA.out.blk 6
   rw [if_pos (by rfl)]
   unfold Oper.wp
   go_simp
   have n0_:=Z (HA.out.store hb 6 (.slice tA (m.trace.length+1) tc))
   clear HA hc_ hf_
   have HA:=n0_
   clear n0_
   generalize x4.setCell ⟨gm,6,none⟩ (.slice tA (m.trace.length+1) tc)=x5 at HA ⊢
   refine hK.out _ _ ?_
   clear hK K
   refine pure1 22 31 (bb 25 8388607) (h:= ?_)
   refine pure1 23 32 (bb 25 16777215) (h:= ?_)
   refine la 24 none (bb 25 33554431) (h:=fun K hK=> ?_)
   have hc_:=(blk_cell HA.out.blk 7).trans (show _=some (v.ow) from rfl)
   have hf_:=blk_frozen HA.out.blk 7
   rw [if_pos (by rfl)]
   unfold Oper.wp
   go_simp
   have n0_:=Z (HA.out.store hb 7 (.slice qA (m.owners.length+1) qc))
   clear HA hc_ hf_
   have HA:=n0_
   clear n0_
   generalize x5.setCell ⟨gm,7,none⟩ (.slice qA (m.owners.length+1) qc)=x6 at HA ⊢
   refine hK.out _ _ ?_
   clear hK K
   refine done_ zq27 ?_
   refine end0_ rfl rfl ?_
   exact⟨rfl,_,_,At.mach (A0:=A0) (fuel:=fuel) (m:=tell m k f x o) (v:= { v with tr:= .slice tA (m.trace.length+1) tc,ow:= .slice qA (m.owners.length+1) qc }) HA.out,HA.out.kept⟩
 ·
  refine alloc_ (cs:= [Value.int .i64 o].toArray) (e:=3) (n:=1) (by rfl) rfl zq88 ?_
  intro gB hgB x1 hnew hbel
  replace HA:=Z (HA.out.below hb hbel)
  have GgB:=am hnew
  clear hnew hbel hgB
  refine hK.out _ _ ⟨(blk_cell HA.out.blk 6).trans rfl,(blk_cell HA.out.blk 7).trans rfl⟩ (fun hHeld=> ?_)
  clear hK K
  refine nm 27 (h:= ?_)
  refine on_ 10 (some 20) (bb 25 260095) (h:=fun K hK=> ?_)
  refine alloc_ (cs:=(evC ⟨k,f,x⟩).toArray) (e:=63) (n:=1) (by rfl) rfl zq88 ?_
  intro gA hgA x2 hnew hbel
  replace HA:=Z (HA.out.below hb hbel)
  replace GgB:=Z (blk_below GgB.out hbel)
  have GgA:=am hnew
  clear hnew hbel hgA
  refine hK.out _ _ ⟨(blk_cell HA.out.blk 6).trans rfl,(blk_cell HA.out.blk 7).trans rfl⟩ (fun hHeld=> ?_)
  clear hK K
  refine nm 20 (h:= ?_)
  refine on_ 11 (some 21) (bb 25 262143) (h:=fun K hK=> ?_)
  obtain⟨t,x3,hE,hA',hkeep⟩:=HA.out.appTr hb gA 1 ⟨k,f,x⟩ GgA.out hr
  refine ev_ (v:=t) (w':=x3) (by rfl) rfl (appRun_ _ _ _ rfl rfl rfl rfl hE) ?_
  clear HA
  have HA:=am hA'
  clear GgA
  replace GgB:=Z (hkeep _ _ _ GgB.out zq83)
  clear hE hA' hkeep
  obtain⟨tA,tc,ht⟩:=own_slice HA.out.rows.tr
  have ht:t= .slice tA (m.trace.length+1) tc:=by have h':=ht;rw [len1] at h';exact h'
  subst ht
  refine hK.out _ _ ⟨(blk_cell HA.out.blk 6).trans rfl,(blk_cell HA.out.blk 7).trans rfl⟩ (fun hHeld=> ?_)
  clear hK K
  refine nm 21 (h:= ?_)
  refine on_ 18 (some 28) (bb 25 524287) (h:=fun K hK=> ?_)
  obtain⟨q,x4,hE,hA',hkeep⟩:=HA.out.appOw hb gB 1 o GgB.out ho
  refine ev_ (v:=q) (w':=x4) (by rfl) rfl (appRun_ _ _ _ rfl rfl rfl rfl hE) ?_
  clear HA
  have HA:=am hA'
  clear GgB
  clear hE hA' hkeep
  obtain⟨qA,qc,hq⟩:=own_slice HA.out.rows.ow
  have hq:q= .slice qA (m.owners.length+1) qc:=by have h':=hq;rw [len1] at h';exact h'
  subst hq
  refine hK.out _ _ ⟨(blk_cell HA.out.blk 6).trans rfl,(blk_cell HA.out.blk 7).trans rfl⟩ (fun hHeld=> ?_)
  clear hK K
  refine nm 28 (h:= ?_)
  refine pure1 19 29 (bb 25 1048575) (h:= ?_)
  refine pure1 20 30 (bb 25 2097151) (h:= ?_)
  refine la 21 none (bb 25 4194303) (h:=fun K hK=> ?_)
  have hc_:=(blk_cell HA.out.blk 6).trans (show _=some (v.tr) from rfl)
  have hf_:=blk_frozen HA.out.blk 6
  rw [if_pos (by rfl)]
  unfold Oper.wp
  go_simp
  have n0_:=Z (HA.out.store hb 6 (.slice tA (m.trace.length+1) tc))
  clear HA hc_ hf_
  have HA:=n0_
  clear n0_
  generalize x4.setCell ⟨gm,6,none⟩ (.slice tA (m.trace.length+1) tc)=x5 at HA ⊢
  refine hK.out _ _ ?_
  clear hK K
  refine pure1 22 31 (bb 25 8388607) (h:= ?_)
  refine pure1 23 32 (bb 25 16777215) (h:= ?_)
  refine la 24 none (bb 25 33554431) (h:=fun K hK=> ?_)
  have hc_:=(blk_cell HA.out.blk 7).trans (show _=some (v.ow) from rfl)
  have hf_:=blk_frozen HA.out.blk 7
  rw [if_pos (by rfl)]
  unfold Oper.wp
  go_simp
  have n0_:=Z (HA.out.store hb 7 (.slice qA (m.owners.length+1) qc))
  clear HA hc_ hf_
  have HA:=n0_
  clear n0_
  generalize x5.setCell ⟨gm,7,none⟩ (.slice qA (m.owners.length+1) qc)=x6 at HA ⊢
  refine hK.out _ _ ?_
  clear hK K
  refine done_ zq27 ?_
  refine end0_ rfl rfl ?_
  exact⟨rfl,_,_,At.mach (A0:=A0) (fuel:=fuel) (m:=tell m k f x o) (v:= { v with tr:= .slice tA (m.trace.length+1) tc,ow:= .slice qA (m.owners.length+1) qc }) HA.out,HA.out.kept⟩
theorem flat_len {α:Type} (f:α→List Value)(sz:Nat)(hsz: ∀ x,(f x).length=sz)(l:List α):(l.flatMap f).length=l.length*sz:=by
 induction l with
 |nil=>simp
 |cons x l ih=>rw [List.flatMap_cons,List.length_append,ih,hsz,List.length_cons,Nat.succ_mul,Nat.add_comm]
theorem flat_at {α:Type} (f:α→List Value)(sz:Nat)(hsz: ∀ x,(f x).length=sz)(l:List α)(i j:Nat)(hi:i<l.length)(hj:j<sz):(l.flatMap f)[i*sz+j]? =(f l[i])[j]? :=by
 induction l generalizing i with
 |nil=>exact absurd hi (Nat.not_lt_zero _)
 |cons x l ih =>
  rw [List.flatMap_cons]
  cases i with
  |zero=>rw [Nat.zero_mul,Nat.zero_add,List.getElem?_append_left (by rw [hsz];exact hj)];rfl
  |succ i =>
   rw [List.getElem?_append_right (by rw [hsz,Nat.succ_mul];omega),hsz]
   have:(i+1)*sz+j-sz=i*sz+j:=by rw [Nat.succ_mul];omega
   rw [this,ih i (by simpa using hi)]
   rfl
theorem flat_set {α:Type} (f:α→List Value)(sz:Nat)(hsz: ∀ x,(f x).length=sz)(l:List α)(i j:Nat)(hi:i<l.length)(hj:j<sz)(u:Value)(x':α)(hx:(f l[i]).set j u=f x') :
  (l.flatMap f).set (i*sz+j) u=(l.set i x').flatMap f:=by
 induction l generalizing i with
 |nil=>exact absurd hi (Nat.not_lt_zero _)
 |cons x l ih =>
  rw [List.flatMap_cons]
  cases i with
  |zero =>
   rw [Nat.zero_mul,Nat.zero_add,List.set_append_left _ _ (by rw [hsz];exact hj),List.set_cons_zero,List.flatMap_cons]
   exact congrArg (· ++_) hx
  |succ i =>
   rw [List.set_append_right _ _ (by rw [hsz,Nat.succ_mul];omega),hsz,List.set_cons_succ,List.flatMap_cons]
   have:(i+1)*sz+j-sz=i*sz+j:=by rw [Nat.succ_mul];omega
   rw [this,ih i (by simpa using hi) hx]
theorem own_put {w:World} {base:Nat} {e:TypeId} {size n g cap:Nat} {xs:List Value} (h:w.ownsRow base e size (.slice (some ⟨g,0,none⟩) n cap) n xs)(j:Nat)(u:Value) :
  (w.setCell ⟨g,j,none⟩ u).ownsRow base e size (.slice (some ⟨g,0,none⟩) n cap) n (xs.set j u):=by
 refine⟨by rw [List.length_set];exact h.1,?_⟩
 rcases h.2 with⟨he,_⟩|⟨g',cap',cur,he,hb,hh,h1,h2,h3,h4⟩
 ·cases he
 ·simp only [Value.slice.injEq,Option.some.injEq,Addr.mk.injEq,and_true] at he
  obtain⟨rfl,-,rfl⟩:=he
  refine .inr ⟨g,cap,cur.setIfInBounds j u,rfl,hb,blk_set hh _ _,h1,h2,by rw [Array.size_setIfInBounds];exact h3,?_⟩
  rw [Array.toList_setIfInBounds,List.take_set,h4]
theorem own_cell {w:World} {base:Nat} {e:TypeId} {size n g cap:Nat} {xs:List Value} (h:w.ownsRow base e size (.slice (some ⟨g,0,none⟩) n cap) n xs)(j:Nat)(hj:j<n*size):w.cell? ⟨g,j,none⟩=xs[j]? ∧w.frozen? ⟨g,j,none⟩=false:=by
 rcases h.2 with⟨he,_⟩|⟨g',cap',cur,he,hb,hh,h1,h2,h3,h4⟩
 ·cases he
 ·simp only [Value.slice.injEq,Option.some.injEq,Addr.mk.injEq,and_true] at he
  obtain⟨rfl,-,rfl⟩:=he
  exact⟨by rw [cells_at hh,←h4,List.getElem?_take,if_pos hj],blk_frozen hh _⟩
theorem own_form {w:World} {base:Nat} {e:TypeId} {size n:Nat} {v:Value} {xs:List Value} (h:w.ownsRow base e size v n xs)(hn:0<n): ∃ g cap,v= .slice (some ⟨g,0,none⟩) n cap∧base≤g∧n≤cap∧cap≤maxLen:=by
 rcases h.2 with⟨_,h0⟩|⟨g,cap,cur,he,hb,hh,h1,h2,h3,h4⟩
 ·omega
 ·exact⟨g,cap,he,hb,h1,h2⟩
theorem grown_set(W:World)(g j:Nat)(u:Value):W.grownBy (W.setCell ⟨g,j,none⟩ u) (some g):=⟨rfl,rfl,rfl,by simp [World.setCell],fun k hk hne=>Below.heap_setCell W ⟨g,j,none⟩ u k (fun e=>hne (by rw [e]))⟩
theorem ciC_len(c:CI):(ciC c).length=6:=rfl
theorem piC_len(p:PI×Value):(piC p.1 p.2).length=9:=rfl
theorem Rows.setCall {w:World} {base:Nat} {m:MS} {v:MV} (h:Rows w base m v){g cap:Nat} (hv:v.ca= .slice (some ⟨g,0,none⟩) m.calls.length cap)(i j:Nat)(hi:i<m.calls.length)(hj:j<6)(u:Value)(c':CI)(hc:(ciC m.calls[i]).set j u=ciC c') :
  Rows (w.setCell ⟨g,i*6+j,none⟩ u) base { m with calls:=m.calls.set i c' } v:=by
 have hg:=grown_set w g (i*6+j) u
 have hb:v.ca.ownBlock=some g:=by rw [hv];rfl
 rw [← hb] at hg
 have ho:=h.ca
 rw [hv] at ho
 have hp:=own_put ho (i*6+j) u
 rw [flat_set ciC 6 ciC_len m.calls i j hi hj u c' hc] at hp
 exact {
  tr:=h.tr.kept hg (own_type_ne h.tr h.ca zq83)
  ow:=h.ow.kept hg (own_type_ne h.ow h.ca zq83)
  ca:=by show World.ownsRow _ _ _ _ _ (m.calls.set i c').length _;rw [List.length_set,hv];exact hp
  pa:=h.pa.kept hg (own_type_ne h.pa h.ca zq83)
  re:=h.re.kept hg (own_type_ne h.re h.ca zq83)
  ul:=h.ul
  un:=fun i q u hq hu=>(h.un i q u hq hu).kept hg (own_type_ne (h.un i q u hq hu) h.ca zq83)
  so:=h.so
  su:=h.su }
theorem zip_set {α β:Type} (l:List α)(us:List β)(i:Nat)(hi:i<l.length)(hu:i<us.length)(q:α):(l.set i q).zip us=(l.zip us).set i (q,us[i]):=by
 induction l generalizing us i with
 |nil=>exact absurd hi (Nat.not_lt_zero _)
 |cons x l ih =>
  cases us with
  |nil=>exact absurd hu (Nat.not_lt_zero _)
  |cons y us =>
   cases i with
   |zero=>rfl
   |succ i=>simp only [List.set_cons_succ,List.zip_cons_cons,List.getElem_cons_succ];rw [ih us i (by simpa using hi) (by simpa using hu)]
theorem zip_set2 {α β:Type} (l:List α)(us:List β)(i:Nat)(hi:i<l.length)(hu:i<us.length)(q:α)(y:β):(l.set i q).zip (us.set i y)=(l.zip us).set i (q,y):=by
 induction l generalizing us i with
 |nil=>exact absurd hi (Nat.not_lt_zero _)
 |cons x l ih =>
  cases us with
  |nil=>exact absurd hu (Nat.not_lt_zero _)
  |cons z us =>
   cases i with
   |zero=>rfl
   |succ i=>simp only [List.set_cons_succ,List.zip_cons_cons];rw [ih us i (by simpa using hi) (by simpa using hu)]
theorem panC_at {m:MS} {us:List Value} (hl:us.length=m.panics.length)(i j:Nat)(hi:i<m.panics.length)(hj:j<9):(panC m.panics us)[i*9+j]? =(piC m.panics[i] (us[i]'zq90))[j]? :=by
 unfold panC
 rw [flat_at (fun p:PI×Value=>piC p.1 p.2) 9 piC_len _ i j (by rw [List.length_zip];omega) hj,List.getElem_zip]
theorem Rows.setPanic {w:World} {base:Nat} {m:MS} {v:MV} (h:Rows w base m v){g cap:Nat} (hv:v.pa= .slice (some ⟨g,0,none⟩) m.panics.length cap)(i j:Nat)(hi:i<m.panics.length)(hj:j<9)(u:Value)(q':PI)
  (hq: ∀ y,(piC m.panics[i] y).set j u=piC q' y) (hun:q'.unw=m.panics[i].unw):Rows (w.setCell ⟨g,i*9+j,none⟩ u) base { m with panics:=m.panics.set i q' } v:=by
 have hg:=grown_set w g (i*9+j) u
 have hb:v.pa.ownBlock=some g:=by rw [hv];rfl
 rw [← hb] at hg
 have hul:=h.ul
 have ho:=h.pa
 rw [hv] at ho
 have hp:=own_put ho (i*9+j) u
 have hz:i<(m.panics.zip v.unw).length:=by rw [List.length_zip];omega
 have hs:(panC m.panics v.unw).set (i*9+j) u=panC (m.panics.set i q') v.unw:=by
  unfold panC
  rw [flat_set (fun p:PI×Value=>piC p.1 p.2) 9 piC_len (m.panics.zip v.unw) i j hz hj u (q',v.unw[i]'zq90) (by rw [List.getElem_zip];exact hq _),zip_set _ _ _ hi zq90]
 rw [hs] at hp
 exact {
  tr:=h.tr.kept hg (own_type_ne h.tr h.pa zq83)
  ow:=h.ow.kept hg (own_type_ne h.ow h.pa zq83)
  ca:=h.ca.kept hg (own_type_ne h.ca h.pa zq83)
  pa:=by show World.ownsRow _ _ _ _ _ (m.panics.set i q').length _;rw [List.length_set,hv];exact hp
  re:=h.re.kept hg (own_type_ne h.re h.pa zq83)
  ul:=by show _=(m.panics.set i q').length;rw [List.length_set];exact h.ul
  un:=fun k q x hk hx=>by
   have hk':(m.panics.set i q')[k]? =some q:=hk
   rw [List.getElem?_set] at hk'
   by_cases e:i=k
   ·subst e
    rw [if_pos rfl,if_pos hi] at hk'
    injection hk' with hk'
    subst hk'
    rw [hun]
    have h2:=h.un i _ x (List.getElem?_eq_getElem hi) hx
    exact h2.kept hg (own_type_ne h2 h.pa zq83)
   ·rw [if_neg e] at hk'
    have h2:=h.un k q x hk' hx
    exact h2.kept hg (own_type_ne h2 h.pa zq83)
  so:=h.so
  su:=h.su }
theorem Rows.addUnw {w w1:World} {base:Nat} {m:MS} {v:MV} (h:Rows w base m v){g cap:Nat} (hv:v.pa= .slice (some ⟨g,0,none⟩) m.panics.length cap)(i:Nat)(hi:i<m.panics.length)(hiu:i<v.unw.length)(u:Value)(f:Int)
  (hg:w.grownBy w1 v.unw[i].ownBlock) (ho:w1.ownsRow base 3 1 u (m.panics[i].unw.length+1) (nums .i64 m.panics[i].unw++ [.int .i64 f])) (hb:u.ownBlock=v.unw[i].ownBlock∨u.ownBlock=some w.heap.size) :
  Rows (w1.setCell ⟨g,i*9+8,none⟩ u) base { m with panics:=m.panics.set i { m.panics[i] with unw:=m.panics[i].unw++ [f] } } { v with unw:=v.unw.set i u } :=by
 have hui:v.unw[i]? =some v.unw[i]:=List.getElem?_eq_getElem hiu
 have hui0:=h.un i _ _ (List.getElem?_eq_getElem hi) hui
 have tr1:=h.tr.kept hg (own_type_ne h.tr hui0 zq83)
 have ow1:=h.ow.kept hg (h.so i _ hui).symm
 have ca1:=h.ca.kept hg (own_type_ne h.ca hui0 zq83)
 have pa1:=h.pa.kept hg (own_type_ne h.pa hui0 zq83)
 have re1:=h.re.kept hg (own_type_ne h.re hui0 zq83)
 have hg2:=grown_set w1 g (i*9+8) u
 have hb2:v.pa.ownBlock=some g:=by rw [hv];rfl
 rw [← hb2] at hg2
 have ho2:=pa1
 rw [hv] at ho2
 have hp:=own_put ho2 (i*9+8) u
 have hz:i<(m.panics.zip v.unw).length:=by rw [List.length_zip];omega
 have hs:(panC m.panics v.unw).set (i*9+8) u=panC (m.panics.set i { m.panics[i] with unw:=m.panics[i].unw++ [f] }) (v.unw.set i u):=by
  unfold panC
  rw [flat_set (fun p:PI×Value=>piC p.1 p.2) 9 piC_len (m.panics.zip v.unw) i 8 hz zq83 u ({ m.panics[i] with unw:=m.panics[i].unw++ [f] },u) (by rw [List.getElem_zip];rfl),zip_set2 _ _ _ hi hiu]
 rw [hs] at hp
 have newU:(w1.setCell ⟨g,i*9+8,none⟩ u).ownsRow base 3 1 u (m.panics[i].unw++ [f]).length (nums .i64 (m.panics[i].unw++ [f])):=by
  rw [nums_append,len1];exact ho.kept hg2 (own_type_ne ho pa1 zq83)
 exact {
  tr:=tr1.kept hg2 (own_type_ne tr1 pa1 zq83)
  ow:=ow1.kept hg2 (own_type_ne ow1 pa1 zq83)
  ca:=ca1.kept hg2 (own_type_ne ca1 pa1 zq83)
  pa:=by show World.ownsRow _ _ _ _ _ (m.panics.set i _).length _;rw [List.length_set,hv];exact hp
  re:=re1.kept hg2 (own_type_ne re1 pa1 zq83)
  ul:=by show(v.unw.set i u).length=(m.panics.set i _).length;rw [List.length_set,List.length_set];exact h.ul
  un:=fun k q x hk hx=>by
   have hk':(m.panics.set i { m.panics[i] with unw:=m.panics[i].unw++ [f] })[k]? =some q:=hk
   have hx':(v.unw.set i u)[k]? =some x:=hx
   rw [List.getElem?_set] at hk' hx'
   by_cases e:i=k
   ·subst e
    rw [if_pos rfl,if_pos hi] at hk'
    rw [if_pos rfl,if_pos hiu] at hx'
    injection hk' with hk'
    injection hx' with hx'
    subst hk'
    subst hx'
    exact newU
   ·rw [if_neg e] at hk' hx'
    have h2:=(h.un k q x hk' hx').kept hg (h.su k i _ _ (fun e'=>e e'.symm) hx' hui)
    exact h2.kept hg2 (own_type_ne h2 pa1 zq83)
  so:=fun k x hx=>by
   have hx':(v.unw.set i u)[k]? =some x:=hx
   rw [List.getElem?_set] at hx'
   by_cases e:i=k
   ·subst e
    rw [if_pos rfl,if_pos hiu] at hx'
    injection hx' with hx'
    subst hx'
    exact(Apart.grown h.ow (h.so i _ hui).symm hb).symm
   ·rw [if_neg e] at hx'
    exact h.so k x hx'
  su:=fun j k x y hjk hx hy=>by
   have hx':(v.unw.set i u)[j]? =some x:=hx
   have hy':(v.unw.set i u)[k]? =some y:=hy
   rw [List.getElem?_set] at hx' hy'
   by_cases ej:i=j
   ·subst ej
    rw [if_pos rfl,if_pos hiu] at hx'
    injection hx' with hx'
    subst hx'
    rw [if_neg hjk] at hy'
    obtain⟨q,_,hq⟩:=h.unw_at hy'
    exact(Apart.grown hq (h.su k i _ _ (fun e=>hjk e.symm) hy' hui) hb).symm
   ·rw [if_neg ej] at hx'
    by_cases ek:i=k
    ·subst ek
     rw [if_pos rfl,if_pos hiu] at hy'
     injection hy' with hy'
     subst hy'
     obtain⟨q,_,hq⟩:=h.unw_at hx'
     exact Apart.grown hq (h.su j i _ _ hjk hx' hui) hb
    ·rw [if_neg ek] at hy'
     exact h.su j k x y hjk hx' hy' }
theorem zip_snoc {α β:Type} (l:List α)(us:List β)(h:us.length=l.length)(q:α)(y:β):(l++ [q]).zip (us++ [y])=l.zip us++ [(q,y)]:=by
 rw [List.zip_append h.symm];rfl
theorem Rows.addPanic {w w':World} {base:Nat} {m:MS} {v:MV} (h:Rows w base m v){t:Value} {q:PI} (hq:q.unw= [])(hg:w.grownBy w' v.pa.ownBlock)(ho:w'.ownsRow base 225 9 t (m.panics.length+1) (panC m.panics v.unw++piC q (.slice none 0 0))) :
  Rows w' base { m with panics:=m.panics++ [q] } { v with pa:=t,unw:=v.unw++ [.slice none 0 0] } :=
 {tr:=h.tr.kept hg (own_type_ne h.tr h.pa zq83)
  ow:=h.ow.kept hg (own_type_ne h.ow h.pa zq83)
  ca:=h.ca.kept hg (own_type_ne h.ca h.pa zq83)
  pa:=by
   show World.ownsRow _ _ _ _ _ (m.panics++ [q]).length (panC (m.panics++ [q]) (v.unw++ [.slice none 0 0]))
   have:panC (m.panics++ [q]) (v.unw++ [.slice none 0 0])=panC m.panics v.unw++piC q (.slice none 0 0):=by
    unfold panC;rw [zip_snoc _ _ h.ul,flat1]
   rw [this,len1];exact ho
  re:=h.re.kept hg (own_type_ne h.re h.pa zq83)
  ul:=by show(v.unw++ [_]).length=(m.panics++ [_]).length;rw [len1,len1,h.ul]
  un:=fun k q' x hk hx=>by
   have hk':(m.panics++ [q])[k]? =some q':=hk
   have hx':(v.unw++ [Value.slice none 0 0])[k]? =some x:=hx
   by_cases e:k<m.panics.length
   ·rw [List.getElem?_append_left e] at hk'
    rw [List.getElem?_append_left (by rw [h.ul];exact e)] at hx'
    have h2:=h.un k q' x hk' hx'
    exact h2.kept hg (own_type_ne h2 h.pa zq83)
   ·rw [List.getElem?_append_right zq90] at hk'
    rw [List.getElem?_append_right (by rw [h.ul];omega)] at hx'
    rw [List.getElem?_singleton] at hk' hx'
    split at hk'
    ·split at hx'
     ·injection hk' with hk'
      injection hx' with hx'
      subst hk'
      subst hx'
      rw [hq]
      exact own_nil _ _ _ _
     ·cases hx'
    ·cases hk'
  so:=fun k x hx=>by
   have hx':(v.unw++ [Value.slice none 0 0])[k]? =some x:=hx
   by_cases e:k<v.unw.length
   ·rw [List.getElem?_append_left e] at hx'
    exact h.so k x hx'
   ·rw [List.getElem?_append_right zq90,List.getElem?_singleton] at hx'
    split at hx'
    ·injection hx' with hx'
     subst hx'
     exact .inl rfl
    ·cases hx'
  su:=fun j k x y hjk hx hy=>by
   have hx':(v.unw++ [Value.slice none 0 0])[j]? =some x:=hx
   have hy':(v.unw++ [Value.slice none 0 0])[k]? =some y:=hy
   by_cases ej:j<v.unw.length
   ·rw [List.getElem?_append_left ej] at hx'
    by_cases ek:k<v.unw.length
    ·rw [List.getElem?_append_left ek] at hy'
     exact h.su j k x y hjk hx' hy'
    ·rw [List.getElem?_append_right zq90,List.getElem?_singleton] at hy'
     split at hy'
     ·injection hy' with hy'
      subst hy'
      exact Apart.symm (.inl rfl)
     ·cases hy'
   ·rw [List.getElem?_append_right zq90,List.getElem?_singleton] at hx'
    split at hx'
    ·injection hx' with hx'
     subst hx'
     exact .inl rfl
    ·cases hx' }
end Go.Proofs.Yteiafboknimgbaa.Pr.M
end
