import Derived.Test.YteiafboknimgbaaMa23
import Derived.ChangeSame
import Derived.ChangeSlices
import Derived.Deep.Strs
set_option maxHeartbeats 8000000
set_option maxRecDepth 100000
set_option linter.unusedVariables false
set_option linter.unusedSimpArgs false
section
set_option linter.unusedVariables false
set_option linter.unusedSimpArgs false
namespace Go.Proofs.Yteiafboknimgbaa.PureL
open Go.RowKit Go.Proofs.Yteiafboknimgbaa.Pr Go.Proofs.W.PrintWords Go.Proofs.W.PrintLast
theorem wrap_in {i:Int} (h0: -9223372036854775808≤i)(h1:i≤9223372036854775807):wrap64 i=i:=by unfold wrap64;omega
def to72(s:S295):S219:=⟨s.f0,s.f1,s.f2⟩
def total {α:Type} (l:List (List α)):Nat:=(l.map List.length).sum
theorem rd2_at(l:List (List S295))(i:Nat)(h:i<l.length):rd_L2 l (i:Int)=l[i]:=by unfold rd_L2;rw [Int.toNat_natCast,List.getD_eq_getElem?_getD,List.getElem?_eq_getElem h];rfl
theorem rd4_at(l:List (List S219))(i:Nat)(h:i<l.length):rd_L4 l (i:Int)=l[i]:=by unfold rd_L4;rw [Int.toNat_natCast,List.getD_eq_getElem?_getD,List.getElem?_eq_getElem h];rfl
theorem rd69_at(l:List S295)(i:Nat)(h:i<l.length):rd_T295 l (i:Int)=l[i]:=by unfold rd_T295;rw [Int.toNat_natCast,List.getD_eq_getElem?_getD,List.getElem?_eq_getElem h];rfl
theorem rd72_at(l:List S219)(i:Nat)(h:i<l.length):rd_T219 l (i:Int)=l[i]:=by unfold rd_T219;rw [Int.toNat_natCast,List.getD_eq_getElem?_getD,List.getElem?_eq_getElem h];rfl
theorem szSS_l(l:List (List S295))(hb: ∀ b∈l,b.length≤9223372036854775807)(hl:l.length≤9223372036854775807): ∀ (d i:Nat)(a:Int),d+i=l.length→0≤a→a≤1048576 →
  ∃ r,(∀ k,d<k→laws_szStepSS.l0 k l a i=some r)∧(0≤r→(total (l.drop i):Int)≤a∧r≤a):=by
 intro d
 induction d with
 |zero =>
  intro i a hd h0 h1
  refine⟨a,fun k hk=> ?_,fun _=>⟨?_,Int.le_refl _⟩⟩
  ·obtain⟨k,rfl⟩: ∃ z,k=z+1:=⟨k-1,by omega⟩
   rw [laws_szStepSS.l0,if_neg (by omega)]
  ·rw [List.drop_eq_nil_of_le (by omega)];simp [total];omega
 |succ d ih =>
  intro i a hd h0 h1
  have hi:i<l.length:=by omega
  have hbi:=hb _ (List.getElem_mem hi)
  have hdrop:l.drop i=l[i]::l.drop (i+1):=List.drop_eq_getElem_cons hi
  have hw:wrap64 (a-(l[i].length:Int))=a-(l[i].length:Int):=wrap_in (by omega) (by omega)
  by_cases hc:a-(l[i].length:Int)<0
  ·refine⟨-1,fun k hk=> ?_,fun h=>absurd h (by omega)⟩
   obtain⟨k,rfl⟩: ∃ z,k=z+1:=⟨k-1,by omega⟩
   rw [laws_szStepSS.l0,if_pos (by omega),if_pos (by omega),rd2_at l i hi,laws_szStepS.f,hw,if_pos hc,Option.bind_some,if_pos (by omega)]
  ·obtain⟨r,h2,h3⟩:=ih (i+1) (a-(l[i].length:Int)) (by omega) (by omega) (by omega)
   refine⟨r,fun k hk=> ?_,fun h=> ?_⟩
   ·obtain⟨k,rfl⟩: ∃ z,k=z+1:=⟨k-1,by omega⟩
    rw [laws_szStepSS.l0,if_pos (by omega),if_pos (by omega),rd2_at l i hi,laws_szStepS.f,hw,if_neg hc,Option.bind_some,if_neg hc,wrap_in (by omega) (by omega)]
    exact h2 k (by omega)
   ·obtain⟨this,h5⟩:=h3 h
    refine⟨?_,by omega⟩
    rw [hdrop]
    simp only [total,List.map_cons,List.sum_cons] at this ⊢
    omega
theorem szProgram_ok(l:List (List S295))(hb: ∀ b∈l,b.length≤9223372036854775807)(hl:l.length≤9223372036854775807) :
  ∃ r,(∀ k,l.length+1<k→laws_szProgram.f k l 1048576=some r)∧(0≤r→l.length+total l≤1048576∧r≤1048576):=by
 have hw:wrap64 (1048576-(l.length:Int))=1048576-(l.length:Int):=wrap_in (by omega) (by omega)
 by_cases hc:1048576-(l.length:Int)<0
 ·refine⟨-1,fun k hk=> ?_,fun h=>absurd h (by omega)⟩
  unfold laws_szProgram.f laws_szStepSS.f
  rw [hw,if_pos hc,Option.bind_some,if_pos (by omega)]
 ·obtain⟨r,h2,h3⟩:=szSS_l l hb hl l.length 0 (1048576-(l.length:Int)) (by omega) (by omega) (by omega)
  by_cases hr:r<0
  ·refine⟨-1,fun k hk=> ?_,fun h=>absurd h (by omega)⟩
   unfold laws_szProgram.f laws_szStepSS.f
   have:=h2 k (by omega)
   rw [Int.natCast_zero] at this
   rw [hw,if_neg hc,this,Option.bind_some,if_pos hr]
  ·refine⟨r,fun k hk=> ?_,fun h=> ?_⟩
   ·unfold laws_szProgram.f laws_szStepSS.f
    have:=h2 k (by omega)
    rw [Int.natCast_zero] at this
    rw [hw,if_neg hc,this,Option.bind_some,if_neg hr]
   ·obtain⟨this,h5⟩:=h3 h
    rw [List.drop_zero] at this
    exact⟨by omega,by omega⟩
theorem toStepS_l(l:List S295)(hl:l.length≤1048576): ∀ (d i:Nat),d+i=l.length→ ∀ k,d<k→laws_toStepS.l0 k l ((l.map to72).take i++List.replicate d z219) i=some (l.map to72):=by
 intro d
 induction d with
 |zero =>
  intro i hd k hk
  obtain⟨k,rfl⟩: ∃ z,k=z+1:=⟨k-1,by omega⟩
  rw [laws_toStepS.l0,if_neg (by omega),List.take_of_length_le (by simp;omega)]
  simp
 |succ d ih =>
  intro i hd k hk
  obtain⟨k,rfl⟩: ∃ z,k=z+1:=⟨k-1,by omega⟩
  have hi:i<l.length:=by omega
  have hlen:((l.map to72).take i++List.replicate (d+1) z219).length=l.length:=by simp;omega
  have htl:((l.map to72).take i).length=i:=by simp;omega
  rw [laws_toStepS.l0,if_pos (by omega),if_pos (by omega),rd69_at l i hi,laws_toStep.f,Option.bind_some,if_pos (by rw [hlen];omega),wrap_in (by omega) (by omega),Int.toNat_natCast]
  have hset:((l.map to72).take i++List.replicate (d+1) z219).set i (to72 l[i])=(l.map to72).take (i+1)++List.replicate d z219:=by
   rw [List.set_append_right _ _ (by omega),htl,Nat.sub_self,List.replicate_succ,List.set_cons_zero,List.take_add_one,List.getElem?_map,List.getElem?_eq_getElem hi]
   simp
  exact(congrArg (fun z=>laws_toStepS.l0 k l z ((i:Int)+1)) hset).trans (by exact_mod_cast ih (i+1) (by omega) k (by omega))
theorem toStepS_ok(l:List S295)(hl:l.length≤1048576)(k:Nat)(hk:1048577<k):laws_toStepS.f k l=some (l.map to72):=by
 unfold laws_toStepS.f
 rw [if_pos (by omega),if_pos (by omega),Int.toNat_natCast]
 have:=toStepS_l l hl l.length 0 (by omega) k (by omega)
 simpa using this
def toP(l:List (List S295)):List (List S219):=l.map (·.map to72)
theorem toStepSS_l(l:List (List S295))(hl:l.length≤1048576)(hb: ∀ b∈l,b.length≤1048576): ∀ (d i:Nat),d+i=l.length→ ∀ k,1048577+d<k→laws_toStepSS.l0 k l ((toP l).take i++List.replicate d []) i=some (toP l):=by
 intro d
 induction d with
 |zero =>
  intro i hd k hk
  obtain⟨k,rfl⟩: ∃ z,k=z+1:=⟨k-1,by omega⟩
  rw [laws_toStepSS.l0,if_neg (by omega),List.take_of_length_le (by simp [toP];omega)]
  simp
 |succ d ih =>
  intro i hd k hk
  obtain⟨k,rfl⟩: ∃ z,k=z+1:=⟨k-1,by omega⟩
  have hi:i<l.length:=by omega
  have hlen:((toP l).take i++List.replicate (d+1) []).length=l.length:=by simp [toP];omega
  have htl:((toP l).take i).length=i:=by simp [toP];omega
  rw [laws_toStepSS.l0,if_pos (by omega),if_pos (by omega),rd2_at l i hi,toStepS_ok _ (hb _ (List.getElem_mem hi)) k (by omega),Option.bind_some,if_pos (by rw [hlen];omega),wrap_in (by omega) (by omega),Int.toNat_natCast]
  have hset:((toP l).take i++List.replicate (d+1) []).set i (l[i].map to72)=(toP l).take (i+1)++List.replicate d []:=by
   rw [List.set_append_right _ _ (by omega),htl,Nat.sub_self,List.replicate_succ,List.set_cons_zero,List.take_add_one]
   have:(toP l)[i]? =some (l[i].map to72):=by unfold toP;rw [List.getElem?_map,List.getElem?_eq_getElem hi];rfl
   rw [this]
   simp
  exact(congrArg (fun z=>laws_toStepSS.l0 k l z ((i:Int)+1)) hset).trans (by exact_mod_cast ih (i+1) (by omega) k (by omega))
theorem toProgram_ok(l:List (List S295))(hl:l.length≤1048576)(hb: ∀ b∈l,b.length≤1048576)(k:Nat)(hk:2097154<k):laws_toProgram.f k l=some (toP l):=by
 unfold laws_toProgram.f laws_toStepSS.f
 rw [if_pos (by omega),if_pos (by omega),Int.toNat_natCast]
 have:=toStepSS_l l hl hb l.length 0 (by omega) k (by omega)
 simp only [List.take_zero,List.nil_append,Int.natCast_zero] at this
 rw [this,Option.bind_some]
theorem eqStepS_l(l:List S219)(hl:l.length≤1048576): ∀ (d i:Nat),d+i=l.length→ ∀ k,d<k→laws_eqStepS.l0 k l l i=some true:=by
 intro d
 induction d with
 |zero =>
  intro i hd k hk
  obtain⟨k,rfl⟩: ∃ z,k=z+1:=⟨k-1,by omega⟩
  rw [laws_eqStepS.l0,if_neg (by omega)]
 |succ d ih =>
  intro i hd k hk
  obtain⟨k,rfl⟩: ∃ z,k=z+1:=⟨k-1,by omega⟩
  rw [laws_eqStepS.l0,if_pos (by omega),if_pos (by omega),if_pos (by omega),laws_eqStep.f,if_pos rfl,if_pos rfl,if_pos rfl,Option.bind_some,if_pos rfl,wrap_in (by omega) (by omega)]
  exact_mod_cast ih (i+1) (by omega) k (by omega)
theorem eqStepSS_l(l:List (List S219))(hl:l.length≤1048576)(hb: ∀ b∈l,b.length≤1048576): ∀ (d i:Nat),d+i=l.length→ ∀ k,1048577+d<k→laws_eqStepSS.l0 k l l i=some true:=by
 intro d
 induction d with
 |zero =>
  intro i hd k hk
  obtain⟨k,rfl⟩: ∃ z,k=z+1:=⟨k-1,by omega⟩
  rw [laws_eqStepSS.l0,if_neg (by omega)]
 |succ d ih =>
  intro i hd k hk
  obtain⟨k,rfl⟩: ∃ z,k=z+1:=⟨k-1,by omega⟩
  have hi:i<l.length:=by omega
  have hbi:=hb _ (List.getElem_mem hi)
  have h1:=eqStepS_l l[i] hbi l[i].length 0 (by omega) k (by omega)
  rw [Int.natCast_zero] at h1
  rw [laws_eqStepSS.l0,if_pos (by omega),if_pos (by omega),if_pos (by omega),rd4_at l i hi,laws_eqStepS.f,if_pos rfl,h1,Option.bind_some,if_pos rfl,wrap_in (by omega) (by omega)]
  exact_mod_cast ih (i+1) (by omega) k (by omega)
theorem eqProgram_ok(l:List (List S219))(hl:l.length≤1048576)(hb: ∀ b∈l,b.length≤1048576)(k:Nat)(hk:2097154<k):laws_eqProgram.f k l l=some true:=by
 unfold laws_eqProgram.f laws_eqStepSS.f
 have:=eqStepSS_l l hl hb l.length 0 (by omega) k (by omega)
 rw [Int.natCast_zero] at this
 rw [if_pos rfl,this,Option.bind_some,if_pos rfl]
theorem total_cons {α:Type} (b:List α)(l:List (List α)):total (b::l)=b.length+total l:=by simp [total]
theorem sin_eq(a b c:Int):spec_l1In.f a b c=some (decide (b≤a∧a≤c)):=by
 unfold spec_l1In.f
 by_cases h:a≥b
 ·rw [if_pos h];simp [show b≤a from h]
 ·rw [if_neg h];simp [show ¬ b≤a from h]
theorem sStep_eq(l:List (List S219))(s:S219)(hl:l.length≤6)(k:Nat)(hk:2<k):spec_l2Step.f k l s.f0 s.f1 s.f2=some (stepOk (l.length:Int) s):=by
 obtain⟨a,b,c⟩:=s
 obtain⟨k,rfl⟩: ∃ z,k=z+1:=⟨k-1,by omega⟩
 obtain⟨k,rfl⟩: ∃ z,k=z+1:=⟨k-1,by omega⟩
 have hw:wrap64 ((l.length:Int)-1)=(l.length:Int)-1:=wrap_in (by omega) (by omega)
 simp only [stepOk,spec_l2Step.f,spec_l2Step.j0,spec_l2Step.j1,spec_l2Reg.f,spec_l2Number.f,spec_l2Function.f,sin_eq,Option.bind_some,hw]
 generalize (l.length:Int)=n
 by_cases k1:a=1
 ·subst k1
  rw [if_pos rfl]
  by_cases hb:0≤b∧b≤3<;>by_cases hc: -32768≤c∧c≤32767<;>simp [hb,hc]
 rw [if_neg k1]
 by_cases k2:a=2
 ·subst k2
  rw [if_pos rfl]
  by_cases hb:0≤b∧b≤3<;>by_cases hc:0≤c∧c≤3<;>simp [hb,hc]
 rw [if_neg k2]
 by_cases k4:a=4
 ·subst k4
  rw [if_pos rfl]
  by_cases hb:0≤b∧b≤n-1<;>by_cases hc:0≤c∧c≤3<;>simp [hb,hc]
 rw [if_neg k4]
 by_cases k5:a=5
 ·subst k5
  by_cases hb:0≤b∧b≤n-1<;>by_cases hc:0≤c∧c≤3<;>simp [hb,hc]
 have e5:(a==5)=false:=by simp [k5]
 rw [e5,if_neg (by simp)]
 by_cases k10:a=10
 ·subst k10
  by_cases hb:b=0<;>by_cases hc:c=0<;>simp [hb,hc]
 by_cases k11:a=11
 ·subst k11
  by_cases hb:0≤b∧b≤8<;>by_cases hc:0≤c∧c≤3<;>simp [hb,hc]
 by_cases hb:0≤b∧b≤3<;>by_cases hc:c=0<;>by_cases k3:a=3<;>by_cases k6:a=6<;>by_cases k7:a=7<;>by_cases k8:a=8<;>by_cases k9:a=9<;>by_cases k12:a=12<;>by_cases k13:a=13<;>simp_all
 all_goals(have hq: ¬(0≤b∧b≤3):=fun h=>by have:=hb h.1;omega)
 all_goals(rw [if_neg hq,←Bool.decide_and,decide_eq_false hq])
theorem prog_l1(l:List (List S219))(hl:l.length≤6)(i:Nat)(hi:i<l.length)(hb:l[i].length≤8): ∀ (d j:Nat),d+j=l[i].length→ ∀ k,10+d<k →
  ∃ k',k≤k'+d+1∧spec_l2Program.l1 k i j l=if((l[i].drop j).all (stepOk (l.length:Int)))=true then spec_l2Program.l0 k' ((i+1:Nat):Int) l else some false:=by
 intro d
 induction d with
 |zero =>
  intro j hd k hk
  obtain⟨k,rfl⟩: ∃ z,k=z+1:=⟨k-1,by omega⟩
  refine⟨k,by omega,?_⟩
  rw [spec_l2Program.l1,if_pos (by omega),if_pos (by omega),rd4_at l i hi,if_neg (by omega),wrap_in (by omega) (by omega),List.drop_eq_nil_of_le (by omega)]
  simp
 |succ d ih =>
  intro j hd k hk
  obtain⟨k,rfl⟩: ∃ z,k=z+1:=⟨k-1,by omega⟩
  have hj:j<l[i].length:=by omega
  obtain⟨k',h1,h2⟩:=ih (j+1) (by omega) k (by omega)
  have hdrop:l[i].drop j=l[i][j]::l[i].drop (j+1):=List.drop_eq_getElem_cons hj
  refine⟨k',by omega,?_⟩
  rw [spec_l2Program.l1,if_pos (by omega),if_pos (by omega),rd4_at l i hi,if_pos (by omega),if_pos (by omega),rd72_at _ j hj,sStep_eq l l[i][j] hl k (by omega),Option.bind_some,wrap_in (by omega) (by omega),hdrop]
  cases hs:stepOk (l.length:Int) l[i][j] with
  |true =>
   rw [if_pos rfl,List.all_cons,hs,Bool.true_and]
   exact_mod_cast h2
  |false =>
   rw [if_neg (by simp),List.all_cons,hs,Bool.false_and,if_neg (by simp)]
theorem prog_l0(l:List (List S219))(hl:l.length≤6): ∀ (d i:Nat),d+i=l.length→ ∀ k,100*d+20<k→spec_l2Program.l0 k i l=some ((l.drop i).all (bodyOk (l.length:Int))):=by
 intro d
 induction d with
 |zero =>
  intro i hd k hk
  obtain⟨k,rfl⟩: ∃ z,k=z+1:=⟨k-1,by omega⟩
  rw [spec_l2Program.l0,if_neg (by omega),List.drop_eq_nil_of_le (by omega)]
  rfl
 |succ d ih =>
  intro i hd k hk
  obtain⟨k,rfl⟩: ∃ z,k=z+1:=⟨k-1,by omega⟩
  have hi:i<l.length:=by omega
  have hdrop:l.drop i=l[i]::l.drop (i+1):=List.drop_eq_getElem_cons hi
  rw [spec_l2Program.l0,if_pos (by omega),if_pos (by omega),rd4_at l i hi,hdrop,List.all_cons]
  by_cases h8:l[i].length≤8
  ·obtain⟨k',h1,h2⟩:=prog_l1 l hl i hi h8 l[i].length 0 (by omega) k (by omega)
   rw [Int.natCast_zero,List.drop_zero] at h2
   have hk:bodyOk (l.length:Int) l[i]=l[i].all (stepOk (l.length:Int)):=by unfold bodyOk;rw [decide_eq_true h8,Bool.true_and]
   rw [if_neg (by omega),h2,hk]
   cases ha:l[i].all (stepOk (l.length:Int)) with
   |true=>rw [if_pos rfl,Bool.true_and];exact ih (i+1) (by omega) k' (by omega)
   |false=>rw [if_neg (by simp),Bool.false_and]
  ·have hk:bodyOk (l.length:Int) l[i]=false:=by unfold bodyOk;rw [decide_eq_false h8,Bool.false_and]
   rw [if_pos (by omega),hk,Bool.false_and]
theorem program_ok(l:List (List S219))(k:Nat)(hk:1000<k):spec_l2Program.f k l=some (progOk l):=by
 unfold spec_l2Program.f progOk
 rw [sin_eq,Option.bind_some]
 by_cases h:1≤l.length∧l.length≤6
 ·have:=prog_l0 l h.2 l.length 0 (by omega) k (by omega)
  rw [Int.natCast_zero,List.drop_zero] at this
  rw [decide_eq_true (by omega),if_pos rfl,this,decide_eq_true h.1,decide_eq_true h.2]
  rfl
 ·rw [decide_eq_false (by omega),if_neg (by simp)]
  by_cases h1:1≤l.length
  ·rw [decide_eq_false (show ¬ l.length≤6 by omega)];simp
  ·rw [decide_eq_false h1];simp
theorem total_toP(l:List (List S295)):total (toP l)=total l:=by
 unfold total toP
 rw [List.map_map]
 congr 1
 apply List.map_congr_left
 intro b _
 simp
theorem mem_total {α:Type} : ∀ (l:List (List α))(b:List α),b∈l→b.length≤total l:=by
 intro l
 induction l with
 |nil=>intro b h;cases h
 |cons c l ih =>
  intro b h
  rw [total_cons]
  rcases List.mem_cons.1 h with h|h
  ·subst h;omega
  ·have:=ih b h;omega
end Go.Proofs.Yteiafboknimgbaa.PureL
end

section
set_option linter.unusedVariables false
set_option linter.unusedSimpArgs false
namespace Go.Proofs.Yteiafboknimgbaa.PureL
open Go.RowKit Go.Proofs.Yteiafboknimgbaa.Pr Go.Proofs.W.PrintWords Go.Proofs.W.PrintLast
def mk3:Int→Nat→List S219
 |_,0=> []
 |a,n+1=>⟨a,a+1,a+2⟩::mk3 (a+3) n
def marks:Int→List (List S219)→List (List S219)
 |_,[]=> []
 |a,b::l=>mk3 a b.length::marks (a+3*b.length) l
theorem rd72_mid(d t:List S219)(s:S219):rd_T219 (d++s::t) (d.length:Int)=s:=by rw [rd72_at _ _ (by simp)];simp
theorem set_mid {α:Type} (d t:List α)(s v:α):(d++s::t).set d.length v=d++v::t:=by rw [List.set_append_right _ _ (Nat.le_refl _),Nat.sub_self,List.set_cons_zero]
theorem markStepS_l: ∀ (t d:List S219)(a:Int),0≤a→a+3*t.length≤1000000000→d.length+t.length≤100000000→ ∀ k,t.length<k→laws_markStepS.l0 k (d++t) a d.length=some (a+3*t.length,d++mk3 a t.length):=by
 intro t
 induction t with
 |nil =>
  intro d a h0 h1 h2 k hk
  obtain⟨k,rfl⟩: ∃ z,k=z+1:=⟨k-1,by omega⟩
  rw [laws_markStepS.l0,if_neg (by simp)]
  simp [mk3]
 |cons s t ih =>
  intro d a h0 h1 h2 k hk
  simp only [List.length_cons] at h1 h2 hk
  obtain⟨k,rfl⟩: ∃ z,k=z+1:=⟨k-1,by omega⟩
  rw [laws_markStepS.l0,if_pos (by simp;omega),if_pos (by omega),Option.bind_some]
  simp only [Int.toNat_natCast,set_mid,Option.bind_some,rd72_mid]
  rw [wrap_in (i:=a+1) (by omega) (by omega),wrap_in (i:=a+1+1) (by omega) (by omega),wrap_in (i:=a+1+1+1) (by omega) (by omega),wrap_in (i:=(d.length:Int)+1) (by omega) (by omega)]
  have h:=ih (d++ [⟨a,a+1,a+2⟩]) (a+3) (by omega) (by push_cast at h1 ⊢;omega) (by simp;omega) k (by omega)
  simp only [List.append_assoc,List.singleton_append,List.length_append,List.length_singleton] at h
  have e1:a+1+1=a+2:=by omega
  have e2:a+1+1+1=a+3:=by omega
  rw [e2,e1]
  push_cast at h ⊢
  rw [h]
  simp only [List.length_cons,mk3]
  congr 2
  push_cast
  omega
theorem markSS_g(k:Nat)(hk:10000000<k): ∀ (l:List (List S219))(a:Int),0≤a→a+3*total l≤1000000000→total l≤2000000→laws_markStepSS.g k l a=some (a+3*total l,marks a l):=by
 intro l
 induction l with
 |nil=>intro a _ _ _;simp [laws_markStepSS.g,marks,total]
 |cons b l ih =>
  intro a h0 h1 h2
  rw [total_cons] at h1 h2
  have h:=markStepS_l b [] a h0 (by push_cast at h1 ⊢;omega) (by simp;omega) k (by omega)
  simp only [List.nil_append,List.length_nil,Int.natCast_zero] at h
  rw [laws_markStepSS.g,laws_markStepS.f,h,Option.bind_some]
  dsimp only
  rw [ih (a+3*b.length) (by omega) (by push_cast at h1 ⊢;omega) (by omega),Option.bind_some,marks,total_cons]
  dsimp only
  congr 2
  push_cast
  omega
theorem mark_ok(l:List (List S219))(h:total l≤1048576)(k:Nat)(hk:20000000<k):laws_markStepSS.f k l 1=some (1+3*(total l:Int),marks 1 l):=markSS_g k (by omega) l 1 (by omega) (by omega) (by omega)
theorem prog_facts(l0:List (List S295))(hb: ∀ b∈l0,b.length≤9223372036854775807)(hl:l0.length≤9223372036854775807): ∃ (sz:Int)(k:Nat),30000000<k∧laws_szProgram.f k l0 1048576=some sz ∧
  (0≤sz→laws_toProgram.f k l0=some (toP l0)∧laws_eqProgram.f k (toP l0) (toP l0)=some true∧laws_markStepSS.f k (toP l0) 1=some (1+3*(total (toP l0):Int),marks 1 (toP l0))∧(toP l0).length≤1048576∧(∀ b∈toP l0,b.length≤1048576)):=by
 obtain⟨sz,h1,h2⟩:=szProgram_ok l0 hb hl
 obtain⟨k,hk⟩: ∃ k,30000000+l0.length<k:=⟨_,Nat.lt_succ_self _⟩
 refine⟨sz,k,by omega,h1 k (by omega),fun h0=> ?_⟩
 have hs:=h2 (by omega)
 have hb2: ∀ b∈l0,b.length≤1048576:=fun b hb=>by have:=mem_total l0 b hb;omega
 have hpl:(toP l0).length≤1048576:=by unfold toP;rw [List.length_map];omega
 have htp:total (toP l0)≤1048576:=by rw [total_toP];omega
 have hpb: ∀ b∈toP l0,b.length≤1048576:=fun b hb=>by have:=mem_total _ b hb;omega
 exact⟨toProgram_ok l0 (by omega) hb2 k (by omega),eqProgram_ok _ hpl hpb k (by omega),mark_ok _ htp k (by omega),hpl,hpb⟩
end Go.Proofs.Yteiafboknimgbaa.PureL
end

section
set_option linter.unusedVariables false
set_option linter.unusedSimpArgs false
namespace Go.Proofs.Yteiafboknimgbaa.PureL
open Go.RowKit Go.Proofs.Yteiafboknimgbaa.Pr Go.Proofs.W.PrintWords Go.Proofs.W.PrintLast
def mkE:Int→Nat→List S63
 |_,0=> []
 |a,n+1=>⟨a,a+1,a+2⟩::mkE (a+3) n
theorem mkE_length: ∀ (n:Nat)(a:Int),(mkE a n).length=n
 |0,_=>rfl
 |n+1,a=>by rw [mkE,List.length_cons,mkE_length n]
theorem rdE_at(l:List S63)(i:Nat)(h:i<l.length):rd_T63 l (i:Int)=l[i]:=by unfold rd_T63;rw [Int.toNat_natCast,List.getD_eq_getElem?_getD,List.getElem?_eq_getElem h];rfl
theorem rdE_mid(d t:List S63)(s:S63):rd_T63 (d++s::t) (d.length:Int)=s:=by rw [rdE_at _ _ (by simp)];simp
theorem setE_mid {α:Type} (d t:List α)(s v:α):(d++s::t).set d.length v=d++v::t:=by rw [List.set_append_right _ _ (Nat.le_refl _),Nat.sub_self,List.set_cons_zero]
theorem eqEventS_l(l:List S63)(hl:l.length≤1048576): ∀ (d i:Nat),d+i=l.length→ ∀ k,d<k→laws_eqEventS.l0 k l l i=some true:=by
 intro d
 induction d with
 |zero =>
  intro i hd k hk
  obtain⟨k,rfl⟩: ∃ z,k=z+1:=⟨k-1,by omega⟩
  rw [laws_eqEventS.l0,if_neg (by omega)]
 |succ d ih =>
  intro i hd k hk
  obtain⟨k,rfl⟩: ∃ z,k=z+1:=⟨k-1,by omega⟩
  rw [laws_eqEventS.l0,if_pos (by omega),if_pos (by omega),if_pos (by omega),laws_eqEvent.f,if_pos rfl,if_pos rfl,if_pos rfl,Option.bind_some,if_pos rfl,wrap_in (by omega) (by omega)]
  exact_mod_cast ih (i+1) (by omega) k (by omega)
theorem eqEventS_ok(l:List S63)(hl:l.length≤1048576)(k:Nat)(hk:1048577<k):laws_eqEventS.f k l l=some true:=by
 unfold laws_eqEventS.f
 have:=eqEventS_l l hl l.length 0 (by omega) k (by omega)
 rw [Int.natCast_zero] at this
 rw [if_pos rfl,this]
theorem eqOutcome_ok(a b s:Int)(l:List S63)(hl:l.length≤1048576)(k:Nat)(hk:1048577<k):laws_eqOutcome.f k a b l s a b l s=some true:=by
 unfold laws_eqOutcome.f
 rw [if_pos rfl,if_pos rfl,eqEventS_ok l hl k hk,Option.bind_some,if_pos rfl,if_pos rfl]
theorem markEventS_l: ∀ (t d:List S63)(a:Int),0≤a→a+3*t.length≤1000000000→d.length+t.length≤100000000→ ∀ k,t.length<k→laws_markEventS.l0 k (d++t) a d.length=some (a+3*t.length,d++mkE a t.length):=by
 intro t
 induction t with
 |nil =>
  intro d a h0 h1 h2 k hk
  obtain⟨k,rfl⟩: ∃ z,k=z+1:=⟨k-1,by omega⟩
  rw [laws_markEventS.l0,if_neg (by simp)]
  simp [mkE]
 |cons s t ih =>
  intro d a h0 h1 h2 k hk
  simp only [List.length_cons] at h1 h2 hk
  obtain⟨k,rfl⟩: ∃ z,k=z+1:=⟨k-1,by omega⟩
  rw [laws_markEventS.l0,if_pos (by simp;omega),if_pos (by omega),Option.bind_some]
  simp only [Int.toNat_natCast,setE_mid,Option.bind_some,rdE_mid]
  rw [wrap_in (i:=a+1) (by omega) (by omega),wrap_in (i:=a+1+1) (by omega) (by omega),wrap_in (i:=a+1+1+1) (by omega) (by omega),wrap_in (i:=(d.length:Int)+1) (by omega) (by omega)]
  have h:=ih (d++ [⟨a,a+1,a+2⟩]) (a+3) (by omega) (by push_cast at h1 ⊢;omega) (by simp;omega) k (by omega)
  simp only [List.append_assoc,List.singleton_append,List.length_append,List.length_singleton] at h
  have e1:a+1+1=a+2:=by omega
  have e2:a+1+1+1=a+3:=by omega
  rw [e2,e1]
  push_cast at h ⊢
  rw [h]
  simp only [List.length_cons,mkE]
  congr 2
  push_cast
  omega
theorem heldEventS_l: ∀ (n:Nat)(d:List S63)(a:Int),0≤a→a+3*n≤1000000000→d.length+n≤100000000→ ∀ k,n<k→laws_heldEventS.l0 k (d++mkE a n) a d.length=some (a+3*n):=by
 intro n
 induction n with
 |zero =>
  intro d a h0 h1 h2 k hk
  obtain⟨k,rfl⟩: ∃ z,k=z+1:=⟨k-1,by omega⟩
  rw [laws_heldEventS.l0,if_neg (by simp [mkE])]
  simp
 |succ n ih =>
  intro d a h0 h1 h2 k hk
  obtain⟨k,rfl⟩: ∃ z,k=z+1:=⟨k-1,by omega⟩
  have e1:a+1+1=a+2:=by omega
  rw [mkE,laws_heldEventS.l0,if_pos (by simp;omega),if_pos (by omega),rdE_mid,wrap_in (i:=a+1) (by omega) (by omega),wrap_in (i:=a+1+1) (by omega) (by omega),wrap_in (i:=a+1+1+1) (by omega) (by omega),wrap_in (i:=(d.length:Int)+1) (by omega) (by omega),if_pos rfl,if_pos rfl,if_pos (by dsimp only;omega)]
  have h:=ih (d++ [⟨a,a+1,a+2⟩]) (a+3) (by omega) (by omega) (by simp;omega) k (by omega)
  simp only [List.append_assoc,List.singleton_append,List.length_append,List.length_singleton] at h
  have e2:a+1+1+1=a+3:=by omega
  rw [e2]
  push_cast at h ⊢
  rw [h]
  congr 1
  omega
theorem markOutcome_ok(a b s:Int)(l:List S63)(hl:l.length≤1048576)(k:Nat)(hk:1048577<k):laws_markOutcome.f k a b l s 1=some (1+3*(l.length:Int),mkE 1 l.length):=by
 have h:=markEventS_l l [] 1 (by omega) (by omega) (by simp;omega) k (by omega)
 simp only [List.nil_append,List.length_nil,Int.natCast_zero] at h
 unfold laws_markOutcome.f laws_markEventS.f
 rw [h,Option.bind_some]
theorem heldOutcome_ok(a b s:Int)(n:Nat)(hl:n≤1048576)(k:Nat)(hk:1048577<k):laws_heldOutcome.f k a b (mkE 1 n) s 1=some (1+3*(n:Int)):=by
 have h:=heldEventS_l n [] 1 (by omega) (by omega) (by simp;omega) k (by omega)
 simp only [List.nil_append,List.length_nil,Int.natCast_zero] at h
 unfold laws_heldOutcome.f laws_heldEventS.f
 rw [h,Option.bind_some,if_neg (by omega)]
end Go.Proofs.Yteiafboknimgbaa.PureL
end

section
set_option linter.unusedVariables false
set_option linter.unusedSimpArgs false
namespace Go.Proofs.Yteiafboknimgbaa.PureL
open Go.RowKit Go.Proofs.Yteiafboknimgbaa.Pr Go.Proofs.W.PrintWords Go.Proofs.W.PrintLast
theorem progOk_len {l:List (List S219)} (h:progOk l=true):1≤l.length∧l.length≤6:=by
 unfold progOk at h
 simp only [Bool.and_eq_true,decide_eq_true_eq] at h
 exact h.1
theorem ask_ok(l:List (List S219))(f arg fuel:Int)(k:Nat)(hk:1000<k):spec_l2Ask.f k l f arg fuel=some (M.askI l f arg fuel):=by
 unfold spec_l2Ask.f M.askI
 rw [program_ok l k hk,Option.bind_some]
 cases hP:progOk l with
 |false=>rfl
 |true =>
  have:=progOk_len hP
  rw [if_pos rfl]
  unfold spec_l2Function.f spec_l2Number.f
  rw [wrap_in (by omega) (by omega),sin_eq,sin_eq,sin_eq]
  simp only [Option.bind_some,Bool.true_and]
  by_cases h1:0≤f∧f≤(l.length:Int)-1
  ·by_cases h2: -32768≤arg∧arg≤32767
   ·simp [h1,h2]
   ·simp [h1,h2]
  ·simp [h1]
theorem runProgram_eq(l:List (List S219))(f arg fuel:Int)(k:Nat)(hk:1000<k):spec_RunProgram.f k l f arg fuel=impl_RunProgram.f l f arg fuel:=by
 unfold spec_RunProgram.f impl_RunProgram.f spec_l2Run.f
 rw [ask_ok l f arg fuel k hk,Option.bind_some]
 by_cases h:M.askI l f arg fuel=true
 ·simp only [if_pos h,Option.bind_some,runQ_eq l f arg fuel h]
 ·rw [if_neg h,if_neg h]
theorem trace_small(l:List (List S219))(f arg fuel:Int)(h:M.askI l f arg fuel=true):(ranQ l f arg fuel).2.trace.length≤602:=by
 have h0:=h
 unfold M.askI at h
 simp only [Bool.and_eq_true,decide_eq_true_eq] at h
 obtain⟨hP,hf,hn,hfu⟩:=h
 have hok:M.ProgOk l.length l:=by
  unfold progOk at hP
  simp only [Bool.and_eq_true,decide_eq_true_eq] at hP
  intro b hb s hs
  have h4:=List.all_eq_true.1 hP.2 b hb
  unfold bodyOk at h4
  simp only [Bool.and_eq_true,decide_eq_true_eq] at h4
  exact(M.stepOk_wf (List.all_eq_true.1 h4.2 s hs)).1
 have hr:=M.callS_ok (N:=l.length) (fuel:=fuel) hok RN 8 M.sm0 (M.sf0 f arg) ⟨M.num0,Int.le_refl _,hfu.1,rfl⟩ (M.SFok.start ⟨hf.1,by omega⟩ hn _ _ M.num0 M.num0) rfl
 have h1:=hr.room
 have h2:=hr.om
 rw [← runQ_eq l f arg fuel h0]
 show(M.callS l fuel RN 8 M.sm0 (M.sf0 f arg)).1.trace.length≤602
 generalize M.callS l fuel RN 8 M.sm0 (M.sf0 f arg)=r at h1 h2
 unfold M.sroom at h1
 have h3:M.sm0.trace.length=0:=rfl
 have h4:M.sm0.made=0:=rfl
 rw [h3,h4] at h1
 have h5:=h2.made
 omega
end Go.Proofs.Yteiafboknimgbaa.PureL
end

section
set_option linter.unusedVariables false
set_option linter.unusedSimpArgs false
namespace Go.Proofs.Yteiafboknimgbaa.PureL
open Go.RowKit Go.Proofs.Yteiafboknimgbaa.Pr Go.Proofs.W.PrintWords Go.Proofs.W.PrintLast
theorem runBench_eq(p:List (List S219))(u v x1 x2:Int)(k:Nat)(hk:1000<k): ∃ ka kv b ks o,spec_RunBench.f k p u v x1 x2=some (ka,kv,b,ks,o)∧impl_RunBench.f p u v x1 x2=some (ka,kv,b,ks,o)∧b.length≤602:=by
 unfold spec_RunBench.f impl_RunBench.f spec_l12Good.f impl_IsBench.f impl_IsProgram.f
 rw [program_ok p k hk,Option.bind_some,Option.bind_some,runProgram_eq p x1 x2 u k hk]
 have h602: ∀ ka kv b ks o,impl_RunProgram.f p x1 x2 u=some (ka,kv,b,ks,o)→b.length≤602:=by
  intro ka kv b ks o h
  unfold impl_RunProgram.f at h
  by_cases ha:M.askI p x1 x2 u=true
  ·rw [if_pos ha] at h
   have h:=Option.some.inj h
   simp only [Prod.mk.injEq] at h
   rw [← h.2.2.1,List.length_map]
   exact trace_small p x1 x2 u ha
  ·rw [if_neg ha] at h
   have h:=Option.some.inj h
   simp only [Prod.mk.injEq] at h
   rw [← h.2.2.1]
   exact Nat.zero_le _
 obtain⟨⟨ka,kv,b,ks,o⟩,hR⟩: ∃ R,impl_RunProgram.f p x1 x2 u=some R:=by
  unfold impl_RunProgram.f
  split<;>exact⟨_,rfl⟩
 rw [hR]
 cases hP:progOk p with
 |false=>exact⟨0,0,[],0,false,rfl,rfl,Nat.zero_le _⟩
 |true =>
  simp only [sin_eq,in_eq,Option.bind_some]
  by_cases h1:0≤u∧u≤200
  ·by_cases h2:0≤v∧v≤1000
   ·simp only [decide_eq_true h1,decide_eq_true h2,if_true,Option.bind_some]
    exact⟨ka,kv,b,ks,o,rfl,rfl,h602 _ _ _ _ _ hR⟩
   ·simp only [decide_eq_true h1,decide_eq_false h2,if_true,Option.bind_some]
    exact⟨0,0,[],0,false,rfl,rfl,Nat.zero_le _⟩
  ·simp only [decide_eq_false h1,if_true,Option.bind_some]
   exact⟨0,0,[],0,false,rfl,rfl,Nat.zero_le _⟩
theorem FnExactRunBench(A0:Option Addr)(c0:Nat)(l0:List (List S295))(u v x1 x2:Int)(w:World)(hr0:Kd.C (Kd.slice 295 k295) w A0 l0.length l0)(hc0:l0.length≤c0)(hb: ∀ b∈l0,b.length≤9223372036854775807)(hl:l0.length≤9223372036854775807) :
  Calls Try.prog 3 #[.agg #[.slice A0 l0.length c0,.int .i64 u,.int .i64 v],.int .i64 x1,.int .i64 x2] w fun e w'=>e= .returned (.bool true)∧Below w.heap.size w w':=by
 obtain⟨sz,k,hk,h1,h2⟩:=prog_facts l0 hb hl
 by_cases h0:sz<0
 ·exact runBench_big k A0 c0 l0 u v x1 x2 w hr0 hc0 (-1) (by unfold laws_szBench.f;rw [h1,Option.bind_some,if_pos h0]) (by omega)
 ·obtain⟨hT,hEp,hM,hpl,hpb⟩:=h2 (by omega)
  obtain⟨ka,kv,b,ks,o,hS,hI,hbl⟩:=runBench_eq (toP l0) u v x1 x2 k (by omega)
  exact runBench_walk k A0 c0 l0 u v x1 x2 w hr0 hc0 sz (toP l0) b (mkE 1 b.length) ka kv ks o _ _ _ (by unfold laws_szBench.f;rw [h1,Option.bind_some,if_neg h0]) (by omega) (by unfold laws_toBench.f;rw [hT,Option.bind_some]) hS hI (eqOutcome_ok ka kv ks b (by omega) k (by omega))
   (by unfold laws_eqBench.f;rw [hEp,Option.bind_some,if_pos rfl,if_pos rfl,if_pos rfl]) hM (by omega) (markOutcome_ok ka kv ks b (by omega) k (by omega)) (mkE_length _ _) (heldOutcome_ok ka kv ks b.length (by omega) k (by omega)) (by omega)
end Go.Proofs.Yteiafboknimgbaa.PureL
end

section
namespace Go.Proofs.Yteiafboknimgbaa.PureL
open Go.RowKit Go.Proofs.Yteiafboknimgbaa.Pr Go.Proofs.W.PrintWords Go.Proofs.W.PrintLast Go.ChangeShapes Go.WideShapes
section
variable {H:Type} {enc:TypeId×Value→H} {w:World} {base:Nat} {spare:Nat→Bool} {held:Bool}
def Opens {α:Type} (enc:TypeId×Value→H)(w:World)(base:Nat)(spare:Nat→Bool)(held:Bool)(d:Kd α)(t:TypeId)(good:α→Prop):Prop :=
 ∀ (fuel:Nat) (cs:List Value) (x:DataW H×List MemPlace),DataW.trod enc Try.prog w base spare held fuel t cs=some x→ ∃ y,d.K w y cs∧good y
theorem opens_slice {α:Type} {d:Kd α} {t e:TypeId} {good:α→Prop} (ht:Try.prog.underlying t=some (.slice e))(hc:Try.prog.cellsOf e=d.sz)(h:Opens enc w base spare held d e good) :
  Opens enc w base spare held (Kd.slice e d) t (fun l=>l.length≤maxLen∧ ∀ y∈l,good y):=by
 intro fuel cs x hx
 rcases DataW.trod_slice ht hx with⟨rfl,_⟩|⟨a,len,cap,elems,rest,n,_,rfl,_,hb,hl,hm,hlen,hel,_,_⟩
 ·exact⟨[],⟨none,0,rfl,Nat.le_refl _,rfl,by simp,fun h=>absurd h (by simp)⟩,by simp,by simp⟩
 ·have each: ∀ i,i<len→ ∃ y,(∃ c,c.length=d.sz∧d.K w y c∧ ∀ q u,c[q]? =some u→w.cell? (a.add (i*d.sz+q))=some u)∧good y:=by
   intro i hi
   have he:=hel i hi
   rw [List.getElem?_eq_getElem (by omega),Option.bind_eq_some_iff] at he
   obtain⟨c,hcs,hy⟩:=he
   obtain⟨y,hK,hg⟩:=h n c _ hy
   obtain⟨_,hcl,hcell⟩:=World.cells?_some hcs
   rw [hc] at hcl hcell
   refine⟨y,⟨c,hcl,hK,fun q u hq=> ?_⟩,hg⟩
   have hq':q<c.length:=(List.getElem?_eq_some_iff.1 hq).1
   have:=hcell q (by omega)
   rw [hq,Addr.add_add] at this
   exact this
  have build: ∀ m,m≤len→ ∃ l:List α,l.length=m∧(∀ j p,l[j]? =some p→ ∃ c,c.length=d.sz∧d.K w p c∧ ∀ q u,c[q]? =some u→w.cell? (a.add (j*d.sz+q))=some u)∧ ∀ y∈l,good y:=by
   intro m
   induction m with
   |zero=>intro _;exact⟨[],rfl,fun j p h=>by simp at h,by simp⟩
   |succ m ih =>
    intro hm
    obtain⟨l,h1,h2,h3⟩:=ih (by omega)
    obtain⟨y,hy,hg⟩:=each m (by omega)
    refine⟨l++ [y],by simp [h1],fun j p hp=> ?_,fun z hz=> ?_⟩
    ·by_cases hj:j<l.length
     ·rw [List.getElem?_append_left hj] at hp;exact h2 j p hp
     ·have hj2:j<(l++ [y]).length:=(List.getElem?_eq_some_iff.1 hp).1
      have hjm:j=m:=by simp only [List.length_append,List.length_singleton] at hj2;omega
      subst hjm
      rw [List.getElem?_append_right (by omega),h1,Nat.sub_self] at hp
      simp only [List.getElem?_cons_zero,Option.some.injEq] at hp
      subst hp
      exact hy
    ·rcases List.mem_append.1 hz with hz|hz
     ·exact h3 z hz
     ·rw [List.mem_singleton] at hz;subst hz;exact hg
  obtain⟨l,h1,h2,h3⟩:=build len (Nat.le_refl _)
  have hmx:maxLen≤9223372036854775807:=by simp only [maxLen];decide
  refine⟨l,⟨some a,cap,by rw [h1],by omega,h1▸rfl,by omega,fun _=>⟨a,rfl,h2⟩⟩,by omega,h3⟩
theorem opens_step:Opens enc w base spare held k295 295 (fun s=>(Lit.int .i64 s.f0).wf=true∧(Lit.int .i64 s.f1).wf=true∧(Lit.int .i64 s.f2).wf=true):=by
 intro fuel cs x hx
 obtain⟨xs,n,_,_,hl,hlen,hf⟩:=DataW.trod_struct Try.underlying295 hx
 have hcl:cs.length=3:=hl.trans (by kernel_rfl)
 have h3:Try.prog.cellsOf 3=1:=by kernel_rfl
 have h0 := hf 0 { name := "Kind", type := 3, offset := 0, embedded := false, tag := "", pkgPath := "", byteOffset := 0 } rfl
 have h1 := hf 1 { name := "A", type := 3, offset := 1, embedded := false, tag := "", pkgPath := "", byteOffset := 8 } rfl
 have h2 := hf 2 { name := "B", type := 3, offset := 2, embedded := false, tag := "", pkgPath := "", byteOffset := 16 } rfl
 have hx3:xs.length=3:=hlen
 match cs,hcl with
 | [c0,c1,c2],_ =>
  dsimp only at h0 h1 h2
  rw [h3] at h0 h1 h2
  rw [List.getElem?_eq_getElem (by omega)] at h0 h1 h2
  obtain⟨n0,e0,_,w0⟩:=DataW.trod_int Try.underlying3 h0
  obtain⟨n1,e1,_,w1⟩:=DataW.trod_int Try.underlying3 h1
  obtain⟨n2,e2,_,w2⟩:=DataW.trod_int Try.underlying3 h2
  simp at e0 e1 e2
  subst e0 e1 e2
  exact⟨⟨n0,n1,n2⟩,k295_mk w ⟨n0,n1,n2⟩,w0,w1,w2⟩
theorem opens_body:Opens enc w base spare held (Kd.slice 295 k295) 251 (fun l=>l.length≤maxLen∧ ∀ s∈l,(Lit.int .i64 s.f0).wf=true∧(Lit.int .i64 s.f1).wf=true∧(Lit.int .i64 s.f2).wf=true) :=
 opens_slice Try.underlying251 (by kernel_rfl) opens_step
theorem opens_bodies:Opens enc w base spare held (Kd.slice 251 (Kd.slice 295 k295)) 22 (fun l=>l.length≤maxLen∧ ∀ b∈l,b.length≤maxLen∧ ∀ s∈b,(Lit.int .i64 s.f0).wf=true∧(Lit.int .i64 s.f1).wf=true∧(Lit.int .i64 s.f2).wf=true) :=
 opens_slice Try.underlying22 (by kernel_rfl) opens_body
theorem open_program {fuel:Nat} {cs:List Value} {x:DataW H×List MemPlace} (h:DataW.trod enc Try.prog w base spare held fuel 24 cs=some x) :
  ∃ (l:List (List S295)) (A:Option Addr) (c:Nat),cs= [.slice A l.length c]∧l.length≤c∧Kd.C (Kd.slice 295 k295) w A l.length l∧l.length≤maxLen∧ ∀ b∈l,b.length≤maxLen∧ ∀ s∈b,(Lit.int .i64 s.f0).wf=true∧(Lit.int .i64 s.f1).wf=true∧(Lit.int .i64 s.f2).wf=true:=by
 obtain⟨y0,n,_,hl,hy⟩:=trod_struct1 Try.underlying24 h
 have hcl:cs.length=1:=hl.trans (by kernel_rfl)
 have hSS:Try.prog.cellsOf 22=1:=by kernel_rfl
 match cs,hcl with
 | [v],_ =>
  rw [hSS] at hy
  obtain⟨l,⟨A,c,e,hc,hC⟩,hg⟩:=opens_bodies n _ _ hy
  simp at e
  subst e
  exact⟨l,A,c,rfl,hc,hC,hg⟩
theorem open_bench {fuel:Nat} {cs:List Value} {x:DataW H×List MemPlace} (h:DataW.trod enc Try.prog w base spare held fuel 26 cs=some x) :
  ∃ (l:List (List S295)) (A:Option Addr) (c:Nat) (u v:Int),cs= [.slice A l.length c,.int .i64 u,.int .i64 v]∧l.length≤c∧Kd.C (Kd.slice 295 k295) w A l.length l∧l.length≤maxLen∧ ∀ b∈l,b.length≤maxLen:=by
 obtain⟨xs,n,_,_,hl,hlen,hf⟩:=DataW.trod_struct Try.underlying26 h
 have hcl:cs.length=3:=hl.trans (by kernel_rfl)
 have h3:Try.prog.cellsOf 3=1:=by kernel_rfl
 have hPR:Try.prog.cellsOf 24=1:=by kernel_rfl
 have g0 := hf 0 { name := "Program", type := 24, offset := 0, embedded := false, tag := "", pkgPath := "", byteOffset := 0 } rfl
 have g1 := hf 1 { name := "Fuel", type := 3, offset := 1, embedded := false, tag := "", pkgPath := "", byteOffset := 24 } rfl
 have g2 := hf 2 { name := "Count", type := 3, offset := 2, embedded := false, tag := "", pkgPath := "", byteOffset := 32 } rfl
 have hx3:xs.length=3:=hlen
 match cs,hcl with
 | [c0,c1,c2],_ =>
  dsimp only at g0 g1 g2
  rw [hPR] at g0
  rw [h3] at g1 g2
  rw [List.getElem?_eq_getElem (by omega)] at g0 g1 g2
  obtain⟨l,A,c,e0,hc,hC,hm,hg⟩:=open_program g0
  obtain⟨n1,e1,_,_⟩:=DataW.trod_int Try.underlying3 g1
  obtain⟨n2,e2,_,_⟩:=DataW.trod_int Try.underlying3 g2
  simp at e0 e1 e2
  subst e0 e1 e2
  exact⟨l,A,c,n1,n2,rfl,hc,hC,hm,fun b hb=>(hg b hb).1⟩
end
end Go.Proofs.Yteiafboknimgbaa.PureL
end
