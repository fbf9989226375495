import Derived.Test.YteiafboknimgbaaMa7
set_option maxHeartbeats 8000000
set_option maxRecDepth 100000
set_option linter.unusedVariables false
set_option linter.unusedSimpArgs false
section
namespace Go.Proofs.Yteiafboknimgbaa.Pr.M
open Go.RowKit Go.Proofs.W.PrintWords Go.Proofs.W.PrintLast Go.Proofs.W.PrintMore
structure Evt(W W':World)(k:Option Nat)(T:TypeId):Prop where
 g:W.grownBy W' k
 t: ∀ q,k=some q→ ∃ cur z,W.heap[q]? =some (.cells cur T z)
theorem Evt.below {W W':World} (h:Below W.heap.size W W')(T:TypeId):Evt W W' none T:=⟨grown_of_below h none,fun q e=>zq121⟩
theorem Evt.drew(W:World)(T:TypeId):Evt W W.drew none T:=Evt.below (below_drew (Below.refl _ _)) T
theorem Evt.set {W:World} {g:Nat} {c:Array Value} {T:TypeId} (h:W.heap[g]? =some (.cells c T (0,0)))(i:Nat)(u:Value):Evt W (W.setCell ⟨g,i,none⟩ u) (some g) T :=
 ⟨grown_set W g i u,fun q e=>by injection e with e;subst e;exact⟨_,_,h⟩⟩
theorem own_blk {W:World} {b e s n:Nat} {a:Value} {xs:List Value} (h:W.ownsRow b e s a n xs)(q:Nat)(hq:a.ownBlock=some q): ∃ cur z,W.heap[q]? =some (.cells cur e z):=by
 rcases h.2 with⟨rfl,_⟩|⟨g,cap,cur,rfl,_,hh,_⟩
 ·simp [Value.ownBlock] at hq
 ·have:g=q:=by simpa [Value.ownBlock] using hq
  subst this
  exact⟨_,_,hh⟩
theorem Evt.own {W W':World} {b e s n:Nat} {a:Value} {xs:List Value} (h:W.ownsRow b e s a n xs)(hg:W.grownBy W' a.ownBlock):Evt W W' a.ownBlock e:=⟨hg,own_blk h⟩
theorem Evt.ne {W W':World} {k:Option Nat} {T:TypeId} (h:Evt W W' k T){g:Nat} {c:Array Value} {ty:TypeId} {z:Nat×Nat} (hb:W.heap[g]? =some (.cells c ty z))(hne:ty≠T):some g≠k:=by
 intro e
 obtain⟨cur,z',hh⟩:=h.t g e.symm
 rw [hb] at hh
 injection hh with hh
 injection hh with _ h2 _
 exact hne h2
theorem Evt.blk {W W':World} {k:Option Nat} {T:TypeId} (h:Evt W W' k T){g:Nat} {c:Array Value} {ty:TypeId} {z:Nat×Nat} (hb:W.heap[g]? =some (.cells c ty z))(hne:ty≠T:=by decide):W'.heap[g]? =some (.cells c ty z):=blk_grown hb h.g (h.ne hb hne)
theorem Evt.blk' {W W':World} {k:Option Nat} {T:TypeId} (h:Evt W W' k T){g:Nat} {o:Obj} (hb:W.heap[g]? =some o)(hne:some g≠k):W'.heap[g]? =some o:=blk_grown hb h.g hne
theorem Evt.b {W W':World} {k:Option Nat} {T:TypeId} (h:Evt W W' k T){g:Nat} {c:Array Value} {ty:TypeId} {z:Nat×Nat} (hb:Aside0 (W.heap[g]? =some (.cells c ty z)))(hne:ty≠T:=by decide):Aside0 (W'.heap[g]? =some (.cells c ty z)):=⟨h.blk hb.out hne⟩
theorem Evt.b' {W W':World} {k:Option Nat} {T:TypeId} (h:Evt W W' k T){g:Nat} {o:Obj} (hb:Aside0 (W.heap[g]? =some o))(hne:some g≠k):Aside0 (W'.heap[g]? =some o):=⟨h.blk' hb.out hne⟩
theorem Evt.row {W W':World} {k:Option Nat} {T:TypeId} (h:Evt W W' k T){b e s n:Nat} {a:Value} {xs:List Value} (hr:W.ownsRow b e s a n xs)(hne:e≠T:=by decide):W'.ownsRow b e s a n xs:=by
 refine hr.kept h.g ?_
 rcases hr.2 with⟨rfl,_⟩|⟨g,cap,cur,rfl,_,hh,_⟩
 ·exact .inl rfl
 ·exact .inr (h.ne hh hne)
theorem Evt.r {W W':World} {k:Option Nat} {T:TypeId} (h:Evt W W' k T){b e s n:Nat} {a:Value} {xs:List Value} (hr:Aside0 (W.ownsRow b e s a n xs))(hne:e≠T:=by decide):Aside0 (W'.ownsRow b e s a n xs):=⟨h.row hr.out hne⟩
theorem Evt.maps {W W':World} {k:Option Nat} {T:TypeId} (h:Evt W W' k T){g n:Nat} {es:Array MapEntry} (hb:W.heap[g]? =some (.map es n)):W'.heap[g]? =some (.map es n):=by
 refine blk_grown hb h.g (fun e=> ?_)
 obtain⟨cur,z',hh⟩:=h.t g e.symm
 rw [hb] at hh
 injection hh with hh
 cases hh
theorem Evt.size {W W':World} {k:Option Nat} {T:TypeId} (h:Evt W W' k T):W.heap.size≤W'.heap.size:=h.g.size
structure KeptB(base:Nat)(par:Option Nat)(B:Nat)(w w':World):Prop where
 os:w'.os=w.os
 tape:w'.tape=w.tape
 output:w'.output=w.output
 size:w.heap.size≤w'.heap.size
 low: ∀ k,k<base→w'.heap[k]? =w.heap[k]?
 cells: ∀ k cur t z,k<B→w.heap[k]? =some (.cells cur t z)→mty t=false→(t=292→par≠some k)→w'.heap[k]? =some (.cells cur t z)
theorem KeptB.refl(base:Nat)(par:Option Nat)(B:Nat)(w:World):KeptB base par B w w:=⟨rfl,rfl,rfl,Nat.le_refl _,fun _ _=>rfl,fun _ _ _ _ _ h _ _=>h⟩
theorem KeptM.toB {base:Nat} {par:Option Nat} {w w':World} (h:KeptM base par w w')(B:Nat):KeptB base par B w w':=⟨h.os,h.tape,h.output,h.size,h.low,fun k cur t z _=>h.cells k cur t z⟩
theorem KeptB.toM {base:Nat} {par:Option Nat} {w w':World} (h:KeptB base par w.heap.size w w')(hm: ∀ (k:Nat) es n,w.heap[k]? =some (Obj.map es n)→w'.heap[k]? =some (Obj.map es n)):KeptM base par w w' :=
 ⟨h.os,h.tape,h.output,h.size,h.low,fun k cur t z hk=>h.cells k cur t z (Array.getElem?_eq_some_iff.1 hk).1 hk,hm⟩
theorem KeptB.trans {base:Nat} {par:Option Nat} {B:Nat} {a b c:World} (h:KeptB base par B a b)(k:KeptB base par B b c):KeptB base par B a c :=
 ⟨k.os.trans h.os,k.tape.trans h.tape,k.output.trans h.output,Nat.le_trans h.size k.size,fun i hi=>(k.low i hi).trans (h.low i hi),
  fun i cur t z hB hi ht hp=>k.cells i cur t z hB (h.cells i cur t z hB hi ht hp) ht hp⟩
theorem KeptB.inner {base:Nat} {par p':Option Nat} {B B':Nat} {a b c:World} (h:KeptB base par B a b)(k:KeptB base p' B' b c)(hB:B≤B')(hp: ∀ g,p'=some g→B≤g∨par=some g):KeptB base par B a c :=
 ⟨k.os.trans h.os,k.tape.trans h.tape,k.output.trans h.output,Nat.le_trans h.size k.size,fun i hi=>(k.low i hi).trans (h.low i hi),
  fun i cur t z hiB hi ht hq=>k.cells i cur t z (Nat.lt_of_lt_of_le hiB hB) (h.cells i cur t z hiB hi ht hq) ht (fun e e'=>by
   rcases hp i e' with h1|h1
   ·omega
   ·exact hq e h1)⟩
def Free(base:Nat)(par:Option Nat)(B:Nat)(k:Option Nat)(T:TypeId):Prop:= ∀ q,k=some q→base≤q∧(mty T=true∨(T=292∧par=some q)∨B≤q)
theorem Free.none(base:Nat)(par:Option Nat)(B:Nat)(T:TypeId):Free base par B none T:=fun q e=>by cases e
theorem Free.own {base:Nat} {par:Option Nat} {B:Nat} {W:World} {e s n:Nat} {a:Value} {xs:List Value} (h:W.ownsRow base e s a n xs)(he:mty e=true):Free base par B a.ownBlock e:=fun q hq=>⟨own_base h q hq,.inl he⟩
theorem KeptB.ev {base:Nat} {par:Option Nat} {B:Nat} {w W W':World} {k:Option Nat} {T:TypeId} (h:KeptB base par B w W)(hb:base≤W.heap.size)(e:Evt W W' k T)(hk:Free base par B k T):KeptB base par B w W':=by
 refine⟨e.g.os.trans h.os,e.g.tape.trans h.tape,e.g.output.trans h.output,Nat.le_trans h.size e.g.size,fun i hi=> ?_,fun i cur t z hB hi ht hp=> ?_⟩
 ·refine(e.g.block i zq90 (fun he=> ?_)).trans (h.low i hi)
  have:=(hk i he.symm).1
  omega
 ·have hW:=h.cells i cur t z hB hi ht hp
  refine(e.g.block i (Array.getElem?_eq_some_iff.1 hW).1 (fun he=> ?_)).trans hW
  obtain⟨c',z',hh⟩:=e.t i he.symm
  rw [hW] at hh
  injection hh with hh
  injection hh with _ hT _
  subst hT
  rcases(hk i he.symm).2 with h1|h1|h1
  ·rw [ht] at h1;cases h1
  ·exact hp h1.1 h1.2
  ·omega
theorem info_ci:(Try.prog.info? 184).map (fun i=>(i.zero,i.size,i.bytes))=some (some (.agg #[.int .i64 0,.int .i64 0,.bool false,.int .i64 0,.int .i64 0,.int .i64 0]),6,48):=by kernel_rfl
theorem info_pi:(Try.prog.info? 225).map (fun i=>(i.zero,i.size,i.bytes))=some (some (.agg #[.int .i64 0,.int .i64 0,.int .i64 0,.int .i64 0,.int .i64 0,.int .i64 0,.int .i64 0,.bool false,.slice none 0 0]),9,88):=by kernel_rfl
theorem info_rc:(Try.prog.info? 232).map (fun i=>(i.zero,i.size,i.bytes))=some (some (.agg #[.int .i64 0,.int .i64 0,.int .i64 0]),3,24):=by kernel_rfl
structure Wk(w W:World)(base:Nat)(par:Option Nat)(B gm:Nat)(cs:List Value)(m:MS)(v:MV):Prop where
 blk:W.heap[gm]? =some (.cells cs.toArray 155 (0,0))
 rows:Rows W base m v
 kept:KeptB base par B w W
 low:base≤gm
 sz:base≤W.heap.size
 maps: ∀ (k:Nat) es n,w.heap[k]? =some (Obj.map es n)→W.heap[k]? =some (Obj.map es n)
theorem Mach.wk {w:World} {base gm:Nat} {A0:Value} {fuel:Int} {m:MS} {v:MV} (h:Mach w base gm A0 fuel m v)(hb:base≤w.heap.size)(par:Option Nat)(B:Nat):Wk w w base par B gm (machC A0 fuel m v) m v:=⟨h.blk,h.rows,KeptB.refl _ _ _ _,h.low,hb,fun _ _ _ h=>h⟩
theorem Wk.toM {w W:World} {base:Nat} {par:Option Nat} {gm:Nat} {cs:List Value} {m:MS} {v:MV} (h:Wk w W base par w.heap.size gm cs m v):KeptM base par w W:=h.kept.toM h.maps
theorem Wk.mach {w W:World} {base:Nat} {par:Option Nat} {B gm:Nat} {A0:Value} {fuel:Int} {m:MS} {v:MV} (h:Wk w W base par B gm (machC A0 fuel m v) m v):Mach W base gm A0 fuel m v:=⟨h.blk,h.low,h.rows⟩
def foreign(T:TypeId):Bool:= !mty T
theorem foreign_ne {T:TypeId} (h:foreign T=true):T≠155∧T≠63∧T≠3∧T≠184∧T≠225∧T≠232:=by
 unfold foreign mty at h
 simp only [Bool.not_or,Bool.and_eq_true,Bool.not_eq_true',beq_eq_false_iff_ne] at h
 exact⟨h.1.1.1.1.1,h.1.1.1.1.2,h.1.1.1.2,h.1.1.2,h.1.2,h.2⟩
variable {w W W':World} {base:Nat} {par:Option Nat} {B gm:Nat} {cs:List Value} {m:MS} {v:MV}
theorem Wk.other(h:Wk w W base par B gm cs m v){k:Option Nat} {T:TypeId} (e:Evt W W' k T)(hT:foreign T=true)(hk:Free base par B k T):Wk w W' base par B gm cs m v:=by
 obtain⟨h0,h1,h2,h3,h4,h5⟩:=foreign_ne hT
 refine⟨e.blk h.blk (fun e=>h0 e.symm),h.rows.other e.g (fun g hg=> ?_),h.kept.ev h.sz e hk,h.low,Nat.le_trans h.sz e.size,fun k es n hk=>e.maps (h.maps k es n hk)⟩
 obtain⟨cur,z,hh⟩:=e.t g hg
 exact⟨cur,T,z,hh,h1,h2,h3,h4,h5⟩
theorem Wk.below(h:Wk w W base par B gm cs m v)(hB:Below W.heap.size W W'):Wk w W' base par B gm cs m v:=h.other (Evt.below hB 292) zq83 (Free.none _ _ _ _)
theorem Wk.drew(h:Wk w W base par B gm cs m v):Wk w W.drew base par B gm cs m v:=h.below (below_drew (Below.refl _ _))
theorem Wk.setM(h:Wk w W base par B gm cs m v)(i:Nat)(u:Value):Wk w (W.setCell ⟨gm,i,none⟩ u) base par B gm (cs.set i u) m v∧Evt W (W.setCell ⟨gm,i,none⟩ u) (some gm) 155:=by
 have e:=Evt.set h.blk i u
 refine⟨⟨?_,h.rows.other e.g (fun g hg=> ?_),h.kept.ev h.sz e (fun q hq=> ?_),h.low,Nat.le_trans h.sz e.size,fun k es n hk=>e.maps (h.maps k es n hk)⟩,e⟩
 ·rw [blk_set h.blk];simp
 ·injection hg with hg;subst hg
  exact⟨_,_,_,h.blk,zq83,zq83,zq83,zq83,zq83⟩
 ·injection hq with hq;subst hq
  exact⟨h.low,.inl zq83⟩
theorem Wk.row(h:Wk w W base par B gm cs m v){m':MS} {v':MV} {k:Option Nat} {T:TypeId} (e:Evt W W' k T)(hr:Rows W' base m' v')(hT:T≠155)(hk:Free base par B k T):Wk w W' base par B gm cs m' v' :=
 ⟨e.blk h.blk (fun e=>hT e.symm),hr,h.kept.ev h.sz e hk,h.low,Nat.le_trans h.sz e.size,fun k es n hk=>e.maps (h.maps k es n hk)⟩
theorem Wk.appTr(h:Wk w W base par B gm cs m v)(gA c:Nat)(x:Ev)(hA:W.heap[gA]? =some (.cells (evC x).toArray 63 (0,0)))(hn:m.trace.length≤100000) :
  ∃ t W',(Builtin.append_ #[28,28] 28 #[v.tr,.slice (some ⟨gA,0,none⟩) 1 c]).run Try.prog W= .ok t W'∧Wk w W' base par B gm cs { m with trace:=m.trace++ [x] } { v with tr:=t } ∧Evt W W' v.tr.ownBlock 63:=by
 obtain⟨t,W',h1,h2,h3,h4⟩:=app_one und_ev info_ev rfl zq83 v.tr _ _ h.rows.tr gA c (evC x) hA rfl zq129 hn zq83 h.sz
 have e:=Evt.own h.rows.tr h3
 exact⟨t,W',h1,h.row e (h.rows.onTrace h3 h2) zq83 (Free.own h.rows.tr zq83),e⟩
theorem Wk.appOw(h:Wk w W base par B gm cs m v)(gA c:Nat)(o:Int)(hA:W.heap[gA]? =some (.cells [Value.int .i64 o].toArray 3 (0,0)))(hn:m.owners.length≤100000) :
  ∃ t W',(Builtin.append_ #[45,45] 45 #[v.ow,.slice (some ⟨gA,0,none⟩) 1 c]).run Try.prog W= .ok t W'∧Wk w W' base par B gm cs { m with owners:=m.owners++ [o] } { v with ow:=t } ∧Evt W W' v.ow.ownBlock 3:=by
 obtain⟨t,W',h1,h2,h3,h4⟩:=app_one und_int info_int rfl zq83 v.ow _ _ h.rows.ow gA c [.int .i64 o] hA rfl (by intro u hu;simp at hu;subst hu;rfl) hn zq83 h.sz
 have e:=Evt.own h.rows.ow h3
 exact⟨t,W',h1,h.row e (h.rows.onOwners h3 h2 h4) zq83 (Free.own h.rows.ow zq83),e⟩
theorem Wk.appCa(h:Wk w W base par B gm cs m v)(gA c:Nat)(x:CI)(hA:W.heap[gA]? =some (.cells (ciC x).toArray 184 (0,0)))(hn:m.calls.length≤100000) :
  ∃ t W',(Builtin.append_ #[150,150] 150 #[v.ca,.slice (some ⟨gA,0,none⟩) 1 c]).run Try.prog W= .ok t W'∧Wk w W' base par B gm cs { m with calls:=m.calls++ [x] } { v with ca:=t } ∧Evt W W' v.ca.ownBlock 184:=by
 obtain⟨t,W',h1,h2,h3,h4⟩:=app_one und_ci info_ci rfl zq83 v.ca _ _ h.rows.ca gA c (ciC x) hA rfl (by intro u hu;simp [ciC] at hu;rcases hu with rfl|rfl|rfl|rfl|rfl|rfl<;>rfl) hn zq83 h.sz
 have e:=Evt.own h.rows.ca h3
 exact⟨t,W',h1,h.row e (h.rows.onCalls h3 h2) zq83 (Free.own h.rows.ca zq83),e⟩
theorem Wk.appRe(h:Wk w W base par B gm cs m v)(gA c:Nat)(x:RC)(hA:W.heap[gA]? =some (.cells (rcC x).toArray 232 (0,0)))(hn:m.recs.length≤100000) :
  ∃ t W',(Builtin.append_ #[152,152] 152 #[v.re,.slice (some ⟨gA,0,none⟩) 1 c]).run Try.prog W= .ok t W'∧Wk w W' base par B gm cs { m with recs:=m.recs++ [x] } { v with re:=t } ∧Evt W W' v.re.ownBlock 232:=by
 obtain⟨t,W',h1,h2,h3,h4⟩:=app_one und_rc info_rc rfl zq83 v.re _ _ h.rows.re gA c (rcC x) hA rfl (by intro u hu;simp [rcC] at hu;rcases hu with rfl|rfl|rfl<;>rfl) hn zq83 h.sz
 have e:=Evt.own h.rows.re h3
 exact⟨t,W',h1,h.row e (h.rows.onRecs h3 h2) zq83 (Free.own h.rows.re zq83),e⟩
theorem Wk.appPa(h:Wk w W base par B gm cs m v)(gA c:Nat)(x:PI)(hx:x.unw= [])(hA:W.heap[gA]? =some (.cells (piC x (.slice none 0 0)).toArray 225 (0,0)))(hn:m.panics.length≤100000) :
  ∃ t W',(Builtin.append_ #[151,151] 151 #[v.pa,.slice (some ⟨gA,0,none⟩) 1 c]).run Try.prog W= .ok t W'∧Wk w W' base par B gm cs { m with panics:=m.panics++ [x] } { v with pa:=t,unw:=v.unw++ [.slice none 0 0] } ∧Evt W W' v.pa.ownBlock 225:=by
 obtain⟨t,W',h1,h2,h3,h4⟩:=app_one und_pi info_pi rfl zq83 v.pa _ _ h.rows.pa gA c (piC x (.slice none 0 0)) hA rfl (by intro u hu;simp [piC] at hu;rcases hu with rfl|rfl|rfl|rfl|rfl|rfl|rfl|rfl|rfl<;>rfl) hn zq83 h.sz
 have e:=Evt.own h.rows.pa h3
 exact⟨t,W',h1,h.row e (h.rows.addPanic hx h3 h2) zq83 (Free.own h.rows.pa zq83),e⟩
theorem Wk.setCall(h:Wk w W base par B gm cs m v){g cap:Nat} (hv:v.ca= .slice (some ⟨g,0,none⟩) m.calls.length cap)(i j:Nat)(hi:i<m.calls.length)(hj:j<6)(u:Value)(c':CI)(hc:(ciC m.calls[i]).set j u=ciC c') :
  Wk w (W.setCell ⟨g,i*6+j,none⟩ u) base par B gm cs { m with calls:=m.calls.set i c' } v∧Evt W (W.setCell ⟨g,i*6+j,none⟩ u) (some g) 184:=by
 have hg:=grown_set W g (i*6+j) u
 have hb:v.ca.ownBlock=some g:=by rw [hv];rfl
 rw [← hb] at hg
 have e:=Evt.own h.rows.ca hg
 exact⟨h.row e (h.rows.setCall hv i j hi hj u c' hc) zq83 (Free.own h.rows.ca zq83),hb▸e⟩
theorem Wk.setPanic(h:Wk w W base par B gm cs m v){g cap:Nat} (hv:v.pa= .slice (some ⟨g,0,none⟩) m.panics.length cap)(i j:Nat)(hi:i<m.panics.length)(hj:j<9)(u:Value)(q':PI)
  (hq: ∀ y,(piC m.panics[i] y).set j u=piC q' y) (hun:q'.unw=m.panics[i].unw) :
  Wk w (W.setCell ⟨g,i*9+j,none⟩ u) base par B gm cs { m with panics:=m.panics.set i q' } v∧Evt W (W.setCell ⟨g,i*9+j,none⟩ u) (some g) 225:=by
 have hg:=grown_set W g (i*9+j) u
 have hb:v.pa.ownBlock=some g:=by rw [hv];rfl
 rw [← hb] at hg
 have e:=Evt.own h.rows.pa hg
 exact⟨h.row e (h.rows.setPanic hv i j hi hj u q' hq hun) zq83 (Free.own h.rows.pa zq83),hb▸e⟩
theorem Wk.appUnw(h:Wk w W base par B gm cs m v)(i:Nat)(hi:i<m.panics.length)(hiu:i<v.unw.length)(gA c:Nat)(o:Int)(hA:W.heap[gA]? =some (.cells [Value.int .i64 o].toArray 3 (0,0)))(hn:m.panics[i].unw.length≤100000) :
  ∃ t W',(Builtin.append_ #[45,45] 45 #[v.unw[i],.slice (some ⟨gA,0,none⟩) 1 c]).run Try.prog W= .ok t W'∧Evt W W' v.unw[i].ownBlock 3∧(∃ A cc,t= .slice A (m.panics[i].unw.length+1) cc)
   ∧ ∀ (g cap:Nat),v.pa= .slice (some ⟨g,0,none⟩) m.panics.length cap→Evt W' (W'.setCell ⟨g,i*9+8,none⟩ t) (some g) 225∧(W'.cell? ⟨g,i*9+8,none⟩=some v.unw[i]∧W'.frozen? ⟨g,i*9+8,none⟩=false)
    ∧Wk w (W'.setCell ⟨g,i*9+8,none⟩ t) base par B gm cs { m with panics:=m.panics.set i { m.panics[i] with unw:=m.panics[i].unw++ [o] } } { v with unw:=v.unw.set i t } :=by
 have hui:v.unw[i]? =some v.unw[i]:=List.getElem?_eq_getElem hiu
 have hu:=h.rows.un i _ _ (List.getElem?_eq_getElem hi) hui
 obtain⟨t,W',h1,h2,h3,h4⟩:=app_one und_int info_int rfl zq83 v.unw[i] _ _ hu gA c [.int .i64 o] hA rfl (by intro u hu;simp at hu;subst hu;rfl) hn zq83 h.sz
 have e:=Evt.own hu h3
 refine⟨t,W',h1,e,own_slice h2,fun g cap hv=> ?_⟩
 have hb:v.pa.ownBlock=some g:=by rw [hv];rfl
 have hpa1:=e.row h.rows.pa zq83
 have hg2:=grown_set W' g (i*9+8) t
 rw [← hb] at hg2
 have e2:=Evt.own hpa1 hg2
 have hpa2:=hpa1
 rw [hv] at hpa2
 have hcell:=own_cell hpa2 (i*9+8) zq90
 rw [panC_at h.rows.ul i 8 hi zq83] at hcell
 refine⟨hb▸e2,hcell,?_,h.rows.addUnw hv i hi hiu t o h3 h2 h4,?_,h.low,?_,fun k es n hk=>e2.maps (e.maps (h.maps k es n hk))⟩
 ·exact e2.blk (e.blk h.blk zq83) zq83
 ·exact(h.kept.ev h.sz e (Free.own hu zq83)).ev (Nat.le_trans h.sz e.size) e2 (Free.own hpa1 zq83)
 ·exact Nat.le_trans (Nat.le_trans h.sz e.size) e2.size
theorem Wk.call(h:Wk w W base par B gm cs m v){A0:Value} {fuel:Int} {m':MS} {v':MV} {p':Option Nat} (k:KeptM base p' W W')(hm:Mach W' base gm A0 fuel m' v')(hp: ∀ g,p'=some g→B≤g∨par=some g)(hB:B≤W.heap.size):Wk w W' base par B gm (machC A0 fuel m' v') m' v' :=
 ⟨hm.blk,hm.rows,h.kept.inner (k.toB W.heap.size) hB hp,h.low,Nat.le_trans h.sz k.size,fun i es n hi=>k.maps i es n (h.maps i es n hi)⟩
theorem KeptM.blk {p':Option Nat} (k:KeptM base p' W W'){g:Nat} {c:Array Value} {ty:TypeId} {z:Nat×Nat} (hb:W.heap[g]? =some (.cells c ty z))(ht:mty ty=false)(hp:ty=292→p'≠some g):W'.heap[g]? =some (.cells c ty z):=k.cells _ _ _ _ hb ht hp
theorem KeptM.row {p':Option Nat} (k:KeptM base p' W W'){b e s n:Nat} {a:Value} {xs:List Value} (hr:W.ownsRow b e s a n xs)(ht:mty e=false)(hp:e≠292):W'.ownsRow b e s a n xs:=by
 refine⟨hr.1,?_⟩
 rcases hr.2 with e1|⟨g,cap,cur,e1,e2,e3,e4⟩
 ·exact .inl e1
 ·exact .inr ⟨g,cap,cur,e1,e2,k.cells _ _ _ _ e3 ht (fun e'=>absurd e' hp),e4⟩
theorem und_pd:Try.prog.underlying 290=some (.slice 326):=by kernel_rfl
theorem info_pd:(Try.prog.info? 326).map (fun i=>(i.zero,i.size,i.bytes))=some (some (.agg #[.int .i64 0,.int .i64 0]),2,16):=by kernel_rfl
theorem app_pd {rv:Value} {n:Nat} {xs:List Value} (hr:W.ownsRow base 326 2 rv n xs)(gA c:Nat)(x:Int×Int)(hA:W.heap[gA]? =some (.cells (prC x).toArray 326 (0,0)))(hn:n≤100000)(hb:base≤W.heap.size) :
  ∃ t W',(Builtin.append_ #[290,290] 290 #[rv,.slice (some ⟨gA,0,none⟩) 1 c]).run Try.prog W= .ok t W'∧W'.ownsRow base 326 2 t (n+1) (xs++prC x)∧Evt W W' rv.ownBlock 326∧(t.ownBlock=rv.ownBlock∨t.ownBlock=some W.heap.size):=by
 obtain⟨t,W',h1,h2,h3,h4⟩:=app_one und_pd info_pd rfl zq83 rv _ _ hr gA c (prC x) hA rfl zq135 hn zq83 hb
 exact⟨t,W',h1,h2,Evt.own hr h3,h4⟩
theorem Wk.callCell(h:Wk w W base par B gm cs m v){g cap:Nat} (hv:v.ca= .slice (some ⟨g,0,none⟩) m.calls.length cap)(i j:Nat)(hi:i<m.calls.length)(hj:j<6):W.cell? ⟨g,i*6+j,none⟩=(ciC m.calls[i])[j]? ∧W.frozen? ⟨g,i*6+j,none⟩=false:=by
 have ho:=h.rows.ca
 rw [hv] at ho
 have hc:=own_cell ho (i*6+j) zq90
 rw [flat_at ciC 6 ciC_len m.calls i j hi hj] at hc
 exact hc
theorem Wk.panCell(h:Wk w W base par B gm cs m v){g cap:Nat} (hv:v.pa= .slice (some ⟨g,0,none⟩) m.panics.length cap)(i j:Nat)(hi:i<m.panics.length)(hj:j<9):W.cell? ⟨g,i*9+j,none⟩=(piC m.panics[i] (v.unw[i]'(by rw [h.rows.ul];exact hi)))[j]? ∧W.frozen? ⟨g,i*9+j,none⟩=false:=by
 have ho:=h.rows.pa
 rw [hv] at ho
 have hc:=own_cell ho (i*9+j) zq90
 rw [panC_at h.rows.ul i j hi hj] at hc
 exact hc
theorem Wk.setCall' {m:MS} {i:Nat} {c:CI} (h:Wk w W base par B gm cs { m with calls:=m.calls.set i c } v){g cap:Nat} (hv:v.ca= .slice (some ⟨g,0,none⟩) m.calls.length cap)(j:Nat)(hi:i<m.calls.length)(hj:j<6)(u:Value)(c':CI)(hc:(ciC c).set j u=ciC c') :
  Wk w (W.setCell ⟨g,i*6+j,none⟩ u) base par B gm cs { m with calls:=m.calls.set i c' } v∧Evt W (W.setCell ⟨g,i*6+j,none⟩ u) (some g) 184:=by
 have hi':i<(m.calls.set i c).length:=by rw [List.length_set];exact hi
 have hx:(m.calls.set i c)[i]=c:=List.getElem_set_self hi'
 have:=h.setCall (by rw [hv];show _=Value.slice _ (m.calls.set i c).length _;rw [List.length_set]) i j hi' hj u c' (by show(ciC (m.calls.set i c)[i]).set j u=_;rw [hx];exact hc)
 have hs:(m.calls.set i c).set i c'=m.calls.set i c':=List.set_set _
 simp only [hs] at this
 exact this
theorem Wk.callCell' {m:MS} {i:Nat} {c:CI} (h:Wk w W base par B gm cs { m with calls:=m.calls.set i c } v){g cap:Nat} (hv:v.ca= .slice (some ⟨g,0,none⟩) m.calls.length cap)(j:Nat)(hi:i<m.calls.length)(hj:j<6):W.cell? ⟨g,i*6+j,none⟩=(ciC c)[j]? ∧W.frozen? ⟨g,i*6+j,none⟩=false:=by
 have hi':i<(m.calls.set i c).length:=by rw [List.length_set];exact hi
 have hx:(m.calls.set i c)[i]=c:=List.getElem_set_self hi'
 have:=h.callCell (by rw [hv];show _=Value.slice _ (m.calls.set i c).length _;rw [List.length_set]) i j hi' hj
 rw [show (ciC (({ m with calls:=m.calls.set i c } :MS).calls[i]))=ciC c from by show ciC (m.calls.set i c)[i]=_;rw [hx]] at this
 exact this
theorem Wk.setPanic' {m:MS} {i:Nat} {q:PI} (h:Wk w W base par B gm cs { m with panics:=m.panics.set i q } v){g cap:Nat} (hv:v.pa= .slice (some ⟨g,0,none⟩) m.panics.length cap)(j:Nat)(hi:i<m.panics.length)(hj:j<9)(u:Value)(q':PI)(hq: ∀ y,(piC q y).set j u=piC q' y)(hun:q'.unw=q.unw) :
  Wk w (W.setCell ⟨g,i*9+j,none⟩ u) base par B gm cs { m with panics:=m.panics.set i q' } v∧Evt W (W.setCell ⟨g,i*9+j,none⟩ u) (some g) 225:=by
 have hi':i<(m.panics.set i q).length:=by rw [List.length_set];exact hi
 have hx:(m.panics.set i q)[i]=q:=List.getElem_set_self hi'
 have:=h.setPanic (by rw [hv];show _=Value.slice _ (m.panics.set i q).length _;rw [List.length_set]) i j hi' hj u q' (fun y=>by show(piC (m.panics.set i q)[i] y).set j u=_;rw [hx];exact hq y) (by show _=(m.panics.set i q)[i].unw;rw [hx];exact hun)
 have hs:(m.panics.set i q).set i q'=m.panics.set i q':=List.set_set _
 simp only [hs] at this
 exact this
theorem Wk.panCell' {m:MS} {i:Nat} {q:PI} (h:Wk w W base par B gm cs { m with panics:=m.panics.set i q } v){g cap:Nat} (hv:v.pa= .slice (some ⟨g,0,none⟩) m.panics.length cap)(j:Nat)(hi:i<m.panics.length)(hj:j<8):(∃ u,W.cell? ⟨g,i*9+j,none⟩=some u∧(piC q (.slice none 0 0))[j]? =some u)∧W.frozen? ⟨g,i*9+j,none⟩=false:=by
 have hi':i<(m.panics.set i q).length:=by rw [List.length_set];exact hi
 have hx:(m.panics.set i q)[i]=q:=List.getElem_set_self hi'
 have:=h.panCell (by rw [hv];show _=Value.slice _ (m.panics.set i q).length _;rw [List.length_set]) i j hi' zq90
 refine⟨?_,this.2⟩
 rw [this.1]
 show ∃ u,(piC (m.panics.set i q)[i] _)[j]? =some u∧_
 rw [hx]
 rcases j with _|_|_|_|_|_|_|_|j
 all_goals first|exact⟨_,rfl,rfl⟩|omega
theorem finishI_1 {m:MS} {f:Fr} {i:Nat} (hf:f.fin=1)(hid:f.id=i)(hi:i<m.calls.length):finishI m f=tell { m with calls:=m.calls.set i { m.calls[i] with fin:=1,val:=f.r1 } } 7 f.fn f.r1 i:=by
 unfold finishI
 simp [hf,hid,List.getD_eq_getElem?_getD,List.getElem?_eq_getElem hi]
theorem finishI_3 {m:MS} {f:Fr} {i:Nat} (hf:f.fin=3)(hid:f.id=i)(hi:i<m.calls.length):finishI m f=tell { m with calls:=m.calls.set i { m.calls[i] with fin:=3,val:=0 } } 9 f.fn 0 i:=by
 unfold finishI
 simp [hf,hid,List.getD_eq_getElem?_getD,List.getElem?_eq_getElem hi]
theorem finishI_2 {m:MS} {f:Fr} {i j:Nat} (hf:f.fin=2)(hid:f.id=i)(hi:i<m.calls.length)(hp:f.pan=j)(hj:j<m.panics.length) :
  finishI m f=tell { m with panics:=m.panics.set j { m.panics[j] with unw:=m.panics[j].unw++ [f.fn] },calls:=m.calls.set i { m.calls[i] with fin:=2,val:=m.panics[j].val } } 8 f.fn m.panics[j].val i:=by
 unfold finishI
 simp [hf,hid,hp,setPan,panAt,List.getD_eq_getElem?_getD,List.getElem?_eq_getElem hi,List.getElem?_eq_getElem hj]
theorem behindI_6 {m:MS} {f d:Fr} (hd:d.fin=1)(hc:d.counted=false):behindI m f d=(m,{ f with leaving:=f.leaving||d.leaving }):=by
 unfold behindI
 simp [hd,hc]
theorem behindI_5 {m:MS} {f d:Fr} (hd:d.fin=1)(hc:d.counted=true):behindI m f d=(m,{ f with leaving:=f.leaving||d.leaving,fin:=if(f.leaving||d.leaving)=true then 3 else 1 }):=by
 unfold behindI
 simp [hd,hc]
theorem behindI_4 {m:MS} {f d:Fr} (hd:d.fin=3)(hc: ¬(f.fin=2∧d.counted=false)):behindI m f d=(m,{ f with leaving:=f.leaving||d.leaving,fin:=3 }):=by
 unfold behindI
 rw [hd]
 rw [if_neg zq83,if_pos rfl,if_neg hc]
theorem behindI_3 {m:MS} {f d:Fr} {i:Nat} (hd:d.fin=3)(hf:f.fin=2)(hc:d.counted=false)(hp:f.pan=i)(hi:i<m.panics.length):behindI m f d=({ m with panics:=m.panics.set i { m.panics[i] with fate:=4 } },{ f with leaving:=f.leaving||d.leaving,fin:=3 }):=by
 unfold behindI
 simp [hd,hf,hc,hp,setPan,panAt,List.getD_eq_getElem?_getD,List.getElem?_eq_getElem hi]
theorem behindI_2 {m:MS} {f d:Fr} (hd:d.fin=2)(hc: ¬(f.fin=2∧d.counted=false)):behindI m f d=(m,{ f with leaving:=f.leaving||d.leaving,fin:=2,pan:=d.pan }):=by
 unfold behindI
 rw [hd]
 rw [if_pos rfl,if_neg hc]
theorem behindI_1 {m:MS} {f d:Fr} {i k:Nat} (hd:d.fin=2)(hf:f.fin=2)(hc:d.counted=false)(hp:f.pan=i)(hi:i<m.panics.length)(hq:d.pan=k)(hk:k<m.panics.length) :
  behindI m f d=({ m with panics:=(m.panics.set i { m.panics[i] with fate:=2,by_:=(k:Int) }).set k { (m.panics.set i { m.panics[i] with fate:=2,by_:=(k:Int) })[k]'(by rw [List.length_set];exact hk) with last:=(i:Int) } },{ f with leaving:=f.leaving||d.leaving,fin:=2,pan:=d.pan }):=by
 have hk':k<(m.panics.set i { m.panics[i] with fate:=2,by_:=(k:Int) }).length:=by rw [List.length_set];exact hk
 unfold behindI
 simp only [hd,hf,hc,hp,hq,setPan,panAt,List.getD_eq_getElem?_getD,List.getElem?_eq_getElem hi,Int.toNat_natCast,Option.getD_some,if_true,and_self,List.getElem?_eq_getElem hk']
theorem Wk.panVal' {m:MS} {i:Nat} {q:PI} (h:Wk w W base par B gm cs { m with panics:=m.panics.set i q } v){g cap:Nat} (hv:v.pa= .slice (some ⟨g,0,none⟩) m.panics.length cap)(j:Nat)(hi:i<m.panics.length)(hj:j<8):W.cell? ⟨g,i*9+j,none⟩=(piC q (.slice none 0 0))[j]? :=by
 obtain⟨⟨u,h1,h2⟩,_⟩:=h.panCell' hv j hi hj
 rw [h1,h2]
theorem frC_reg(f:Fr)(rv pv:Value)(r:Nat)(hr:r<4):(frC f rv pv).toArray[2+r]? =some (.int .i64 (reg f r)):=by
 rcases r with _|_|_|_|r
 ·rfl
 ·rfl
 ·rfl
 ·rfl
 ·omega
theorem frC_set(f:Fr)(rv pv:Value)(r:Nat)(hr:r<4)(x:Int):(frC f rv pv).toArray.setIfInBounds (2+r) (.int .i64 x)=(frC (setReg f r x) rv pv).toArray:=by
 rcases r with _|_|_|_|r
 ·rfl
 ·rfl
 ·rfl
 ·rfl
 ·omega
end Go.Proofs.Yteiafboknimgbaa.Pr.M
end

section
namespace Go.Proofs.Yteiafboknimgbaa.Pr.M
open Go.RowKit Go.Proofs.W.PrintWords Go.Proofs.W.PrintLast Go.Proofs.W.PrintMore
theorem finish1(w:World)(base gm gf:Nat)(A0:Value)(fuel:Int)(m:MS)(v:MV)(f:Fr)(rv par:Value)(H:Mach w base gm A0 fuel m v)(hF:w.heap[gf]? =some (.cells (frC f rv par).toArray 292 (0,0)))(hb:base≤w.heap.size)
  (hfin:f.fin=1) (i:Nat) (hid:f.id=i) (hi:i<m.calls.length) (hr:m.trace.length≤100000) (ho:m.owners.length≤100000) :
  Calls Try.prog 305 #[.pointer (some ⟨gm,0,none⟩),.pointer (some ⟨gf,0,none⟩)] w fun e w'=>e= .returned (.tuple #[])∧ ∃ v',v'.pl=v.pl∧Mach w' base gm A0 fuel (finishI m f) v'∧KeptM base none w w':=by
 have e170: ∀ args w,(callFunc 302 args).run Try.prog w= .ok (.enter 302 args) w:=enters_of Try.func302 zq27 rfl
 have HA:=Z (H.wk hb none w.heap.size)
 clear H
 have HF:=am hF
 clear hF
 have hpos:0<m.calls.length:=by omega
 obtain⟨gc,cc,hca,hgc,hcc,hcm⟩:=own_form HA.out.rows.ca hpos
 have HCA:=am hca
 clear hca
 unfold maxLen at hcm
 have HI:=am hid
 clear hid
 have HFin:=am hfin
 clear hfin
 have hc11:w.cell? ⟨gf,11,none⟩=some (.int .i64 1):=(blk_cell HF.out 11).trans (by rw [← HFin.out];rfl)
 go_enter Try.func305,Try.ntmps305
 go_upto_region 3 with(fail)
 clear hc11
 have hE0_:=Evt.drew w 292
 replace HA:=Z (HA.out.drew)
 replace HF:=(Evt.drew w 0).b HF
 clear hE0_
 refine start_ (n:=7) (S:=fun w'=>w'.cell? ⟨gf,3,none⟩=some (.int .i64 f.r1)∧True) (ds:= []) (bb 7 0) zq27 rfl rfl ⟨(blk_cell HF.out 3).trans rfl,trivial⟩ (fun hHeld=> ?_)
 generalize w.drew=x1 at HA HF hHeld ⊢
 refine pure1 0 12 (bb 7 1) (h:= ?_)
 refine pure1 1 13 (bb 7 3) (h:= ?_)
 refine pure1 2 14 (bb 7 7) (h:= ?_)
 refine pure1 3 15 (bb 7 15) (h:= ?_)
 refine take1 4 16 (bb 7 31) (hS:=hHeld) (h:= ?_)
 refine pure1 5 4 (bb 7 63) (h:= ?_)
 refine pure1 6 5 (bb 7 127) (h:= ?_)
 refine done_ zq27 ?_
 go_upto_region 7 with(fail)
 have hE0_:=Evt.drew x1 292
 replace HA:=Z (HA.out.drew)
 replace HF:=(Evt.drew x1 0).b HF
 clear hE0_
 refine start_ (n:=29) (S:=fun w'=>w'.cell? ⟨gm,8,none⟩=some (.slice (some ⟨gc,0,none⟩) m.calls.length cc)∧w'.cell? ⟨gf,0,none⟩=some (.int .i64 (i:Int))∧w'.cell? ⟨gf,11,none⟩=some (.int .i64 1)∧True) (ds:= [24,28]) (bb 29 0) zq27 rfl rfl ⟨(blk_cell HA.out.blk 8).trans zq122,(blk_cell HF.out 0).trans (by rw [← HI.out];rfl),(blk_cell HF.out 11).trans (by rw [← HFin.out];rfl),trivial⟩ (fun hHeld=> ?_)
 generalize x1.drew=x2 at HA HF hHeld ⊢
 refine pure1 0 57 (bb 29 1) (h:= ?_)
 refine pure1 1 58 (bb 29 3) (h:= ?_)
 refine pure1 2 59 (bb 29 7) (h:= ?_)
 refine take1 3 60 (bb 29 15) (hS:=hHeld) (h:= ?_)
 refine pure1 4 61 (bb 29 31) (h:= ?_)
 refine pure1 5 62 (bb 29 63) (h:= ?_)
 refine pure1 6 63 (bb 29 127) (h:= ?_)
 refine take1 7 64 (bb 29 255) (hS:=hHeld) (h:= ?_)
 refine pure1 8 65 (bb 29 511) (h:= ?_)
 refine pure1 9 66 (bb 29 1023) (h:= ?_)
 refine pure1 10 67 (bb 29 2047) (h:= ?_)
 refine take1 11 68 (bb 29 4095) (hS:=hHeld) (h:= ?_)
 refine pure1 12 69 (bb 29 8191) (h:= ?_)
 refine pure1 13 70 (bb 29 16383) (h:= ?_)
 refine pure1 14 71 (bb 29 32767) (h:= ?_)
 refine take1 15 72 (bb 29 65535) (hS:=hHeld) (h:= ?_)
 refine pure1 16 73 (bb 29 131071) (h:= ?_)
 refine pure1 17 74 (bb 29 262143) (h:= ?_)
 refine pure1 18 75 (bb 29 524287) (h:= ?_)
 refine take1 19 76 (bb 29 1048575) (hS:=hHeld) (h:= ?_)
 refine pure1 20 77 (bb 29 2097151) (h:= ?_)
 refine pure1 21 78 (bb 29 4194303) (h:= ?_)
 refine pure1 22 79 (bb 29 8388607) (h:= ?_)
 refine pure1 23 80 (bb 29 16777215) (h:= ?_)
 refine la 24 none (bb 29 33554431) (h:=fun K hK=> ?_)
 have hc_:=(HA.out.callCell (m:=m) HCA.out i 3 hi zq83).1.trans (show _=some (Value.int .i64 m.calls[i].fin) from rfl)
 have hf_:=(HA.out.callCell (m:=m) HCA.out i 3 hi zq83).2
 rw [if_pos (by rfl)]
 unfold Oper.wp
 go_simp
 clear hc_ hf_
 have hev:=(HA.out.setCall (m:=m) HCA.out i 3 hi zq83 (.int .i64 1) { m.calls[i] with fin:=1 } rfl).2
 replace HA:=Z ((HA.out.setCall (m:=m) HCA.out i 3 hi zq83 (.int .i64 1) { m.calls[i] with fin:=1 } rfl).1)
 replace HF:=hev.b HF
 generalize x2.setCell ⟨gc,i*6+3,none⟩ (.int .i64 1)=x3 at HA HF ⊢
 clear hev
 refine hK.out _ _ ?_
 clear hK K
 refine pure1 25 81 (bb 29 67108863) (h:= ?_)
 refine pure1 26 82 (bb 29 134217727) (h:= ?_)
 refine pure1 27 83 (bb 29 268435455) (h:= ?_)
 refine la 28 none (bb 29 536870911) (h:=fun K hK=> ?_)
 have hc_:=(HA.out.callCell' (m:=m) (c:= { m.calls[i] with fin:=1 }) HCA.out 4 hi zq83).1.trans (show _=some (Value.int .i64 m.calls[i].val) from rfl)
 have hf_:=(HA.out.callCell' (m:=m) (c:= { m.calls[i] with fin:=1 }) HCA.out 4 hi zq83).2
 rw [if_pos (by rfl)]
 unfold Oper.wp
 go_simp
 clear hc_ hf_
 have hev:=(HA.out.setCall' (m:=m) (c:= { m.calls[i] with fin:=1 }) HCA.out 4 hi zq83 (.int .i64 f.r1) { m.calls[i] with fin:=1,val:=f.r1 } rfl).2
 replace HA:=Z ((HA.out.setCall' (m:=m) (c:= { m.calls[i] with fin:=1 }) HCA.out 4 hi zq83 (.int .i64 f.r1) { m.calls[i] with fin:=1,val:=f.r1 } rfl).1)
 replace HF:=hev.b HF
 generalize x3.setCell ⟨gc,i*6+4,none⟩ (.int .i64 (f.r1))=x4 at HA HF ⊢
 clear hev
 refine hK.out _ _ ?_
 clear hK K
 refine done_ zq27 ?_
 go_upto_region 8 with(fail)
 have hE0_:=Evt.drew x4 292
 replace HA:=Z (HA.out.drew)
 replace HF:=(Evt.drew x4 0).b HF
 clear hE0_
 refine start_ (n:=12) (S:=fun w'=>w'.cell? ⟨gf,1,none⟩=some (.int .i64 f.fn)∧w'.cell? ⟨gf,0,none⟩=some (.int .i64 (i:Int))∧True) (ds:= [11]) (bb 12 0) zq27 rfl rfl ⟨(blk_cell HF.out 1).trans rfl,(blk_cell HF.out 0).trans (by rw [← HI.out];rfl),trivial⟩ (fun hHeld=> ?_)
 generalize x4.drew=x5 at HA HF hHeld ⊢
 refine pure1 0 84 (bb 12 1) (h:= ?_)
 refine pure1 1 85 (bb 12 3) (h:= ?_)
 refine pure1 2 86 (bb 12 7) (h:= ?_)
 refine pure1 3 87 (bb 12 15) (h:= ?_)
 refine pure1 4 88 (bb 12 31) (h:= ?_)
 refine take1 5 89 (bb 12 63) (hS:=hHeld) (h:= ?_)
 refine pure1 6 90 (bb 12 127) (h:= ?_)
 refine pure1 7 91 (bb 12 255) (h:= ?_)
 refine pure1 8 92 (bb 12 511) (h:= ?_)
 refine pure1 9 93 (bb 12 1023) (h:= ?_)
 refine take1 10 94 (bb 12 2047) (hS:=hHeld) (h:= ?_)
 refine la 11 (some 95) (bb 12 4095) (h:=fun K hK=> ?_)
 refine goes_ Try.func302 zq27 rfl #[.pointer (some ⟨gm,0,none⟩),.int .i64 7,.int .i64 f.fn,.int .i64 (f.r1),.int .i64 (i:Int)] (by rfl) rfl rfl zq84 ?_
 refine(tell.calls _ base gm A0 fuel ({ m with calls:=m.calls.set i { m.calls[i] with fin:=1,val:=f.r1 } }) v 7 f.fn (f.r1) i (HA.out.mach (A0:=A0) (fuel:=fuel) (m:= { m with calls:=m.calls.set i { m.calls[i] with fin:=1,val:=f.r1 } }) (v:=v)) HA.out.sz (by exact hr) (by exact ho)).mono ?_
 rintro e wz ⟨rfl,t,q,hM,hK2⟩
 refine⟨_,rfl,?_⟩
 have n0_:=Z (HA.out.toM.trans hK2)
 clear HA
 have HZ:=am hM
 clear hM
 refine hK.out _ _ ?_
 clear hK K
 refine nm 95 (h:= ?_)
 refine done_ zq27 ?_
 refine end0_ rfl rfl ?_
 refine⟨rfl,_,?_,by rw [finishI_1 HFin.out HI.out hi];exact HZ.out,n0_.out⟩
 rfl
theorem finish3(w:World)(base gm gf:Nat)(A0:Value)(fuel:Int)(m:MS)(v:MV)(f:Fr)(rv par:Value)(H:Mach w base gm A0 fuel m v)(hF:w.heap[gf]? =some (.cells (frC f rv par).toArray 292 (0,0)))(hb:base≤w.heap.size)
  (hfin:f.fin=3) (i:Nat) (hid:f.id=i) (hi:i<m.calls.length) (hr:m.trace.length≤100000) (ho:m.owners.length≤100000) :
  Calls Try.prog 305 #[.pointer (some ⟨gm,0,none⟩),.pointer (some ⟨gf,0,none⟩)] w fun e w'=>e= .returned (.tuple #[])∧ ∃ v',v'.pl=v.pl∧Mach w' base gm A0 fuel (finishI m f) v'∧KeptM base none w w':=by
 have e170: ∀ args w,(callFunc 302 args).run Try.prog w= .ok (.enter 302 args) w:=enters_of Try.func302 zq27 rfl
 have HA:=Z (H.wk hb none w.heap.size)
 clear H
 have HF:=am hF
 clear hF
 have hpos:0<m.calls.length:=by omega
 obtain⟨gc,cc,hca,hgc,hcc,hcm⟩:=own_form HA.out.rows.ca hpos
 have HCA:=am hca
 clear hca
 unfold maxLen at hcm
 have HI:=am hid
 clear hid
 have HFin:=am hfin
 clear hfin
 have hc11:w.cell? ⟨gf,11,none⟩=some (.int .i64 3):=(blk_cell HF.out 11).trans (by rw [← HFin.out];rfl)
 go_enter Try.func305,Try.ntmps305
 go_upto_region 7 with(fail)
 clear hc11
 have hE0_:=Evt.drew w 292
 replace HA:=Z (HA.out.drew)
 replace HF:=(Evt.drew w 0).b HF
 clear hE0_
 refine start_ (n:=29) (S:=fun w'=>w'.cell? ⟨gm,8,none⟩=some (.slice (some ⟨gc,0,none⟩) m.calls.length cc)∧w'.cell? ⟨gf,0,none⟩=some (.int .i64 (i:Int))∧w'.cell? ⟨gf,11,none⟩=some (.int .i64 3)∧True) (ds:= [24,28]) (bb 29 0) zq27 rfl rfl ⟨(blk_cell HA.out.blk 8).trans zq122,(blk_cell HF.out 0).trans (by rw [← HI.out];rfl),(blk_cell HF.out 11).trans (by rw [← HFin.out];rfl),trivial⟩ (fun hHeld=> ?_)
 generalize w.drew=x1 at HA HF hHeld ⊢
 refine pure1 0 57 (bb 29 1) (h:= ?_)
 refine pure1 1 58 (bb 29 3) (h:= ?_)
 refine pure1 2 59 (bb 29 7) (h:= ?_)
 refine take1 3 60 (bb 29 15) (hS:=hHeld) (h:= ?_)
 refine pure1 4 61 (bb 29 31) (h:= ?_)
 refine pure1 5 62 (bb 29 63) (h:= ?_)
 refine pure1 6 63 (bb 29 127) (h:= ?_)
 refine take1 7 64 (bb 29 255) (hS:=hHeld) (h:= ?_)
 refine pure1 8 65 (bb 29 511) (h:= ?_)
 refine pure1 9 66 (bb 29 1023) (h:= ?_)
 refine pure1 10 67 (bb 29 2047) (h:= ?_)
 refine take1 11 68 (bb 29 4095) (hS:=hHeld) (h:= ?_)
 refine pure1 12 69 (bb 29 8191) (h:= ?_)
 refine pure1 13 70 (bb 29 16383) (h:= ?_)
 refine pure1 14 71 (bb 29 32767) (h:= ?_)
 refine take1 15 72 (bb 29 65535) (hS:=hHeld) (h:= ?_)
 refine pure1 16 73 (bb 29 131071) (h:= ?_)
 refine pure1 17 74 (bb 29 262143) (h:= ?_)
 refine pure1 18 75 (bb 29 524287) (h:= ?_)
 refine take1 19 76 (bb 29 1048575) (hS:=hHeld) (h:= ?_)
 refine pure1 20 77 (bb 29 2097151) (h:= ?_)
 refine pure1 21 78 (bb 29 4194303) (h:= ?_)
 refine pure1 22 79 (bb 29 8388607) (h:= ?_)
 refine pure1 23 80 (bb 29 16777215) (h:= ?_)
 refine la 24 none (bb 29 33554431) (h:=fun K hK=> ?_)
 have hc_:=(HA.out.callCell (m:=m) HCA.out i 3 hi zq83).1.trans (show _=some (Value.int .i64 m.calls[i].fin) from rfl)
 have hf_:=(HA.out.callCell (m:=m) HCA.out i 3 hi zq83).2
 rw [if_pos (by rfl)]
 unfold Oper.wp
 go_simp
 clear hc_ hf_
 have hev:=(HA.out.setCall (m:=m) HCA.out i 3 hi zq83 (.int .i64 3) { m.calls[i] with fin:=3 } rfl).2
 replace HA:=Z ((HA.out.setCall (m:=m) HCA.out i 3 hi zq83 (.int .i64 3) { m.calls[i] with fin:=3 } rfl).1)
 replace HF:=hev.b HF
 generalize x1.setCell ⟨gc,i*6+3,none⟩ (.int .i64 3)=x2 at HA HF ⊢
 clear hev
 refine hK.out _ _ ?_
 clear hK K
 refine pure1 25 81 (bb 29 67108863) (h:= ?_)
 refine pure1 26 82 (bb 29 134217727) (h:= ?_)
 refine pure1 27 83 (bb 29 268435455) (h:= ?_)
 refine la 28 none (bb 29 536870911) (h:=fun K hK=> ?_)
 have hc_:=(HA.out.callCell' (m:=m) (c:= { m.calls[i] with fin:=3 }) HCA.out 4 hi zq83).1.trans (show _=some (Value.int .i64 m.calls[i].val) from rfl)
 have hf_:=(HA.out.callCell' (m:=m) (c:= { m.calls[i] with fin:=3 }) HCA.out 4 hi zq83).2
 rw [if_pos (by rfl)]
 unfold Oper.wp
 go_simp
 clear hc_ hf_
 have hev:=(HA.out.setCall' (m:=m) (c:= { m.calls[i] with fin:=3 }) HCA.out 4 hi zq83 (.int .i64 0) { m.calls[i] with fin:=3,val:=0 } rfl).2
 replace HA:=Z ((HA.out.setCall' (m:=m) (c:= { m.calls[i] with fin:=3 }) HCA.out 4 hi zq83 (.int .i64 0) { m.calls[i] with fin:=3,val:=0 } rfl).1)
 replace HF:=hev.b HF
 generalize x2.setCell ⟨gc,i*6+4,none⟩ (.int .i64 0)=x3 at HA HF ⊢
 clear hev
 refine hK.out _ _ ?_
 clear hK K
 refine done_ zq27 ?_
 go_upto_region 8 with(fail)
 have hE0_:=Evt.drew x3 292
 replace HA:=Z (HA.out.drew)
 replace HF:=(Evt.drew x3 0).b HF
 clear hE0_
 refine start_ (n:=12) (S:=fun w'=>w'.cell? ⟨gf,1,none⟩=some (.int .i64 f.fn)∧w'.cell? ⟨gf,0,none⟩=some (.int .i64 (i:Int))∧True) (ds:= [11]) (bb 12 0) zq27 rfl rfl ⟨(blk_cell HF.out 1).trans rfl,(blk_cell HF.out 0).trans (by rw [← HI.out];rfl),trivial⟩ (fun hHeld=> ?_)
 generalize x3.drew=x4 at HA HF hHeld ⊢
 refine pure1 0 84 (bb 12 1) (h:= ?_)
 refine pure1 1 85 (bb 12 3) (h:= ?_)
 refine pure1 2 86 (bb 12 7) (h:= ?_)
 refine pure1 3 87 (bb 12 15) (h:= ?_)
 refine pure1 4 88 (bb 12 31) (h:= ?_)
 refine take1 5 89 (bb 12 63) (hS:=hHeld) (h:= ?_)
 refine pure1 6 90 (bb 12 127) (h:= ?_)
 refine pure1 7 91 (bb 12 255) (h:= ?_)
 refine pure1 8 92 (bb 12 511) (h:= ?_)
 refine pure1 9 93 (bb 12 1023) (h:= ?_)
 refine take1 10 94 (bb 12 2047) (hS:=hHeld) (h:= ?_)
 refine la 11 (some 95) (bb 12 4095) (h:=fun K hK=> ?_)
 refine goes_ Try.func302 zq27 rfl #[.pointer (some ⟨gm,0,none⟩),.int .i64 9,.int .i64 f.fn,.int .i64 0,.int .i64 (i:Int)] (by rfl) rfl rfl zq84 ?_
 refine(tell.calls _ base gm A0 fuel ({ m with calls:=m.calls.set i { m.calls[i] with fin:=3,val:=0 } }) v 9 f.fn (0) i (HA.out.mach (A0:=A0) (fuel:=fuel) (m:= { m with calls:=m.calls.set i { m.calls[i] with fin:=3,val:=0 } }) (v:=v)) HA.out.sz (by exact hr) (by exact ho)).mono ?_
 rintro e wz ⟨rfl,t,q,hM,hK2⟩
 refine⟨_,rfl,?_⟩
 have n0_:=Z (HA.out.toM.trans hK2)
 clear HA
 have HZ:=am hM
 clear hM
 refine hK.out _ _ ?_
 clear hK K
 refine nm 95 (h:= ?_)
 refine done_ zq27 ?_
 refine end0_ rfl rfl ?_
 refine⟨rfl,_,?_,by rw [finishI_3 HFin.out HI.out hi];exact HZ.out,n0_.out⟩
 rfl
theorem finish2(w:World)(base gm gf:Nat)(A0:Value)(fuel:Int)(m:MS)(v:MV)(f:Fr)(rv par:Value)(H:Mach w base gm A0 fuel m v)(hF:w.heap[gf]? =some (.cells (frC f rv par).toArray 292 (0,0)))(hb:base≤w.heap.size)
  (hfin:f.fin=2) (i:Nat) (hid:f.id=i) (hi:i<m.calls.length) (j:Nat) (hpan:f.pan=j) (hj:j<m.panics.length) (hun: ∀ q∈m.panics,q.unw.length≤100000) (hr:m.trace.length≤100000) (ho:m.owners.length≤100000) :
  Calls Try.prog 305 #[.pointer (some ⟨gm,0,none⟩),.pointer (some ⟨gf,0,none⟩)] w fun e w'=>e= .returned (.tuple #[])∧ ∃ v',v'.pl=v.pl∧Mach w' base gm A0 fuel (finishI m f) v'∧KeptM base none w w':=by
 have e170: ∀ args w,(callFunc 302 args).run Try.prog w= .ok (.enter 302 args) w:=enters_of Try.func302 zq27 rfl
 have HA:=Z (H.wk hb none w.heap.size)
 clear H
 have HF:=am hF
 clear hF
 have hpos:0<m.calls.length:=by omega
 obtain⟨gc,cc,hca,hgc,hcc,hcm⟩:=own_form HA.out.rows.ca hpos
 have hpos2:0<m.panics.length:=by omega
 obtain⟨gp,cp,hpa,hgp,hcp,hcpm⟩:=own_form HA.out.rows.pa hpos2
 have HPA:=am hpa
 clear hpa
 unfold maxLen at hcpm
 have hvu:j<v.unw.length:=by rw [HA.out.rows.ul];exact hj
 have HCA:=am hca
 clear hca
 unfold maxLen at hcm
 have HI:=am hid
 clear hid
 have HFin:=am hfin
 clear hfin
 have HPan:=am hpan
 clear hpan
 have hc11:w.cell? ⟨gf,11,none⟩=some (.int .i64 2):=(blk_cell HF.out 11).trans (by rw [← HFin.out];rfl)
 go_enter Try.func305,Try.ntmps305
 go_upto_region 5 with(fail)
 clear hc11
 have hE0_:=Evt.drew w 292
 replace HA:=Z (HA.out.drew)
 replace HF:=(Evt.drew w 0).b HF
 clear hE0_
 refine start_ (n:=13) (S:=fun w'=>w'.cell? ⟨gm,9,none⟩=some (.slice (some ⟨gp,0,none⟩) m.panics.length cp)∧w'.cell? ⟨gf,12,none⟩=some (.int .i64 (j:Int))∧w'.cell? ⟨gp,j*9+2,none⟩=some (.int .i64 m.panics[j].val)∧True) (ds:= []) (bb 13 0) zq27 rfl rfl ⟨(blk_cell HA.out.blk 9).trans zq130,(blk_cell HF.out 12).trans (by rw [← HPan.out];rfl),(HA.out.panCell HPA.out j 2 hj zq83).1.trans rfl,trivial⟩ (fun hHeld=> ?_)
 generalize w.drew=x1 at HA HF hHeld ⊢
 refine pure1 0 19 (bb 13 1) (h:= ?_)
 refine pure1 1 20 (bb 13 3) (h:= ?_)
 refine pure1 2 21 (bb 13 7) (h:= ?_)
 refine take1 3 22 (bb 13 15) (hS:=hHeld) (h:= ?_)
 refine pure1 4 23 (bb 13 31) (h:= ?_)
 refine pure1 5 24 (bb 13 63) (h:= ?_)
 refine pure1 6 25 (bb 13 127) (h:= ?_)
 refine take1 7 26 (bb 13 255) (hS:=hHeld) (h:= ?_)
 refine pure1 8 27 (bb 13 511) (h:= ?_)
 refine pure1 9 28 (bb 13 1023) (h:= ?_)
 refine take1 10 29 (bb 13 2047) (hS:=hHeld) (h:= ?_)
 refine pure1 11 4 (bb 13 4095) (h:= ?_)
 refine pure1 12 5 (bb 13 8191) (h:= ?_)
 refine done_ zq27 ?_
 go_upto_region 6 with(fail)
 have hE0_:=Evt.drew x1 292
 replace HA:=Z (HA.out.drew)
 replace HF:=(Evt.drew x1 0).b HF
 clear hE0_
 refine start_ (n:=28) (S:=fun w'=>w'.cell? ⟨gm,9,none⟩=some (.slice (some ⟨gp,0,none⟩) m.panics.length cp)∧w'.cell? ⟨gf,12,none⟩=some (.int .i64 (j:Int))∧w'.cell? ⟨gp,j*9+8,none⟩=some (v.unw[j])∧w'.cell? ⟨gf,1,none⟩=some (.int .i64 f.fn)∧True) (ds:= [27]) (bb 28 0) zq27 rfl rfl ⟨(blk_cell HA.out.blk 9).trans zq130,(blk_cell HF.out 12).trans (by rw [← HPan.out];rfl),(HA.out.panCell HPA.out j 8 hj zq83).1.trans rfl,(blk_cell HF.out 1).trans rfl,trivial⟩ (fun hHeld=> ?_)
 generalize x1.drew=x2 at HA HF hHeld ⊢
 refine pure1 0 30 (bb 28 1) (h:= ?_)
 refine pure1 1 31 (bb 28 3) (h:= ?_)
 refine pure1 2 32 (bb 28 7) (h:= ?_)
 refine take1 3 33 (bb 28 15) (hS:=hHeld) (h:= ?_)
 refine pure1 4 34 (bb 28 31) (h:= ?_)
 refine pure1 5 35 (bb 28 63) (h:= ?_)
 refine pure1 6 36 (bb 28 127) (h:= ?_)
 refine take1 7 37 (bb 28 255) (hS:=hHeld) (h:= ?_)
 refine pure1 8 38 (bb 28 511) (h:= ?_)
 refine pure1 9 39 (bb 28 1023) (h:= ?_)
 refine pure1 10 40 (bb 28 2047) (h:= ?_)
 refine take1 11 41 (bb 28 4095) (hS:=hHeld) (h:= ?_)
 refine pure1 12 42 (bb 28 8191) (h:= ?_)
 refine pure1 13 43 (bb 28 16383) (h:= ?_)
 refine pure1 14 44 (bb 28 32767) (h:= ?_)
 refine take1 15 45 (bb 28 65535) (hS:=hHeld) (h:= ?_)
 refine pure1 16 46 (bb 28 131071) (h:= ?_)
 refine pure1 17 47 (bb 28 262143) (h:= ?_)
 refine take1 18 48 (bb 28 524287) (hS:=hHeld) (h:= ?_)
 refine pure1 19 49 (bb 28 1048575) (h:= ?_)
 refine pure1 20 50 (bb 28 2097151) (h:= ?_)
 refine pure1 21 51 (bb 28 4194303) (h:= ?_)
 refine take1 22 52 (bb 28 8388607) (hS:=hHeld) (h:= ?_)
 refine on_ 23 (some 53) (bb 28 16777215) (h:=fun K hK=> ?_)
 refine alloc_ (cs:= #[Value.int .i64 f.fn]) (e:=3) (n:=1) (by rfl) rfl zq88 ?_
 intro gA hgA x3 hnew hbel
 have hE_:=Evt.below hbel 0
 replace HA:=Z (HA.out.below hbel)
 replace HF:=hE_.b HF
 have GgA:=am hnew
 clear hnew hbel hgA hE_
 refine hK.out _ _ ⟨(blk_cell HA.out.blk 9).trans zq130,(blk_cell HF.out 12).trans (by rw [← HPan.out];rfl),(HA.out.panCell HPA.out j 8 hj zq83).1.trans rfl,(blk_cell HF.out 1).trans rfl,trivial⟩ (fun hHeld=> ?_)
 clear hK K
 refine nm 53 (h:= ?_)
 refine on_ 24 (some 54) (bb 28 33554431) (h:=fun K hK=> ?_)
 obtain⟨t,x4,hE,hev,⟨tA,tc,ht⟩,hst⟩:=HA.out.appUnw j hj hvu gA 1 f.fn GgA.out (hun _ (List.getElem_mem hj))
 subst ht
 refine ev_ (v:= .slice tA (m.panics[j].unw.length+1) tc) (w':=x4) (by rfl) rfl (appRun_ _ _ _ rfl rfl rfl rfl hE) ?_
 clear hE GgA
 replace HF:=hev.b HF
 have HST:=Z (hst gp cp HPA.out)
 have HB:=Z (hev.blk HA.out.blk zq83)
 clear hst HA hev
 refine hK.out _ _ ⟨(blk_cell HB.out 9).trans zq130,(blk_cell HF.out 12).trans (by rw [← HPan.out];rfl),HST.out.2.1.1,(blk_cell HF.out 1).trans rfl,trivial⟩ (fun hHeld=> ?_)
 clear hK K
 refine nm 54 (h:= ?_)
 refine pure1 25 55 (bb 28 67108863) (h:= ?_)
 refine pure1 26 56 (bb 28 134217727) (h:= ?_)
 refine la 27 none (bb 28 268435455) (h:=fun K hK=> ?_)
 obtain⟨hev,⟨hc_,hf_⟩,hA'⟩:=HST.out
 rw [if_pos (by rfl)]
 unfold Oper.wp
 go_simp
 clear hc_ hf_ HST HB
 replace HF:=hev.b HF
 have HA:=am hA'
 clear hA' hev
 generalize x4.setCell ⟨gp,j*9+8,none⟩ (.slice tA (m.panics[j].unw.length+1) tc)=x5 at HA HF ⊢
 refine hK.out _ _ ?_
 clear hK K
 refine done_ zq27 ?_
 go_upto_region 7 with(fail)
 have hE0_:=Evt.drew x5 292
 replace HA:=Z (HA.out.drew)
 replace HF:=(Evt.drew x5 0).b HF
 clear hE0_
 refine start_ (n:=29) (S:=fun w'=>w'.cell? ⟨gm,8,none⟩=some (.slice (some ⟨gc,0,none⟩) m.calls.length cc)∧w'.cell? ⟨gf,0,none⟩=some (.int .i64 (i:Int))∧w'.cell? ⟨gf,11,none⟩=some (.int .i64 2)∧True) (ds:= [24,28]) (bb 29 0) zq27 rfl rfl ⟨(blk_cell HA.out.blk 8).trans zq122,(blk_cell HF.out 0).trans (by rw [← HI.out];rfl),(blk_cell HF.out 11).trans (by rw [← HFin.out];rfl),trivial⟩ (fun hHeld=> ?_)
 generalize x5.drew=x6 at HA HF hHeld ⊢
 refine pure1 0 57 (bb 29 1) (h:= ?_)
 refine pure1 1 58 (bb 29 3) (h:= ?_)
 refine pure1 2 59 (bb 29 7) (h:= ?_)
 refine take1 3 60 (bb 29 15) (hS:=hHeld) (h:= ?_)
 refine pure1 4 61 (bb 29 31) (h:= ?_)
 refine pure1 5 62 (bb 29 63) (h:= ?_)
 refine pure1 6 63 (bb 29 127) (h:= ?_)
 refine take1 7 64 (bb 29 255) (hS:=hHeld) (h:= ?_)
 refine pure1 8 65 (bb 29 511) (h:= ?_)
 refine pure1 9 66 (bb 29 1023) (h:= ?_)
 refine pure1 10 67 (bb 29 2047) (h:= ?_)
 refine take1 11 68 (bb 29 4095) (hS:=hHeld) (h:= ?_)
 refine pure1 12 69 (bb 29 8191) (h:= ?_)
 refine pure1 13 70 (bb 29 16383) (h:= ?_)
 refine pure1 14 71 (bb 29 32767) (h:= ?_)
 refine take1 15 72 (bb 29 65535) (hS:=hHeld) (h:= ?_)
 refine pure1 16 73 (bb 29 131071) (h:= ?_)
 refine pure1 17 74 (bb 29 262143) (h:= ?_)
 refine pure1 18 75 (bb 29 524287) (h:= ?_)
 refine take1 19 76 (bb 29 1048575) (hS:=hHeld) (h:= ?_)
 refine pure1 20 77 (bb 29 2097151) (h:= ?_)
 refine pure1 21 78 (bb 29 4194303) (h:= ?_)
 refine pure1 22 79 (bb 29 8388607) (h:= ?_)
 refine pure1 23 80 (bb 29 16777215) (h:= ?_)
 refine la 24 none (bb 29 33554431) (h:=fun K hK=> ?_)
 have hc_:=(HA.out.callCell (m:= { m with panics:=m.panics.set j { m.panics[j] with unw:=m.panics[j].unw++ [f.fn] } }) HCA.out i 3 hi zq83).1.trans (show _=some (Value.int .i64 m.calls[i].fin) from rfl)
 have hf_:=(HA.out.callCell (m:= { m with panics:=m.panics.set j { m.panics[j] with unw:=m.panics[j].unw++ [f.fn] } }) HCA.out i 3 hi zq83).2
 rw [if_pos (by rfl)]
 unfold Oper.wp
 go_simp
 clear hc_ hf_
 have hev:=(HA.out.setCall (m:= { m with panics:=m.panics.set j { m.panics[j] with unw:=m.panics[j].unw++ [f.fn] } }) HCA.out i 3 hi zq83 (.int .i64 2) { m.calls[i] with fin:=2 } rfl).2
 replace HA:=Z ((HA.out.setCall (m:= { m with panics:=m.panics.set j { m.panics[j] with unw:=m.panics[j].unw++ [f.fn] } }) HCA.out i 3 hi zq83 (.int .i64 2) { m.calls[i] with fin:=2 } rfl).1)
 replace HF:=hev.b HF
 generalize x6.setCell ⟨gc,i*6+3,none⟩ (.int .i64 2)=x7 at HA HF ⊢
 clear hev
 refine hK.out _ _ ?_
 clear hK K
 refine pure1 25 81 (bb 29 67108863) (h:= ?_)
 refine pure1 26 82 (bb 29 134217727) (h:= ?_)
 refine pure1 27 83 (bb 29 268435455) (h:= ?_)
 refine la 28 none (bb 29 536870911) (h:=fun K hK=> ?_)
 have hc_:=(HA.out.callCell' (m:= { m with panics:=m.panics.set j { m.panics[j] with unw:=m.panics[j].unw++ [f.fn] } }) (c:= { m.calls[i] with fin:=2 }) HCA.out 4 hi zq83).1.trans (show _=some (Value.int .i64 m.calls[i].val) from rfl)
 have hf_:=(HA.out.callCell' (m:= { m with panics:=m.panics.set j { m.panics[j] with unw:=m.panics[j].unw++ [f.fn] } }) (c:= { m.calls[i] with fin:=2 }) HCA.out 4 hi zq83).2
 rw [if_pos (by rfl)]
 unfold Oper.wp
 go_simp
 clear hc_ hf_
 have hev:=(HA.out.setCall' (m:= { m with panics:=m.panics.set j { m.panics[j] with unw:=m.panics[j].unw++ [f.fn] } }) (c:= { m.calls[i] with fin:=2 }) HCA.out 4 hi zq83 (.int .i64 m.panics[j].val) { m.calls[i] with fin:=2,val:=m.panics[j].val } rfl).2
 replace HA:=Z ((HA.out.setCall' (m:= { m with panics:=m.panics.set j { m.panics[j] with unw:=m.panics[j].unw++ [f.fn] } }) (c:= { m.calls[i] with fin:=2 }) HCA.out 4 hi zq83 (.int .i64 m.panics[j].val) { m.calls[i] with fin:=2,val:=m.panics[j].val } rfl).1)
 replace HF:=hev.b HF
 generalize x7.setCell ⟨gc,i*6+4,none⟩ (.int .i64 (m.panics[j].val))=x8 at HA HF ⊢
 clear hev
 refine hK.out _ _ ?_
 clear hK K
 refine done_ zq27 ?_
 go_upto_region 8 with(fail)
 have hE0_:=Evt.drew x8 292
 replace HA:=Z (HA.out.drew)
 replace HF:=(Evt.drew x8 0).b HF
 clear hE0_
 refine start_ (n:=12) (S:=fun w'=>w'.cell? ⟨gf,1,none⟩=some (.int .i64 f.fn)∧w'.cell? ⟨gf,0,none⟩=some (.int .i64 (i:Int))∧True) (ds:= [11]) (bb 12 0) zq27 rfl rfl ⟨(blk_cell HF.out 1).trans rfl,(blk_cell HF.out 0).trans (by rw [← HI.out];rfl),trivial⟩ (fun hHeld=> ?_)
 generalize x8.drew=x9 at HA HF hHeld ⊢
 refine pure1 0 84 (bb 12 1) (h:= ?_)
 refine pure1 1 85 (bb 12 3) (h:= ?_)
 refine pure1 2 86 (bb 12 7) (h:= ?_)
 refine pure1 3 87 (bb 12 15) (h:= ?_)
 refine pure1 4 88 (bb 12 31) (h:= ?_)
 refine take1 5 89 (bb 12 63) (hS:=hHeld) (h:= ?_)
 refine pure1 6 90 (bb 12 127) (h:= ?_)
 refine pure1 7 91 (bb 12 255) (h:= ?_)
 refine pure1 8 92 (bb 12 511) (h:= ?_)
 refine pure1 9 93 (bb 12 1023) (h:= ?_)
 refine take1 10 94 (bb 12 2047) (hS:=hHeld) (h:= ?_)
 refine la 11 (some 95) (bb 12 4095) (h:=fun K hK=> ?_)
 refine goes_ Try.func302 zq27 rfl #[.pointer (some ⟨gm,0,none⟩),.int .i64 8,.int .i64 f.fn,.int .i64 (m.panics[j].val),.int .i64 (i:Int)] (by rfl) rfl rfl zq84 ?_
 refine(tell.calls _ base gm A0 fuel ({ m with panics:=m.panics.set j { m.panics[j] with unw:=m.panics[j].unw++ [f.fn] },calls:=m.calls.set i { m.calls[i] with fin:=2,val:=m.panics[j].val } }) { v with unw:=v.unw.set j (.slice tA (m.panics[j].unw.length+1) tc) } 8 f.fn (m.panics[j].val) i (HA.out.mach (A0:=A0) (fuel:=fuel) (m:= { m with panics:=m.panics.set j { m.panics[j] with unw:=m.panics[j].unw++ [f.fn] },calls:=m.calls.set i { m.calls[i] with fin:=2,val:=m.panics[j].val } }) (v:= { v with unw:=v.unw.set j (.slice tA (m.panics[j].unw.length+1) tc) })) HA.out.sz (by exact hr) (by exact ho)).mono ?_
 rintro e wz ⟨rfl,t,q,hM,hK2⟩
 refine⟨_,rfl,?_⟩
 have n0_:=Z (HA.out.toM.trans hK2)
 clear HA
 have HZ:=am hM
 clear hM
 refine hK.out _ _ ?_
 clear hK K
 refine nm 95 (h:= ?_)
 refine done_ zq27 ?_
 refine end0_ rfl rfl ?_
 refine⟨rfl,_,?_,by rw [finishI_2 HFin.out HI.out hi HPan.out hj];exact HZ.out,n0_.out⟩
 rfl
end Go.Proofs.Yteiafboknimgbaa.Pr.M
end
