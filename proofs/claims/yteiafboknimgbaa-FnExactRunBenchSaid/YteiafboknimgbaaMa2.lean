import Derived.Test.YteiafboknimgbaaMa1
set_option maxHeartbeats 8000000
set_option maxRecDepth 100000
set_option linter.unusedVariables false
set_option linter.unusedSimpArgs false
section
namespace Go.Proofs.Yteiafboknimgbaa.Pr
open Go.RowKit Go.Proofs.W.PrintWords Go.Proofs.W.PrintLast Go.Proofs.W.PrintMore
def bl:Nat→Nat→List Bool
 |0,_=> []
 |n+1,k=>(k%2==1)::bl n (k/2)
def bb(n k:Nat):Array Bool:=⟨bl n k⟩
theorem bms {α β:Type} {x:Option α} {f:α→Option β} {b:β} (h:x.bind f=some b): ∃ a,Aside0 (x=some a)∧f a=some b:=by
 obtain⟨a,h1,h2⟩:=Option.bind_eq_some_iff.mp h
 exact⟨a,⟨h1⟩,h2⟩
theorem cb {w w':World} {a:Addr} {v:Value} (h:Aside0 (Below w.heap.size w w'))(hx:w.cell? a=some v):w'.cell? a=some v:=(h.out.cell (World.block_lt_of_cell? w _ hx)).trans hx
section
variable {P:Program} {ops:Array Oper} {Q:Exit→Act→World→Prop} {md:Region.Mode} {S:World→Prop} {ds:List Nat} {oi:Oper} {v:Value} {fuel:Nat} {l:Array Bool} {a a':Act} {w:World}
theorem pu(i N:Nat)(l':Array Bool)(hc:anyB md ops l l' i=true)(hi:ops[i]? =some oi:=by rfl)(hN:oi.dst=some N:=by rfl)(hQ: ∀ c a w,Q (.panic c) (a.put oi.dst v) w→Q (.panic c) a w:=by exact fun _ _ _ h=>h)(hy:Yields P ops oi v a:=by exact Or.inl ⟨by rfl,by intro w';go_simp;with_reducible rfl⟩)
  (ha:a.put (some N) v=a':=by simp only [Act.put,List.setIfInBounds_toArray,List.set_cons_zero,List.set_cons_succ,i64_w,i32_w];rfl) (h:wpAnyLast P md ops Q S ds fuel l' a' w):wpAnyLast P md ops Q S ds (fuel+1) l a w:=pure_ l' hi hN hc hQ hy ha h
theorem tk(i N:Nat)(l':Array Bool)(hc:takeB md ops ds l l' i=true)(hS:S w)(hi:ops[i]? =some oi:=by rfl)(hN:oi.dst=some N:=by rfl)(hQ: ∀ c a w,Q (.panic c) (a.put oi.dst v) w→Q (.panic c) a w:=by exact fun _ _ _ h=>h)(hy:YieldsIf P ops S oi v a:=by exact Or.inl ⟨by rfl,by intro w' hS;(repeat obtain⟨_,hS⟩:=hS);go_simp;with_reducible rfl⟩)
  (ha:a.put (some N) v=a':=by simp only [Act.put,List.setIfInBounds_toArray,List.set_cons_zero,List.set_cons_succ,i64_w,i32_w];rfl) (h:wpAnyLast P md ops Q S ds fuel l' a' w):wpAnyLast P md ops Q S ds (fuel+1) l a w:=take_ l' hi hN hc hQ hy hS ha h
theorem oe(i:Nat)(N:Option Tmp)(l':Array Bool)(hc:readyB md ops l l' i=true)(hi:ops[i]? =some oi:=by rfl)(hN:oi.dst=N:=by rfl)(hd:i∉ds:=by decide)
  (h: ∀ K:Act→World→Prop,Shut (∀ a' w',S w'→(S w'→wpAnyLast P md ops Q S ds fuel l' a' w')→K a' w')→if Region.wanted oi (yielded ops a.tmps)=true then Oper.wp P oi a w K Q else K (a.put N undef) w):wpAnyLast P md ops Q S ds (fuel+1) l a w:=one_ l' hi hN hc hd h
theorem le_(i:Nat)(N:Option Tmp)(l':Array Bool)(hc:readyB md ops l l' i=true)(hi:ops[i]? =some oi:=by rfl)(hN:oi.dst=N:=by rfl)(hd:i∈ds:=by decide)
  (h: ∀ K:Act→World→Prop,Shut (∀ a' w',wpAnyLast P md ops Q S ds fuel l' a' w'→K a' w')→if Region.wanted oi (yielded ops a.tmps)=true then Oper.wp P oi a w K Q else K (a.put N undef) w):wpAnyLast P md ops Q S ds (fuel+1) l a w:=last_ l' hi hN hc hd h
theorem nm(N:Tmp)(ha:a.put (some N) v=a':=by simp only [Act.put,List.setIfInBounds_toArray,List.set_cons_zero,List.set_cons_succ,i64_w,i32_w];rfl)(h:wpAnyLast P md ops Q S ds fuel l a' w):wpAnyLast P md ops Q S ds fuel l (a.put (some N) v) w:=norm_ ha h
end
section
variable {P:Program} {ops:Array Oper} {rest:List Oper} {o:Oper} {a:Act} {Q:Exit→Act→World→Prop} {W:World}
theorem bx(N:Tmp)(cs:Array Value)(t:TypeId)(hgd:o.guard=none:=by rfl)(hd:o.dst=some N:=by rfl)
  (hrun:(execOp a.eval o).run P W= .ok (.value (.pointer (some ⟨W.heap.size,0,none⟩))) (W.alloc (.cells cs t (0,0))):=by first|(go_simp;done)|(go_simp;rfl))
  (h: ∀ g,g=W.heap.size→ ∀ w1,w1.heap[g]? =some (.cells cs t (0,0))→Below W.heap.size W w1→wpList P ops Q rest (a.put o.dst (.pointer (some ⟨g,0,none⟩))) w1):wpList P ops Q (o::rest) a W:=box_event hgd hd hrun h
theorem gl(N:Option Tmp)(f:FuncId){fn:Func} (hf:P.funcs[f]? =some fn)(args:Array Value){as:Array Operand} {ts:Array TypeId}
  (hop : o.op = .call { callee := .value (.func f), args := as, argTypes := ts } := by rfl) (hd : o.dst = N := by rfl) (hg : o.guard = none := by rfl) (hname : (fn.name == "runtime.NumGoroutine") = false := by kernel_rfl) (hb : fn.body.isSome = true := by rfl)
  (hargs:as.map a.eval=args:=by(try simp only [List.map_toArray,List.map_cons,List.map_nil]);first|done|rfl|(simp only [List.length_drop,List.length_take];rfl))
  (h:Calls P f args W fun e w'=> ∃ v,e= .returned v∧wpList P ops Q rest (a.put N v) w'):wpList P ops Q (o::rest) a W:=goesL_ N hd hg hf hname hb args hop hargs h
theorem lr {g:Nat} {cs:Array Value} {t ty:TypeId} {n:Nat} {x:Operand} {d:TypeDesc} (N:Tmp)(hg:W.heap[g]? =some (.cells cs t (0,0)))(hu:P.underlying ty=some d)(hi:(P.info? ty).map (·.size)=some n)
  (hN:o.dst=some N:=by rfl) (hgd:o.guard=none:=by rfl) (ho:o.op= .load ty x:=by rfl) (hx:a.eval x= .pointer (some ⟨g,0,none⟩):=by rfl) (hd:(match d with| .struct _| .array _ _=>true|_=>false)=true:=by rfl) (hn:cs.size=n:=by rfl)
  (h:wpList P ops Q rest (a.put o.dst (.agg cs)) W):wpList P ops Q (o::rest) a W:=wpList_load_row hgd ty x ho g hx t cs (0,0) d hg hu hd (hi.trans (by rw [hn])) h
theorem lg {g a b:Nat} (h:g=b)(k:a≤b):a≤g:=h▸k
theorem nel {g g':Nat} {o:Obj} (h:g'=W.heap.size)(hb:W.heap[g]? =some o):g≠g':=fun e=>by have:=blk_lt hb;omega
end
section
variable {w:World} {g:Nat} {t:TypeId}
theorem cf1 {v0:Value} (h:w.heap[g]? =some (.cells #[v0] t (0,0))):w.cell? ⟨g,0,none⟩=some v0∧w.frozen? ⟨g,0,none⟩=false:=⟨(blk_cell h 0).trans rfl,blk_frozen h 0⟩
theorem cl3 {v0 v1 v2:Value} (h:w.heap[g]? =some (.cells #[v0,v1,v2] t (0,0))):w.cell? ⟨g,0,none⟩=some v0∧w.cell? ⟨g,1,none⟩=some v1∧w.cell? ⟨g,2,none⟩=some v2:=⟨(blk_cell h 0).trans rfl,(blk_cell h 1).trans rfl,(blk_cell h 2).trans rfl⟩
theorem cf3 {v0 v1 v2:Value} (h:w.heap[g]? =some (.cells #[v0,v1,v2] t (0,0))):w.cell? ⟨g,0,none⟩=some v0∧w.cell? ⟨g,1,none⟩=some v1∧w.cell? ⟨g,2,none⟩=some v2∧w.frozen? ⟨g,0,none⟩=false∧w.frozen? ⟨g,1,none⟩=false∧w.frozen? ⟨g,2,none⟩=false:=⟨(blk_cell h 0).trans rfl,(blk_cell h 1).trans rfl,(blk_cell h 2).trans rfl,blk_frozen h 0,blk_frozen h 1,blk_frozen h 2⟩
theorem cl4 {v0 v1 v2 v3:Value} (h:w.heap[g]? =some (.cells #[v0,v1,v2,v3] t (0,0))):w.cell? ⟨g,0,none⟩=some v0∧w.cell? ⟨g,1,none⟩=some v1∧w.cell? ⟨g,2,none⟩=some v2∧w.cell? ⟨g,3,none⟩=some v3:=⟨(blk_cell h 0).trans rfl,(blk_cell h 1).trans rfl,(blk_cell h 2).trans rfl,(blk_cell h 3).trans rfl⟩
theorem cf4 {v0 v1 v2 v3:Value} (h:w.heap[g]? =some (.cells #[v0,v1,v2,v3] t (0,0))):w.cell? ⟨g,0,none⟩=some v0∧w.cell? ⟨g,1,none⟩=some v1∧w.cell? ⟨g,2,none⟩=some v2∧w.cell? ⟨g,3,none⟩=some v3∧w.frozen? ⟨g,0,none⟩=false∧w.frozen? ⟨g,1,none⟩=false∧w.frozen? ⟨g,2,none⟩=false∧w.frozen? ⟨g,3,none⟩=false:=⟨(blk_cell h 0).trans rfl,(blk_cell h 1).trans rfl,(blk_cell h 2).trans rfl,(blk_cell h 3).trans rfl,blk_frozen h 0,blk_frozen h 1,blk_frozen h 2,blk_frozen h 3⟩
theorem cl5 {v0 v1 v2 v3 v4:Value} (h:w.heap[g]? =some (.cells #[v0,v1,v2,v3,v4] t (0,0))):w.cell? ⟨g,0,none⟩=some v0∧w.cell? ⟨g,1,none⟩=some v1∧w.cell? ⟨g,2,none⟩=some v2∧w.cell? ⟨g,3,none⟩=some v3∧w.cell? ⟨g,4,none⟩=some v4:=⟨(blk_cell h 0).trans rfl,(blk_cell h 1).trans rfl,(blk_cell h 2).trans rfl,(blk_cell h 3).trans rfl,(blk_cell h 4).trans rfl⟩
theorem cl10 {v0 v1 v2 v3 v4 v5 v6 v7 v8 v9:Value} (h:w.heap[g]? =some (.cells #[v0,v1,v2,v3,v4,v5,v6,v7,v8,v9] t (0,0))):w.cell? ⟨g,0,none⟩=some v0∧w.cell? ⟨g,1,none⟩=some v1∧w.cell? ⟨g,2,none⟩=some v2∧w.cell? ⟨g,3,none⟩=some v3∧w.cell? ⟨g,4,none⟩=some v4∧w.cell? ⟨g,5,none⟩=some v5∧w.cell? ⟨g,6,none⟩=some v6∧w.cell? ⟨g,7,none⟩=some v7∧w.cell? ⟨g,8,none⟩=some v8∧w.cell? ⟨g,9,none⟩=some v9:=⟨(blk_cell h 0).trans rfl,(blk_cell h 1).trans rfl,(blk_cell h 2).trans rfl,(blk_cell h 3).trans rfl,(blk_cell h 4).trans rfl,(blk_cell h 5).trans rfl,(blk_cell h 6).trans rfl,(blk_cell h 7).trans rfl,(blk_cell h 8).trans rfl,(blk_cell h 9).trans rfl⟩
end
end Go.Proofs.Yteiafboknimgbaa.Pr
end
