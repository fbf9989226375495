import Derived.Test.YteiafboknimgbaaMa8
set_option maxHeartbeats 8000000
set_option maxRecDepth 100000
set_option linter.unusedVariables false
set_option linter.unusedSimpArgs false
section
namespace Go.Proofs.Yteiafboknimgbaa.Pr.M
open Go.RowKit Go.Proofs.W.PrintWords Go.Proofs.W.PrintLast Go.Proofs.W.PrintMore
theorem behind_6(w:World)(base gm gf gd:Nat)(A0:Value)(fuel:Int)(m:MS)(v:MV)(f d:Fr)(rv par rd pd:Value)(H:Mach w base gm A0 fuel m v)(hF:w.heap[gf]? =some (.cells (frC f rv par).toArray 292 (0,0)))(hD:w.heap[gd]? =some (.cells (frC d rd pd).toArray 292 (0,0)))
  (hne:gd≠gf) (hbf:base≤gf) (hb:base≤w.heap.size) (hd:d.fin=1) (hc:d.counted=false) :
  Calls Try.prog 304 #[.pointer (some ⟨gm,0,none⟩),.pointer (some ⟨gf,0,none⟩),.pointer (some ⟨gd,0,none⟩)] w fun e w'=>e= .returned (.tuple #[])∧Mach w' base gm A0 fuel (behindI m f d).1 v∧w'.heap[gf]? =some (.cells (frC (behindI m f d).2 rv par).toArray 292 (0,0))∧KeptM base (some gf) w w':=by
 have HA:=Z (H.wk hb (some gf) w.heap.size)
 clear H
 have HF:=am hF
 clear hF
 have HD:=am hD
 clear hD
 have NE:=am hne
 clear hne
 have EQ:=Z (behindI_6 (m:=m) (f:=f) hd hc)
 have H1:=am hd
 have H2:=am hc
 clear hd hc
 cases hfl:f.leaving
 all_goals
  have hca0:w.cell? ⟨gf,10,none⟩=some (.bool f.leaving):=(blk_cell HF.out 10).trans (rfl)
  have hfa0:=blk_frozen HF.out 10
  have hca1:w.cell? ⟨gd,10,none⟩=some (.bool d.leaving):=(blk_cell HD.out 10).trans (rfl)
  have hfa1:=blk_frozen HD.out 10
  go_enter Try.func304,Try.ntmps304
  go_upto_region 1 with(fail)
  first
  |rw [show w.setCell ⟨gf,10,none⟩ (.bool d.leaving)=w.setCell ⟨gf,10,none⟩ (.bool (f.leaving||d.leaving)) from by rw [hfl];rfl]
  |rw [show w.setCell ⟨gf,10,none⟩ (.bool true)=w.setCell ⟨gf,10,none⟩ (.bool (f.leaving||d.leaving)) from by rw [hfl];rfl]
  clear hfl hca0 hfa0 hca1 hfa1
  have hev:=Evt.set HF.out 10 (.bool (f.leaving||d.leaving))
  replace HA:=Z (HA.out.other hev zq83 (fun q hq=>zq82))
  replace HF:=Z ((blk_set HF.out 10 (.bool (f.leaving||d.leaving))).trans (show _=some (Obj.cells (frC { f with leaving:=(f.leaving||d.leaving) } rv par).toArray 292 (0,0)) from rfl))
  replace HD:=hev.b' HD zq97
  clear hev
  generalize w.setCell ⟨gf,10,none⟩ (.bool (f.leaving||d.leaving))=x1 at HA HF HD ⊢
  by_cases hf2:f.fin=2
  all_goals
   have hcb0:x1.cell? ⟨gf,11,none⟩=some (.int .i64 f.fin):=(blk_cell HF.out 11).trans (rfl)
   have hfb0:=blk_frozen HF.out 11
   have hcb1:x1.cell? ⟨gd,9,none⟩=some (.bool false):=(blk_cell HD.out 9).trans zq134
   have hfb1:=blk_frozen HD.out 9
   have hcb2:x1.cell? ⟨gd,11,none⟩=some (.int .i64 1):=(blk_cell HD.out 11).trans zq102
   have hfb2:=blk_frozen HD.out 11
   have hff:(f.fin==2)=decide (f.fin=2):=rfl
   simp only [hf2,decide_true,decide_false] at hff
   go_wp2_with (fail)
   refine end0_ rfl rfl ?_
   rw [EQ.out]
   exact⟨rfl,HA.out.mach,HF.out,HA.out.toM⟩
theorem behind_5t(w:World)(base gm gf gd:Nat)(A0:Value)(fuel:Int)(m:MS)(v:MV)(f d:Fr)(rv par rd pd:Value)(H:Mach w base gm A0 fuel m v)(hF:w.heap[gf]? =some (.cells (frC f rv par).toArray 292 (0,0)))(hD:w.heap[gd]? =some (.cells (frC d rd pd).toArray 292 (0,0)))
  (hne:gd≠gf) (hbf:base≤gf) (hb:base≤w.heap.size) (hd:d.fin=1) (hc:d.counted=true) (hl:(f.leaving||d.leaving)=true) :
  Calls Try.prog 304 #[.pointer (some ⟨gm,0,none⟩),.pointer (some ⟨gf,0,none⟩),.pointer (some ⟨gd,0,none⟩)] w fun e w'=>e= .returned (.tuple #[])∧Mach w' base gm A0 fuel (behindI m f d).1 v∧w'.heap[gf]? =some (.cells (frC (behindI m f d).2 rv par).toArray 292 (0,0))∧KeptM base (some gf) w w':=by
 have HA:=Z (H.wk hb (some gf) w.heap.size)
 clear H
 have HF:=am hF
 clear hF
 have HD:=am hD
 clear hD
 have NE:=am hne
 clear hne
 have EQ:=Z (show behindI m f d=(m,{ f with leaving:=f.leaving||d.leaving,fin:=3 }) from by rw [behindI_5 hd hc,hl];rfl)
 have H1:=am hd
 have H2:=am hc
 have H3:=am hl
 clear hd hc hl
 cases hfl:f.leaving
 all_goals
  have hca0:w.cell? ⟨gf,10,none⟩=some (.bool f.leaving):=(blk_cell HF.out 10).trans (rfl)
  have hfa0:=blk_frozen HF.out 10
  have hca1:w.cell? ⟨gd,10,none⟩=some (.bool d.leaving):=(blk_cell HD.out 10).trans (rfl)
  have hfa1:=blk_frozen HD.out 10
  go_enter Try.func304,Try.ntmps304
  go_upto_region 1 with(fail)
  first
  |rw [show w.setCell ⟨gf,10,none⟩ (.bool d.leaving)=w.setCell ⟨gf,10,none⟩ (.bool (f.leaving||d.leaving)) from by rw [hfl];rfl]
  |rw [show w.setCell ⟨gf,10,none⟩ (.bool true)=w.setCell ⟨gf,10,none⟩ (.bool (f.leaving||d.leaving)) from by rw [hfl];rfl]
  clear hfl hca0 hfa0 hca1 hfa1
  have hev:=Evt.set HF.out 10 (.bool (f.leaving||d.leaving))
  replace HA:=Z (HA.out.other hev zq83 (fun q hq=>zq82))
  replace HF:=Z ((blk_set HF.out 10 (.bool (f.leaving||d.leaving))).trans (show _=some (Obj.cells (frC { f with leaving:=(f.leaving||d.leaving) } rv par).toArray 292 (0,0)) from rfl))
  replace HD:=hev.b' HD zq97
  clear hev
  generalize w.setCell ⟨gf,10,none⟩ (.bool (f.leaving||d.leaving))=x1 at HA HF HD ⊢
  by_cases hf2:f.fin=2
  all_goals
   have hcb0:x1.cell? ⟨gf,11,none⟩=some (.int .i64 f.fin):=(blk_cell HF.out 11).trans (rfl)
   have hfb0:=blk_frozen HF.out 11
   have hcb1:x1.cell? ⟨gd,9,none⟩=some (.bool true):=(blk_cell HD.out 9).trans zq134
   have hfb1:=blk_frozen HD.out 9
   have hcb2:x1.cell? ⟨gd,11,none⟩=some (.int .i64 1):=(blk_cell HD.out 11).trans zq102
   have hfb2:=blk_frozen HD.out 11
   have hcb3:x1.cell? ⟨gf,10,none⟩=some (.bool true):=(blk_cell HF.out 10).trans zq147
   have hfb3:=blk_frozen HF.out 10
   have hff:(f.fin==2)=decide (f.fin=2):=rfl
   simp only [hf2,decide_true,decide_false] at hff
   go_wp2_with (fail)
   clear hcb0 hfb0 hcb1 hfb1 hcb2 hfb2 hcb3 hfb3 hff hf2
   have hev:=Evt.set HF.out 11 (.int .i64 3)
   replace HA:=Z (HA.out.other hev zq83 (fun q hq=>zq82))
   replace HF:=Z ((blk_set HF.out 11 (.int .i64 3)).trans (show _=some (Obj.cells (frC { f with leaving:=(f.leaving||d.leaving),fin:=3 } rv par).toArray 292 (0,0)) from rfl))
   replace HD:=hev.b' HD zq97
   clear hev
   generalize x1.setCell ⟨gf,11,none⟩ (.int .i64 3)=x2 at HA HF HD ⊢
   refine end0_ rfl rfl ?_
   rw [EQ.out]
   exact⟨rfl,HA.out.mach,HF.out,HA.out.toM⟩
theorem behind_5f(w:World)(base gm gf gd:Nat)(A0:Value)(fuel:Int)(m:MS)(v:MV)(f d:Fr)(rv par rd pd:Value)(H:Mach w base gm A0 fuel m v)(hF:w.heap[gf]? =some (.cells (frC f rv par).toArray 292 (0,0)))(hD:w.heap[gd]? =some (.cells (frC d rd pd).toArray 292 (0,0)))
  (hne:gd≠gf) (hbf:base≤gf) (hb:base≤w.heap.size) (hd:d.fin=1) (hc:d.counted=true) (hl:(f.leaving||d.leaving)=false) :
  Calls Try.prog 304 #[.pointer (some ⟨gm,0,none⟩),.pointer (some ⟨gf,0,none⟩),.pointer (some ⟨gd,0,none⟩)] w fun e w'=>e= .returned (.tuple #[])∧Mach w' base gm A0 fuel (behindI m f d).1 v∧w'.heap[gf]? =some (.cells (frC (behindI m f d).2 rv par).toArray 292 (0,0))∧KeptM base (some gf) w w':=by
 have HA:=Z (H.wk hb (some gf) w.heap.size)
 clear H
 have HF:=am hF
 clear hF
 have HD:=am hD
 clear hD
 have NE:=am hne
 clear hne
 have EQ:=Z (show behindI m f d=(m,{ f with leaving:=f.leaving||d.leaving,fin:=1 }) from by rw [behindI_5 hd hc,hl];rfl)
 have H1:=am hd
 have H2:=am hc
 have H3:=am hl
 clear hd hc hl
 cases hfl:f.leaving
 all_goals
  have hca0:w.cell? ⟨gf,10,none⟩=some (.bool f.leaving):=(blk_cell HF.out 10).trans (rfl)
  have hfa0:=blk_frozen HF.out 10
  have hca1:w.cell? ⟨gd,10,none⟩=some (.bool d.leaving):=(blk_cell HD.out 10).trans (rfl)
  have hfa1:=blk_frozen HD.out 10
  go_enter Try.func304,Try.ntmps304
  go_upto_region 1 with(fail)
  first
  |rw [show w.setCell ⟨gf,10,none⟩ (.bool d.leaving)=w.setCell ⟨gf,10,none⟩ (.bool (f.leaving||d.leaving)) from by rw [hfl];rfl]
  |rw [show w.setCell ⟨gf,10,none⟩ (.bool true)=w.setCell ⟨gf,10,none⟩ (.bool (f.leaving||d.leaving)) from by rw [hfl];rfl]
  clear hfl hca0 hfa0 hca1 hfa1
  have hev:=Evt.set HF.out 10 (.bool (f.leaving||d.leaving))
  replace HA:=Z (HA.out.other hev zq83 (fun q hq=>zq82))
  replace HF:=Z ((blk_set HF.out 10 (.bool (f.leaving||d.leaving))).trans (show _=some (Obj.cells (frC { f with leaving:=(f.leaving||d.leaving) } rv par).toArray 292 (0,0)) from rfl))
  replace HD:=hev.b' HD zq97
  clear hev
  generalize w.setCell ⟨gf,10,none⟩ (.bool (f.leaving||d.leaving))=x1 at HA HF HD ⊢
  by_cases hf2:f.fin=2
  all_goals
   have hcb0:x1.cell? ⟨gf,11,none⟩=some (.int .i64 f.fin):=(blk_cell HF.out 11).trans (rfl)
   have hfb0:=blk_frozen HF.out 11
   have hcb1:x1.cell? ⟨gd,9,none⟩=some (.bool true):=(blk_cell HD.out 9).trans zq134
   have hfb1:=blk_frozen HD.out 9
   have hcb2:x1.cell? ⟨gd,11,none⟩=some (.int .i64 1):=(blk_cell HD.out 11).trans zq102
   have hfb2:=blk_frozen HD.out 11
   have hcb3:x1.cell? ⟨gf,10,none⟩=some (.bool false):=(blk_cell HF.out 10).trans zq147
   have hfb3:=blk_frozen HF.out 10
   have hff:(f.fin==2)=decide (f.fin=2):=rfl
   simp only [hf2,decide_true,decide_false] at hff
   go_wp2_with (fail)
   clear hcb0 hfb0 hcb1 hfb1 hcb2 hfb2 hcb3 hfb3 hff hf2
   have hev:=Evt.set HF.out 11 (.int .i64 1)
   replace HA:=Z (HA.out.other hev zq83 (fun q hq=>zq82))
   replace HF:=Z ((blk_set HF.out 11 (.int .i64 1)).trans (show _=some (Obj.cells (frC { f with leaving:=(f.leaving||d.leaving),fin:=1 } rv par).toArray 292 (0,0)) from rfl))
   replace HD:=hev.b' HD zq97
   clear hev
   generalize x1.setCell ⟨gf,11,none⟩ (.int .i64 1)=x2 at HA HF HD ⊢
   refine end0_ rfl rfl ?_
   rw [EQ.out]
   exact⟨rfl,HA.out.mach,HF.out,HA.out.toM⟩
theorem behind_4(w:World)(base gm gf gd:Nat)(A0:Value)(fuel:Int)(m:MS)(v:MV)(f d:Fr)(rv par rd pd:Value)(H:Mach w base gm A0 fuel m v)(hF:w.heap[gf]? =some (.cells (frC f rv par).toArray 292 (0,0)))(hD:w.heap[gd]? =some (.cells (frC d rd pd).toArray 292 (0,0)))
  (hne:gd≠gf) (hbf:base≤gf) (hb:base≤w.heap.size) (hd:d.fin=3) (hc: ¬(f.fin=2∧d.counted=false)) :
  Calls Try.prog 304 #[.pointer (some ⟨gm,0,none⟩),.pointer (some ⟨gf,0,none⟩),.pointer (some ⟨gd,0,none⟩)] w fun e w'=>e= .returned (.tuple #[])∧Mach w' base gm A0 fuel (behindI m f d).1 v∧w'.heap[gf]? =some (.cells (frC (behindI m f d).2 rv par).toArray 292 (0,0))∧KeptM base (some gf) w w':=by
 have HA:=Z (H.wk hb (some gf) w.heap.size)
 clear H
 have HF:=am hF
 clear hF
 have HD:=am hD
 clear hD
 have NE:=am hne
 clear hne
 have EQ:=Z (behindI_4 (m:=m) (f:=f) hd hc)
 have H1:=am hd
 have H2:=am hc
 clear hd hc
 cases hfl:f.leaving
 all_goals
  have hca0:w.cell? ⟨gf,10,none⟩=some (.bool f.leaving):=(blk_cell HF.out 10).trans (rfl)
  have hfa0:=blk_frozen HF.out 10
  have hca1:w.cell? ⟨gd,10,none⟩=some (.bool d.leaving):=(blk_cell HD.out 10).trans (rfl)
  have hfa1:=blk_frozen HD.out 10
  go_enter Try.func304,Try.ntmps304
  go_upto_region 1 with(fail)
  first
  |rw [show w.setCell ⟨gf,10,none⟩ (.bool d.leaving)=w.setCell ⟨gf,10,none⟩ (.bool (f.leaving||d.leaving)) from by rw [hfl];rfl]
  |rw [show w.setCell ⟨gf,10,none⟩ (.bool true)=w.setCell ⟨gf,10,none⟩ (.bool (f.leaving||d.leaving)) from by rw [hfl];rfl]
  clear hfl hca0 hfa0 hca1 hfa1
  have hev:=Evt.set HF.out 10 (.bool (f.leaving||d.leaving))
  replace HA:=Z (HA.out.other hev zq83 (fun q hq=>zq82))
  replace HF:=Z ((blk_set HF.out 10 (.bool (f.leaving||d.leaving))).trans (show _=some (Obj.cells (frC { f with leaving:=(f.leaving||d.leaving) } rv par).toArray 292 (0,0)) from rfl))
  replace HD:=hev.b' HD zq97
  clear hev
  generalize w.setCell ⟨gf,10,none⟩ (.bool (f.leaving||d.leaving))=x1 at HA HF HD ⊢
  by_cases hf2:f.fin=2
  have hdc:d.counted=true:=by cases e:d.counted;exact absurd ⟨hf2,e⟩ H2.out;rfl
  rotate_left
  have hdc:True:=trivial
  all_goals
   have hcb0:x1.cell? ⟨gf,11,none⟩=some (.int .i64 f.fin):=(blk_cell HF.out 11).trans (rfl)
   have hfb0:=blk_frozen HF.out 11
   have hcb1:x1.cell? ⟨gd,9,none⟩=some (.bool d.counted):=(blk_cell HD.out 9).trans (rfl)
   have hfb1:=blk_frozen HD.out 9
   have hcb2:x1.cell? ⟨gd,11,none⟩=some (.int .i64 3):=(blk_cell HD.out 11).trans zq102
   have hfb2:=blk_frozen HD.out 11
   have hff:(f.fin==2)=decide (f.fin=2):=rfl
   simp only [hf2,decide_true,decide_false] at hff
   go_wp2_with (fail)
   clear hcb0 hfb0 hcb1 hfb1 hcb2 hfb2 hff hf2 hdc
   have hev:=Evt.set HF.out 11 (.int .i64 3)
   replace HA:=Z (HA.out.other hev zq83 (fun q hq=>zq82))
   replace HF:=Z ((blk_set HF.out 11 (.int .i64 3)).trans (show _=some (Obj.cells (frC { f with leaving:=(f.leaving||d.leaving),fin:=3 } rv par).toArray 292 (0,0)) from rfl))
   replace HD:=hev.b' HD zq97
   clear hev
   generalize x1.setCell ⟨gf,11,none⟩ (.int .i64 3)=x2 at HA HF HD ⊢
   refine end0_ rfl rfl ?_
   rw [EQ.out]
   exact⟨rfl,HA.out.mach,HF.out,HA.out.toM⟩
theorem behind_2(w:World)(base gm gf gd:Nat)(A0:Value)(fuel:Int)(m:MS)(v:MV)(f d:Fr)(rv par rd pd:Value)(H:Mach w base gm A0 fuel m v)(hF:w.heap[gf]? =some (.cells (frC f rv par).toArray 292 (0,0)))(hD:w.heap[gd]? =some (.cells (frC d rd pd).toArray 292 (0,0)))
  (hne:gd≠gf) (hbf:base≤gf) (hb:base≤w.heap.size) (hd:d.fin=2) (hc: ¬(f.fin=2∧d.counted=false)) :
  Calls Try.prog 304 #[.pointer (some ⟨gm,0,none⟩),.pointer (some ⟨gf,0,none⟩),.pointer (some ⟨gd,0,none⟩)] w fun e w'=>e= .returned (.tuple #[])∧Mach w' base gm A0 fuel (behindI m f d).1 v∧w'.heap[gf]? =some (.cells (frC (behindI m f d).2 rv par).toArray 292 (0,0))∧KeptM base (some gf) w w':=by
 have HA:=Z (H.wk hb (some gf) w.heap.size)
 clear H
 have HF:=am hF
 clear hF
 have HD:=am hD
 clear hD
 have NE:=am hne
 clear hne
 have EQ:=Z (behindI_2 (m:=m) (f:=f) hd hc)
 have H1:=am hd
 have H2:=am hc
 clear hd hc
 cases hfl:f.leaving
 all_goals
  have hca0:w.cell? ⟨gf,10,none⟩=some (.bool f.leaving):=(blk_cell HF.out 10).trans (rfl)
  have hfa0:=blk_frozen HF.out 10
  have hca1:w.cell? ⟨gd,10,none⟩=some (.bool d.leaving):=(blk_cell HD.out 10).trans (rfl)
  have hfa1:=blk_frozen HD.out 10
  go_enter Try.func304,Try.ntmps304
  go_upto_region 1 with(fail)
  first
  |rw [show w.setCell ⟨gf,10,none⟩ (.bool d.leaving)=w.setCell ⟨gf,10,none⟩ (.bool (f.leaving||d.leaving)) from by rw [hfl];rfl]
  |rw [show w.setCell ⟨gf,10,none⟩ (.bool true)=w.setCell ⟨gf,10,none⟩ (.bool (f.leaving||d.leaving)) from by rw [hfl];rfl]
  clear hfl hca0 hfa0 hca1 hfa1
  have hev:=Evt.set HF.out 10 (.bool (f.leaving||d.leaving))
  replace HA:=Z (HA.out.other hev zq83 (fun q hq=>zq82))
  replace HF:=Z ((blk_set HF.out 10 (.bool (f.leaving||d.leaving))).trans (show _=some (Obj.cells (frC { f with leaving:=(f.leaving||d.leaving) } rv par).toArray 292 (0,0)) from rfl))
  replace HD:=hev.b' HD zq97
  clear hev
  generalize w.setCell ⟨gf,10,none⟩ (.bool (f.leaving||d.leaving))=x1 at HA HF HD ⊢
  by_cases hf2:f.fin=2
  have hdc:d.counted=true:=by cases e:d.counted;exact absurd ⟨hf2,e⟩ H2.out;rfl
  rotate_left
  have hdc:True:=trivial
  all_goals
   have hcb0:x1.cell? ⟨gf,11,none⟩=some (.int .i64 f.fin):=(blk_cell HF.out 11).trans (rfl)
   have hfb0:=blk_frozen HF.out 11
   have hcb1:x1.cell? ⟨gd,9,none⟩=some (.bool d.counted):=(blk_cell HD.out 9).trans (rfl)
   have hfb1:=blk_frozen HD.out 9
   have hcb2:x1.cell? ⟨gd,11,none⟩=some (.int .i64 2):=(blk_cell HD.out 11).trans zq102
   have hfb2:=blk_frozen HD.out 11
   have hcb3:x1.cell? ⟨gd,12,none⟩=some (.int .i64 d.pan):=(blk_cell HD.out 12).trans (rfl)
   have hfb3:=blk_frozen HD.out 12
   have hcb4:x1.cell? ⟨gf,12,none⟩=some (.int .i64 f.pan):=(blk_cell HF.out 12).trans (rfl)
   have hfb4:=blk_frozen HF.out 12
   have hff:(f.fin==2)=decide (f.fin=2):=rfl
   simp only [hf2,decide_true,decide_false] at hff
   go_wp2_with (fail)
   clear hcb0 hfb0 hcb1 hfb1 hcb2 hfb2 hcb3 hfb3 hcb4 hfb4 hff hf2 hdc
   have hev:=Evt.set HF.out 11 (.int .i64 2)
   replace HA:=Z (HA.out.other hev zq83 (fun q hq=>zq82))
   replace HF:=Z ((blk_set HF.out 11 (.int .i64 2)).trans (show _=some (Obj.cells (frC { f with leaving:=(f.leaving||d.leaving),fin:=2 } rv par).toArray 292 (0,0)) from rfl))
   replace HD:=hev.b' HD zq97
   clear hev
   generalize x1.setCell ⟨gf,11,none⟩ (.int .i64 2)=x2 at HA HF HD ⊢
   have hev:=Evt.set HF.out 12 (.int .i64 d.pan)
   replace HA:=Z (HA.out.other hev zq83 (fun q hq=>zq82))
   replace HF:=Z ((blk_set HF.out 12 (.int .i64 d.pan)).trans (show _=some (Obj.cells (frC { f with leaving:=(f.leaving||d.leaving),fin:=2,pan:=d.pan } rv par).toArray 292 (0,0)) from rfl))
   replace HD:=hev.b' HD zq97
   clear hev
   generalize x2.setCell ⟨gf,12,none⟩ (.int .i64 d.pan)=x3 at HA HF HD ⊢
   refine end0_ rfl rfl ?_
   rw [EQ.out]
   exact⟨rfl,HA.out.mach,HF.out,HA.out.toM⟩
theorem behind_3(w:World)(base gm gf gd:Nat)(A0:Value)(fuel:Int)(m:MS)(v:MV)(f d:Fr)(rv par rd pd:Value)(H:Mach w base gm A0 fuel m v)(hF:w.heap[gf]? =some (.cells (frC f rv par).toArray 292 (0,0)))(hD:w.heap[gd]? =some (.cells (frC d rd pd).toArray 292 (0,0)))
  (hne:gd≠gf) (hbf:base≤gf) (hb:base≤w.heap.size) (hd:d.fin=3) (hf:f.fin=2) (hc:d.counted=false) (i:Nat) (hp:f.pan=i) (hi:i<m.panics.length) :
  Calls Try.prog 304 #[.pointer (some ⟨gm,0,none⟩),.pointer (some ⟨gf,0,none⟩),.pointer (some ⟨gd,0,none⟩)] w fun e w'=>e= .returned (.tuple #[])∧Mach w' base gm A0 fuel (behindI m f d).1 v∧w'.heap[gf]? =some (.cells (frC (behindI m f d).2 rv par).toArray 292 (0,0))∧KeptM base (some gf) w w':=by
 have HA:=Z (H.wk hb (some gf) w.heap.size)
 clear H
 have HF:=am hF
 clear hF
 have HD:=am hD
 clear hD
 have NE:=am hne
 clear hne
 have EQ:=Z (behindI_3 hd hf hc hp hi)
 have H1:=am hd
 have H2:=am hc
 have H3:=am hf
 clear hd hc hf
 have hpos2:0<m.panics.length:=by omega
 obtain⟨gp,cp,hpa,hgp,hcp,hcpm⟩:=own_form HA.out.rows.pa hpos2
 have HPA:=am hpa
 clear hpa
 unfold maxLen at hcpm
 have HP1:=am hp
 clear hp
 cases hfl:f.leaving
 all_goals
  have hca0:w.cell? ⟨gf,10,none⟩=some (.bool f.leaving):=(blk_cell HF.out 10).trans (rfl)
  have hfa0:=blk_frozen HF.out 10
  have hca1:w.cell? ⟨gd,10,none⟩=some (.bool d.leaving):=(blk_cell HD.out 10).trans (rfl)
  have hfa1:=blk_frozen HD.out 10
  go_enter Try.func304,Try.ntmps304
  go_upto_region 1 with(fail)
  first
  |rw [show w.setCell ⟨gf,10,none⟩ (.bool d.leaving)=w.setCell ⟨gf,10,none⟩ (.bool (f.leaving||d.leaving)) from by rw [hfl];rfl]
  |rw [show w.setCell ⟨gf,10,none⟩ (.bool true)=w.setCell ⟨gf,10,none⟩ (.bool (f.leaving||d.leaving)) from by rw [hfl];rfl]
  clear hfl hca0 hfa0 hca1 hfa1
  have hev:=Evt.set HF.out 10 (.bool (f.leaving||d.leaving))
  replace HA:=Z (HA.out.other hev zq83 (fun q hq=>zq82))
  replace HF:=Z ((blk_set HF.out 10 (.bool (f.leaving||d.leaving))).trans (show _=some (Obj.cells (frC { f with leaving:=(f.leaving||d.leaving) } rv par).toArray 292 (0,0)) from rfl))
  replace HD:=hev.b' HD zq97
  clear hev
  generalize w.setCell ⟨gf,10,none⟩ (.bool (f.leaving||d.leaving))=x1 at HA HF HD ⊢
  all_goals
   have hcb0:x1.cell? ⟨gf,11,none⟩=some (.int .i64 2):=(blk_cell HF.out 11).trans zq147
   have hfb0:=blk_frozen HF.out 11
   have hcb1:x1.cell? ⟨gd,9,none⟩=some (.bool false):=(blk_cell HD.out 9).trans zq134
   have hfb1:=blk_frozen HD.out 9
   have hcb2:x1.cell? ⟨gd,11,none⟩=some (.int .i64 3):=(blk_cell HD.out 11).trans zq102
   have hfb2:=blk_frozen HD.out 11
   go_upto_region 9 with(fail)
   clear hcb0 hfb0 hcb1 hfb1 hcb2 hfb2
   have hE0_:=Evt.drew x1 292
   replace HA:=Z (HA.out.drew)
   replace HF:=(Evt.drew x1 0).b HF
   replace HD:=(Evt.drew x1 0).b HD
   clear hE0_
   refine start_ (n:=11) (S:=fun w'=>w'.cell? ⟨gm,9,none⟩=some (.slice (some ⟨gp,0,none⟩) m.panics.length cp)∧w'.cell? ⟨gf,12,none⟩=some (.int .i64 (i:Int))∧True) (ds:= [10]) (bb 11 0) zq27 rfl rfl ⟨(blk_cell HA.out.blk 9).trans zq130,(blk_cell HF.out 12).trans (by rw [← HP1.out];rfl),trivial⟩ (fun hHeld=> ?_)
   generalize x1.drew=x2 at HA HF HD hHeld ⊢
   refine pure1 0 94 (bb 11 1) (h:= ?_)
   refine pure1 1 95 (bb 11 3) (h:= ?_)
   refine pure1 2 96 (bb 11 7) (h:= ?_)
   refine take1 3 97 (bb 11 15) (hS:=hHeld) (h:= ?_)
   refine pure1 4 98 (bb 11 31) (h:= ?_)
   refine pure1 5 99 (bb 11 63) (h:= ?_)
   refine pure1 6 100 (bb 11 127) (h:= ?_)
   refine take1 7 101 (bb 11 255) (hS:=hHeld) (h:= ?_)
   refine pure1 8 102 (bb 11 511) (h:= ?_)
   refine pure1 9 103 (bb 11 1023) (h:= ?_)
   refine la 10 none (bb 11 2047) (h:=fun K hK=> ?_)
   have hc_:=(HA.out.panCell HPA.out i 4 hi zq83).1.trans (show _=some (Value.int .i64 m.panics[i].fate) from rfl)
   have hf_:=(HA.out.panCell HPA.out i 4 hi zq83).2
   rw [if_pos (by rfl)]
   unfold Oper.wp
   go_simp
   clear hc_ hf_
   have hev:=(HA.out.setPanic HPA.out i 4 hi zq83 (.int .i64 4) { m.panics[i] with fate:=4 } (fun _=>rfl) rfl).2
   replace HA:=Z ((HA.out.setPanic HPA.out i 4 hi zq83 (.int .i64 4) { m.panics[i] with fate:=4 } (fun _=>rfl) rfl).1)
   replace HF:=hev.b HF
   replace HD:=hev.b HD
   generalize x2.setCell ⟨gp,i*9+4,none⟩ (.int .i64 4)=x3 at HA HF HD ⊢
   clear hev
   refine hK.out _ _ ?_
   clear hK K
   refine done_ zq27 ?_
   have hcc0:x3.cell? ⟨gf,11,none⟩=some (.int .i64 2):=(blk_cell HF.out 11).trans zq147
   have hfc0:=blk_frozen HF.out 11
   go_wp2_with (fail)
   clear hcc0 hfc0
   have hev:=Evt.set HF.out 11 (.int .i64 3)
   replace HA:=Z (HA.out.other hev zq83 (fun q hq=>zq82))
   replace HF:=Z ((blk_set HF.out 11 (.int .i64 3)).trans (show _=some (Obj.cells (frC { f with leaving:=(f.leaving||d.leaving),fin:=3 } rv par).toArray 292 (0,0)) from rfl))
   replace HD:=hev.b' HD zq97
   clear hev
   generalize x3.setCell ⟨gf,11,none⟩ (.int .i64 3)=x4 at HA HF HD ⊢
   refine end0_ rfl rfl ?_
   rw [EQ.out]
   exact⟨rfl,HA.out.mach,HF.out,HA.out.toM⟩
theorem behind_1(w:World)(base gm gf gd:Nat)(A0:Value)(fuel:Int)(m:MS)(v:MV)(f d:Fr)(rv par rd pd:Value)(H:Mach w base gm A0 fuel m v)(hF:w.heap[gf]? =some (.cells (frC f rv par).toArray 292 (0,0)))(hD:w.heap[gd]? =some (.cells (frC d rd pd).toArray 292 (0,0)))
  (hne:gd≠gf) (hbf:base≤gf) (hb:base≤w.heap.size) (hd:d.fin=2) (hf:f.fin=2) (hc:d.counted=false) (i k:Nat) (hp:f.pan=i) (hi:i<m.panics.length) (hq:d.pan=k) (hk:k<m.panics.length) :
  Calls Try.prog 304 #[.pointer (some ⟨gm,0,none⟩),.pointer (some ⟨gf,0,none⟩),.pointer (some ⟨gd,0,none⟩)] w fun e w'=>e= .returned (.tuple #[])∧Mach w' base gm A0 fuel (behindI m f d).1 v∧w'.heap[gf]? =some (.cells (frC (behindI m f d).2 rv par).toArray 292 (0,0))∧KeptM base (some gf) w w':=by
 have HA:=Z (H.wk hb (some gf) w.heap.size)
 clear H
 have HF:=am hF
 clear hF
 have HD:=am hD
 clear hD
 have NE:=am hne
 clear hne
 have EQ:=Z (behindI_1 hd hf hc hp hi hq hk)
 have H1:=am hd
 have H2:=am hc
 have H3:=am hf
 clear hd hc hf
 have hpos2:0<m.panics.length:=by omega
 obtain⟨gp,cp,hpa,hgp,hcp,hcpm⟩:=own_form HA.out.rows.pa hpos2
 have HPA:=am hpa
 clear hpa
 unfold maxLen at hcpm
 have HP1:=am hp
 clear hp
 have HP2:=am hq
 clear hq
 cases hfl:f.leaving
 all_goals
  have hca0:w.cell? ⟨gf,10,none⟩=some (.bool f.leaving):=(blk_cell HF.out 10).trans (rfl)
  have hfa0:=blk_frozen HF.out 10
  have hca1:w.cell? ⟨gd,10,none⟩=some (.bool d.leaving):=(blk_cell HD.out 10).trans (rfl)
  have hfa1:=blk_frozen HD.out 10
  go_enter Try.func304,Try.ntmps304
  go_upto_region 1 with(fail)
  first
  |rw [show w.setCell ⟨gf,10,none⟩ (.bool d.leaving)=w.setCell ⟨gf,10,none⟩ (.bool (f.leaving||d.leaving)) from by rw [hfl];rfl]
  |rw [show w.setCell ⟨gf,10,none⟩ (.bool true)=w.setCell ⟨gf,10,none⟩ (.bool (f.leaving||d.leaving)) from by rw [hfl];rfl]
  clear hfl hca0 hfa0 hca1 hfa1
  have hev:=Evt.set HF.out 10 (.bool (f.leaving||d.leaving))
  replace HA:=Z (HA.out.other hev zq83 (fun q hq=>zq82))
  replace HF:=Z ((blk_set HF.out 10 (.bool (f.leaving||d.leaving))).trans (show _=some (Obj.cells (frC { f with leaving:=(f.leaving||d.leaving) } rv par).toArray 292 (0,0)) from rfl))
  replace HD:=hev.b' HD zq97
  clear hev
  generalize w.setCell ⟨gf,10,none⟩ (.bool (f.leaving||d.leaving))=x1 at HA HF HD ⊢
  all_goals
   have hcb0:x1.cell? ⟨gf,11,none⟩=some (.int .i64 2):=(blk_cell HF.out 11).trans zq147
   have hfb0:=blk_frozen HF.out 11
   have hcb1:x1.cell? ⟨gd,9,none⟩=some (.bool false):=(blk_cell HD.out 9).trans zq134
   have hfb1:=blk_frozen HD.out 9
   have hcb2:x1.cell? ⟨gd,11,none⟩=some (.int .i64 2):=(blk_cell HD.out 11).trans zq102
   have hfb2:=blk_frozen HD.out 11
   go_upto_region 4 with(fail)
   clear hcb0 hfb0 hcb1 hfb1 hcb2 hfb2
   have hE0_:=Evt.drew x1 292
   replace HA:=Z (HA.out.drew)
   replace HF:=(Evt.drew x1 0).b HF
   replace HD:=(Evt.drew x1 0).b HD
   clear hE0_
   refine start_ (n:=26) (S:=fun w'=>w'.cell? ⟨gm,9,none⟩=some (.slice (some ⟨gp,0,none⟩) m.panics.length cp)∧w'.cell? ⟨gf,12,none⟩=some (.int .i64 (i:Int))∧w'.cell? ⟨gd,12,none⟩=some (.int .i64 (k:Int))∧True) (ds:= [22,25]) (bb 26 0) zq27 rfl rfl ⟨(blk_cell HA.out.blk 9).trans zq130,(blk_cell HF.out 12).trans (by rw [← HP1.out];rfl),(blk_cell HD.out 12).trans (by rw [← HP2.out];rfl),trivial⟩ (fun hHeld=> ?_)
   generalize x1.drew=x2 at HA HF HD hHeld ⊢
   refine pure1 0 39 (bb 26 1) (h:= ?_)
   refine pure1 1 40 (bb 26 3) (h:= ?_)
   refine pure1 2 41 (bb 26 7) (h:= ?_)
   refine take1 3 42 (bb 26 15) (hS:=hHeld) (h:= ?_)
   refine pure1 4 43 (bb 26 31) (h:= ?_)
   refine pure1 5 44 (bb 26 63) (h:= ?_)
   refine pure1 6 45 (bb 26 127) (h:= ?_)
   refine take1 7 46 (bb 26 255) (hS:=hHeld) (h:= ?_)
   refine pure1 8 47 (bb 26 511) (h:= ?_)
   refine pure1 9 48 (bb 26 1023) (h:= ?_)
   refine pure1 10 49 (bb 26 2047) (h:= ?_)
   refine take1 11 50 (bb 26 4095) (hS:=hHeld) (h:= ?_)
   refine pure1 12 51 (bb 26 8191) (h:= ?_)
   refine pure1 13 52 (bb 26 16383) (h:= ?_)
   refine pure1 14 53 (bb 26 32767) (h:= ?_)
   refine take1 15 54 (bb 26 65535) (hS:=hHeld) (h:= ?_)
   refine pure1 16 55 (bb 26 131071) (h:= ?_)
   refine pure1 17 56 (bb 26 262143) (h:= ?_)
   refine pure1 18 57 (bb 26 524287) (h:= ?_)
   refine take1 19 58 (bb 26 1048575) (hS:=hHeld) (h:= ?_)
   refine pure1 20 59 (bb 26 2097151) (h:= ?_)
   refine pure1 21 60 (bb 26 4194303) (h:= ?_)
   refine la 22 none (bb 26 8388607) (h:=fun K hK=> ?_)
   have hc_:=(HA.out.panCell HPA.out i 4 hi zq83).1.trans (show _=some (Value.int .i64 m.panics[i].fate) from rfl)
   have hf_:=(HA.out.panCell HPA.out i 4 hi zq83).2
   rw [if_pos (by rfl)]
   unfold Oper.wp
   go_simp
   clear hc_ hf_
   have hev:=(HA.out.setPanic HPA.out i 4 hi zq83 (.int .i64 2) { m.panics[i] with fate:=2 } (fun _=>rfl) rfl).2
   replace HA:=Z ((HA.out.setPanic HPA.out i 4 hi zq83 (.int .i64 2) { m.panics[i] with fate:=2 } (fun _=>rfl) rfl).1)
   replace HF:=hev.b HF
   replace HD:=hev.b HD
   generalize x2.setCell ⟨gp,i*9+4,none⟩ (.int .i64 2)=x3 at HA HF HD ⊢
   clear hev
   refine hK.out _ _ ?_
   clear hK K
   refine pure1 23 61 (bb 26 16777215) (h:= ?_)
   refine pure1 24 62 (bb 26 33554431) (h:= ?_)
   refine la 25 none (bb 26 67108863) (h:=fun K hK=> ?_)
   obtain⟨u__,hc__,hu__⟩:=(HA.out.panCell' HPA.out 5 hi zq83).1
   have hc_:=hc__
   have hf_:=(HA.out.panCell' HPA.out 5 hi zq83).2
   rw [if_pos (by rfl)]
   unfold Oper.wp
   go_simp
   clear hc_ hf_
   have hev:=(HA.out.setPanic' HPA.out 5 hi zq83 (.int .i64 (k:Int)) { m.panics[i] with fate:=2,by_:=(k:Int) } (fun _=>rfl) rfl).2
   replace HA:=Z ((HA.out.setPanic' HPA.out 5 hi zq83 (.int .i64 (k:Int)) { m.panics[i] with fate:=2,by_:=(k:Int) } (fun _=>rfl) rfl).1)
   replace HF:=hev.b HF
   replace HD:=hev.b HD
   generalize x3.setCell ⟨gp,i*9+5,none⟩ (.int .i64 (k:Int))=x4 at HA HF HD ⊢
   clear hev
   refine hK.out _ _ ?_
   clear hK K
   refine done_ zq27 ?_
   have hk':k<(m.panics.set i { m.panics[i] with fate:=2,by_:=(k:Int) }).length:=by rw [List.length_set];exact hk
   have HPB:=Z (show v.pa= .slice (some ⟨gp,0,none⟩) (m.panics.set i { m.panics[i] with fate:=2,by_:=(k:Int) }).length cp from by rw [List.length_set];exact HPA.out)
   go_upto_region 5 with(fail)
   have hE0_:=Evt.drew x4 292
   replace HA:=Z (HA.out.drew)
   replace HF:=(Evt.drew x4 0).b HF
   replace HD:=(Evt.drew x4 0).b HD
   clear hE0_
   refine start_ (n:=15) (S:=fun w'=>w'.cell? ⟨gm,9,none⟩=some (.slice (some ⟨gp,0,none⟩) m.panics.length cp)∧w'.cell? ⟨gd,12,none⟩=some (.int .i64 (k:Int))∧w'.cell? ⟨gf,12,none⟩=some (.int .i64 (i:Int))∧True) (ds:= [14]) (bb 15 0) zq27 rfl rfl ⟨(blk_cell HA.out.blk 9).trans zq130,(blk_cell HD.out 12).trans (by rw [← HP2.out];rfl),(blk_cell HF.out 12).trans (by rw [← HP1.out];rfl),trivial⟩ (fun hHeld=> ?_)
   generalize x4.drew=x5 at HA HF HD hHeld ⊢
   refine pure1 0 63 (bb 15 1) (h:= ?_)
   refine pure1 1 64 (bb 15 3) (h:= ?_)
   refine pure1 2 65 (bb 15 7) (h:= ?_)
   refine take1 3 66 (bb 15 15) (hS:=hHeld) (h:= ?_)
   refine pure1 4 67 (bb 15 31) (h:= ?_)
   refine pure1 5 68 (bb 15 63) (h:= ?_)
   refine pure1 6 69 (bb 15 127) (h:= ?_)
   refine take1 7 70 (bb 15 255) (hS:=hHeld) (h:= ?_)
   refine pure1 8 71 (bb 15 511) (h:= ?_)
   refine pure1 9 72 (bb 15 1023) (h:= ?_)
   refine pure1 10 73 (bb 15 2047) (h:= ?_)
   refine take1 11 74 (bb 15 4095) (hS:=hHeld) (h:= ?_)
   refine pure1 12 75 (bb 15 8191) (h:= ?_)
   refine pure1 13 76 (bb 15 16383) (h:= ?_)
   refine la 14 none (bb 15 32767) (h:=fun K hK=> ?_)
   have hc_:=(HA.out.panCell HPB.out k 6 hk' zq83).1.trans (show _=some (Value.int .i64 (m.panics.set i { m.panics[i] with fate:=2,by_:=(k:Int) })[k].last) from rfl)
   have hf_:=(HA.out.panCell HPB.out k 6 hk' zq83).2
   rw [if_pos (by rfl)]
   unfold Oper.wp
   go_simp
   clear hc_ hf_
   have hev:=(HA.out.setPanic HPB.out k 6 hk' zq83 (.int .i64 (i:Int)) { (m.panics.set i { m.panics[i] with fate:=2,by_:=(k:Int) })[k] with last:=(i:Int) } (fun _=>rfl) rfl).2
   replace HA:=Z ((HA.out.setPanic HPB.out k 6 hk' zq83 (.int .i64 (i:Int)) { (m.panics.set i { m.panics[i] with fate:=2,by_:=(k:Int) })[k] with last:=(i:Int) } (fun _=>rfl) rfl).1)
   replace HF:=hev.b HF
   replace HD:=hev.b HD
   generalize x5.setCell ⟨gp,k*9+6,none⟩ (.int .i64 (i:Int))=x6 at HA HF HD ⊢
   clear hev
   refine hK.out _ _ ?_
   clear hK K
   refine done_ zq27 ?_
   have hcc0:x6.cell? ⟨gf,11,none⟩=some (.int .i64 2):=(blk_cell HF.out 11).trans zq147
   have hfc0:=blk_frozen HF.out 11
   have hcc1:x6.cell? ⟨gd,12,none⟩=some (.int .i64 d.pan):=(blk_cell HD.out 12).trans (rfl)
   have hfc1:=blk_frozen HD.out 12
   have hcc2:x6.cell? ⟨gf,12,none⟩=some (.int .i64 f.pan):=(blk_cell HF.out 12).trans (rfl)
   have hfc2:=blk_frozen HF.out 12
   go_wp2_with (fail)
   clear hcc0 hfc0 hcc1 hfc1 hcc2 hfc2
   have hev:=Evt.set HF.out 11 (.int .i64 2)
   replace HA:=Z (HA.out.other hev zq83 (fun q hq=>zq82))
   replace HF:=Z ((blk_set HF.out 11 (.int .i64 2)).trans (show _=some (Obj.cells (frC { f with leaving:=(f.leaving||d.leaving),fin:=2 } rv par).toArray 292 (0,0)) from rfl))
   replace HD:=hev.b' HD zq97
   clear hev
   generalize x6.setCell ⟨gf,11,none⟩ (.int .i64 2)=x7 at HA HF HD ⊢
   have hev:=Evt.set HF.out 12 (.int .i64 d.pan)
   replace HA:=Z (HA.out.other hev zq83 (fun q hq=>zq82))
   replace HF:=Z ((blk_set HF.out 12 (.int .i64 d.pan)).trans (show _=some (Obj.cells (frC { f with leaving:=(f.leaving||d.leaving),fin:=2,pan:=d.pan } rv par).toArray 292 (0,0)) from rfl))
   replace HD:=hev.b' HD zq97
   clear hev
   generalize x7.setCell ⟨gf,12,none⟩ (.int .i64 d.pan)=x8 at HA HF HD ⊢
   refine end0_ rfl rfl ?_
   rw [EQ.out]
   exact⟨rfl,HA.out.mach,HF.out,HA.out.toM⟩
theorem recover_0n(w:World)(base gm gf:Nat)(A0:Value)(fuel:Int)(m:MS)(v:MV)(f:Fr)(rv pv:Value)(r:Nat)(hr4:r<4)(H:Mach w base gm A0 fuel m v)(hF:w.heap[gf]? =some (.cells (frC f rv pv).toArray 292 (0,0)))
  (hbf:base≤gf) (hb:base≤w.heap.size) (hd:f.dfr=false) :
  Calls Try.prog 311 #[.pointer (some ⟨gm,0,none⟩),.pointer (some ⟨gf,0,none⟩),.int .i64 (r:Int)] w fun e w'=>e= .returned (.tuple #[])∧Mach w' base gm A0 fuel m v∧w'.heap[gf]? =some (.cells (frC ({ setReg f r 0 with r3:=0 }) rv pv).toArray 292 (0,0))∧KeptM base (some gf) w w':=by
 have HA:=Z (H.wk hb (some gf) w.heap.size)
 clear H
 have HF:=am hF
 clear hF
 have hr4i:(r:Int)<4:=by omega
 have H1:=am hd
 clear hd
 have hca0:w.cell? ⟨gf,8,none⟩=some (.bool false):=(blk_cell HF.out (8)).trans zq102
 have hfa0:=blk_frozen HF.out (8)
 go_enter Try.func311,Try.ntmps311
 go_upto_region 1 with(fail)
 clear hca0 hfa0
 have hE0_:=Evt.drew w 292
 replace HA:=Z (HA.out.drew)
 replace HF:=(Evt.drew w 0).b HF
 clear hE0_
 refine start_ (n:=11) (S:=fun w'=>True) (ds:= [6,10]) (bb 11 0) zq27 rfl rfl trivial (fun hHeld=> ?_)
 generalize w.drew=x1 at HA HF hHeld ⊢
 refine pure1 0 28 (bb 11 1) (h:= ?_)
 refine pure1 1 29 (bb 11 3) (h:= ?_)
 refine pure1 2 30 (bb 11 7) (h:= ?_)
 refine pure1 3 31 (bb 11 15) (h:= ?_)
 refine pure1 4 32 (bb 11 31) (h:= ?_)
 refine pure1 5 33 (bb 11 63) (h:= ?_)
 refine pure1 7 34 (bb 11 191) (h:= ?_)
 refine pure1 8 35 (bb 11 447) (h:= ?_)
 refine la 6 none (bb 11 511) (h:=fun K hK=> ?_)
 have hc_:=(blk_cell HF.out (2+r)).trans (frC_reg f rv pv r hr4)
 have hf_:=blk_frozen HF.out (2+r)
 rw [if_pos (by rfl)]
 unfold Oper.wp
 go_simp
 clear hc_ hf_
 have hev:=Evt.set HF.out (2+r) (.int .i64 0)
 replace HA:=Z (HA.out.other hev zq83 (fun q hq=>zq82))
 replace HF:=Z ((blk_set HF.out (2+r) (.int .i64 0)).trans (congrArg (fun c=>some (Obj.cells c 292 (0,0))) (frC_set f rv pv r hr4 0)))
 generalize x1.setCell ⟨gf,2+r,none⟩ (.int .i64 0)=x2 at HA HF ⊢
 clear hev
 refine hK.out _ _ ?_
 clear hK K
 refine pure1 9 36 (bb 11 1023) (h:= ?_)
 refine la 10 none (bb 11 2047) (h:=fun K hK=> ?_)
 have hc_:=(blk_cell HF.out 5).trans (show _=some (Value.int .i64 (setReg f r 0).r3) from rfl)
 have hf_:=blk_frozen HF.out 5
 rw [if_pos (by rfl)]
 unfold Oper.wp
 go_simp
 clear hc_ hf_
 have hev:=Evt.set HF.out 5 (.int .i64 0)
 replace HA:=Z (HA.out.other hev zq83 (fun q hq=>zq82))
 replace HF:=Z ((blk_set HF.out 5 (.int .i64 0)).trans (show _=some (Obj.cells (frC { setReg f r 0 with r3:=0 } rv pv).toArray 292 (0,0)) from rfl))
 generalize x2.setCell ⟨gf,5,none⟩ (.int .i64 0)=x3 at HA HF ⊢
 clear hev
 refine hK.out _ _ ?_
 clear hK K
 refine done_ zq27 ?_
 go_wp2_with (fail)
 refine bodyPost_ret (results_none rfl _ _ _) rfl ?_
 exact⟨rfl,HA.out.mach,HF.out,HA.out.toM⟩
theorem recover_0c(w:World)(base gm gf:Nat)(A0:Value)(fuel:Int)(m:MS)(v:MV)(f:Fr)(rv pv:Value)(r:Nat)(hr4:r<4)(H:Mach w base gm A0 fuel m v)(hF:w.heap[gf]? =some (.cells (frC f rv pv).toArray 292 (0,0)))
  (hbf:base≤gf) (hb:base≤w.heap.size) (hd:f.dfr=true) (hc:f.counted=true) :
  Calls Try.prog 311 #[.pointer (some ⟨gm,0,none⟩),.pointer (some ⟨gf,0,none⟩),.int .i64 (r:Int)] w fun e w'=>e= .returned (.tuple #[])∧Mach w' base gm A0 fuel m v∧w'.heap[gf]? =some (.cells (frC ({ setReg f r 0 with r3:=0 }) rv pv).toArray 292 (0,0))∧KeptM base (some gf) w w':=by
 have HA:=Z (H.wk hb (some gf) w.heap.size)
 clear H
 have HF:=am hF
 clear hF
 have hr4i:(r:Int)<4:=by omega
 have H1:=am hd
 clear hd
 have H2:=am hc
 clear hc
 have hca0:w.cell? ⟨gf,8,none⟩=some (.bool true):=(blk_cell HF.out (8)).trans zq102
 have hfa0:=blk_frozen HF.out (8)
 have hca1:w.cell? ⟨gf,9,none⟩=some (.bool true):=(blk_cell HF.out (9)).trans zq134
 have hfa1:=blk_frozen HF.out (9)
 go_enter Try.func311,Try.ntmps311
 go_upto_region 1 with(fail)
 clear hca0 hfa0 hca1 hfa1
 have hE0_:=Evt.drew w 292
 replace HA:=Z (HA.out.drew)
 replace HF:=(Evt.drew w 0).b HF
 clear hE0_
 refine start_ (n:=11) (S:=fun w'=>True) (ds:= [6,10]) (bb 11 0) zq27 rfl rfl trivial (fun hHeld=> ?_)
 generalize w.drew=x1 at HA HF hHeld ⊢
 refine pure1 0 28 (bb 11 1) (h:= ?_)
 refine pure1 1 29 (bb 11 3) (h:= ?_)
 refine pure1 2 30 (bb 11 7) (h:= ?_)
 refine pure1 3 31 (bb 11 15) (h:= ?_)
 refine pure1 4 32 (bb 11 31) (h:= ?_)
 refine pure1 5 33 (bb 11 63) (h:= ?_)
 refine pure1 7 34 (bb 11 191) (h:= ?_)
 refine pure1 8 35 (bb 11 447) (h:= ?_)
 refine la 6 none (bb 11 511) (h:=fun K hK=> ?_)
 have hc_:=(blk_cell HF.out (2+r)).trans (frC_reg f rv pv r hr4)
 have hf_:=blk_frozen HF.out (2+r)
 rw [if_pos (by rfl)]
 unfold Oper.wp
 go_simp
 clear hc_ hf_
 have hev:=Evt.set HF.out (2+r) (.int .i64 0)
 replace HA:=Z (HA.out.other hev zq83 (fun q hq=>zq82))
 replace HF:=Z ((blk_set HF.out (2+r) (.int .i64 0)).trans (congrArg (fun c=>some (Obj.cells c 292 (0,0))) (frC_set f rv pv r hr4 0)))
 generalize x1.setCell ⟨gf,2+r,none⟩ (.int .i64 0)=x2 at HA HF ⊢
 clear hev
 refine hK.out _ _ ?_
 clear hK K
 refine pure1 9 36 (bb 11 1023) (h:= ?_)
 refine la 10 none (bb 11 2047) (h:=fun K hK=> ?_)
 have hc_:=(blk_cell HF.out 5).trans (show _=some (Value.int .i64 (setReg f r 0).r3) from rfl)
 have hf_:=blk_frozen HF.out 5
 rw [if_pos (by rfl)]
 unfold Oper.wp
 go_simp
 clear hc_ hf_
 have hev:=Evt.set HF.out 5 (.int .i64 0)
 replace HA:=Z (HA.out.other hev zq83 (fun q hq=>zq82))
 replace HF:=Z ((blk_set HF.out 5 (.int .i64 0)).trans (show _=some (Obj.cells (frC { setReg f r 0 with r3:=0 } rv pv).toArray 292 (0,0)) from rfl))
 generalize x2.setCell ⟨gf,5,none⟩ (.int .i64 0)=x3 at HA HF ⊢
 clear hev
 refine hK.out _ _ ?_
 clear hK K
 refine done_ zq27 ?_
 go_wp2_with (fail)
 refine bodyPost_ret (results_none rfl _ _ _) rfl ?_
 exact⟨rfl,HA.out.mach,HF.out,HA.out.toM⟩
theorem recover_0p(w:World)(base gm gf:Nat)(A0:Value)(fuel:Int)(m:MS)(v:MV)(f:Fr)(rv pv:Value)(r:Nat)(hr4:r<4)(H:Mach w base gm A0 fuel m v)(hF:w.heap[gf]? =some (.cells (frC f rv pv).toArray 292 (0,0)))
  (hbf:base≤gf) (hb:base≤w.heap.size) (gp:Nat) (pf:Fr) (rp pp:Value) (hpv:pv= .pointer (some ⟨gp,0,none⟩)) (hP:w.heap[gp]? =some (.cells (frC pf rp pp).toArray 292 (0,0))) (hne:gp≠gf) (hd:f.dfr=true) (hc:f.counted=false) (hp:(pf.fin==2)=false) :
  Calls Try.prog 311 #[.pointer (some ⟨gm,0,none⟩),.pointer (some ⟨gf,0,none⟩),.int .i64 (r:Int)] w fun e w'=>e= .returned (.tuple #[])∧Mach w' base gm A0 fuel m v∧w'.heap[gf]? =some (.cells (frC ({ setReg f r 0 with r3:=0 }) rv pv).toArray 292 (0,0))∧KeptM base (some gf) w w':=by
 have HA:=Z (H.wk hb (some gf) w.heap.size)
 clear H
 have HF:=am hF
 clear hF
 have hr4i:(r:Int)<4:=by omega
 subst hpv
 have HP:=am hP
 clear hP
 have NE:=am hne
 clear hne
 have H1:=am hd
 clear hd
 have H2:=am hc
 clear hc
 have hca0:w.cell? ⟨gf,8,none⟩=some (.bool true):=(blk_cell HF.out (8)).trans zq102
 have hfa0:=blk_frozen HF.out (8)
 have hca1:w.cell? ⟨gf,9,none⟩=some (.bool false):=(blk_cell HF.out (9)).trans zq134
 have hfa1:=blk_frozen HF.out (9)
 have hca2:w.cell? ⟨gf,7,none⟩=some (.pointer (some ⟨gp,0,none⟩)):=(blk_cell HF.out (7)).trans (rfl)
 have hfa2:=blk_frozen HF.out (7)
 have hca3:w.cell? ⟨gp,11,none⟩=some (.int .i64 pf.fin):=(blk_cell HP.out (11)).trans (rfl)
 have hfa3:=blk_frozen HP.out (11)
 have hpn:(pf.fin != 2)=true:=by simp [bne,hp]
 go_enter Try.func311,Try.ntmps311
 go_upto_region 1 with(fail)
 clear hca0 hfa0 hca1 hfa1 hca2 hfa2 hca3 hfa3 hp hpn
 have hE0_:=Evt.drew w 292
 replace HA:=Z (HA.out.drew)
 replace HF:=(Evt.drew w 0).b HF
 replace HP:=(Evt.drew w 0).b HP
 clear hE0_
 refine start_ (n:=11) (S:=fun w'=>True) (ds:= [6,10]) (bb 11 0) zq27 rfl rfl trivial (fun hHeld=> ?_)
 generalize w.drew=x1 at HA HF HP hHeld ⊢
 refine pure1 0 28 (bb 11 1) (h:= ?_)
 refine pure1 1 29 (bb 11 3) (h:= ?_)
 refine pure1 2 30 (bb 11 7) (h:= ?_)
 refine pure1 3 31 (bb 11 15) (h:= ?_)
 refine pure1 4 32 (bb 11 31) (h:= ?_)
 refine pure1 5 33 (bb 11 63) (h:= ?_)
 refine pure1 7 34 (bb 11 191) (h:= ?_)
 refine pure1 8 35 (bb 11 447) (h:= ?_)
 refine la 6 none (bb 11 511) (h:=fun K hK=> ?_)
 have hc_:=(blk_cell HF.out (2+r)).trans (frC_reg f rv (.pointer (some ⟨gp,0,none⟩)) r hr4)
 have hf_:=blk_frozen HF.out (2+r)
 rw [if_pos (by rfl)]
 unfold Oper.wp
 go_simp
 clear hc_ hf_
 have hev:=Evt.set HF.out (2+r) (.int .i64 0)
 replace HA:=Z (HA.out.other hev zq83 (fun q hq=>zq82))
 replace HF:=Z ((blk_set HF.out (2+r) (.int .i64 0)).trans (congrArg (fun c=>some (Obj.cells c 292 (0,0))) (frC_set f rv (.pointer (some ⟨gp,0,none⟩)) r hr4 0)))
 replace HP:=hev.b' HP zq97
 generalize x1.setCell ⟨gf,2+r,none⟩ (.int .i64 0)=x2 at HA HF HP ⊢
 clear hev
 refine hK.out _ _ ?_
 clear hK K
 refine pure1 9 36 (bb 11 1023) (h:= ?_)
 refine la 10 none (bb 11 2047) (h:=fun K hK=> ?_)
 have hc_:=(blk_cell HF.out 5).trans (show _=some (Value.int .i64 (setReg f r 0).r3) from rfl)
 have hf_:=blk_frozen HF.out 5
 rw [if_pos (by rfl)]
 unfold Oper.wp
 go_simp
 clear hc_ hf_
 have hev:=Evt.set HF.out 5 (.int .i64 0)
 replace HA:=Z (HA.out.other hev zq83 (fun q hq=>zq82))
 replace HF:=Z ((blk_set HF.out 5 (.int .i64 0)).trans (show _=some (Obj.cells (frC { setReg f r 0 with r3:=0 } rv (.pointer (some ⟨gp,0,none⟩))).toArray 292 (0,0)) from rfl))
 replace HP:=hev.b' HP zq97
 generalize x2.setCell ⟨gf,5,none⟩ (.int .i64 0)=x3 at HA HF HP ⊢
 clear hev
 refine hK.out _ _ ?_
 clear hK K
 refine done_ zq27 ?_
 go_wp2_with (fail)
 refine bodyPost_ret (results_none rfl _ _ _) rfl ?_
 exact⟨rfl,HA.out.mach,HF.out,HA.out.toM⟩
theorem recover_1(w:World)(base gm gf:Nat)(A0:Value)(fuel:Int)(m:MS)(v:MV)(f:Fr)(rv pv:Value)(r:Nat)(hr4:r<4)(H:Mach w base gm A0 fuel m v)(hF:w.heap[gf]? =some (.cells (frC f rv pv).toArray 292 (0,0)))
  (hbf:base≤gf) (hb:base≤w.heap.size) (gp:Nat) (pf:Fr) (rp pp:Value) (hpv:pv= .pointer (some ⟨gp,0,none⟩)) (hP:w.heap[gp]? =some (.cells (frC pf rp pp).toArray 292 (0,0))) (hne:gp≠gf) (hd:f.dfr=true) (hc:f.counted=false) (hp:pf.fin=2) (i:Nat) (hpi:pf.pan=i) (hi:i<m.panics.length) (hr:m.trace.length≤100000) (ho:m.owners.length≤100000) (hrc:m.recs.length≤100000) :
  Calls Try.prog 311 #[.pointer (some ⟨gm,0,none⟩),.pointer (some ⟨gf,0,none⟩),.int .i64 (r:Int)] w fun e w'=>e= .returned (.tuple #[])∧(∃ s t q,Mach w' base gm A0 fuel (tell { m with panics:=m.panics.set i { m.panics[i] with fate:=1 },recs:=m.recs++ [⟨f.id,pf.id,(i:Int)⟩] } 6 f.fn m.panics[i].val f.id) { v with re:=s,tr:=t,ow:=q })∧w'.heap[gf]? =some (.cells (frC ({ setReg { f with counted:=true } r m.panics[i].val with r3:=1 }) rv pv).toArray 292 (0,0))∧KeptM base (some gf) w w':=by
 have HA:=Z (H.wk hb (some gf) w.heap.size)
 clear H
 have HF:=am hF
 clear hF
 have hr4i:(r:Int)<4:=by omega
 subst hpv
 have HP:=am hP
 clear hP
 have NE:=am hne
 clear hne
 have H1:=am hd
 clear hd
 have H2:=am hc
 clear hc
 have H3:=am hp
 clear hp
 have HPI:=am hpi
 clear hpi
 have hpos2:0<m.panics.length:=by omega
 obtain⟨gq,cp,hpa,hgp,hcp,hcpm⟩:=own_form HA.out.rows.pa hpos2
 have HPA:=am hpa
 clear hpa
 unfold maxLen at hcpm
 have e170: ∀ args w,(callFunc 302 args).run Try.prog w= .ok (.enter 302 args) w:=enters_of Try.func302 zq27 rfl
 have hca0:w.cell? ⟨gf,8,none⟩=some (.bool true):=(blk_cell HF.out (8)).trans zq102
 have hfa0:=blk_frozen HF.out (8)
 have hca1:w.cell? ⟨gf,9,none⟩=some (.bool false):=(blk_cell HF.out (9)).trans zq134
 have hfa1:=blk_frozen HF.out (9)
 have hca2:w.cell? ⟨gf,7,none⟩=some (.pointer (some ⟨gp,0,none⟩)):=(blk_cell HF.out (7)).trans (rfl)
 have hfa2:=blk_frozen HF.out (7)
 have hca3:w.cell? ⟨gp,11,none⟩=some (.int .i64 2):=(blk_cell HP.out (11)).trans zq147
 have hfa3:=blk_frozen HP.out (11)
 go_enter Try.func311,Try.ntmps311
 go_upto_region 3 with(fail)
 clear hca0 hfa0 hca1 hfa1 hca2 hfa2 hca3 hfa3
 have hev:=Evt.set HF.out (9) (.bool true)
 replace HA:=Z (HA.out.other hev zq83 (fun q hq=>zq82))
 replace HF:=Z ((blk_set HF.out (9) (.bool true)).trans (show _=some (Obj.cells (frC { f with counted:=true } rv (.pointer (some ⟨gp,0,none⟩))).toArray 292 (0,0)) from rfl))
 replace HP:=hev.b' HP zq97
 clear hev
 generalize w.setCell ⟨gf,9,none⟩ (.bool true)=x1 at HA HF HP ⊢
 have hE0_:=Evt.drew x1 292
 replace HA:=Z (HA.out.drew)
 replace HF:=(Evt.drew x1 0).b HF
 replace HP:=(Evt.drew x1 0).b HP
 clear hE0_
 refine start_ (n:=13) (S:=fun w'=>w'.cell? ⟨gm,9,none⟩=some (.slice (some ⟨gq,0,none⟩) m.panics.length cp)∧w'.cell? ⟨gf,7,none⟩=some (.pointer (some ⟨gp,0,none⟩))∧w'.cell? ⟨gp,12,none⟩=some (.int .i64 (i:Int))∧True) (ds:= []) (bb 13 0) zq27 rfl rfl ⟨(blk_cell HA.out.blk 9).trans zq130,(blk_cell HF.out 7).trans rfl,(blk_cell HP.out 12).trans (by rw [← HPI.out];rfl),trivial⟩ (fun hHeld=> ?_)
 generalize x1.drew=x2 at HA HF HP hHeld ⊢
 refine pure1 0 40 (bb 13 1) (h:= ?_)
 refine pure1 1 41 (bb 13 3) (h:= ?_)
 refine pure1 2 42 (bb 13 7) (h:= ?_)
 refine take1 3 43 (bb 13 15) (hS:=hHeld) (h:= ?_)
 refine pure1 4 44 (bb 13 31) (h:= ?_)
 refine pure1 5 45 (bb 13 63) (h:= ?_)
 refine pure1 6 46 (bb 13 127) (h:= ?_)
 refine take1 7 47 (bb 13 255) (hS:=hHeld) (h:= ?_)
 refine pure1 8 48 (bb 13 511) (h:= ?_)
 refine pure1 9 49 (bb 13 1023) (h:= ?_)
 refine take1 10 50 (bb 13 2047) (hS:=hHeld) (h:= ?_)
 refine pure1 11 51 (bb 13 4095) (h:= ?_)
 refine pure1 12 6 (bb 13 8191) (h:= ?_)
 refine done_ zq27 ?_
 have hcq:x2.cell? ⟨gq,i*9+4,none⟩=some (.int .i64 m.panics[i].fate):=(HA.out.panCell HPA.out i 4 hi zq83).1.trans rfl
 have hfq:=(HA.out.panCell HPA.out i 4 hi zq83).2
 go_upto_region 5 with(fail)
 clear hcq hfq
 have hev:=(HA.out.setPanic HPA.out i 4 hi zq83 (.int .i64 1) { m.panics[i] with fate:=1 } (fun _=>rfl) rfl).2
 replace HA:=Z ((HA.out.setPanic HPA.out i 4 hi zq83 (.int .i64 1) { m.panics[i] with fate:=1 } (fun _=>rfl) rfl).1)
 replace HF:=hev.b HF
 replace HP:=hev.b HP
 clear hev
 generalize x2.setCell ⟨gq,i*9+4,none⟩ (.int .i64 1)=x3 at HA HF HP ⊢
 have hE0_:=Evt.drew x3 292
 replace HA:=Z (HA.out.drew)
 replace HF:=(Evt.drew x3 0).b HF
 replace HP:=(Evt.drew x3 0).b HP
 clear hE0_
 refine start_ (n:=10) (S:=fun w'=>w'.cell? ⟨gq,i*9+2,none⟩=some (.int .i64 m.panics[i].val)∧True) (ds:= [9]) (bb 10 0) zq27 rfl rfl ⟨(HA.out.panVal' (m:=m) HPA.out 2 hi zq83).trans rfl,trivial⟩ (fun hHeld=> ?_)
 generalize x3.drew=x4 at HA HF HP hHeld ⊢
 refine pure1 0 55 (bb 10 1) (h:= ?_)
 refine pure1 1 56 (bb 10 3) (h:= ?_)
 refine pure1 2 57 (bb 10 7) (h:= ?_)
 refine pure1 3 58 (bb 10 15) (h:= ?_)
 refine pure1 4 59 (bb 10 31) (h:= ?_)
 refine take1 5 60 (bb 10 63) (hS:=hHeld) (h:= ?_)
 refine pure1 6 61 (bb 10 127) (h:= ?_)
 refine pure1 7 62 (bb 10 255) (h:= ?_)
 refine pure1 8 63 (bb 10 511) (h:= ?_)
 refine la 9 none (bb 10 1023) (h:=fun K hK=> ?_)
 have hc_:=(blk_cell HF.out (2+r)).trans (frC_reg { f with counted:=true } rv (.pointer (some ⟨gp,0,none⟩)) r hr4)
 have hf_:=blk_frozen HF.out (2+r)
 rw [if_pos (by rfl)]
 unfold Oper.wp
 go_simp
 clear hc_ hf_
 have hev:=Evt.set HF.out (2+r) (.int .i64 m.panics[i].val)
 replace HA:=Z (HA.out.other hev zq83 (fun q hq=>zq82))
 replace HF:=Z ((blk_set HF.out (2+r) (.int .i64 m.panics[i].val)).trans (congrArg (fun c=>some (Obj.cells c 292 (0,0))) (frC_set { f with counted:=true } rv (.pointer (some ⟨gp,0,none⟩)) r hr4 m.panics[i].val)))
 replace HP:=hev.b' HP zq97
 generalize x4.setCell ⟨gf,2+r,none⟩ (.int .i64 m.panics[i].val)=x5 at HA HF HP ⊢
 clear hev
 refine hK.out _ _ ?_
 clear hK K
 refine done_ zq27 ?_
 have hcb0:x5.cell? ⟨gf,5,none⟩=some (.int .i64 (setReg { f with counted:=true } r m.panics[i].val).r3):=(blk_cell HF.out (5)).trans (rfl)
 have hfb0:=blk_frozen HF.out (5)
 go_upto_region 7 with(fail)
 clear hcb0 hfb0
 have hev:=Evt.set HF.out (5) (.int .i64 1)
 replace HA:=Z (HA.out.other hev zq83 (fun q hq=>zq82))
 replace HF:=Z ((blk_set HF.out (5) (.int .i64 1)).trans (show _=some (Obj.cells (frC { setReg { f with counted:=true } r m.panics[i].val with r3:=1 } rv (.pointer (some ⟨gp,0,none⟩))).toArray 292 (0,0)) from rfl))
 replace HP:=hev.b' HP zq97
 clear hev
 generalize x5.setCell ⟨gf,5,none⟩ (.int .i64 1)=x6 at HA HF HP ⊢
 have FX:({ setReg { f with counted:=true } r m.panics[i].val with r3:=1 }).id=f.id∧({ setReg { f with counted:=true } r m.panics[i].val with r3:=1 }).fn=f.fn:=by
  unfold setReg;split
  ·exact⟨rfl,rfl⟩
  split
  ·exact⟨rfl,rfl⟩
  split<;>exact⟨rfl,rfl⟩
 have FID:=congrArg (fun x=>some (Value.int .i64 x)) FX.1
 have FFN:=congrArg (fun x=>some (Value.int .i64 x)) FX.2
 have FIDH:=am FID
 have FFNH:=am FFN
 clear FX FID FFN
 have hE0_:=Evt.drew x6 292
 replace HA:=Z (HA.out.drew)
 replace HF:=(Evt.drew x6 0).b HF
 replace HP:=(Evt.drew x6 0).b HP
 clear hE0_
 refine start_ (n:=29) (S:=fun w'=>w'.cell? ⟨gm,10,none⟩=some (v.re)∧w'.cell? ⟨gf,0,none⟩=some (.int .i64 f.id)∧w'.cell? ⟨gf,7,none⟩=some (.pointer (some ⟨gp,0,none⟩))∧w'.cell? ⟨gp,0,none⟩=some (.int .i64 pf.id)∧w'.cell? ⟨gp,12,none⟩=some (.int .i64 (i:Int))∧True) (ds:= [25,28]) (bb 29 0) zq27 rfl rfl ⟨(blk_cell HA.out.blk 10).trans rfl,(blk_cell HF.out 0).trans FIDH.out,(blk_cell HF.out 7).trans rfl,(blk_cell HP.out 0).trans rfl,(blk_cell HP.out 12).trans (by rw [← HPI.out];rfl),trivial⟩ (fun hHeld=> ?_)
 generalize x6.drew=x7 at HA HF HP hHeld ⊢
 refine pure1 0 68 (bb 29 1) (h:= ?_)
 refine pure1 1 69 (bb 29 3) (h:= ?_)
 refine pure1 2 70 (bb 29 7) (h:= ?_)
 refine pure1 3 71 (bb 29 15) (h:= ?_)
 refine take1 4 72 (bb 29 31) (hS:=hHeld) (h:= ?_)
 refine pure1 5 73 (bb 29 63) (h:= ?_)
 refine pure1 6 74 (bb 29 127) (h:= ?_)
 refine pure1 7 75 (bb 29 255) (h:= ?_)
 refine take1 8 76 (bb 29 511) (hS:=hHeld) (h:= ?_)
 refine pure1 9 77 (bb 29 1023) (h:= ?_)
 refine pure1 10 78 (bb 29 2047) (h:= ?_)
 refine pure1 11 79 (bb 29 4095) (h:= ?_)
 refine take1 12 80 (bb 29 8191) (hS:=hHeld) (h:= ?_)
 refine pure1 13 81 (bb 29 16383) (h:= ?_)
 refine pure1 14 82 (bb 29 32767) (h:= ?_)
 refine take1 15 83 (bb 29 65535) (hS:=hHeld) (h:= ?_)
 refine pure1 16 84 (bb 29 131071) (h:= ?_)
 refine pure1 17 85 (bb 29 262143) (h:= ?_)
 refine pure1 18 86 (bb 29 524287) (h:= ?_)
 refine take1 19 87 (bb 29 1048575) (hS:=hHeld) (h:= ?_)
 refine pure1 20 88 (bb 29 2097151) (h:= ?_)
 refine pure1 21 89 (bb 29 4194303) (h:= ?_)
 refine take1 22 90 (bb 29 8388607) (hS:=hHeld) (h:= ?_)
 refine pure1 23 91 (bb 29 16777215) (h:= ?_)
 refine on_ 24 (some 92) (bb 29 33554431) (h:=fun K hK=> ?_)
 refine alloc_ (cs:=(rcC ⟨f.id,pf.id,(i:Int)⟩).toArray) (e:=232) (n:=1) (by rfl) rfl zq88 ?_
 intro gA hgA x8 hnew hbel
 have hE_:=Evt.below hbel 0
 replace HA:=Z (HA.out.below hbel)
 replace HF:=hE_.b HF
 replace HP:=hE_.b HP
 have GgA:=am hnew
 clear hnew hbel hgA hE_
 refine hK.out _ _ ⟨(blk_cell HA.out.blk 10).trans rfl,(blk_cell HF.out 0).trans FIDH.out,(blk_cell HF.out 7).trans rfl,(blk_cell HP.out 0).trans rfl,(blk_cell HP.out 12).trans (by rw [← HPI.out];rfl),trivial⟩ (fun hHeld=> ?_)
 clear hK K
 refine nm 92 (h:= ?_)
 refine la 25 (some 93) (bb 29 67108863) (h:=fun K hK=> ?_)
 obtain⟨t,x9,hE,hA',hev⟩:=HA.out.appRe gA 1 ⟨f.id,pf.id,(i:Int)⟩ GgA.out hrc
 refine ev_ (v:=t) (w':=x9) (by rfl) rfl (appRun_ _ _ _ rfl rfl rfl rfl hE) ?_
 clear hE
 clear GgA
 replace HF:=hev.b HF
 replace HP:=hev.b HP
 clear HA
 have HA:=am hA'
 clear hA' hev
 obtain⟨tA,tc,ht⟩:=own_slice HA.out.rows.re
 have ht':t= .slice tA (m.recs.length+1) tc:=by have h':=ht;rw [len1] at h';exact h'
 clear ht
 subst ht'
 refine hK.out _ _ ?_
 clear hK K
 refine nm 93 (h:= ?_)
 refine pure1 26 94 (bb 29 134217727) (h:= ?_)
 refine pure1 27 95 (bb 29 268435455) (h:= ?_)
 refine la 28 none (bb 29 536870911) (h:=fun K hK=> ?_)
 have hc_:=(blk_cell HA.out.blk 10).trans (show _=some v.re from rfl)
 have hf_:=blk_frozen HA.out.blk 10
 rw [if_pos (by rfl)]
 unfold Oper.wp
 go_simp
 clear hc_ hf_
 have hev:=(HA.out.setM 10 (.slice tA (m.recs.length+1) tc)).2
 replace HA:=Z ((HA.out.setM 10 (.slice tA (m.recs.length+1) tc)).1)
 replace HF:=hev.b HF
 replace HP:=hev.b HP
 generalize x9.setCell ⟨gm,10,none⟩ (.slice tA (m.recs.length+1) tc)=x10 at HA HF HP ⊢
 clear hev
 refine hK.out _ _ ?_
 clear hK K
 refine done_ zq27 ?_
 go_upto_region 8 with(fail)
 have hE0_:=Evt.drew x10 292
 replace HA:=Z (HA.out.drew)
 replace HF:=(Evt.drew x10 0).b HF
 replace HP:=(Evt.drew x10 0).b HP
 clear hE0_
 refine start_ (n:=14) (S:=fun w'=>w'.cell? ⟨gf,1,none⟩=some (.int .i64 f.fn)∧w'.cell? ⟨gq,i*9+2,none⟩=some (.int .i64 m.panics[i].val)∧w'.cell? ⟨gf,0,none⟩=some (.int .i64 f.id)∧True) (ds:= [13]) (bb 14 0) zq27 rfl rfl ⟨(blk_cell HF.out 1).trans FFNH.out,(HA.out.panVal' (m:= { m with recs:=m.recs++ [⟨f.id,pf.id,(i:Int)⟩] }) (v:= { v with re:= .slice tA (m.recs.length+1) tc }) HPA.out 2 hi zq83).trans rfl,(blk_cell HF.out 0).trans FIDH.out,trivial⟩ (fun hHeld=> ?_)
 generalize x10.drew=x11 at HA HF HP hHeld ⊢
 refine pure1 0 96 (bb 14 1) (h:= ?_)
 refine pure1 1 97 (bb 14 3) (h:= ?_)
 refine pure1 2 98 (bb 14 7) (h:= ?_)
 refine pure1 3 99 (bb 14 15) (h:= ?_)
 refine take1 4 100 (bb 14 31) (hS:=hHeld) (h:= ?_)
 refine pure1 5 101 (bb 14 63) (h:= ?_)
 refine pure1 6 102 (bb 14 127) (h:= ?_)
 refine pure1 7 103 (bb 14 255) (h:= ?_)
 refine take1 8 104 (bb 14 511) (hS:=hHeld) (h:= ?_)
 refine pure1 9 105 (bb 14 1023) (h:= ?_)
 refine pure1 10 106 (bb 14 2047) (h:= ?_)
 refine pure1 11 107 (bb 14 4095) (h:= ?_)
 refine take1 12 108 (bb 14 8191) (hS:=hHeld) (h:= ?_)
 refine la 13 (some 109) (bb 14 16383) (h:=fun K hK=> ?_)
 refine goes_ Try.func302 zq27 rfl #[.pointer (some ⟨gm,0,none⟩),.int .i64 6,.int .i64 f.fn,.int .i64 m.panics[i].val,.int .i64 f.id] (by rfl) rfl rfl zq84 ?_
 refine(tell.calls _ base gm A0 fuel { m with panics:=m.panics.set i { m.panics[i] with fate:=1 },recs:=m.recs++ [⟨f.id,pf.id,(i:Int)⟩] } { v with re:= .slice tA (m.recs.length+1) tc } 6 f.fn m.panics[i].val f.id (HA.out.mach (A0:=A0) (fuel:=fuel) (m:= { m with panics:=m.panics.set i { m.panics[i] with fate:=1 },recs:=m.recs++ [⟨f.id,pf.id,(i:Int)⟩] }) (v:= { v with re:= .slice tA (m.recs.length+1) tc })) HA.out.sz hr ho).mono ?_
 rintro e wz ⟨rfl,t,q,hM,hK2⟩
 refine⟨_,rfl,?_⟩
 have n0_:=Z (HA.out.toM.trans hK2.weak)
 clear HA
 have HZ:=am hM
 clear hM
 replace HF:=Z (KeptM.blk hK2 HF.out zq83 (by simp))
 refine hK.out _ _ ?_
 clear hK K
 refine nm 109 (h:= ?_)
 refine done_ zq27 ?_
 refine end0_ rfl rfl ?_
 exact⟨rfl,⟨_,_,_,HZ.out⟩,HF.out,n0_.out⟩
structure FrOk(W:World)(base B gf:Nat)(f:Fr)(rv pv:Value):Prop where
 blk:W.heap[gf]? =some (.cells (frC f rv pv).toArray 292 (0,0))
 run:W.ownsRow base 326 2 rv f.runs.length (f.runs.flatMap prC)
 low:base≤gf
 hB:B≤gf
 rB: ∀ q,rv.ownBlock=some q→B≤q
def PaOk(W:World)(base gf:Nat)(par:Option Fr)(pv rp pp:Value):Prop:=match par with
 |none=>pv= .pointer none
 |some pf=> ∃ gp,pv= .pointer (some ⟨gp,0,none⟩)∧W.heap[gp]? =some (.cells (frC pf rp pp).toArray 292 (0,0))∧gp≠gf∧base≤gp
def parG(pv:Value):Option Nat:=match pv with
 | .pointer (some a)=>some a.block
 |_=>none
theorem PaOk.ev {W W':World} {base gf:Nat} {par:Option Fr} {pv rp pp:Value} {k:Option Nat} {T:TypeId} (h:PaOk W base gf par pv rp pp)(e:Evt W W' k T)(hk:T=292→k=some gf∨k=none:=by first|exact fun h=>absurd h zq83|exact fun _=> .inl rfl|exact fun _=> .inr rfl):PaOk W' base gf par pv rp pp:=by
 cases par with
 |none=>exact h
 |some pf =>
  obtain⟨gp,h1,h2,h3,h4⟩:=h
  refine⟨gp,h1,e.blk' h2 (fun he=> ?_),h3,h4⟩
  by_cases hT:T=292
  ·rcases hk hT with h5|h5
   ·rw [h5] at he;injection he with he;exact h3 he
   ·rw [h5] at he;cases he
  ·obtain⟨cur,z,hh⟩:=e.t gp he.symm
   rw [h2] at hh
   injection hh with hh
   injection hh with _ hT' _
   exact hT hT'.symm
theorem PaOk.kept {W W':World} {base gf:Nat} {par:Option Fr} {pv rp pp:Value} {p:Option Nat} (h:PaOk W base gf par pv rp pp)(k:KeptM base p W W')(hp:p=none∨p=some gf):PaOk W' base gf par pv rp pp:=by
 cases par with
 |none=>exact h
 |some pf =>
  obtain⟨gp,h1,h2,h3,h4⟩:=h
  refine⟨gp,h1,k.blk h2 zq83 (fun _ he=> ?_),h3,h4⟩
  rcases hp with h5|h5
  ·rw [h5] at he;cases he
  ·rw [h5] at he;injection he with he;exact h3 he.symm
theorem nat_of {x:Int} (h:0≤x): ∃ i:Nat,x=i:=⟨x.toNat,zq90⟩
theorem finish.calls(w:World)(base gm gf:Nat)(A0:Value)(fuel:Int)(m:MS)(v:MV)(f:Fr)(rv par:Value)(H:Mach w base gm A0 fuel m v)(hF:w.heap[gf]? =some (.cells (frC f rv par).toArray 292 (0,0)))(hb:base≤w.heap.size)
  (hfin:f.fin=1∨f.fin=2∨f.fin=3) (hid:0≤f.id∧f.id<m.calls.length) (hpan:f.fin=2→Valid m f.pan) (hun: ∀ q∈m.panics,q.unw.length≤100000) (hr:m.trace.length≤100000) (ho:m.owners.length≤100000) :
  Calls Try.prog 305 #[.pointer (some ⟨gm,0,none⟩),.pointer (some ⟨gf,0,none⟩)] w fun e w'=>e= .returned (.tuple #[])∧ ∃ v',v'.pl=v.pl∧Mach w' base gm A0 fuel (finishI m f) v'∧KeptM base none w w':=by
 obtain⟨i,hi⟩:=nat_of hid.1
 rcases hfin with h|h|h
 ·exact finish1 w base gm gf A0 fuel m v f rv par H hF hb h i hi zq90 hr ho
 ·obtain⟨j,hj⟩:=nat_of (hpan h).1
  have:=(hpan h).2
  exact finish2 w base gm gf A0 fuel m v f rv par H hF hb h i hi zq90 j hj zq90 hun hr ho
 ·exact finish3 w base gm gf A0 fuel m v f rv par H hF hb h i hi zq90 hr ho
theorem behind.calls(w:World)(base gm gf gd:Nat)(A0:Value)(fuel:Int)(m:MS)(v:MV)(f d:Fr)(rv par rd pd:Value)(H:Mach w base gm A0 fuel m v)(hF:w.heap[gf]? =some (.cells (frC f rv par).toArray 292 (0,0)))(hD:w.heap[gd]? =some (.cells (frC d rd pd).toArray 292 (0,0)))
  (hne:gd≠gf) (hbf:base≤gf) (hb:base≤w.heap.size) (hfin:d.fin=1∨d.fin=2∨d.fin=3) (hpf:f.fin=2→Valid m f.pan) (hpd:d.fin=2→Valid m d.pan) :
  Calls Try.prog 304 #[.pointer (some ⟨gm,0,none⟩),.pointer (some ⟨gf,0,none⟩),.pointer (some ⟨gd,0,none⟩)] w fun e w'=>e= .returned (.tuple #[])∧Mach w' base gm A0 fuel (behindI m f d).1 v∧w'.heap[gf]? =some (.cells (frC (behindI m f d).2 rv par).toArray 292 (0,0))∧KeptM base (some gf) w w':=by
 rcases hfin with h|h|h
 ·cases hc:d.counted with
  |false=>exact behind_6 w base gm gf gd A0 fuel m v f d rv par rd pd H hF hD hne hbf hb h hc
  |true =>
   cases hl:(f.leaving||d.leaving) with
   |true=>exact behind_5t w base gm gf gd A0 fuel m v f d rv par rd pd H hF hD hne hbf hb h hc hl
   |false=>exact behind_5f w base gm gf gd A0 fuel m v f d rv par rd pd H hF hD hne hbf hb h hc hl
 ·by_cases hc:f.fin=2∧d.counted=false
  ·obtain⟨i,hi⟩:=nat_of (hpf hc.1).1
   obtain⟨k,hk⟩:=nat_of (hpd h).1
   have h1:=(hpf hc.1).2
   have h2:=(hpd h).2
   exact behind_1 w base gm gf gd A0 fuel m v f d rv par rd pd H hF hD hne hbf hb h hc.1 hc.2 i k hi zq90 hk zq90
  ·exact behind_2 w base gm gf gd A0 fuel m v f d rv par rd pd H hF hD hne hbf hb h hc
 ·by_cases hc:f.fin=2∧d.counted=false
  ·obtain⟨i,hi⟩:=nat_of (hpf hc.1).1
   have h1:=(hpf hc.1).2
   exact behind_3 w base gm gf gd A0 fuel m v f d rv par rd pd H hF hD hne hbf hb h hc.1 hc.2 i hi zq90
  ·exact behind_4 w base gm gf gd A0 fuel m v f d rv par rd pd H hF hD hne hbf hb h hc
theorem recoverI_0 {m:MS} {f:Fr} {par:Option Fr} {r:Int} (h: ∀ pf,par=some pf→ ¬(f.dfr=true∧f.counted=false∧pf.fin=2)):recoverI m f par r=(m,{ setReg f r 0 with r3:=0 }):=by
 unfold recoverI
 cases par with
 |none=>rfl
 |some pf=>exact if_neg (h pf rfl)
theorem recoverI_1 {m:MS} {f pf:Fr} {r:Int} {i:Nat} (hd:f.dfr=true)(hc:f.counted=false)(hp:pf.fin=2)(hi:pf.pan=i)(hlt:i<m.panics.length) :
  recoverI m f (some pf) r=(tell { m with panics:=m.panics.set i { m.panics[i] with fate:=1 },recs:=m.recs++ [⟨f.id,pf.id,(i:Int)⟩] } 6 f.fn m.panics[i].val f.id,{ setReg { f with counted:=true } r m.panics[i].val with r3:=1 }):=by
 unfold recoverI
 refine(if_pos ⟨hd,hc,hp⟩).trans ?_
 simp only [hi,setPan,panAt,List.getD_eq_getElem?_getD,List.getElem?_eq_getElem hlt,Int.toNat_natCast,Option.getD_some]
theorem recover.calls(w:World)(base gm gf:Nat)(A0:Value)(fuel:Int)(m:MS)(v:MV)(f:Fr)(par:Option Fr)(rv pv rp pp:Value)(r:Nat)(hr4:r<4)(H:Mach w base gm A0 fuel m v)(hF:w.heap[gf]? =some (.cells (frC f rv pv).toArray 292 (0,0)))(hP:PaOk w base gf par pv rp pp)
  (hbf:base≤gf) (hb:base≤w.heap.size) (hdp:f.dfr=true→ ∃ pf,par=some pf∧(pf.fin=2→Valid m pf.pan)) (hr:m.trace.length≤100000) (ho:m.owners.length≤100000) (hrc:m.recs.length≤100000) :
  Calls Try.prog 311 #[.pointer (some ⟨gm,0,none⟩),.pointer (some ⟨gf,0,none⟩),.int .i64 (r:Int)] w fun e w'=>e= .returned (.tuple #[])∧ ∃ v',v'.pl=v.pl∧Mach w' base gm A0 fuel (recoverI m f par r).1 v'∧w'.heap[gf]? =some (.cells (frC (recoverI m f par r).2 rv pv).toArray 292 (0,0))∧KeptM base (some gf) w w':=by
 cases hd:f.dfr with
 |false =>
  rw [recoverI_0 (fun pf _ hh=>by rw [hd] at hh;exact absurd hh.1 zq83)]
  exact(recover_0n w base gm gf A0 fuel m v f rv pv r hr4 H hF hbf hb hd).mono fun e w' h=>⟨h.1,v,rfl,h.2⟩
 |true =>
  obtain⟨pf,hpf,hval⟩:=hdp hd
  subst hpf
  obtain⟨gp,rfl,hB,hne,hlow⟩:=hP
  cases hc:f.counted with
  |true =>
   rw [recoverI_0 (fun pf _ hh=>by rw [hc] at hh;exact absurd hh.2.1 zq83)]
   exact(recover_0c w base gm gf A0 fuel m v f rv _ r hr4 H hF hbf hb hd hc).mono fun e w' h=>⟨h.1,v,rfl,h.2⟩
  |false =>
   by_cases hp:pf.fin=2
   ·obtain⟨i,hi⟩:=nat_of (hval hp).1
    have hlt:=(hval hp).2
    rw [recoverI_1 hd hc hp hi zq90]
    exact(recover_1 w base gm gf A0 fuel m v f rv _ r hr4 H hF hbf hb gp pf rp pp rfl hB hne hd hc hp i hi zq90 hr ho hrc).mono fun e w' h=>by
     obtain⟨h1,⟨s,t,q,h2⟩,h3,h4⟩:=h
     refine⟨h1,_,?_,h2,h3,h4⟩
     rfl
   ·rw [recoverI_0 (fun qf hq hh=>by injection hq with hq;subst hq;exact hp hh.2.2)]
    exact(recover_0p w base gm gf A0 fuel m v f rv _ r hr4 H hF hbf hb gp pf rp pp rfl hB hne hd hc (by simpa using hp)).mono fun e w' h=>⟨h.1,v,rfl,h.2⟩
end Go.Proofs.Yteiafboknimgbaa.Pr.M
end
