/- For every input the law TopFast returns true (a part of the proof). Condition: the listed variables start as the program's text lays them. -/
import Derived.Test.YtimdpiifpibgfaaGreatDoorQf16
set_option linter.unusedVariables false
set_option linter.unusedSimpArgs false
set_option maxRecDepth 20000
set_option maxHeartbeats 16000000
namespace Go.Proofs.YtimdpiifpibgfaaGreatDoor
section
open Go.RowKit Go.Maps
theorem attr_none (gi gx ni q:Nat) (c:Cm) (w:World) (h:IxAt w gi gx ni (fun _=>0) []) (hc:CmOk c) (hq:q<7) :
  Calls Tryz.prog 209 #[.pointer (some ⟨gi,0,none⟩),.agg #[.int .i64 q,.int .i64 1],.agg #[.int .i64 c.k,.int .i64 c.c,.int .i64 c.s,.string c.a,.string c.b,.string c.o,.string c.v]] w fun e w'=>e=.returned (.agg ([.int .i64 0,.int .i64 0,.int .i64 0,.int .i64 0,.int .i64 0,.int .i64 0,.int .i64 0,.int .i64 0]:List Value).toArray)∧Below w.heap.size w w':=by
 refine (attr_any gi gx ni (fun _=>0) [] q 1 c w h (by have:=hc.aa;omega)).mono ?_
 rintro e w' ⟨rfl,hb⟩
 refine⟨?_,hb⟩
 have h1:attrQ [] q 1 c=0:=rfl
 have h2:∀ j:Nat,attrD [] (fun _=>0) q 1 c j=0:=fun j=>by
  unfold attrD
  split
  ·split<;>rfl
  ·rfl
 rw [h1]
 unfold attL cutL
 rw [h2,h2,h2,h2,h2,h2,h2]
def Proposed (gc n me gl gm nl gi gx ni:Nat) (c:Cm) (w:World) (e:Ending) (w':World):Prop:=
 ∃ (gb cb gld gr cr m:Nat) (rest rest2:List Value) (rv out:Value) (ob:Option Nat),e=.returned (.tuple #[.agg #[.int .i64 me,.int .i64 1],.bool true]) ∧
  CoreAt w' gc n me gl gm (nl+1) gi gx (ni+1) [⟨me,1,cellL 1 c true⟩] [⟨me,1,c,0⟩] (.slice (some ⟨gb,0,none⟩) 1 cb) (.slice (some ⟨gr,0,none⟩) 1 cr) out ∧
  Holds w' gb 158 (.pointer (some ⟨gld,0,none⟩) :: rest)∧(1≤cb∧cb≤maxLen)∧Holds w' gld 167 (leadL me c (fun _=>0) (.slice none 0 0) 0 0) ∧
  Holds w' gr 127 (rv :: rest2)∧Own8 w' w.heap.size rv m∧(1≤m∧m≤480) ∧
  OwnS w' out ob 47 51 (n-1) (flat 51 (n-1) (outV 1 me me c))∧(∀ g,ob=some g→w.heap.size≤g) ∧
  (w.heap.size≤gb∧w.heap.size≤gld∧w.heap.size≤gr∧gb≠gld∧gb≠gr∧gld≠gr)∧Mv (fun k=>k=gc∨k=gm∨k=gx) w w'
theorem propose_new (gc n me gl gm nl gi gx ni:Nat) (c:Cm) (w:World) (h:CoreAt w gc n me gl gm nl gi gx ni [] [] (.slice none 0 0) (.slice none 0 0) (.slice none 0 0)) (hnl:nl≤1000) (hni:ni≤1000) (hn:n≤7) (hme:me<n) (hc:CmOk c) :
  Calls Tryz.prog 129 #[.pointer (some ⟨gc,0,none⟩),.agg #[.int .i64 c.k,.int .i64 c.c,.int .i64 c.s,.string c.a,.string c.b,.string c.o,.string c.v]] w (Proposed gc n me gl gm nl gi gx ni c w):=by
 have KT:=qh (fun W (h:LogAt W gl gm nl [])=>ltop_nil gl gm nl W h)
 have hidx:∀ W,(Instr.index 41 (.agg zero7.toArray) (.int .i64 me)).run Tryz.prog W=.ok (.int .i64 0) W:=fun W=>idx_deps (fun _=>0) me (by omega) W
 have HIDX:=qh hidx
 have KR:=qh (fun W=>by have:=right_cmd c.k c.c c.s c.a c.b c.o c.v W;rw [hc.right] at this;exact this)
 have KA:=qh (fun W (h:IxAt W gi gx ni (fun _=>0) [])=>attr_none gi gx ni me c W h hc (by omega))
 have KD:=qh depsRight_zero
 have KS:=qh (fun W (h:CoreAt W gc n me gl gm nl gi gx ni [] [] (.slice none 0 0) (.slice none 0 0) (.slice none 0 0))=>set_cell gc n me gl gm nl gi gx ni [] [] (.slice none 0 0) (.slice none 0 0) me 1 c true W h hnl hni (by omega) hc (.inl ⟨rfl,rfl⟩) (.inl rfl))
 have KB:=qh (fun gld recs W h hl hne=>begin_new gc n me gl gi gld recs me c (.slice none 0 0) 0 0 W h hl hn hme hne)
 have HCA:=qh h;have HC:=qh h.hc;have HLG:=qh h.lg;have HIX:=qh h.ix
 have hlt:=h.lt
 have hne:=h.ne
 have hkk:=hc.kk
 have hk0:((c.k:Int)==0)=false:=by simp;omega
 have HM:=qh (Mv.refl (fun k=>k=gc∨k=gm∨k=gx) w)
 clear h hidx hc hkk
 go_enter Tryz.func129,Tryz.ntmps129
 go_upto_region 1 with (fail)
 go_name_world W hW
 have hW:allocs w [.cells ([.int .i64 c.k,.int .i64 c.c,.int .i64 c.s,.string c.a,.string c.b,.string c.o,.string c.v]:List Value).toArray 23,.cells ([.int .i64 0,.int .i64 0]:List Value).toArray 37]=W:=hW
 have HX:=qh (show Holds W (w.heap.size) 23 ([.int .i64 c.k,.int .i64 c.c,.int .i64 c.s,.string c.a,.string c.b,.string c.o,.string c.v]) from holds_allocs _ hW 0 rfl)
 have HZ:=qh (show Holds W (w.heap.size+1) 37 ([.int .i64 0,.int .i64 0]) from holds_allocs _ hW 1 rfl)
 have hbW:=below_allocs _ hW
 have hsW:=size_allocs _ hW
 simp only [List.length_cons,List.length_nil] at hsW
 clear hW
 have HCA:=qh (HCA.out.bel hbW)
 have HC:=qh (HC.out.bel hbW)
 have HLG:=qh (HLG.out.bel hbW)
 have HIX:=qh (HIX.out.bel hbW)
 have HM:=qh (HM.out.bel hbW)
 clear hbW
 generalize hz0:w.heap.size+1=gz at HZ ⊢
 generalize hx0:w.heap.size=gX at HX ⊢
 have hWs:gz<W.heap.size:=by omega
 have HSZ:=qh (show Sz (gz+1) W from hWs)
 have hgzw:w.heap.size+1=gz:=hz0
 clear hsW
 refine' wp_region_boxes [⟨16,17,6,23,37,[.int .i64 0,.int .i64 0],[.int .i64 me,.int .i64 1]⟩] (by kernel_rfl) (by kernel_rfl) (by kernel_rfl) ?z11 ?z21 ?bd1 _ ?h1 ?val1 ?fin1
 case z11=>
  intro x hx
  simp only [List.mem_cons,List.not_mem_nil,or_false] at hx
  subst hx
  ·exact⟨.agg ([.int .i64 0,.int .i64 0]:List Value).toArray,by kernel_rfl,rfl⟩
 case z21=>
  intro x hx
  simp only [List.mem_cons,List.not_mem_nil,or_false] at hx
  subst hx
  ·exact⟨by kernel_rfl,rfl,by simp [Value.oneCell']⟩
 case bd1=>
  intro x hx
  simp only [List.mem_cons,List.not_mem_nil,or_false] at hx
  subst hx
  ·simp
 case h1=>
  intro W0 hW0
  have HCA:=qh (HCA.out.bel hW0)
  have HC:=qh (HC.out.bel hW0)
  have HLG:=qh (HLG.out.bel hW0)
  have HIX:=qh (HIX.out.bel hW0)
  have HM:=qh (HM.out.bel hW0)
  have HX:=qh (HX.out.bel hW0)
  have HZ:=qh (HZ.out.bel hW0)
  have HSZ:=qh (HSZ.out.bel hW0)
  have c0_1:=fun d os=>HC.out.grown d os 1
  have c0_2:=fun d os=>HC.out.grown d os 2
  simp only [coreL,yA,yB] at c0_1 c0_2
  have hidx:=HIDX.out
  simp only [List.map_cons,List.map_nil,hushOp]
  repeat go_big_quiet_step (first
   | (go_at_call 208;with_reducible exact calls_regrown fun W2 h2=>KT.out W2 (HLG.out.bel h2)))
  refine wpQuiet_nil ?_
  intro w' _
  exact rfl
 case val1=>
  intro x hx
  simp only [List.mem_cons,List.not_mem_nil,or_false] at hx
  subst hx
  ·rfl
 intro β w4 hb hx hne
 have hx6:=hx _ List.mem_cons_self
 clear hx hne
 simp only [] at hx6
 simp only [patch,List.foldl,Act.put,List.setIfInBounds_toArray,List.set_cons_zero,List.set_cons_succ]
 have HCA:=qh (HCA.out.bel hb)
 have HC:=qh (HC.out.bel hb)
 have HLG:=qh (HLG.out.bel hb)
 have HIX:=qh (HIX.out.bel hb)
 have HM:=qh (HM.out.bel hb)
 have HX:=qh (HX.out.bel hb)
 have HZ:=qh (HZ.out.bel hb)
 have HSZ:=qh (HSZ.out.bel hb)
 generalize β 6=g6 at hx6 ⊢
 have H6:=qh hx6.2
 have hge6:=hx6.1
 clear hx6
 clear hb
 have hs4:=HM.out.size
 have x0:=HX.out.cell 0
 have x1:=HX.out.cell 1
 have x2:=HX.out.cell 2
 have x3:=HX.out.cell 3
 have x4:=HX.out.cell 4
 have x5:=HX.out.cell 5
 have x6:=HX.out.cell 6
 simp only [yA,yB] at x0 x1 x2 x3 x4 x5 x6
 go_wp2_with fail
 refine (KR.out _).mono ?_
 rintro e w5 ⟨rfl,hb⟩
 have HCA:=qh (HCA.out.bel hb)
 have HC:=qh (HC.out.bel hb)
 have HIX:=qh (HIX.out.bel hb)
 have HM:=qh (HM.out.bel hb)
 have HX:=qh (HX.out.bel hb)
 have HZ:=qh (HZ.out.bel hb)
 have H6:=qh (H6.out.bel hb)
 have HSZ:=qh (HSZ.out.bel hb)
 clear hb x0 x1 x2 x3 x4 x5 x6 HLG
 have x0:=HX.out.cell 0
 simp only [yA,yB] at x0
 have y1:=H6.out.cell 1
 simp only [yA,yB] at y1
 have d4:=HC.out.cell 4
 simp only [coreL,yA,yB] at d4
 go_upto_region 4 with (fail)
 clear x0 y1 d4
 have hs5:=HM.out.size
 refine' wp_region_boxes [⟨7,8,7,52,43,[.int .i64 0,.int .i64 0,.int .i64 0,.int .i64 0,.int .i64 0,.int .i64 0,.int .i64 0,.int .i64 0],[.int .i64 0,.int .i64 0,.int .i64 0,.int .i64 0,.int .i64 0,.int .i64 0,.int .i64 0,.int .i64 0]⟩] (by kernel_rfl) (by kernel_rfl) (by kernel_rfl) ?z12 ?z22 ?bd2 _ ?h2 ?val2 ?fin2
 case z12=>
  intro x hx
  simp only [List.mem_cons,List.not_mem_nil,or_false] at hx
  subst hx
  ·exact⟨.agg ([.int .i64 0,.int .i64 0,.int .i64 0,.int .i64 0,.int .i64 0,.int .i64 0,.int .i64 0,.int .i64 0]:List Value).toArray,by kernel_rfl,rfl⟩
 case z22=>
  intro x hx
  simp only [List.mem_cons,List.not_mem_nil,or_false] at hx
  subst hx
  ·exact⟨by kernel_rfl,rfl,by simp [Value.oneCell']⟩
 case bd2=>
  intro x hx
  simp only [List.mem_cons,List.not_mem_nil,or_false] at hx
  subst hx
  ·simp
 case h2=>
  intro W0 hW0
  have HCA:=qh (HCA.out.bel hW0)
  have HC:=qh (HC.out.bel hW0)
  have HIX:=qh (HIX.out.bel hW0)
  have HM:=qh (HM.out.bel hW0)
  have HX:=qh (HX.out.bel hW0)
  have HZ:=qh (HZ.out.bel hW0)
  have H6:=qh (H6.out.bel hW0)
  have HSZ:=qh (HSZ.out.bel hW0)
  have c0_3:=fun d os=>HC.out.grown d os 3
  simp only [coreL,yA,yB] at c0_3
  have c1_0:=fun d os=>H6.out.grown d os 0
  have c1_1:=fun d os=>H6.out.grown d os 1
  simp only [yA,yB] at c1_0 c1_1
  have c2_0:=fun d os=>HX.out.grown d os 0
  have c2_1:=fun d os=>HX.out.grown d os 1
  have c2_2:=fun d os=>HX.out.grown d os 2
  have c2_3:=fun d os=>HX.out.grown d os 3
  have c2_4:=fun d os=>HX.out.grown d os 4
  have c2_5:=fun d os=>HX.out.grown d os 5
  have c2_6:=fun d os=>HX.out.grown d os 6
  simp only [yA,yB] at c2_0 c2_1 c2_2 c2_3 c2_4 c2_5 c2_6
  simp only [List.map_cons,List.map_nil,hushOp]
  repeat go_big_quiet_step (first
   | (go_at_call 209;with_reducible exact calls_regrown fun W2 h2=>KA.out W2 (HIX.out.bel h2)))
  refine wpQuiet_nil ?_
  intro w' _
  exact rfl
 case val2=>
  intro x hx
  simp only [List.mem_cons,List.not_mem_nil,or_false] at hx
  subst hx
  ·rfl
 intro β w4 hb hx hne
 have hx7:=hx _ List.mem_cons_self
 clear hx hne
 simp only [] at hx7
 simp only [patch,List.foldl,Act.put,List.setIfInBounds_toArray,List.set_cons_zero,List.set_cons_succ]
 have HCA:=qh (HCA.out.bel hb)
 have HC:=qh (HC.out.bel hb)
 have HIX:=qh (HIX.out.bel hb)
 have HM:=qh (HM.out.bel hb)
 have HX:=qh (HX.out.bel hb)
 have HZ:=qh (HZ.out.bel hb)
 have H6:=qh (H6.out.bel hb)
 have HSZ:=qh (HSZ.out.bel hb)
 generalize β 7=g7 at hx7 ⊢
 have H7:=qh hx7.2
 have hge7:=hx7.1
 clear hx7
 clear hb
 have a0:=H7.out.cell 0
 have a1:=H7.out.cell 1
 have a2:=H7.out.cell 2
 have a3:=H7.out.cell 3
 have a4:=H7.out.cell 4
 have a5:=H7.out.cell 5
 have a6:=H7.out.cell 6
 have a7:=H7.out.cell 7
 simp only [yA,yB] at a0 a1 a2 a3 a4 a5 a6 a7
 go_wp2_with fail
 refine (KD.out _).mono ?_
 rintro e w6 ⟨rfl,hb⟩
 have HCA:=qh (HCA.out.bel hb)
 have HM:=qh (HM.out.bel hb)
 have HX:=qh (HX.out.bel hb)
 have HZ:=qh (HZ.out.bel hb)
 have H6:=qh (H6.out.bel hb)
 have H7:=qh (H7.out.bel hb)
 have HSZ:=qh (HSZ.out.bel hb)
 clear hb a0 a1 a2 a3 a4 a5 a6 a7 HC HIX
 have a0:=H7.out.cell 0
 have a1:=H7.out.cell 1
 have a2:=H7.out.cell 2
 have a3:=H7.out.cell 3
 have a4:=H7.out.cell 4
 have a5:=H7.out.cell 5
 have a6:=H7.out.cell 6
 have a7:=H7.out.cell 7
 simp only [yA,yB] at a0 a1 a2 a3 a4 a5 a6 a7
 have x0:=HX.out.cell 0
 have x1:=HX.out.cell 1
 have x2:=HX.out.cell 2
 have x3:=HX.out.cell 3
 have x4:=HX.out.cell 4
 have x5:=HX.out.cell 5
 have x6:=HX.out.cell 6
 simp only [yA,yB] at x0 x1 x2 x3 x4 x5 x6
 have y0:=H6.out.cell 0
 have y1:=H6.out.cell 1
 simp only [yA,yB] at y0 y1
 go_wp2_with fail
 refine (KS.out _ HCA.out).mono ?_
 rintro e w7 ⟨rfl,gr,cr,m,rv,rest2,hca,hr,ho,hm,hgr,hmv⟩
 have hs6:=HM.out.size
 have hz6:=HSZ.out.le
 have HCA:=qh (show CoreAt w7 gc n me gl gm (nl+1) gi gx (ni+1) [⟨me,1,cellL 1 c true⟩] [⟨me,1,c,0⟩] (.slice none 0 0) (.slice (some ⟨gr,0,none⟩) 1 cr) (.slice none 0 0) from hca)
 have HX:=qh (HX.out.mv hmv (by omega));have HZ:=qh (HZ.out.mv hmv (by omega));have H6:=qh (H6.out.mv hmv (by omega));have H7:=qh (H7.out.mv hmv (by omega))
 have HR:=qh hr;have HO:=qh (Own8.mono (B':=gz+1) ho hz6);have HMR:=qh hm
 have HM:=qh (HM.out.mv hmv (fun k hk=>.inl hk))
 have HSZ:=qh (HSZ.out.mv hmv)
 have hgr2:gz<gr:=by omega
 clear hca hr ho hm hmv a0 a1 a2 a3 a4 a5 a6 a7 x0 x1 x2 x3 x4 x5 x6 y0 y1
 have a0:=H7.out.cell 0
 have a1:=H7.out.cell 1
 have a2:=H7.out.cell 2
 have a3:=H7.out.cell 3
 have a4:=H7.out.cell 4
 have a5:=H7.out.cell 5
 have a6:=H7.out.cell 6
 have a7:=H7.out.cell 7
 simp only [yA,yB] at a0 a1 a2 a3 a4 a5 a6 a7
 have x0:=HX.out.cell 0
 have x1:=HX.out.cell 1
 have x2:=HX.out.cell 2
 have x3:=HX.out.cell 3
 have x4:=HX.out.cell 4
 have x5:=HX.out.cell 5
 have x6:=HX.out.cell 6
 simp only [yA,yB] at x0 x1 x2 x3 x4 x5 x6
 have y0:=H6.out.cell 0
 have y1:=H6.out.cell 1
 simp only [yA,yB] at y0 y1
 have hs7:=HM.out.size
 have hz7:=HSZ.out.le
 have hgr7:gr<w7.heap.size:=HR.out.lt
 have hlt7:=HCA.out.lt
 have hxl:=HX.out.lt;have hzl:=HZ.out.lt;have h6l:=H6.out.lt
 have hal:Below w7.heap.size w7 (w7.alloc (.cells (leadL me c (fun _=>0) (.slice none 0 0) 0 0).toArray 167)):=(Below.refl _ _).alloc (Nat.le_refl _) _
 have HLD:=qh (holds_alloc w7 167 (leadL me c (fun _=>0) (.slice none 0 0) 0 0))
 have HCA8:=qh (HCA.out.bel hal)
 have HR8:=qh (HR.out.bel hal);have HO8:=qh (HO.out.below hal)
 have HX8:=qh (HX.out.bel hal);have HZ8:=qh (HZ.out.bel hal);have H68:=qh (H6.out.bel hal)
 have HM8:=qh (HM.out.bel hal)
 have HAL:=qh hal
 clear hal
 go_wp2_with fail
 refine (KB.out w7.heap.size (.slice (some ⟨gr,0,none⟩) 1 cr) (w7.alloc (.cells (leadL me c (fun _=>0) (.slice none 0 0) 0 0).toArray 167)) HCA8.out.hc HLD.out (by omega)).mono ?_
 rintro e w9 ⟨rfl,gb,cb,rest,hb9,hcb,hgb,out,ob,hc9,ho9,hob9,hm9⟩
 have hs8:=HAL.out.size
 have hld:w7.heap.size<(w7.alloc (.cells (leadL me c (fun _=>0) (.slice none 0 0) 0 0).toArray 167)).heap.size:=HLD.out.lt
 have HCA:=qh (HCA8.out.recore hm9 hc9 (Ne.symm hne.1) (Ne.symm hne.2.1) (Ne.symm hne.2.2.1) (Ne.symm hne.2.2.2.1))
 have HLD:=qh (HLD.out.mv hm9 (by omega))
 have HR:=qh (HR8.out.mv hm9 (by omega))
 have HO:=qh (show Own8 w9 (gz+1) rv m from by
  obtain⟨bs,h1,h2,h3,h4⟩:=HO8.out
  exact⟨bs,h1,h2,h3,h4.imp id fun ⟨b,cap,cur,e1,e2,hh,r⟩=>⟨b,cap,cur,e1,by omega,(hm9.block b (Array.getElem?_eq_some_iff.1 hh).1 (by omega)).trans hh,r⟩⟩)
 have HX:=qh (HX8.out.mv hm9 (by omega));have HZ:=qh (HZ8.out.mv hm9 (by omega));have H6:=qh (H68.out.mv hm9 (by omega))
 have HM:=qh (HM8.out.mv hm9 (fun k hk=>.inl (.inl hk)))
 have HG:=qh hb9;have HOO:=qh (And.intro ho9 (show ∀ g,ob=some g→gz<g from fun g hg=>by have:=hob9 g hg;omega))
 have hgb7:w7.heap.size<gb:=by omega
 clear hb9 hc9 ho9 hob9 hm9 HAL HCA8 HR8 HO8 HX8 HZ8 H68 HM8 a0 a1 a2 a3 a4 a5 a6 a7 x0 x1 x2 x3 x4 x5 x6 y0 y1 hld hs8
 have y0:=H6.out.cell 0
 have y1:=H6.out.cell 1
 simp only [yA,yB] at y0 y1
 go_wp2_with (first
  | (refine wpList_store_whole rfl 37 (.tmp 4) (.tmp 70) gz [.int .i64 0,.int .i64 0] [.int .i64 me,.int .i64 1] rfl rfl rfl rfl HZ.out (by kernel_rfl) rfl (by simp [Value.oneCell']) ?_;intro wz hz9 htz))
 have hmz:Mv (fun k=>k=gz) w9 wz:=Mv.of_touch htz rfl
 have hl9:=HCA.out.lt
 have hold:=HLD.out.lt
 have HCA:=qh (HCA.out.mv hmz (by omega) (by omega) (by omega) (by omega) (by omega))
 have HLD:=qh (HLD.out.mv hmz (by omega))
 have HR:=qh (HR.out.mv hmz (by omega))
 have HG:=qh (HG.out.mv hmz (by omega))
 have HO:=qh (Own8.mono (B':=w.heap.size) (HO.out.tch htz (Nat.lt_succ_self _)) (by omega))
 have HOO:=qh (And.intro (HOO.out.1.mv hmz (fun g hg=>by have:=HOO.out.2 g hg;omega)) (show ∀ g,ob=some g→w.heap.size≤g from fun g hg=>by have:=HOO.out.2 g hg;omega))
 have HM:=qh (HM.out.mv hmz (fun k hk=>.inr (by omega)))
 have HRZ:=qh hz9.range0
 clear hz9 htz hmz y0 y1
 go_wp2_with fail
 refine bodyPost_ret (v:=.tuple #[.agg #[.int .i64 me,.int .i64 1],.bool true]) (results_cell_tmp Tryz.results129 _ _ gz [.int .i64 me,.int .i64 1] _ _ rfl rfl HRZ.out Tryz.underlying37 rfl (by kernel_rfl)) rfl ?_
 exact⟨gb,cb,w7.heap.size,gr,cr,m,rest,rest2,rv,out,ob,rfl,HCA.out,HG.out,hcb,HLD.out,HR.out,HO.out,HMR.out,HOO.out.1,HOO.out.2,by omega,HM.out⟩
end
end Go.Proofs.YtimdpiifpibgfaaGreatDoor
