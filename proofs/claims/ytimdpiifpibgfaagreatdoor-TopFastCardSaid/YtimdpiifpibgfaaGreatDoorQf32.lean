/- For every input the law TopFast returns true (a part of the proof). Condition: the listed variables start as the program's text lays them. -/
import Derived.Test.YtimdpiifpibgfaaGreatDoorQf31
set_option linter.unusedVariables false
set_option linter.unusedSimpArgs false
set_option maxRecDepth 20000
set_option maxHeartbeats 16000000
namespace Go.Proofs.YtimdpiifpibgfaaGreatDoor
section
open Go.RowKit Go.Maps
theorem lcell_none (gl gm nl q:Nat) (w:World) (h:LogAt w gl gm nl []) (hq:q<7) :
  Calls Tryz.prog 82 #[.pointer (some ⟨gl,0,none⟩),.agg #[.int .i64 q,.int .i64 1]] w fun e w'=>e=.returned (.tuple #[.agg zero21.toArray,.bool false])∧Below w.heap.size w w':=by
 refine (lcell_any gl gm nl _ q 1 w h (lit_small q hq) rfl).mono ?_
 rintro e w' ⟨v,h1,h2,h3,h4,rfl,hb⟩
 have hv:=h4 rfl
 refine⟨?_,hb⟩
 rw [hv]
 simp [hasL]
theorem zero21_one:zero21.toArray.all (·.oneCell')=true:=by simp [zero21,Value.oneCell']
theorem asked_new (gc n me gl gm nl gi gx ni f t q:Nat) (c:Cm) (w:World) (h:CoreAt w gc n me gl gm nl gi gx ni [] [] (.slice none 0 0) (.slice none 0 0) (.slice none 0 0)) (hnl:nl≤1000) (hni:ni≤1000) (hq:q<7) (hc:CmOk c) :
  Calls Tryz.prog 141 #[.pointer (some ⟨gc,0,none⟩),.agg (letL 1 f t q c).toArray] w fun e w'=>e=.returned (.tuple #[])∧PreDone gc n me gl gm nl gi gx ni f q c w w':=by
 have KL:=qh (fun W (h:LogAt W gl gm nl [])=>lcell_none gl gm nl q W h hq)
 have KB:=qh below_zero
 have KF:=qh (fun W (h:Holds W gc 163 (coreL n me gl gi (.slice none 0 0) (.slice none 0 0) (.slice none 0 0)))=>find_none gc n me gl gi none 0 (.slice none 0 0) (.slice none 0 0) q 1 W h)
 have KP:=qh (fun W (h:CoreAt W gc n me gl gm nl gi gx ni [] [] (.slice none 0 0) (.slice none 0 0) (.slice none 0 0))=>pre_new gc n me gl gm nl gi gx ni f t q c W h hnl hni hq hc)
 have HCA:=qh h;have HC:=qh h.hc;have HL:=qh h.lg
 have HB:=qh (Base.start w)
 clear h
 go_enter Tryz.func141,Tryz.ntmps141
 go_upto_region 1 with (fail)
 go_name_world W hW
 have hW:allocs w [.cells (letL 1 f t q c:List Value).toArray 47]=W:=hW
 have HX:=qh (show Holds W (w.heap.size) 47 (letL 1 f t q c) from holds_allocs _ hW 0 rfl)
 have hbW:=below_allocs _ hW
 have hsW:=size_allocs _ hW
 simp only [List.length_cons,List.length_nil] at hsW
 clear hW
 have HCA:=qh (HCA.out.bel hbW)
 have HC:=qh (HC.out.bel hbW)
 have HL:=qh (HL.out.bel hbW)
 have HB:=qh (HB.out.bel hbW)
 clear hbW
 generalize hx0:w.heap.size=gX at HX HB ⊢
 clear hsW
 refine' wp_region_boxes [⟨10,11,4,17,45,zero21,zero21⟩] (by kernel_rfl) (by kernel_rfl) (by kernel_rfl) ?z11 ?z21 ?bd1 _ ?h1 ?val1 ?fin1
 case z11=>
  intro x hx
  simp only [List.mem_cons,List.not_mem_nil,or_false] at hx
  subst hx
  ·exact⟨.agg (zero21:List Value).toArray,by kernel_rfl,rfl⟩
 case z21=>
  intro x hx
  simp only [List.mem_cons,List.not_mem_nil,or_false] at hx
  subst hx
  ·exact⟨by kernel_rfl,rfl,zero21_one⟩
 case bd1=>
  intro x hx
  simp only [List.mem_cons,List.not_mem_nil,or_false] at hx
  subst hx
  ·simp
 case h1=>
  intro W0 hW0
  have HCA:=qh (HCA.out.bel hW0)
  have HC:=qh (HC.out.bel hW0)
  have HL:=qh (HL.out.bel hW0)
  have HB:=qh (HB.out.bel hW0)
  have HX:=qh (HX.out.bel hW0)
  have c0_2:=fun d os=>HC.out.grown d os 2
  simp only [coreL,yA,yB] at c0_2
  have c1_3:=fun d os=>HX.out.grown d os 3
  have c1_4:=fun d os=>HX.out.grown d os 4
  simp only [letL,yA,yB] at c1_3 c1_4
  simp only [List.map_cons,List.map_nil,hushOp]
  repeat go_big_quiet_step (first
   | (go_at_call 82;with_reducible exact calls_regrown fun W2 h2=>KL.out W2 (HL.out.bel h2)))
  refine wpQuiet_nil ?_
  intro w' _
  exact rfl
 case val1=>
  intro x hx
  simp only [List.mem_cons,List.not_mem_nil,or_false] at hx
  subst hx
  ·rfl
 intro β w4 hb hx hne
 have hx4:=hx _ List.mem_cons_self
 clear hx hne
 simp only [] at hx4
 simp only [patch,List.foldl,Act.put,List.setIfInBounds_toArray,List.set_cons_zero,List.set_cons_succ]
 have HCA:=qh (HCA.out.bel hb)
 have HC:=qh (HC.out.bel hb)
 have HL:=qh (HL.out.bel hb)
 have HB:=qh (HB.out.bel hb)
 have HX:=qh (HX.out.bel hb)
 generalize β 4=g4 at hx4 ⊢
 have H4:=qh hx4.2
 have hge4:=hx4.1
 clear hx4
 clear hb
 clear HL
 have y0:=H4.out.cell 0
 have y1:=H4.out.cell 1
 have y2:=H4.out.cell 2
 have y3:=H4.out.cell 3
 have y4:=H4.out.cell 4
 simp only [zero21,yA,yB] at y0 y1 y2 y3 y4
 have x0:=HX.out.cell 0
 have x3:=HX.out.cell 3
 have x4:=HX.out.cell 4
 have x5:=HX.out.cell 5
 have x6:=HX.out.cell 6
 simp only [letL,yA,yB] at x0 x3 x4 x5 x6
 go_wp2_with fail
 refine (KB.out _).mono ?_
 rintro e w5 ⟨rfl,hb⟩
 have HCA:=qh (HCA.out.bel hb)
 have HC:=qh (HC.out.bel hb)
 have HB:=qh (HB.out.bel hb)
 have HX:=qh (HX.out.bel hb)
 have H4:=qh (H4.out.bel hb)
 clear hb y0 y1 y2 y3 y4 x0 x3 x4 x5 x6
 have x3:=HX.out.cell 3
 have x4:=HX.out.cell 4
 simp only [letL,yA,yB] at x3 x4
 go_wp2_with fail
 refine (KF.out _ HC.out).mono ?_
 rintro e w6 ⟨rfl,hb⟩
 have HCA:=qh (HCA.out.bel hb)
 have HC:=qh (HC.out.bel hb)
 have HB:=qh (HB.out.bel hb)
 have HX:=qh (HX.out.bel hb)
 have H4:=qh (H4.out.bel hb)
 clear hb x3 x4
 go_upto_region 7 with (fail)
 go_quiet (fail)
 have hb2:Below w6.heap.size w6 (w6.drewN nq):=t_drewN _ _ _
 have HCA:=qh (HCA.out.bel hb2)
 have HC:=qh (HC.out.bel hb2)
 have HB:=qh (HB.out.bel hb2)
 have HX:=qh (HX.out.bel hb2)
 have H4:=qh (H4.out.bel hb2)
 clear hb2
 generalize w6.drewN nq=W2 at HCA HC HB HX H4 ⊢
 have y0:=H4.out.cell 0
 simp only [zero21,yA,yB] at y0
 have x0:=HX.out.cell 0
 simp only [letL,yA,yB] at x0
 have HRX:=qh HX.out.range0
 have HRY:=qh H4.out.range0
 go_wp2_with (first
  | (refine wpList_load_mid rfl 47 _ rfl gX 0 rfl (letL 1 f t q c) _ HRX.out Tryz.underlying47 rfl (by kernel_rfl) ?_)
  | (refine wpList_load_mid rfl 45 _ rfl g4 0 rfl zero21 _ HRY.out Tryz.underlying45 rfl (by kernel_rfl) ?_))
 refine (KP.out _ HCA.out).mono ?_
 rintro e w8 ⟨rfl,gr,cr,m,rv,out,rest,ob,a1,a2,a3,a4,a5,a6,a7,a8⟩
 have hs:=HB.out.below.size
 have hle:=HB.out.le
 have HP:=qh (show PreDone gc n me gl gm nl gi gx ni f q c w w8 from ⟨gr,cr,m,rv,out,rest,ob,a1,a2,Own8.mono a3 (by omega),a4,by omega,a6,fun g hg=>by have:=a7 g hg;omega,(Mv.of_below (hx0▸HB.out.below)).mv a8 (fun k hk=>.inl hk)⟩)
 clear a1 a2 a3 a4 a5 a6 a7 a8 x0 y0
 go_wp2_with fail
 exact bodyPost_end (v:=.tuple #[]) (by simp [results,Tryz.results141,go_sem]) rfl ⟨rfl,HP.out⟩
end
section
open Go.RowKit
theorem bare1 (f t q:Int) (x:Cm) (w:World):Calls Tryz.prog 133 #[.agg (letL 1 f t q x).toArray,.agg ([.bool true,.bool true,.bool true,.bool true,.bool false,.bool false,.bool false]:List Value).toArray] w fun e w'=>e=.returned (.agg (letL 1 f t q x).toArray)∧Below w.heap.size w w':=by
 go_enter Tryz.func133,Tryz.ntmps133
 go_upto_region 1 with (fail)
 go_name_world W hW
 have hW:allocs w [.cells (letL 1 f t q x:List Value).toArray 47,.cells ([.bool true,.bool true,.bool true,.bool true,.bool false,.bool false,.bool false]:List Value).toArray 233,.cells (letZ:List Value).toArray 47]=W:=hW
 have HX:=qh (show Holds W (w.heap.size) 47 (letL 1 f t q x) from holds_allocs _ hW 0 rfl)
 have HP:=qh (show Holds W (w.heap.size+1) 233 ([.bool true,.bool true,.bool true,.bool true,.bool false,.bool false,.bool false]) from holds_allocs _ hW 1 rfl)
 have HZ:=qh (show Holds W (w.heap.size+1+1) 47 (letZ) from holds_allocs _ hW 2 rfl)
 have hbW:=below_allocs _ hW
 have hsW:=size_allocs _ hW
 simp only [List.length_cons,List.length_nil] at hsW
 clear hW
 have HB:=qh (Base.start w)
 have HB:=qh (HB.out.bel hbW)
 clear hbW hsW
 generalize hz0:w.heap.size+1+1=gz at HZ ⊢
 generalize hp0:w.heap.size+1=gp at HP ⊢
 have hord:w.heap.size<gp∧gp<gz:=by omega
 generalize hB0:w.heap.size=B at HX HB hord ⊢
 have x0:=HX.out.cell 0
 have x1:=HX.out.cell 1
 have x2:=HX.out.cell 2
 simp only [letL,yA,yB] at x0 x1 x2
 go_upto_region 2 with (first
  | (refine wpList_store_whole rfl 47 (.tmp 5) (.tmp 12) W.heap.size letZ (letG 1 f t 0 0 Cm.zero) rfl rfl rfl rfl (holds_alloc W _ letZ) (by kernel_rfl) rfl (letG_one _ _ _ _ _ _) ?_;intro w1 hh1 ht1))
 have hal1:Below W.heap.size W w1:=Below.trans ((Below.refl _ _).alloc (Nat.le_refl _) _) (ht1.below (Nat.le_refl _) (by simp))
 have hgz:gz<W.heap.size:=HZ.out.lt
 have HG:=qh hh1
 have HX:=qh (HX.out.bel hal1)
 have HP:=qh (HP.out.bel hal1)
 have HZ:=qh (HZ.out.bel hal1)
 have HB:=qh (HB.out.bel hal1)
 clear hal1 hh1 ht1 x0 x1 x2
 generalize W.heap.size=gg at HG hgz ⊢
 have p0:=HP.out.cell 0
 simp only [yA,yB] at p0
 have x3:=HX.out.cell 3
 have x4:=HX.out.cell 4
 simp only [letL,yA,yB] at x3 x4
 go_upto_region 4 with (first
  | (refine wpList_store_spl rfl 37 (.tmp 17) (.tmp 16) rfl rfl gg 3 _ 47 HG.out rfl [.int .i64 q,.int .i64 1] rfl (by kernel_rfl) (by simp [letL,letG]) (by simp [Value.oneCell']) ?_;intro v0 hh ht))
 have HG:=qh (show Holds v0 gg 47 (letL 1 f t q Cm.zero) from hh)
 have HX:=qh (HX.out.touch ht (by omega));have HP:=qh (HP.out.touch ht (by omega));have HZ:=qh (HZ.out.touch ht (by omega));have HB:=qh (HB.out.touch ht (by omega))
 clear hh ht p0 x3 x4
 have p1:=HP.out.cell 1
 simp only [yA,yB] at p1
 have x5:=HX.out.cell 5
 have x6:=HX.out.cell 6
 simp only [letL,yA,yB] at x5 x6
 go_upto_region 6 with (first
  | (refine wpList_store_spl rfl 39 (.tmp 22) (.tmp 21) rfl rfl gg 5 _ 47 HG.out rfl [.int .i64 0,.int .i64 0] rfl (by kernel_rfl) (by simp [letL,letG]) (by simp [Value.oneCell']) ?_;intro v1 hh ht))
 have HG:=qh (show Holds v1 gg 47 (letL 1 f t q Cm.zero) from hh)
 have HX:=qh (HX.out.touch ht (by omega));have HP:=qh (HP.out.touch ht (by omega));have HZ:=qh (HZ.out.touch ht (by omega));have HB:=qh (HB.out.touch ht (by omega))
 clear hh ht p1 x5 x6
 have p2:=HP.out.cell 2
 simp only [yA,yB] at p2
 have x7:=HX.out.cell 7
 have x8:=HX.out.cell 8
 have x9:=HX.out.cell 9
 have x10:=HX.out.cell 10
 have x11:=HX.out.cell 11
 have x12:=HX.out.cell 12
 have x13:=HX.out.cell 13
 simp only [letL,yA,yB] at x7 x8 x9 x10 x11 x12 x13
 go_upto_region 8 with (first
  | (refine wpList_store_spl rfl 23 (.tmp 27) (.tmp 26) rfl rfl gg 7 _ 47 HG.out rfl [.int .i64 x.k,.int .i64 x.c,.int .i64 x.s,.string x.a,.string x.b,.string x.o,.string x.v] rfl (by kernel_rfl) (by simp [letL,letG]) (by simp [Value.oneCell']) ?_;intro v2 hh ht))
 have HG:=qh (show Holds v2 gg 47 (letL 1 f t q x) from hh)
 have HX:=qh (HX.out.touch ht (by omega));have HP:=qh (HP.out.touch ht (by omega));have HZ:=qh (HZ.out.touch ht (by omega));have HB:=qh (HB.out.touch ht (by omega))
 clear hh ht p2 x7 x8 x9 x10 x11 x12 x13
 have p3:=HP.out.cell 3
 simp only [yA,yB] at p3
 have x14:=HX.out.cell 14
 have x15:=HX.out.cell 15
 have x16:=HX.out.cell 16
 have x17:=HX.out.cell 17
 have x18:=HX.out.cell 18
 have x19:=HX.out.cell 19
 have x20:=HX.out.cell 20
 have x21:=HX.out.cell 21
 simp only [letL,yA,yB] at x14 x15 x16 x17 x18 x19 x20 x21
 go_upto_region 10 with (first
  | (refine wpList_store_spl rfl 43 (.tmp 32) (.tmp 31) rfl rfl gg 14 _ 47 HG.out rfl [.int .i64 0,.int .i64 0,.int .i64 0,.int .i64 0,.int .i64 0,.int .i64 0,.int .i64 0,.int .i64 0] rfl (by kernel_rfl) (by simp [letL,letG]) (by simp [Value.oneCell']) ?_;intro v3 hh ht))
 have HG:=qh (show Holds v3 gg 47 (letL 1 f t q x) from hh)
 have HX:=qh (HX.out.touch ht (by omega));have HP:=qh (HP.out.touch ht (by omega));have HZ:=qh (HZ.out.touch ht (by omega));have HB:=qh (HB.out.touch ht (by omega))
 clear hh ht p3 x14 x15 x16 x17 x18 x19 x20 x21
 have p4:=HP.out.cell 4
 simp only [yA,yB] at p4
 go_upto_region 12 with (fail)
 clear p4
 have p5:=HP.out.cell 5
 simp only [yA,yB] at p5
 go_upto_region 14 with (fail)
 clear p5
 have p6:=HP.out.cell 6
 simp only [yA,yB] at p6
 go_upto_region 16 with (fail)
 clear p6
 have HRG:=qh HG.out.range0
 go_wp2_with (first
  | (refine wpList_load_mid rfl 47 _ rfl gg 0 rfl (letL 1 f t q x) _ HRG.out Tryz.underlying47 rfl (by kernel_rfl) ?_)
  | (refine wpList_store_whole rfl 47 (.tmp 4) (.tmp 48) gz letZ (letL 1 f t q x) rfl rfl rfl rfl HZ.out (by kernel_rfl) rfl (letL_one' _ _ _ _ _) ?_;intro w5 hh5 ht5))
 have HB:=qh (HB.out.touch ht5 (by omega))
 have HR:=qh hh5.range0
 clear hh5 ht5 HRG
 refine bodyPost_ret (v:=.agg (letL 1 f t q x).toArray) (results_cell Tryz.results133 _ _ gz _ _ rfl HR.out Tryz.underlying47 rfl (by kernel_rfl)) rfl ?_
 exact⟨rfl,hB0▸HB.out.below⟩
theorem named2 (w:World):Calls Tryz.prog 131 #[.int .i64 2] w fun e w'=>e=.returned (.tuple #[.agg ([.bool true,.bool true,.bool false,.bool true,.bool false,.bool false,.bool false]:List Value).toArray,.bool true])∧Below w.heap.size w w':=by
 go_enter Tryz.func131,Tryz.ntmps131
 go_upto_region 1 with (fail)
 go_name_world W hW
 have hW:allocs w [.cells ([.bool false,.bool false,.bool false,.bool false,.bool false,.bool false,.bool false]:List Value).toArray 233]=W:=hW
 have HZ:=qh (show Holds W (w.heap.size) 233 ([.bool false,.bool false,.bool false,.bool false,.bool false,.bool false,.bool false]) from holds_allocs _ hW 0 rfl)
 have hbW:=below_allocs _ hW
 have hsW:=size_allocs _ hW
 simp only [List.length_cons,List.length_nil] at hsW
 clear hW
 have HB:=qh (Base.start w)
 have HB:=qh (HB.out.bel hbW)
 clear hbW hsW
 generalize hB0:w.heap.size=B at HZ HB ⊢
 go_wp2_with (first
  | (refine wpList_store_whole rfl 233 _ _ B [.bool false,.bool false,.bool false,.bool false,.bool false,.bool false,.bool false] [.bool true,.bool true,.bool false,.bool true,.bool false,.bool false,.bool false] rfl rfl rfl rfl HZ.out (by kernel_rfl) rfl (by simp [Value.oneCell']) ?_;intro w5 hh5 ht5))
 have HB:=qh (HB.out.touch ht5 (Nat.le_refl _))
 have HR:=qh hh5.range0
 clear hh5 ht5
 refine bodyPost_ret (v:=.tuple #[.agg ([.bool true,.bool true,.bool false,.bool true,.bool false,.bool false,.bool false]:List Value).toArray,.bool true]) (results_cell_tmp Tryz.results131 _ _ B _ _ _ rfl rfl HR.out Tryz.underlying233 rfl (by kernel_rfl)) rfl ?_
 exact⟨rfl,hB0▸HB.out.below⟩
end
section
open Go.RowKit
theorem instOk1 (q:Nat) (hq:q<7) (w:World):Calls Tryz.prog 134 #[.agg #[.int .i64 (q:Int),.int .i64 1]] w fun e w'=>e=.returned (.bool true)∧Below w.heap.size w w':=by
 have h:=right_inst (q:Int) 1 w
 have h2:rightI (q:Int) 1=true:=by
  simp [rightI]
  omega
 rw [h2] at h
 exact h
theorem cmdOk1 (f t q:Nat) (x:Cm) (hx:rightA x.k x.c x.s x.a x.b x.o x.v=true) (w:World):Calls Tryz.prog 70 #[.agg #[.int .i64 x.k,.int .i64 x.c,.int .i64 x.s,.string x.a,.string x.b,.string x.o,.string x.v]] w fun e w'=>e=.returned (.bool true)∧Below w.heap.size w w':=by
 have:=right_cmd x.k x.c x.s x.a x.b x.o x.v w
 rw [hx] at this
 exact this
theorem right1 (f t q:Nat) (x:Cm) (hx:rightA x.k x.c x.s x.a x.b x.o x.v=true) (hf:f<7) (ht:t<7) (hq:q<7) (hne:f≠t) (w:World):Calls Tryz.prog 72 #[.agg (letL 1 f t q x).toArray] w fun e w'=>e=.returned (.bool true)∧Below w.heap.size w w':=by
 have KN:=qh named1
 have KPf:=qh (fun w=>place_ok f w hf)
 have KPt:=qh (fun w=>place_ok t w ht)
 have KBa:=qh (bare1 (f:Int) t q x)
 have KI:=qh (instOk1 q hq)
 have KBl:=qh rightBallot_zero
 have KC:=qh (cmdOk1 f t q x hx)
 have KD:=qh depsRight_zero
 have KR:=qh rightCell_zero
 have hnq:=neqLet_self 1 f t q x
 have hi:((f:Int)==(t:Int))=false:=by simp;omega
 go_enter Tryz.func72,Tryz.ntmps72
 go_upto_region 1 with (fail)
 go_name_world W hW
 have hW:allocs w [.cells (letL 1 f t q x:List Value).toArray 47]=W:=hW
 have HX:=qh (show Holds W (w.heap.size) 47 (letL 1 f t q x) from holds_allocs _ hW 0 rfl)
 have hbW:=below_allocs _ hW
 have hsW:=size_allocs _ hW
 simp only [List.length_cons,List.length_nil] at hsW
 clear hW
 have HB:=qh (Base.start w)
 have HB:=qh (HB.out.bel hbW)
 clear hbW hsW
 generalize hB0:w.heap.size=B at HX HB ⊢
 have x0:=HX.out.cell 0
 simp only [letL,yA,yB] at x0
 go_wp2_with fail
 refine (KN.out _).mono ?_
 rintro e w1 ⟨rfl,hb⟩
 have HX:=qh (HX.out.bel hb)
 have HB:=qh (HB.out.bel hb)
 clear hb x0
 go_upto_region 2 with (first
  | (with_reducible show wpList _ _ _ (_ :: _) _ _;refine wpList_store_whole rfl 233 (.tmp 3) (.tmp 9) w1.heap.size [.bool false,.bool false,.bool false,.bool false,.bool false,.bool false,.bool false] [.bool true,.bool true,.bool true,.bool true,.bool false,.bool false,.bool false] rfl rfl rfl rfl (holds_alloc w1 _ _) (by kernel_rfl) rfl (by simp [Value.oneCell']) ?_;intro w2 hh2 ht2))
 have hal:Below w1.heap.size w1 w2:=Below.trans ((Below.refl _ _).alloc (Nat.le_refl _) _) (ht2.below (Nat.le_refl _) (by simp))
 have HP:=qh hh2
 have HX:=qh (HX.out.bel hal)
 have HB:=qh (HB.out.bel hal)
 clear hal hh2 ht2
 generalize w1.heap.size=gp at HP ⊢
 have x0:=fun d os=>HX.out.grown d os 0
 have x1:=fun d os=>HX.out.grown d os 1
 have x2:=fun d os=>HX.out.grown d os 2
 simp only [letL,yA,yB] at x0 x1 x2
 have HR1:=qh (grown_range (cs:=letL 1 f t q x) HX.out 0 (by intro j v hv;rw [Nat.zero_add];exact hv))
 have HR2:=qh (grown_range (cs:=[.bool true,.bool true,.bool true,.bool true,.bool false,.bool false,.bool false]) HP.out 0 (by intro j v hv;rw [Nat.zero_add];exact hv))
 refine wp_region_quiet_below (by kernel_rfl) (by kernel_rfl) ?_
 repeat (first
  | (with_reducible show wpQuiet _ _ _ _ (_ :: _) _;refine wpQuiet_load_guarded (by kernel_rfl) 47 _ rfl B 0 rfl (letL 1 f t q x) _ HR1.out Tryz.underlying47 rfl (by kernel_rfl) ?_;simp only [Act.put,List.setIfInBounds_toArray,List.set_cons_succ,List.set_cons_zero])
  | (with_reducible show wpQuiet _ _ _ _ (_ :: _) _;refine wpQuiet_load_guarded (by kernel_rfl) 233 _ rfl gp 0 rfl [.bool true,.bool true,.bool true,.bool true,.bool false,.bool false,.bool false] _ HR2.out Tryz.underlying233 rfl (by kernel_rfl) ?_;simp only [Act.put,List.setIfInBounds_toArray,List.set_cons_succ,List.set_cons_zero])
  | go_big_quiet_step (first
   | (go_at_call 132;first|(with_reducible exact calls_regrown fun W _=>KPf.out W)|(with_reducible exact calls_regrown fun W _=>KPt.out W))
   | (go_at_call 133;with_reducible exact calls_regrown fun W _=>KBa.out W)))
 refine wpQuiet_nil ?_
 intro w3 hw'
 have hb3:=below_of_regrown hw'
 have HX:=qh (HX.out.bel hb3)
 have HP:=qh (HP.out.bel hb3)
 have HB:=qh (HB.out.bel hb3)
 clear hw' hb3 x0 x1 x2 HR1 HR2 hnq
 have p0:=HP.out.cell 0
 simp only [yA,yB] at p0
 have x3:=HX.out.cell 3
 have x4:=HX.out.cell 4
 simp only [letL,yA,yB] at x3 x4
 go_wp2_with fail
 refine (KI.out _).mono ?_
 rintro e w4 ⟨rfl,hb⟩
 have HX:=qh (HX.out.bel hb)
 have HB:=qh (HB.out.bel hb)
 clear hb x3 x4 p0 HP
 have x5:=HX.out.cell 5
 have x6:=HX.out.cell 6
 simp only [letL,yA,yB] at x5 x6
 go_wp2_with fail
 refine (KBl.out _).mono ?_
 rintro e w5 ⟨rfl,hb⟩
 have HX:=qh (HX.out.bel hb)
 have HB:=qh (HB.out.bel hb)
 clear hb x5 x6
 have x7:=HX.out.cell 7
 have x8:=HX.out.cell 8
 have x9:=HX.out.cell 9
 have x10:=HX.out.cell 10
 have x11:=HX.out.cell 11
 have x12:=HX.out.cell 12
 have x13:=HX.out.cell 13
 simp only [letL,yA,yB] at x7 x8 x9 x10 x11 x12 x13
 go_wp2_with fail
 refine (KC.out _).mono ?_
 rintro e w6 ⟨rfl,hb⟩
 have HX:=qh (HX.out.bel hb)
 have HB:=qh (HB.out.bel hb)
 clear hb x7 x8 x9 x10 x11 x12 x13
 have x14:=HX.out.cell 14
 have x15:=HX.out.cell 15
 have x16:=HX.out.cell 16
 have x17:=HX.out.cell 17
 have x18:=HX.out.cell 18
 have x19:=HX.out.cell 19
 have x20:=HX.out.cell 20
 have x21:=HX.out.cell 21
 simp only [letL,yA,yB] at x14 x15 x16 x17 x18 x19 x20 x21
 go_wp2_with fail
 refine (KD.out _).mono ?_
 rintro e w7 ⟨rfl,hb⟩
 have HX:=qh (HX.out.bel hb)
 have HB:=qh (HB.out.bel hb)
 clear hb x14 x15 x16 x17 x18 x19 x20 x21
 have HRC:=qh (rangeAt_sub HX.out 22 (cs:=zCell) rfl)
 go_wp2_with (first
  | (with_reducible show wpList _ _ _ (_ :: _) _ _;refine wpList_load_guarded (by kernel_rfl) 45 _ rfl B 22 rfl zCell _ HRC.out Tryz.underlying45 rfl (by kernel_rfl) ?_))
 refine (KR.out _).mono ?_
 rintro e w8 ⟨rfl,hb⟩
 have HX:=qh (HX.out.bel hb)
 have HB:=qh (HB.out.bel hb)
 clear hb HRC
 have x43:=HX.out.cell 43
 have x44:=HX.out.cell 44
 have x45:=HX.out.cell 45
 have x46:=HX.out.cell 46
 have x47:=HX.out.cell 47
 have x48:=HX.out.cell 48
 have x49:=HX.out.cell 49
 simp only [letL,yA,yB] at x43 x44 x45 x46 x47 x48 x49
 go_wp2_with fail
 refine (KD.out _).mono ?_
 rintro e w9 ⟨rfl,hb⟩
 have HX:=qh (HX.out.bel hb)
 have HB:=qh (HB.out.bel hb)
 clear hb x43 x44 x45 x46 x47 x48 x49
 have x50:=HX.out.cell 50
 simp only [letL,yA,yB] at x50
 go_wp2_with fail
 go_ret
 exact⟨rfl,hB0▸HB.out.below⟩
end
section
open Go.RowKit
theorem bare2 (f t q:Int) (w:World):Calls Tryz.prog 133 #[.agg (letL 2 f t q Cm.zero).toArray,.agg ([.bool true,.bool true,.bool false,.bool true,.bool false,.bool false,.bool false]:List Value).toArray] w fun e w'=>e=.returned (.agg (letL 2 f t q Cm.zero).toArray)∧Below w.heap.size w w':=by
 go_enter Tryz.func133,Tryz.ntmps133
 go_upto_region 1 with (fail)
 go_name_world W hW
 have hW:allocs w [.cells (letL 2 f t q Cm.zero:List Value).toArray 47,.cells ([.bool true,.bool true,.bool false,.bool true,.bool false,.bool false,.bool false]:List Value).toArray 233,.cells (letZ:List Value).toArray 47]=W:=hW
 have HX:=qh (show Holds W (w.heap.size) 47 (letL 2 f t q Cm.zero) from holds_allocs _ hW 0 rfl)
 have HP:=qh (show Holds W (w.heap.size+1) 233 ([.bool true,.bool true,.bool false,.bool true,.bool false,.bool false,.bool false]) from holds_allocs _ hW 1 rfl)
 have HZ:=qh (show Holds W (w.heap.size+1+1) 47 (letZ) from holds_allocs _ hW 2 rfl)
 have hbW:=below_allocs _ hW
 have hsW:=size_allocs _ hW
 simp only [List.length_cons,List.length_nil] at hsW
 clear hW
 have HB:=qh (Base.start w)
 have HB:=qh (HB.out.bel hbW)
 clear hbW hsW
 generalize hz0:w.heap.size+1+1=gz at HZ ⊢
 generalize hp0:w.heap.size+1=gp at HP ⊢
 have hord:w.heap.size<gp∧gp<gz:=by omega
 generalize hB0:w.heap.size=B at HX HB hord ⊢
 have x0:=HX.out.cell 0
 have x1:=HX.out.cell 1
 have x2:=HX.out.cell 2
 simp only [letL,yA,yB] at x0 x1 x2
 go_upto_region 2 with (first
  | (refine wpList_store_whole rfl 47 (.tmp 5) (.tmp 12) W.heap.size letZ (letG 2 f t 0 0 Cm.zero) rfl rfl rfl rfl (holds_alloc W _ letZ) (by kernel_rfl) rfl (letG_one _ _ _ _ _ _) ?_;intro w1 hh1 ht1))
 have hal1:Below W.heap.size W w1:=Below.trans ((Below.refl _ _).alloc (Nat.le_refl _) _) (ht1.below (Nat.le_refl _) (by simp))
 have hgz:gz<W.heap.size:=HZ.out.lt
 have HG:=qh hh1
 have HX:=qh (HX.out.bel hal1)
 have HP:=qh (HP.out.bel hal1)
 have HZ:=qh (HZ.out.bel hal1)
 have HB:=qh (HB.out.bel hal1)
 clear hal1 hh1 ht1 x0 x1 x2
 generalize W.heap.size=gg at HG hgz ⊢
 have p0:=HP.out.cell 0
 simp only [yA,yB] at p0
 have x3:=HX.out.cell 3
 have x4:=HX.out.cell 4
 simp only [letL,yA,yB] at x3 x4
 go_upto_region 4 with (first
  | (refine wpList_store_spl rfl 37 (.tmp 17) (.tmp 16) rfl rfl gg 3 _ 47 HG.out rfl [.int .i64 q,.int .i64 1] rfl (by kernel_rfl) (by simp [letL,letG]) (by simp [Value.oneCell']) ?_;intro v0 hh ht))
 have HG:=qh (show Holds v0 gg 47 (letL 2 f t q Cm.zero) from hh)
 have HX:=qh (HX.out.touch ht (by omega));have HP:=qh (HP.out.touch ht (by omega));have HZ:=qh (HZ.out.touch ht (by omega));have HB:=qh (HB.out.touch ht (by omega))
 clear hh ht p0 x3 x4
 have p1:=HP.out.cell 1
 simp only [yA,yB] at p1
 have x5:=HX.out.cell 5
 have x6:=HX.out.cell 6
 simp only [letL,yA,yB] at x5 x6
 go_upto_region 6 with (first
  | (refine wpList_store_spl rfl 39 (.tmp 22) (.tmp 21) rfl rfl gg 5 _ 47 HG.out rfl [.int .i64 0,.int .i64 0] rfl (by kernel_rfl) (by simp [letL,letG]) (by simp [Value.oneCell']) ?_;intro v1 hh ht))
 have HG:=qh (show Holds v1 gg 47 (letL 2 f t q Cm.zero) from hh)
 have HX:=qh (HX.out.touch ht (by omega));have HP:=qh (HP.out.touch ht (by omega));have HZ:=qh (HZ.out.touch ht (by omega));have HB:=qh (HB.out.touch ht (by omega))
 clear hh ht p1 x5 x6
 have p2:=HP.out.cell 2
 simp only [yA,yB] at p2
 go_upto_region 8 with (fail)
 clear p2
 have p3:=HP.out.cell 3
 simp only [yA,yB] at p3
 have x14:=HX.out.cell 14
 have x15:=HX.out.cell 15
 have x16:=HX.out.cell 16
 have x17:=HX.out.cell 17
 have x18:=HX.out.cell 18
 have x19:=HX.out.cell 19
 have x20:=HX.out.cell 20
 have x21:=HX.out.cell 21
 simp only [letL,yA,yB] at x14 x15 x16 x17 x18 x19 x20 x21
 go_upto_region 10 with (first
  | (refine wpList_store_spl rfl 43 (.tmp 32) (.tmp 31) rfl rfl gg 14 _ 47 HG.out rfl [.int .i64 0,.int .i64 0,.int .i64 0,.int .i64 0,.int .i64 0,.int .i64 0,.int .i64 0,.int .i64 0] rfl (by kernel_rfl) (by simp [letL,letG]) (by simp [Value.oneCell']) ?_;intro v3 hh ht))
 have HG:=qh (show Holds v3 gg 47 (letL 2 f t q Cm.zero) from hh)
 have HX:=qh (HX.out.touch ht (by omega));have HP:=qh (HP.out.touch ht (by omega));have HZ:=qh (HZ.out.touch ht (by omega));have HB:=qh (HB.out.touch ht (by omega))
 clear hh ht p3 x14 x15 x16 x17 x18 x19 x20 x21
 have p4:=HP.out.cell 4
 simp only [yA,yB] at p4
 go_upto_region 12 with (fail)
 clear p4
 have p5:=HP.out.cell 5
 simp only [yA,yB] at p5
 go_upto_region 14 with (fail)
 clear p5
 have p6:=HP.out.cell 6
 simp only [yA,yB] at p6
 go_upto_region 16 with (fail)
 clear p6
 have HRG:=qh HG.out.range0
 go_wp2_with (first
  | (refine wpList_load_mid rfl 47 _ rfl gg 0 rfl (letL 2 f t q Cm.zero) _ HRG.out Tryz.underlying47 rfl (by kernel_rfl) ?_)
  | (refine wpList_store_whole rfl 47 (.tmp 4) (.tmp 48) gz letZ (letL 2 f t q Cm.zero) rfl rfl rfl rfl HZ.out (by kernel_rfl) rfl (letL_one' _ _ _ _ _) ?_;intro w5 hh5 ht5))
 have HB:=qh (HB.out.touch ht5 (by omega))
 have HR:=qh hh5.range0
 clear hh5 ht5 HRG
 refine bodyPost_ret (v:=.agg (letL 2 f t q Cm.zero).toArray) (results_cell Tryz.results133 _ _ gz _ _ rfl HR.out Tryz.underlying47 rfl (by kernel_rfl)) rfl ?_
 exact⟨rfl,hB0▸HB.out.below⟩
theorem named5 (w:World):Calls Tryz.prog 131 #[.int .i64 5] w fun e w'=>e=.returned (.tuple #[.agg ([.bool true,.bool false,.bool true,.bool true,.bool false,.bool false,.bool false]:List Value).toArray,.bool true])∧Below w.heap.size w w':=by
 go_enter Tryz.func131,Tryz.ntmps131
 go_upto_region 1 with (fail)
 go_name_world W hW
 have hW:allocs w [.cells ([.bool false,.bool false,.bool false,.bool false,.bool false,.bool false,.bool false]:List Value).toArray 233]=W:=hW
 have HZ:=qh (show Holds W (w.heap.size) 233 ([.bool false,.bool false,.bool false,.bool false,.bool false,.bool false,.bool false]) from holds_allocs _ hW 0 rfl)
 have hbW:=below_allocs _ hW
 have hsW:=size_allocs _ hW
 simp only [List.length_cons,List.length_nil] at hsW
 clear hW
 have HB:=qh (Base.start w)
 have HB:=qh (HB.out.bel hbW)
 clear hbW hsW
 generalize hB0:w.heap.size=B at HZ HB ⊢
 go_wp2_with (first
  | (refine wpList_store_whole rfl 233 _ _ B [.bool false,.bool false,.bool false,.bool false,.bool false,.bool false,.bool false] [.bool true,.bool false,.bool true,.bool true,.bool false,.bool false,.bool false] rfl rfl rfl rfl HZ.out (by kernel_rfl) rfl (by simp [Value.oneCell']) ?_;intro w5 hh5 ht5))
 have HB:=qh (HB.out.touch ht5 (Nat.le_refl _))
 have HR:=qh hh5.range0
 clear hh5 ht5
 refine bodyPost_ret (v:=.tuple #[.agg ([.bool true,.bool false,.bool true,.bool true,.bool false,.bool false,.bool false]:List Value).toArray,.bool true]) (results_cell_tmp Tryz.results131 _ _ B _ _ _ rfl rfl HR.out Tryz.underlying233 rfl (by kernel_rfl)) rfl ?_
 exact⟨rfl,hB0▸HB.out.below⟩
end
end Go.Proofs.YtimdpiifpibgfaaGreatDoor
