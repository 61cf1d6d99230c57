/- For every input the law TopFast returns true (a part of the proof). Condition: the listed variables start as the program's text lays them. -/
import Derived.Test.YtimdpiifpibgfaaGreatDoorQf18
import Derived.Test.YtimdpiifpibgfaaGreatDoorQf15
set_option linter.unusedVariables false
set_option linter.unusedSimpArgs false
set_option maxRecDepth 20000
set_option maxHeartbeats 16000000
namespace Go.Proofs.YtimdpiifpibgfaaGreatDoor
section
open Go.RowKit
theorem results_cell_cell {P:Program} {fn:Func} {a u:Tmp} {t t2:TypeId} (h:fn.results=#[.cell a t,.cell u t2]) (tmps:Array Value) (w:World) (b b2:Nat) (cs cs2:List Value) (d d2:TypeDesc) (ha:tmps.getD a undef=.pointer (some ⟨b,0,none⟩)) (hv:tmps.getD u undef=.pointer (some ⟨b2,0,none⟩)) (hc:w.rangeAt b 0 cs) (hc2:w.rangeAt b2 0 cs2)
  (hu:P.underlying t=some d) (hd:d.isRow=true) (hi:(P.info? t).map (·.size)=some cs.length) (hu2:P.underlying t2=some d2) (hd2:d2.isRow=true) (hi2:(P.info? t2).map (·.size)=some cs2.length):(results fn tmps).run P w=.ok (.tuple #[.agg cs.toArray,.agg cs2.toArray]) w:=by
 have hl:=run_loadVar_mid w b 0 t cs d hc hu hd hi
 have hl2:=run_loadVar_mid w b2 0 t2 cs2 d2 hc2 hu2 hd2 hi2
 unfold results
 rw [h]
 rw [Array.getD_eq_getD_getElem?] at ha hv
 simp [ha,hv,asAddr,hl,hl2,Sem.run_bind]
theorem reply_one (v:Int):(replyL v).toArray.all (·.oneCell')=true:=by simp [replyL,Value.oneCell']
theorem look_new (w:World) :
  Calls Tryz.prog 97 #[.agg (ownL 0 0).toArray,.int .i64 1,.int .i64 1] w fun e w'=>e=.returned (.tuple #[.int .i64 1,.agg (replyL 0).toArray])∧Below w.heap.size w w':=by
 have KK:=qh dknown1
 go_enter Tryz.func97,Tryz.ntmps97
 go_upto_region 1 with (fail)
 go_name_world W hW
 have hW:allocs w [.cells (ownL 0 0:List Value).toArray 64,.cells (replyL 0:List Value).toArray 53]=W:=hW
 have HO:=qh (show Holds W (w.heap.size) 64 (ownL 0 0) from holds_allocs _ hW 0 rfl)
 have HZ:=qh (show Holds W (w.heap.size+1) 53 (replyL 0) from holds_allocs _ hW 1 rfl)
 have hbW:=below_allocs _ hW
 have hsW:=size_allocs _ hW
 simp only [List.length_cons,List.length_nil] at hsW
 clear hW
 have HB:=qh (Base.start w)
 have HB:=qh (HB.out.bel hbW)
 clear hbW hsW
 generalize hz0:w.heap.size+1=gz at HZ ⊢
 have hzb:w.heap.size≤gz:=by omega
 generalize hB0:w.heap.size=B at HO HB hzb ⊢
 go_wp2_with fail
 refine (KK.out _).mono ?_
 rintro e w1 ⟨rfl,hb⟩
 have HO:=qh (HO.out.bel hb)
 have HZ:=qh (HZ.out.bel hb)
 have HB:=qh (HB.out.bel hb)
 clear hb
 have HRG:=qh (HO.out.rangeO 0 (cs:=.int .i64 0 :: replyL 0) (fun j v hv=>by
  rw [Nat.zero_add]
  rcases (show j=0∨j=1∨j=2∨j=3∨j=4∨j=5∨6≤j by omega) with rfl|rfl|rfl|rfl|rfl|rfl|h6
  ·exact hv
  ·exact hv
  ·exact hv
  ·exact hv
  ·exact hv
  ·exact hv
  ·rw [List.getElem?_eq_none (by simp [replyL];omega)] at hv;cases hv))
 go_upto_region 4 with (first
  | (refine wpList_load_mid rfl 63 _ rfl B 0 rfl (.int .i64 0 :: replyL 0) _ HRG.out Tryz.underlying63 rfl (by kernel_rfl) ?_)
  | (refine wpList_store_new rfl 63 _ _ rfl rfl _ _ _ rfl rfl (by kernel_rfl) rfl (by simp [replyL,Value.oneCell']) ?_))
 go_name_world W5 hW5
 have hW5:allocs w1 [.cells (.int .i64 0 :: replyL 0:List Value).toArray 63]=W5:=hW5
 have HX:=qh (show Holds W5 w1.heap.size 63 (.int .i64 0 :: replyL 0) from holds_allocs _ hW5 0 rfl)
 have hb5:=below_allocs _ hW5
 have HZ:=qh (HZ.out.bel hb5)
 have HB:=qh (HB.out.bel hb5)
 clear hW5 hb5 HRG HO
 generalize w1.heap.size=gx at HX ⊢
 have x0:=HX.out.cell 0
 simp only [yA,yB] at x0
 go_wp2_with (first
  | (refine wpList_store_whole rfl 53 (.tmp 7) (.tmp 22) gz (replyL 0) (replyL 0) rfl rfl rfl rfl HZ.out (by kernel_rfl) rfl (reply_one _) ?_;intro w5 hh5 ht5))
 have HB:=qh (HB.out.touch ht5 hzb)
 have HR:=qh hh5.range0
 clear hh5 ht5 x0
 refine bodyPost_ret (v:=.tuple #[.int .i64 1,.agg (replyL 0).toArray]) (results_tmp_cel Tryz.results97 _ _ gz _ _ _ rfl rfl HR.out Tryz.underlying53 rfl (by kernel_rfl)) rfl ?_
 exact⟨rfl,hB0▸HB.out.below⟩
theorem done_get (c:Cm) (hk:c.k=1) (w:World) :
  Calls Tryz.prog 98 #[.slice none 0 0,.agg #[.int .i64 c.k,.int .i64 c.c,.int .i64 c.s,.string c.a,.string c.b,.string c.o,.string c.v]] w fun e w'=>e=.returned (.tuple #[.slice none 0 0,.agg (replyL 0).toArray])∧Below w.heap.size w w':=by
 have KG:=qh (fun s W=>kget0 s W)
 rw [hk]
 clear hk
 obtain⟨k,cc,s,a,b,o,v⟩:=c
 simp only
 go_enter Tryz.func98,Tryz.ntmps98
 go_upto_region 1 with (fail)
 go_name_world W hW
 have hW:allocs w [.cells ([.int .i64 1,.int .i64 cc,.int .i64 s,.string a,.string b,.string o,.string v]:List Value).toArray 23,.cells (replyL 0:List Value).toArray 53]=W:=hW
 have HX:=qh (show Holds W (w.heap.size) 23 ([.int .i64 1,.int .i64 cc,.int .i64 s,.string a,.string b,.string o,.string v]) from holds_allocs _ hW 0 rfl)
 have HZ:=qh (show Holds W (w.heap.size+1) 53 (replyL 0) from holds_allocs _ hW 1 rfl)
 have hbW:=below_allocs _ hW
 have hsW:=size_allocs _ hW
 simp only [List.length_cons,List.length_nil] at hsW
 clear hW
 have HB:=qh (Base.start w)
 have HB:=qh (HB.out.bel hbW)
 clear hbW hsW
 generalize hz0:w.heap.size+1=gz at HZ ⊢
 have hzb:w.heap.size≤gz:=by omega
 generalize hB0:w.heap.size=B at HX HB hzb ⊢
 have x3:=HX.out.cell 3
 simp only [yA,yB] at x3
 go_wp2_with fail
 refine (KG.out _ _).mono ?_
 rintro e w1 ⟨rfl,hb⟩
 have HX:=qh (HX.out.bel hb)
 have HZ:=qh (HZ.out.bel hb)
 have HB:=qh (HB.out.bel hb)
 clear hb x3
 go_upto_region 2 with (first
  | (refine wpList_store_new rfl 69 _ _ rfl rfl _ _ _ rfl rfl (by kernel_rfl) rfl (pair_one _ _ _) ?_))
 go_name_world W5 hW5
 have hW5:allocs w1 [.cells (pairL ⟨#[]⟩ ⟨#[]⟩ 0:List Value).toArray 69]=W5:=hW5
 have HP:=qh (show Holds W5 w1.heap.size 69 (pairL ⟨#[]⟩ ⟨#[]⟩ 0) from holds_allocs _ hW5 0 rfl)
 have hb5:=below_allocs _ hW5
 have HX:=qh (HX.out.bel hb5)
 have HZ:=qh (HZ.out.bel hb5)
 have HB:=qh (HB.out.bel hb5)
 clear hW5 hb5
 generalize w1.heap.size=gp at HP ⊢
 have x0:=HX.out.cell 0
 have x1:=HX.out.cell 1
 have x2:=HX.out.cell 2
 have x3:=HX.out.cell 3
 have x4:=HX.out.cell 4
 have x5:=HX.out.cell 5
 have x6:=HX.out.cell 6
 simp only [yA,yB] at x0 x1 x2 x3 x4 x5 x6
 go_upto_region 4 with (fail)
 clear x0 x1 x2 x3 x4 x5 x6
 have HP:=qh (HP.out.bel (t_drew _ W5))
 have HZ:=qh (HZ.out.bel (t_drew _ W5))
 have HB:=qh (HB.out.bel (t_drew _ W5))
 refine wp_region_noPanic ?_
 refine wp_region_late (S:=fun W'=>Below W5.drew.heap.size W5.drew W') (X0:=[8]) (by as_aux_lemma=>kernel_rfl) ?_
 generalize W5.drew=wd at HP HZ HB ⊢
 have hSn:Below wd.heap.size wd wd:=Below.refl _ _
 change wpAnyL _ _ _ _ _ _ 9 #[false,false,false,false,false,false,false,false,false] _ _
 refine mvA 0 (some 27) (fun _=>hSn) ?_
 simp only [Act.put,zA,zB,zC]
 refine mvA 1 (some 28) (fun _=>hSn) ?_
 simp only [Act.put,zA,zB,zC]
 refine mvA 2 (some 29) (fun _=>hSn) ?_
 simp only [Act.put,zA,zB,zC]
 refine tkA 3 [6,8] (some 30) (?vg4) rfl (Or.inl ⟨by rfl,?hg4⟩) hSn ?rg4
 case hg4=>
  intro w hSw
  have b1:=(HP.out.bel hSw).cell 1
  simp only [pairL,yA,yB] at b1
  go_simp
  try with_reducible rfl
 simp only [Act.put,zA,zB,zC]
 refine mvA 4 (some 31) (fun _=>hSn) ?_
 simp only [Act.put,zA,zB,zC]
 refine tkA 5 [6,8] (some 32) (?vg6) rfl (Or.inl ⟨by rfl,?hg6⟩) hSn ?rg6
 case hg6=>
  intro w hSw
  have b2:=(HP.out.bel hSw).cell 2
  simp only [pairL,yA,yB] at b2
  go_simp
  try with_reducible rfl
 simp only [Act.put,zA,zB,zC]
 refine mvA 6 (some 33) (fun _=>hSn) ?_
 simp only [Act.put,zA,zB,zC]
 refine mvA 7 (some 4) (fun _=>hSn) ?_
 simp only [Act.put,zA,zB,zC]
 refine rd1 8 rfl (fun K hK=>?_)
 refine step_store_box rfl 53 (.tmp 5) (.tmp 33) gz (replyL 0) (replyL 0) rfl rfl rfl rfl (HZ.out.bel hSn) (by kernel_rfl) rfl (reply_one _) ?_
 intro w8 hh8 ht8
 refine hK.out _ _ nlA ?_
 clear hK
 try simp only [Act.put,zA,zB,zC]
 refine dnA (NoPanic.normal ?_)
 have HB:=qh ((HB.out.bel hSn).touch ht8 hzb)
 have HR:=qh hh8.range0
 clear hh8 ht8 hSn
 go_wp2_with fail
 refine bodyPost_ret (v:=.tuple #[.slice none 0 0,.agg (replyL 0).toArray]) (results_tmp_cel Tryz.results98 _ _ gz _ _ _ rfl rfl HR.out Tryz.underlying53 rfl (by kernel_rfl)) rfl ?_
 exact⟨rfl,hB0▸HB.out.below⟩
theorem done_put (c:Cm) (hk:c.k=2) (w:World) :
  Calls Tryz.prog 98 #[.slice none 0 0,.agg #[.int .i64 c.k,.int .i64 c.c,.int .i64 c.s,.string c.a,.string c.b,.string c.o,.string c.v]] w fun e w'=>∃ p n g,e=.returned (.tuple #[.slice p 1 n,.agg (replyL 1).toArray])∧OwnS w' (.slice p 1 n) (some g) 69 3 1 (pairL c.a c.v 1)∧w.heap.size≤g∧Below w.heap.size w w':=by
 have KG:=qh (fun s W=>kget0 s W)
 have KP:=qh (fun k v W=>kput0 k v W)
 rw [hk]
 clear hk
 obtain⟨k,cc,s,a,b,o,v⟩:=c
 simp only
 go_enter Tryz.func98,Tryz.ntmps98
 go_upto_region 1 with (fail)
 go_name_world W hW
 have hW:allocs w [.cells ([.int .i64 2,.int .i64 cc,.int .i64 s,.string a,.string b,.string o,.string v]:List Value).toArray 23,.cells (replyL 0:List Value).toArray 53]=W:=hW
 have HX:=qh (show Holds W (w.heap.size) 23 ([.int .i64 2,.int .i64 cc,.int .i64 s,.string a,.string b,.string o,.string v]) from holds_allocs _ hW 0 rfl)
 have HZ:=qh (show Holds W (w.heap.size+1) 53 (replyL 0) from holds_allocs _ hW 1 rfl)
 have hbW:=below_allocs _ hW
 have hsW:=size_allocs _ hW
 simp only [List.length_cons,List.length_nil] at hsW
 clear hW
 have HB:=qh (Base.start w)
 have HB:=qh (HB.out.bel hbW)
 clear hbW hsW
 generalize hz0:w.heap.size+1=gz at HZ ⊢
 have hzb:w.heap.size≤gz:=by omega
 generalize hB0:w.heap.size=B at HX HB hzb ⊢
 have x3:=HX.out.cell 3
 simp only [yA,yB] at x3
 go_wp2_with fail
 refine (KG.out _ _).mono ?_
 rintro e w1 ⟨rfl,hb⟩
 have HX:=qh (HX.out.bel hb)
 have HZ:=qh (HZ.out.bel hb)
 have HB:=qh (HB.out.bel hb)
 clear hb x3
 go_upto_region 2 with (first
  | (refine wpList_store_new rfl 69 _ _ rfl rfl _ _ _ rfl rfl (by kernel_rfl) rfl (pair_one _ _ _) ?_))
 go_name_world W5 hW5
 have hW5:allocs w1 [.cells (pairL ⟨#[]⟩ ⟨#[]⟩ 0:List Value).toArray 69]=W5:=hW5
 have HP:=qh (show Holds W5 w1.heap.size 69 (pairL ⟨#[]⟩ ⟨#[]⟩ 0) from holds_allocs _ hW5 0 rfl)
 have hb5:=below_allocs _ hW5
 have HX:=qh (HX.out.bel hb5)
 have HZ:=qh (HZ.out.bel hb5)
 have HB:=qh (HB.out.bel hb5)
 clear hW5 hb5
 generalize w1.heap.size=gp at HP ⊢
 have x0:=HX.out.cell 0
 have x1:=HX.out.cell 1
 have x2:=HX.out.cell 2
 have x3:=HX.out.cell 3
 have x4:=HX.out.cell 4
 have x5:=HX.out.cell 5
 have x6:=HX.out.cell 6
 simp only [yA,yB] at x0 x1 x2 x3 x4 x5 x6
 go_wp2_with fail
 refine (KP.out _ _ _).mono ?_
 rintro e w6 ⟨PP,g,rfl,ho,hg,hb⟩
 obtain⟨g0,n0,r0,rfl,_,_,_,_,_⟩:=ho.blk (by decide)
 have hg5:B≤g:=Nat.le_trans HB.out.le hg
 have hgz:gz<g:=Nat.lt_of_lt_of_le HZ.out.lt hg
 have HP:=qh (HP.out.bel hb)
 have HZ:=qh (HZ.out.bel hb)
 have HB:=qh (HB.out.bel hb)
 have HO:=qh ho
 clear hb ho hg
 go_upto_region 9 with (fail)
 clear x0 x1 x2 x3 x4 x5 x6
 have HP:=qh (HP.out.bel (t_drew _ w6))
 have HZ:=qh (HZ.out.bel (t_drew _ w6))
 have HB:=qh (HB.out.bel (t_drew _ w6))
 have HO:=qh (HO.out.bel (t_drew _ w6))
 refine wp_region_noPanic ?_
 refine wp_region_late (S:=fun W'=>Below w6.drew.heap.size w6.drew W') (X0:=[7]) (by as_aux_lemma=>kernel_rfl) ?_
 generalize w6.drew=wd at HP HZ HB HO ⊢
 have hSn:Below wd.heap.size wd wd:=Below.refl _ _
 change wpAnyL _ _ _ _ _ _ 8 #[false,false,false,false,false,false,false,false] _ _
 refine mvA 0 (some 50) (fun _=>hSn) ?_
 simp only [Act.put,zA,zB,zC]
 refine mvA 1 (some 51) (fun _=>hSn) ?_
 simp only [Act.put,zA,zB,zC]
 refine mvA 2 (some 52) (fun _=>hSn) ?_
 simp only [Act.put,zA,zB,zC]
 refine tkA 3 [4,5,7] (some 53) (?vg12) rfl (Or.inl ⟨by rfl,?hg12⟩) hSn ?rg12
 case hg12=>
  intro w hSw
  have b2:=(HP.out.bel hSw).cell 2
  simp only [pairL,yA,yB] at b2
  go_simp
  try with_reducible rfl
 simp only [Act.put,zA,zB,zC]
 refine mvA 4 (some 54) (fun _=>hSn) ?_
 simp only [Act.put,zA,zB,zC]
 refine mvA 5 (some 55) (fun _=>hSn) ?_
 simp only [Act.put,zA,zB,zC]
 refine mvA 6 (some 4) (fun _=>hSn) ?_
 simp only [Act.put,zA,zB,zC]
 refine rd1 7 rfl (fun K hK=>?_)
 refine step_store_box rfl 53 (.tmp 5) (.tmp 55) gz (replyL 0) (replyL 1) rfl rfl rfl rfl (HZ.out.bel hSn) (by kernel_rfl) rfl (reply_one _) ?_
 intro w8 hh8 ht8
 refine hK.out _ _ nlA ?_
 clear hK
 try simp only [Act.put,zA,zB,zC]
 refine dnA (NoPanic.normal ?_)
 have HB:=qh ((HB.out.bel hSn).touch ht8 hzb)
 have HR:=qh hh8.range0
 have HO:=qh ((HO.out.bel hSn).touch ht8 (fun k hk=>by cases hk;omega))
 clear hh8 ht8 hSn
 go_wp2_with fail
 refine bodyPost_ret (v:=.tuple #[.slice (some ⟨g0,0,none⟩) 1 n0,.agg (replyL 1).toArray]) (results_tmp_cel Tryz.results98 _ _ gz _ _ _ rfl rfl HR.out Tryz.underlying53 rfl (by kernel_rfl)) rfl ?_
 first|exact⟨_,_,g,rfl,HO.out,hB0▸hg5,hB0▸HB.out.below⟩|exact⟨_,_,rfl,g,HO.out,hB0▸hg5,hB0▸HB.out.below⟩
theorem done_del (c:Cm) (hk:c.k=3) (w:World) :
  Calls Tryz.prog 98 #[.slice none 0 0,.agg #[.int .i64 c.k,.int .i64 c.c,.int .i64 c.s,.string c.a,.string c.b,.string c.o,.string c.v]] w fun e w'=>e=.returned (.tuple #[.slice none 0 0,.agg (replyL 0).toArray])∧Below w.heap.size w w':=by
 have KG:=qh (fun s W=>kget0 s W)
 have KD:=qh (fun s W=>kdel0 s W)
 rw [hk]
 clear hk
 obtain⟨k,cc,s,a,b,o,v⟩:=c
 simp only
 go_enter Tryz.func98,Tryz.ntmps98
 go_upto_region 1 with (fail)
 go_name_world W hW
 have hW:allocs w [.cells ([.int .i64 3,.int .i64 cc,.int .i64 s,.string a,.string b,.string o,.string v]:List Value).toArray 23,.cells (replyL 0:List Value).toArray 53]=W:=hW
 have HX:=qh (show Holds W (w.heap.size) 23 ([.int .i64 3,.int .i64 cc,.int .i64 s,.string a,.string b,.string o,.string v]) from holds_allocs _ hW 0 rfl)
 have HZ:=qh (show Holds W (w.heap.size+1) 53 (replyL 0) from holds_allocs _ hW 1 rfl)
 have hbW:=below_allocs _ hW
 have hsW:=size_allocs _ hW
 simp only [List.length_cons,List.length_nil] at hsW
 clear hW
 have HB:=qh (Base.start w)
 have HB:=qh (HB.out.bel hbW)
 clear hbW hsW
 generalize hz0:w.heap.size+1=gz at HZ ⊢
 have hzb:w.heap.size≤gz:=by omega
 generalize hB0:w.heap.size=B at HX HB hzb ⊢
 have x3:=HX.out.cell 3
 simp only [yA,yB] at x3
 go_wp2_with fail
 refine (KG.out _ _).mono ?_
 rintro e w1 ⟨rfl,hb⟩
 have HX:=qh (HX.out.bel hb)
 have HZ:=qh (HZ.out.bel hb)
 have HB:=qh (HB.out.bel hb)
 clear hb x3
 go_upto_region 2 with (first
  | (refine wpList_store_new rfl 69 _ _ rfl rfl _ _ _ rfl rfl (by kernel_rfl) rfl (pair_one _ _ _) ?_))
 go_name_world W5 hW5
 have hW5:allocs w1 [.cells (pairL ⟨#[]⟩ ⟨#[]⟩ 0:List Value).toArray 69]=W5:=hW5
 have HP:=qh (show Holds W5 w1.heap.size 69 (pairL ⟨#[]⟩ ⟨#[]⟩ 0) from holds_allocs _ hW5 0 rfl)
 have hb5:=below_allocs _ hW5
 have HX:=qh (HX.out.bel hb5)
 have HZ:=qh (HZ.out.bel hb5)
 have HB:=qh (HB.out.bel hb5)
 clear hW5 hb5
 generalize w1.heap.size=gp at HP ⊢
 have x0:=HX.out.cell 0
 have x1:=HX.out.cell 1
 have x2:=HX.out.cell 2
 have x3:=HX.out.cell 3
 have x4:=HX.out.cell 4
 have x5:=HX.out.cell 5
 have x6:=HX.out.cell 6
 simp only [yA,yB] at x0 x1 x2 x3 x4 x5 x6
 go_wp2_with fail
 refine (KD.out _ _).mono ?_
 rintro e w6 ⟨rfl,hb⟩
 have HP:=qh (HP.out.bel hb)
 have HZ:=qh (HZ.out.bel hb)
 have HB:=qh (HB.out.bel hb)
 clear hb
 go_upto_region 12 with (fail)
 clear x0 x1 x2 x3 x4 x5 x6
 have HP:=qh (HP.out.bel (t_drew _ w6))
 have HZ:=qh (HZ.out.bel (t_drew _ w6))
 have HB:=qh (HB.out.bel (t_drew _ w6))
 refine wp_region_noPanic ?_
 refine wp_region_late (S:=fun W'=>Below w6.drew.heap.size w6.drew W') (X0:=[6]) (by as_aux_lemma=>kernel_rfl) ?_
 generalize w6.drew=wd at HP HZ HB ⊢
 have hSn:Below wd.heap.size wd wd:=Below.refl _ _
 change wpAnyL _ _ _ _ _ _ 7 #[false,false,false,false,false,false,false] _ _
 refine mvA 0 (some 65) (fun _=>hSn) ?_
 simp only [Act.put,zA,zB,zC]
 refine mvA 1 (some 66) (fun _=>hSn) ?_
 simp only [Act.put,zA,zB,zC]
 refine mvA 2 (some 67) (fun _=>hSn) ?_
 simp only [Act.put,zA,zB,zC]
 refine tkA 3 [4,6] (some 68) (?vg19) rfl (Or.inl ⟨by rfl,?hg19⟩) hSn ?rg19
 case hg19=>
  intro w hSw
  have b2:=(HP.out.bel hSw).cell 2
  simp only [pairL,yA,yB] at b2
  go_simp
  try with_reducible rfl
 simp only [Act.put,zA,zB,zC]
 refine mvA 4 (some 69) (fun _=>hSn) ?_
 simp only [Act.put,zA,zB,zC]
 refine mvA 5 (some 4) (fun _=>hSn) ?_
 simp only [Act.put,zA,zB,zC]
 refine rd1 6 rfl (fun K hK=>?_)
 refine step_store_box rfl 53 (.tmp 5) (.tmp 69) gz (replyL 0) (replyL 0) rfl rfl rfl rfl (HZ.out.bel hSn) (by kernel_rfl) rfl (reply_one _) ?_
 intro w8 hh8 ht8
 refine hK.out _ _ nlA ?_
 clear hK
 try simp only [Act.put,zA,zB,zC]
 refine dnA (NoPanic.normal ?_)
 have HB:=qh ((HB.out.bel hSn).touch ht8 hzb)
 have HR:=qh hh8.range0
 clear hh8 ht8 hSn
 go_wp2_with fail
 refine bodyPost_ret (v:=.tuple #[.slice none 0 0,.agg (replyL 0).toArray]) (results_tmp_cel Tryz.results98 _ _ gz _ _ _ rfl rfl HR.out Tryz.underlying53 rfl (by kernel_rfl)) rfl ?_
 exact⟨rfl,hB0▸HB.out.below⟩
theorem done_swap (c:Cm) (hk:c.k=4) (w:World) :
  Calls Tryz.prog 98 #[.slice none 0 0,.agg #[.int .i64 c.k,.int .i64 c.c,.int .i64 c.s,.string c.a,.string c.b,.string c.o,.string c.v]] w fun e w'=>e=.returned (.tuple #[.slice none 0 0,.agg (replyL 0).toArray])∧Below w.heap.size w w':=by
 have KG:=qh (fun s W=>kget0 s W)
 rw [hk]
 clear hk
 obtain⟨k,cc,s,a,b,o,v⟩:=c
 simp only
 go_enter Tryz.func98,Tryz.ntmps98
 go_upto_region 1 with (fail)
 go_name_world W hW
 have hW:allocs w [.cells ([.int .i64 4,.int .i64 cc,.int .i64 s,.string a,.string b,.string o,.string v]:List Value).toArray 23,.cells (replyL 0:List Value).toArray 53]=W:=hW
 have HX:=qh (show Holds W (w.heap.size) 23 ([.int .i64 4,.int .i64 cc,.int .i64 s,.string a,.string b,.string o,.string v]) from holds_allocs _ hW 0 rfl)
 have HZ:=qh (show Holds W (w.heap.size+1) 53 (replyL 0) from holds_allocs _ hW 1 rfl)
 have hbW:=below_allocs _ hW
 have hsW:=size_allocs _ hW
 simp only [List.length_cons,List.length_nil] at hsW
 clear hW
 have HB:=qh (Base.start w)
 have HB:=qh (HB.out.bel hbW)
 clear hbW hsW
 generalize hz0:w.heap.size+1=gz at HZ ⊢
 have hzb:w.heap.size≤gz:=by omega
 generalize hB0:w.heap.size=B at HX HB hzb ⊢
 have x3:=HX.out.cell 3
 simp only [yA,yB] at x3
 go_wp2_with fail
 refine (KG.out _ _).mono ?_
 rintro e w1 ⟨rfl,hb⟩
 have HX:=qh (HX.out.bel hb)
 have HZ:=qh (HZ.out.bel hb)
 have HB:=qh (HB.out.bel hb)
 clear hb x3
 go_upto_region 2 with (first
  | (refine wpList_store_new rfl 69 _ _ rfl rfl _ _ _ rfl rfl (by kernel_rfl) rfl (pair_one _ _ _) ?_))
 go_name_world W5 hW5
 have hW5:allocs w1 [.cells (pairL ⟨#[]⟩ ⟨#[]⟩ 0:List Value).toArray 69]=W5:=hW5
 have HP:=qh (show Holds W5 w1.heap.size 69 (pairL ⟨#[]⟩ ⟨#[]⟩ 0) from holds_allocs _ hW5 0 rfl)
 have hb5:=below_allocs _ hW5
 have HX:=qh (HX.out.bel hb5)
 have HZ:=qh (HZ.out.bel hb5)
 have HB:=qh (HB.out.bel hb5)
 clear hW5 hb5
 generalize w1.heap.size=gp at HP ⊢
 have x0:=HX.out.cell 0
 have x1:=HX.out.cell 1
 have x2:=HX.out.cell 2
 have x3:=HX.out.cell 3
 have x4:=HX.out.cell 4
 have x5:=HX.out.cell 5
 have x6:=HX.out.cell 6
 simp only [yA,yB] at x0 x1 x2 x3 x4 x5 x6
 have q0:=HP.out.cell 0
 have q1:=HP.out.cell 1
 have q2:=HP.out.cell 2
 simp only [pairL,yA,yB] at q0 q1 q2
 go_upto_region 15 with (fail)
 clear x0 x1 x2 x3 x4 x5 x6
 have HP:=qh (HP.out.bel (t_drew _ W5))
 have HZ:=qh (HZ.out.bel (t_drew _ W5))
 have HB:=qh (HB.out.bel (t_drew _ W5))
 refine wp_region_noPanic ?_
 refine wp_region_late (S:=fun W'=>Below W5.drew.heap.size W5.drew W') (X0:=[7]) (by as_aux_lemma=>kernel_rfl) ?_
 generalize W5.drew=wd at HP HZ HB ⊢
 have hSn:Below wd.heap.size wd wd:=Below.refl _ _
 change wpAnyL _ _ _ _ _ _ 8 #[false,false,false,false,false,false,false,false] _ _
 refine mvA 0 (some 81) (fun _=>hSn) ?_
 simp only [Act.put,zA,zB,zC]
 refine mvA 1 (some 82) (fun _=>hSn) ?_
 simp only [Act.put,zA,zB,zC]
 refine tkA 2 [5,7] (some 83) (?vg24) rfl (Or.inl ⟨by rfl,?hg24⟩) hSn ?rg24
 case hg24=>
  intro w hSw
  have b1:=(HP.out.bel hSw).cell 1
  simp only [pairL,yA,yB] at b1
  go_simp
  try with_reducible rfl
 simp only [Act.put,zA,zB,zC]
 refine mvA 3 (some 84) (fun _=>hSn) ?_
 simp only [Act.put,zA,zB,zC]
 refine tkA 4 [5,7] (some 85) (?vg26) rfl (Or.inl ⟨by rfl,?hg26⟩) hSn ?rg26
 case hg26=>
  intro w hSw
  have b2:=(HP.out.bel hSw).cell 2
  simp only [pairL,yA,yB] at b2
  go_simp
  try with_reducible rfl
 simp only [Act.put,zA,zB,zC]
 refine mvA 5 (some 86) (fun _=>hSn) ?_
 simp only [Act.put,zA,zB,zC]
 refine mvA 6 (some 4) (fun _=>hSn) ?_
 simp only [Act.put,zA,zB,zC]
 refine rd1 7 rfl (fun K hK=>?_)
 refine step_store_box rfl 53 (.tmp 5) (.tmp 86) gz (replyL 0) (replyL 0) rfl rfl rfl rfl (HZ.out.bel hSn) (by kernel_rfl) rfl (reply_one _) ?_
 intro w8 hh8 ht8
 refine hK.out _ _ nlA ?_
 clear hK
 try simp only [Act.put,zA,zB,zC]
 refine dnA (NoPanic.normal ?_)
 have HB:=qh ((HB.out.bel hSn).touch ht8 hzb)
 have HR:=qh hh8.range0
 clear hh8 ht8 hSn
 go_wp2_with fail
 refine bodyPost_ret (v:=.tuple #[.slice none 0 0,.agg (replyL 0).toArray]) (results_tmp_cel Tryz.results98 _ _ gz _ _ _ rfl rfl HR.out Tryz.underlying53 rfl (by kernel_rfl)) rfl ?_
 exact⟨rfl,hB0▸HB.out.below⟩
theorem done_range (c:Cm) (hk:c.k=5) (w:World) :
  Calls Tryz.prog 98 #[.slice none 0 0,.agg #[.int .i64 c.k,.int .i64 c.c,.int .i64 c.s,.string c.a,.string c.b,.string c.o,.string c.v]] w fun e w'=>e=.returned (.tuple #[.slice none 0 0,.agg (replyL 0).toArray])∧Below w.heap.size w w':=by
 have KG:=qh (fun s W=>kget0 s W)
 have KR:=qh (fun a b W=>krange0 a b W)
 rw [hk]
 clear hk
 obtain⟨k,cc,s,a,b,o,v⟩:=c
 simp only
 go_enter Tryz.func98,Tryz.ntmps98
 go_upto_region 1 with (fail)
 go_name_world W hW
 have hW:allocs w [.cells ([.int .i64 5,.int .i64 cc,.int .i64 s,.string a,.string b,.string o,.string v]:List Value).toArray 23,.cells (replyL 0:List Value).toArray 53]=W:=hW
 have HX:=qh (show Holds W (w.heap.size) 23 ([.int .i64 5,.int .i64 cc,.int .i64 s,.string a,.string b,.string o,.string v]) from holds_allocs _ hW 0 rfl)
 have HZ:=qh (show Holds W (w.heap.size+1) 53 (replyL 0) from holds_allocs _ hW 1 rfl)
 have hbW:=below_allocs _ hW
 have hsW:=size_allocs _ hW
 simp only [List.length_cons,List.length_nil] at hsW
 clear hW
 have HB:=qh (Base.start w)
 have HB:=qh (HB.out.bel hbW)
 clear hbW hsW
 generalize hz0:w.heap.size+1=gz at HZ ⊢
 have hzb:w.heap.size≤gz:=by omega
 generalize hB0:w.heap.size=B at HX HB hzb ⊢
 have x3:=HX.out.cell 3
 simp only [yA,yB] at x3
 go_wp2_with fail
 refine (KG.out _ _).mono ?_
 rintro e w1 ⟨rfl,hb⟩
 have HX:=qh (HX.out.bel hb)
 have HZ:=qh (HZ.out.bel hb)
 have HB:=qh (HB.out.bel hb)
 clear hb x3
 go_upto_region 2 with (first
  | (refine wpList_store_new rfl 69 _ _ rfl rfl _ _ _ rfl rfl (by kernel_rfl) rfl (pair_one _ _ _) ?_))
 go_name_world W5 hW5
 have hW5:allocs w1 [.cells (pairL ⟨#[]⟩ ⟨#[]⟩ 0:List Value).toArray 69]=W5:=hW5
 have HP:=qh (show Holds W5 w1.heap.size 69 (pairL ⟨#[]⟩ ⟨#[]⟩ 0) from holds_allocs _ hW5 0 rfl)
 have hb5:=below_allocs _ hW5
 have HX:=qh (HX.out.bel hb5)
 have HZ:=qh (HZ.out.bel hb5)
 have HB:=qh (HB.out.bel hb5)
 clear hW5 hb5
 generalize w1.heap.size=gp at HP ⊢
 have x0:=HX.out.cell 0
 have x1:=HX.out.cell 1
 have x2:=HX.out.cell 2
 have x3:=HX.out.cell 3
 have x4:=HX.out.cell 4
 have x5:=HX.out.cell 5
 have x6:=HX.out.cell 6
 simp only [yA,yB] at x0 x1 x2 x3 x4 x5 x6
 go_wp2_with fail
 refine (KR.out _ _ _).mono ?_
 rintro e w6 ⟨rfl,hb⟩
 have HP:=qh (HP.out.bel hb)
 have HZ:=qh (HZ.out.bel hb)
 have HB:=qh (HB.out.bel hb)
 clear hb x0 x1 x2 x3 x4 x5 x6
 go_wp2_with (first
  | (refine wpList_store_whole rfl 53 (.tmp 5) (.tmp 116) gz (replyL 0) (replyL 0) rfl rfl rfl rfl HZ.out (by kernel_rfl) rfl (reply_one _) ?_;intro w8 hh8 ht8))
 have HB:=qh (HB.out.touch ht8 hzb)
 have HR:=qh hh8.range0
 clear hh8 ht8
 refine bodyPost_ret (v:=.tuple #[.slice none 0 0,.agg (replyL 0).toArray]) (results_tmp_cel Tryz.results98 _ _ gz _ _ _ rfl rfl HR.out Tryz.underlying53 rfl (by kernel_rfl)) rfl ?_
 exact⟨rfl,hB0▸HB.out.below⟩
end
section
open Go.RowKit
def letG (k f t q s:Int) (x:Cm):List Value:=[.int .i64 k,.int .i64 f,.int .i64 t,.int .i64 q,.int .i64 s,.int .i64 0,.int .i64 0,.int .i64 x.k,.int .i64 x.c,.int .i64 x.s,.string x.a,.string x.b,.string x.o,.string x.v,.int .i64 0,.int .i64 0,.int .i64 0,.int .i64 0,.int .i64 0,.int .i64 0,.int .i64 0,.int .i64 0,.int .i64 0,.int .i64 0,.int .i64 0,.int .i64 0,.int .i64 0,.int .i64 0,.int .i64 0,.int .i64 0,.string ⟨#[]⟩,.string ⟨#[]⟩,.string ⟨#[]⟩,.string ⟨#[]⟩,.int .i64 0,.int .i64 0,.int .i64 0,.int .i64 0,.int .i64 0,.int .i64 0,.int .i64 0,.int .i64 0,.bool false,.int .i64 0,.int .i64 0,.int .i64 0,.int .i64 0,.int .i64 0,.int .i64 0,.int .i64 0,.string ⟨#[]⟩]
theorem letG_one (k f t q s:Int) (x:Cm):(letG k f t q s x).toArray.all (·.oneCell')=true:=by simp [letG,Value.oneCell']
def zCell:List Value:=[.int .i64 0,.int .i64 0,.int .i64 0,.int .i64 0,.int .i64 0,.int .i64 0,.int .i64 0,.int .i64 0,.string ⟨#[]⟩,.string ⟨#[]⟩,.string ⟨#[]⟩,.string ⟨#[]⟩,.int .i64 0,.int .i64 0,.int .i64 0,.int .i64 0,.int .i64 0,.int .i64 0,.int .i64 0,.int .i64 0,.bool false]
theorem neqCell_zero (w:World):(binOp .neq 45 (.agg zCell.toArray) (.agg zCell.toArray)).run Tryz.prog w=.ok (.bool false) w:=by
 rw [run_neq_struct,show (10000:Nat)=9996+4 from rfl,show zCell.toArray=#[.int .i64 0,.int .i64 0,.int .i64 0,.int .i64 0,.int .i64 0,.int .i64 0,.int .i64 0,.int .i64 0,.string ⟨#[]⟩,.string ⟨#[]⟩,.string ⟨#[]⟩,.string ⟨#[]⟩,.int .i64 0,.int .i64 0,.int .i64 0,.int .i64 0,.int .i64 0,.int .i64 0,.int .i64 0,.int .i64 0,.bool false] from rfl]
 have:=eqCell_self 9996 ⟨0,0,0,0,0,0,Cm.zero,At.of 0,false⟩ w
 exact (congrArg (fun r=>r.andThen fun b w=>Result.ok (Value.bool !b) w) this)
theorem rightCmd_zero (w:World):Calls Tryz.prog 70 #[.agg #[.int .i64 0,.int .i64 0,.int .i64 0,.string ⟨#[]⟩,.string ⟨#[]⟩,.string ⟨#[]⟩,.string ⟨#[]⟩]] w fun e w'=>e=.returned (.bool true)∧Below w.heap.size w w':=by
 have:=right_cmd 0 0 0 ⟨#[]⟩ ⟨#[]⟩ ⟨#[]⟩ ⟨#[]⟩ w
 rw [show rightA 0 0 0 ⟨#[]⟩ ⟨#[]⟩ ⟨#[]⟩ ⟨#[]⟩=true from by kernel_rfl] at this
 exact this
theorem place_ok (f:Nat) (w:World) (hf:f<7):Calls Tryz.prog 132 #[.int .i64 f] w fun e w'=>e=.returned (.bool true)∧Below w.heap.size w w':=by
 have h1:(f:Int)<7:=by omega
 go_enter Tryz.func132,Tryz.ntmps132
 go_wp2_with fail
 go_ret
 exact⟨rfl,Below.refl _ _⟩
theorem named1 (w:World):Calls Tryz.prog 131 #[.int .i64 1] w fun e w'=>e=.returned (.tuple #[.agg ([.bool true,.bool true,.bool true,.bool true,.bool false,.bool false,.bool false]:List Value).toArray,.bool true])∧Below w.heap.size w w':=by
 go_enter Tryz.func131,Tryz.ntmps131
 go_upto_region 1 with (fail)
 go_name_world W hW
 have hW:allocs w [.cells ([.bool false,.bool false,.bool false,.bool false,.bool false,.bool false,.bool false]:List Value).toArray 233]=W:=hW
 have HZ:=qh (show Holds W (w.heap.size) 233 ([.bool false,.bool false,.bool false,.bool false,.bool false,.bool false,.bool false]) from holds_allocs _ hW 0 rfl)
 have hbW:=below_allocs _ hW
 have hsW:=size_allocs _ hW
 simp only [List.length_cons,List.length_nil] at hsW
 clear hW
 have HB:=qh (Base.start w)
 have HB:=qh (HB.out.bel hbW)
 clear hbW hsW
 generalize hB0:w.heap.size=B at HZ HB ⊢
 go_wp2_with (first
  | (refine wpList_store_whole rfl 233 _ _ B [.bool false,.bool false,.bool false,.bool false,.bool false,.bool false,.bool false] [.bool true,.bool true,.bool true,.bool true,.bool false,.bool false,.bool false] rfl rfl rfl rfl HZ.out (by kernel_rfl) rfl (by simp [Value.oneCell']) ?_;intro w5 hh5 ht5))
 have HB:=qh (HB.out.touch ht5 (Nat.le_refl _))
 have HR:=qh hh5.range0
 clear hh5 ht5
 refine bodyPost_ret (v:=.tuple #[.agg ([.bool true,.bool true,.bool true,.bool true,.bool false,.bool false,.bool false]:List Value).toArray,.bool true]) (results_cell_tmp Tryz.results131 _ _ B _ _ _ rfl rfl HR.out Tryz.underlying233 rfl (by kernel_rfl)) rfl ?_
 exact⟨rfl,hB0▸HB.out.below⟩
end
section
open Go.RowKit
section
variable {P:Program} {ops:Array Oper} {Q:Exit→Act→World→Prop}
theorem wpList_bin_guarded {rest:List Oper} {o:Oper} {a:Act} {w:World} (hw:Region.wanted o (yielded ops a.tmps)=true) (op:BinOp) (ty rty:TypeId) (x y:Operand) (ho:o.op=.binOp op ty x y rty) (xs ys:Array Value)
  (hx:a.eval x=.agg xs) (hy:a.eval y=.agg ys) (hm:P.eqGuardType P.depth ty=false) (r:Value) (hr:∀ w,(binOp op ty (.agg xs) (.agg ys)).run P w=.ok r w) (h:wpList P ops Q rest (a.put o.dst r) w):wpList P ops Q (o :: rest) a w:=
 wpList_step fun K hK=>by
  rw [if_pos hw]
  unfold Oper.wp execOp
  simp only [ho,hx,hy,Sem.run_bind,run_eqGuard_agg (hm:=hm),Result.andThen_ok,hr]
  exact hK _ _ h
theorem wpList_build_guarded {rest:List Oper} {o:Oper} {a:Act} {w:World} (hw:Region.wanted o (yielded ops a.tmps)=true) (t:TypeId) (i:Nat) (q:Tmp) (ho:o.op=.build t #[(i,.tmp q)]) (u:Value) (hu:a.eval (.tmp q)=u)
  (r:Value) (hr:∀ w,(Instr.build t #[(i,u)]).run P w=.ok r w) (h:wpList P ops Q rest (a.put o.dst r) w):wpList P ops Q (o :: rest) a w:=
 wpList_step fun K hK=>by
  rw [if_pos hw]
  unfold Oper.wp execOp
  simp only [ho,List.map_toArray,List.map_cons,List.map_nil,hu]
  rw [Sem.run_bind,hr]
  exact hK _ _ h
end
theorem wpQuiet_load_guarded {P:Program} {ops:Array Oper} {C:World→Prop} {Q:Act→Prop} {rest:List Oper} {o:Oper} {a:Act} (hg:Region.wanted o (yielded ops a.tmps)=true) (ty:TypeId) (x:Operand) (ho:o.op=.load ty x)
  (b f:Nat) (hx:a.eval x=.pointer (some ⟨b,f,none⟩)) (cs:List Value) (d:TypeDesc) (hc:∀ w,C w→w.rangeAt b f cs) (hu:P.underlying ty=some d) (hd:d.isRow=true) (hi:(P.info? ty).map (·.size)=some cs.length)
  (h:wpQuiet P ops C Q rest (a.put o.dst (.agg cs.toArray))):wpQuiet P ops C Q (o :: rest) a:=by
 unfold wpQuiet
 rw [if_pos hg]
 refine⟨.agg cs.toArray,fun w hw=>?_,h⟩
 unfold Oper.quietAt execOp
 simp only [ho,hx,Instr.loadAt,Instr.sureAddr,Sem.run_bind,Sem.run_pure,Result.andThen_ok,run_loadVar_mid w b f ty cs d (hc w hw) hu hd hi]
 exact⟨rfl,rfl⟩
end
section
open Go.RowKit
theorem buildCell_zero (w:World):(Instr.build 45 #[(1,.agg #[.int .i64 0,.int .i64 0])]).run Tryz.prog w=.ok (.agg zCell.toArray) w:=by
 unfold zCell
 go_simp
theorem rightCell_zero (w:World):Calls Tryz.prog 136 #[.agg zCell.toArray] w fun e w'=>e=.returned (.bool true)∧Below w.heap.size w w':=by
 have KB:=qh rightBallot_zero
 have KL:=qh below_zero
 have KD:=qh depsRight_zero
 have KC:=qh rightCmd_zero
 have HNQ:=qh neqCell_zero
 have HBL:=qh buildCell_zero
 go_enter Tryz.func136,Tryz.ntmps136
 go_upto_region 1 with (fail)
 go_name_world W hW
 have hW:allocs w [.cells (zCell:List Value).toArray 45]=W:=hW
 have HX:=qh (show Holds W (w.heap.size) 45 (zCell) from holds_allocs _ hW 0 rfl)
 have hbW:=below_allocs _ hW
 have hsW:=size_allocs _ hW
 simp only [List.length_cons,List.length_nil] at hsW
 clear hW
 have HB:=qh (Base.start w)
 have HB:=qh (HB.out.bel hbW)
 clear hbW hsW
 generalize hB0:w.heap.size=B at HX HB ⊢
 have x0:=HX.out.cell 0
 have x1:=HX.out.cell 1
 have x2:=HX.out.cell 2
 simp only [zCell,yA,yB] at x0 x1 x2
 go_wp2_with fail
 refine (KB.out _).mono ?_
 rintro e w1 ⟨rfl,hb⟩
 have HX:=qh (HX.out.bel hb)
 have HB:=qh (HB.out.bel hb)
 clear hb x0 x1 x2
 have x3:=HX.out.cell 3
 have x4:=HX.out.cell 4
 simp only [zCell,yA,yB] at x3 x4
 go_wp2_with fail
 refine (KB.out _).mono ?_
 rintro e w2 ⟨rfl,hb⟩
 have HX:=qh (HX.out.bel hb)
 have HB:=qh (HB.out.bel hb)
 clear hb x3 x4
 have x1:=HX.out.cell 1
 have x2:=HX.out.cell 2
 have x3:=HX.out.cell 3
 have x4:=HX.out.cell 4
 simp only [zCell,yA,yB] at x1 x2 x3 x4
 go_wp2_with fail
 refine (KL.out _).mono ?_
 rintro e w3 ⟨rfl,hb⟩
 have HX:=qh (HX.out.bel hb)
 have HB:=qh (HB.out.bel hb)
 clear hb x1 x2 x3 x4
 have x0:=HX.out.cell 0
 have x1:=HX.out.cell 1
 have x2:=HX.out.cell 2
 have x5:=HX.out.cell 5
 have x6:=HX.out.cell 6
 have x7:=HX.out.cell 7
 have x8:=HX.out.cell 8
 have x9:=HX.out.cell 9
 have x10:=HX.out.cell 10
 have x11:=HX.out.cell 11
 have x20:=HX.out.cell 20
 simp only [zCell,yA,yB] at x0 x1 x2 x5 x6 x7 x8 x9 x10 x11 x20
 have HRG:=qh HX.out.range0
 go_wp2_with (first
  | (with_reducible show wpList _ _ _ (_ :: _) _ _;refine wpList_load_guarded (by kernel_rfl) 45 _ rfl B 0 rfl zCell _ HRG.out Tryz.underlying45 rfl (by kernel_rfl) ?_)
  | (with_reducible show wpList _ _ _ (_ :: _) _ _;refine wpList_build_guarded (by kernel_rfl) 45 1 _ rfl _ rfl (.agg zCell.toArray) HBL.out ?_)
  | (with_reducible show wpList _ _ _ (_ :: _) _ _;refine wpList_bin_guarded (by kernel_rfl) .neq 45 _ _ _ rfl zCell.toArray zCell.toArray rfl rfl (by kernel_rfl) (.bool false) HNQ.out ?_))
 refine (KC.out _).mono ?_
 rintro e w4 ⟨rfl,hb⟩
 have HX:=qh (HX.out.bel hb)
 have HB:=qh (HB.out.bel hb)
 clear hb x0 x1 x2 x5 x6 x7 x8 x9 x10 x11 x20 HNQ HBL HRG
 have x12:=HX.out.cell 12
 have x13:=HX.out.cell 13
 have x14:=HX.out.cell 14
 have x15:=HX.out.cell 15
 have x16:=HX.out.cell 16
 have x17:=HX.out.cell 17
 have x18:=HX.out.cell 18
 have x19:=HX.out.cell 19
 simp only [zCell,yA,yB] at x12 x13 x14 x15 x16 x17 x18 x19
 go_wp2_with fail
 refine (KD.out _).mono ?_
 rintro e w5 ⟨rfl,hb⟩
 have HB:=qh (HB.out.bel hb)
 clear hb x12 x13 x14 x15 x16 x17 x18 x19
 go_wp2_with fail
 go_ret
 exact⟨rfl,hB0▸HB.out.below⟩
end
end Go.Proofs.YtimdpiifpibgfaaGreatDoor
