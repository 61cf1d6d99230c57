/- For every input the law TopFast returns true (a part of the proof). Condition: the listed variables start as the program's text lays them. -/
import Derived.Test.YtimdpiifpibgfaaGreatDoorQf29
import Derived.Test.YtimdpiifpibgfaaGreatDoorQf30
set_option linter.unusedVariables false
set_option linter.unusedSimpArgs false
set_option maxRecDepth 20000
set_option maxHeartbeats 16000000
namespace Go.Proofs.YtimdpiifpibgfaaGreatDoor
section
open Go.RowKit Go.Maps
def PreDone (gc n me gl gm nl gi gx ni f q:Nat) (c:Cm) (w w':World):Prop:=
 ∃ (gr cr m:Nat) (rv out:Value) (rest:List Value) (ob:Option Nat),CoreAt w' gc n me gl gm (nl+1) gi gx (ni+1) (lputE [] ⟨q,1,cellL 1 c true⟩) (putE [] ⟨q,1,c,0⟩) (.slice none 0 0) (.slice (some ⟨gr,0,none⟩) 1 cr) out ∧
  Holds w' gr 127 (rv :: rest)∧Own8 w' w.heap.size rv m∧(1≤m∧m≤480)∧w.heap.size≤gr∧OwnS w' out ob 47 51 1 (letL 2 me f q Cm.zero)∧(∀ g,ob=some g→w.heap.size≤g)∧Mv (fun k=>k=gc∨k=gm∨k=gx) w w'
theorem pre_new (gc n me gl gm nl gi gx ni f t q:Nat) (c:Cm) (w:World) (h:CoreAt w gc n me gl gm nl gi gx ni [] [] (.slice none 0 0) (.slice none 0 0) (.slice none 0 0)) (hnl:nl≤1000) (hni:ni≤1000) (hq:q<7) (hc:CmOk c) :
  Calls Tryz.prog 212 #[.pointer (some ⟨gc,0,none⟩),.agg (letL 1 f t q c).toArray,.agg zero21.toArray,.bool false] w fun e w'=>e=.returned (.tuple #[])∧PreDone gc n me gl gm nl gi gx ni f q c w w':=by
 have KA:=qh (fun W (h:IxAt W gi gx ni (fun _=>0) [])=>attr_none gi gx ni q c W h hc hq)
 have KJ:=qh join_zero2
 have KD:=qh depsRight_zero
 have heq:=eqlAttr_zero
 have KS:=qh (fun W (h:CoreAt W gc n me gl gm nl gi gx ni [] [] (.slice none 0 0) (.slice none 0 0) (.slice none 0 0))=>set_cell gc n me gl gm nl gi gx ni [] [] (.slice none 0 0) (.slice none 0 0) q 1 c true W h hnl hni hq hc (.inl ⟨rfl,rfl⟩) (.inl rfl))
 have KE:=qh (fun recs W (h:Holds W gc 163 (coreL n me gl gi (.slice none 0 0) recs (.slice none 0 0)))=>send_any gc n me gl gi 0 (.slice none 0 0) recs (.slice none 0 0) none [] 2 0 0 q Cm.zero f W h (OwnS.nil _ _ _) (fun g hg=>(by cases hg)) (by omega))
 have HCA:=qh h;have HC:=qh h.hc;have HIX:=qh h.ix
 have hlt:=h.lt
 have hne:=h.ne
 have HM:=qh (Mv.refl (fun k=>k=gc∨k=gm∨k=gx) w)
 clear h
 go_enter Tryz.func212,Tryz.ntmps212
 go_upto_region 1 with (fail)
 go_name_world W hW
 have hW:allocs w [.cells (letL 1 f t q c:List Value).toArray 47,.cells (zero21:List Value).toArray 45]=W:=hW
 have HX:=qh (show Holds W (w.heap.size) 47 (letL 1 f t q c) from holds_allocs _ hW 0 rfl)
 have HY:=qh (show Holds W (w.heap.size+1) 45 (zero21) from holds_allocs _ hW 1 rfl)
 have hbW:=below_allocs _ hW
 have hsW:=size_allocs _ hW
 simp only [List.length_cons,List.length_nil] at hsW
 clear hW
 have HCA:=qh (HCA.out.bel hbW)
 have HC:=qh (HC.out.bel hbW)
 have HIX:=qh (HIX.out.bel hbW)
 have HM:=qh (HM.out.bel hbW)
 clear hbW
 have hWs:w.heap.size+1<W.heap.size:=by omega
 clear hsW
 generalize hy0:w.heap.size+1=gY at HY ⊢
 generalize hx0:w.heap.size=gX at HX ⊢
 have x3:=HX.out.cell 3
 have x4:=HX.out.cell 4
 have x5:=HX.out.cell 5
 have x6:=HX.out.cell 6
 simp only [letL,yA,yB] at x3 x4 x5 x6
 have y12:=HY.out.cell 12
 have y13:=HY.out.cell 13
 have y14:=HY.out.cell 14
 have y15:=HY.out.cell 15
 have y16:=HY.out.cell 16
 have y17:=HY.out.cell 17
 have y18:=HY.out.cell 18
 have y19:=HY.out.cell 19
 simp only [zero21,yA,yB] at y12 y13 y14 y15 y16 y17 y18 y19
 go_upto_region 5 with (first
  | (refine wpList_store_whole rfl 47 (.tmp 8) (.tmp 17) W.heap.size letZ (letL 2 0 0 q Cm.zero) rfl rfl rfl rfl (holds_alloc W _ letZ) (by kernel_rfl) rfl (letL_one' _ _ _ _ _) ?_;intro w1 hh1 ht1))
 have hal1:Below W.heap.size W w1:=Below.trans ((Below.refl _ _).alloc (Nat.le_refl _) _) (ht1.below (Nat.le_refl _) (by simp))
 have HO:=qh hh1
 have HCA:=qh (HCA.out.bel hal1)
 have HC:=qh (HC.out.bel hal1)
 have HIX:=qh (HIX.out.bel hal1)
 have HM:=qh (HM.out.bel hal1)
 have HX:=qh (HX.out.bel hal1)
 have HY:=qh (HY.out.bel hal1)
 clear hal1 hh1 ht1 x3 x4 x5 x6 y12 y13 y14 y15 y16 y17 y18 y19
 generalize W.heap.size=gO at HO hWs ⊢
 have HCA:=qh (HCA.out.bel (t_drew _ w1))
 have HC:=qh (HC.out.bel (t_drew _ w1))
 have HIX:=qh (HIX.out.bel (t_drew _ w1))
 have HM:=qh (HM.out.bel (t_drew _ w1))
 have HX:=qh (HX.out.bel (t_drew _ w1))
 have HO:=qh (HO.out.bel (t_drew _ w1))
 refine wp_region_noPanic ?_
 refine wp_region_late (S:=fun W'=>Below w1.drew.heap.size w1.drew W') (X0:=[]) (by as_aux_lemma=>kernel_rfl) ?_
 generalize w1.drew=wc at HCA HC HIX HM HX HO ⊢
 have hSn:Below wc.heap.size wc wc:=Below.refl _ _
 change wpAnyL _ _ _ _ _ _ 15 #[false,false,false,false,false,false,false,false,false,false,false,false,false,false,false] _ _
 refine mvA 0 (some 27) (fun _=>hSn) ?_
 simp only [Act.put,zA,zB,zC]
 refine tkA 1 [] (some 28) (?vg2) rfl (Or.inl ⟨by rfl,?hg2⟩) hSn ?rg2
 case hg2=>
  intro w hSw
  have b14:=(HX.out.bel hSw).cell 14
  have b15:=(HX.out.bel hSw).cell 15
  have b16:=(HX.out.bel hSw).cell 16
  have b17:=(HX.out.bel hSw).cell 17
  have b18:=(HX.out.bel hSw).cell 18
  have b19:=(HX.out.bel hSw).cell 19
  have b20:=(HX.out.bel hSw).cell 20
  have b21:=(HX.out.bel hSw).cell 21
  simp only [letL,yA,yB] at b14 b15 b16 b17 b18 b19 b20 b21
  go_simp
  try with_reducible rfl
 simp only [Act.put,zA,zB,zC]
 refine mvA 2 (some 29) (fun _=>hSn) ?_
 simp only [Act.put,zA,zB,zC]
 refine mvA 3 (some 30) (fun _=>hSn) ?_
 simp only [Act.put,zA,zB,zC]
 refine mvA 4 (some 31) (fun _=>hSn) ?_
 simp only [Act.put,zA,zB,zC]
 refine tkA 5 [] (some 32) (?vg6) rfl (Or.inl ⟨by rfl,?hg6⟩) hSn ?rg6
 case hg6=>
  intro w hSw
  have b3:=(HC.out.bel hSw).cell 3
  simp only [coreL,yA,yB] at b3
  go_simp
  try with_reducible rfl
 simp only [Act.put,zA,zB,zC]
 refine mvA 6 (some 33) (fun _=>hSn) ?_
 simp only [Act.put,zA,zB,zC]
 refine tkA 7 [] (some 34) (?vg8) rfl (Or.inl ⟨by rfl,?hg8⟩) hSn ?rg8
 case hg8=>
  intro w hSw
  have b3:=(HX.out.bel hSw).cell 3
  have b4:=(HX.out.bel hSw).cell 4
  simp only [letL,yA,yB] at b3 b4
  go_simp
  try with_reducible rfl
 simp only [Act.put,zA,zB,zC]
 refine mvA 8 (some 35) (fun _=>hSn) ?_
 simp only [Act.put,zA,zB,zC]
 refine tkA 9 [] (some 36) (?vg10) rfl (Or.inl ⟨by rfl,?hg10⟩) hSn ?rg10
 case hg10=>
  intro w hSw
  have b7:=(HX.out.bel hSw).cell 7
  have b8:=(HX.out.bel hSw).cell 8
  have b9:=(HX.out.bel hSw).cell 9
  have b10:=(HX.out.bel hSw).cell 10
  have b11:=(HX.out.bel hSw).cell 11
  have b12:=(HX.out.bel hSw).cell 12
  have b13:=(HX.out.bel hSw).cell 13
  simp only [letL,yA,yB] at b7 b8 b9 b10 b11 b12 b13
  go_simp
  try with_reducible rfl
 simp only [Act.put,zA,zB,zC]
 refine rdA [10,13] (AllReadyL.cons rfl (fun K hK=>?_) (AllReadyL.cons rfl (fun K hK=>?_) (AllReadyL.nil)))
 ·skip
  go_simp
  refine (KA.out _ (HIX.out.bel hSn)).mono ?_
  rintro e wc ⟨rfl,hb⟩
  have hSn:=below_next hSn hb
  try (have HN:=qh (HN.out.bel hb))
  have hmark:True:=trivial
  clear hb
  refine hK.out _ _ (fun _=>hSn) ?_
  clear hK
  try simp only [Act.put,zA,zB,zC]
  refine rdA [11,13] (AllReadyL.cons rfl (fun K hK=>?_) (AllReadyL.cons rfl (fun K hK=>?_) (AllReadyL.nil)))
  ·skip
   go_simp
   have hgr:gO<wc.heap.size:=by have h1:=HO.out.lt;have h2:=hSn.size;omega
   have hal:=fun o=>Below.alloc hSn hSn.size o
   refine hK.out _ _ (fun _=>hal _) ?_
   have hSn:=hal (.cells #[.int .i64 0,.int .i64 0,.int .i64 0,.int .i64 0,.int .i64 0,.int .i64 0,.int .i64 0,.int .i64 0,.int .i64 0,.int .i64 0,.int .i64 0,.int .i64 0,.int .i64 0,.int .i64 0,.int .i64 0,.int .i64 0] 43)
   have hbx:=(Below.refl wc.heap.size wc).alloc (Nat.le_refl _) (.cells #[.int .i64 0,.int .i64 0,.int .i64 0,.int .i64 0,.int .i64 0,.int .i64 0,.int .i64 0,.int .i64 0,.int .i64 0,.int .i64 0,.int .i64 0,.int .i64 0,.int .i64 0,.int .i64 0,.int .i64 0,.int .i64 0] 43)
   have HR2:=qh (show Holds (wc.alloc (.cells #[.int .i64 0,.int .i64 0,.int .i64 0,.int .i64 0,.int .i64 0,.int .i64 0,.int .i64 0,.int .i64 0,.int .i64 0,.int .i64 0,.int .i64 0,.int .i64 0,.int .i64 0,.int .i64 0,.int .i64 0,.int .i64 0] 43)) wc.heap.size 43 [.int .i64 0,.int .i64 0,.int .i64 0,.int .i64 0,.int .i64 0,.int .i64 0,.int .i64 0,.int .i64 0,.int .i64 0,.int .i64 0,.int .i64 0,.int .i64 0,.int .i64 0,.int .i64 0,.int .i64 0,.int .i64 0] from holds_alloc wc _ _)
   try (have HN:=qh (HN.out.bel hbx))
   clear hal hbx
   change wpAnyL _ _ _ _ _ _ _ _ _ (wc.alloc (.cells #[.int .i64 0,.int .i64 0,.int .i64 0,.int .i64 0,.int .i64 0,.int .i64 0,.int .i64 0,.int .i64 0,.int .i64 0,.int .i64 0,.int .i64 0,.int .i64 0,.int .i64 0,.int .i64 0,.int .i64 0,.int .i64 0] 43))
   generalize wc.heap.size=gr at HR2 hgr ⊢
   first|generalize wc.alloc (.cells #[.int .i64 0,.int .i64 0,.int .i64 0,.int .i64 0,.int .i64 0,.int .i64 0,.int .i64 0,.int .i64 0,.int .i64 0,.int .i64 0,.int .i64 0,.int .i64 0,.int .i64 0,.int .i64 0,.int .i64 0,.int .i64 0] 43)=wc at hSn HR2 HN ⊢ | generalize wc.alloc (.cells #[.int .i64 0,.int .i64 0,.int .i64 0,.int .i64 0,.int .i64 0,.int .i64 0,.int .i64 0,.int .i64 0,.int .i64 0,.int .i64 0,.int .i64 0,.int .i64 0,.int .i64 0,.int .i64 0,.int .i64 0,.int .i64 0] 43)=wc at hSn HR2 ⊢
   clear hK
   try simp only [Act.put,zA,zB,zC]
   refine rdA [12,13] (AllReadyL.cons rfl (fun K hK=>?_) (AllReadyL.cons rfl (fun K hK=>?_) (AllReadyL.nil)))
   ·skip
    go_simp
    refine (KJ.out _ _ HR2.out).mono ?_
    rintro e wc ⟨rfl,hb⟩
    have hSn:=below_next hSn hb
    try (have HN:=qh (HN.out.bel hb))
    clear hb
    refine hK.out _ _ (fun _=>hSn) ?_
    clear hK
    try simp only [Act.put,zA,zB,zC]
    refine rd1 13 rfl (fun K hK=>?_)
    go_simp
    have hgs:=hSn.size
    have hgn:gO<wc.heap.size:=by have h1:=HO.out.lt;have h2:=hSn.size;omega
    have hal:=fun o=>Below.alloc hSn hSn.size o
    refine hK.out _ _ (fun _=>hal _) ?_
    have hSn:=hal (.cells #[.int .i64 0,.int .i64 0,.int .i64 0,.int .i64 0,.int .i64 0,.int .i64 0,.int .i64 0,.int .i64 0] 43)
    have hbx:=(Below.refl wc.heap.size wc).alloc (Nat.le_refl _) (.cells #[.int .i64 0,.int .i64 0,.int .i64 0,.int .i64 0,.int .i64 0,.int .i64 0,.int .i64 0,.int .i64 0] 43)
    have HN:=qh (show Holds (wc.alloc (.cells #[.int .i64 0,.int .i64 0,.int .i64 0,.int .i64 0,.int .i64 0,.int .i64 0,.int .i64 0,.int .i64 0] 43)) wc.heap.size 43 [.int .i64 0,.int .i64 0,.int .i64 0,.int .i64 0,.int .i64 0,.int .i64 0,.int .i64 0,.int .i64 0] from holds_alloc wc _ _)
    try (have HR2:=qh (HR2.out.bel hbx))
    clear hal hbx
    change wpAnyL _ _ _ _ _ _ _ _ _ (wc.alloc (.cells #[.int .i64 0,.int .i64 0,.int .i64 0,.int .i64 0,.int .i64 0,.int .i64 0,.int .i64 0,.int .i64 0] 43))
    first|(have hmk:=hmark;generalize wc.heap.size=gn at HN hgn hgs ⊢)|skip
    first|generalize wc.alloc (.cells #[.int .i64 0,.int .i64 0,.int .i64 0,.int .i64 0,.int .i64 0,.int .i64 0,.int .i64 0,.int .i64 0] 43)=wc at hSn HN HR2 ⊢ | generalize wc.alloc (.cells #[.int .i64 0,.int .i64 0,.int .i64 0,.int .i64 0,.int .i64 0,.int .i64 0,.int .i64 0,.int .i64 0] 43)=wc at hSn HN ⊢
    clear hK
    try simp only [Act.put,zA,zB,zC]
    refine rd1 14 rfl (fun K hK=>?_)
    refine step_store_box rfl 43 (.tmp 9) (.tmp 39) _ [.int .i64 0,.int .i64 0,.int .i64 0,.int .i64 0,.int .i64 0,.int .i64 0,.int .i64 0,.int .i64 0] [.int .i64 0,.int .i64 0,.int .i64 0,.int .i64 0,.int .i64 0,.int .i64 0,.int .i64 0,.int .i64 0] rfl rfl rfl rfl HN.out (by kernel_rfl) rfl (by simp [Value.oneCell']) ?_
    intro wb hh6 ht6
    have HN:=qh hh6
    have hSn:=hSn.trans (ht6.below hgs hSn.size)
    clear hh6 ht6
    refine hK.out _ _ (fun _=>hSn) ?_
    clear hK
    try simp only [Act.put,zA,zB,zC]
    refine dnA (NoPanic.normal ?_)
    have HCA:=qh (HCA.out.bel hSn);have HM:=qh (HM.out.bel hSn);have HX:=qh (HX.out.bel hSn);have HO:=qh (HO.out.bel hSn)
    clear hSn HC HIX
    have x5:=HX.out.cell 5
    have x6:=HX.out.cell 6
    have x14:=HX.out.cell 14
    have x15:=HX.out.cell 15
    have x16:=HX.out.cell 16
    have x17:=HX.out.cell 17
    have x18:=HX.out.cell 18
    have x19:=HX.out.cell 19
    have x20:=HX.out.cell 20
    have x21:=HX.out.cell 21
    simp only [letL,yA,yB] at x5 x6 x14 x15 x16 x17 x18 x19 x20 x21
    have z0:=HN.out.cell 0
    have z1:=HN.out.cell 1
    have z2:=HN.out.cell 2
    have z3:=HN.out.cell 3
    have z4:=HN.out.cell 4
    have z5:=HN.out.cell 5
    have z6:=HN.out.cell 6
    have z7:=HN.out.cell 7
    simp only [yA,yB] at z0 z1 z2 z3 z4 z5 z6 z7
    go_wp2_with fail
    refine (KD.out _).mono ?_
    rintro e w3 ⟨rfl,hb⟩
    have HCA:=qh (HCA.out.bel hb);have HM:=qh (HM.out.bel hb);have HX:=qh (HX.out.bel hb);have HO:=qh (HO.out.bel hb);have HN:=qh (HN.out.bel hb)
    clear hb
    clear x5 x6 x14 x15 x16 x17 x18 x19 x20 x21 z0 z1 z2 z3 z4 z5 z6 z7
    have x3:=HX.out.cell 3
    have x4:=HX.out.cell 4
    have x5:=HX.out.cell 5
    have x6:=HX.out.cell 6
    have x7:=HX.out.cell 7
    have x8:=HX.out.cell 8
    have x9:=HX.out.cell 9
    have x10:=HX.out.cell 10
    have x11:=HX.out.cell 11
    have x12:=HX.out.cell 12
    have x13:=HX.out.cell 13
    simp only [letL,yA,yB] at x3 x4 x5 x6 x7 x8 x9 x10 x11 x12 x13
    have z0:=HN.out.cell 0
    have z1:=HN.out.cell 1
    have z2:=HN.out.cell 2
    have z3:=HN.out.cell 3
    have z4:=HN.out.cell 4
    have z5:=HN.out.cell 5
    have z6:=HN.out.cell 6
    have z7:=HN.out.cell 7
    simp only [yA,yB] at z0 z1 z2 z3 z4 z5 z6 z7
    go_wp2_with fail
    refine (KS.out _ HCA.out).mono ?_
    rintro e w6 ⟨rfl,g2,cr,m,rv,rest,hca,hr,ho,hm,hg2,hmv⟩
    have hs:=HM.out.size
    have hol:=HO.out.lt
    have hnl3:=HN.out.lt
    have HCA:=qh hca;have HR:=qh hr;have HMR:=qh hm
    have HOW:=qh (Own8.mono (B':=gO+1) ho (by omega))
    have hg2w:w.heap.size≤g2∧gO<g2:=by omega
    have HX:=qh (HX.out.mv hmv (by omega));have HO:=qh (HO.out.mv hmv (by omega));have HN:=qh (HN.out.mv hmv (by omega))
    have HM:=qh (HM.out.mv hmv (fun k hk=>.inl hk))
    clear hca hr ho hm hmv x3 x4 x5 x6 x7 x8 x9 x10 x11 x12 x13 z0 z1 z2 z3 z4 z5 z6 z7
    have z0:=HN.out.cell 0
    have z1:=HN.out.cell 1
    have z2:=HN.out.cell 2
    have z3:=HN.out.cell 3
    have z4:=HN.out.cell 4
    have z5:=HN.out.cell 5
    have z6:=HN.out.cell 6
    have z7:=HN.out.cell 7
    simp only [yA,yB] at z0 z1 z2 z3 z4 z5 z6 z7
    go_upto_region 9 with (first|(refine wpList_store_spl rfl 43 (.tmp 70) (.tmp 69) rfl rfl gO 14 _ 47 HO.out rfl [.int .i64 0,.int .i64 0,.int .i64 0,.int .i64 0,.int .i64 0,.int .i64 0,.int .i64 0,.int .i64 0] rfl (by kernel_rfl) (by simp [letL]) (by simp [Value.oneCell']) ?_;intro v3 hh ht))
    have hmo:Mv (fun k=>k=gO) _ v3:=Mv.of_touch ht rfl
    have HO:=qh (show Holds v3 gO 47 (letL 2 0 0 q Cm.zero) from hh)
    have HCA:=qh (HCA.out.mv hmo (by omega) (by omega) (by omega) (by omega) (by omega))
    have HX:=qh (HX.out.mv hmo (by omega));have HR:=qh (HR.out.mv hmo (by omega));have HOW:=qh (HOW.out.mv hmo (fun k hk=>by omega))
    have HM:=qh (HM.out.mv hmo (fun k hk=>.inr (by omega)))
    clear hh ht hmo z0 z1 z2 z3 z4 z5 z6 z7
    have HRG:=qh HO.out.range0
    have x1:=HX.out.cell 1
    simp only [letL,yA,yB] at x1
    go_wp2_with (first|(refine wpList_load_mid rfl 47 _ rfl gO 0 rfl (letL 2 0 0 q Cm.zero) _ HRG.out Tryz.underlying47 rfl (by kernel_rfl) ?_))
    refine (KE.out _ _ HCA.out.hc).mono ?_
    rintro e w8 ⟨rfl,p8,c8,ob,hc8,ho8,hob,hm8⟩
    have hm9:Mv (fun k=>k=gc) _ w8:=hm8.more (fun k hk=>hk.elim id (fun h=>(by cases h)))
    have hs8:=HM.out.size
    have HP:=qh (show PreDone gc n me gl gm nl gi gx ni f q c w w8 from ⟨g2,cr,m,rv,_,rest,ob,HCA.out.recore hm9 hc8 (by omega) (by omega) (by omega) (by omega),HR.out.mv hm9 (by omega),Own8.mono (HOW.out.mv hm9 (fun k hk=>by omega)) (by omega),HMR.out,hg2w.1,ho8,fun g hg=>by rcases hob with h|⟨g',h,hl⟩<;>rw [h] at hg<;>cases hg;omega,HM.out.mv hm9 (fun k hk=>.inl (.inl hk))⟩)
    clear hc8 ho8 hob hm8 hm9 x1
    go_wp2_with fail
    exact bodyPost_end (v:=.tuple #[]) (by simp [results,Tryz.results212,go_sem]) rfl ⟨rfl,HP.out⟩
   ·skip
    go_simp
    have hgs:=hSn.size
    have hgn:gO<wc.heap.size:=by have h1:=HO.out.lt;have h2:=hSn.size;omega
    have hal:=fun o=>Below.alloc hSn hSn.size o
    refine hK.out _ _ (fun _=>hal _) ?_
    have hSn:=hal (.cells #[.int .i64 0,.int .i64 0,.int .i64 0,.int .i64 0,.int .i64 0,.int .i64 0,.int .i64 0,.int .i64 0] 43)
    have hbx:=(Below.refl wc.heap.size wc).alloc (Nat.le_refl _) (.cells #[.int .i64 0,.int .i64 0,.int .i64 0,.int .i64 0,.int .i64 0,.int .i64 0,.int .i64 0,.int .i64 0] 43)
    have HN:=qh (show Holds (wc.alloc (.cells #[.int .i64 0,.int .i64 0,.int .i64 0,.int .i64 0,.int .i64 0,.int .i64 0,.int .i64 0,.int .i64 0] 43)) wc.heap.size 43 [.int .i64 0,.int .i64 0,.int .i64 0,.int .i64 0,.int .i64 0,.int .i64 0,.int .i64 0,.int .i64 0] from holds_alloc wc _ _)
    try (have HR2:=qh (HR2.out.bel hbx))
    clear hal hbx
    change wpAnyL _ _ _ _ _ _ _ _ _ (wc.alloc (.cells #[.int .i64 0,.int .i64 0,.int .i64 0,.int .i64 0,.int .i64 0,.int .i64 0,.int .i64 0,.int .i64 0] 43))
    first|(have hmk:=hmark;generalize wc.heap.size=gn at HN hgn hgs ⊢)|skip
    first|generalize wc.alloc (.cells #[.int .i64 0,.int .i64 0,.int .i64 0,.int .i64 0,.int .i64 0,.int .i64 0,.int .i64 0,.int .i64 0] 43)=wc at hSn HN HR2 ⊢ | generalize wc.alloc (.cells #[.int .i64 0,.int .i64 0,.int .i64 0,.int .i64 0,.int .i64 0,.int .i64 0,.int .i64 0,.int .i64 0] 43)=wc at hSn HN ⊢
    clear hK
    try simp only [Act.put,zA,zB,zC]
    refine rd1 12 rfl (fun K hK=>?_)
    go_simp
    refine (KJ.out _ _ HR2.out).mono ?_
    rintro e wc ⟨rfl,hb⟩
    have hSn:=below_next hSn hb
    try (have HN:=qh (HN.out.bel hb))
    clear hb
    refine hK.out _ _ (fun _=>hSn) ?_
    clear hK
    try simp only [Act.put,zA,zB,zC]
    refine rd1 14 rfl (fun K hK=>?_)
    refine step_store_box rfl 43 (.tmp 9) (.tmp 39) _ [.int .i64 0,.int .i64 0,.int .i64 0,.int .i64 0,.int .i64 0,.int .i64 0,.int .i64 0,.int .i64 0] [.int .i64 0,.int .i64 0,.int .i64 0,.int .i64 0,.int .i64 0,.int .i64 0,.int .i64 0,.int .i64 0] rfl rfl rfl rfl HN.out (by kernel_rfl) rfl (by simp [Value.oneCell']) ?_
    intro wb hh6 ht6
    have HN:=qh hh6
    have hSn:=hSn.trans (ht6.below hgs hSn.size)
    clear hh6 ht6
    refine hK.out _ _ (fun _=>hSn) ?_
    clear hK
    try simp only [Act.put,zA,zB,zC]
    refine dnA (NoPanic.normal ?_)
    have HCA:=qh (HCA.out.bel hSn);have HM:=qh (HM.out.bel hSn);have HX:=qh (HX.out.bel hSn);have HO:=qh (HO.out.bel hSn)
    clear hSn HC HIX
    have x5:=HX.out.cell 5
    have x6:=HX.out.cell 6
    have x14:=HX.out.cell 14
    have x15:=HX.out.cell 15
    have x16:=HX.out.cell 16
    have x17:=HX.out.cell 17
    have x18:=HX.out.cell 18
    have x19:=HX.out.cell 19
    have x20:=HX.out.cell 20
    have x21:=HX.out.cell 21
    simp only [letL,yA,yB] at x5 x6 x14 x15 x16 x17 x18 x19 x20 x21
    have z0:=HN.out.cell 0
    have z1:=HN.out.cell 1
    have z2:=HN.out.cell 2
    have z3:=HN.out.cell 3
    have z4:=HN.out.cell 4
    have z5:=HN.out.cell 5
    have z6:=HN.out.cell 6
    have z7:=HN.out.cell 7
    simp only [yA,yB] at z0 z1 z2 z3 z4 z5 z6 z7
    go_wp2_with fail
    refine (KD.out _).mono ?_
    rintro e w3 ⟨rfl,hb⟩
    have HCA:=qh (HCA.out.bel hb);have HM:=qh (HM.out.bel hb);have HX:=qh (HX.out.bel hb);have HO:=qh (HO.out.bel hb);have HN:=qh (HN.out.bel hb)
    clear hb
    clear x5 x6 x14 x15 x16 x17 x18 x19 x20 x21 z0 z1 z2 z3 z4 z5 z6 z7
    have x3:=HX.out.cell 3
    have x4:=HX.out.cell 4
    have x5:=HX.out.cell 5
    have x6:=HX.out.cell 6
    have x7:=HX.out.cell 7
    have x8:=HX.out.cell 8
    have x9:=HX.out.cell 9
    have x10:=HX.out.cell 10
    have x11:=HX.out.cell 11
    have x12:=HX.out.cell 12
    have x13:=HX.out.cell 13
    simp only [letL,yA,yB] at x3 x4 x5 x6 x7 x8 x9 x10 x11 x12 x13
    have z0:=HN.out.cell 0
    have z1:=HN.out.cell 1
    have z2:=HN.out.cell 2
    have z3:=HN.out.cell 3
    have z4:=HN.out.cell 4
    have z5:=HN.out.cell 5
    have z6:=HN.out.cell 6
    have z7:=HN.out.cell 7
    simp only [yA,yB] at z0 z1 z2 z3 z4 z5 z6 z7
    go_wp2_with fail
    refine (KS.out _ HCA.out).mono ?_
    rintro e w6 ⟨rfl,g2,cr,m,rv,rest,hca,hr,ho,hm,hg2,hmv⟩
    have hs:=HM.out.size
    have hol:=HO.out.lt
    have hnl3:=HN.out.lt
    have HCA:=qh hca;have HR:=qh hr;have HMR:=qh hm
    have HOW:=qh (Own8.mono (B':=gO+1) ho (by omega))
    have hg2w:w.heap.size≤g2∧gO<g2:=by omega
    have HX:=qh (HX.out.mv hmv (by omega));have HO:=qh (HO.out.mv hmv (by omega));have HN:=qh (HN.out.mv hmv (by omega))
    have HM:=qh (HM.out.mv hmv (fun k hk=>.inl hk))
    clear hca hr ho hm hmv x3 x4 x5 x6 x7 x8 x9 x10 x11 x12 x13 z0 z1 z2 z3 z4 z5 z6 z7
    have z0:=HN.out.cell 0
    have z1:=HN.out.cell 1
    have z2:=HN.out.cell 2
    have z3:=HN.out.cell 3
    have z4:=HN.out.cell 4
    have z5:=HN.out.cell 5
    have z6:=HN.out.cell 6
    have z7:=HN.out.cell 7
    simp only [yA,yB] at z0 z1 z2 z3 z4 z5 z6 z7
    go_upto_region 9 with (first|(refine wpList_store_spl rfl 43 (.tmp 70) (.tmp 69) rfl rfl gO 14 _ 47 HO.out rfl [.int .i64 0,.int .i64 0,.int .i64 0,.int .i64 0,.int .i64 0,.int .i64 0,.int .i64 0,.int .i64 0] rfl (by kernel_rfl) (by simp [letL]) (by simp [Value.oneCell']) ?_;intro v3 hh ht))
    have hmo:Mv (fun k=>k=gO) _ v3:=Mv.of_touch ht rfl
    have HO:=qh (show Holds v3 gO 47 (letL 2 0 0 q Cm.zero) from hh)
    have HCA:=qh (HCA.out.mv hmo (by omega) (by omega) (by omega) (by omega) (by omega))
    have HX:=qh (HX.out.mv hmo (by omega));have HR:=qh (HR.out.mv hmo (by omega));have HOW:=qh (HOW.out.mv hmo (fun k hk=>by omega))
    have HM:=qh (HM.out.mv hmo (fun k hk=>.inr (by omega)))
    clear hh ht hmo z0 z1 z2 z3 z4 z5 z6 z7
    have HRG:=qh HO.out.range0
    have x1:=HX.out.cell 1
    simp only [letL,yA,yB] at x1
    go_wp2_with (first|(refine wpList_load_mid rfl 47 _ rfl gO 0 rfl (letL 2 0 0 q Cm.zero) _ HRG.out Tryz.underlying47 rfl (by kernel_rfl) ?_))
    refine (KE.out _ _ HCA.out.hc).mono ?_
    rintro e w8 ⟨rfl,p8,c8,ob,hc8,ho8,hob,hm8⟩
    have hm9:Mv (fun k=>k=gc) _ w8:=hm8.more (fun k hk=>hk.elim id (fun h=>(by cases h)))
    have hs8:=HM.out.size
    have HP:=qh (show PreDone gc n me gl gm nl gi gx ni f q c w w8 from ⟨g2,cr,m,rv,_,rest,ob,HCA.out.recore hm9 hc8 (by omega) (by omega) (by omega) (by omega),HR.out.mv hm9 (by omega),Own8.mono (HOW.out.mv hm9 (fun k hk=>by omega)) (by omega),HMR.out,hg2w.1,ho8,fun g hg=>by rcases hob with h|⟨g',h,hl⟩<;>rw [h] at hg<;>cases hg;omega,HM.out.mv hm9 (fun k hk=>.inl (.inl hk))⟩)
    clear hc8 ho8 hob hm8 hm9 x1
    go_wp2_with fail
    exact bodyPost_end (v:=.tuple #[]) (by simp [results,Tryz.results212,go_sem]) rfl ⟨rfl,HP.out⟩
  ·skip
   go_simp
   have hgs:=hSn.size
   have hgn:gO<wc.heap.size:=by have h1:=HO.out.lt;have h2:=hSn.size;omega
   have hal:=fun o=>Below.alloc hSn hSn.size o
   refine hK.out _ _ (fun _=>hal _) ?_
   have hSn:=hal (.cells #[.int .i64 0,.int .i64 0,.int .i64 0,.int .i64 0,.int .i64 0,.int .i64 0,.int .i64 0,.int .i64 0] 43)
   have hbx:=(Below.refl wc.heap.size wc).alloc (Nat.le_refl _) (.cells #[.int .i64 0,.int .i64 0,.int .i64 0,.int .i64 0,.int .i64 0,.int .i64 0,.int .i64 0,.int .i64 0] 43)
   have HN:=qh (show Holds (wc.alloc (.cells #[.int .i64 0,.int .i64 0,.int .i64 0,.int .i64 0,.int .i64 0,.int .i64 0,.int .i64 0,.int .i64 0] 43)) wc.heap.size 43 [.int .i64 0,.int .i64 0,.int .i64 0,.int .i64 0,.int .i64 0,.int .i64 0,.int .i64 0,.int .i64 0] from holds_alloc wc _ _)
   try (have HR2:=qh (HR2.out.bel hbx))
   clear hal hbx
   change wpAnyL _ _ _ _ _ _ _ _ _ (wc.alloc (.cells #[.int .i64 0,.int .i64 0,.int .i64 0,.int .i64 0,.int .i64 0,.int .i64 0,.int .i64 0,.int .i64 0] 43))
   first|(have hmk:=hmark;generalize wc.heap.size=gn at HN hgn hgs ⊢)|skip
   first|generalize wc.alloc (.cells #[.int .i64 0,.int .i64 0,.int .i64 0,.int .i64 0,.int .i64 0,.int .i64 0,.int .i64 0,.int .i64 0] 43)=wc at hSn HN HR2 ⊢ | generalize wc.alloc (.cells #[.int .i64 0,.int .i64 0,.int .i64 0,.int .i64 0,.int .i64 0,.int .i64 0,.int .i64 0,.int .i64 0] 43)=wc at hSn HN ⊢
   clear hK
   try simp only [Act.put,zA,zB,zC]
   refine rd1 11 rfl (fun K hK=>?_)
   go_simp
   have hgr:gO<wc.heap.size:=by have h1:=HO.out.lt;have h2:=hSn.size;omega
   have hal:=fun o=>Below.alloc hSn hSn.size o
   refine hK.out _ _ (fun _=>hal _) ?_
   have hSn:=hal (.cells #[.int .i64 0,.int .i64 0,.int .i64 0,.int .i64 0,.int .i64 0,.int .i64 0,.int .i64 0,.int .i64 0,.int .i64 0,.int .i64 0,.int .i64 0,.int .i64 0,.int .i64 0,.int .i64 0,.int .i64 0,.int .i64 0] 43)
   have hbx:=(Below.refl wc.heap.size wc).alloc (Nat.le_refl _) (.cells #[.int .i64 0,.int .i64 0,.int .i64 0,.int .i64 0,.int .i64 0,.int .i64 0,.int .i64 0,.int .i64 0,.int .i64 0,.int .i64 0,.int .i64 0,.int .i64 0,.int .i64 0,.int .i64 0,.int .i64 0,.int .i64 0] 43)
   have HR2:=qh (show Holds (wc.alloc (.cells #[.int .i64 0,.int .i64 0,.int .i64 0,.int .i64 0,.int .i64 0,.int .i64 0,.int .i64 0,.int .i64 0,.int .i64 0,.int .i64 0,.int .i64 0,.int .i64 0,.int .i64 0,.int .i64 0,.int .i64 0,.int .i64 0] 43)) wc.heap.size 43 [.int .i64 0,.int .i64 0,.int .i64 0,.int .i64 0,.int .i64 0,.int .i64 0,.int .i64 0,.int .i64 0,.int .i64 0,.int .i64 0,.int .i64 0,.int .i64 0,.int .i64 0,.int .i64 0,.int .i64 0,.int .i64 0] from holds_alloc wc _ _)
   try (have HN:=qh (HN.out.bel hbx))
   clear hal hbx
   change wpAnyL _ _ _ _ _ _ _ _ _ (wc.alloc (.cells #[.int .i64 0,.int .i64 0,.int .i64 0,.int .i64 0,.int .i64 0,.int .i64 0,.int .i64 0,.int .i64 0,.int .i64 0,.int .i64 0,.int .i64 0,.int .i64 0,.int .i64 0,.int .i64 0,.int .i64 0,.int .i64 0] 43))
   generalize wc.heap.size=gr at HR2 hgr ⊢
   first|generalize wc.alloc (.cells #[.int .i64 0,.int .i64 0,.int .i64 0,.int .i64 0,.int .i64 0,.int .i64 0,.int .i64 0,.int .i64 0,.int .i64 0,.int .i64 0,.int .i64 0,.int .i64 0,.int .i64 0,.int .i64 0,.int .i64 0,.int .i64 0] 43)=wc at hSn HR2 HN ⊢ | generalize wc.alloc (.cells #[.int .i64 0,.int .i64 0,.int .i64 0,.int .i64 0,.int .i64 0,.int .i64 0,.int .i64 0,.int .i64 0,.int .i64 0,.int .i64 0,.int .i64 0,.int .i64 0,.int .i64 0,.int .i64 0,.int .i64 0,.int .i64 0] 43)=wc at hSn HR2 ⊢
   clear hK
   try simp only [Act.put,zA,zB,zC]
   refine rd1 12 rfl (fun K hK=>?_)
   go_simp
   refine (KJ.out _ _ HR2.out).mono ?_
   rintro e wc ⟨rfl,hb⟩
   have hSn:=below_next hSn hb
   try (have HN:=qh (HN.out.bel hb))
   clear hb
   refine hK.out _ _ (fun _=>hSn) ?_
   clear hK
   try simp only [Act.put,zA,zB,zC]
   refine rd1 14 rfl (fun K hK=>?_)
   refine step_store_box rfl 43 (.tmp 9) (.tmp 39) _ [.int .i64 0,.int .i64 0,.int .i64 0,.int .i64 0,.int .i64 0,.int .i64 0,.int .i64 0,.int .i64 0] [.int .i64 0,.int .i64 0,.int .i64 0,.int .i64 0,.int .i64 0,.int .i64 0,.int .i64 0,.int .i64 0] rfl rfl rfl rfl HN.out (by kernel_rfl) rfl (by simp [Value.oneCell']) ?_
   intro wb hh6 ht6
   have HN:=qh hh6
   have hSn:=hSn.trans (ht6.below hgs hSn.size)
   clear hh6 ht6
   refine hK.out _ _ (fun _=>hSn) ?_
   clear hK
   try simp only [Act.put,zA,zB,zC]
   refine dnA (NoPanic.normal ?_)
   have HCA:=qh (HCA.out.bel hSn);have HM:=qh (HM.out.bel hSn);have HX:=qh (HX.out.bel hSn);have HO:=qh (HO.out.bel hSn)
   clear hSn HC HIX
   have x5:=HX.out.cell 5
   have x6:=HX.out.cell 6
   have x14:=HX.out.cell 14
   have x15:=HX.out.cell 15
   have x16:=HX.out.cell 16
   have x17:=HX.out.cell 17
   have x18:=HX.out.cell 18
   have x19:=HX.out.cell 19
   have x20:=HX.out.cell 20
   have x21:=HX.out.cell 21
   simp only [letL,yA,yB] at x5 x6 x14 x15 x16 x17 x18 x19 x20 x21
   have z0:=HN.out.cell 0
   have z1:=HN.out.cell 1
   have z2:=HN.out.cell 2
   have z3:=HN.out.cell 3
   have z4:=HN.out.cell 4
   have z5:=HN.out.cell 5
   have z6:=HN.out.cell 6
   have z7:=HN.out.cell 7
   simp only [yA,yB] at z0 z1 z2 z3 z4 z5 z6 z7
   go_wp2_with fail
   refine (KD.out _).mono ?_
   rintro e w3 ⟨rfl,hb⟩
   have HCA:=qh (HCA.out.bel hb);have HM:=qh (HM.out.bel hb);have HX:=qh (HX.out.bel hb);have HO:=qh (HO.out.bel hb);have HN:=qh (HN.out.bel hb)
   clear hb
   clear x5 x6 x14 x15 x16 x17 x18 x19 x20 x21 z0 z1 z2 z3 z4 z5 z6 z7
   have x3:=HX.out.cell 3
   have x4:=HX.out.cell 4
   have x5:=HX.out.cell 5
   have x6:=HX.out.cell 6
   have x7:=HX.out.cell 7
   have x8:=HX.out.cell 8
   have x9:=HX.out.cell 9
   have x10:=HX.out.cell 10
   have x11:=HX.out.cell 11
   have x12:=HX.out.cell 12
   have x13:=HX.out.cell 13
   simp only [letL,yA,yB] at x3 x4 x5 x6 x7 x8 x9 x10 x11 x12 x13
   have z0:=HN.out.cell 0
   have z1:=HN.out.cell 1
   have z2:=HN.out.cell 2
   have z3:=HN.out.cell 3
   have z4:=HN.out.cell 4
   have z5:=HN.out.cell 5
   have z6:=HN.out.cell 6
   have z7:=HN.out.cell 7
   simp only [yA,yB] at z0 z1 z2 z3 z4 z5 z6 z7
   go_wp2_with fail
   refine (KS.out _ HCA.out).mono ?_
   rintro e w6 ⟨rfl,g2,cr,m,rv,rest,hca,hr,ho,hm,hg2,hmv⟩
   have hs:=HM.out.size
   have hol:=HO.out.lt
   have hnl3:=HN.out.lt
   have HCA:=qh hca;have HR:=qh hr;have HMR:=qh hm
   have HOW:=qh (Own8.mono (B':=gO+1) ho (by omega))
   have hg2w:w.heap.size≤g2∧gO<g2:=by omega
   have HX:=qh (HX.out.mv hmv (by omega));have HO:=qh (HO.out.mv hmv (by omega));have HN:=qh (HN.out.mv hmv (by omega))
   have HM:=qh (HM.out.mv hmv (fun k hk=>.inl hk))
   clear hca hr ho hm hmv x3 x4 x5 x6 x7 x8 x9 x10 x11 x12 x13 z0 z1 z2 z3 z4 z5 z6 z7
   have z0:=HN.out.cell 0
   have z1:=HN.out.cell 1
   have z2:=HN.out.cell 2
   have z3:=HN.out.cell 3
   have z4:=HN.out.cell 4
   have z5:=HN.out.cell 5
   have z6:=HN.out.cell 6
   have z7:=HN.out.cell 7
   simp only [yA,yB] at z0 z1 z2 z3 z4 z5 z6 z7
   go_upto_region 9 with (first|(refine wpList_store_spl rfl 43 (.tmp 70) (.tmp 69) rfl rfl gO 14 _ 47 HO.out rfl [.int .i64 0,.int .i64 0,.int .i64 0,.int .i64 0,.int .i64 0,.int .i64 0,.int .i64 0,.int .i64 0] rfl (by kernel_rfl) (by simp [letL]) (by simp [Value.oneCell']) ?_;intro v3 hh ht))
   have hmo:Mv (fun k=>k=gO) _ v3:=Mv.of_touch ht rfl
   have HO:=qh (show Holds v3 gO 47 (letL 2 0 0 q Cm.zero) from hh)
   have HCA:=qh (HCA.out.mv hmo (by omega) (by omega) (by omega) (by omega) (by omega))
   have HX:=qh (HX.out.mv hmo (by omega));have HR:=qh (HR.out.mv hmo (by omega));have HOW:=qh (HOW.out.mv hmo (fun k hk=>by omega))
   have HM:=qh (HM.out.mv hmo (fun k hk=>.inr (by omega)))
   clear hh ht hmo z0 z1 z2 z3 z4 z5 z6 z7
   have HRG:=qh HO.out.range0
   have x1:=HX.out.cell 1
   simp only [letL,yA,yB] at x1
   go_wp2_with (first|(refine wpList_load_mid rfl 47 _ rfl gO 0 rfl (letL 2 0 0 q Cm.zero) _ HRG.out Tryz.underlying47 rfl (by kernel_rfl) ?_))
   refine (KE.out _ _ HCA.out.hc).mono ?_
   rintro e w8 ⟨rfl,p8,c8,ob,hc8,ho8,hob,hm8⟩
   have hm9:Mv (fun k=>k=gc) _ w8:=hm8.more (fun k hk=>hk.elim id (fun h=>(by cases h)))
   have hs8:=HM.out.size
   have HP:=qh (show PreDone gc n me gl gm nl gi gx ni f q c w w8 from ⟨g2,cr,m,rv,_,rest,ob,HCA.out.recore hm9 hc8 (by omega) (by omega) (by omega) (by omega),HR.out.mv hm9 (by omega),Own8.mono (HOW.out.mv hm9 (fun k hk=>by omega)) (by omega),HMR.out,hg2w.1,ho8,fun g hg=>by rcases hob with h|⟨g',h,hl⟩<;>rw [h] at hg<;>cases hg;omega,HM.out.mv hm9 (fun k hk=>.inl (.inl hk))⟩)
   clear hc8 ho8 hob hm8 hm9 x1
   go_wp2_with fail
   exact bodyPost_end (v:=.tuple #[]) (by simp [results,Tryz.results212,go_sem]) rfl ⟨rfl,HP.out⟩
 ·skip
  go_simp
  have hgs:=hSn.size
  have hgn:gO<wc.heap.size:=by have h1:=HO.out.lt;have h2:=hSn.size;omega
  have hal:=fun o=>Below.alloc hSn hSn.size o
  refine hK.out _ _ (fun _=>hal _) ?_
  have hSn:=hal (.cells #[.int .i64 0,.int .i64 0,.int .i64 0,.int .i64 0,.int .i64 0,.int .i64 0,.int .i64 0,.int .i64 0] 43)
  have hbx:=(Below.refl wc.heap.size wc).alloc (Nat.le_refl _) (.cells #[.int .i64 0,.int .i64 0,.int .i64 0,.int .i64 0,.int .i64 0,.int .i64 0,.int .i64 0,.int .i64 0] 43)
  have HN:=qh (show Holds (wc.alloc (.cells #[.int .i64 0,.int .i64 0,.int .i64 0,.int .i64 0,.int .i64 0,.int .i64 0,.int .i64 0,.int .i64 0] 43)) wc.heap.size 43 [.int .i64 0,.int .i64 0,.int .i64 0,.int .i64 0,.int .i64 0,.int .i64 0,.int .i64 0,.int .i64 0] from holds_alloc wc _ _)
  try (have HR2:=qh (HR2.out.bel hbx))
  clear hal hbx
  change wpAnyL _ _ _ _ _ _ _ _ _ (wc.alloc (.cells #[.int .i64 0,.int .i64 0,.int .i64 0,.int .i64 0,.int .i64 0,.int .i64 0,.int .i64 0,.int .i64 0] 43))
  first|(have hmk:=hmark;generalize wc.heap.size=gn at HN hgn hgs ⊢)|skip
  first|generalize wc.alloc (.cells #[.int .i64 0,.int .i64 0,.int .i64 0,.int .i64 0,.int .i64 0,.int .i64 0,.int .i64 0,.int .i64 0] 43)=wc at hSn HN HR2 ⊢ | generalize wc.alloc (.cells #[.int .i64 0,.int .i64 0,.int .i64 0,.int .i64 0,.int .i64 0,.int .i64 0,.int .i64 0,.int .i64 0] 43)=wc at hSn HN ⊢
  clear hK
  try simp only [Act.put,zA,zB,zC]
  refine rd1 10 rfl (fun K hK=>?_)
  go_simp
  refine (KA.out _ (HIX.out.bel hSn)).mono ?_
  rintro e wc ⟨rfl,hb⟩
  have hSn:=below_next hSn hb
  try (have HN:=qh (HN.out.bel hb))
  have hmark:True:=trivial
  clear hb
  refine hK.out _ _ (fun _=>hSn) ?_
  clear hK
  try simp only [Act.put,zA,zB,zC]
  refine rd1 11 rfl (fun K hK=>?_)
  go_simp
  have hgr:gO<wc.heap.size:=by have h1:=HO.out.lt;have h2:=hSn.size;omega
  have hal:=fun o=>Below.alloc hSn hSn.size o
  refine hK.out _ _ (fun _=>hal _) ?_
  have hSn:=hal (.cells #[.int .i64 0,.int .i64 0,.int .i64 0,.int .i64 0,.int .i64 0,.int .i64 0,.int .i64 0,.int .i64 0,.int .i64 0,.int .i64 0,.int .i64 0,.int .i64 0,.int .i64 0,.int .i64 0,.int .i64 0,.int .i64 0] 43)
  have hbx:=(Below.refl wc.heap.size wc).alloc (Nat.le_refl _) (.cells #[.int .i64 0,.int .i64 0,.int .i64 0,.int .i64 0,.int .i64 0,.int .i64 0,.int .i64 0,.int .i64 0,.int .i64 0,.int .i64 0,.int .i64 0,.int .i64 0,.int .i64 0,.int .i64 0,.int .i64 0,.int .i64 0] 43)
  have HR2:=qh (show Holds (wc.alloc (.cells #[.int .i64 0,.int .i64 0,.int .i64 0,.int .i64 0,.int .i64 0,.int .i64 0,.int .i64 0,.int .i64 0,.int .i64 0,.int .i64 0,.int .i64 0,.int .i64 0,.int .i64 0,.int .i64 0,.int .i64 0,.int .i64 0] 43)) wc.heap.size 43 [.int .i64 0,.int .i64 0,.int .i64 0,.int .i64 0,.int .i64 0,.int .i64 0,.int .i64 0,.int .i64 0,.int .i64 0,.int .i64 0,.int .i64 0,.int .i64 0,.int .i64 0,.int .i64 0,.int .i64 0,.int .i64 0] from holds_alloc wc _ _)
  try (have HN:=qh (HN.out.bel hbx))
  clear hal hbx
  change wpAnyL _ _ _ _ _ _ _ _ _ (wc.alloc (.cells #[.int .i64 0,.int .i64 0,.int .i64 0,.int .i64 0,.int .i64 0,.int .i64 0,.int .i64 0,.int .i64 0,.int .i64 0,.int .i64 0,.int .i64 0,.int .i64 0,.int .i64 0,.int .i64 0,.int .i64 0,.int .i64 0] 43))
  generalize wc.heap.size=gr at HR2 hgr ⊢
  first|generalize wc.alloc (.cells #[.int .i64 0,.int .i64 0,.int .i64 0,.int .i64 0,.int .i64 0,.int .i64 0,.int .i64 0,.int .i64 0,.int .i64 0,.int .i64 0,.int .i64 0,.int .i64 0,.int .i64 0,.int .i64 0,.int .i64 0,.int .i64 0] 43)=wc at hSn HR2 HN ⊢ | generalize wc.alloc (.cells #[.int .i64 0,.int .i64 0,.int .i64 0,.int .i64 0,.int .i64 0,.int .i64 0,.int .i64 0,.int .i64 0,.int .i64 0,.int .i64 0,.int .i64 0,.int .i64 0,.int .i64 0,.int .i64 0,.int .i64 0,.int .i64 0] 43)=wc at hSn HR2 ⊢
  clear hK
  try simp only [Act.put,zA,zB,zC]
  refine rd1 12 rfl (fun K hK=>?_)
  go_simp
  refine (KJ.out _ _ HR2.out).mono ?_
  rintro e wc ⟨rfl,hb⟩
  have hSn:=below_next hSn hb
  try (have HN:=qh (HN.out.bel hb))
  clear hb
  refine hK.out _ _ (fun _=>hSn) ?_
  clear hK
  try simp only [Act.put,zA,zB,zC]
  refine rd1 14 rfl (fun K hK=>?_)
  refine step_store_box rfl 43 (.tmp 9) (.tmp 39) _ [.int .i64 0,.int .i64 0,.int .i64 0,.int .i64 0,.int .i64 0,.int .i64 0,.int .i64 0,.int .i64 0] [.int .i64 0,.int .i64 0,.int .i64 0,.int .i64 0,.int .i64 0,.int .i64 0,.int .i64 0,.int .i64 0] rfl rfl rfl rfl HN.out (by kernel_rfl) rfl (by simp [Value.oneCell']) ?_
  intro wb hh6 ht6
  have HN:=qh hh6
  have hSn:=hSn.trans (ht6.below hgs hSn.size)
  clear hh6 ht6
  refine hK.out _ _ (fun _=>hSn) ?_
  clear hK
  try simp only [Act.put,zA,zB,zC]
  refine dnA (NoPanic.normal ?_)
  have HCA:=qh (HCA.out.bel hSn);have HM:=qh (HM.out.bel hSn);have HX:=qh (HX.out.bel hSn);have HO:=qh (HO.out.bel hSn)
  clear hSn HC HIX
  have x5:=HX.out.cell 5
  have x6:=HX.out.cell 6
  have x14:=HX.out.cell 14
  have x15:=HX.out.cell 15
  have x16:=HX.out.cell 16
  have x17:=HX.out.cell 17
  have x18:=HX.out.cell 18
  have x19:=HX.out.cell 19
  have x20:=HX.out.cell 20
  have x21:=HX.out.cell 21
  simp only [letL,yA,yB] at x5 x6 x14 x15 x16 x17 x18 x19 x20 x21
  have z0:=HN.out.cell 0
  have z1:=HN.out.cell 1
  have z2:=HN.out.cell 2
  have z3:=HN.out.cell 3
  have z4:=HN.out.cell 4
  have z5:=HN.out.cell 5
  have z6:=HN.out.cell 6
  have z7:=HN.out.cell 7
  simp only [yA,yB] at z0 z1 z2 z3 z4 z5 z6 z7
  go_wp2_with fail
  refine (KD.out _).mono ?_
  rintro e w3 ⟨rfl,hb⟩
  have HCA:=qh (HCA.out.bel hb);have HM:=qh (HM.out.bel hb);have HX:=qh (HX.out.bel hb);have HO:=qh (HO.out.bel hb);have HN:=qh (HN.out.bel hb)
  clear hb
  clear x5 x6 x14 x15 x16 x17 x18 x19 x20 x21 z0 z1 z2 z3 z4 z5 z6 z7
  have x3:=HX.out.cell 3
  have x4:=HX.out.cell 4
  have x5:=HX.out.cell 5
  have x6:=HX.out.cell 6
  have x7:=HX.out.cell 7
  have x8:=HX.out.cell 8
  have x9:=HX.out.cell 9
  have x10:=HX.out.cell 10
  have x11:=HX.out.cell 11
  have x12:=HX.out.cell 12
  have x13:=HX.out.cell 13
  simp only [letL,yA,yB] at x3 x4 x5 x6 x7 x8 x9 x10 x11 x12 x13
  have z0:=HN.out.cell 0
  have z1:=HN.out.cell 1
  have z2:=HN.out.cell 2
  have z3:=HN.out.cell 3
  have z4:=HN.out.cell 4
  have z5:=HN.out.cell 5
  have z6:=HN.out.cell 6
  have z7:=HN.out.cell 7
  simp only [yA,yB] at z0 z1 z2 z3 z4 z5 z6 z7
  go_wp2_with fail
  refine (KS.out _ HCA.out).mono ?_
  rintro e w6 ⟨rfl,g2,cr,m,rv,rest,hca,hr,ho,hm,hg2,hmv⟩
  have hs:=HM.out.size
  have hol:=HO.out.lt
  have hnl3:=HN.out.lt
  have HCA:=qh hca;have HR:=qh hr;have HMR:=qh hm
  have HOW:=qh (Own8.mono (B':=gO+1) ho (by omega))
  have hg2w:w.heap.size≤g2∧gO<g2:=by omega
  have HX:=qh (HX.out.mv hmv (by omega));have HO:=qh (HO.out.mv hmv (by omega));have HN:=qh (HN.out.mv hmv (by omega))
  have HM:=qh (HM.out.mv hmv (fun k hk=>.inl hk))
  clear hca hr ho hm hmv x3 x4 x5 x6 x7 x8 x9 x10 x11 x12 x13 z0 z1 z2 z3 z4 z5 z6 z7
  have z0:=HN.out.cell 0
  have z1:=HN.out.cell 1
  have z2:=HN.out.cell 2
  have z3:=HN.out.cell 3
  have z4:=HN.out.cell 4
  have z5:=HN.out.cell 5
  have z6:=HN.out.cell 6
  have z7:=HN.out.cell 7
  simp only [yA,yB] at z0 z1 z2 z3 z4 z5 z6 z7
  go_upto_region 9 with (first|(refine wpList_store_spl rfl 43 (.tmp 70) (.tmp 69) rfl rfl gO 14 _ 47 HO.out rfl [.int .i64 0,.int .i64 0,.int .i64 0,.int .i64 0,.int .i64 0,.int .i64 0,.int .i64 0,.int .i64 0] rfl (by kernel_rfl) (by simp [letL]) (by simp [Value.oneCell']) ?_;intro v3 hh ht))
  have hmo:Mv (fun k=>k=gO) _ v3:=Mv.of_touch ht rfl
  have HO:=qh (show Holds v3 gO 47 (letL 2 0 0 q Cm.zero) from hh)
  have HCA:=qh (HCA.out.mv hmo (by omega) (by omega) (by omega) (by omega) (by omega))
  have HX:=qh (HX.out.mv hmo (by omega));have HR:=qh (HR.out.mv hmo (by omega));have HOW:=qh (HOW.out.mv hmo (fun k hk=>by omega))
  have HM:=qh (HM.out.mv hmo (fun k hk=>.inr (by omega)))
  clear hh ht hmo z0 z1 z2 z3 z4 z5 z6 z7
  have HRG:=qh HO.out.range0
  have x1:=HX.out.cell 1
  simp only [letL,yA,yB] at x1
  go_wp2_with (first|(refine wpList_load_mid rfl 47 _ rfl gO 0 rfl (letL 2 0 0 q Cm.zero) _ HRG.out Tryz.underlying47 rfl (by kernel_rfl) ?_))
  refine (KE.out _ _ HCA.out.hc).mono ?_
  rintro e w8 ⟨rfl,p8,c8,ob,hc8,ho8,hob,hm8⟩
  have hm9:Mv (fun k=>k=gc) _ w8:=hm8.more (fun k hk=>hk.elim id (fun h=>(by cases h)))
  have hs8:=HM.out.size
  have HP:=qh (show PreDone gc n me gl gm nl gi gx ni f q c w w8 from ⟨g2,cr,m,rv,_,rest,ob,HCA.out.recore hm9 hc8 (by omega) (by omega) (by omega) (by omega),HR.out.mv hm9 (by omega),Own8.mono (HOW.out.mv hm9 (fun k hk=>by omega)) (by omega),HMR.out,hg2w.1,ho8,fun g hg=>by rcases hob with h|⟨g',h,hl⟩<;>rw [h] at hg<;>cases hg;omega,HM.out.mv hm9 (fun k hk=>.inl (.inl hk))⟩)
  clear hc8 ho8 hob hm8 hm9 x1
  go_wp2_with fail
  exact bodyPost_end (v:=.tuple #[]) (by simp [results,Tryz.results212,go_sem]) rfl ⟨rfl,HP.out⟩
end
end Go.Proofs.YtimdpiifpibgfaaGreatDoor
