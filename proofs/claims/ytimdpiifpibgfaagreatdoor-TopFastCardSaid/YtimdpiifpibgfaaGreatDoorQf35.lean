/- For every input the law TopFast returns true (a part of the proof). Condition: the listed variables start as the program's text lays them. -/
import Derived.Test.YtimdpiifpibgfaaGreatDoorQf34
set_option linter.unusedVariables false
set_option linter.unusedSimpArgs false
set_option maxRecDepth 20000
set_option maxHeartbeats 16000000
namespace Go.Proofs.YtimdpiifpibgfaaGreatDoor
section
open Go.RowKit Go.Maps
theorem run_none (g n me gd gw gc gfr:Nat) (P:Value) (sq v:Int) (d:Nat→Int) (since tk:Int) (waits out ans:Value) (w:World)
  (nd:Holds w g 102 (nodeL n me gd gw gc gfr P sq v d since tk waits out ans)) (hd:∀ r,r<7→d r=0∨d r=1)
  (KC:∀ W,Below w.heap.size w W→Calls Tryz.prog 164 #[.pointer (some ⟨g,0,none⟩)] W fun e w'=>e=.returned (.slice none 0 0)∧Below W.heap.size W w') :
  Calls Tryz.prog 91 #[.pointer (some ⟨g,0,none⟩)] w fun e w'=>e=.returned (.tuple #[])∧Below w.heap.size w w':=by
 have KP:=qh (fun W=>plan_none d hd W)
 have KC:=qh KC
 have HN:=qh nd
 have HB:=qh (Base.start w)
 clear nd
 go_enter Tryz.func91,Tryz.ntmps91
 go_upto_region 0 with (fail)
 have n55:=fun d os=>HN.out.grown d os 55
 have n56:=fun d os=>HN.out.grown d os 56
 have n57:=fun d os=>HN.out.grown d os 57
 have n58:=fun d os=>HN.out.grown d os 58
 have n59:=fun d os=>HN.out.grown d os 59
 have n60:=fun d os=>HN.out.grown d os 60
 have n61:=fun d os=>HN.out.grown d os 61
 simp only [nodeL,yA,yB] at n55 n56 n57 n58 n59 n60 n61
 refine wp_region_quiet_below (by kernel_rfl) (by kernel_rfl) ?_
 repeat go_big_quiet_step (first
   | (go_at_call 164;with_reducible exact calls_regrown fun W h2=>KC.out W h2)
   | (go_at_call 163;with_reducible exact calls_regrown fun W h2=>KP.out W))
 refine wpQuiet_nil ?_
 intro w3 hw'
 have hb3:=below_of_regrown hw'
 have HB:=qh (HB.out.bel hb3)
 clear hw' hb3 n55 n56 n57 n58 n59 n60 n61 HN
 go_wp2_with fail
 go_loopw [20] (fun vi wr=>vi=.int .i64 0∧w3=wr) (fun _ _=>0)
 case atStart=>exact⟨rfl,rfl⟩
 case round=>
  obtain⟨rfl,rfl⟩:=hrel
  go_wp2_with fail
  go_loopw [67] (fun vi wr=>vi=.int .i64 0∧w3=wr) (fun _ _=>0)
  case atStart=>exact⟨rfl,rfl⟩
  case round=>
   obtain⟨rfl,rfl⟩:=hrel
   go_wp2_with fail
   exact bodyPost_end (v:=.tuple #[]) (by simp [results,Tryz.results91,go_sem]) rfl ⟨rfl,HB.out.below⟩
theorem knownK_one' (q:Nat) (c:Cm):(knownK q c).toArray.all (·.oneCell')=true:=by simp [knownK,cellL,Value.oneCell']
def RunDone (g n me gd gw gc gfr q:Nat) (c:Cm) (tk:Int) (waits out ans:Value) (w w':World):Prop:=∃ P ob,Holds w' g 102 (nodeL n me gd gw gc gfr P 1 (verOf c) (oneD q) 1 tk waits out ans)∧Pairs w' P ob c∧(∀ k,ob=some k→w.heap.size≤k)∧Mv (fun k=>k=g) w w'
theorem run_one (g n me gd gw gc gfr q:Nat) (c:Cm) (hcc:CmOk c) (h1:c.c=1) (h2:c.s=1) (tk:Int) (waits out ans:Value) (w:World)
  (nd:Holds w g 102 (nodeL n me gd gw gc gfr (.slice none 0 0) 0 0 (fun _=>0) 0 tk waits out ans)) (hq:q<7)
  (KC:∀ W,Below w.heap.size w W→Calls Tryz.prog 164 #[.pointer (some ⟨g,0,none⟩)] W fun e w'=>∃ gk ck rest,e=.returned (.slice (some ⟨gk,0,none⟩) 1 ck)∧Holds w' gk 267 (knownL q c++rest)∧Below W.heap.size W w') :
  Calls Tryz.prog 91 #[.pointer (some ⟨g,0,none⟩)] w fun e w'=>e=.returned (.tuple #[])∧RunDone g n me gd gw gc gfr q c tk waits out ans w w':=by
 have KP:=qh (fun gk ck rest W hk=>plan_one q gk ck c rest W hq hk)
 have KA:=qh (fun W=>apply_any c hcc h1 h2 W)
 clear h1 h2 hcc
 have KC:=qh KC
 have HN:=qh nd
 have HB:=qh (Base.start w)
 have hqi:(q:Int)<7:=by omega
 have hgl:=nd.lt
 clear nd
 go_enter Tryz.func91,Tryz.ntmps91
 go_upto_region 0 with (fail)
 have HN:=qh (HN.out.bel (t_drew _ w))
 have HB:=qh (HB.out.bel (t_drew _ w))
 refine wp_region_noPanic ?_
 refine wp_region_late (S:=fun W'=>Below w.drew.heap.size w.drew W') (X0:=[]) (by as_aux_lemma=>kernel_rfl) ?_
 generalize w.drew=wd at HN HB ⊢
 have hSn:Below wd.heap.size wd wd:=Below.refl _ _
 change wpAnyL _ _ _ _ _ _ 12 #[false,false,false,false,false,false,false,false,false,false,false,false] _ _
 refine mvA 0 (some 9) (fun _=>hSn) ?_
 simp only [Act.put,zA,zB,zC]
 refine mvA 1 (some 10) (fun _=>hSn) ?_
 simp only [Act.put,zA,zB,zC]
 refine mvA 2 (some 11) (fun _=>hSn) ?_
 simp only [Act.put,zA,zB,zC]
 refine tkA 3 [] (some 12) (?vg4) rfl (Or.inl ⟨by rfl,?hg4⟩) hSn ?rg4
 case hg4=>
  intro w hSw
  have b55:=(HN.out.bel hSw).cell 55
  have b56:=(HN.out.bel hSw).cell 56
  have b57:=(HN.out.bel hSw).cell 57
  have b58:=(HN.out.bel hSw).cell 58
  have b59:=(HN.out.bel hSw).cell 59
  have b60:=(HN.out.bel hSw).cell 60
  have b61:=(HN.out.bel hSw).cell 61
  simp only [nodeL,yA,yB] at b55 b56 b57 b58 b59 b60 b61
  go_simp
  try with_reducible rfl
 simp only [Act.put,zA,zB,zC]
 refine mvA 4 (some 13) (fun _=>hSn) ?_
 simp only [Act.put,zA,zB,zC]
 refine rd1 5 rfl (fun K hK=>?_)
 go_simp
 refine (KC.out _ (HB.out.bel hSn).below).mono ?_
 rintro e w2 ⟨gk,ck,rk,rfl,hk,hb⟩
 have hSn:=below_next hSn hb
 have HK:=qh hk
 clear hk
 clear hb
 refine hK.out _ _ (fun _=>hSn) ?_
 clear hK
 try simp only [Act.put,zA,zB,zC]
 refine rd1 6 rfl (fun K hK=>?_)
 go_simp
 refine (KP.out gk ck rk _ HK.out).mono ?_
 rintro e w3 ⟨R,obR,rfl,hoR,hobR,hb⟩
 have hSn:=below_next hSn hb
 have HR:=qh hoR
 clear hoR HK
 clear hb
 refine hK.out _ _ (fun _=>hSn) ?_
 clear hK
 try simp only [Act.put,zA,zB,zC]
 refine mvA 7 (some 8) (fun _=>hSn) ?_
 simp only [Act.put,zA,zB,zC]
 refine mvA 8 (some 16) (fun _=>hSn) ?_
 simp only [Act.put,zA,zB,zC]
 refine mvA 9 (some 17) (fun _=>hSn) ?_
 simp only [Act.put,zA,zB,zC]
 refine mvA 10 (some 2) (fun _=>hSn) ?_
 simp only [Act.put,zA,zB,zC]
 refine mvA 11 (some 3) (fun _=>hSn) ?_
 simp only [Act.put,zA,zB,zC]
 refine dnA (NoPanic.normal ?_)
 have HN:=qh (HN.out.bel hSn)
 have HB:=qh (HB.out.bel hSn)
 clear hSn
 obtain⟨gR,cR,rR,rfl,rfl,hc1,hc2,hgR,hgRl⟩:=HR.out.blk (Nat.zero_lt_one)
 have HK:=qh hgR
 clear hgR hobR HR
 go_wp2_with fail
 go_loopw [20] (fun vi wr=>(vi=.int .i64 0∧w3=wr)∨(vi=.int .i64 1∧RunDone g n me gd gw gc gfr q c tk waits out ans w wr)) (fun vi _=>1 - (intOf vi).toNat)
 case atStart=>exact .inl ⟨rfl,rfl⟩
 case round=>
  rcases hrel with⟨rfl,rfl⟩|⟨rfl,hrd⟩
  ·have HRK:=qh (rangeAt_sub HK.out 0 (cs:=knownK q c) rfl)
   go_upto_region 4 with (first
    | (refine wpList_load_mid rfl 267 _ rfl gR 0 rfl (knownK q c) _ HRK.out Tryz.underlying267 rfl (by kernel_rfl) ?_)
    | (refine wpList_store_whole rfl 267 (.tmp 5) (.tmp 23) w3.heap.size knownZ (knownK q c) rfl rfl rfl rfl (holds_alloc w3 _ _) (by kernel_rfl) rfl (knownK_one' q c) ?_;intro w4 hh4 ht4))
   have hal:Below w3.heap.size w3 w4:=Below.trans ((Below.refl _ _).alloc (Nat.le_refl _) _) (ht4.below (Nat.le_refl _) (by simp))
   have hs3:=HB.out.le
   have HX:=qh hh4
   have HN:=qh (HN.out.bel hal)
   have HB:=qh (HB.out.bel hal)
   clear hal hh4 ht4 HRK HK
   generalize hgp:w3.heap.size=gp at HX ⊢
   have HRX:=qh (fun (w':World) (h:Below w4.drew.heap.size w4.drew w')=>(rangeAt_sub ((HN.out.bel (t_drew _ w4)).bel h) 6 (cs:=stateL (.slice none 0 0) 0 0) rfl))
   have HN:=qh (HN.out.bel (t_drew _ w4))
   have HB:=qh (HB.out.bel (t_drew _ w4))
   have HX:=qh (HX.out.bel (t_drew _ w4))
   refine wp_region_noPanic ?_
   refine wp_region_late (S:=fun W'=>Below w4.drew.heap.size w4.drew W') (X0:=[14]) (by as_aux_lemma=>kernel_rfl) ?_
   generalize w4.drew=wd at HN HB HX HRX ⊢
   have hSn:Below wd.heap.size wd wd:=Below.refl _ _
   change wpAnyL _ _ _ _ _ _ 15 #[false,false,false,false,false,false,false,false,false,false,false,false,false,false,false] _ _
   refine mvA 0 (some 25) (fun _=>hSn) ?_
   simp only [Act.put,zA,zB,zC]
   refine mvA 1 (some 26) (fun _=>hSn) ?_
   simp only [Act.put,zA,zB,zC]
   refine mvA 2 (some 27) (fun _=>hSn) ?_
   simp only [Act.put,zA,zB,zC]
   refine mvA 3 (some 28) (fun _=>hSn) ?_
   simp only [Act.put,zA,zB,zC]
   refine tkA 4 [8,9,10,11,12,13,14] (some 29) (.agg (stateL (.slice none 0 0) 0 0).toArray) rfl (yieldsIf_load_mid (by rfl) 66 _ rfl g 6 rfl (stateL (.slice none 0 0) 0 0) _ (fun w hSw=>HRX.out w hSw) Tryz.underlying66 rfl (by as_aux_lemma=>kernel_rfl)) hSn ?rg15
   simp only [Act.put,zA,zB,zC]
   refine mvA 5 (some 30) (fun _=>hSn) ?_
   simp only [Act.put,zA,zB,zC]
   refine mvA 6 (some 31) (fun _=>hSn) ?_
   simp only [Act.put,zA,zB,zC]
   refine tkA 7 [8,9,10,11,12,13,14] (some 32) (?vg18) rfl (Or.inl ⟨by rfl,?hg18⟩) hSn ?rg18
   case hg18=>
    intro w hSw
    have b7:=(HX.out.bel hSw).cell 7
    have b8:=(HX.out.bel hSw).cell 8
    have b9:=(HX.out.bel hSw).cell 9
    have b10:=(HX.out.bel hSw).cell 10
    have b11:=(HX.out.bel hSw).cell 11
    have b12:=(HX.out.bel hSw).cell 12
    have b13:=(HX.out.bel hSw).cell 13
    simp only [knownK,cellL,yA,yB] at b7 b8 b9 b10 b11 b12 b13
    go_simp
    try with_reducible rfl
   simp only [Act.put,zA,zB,zC]
   refine rd1 8 rfl (fun K hK=>?_)
   go_simp
   refine (KA.out _).mono ?_
   rintro e w5 ⟨p5,n5,m5,ob5,rfl,hp5,hob5,hb⟩
   have hSn:=below_next hSn hb
   have HP:=qh hp5
   have hob:=hob5
   clear hp5 hob5
   clear hb
   refine hK.out _ _ (fun _=>hSn) ?_
   clear hK
   try simp only [Act.put,zA,zB,zC]
   refine mvA 9 (some 24) (fun _=>hSn) ?_
   simp only [Act.put,zA,zB,zC]
   refine mvA 10 (some 34) (fun _=>hSn) ?_
   simp only [Act.put,zA,zB,zC]
   refine mvA 11 (some 35) (fun _=>hSn) ?_
   simp only [Act.put,zA,zB,zC]
   refine mvA 12 (some 36) (fun _=>hSn) ?_
   simp only [Act.put,zA,zB,zC]
   refine mvA 13 (some 37) (fun _=>hSn) ?_
   simp only [Act.put,zA,zB,zC]
   refine rd1 14 rfl (fun K hK=>?_)
   have hSb:=hSn
   refine step_store_spl rfl 66 (.tmp 37) (.tmp 34) rfl rfl g 6 _ 102 (HN.out.bel hSn) rfl (stateL (.slice p5 n5 m5) 1 (verOf c)) rfl (by kernel_rfl) (by simp [nodeL,stateL,ownL]) (by simp [stateL,ownL,Value.oneCell']) ?_
   intro w6 hh6 ht6
   have HN:=qh (show Holds w6 g 102 (nodeL n me gd gw gc gfr (.slice p5 n5 m5) 1 (verOf c) (fun _=>0) 0 tk waits out ans) from (nodeL_state n me gd gw gc gfr (.slice none 0 0) 0 0 (fun _=>0) 0 tk waits out ans (.slice p5 n5 m5) 1 (verOf c))▸hh6)
   have HB5:=HB.out.bel hSb
   have hs5:=HB5.le
   have hsd:=HB.out.le
   have hob2:∀ k,ob5=some k→w.heap.size≤k:=fun k hk=>Nat.le_trans hsd (hob k hk)
   have HP:=qh (HP.out.touch ht6 (fun k hk=>by have:=hob k hk;omega))
   have HM:=qh (Mv.touch (F:=fun k=>k=g) (Mv.of_below HB5.below) ht6 (.inl rfl))
   have HX:=qh ((HX.out.bel hSb).touch ht6 (by omega))
   clear hh6 ht6 hSb HB5
   refine hK.out _ _ nlA ?_
   clear hK
   try simp only [Act.put,zA,zB,zC]
   refine dnA (NoPanic.normal ?_)
   clear hSn HB HRX hob
   go_upto_region 5 with (fail)
   have HN:=qh (HN.out.bel (t_drew _ w6))
   have HP:=qh (HP.out.bel (t_drew _ w6))
   have HM:=qh (HM.out.bel (t_drew _ w6))
   have HX:=qh (HX.out.bel (t_drew _ w6))
   refine wp_region_noPanic ?_
   refine wp_region_late (S:=fun W'=>Below w6.drew.heap.size w6.drew W') (X0:=[19]) (by as_aux_lemma=>kernel_rfl) ?_
   generalize w6.drew=wd at HN HP HM HX ⊢
   have hSn:Below wd.heap.size wd wd:=Below.refl _ _
   change wpAnyL _ _ _ _ _ _ 20 #[false,false,false,false,false,false,false,false,false,false,false,false,false,false,false,false,false,false,false,false] _ _
   refine mvA 0 (some 38) (fun _=>hSn) ?_
   simp only [Act.put,zA,zB,zC]
   refine mvA 1 (some 39) (fun _=>hSn) ?_
   simp only [Act.put,zA,zB,zC]
   refine mvA 2 (some 40) (fun _=>hSn) ?_
   simp only [Act.put,zA,zB,zC]
   refine tkA 3 [18,19] (some 41) (?vg27) rfl (Or.inl ⟨by rfl,?hg27⟩) hSn ?rg27
   case hg27=>
    intro w hSw
    have b0:=(HX.out.bel hSw).cell 0
    simp only [knownK,yA,yB] at b0
    go_simp
    try with_reducible rfl
   simp only [Act.put,zA,zB,zC]
   refine mvA 4 (some 42) (fun _=>hSn) ?_
   simp only [Act.put,zA,zB,zC]
   refine mvA 5 (some 43) (fun _=>hSn) ?_
   simp only [Act.put,zA,zB,zC]
   refine mvA 6 (some 44) (fun _=>hSn) ?_
   simp only [Act.put,zA,zB,zC]
   refine tkA 7 [10,11,15,18,19] (some 45) (?vg31) rfl (Or.inl ⟨by rfl,?hg31⟩) hSn ?rg31
   case hg31=>
    intro w hSw
    have b0:=(HX.out.bel hSw).cell 0
    simp only [knownK,yA,yB] at b0
    go_simp
    try with_reducible rfl
   simp only [Act.put,zA,zB,zC]
   refine mvA 8 (some 46) (fun _=>hSn) ?_
   simp only [Act.put,zA,zB,zC]
   refine mvA 9 (some 47) (fun _=>hSn) ?_
   simp only [Act.put,zA,zB,zC]
   refine mvA 10 (some 48) (fun _=>hSn) ?_
   simp only [Act.put,zA,zB,zC]
   refine tkA 11 [15,18,19] (some 49) (?vg35) rfl (Or.inl ⟨by rfl,?hg35⟩) hSn ?rg35
   case hg35=>
    intro w hSw
    have bd:=(HN.out.bel hSw).cell (55+q)
    rw [nodeL_done_at _ _ _ _ _ _ _ _ _ _ _ _ _ _ _ q hq] at bd
    go_simp
    try with_reducible rfl
   simp only [Act.put,zA,zB,zC]
   refine mvA 12 (some 50) (fun _=>hSn) ?_
   simp only [Act.put,zA,zB,zC]
   refine mvA 13 (some 51) (fun _=>hSn) ?_
   simp only [Act.put,zA,zB,zC]
   refine tkA 14 [15,18,19] (some 52) (?vg38) rfl (Or.inl ⟨by rfl,?hg38⟩) hSn ?rg38
   case hg38=>
    intro w hSw
    have b1:=(HX.out.bel hSw).cell 1
    simp only [knownK,yA,yB] at b1
    go_simp
    try with_reducible rfl
   simp only [Act.put,zA,zB,zC]
   refine mvA 15 (some 53) (fun _=>hSn) ?_
   simp only [Act.put,zA,zB,zC]
   refine mvA 16 (some 54) (fun _=>hSn) ?_
   simp only [Act.put,zA,zB,zC]
   refine mvA 17 (some 55) (fun _=>hSn) ?_
   simp only [Act.put,zA,zB,zC]
   refine mvA 18 (some 56) (fun _=>hSn) ?_
   simp only [Act.put,zA,zB,zC]
   refine rd1 19 rfl (fun K hK=>?_)
   refine step_store_cell rfl 3 (.tmp 56) (.tmp 53) rfl rfl g (55+q) 102 _ (HN.out.bel hSn) (by simp [nodeL];omega) rfl (.int .i64 1) rfl rfl (by kernel_rfl) rfl ?_
   intro w7 hh7 ht7
   have HN:=qh (show Holds w7 g 102 (nodeL n me gd gw gc gfr (.slice p5 n5 m5) 1 (verOf c) (oneD q) 0 tk waits out ans) from (nodeL_done n me gd gw gc gfr (.slice p5 n5 m5) 1 (verOf c) (fun _=>0) 0 tk waits out ans q 1 hq)▸hh7)
   have HP:=qh ((HP.out.bel hSn).touch ht7 (fun k hk=>by have:=hob2 k hk;omega))
   have HM:=qh ((HM.out.bel hSn).touch ht7 (.inl rfl))
   clear hh7 ht7
   refine hK.out _ _ nlA ?_
   clear hK
   try simp only [Act.put,zA,zB,zC]
   refine dnA (NoPanic.normal ?_)
   clear hSn HX
   have n69:=HN.out.cell 69
   simp only [nodeL,yA,yB] at n69
   go_wp2_with (first
    | (refine wpList_store_cell rfl 3 (.tmp 63) (.tmp 61) rfl rfl g 69 102 _ HN.out (by simp [nodeL]) rfl (.int .i64 1) rfl rfl (by kernel_rfl) rfl ?_;intro w8 hh8 ht8;have HN8:=qh (show Holds w8 g 102 (nodeL n me gd gw gc gfr (.slice p5 n5 m5) 1 (verOf c) (oneD q) 1 tk waits out ans) from (nodeL_since n me gd gw gc gfr (.slice p5 n5 m5) 1 (verOf c) (oneD q) 0 tk waits out ans 1)▸hh8);have HT8:=qh ht8;clear hh8 ht8))
   go_roundw
   case rel=>exact .inr ⟨by simp,_,ob5,HN8.out,HP.out.touch HT8.out (fun k hk=>by have:=hob2 k hk;omega),hob2,HM.out.touch HT8.out (.inl rfl)⟩
   case measure=>simp [intOf]
  ·have HD:=qh hrd
   clear hrd HK
   go_wp2_with fail
   go_loopw [67] (fun vi wr2=>vi=.int .i64 0∧wr=wr2) (fun _ _=>0)
   case atStart=>exact⟨rfl,rfl⟩
   case round=>
    obtain⟨rfl,rfl⟩:=hrel
    go_wp2_with fail
    exact bodyPost_end (v:=.tuple #[]) (by simp [results,Tryz.results91,go_sem]) rfl ⟨rfl,HD.out⟩
end
end Go.Proofs.YtimdpiifpibgfaaGreatDoor
