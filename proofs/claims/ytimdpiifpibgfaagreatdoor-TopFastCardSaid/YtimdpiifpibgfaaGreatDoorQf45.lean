/- For every input the law TopFast returns true (a part of the proof). Condition: the listed variables start as the program's text lays them. -/
import Derived.Test.YtimdpiifpibgfaaGreatDoorQf44
set_option linter.unusedVariables false
set_option linter.unusedSimpArgs false
set_option maxRecDepth 20000
set_option maxHeartbeats 16000000
namespace Go.Proofs.YtimdpiifpibgfaaGreatDoor
section
open Go.RowKit Go.Maps
theorem ccomes (gC i g:Nat) (c:Cm) (R1 R2:World→Prop) (w:World)
  (KN:∀ W,Below w.heap.size w W→Calls Tryz.prog 17 #[.pointer (some ⟨gC,0,none⟩),.int .i64 i] W fun e W'=>e=.returned (.pointer (some ⟨g,0,none⟩))∧Below W.heap.size W W')
  (KA:∀ W,Below w.heap.size w W→Calls Tryz.prog 71 #[.pointer (some ⟨g,0,none⟩),.agg (cmdL c).toArray] W fun e W'=>e=.returned (.int .i64 0)∧R1 W')
  (KO:∀ W,R1 W→Calls Tryz.prog 31 #[.pointer (some ⟨gC,0,none⟩),.int .i64 i] W fun e W'=>e=.returned (.tuple #[])∧R2 W') :
  Calls Tryz.prog 48 #[.pointer (some ⟨gC,0,none⟩),.agg (cmdL c).toArray,.int .i64 i] w fun e w'=>e=.returned (.tuple #[])∧R2 w':=by
 have KN:=qh KN;have KA:=qh KA;have KO:=qh KO
 have HB:=qh (Base.start w)
 go_enter Tryz.func48,Tryz.ntmps48
 go_upto_region 1 with (fail)
 go_name_world W hW
 have hW:allocs w [.cells (cmdL c:List Value).toArray 23]=W:=hW
 have HS:=qh (show Holds W (w.heap.size) 23 (cmdL c) from holds_allocs _ hW 0 rfl)
 have hbW:=below_allocs _ hW
 have hsW:=size_allocs _ hW
 simp only [List.length_cons,List.length_nil] at hsW
 clear hW
 have HB:=qh (HB.out.bel hbW)
 clear hbW hsW
 go_wp2_with fail
 refine (KN.out _ HB.out.below).mono ?_
 rintro e w1 ⟨rfl,hb⟩
 have HS:=qh (HS.out.bel hb)
 have HB:=qh (HB.out.bel hb)
 clear hb KN
 have HBB:=HB.out.below
 generalize w.heap.size=gS at HS ⊢
 have HR:=qh HS.out.range0
 go_wp2_with (first
  | (with_reducible show wpList _ _ _ (_ :: _) _ _;refine wpList_load_guarded (by kernel_rfl) 23 _ rfl gS 0 rfl (cmdL c) _ HR.out Tryz.underlying23 rfl (by kernel_rfl) ?_))
 refine (KA.out _ HBB).mono ?_
 rintro e w2 ⟨rfl,h1⟩
 have H1:=qh h1
 clear h1 HR HS HB KA
 go_wp2_with fail
 refine (KO.out _ H1.out).mono ?_
 rintro e w3 ⟨rfl,h3⟩
 have H3:=qh h3
 clear h3 H1 KO
 go_wp2_with fail
 exact bodyPost_end (v:=.tuple #[]) (by simp [results,Tryz.results48,go_sem]) rfl ⟨rfl,H3.out⟩
def BegR (g:Nat) (x:Cm) (tto:Nat) (L:List Value) (r:Bool) (w w':World):Prop:=(r=true∧L=cmdL x∧CAt w' g 1 1 ⟨x.k,1,1,x.a,x.b,x.o,x.v⟩ true tto 0∧Touch g w w'∧rightA x.k 1 1 x.a x.b x.o x.v=true∧x.k≠0)∨(r=false∧Below w.heap.size w w'∧(rightA x.k 1 1 x.a x.b x.o x.v=false∨x.k=0))
theorem BegR.size {g:Nat} {x:Cm} {tto:Nat} {L:List Value} {r:Bool} {w w':World} (h:BegR g x tto L r w w'):w.heap.size≤w'.heap.size:=by
 rcases h with⟨_,_,_,h,_⟩|⟨_,h,_⟩
 ·exact h.size
 ·exact h.size
theorem BegR.mv {g:Nat} {x:Cm} {tto:Nat} {L:List Value} {r:Bool} {w w':World} (h:BegR g x tto L r w w'):Mv (fun k=>k=g) w w':=by
 rcases h with⟨_,_,_,h,_⟩|⟨_,h,_⟩
 ·exact .of_touch h rfl
 ·exact .of_below h
theorem BegR.keep {g b:Nat} {x:Cm} {tto:Nat} {L:List Value} {r:Bool} {w w':World} {t:TypeId} {M:List Value} (h:BegR g x tto L r w w') (hb:Holds w b t M) (hn:b≠g):Holds w' b t M:=hb.mv h.mv hn
theorem begin1 (g:Nat) (x:Cm) (tto:Nat) (w:World) (h:CAt w g 1 0 Cm.zero false 0 0) (ht:tto<7) :
  Calls Tryz.prog 47 #[.pointer (some ⟨g,0,none⟩),.agg #[.int .i64 x.k,.int .i64 x.c,.int .i64 x.s,.string x.a,.string x.b,.string x.o,.string x.v],.int .i64 tto] w fun e w'=>∃ L r,e=.returned (.tuple #[.agg (L:List Value).toArray,.bool r])∧L.length=7∧(∀ u∈L,u.oneCell'=true)∧BegR g x tto L r w w':=by
 refine (begin_ok2 g 1 0 Cm.zero x 0 0 tto w h (by omega) (by omega)).mono ?_
 rintro e w' (⟨rfl,h1,h2,h3,h4⟩|⟨rfl,hb,hr⟩)
 ·exact⟨cmdL x,true,rfl,rfl,by simp [cmdL,Value.oneCell'],.inl ⟨rfl,rfl,h1,h2,h3,h4⟩⟩
 ·exact⟨Cm.zero.cells,false,rfl,rfl,by simp [Cm.zero,Cm.cells,Value.oneCell'],.inr ⟨rfl,hb,hr⟩⟩
def Called (gC gCa n tto:Nat) (gcl:Nat→Nat) (rA:List Value) (x:Cm) (dv nv clv cav lv:Value) (w W:World):Prop:=∃ hv ob,Holds W gC 85 (clusL n dv nv clv cav lv hv)∧OwnS W hv ob 55 14 1 (evL 1 x 0)∧(∀ k,ob=some k→w.heap.size≤k)∧Holds W gCa 23 (cmdL x++rA) ∧
 CAt W (gcl 0) 1 1 ⟨x.k,1,1,x.a,x.b,x.o,x.v⟩ true tto 0∧(rightA x.k 1 1 x.a x.b x.o x.v=true∧x.k≠0)∧Mv (fun k=>k=gC∨k=gCa∨k=gcl 0) w W
theorem ccall (gC gCl cCl gCa n tto:Nat) (gcl:Nat→Nat) (rC cs0 rA:List Value) (x:Cm) (dv nv lv:Value) (R:World→Prop) (w:World)
  (h:Holds w gC 85 (clusL n dv nv (.slice (some ⟨gCl,0,none⟩) 8 cCl) (.slice (some ⟨gCa,0,none⟩) 8 8) lv (.slice none 0 0))) (hC:Holds w gCl 92 (ptrs 8 gcl++rC)) (hX:CAt w (gcl 0) 1 0 Cm.zero false 0 0)
  (hA:Holds w gCa 23 (cs0++rA)) (hcs:cs0.length=7) (ht:tto<n) (hn:n≤7)
  (KM:∀ W,Called gC gCa n tto gcl rA x dv nv (.slice (some ⟨gCl,0,none⟩) 8 cCl) (.slice (some ⟨gCa,0,none⟩) 8 8) lv w W→Calls Tryz.prog 48 #[.pointer (some ⟨gC,0,none⟩),.agg (cmdL x).toArray,.int .i64 tto] W fun e W'=>e=.returned (.tuple #[])∧R W') :
  Calls Tryz.prog 26 #[.pointer (some ⟨gC,0,none⟩),.agg (stepC tto x).toArray] w fun e w'=>(e=.returned (.bool true)∧R w')∨(e=.returned (.bool false)∧Below w.heap.size w w'∧(rightA x.k 1 1 x.a x.b x.o x.v=false∨x.k=0)):=by
 have KM:=qh KM
 have KK:=qh (cknown 1 (by omega) (by omega))
 have KB:=qh (fun W (h:CAt W (gcl 0) 1 0 Cm.zero false 0 0)=>begin1 (gcl 0) x tto W h (by omega))
 have HC:=qh h;have HCL:=qh hC;have HX:=qh (show Holds w (gcl 0) 132 _ from hX);have HA:=qh hA
 have HC0:=HC;have HX0:=HX;have HA0:=HA
 have HB:=qh (Base.start w)
 have hti:(tto:Int)<(n:Int):=by omega
 have ht0:¬ ((tto:Int)<0):=by omega
 have hw0:IntKind.i64.wrap 0=0:=by kernel_rfl
 have hdn:decide (n≤tto)=false:=by simp;omega
 clear h hC hX hA
 go_enter Tryz.func26,Tryz.ntmps26
 go_upto_region 1 with (fail)
 go_name_world W hW
 have hW:allocs w [.cells (stepC tto x:List Value).toArray 32]=W:=hW
 have HS:=qh (show Holds W (w.heap.size) 32 (stepC tto x) from holds_allocs _ hW 0 rfl)
 have hbW:=below_allocs _ hW
 have hsW:=size_allocs _ hW
 simp only [List.length_cons,List.length_nil] at hsW
 clear hW
 have HC:=qh (HC.out.bel hbW)
 have HCL:=qh (HCL.out.bel hbW)
 have HX:=qh (HX.out.bel hbW)
 have HA:=qh (HA.out.bel hbW)
 have HB:=qh (HB.out.bel hbW)
 clear hbW hsW
 generalize hB0:w.heap.size=gS at HS HB ⊢
 have s1:=fun d os=>HS.out.grown d os 1
 have s3:=fun d os=>HS.out.grown d os 3
 have c0:=fun d os=>HC.out.grown d os 0
 simp only [stepC,clusL,yA,yB] at s1 s3 c0
 refine wp_region_quiet_below (by kernel_rfl) (by kernel_rfl) ?_
 repeat go_big_quiet_step (first
   | (go_at_call 37;with_reducible exact calls_regrown fun W _=>KK.out W))
 refine wpQuiet_nil ?_
 intro w2 hw'
 have hb2:=below_of_regrown hw'
 have HC:=qh (HC.out.bel hb2)
 have HCL:=qh (HCL.out.bel hb2)
 have HX:=qh (HX.out.bel hb2)
 have HA:=qh (HA.out.bel hb2)
 have HB:=qh (HB.out.bel hb2)
 have HS:=qh (HS.out.bel hb2)
 clear hw' hb2 s1 s3 c0 KK
 go_upto_region 3 with (fail)
 try simp only [hdn]
 have hgsx:gS≠gcl 0:=by have:=HX0.out.lt;omega
 go_cut [5,6] from 25 to 42 (fun y z wx=>∃ bx L r,y=.pointer (some ⟨bx,0,none⟩)∧z=.bool r∧L.length=7∧Holds wx bx 23 L∧Holds wx gS 32 (stepC tto x)∧∃ W W1,Below w.heap.size w W∧BegR (gcl 0) x tto L r W W1∧Touch bx W1 wx∧w.heap.size≤bx)
 case first=>
  have HC:=qh (HC.out.bel (t_drew _ w2))
  have HCL:=qh (HCL.out.bel (t_drew _ w2))
  have HX:=qh (HX.out.bel (t_drew _ w2))
  have HB:=qh (HB.out.bel (t_drew _ w2))
  have HS:=qh (HS.out.bel (t_drew _ w2))
  refine wp_region_noPanic ?_
  refine wp_region_late (S:=fun W'=>Below w2.drew.heap.size w2.drew W') (X0:=[13,18]) (by as_aux_lemma=>kernel_rfl) ?_
  generalize w2.drew=wd at HC HCL HX HB HS ⊢
  have hSn:Below wd.heap.size wd wd:=Below.refl _ _
  change wpAnyL _ _ _ _ _ _ 20 #[false,false,false,false,false,false,false,false,false,false,false,false,false,false,false,false,false,false,false,false] _ _
  refine mvA 0 (some 26) (fun _=>hSn) ?_
  simp only [Act.put,zA,zB,zC]
  refine mvA 1 (some 27) (fun _=>hSn) ?_
  simp only [Act.put,zA,zB,zC]
  refine mvA 2 (some 28) (fun _=>hSn) ?_
  simp only [Act.put,zA,zB,zC]
  refine tkA 3 [7,8,13,14,15,16,18,19] (some 29) (?vg4) rfl (Or.inl ⟨by rfl,?hg4⟩) hSn ?rg4
  case hg4=>
   intro w hSw
   have b3:=(HC.out.bel hSw).cell 3
   simp only [clusL,yA,yB] at b3
   go_simp
   try with_reducible rfl
  simp only [Act.put,zA,zB,zC]
  refine mvA 4 (some 30) (fun _=>hSn) ?_
  simp only [Act.put,zA,zB,zC]
  refine tkA 5 [6,7,8,13,14,15,16,18,19] (some 31) (?vg6) rfl (Or.inl ⟨by rfl,?hg6⟩) hSn ?rg6
  case hg6=>
   intro w hSw
   have b3:=(HS.out.bel hSw).cell 3
   simp only [stepC,yA,yB] at b3
   go_simp
   try with_reducible rfl
  simp only [Act.put,zA,zB,zC]
  refine mvA 6 (some 32) (fun _=>hSn) ?_
  simp only [Act.put,zA,zB,zC]
  refine mvA 7 (some 33) (fun _=>hSn) ?_
  simp only [Act.put,zA,zB,zC]
  refine tkA 8 [13,14,15,16,18,19] (some 34) (?vg9) rfl (Or.inl ⟨by rfl,?hg9⟩) hSn ?rg9
  case hg9=>
   intro w hSw
   have bp:=(HCL.out.bel hSw).cell 0
   rw [ptrs_at 8 gcl rC 0 (by omega)] at bp
   go_simp
   try with_reducible rfl
  simp only [Act.put,zA,zB,zC]
  refine mvA 9 (some 35) (fun _=>hSn) ?_
  simp only [Act.put,zA,zB,zC]
  refine tkA 10 [13,14,15,16,18,19] (some 36) (?vg11) rfl (Or.inl ⟨by rfl,?hg11⟩) hSn ?rg11
  case hg11=>
   intro w hSw
   have b4:=(HS.out.bel hSw).cell 4
   have b5:=(HS.out.bel hSw).cell 5
   have b6:=(HS.out.bel hSw).cell 6
   have b7:=(HS.out.bel hSw).cell 7
   have b8:=(HS.out.bel hSw).cell 8
   have b9:=(HS.out.bel hSw).cell 9
   have b10:=(HS.out.bel hSw).cell 10
   simp only [stepC,yA,yB] at b4 b5 b6 b7 b8 b9 b10
   go_simp
   try with_reducible rfl
  simp only [Act.put,zA,zB,zC]
  refine mvA 11 (some 37) (fun _=>hSn) ?_
  simp only [Act.put,zA,zB,zC]
  refine tkA 12 [13,14,15,16,18,19] (some 38) (?vg13) rfl (Or.inl ⟨by rfl,?hg13⟩) hSn ?rg13
  case hg13=>
   intro w hSw
   have b1:=(HS.out.bel hSw).cell 1
   simp only [stepC,yA,yB] at b1
   go_simp
   try with_reducible rfl
  simp only [Act.put,zA,zB,zC]
  refine rdA [13,17] (AllReadyL.cons rfl (fun K hK=>?_) (AllReadyL.cons rfl (fun K hK=>?_) (AllReadyL.nil)))
  ·skip
   go_simp
   have hSW:=hSn
   refine (KB.out _ (HX.out.bel hSn)).mono ?_
   rintro e wp ⟨L,r,rfl,hL7,hL1,hbr⟩
   have HBR:=qh hbr
   have HS1:=qh (hbr.keep (HS.out.bel hSn) hgsx)
   have hbs:=hbr.size
   try (have HZ1:=qh (hbr.keep HZ.out (fun he=>hgbx (he.trans rfl))))
   clear hbr
   refine hK.out _ _ nlA ?_
   clear hK
   try simp only [Act.put,zA,zB,zC]
   refine mvA 14 (some 25) nlA ?_
   simp only [Act.put,zA,zB,zC]
   refine mvA 15 (some 40) nlA ?_
   simp only [Act.put,zA,zB,zC]
   refine mvA 16 (some 41) nlA ?_
   simp only [Act.put,zA,zB,zC]
   refine rd1 17 rfl (fun K hK=>?_)
   go_simp
   have hal:=fun o=>Below.alloc hSn hSn.size o
   first|(refine hK.out _ _ (fun _=>hal _) ?_;have hSn:=hal (.cells #[.int .i64 0,.int .i64 0,.int .i64 0,.string ⟨#[]⟩,.string ⟨#[]⟩,.string ⟨#[]⟩,.string ⟨#[]⟩] 23);have HZ:=qh (holds_alloc wd 23 [.int .i64 0,.int .i64 0,.int .i64 0,.string ⟨#[]⟩,.string ⟨#[]⟩,.string ⟨#[]⟩,.string ⟨#[]⟩]);have hgbx:wd.heap.size≠gcl 0:=Ne.symm (Nat.ne_of_lt HX.out.lt);change wpAnyL _ _ _ _ _ _ _ _ _ (wd.alloc (.cells #[.int .i64 0,.int .i64 0,.int .i64 0,.string ⟨#[]⟩,.string ⟨#[]⟩,.string ⟨#[]⟩,.string ⟨#[]⟩] 23));generalize hwc:wd.alloc (.cells #[.int .i64 0,.int .i64 0,.int .i64 0,.string ⟨#[]⟩,.string ⟨#[]⟩,.string ⟨#[]⟩,.string ⟨#[]⟩] 23)=wc at hSn HZ ⊢)|(refine hK.out _ _ nlA ?_;have HZ1:=qh (holds_alloc wp 23 [.int .i64 0,.int .i64 0,.int .i64 0,.string ⟨#[]⟩,.string ⟨#[]⟩,.string ⟨#[]⟩,.string ⟨#[]⟩]);have hbal:=(Below.refl wp.heap.size wp).alloc (Nat.le_refl _) (.cells #[.int .i64 0,.int .i64 0,.int .i64 0,.string ⟨#[]⟩,.string ⟨#[]⟩,.string ⟨#[]⟩,.string ⟨#[]⟩] 23);change wpAnyL _ _ _ _ _ _ _ _ _ (wp.alloc (.cells #[.int .i64 0,.int .i64 0,.int .i64 0,.string ⟨#[]⟩,.string ⟨#[]⟩,.string ⟨#[]⟩,.string ⟨#[]⟩] 23));generalize hwc:wp.alloc (.cells #[.int .i64 0,.int .i64 0,.int .i64 0,.string ⟨#[]⟩,.string ⟨#[]⟩,.string ⟨#[]⟩,.string ⟨#[]⟩] 23)=wc at HZ1 hbal ⊢)
   clear hK
   try simp only [Act.put,zA,zB,zC]
   refine rd1 18 rfl (fun K hK=>?_)
   refine step_store_box rfl 23 (.tmp 5) (.tmp 40) _ [.int .i64 0,.int .i64 0,.int .i64 0,.string ⟨#[]⟩,.string ⟨#[]⟩,.string ⟨#[]⟩,.string ⟨#[]⟩] L rfl rfl rfl rfl HZ1.out (by rw [hL7];kernel_rfl) (by rw [hL7];rfl) (all_of hL1) ?_
   intro wf hhf htf
   refine hK.out _ _ nlA ?_
   clear hK
   try simp only [Act.put,zA,zB,zC]
   refine mvA 19 (some 6) nlA ?_
   simp only [Act.put,zA,zB,zC]
   refine dnA (NoPanic.normal ?_)
   go_wp2_with fail
   go_meet
   have hgsl:=HS.out.lt
   subst hB0
   first|exact⟨_,L,r,rfl,rfl,hL7,hhf,(HS1.out.bel hbal).touch htf (by omega),wd,wp,HB.out.below,HBR.out,(Touch.bel (Touch.refl _ wp) hbal).trans htf,Nat.le_trans HB.out.le hbs⟩|exact⟨_,L,r,rfl,rfl,hL7,hhf,HS1.out.touch htf (by omega),wc,wp,(HB.out.bel hSW).below,HBR.out,htf,HB.out.le⟩
  ·skip
   go_simp
   have hal:=fun o=>Below.alloc hSn hSn.size o
   first|(refine hK.out _ _ (fun _=>hal _) ?_;have hSn:=hal (.cells #[.int .i64 0,.int .i64 0,.int .i64 0,.string ⟨#[]⟩,.string ⟨#[]⟩,.string ⟨#[]⟩,.string ⟨#[]⟩] 23);have HZ:=qh (holds_alloc wd 23 [.int .i64 0,.int .i64 0,.int .i64 0,.string ⟨#[]⟩,.string ⟨#[]⟩,.string ⟨#[]⟩,.string ⟨#[]⟩]);have hgbx:wd.heap.size≠gcl 0:=Ne.symm (Nat.ne_of_lt HX.out.lt);change wpAnyL _ _ _ _ _ _ _ _ _ (wd.alloc (.cells #[.int .i64 0,.int .i64 0,.int .i64 0,.string ⟨#[]⟩,.string ⟨#[]⟩,.string ⟨#[]⟩,.string ⟨#[]⟩] 23));generalize hwc:wd.alloc (.cells #[.int .i64 0,.int .i64 0,.int .i64 0,.string ⟨#[]⟩,.string ⟨#[]⟩,.string ⟨#[]⟩,.string ⟨#[]⟩] 23)=wc at hSn HZ ⊢)|(refine hK.out _ _ nlA ?_;have HZ1:=qh (holds_alloc wp 23 [.int .i64 0,.int .i64 0,.int .i64 0,.string ⟨#[]⟩,.string ⟨#[]⟩,.string ⟨#[]⟩,.string ⟨#[]⟩]);have hbal:=(Below.refl wp.heap.size wp).alloc (Nat.le_refl _) (.cells #[.int .i64 0,.int .i64 0,.int .i64 0,.string ⟨#[]⟩,.string ⟨#[]⟩,.string ⟨#[]⟩,.string ⟨#[]⟩] 23);change wpAnyL _ _ _ _ _ _ _ _ _ (wp.alloc (.cells #[.int .i64 0,.int .i64 0,.int .i64 0,.string ⟨#[]⟩,.string ⟨#[]⟩,.string ⟨#[]⟩,.string ⟨#[]⟩] 23));generalize hwc:wp.alloc (.cells #[.int .i64 0,.int .i64 0,.int .i64 0,.string ⟨#[]⟩,.string ⟨#[]⟩,.string ⟨#[]⟩,.string ⟨#[]⟩] 23)=wc at HZ1 hbal ⊢)
   clear hK
   try simp only [Act.put,zA,zB,zC]
   refine rd1 13 rfl (fun K hK=>?_)
   go_simp
   have hSW:=hSn
   refine (KB.out _ (HX.out.bel hSn)).mono ?_
   rintro e wp ⟨L,r,rfl,hL7,hL1,hbr⟩
   have HBR:=qh hbr
   have HS1:=qh (hbr.keep (HS.out.bel hSn) hgsx)
   have hbs:=hbr.size
   try (have HZ1:=qh (hbr.keep HZ.out (fun he=>hgbx (he.trans rfl))))
   clear hbr
   refine hK.out _ _ nlA ?_
   clear hK
   try simp only [Act.put,zA,zB,zC]
   refine mvA 14 (some 25) nlA ?_
   simp only [Act.put,zA,zB,zC]
   refine mvA 15 (some 40) nlA ?_
   simp only [Act.put,zA,zB,zC]
   refine mvA 16 (some 41) nlA ?_
   simp only [Act.put,zA,zB,zC]
   refine rd1 18 rfl (fun K hK=>?_)
   refine step_store_box rfl 23 (.tmp 5) (.tmp 40) _ [.int .i64 0,.int .i64 0,.int .i64 0,.string ⟨#[]⟩,.string ⟨#[]⟩,.string ⟨#[]⟩,.string ⟨#[]⟩] L rfl rfl rfl rfl HZ1.out (by rw [hL7];kernel_rfl) (by rw [hL7];rfl) (all_of hL1) ?_
   intro wf hhf htf
   refine hK.out _ _ nlA ?_
   clear hK
   try simp only [Act.put,zA,zB,zC]
   refine mvA 19 (some 6) nlA ?_
   simp only [Act.put,zA,zB,zC]
   refine dnA (NoPanic.normal ?_)
   go_wp2_with fail
   go_meet
   have hgsl:=HS.out.lt
   subst hB0
   first|exact⟨_,L,r,rfl,rfl,hL7,hhf,(HS1.out.bel hbal).touch htf (by omega),wd,wp,HB.out.below,HBR.out,(Touch.bel (Touch.refl _ wp) hbal).trans htf,Nat.le_trans HB.out.le hbs⟩|exact⟨_,L,r,rfl,rfl,hL7,hhf,HS1.out.touch htf (by omega),wc,wp,(HB.out.bel hSW).below,HBR.out,htf,HB.out.le⟩
 case rest=>
  obtain⟨bx,L,r,rfl,rfl,hL7,hbx,hss,W,W1,hbW,hbr,htx,hbxw⟩:=hcut
  rcases hbr with⟨rfl,rfl,hcat,ht1,hra⟩|⟨rfl,hb1,hnr⟩
  ·have hrk:=qh hra
   have hmA:Mv (fun k=>k=gcl 0) w wc:=(((Mv.of_below hbW).mv (Mv.of_touch ht1 rfl:Mv (fun k=>k=gcl 0) W W1) (fun k hk=>.inl hk)).mv (Mv.of_touch htx rfl:Mv (fun k=>k=bx) W1 wc) (fun k hk=>.inr (hk▸hbxw)))
   have hl0:=HX0.out.lt
   have hlA:=HA0.out.lt
   have hlC:=HC0.out.lt
   have dA:gC≠gCa∧gcl 0≠gCa∧bx≠gCa∧gS≠gCa:=⟨HC0.out.ne_of HA0.out (by decide),HX0.out.ne_of HA0.out (by decide),by omega,by omega⟩
   have dC:gCa≠gC∧gcl 0≠gC∧bx≠gC∧gS≠gC:=⟨Ne.symm dA.1,HX0.out.ne_of HC0.out (by decide),by omega,by omega⟩
   have HC1:=qh (HC0.out.mv hmA (HC0.out.ne_of HX0.out (by decide)))
   have HA1:=qh (HA0.out.mv hmA (HA0.out.ne_of HX0.out (by decide)))
   have HX1:=qh (show Holds wc (gcl 0) 132 (clientCells 1 1 ⟨x.k,1,1,x.a,x.b,x.o,x.v⟩ true tto 0) from hcat.mv (Mv.of_touch htx rfl:Mv (fun k=>k=bx) W1 wc) (by omega))
   have HBX:=qh hbx;have HS2:=qh hss
   have HM:=qh (hmA.more (G:=fun k=>k=gC∨k=gCa∨k=gcl 0) (fun k hk=>.inr (.inr hk)))
   have hspl:splice (cs0++rA) 0 (cmdL x)=cmdL x++rA:=by
    unfold splice
    rw [List.take_zero,List.nil_append,show 0+(cmdL x).length=cs0.length from hcs.symm,List.drop_left]
   clear hss hbx hcat ht1 hra hmA htx HC HX HA HS HB HC0 HX0 HA0 HCL KB
   have HC:=HC1;have HA:=HA1;have HX:=HX1;have HS:=HS2
   clear HC1 HA1 HX1 HS2
   go_upto_region 6 with (fail)
   have HC:=qh (HC.out.bel (t_drew _ wc))
   have HA:=qh (HA.out.bel (t_drew _ wc))
   have HX:=qh (HX.out.bel (t_drew _ wc))
   have HBX:=qh (HBX.out.bel (t_drew _ wc))
   have HS:=qh (HS.out.bel (t_drew _ wc))
   have HM:=qh (HM.out.bel (t_drew _ wc))
   refine wp_region_noPanic ?_
   refine wp_region_late (S:=fun W'=>Below wc.drew.heap.size wc.drew W') (X0:=[9]) (by as_aux_lemma=>kernel_rfl) ?_
   generalize wc.drew=wd at HC HA HX HBX HS HM ⊢
   have hSn:Below wd.heap.size wd wd:=Below.refl _ _
   change wpAnyL _ _ _ _ _ _ 10 #[false,false,false,false,false,false,false,false,false,false] _ _
   refine mvA 0 (some 44) (fun _=>hSn) ?_
   simp only [Act.put,zA,zB,zC]
   refine mvA 1 (some 45) (fun _=>hSn) ?_
   simp only [Act.put,zA,zB,zC]
   refine mvA 2 (some 46) (fun _=>hSn) ?_
   simp only [Act.put,zA,zB,zC]
   refine tkA 3 [8,9] (some 47) (?vg25) rfl (Or.inl ⟨by rfl,?hg25⟩) hSn ?rg25
   case hg25=>
    intro w hSw
    have b4:=(HC.out.bel hSw).cell 4
    simp only [clusL,yA,yB] at b4
    go_simp
    try with_reducible rfl
   simp only [Act.put,zA,zB,zC]
   refine mvA 4 (some 48) (fun _=>hSn) ?_
   simp only [Act.put,zA,zB,zC]
   refine tkA 5 [6,8,9] (some 49) (?vg27) rfl (Or.inl ⟨by rfl,?hg27⟩) hSn ?rg27
   case hg27=>
    intro w hSw
    have b3:=(HS.out.bel hSw).cell 3
    simp only [stepC,yA,yB] at b3
    go_simp
    try with_reducible rfl
   simp only [Act.put,zA,zB,zC]
   refine mvA 6 (some 50) (fun _=>hSn) ?_
   simp only [Act.put,zA,zB,zC]
   refine tkA 7 [8,9] (some 51) (?vg29) rfl (Or.inl ⟨by rfl,?hg29⟩) hSn ?rg29
   case hg29=>
    intro w hSw
    have b0:=(HBX.out.bel hSw).cell 0
    have b1:=(HBX.out.bel hSw).cell 1
    have b2:=(HBX.out.bel hSw).cell 2
    have b3:=(HBX.out.bel hSw).cell 3
    have b4:=(HBX.out.bel hSw).cell 4
    have b5:=(HBX.out.bel hSw).cell 5
    have b6:=(HBX.out.bel hSw).cell 6
    simp only [cmdL,yA,yB] at b0 b1 b2 b3 b4 b5 b6
    go_simp
    try with_reducible rfl
   simp only [Act.put,zA,zB,zC]
   refine mvA 8 (some 52) (fun _=>hSn) ?_
   simp only [Act.put,zA,zB,zC]
   refine rd1 9 rfl (fun K hK=>?_)
   refine step_store_spl rfl 23 (.tmp 52) (.tmp 51) rfl rfl gCa 0 _ 23 (HA.out.bel hSn) rfl (cmdL x) rfl (by kernel_rfl) (by rw [List.length_append,hcs];simp [cmdL]) (by simp [cmdL,Value.oneCell']) ?_
   intro w6 hh6 ht6
   have hm6:Mv (fun k=>k=gCa) _ w6:=Mv.of_touch ht6 rfl
   have HA:=qh (show Holds w6 gCa 23 (cmdL x++rA) from hspl▸hh6)
   have HC:=qh ((HC.out.bel hSn).mv hm6 dA.1)
   have HX:=qh ((HX.out.bel hSn).mv hm6 dA.2.1)
   have HBX:=qh ((HBX.out.bel hSn).mv hm6 dA.2.2.1)
   have HS:=qh ((HS.out.bel hSn).mv hm6 dA.2.2.2)
   have HM:=qh ((HM.out.bel hSn).mv hm6 (fun k hk=>.inl (.inr (.inl hk))))
   clear hh6 ht6 hm6
   refine hK.out _ _ nlA ?_
   clear hK
   try simp only [Act.put,zA,zB,zC]
   refine dnA (NoPanic.normal ?_)
   clear hSn
   go_upto_region 7 with (fail)
   have HC:=qh (HC.out.bel (t_drew _ w6))
   have HA:=qh (HA.out.bel (t_drew _ w6))
   have HX:=qh (HX.out.bel (t_drew _ w6))
   have HBX:=qh (HBX.out.bel (t_drew _ w6))
   have HS:=qh (HS.out.bel (t_drew _ w6))
   have HM:=qh (HM.out.bel (t_drew _ w6))
   refine wp_region_noPanic ?_
   refine wp_region_late (S:=fun W'=>Below w6.drew.heap.size w6.drew W') (X0:=[10,13]) (by as_aux_lemma=>kernel_rfl) ?_
   generalize w6.drew=wd at HC HA HX HBX HS HM ⊢
   have hSn:Below wd.heap.size wd wd:=Below.refl _ _
   change wpAnyL _ _ _ _ _ _ 14 #[false,false,false,false,false,false,false,false,false,false,false,false,false,false] _ _
   refine mvA 0 (some 53) (fun _=>hSn) ?_
   simp only [Act.put,zA,zB,zC]
   refine mvA 1 (some 54) (fun _=>hSn) ?_
   simp only [Act.put,zA,zB,zC]
   refine mvA 2 (some 55) (fun _=>hSn) ?_
   simp only [Act.put,zA,zB,zC]
   refine mvA 3 (some 56) (fun _=>hSn) ?_
   simp only [Act.put,zA,zB,zC]
   refine tkA 4 [10,11,12,13] (some 57) (?vg35) rfl (Or.inl ⟨by rfl,?hg35⟩) hSn ?rg35
   case hg35=>
    intro w hSw
    have b6:=(HC.out.bel hSw).cell 6
    simp only [clusL,yA,yB] at b6
    go_simp
    try with_reducible rfl
   simp only [Act.put,zA,zB,zC]
   refine mvA 5 (some 58) (fun _=>hSn) ?_
   simp only [Act.put,zA,zB,zC]
   refine tkA 6 [8,9,10,11,12,13] (some 59) (?vg37) rfl (Or.inl ⟨by rfl,?hg37⟩) hSn ?rg37
   case hg37=>
    intro w hSw
    have b3:=(HS.out.bel hSw).cell 3
    simp only [stepC,yA,yB] at b3
    go_simp
    try with_reducible rfl
   simp only [Act.put,zA,zB,zC]
   refine tkA 7 [8,9,10,11,12,13] (some 60) (?vg38) rfl (Or.inl ⟨by rfl,?hg38⟩) hSn ?rg38
   case hg38=>
    intro w hSw
    have b0:=(HBX.out.bel hSw).cell 0
    have b1:=(HBX.out.bel hSw).cell 1
    have b2:=(HBX.out.bel hSw).cell 2
    have b3:=(HBX.out.bel hSw).cell 3
    have b4:=(HBX.out.bel hSw).cell 4
    have b5:=(HBX.out.bel hSw).cell 5
    have b6:=(HBX.out.bel hSw).cell 6
    simp only [cmdL,yA,yB] at b0 b1 b2 b3 b4 b5 b6
    go_simp
    try with_reducible rfl
   simp only [Act.put,zA,zB,zC]
   refine mvA 8 (some 61) (fun _=>hSn) ?_
   simp only [Act.put,zA,zB,zC]
   refine rd1 9 rfl (fun K hK=>?_)
   refine step_build1 rfl 48 55 (.agg (evL 1 x 0).toArray) (evL 1 x 0) rfl rfl rfl (fun w=>by kernel_rfl) ?_
   intro wa hna hba
   have hSn:=below_next hSn hba
   have HNA:=qh hna
   generalize wd.heap.size=gn at HNA ⊢
   have HC:=qh (HC.out.bel hSn)
   have HA:=qh (HA.out.bel hSn)
   have HX:=qh (HX.out.bel hSn)
   have HBX:=qh (HBX.out.bel hSn)
   have HS:=qh (HS.out.bel hSn)
   have HM:=qh (HM.out.bel hSn)
   clear hna hba
   change K (Act.put _ (some 62) _) _
   refine hK.out _ _ (fun _=>hSn) ?_
   clear hK
   try simp only [Act.put,zA,zB,zC]
   refine rd1 10 rfl (fun K hK=>?_)
   refine step_append_s rfl (.tmp 57) (.tmp 62) 48 rfl 55 (.agg evZ.toArray) 14 168 rfl (by kernel_rfl) rfl (by decide) _ none 0 [] rfl (OwnS.nil _ _ _) _ 1 1 (evL 1 x 0) rfl rfl (HNA.out.reads 0 _ (fun j v hv=>by rw [Nat.zero_add];exact hv)) (by decide) (evL_one 1 x 0) (by unfold maxLen;omega) (by omega) ?_
   intro v9 ob9 w9 ho9 hob9 hm9
   have hle9:=HM.out.size
   have hn9:∀ k:Nat,(none:Option Nat)=some k→False:=(fun k hk=>by cases hk)
   have HC9:=qh (HC.out.mv hm9 (fun hf=>hn9 _ hf))
   have HA9:=qh (HA.out.mv hm9 (fun hf=>hn9 _ hf))
   have HX9:=qh (HX.out.mv hm9 (fun hf=>hn9 _ hf))
   have HBX9:=qh (HBX.out.mv hm9 (fun hf=>hn9 _ hf))
   have HS9:=qh (HS.out.mv hm9 (fun hf=>hn9 _ hf))
   have HM9:=qh (HM.out.mv hm9 (fun k hk=>(hn9 k hk).elim))
   have HO9:=qh (show OwnS w9 v9 ob9 55 14 1 (evL 1 x 0) from ho9)
   have hob8:∀ k,ob9=some k→w.heap.size≤k:=(fun k hk=>by rcases hob9 with h|⟨k2,h,h2⟩<;>rw [h] at hk<;>cases hk;omega)
   clear ho9 hob9 hm9
   change K (Act.put _ (some 63) _) _
   refine hK.out _ _ nlA ?_
   clear hK
   try simp only [Act.put,zA,zB,zC]
   refine mvA 11 (some 64) nlA ?_
   simp only [Act.put,zA,zB,zC]
   refine mvA 12 (some 65) nlA ?_
   simp only [Act.put,zA,zB,zC]
   refine rd1 13 rfl (fun K hK=>?_)
   refine step_store_cell rfl 48 (.tmp 65) (.tmp 63) rfl rfl gC 6 85 _ HC9.out (by simp [clusL]) rfl v9 rfl (by rcases HO9.out.cases with⟨r,_⟩|⟨_,_,_,r,_⟩<;>rw [r]<;>rfl) (by kernel_rfl) (by rcases HO9.out.cases with⟨r,_⟩|⟨_,_,_,r,_⟩<;>rw [r]<;>rfl) ?_
   intro w10 hh10 ht10
   have hm10:Mv (fun k=>k=gC) w9 w10:=Mv.of_touch ht10 rfl
   have HS:=qh (HS9.out.mv hm10 dC.2.2.2)
   have HBX:=qh (HBX9.out.mv hm10 dC.2.2.1)
   have HCD:=qh (show Called gC gCa n tto gcl rA x dv nv (.slice (some ⟨gCl,0,none⟩) 8 cCl) (.slice (some ⟨gCa,0,none⟩) 8 8) lv w w10 from ⟨v9,ob9,hh10,HO9.out.mv hm10 (fun k hk hf=>by have:=hob8 k hk;omega),hob8,HA9.out.mv hm10 dC.1,HX9.out.mv hm10 dC.2.1,hrk.out,HM9.out.mv hm10 (fun k hk=>.inl (.inl hk))⟩)
   clear hh10 ht10 hm10
   refine hK.out _ _ nlA ?_
   clear hK
   try simp only [Act.put,zA,zB,zC]
   refine dnA (NoPanic.normal ?_)
   clear hSn HC HA HX HM HC9 HA9 HX9 HBX9 HS9 HM9 HO9 HNA
   have s1:=HS.out.cell 1
   simp only [stepC,yA,yB] at s1
   have HRB:=qh HBX.out.range0
   go_wp2_with (first
    | (with_reducible show wpList _ _ _ (_ :: _) _ _;refine wpList_load_guarded (by kernel_rfl) 23 _ rfl bx 0 rfl (cmdL x) _ HRB.out Tryz.underlying23 rfl (by kernel_rfl) ?_))
   refine (KM.out _ HCD.out).mono ?_
   rintro e w12 ⟨rfl,h9⟩
   have H9:=qh h9
   clear h9 s1 HRB HS HBX HCD KM
   go_wp2_with fail
   go_ret
   exact .inl ⟨rfl,H9.out⟩
  ·have hbb:Below w.heap.size w wc:=(hbW.trans (hb1.mono hbW.size)).trans (htx.below hbxw (Nat.le_trans hbW.size hb1.size))
   have HBB:=qh hbb;have HNR:=qh hnr
   clear hnr hbb hb1 htx hbW hbx hss HC HX HA HS HB HC0 HX0 HA0 HCL KB KM
   go_wp2_with fail
   go_ret
   exact .inr ⟨rfl,hB0▸HBB.out,HNR.out⟩
end
section
open Go.RowKit Go.Maps
theorem NodeC.more {w:World} {F:Foot} {g n me q:Nat} {c:Cm} {ph:Ph} {out:List Lt} {an:Bool} {tk:Nat} (h:NodeC w F g n me q c ph out an tk):NodeC w F g n me q c ph out an (tk+1):=by
 obtain⟨t,ht,h⟩:=h
 exact⟨t,by omega,h⟩
theorem tickS_ph {i:Nat} {s s':Cs} (h:tickS i s=some s'):s.tk<5∧∃ ph',tickPh (s.phs.getD i .com)=some ph'∧s'.lets=s.lets∧s'.hist=s.hist∧s'.wait=s.wait∧s'.tk=s.tk+1∧s'.phs.length=s.phs.length∧∀ j,i<s.phs.length→s'.phs.getD j .fresh=if j=i then ph' else s.phs.getD j .fresh:=by
 unfold tickS at h
 split at h
 ·cases h
 rename_i htk
 refine⟨by omega,?_⟩
 split at h
 ·rename_i he
  simp only [Option.some.injEq] at h
  subst h
  refine⟨.fresh,by rw [he];rfl,rfl,rfl,rfl,rfl,rfl,fun j hi=>?_⟩
  split
  ·rename_i hj
   subst hj
   show s.phs.getD j .fresh=.fresh
   rw [List.getD_eq_getElem?_getD,List.getElem?_eq_getElem hi] at he ⊢
   exact he
  ·rfl
 ·rename_i A he
  simp only [Option.some.injEq] at h
  subst h
  refine⟨.lead A 1,by rw [he];rfl,rfl,rfl,rfl,rfl,by simp,fun j hi=>?_⟩
  split
  ·rename_i hj
   subst hj
   simp [List.getD_eq_getElem?_getD,hi]
  ·rename_i hj
   simp [List.getD_eq_getElem?_getD,List.getElem?_set,Ne.symm hj]
 ·cases h
theorem tick_ok (w:World) (own:Nat→Nat) (gC n q i:Nat) (c:Cm) (s s':Cs) (h:ClSt w own gC n q c s) (hs:tickS i s=some s') (hi:i<n) (hlen:s.lets.length≤1000) (hn3:3≤n) (hn:n≤7) (hq:q<n) (hc:CmOk c) (h1:c.c=1) (h2:c.s=1) :
  Calls Tryz.prog 11 #[.pointer (some ⟨gC,0,none⟩),.agg (stepL 5 i).toArray] w fun e w'=>e=.returned (.bool true)∧∃ own',ClSt w' own' gC n q c s'∧Stepped w own w' own':=by
 obtain⟨htk,ph',hph,e1,e2,e3,e4,e5,e6⟩:=tickS_ph hs
 obtain⟨dv,gN,cN,gCl,cCl,gCa,lv,hvv,gs,gcl,hB,hN,hp⟩:=h
 have hip:i<s.phs.length:=by omega
 have hph2:tickPh (s.phs.getD i .fresh)=some ph':=by
  rw [List.getD_eq_getElem?_getD,List.getElem?_eq_getElem hip] at hph ⊢
  exact hph
 obtain⟨rN,hnp⟩:=hB.np
 have hol:=hB.lt
 refine (cdo_tick gC i (gs i) (fun W'=>∃ own2,ClSt W' own2 gC n q c s'∧Stepped w own W' own2) (fun W'=>∃ own',ClSt W' own' gC n q c s'∧Stepped w own W' own') w (fun W hb=>cnode gC n gN cN i gs rN dv _ _ lv hvv W (hB.cl.bel hb) (hnp.bel hb) hi) (fun W hb=>?_) (fun W hR=>?_)).mono ?_
 ·have hsz:=hb.size
  have hB2:ClB W own gC n q c s.lets s.hist s.wait dv gN cN gCl cCl gCa lv hvv gs gcl:=hB.mv (G:=fun _=>False) (.of_below hb) (fun _ h=>h.elim) (fun _ _=>rfl) (fun k hk=>Nat.lt_of_lt_of_le (hol k hk) hsz)
  have hN2:NodesAt W own n q c s.phs s.tk gs (fun _=>[]) (fun _=>false):=hN.mv (G:=fun _=>False) (.of_below hb) (fun _ h=>h.elim) (fun _ _=>rfl)
  refine (node_tick W (fun k=>own k=2+i) (gs i) n i q c _ ph' s.tk (hN2 i hi) hph2 htk hn3 hn hq hi hc h1 h2).mono ?_
  rintro e W' ⟨rfl,hnc,hm⟩
  have hs3:=hm.size
  have hold:∀ k,k<W.heap.size→ownAll own W W' (2+i) k=own k:=fun k hk=>ownAll_old _ _ _ _ _ hk
  refine⟨rfl,⟨ownAll own W W' (2+i),⟨dv,gN,cN,gCl,cCl,gCa,lv,hvv,gs,gcl,?_,fun j hj=>?_,by omega⟩,fun k hk=>hold k (by omega),(Mv.of_below hb).mv hm fun k hk=>.inl (by omega)⟩,fun g L hg hL=>hL.mv hm fun hx=>?_⟩
  ·rw [e1,e2,e3]
   exact hB2.mv hm (fun k hk _=>by omega) hold (ownAll_lt hB2.lt hs3)
  ·rw [e6 j hip,e4]
   by_cases hj2:j=i
   ·subst hj2
    rw [if_pos rfl]
    exact hnc.foot fun k hk hkl=>by
     rcases hk with hk|⟨h5,h6⟩
     ·rw [hold k (Nat.lt_of_lt_of_le (hol k (by omega)) hsz)]
      exact hk
     ·exact ownAll_new _ _ _ _ _ h5 h6
   ·rw [if_neg hj2]
    have h8:NodeC W' (fun k=>own k=2+j) (gs j) n j q c (s.phs.getD j .fresh) [] false s.tk:=(hN2 j hj).mv hm fun k hk _ hf2=>by omega
    exact h8.more.foot fun k hk hkl=>by
     rw [hold k (Nat.lt_of_lt_of_le (hol k (by omega)) hsz)]
     exact hk
  ·have:=hol g (by omega)
   omega
 ·obtain⟨own2,hG,hsp⟩:=hR
  refine (out_ok0 W own2 gC n q i c s' [] _ _ hG hi rfl (fun j hj=>rfl) (fun j=>rfl) (by simp) (by rw [e1];simpa using hlen)).mono ?_
  rintro e w' ⟨rfl,own',h5,h6⟩
  exact⟨rfl,own',by simpa using h5,hsp.trans h6⟩
 ·rintro e w' ⟨rfl,h9⟩
  exact⟨rfl,h9⟩
theorem do_give (w:World) (own:Nat→Nat) (gC n q:Nat) (c:Cm) (s s':Cs) (h:ClSt w own gC n q c s) (hs:giveS n q s=some s') (hlen:s.lets.length≤1000) (hn3:3≤n) (hn:n≤7) (hq:q<n) (hc:CmOk c) (h1:c.c=1) (h2:c.s=1) :
  Calls Tryz.prog 11 #[.pointer (some ⟨gC,0,none⟩),.agg (stepL 2 0).toArray] w fun e w'=>e=.returned (.bool true)∧∃ own',ClSt w' own' gC n q c s'∧Stepped w own w' own':=by
 refine cdo_give gC true (fun w'=>∃ own',ClSt w' own' gC n q c s'∧Stepped w own w' own') w fun W hb=>?_
 refine (give_ok W own gC n q c s s' (ClG.bel h hb) hs hlen hn3 hn hq hc h1 h2).mono ?_
 rintro e w' ⟨rfl,own',h5,h6⟩
 exact⟨rfl,own',h5,fun k hk=>h6.1 k (Nat.lt_of_lt_of_le hk hb.size),(Mv.of_below hb).mv h6.2 fun k hk=>.inl hk⟩
theorem do_lose (w:World) (own:Nat→Nat) (gC n q:Nat) (c:Cm) (s s':Cs) (h:ClSt w own gC n q c s) (hs:loseS s=some s') (hv:∀ m∈s.lets,m.2.2<n) (hlen:s.lets.length≤1000) :
  Calls Tryz.prog 11 #[.pointer (some ⟨gC,0,none⟩),.agg (stepL 4 0).toArray] w fun e w'=>e=.returned (.bool true)∧∃ own',ClSt w' own' gC n q c s'∧Stepped w own w' own':=by
 refine cdo_lose gC true (fun w'=>∃ own',ClSt w' own' gC n q c s'∧Stepped w own w' own') w fun W hb=>?_
 refine (lose_ok W own gC n q c s s' (ClG.bel h hb) hs hv hlen).mono ?_
 rintro e w' ⟨rfl,own',h5,h6⟩
 exact⟨rfl,own',h5,fun k hk=>h6.1 k (Nat.lt_of_lt_of_le hk hb.size),(Mv.of_below hb).mv h6.2 fun k hk=>.inl hk⟩
theorem do_time (w:World) (own:Nat→Nat) (gC n q j:Nat) (c:Cm) (s:Cs) (h:ClSt w own gC n q c s) (hw:s.wait=false) (hj:j<8) :
  Calls Tryz.prog 11 #[.pointer (some ⟨gC,0,none⟩),.agg (stepL 6 ((j:Int)+1)).toArray] w fun e w'=>e=.returned (.bool true)∧Below w.heap.size w w':=by
 obtain⟨dv,gN,cN,gCl,cCl,gCa,lv,hvv,gs,gcl,hB,hN,hp⟩:=h
 obtain⟨rC,hcp⟩:=hB.cp
 refine cdo_time gC _ true (fun w'=>Below w.heap.size w w') w fun W hb=>?_
 have key:∀ id seq x tg tk,CAt w (gcl j) id seq x false tg tk→Calls Tryz.prog 28 #[.pointer (some ⟨gC,0,none⟩),.int .i64 ((j:Int)+1)] W fun e W'=>e=.returned (.bool true)∧Below w.heap.size w W':=by
  intro id seq x tg tk hc
  refine (ctime gC n gCl cCl j gcl rC dv _ _ lv hvv id seq x tg tk W (hB.cl.bel hb) (hcp.bel hb) hj (Holds.bel hc hb)).mono ?_
  rintro e w' ⟨rfl,hb2⟩
  exact⟨rfl,hb.trans (hb2.mono hb.size)⟩
 by_cases h0:j=0
 ·subst h0
  rcases hB.c0 with⟨_,_,e3⟩|⟨_,tg,tk,e3⟩
  ·exact key _ _ _ _ _ e3
  ·rw [hw] at e3
   exact key _ _ _ _ _ e3
 ·exact key _ _ _ _ _ (hB.cs j hj h0)
end
end Go.Proofs.YtimdpiifpibgfaaGreatDoor
