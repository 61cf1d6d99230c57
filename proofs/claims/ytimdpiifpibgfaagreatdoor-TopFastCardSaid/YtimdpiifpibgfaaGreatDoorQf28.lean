/- For every input the law TopFast returns true (a part of the proof). Condition: the listed variables start as the program's text lays them. -/
import Derived.Test.YtimdpiifpibgfaaGreatDoorQf27
import Derived.Test.YtimdpiifpibgfaaGreatDoorQf20
import Derived.Test.YtimdpiifpibgfaaGreatDoorQf23
set_option linter.unusedVariables false
set_option linter.unusedSimpArgs false
set_option maxRecDepth 20000
set_option maxHeartbeats 16000000
namespace Go.Proofs.YtimdpiifpibgfaaGreatDoor
section
open Go.RowKit Go.Maps
theorem plan_none (d:Nat→Int) (hd:∀ r,r<7→d r=0∨d r=1) (w:World) :
  Calls Tryz.prog 163 #[.agg #[.int .i64 (d 0),.int .i64 (d 1),.int .i64 (d 2),.int .i64 (d 3),.int .i64 (d 4),.int .i64 (d 5),.int .i64 (d 6)],.slice none 0 0] w fun e w'=>e=.returned (.tuple #[.slice none 0 0,.slice none 0 0])∧Below w.heap.size w w':=by
 have hmm:=@run_makeMap Tryz.prog
 have KR:=qh (fun g b W (h:PlanAt W g b 0 d (.slice none 0 0) [])=>round_none g b 0 d (.slice none 0 0) [] W h hd (fun r _=>rfl) (fun r _ e he=>by cases he))
 have KL:=qh (fun s b W (h:NoneAt W s b)=>setList_none s b W h)
 go_enter Tryz.func163,Tryz.ntmps163
 go_upto_region 1 with (fail)
 go_name_world W hW
 have hW:allocs w [.cells ([.int .i64 (d 0),.int .i64 (d 1),.int .i64 (d 2),.int .i64 (d 3),.int .i64 (d 4),.int .i64 (d 5),.int .i64 (d 6)]:List Value).toArray 41]=W:=hW
 have HX:=qh (show Holds W (w.heap.size) 41 ([.int .i64 (d 0),.int .i64 (d 1),.int .i64 (d 2),.int .i64 (d 3),.int .i64 (d 4),.int .i64 (d 5),.int .i64 (d 6)]) from holds_allocs _ hW 0 rfl)
 have hbW:=below_allocs _ hW
 have hsW:=size_allocs _ hW
 simp only [List.length_cons,List.length_nil] at hsW
 clear hW
 have HB:=qh (Base.start w)
 have HB:=qh (HB.out.bel hbW)
 clear hbW hsW
 generalize hB0:w.heap.size=B at HX HB ⊢
 have HRG:=qh HX.out.range0
 go_wp2_with (first
  | (refine wpList_load_mid rfl 41 _ rfl B 0 rfl [.int .i64 (d 0),.int .i64 (d 1),.int .i64 (d 2),.int .i64 (d 3),.int .i64 (d 4),.int .i64 (d 5),.int .i64 (d 6)] _ HRG.out Tryz.underlying41 rfl (by kernel_rfl) ?_))
 have hp:PlanAt ((W.alloc (.map #[] 0)).alloc (.cells (cutL d++[Value.map (some W.heap.size),Value.slice none 0 0]).toArray 327)) (W.heap.size+1) W.heap.size 0 d (.slice none 0 0) []:=⟨by
  have:=holds_alloc (W.alloc (.map #[] 0)) 327 (cutL d++[Value.map (some W.heap.size),Value.slice none 0 0])
  rw [World.size_alloc] at this
  exact this,⟨_,(World.ownsMap_made W Tryz.prog 37 readN).alloc _,LLists.empty⟩,fun e he=>(by cases he),fun e he=>(by cases he)⟩
 have hal:Below W.heap.size W ((W.alloc (.map #[] 0)).alloc (.cells (cutL d++[Value.map (some W.heap.size),Value.slice none 0 0]).toArray 327)):=by
  have h1:Below W.heap.size W (W.alloc (.map #[] 0)):=(Below.refl _ _).alloc (Nat.le_refl _) _
  exact h1.alloc h1.size _
 go_name_world W2 hW2
 have hW2:(W.alloc (.map #[] 0)).alloc (.cells (cutL d++[Value.map (some W.heap.size),Value.slice none 0 0]).toArray 327)=W2:=hW2
 rw [hW2] at hp hal
 have HP:=qh hp
 have HB:=qh (HB.out.bel hal)
 clear hp hal hW2 HRG HX
 generalize W.heap.size+1=g at HP ⊢
 generalize W.heap.size=b at HP ⊢
 go_loop [19] (fun vi=>vi=.int .i64 0) (fun _=>0)
 case atStart=>exact rfl
 case round=>
  obtain rfl:=hrel
  go_wp2_with fail
  go_loopw [] (fun wr=>wr=W2) (fun _=>0)
  case atStart=>exact rfl
  case round=>
   obtain rfl:=hrel
   go_wp2_with fail
   refine (KR.out g b _ HP.out).mono ?_
   rintro e w3 ⟨s,b2,rfl,hs,hb⟩
   have HP:=qh (HP.out.bel hb)
   have HB:=qh (HB.out.bel hb)
   have HS:=qh hs
   clear hs hb
   go_upto_region 11 with (fail)
   have HP:=qh (HP.out.bel (t_drew _ w3))
   have HB:=qh (HB.out.bel (t_drew _ w3))
   have HS:=qh (HS.out.bel (t_drew _ w3))
   refine wp_region_noPanic ?_
   refine wp_region_late (S:=fun W'=>Below w3.drew.heap.size w3.drew W') (X0:=[]) (by as_aux_lemma=>kernel_rfl) ?_
   generalize w3.drew=wd at HP HB HS ⊢
   have hSn:Below wd.heap.size wd wd:=Below.refl _ _
   change wpAnyL _ _ _ _ _ _ 8 #[false,false,false,false,false,false,false,false] _ _
   refine mvA 0 (some 56) (fun _=>hSn) ?_
   simp only [Act.put,zA,zB,zC]
   refine mvA 1 (some 57) (fun _=>hSn) ?_
   simp only [Act.put,zA,zB,zC]
   refine mvA 2 (some 58) (fun _=>hSn) ?_
   simp only [Act.put,zA,zB,zC]
   refine tkA 3 [] (some 59) (?vg4) rfl (Or.inl ⟨by rfl,?hg4⟩) hSn ?rg4
   case hg4=>
    intro w hSw
    have m0:=(HP.out.bel hSw).ix.cell 8
    simp only [cutL,List.cons_append,List.nil_append,yA,yB] at m0
    go_simp
    try with_reducible rfl
   simp only [Act.put,zA,zB,zC]
   refine mvA 4 (some 60) (fun _=>hSn) ?_
   simp only [Act.put,zA,zB,zC]
   refine rd1 5 rfl (fun K hK=>?_)
   go_simp
   refine (KL.out s b2 _ (HS.out.bel hSn)).mono ?_
   rintro e w7 ⟨rfl,hb⟩
   have hSn:=below_next hSn hb
   clear hb
   refine hK.out _ _ (fun _=>hSn) ?_
   clear hK
   try simp only [Act.put,zA,zB,zC]
   refine mvA 6 (some 4) (fun _=>hSn) ?_
   simp only [Act.put,zA,zB,zC]
   refine mvA 7 (some 5) (fun _=>hSn) ?_
   simp only [Act.put,zA,zB,zC]
   refine dnA (NoPanic.normal ?_)
   have HP:=qh (HP.out.bel hSn)
   have HB:=qh (HB.out.bel hSn)
   have HS:=qh (HS.out.bel hSn)
   clear hSn
   clear HP HS
   go_wp2_with fail
   go_ret2
   exact⟨rfl,hB0▸HB.out.below⟩
def knownZ:List Value:=[.int .i64 0,.int .i64 0,.int .i64 0,.int .i64 0,.int .i64 0,.int .i64 0,.int .i64 0,.int .i64 0,.int .i64 0,.int .i64 0,.string ⟨#[]⟩,.string ⟨#[]⟩,.string ⟨#[]⟩,.string ⟨#[]⟩,.int .i64 0,.int .i64 0,.int .i64 0,.int .i64 0,.int .i64 0,.int .i64 0,.int .i64 0,.int .i64 0,.bool false]
theorem known_one (m:Nat) (c:Cm):(knownL m c).toArray.all (·.oneCell')=true:=by simp [knownL,cellL,Value.oneCell']
def mdid:Value→Nat
 | .bool true=>0
 | _=>1
def PlanOne (m:Nat) (c:Cm) (w:World) (e:Ending) (w':World):Prop:=∃ (R:Value) (ob:Option Nat),e=.returned (.tuple #[R,.slice none 0 0])∧OwnS w' R ob 267 23 1 (knownL m c)∧(∀ k,ob=some k→w.heap.size≤k)∧Below w.heap.size w w'
theorem plan_one (m gk ck:Nat) (c:Cm) (rest:List Value) (w:World) (hm:m<7) (hk:Holds w gk 267 (knownL m c++rest)) :
  Calls Tryz.prog 163 #[.agg #[.int .i64 0,.int .i64 0,.int .i64 0,.int .i64 0,.int .i64 0,.int .i64 0,.int .i64 0],.slice (some ⟨gk,0,none⟩) 1 ck] w (PlanOne m c w):=by
 have hmm:=@run_makeMap Tryz.prog
 have KR:=qh (fun g b n l W hll (h:PlanAt W g b n (fun _=>0) (.slice none 0 0) l)=>round_one g b n m c l W hm hll h)
 have KR0:=qh (fun g b n R l W (hll:l=[⟨m,1,cellL 3 c false⟩]) (h:PlanAt W g b n (oneD m) R l)=>round_none g b n (oneD m) R l W h (fun r _=>by unfold oneD;by_cases hr:r=m;exact .inr (if_pos hr);exact .inl (if_neg hr)) (fun r _=>by
  rw [hll];unfold hasL oneD
  by_cases hr:r=m
  ·rw [if_pos hr];simp
  ·rw [if_neg hr];simp;omega) (fun r _ e he=>by
  rw [hll,List.mem_singleton] at he
  subst he
  unfold oneD
  by_cases hr:r=m
  ·rw [if_pos hr];simp
  ·rw [if_neg hr];simp))
 have KL:=qh (fun s b W (h:NoneAt W s b)=>setList_none s b W h)
 have HK:=qh hk
 have hkl:=hk.lt
 clear hk
 go_enter Tryz.func163,Tryz.ntmps163
 go_upto_region 1 with (fail)
 go_name_world W hW
 have hW:allocs w [.cells (zero7:List Value).toArray 41]=W:=hW
 have HX:=qh (show Holds W (w.heap.size) 41 (zero7) from holds_allocs _ hW 0 rfl)
 have hbW:=below_allocs _ hW
 have hsW:=size_allocs _ hW
 simp only [List.length_cons,List.length_nil] at hsW
 clear hW
 have HB:=qh (Base.start w)
 have HB:=qh (HB.out.bel hbW)
 have HK:=qh (HK.out.bel hbW)
 clear hbW hsW
 generalize hB0:w.heap.size=B at HX HB hkl ⊢
 have HRG:=qh HX.out.range0
 go_wp2_with (first
  | (refine wpList_load_mid rfl 41 _ rfl B 0 rfl [.int .i64 0,.int .i64 0,.int .i64 0,.int .i64 0,.int .i64 0,.int .i64 0,.int .i64 0] _ HRG.out Tryz.underlying41 rfl (by kernel_rfl) ?_))
 have hp:PlanAt ((W.alloc (.map #[] 0)).alloc (.cells (cutL (fun _=>0)++[Value.map (some W.heap.size),Value.slice none 0 0]).toArray 327)) (W.heap.size+1) W.heap.size 0 (fun _=>0) (.slice none 0 0) []:=⟨by
  have:=holds_alloc (W.alloc (.map #[] 0)) 327 (cutL (fun _=>0)++[Value.map (some W.heap.size),Value.slice none 0 0])
  rw [World.size_alloc] at this
  exact this,⟨_,(World.ownsMap_made W Tryz.prog 37 readN).alloc _,LLists.empty⟩,fun e he=>(by cases he),fun e he=>(by cases he)⟩
 have hal:Below W.heap.size W ((W.alloc (.map #[] 0)).alloc (.cells (cutL (fun _=>0)++[Value.map (some W.heap.size),Value.slice none 0 0]).toArray 327)):=by
  have h1:Below W.heap.size W (W.alloc (.map #[] 0)):=(Below.refl _ _).alloc (Nat.le_refl _) _
  exact h1.alloc h1.size _
 go_name_world W2 hW2
 have hW2:(W.alloc (.map #[] 0)).alloc (.cells (cutL (fun _=>0)++[Value.map (some W.heap.size),Value.slice none 0 0]).toArray 327)=W2:=hW2
 rw [hW2] at hp hal
 have HP:=qh hp
 have hBW:=HB.out.le
 have HB:=qh (HB.out.bel hal)
 have HK:=qh (HK.out.bel hal)
 clear hp hal hW2 HRG HX
 have hgb:B≤W.heap.size+1:=by omega
 generalize W.heap.size+1=g at HP hgb ⊢
 generalize W.heap.size=b at HP hBW ⊢
 go_loopw [19] (fun vi wr=>∃ i:Nat,vi=.int .i64 (i:Int)∧((i=0∧wr=W2)∨(i=1∧PlanAt wr g b 1 (fun _=>0) (.slice none 0 0) [⟨m,1,cellL 3 c false⟩]∧Base B w wr))) (fun vi _=>1 - (intOf vi).toNat)
 case atStart=>exact⟨0,rfl,.inl ⟨rfl,rfl⟩⟩
 case round=>
  obtain⟨i,rfl,⟨rfl,rfl⟩|⟨rfl,hp,hb⟩⟩:=hrel
  ·have HRG:=qh (HK.out.rangeO 0 (cs:=knownL m c) (fun j v hv=>by rw [Nat.zero_add,List.getElem?_append_left (List.getElem?_eq_some_iff.1 hv).1];exact hv))
   go_upto_region 5 with (first
    | (refine wpList_load_mid rfl 267 _ rfl gk 0 rfl (knownL m c) _ HRG.out Tryz.underlying267 rfl (by kernel_rfl) ?_)
    | (refine wpList_store_whole rfl 267 (.tmp 8) (.tmp 22) wr.heap.size knownZ (knownL m c) rfl rfl rfl rfl (holds_alloc wr _ knownZ) (by kernel_rfl) rfl (known_one _ _) ?_;intro V hh7 ht7))
   have HY:=qh hh7
   have hb7:Below wr.heap.size wr V:=Below.trans ((Below.refl _ _).alloc (Nat.le_refl _) _) (ht7.below (Nat.le_refl _) (by simp))
   have hyb:B≤wr.heap.size:=HB.out.le
   have HP:=qh (HP.out.bel hb7)
   have HB:=qh (HB.out.bel hb7)
   clear hh7 ht7 hb7 HRG HK
   obtain⟨v,hv1,hv2,_,hlk1,_⟩:=HP.out.look m 1 (WalkArith.wf_i64 (by omega)) (by decide)
   have HL:=qh (show Ever V (fun W=>(Instr.lookup 246 (.map (some b)) (.agg #[.int .i64 m,.int .i64 1]) true).run Tryz.prog W=.ok (.tuple #[.agg v.toArray,.bool false]) W) from hlk1)
   have HV2:=qh hv2
   clear hlk1 hv2
   generalize wr.heap.size=gy at HY hyb ⊢
   have HP:=qh (HP.out.bel (t_drew _ V))
   have HB:=qh (HB.out.bel (t_drew _ V))
   have HY:=qh (HY.out.bel (t_drew _ V))
   have HL:=qh (HL.out.bel (t_drew _ V))
   refine wp_region_noPanic ?_
   refine wp_region_late (S:=fun W'=>Below V.drew.heap.size V.drew W') (X0:=[]) (by as_aux_lemma=>kernel_rfl) ?_
   generalize V.drew=wd at HP HB HY HL ⊢
   have hSn:Below wd.heap.size wd wd:=Below.refl _ _
   change wpAnyL _ _ _ _ _ _ 13 #[false,false,false,false,false,false,false,false,false,false,false,false,false] _ _
   refine mvA 0 (some 24) (fun _=>hSn) ?_
   simp only [Act.put,zA,zB,zC]
   refine mvA 1 (some 25) (fun _=>hSn) ?_
   simp only [Act.put,zA,zB,zC]
   refine mvA 2 (some 26) (fun _=>hSn) ?_
   simp only [Act.put,zA,zB,zC]
   refine tkA 3 [] (some 27) (?vg11) rfl (Or.inl ⟨by rfl,?hg11⟩) hSn ?rg11
   case hg11=>
    intro w hSw
    have m0:=(HP.out.bel hSw).ix.cell 7
    simp only [cutL,List.cons_append,List.nil_append,yA,yB] at m0
    go_simp
    try with_reducible rfl
   simp only [Act.put,zA,zB,zC]
   refine mvA 4 (some 28) (fun _=>hSn) ?_
   simp only [Act.put,zA,zB,zC]
   refine tkA 5 [] (some 29) (?vg13) rfl (Or.inl ⟨by rfl,?hg13⟩) hSn ?rg13
   case hg13=>
    intro w hSw
    have b0:=(HY.out.bel hSw).cell 0
    have b1:=(HY.out.bel hSw).cell 1
    simp only [knownL,List.cons_append,List.nil_append,yA,yB] at b0 b1
    go_simp
    try with_reducible rfl
   simp only [Act.put,zA,zB,zC]
   refine tkA 6 [] (some 30) (?vg14) rfl (Or.inl ⟨by rfl,?hg14⟩) hSn ?rg14
   case hg14=>
    intro w hSw
    have hlk:=HL.out w hSw
    go_simp
    try with_reducible rfl
   simp only [Act.put,zA,zB,zC]
   refine mvA 7 (some 23) (fun _=>hSn) ?_
   simp only [Act.put,zA,zB,zC]
   refine mvA 8 (some 31) (fun _=>hSn) ?_
   simp only [Act.put,zA,zB,zC]
   refine mvA 9 (some 32) (fun _=>hSn) ?_
   simp only [Act.put,zA,zB,zC]
   refine rd1 10 rfl (fun K hK=>?_)
   go_simp
   have hal:=fun o=>Below.alloc hSn hSn.size o
   refine hK.out _ _ (fun _=>hal _) ?_
   have hSn:=hal (.cells zero21.toArray 45)
   have HB6:=qh (show Holds (wd.alloc (.cells zero21.toArray 45)) wd.heap.size 45 zero21 from holds_alloc wd _ _)
   clear hal
   change wpAnyL _ _ _ _ _ _ _ _ _ (wd.alloc (.cells zero21.toArray 45))
   generalize wd.alloc (.cells zero21.toArray 45)=wa at hSn HB6 ⊢
   clear hK
   try simp only [Act.put,zA,zB,zC]
   refine rd1 11 rfl (fun K hK=>?_)
   refine step_store_box rfl 45 (.tmp 9) (.tmp 31) wd.heap.size zero21 v rfl rfl rfl rfl HB6.out (by rw [hv1];kernel_rfl) (by rw [hv1];rfl) HV2.out ?_
   intro wb hh6 ht6
   have hSn:=hSn.trans (ht6.below (Nat.le_refl _) hSn.size)
   clear hh6 ht6
   refine hK.out _ _ (fun _=>hSn) ?_
   clear hK
   try simp only [Act.put,zA,zB,zC]
   refine mvA 12 (some 10) (fun _=>hSn) ?_
   simp only [Act.put,zA,zB,zC]
   refine dnA (NoPanic.normal ?_)
   have HP:=qh (HP.out.bel hSn)
   have HB:=qh (HB.out.bel hSn)
   have HY:=qh (HY.out.bel hSn)
   have HL:=qh (HL.out.bel hSn)
   clear hSn
   clear HB6 HL
   have y2:=HY.out.cell 2
   simp only [knownL,cellL,List.cons_append,List.nil_append,yA,yB] at y2
   go_upto_region 7 with (fail)
   clear y2
   have hgood:LGoodE [(⟨m,1,cellL 3 c false⟩:LEnt)]:=fun e he=>by rw [List.mem_singleton] at he;subst he;exact⟨⟨by simp,by simp;omega⟩,by simp,by simp⟩
   have HG:=qh hgood
   have HKY:=qh (key_inst m 1 (WalkArith.wf_i64 (by omega)) (by decide))
   clear hgood
   have HRY:=qh (fun (w':World) (h:Below wb.drew.heap.size wb.drew w')=>(((HY.out.bel (t_drew _ wb)).bel h).rangeO 2 (cs:=cellL 3 c false) (fun j v hv=>by rw [Nat.add_comm];exact hv)))
   have HP:=qh (HP.out.bel (t_drew _ wb))
   have HB:=qh (HB.out.bel (t_drew _ wb))
   have HY:=qh (HY.out.bel (t_drew _ wb))
   refine wp_region_noPanic ?_
   refine wp_region_late (S:=fun W'=>Below wb.drew.heap.size wb.drew W') (X0:=[8]) (by as_aux_lemma=>kernel_rfl) ?_
   generalize wb.drew=wd at HP HB HY HRY ⊢
   have hSn:Below wd.heap.size wd wd:=Below.refl _ _
   change wpAnyL _ _ _ _ _ _ 9 #[false,false,false,false,false,false,false,false,false] _ _
   refine mvA 0 (some 40) (fun _=>hSn) ?_
   simp only [Act.put,zA,zB,zC]
   refine mvA 1 (some 41) (fun _=>hSn) ?_
   simp only [Act.put,zA,zB,zC]
   refine mvA 2 (some 42) (fun _=>hSn) ?_
   simp only [Act.put,zA,zB,zC]
   refine tkA 3 [8] (some 43) (?vg22) rfl (Or.inl ⟨by rfl,?hg22⟩) hSn ?rg22
   case hg22=>
    intro w hSw
    have m0:=(HP.out.bel hSw).ix.cell 7
    simp only [cutL,List.cons_append,List.nil_append,yA,yB] at m0
    go_simp
    try with_reducible rfl
   simp only [Act.put,zA,zB,zC]
   refine mvA 4 (some 44) (fun _=>hSn) ?_
   simp only [Act.put,zA,zB,zC]
   refine tkA 5 [8] (some 45) (?vg24) rfl (Or.inl ⟨by rfl,?hg24⟩) hSn ?rg24
   case hg24=>
    intro w hSw
    have b0:=(HY.out.bel hSw).cell 0
    have b1:=(HY.out.bel hSw).cell 1
    simp only [knownL,List.cons_append,List.nil_append,yA,yB] at b0 b1
    go_simp
    try with_reducible rfl
   simp only [Act.put,zA,zB,zC]
   refine mvA 6 (some 46) (fun _=>hSn) ?_
   simp only [Act.put,zA,zB,zC]
   refine tkA 7 [8] (some 47) (.agg (cellL 3 c false).toArray) rfl (yieldsIf_load_mid (by rfl) 45 _ rfl gy 2 rfl (cellL 3 c false) _ (fun w hSw=>HRY.out w hSw) Tryz.underlying45 rfl (by as_aux_lemma=>kernel_rfl)) hSn ?rg26
   simp only [Act.put,zA,zB,zC]
   refine rd1 8 rfl (fun K hK=>?_)
   obtain⟨D,hown,hl⟩:=(HP.out.bel hSn).map
   refine step_mapUpdate rfl _ _ _ 246 rfl 37 45 keyLaw Tryz.underlying246 readN b 0 D rfl hown (by unfold maxLen;omega) (instV m 1) (.agg (cellL 3 c false).toArray) (keyL m 1) rfl rfl HKY.out (.held (.agg (cellL 3 c false).toArray)) [] rfl ?_
   intro w8 hown8 hg8
   have ht8:=touch_of_grownBy hg8
   have hp8:PlanAt w8 g b 1 (fun _=>0) (.slice none 0 0) [⟨m,1,cellL 3 c false⟩]:=⟨(HP.out.bel hSn).ix.touch ht8 (HP.out.bel hSn).ne,⟨_,hown8,hl.put (HP.out.bel hSn).wf ⟨m,1,cellL 3 c false⟩ ⟨WalkArith.wf_i64 (by simp;omega),(show (Lit.int .i64 1).wf=true by decide)⟩⟩,HG.out,fun e he=>by rw [List.mem_singleton] at he;subst he;exact cellL_row _ _ _⟩
   have HP8:=qh hp8
   have HB8:=qh ((HB.out.bel hSn).touch ht8 hBW)
   clear hown8 hg8 ht8 hp8 hown hl
   refine hK.out _ _ nlA ?_
   clear hK
   try simp only [Act.put,zA,zB,zC]
   refine dnA (NoPanic.normal ?_)
   clear hSn HP HB HY HRY
   go_wp2_with fail
   go_roundw
   case rel=>exact⟨1,rfl,.inr ⟨rfl,HP8.out,HB8.out⟩⟩
   case measure=>simp [intOf]
  ·have HP:=qh hp;have HB:=qh hb
   clear hp hb HK
   go_wp2_with fail
   go_loopw [11] (fun vd w2=>(vd=undef∧PlanAt w2 g b 1 (fun _=>0) (.slice none 0 0) [⟨m,1,cellL 3 c false⟩]∧Base B w w2)∨(vd=.bool true∧Base B w w2∧∃ R ob,PlanAt w2 g b 1 (oneD m) R [⟨m,1,cellL 3 c false⟩]∧OwnS w2 R ob 267 23 1 (knownL m c)∧∀ k,ob=some k→B≤k)) (fun vd _=>mdid vd)
   case atStart=>exact .inl ⟨rfl,HP.out,HB.out⟩
   case round=>
    clear HP HB
    rcases hrel with⟨rfl,hp,hb⟩|⟨rfl,hb,R,ob,hp,ho,hob⟩
    ·have HP:=qh hp;have HB:=qh hb
     have hbs:=hb.le
     clear hp hb
     go_wp2_with fail
     refine (KR.out g b 1 _ _ rfl HP.out).mono ?_
     rintro e w3 ⟨s,R,ob,rfl,hp,ho,hob,ht⟩
     have HP:=qh hp;have HO:=qh ho;have HOB:=qh (show ∀ k,ob=some k→B≤k from fun k hk=>Nat.le_trans hbs (hob k hk))
     have HB:=qh (HB.out.touch ht hgb)
     clear hp ho hob ht
     go_wp2_with fail
     go_roundw
     case rel=>
      repeat apply Exists.intro
      exact⟨.inr ⟨rfl,HB.out,R,ob,HP.out,HO.out,HOB.out⟩,rfl⟩
     case measure=>
      simp [mdid]
      exact Nat.zero_lt_one
    ·have HP:=qh hp;have HB:=qh hb;have HO:=qh ho;have HOB:=qh hob
     clear hp hb ho hob
     go_wp2_with fail
     refine (KR0.out g b 1 R _ _ rfl HP.out).mono ?_
     rintro e w3 ⟨s,b2,rfl,hs,hb⟩
     have HP:=qh (HP.out.bel hb)
     have HB:=qh (HB.out.bel hb)
     have HO:=qh (HO.out.bel hb)
     have HS:=qh hs
     clear hs hb
     go_upto_region 11 with (fail)
     have HP:=qh (HP.out.bel (t_drew _ w3))
     have HB:=qh (HB.out.bel (t_drew _ w3))
     have HS:=qh (HS.out.bel (t_drew _ w3))
     have HO:=qh (HO.out.bel (t_drew _ w3))
     refine wp_region_noPanic ?_
     refine wp_region_late (S:=fun W'=>Below w3.drew.heap.size w3.drew W') (X0:=[]) (by as_aux_lemma=>kernel_rfl) ?_
     generalize w3.drew=wd at HP HB HS HO ⊢
     have hSn:Below wd.heap.size wd wd:=Below.refl _ _
     change wpAnyL _ _ _ _ _ _ 8 #[false,false,false,false,false,false,false,false] _ _
     refine mvA 0 (some 56) (fun _=>hSn) ?_
     simp only [Act.put,zA,zB,zC]
     refine mvA 1 (some 57) (fun _=>hSn) ?_
     simp only [Act.put,zA,zB,zC]
     refine mvA 2 (some 58) (fun _=>hSn) ?_
     simp only [Act.put,zA,zB,zC]
     refine tkA 3 [] (some 59) (?vg30) rfl (Or.inl ⟨by rfl,?hg30⟩) hSn ?rg30
     case hg30=>
      intro w hSw
      have m0:=(HP.out.bel hSw).ix.cell 8
      simp only [cutL,List.cons_append,List.nil_append,yA,yB] at m0
      go_simp
      try with_reducible rfl
     simp only [Act.put,zA,zB,zC]
     refine mvA 4 (some 60) (fun _=>hSn) ?_
     simp only [Act.put,zA,zB,zC]
     refine rd1 5 rfl (fun K hK=>?_)
     go_simp
     refine (KL.out s b2 _ (HS.out.bel hSn)).mono ?_
     rintro e w7 ⟨rfl,hb⟩
     have hSn:=below_next hSn hb
     clear hb
     refine hK.out _ _ (fun _=>hSn) ?_
     clear hK
     try simp only [Act.put,zA,zB,zC]
     refine mvA 6 (some 4) (fun _=>hSn) ?_
     simp only [Act.put,zA,zB,zC]
     refine mvA 7 (some 5) (fun _=>hSn) ?_
     simp only [Act.put,zA,zB,zC]
     refine dnA (NoPanic.normal ?_)
     have HP:=qh (HP.out.bel hSn)
     have HB:=qh (HB.out.bel hSn)
     have HS:=qh (HS.out.bel hSn)
     have HO:=qh (HO.out.bel hSn)
     clear hSn
     clear HP HS
     go_wp2_with fail
     go_ret2
     exact⟨R,ob,rfl,HO.out,hB0▸HOB.out,hB0▸HB.out.below⟩
end
section
open Go.RowKit Go.Maps
theorem core_cell (gc n me gl gm nl gi q:Nat) (leads recs out:Value) (st:Int) (c:Cm) (sm:Bool) (w:World) (h:Holds w gc 163 (coreL n me gl gi leads recs out)) (hl:LogAt w gl gm nl [⟨q,1,cellL st c sm⟩]) (hq:q<7) :
  Calls Tryz.prog 176 #[.pointer (some ⟨gc,0,none⟩),.agg #[.int .i64 q,.int .i64 1]] w fun e w'=>e=.returned (.tuple #[.agg (cellL st c sm).toArray,.bool true])∧Below w.heap.size w w':=by
 have KL:=qh (fun W (h:LogAt W gl gm nl [⟨q,1,cellL st c sm⟩])=>lcell_one gl gm nl q (cellL st c sm) W h hq)
 have HC:=qh h;have HL:=qh hl
 have HB:=qh (Base.start w)
 clear h hl
 go_enter Tryz.func176,Tryz.ntmps176
 go_upto_region 1 with (fail)
 go_name_world W hW
 have hW:allocs w [.cells ([.int .i64 q,.int .i64 1]:List Value).toArray 37,.cells (zero21:List Value).toArray 45]=W:=hW
 have HX:=qh (show Holds W (w.heap.size) 37 ([.int .i64 q,.int .i64 1]) from holds_allocs _ hW 0 rfl)
 have HZ:=qh (show Holds W (w.heap.size+1) 45 (zero21) from holds_allocs _ hW 1 rfl)
 have hbW:=below_allocs _ hW
 have hsW:=size_allocs _ hW
 simp only [List.length_cons,List.length_nil] at hsW
 clear hW
 have HC:=qh (HC.out.bel hbW)
 have HL:=qh (HL.out.bel hbW)
 have HB:=qh (HB.out.bel hbW)
 clear hbW hsW
 generalize hz0:w.heap.size+1=gz at HZ ⊢
 generalize hB0:w.heap.size=B at HX HB hz0 ⊢
 have HC:=qh (HC.out.bel (t_drew _ W))
 have HL:=qh (HL.out.bel (t_drew _ W))
 have HX:=qh (HX.out.bel (t_drew _ W))
 have HZ:=qh (HZ.out.bel (t_drew _ W))
 have HB:=qh (HB.out.bel (t_drew _ W))
 refine wp_region_noPanic ?_
 refine wp_region_late (S:=fun W'=>Below W.drew.heap.size W.drew W') (X0:=[8]) (by as_aux_lemma=>kernel_rfl) ?_
 generalize W.drew=wd at HC HL HX HZ HB ⊢
 have hSn:Below wd.heap.size wd wd:=Below.refl _ _
 change wpAnyL _ _ _ _ _ _ 10 #[false,false,false,false,false,false,false,false,false,false] _ _
 refine mvA 0 (some 6) (fun _=>hSn) ?_
 simp only [Act.put,zA,zB,zC]
 refine mvA 1 (some 7) (fun _=>hSn) ?_
 simp only [Act.put,zA,zB,zC]
 refine mvA 2 (some 8) (fun _=>hSn) ?_
 simp only [Act.put,zA,zB,zC]
 refine tkA 3 [5,6,7,8,9] (some 9) (?vg4) rfl (Or.inl ⟨by rfl,?hg4⟩) hSn ?rg4
 case hg4=>
  intro w hSw
  have b2:=(HC.out.bel hSw).cell 2
  simp only [coreL,yA,yB] at b2
  go_simp
  try with_reducible rfl
 simp only [Act.put,zA,zB,zC]
 refine tkA 4 [5,6,7,8,9] (some 10) (?vg5) rfl (Or.inl ⟨by rfl,?hg5⟩) hSn ?rg5
 case hg5=>
  intro w hSw
  have b0:=(HX.out.bel hSw).cell 0
  have b1:=(HX.out.bel hSw).cell 1
  simp only [yA,yB] at b0 b1
  go_simp
  try with_reducible rfl
 simp only [Act.put,zA,zB,zC]
 refine rd1 5 rfl (fun K hK=>?_)
 go_simp
 refine (KL.out _ (HL.out.bel hSn)).mono ?_
 rintro e w2 ⟨rfl,hb⟩
 have hSn:=below_next hSn hb
 clear hb
 refine hK.out _ _ (fun _=>hSn) ?_
 clear hK
 try simp only [Act.put,zA,zB,zC]
 refine mvA 6 (some 12) (fun _=>hSn) ?_
 simp only [Act.put,zA,zB,zC]
 refine mvA 7 (some 13) (fun _=>hSn) ?_
 simp only [Act.put,zA,zB,zC]
 refine rd1 8 rfl (fun K hK=>?_)
 have HZ:=qh (HZ.out.bel hSn)
 have HB:=qh (HB.out.bel hSn)
 refine step_store_box rfl 45 (.tmp 4) (.tmp 12) gz zero21 (cellL st c sm) rfl rfl rfl rfl HZ.out (by kernel_rfl) rfl (cellL_one _ _ _) ?_
 intro wb hh6 ht6
 have HR:=qh hh6.range0
 have HB6:=qh (HB.out.touch ht6 (by omega))
 clear hh6 ht6
 refine hK.out _ _ nlA ?_
 clear hK
 try simp only [Act.put,zA,zB,zC]
 refine mvA 9 (some 5) nlA ?_
 simp only [Act.put,zA,zB,zC]
 refine dnA (NoPanic.normal ?_)
 clear hSn HC HL HX HZ HB
 go_wp2_with fail
 refine bodyPost_ret (v:=.tuple #[.agg (cellL st c sm).toArray,.bool true]) (results_cell_tmp Tryz.results176 _ _ gz _ _ _ rfl rfl HR.out Tryz.underlying45 rfl (by kernel_rfl)) rfl ?_
 exact⟨rfl,hB0▸HB6.out.below⟩
end
section
open Go.RowKit Go.Maps
def nodeL (n me gd gw gc gfr:Nat) (P:Value) (sq v:Int) (d:Nat→Int) (since tk:Int) (waits out ans:Value):List Value:=
 [.int .i64 n,.int .i64 me,.pointer (some ⟨gd,0,none⟩),.pointer (some ⟨gw,0,none⟩),.pointer (some ⟨gc,0,none⟩),.pointer (some ⟨gfr,0,none⟩),P,
  .int .i64 sq,.int .i64 0,.bool false,.string ⟨#[]⟩,.int .i64 v,.slice none 0 0,.int .i64 0,.int .i64 0,.bool false,.string ⟨#[]⟩,.int .i64 0,.slice none 0 0,.int .i64 0,.int .i64 0,.bool false,.string ⟨#[]⟩,.int .i64 0,.slice none 0 0,.int .i64 0,.int .i64 0,.bool false,.string ⟨#[]⟩,.int .i64 0,.slice none 0 0,.int .i64 0,.int .i64 0,.bool false,.string ⟨#[]⟩,.int .i64 0,.slice none 0 0,.int .i64 0,.int .i64 0,.bool false,.string ⟨#[]⟩,.int .i64 0,.slice none 0 0,.int .i64 0,.int .i64 0,.bool false,.string ⟨#[]⟩,.int .i64 0,.slice none 0 0,.int .i64 0,.int .i64 0,.bool false,.string ⟨#[]⟩,.int .i64 0,.slice none 0 0,
  .int .i64 (d 0),.int .i64 (d 1),.int .i64 (d 2),.int .i64 (d 3),.int .i64 (d 4),.int .i64 (d 5),.int .i64 (d 6),.int .i64 0,.int .i64 0,.int .i64 0,.int .i64 0,.int .i64 0,.int .i64 0,.int .i64 0,
  .int .i64 since,.int .i64 tk,waits,out,ans,.bool false]
theorem nodeL_since (n me gd gw gc gfr:Nat) (P:Value) (sq v:Int) (d:Nat→Int) (since tk:Int) (waits out ans:Value) (x:Int):(nodeL n me gd gw gc gfr P sq v d since tk waits out ans).set 69 (.int .i64 x)=(nodeL n me gd gw gc gfr P sq v d x tk waits out ans):=rfl
theorem nodeL_state (n me gd gw gc gfr:Nat) (P:Value) (sq v:Int) (d:Nat→Int) (since tk:Int) (waits out ans:Value) (P2:Value) (sq2 v2:Int):splice (nodeL n me gd gw gc gfr P sq v d since tk waits out ans) 6 (stateL P2 sq2 v2)=(nodeL n me gd gw gc gfr P2 sq2 v2 d since tk waits out ans):=rfl
def setD (d:Nat→Int) (q:Nat) (x:Int) (r:Nat):Int:=if r=q then x else d r
theorem nodeL_done (n me gd gw gc gfr:Nat) (P:Value) (sq v:Int) (d:Nat→Int) (since tk:Int) (waits out ans:Value) (q:Nat) (x:Int) (hq:q<7):(nodeL n me gd gw gc gfr P sq v d since tk waits out ans).set (55+q) (.int .i64 x)=(nodeL n me gd gw gc gfr P sq v (setD d q x) since tk waits out ans):=by
 rcases (show q=0∨q=1∨q=2∨q=3∨q=4∨q=5∨q=6 by omega) with rfl|rfl|rfl|rfl|rfl|rfl|rfl<;>rfl
theorem nodeL_done_at (n me gd gw gc gfr:Nat) (P:Value) (sq v:Int) (d:Nat→Int) (since tk:Int) (waits out ans:Value) (q:Nat) (hq:q<7):(nodeL n me gd gw gc gfr P sq v d since tk waits out ans)[55+q]?=some (.int .i64 (d q)):=by
 rcases (show q=0∨q=1∨q=2∨q=3∨q=4∨q=5∨q=6 by omega) with rfl|rfl|rfl|rfl|rfl|rfl|rfl<;>rfl
theorem nodeL_own (n me gd gw gc gfr:Nat) (P:Value) (sq v:Int) (d:Nat→Int) (since tk:Int) (waits out ans:Value):∀ (j:Nat) u,(stateL P sq v)[j]?=some u→(nodeL n me gd gw gc gfr P sq v d since tk waits out ans)[6+j]?=some u:=by
 intro j u h
 have hj:j<49:=by
  have:=List.getElem?_eq_some_iff.1 h
  exact this.1
 have e:(nodeL n me gd gw gc gfr P sq v d since tk waits out ans)[6+j]?=(stateL P sq v)[j]?:=by
  have:(stateL P sq v)=((nodeL n me gd gw gc gfr P sq v d since tk waits out ans).drop 6).take 49:=rfl
  rw [this,List.getElem?_take_of_lt hj,List.getElem?_drop]
 rw [e]
 exact h
end
end Go.Proofs.YtimdpiifpibgfaaGreatDoor
