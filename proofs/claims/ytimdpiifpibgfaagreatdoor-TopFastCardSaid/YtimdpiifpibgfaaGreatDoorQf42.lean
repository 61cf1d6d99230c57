/- For every input the law TopFast returns true (a part of the proof). Condition: the listed variables start as the program's text lays them. -/
import Derived.Test.YtimdpiifpibgfaaGreatDoorQf41
set_option linter.unusedVariables false
set_option linter.unusedSimpArgs false
set_option maxRecDepth 20000
set_option maxHeartbeats 16000000
namespace Go.Proofs.YtimdpiifpibgfaaGreatDoor
section
open Go.RowKit Go.Maps
def cmdL (c:Cm):List Value:=[.int .i64 c.k,.int .i64 1,.int .i64 1,.string c.a,.string c.b,.string c.o,.string c.v]
theorem evL_one (k:Int) (c:Cm) (v:Int):∀ u∈evL k c v,u.oneCell'=true:=by simp [evL,Value.oneCell']
def Out1 (gC n mm:Nat) (dv nv clv cav:Value) (xs:List Value) (gcl:Nat→Nat) (c:Cm) (v tg tk:Int) (obl obh:Option Nat) (w1 w':World):Prop:=∃ lv' ob' hv' obh',Holds w' gC 85 (clusL n dv nv clv cav lv' hv') ∧
 OwnS w' lv' ob' 47 51 mm xs∧(ob'=obl∨∃ k,ob'=some k∧w1.heap.size≤k)∧OwnS w' hv' obh' 55 14 (1+1) (evL 1 c 0++evL 2 c v)∧(obh'=obh∨∃ k,obh'=some k∧w1.heap.size≤k)∧CAt w' (gcl 0) 1 1 c false tg tk∧Mv (fun k=>k=gC∨obl=some k∨obh=some k∨k=gcl 0) w1 w'
theorem cout1 (gC gN gCl cCl gCa n cN i ml m:Nat) (gcl:Nat→Nat) (rC rA:List Value) (c:Cm) (v tg tk:Int) (gs:Nat→Nat) (rN:List Value) (dv lv hv:Value) (xs:List Value) (ks fs ts:Nat→Nat) (qq:Nat) (xx:Nat→Cm) (R:World→World→Prop) (w:World)
  (h:Holds w gC 85 (clusL n dv (.slice (some ⟨gN,0,none⟩) n cN) (.slice (some ⟨gCl,0,none⟩) 8 cCl) (.slice (some ⟨gCa,0,none⟩) 8 8) lv hv)) (hN:Holds w gN 59 (ptrs n gs++rN)) (hi:i<n) (hcN:n≤cN)
  (hts:∀ i,i<m→ts i<n) (hml:ml+m≤1000)
  (KO:Calls Tryz.prog 54 #[.pointer (some ⟨gs i,0,none⟩)] w fun e w1=>∃ o a obo obl oba obh,e=.returned (.tuple #[o,a])∧R w w1∧Holds w1 gC 85 (clusL n dv (.slice (some ⟨gN,0,none⟩) n cN) (.slice (some ⟨gCl,0,none⟩) 8 cCl) (.slice (some ⟨gCa,0,none⟩) 8 8) lv hv)∧OwnS w1 o obo 47 51 m (flat 51 m (VL ks fs ts qq xx))∧OwnS w1 lv obl 47 51 ml xs∧(∀ k,obo=some k→obl≠some k)∧OwnS w1 a oba 121 7 1 (ansA v)∧OwnS w1 hv obh 55 14 1 (evL 1 c 0)∧Holds w1 gCl 92 (ptrs 8 gcl++rC)∧Holds w1 gCa 23 (cmdL c++rA)∧CAt w1 (gcl 0) 1 1 c true tg tk) :
  Calls Tryz.prog 31 #[.pointer (some ⟨gC,0,none⟩),.int .i64 i] w fun e w'=>e=.returned (.tuple #[])∧∃ w1 obl obh,R w w1∧OwnS w1 lv obl 47 51 ml xs∧OwnS w1 hv obh 55 14 1 (evL 1 c 0)∧Out1 gC n (ml+m) dv (.slice (some ⟨gN,0,none⟩) n cN) (.slice (some ⟨gCl,0,none⟩) 8 cCl) (.slice (some ⟨gCa,0,none⟩) 8 8) (xs++flat 51 m (VL ks fs ts qq xx)) gcl c v tg tk obl obh w1 w':=by
 have KO:=qh KO;have hts:=qh hts
 have hV:∀ j,((VL ks fs ts qq xx) j).length=51:=fun _=>rfl
 have hV1:=qh (show ∀ j,∀ u∈(VL ks fs ts qq xx) j,u.oneCell'=true from fun j=>letL_one _ _ _ _ _)
 have hin:(i:Int)<(n:Int):=by omega
 have a2:=h.cell 2
 simp only [clusL,yA,yB] at a2
 have p:=hN.cell i
 rw [ptrs_at n gs rN i hi] at p
 clear h hN
 go_enter Tryz.func31,Tryz.ntmps31
 go_wp2_with fail
 refine KO.out.mono ?_
 rintro e w1 ⟨o,a,obo,obl,oba,obh,rfl,hr,hc,ho,hl,hne,han,hhv,hcl,hca,hcat⟩
 have hgt:∀ k,obl=some k→k≠gC:=fun k hk=>by
  rcases hl.cases with⟨_,h0,_⟩|⟨g1,_,_,_,h0,_,_,hh,_⟩
  ·rw [h0] at hk;cases hk
  ·rw [h0] at hk;cases hk
   exact hh.ne_of hc (by decide)
 have hgo:∀ k,obo=some k→k≠gC:=fun k hk=>by
  rcases ho.cases with⟨_,h0,_⟩|⟨g1,_,_,_,h0,_,_,hh,_⟩
  ·rw [h0] at hk;cases hk
  ·rw [h0] at hk;cases hk
   exact hh.ne_of hc (by decide)
 obtain⟨po,co,rfl⟩:∃ po co,o=.slice po m co:=by
  rcases ho.cases with⟨r,_,r2,_⟩|⟨_,_,_,r,_⟩
  ·subst r2;exact⟨_,_,r⟩
  ·exact⟨_,_,r⟩
 obtain⟨ga,ca,ra,rfl,rfl,hca1,hca2,hga,_⟩:=han.blk (Nat.zero_lt_one)
 have HA0:=qh hga;have HH0:=qh hhv;have HHF:=qh hhv;have HCL0:=qh hcl;have HCA0:=qh hca;have HCAT0:=qh (show Holds w1 (gcl 0) 132 _ from hcat)
 have KK:=qh (cknown 1 (by omega) (by omega))
 have KT:=qh (fun W (h:CAt W (gcl 0) 1 1 c true tg tk)=>tell_yes (gcl 0) 1 1 c tg tk (.int .i64 0) (.bool false) (.string ⟨#[]⟩) (.int .i64 v) (.slice none 0 0) W h)
 have KP:=qh clonePair_nil'
 have dfl:∀ k,obl=some k→ga≠k∧gCl≠k∧gCa≠k∧gcl 0≠k∧∀ g,obh=some g→g≠k:=fun k hk=>by
  rcases hl.cases with⟨_,h0,_⟩|⟨g1,_,_,_,h0,_,_,hh,_⟩
  ·rw [h0] at hk;cases hk
  ·rw [h0] at hk;cases hk
   refine⟨hga.ne_of hh (by decide),hcl.ne_of hh (by decide),hca.ne_of hh (by decide),hcat.ne_of hh (by decide),fun g hg=>?_⟩
   rcases hhv.cases with⟨_,h0,_⟩|⟨g1,_,_,_,h0,_,_,hh2,_⟩
   ·rw [h0] at hg;cases hg
   ·rw [h0] at hg;cases hg
    exact hh2.ne_of hh (by decide)
 have dfc:ga≠gC∧gCl≠gC∧gCa≠gC∧gcl 0≠gC:=⟨hga.ne_of hc (by decide),hcl.ne_of hc (by decide),hca.ne_of hc (by decide),hcat.ne_of hc (by decide)⟩
 have dfh:∀ g,obh=some g→g≠gC∧g≠gcl 0:=fun g hg=>by
  rcases hhv.cases with⟨_,h0,_⟩|⟨g1,_,_,_,h0,_,_,hh2,_⟩
  ·rw [h0] at hg;cases hg
  ·rw [h0] at hg;cases hg
   exact⟨hh2.ne_of hc (by decide),hh2.ne_of hcat (by decide)⟩
 have dt:ga≠gcl 0∧gCl≠gcl 0∧gCa≠gcl 0:=⟨hga.ne_of hcat (by decide),hcl.ne_of hcat (by decide),hca.ne_of hcat (by decide)⟩
 have HR:=qh hr;have HO:=qh ho;have HL:=qh hl
 have hJ0:OutJ gC n ml dv (.slice (some ⟨gN,0,none⟩) n cN) (.slice (some ⟨gCl,0,none⟩) 8 cCl) (.slice (some ⟨gCa,0,none⟩) 8 8) hv xs (VL ks fs ts qq xx) obl w1 0 w1:=⟨lv,obl,hc,by rw [flat_zero,List.append_nil];exact hl,.inl rfl,Mv.refl _ _⟩
 have HJ0:=qh hJ0
 clear hr hc ho hl hJ0 KO a2 p han hhv hcl hca hcat hga
 go_wp2_with fail
 go_loopw [23] (fun vi wr=>∃ j:Nat,vi=.int .i64 (j:Int)∧j≤m∧OutJ gC n ml dv (.slice (some ⟨gN,0,none⟩) n cN) (.slice (some ⟨gCl,0,none⟩) 8 cCl) (.slice (some ⟨gCa,0,none⟩) 8 8) hv xs (VL ks fs ts qq xx) obl w1 j wr) (fun vi _=>m - (intOf vi).toNat)
 case atStart=>exact⟨0,rfl,Nat.zero_le _,HJ0.out⟩
 case round=>
  obtain⟨j,rfl,hj,hJ⟩:=hrel
  clear HJ0
  by_cases hjm:j=m
  ·subst hjm
   obtain⟨lv',ob',hc,hl,hob,hm⟩:=hJ
   have dl:∀ k,(k=gC∨obl=some k)→ga≠k∧gCl≠k∧gCa≠k∧gcl 0≠k∧∀ g,obh=some g→g≠k:=fun k hk=>by
    rcases hk with rfl|hk
    ·exact⟨dfc.1,dfc.2.1,dfc.2.2.1,dfc.2.2.2,fun g hg=>(dfh g hg).1⟩
    ·exact dfl k hk
   have HC:=qh hc;have HL2:=qh hl
   have HA:=qh (HA0.out.mv hm (fun hf=>(dl _ hf).1 rfl))
   have HCL:=qh (HCL0.out.mv hm (fun hf=>(dl _ hf).2.1 rfl))
   have HCA:=qh (HCA0.out.mv hm (fun hf=>(dl _ hf).2.2.1 rfl))
   have HCAT:=qh (HCAT0.out.mv hm (fun hf=>(dl _ hf).2.2.2.1 rfl))
   have HH:=qh (HH0.out.mv hm (fun g hg hf=>(dl _ hf).2.2.2.2 g hg rfl))
   have HM:=qh (hm.more (G:=fun k=>k=gC∨obl=some k∨obh=some k∨k=gcl 0) (fun k hk=>hk.imp id .inl))
   have htl:∀ k,ob'=some k→∃ L,Holds wr k 47 L:=fun k hk=>by
    rcases hl.cases with⟨_,h0,_⟩|⟨g1,_,_,_,h0,_,_,hh,_⟩
    ·rw [h0] at hk;cases hk
    ·rw [h0] at hk;cases hk
     exact⟨_,hh⟩
   have dl2:∀ k,ob'=some k→k≠gcl 0:=fun k hk=>by
    obtain⟨L,hL⟩:=htl k hk
    exact hL.ne_of HCAT.out (by decide)
   have dl4:∀ k,ob'=some k→k≠gC:=fun k hk=>by
    obtain⟨L,hL⟩:=htl k hk
    exact hL.ne_of hc (by decide)
   have dl3:∀ k,ob'=some k→obh≠some k:=fun k hk hf=>by
    obtain⟨L,hL⟩:=htl k hk
    rcases HH.out.cases with⟨_,h0,_⟩|⟨g1,_,_,_,h0,_,_,hh,_⟩
    ·rw [h0] at hf;cases hf
    ·rw [h0] at hf;cases hf
     exact hL.ne_of hh (by decide) rfl
   have hsw:=hm.size
   clear hc hl hm htl HA0 HCL0 HCA0 HCAT0 HH0 dfl
   go_wp2_with fail
   go_loopw [55] (fun vi wr2=>(vi=.int .i64 0∧wr=wr2)∨(vi=.int .i64 1∧Out1 gC n (ml+j) dv (.slice (some ⟨gN,0,none⟩) n cN) (.slice (some ⟨gCl,0,none⟩) 8 cCl) (.slice (some ⟨gCa,0,none⟩) 8 8) (xs++flat 51 j (VL ks fs ts qq xx)) gcl c v tg tk obl obh w1 wr2)) (fun vi _=>1 - (intOf vi).toNat)
   case atStart=>exact .inl ⟨rfl,rfl⟩
   case round=>
    rcases hrel with⟨rfl,rfl⟩|⟨rfl,hfin⟩
    ·have e0:=HA.out.cell 0
     have e1:=HA.out.cell 1
     have e2:=HA.out.cell 2
     have e3:=HA.out.cell 3
     have e4:=HA.out.cell 4
     have e5:=HA.out.cell 5
     have e6:=HA.out.cell 6
     simp only [ansA,List.cons_append,yA,yB] at e0 e1 e2 e3 e4 e5 e6
     have HB1:=qh (Base.start wr)
     go_upto_region 10 with (first
      | (refine wpList_store_whole rfl 121 (.tmp 9) (.tmp 58) wr.heap.size ansZ (ansA v) rfl rfl rfl rfl (holds_alloc wr _ _) (by kernel_rfl) rfl (all_of (ansA_one v)) ?_;intro w2 hh2 ht2))
     have hal:Below wr.heap.size wr w2:=Below.trans ((Below.refl _ _).alloc (Nat.le_refl _) _) (ht2.below (Nat.le_refl _) (by simp))
     have hgcl:=HCAT.out.lt
     have HX:=qh hh2
     have HC:=qh (HC.out.bel hal)
     have HL2:=qh (HL2.out.bel hal)
     have HA:=qh (HA.out.bel hal)
     have HH:=qh (HH.out.bel hal)
     have HCL:=qh (HCL.out.bel hal)
     have HCA:=qh (HCA.out.bel hal)
     have HCAT:=qh (HCAT.out.bel hal)
     have HM:=qh (HM.out.bel hal)
     have HB1:=qh (HB1.out.bel hal)
     clear hal hh2 ht2 e0 e1 e2 e3 e4 e5 e6
     have dx:wr.heap.size≠gcl 0:=by omega
     have dxC:wr.heap.size≠gC:=HX.out.ne_of HC.out (by decide)
     have dxw:w1.heap.size≤wr.heap.size:=hsw
     generalize hgx:wr.heap.size=gx at HX HB1 dx dxC dxw ⊢
     have hw0:IntKind.i64.wrap 0=0:=by kernel_rfl
     have HC:=qh (HC.out.bel (t_drew _ w2))
     have HL2:=qh (HL2.out.bel (t_drew _ w2))
     have HA:=qh (HA.out.bel (t_drew _ w2))
     have HH:=qh (HH.out.bel (t_drew _ w2))
     have HCL:=qh (HCL.out.bel (t_drew _ w2))
     have HCA:=qh (HCA.out.bel (t_drew _ w2))
     have HCAT:=qh (HCAT.out.bel (t_drew _ w2))
     have HM:=qh (HM.out.bel (t_drew _ w2))
     have HX:=qh (HX.out.bel (t_drew _ w2))
     have HB1:=qh (HB1.out.bel (t_drew _ w2))
     refine wp_region_noPanic ?_
     refine wp_region_late (S:=fun W'=>Below w2.drew.heap.size w2.drew W') (X0:=[14]) (by as_aux_lemma=>kernel_rfl) ?_
     generalize w2.drew=wd at HC HL2 HA HH HCL HCA HCAT HM HX HB1 ⊢
     have hSn:Below wd.heap.size wd wd:=Below.refl _ _
     change wpAnyL _ _ _ _ _ _ 16 #[false,false,false,false,false,false,false,false,false,false,false,false,false,false,false,false] _ _
     refine mvA 0 (some 59) (fun _=>hSn) ?_
     simp only [Act.put,zA,zB,zC]
     refine tkA 1 [2,3,4,5,6,7,8,9,10,11,12,13,14,15] (some 60) (?vg2) rfl (Or.inl ⟨by rfl,?hg2⟩) hSn ?rg2
     case hg2=>
      intro w hSw
      have b0:=(HX.out.bel hSw).cell 0
      simp only [ansA,yA,yB] at b0
      go_simp
      try with_reducible rfl
     simp only [Act.put,zA,zB,zC]
     refine rd1 2 rfl (fun K hK=>?_)
     go_simp
     refine (KK.out _).mono ?_
     rintro e wk ⟨rfl,hb⟩
     have hSn:=below_next hSn hb
     clear hb
     refine hK.out _ _ (fun _=>hSn) ?_
     clear hK
     try simp only [Act.put,zA,zB,zC]
     refine mvA 3 (some 62) (fun _=>hSn) ?_
     simp only [Act.put,zA,zB,zC]
     refine mvA 4 (some 63) (fun _=>hSn) ?_
     simp only [Act.put,zA,zB,zC]
     refine mvA 5 (some 64) (fun _=>hSn) ?_
     simp only [Act.put,zA,zB,zC]
     refine mvA 6 (some 65) (fun _=>hSn) ?_
     simp only [Act.put,zA,zB,zC]
     refine tkA 7 [11,12,14,15] (some 66) (?vg7) rfl (Or.inl ⟨by rfl,?hg7⟩) hSn ?rg7
     case hg7=>
      intro w hSw
      have b3:=(HC.out.bel hSw).cell 3
      simp only [clusL,yA,yB] at b3
      go_simp
      try with_reducible rfl
     simp only [Act.put,zA,zB,zC]
     refine mvA 8 (some 67) (fun _=>hSn) ?_
     simp only [Act.put,zA,zB,zC]
     refine tkA 9 [10,11,12,14,15] (some 68) (?vg9) rfl (Or.inl ⟨by rfl,?hg9⟩) hSn ?rg9
     case hg9=>
      intro w hSw
      have b0:=(HX.out.bel hSw).cell 0
      simp only [ansA,yA,yB] at b0
      go_simp
      try with_reducible rfl
     simp only [Act.put,zA,zB,zC]
     refine mvA 10 (some 69) (fun _=>hSn) ?_
     simp only [Act.put,zA,zB,zC]
     refine mvA 11 (some 70) (fun _=>hSn) ?_
     simp only [Act.put,zA,zB,zC]
     refine tkA 12 [14,15] (some 71) (?vg12) rfl (Or.inl ⟨by rfl,?hg12⟩) hSn ?rg12
     case hg12=>
      intro w hSw
      have bp:=(HCL.out.bel hSw).cell 0
      rw [ptrs_at 8 gcl rC 0 (by omega)] at bp
      go_simp
      try with_reducible rfl
     simp only [Act.put,zA,zB,zC]
     refine tkA 13 [14,15] (some 72) (?vg13) rfl (Or.inl ⟨by rfl,?hg13⟩) hSn ?rg13
     case hg13=>
      intro w hSw
      have b0:=(HX.out.bel hSw).cell 0
      have b1:=(HX.out.bel hSw).cell 1
      have b2:=(HX.out.bel hSw).cell 2
      have b3:=(HX.out.bel hSw).cell 3
      have b4:=(HX.out.bel hSw).cell 4
      have b5:=(HX.out.bel hSw).cell 5
      have b6:=(HX.out.bel hSw).cell 6
      simp only [ansA,yA,yB] at b0 b1 b2 b3 b4 b5 b6
      go_simp
      try with_reducible rfl
     simp only [Act.put,zA,zB,zC]
     refine rd1 14 rfl (fun K hK=>?_)
     go_simp
     refine (KT.out _ (HCAT.out.bel hSn)).mono ?_
     rintro e w5 ⟨rfl,hcat,ht⟩
     have hmt:Mv (fun k=>k=gcl 0) _ w5:=Mv.of_touch ht rfl
     have HC:=qh ((HC.out.bel hSn).mv hmt (Ne.symm dfc.2.2.2))
     have HL2:=qh ((HL2.out.bel hSn).mv hmt dl2)
     have HH:=qh ((HH.out.bel hSn).mv hmt (fun g hg=>(dfh g hg).2))
     have HCA:=qh ((HCA.out.bel hSn).mv hmt dt.2.2)
     have HX:=qh ((HX.out.bel hSn).mv hmt dx)
     have HM:=qh ((HM.out.bel hSn).mv hmt (fun k hk=>.inl (.inr (.inr (.inr hk)))))
     have HCAT:=qh hcat
     have hB5:=ht.size
     clear hcat ht hmt
     refine hK.out _ _ nlA ?_
     clear hK
     try simp only [Act.put,zA,zB,zC]
     refine mvA 15 (some 74) nlA ?_
     simp only [Act.put,zA,zB,zC]
     refine dnA (NoPanic.normal ?_)
     clear hSn HB1 HA HCL
     have x6:=HX.out.cell 6
     simp only [ansA,yA,yB] at x6
     go_wp2_with fail
     refine (KP.out _).mono ?_
     rintro e w6 ⟨rfl,hb6⟩
     have HC:=qh (HC.out.bel hb6)
     have HL2:=qh (HL2.out.bel hb6)
     have HH:=qh (HH.out.bel hb6)
     have HCA:=qh (HCA.out.bel hb6)
     have HCAT:=qh (HCAT.out.bel hb6)
     have HM:=qh (HM.out.bel hb6)
     have HX:=qh (HX.out.bel hb6)
     clear hb6 x6
     go_upto_region 12 with (first
      | (refine wpList_store_cell rfl 51 (.tmp 80) (.tmp 78) rfl rfl gx 6 121 _ HX.out (by simp [ansA]) rfl (.slice none 0 0) rfl rfl (by kernel_rfl) rfl ?_;intro w7 hh7 ht7))
     have dxs:∀ t L k,Holds w6 k t L→t≠121→k≠gx:=fun t L k h ht=>h.ne_of HX.out ht
     have hm7:Mv (fun k=>k=gx) w6 w7:=Mv.of_touch ht7 rfl
     have HX:=qh (show Holds w7 gx 121 (ansA v) from hh7)
     have HL2:=qh (HL2.out.mv hm7 (fun k hk=>by
      rcases HL2.out.cases with⟨_,h0,_⟩|⟨g1,_,_,_,h0,_,_,hh,_⟩
      ·rw [h0] at hk;cases hk
      ·rw [h0] at hk;cases hk
       exact dxs _ _ _ hh (by decide)))
     have HH:=qh (HH.out.mv hm7 (fun k hk=>by
      rcases HH.out.cases with⟨_,h0,_⟩|⟨g1,_,_,_,h0,_,_,hh,_⟩
      ·rw [h0] at hk;cases hk
      ·rw [h0] at hk;cases hk
       exact dxs _ _ _ hh (by decide)))
     have HCA:=qh (HCA.out.mv hm7 (dxs _ _ _ HCA.out (by decide)))
     have HCAT:=qh (HCAT.out.mv hm7 (dxs _ _ _ HCAT.out (by decide)))
     have HC:=qh (HC.out.mv hm7 (dxs _ _ _ HC.out (by decide)))
     have HM:=qh (HM.out.mv hm7 (fun k hk=>.inr (hk▸dxw)))
     clear hh7 ht7 hm7 dxs
     have HC:=qh (HC.out.bel (t_drew _ w7))
     have HL2:=qh (HL2.out.bel (t_drew _ w7))
     have HH:=qh (HH.out.bel (t_drew _ w7))
     have HCA:=qh (HCA.out.bel (t_drew _ w7))
     have HCAT:=qh (HCAT.out.bel (t_drew _ w7))
     have HM:=qh (HM.out.bel (t_drew _ w7))
     have HX:=qh (HX.out.bel (t_drew _ w7))
     refine wp_region_noPanic ?_
     refine wp_region_late (S:=fun W'=>Below w7.drew.heap.size w7.drew W') (X0:=[20,23]) (by as_aux_lemma=>kernel_rfl) ?_
     generalize w7.drew=wd at HC HL2 HH HCA HCAT HM HX ⊢
     have hSn:Below wd.heap.size wd wd:=Below.refl _ _
     change wpAnyL _ _ _ _ _ _ 24 #[false,false,false,false,false,false,false,false,false,false,false,false,false,false,false,false,false,false,false,false,false,false,false,false] _ _
     refine mvA 0 (some 81) (fun _=>hSn) ?_
     simp only [Act.put,zA,zB,zC]
     refine mvA 1 (some 82) (fun _=>hSn) ?_
     simp only [Act.put,zA,zB,zC]
     refine mvA 2 (some 83) (fun _=>hSn) ?_
     simp only [Act.put,zA,zB,zC]
     refine mvA 3 (some 84) (fun _=>hSn) ?_
     simp only [Act.put,zA,zB,zC]
     refine tkA 4 [20,21,22,23] (some 85) (?vg19) rfl (Or.inl ⟨by rfl,?hg19⟩) hSn ?rg19
     case hg19=>
      intro w hSw
      have b6:=(HC.out.bel hSw).cell 6
      simp only [clusL,yA,yB] at b6
      go_simp
      try with_reducible rfl
     simp only [Act.put,zA,zB,zC]
     refine mvA 5 (some 86) (fun _=>hSn) ?_
     simp only [Act.put,zA,zB,zC]
     refine tkA 6 [18,19,20,21,22,23] (some 87) (?vg21) rfl (Or.inl ⟨by rfl,?hg21⟩) hSn ?rg21
     case hg21=>
      intro w hSw
      have b0:=(HX.out.bel hSw).cell 0
      simp only [ansA,yA,yB] at b0
      go_simp
      try with_reducible rfl
     simp only [Act.put,zA,zB,zC]
     refine mvA 7 (some 88) (fun _=>hSn) ?_
     simp only [Act.put,zA,zB,zC]
     refine mvA 8 (some 89) (fun _=>hSn) ?_
     simp only [Act.put,zA,zB,zC]
     refine mvA 9 (some 90) (fun _=>hSn) ?_
     simp only [Act.put,zA,zB,zC]
     refine tkA 10 [14,15,18,19,20,21,22,23] (some 91) (?vg25) rfl (Or.inl ⟨by rfl,?hg25⟩) hSn ?rg25
     case hg25=>
      intro w hSw
      have b4:=(HC.out.bel hSw).cell 4
      simp only [clusL,yA,yB] at b4
      go_simp
      try with_reducible rfl
     simp only [Act.put,zA,zB,zC]
     refine mvA 11 (some 92) (fun _=>hSn) ?_
     simp only [Act.put,zA,zB,zC]
     refine tkA 12 [13,14,15,18,19,20,21,22,23] (some 93) (?vg27) rfl (Or.inl ⟨by rfl,?hg27⟩) hSn ?rg27
     case hg27=>
      intro w hSw
      have b0:=(HX.out.bel hSw).cell 0
      simp only [ansA,yA,yB] at b0
      go_simp
      try with_reducible rfl
     simp only [Act.put,zA,zB,zC]
     refine mvA 13 (some 94) (fun _=>hSn) ?_
     simp only [Act.put,zA,zB,zC]
     refine mvA 14 (some 95) (fun _=>hSn) ?_
     simp only [Act.put,zA,zB,zC]
     refine tkA 15 [18,19,20,21,22,23] (some 96) (?vg30) rfl (Or.inl ⟨by rfl,?hg30⟩) hSn ?rg30
     case hg30=>
      intro w hSw
      have b0:=(HCA.out.bel hSw).cell 0
      have b1:=(HCA.out.bel hSw).cell 1
      have b2:=(HCA.out.bel hSw).cell 2
      have b3:=(HCA.out.bel hSw).cell 3
      have b4:=(HCA.out.bel hSw).cell 4
      have b5:=(HCA.out.bel hSw).cell 5
      have b6:=(HCA.out.bel hSw).cell 6
      simp only [cmdL,List.cons_append,yA,yB] at b0 b1 b2 b3 b4 b5 b6
      go_simp
      try with_reducible rfl
     simp only [Act.put,zA,zB,zC]
     refine mvA 16 (some 97) (fun _=>hSn) ?_
     simp only [Act.put,zA,zB,zC]
     refine tkA 17 [18,19,20,21,22,23] (some 98) (?vg32) rfl (Or.inl ⟨by rfl,?hg32⟩) hSn ?rg32
     case hg32=>
      intro w hSw
      have b2:=(HX.out.bel hSw).cell 2
      have b3:=(HX.out.bel hSw).cell 3
      have b4:=(HX.out.bel hSw).cell 4
      have b5:=(HX.out.bel hSw).cell 5
      have b6:=(HX.out.bel hSw).cell 6
      simp only [ansA,yA,yB] at b2 b3 b4 b5 b6
      go_simp
      try with_reducible rfl
     simp only [Act.put,zA,zB,zC]
     refine mvA 18 (some 99) (fun _=>hSn) ?_
     simp only [Act.put,zA,zB,zC]
     refine rd1 19 rfl (fun K hK=>?_)
     refine step_build1 rfl 48 55 (.agg (evL 2 c v).toArray) (evL 2 c v) rfl rfl rfl (fun w=>by kernel_rfl) ?_
     intro wa hna hba
     have hSn:=below_next hSn hba
     have HNA:=qh hna
     generalize wd.heap.size=gn at HNA ⊢
     have HC:=qh (HC.out.bel hSn)
     have HL2:=qh (HL2.out.bel hSn)
     have HH:=qh (HH.out.bel hSn)
     have HCAT:=qh (HCAT.out.bel hSn)
     have HM:=qh (HM.out.bel hSn)
     clear hna hba
     change K (Act.put _ (some 100) _) _
     refine hK.out _ _ (fun _=>hSn) ?_
     clear hK
     try simp only [Act.put,zA,zB,zC]
     refine rd1 20 rfl (fun K hK=>?_)
     refine step_append_s rfl (.tmp 85) (.tmp 100) 48 rfl 55 (.agg evZ.toArray) 14 168 rfl (by kernel_rfl) rfl (by decide) _ obh 1 _ rfl HH.out _ 1 1 (evL 2 c v) rfl rfl (HNA.out.reads 0 _ (fun j v hv=>by rw [Nat.zero_add];exact hv)) (by decide) (evL_one 2 c v) (by unfold maxLen;omega) (by omega) ?_
     intro v9 ob9 w9 ho9 hob9 hm9
     have hle9:=HM.out.size
     have HC9:=qh (HC.out.mv hm9 (fun hf=>(dfh _ hf).1 rfl))
     have HL9:=qh (HL2.out.mv hm9 (fun k hk hf=>dl3 k hk hf))
     have HT9:=qh (HCAT.out.mv hm9 (fun hf=>(dfh _ hf).2 rfl))
     have HM9:=qh (HM.out.mv hm9 (fun k hk=>.inl (.inr (.inr (.inl hk)))))
     have HO9:=qh ho9
     have hob8:ob9=obh∨∃ k,ob9=some k∧w1.heap.size≤k:=hob9.imp id (fun ⟨k,h,h2⟩=>⟨k,h,by omega⟩)
     have hgt9:∀ k,ob9=some k→k≠gC:=(fun k hk=>by
      rcases HO9.out.cases with⟨_,h0,_⟩|⟨g1,_,_,_,h0,_,_,hh,_⟩
      ·rw [h0] at hk;cases hk
      ·rw [h0] at hk;cases hk
       exact hh.ne_of HC9.out (by decide))
     clear ho9 hob9 hm9
     change K (Act.put _ (some 101) _) _
     refine hK.out _ _ nlA ?_
     clear hK
     try simp only [Act.put,zA,zB,zC]
     refine mvA 21 (some 102) nlA ?_
     simp only [Act.put,zA,zB,zC]
     refine mvA 22 (some 103) nlA ?_
     simp only [Act.put,zA,zB,zC]
     refine rd1 23 rfl (fun K hK=>?_)
     refine step_store_cell rfl 48 (.tmp 103) (.tmp 101) rfl rfl gC 6 85 _ HC9.out (by simp [clusL]) rfl v9 rfl (by rcases HO9.out.cases with⟨r,_⟩|⟨_,_,_,r,_⟩<;>rw [r]<;>rfl) (by kernel_rfl) (by rcases HO9.out.cases with⟨r,_⟩|⟨_,_,_,r,_⟩<;>rw [r]<;>rfl) ?_
     intro w10 hh10 ht10
     have hm10:Mv (fun k=>k=gC) w9 w10:=Mv.of_touch ht10 rfl
     have HFIN:=qh (show Out1 gC n (ml+j) dv (.slice (some ⟨gN,0,none⟩) n cN) (.slice (some ⟨gCl,0,none⟩) 8 cCl) (.slice (some ⟨gCa,0,none⟩) 8 8) (xs++flat 51 j (VL ks fs ts qq xx)) gcl c v tg tk obl obh w1 w10 from ⟨lv',ob',v9,ob9,hh10,HL9.out.mv hm10 dl4,hob,HO9.out.mv hm10 hgt9,hob8,HT9.out.mv hm10 dfc.2.2.2,HM9.out.mv hm10 (fun k hk=>.inl (.inl hk))⟩)
     clear hh10 ht10 hm10
     refine hK.out _ _ nlA ?_
     clear hK
     try simp only [Act.put,zA,zB,zC]
     refine dnA (NoPanic.normal ?_)
     clear hSn HC HL2 HH HCA HCAT HM HX HC9 HL9 HT9 HM9 HO9 HNA
     go_wp2_with fail
     go_roundw
     case rel=>exact .inr ⟨by simp,HFIN.out⟩
     case measure=>simp [intOf]
    ·have HFIN:=qh hfin
     have HLF:=qh (show OwnS w1 hv obh 55 14 1 (evL 1 c 0) from HHF.out)
     clear hfin HC HL2 HA HH HCL HCA HCAT HM
     go_wp2_with fail
     exact bodyPost_end (v:=.tuple #[]) (by simp [results,Tryz.results31,go_sem]) rfl ⟨rfl,w1,obl,obh,HR.out,HL.out,HLF.out,HFIN.out⟩
  ·have hjm2:j<m:=by omega
   have hji:(j:Int)<(m:Int):=by omega
   obtain⟨lv',ob',hc,hl,hob,hm⟩:=hJ
   have ho:=HO.out.mv hm (fun k hk hf=>hf.elim (hgo k hk) (hne k hk))
   obtain⟨go,co',ro,hv1,hv2,hco1,hco2,hgoh,_⟩:=ho.blk (by omega)
   injection hv1 with hv1 _ hv3
   subst hv1 hv3
   have HRG:=qh (flat_range m (VL ks fs ts qq xx) hV hgoh j hjm2)
   have HC:=qh hc;have HLL:=qh hl;have HM:=qh hm
   have hob2:=qh hob
   have hV2a:((VL ks fs ts qq xx) j)[2]?=some (.int .i64 (ts j)):=rfl
   have htn:(ts j:Int)<(n:Int):=by have:=hts.out j hjm2;omega
   clear hc hl hm hob ho hgoh
   obtain⟨pl,cl,rfl⟩:∃ pl cl,lv'=.slice pl (ml+j:Nat) cl:=by
    rcases HLL.out.cases with⟨r,_,r2,_⟩|⟨_,_,_,r,_⟩
    ·rw [r2];exact⟨_,_,r⟩
    ·exact⟨_,_,r⟩
   have hl4:((ml+j:Nat):Int)<4000:=by omega
   have hgt2:=qh (show ∀ k,ob'=some k→k≠gC from fun k hk=>by
    rcases HLL.out.cases with⟨_,h0,_⟩|⟨g1,_,_,_,h0,_,_,hh,_⟩
    ·rw [h0] at hk;cases hk
    ·rw [h0] at hk;cases hk
     exact hh.ne_of HC.out (by decide))
   have hbld:∀ j (w:World),(Instr.buildSlice 34 1 #[(0,.agg ((VL ks fs ts qq xx) j).toArray)]).run Tryz.prog w=.ok (.slice (some ⟨w.heap.size,0,none⟩) 1 1) (w.alloc (.cells ((VL ks fs ts qq xx) j).toArray 47)):=fun j w=>by kernel_rfl
   have HB1:=qh (Base.start wr)
   go_upto_region 4 with (first
    | (refine wpList_load_mid rfl 47 _ rfl go (j*51) rfl ((VL ks fs ts qq xx) j) _ HRG.out Tryz.underlying47 rfl (letsize (hV j)) ?_)
    | (refine wpList_store_whole rfl 47 (.tmp 7) (.tmp 26) wr.heap.size letZ ((VL ks fs ts qq xx) j) rfl rfl rfl rfl (holds_alloc wr _ _) (letsize (hV j)) (by rw [hV];rfl) (all_of (hV1.out j)) ?_;intro w2 hh2 ht2))
   have hal:Below wr.heap.size wr w2:=Below.trans ((Below.refl _ _).alloc (Nat.le_refl _) _) (ht2.below (Nat.le_refl _) (by simp))
   have HX:=qh hh2
   have HC:=qh (HC.out.bel hal)
   have HLL:=qh (HLL.out.bel hal)
   have HM:=qh (HM.out.bel hal)
   have HB1:=qh (HB1.out.bel hal)
   clear hal hh2 ht2 HRG
   generalize hgx:wr.heap.size=gx at HX HB1 ⊢
   have x2:=HX.out.cell 2
   rw [hV2a] at x2
   have a0:=HC.out.cell 0
   have a5:=HC.out.cell 5
   simp only [clusL,yA,yB] at a0 a5
   go_quiet (fail)
   have HC:=qh (HC.out.bel (t_drewN _ _ nq));have HLL:=qh (HLL.out.bel (t_drewN _ _ nq));have HM:=qh (HM.out.bel (t_drewN _ _ nq));have HB1:=qh (HB1.out.bel (t_drewN _ _ nq));have HX:=qh (HX.out.bel (t_drewN _ _ nq))
   clear x2 a0 a5
   generalize w2.drewN nq=w3 at HC HLL HM HB1 HX ⊢
   go_upto_region 5 with (fail)
   have HRX:=qh (fun (w':World) (h:Below w3.drew.heap.size w3.drew w')=>((HX.out.bel (t_drew _ w3)).bel h).range0)
   have HC:=qh (HC.out.bel (t_drew _ w3))
   have HLL:=qh (HLL.out.bel (t_drew _ w3))
   have HM:=qh (HM.out.bel (t_drew _ w3))
   have HB1:=qh (HB1.out.bel (t_drew _ w3))
   refine wp_region_noPanic ?_
   refine wp_region_late (S:=fun W'=>Below w3.drew.heap.size w3.drew W') (X0:=[7,10]) (by as_aux_lemma=>kernel_rfl) ?_
   generalize w3.drew=wd at HC HLL HM HB1 HRX ⊢
   have hSn:Below wd.heap.size wd wd:=Below.refl _ _
   change wpAnyL _ _ _ _ _ _ 11 #[false,false,false,false,false,false,false,false,false,false,false] _ _
   refine mvA 0 (some 42) (fun _=>hSn) ?_
   simp only [Act.put,zA,zB,zC]
   refine mvA 1 (some 43) (fun _=>hSn) ?_
   simp only [Act.put,zA,zB,zC]
   refine mvA 2 (some 44) (fun _=>hSn) ?_
   simp only [Act.put,zA,zB,zC]
   refine mvA 3 (some 45) (fun _=>hSn) ?_
   simp only [Act.put,zA,zB,zC]
   refine tkA 4 [7,8,9,10] (some 46) (?vg40) rfl (Or.inl ⟨by rfl,?hg40⟩) hSn ?rg40
   case hg40=>
    intro w hSw
    have b5:=(HC.out.bel hSw).cell 5
    simp only [clusL,yA,yB] at b5
    go_simp
    try with_reducible rfl
   simp only [Act.put,zA,zB,zC]
   refine tkA 5 [6,7,8,9,10] (some 47) (.agg (VL ks fs ts qq xx j).toArray) rfl (yieldsIf_load_mid (by rfl) 47 _ rfl gx 0 rfl (VL ks fs ts qq xx j) _ (fun w hSw=>HRX.out w hSw) Tryz.underlying47 rfl (by as_aux_lemma=>kernel_rfl)) hSn ?rg41
   simp only [Act.put,zA,zB,zC]
   refine rd1 6 rfl (fun K hK=>?_)
   refine step_build1 rfl 34 47 (.agg ((VL ks fs ts qq xx) j).toArray) ((VL ks fs ts qq xx) j) rfl rfl rfl (hbld j) ?_
   intro wa hna hba
   have hSn:=below_next hSn hba
   have HNA:=qh hna
   generalize wd.heap.size=gn at HNA ⊢
   have HLL:=qh (HLL.out.bel hSn)
   have HC:=qh (HC.out.bel hSn)
   have HM:=qh (HM.out.bel hSn)
   have HB1:=qh (HB1.out.bel hSn)
   clear hna hba
   change K (Act.put _ (some 48) _) _
   refine hK.out _ _ (fun _=>hSn) ?_
   clear hK
   try simp only [Act.put,zA,zB,zC]
   refine rd1 7 rfl (fun K hK=>?_)
   refine step_append_s rfl (.tmp 46) (.tmp 48) 34 rfl 47 (.agg letZ.toArray) 51 480 rfl (by kernel_rfl) rfl (by decide) _ ob' (ml+j) _ rfl HLL.out _ 1 1 ((VL ks fs ts qq xx) j) rfl (by rw [hV]) (HNA.out.reads 0 _ (fun j v hv=>by rw [Nat.zero_add];exact hv)) (by decide) (hV1.out j) (by unfold maxLen;omega) (by omega) ?_
   intro v5 ob5 w5 ho5 hob5 hm5
   have HC5:=qh (HC.out.mv hm5 (fun hf=>hgt2.out _ hf rfl))
   have hle5:=HM.out.size
   have hob6:ob5=obl∨∃ k,ob5=some k∧w1.heap.size≤k:=by
    rcases hob5 with h|⟨k,h,h2⟩
    ·rcases hob2.out with h3|h3
     ·exact .inl (h.trans h3)
     ·exact .inr (h▸h3)
    ·exact .inr ⟨k,h,by omega⟩
   have HM5:=qh (HM.out.mv hm5 (fun k hk=>by
    rcases hob2.out with h3|⟨k3,h3,h4⟩
    ·exact .inl (.inr (h3▸hk))
    ·rw [h3] at hk;cases hk;exact .inr h4))
   obtain⟨p5,c5,rfl⟩:∃ p5 c5,v5=.slice p5 (ml+j+1:Nat) c5:=by
    rcases ho5.cases with⟨_,_,h0,_⟩|⟨g1,cap,_,hv,_⟩
    ·omega
    ·exact⟨_,cap,hv⟩
   have HO5:=qh (show OwnS w5 (.slice p5 (ml+j+1:Nat) c5) ob5 47 51 (ml+(j+1)) (xs++flat 51 (j+1) (VL ks fs ts qq xx)) from flat_app xs (VL ks fs ts qq xx) hV j▸ho5)
   have hgt5:∀ k,ob5=some k→k≠gC:=(fun k hk=>by
    rcases HO5.out.cases with⟨_,h0,_⟩|⟨g1,_,_,_,h0,_,_,hh,_⟩
    ·rw [h0] at hk;cases hk
    ·rw [h0] at hk;cases hk
     exact hh.ne_of HC5.out (by decide))
   clear ho5 hob5 hm5
   change K (Act.put _ (some 49) _) _
   refine hK.out _ _ nlA ?_
   clear hK
   try simp only [Act.put,zA,zB,zC]
   refine mvA 8 (some 50) nlA ?_
   simp only [Act.put,zA,zB,zC]
   refine mvA 9 (some 51) nlA ?_
   simp only [Act.put,zA,zB,zC]
   refine rd1 10 rfl (fun K hK=>?_)
   refine step_store_cell rfl 34 (.tmp 51) (.tmp 49) rfl rfl gC 5 85 _ HC5.out (by simp [clusL]) rfl (.slice p5 (ml+j+1:Nat) c5) rfl rfl (by kernel_rfl) rfl ?_
   intro w6 hh6 ht6
   have HJ6:=qh (show OutJ gC n ml dv (.slice (some ⟨gN,0,none⟩) n cN) (.slice (some ⟨gCl,0,none⟩) 8 cCl) (.slice (some ⟨gCa,0,none⟩) 8 8) hv xs (VL ks fs ts qq xx) obl w1 (j+1) w6 from ⟨_,ob5,hh6,HO5.out.touch ht6 hgt5,hob6,HM5.out.touch ht6 (.inl (.inl rfl))⟩)
   clear hh6 ht6
   refine hK.out _ _ nlA ?_
   clear hK
   try simp only [Act.put,zA,zB,zC]
   refine dnA (NoPanic.normal ?_)
   clear hSn HC HLL HM HB1 HC5 HM5 HO5 HNA HRX HX
   go_wp2_with fail
   go_roundw
   case rel=>exact⟨j+1,by simp,by omega,HJ6.out⟩
   case measure=>simp [intOf];omega
end
end Go.Proofs.YtimdpiifpibgfaaGreatDoor
