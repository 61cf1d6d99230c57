/- A part of the proof that the law TopGone returns true for every input. -/
import Derived.Test.YtimdpiifpibgfaaGreatDoorQg38
set_option linter.all false
set_option maxRecDepth 20000
set_option maxHeartbeats 16000000
open Go.RowKit Go.Maps
namespace Go.Proofs.YtimdpiifpibgfaaGreatDoor
open Tryz
def G6(c:Cm):List Value:=[.int .i64 c.k,.int .i64 1,.int .i64 1,.string c.a,.string c.b,.string c.o,.string c.v]
theorem Us(k:Int)(c:Cm)(v:Int):∀u∈NF k c v,u.oneCell'=true:=by simp[NF,Value.oneCell']
def az(gC n mm:Nat)(dv nv clv cav:Value)(xs:List Value)(gcl:Nat→Nat)(c:Cm)(v tg tk:Int)(obl obh:Option Nat)(w1 w':World):Prop:=∃lv' ob' hv' obh',Holds w' gC 85 (DW n dv nv clv cav lv' hv') ∧
 AU w' lv' ob' 47 51 mm xs∧(ob'=obl∨∃k,ob'=some k∧w1.heap.size≤k)∧AU w' hv' obh' 55 14 (1+1) (NF 1 c 0++NF 2 c v)∧(obh'=obh∨∃k,obh'=some k∧w1.heap.size≤k)∧Hq w' (gcl 0) 1 1 c false tg tk∧Mv (λk=>k=gC∨obl=some k∨obh=some k∨k=gcl 0) w1 w'
theorem fP(gC gN gCl cCl gCa n cN i ml m:Nat)(gcl:Nat→Nat)(rC rA:List Value)(c:Cm)(v tg tk:Int)(gi:Nat)(gs:Nat→Option Nat)(rN:List Value)(dv lv hv:Value)(xs:List Value)(ks fs ts:Nat→Nat)(ps:Nat→Lp)(R:World→World→Prop)(w:World) (h:Holds w gC 85 (DW n dv (.slice (some ⟨gN,0,none⟩) n cN) (.slice (some ⟨gCl,0,none⟩) 8 cCl) (.slice (some ⟨gCa,0,none⟩) 8 8) lv hv)) (hN:Holds w gN 59 (Ij n gs++rN)) (hi:i<n) (hgi:gs i=some gi) (hcN:n≤cN) (hts:∀i,i<m→ts i<n) (hml:ml+m≤1000) (KO:Calls prog 54 #[.pointer (some ⟨gi,0,none⟩)] w λe w1=>∃o a obo obl oba obh,e=.returned (.tuple #[o,a])∧R w w1∧Holds w1 gC 85 (DW n dv (.slice (some ⟨gN,0,none⟩) n cN) (.slice (some ⟨gCl,0,none⟩) 8 cCl) (.slice (some ⟨gCa,0,none⟩) 8 8) lv hv)∧AU w1 o obo 47 51 m (flat 51 m (VL ks fs ts ps))∧AU w1 lv obl 47 51 ml xs∧(∀k,obo=some k→obl≠some k)∧AU w1 a oba 121 7 1 (NV v)∧AU w1 hv obh 55 14 1 (NF 1 c 0)∧Holds w1 gCl 92 (ptrs 8 gcl++rC)∧Holds w1 gCa 23 (G6 c++rA)∧Hq w1 (gcl 0) 1 1 c true tg tk) :Calls prog 31 #[.pointer (some ⟨gC,0,none⟩),.int .i64 i] w λe w'=>e=.returned (.tuple #[])∧∃w1 obl obh,R w w1∧AU w1 lv obl 47 51 ml xs∧AU w1 hv obh 55 14 1 (NF 1 c 0)∧az gC n (ml+m) dv (.slice (some ⟨gN,0,none⟩) n cN) (.slice (some ⟨gCl,0,none⟩) 8 cCl) (.slice (some ⟨gCa,0,none⟩) 8 8) (xs++flat 51 m (VL ks fs ts ps)) gcl c v tg tk obl obh w1 w':=by
 have KO:=qh KO;have hts:=qh hts;have hV:∀j,((VL ks fs ts ps) j).length=51:=λ_=>rfl;have hV1:=qh (show ∀j,∀u∈(VL ks fs ts ps) j,u.oneCell'=true from λj=>IW _ _ _ _);have hin:(i:Int)<(n:Int):=by omega
 have a2:=AZ h 2;have p:=hN.cell i;rw[Nj n gs rN i hi,hgi] at p;simp only[Option.map_some] at p;clear h hN;go_in;go_wp2_with fail;refine KO.mono ?_;rintro e w1 ⟨o,a,obo,obl,oba,obh,rfl,hr,hc,ho,hl,hne,han,hhv,hcl,hca,hcat⟩;have hgt:∀k,obl=some k→k≠gC:=λk hk=>by
  rcases hl.cases with⟨_,h0,_⟩|⟨g1,_,_,_,h0,_,_,hh,_⟩
  ·rw[h0] at hk;cases hk
  ·rw[h0] at hk;cases hk;exact hh.ne_of hc (by decide)
 have hgo:∀k,obo=some k→k≠gC:=λk hk=>by
  rcases ho.cases with⟨_,h0,_⟩|⟨g1,_,_,_,h0,_,_,hh,_⟩
  ·rw[h0] at hk;cases hk
  ·rw[h0] at hk;cases hk;exact hh.ne_of hc (by decide)
 obtain⟨po,co,rfl⟩:∃po co,o=.slice po m co:=by
  rcases ho.cases with⟨r,_,r2,_⟩|⟨_,_,_,r,_⟩
  ·subst r2;exact⟨_,_,r⟩
  ·exact⟨_,_,r⟩
 obtain⟨ga,ca,ra,rfl,rfl,hca1,hca2,hga,_⟩:=han.blk (Nat.zero_lt_one);have HA0:=qh hga;have HH0:=qh hhv;have HHF:=qh hhv;have HCL0:=qh hcl;have HCA0:=qh hca;have HCAT0:=qh (show Holds w1 (gcl 0) 132 _ from hcat);have KK:=qh (N8 1 (by omega) (by omega));have KT:=qh (λW (h:Hq W (gcl 0) 1 1 c true tg tk)=>Y4 (gcl 0) 1 1 c tg tk (.int .i64 0) (.bool false) (.string ⟨#[]⟩) (.int .i64 v) (.slice none 0 0) W h);have KP:=qh JA;have dfl:∀k,obl=some k→ga≠k∧gCl≠k∧gCa≠k∧gcl 0≠k∧∀g,obh=some g→g≠k:=λk hk=>by
  rcases hl.cases with⟨_,h0,_⟩|⟨g1,_,_,_,h0,_,_,hh,_⟩
  ·rw[h0] at hk;cases hk
  ·rw[h0] at hk;cases hk;refine⟨hga.ne_of hh (by decide),hcl.ne_of hh (by decide),hca.ne_of hh (by decide),hcat.ne_of hh (by decide),λg hg=>?_⟩;rcases hhv.cases with⟨_,h0,_⟩|⟨g1,_,_,_,h0,_,_,hh2,_⟩
   ·rw[h0] at hg;cases hg
   ·rw[h0] at hg;cases hg;exact hh2.ne_of hh (by decide)
 have dfc:ga≠gC∧gCl≠gC∧gCa≠gC∧gcl 0≠gC:=⟨hga.ne_of hc (by decide),hcl.ne_of hc (by decide),hca.ne_of hc (by decide),hcat.ne_of hc (by decide)⟩;have dfh:∀g,obh=some g→g≠gC∧g≠gcl 0:=λg hg=>by
  rcases hhv.cases with⟨_,h0,_⟩|⟨g1,_,_,_,h0,_,_,hh2,_⟩
  ·rw[h0] at hg;cases hg
  ·rw[h0] at hg;cases hg;exact⟨hh2.ne_of hc (by decide),hh2.ne_of hcat (by decide)⟩
 have dt:ga≠gcl 0∧gCl≠gcl 0∧gCa≠gcl 0:=⟨hga.ne_of hcat (by decide),hcl.ne_of hcat (by decide),hca.ne_of hcat (by decide)⟩;have HR:=qh hr;have HO:=qh ho;have HL:=qh hl;have hJ0:TA gC n ml dv (.slice (some ⟨gN,0,none⟩) n cN) (.slice (some ⟨gCl,0,none⟩) 8 cCl) (.slice (some ⟨gCa,0,none⟩) 8 8) hv xs (VL ks fs ts ps) obl w1 0 w1:=⟨lv,obl,hc,by rw[JY,List.append_nil];exact hl,.inl rfl,Mv.refl _ _⟩;have HJ0:=qh hJ0;clear hr hc ho hl hJ0 KO a2 p han hhv hcl hca hcat hga;go_wp2_with fail;go_loopw [23] (λvi wr=>∃j:Nat,vi=.int .i64 (j:Int)∧j≤m∧TA gC n ml dv (.slice (some ⟨gN,0,none⟩) n cN) (.slice (some ⟨gCl,0,none⟩) 8 cCl) (.slice (some ⟨gCa,0,none⟩) 8 8) hv xs (VL ks fs ts ps) obl w1 j wr) (λvi _=>m - (intOf vi).toNat);case atStart=>exact⟨0,rfl,Nat.zero_le _,HJ0.o⟩
 case round=>
  obtain⟨j,rfl,hj,hJ⟩:=hrel;clear HJ0;by_cases hjm:j=m
  ·subst hjm;obtain⟨lv',ob',hc,hl,hob,hm⟩:=hJ;have dl:∀k,(k=gC∨obl=some k)→ga≠k∧gCl≠k∧gCa≠k∧gcl 0≠k∧∀g,obh=some g→g≠k:=λk hk=>by
    rcases hk with rfl|hk
    ·exact⟨dfc.1,dfc.2.1,dfc.2.2.1,dfc.2.2.2,λg hg=>(dfh g hg).1⟩
    ·exact dfl k hk
   have HC:=qh hc;have HL2:=qh hl;have HA:=qh (HA0.mv hm (λhf=>(dl _ hf).1 rfl));have HCL:=qh (HCL0.mv hm (λhf=>(dl _ hf).2.1 rfl));have HCA:=qh (HCA0.mv hm (λhf=>(dl _ hf).2.2.1 rfl));have HCAT:=qh (HCAT0.mv hm (λhf=>(dl _ hf).2.2.2.1 rfl));have HH:=qh (HH0.mv hm (λg hg hf=>(dl _ hf).2.2.2.2 g hg rfl));have HM:=qh (hm.more (G:=λk=>k=gC∨obl=some k∨obh=some k∨k=gcl 0) (λk hk=>hk.imp id .inl));have htl:∀k,ob'=some k→∃L,Holds wr k 47 L:=λk hk=>by
    rcases hl.cases with⟨_,h0,_⟩|⟨g1,_,_,_,h0,_,_,hh,_⟩
    ·rw[h0] at hk;cases hk
    ·rw[h0] at hk;cases hk;exact⟨_,hh⟩
   have dl2:∀k,ob'=some k→k≠gcl 0:=λk hk=>by obtain⟨L,hL⟩:=htl k hk;exact hL.ne_of HCAT.o (by decide)
   have dl4:∀k,ob'=some k→k≠gC:=λk hk=>by obtain⟨L,hL⟩:=htl k hk;exact hL.ne_of hc (by decide)
   have dl3:∀k,ob'=some k→obh≠some k:=λk hk hf=>by
    obtain⟨L,hL⟩:=htl k hk;rcases HH.cases with⟨_,h0,_⟩|⟨g1,_,_,_,h0,_,_,hh,_⟩
    ·rw[h0] at hf;cases hf
    ·rw[h0] at hf;cases hf;exact hL.ne_of hh (by decide) rfl
   have hsw:=hm.size;clear hc hl hm htl HA0 HCL0 HCA0 HCAT0 HH0 dfl;go_wp2_with fail;go_loopw [55] (λvi wr2=>(vi=.int .i64 0∧wr=wr2)∨(vi=.int .i64 1∧az gC n (ml+j) dv (.slice (some ⟨gN,0,none⟩) n cN) (.slice (some ⟨gCl,0,none⟩) 8 cCl) (.slice (some ⟨gCa,0,none⟩) 8 8) (xs++flat 51 j (VL ks fs ts ps)) gcl c v tg tk obl obh w1 wr2)) (λvi _=>1 - (intOf vi).toNat);case atStart=>exact .inl ⟨rfl,rfl⟩
   case round=>
    rcases hrel with⟨rfl,rfl⟩|⟨rfl,hfin⟩
    ·have e0:=HA.cell 0;have e1:=HA.cell 1;have e2:=HA.cell 2;have e3:=HA.cell 3;have e4:=HA.cell 4;have e5:=HA.cell 5;have e6:=HA.cell 6;simp only[NV,List.cons_append,yA,yB] at e0 e1 e2 e3 e4 e5 e6;have HB1:=qh (Base.start wr);go_upto_region 10 with(first|(refine sW (NV v) (AA wr _ _) ?_ (Jy (Qw v));intro w2 hh2 ht2));have hal:Below wr.heap.size wr w2:=Below.trans ((Below.refl _ _).alloc (Nat.le_refl _) _) (ht2.below (Nat.le_refl _) (by simp));have hgcl:=HCAT.lt;have HX:=qh hh2;obtain⟨HC,HL2,HA,HH,HCL,HCA⟩:=Eh hal HC HL2 HA HH HCL HCA;obtain⟨HCAT,HM,HB1⟩:=Ce hal HCAT HM HB1;clear hal hh2 ht2 e0 e1 e2 e3 e4 e5 e6;have dx:wr.heap.size≠gcl 0:=by omega
     have dxC:wr.heap.size≠gC:=HX.ne_of HC.o (by decide);have dxw:w1.heap.size≤wr.heap.size:=hsw;generalize hgx:wr.heap.size=gx at HX HB1 dx dxC dxw ⊢;have hw0:IntKind.i64.wrap 0=0:=by kernel_rfl
     obtain⟨HC,HL2,HA,HH,HCL,HCA⟩:=Eh (AP _ w2) HC HL2 HA HH HCL HCA;obtain⟨HCAT,HM,HX,HB1⟩:=D8 (AP _ w2) HCAT HM HX HB1;refine EC [14] 16 (λhSn=>?_);generalize w2.drew=wd at HC HL2 HA HH HCL HCA HCAT HM HX HB1 hSn ⊢;simp only[List.replicate];refine CS 0 ?_;refine BA 1 [2,3,4,5,6,7,8,9,10,11,12,13,14,15] (λw hSw=>AZ (HX.bel hSw) 0) ?_;refine BC 2 rfl (λK hK=>?_);go_simp;refine AY (KK.o _) ?_;rintro wk hb;have hSn:=AB hSn hb;clear hb;refine BJ hK ?_;clear hK;refine Gn 3 ?_;refine BA 7 [11,12,14,15] (λw hSw=>AZ (HC.bel hSw) 3) ?_;refine CS 8 ?_;refine BA 9 [10,11,12,14,15] (λw hSw=>AZ (HX.bel hSw) 0) ?_;refine FD 10 ?_;refine IM 12 [14,15] (some 71) (?vg12) rfl (Or.inl ⟨by rfl,?hg12⟩) hSn ?rg12;case hg12=>
      intro w hSw;have bp:=(HCL.bel hSw).cell 0;rw[Jf 8 gcl rC 0 (by omega)] at bp;go_simp;try with_reducible rfl
     simp only[Act.put,zA,zB,zC];refine BA 13 [14,15] (λw hSw=>ED (HX.bel hSw) 0 1 2 3 4 5 6) ?_;refine BC 14 rfl (λK hK=>?_);go_simp;refine AY (KT.o _ (HCAT.bel hSn)) ?_;rintro w5 ⟨hcat,ht⟩;have hmt:Mv (λk=>k=gcl 0) _ w5:=Mv.Aa ht rfl;have HC:=qh ((HC.bel hSn).mv hmt (Ne.symm dfc.2.2.2));have HL2:=qh ((HL2.bel hSn).mv hmt dl2);have HH:=qh ((HH.bel hSn).mv hmt (λg hg=>(dfh g hg).2));have HCA:=qh ((HCA.bel hSn).mv hmt dt.2.2);have HX:=qh ((HX.bel hSn).mv hmt dx);have HM:=qh ((HM.bel hSn).mv hmt (λk hk=>.inl (.inr (.inr (.inr hk)))));have HCAT:=qh hcat;have hB5:=ht.size;clear hcat ht hmt;refine BJ hK ?_;clear hK;refine CS 15 ?_ (hS:=GK);refine DX ?_;clear hSn HB1 HA HCL;have x6:=AZ HX.o 6;go_wp2_with fail;refine AY (KP.o _) ?_;rintro w6 hb6;obtain⟨HC,HL2,HH,HCA,HCAT,HM⟩:=Eh hb6 HC HL2 HH HCA HCAT HM;have HX:=Ci hb6 HX;clear hb6 x6;go_upto_region 12 with(first|(refine sC 6 HX.o (.slice none 0 0) ?_;intro w7 hh7 ht7));have dxs:∀t L k,Holds w6 k t L→t≠121→k≠gx:=λt L k h ht=>h.ne_of HX.o ht;have hm7:Mv (λk=>k=gx) w6 w7:=Mv.Aa ht7 rfl;have HX:=qh (show Holds w7 gx 121 (NV v) from hh7);have HL2:=qh (HL2.mv hm7 (λk hk=>by
      rcases HL2.cases with⟨_,h0,_⟩|⟨g1,_,_,_,h0,_,_,hh,_⟩
      ·rw[h0] at hk;cases hk
      ·rw[h0] at hk;cases hk;exact dxs _ _ _ hh (by decide)))
     have HH:=qh (HH.mv hm7 (λk hk=>by
      rcases HH.cases with⟨_,h0,_⟩|⟨g1,_,_,_,h0,_,_,hh,_⟩
      ·rw[h0] at hk;cases hk
      ·rw[h0] at hk;cases hk;exact dxs _ _ _ hh (by decide)))
     have HCA:=qh (HCA.mv hm7 (dxs _ _ _ HCA.o (by decide)));have HCAT:=qh (HCAT.mv hm7 (dxs _ _ _ HCAT.o (by decide)));have HC:=qh (HC.mv hm7 (dxs _ _ _ HC.o (by decide)));have HM:=qh (HM.mv hm7 (λk hk=>.inr (hk▸dxw)));clear hh7 ht7 hm7 dxs;obtain⟨HC,HL2,HH,HCA,HCAT,HM⟩:=Eh (AP _ w7) HC HL2 HH HCA HCAT HM;have HX:=Ci (AP _ w7) HX;refine EC [20,23] 24 (λhSn=>?_);generalize w7.drew=wd at HC HL2 HH HCA HCAT HM HX hSn ⊢;simp only[List.replicate];refine Gn 0 ?_;refine BA 4 [20,21,22,23] (λw hSw=>AZ (HC.bel hSw) 6) ?_;refine CS 5 ?_;refine BA 6 [18,19,20,21,22,23] (λw hSw=>AZ (HX.bel hSw) 0) ?_;refine Dl 7 ?_;refine BA 10 [14,15,18,19,20,21,22,23] (λw hSw=>AZ (HC.bel hSw) 4) ?_;refine CS 11 ?_;refine BA 12 [13,14,15,18,19,20,21,22,23] (λw hSw=>AZ (HX.bel hSw) 0) ?_;refine FD 13 ?_;refine BA 15 [18,19,20,21,22,23] (λw hSw=>ED (HCA.bel hSw) 0 1 2 3 4 5 6) ?_;refine CS 16 ?_;refine BA 17 [18,19,20,21,22,23] (λw hSw=>Jh (HX.bel hSw) 2 3 4 5 6) ?_;refine CS 18 ?_;refine BC 19 rfl (λK hK=>?_);refine tU 55 (.agg (NF 2 c v).toArray) (NF 2 c v) ?_;intro wa hna hba;have hSn:=AB hSn hba;have HNA:=qh hna;generalize wd.heap.size=gn at HNA ⊢;obtain⟨HC,HL2,HH,HCAT,HM⟩:=FB hSn HC HL2 HH HCAT HM;clear hna hba;change K (Act.put _ (some 100) _) _;refine BJ hK ?_;clear hK;refine BC 20 rfl (λK hK=>?_);refine tS (.agg jE.toArray) 14 168 HH.o (NF 2 c v) (HNA.reads 0 _ (λj v hv=>by rw[Nat.zero_add];exact hv)) ?_ (Us 2 c v);intro v9 ob9 w9 ho9 hob9 hm9;have hle9:=HM.size;have HC9:=qh (HC.mv hm9 (λhf=>(dfh _ hf).1 rfl));have HL9:=qh (HL2.mv hm9 (λk hk hf=>dl3 k hk hf));have HT9:=qh (HCAT.mv hm9 (λhf=>(dfh _ hf).2 rfl));have HM9:=qh (HM.mv hm9 (λk hk=>.inl (.inr (.inr (.inl hk)))));have HO9:=qh ho9;have hob8:ob9=obh∨∃k,ob9=some k∧w1.heap.size≤k:=hob9.imp id (λ⟨k,h,h2⟩=>⟨k,h,by omega⟩);have hgt9:∀k,ob9=some k→k≠gC:=(λk hk=>by
      rcases HO9.cases with⟨_,h0,_⟩|⟨g1,_,_,_,h0,_,_,hh,_⟩
      ·rw[h0] at hk;cases hk
      ·rw[h0] at hk;cases hk;exact hh.ne_of HC9.o (by decide))
     clear ho9 hob9 hm9;change K (Act.put _ (some 101) _) _;refine BJ hK ?_;clear hK;refine FD 21 ?_ (hS:=GK);refine BC 23 rfl (λK hK=>?_);refine tC 6 HC9.o v9 ?_ (hu:=HO9.c1) (h1:=HO9.c2);intro w10 hh10 ht10;have hm10:Mv (λk=>k=gC) w9 w10:=Mv.Aa ht10 rfl;have HFIN:=qh (show az gC n (ml+j) dv (.slice (some ⟨gN,0,none⟩) n cN) (.slice (some ⟨gCl,0,none⟩) 8 cCl) (.slice (some ⟨gCa,0,none⟩) 8 8) (xs++flat 51 j (VL ks fs ts ps)) gcl c v tg tk obl obh w1 w10 from⟨lv',ob',v9,ob9,hh10,HL9.mv hm10 dl4,hob,HO9.mv hm10 hgt9,hob8,HT9.mv hm10 dfc.2.2.2,HM9.mv hm10 (λk hk=>.inl (.inl hk))⟩);clear hh10 ht10 hm10;refine BJ hK ?_;clear hK;refine DX ?_;clear hSn HC HL2 HH HCA HCAT HM HX HC9 HL9 HT9 HM9 HO9 HNA;go_wp2_with fail;go_roundw;case rel=>exact .inr ⟨by simp,HFIN.o⟩
     case measure=>simp[intOf]
    ·have HFIN:=qh hfin;have HLF:=qh (show AU w1 hv obh 55 14 1 (NF 1 c 0) from HHF.o);clear hfin HC HL2 HA HH HCL HCA HCAT HM;go_wp2_with fail;exact bE ⟨rfl,w1,obl,obh,HR.o,HL.o,HLF.o,HFIN.o⟩
  ·have hjm2:j<m:=by omega
   have hji:(j:Int)<(m:Int):=by omega
   obtain⟨lv',ob',hc,hl,hob,hm⟩:=hJ;have ho:=HO.mv hm (λk hk hf=>hf.elim (hgo k hk) (hne k hk));obtain⟨go,co',ro,hv1,hv2,hco1,hco2,hgoh,_⟩:=ho.blk (by omega);injection hv1 with hv1 _ hv3;subst hv1 hv3;have HRG:=qh (OI m (VL ks fs ts ps) hV hgoh j hjm2);have HC:=qh hc;have HLL:=qh hl;have HM:=qh hm;have hob2:=qh hob;have hV2a:((VL ks fs ts ps) j)[2]?=some (.int .i64 (ts j)):=rfl;have htn:(ts j:Int)<(n:Int):=by have:=hts.out j hjm2;omega
   clear hc hl hm hob ho hgoh;obtain⟨pl,cl,rfl⟩:∃pl cl,lv'=.slice pl (ml+j:Nat) cl:=by
    rcases HLL.cases with⟨r,_,r2,_⟩|⟨_,_,_,r,_⟩
    ·rw[r2];exact⟨_,_,r⟩
    ·exact⟨_,_,r⟩
   have hl4:((ml+j:Nat):Int)<4000:=by omega
   have hgt2:=qh (show ∀k,ob'=some k→k≠gC from λk hk=>by
    rcases HLL.cases with⟨_,h0,_⟩|⟨g1,_,_,_,h0,_,_,hh,_⟩
    ·rw[h0] at hk;cases hk
    ·rw[h0] at hk;cases hk;exact hh.ne_of HC.o (by decide))
   have hbld:∀j (w:World),(Instr.buildSlice 34 1 #[(0,.agg ((VL ks fs ts ps) j).toArray)]).run prog w=.ok (.slice (some ⟨w.heap.size,0,none⟩) 1 1) (w.alloc (.cells ((VL ks fs ts ps) j).toArray 47)):=λj w=>by kernel_rfl
   have HB1:=qh (Base.start wr);go_upto_region 4 with(first|(refine lM (j*51) HRG.o ?_ (hi:=Nb (hV j)))|(refine sW ((VL ks fs ts ps) j) (AA wr _ _) ?_ (Jy (hV1.out j)) (hi:=Nb (hV j)) (hl:=by rw[hV];rfl);intro w2 hh2 ht2));have hal:Below wr.heap.size wr w2:=Below.trans ((Below.refl _ _).alloc (Nat.le_refl _) _) (ht2.below (Nat.le_refl _) (by simp));have HX:=qh hh2;obtain⟨HC,HLL,HM,HB1⟩:=D8 hal HC HLL HM HB1;clear hal hh2 ht2 HRG;generalize hgx:wr.heap.size=gx at HX HB1 ⊢;have x2:=HX.cell 2;rw[hV2a] at x2;obtain⟨a0,a5⟩:=BQ HC.o 0 5;go_quiet (fail);have HC:=qh (HC.bel (BV _ _ nq));have HLL:=qh (HLL.bel (BV _ _ nq));have HM:=qh (HM.bel (BV _ _ nq));have HB1:=qh (HB1.bel (BV _ _ nq));have HX:=qh (HX.bel (BV _ _ nq));clear x2 a0 a5;generalize w2.drewN nq=w3 at HC HLL HM HB1 HX ⊢;go_upto_region 5 with(fail);have HRX:=qh (λ(w':World) (h:Below w3.drew.heap.size w3.drew w')=>((HX.bel (AP _ w3)).bel h).AX);obtain⟨HC,HLL,HM,HB1⟩:=D8 (AP _ w3) HC HLL HM HB1;refine EC [7,10] 11 (λhSn=>?_);generalize w3.drew=wd at HC HLL HM HB1 HRX hSn ⊢;simp only[List.replicate];refine Gn 0 ?_;refine BA 4 [7,8,9,10] (λw hSw=>AZ (HC.bel hSw) 5) ?_;refine IM 5 [6,7,8,9,10] (some 47) (.agg (VL ks fs ts ps j).toArray) rfl (yieldsIf_load_mid (by rfl) 47 _ rfl gx 0 rfl (VL ks fs ts ps j) _ (λw hSw=>HRX.o w hSw) underlying47 rfl (by as_aux_lemma=>kernel_rfl)) hSn ?rg41;simp only[Act.put,zA,zB,zC];refine BC 6 rfl (λK hK=>?_);refine JM rfl 34 47 (.agg ((VL ks fs ts ps) j).toArray) ((VL ks fs ts ps) j) rfl rfl rfl (hbld j) ?_;intro wa hna hba;have hSn:=AB hSn hba;have HNA:=qh hna;generalize wd.heap.size=gn at HNA ⊢;obtain⟨HLL,HC,HM,HB1⟩:=D8 hSn HLL HC HM HB1;clear hna hba;change K (Act.put _ (some 48) _) _;refine BJ hK ?_;clear hK;refine BC 7 rfl (λK hK=>?_);refine tS (.agg CJ.toArray) 51 480 HLL.o ((VL ks fs ts ps) j) (HNA.reads 0 _ (λj v hv=>by rw[Nat.zero_add];exact hv)) ?_ (hV1.out j) (hl:=by rw[hV]);intro v5 ob5 w5 ho5 hob5 hm5;have HC5:=qh (HC.mv hm5 (λhf=>hgt2.out _ hf rfl));have hle5:=HM.size;have hob6:ob5=obl∨∃k,ob5=some k∧w1.heap.size≤k:=by
    rcases hob5 with h|⟨k,h,h2⟩
    ·rcases hob2.out with h3|h3
     ·exact .inl (h.trans h3)
     ·exact .inr (h▸h3)
    ·exact .inr ⟨k,h,by omega⟩
   have HM5:=qh (HM.mv hm5 (λk hk=>by
    rcases hob2.out with h3|⟨k3,h3,h4⟩
    ·exact .inl (.inr (h3▸hk))
    ·rw[h3] at hk;cases hk;exact .inr h4))
   obtain⟨p5,c5,rfl⟩:∃p5 c5,v5=.slice p5 (ml+j+1:Nat) c5:=by
    rcases ho5.cases with⟨_,_,h0,_⟩|⟨g1,cap,_,hv,_⟩
    ·omega
    ·exact⟨_,cap,hv⟩
   have HO5:=qh (show AU w5 (.slice p5 (ml+j+1:Nat) c5) ob5 47 51 (ml+(j+1)) (xs++flat 51 (j+1) (VL ks fs ts ps)) from RU xs (VL ks fs ts ps) hV j▸ho5);have hgt5:∀k,ob5=some k→k≠gC:=(λk hk=>by
    rcases HO5.cases with⟨_,h0,_⟩|⟨g1,_,_,_,h0,_,_,hh,_⟩
    ·rw[h0] at hk;cases hk
    ·rw[h0] at hk;cases hk;exact hh.ne_of HC5.o (by decide))
   clear ho5 hob5 hm5;change K (Act.put _ (some 49) _) _;refine BJ hK ?_;clear hK;refine FD 8 ?_ (hS:=GK);refine BC 10 rfl (λK hK=>?_);refine tC 5 HC5.o (.slice p5 (ml+j+1:Nat) c5) ?_;intro w6 hh6 ht6;have HJ6:=qh (show TA gC n ml dv (.slice (some ⟨gN,0,none⟩) n cN) (.slice (some ⟨gCl,0,none⟩) 8 cCl) (.slice (some ⟨gCa,0,none⟩) 8 8) hv xs (VL ks fs ts ps) obl w1 (j+1) w6 from⟨_,ob5,hh6,HO5.touch ht6 hgt5,hob6,HM5.touch ht6 (.inl (.inl rfl))⟩);clear hh6 ht6;refine BJ hK ?_;clear hK;refine DX ?_;clear hSn HC HLL HM HB1 HC5 HM5 HO5 HNA HRX HX;go_wp2_with fail;go_roundw;case rel=>exact⟨j+1,by simp,by omega,HJ6.o⟩
   case measure=>simp[intOf];omega
section
def Qm:List TypeId:=[85,47,55]
section
variable {w w':World} {own own':Nat→Nat} {gC n q:Nat} {c:Cm} {lets lets':List Lt} {hist hist':Nat} {wait wait':Bool} {tg ct tg' ct':Nat} {dv:Value} {gN cN gCl cCl gCa:Nat} {lv hv lv' hv':Value} {gs:Nat→Option Nat} {gds gcl:Nat→Nat} {G:Ap}
theorem NZ.jM(h:NZ w own gC n q c lets hist wait tg ct dv gN cN gCl cCl gCa lv hv gs gds gcl)(j:Nat)(hj:j<8)(h0:j≠0):gcl j≠gcl 0:=by
 intro he;have h1:=h.cs j hj h0;rw[he] at h1;rcases h.c0 with⟨_,_,h3⟩|⟨_,h3⟩ <;>
  (have e:=(h1.cell 0).symm.trans (h3.cell 0)
   simp only[Bv,List.getElem?_cons_zero,Option.some.injEq,Value.int.injEq,true_and] at e;omega)
theorem NZ.turn(h:NZ w own gC n q c lets hist wait tg ct dv gN cN gCl cCl gCa lv hv gs gds gcl)(hm:Mv G w w')(hG:∀k,G k→k<w.heap.size→own k≠1∨(∃t L,Holds w k t L∧t∈Qm)∨k=gcl 0) (hc:Holds w' gC 85 (DW n dv (.slice (some ⟨gN,0,none⟩) n cN) (.slice (some ⟨gCl,0,none⟩) 8 cCl) (.slice (some ⟨gCa,0,none⟩) 8 8) lv' hv')) (hl:∃ob,AU w' lv' ob 47 51 lets'.length (flat 51 lets'.length (DJ c q lets'))∧∀g,ob=some g→own' g=1) (hh:Qr hist' hv'∧∃ob,AU w' hv' ob 55 14 hist' (flat 14 hist' (OQ c))∧∀g,ob=some g→own' g=1) (h0:Nq w' (gcl 0) c hist' wait' tg' ct') (hhi:hist'≠0→hist≠0) (ho:∀k,k<w.heap.size→own' k=own k) (hlt:∀k,own' k≠0→k<w'.heap.size):NZ w' own' gC n q c lets' hist' wait' tg' ct' dv gN cN gCl cCl gCa lv' hv' gs gds gcl:=by
 have hcl0:=h.c0.holds;have hncl:=h.jM;have hlc:∀j,j<8→gcl j<w.heap.size:=λj hj=>h.lt _ (by rw[h.clo j hj];decide);obtain⟨a1,⟨o1,o2,o3,o4⟩,⟨r1,a2⟩,a3,⟨r2,a4⟩,a5,a6,a7,a8,⟨cs,r3,a9,a10,a11,a12⟩,_,_,⟨gD,cD,r4,d1,d2,d3,d4⟩,b6⟩:=h;obtain⟨L0,hL0⟩:=hcl0;have hn:∀k t L,Holds w k t L→own k=1→t∉Qm→t≠132→¬G k:=λk t L hk h1 ht ht2 hg=>by
  rcases hG k hg hk.lt with h2|⟨t',L',h2,h3⟩|h2
  ·exact h2 h1
  ·exact ht (BU hk h2▸h3)
  ·subst h2;exact ht2 (BU hk hL0)
 refine⟨hc,⟨by rw[ho _ a1.lt,o1],by rw[ho _ a2.lt,o2],by rw[ho _ a4.lt,o3],by rw[ho _ a9.lt,o4]⟩,⟨r1,a2.mv hm (hn _ _ _ a2 o2 (by decide) (by decide))⟩,a3,⟨r2,a4.mv hm (hn _ _ _ a4 o3 (by decide) (by decide))⟩,a5,h0,λj hj hj0=>(a7 j hj hj0).mv hm λhg=>?_,λj hj=>by rw[ho _ (hlc j hj),a8 j hj],⟨cs,r3,a9.mv hm (hn _ _ _ a9 o4 (by decide) (by decide)),a10,a11,λh=>a12 (hhi h)⟩,hl,hh,⟨gD,cD,r4,d1,d2,by rw[ho _ d4.lt,d3],d4.mv hm (hn _ _ _ d4 d3 (by decide) (by decide))⟩,hlt⟩;rcases hG _ hg (a7 j hj hj0).lt with h2|⟨t',L',h2,h3⟩|h2
 ·exact h2 (a8 j hj)
 ·exact absurd (BU (a7 j hj hj0) h2▸h3) (by decide)
 ·exact hncl j hj hj0 h2
end
theorem OY(c:Cm)(q:Nat)(a b:List Lt):flat 51 a.length (DJ c q a)++flat 51 b.length (DJ c q b)=flat 51 (a++b).length (DJ c q (a++b)):=by
 rw[List.length_append];refine NG (by decide) (λ_ _=>rfl) (λ_ _=>rfl) (λi hi=>?_) (λi hi=>?_)
 ·unfold DJ;rw[List.getD_eq_getElem?_getD,List.getD_eq_getElem?_getD,List.getElem?_append_left hi]
 ·unfold DJ;rw[List.getD_eq_getElem?_getD,List.getD_eq_getElem?_getD,List.getElem?_append_right (by omega),Nat.add_sub_cancel_left]
def Stepped(w:World)(own:Nat→Nat)(w':World)(own':Nat→Nat):Prop:=(∀k,k<w.heap.size→own' k=own k)∧Mv (λk=>own k≠0) w w'
theorem Ec(own:Nat→Nat)(w w':World)(x k:Nat)(hk:k<w.heap.size):CY own w w' x k=own k:=by unfold CY;rw[if_neg (by omega)]
theorem Jd{own:Nat→Nat}{w w':World}{x:Nat}(h:∀k,own k≠0→k<w.heap.size)(hs:w.heap.size≤w'.heap.size):∀k,CY own w w' x k≠0→k<w'.heap.size:=by
 intro k hk;unfold CY at hk;split at hk
 ·rename_i h2;exact h2.2
 ·have:=h k hk;omega
theorem Es(own:Nat→Nat)(w w':World)(x k:Nat)(h1:w.heap.size≤k)(h2:k<w'.heap.size):CY own w w' x k=x:=by unfold CY;rw[if_pos ⟨h1,h2⟩]
theorem Nh(w:World)(own:Nat→Nat)(gC n q i:Nat)(c:Cm)(B:Nat)(s:Cs)(l:List Lt)(out:Nat→List Lt)(an:Nat→Bool)(h:JU w own gC n q c B s out an)(hi:i<n)(hng:s.phs.getD i .fresh≠.gone)(hout:out i=l)(hout2:∀j,j≠i→out j=[])(han:∀j,an j=false)(hl:∀m∈l,m.2.2<n)(hlen:s.lets.length+l.length≤1000) :Calls prog 31 #[.pointer (some ⟨gC,0,none⟩),.int .i64 i] w λe w'=>e=.returned (.tuple #[])∧∃own',Eb w' own' gC n q c B { s with lets:=s.lets++l }∧Stepped w own w' own':=by
 obtain⟨dv,gN,cN,gCl,cCl,gCa,lv,hv,gs,gds,gcl,hB,hN,hp⟩:=h;obtain⟨gi,hgsi,hni⟩:∃gi,gs i=some gi∧Bg w (λk=>own k=2+i) gi (gds i) n i q c (s.phs.getD i .fresh) (out i) (an i) (s.tks.getD i 0) B:=by
  rcases hN i hi with h|⟨_,gi,h1,h2⟩
  ·exact absurd h.1 hng
  ·exact⟨gi,h1,h2⟩
 rw[hout,han i] at hni;obtain⟨rN,hnp⟩:=hB.np;refine(fO gC gN n cN i s.lets.length l.length gi gs rN dv _ _ lv hv (flat 51 s.lets.length (DJ c q s.lets)) (λj=>gu (l.getD j (0,0,0)).1) (λj=>(l.getD j (0,0,0)).2.1) (λj=>(l.getD j (0,0,0)).2.2) (λj=>iO c q (l.getD j (0,0,0))) (λw w1=>Bg w1 (λk=>own k=2+i) gi (gds i) n i q c (s.phs.getD i .fresh) [] false (s.tks.getD i 0) B∧own gi=2+i∧Mv (λk=>k=gi) w w1∧(∀ob,AU w1 lv ob 47 51 s.lets.length (flat 51 s.lets.length (DJ c q s.lets))→∀k,ob=some k→own k=1)) w hB.cl hnp hi hgsi hB.cN.1 (λj hj=>?_) hlen ?_).mono ?_
 ·have hj2:l.getD j (0,0,0)∈l:=by rw[List.getD_eq_getElem?_getD,List.getElem?_eq_getElem hj];exact List.getElem_mem hj
  exact hl _ hj2
 ·refine(Rw w (λk=>own k=2+i) gi (gds i) n i q c (s.phs.getD i .fresh) l false (s.tks.getD i 0) B hni).mono ?_;rintro e w1 ⟨o,a,rfl,hlo,hao,hnc,hgi,hm⟩;obtain rfl:a=.slice none 0 0:=hao;obtain⟨obl,hl1,hl2⟩:=hB.lts;obtain⟨_,obo,ho1,ho2⟩:=hlo;have hn1:∀k,own k=1→k≠gi:=λk hk he=>by rw[he] at hk;omega
  refine⟨o,obo,obl,rfl,⟨hnc,hgi,hm,λob hob k hk=>?_⟩,hB.cl.mv hm (hn1 _ hB.ow.1),ho1,hl1.mv hm (λg hg=>hn1 _ (hl2 g hg)),λk hk hk2=>?_⟩
  ·have:ob=obl:=by rw[←hob.ob,←hl1.ob]
   exact hl2 k (this▸hk)
  ·have h1:=ho2 k hk;have h2:=hl2 k hk2;omega
 ·rintro e w' ⟨rfl,w1,obl,⟨hnc,hgi,hm1,hob1⟩,hl1,lv',ob',hc',hl',hob',hm2⟩;have ho1:=hob1 obl hl1;have hs1:=hm1.size;have hs2:=hm2.size;have hss:w.heap.size≤w'.heap.size:=Nat.le_trans hs1 hs2;have hol:∀k,own k≠0→k<w.heap.size:=hB.lt;have hM:Mv (λk=>k=gi∨k=gC∨obl=some k) w w':=(hm1.more (G:=λk=>k=gi∨k=gC∨obl=some k) λk hk=>.inl hk).mv hm2 λk hk=>.inl (.inr hk);have hown':∀g,ob'=some g→CY own w w' 1 g=1:=λg hg=>by
   rcases hob' with h3|⟨k,h3,h4⟩
   ·have h5:=ho1 g (h3▸hg);rw[Ec _ _ _ _ _ (hol g (by omega)),h5]
   ·rw[h3] at hg;cases hg;exact Es _ _ _ _ _ (by omega) (hl'.lt _ h3)
  have hnG:∀k,(k=gi∨k=gC∨obl=some k)→k<w.heap.size→own k=1∨own k=2+i:=by
   rintro k (rfl|rfl|hk) _
   ·exact .inr hgi
   ·exact .inl hB.ow.1
   ·exact .inl (ho1 k hk)
  obtain⟨oblw,hlw,hlw2⟩:=hB.lts;have hoe:oblw=obl:=by rw[←hlw.ob,←hl1.ob]
  subst hoe;have hGt:∀k,(k=gi∨k=gC∨oblw=some k)→k<w.heap.size→own k≠1∨(∃t L,Holds w k t L∧t∈Qm)∨k=gcl 0:=by
   rintro k (rfl|rfl|hk) _
   ·exact .inl (by omega)
   ·exact .inr (.inl ⟨_,_,hB.cl,by decide⟩)
   ·rcases hlw.cases with⟨_,h0,_⟩|⟨g1,_,_,_,h0,_,_,hh,_⟩
    ·rw[h0] at hk;cases hk
    ·rw[h0] at hk;cases hk;exact .inr (.inl ⟨_,_,hh,by decide⟩)
  have hnT:∀k t L,Holds w k t L→own k=1→t≠85→t≠47→¬(k=gi∨k=gC∨oblw=some k):=by
   rintro k t L hk h1 ht1 ht2 (rfl|rfl|hk2)
   ·omega
   ·exact ht1 (BU hk hB.cl)
   ·rcases hlw.cases with⟨_,h0,_⟩|⟨g1,_,_,_,h0,_,_,hh,_⟩
    ·rw[h0] at hk2;cases hk2
    ·rw[h0] at hk2;cases hk2;exact ht2 (BU hk hh)
  obtain⟨hnil,obh,hh1,hh2⟩:=hB.his;have hold:∀k,k<w.heap.size→CY own w w' 1 k=own k:=λk hk=>Ec _ _ _ _ _ hk;have hB':NZ w' (CY own w w' 1) gC n q c (s.lets++l) s.hist s.wait s.tg s.ct dv gN cN gCl cCl gCa lv' hv gs gds gcl:=by
   refine hB.turn hM hGt hc' ⟨ob',?_,hown'⟩ ⟨hnil,obh,?_,λg hg=>by rw[hold g (hh1.lt g hg),hh2 g hg]⟩ ?_ id hold (Jd hol hss)
   ·have:=OY c q s.lets l;rw[List.length_append] at this ⊢;exact this▸hl'
   ·refine hh1.mv hM λg hg=>?_;rcases hh1.cases with⟨_,h0,_⟩|⟨g1,_,_,_,h0,_,_,hh,_⟩
    ·rw[h0] at hg;cases hg
    ·rw[h0] at hg;cases hg;exact hnT _ _ _ hh (hh2 _ h0) (by decide) (by decide)
   ·obtain⟨Lc,hLc⟩:=hB.c0.holds;exact hB.c0.mv hM (hnT _ _ _ hLc (hB.clo 0 (by omega)) (by decide) (by decide))
  refine⟨rfl,CY own w w' 1,⟨dv,gN,cN,gCl,cCl,gCa,lv',hv,gs,gds,gcl,hB',?_,hp⟩,hold,hM.more λk hk=>?_⟩
  ·refine hN.one (i:=i) (g':=gi) hM (λk hk hkl=>by rcases hnG k hk hkl with h|h<;>omega) hold (Nat.le_refl _) (λj hj hji=>⟨rfl,rfl,rfl,(hout2 j hji).symm,(han j).symm⟩) (λ_=>.inr ⟨hng,hgsi,?_⟩);have h1:Bg w' (λk=>own k=2+i) gi (gds i) n i q c (s.phs.getD i .fresh) [] false (s.tks.getD i 0) B:=hnc.mv hm2 λk hk hkl hf=>by
    rcases hk with rfl|hk
    ·have:=hB.ow.1;omega
    ·have:=ho1 k hk;omega
   exact h1.foot λk hk _=>by rw[hold k (hol k (by omega))];exact hk
  ·rcases hk with rfl|rfl|hk
   ·omega
   ·have:=hB.ow.1;omega
   ·have:=ho1 k hk;omega
end
theorem VA(w:World)(own:Nat→Nat)(gC n q i:Nat)(c:Cm)(B:Nat)(s:Cs)(l:List Lt)(out:Nat→List Lt)(an:Nat→Bool)(h:JU w own gC n q c B s out an)(hi:i<n)(hng:s.phs.getD i .fresh≠.gone)(hout:out i=l)(hout2:∀j,j≠i→out j=[])(han:an i=true)(han2:∀j,j≠i→an j=false)(hsh:s.hist=1)(hsw:s.wait=true)(h1c:c.c=1)(h2c:c.s=1)(hl:∀m∈l,m.2.2<n)(hlen:s.lets.length+l.length≤1000) :Calls prog 31 #[.pointer (some ⟨gC,0,none⟩),.int .i64 i] w λe w'=>e=.returned (.tuple #[])∧∃own',Eb w' own' gC n q c B { s with lets:=s.lets++l,hist:=2,wait:=false }∧Stepped w own w' own':=by
 obtain⟨dv,gN,cN,gCl,cCl,gCa,lv,hv,gs,gds,gcl,hB,hN,hp⟩:=h;obtain⟨gi,hgsi,hni⟩:∃gi,gs i=some gi∧Bg w (λk=>own k=2+i) gi (gds i) n i q c (s.phs.getD i .fresh) (out i) (an i) (s.tks.getD i 0) B:=by
  rcases hN i hi with h|⟨_,gi,h1,h2⟩
  ·exact absurd h.1 hng
  ·exact⟨gi,h1,h2⟩
 rw[hout,han] at hni;obtain⟨rN,hnp⟩:=hB.np;obtain⟨rC,hcp⟩:=hB.cp;obtain⟨cs,rA,hca,hcs7,_,hcs⟩:=hB.calls;have hcs2:=hcs (by omega);have hcm:cs=G6 c:=by rw[hcs2];unfold Cm.cells G6;rw[h1c,h2c]
 subst hcm;have hcat:Hq w (gcl 0) 1 1 c true s.tg s.ct:=by
  rcases hB.c0 with⟨e1,_⟩|⟨_,e3⟩
  ·omega
  ·exact hsw▸e3
 obtain⟨hnil,obh,hh1,hh2⟩:=hB.his;rw[hsh] at hh1;have hh1':AU w hv obh 55 14 1 (NF 1 c 0):=by have e1:flat 14 1 (OQ c)=NF 1 c 0:=En (s:=14) (V:=OQ c) rfl;rw[←e1];exact hh1
 refine(fP gC gN gCl cCl gCa n cN i s.lets.length l.length gcl rC rA c (Ea c) s.tg s.ct gi gs rN dv lv hv (flat 51 s.lets.length (DJ c q s.lets)) (λj=>gu (l.getD j (0,0,0)).1) (λj=>(l.getD j (0,0,0)).2.1) (λj=>(l.getD j (0,0,0)).2.2) (λj=>iO c q (l.getD j (0,0,0))) (λw w1=>Bg w1 (λk=>own k=2+i) gi (gds i) n i q c (s.phs.getD i .fresh) [] false (s.tks.getD i 0) B∧own gi=2+i∧Mv (λk=>k=gi) w w1∧(∀ob,AU w1 lv ob 47 51 s.lets.length (flat 51 s.lets.length (DJ c q s.lets))→∀k,ob=some k→own k=1)∧(∀ob,AU w1 hv ob 55 14 1 (NF 1 c 0)→∀k,ob=some k→own k=1)) w hB.cl hnp hi hgsi hB.cN.1 (λj hj=>?_) hlen ?_).mono ?_
 ·have hj2:l.getD j (0,0,0)∈l:=by rw[List.getD_eq_getElem?_getD,List.getElem?_eq_getElem hj];exact List.getElem_mem hj
  exact hl _ hj2
 ·refine(Rw w (λk=>own k=2+i) gi (gds i) n i q c (s.phs.getD i .fresh) l true (s.tks.getD i 0) B hni).mono ?_;rintro e w1 ⟨o,a,rfl,hlo,hao,hnc,hgi,hm⟩;obtain⟨oba,ha1,ha2⟩:=hao;obtain⟨obl,hl1,hl2⟩:=hB.lts;obtain⟨_,obo,ho1,ho2⟩:=hlo;have hn1:∀k,own k=1→k≠gi:=λk hk he=>by rw[he] at hk;omega
  refine⟨o,a,obo,obl,oba,obh,rfl,⟨hnc,hgi,hm,λob hob k hk=>?_,λob hob k hk=>?_⟩,hB.cl.mv hm (hn1 _ hB.ow.1),ho1,hl1.mv hm (λg hg=>hn1 _ (hl2 g hg)),λk hk hk2=>?_,ha1,hh1'.mv hm (λg hg=>hn1 _ (hh2 g hg)),hcp.mv hm (hn1 _ hB.ow.2.2.1),hca.mv hm (hn1 _ hB.ow.2.2.2),hcat.mv hm (hn1 _ (hB.clo 0 (by omega)))⟩
  ·have:ob=obl:=by rw[←hob.ob,←hl1.ob]
   exact hl2 k (this▸hk)
  ·have:ob=obh:=by rw[←hob.ob,←hh1'.ob]
   exact hh2 k (this▸hk)
  ·have h1:=ho2 k hk;have h2:=hl2 k hk2;omega
 ·rintro e w' ⟨rfl,w1,obl,obh',⟨hnc,hgi,hm1,hob1,hobh1⟩,hl1,hhx1,lv',ob',hv',obh2,hc',hl',hob',hhv',hobh',hcat',hm2⟩;obtain rfl:obh'=obh:=by rw[←hhx1.ob,←hh1'.ob]
  have ho1:=hob1 obl hl1;have hs1:=hm1.size;have hs2:=hm2.size;have hss:w.heap.size≤w'.heap.size:=Nat.le_trans hs1 hs2;have hol:∀k,own k≠0→k<w.heap.size:=hB.lt;have hM:Mv (λk=>k=gi∨k=gC∨obl=some k∨obh'=some k∨k=gcl 0) w w':=(hm1.more (G:=λk=>k=gi∨k=gC∨obl=some k∨obh'=some k∨k=gcl 0) λk hk=>.inl hk).mv hm2 λk hk=>.inl (.inr hk);have hown':∀g,ob'=some g→CY own w w' 1 g=1:=λg hg=>by
   rcases hob' with h3|⟨k,h3,h4⟩
   ·have h5:=ho1 g (h3▸hg);rw[Ec _ _ _ _ _ (hol g (by omega)),h5]
   ·rw[h3] at hg;cases hg;exact Es _ _ _ _ _ (by omega) (hl'.lt _ h3)
  have hnG:∀k,(k=gi∨k=gC∨obl=some k∨obh'=some k∨k=gcl 0)→k<w.heap.size→own k=1∨own k=2+i:=by
   rintro k (rfl|rfl|hk|hk|rfl) _
   ·exact .inr hgi
   ·exact .inl hB.ow.1
   ·exact .inl (ho1 k hk)
   ·exact .inl (hh2 k hk)
   ·exact .inl (hB.clo 0 (by omega))
  have hownh:∀g,obh2=some g→CY own w w' 1 g=1:=λg hg=>by
   rcases hobh' with h3|⟨k,h3,h4⟩
   ·have h5:=hh2 g (h3▸hg);rw[Ec _ _ _ _ _ (hol g (by omega)),h5]
   ·rw[h3] at hg;cases hg;exact Es _ _ _ _ _ (by omega) (hhv'.lt _ h3)
  obtain⟨oblw,hlw,hlw2⟩:=hB.lts;have hoe:oblw=obl:=by rw[←hlw.ob,←hl1.ob]
  subst hoe;have hGt:∀k,(k=gi∨k=gC∨oblw=some k∨obh'=some k∨k=gcl 0)→k<w.heap.size→own k≠1∨(∃t L,Holds w k t L∧t∈Qm)∨k=gcl 0:=by
   rintro k (rfl|rfl|hk|hk|rfl) _
   ·exact .inl (by omega)
   ·exact .inr (.inl ⟨_,_,hB.cl,by decide⟩)
   rotate_left
   ·rcases hh1'.cases with⟨_,h0,_⟩|⟨g1,_,_,_,h0,_,_,hh,_⟩
    ·rw[h0] at hk;cases hk
    ·rw[h0] at hk;cases hk;exact .inr (.inl ⟨_,_,hh,by decide⟩)
   ·exact .inr (.inr rfl)
   ·rcases hlw.cases with⟨_,h0,_⟩|⟨g1,_,_,_,h0,_,_,hh,_⟩
    ·rw[h0] at hk;cases hk
    ·rw[h0] at hk;cases hk;exact .inr (.inl ⟨_,_,hh,by decide⟩)
  have hold:∀k,k<w.heap.size→CY own w w' 1 k=own k:=λk hk=>Ec _ _ _ _ _ hk;have hB':NZ w' (CY own w w' 1) gC n q c (s.lets++l) 2 false s.tg s.ct dv gN cN gCl cCl gCa lv' hv' gs gds gcl:=by
   refine hB.turn hM hGt hc' ⟨ob',?_,hown'⟩ ⟨λh=>(by omega),obh2,?_,hownh⟩ (.inr ⟨by omega,hcat'⟩) (λ_=>by omega) hold (Jd hol hss)
   ·have:=OY c q s.lets l;rw[List.length_append] at this ⊢;exact this▸hl'
   ·rw[Po];exact hhv'
  refine⟨rfl,CY own w w' 1,⟨dv,gN,cN,gCl,cCl,gCa,lv',hv',gs,gds,gcl,hB',?_,hp⟩,hold,hM.more λk hk=>?_⟩
  ·refine hN.one (i:=i) (g':=gi) hM (λk hk hkl=>by rcases hnG k hk hkl with h|h<;>omega) hold (Nat.le_refl _) (λj hj hji=>⟨rfl,rfl,rfl,(hout2 j hji).symm,(han2 j hji).symm⟩) (λ_=>.inr ⟨hng,hgsi,?_⟩);have h1:Bg w' (λk=>own k=2+i) gi (gds i) n i q c (s.phs.getD i .fresh) [] false (s.tks.getD i 0) B:=hnc.mv hm2 λk hk hkl hf=>by
    rcases hk with rfl|hk|hk|rfl
    ·have:=hB.ow.1;omega
    ·have:=ho1 k hk;omega
    ·have:=hh2 k hk;omega
    ·have:=hB.clo 0 (by omega);omega
   exact h1.foot λk hk _=>by rw[hold k (hol k (by omega))];exact hk
  ·rcases hk with rfl|rfl|hk|hk|rfl
   ·omega
   ·have:=hB.ow.1;omega
   ·have:=ho1 k hk;omega
   ·have:=hh2 k hk;omega
   ·have:=hB.clo 0 (by omega);omega
end Go.Proofs.YtimdpiifpibgfaaGreatDoor
