/- For every input the law TopFast returns true (a part of the proof). Condition: the listed variables start as the program's text lays them. -/
import Derived.Test.YtimdpiifpibgfaaGreatDoorQf40
set_option linter.unusedVariables false
set_option linter.unusedSimpArgs false
set_option maxRecDepth 20000
set_option maxHeartbeats 16000000
namespace Go.Proofs.YtimdpiifpibgfaaGreatDoor
section
open Go.RowKit Go.Maps
theorem cknown (id:Int) (h1:1≤id) (h2:id≤8) (w:World):Calls Tryz.prog 37 #[.int .i64 id] w fun e w'=>e=.returned (.bool true)∧Below w.heap.size w w':=by
 go_enter Tryz.func37,Tryz.ntmps37
 go_wp2_with fail
 go_ret
 exact⟨rfl,Below.refl _ _⟩
theorem cnodes (gC n:Nat) (dv nv clv cav lv hv:Value) (w:World) (h:Holds w gC 85 (clusL n dv nv clv cav lv hv)) :
  Calls Tryz.prog 9 #[.pointer (some ⟨gC,0,none⟩)] w fun e w'=>e=.returned (.int .i64 n)∧Below w.heap.size w w':=by
 have a0:=h.cell 0
 simp only [clusL,yA,yB] at a0
 clear h
 go_enter Tryz.func9,Tryz.ntmps9
 go_wp2_with fail
 go_ret
 exact⟨rfl,Below.refl _ _⟩
theorem cnode (gC n gN cN i:Nat) (gs:Nat→Nat) (rest:List Value) (dv clv cav lv hv:Value) (w:World) (h:Holds w gC 85 (clusL n dv (.slice (some ⟨gN,0,none⟩) n cN) clv cav lv hv)) (hN:Holds w gN 59 (ptrs n gs++rest)) (hi:i<n) :
  Calls Tryz.prog 17 #[.pointer (some ⟨gC,0,none⟩),.int .i64 i] w fun e w'=>e=.returned (.pointer (some ⟨gs i,0,none⟩))∧Below w.heap.size w w':=by
 have a0:=h.cell 0
 have a2:=h.cell 2
 simp only [clusL,yA,yB] at a0 a2
 have p:=hN.cell i
 rw [ptrs_at n gs rest i hi] at p
 have hin:(i:Int)<(n:Int):=by omega
 have hi0:¬ ((i:Int)<0):=by omega
 clear h hN
 go_enter Tryz.func17,Tryz.ntmps17
 go_wp2_with fail
 go_ret
 exact⟨rfl,Below.refl _ _⟩
theorem cletters (gC n m:Nat) (dv nv clv cav lv hv:Value) (ob:Option Nat) (L:List Value) (w:World) (h:Holds w gC 85 (clusL n dv nv clv cav lv hv)) (hl:OwnS w lv ob 47 51 m L) (h1:∀ u∈L,u.oneCell'=true) (hm:0<m) (hm2:m≤1000) :
  Calls Tryz.prog 13 #[.pointer (some ⟨gC,0,none⟩)] w (Cloned 47 51 m L w):=by
 have K:=qh (cloneLet lv ob m L h1 hm2 w hl (fun h=>by omega))
 have a5:=h.cell 5
 simp only [clusL,yA,yB] at a5
 clear h hl h1
 go_enter Tryz.func13,Tryz.ntmps13
 go_wp2_with fail
 refine K.out.mono ?_
 rintro e w1 ⟨P',ob',rfl,ho,hob,hz,hb⟩
 have HO:=qh (show Cloned 47 51 m L w (.returned P') w1 from ⟨P',ob',rfl,ho,hob,hz,hb⟩)
 clear ho hob hz hb a5 K
 go_wp2_with fail
 go_ret
 exact HO.out
theorem client_waits (g:Nat) (id seq:Int) (x:Cm) (waits:Bool) (target ticks:Int) (w:World) (h:CAt w g id seq x waits target ticks) :
  Calls Tryz.prog 38 #[.pointer (some ⟨g,0,none⟩)] w fun e w'=>e=.returned (.bool waits)∧Below w.heap.size w w':=by
 have c9:=h.cell 9
 simp only [clientCells,yA,yB] at c9
 clear h
 go_enter Tryz.func38,Tryz.ntmps38
 go_wp2_with fail
 go_ret
 exact⟨rfl,Below.refl _ _⟩
theorem cwaits (gC n gCl cCl:Nat) (gcl:Nat→Nat) (rest:List Value) (dv nv cav lv hv:Value) (id seq:Int) (x:Cm) (wt:Bool) (tg tk:Int) (w:World) (h:Holds w gC 85 (clusL n dv nv (.slice (some ⟨gCl,0,none⟩) 8 cCl) cav lv hv)) (hC:Holds w gCl 92 (ptrs 8 gcl++rest))
  (hc:CAt w (gcl 0) id seq x wt tg tk) :
  Calls Tryz.prog 15 #[.pointer (some ⟨gC,0,none⟩),.int .i64 1] w fun e w'=>e=.returned (.bool wt)∧Below w.heap.size w w':=by
 have KK:=qh (cknown 1 (by omega) (by omega))
 have KW:=qh (fun W (h:CAt W (gcl 0) id seq x wt tg tk)=>client_waits (gcl 0) id seq x wt tg tk W h)
 have HN:=qh h;have HC:=qh hC;have HX:=qh (show Holds w (gcl 0) 132 _ from hc)
 have HB:=qh (Base.start w)
 clear h hC hc
 go_enter Tryz.func15,Tryz.ntmps15
 go_wp2_with fail
 refine (KK.out _).mono ?_
 rintro e w1 ⟨rfl,hb⟩
 have HN:=qh (HN.out.bel hb)
 have HC:=qh (HC.out.bel hb)
 have HX:=qh (HX.out.bel hb)
 have HB:=qh (HB.out.bel hb)
 clear hb
 have a3:=HN.out.cell 3
 simp only [clusL,yA,yB] at a3
 have p:=HC.out.cell 0
 rw [ptrs_at 8 gcl rest 0 (by omega)] at p
 go_wp2_with fail
 refine (KW.out _ HX.out).mono ?_
 rintro e w2 ⟨rfl,hb⟩
 have HB:=qh (HB.out.bel hb)
 clear hb a3 p HN HC HX
 go_wp2_with fail
 go_ret
 exact⟨rfl,HB.out.below⟩
theorem clonePair_nil' (w:World):Calls Tryz.prog 36 #[.slice none 0 0] w fun e w'=>e=.returned (.slice none 0 0)∧Below w.heap.size w w':=clonePair_nil w
theorem flat2 (V:Nat→List Value) (h:∀ i,(V i).length=14):flat 14 2 V=V 0++V 1:=by
 rw [← flat_snoc (m:=1) (V:=V) (by decide) (fun i _=>h i),flat_of_one (h 0)]
def histL (c:Cm):List Value:=evL 1 c 0++evL 2 c (verOf c)
theorem histL_one (c:Cm):∀ u∈histL c,u.oneCell'=true:=by simp [histL,evL,Value.oneCell']
theorem flat_hist (c:Cm):flat 14 2 (histV c)=histL c:=flat2 _ fun i=>by cases i<;>rfl
theorem chistory (gC n:Nat) (c:Cm) (dv nv clv cav lv hv:Value) (ob:Option Nat) (w:World) (h:Holds w gC 85 (clusL n dv nv clv cav lv hv)) (hh:OwnS w hv ob 55 14 2 (histL c)) :
  Calls Tryz.prog 14 #[.pointer (some ⟨gC,0,none⟩)] w fun e w'=>∃ g c2 rest,e=.returned (.slice (some ⟨g,0,none⟩) 2 c2)∧2≤c2∧Holds w' g 55 (histL c++rest)∧w.heap.size≤g∧Below w.heap.size w w':=by
 have K:=qh (cloneEv hv ob 2 (histL c) (histL_one c) (by omega) w hh (fun h=>by omega))
 have KP:=qh clonePair_nil'
 have a6:=h.cell 6
 simp only [clusL,yA,yB] at a6
 have hgs:=h.lt
 clear h hh
 go_enter Tryz.func14,Tryz.ntmps14
 go_wp2_with fail
 refine K.out.mono ?_
 rintro e w1 ⟨P',ob',rfl,ho,hob,_,hb⟩
 obtain⟨g,c2,rest,rfl,rfl,hc1,hc2,hg,hl⟩:=ho.blk (by decide)
 have HG:=qh hg
 have hgw:=hob g rfl
 have HB:=qh hb
 clear ho hob hb K a6 hg
 go_wp2_with fail
 go_loopw [12] (fun vi wr=>∃ i:Nat,vi=.int .i64 (i:Int)∧i≤2∧Holds wr g 55 (histL c++rest)∧Below w.heap.size w wr) (fun vi _=>2 - (intOf vi).toNat)
 case atStart=>exact⟨0,rfl,by omega,HG.out,HB.out⟩
 case round=>
  obtain⟨i,rfl,hi,hg,hb⟩:=hrel
  have HG:=qh hg;have HB:=qh hb
  have hgl:=hg.lt
  clear hg hb
  rcases (show i=0∨i=1∨i=2 by omega) with rfl|rfl|rfl
  ·have e13:=HG.out.cell 13
   simp only [histL,evL,List.cons_append,yA,yB] at e13
   go_wp2_with fail
   refine (KP.out _).mono ?_
   rintro e w2 ⟨rfl,hb⟩
   have HB:=qh (HB.out.trans (hb.mono HB.out.size))
   have HG:=qh (HG.out.bel hb)
   clear hb e13
   go_wp2_with (first
    | (refine wpList_store_cell rfl 51 (.tmp 26) (.tmp 23) rfl rfl g 13 55 _ HG.out (by simp [histL,evL]) rfl (.slice none 0 0) rfl rfl (by kernel_rfl) rfl ?_;intro w7 hh7 ht7))
   have HG7:=qh (show Holds w7 g 55 (histL c++rest) from hh7)
   have HB7:=qh (HB.out.trans (ht7.below hgw HB.out.size))
   clear hh7 ht7
   go_roundw
   case rel=>exact⟨1,rfl,by omega,HG7.out,HB7.out⟩
   case measure=>simp [intOf]
  ·have e27:=HG.out.cell 27
   simp only [histL,evL,List.cons_append,yA,yB] at e27
   go_wp2_with fail
   refine (KP.out _).mono ?_
   rintro e w2 ⟨rfl,hb⟩
   have HB:=qh (HB.out.trans (hb.mono HB.out.size))
   have HG:=qh (HG.out.bel hb)
   clear hb e27
   go_wp2_with (first
    | (refine wpList_store_cell rfl 51 (.tmp 26) (.tmp 23) rfl rfl g 27 55 _ HG.out (by simp [histL,evL]) rfl (.slice none 0 0) rfl rfl (by kernel_rfl) rfl ?_;intro w7 hh7 ht7))
   have HG7:=qh (show Holds w7 g 55 (histL c++rest) from hh7)
   have HB7:=qh (HB.out.trans (ht7.below hgw HB.out.size))
   clear hh7 ht7
   go_roundw
   case rel=>exact⟨2,rfl,by omega,HG7.out,HB7.out⟩
   case measure=>simp [intOf]
  ·go_wp2_with fail
   go_ret
   exact⟨g,c2,rest,rfl,hc1,HG.out,hgw,HB.out⟩
end
section
open Go.RowKit Go.Maps
theorem flat_range {w:World} {g:Nat} {rest:List Value} (m:Nat) (V:Nat→List Value) (hV:∀ i,(V i).length=51) (h:Holds w g 47 (flat 51 m V++rest)) (j:Nat) (hj:j<m):w.rangeAt g (j*51) (V j):=
 h.rangeO (j*51) fun t v hv=>by
  have ht:t<51:=by
   have:=(List.getElem?_eq_some_iff.1 hv).1
   rw [hV] at this
   exact this
  have h1:j*51+t<m*51:=by
   have:(j+1)*51≤m*51:=Nat.mul_le_mul_right 51 (by omega)
   omega
  rw [List.getElem?_append_left (by rw [flat_len];exact h1),flat_at 51 m V j t hj ht (hV j)]
  exact hv
theorem flat_app (xs:List Value) (V:Nat→List Value) (hV:∀ i,(V i).length=51) (j:Nat):(xs++flat 51 j V)++V j=xs++flat 51 (j+1) V:=by
 rw [List.append_assoc,flat_snoc (by decide) (fun i _=>hV i)]
def OutJ (gC n ml:Nat) (dv nv clv cav hv:Value) (xs:List Value) (V:Nat→List Value) (obl:Option Nat) (w:World) (j:Nat) (wr:World):Prop:=∃ lv' ob',Holds wr gC 85 (clusL n dv nv clv cav lv' hv)∧OwnS wr lv' ob' 47 51 (ml+j) (xs++flat 51 j V)∧(ob'=obl∨∃ k,ob'=some k∧w.heap.size≤k)∧Mv (fun k=>k=gC∨obl=some k) w wr
theorem all_of {L:List Value} (h:∀ u∈L,u.oneCell'=true):L.toArray.all (·.oneCell')=true:=by simpa using h
theorem letsize {L:List Value} (h:L.length=51):(Tryz.prog.info? 47).map (·.size)=some L.length:=by rw [h];kernel_rfl
def VL (ks fs ts:Nat→Nat) (qq:Nat) (xx:Nat→Cm) (j:Nat):List Value:=letL (ks j) (fs j) (ts j) qq (xx j)
theorem cout0 (gC gN n cN i ml m:Nat) (gs:Nat→Nat) (rN:List Value) (dv clv cav lv hv:Value) (xs:List Value) (ks fs ts:Nat→Nat) (qq:Nat) (xx:Nat→Cm) (R:World→World→Prop) (w:World)
  (h:Holds w gC 85 (clusL n dv (.slice (some ⟨gN,0,none⟩) n cN) clv cav lv hv)) (hN:Holds w gN 59 (ptrs n gs++rN)) (hi:i<n) (hcN:n≤cN)
  (hts:∀ i,i<m→ts i<n) (hml:ml+m≤1000)
  (KO:Calls Tryz.prog 54 #[.pointer (some ⟨gs i,0,none⟩)] w fun e w1=>∃ o obo obl,e=.returned (.tuple #[o,.slice none 0 0])∧R w w1∧Holds w1 gC 85 (clusL n dv (.slice (some ⟨gN,0,none⟩) n cN) clv cav lv hv)∧OwnS w1 o obo 47 51 m (flat 51 m (VL ks fs ts qq xx))∧OwnS w1 lv obl 47 51 ml xs∧(∀ k,obo=some k→obl≠some k)) :
  Calls Tryz.prog 31 #[.pointer (some ⟨gC,0,none⟩),.int .i64 i] w fun e w'=>e=.returned (.tuple #[])∧∃ w1 obl,R w w1∧OwnS w1 lv obl 47 51 ml xs∧OutJ gC n ml dv (.slice (some ⟨gN,0,none⟩) n cN) clv cav hv xs (VL ks fs ts qq xx) obl w1 m w':=by
 have KO:=qh KO;have hts:=qh hts
 have hV:∀ j,((VL ks fs ts qq xx) j).length=51:=fun _=>rfl
 have hV1:=qh (show ∀ j,∀ u∈(VL ks fs ts qq xx) j,u.oneCell'=true from fun j=>letL_one _ _ _ _ _)
 have hin:(i:Int)<(n:Int):=by omega
 have a2:=h.cell 2
 simp only [clusL,yA,yB] at a2
 have p:=hN.cell i
 rw [ptrs_at n gs rN i hi] at p
 clear h hN
 go_enter Tryz.func31,Tryz.ntmps31
 go_wp2_with fail
 refine KO.out.mono ?_
 rintro e w1 ⟨o,obo,obl,rfl,hr,hc,ho,hl,hne⟩
 have hgt:∀ k,obl=some k→k≠gC:=fun k hk=>by
  rcases hl.cases with⟨_,h0,_⟩|⟨g1,_,_,_,h0,_,_,hh,_⟩
  ·rw [h0] at hk;cases hk
  ·rw [h0] at hk;cases hk
   exact hh.ne_of hc (by decide)
 have hgo:∀ k,obo=some k→k≠gC:=fun k hk=>by
  rcases ho.cases with⟨_,h0,_⟩|⟨g1,_,_,_,h0,_,_,hh,_⟩
  ·rw [h0] at hk;cases hk
  ·rw [h0] at hk;cases hk
   exact hh.ne_of hc (by decide)
 obtain⟨po,co,rfl⟩:∃ po co,o=.slice po m co:=by
  rcases ho.cases with⟨r,_,r2,_⟩|⟨_,_,_,r,_⟩
  ·subst r2;exact⟨_,_,r⟩
  ·exact⟨_,_,r⟩
 have HR:=qh hr;have HO:=qh ho;have HL:=qh hl
 have hJ0:OutJ gC n ml dv (.slice (some ⟨gN,0,none⟩) n cN) clv cav hv xs (VL ks fs ts qq xx) obl w1 0 w1:=⟨lv,obl,hc,by rw [flat_zero,List.append_nil];exact hl,.inl rfl,Mv.refl _ _⟩
 have HJ0:=qh hJ0
 clear hr hc ho hl hJ0 KO a2 p
 go_wp2_with fail
 go_loopw [23] (fun vi wr=>∃ j:Nat,vi=.int .i64 (j:Int)∧j≤m∧OutJ gC n ml dv (.slice (some ⟨gN,0,none⟩) n cN) clv cav hv xs (VL ks fs ts qq xx) obl w1 j wr) (fun vi _=>m - (intOf vi).toNat)
 case atStart=>exact⟨0,rfl,Nat.zero_le _,HJ0.out⟩
 case round=>
  obtain⟨j,rfl,hj,hJ⟩:=hrel
  clear HJ0
  by_cases hjm:j=m
  ·subst hjm
   have HJ:=qh hJ
   clear hJ
   go_wp2_with fail
   go_loopw [55] (fun vi wr2=>vi=.int .i64 0∧wr=wr2) (fun _ _=>0)
   case atStart=>exact⟨rfl,rfl⟩
   case round=>
    obtain⟨rfl,rfl⟩:=hrel
    go_wp2_with fail
    exact bodyPost_end (v:=.tuple #[]) (by simp [results,Tryz.results31,go_sem]) rfl ⟨rfl,w1,obl,HR.out,HL.out,HJ.out⟩
  ·have hjm2:j<m:=by omega
   have hji:(j:Int)<(m:Int):=by omega
   obtain⟨lv',ob',hc,hl,hob,hm⟩:=hJ
   have ho:=HO.out.mv hm (fun k hk hf=>hf.elim (hgo k hk) (hne k hk))
   obtain⟨go,co',ro,hv1,hv2,hco1,hco2,hgoh,_⟩:=ho.blk (by omega)
   injection hv1 with hv1 _ hv3
   subst hv1 hv3
   have HRG:=qh (flat_range m (VL ks fs ts qq xx) hV hgoh j hjm2)
   have HC:=qh hc;have HLL:=qh hl;have HM:=qh hm
   have hob2:=qh hob
   have hV2a:((VL ks fs ts qq xx) j)[2]?=some (.int .i64 (ts j)):=rfl
   have htn:(ts j:Int)<(n:Int):=by have:=hts.out j hjm2;omega
   clear hc hl hm hob ho hgoh
   obtain⟨pl,cl,rfl⟩:∃ pl cl,lv'=.slice pl (ml+j:Nat) cl:=by
    rcases HLL.out.cases with⟨r,_,r2,_⟩|⟨_,_,_,r,_⟩
    ·rw [r2];exact⟨_,_,r⟩
    ·exact⟨_,_,r⟩
   have hl4:((ml+j:Nat):Int)<4000:=by omega
   have hgt2:=qh (show ∀ k,ob'=some k→k≠gC from fun k hk=>by
    rcases HLL.out.cases with⟨_,h0,_⟩|⟨g1,_,_,_,h0,_,_,hh,_⟩
    ·rw [h0] at hk;cases hk
    ·rw [h0] at hk;cases hk
     exact hh.ne_of HC.out (by decide))
   have hbld:∀ j (w:World),(Instr.buildSlice 34 1 #[(0,.agg ((VL ks fs ts qq xx) j).toArray)]).run Tryz.prog w=.ok (.slice (some ⟨w.heap.size,0,none⟩) 1 1) (w.alloc (.cells ((VL ks fs ts qq xx) j).toArray 47)):=fun j w=>by kernel_rfl
   have HB1:=qh (Base.start wr)
   go_upto_region 4 with (first
    | (refine wpList_load_mid rfl 47 _ rfl go (j*51) rfl ((VL ks fs ts qq xx) j) _ HRG.out Tryz.underlying47 rfl (letsize (hV j)) ?_)
    | (refine wpList_store_whole rfl 47 (.tmp 7) (.tmp 26) wr.heap.size letZ ((VL ks fs ts qq xx) j) rfl rfl rfl rfl (holds_alloc wr _ _) (letsize (hV j)) (by rw [hV];rfl) (all_of (hV1.out j)) ?_;intro w2 hh2 ht2))
   have hal:Below wr.heap.size wr w2:=Below.trans ((Below.refl _ _).alloc (Nat.le_refl _) _) (ht2.below (Nat.le_refl _) (by simp))
   have HX:=qh hh2
   have HC:=qh (HC.out.bel hal)
   have HLL:=qh (HLL.out.bel hal)
   have HM:=qh (HM.out.bel hal)
   have HB1:=qh (HB1.out.bel hal)
   clear hal hh2 ht2 HRG
   generalize hgx:wr.heap.size=gx at HX HB1 ⊢
   have x2:=HX.out.cell 2
   rw [hV2a] at x2
   have a0:=HC.out.cell 0
   have a5:=HC.out.cell 5
   simp only [clusL,yA,yB] at a0 a5
   go_quiet (fail)
   have HC:=qh (HC.out.bel (t_drewN _ _ nq));have HLL:=qh (HLL.out.bel (t_drewN _ _ nq));have HM:=qh (HM.out.bel (t_drewN _ _ nq));have HB1:=qh (HB1.out.bel (t_drewN _ _ nq));have HX:=qh (HX.out.bel (t_drewN _ _ nq))
   clear x2 a0 a5
   generalize w2.drewN nq=w3 at HC HLL HM HB1 HX ⊢
   go_upto_region 5 with (fail)
   have HRX:=qh (fun (w':World) (h:Below w3.drew.heap.size w3.drew w')=>((HX.out.bel (t_drew _ w3)).bel h).range0)
   have HC:=qh (HC.out.bel (t_drew _ w3))
   have HLL:=qh (HLL.out.bel (t_drew _ w3))
   have HM:=qh (HM.out.bel (t_drew _ w3))
   have HB1:=qh (HB1.out.bel (t_drew _ w3))
   refine wp_region_noPanic ?_
   refine wp_region_late (S:=fun W'=>Below w3.drew.heap.size w3.drew W') (X0:=[7,10]) (by as_aux_lemma=>kernel_rfl) ?_
   generalize w3.drew=wd at HC HLL HM HB1 HRX ⊢
   have hSn:Below wd.heap.size wd wd:=Below.refl _ _
   change wpAnyL _ _ _ _ _ _ 11 #[false,false,false,false,false,false,false,false,false,false,false] _ _
   refine mvA 0 (some 42) (fun _=>hSn) ?_
   simp only [Act.put,zA,zB,zC]
   refine mvA 1 (some 43) (fun _=>hSn) ?_
   simp only [Act.put,zA,zB,zC]
   refine mvA 2 (some 44) (fun _=>hSn) ?_
   simp only [Act.put,zA,zB,zC]
   refine mvA 3 (some 45) (fun _=>hSn) ?_
   simp only [Act.put,zA,zB,zC]
   refine tkA 4 [7,8,9,10] (some 46) (?vg5) rfl (Or.inl ⟨by rfl,?hg5⟩) hSn ?rg5
   case hg5=>
    intro w hSw
    have b5:=(HC.out.bel hSw).cell 5
    simp only [clusL,yA,yB] at b5
    go_simp
    try with_reducible rfl
   simp only [Act.put,zA,zB,zC]
   refine tkA 5 [6,7,8,9,10] (some 47) (.agg (VL ks fs ts qq xx j).toArray) rfl (yieldsIf_load_mid (by rfl) 47 _ rfl gx 0 rfl (VL ks fs ts qq xx j) _ (fun w hSw=>HRX.out w hSw) Tryz.underlying47 rfl (by as_aux_lemma=>kernel_rfl)) hSn ?rg6
   simp only [Act.put,zA,zB,zC]
   refine rd1 6 rfl (fun K hK=>?_)
   refine step_build1 rfl 34 47 (.agg ((VL ks fs ts qq xx) j).toArray) ((VL ks fs ts qq xx) j) rfl rfl rfl (hbld j) ?_
   intro wa hna hba
   have hSn:=below_next hSn hba
   have HNA:=qh hna
   generalize wd.heap.size=gn at HNA ⊢
   have HLL:=qh (HLL.out.bel hSn)
   have HC:=qh (HC.out.bel hSn)
   have HM:=qh (HM.out.bel hSn)
   have HB1:=qh (HB1.out.bel hSn)
   clear hna hba
   change K (Act.put _ (some 48) _) _
   refine hK.out _ _ (fun _=>hSn) ?_
   clear hK
   try simp only [Act.put,zA,zB,zC]
   refine rd1 7 rfl (fun K hK=>?_)
   refine step_append_s rfl (.tmp 46) (.tmp 48) 34 rfl 47 (.agg letZ.toArray) 51 480 rfl (by kernel_rfl) rfl (by decide) _ ob' (ml+j) _ rfl HLL.out _ 1 1 ((VL ks fs ts qq xx) j) rfl (by rw [hV]) (HNA.out.reads 0 _ (fun j v hv=>by rw [Nat.zero_add];exact hv)) (by decide) (hV1.out j) (by unfold maxLen;omega) (by omega) ?_
   intro v5 ob5 w5 ho5 hob5 hm5
   have HC5:=qh (HC.out.mv hm5 (fun hf=>hgt2.out _ hf rfl))
   have hle5:=HM.out.size
   have hob6:ob5=obl∨∃ k,ob5=some k∧w1.heap.size≤k:=by
    rcases hob5 with h|⟨k,h,h2⟩
    ·rcases hob2.out with h3|h3
     ·exact .inl (h.trans h3)
     ·exact .inr (h▸h3)
    ·exact .inr ⟨k,h,by omega⟩
   have HM5:=qh (HM.out.mv hm5 (fun k hk=>by
    rcases hob2.out with h3|⟨k3,h3,h4⟩
    ·exact .inl (.inr (h3▸hk))
    ·rw [h3] at hk;cases hk;exact .inr h4))
   obtain⟨p5,c5,rfl⟩:∃ p5 c5,v5=.slice p5 (ml+j+1:Nat) c5:=by
    rcases ho5.cases with⟨_,_,h0,_⟩|⟨g1,cap,_,hv,_⟩
    ·omega
    ·exact⟨_,cap,hv⟩
   have HO5:=qh (show OwnS w5 (.slice p5 (ml+j+1:Nat) c5) ob5 47 51 (ml+(j+1)) (xs++flat 51 (j+1) (VL ks fs ts qq xx)) from flat_app xs (VL ks fs ts qq xx) hV j▸ho5)
   have hgt5:∀ k,ob5=some k→k≠gC:=(fun k hk=>by
    rcases HO5.out.cases with⟨_,h0,_⟩|⟨g1,_,_,_,h0,_,_,hh,_⟩
    ·rw [h0] at hk;cases hk
    ·rw [h0] at hk;cases hk
     exact hh.ne_of HC5.out (by decide))
   clear ho5 hob5 hm5
   change K (Act.put _ (some 49) _) _
   refine hK.out _ _ nlA ?_
   clear hK
   try simp only [Act.put,zA,zB,zC]
   refine mvA 8 (some 50) nlA ?_
   simp only [Act.put,zA,zB,zC]
   refine mvA 9 (some 51) nlA ?_
   simp only [Act.put,zA,zB,zC]
   refine rd1 10 rfl (fun K hK=>?_)
   refine step_store_cell rfl 34 (.tmp 51) (.tmp 49) rfl rfl gC 5 85 _ HC5.out (by simp [clusL]) rfl (.slice p5 (ml+j+1:Nat) c5) rfl rfl (by kernel_rfl) rfl ?_
   intro w6 hh6 ht6
   have HJ6:=qh (show OutJ gC n ml dv (.slice (some ⟨gN,0,none⟩) n cN) clv cav hv xs (VL ks fs ts qq xx) obl w1 (j+1) w6 from ⟨_,ob5,hh6,HO5.out.touch ht6 hgt5,hob6,HM5.out.touch ht6 (.inl (.inl rfl))⟩)
   clear hh6 ht6
   refine hK.out _ _ nlA ?_
   clear hK
   try simp only [Act.put,zA,zB,zC]
   refine dnA (NoPanic.normal ?_)
   clear hSn HC HLL HM HB1 HC5 HM5 HO5 HNA HRX HX
   go_wp2_with fail
   go_roundw
   case rel=>exact⟨j+1,by simp,by omega,HJ6.out⟩
   case measure=>simp [intOf];omega
end
end Go.Proofs.YtimdpiifpibgfaaGreatDoor
