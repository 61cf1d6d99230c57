/- For every input the law TopFast returns true (a part of the proof). Condition: the listed variables start as the program's text lays them. -/
import Derived.Test.YtimdpiifpibgfaaGreatDoorQf15
import Derived.Test.YtimdpiifpibgfaaGreatDoorQf8
set_option linter.unusedVariables false
set_option linter.unusedSimpArgs false
set_option maxRecDepth 20000
set_option maxHeartbeats 16000000
namespace Go.Proofs.YtimdpiifpibgfaaGreatDoor
section
open Go.RowKit Go.Maps
theorem Own8.tch {w w':World} {B g:Nat} {v:Value} {n:Nat} (h:Own8 w B v n) (ht:Touch g w w') (hg:g<B):Own8 w' B v n:=by
 obtain⟨bs,h1,h2,h3,h4⟩:=h
 exact⟨bs,h1,h2,h3,h4.imp id fun ⟨b,cap,cur,e1,e2,hh,r⟩=>⟨b,cap,cur,e1,e2,(ht.block b (Array.getElem?_eq_some_iff.1 hh).1 (by omega)).trans hh,r⟩⟩
structure CoreAt (w:World) (gc n me gl gm nl gi gx ni:Nat) (L:List LEnt) (E:List Ent) (leads recs out:Value):Prop where
 hc:Holds w gc 163 (coreL n me gl gi leads recs out)
 lg:LogAt w gl gm nl L
 ix:IxAt w gi gx ni (fun _=>0) E
 ne:gc≠gl∧gc≠gm∧gc≠gi∧gc≠gx∧gl≠gi∧gl≠gx∧gm≠gi∧gm≠gx
section
variable {w w':World} {gc n me gl gm nl gi gx ni:Nat} {L:List LEnt} {E:List Ent} {leads recs out:Value}
theorem CoreAt.lt (h:CoreAt w gc n me gl gm nl gi gx ni L E leads recs out):gc<w.heap.size∧gl<w.heap.size∧gm<w.heap.size∧gi<w.heap.size∧gx<w.heap.size:=⟨h.hc.lt,h.lg.lt.1,h.lg.lt.2,h.ix.lt.1,h.ix.lt.2⟩
theorem CoreAt.bel (h:CoreAt w gc n me gl gm nl gi gx ni L E leads recs out) (hb:Below w.heap.size w w'):CoreAt w' gc n me gl gm nl gi gx ni L E leads recs out:=⟨h.hc.bel hb,h.lg.below hb,h.ix.below hb,h.ne⟩
theorem CoreAt.mv {F:Foot} (h:CoreAt w gc n me gl gm nl gi gx ni L E leads recs out) (hm:Mv F w w') (h1:¬ F gc) (h2:¬ F gl) (h3:¬ F gm) (h4:¬ F gi) (h5:¬ F gx):CoreAt w' gc n me gl gm nl gi gx ni L E leads recs out:=
 ⟨h.hc.mv hm h1,h.lg.keep (hm.block _ h.lg.lt.1 h2) (hm.block _ h.lg.lt.2 h3),h.ix.keep (hm.block _ h.ix.lt.1 h4) (hm.block _ h.ix.lt.2 h5),h.ne⟩
theorem CoreAt.recore {F:Foot} {leads' recs' out':Value} (h:CoreAt w gc n me gl gm nl gi gx ni L E leads recs out) (hm:Mv F w w') (hc:Holds w' gc 163 (coreL n me gl gi leads' recs' out')) (h2:¬ F gl) (h3:¬ F gm) (h4:¬ F gi) (h5:¬ F gx):CoreAt w' gc n me gl gm nl gi gx ni L E leads' recs' out':=
 ⟨hc,h.lg.keep (hm.block _ h.lg.lt.1 h2) (hm.block _ h.lg.lt.2 h3),h.ix.keep (hm.block _ h.ix.lt.1 h4) (hm.block _ h.ix.lt.2 h5),h.ne⟩
end
theorem IxAt.bel {w w':World} {g b n:Nat} {d:Nat→Int} {l:List Ent} (h:IxAt w g b n d l) (hb:Below w.heap.size w w'):IxAt w' g b n d l:=h.below hb
theorem LogAt.bel {w w':World} {g b n:Nat} {l:List LEnt} (h:LogAt w g b n l) (hb:Below w.heap.size w w'):LogAt w' g b n l:=h.below hb
theorem note_cell (gc n me gl gi gx ni:Nat) (E:List Ent) (leads recs out:Value) (q:Nat) (st:Int) (c:Cm) (sm:Bool) (w:World) (h:Holds w gc 163 (coreL n me gl gi leads recs out)) (hi:IxAt w gi gx ni (fun _=>0) E) (hn:ni≤1000) (hq:q<7) (hc:CmOk c) (hst:(st=1∧sm=true)∨(st=3∧sm=false)) :
  Calls Tryz.prog 121 #[.pointer (some ⟨gc,0,none⟩),.agg #[.int .i64 q,.int .i64 1],.agg (cellL st c sm).toArray] w fun e w'=>e=.returned (.tuple #[])∧IxAt w' gi gx (ni+1) (fun _=>0) (putE E ⟨q,1,c,0⟩)∧Touch gx w w':=by
 have hnb:noteB (fun _=>0) q 1 c 0=true:=by
  unfold noteB
  rw [hc.right,show rightI (q:Int) 1=true by unfold rightI;simp;omega]
  rfl
 have KN:=qh (fun W (h:IxAt W gi gx ni (fun _=>0) E)=>by have:=note_any gi gx ni (fun _=>0) E q 1 c 0 W h hn;rw [hnb,if_pos rfl] at this;exact this)
 have HC:=qh h;have HI:=qh hi
 have HT:=qh (Touch.refl gx w)
 have hs0:((st:Int) != 0)=true:=by rcases hst with⟨rfl,_⟩|⟨rfl,_⟩<;>rfl
 clear h hi hnb hst
 go_enter Tryz.func121,Tryz.ntmps121
 go_upto_region 1 with (fail)
 go_name_world W hW
 have hW:allocs w [.cells ([.int .i64 q,.int .i64 1]:List Value).toArray 37,.cells (cellL st c sm:List Value).toArray 45]=W:=hW
 have HX:=qh (show Holds W (w.heap.size) 37 ([.int .i64 q,.int .i64 1]) from holds_allocs _ hW 0 rfl)
 have HY:=qh (show Holds W (w.heap.size+1) 45 (cellL st c sm) from holds_allocs _ hW 1 rfl)
 have hbW:=below_allocs _ hW
 have hsW:=size_allocs _ hW
 simp only [List.length_cons,List.length_nil] at hsW
 clear hW
 have HC:=qh (HC.out.bel hbW)
 have HI:=qh (HI.out.bel hbW)
 have HT:=qh (HT.out.bel hbW)
 clear hbW hsW
 generalize w.heap.size+1=gy at HY ⊢
 generalize w.heap.size=gz at HX ⊢
 have y0:=HY.out.cell 0
 simp only [cellL,yA,yB] at y0
 go_wp2_with fail
 clear y0
 go_upto_region 2 with (fail)
 have HC:=qh (HC.out.bel (t_drew _ W))
 have HI:=qh (HI.out.bel (t_drew _ W))
 have HT:=qh (HT.out.bel (t_drew _ W))
 have HX:=qh (HX.out.bel (t_drew _ W))
 have HY:=qh (HY.out.bel (t_drew _ W))
 refine wp_region_noPanic ?_
 refine wp_region_late (S:=fun W'=>Below W.drew.heap.size W.drew W') (X0:=[10]) (by as_aux_lemma=>kernel_rfl) ?_
 generalize W.drew=wd at HC HI HT HX HY ⊢
 have hSn:Below wd.heap.size wd wd:=Below.refl _ _
 change wpAnyL _ _ _ _ _ _ 11 #[false,false,false,false,false,false,false,false,false,false,false] _ _
 refine mvA 0 (some 9) (fun _=>hSn) ?_
 simp only [Act.put,zA,zB,zC]
 refine mvA 1 (some 10) (fun _=>hSn) ?_
 simp only [Act.put,zA,zB,zC]
 refine mvA 2 (some 11) (fun _=>hSn) ?_
 simp only [Act.put,zA,zB,zC]
 refine tkA 3 [10] (some 12) (?vg4) rfl (Or.inl ⟨by rfl,?hg4⟩) hSn ?rg4
 case hg4=>
  intro w hSw
  have b3:=(HC.out.bel hSw).cell 3
  simp only [coreL,yA,yB] at b3
  go_simp
  try with_reducible rfl
 simp only [Act.put,zA,zB,zC]
 refine tkA 4 [10] (some 13) (?vg5) rfl (Or.inl ⟨by rfl,?hg5⟩) hSn ?rg5
 case hg5=>
  intro w hSw
  have b0:=(HX.out.bel hSw).cell 0
  have b1:=(HX.out.bel hSw).cell 1
  simp only [yA,yB] at b0 b1
  go_simp
  try with_reducible rfl
 simp only [Act.put,zA,zB,zC]
 refine mvA 5 (some 14) (fun _=>hSn) ?_
 simp only [Act.put,zA,zB,zC]
 refine tkA 6 [10] (some 15) (?vg7) rfl (Or.inl ⟨by rfl,?hg7⟩) hSn ?rg7
 case hg7=>
  intro w hSw
  have b5:=(HY.out.bel hSw).cell 5
  have b6:=(HY.out.bel hSw).cell 6
  have b7:=(HY.out.bel hSw).cell 7
  have b8:=(HY.out.bel hSw).cell 8
  have b9:=(HY.out.bel hSw).cell 9
  have b10:=(HY.out.bel hSw).cell 10
  have b11:=(HY.out.bel hSw).cell 11
  simp only [cellL,yA,yB] at b5 b6 b7 b8 b9 b10 b11
  go_simp
  try with_reducible rfl
 simp only [Act.put,zA,zB,zC]
 refine mvA 7 (some 16) (fun _=>hSn) ?_
 simp only [Act.put,zA,zB,zC]
 refine mvA 8 (some 17) (fun _=>hSn) ?_
 simp only [Act.put,zA,zB,zC]
 refine tkA 9 [10] (some 18) (?vg10) rfl (Or.inl ⟨by rfl,?hg10⟩) hSn ?rg10
 case hg10=>
  intro w hSw
  have b12:=(HY.out.bel hSw).cell 12
  simp only [cellL,yA,yB] at b12
  go_simp
  try with_reducible rfl
 simp only [Act.put,zA,zB,zC]
 refine rd1 10 rfl (fun K hK=>?_)
 go_simp
 refine (KN.out _ (HI.out.bel hSn)).mono ?_
 rintro e w4 ⟨rfl,hi4,ht4⟩
 have HI4:=qh hi4
 have HT4:=qh ((HT.out.bel hSn).trans ht4)
 clear hi4 ht4
 refine hK.out _ _ nlA ?_
 clear hK
 try simp only [Act.put,zA,zB,zC]
 refine dnA (NoPanic.normal ?_)
 clear hSn HC HI HT HX HY
 go_wp2_with fail
 exact bodyPost_end (v:=.tuple #[]) (by simp [results,Tryz.results121,go_sem]) rfl ⟨rfl,HI4.out,HT4.out⟩
def SetDone (gc n me gl gm nl gi gx ni:Nat) (L:List LEnt) (E:List Ent) (leads out:Value) (q:Nat) (st:Int) (c:Cm) (sm:Bool) (w w':World):Prop:=
 ∃ (gr cr m:Nat) (rv:Value) (rest:List Value),CoreAt w' gc n me gl gm (nl+1) gi gx (ni+1) (lputE L ⟨q,1,cellL st c sm⟩) (putE E ⟨q,1,c,0⟩) leads (.slice (some ⟨gr,0,none⟩) 1 cr) out∧Holds w' gr 127 (rv :: rest)∧Own8 w' w.heap.size rv m∧(1≤m∧m≤480)∧w.heap.size≤gr∧Mv (fun k=>k=gc∨k=gm∨k=gx) w w'
theorem set_cell (gc n me gl gm nl gi gx ni:Nat) (L:List LEnt) (E:List Ent) (leads out:Value) (q:Nat) (st:Int) (c:Cm) (sm:Bool) (w:World) (h:CoreAt w gc n me gl gm nl gi gx ni L E leads (.slice none 0 0) out) (hnl:nl≤1000) (hn:ni≤1000) (hq:q<7) (hc:CmOk c) (hst:(st=1∧sm=true)∨(st=3∧sm=false))
  (hwas:hasL L q 1=false∨(hasL L q 1=true∧st=3∧sm=false∧∃ e∈L,e.r=q∧e.s=1∧e.L=cellL 1 c true)) :
  Calls Tryz.prog 157 #[.pointer (some ⟨gc,0,none⟩),.agg #[.int .i64 q,.int .i64 1],.agg (cellL st c sm).toArray] w fun e w'=>e=.returned (.bool true)∧SetDone gc n me gl gm nl gi gx ni L E leads out q st c sm w w':=by
 have KS:=qh (fun W (h:LogAt W gl gm nl L)=>lset_any gl gm nl L q 1 st c sm W h hnl (by unfold rightI;simp;omega) hc hst hwas)
 have KR:=qh (fun W=>record_any q 1 st c sm W (by omega) (by omega) hc hst)
 have KN:=qh (fun rc W (h:Holds W gc 163 (coreL n me gl gi leads rc out)) (hi:IxAt W gi gx ni (fun _=>0) E)=>note_cell gc n me gl gi gx ni E leads rc out q st c sm W h hi hn hq hc hst)
 have HC:=qh h.hc;have HL:=qh h.lg;have HI:=qh h.ix
 have hne:=h.ne
 have hlt:=h.lt
 have HM:=qh (Mv.refl (fun k=>k=gc∨k=gm∨k=gx) w)
 clear h hwas
 obtain⟨n1,n2,n3,n4,n5,n6,n7,n8⟩:=hne
 obtain⟨l1,l2,l3,l4,l5⟩:=hlt
 go_enter Tryz.func157,Tryz.ntmps157
 go_upto_region 1 with (fail)
 go_name_world W hW
 have hW:allocs w [.cells ([.int .i64 q,.int .i64 1]:List Value).toArray 37,.cells (cellL st c sm:List Value).toArray 45]=W:=hW
 have HX:=qh (show Holds W (w.heap.size) 37 ([.int .i64 q,.int .i64 1]) from holds_allocs _ hW 0 rfl)
 have HY:=qh (show Holds W (w.heap.size+1) 45 (cellL st c sm) from holds_allocs _ hW 1 rfl)
 have hbW:=below_allocs _ hW
 have hsW:=size_allocs _ hW
 simp only [List.length_cons,List.length_nil] at hsW
 clear hW
 have HC:=qh (HC.out.bel hbW)
 have HL:=qh (HL.out.bel hbW)
 have HI:=qh (HI.out.bel hbW)
 have HM:=qh (HM.out.bel hbW)
 have hb1:w.heap.size≤W.heap.size:=hbW.size
 clear hbW hsW
 generalize hy0:w.heap.size+1=gy at HY ⊢
 generalize hx0:w.heap.size=gz at HX ⊢
 have HRY:=qh (fun (w':World) (h:Below W.drew.heap.size W.drew w')=>(((HY.out.bel (t_drew _ W)).bel h).range0))
 have HC:=qh (HC.out.bel (t_drew _ W))
 have HL:=qh (HL.out.bel (t_drew _ W))
 have HI:=qh (HI.out.bel (t_drew _ W))
 have HM:=qh (HM.out.bel (t_drew _ W))
 have HX:=qh (HX.out.bel (t_drew _ W))
 have HY:=qh (HY.out.bel (t_drew _ W))
 refine wp_region_noPanic ?_
 refine wp_region_late (S:=fun W'=>Below W.drew.heap.size W.drew W') (X0:=[6]) (by as_aux_lemma=>kernel_rfl) ?_
 generalize W.drew=wd at HC HL HI HM HX HY HRY ⊢
 have hSn:Below wd.heap.size wd wd:=Below.refl _ _
 change wpAnyL _ _ _ _ _ _ 8 #[false,false,false,false,false,false,false,false] _ _
 refine mvA 0 (some 7) (fun _=>hSn) ?_
 simp only [Act.put,zA,zB,zC]
 refine mvA 1 (some 8) (fun _=>hSn) ?_
 simp only [Act.put,zA,zB,zC]
 refine mvA 2 (some 9) (fun _=>hSn) ?_
 simp only [Act.put,zA,zB,zC]
 refine tkA 3 [6,7] (some 10) (?vg14) rfl (Or.inl ⟨by rfl,?hg14⟩) hSn ?rg14
 case hg14=>
  intro w hSw
  have b2:=(HC.out.bel hSw).cell 2
  simp only [coreL,yA,yB] at b2
  go_simp
  try with_reducible rfl
 simp only [Act.put,zA,zB,zC]
 refine tkA 4 [6,7] (some 11) (?vg15) rfl (Or.inl ⟨by rfl,?hg15⟩) hSn ?rg15
 case hg15=>
  intro w hSw
  have b0:=(HX.out.bel hSw).cell 0
  have b1:=(HX.out.bel hSw).cell 1
  simp only [yA,yB] at b0 b1
  go_simp
  try with_reducible rfl
 simp only [Act.put,zA,zB,zC]
 refine tkA 5 [6,7] (some 12) (.agg (cellL st c sm).toArray) rfl (yieldsIf_load_mid (by rfl) 45 _ rfl gy 0 rfl (cellL st c sm) _ (fun w hSw=>HRY.out w hSw) Tryz.underlying45 rfl (by as_aux_lemma=>kernel_rfl)) hSn ?rg16
 simp only [Act.put,zA,zB,zC]
 refine rd1 6 rfl (fun K hK=>?_)
 go_simp
 refine (KS.out _ (HL.out.bel hSn)).mono ?_
 rintro e w1 ⟨rfl,hl1,ht1⟩
 have HL1:=qh hl1
 have HT1:=qh ht1
 clear hl1 ht1
 refine hK.out _ _ nlA ?_
 clear hK
 try simp only [Act.put,zA,zB,zC]
 refine mvA 7 (some 14) nlA ?_
 simp only [Act.put,zA,zB,zC]
 refine dnA (NoPanic.normal ?_)
 have HC:=qh ((HC.out.bel hSn).touch HT1.out n2)
 have HI:=qh ((HI.out.bel hSn).touch HT1.out (Ne.symm n7) (Ne.symm n8))
 have HX:=qh ((HX.out.bel hSn).touch HT1.out (by omega))
 have HY:=qh ((HY.out.bel hSn).touch HT1.out (by omega))
 have HM:=qh ((HM.out.bel hSn).touch HT1.out (.inl (.inr (.inl rfl))))
 clear hSn HT1 HL HRY
 have hb2:=HM.out.size
 go_wp2_with fail
 go_upto_region 3 with (fail)
 have HRY:=qh (fun (w':World) (h:Below w1.drew.heap.size w1.drew w')=>(((HY.out.bel (t_drew _ w1)).bel h).range0))
 have HC:=qh (HC.out.bel (t_drew _ w1))
 have HL1:=qh (HL1.out.bel (t_drew _ w1))
 have HI:=qh (HI.out.bel (t_drew _ w1))
 have HM:=qh (HM.out.bel (t_drew _ w1))
 have HX:=qh (HX.out.bel (t_drew _ w1))
 have HY:=qh (HY.out.bel (t_drew _ w1))
 refine wp_region_noPanic ?_
 refine wp_region_late (S:=fun W'=>Below w1.drew.heap.size w1.drew W') (X0:=[12]) (by as_aux_lemma=>kernel_rfl) ?_
 generalize w1.drew=wd at HC HL1 HI HM HX HY HRY ⊢
 have hSn:Below wd.heap.size wd wd:=Below.refl _ _
 change wpAnyL _ _ _ _ _ _ 13 #[false,false,false,false,false,false,false,false,false,false,false,false,false] _ _
 refine mvA 0 (some 15) (fun _=>hSn) ?_
 simp only [Act.put,zA,zB,zC]
 refine mvA 1 (some 16) (fun _=>hSn) ?_
 simp only [Act.put,zA,zB,zC]
 refine mvA 2 (some 17) (fun _=>hSn) ?_
 simp only [Act.put,zA,zB,zC]
 refine mvA 3 (some 18) (fun _=>hSn) ?_
 simp only [Act.put,zA,zB,zC]
 refine tkA 4 [9,10,11,12] (some 19) (?vg22) rfl (Or.inl ⟨by rfl,?hg22⟩) hSn ?rg22
 case hg22=>
  intro w hSw
  have b6:=(HC.out.bel hSw).cell 6
  simp only [coreL,yA,yB] at b6
  go_simp
  try with_reducible rfl
 simp only [Act.put,zA,zB,zC]
 refine tkA 5 [7,8,9,10,11,12] (some 20) (?vg23) rfl (Or.inl ⟨by rfl,?hg23⟩) hSn ?rg23
 case hg23=>
  intro w hSw
  have b0:=(HX.out.bel hSw).cell 0
  have b1:=(HX.out.bel hSw).cell 1
  simp only [yA,yB] at b0 b1
  go_simp
  try with_reducible rfl
 simp only [Act.put,zA,zB,zC]
 refine tkA 6 [7,8,9,10,11,12] (some 21) (.agg (cellL st c sm).toArray) rfl (yieldsIf_load_mid (by rfl) 45 _ rfl gy 0 rfl (cellL st c sm) _ (fun w hSw=>HRY.out w hSw) Tryz.underlying45 rfl (by as_aux_lemma=>kernel_rfl)) hSn ?rg24
 simp only [Act.put,zA,zB,zC]
 refine rd1 7 rfl (fun K hK=>?_)
 go_simp
 refine (KR.out _).mono ?_
 rintro e w2 ⟨rv,m,rfl,hm1,hm2,ho,hb⟩
 have hSn:=below_next hSn hb
 have HO:=qh (Own8.mono (B':=w.heap.size) ho (by have h1:=HM.out.size;have h2:=hSn.size;omega))
 have hb3:=hSn.size
 obtain⟨rp,rc,rfl⟩:=ho.shape
 clear ho
 clear hb
 refine hK.out _ _ (fun _=>hSn) ?_
 clear hK
 try simp only [Act.put,zA,zB,zC]
 refine rd1 8 rfl (fun K hK=>?_)
 refine step_build1 rfl 140 127 (.slice rp m rc) [.slice rp m rc] rfl rfl rfl (fun w=>by kernel_rfl) ?_
 intro wa hna hba
 have hSn:=below_next hSn hba
 have HN:=qh hna
 have HO:=qh (HO.out.below hba)
 clear hna hba
 change K (Act.put _ (some 23) _) _
 refine hK.out _ _ (fun _=>hSn) ?_
 clear hK
 try simp only [Act.put,zA,zB,zC]
 refine rd1 9 rfl (fun K hK=>?_)
 refine step_append_s rfl (.tmp 19) (.tmp 23) 140 rfl 127 (.slice none 0 0) 1 24 rfl (by kernel_rfl) rfl (by decide) _ none 0 [] rfl (OwnS.nil _ _ _) _ 1 1 [.slice rp m rc] rfl rfl (HN.out.reads 0 _ (fun j v hv=>by rw [Nat.zero_add];exact hv)) (by decide) (by simp [Value.oneCell']) (by unfold maxLen;omega) (by omega) ?_
 intro v5 ob5 w5 ho5 hob5 hm5
 have hs8:=hSn.size
 have hSn:=hSn.trans (hm5.below (Nat.le_trans (Nat.le_refl _) hSn.size) (fun k hk=>by cases hk))
 rw [List.nil_append,Nat.zero_add] at ho5
 obtain⟨gr,cr,rest,rfl,hgr,hc1,hcm,hh5,hl5⟩:=ho5.blk (by decide)
 have hgrb:w.heap.size≤gr:=by
  rcases hob5 with hc|⟨k,hk,hk2⟩
  ·rw [hgr] at hc;cases hc
  ·rw [hgr] at hk;cases hk;have h1:=HM.out.size;have h2:=hs8;omega
 have HR:=qh (show Holds w5 gr 127 (.slice rp m rc :: rest) from hh5)
 have HO:=qh (HO.out.below (hm5.below (Nat.le_refl _) (fun k hk=>by cases hk)))
 clear ho5 hob5 hm5 hh5
 change K (Act.put _ (some 24) _) _
 refine hK.out _ _ (fun _=>hSn) ?_
 clear hK
 try simp only [Act.put,zA,zB,zC]
 refine mvA 10 (some 25) (fun _=>hSn) ?_
 simp only [Act.put,zA,zB,zC]
 refine mvA 11 (some 26) (fun _=>hSn) ?_
 simp only [Act.put,zA,zB,zC]
 refine rd1 12 rfl (fun K hK=>?_)
 refine step_store_cell rfl 140 (.tmp 26) (.tmp 24) rfl rfl gc 6 163 _ (HC.out.bel hSn) (by simp [coreL]) rfl (.slice (some ⟨gr,0,none⟩) 1 cr) rfl rfl (by kernel_rfl) rfl ?_
 intro w6 hh6 ht6
 have HC6:=qh (show Holds w6 gc 163 (coreL n me gl gi leads (.slice (some ⟨gr,0,none⟩) 1 cr) out) from hh6)
 have HT6:=qh ht6
 clear hh6 ht6
 refine hK.out _ _ nlA ?_
 clear hK
 try simp only [Act.put,zA,zB,zC]
 refine dnA (NoPanic.normal ?_)
 have HL:=qh ((HL1.out.bel hSn).touch HT6.out (Ne.symm n1) (Ne.symm n2))
 have HI:=qh ((HI.out.bel hSn).touch HT6.out (Ne.symm n3) (Ne.symm n4))
 have HX:=qh ((HX.out.bel hSn).touch HT6.out (by omega))
 have HY:=qh ((HY.out.bel hSn).touch HT6.out (by omega))
 have HR:=qh (HR.out.touch HT6.out (by omega))
 have HO:=qh (HO.out.tch HT6.out l1)
 have HM:=qh ((HM.out.bel hSn).touch HT6.out (.inl (.inl rfl)))
 clear hSn HT6 HL1 HRY HC HN
 have HRY:=qh HY.out.range0
 have x0:=HX.out.cell 0
 have x1:=HX.out.cell 1
 simp only [yA,yB] at x0 x1
 go_wp2_with (first
  | (refine wpList_load_mid rfl 45 _ rfl gy 0 rfl (cellL st c sm) _ HRY.out Tryz.underlying45 rfl (by kernel_rfl) ?_))
 refine (KN.out _ _ HC6.out HI.out).mono ?_
 rintro e w7 ⟨rfl,hi7,ht7⟩
 have HC:=qh (HC6.out.touch ht7 n4)
 have HL:=qh (HL.out.touch ht7 n6 n8)
 have HI:=qh hi7
 have HR:=qh (HR.out.touch ht7 (by omega))
 have HO:=qh (HO.out.tch ht7 l5)
 have HM:=qh (HM.out.touch ht7 (.inl (.inr (.inr rfl))))
 clear hi7 ht7 x0 x1 HRY HC6 HX HY
 go_wp2_with fail
 go_ret
 exact⟨rfl,gr,cr,m,_,rest,⟨HC.out,HL.out,HI.out,n1,n2,n3,n4,n5,n6,n7,n8⟩,HR.out,HO.out,⟨hm1,hm2⟩,hgrb,HM.out⟩
end
section
open Go.RowKit Go.Maps
theorem ins_lead (bs gld:Nat) (w:World) (h:Holds w bs 158 [.pointer (some ⟨gld,0,none⟩)]) :
  Calls Tryz.prog 272 #[.slice none 0 0,.int .i64 0,.slice (some ⟨bs,0,none⟩) 1 1] w fun e w'=>∃ g c rest,e=.returned (.slice (some ⟨g,0,none⟩) 1 c)∧1≤c∧c≤maxLen∧Holds w' g 158 (.pointer (some ⟨gld,0,none⟩) :: rest)∧w.heap.size≤g∧Below w.heap.size w w':=by
 have HH:=qh h;clear h
 go_enter Tryz.func272,Tryz.ntmps272
 go_wp2_with (first
  | (at_builtin;refine wpList_append_s rfl (.tmp 23) (.tmp 24) 156 rfl 158 (.pointer none) 1 8 rfl (by kernel_rfl) rfl (by decide) _ none 0 [] rfl (OwnS.nil _ _ _) _ 1 1 [.pointer (some ⟨gld,0,none⟩)] rfl rfl (HH.out.reads 0 _ (fun j v hv=>by rw [Nat.zero_add];exact hv)) (by decide) (by simp [Value.oneCell']) (by unfold maxLen;omega) (by omega) ?_;intro v2 ob2 w2 ho2 hob2 hm2))
 rw [List.nil_append,Nat.zero_add] at ho2
 obtain⟨g,c,rest,rfl,rfl,hc1,hc2,hh,hl⟩:=ho2.blk (by decide)
 have hg:w.heap.size≤g:=by
  rcases hob2 with hc|⟨k,hk,hk2⟩
  ·cases hc
  ·cases hk;exact hk2
 have HB:=qh (hm2.below (Nat.le_refl _) (fun k hk=>by cases hk))
 have HR:=qh (show Holds w2 g 158 (.pointer (some ⟨gld,0,none⟩) :: rest) from hh)
 clear ho2 hob2 hm2 hh
 go_ret
 exact⟨g,c,rest,rfl,hc1,hc2,HR.out,hg,HB.out⟩
theorem ask_lead (gld:Nat) (q:Int) (x:Cm) (a:Nat→Int) (R:Value) (cnt tk:Int) (w:World) (h:Holds w gld 167 (leadL q x a R cnt tk)) :
  Calls Tryz.prog 80 #[.pointer (some ⟨gld,0,none⟩)] w fun e w'=>e=.returned (.agg (letL 1 0 0 q x).toArray)∧Below w.heap.size w w':=by
 have HL:=qh h;clear h
 go_enter Tryz.func80,Tryz.ntmps80
 go_upto_region 1 with (fail)
 go_name_world W hW
 have hW:allocs w [.cells (letZ:List Value).toArray 47]=W:=hW
 have HZ:=qh (show Holds W (w.heap.size) 47 (letZ) from holds_allocs _ hW 0 rfl)
 have hbW:=below_allocs _ hW
 have hsW:=size_allocs _ hW
 simp only [List.length_cons,List.length_nil] at hsW
 clear hW
 have HB:=qh (Base.start w)
 have HL:=qh (HL.out.bel hbW)
 have HB:=qh (HB.out.bel hbW)
 have hlg:=HL.out.lt
 clear hbW hsW
 generalize hB0:w.heap.size=B at HZ HB ⊢
 have HL:=qh (HL.out.bel (t_drew _ W))
 have HZ:=qh (HZ.out.bel (t_drew _ W))
 have HB:=qh (HB.out.bel (t_drew _ W))
 refine wp_region_noPanic ?_
 refine wp_region_late (S:=fun W'=>Below W.drew.heap.size W.drew W') (X0:=[]) (by as_aux_lemma=>kernel_rfl) ?_
 generalize W.drew=wd at HL HZ HB ⊢
 have hSn:Below wd.heap.size wd wd:=Below.refl _ _
 change wpAnyL _ _ _ _ _ _ 11 #[false,false,false,false,false,false,false,false,false,false,false] _ _
 refine mvA 0 (some 4) (fun _=>hSn) ?_
 simp only [Act.put,zA,zB,zC]
 refine mvA 1 (some 5) (fun _=>hSn) ?_
 simp only [Act.put,zA,zB,zC]
 refine mvA 2 (some 6) (fun _=>hSn) ?_
 simp only [Act.put,zA,zB,zC]
 refine tkA 3 [] (some 7) (?vg4) rfl (Or.inl ⟨by rfl,?hg4⟩) hSn ?rg4
 case hg4=>
  intro w hSw
  have b0:=(HL.out.bel hSw).cell 0
  have b1:=(HL.out.bel hSw).cell 1
  simp only [leadL,yA,yB] at b0 b1
  go_simp
  try with_reducible rfl
 simp only [Act.put,zA,zB,zC]
 refine mvA 4 (some 8) (fun _=>hSn) ?_
 simp only [Act.put,zA,zB,zC]
 refine mvA 5 (some 9) (fun _=>hSn) ?_
 simp only [Act.put,zA,zB,zC]
 refine mvA 6 (some 10) (fun _=>hSn) ?_
 simp only [Act.put,zA,zB,zC]
 refine tkA 7 [] (some 11) (?vg8) rfl (Or.inl ⟨by rfl,?hg8⟩) hSn ?rg8
 case hg8=>
  intro w hSw
  have b3:=(HL.out.bel hSw).cell 3
  have b4:=(HL.out.bel hSw).cell 4
  simp only [leadL,yA,yB] at b3 b4
  go_simp
  try with_reducible rfl
 simp only [Act.put,zA,zB,zC]
 refine mvA 8 (some 12) (fun _=>hSn) ?_
 simp only [Act.put,zA,zB,zC]
 refine rd1 9 rfl (fun K hK=>?_)
 go_simp
 have hal:=fun o=>Below.alloc hSn hSn.size o
 refine hK.out _ _ (fun _=>hal _) ?_
 have hSn:=hal (.cells letZ.toArray 47)
 have HM:=qh (show Holds (wd.alloc (.cells letZ.toArray 47)) wd.heap.size 47 letZ from holds_alloc wd _ _)
 clear hal
 change wpAnyL _ _ _ _ _ _ _ _ _ (wd.alloc (.cells letZ.toArray 47))
 generalize wd.alloc (.cells letZ.toArray 47)=wa at hSn HM ⊢
 clear hK
 try simp only [Act.put,zA,zB,zC]
 refine rd1 10 rfl (fun K hK=>?_)
 refine step_store_box rfl 47 (.tmp 3) (.tmp 12) wd.heap.size letZ (letL 0 0 0 q Cm.zero) rfl rfl rfl rfl HM.out (by kernel_rfl) rfl (letL_one' _ _ _ _ _) ?_
 intro wb hh6 ht6
 have HM:=qh hh6
 have hSn:=hSn.trans (ht6.below (Nat.le_refl _) hSn.size)
 clear hh6 ht6
 refine hK.out _ _ (fun _=>hSn) ?_
 clear hK
 try simp only [Act.put,zA,zB,zC]
 refine dnA (NoPanic.normal ?_)
 have hwd:=HB.out.le
 have hgm:gld<wd.heap.size:=HL.out.lt
 have hzm:B<wd.heap.size:=HZ.out.lt
 have HL:=qh (HL.out.bel hSn)
 have HZ:=qh (HZ.out.bel hSn)
 have HB:=qh (HB.out.bel hSn)
 clear hSn
 generalize wd.heap.size=gm at HM hwd hgm hzm ⊢
 have l2:=HL.out.cell 2
 simp only [leadL,yA,yB] at l2
 go_upto_region 5 with (fail)
 clear l2
 have hlm:gld≠gm:=by omega
 have HL:=qh (HL.out.bel (t_drew _ wb))
 have HZ:=qh (HZ.out.bel (t_drew _ wb))
 have HB:=qh (HB.out.bel (t_drew _ wb))
 have HM:=qh (HM.out.bel (t_drew _ wb))
 refine wp_region_noPanic ?_
 refine wp_region_late (S:=fun W'=>Touch gm wb.drew W') (X0:=[]) (by as_aux_lemma=>kernel_rfl) ?_
 generalize wb.drew=wd at HL HZ HB HM ⊢
 have hSn:Touch gm wd wd:=Touch.refl _ _
 change wpAnyL _ _ _ _ _ _ 14 #[false,false,false,false,false,false,false,false,false,false,false,false,false,false] _ _
 refine mvA 0 (some 20) (fun _=>hSn) ?_
 simp only [Act.put,zA,zB,zC]
 refine mvA 1 (some 21) (fun _=>hSn) ?_
 simp only [Act.put,zA,zB,zC]
 refine mvA 2 (some 22) (fun _=>hSn) ?_
 simp only [Act.put,zA,zB,zC]
 refine tkA 3 [] (some 23) (?vg13) rfl (Or.inl ⟨by rfl,?hg13⟩) hSn ?rg13
 case hg13=>
  intro w hSw
  have b6:=(HL.out.touch hSw (by omega)).cell 6
  have b7:=(HL.out.touch hSw (by omega)).cell 7
  have b8:=(HL.out.touch hSw (by omega)).cell 8
  have b9:=(HL.out.touch hSw (by omega)).cell 9
  have b10:=(HL.out.touch hSw (by omega)).cell 10
  have b11:=(HL.out.touch hSw (by omega)).cell 11
  have b12:=(HL.out.touch hSw (by omega)).cell 12
  simp only [leadL,yA,yB] at b6 b7 b8 b9 b10 b11 b12
  go_simp
  try with_reducible rfl
 simp only [Act.put,zA,zB,zC]
 refine mvA 4 (some 24) (fun _=>hSn) ?_
 simp only [Act.put,zA,zB,zC]
 refine mvA 5 (some 25) (fun _=>hSn) ?_
 simp only [Act.put,zA,zB,zC]
 refine mvA 6 (some 26) (fun _=>hSn) ?_
 simp only [Act.put,zA,zB,zC]
 refine tkA 7 [] (some 27) (?vg17) rfl (Or.inl ⟨by rfl,?hg17⟩) hSn ?rg17
 case hg17=>
  intro w hSw
  have b13:=(HL.out.touch hSw (by omega)).cell 13
  have b14:=(HL.out.touch hSw (by omega)).cell 14
  have b15:=(HL.out.touch hSw (by omega)).cell 15
  have b16:=(HL.out.touch hSw (by omega)).cell 16
  have b17:=(HL.out.touch hSw (by omega)).cell 17
  have b18:=(HL.out.touch hSw (by omega)).cell 18
  have b19:=(HL.out.touch hSw (by omega)).cell 19
  have b20:=(HL.out.touch hSw (by omega)).cell 20
  simp only [leadL,yA,yB] at b13 b14 b15 b16 b17 b18 b19 b20
  go_simp
  try with_reducible rfl
 simp only [Act.put,zA,zB,zC]
 refine mvA 8 (some 28) (fun _=>hSn) ?_
 simp only [Act.put,zA,zB,zC]
 refine rd1 9 rfl (fun K hK=>?_)
 refine step_store_cell rfl 3 (.tmp 28) (.const (.int .i64 1)) rfl rfl gm 0 47 _ HM.out (by simp [letL]) rfl (.int .i64 1) rfl rfl (by kernel_rfl) rfl ?_
 intro w7 hh7 ht7
 have HM:=qh (show Holds w7 gm 47 (letL 1 0 0 q Cm.zero) from hh7)
 have hSn:=hSn.trans ht7
 clear hh7 ht7
 refine hK.out _ _ (fun _=>hSn) ?_
 clear hK
 try simp only [Act.put,zA,zB,zC]
 refine mvA 10 (some 29) (fun _=>hSn) ?_
 simp only [Act.put,zA,zB,zC]
 refine rd1 11 rfl (fun K hK=>?_)
 refine step_store_spl rfl 23 (.tmp 29) (.tmp 23) rfl rfl gm 7 _ 47 HM.out rfl [.int .i64 x.k,.int .i64 x.c,.int .i64 x.s,.string x.a,.string x.b,.string x.o,.string x.v] rfl (by kernel_rfl) (by simp [letL]) (by simp [Value.oneCell']) ?_
 intro w8 hh8 ht8
 have HM:=qh (show Holds w8 gm 47 (letL 1 0 0 q x) from hh8)
 have hSn:=hSn.trans ht8
 clear hh8 ht8
 refine hK.out _ _ (fun _=>hSn) ?_
 clear hK
 try simp only [Act.put,zA,zB,zC]
 refine mvA 12 (some 30) (fun _=>hSn) ?_
 simp only [Act.put,zA,zB,zC]
 refine rd1 13 rfl (fun K hK=>?_)
 refine step_store_spl rfl 43 (.tmp 30) (.tmp 27) rfl rfl gm 14 _ 47 HM.out rfl [.int .i64 0,.int .i64 0,.int .i64 0,.int .i64 0,.int .i64 0,.int .i64 0,.int .i64 0,.int .i64 0] rfl (by kernel_rfl) (by simp [letL]) (by simp [Value.oneCell']) ?_
 intro w9 hh9 ht9
 have HM:=qh (show Holds w9 gm 47 (letL 1 0 0 q x) from hh9)
 have hSn:=hSn.trans ht9
 clear hh9 ht9
 refine hK.out _ _ (fun _=>hSn) ?_
 clear hK
 try simp only [Act.put,zA,zB,zC]
 refine dnA (NoPanic.normal ?_)
 have HZ:=qh (HZ.out.touch hSn (by omega))
 have HB:=qh (HB.out.touch hSn (by omega))
 clear hSn HL
 have HRG:=qh HM.out.range0
 go_wp2_with (first
  | (refine wpList_load_mid rfl 47 _ rfl gm 0 rfl (letL 1 0 0 q x) _ HRG.out Tryz.underlying47 rfl (by kernel_rfl) ?_)
  | (refine wpList_store_whole rfl 47 (.tmp 2) (.tmp 44) B letZ (letL 1 0 0 q x) rfl rfl rfl rfl HZ.out (by kernel_rfl) rfl (letL_one' _ _ _ _ _) ?_;intro w5 hh5 ht5))
 have HB:=qh (HB.out.touch ht5 (Nat.le_refl _))
 have HR:=qh hh5.range0
 clear hh5 ht5 HRG
 refine bodyPost_ret (v:=.agg (letL 1 0 0 q x).toArray) (results_cell Tryz.results80 _ _ B _ _ rfl HR.out Tryz.underlying47 rfl (by kernel_rfl)) rfl ?_
 exact⟨rfl,hB0▸HB.out.below⟩
theorem take_new (gc n me gl gi gld:Nat) (recs out:Value) (q:Int) (x:Cm) (a:Nat→Int) (R:Value) (cnt tk:Int) (w:World) (h:Holds w gc 163 (coreL n me gl gi (.slice none 0 0) recs out)) (hl:Holds w gld 167 (leadL q x a R cnt tk)) :
  Calls Tryz.prog 221 #[.pointer (some ⟨gc,0,none⟩),.pointer (some ⟨gld,0,none⟩)] w fun e w'=>e=.returned (.tuple #[])∧∃ gb c rest,Holds w' gc 163 (coreL n me gl gi (.slice (some ⟨gb,0,none⟩) 1 c) recs out)∧Holds w' gb 158 (.pointer (some ⟨gld,0,none⟩) :: rest)∧(1≤c∧c≤maxLen)∧w.heap.size≤gb∧Touch gc w w':=by
 have KL:=qh (fun W h=>leave_none gc n me gl gi none 0 recs out q W h)
 have KI:=qh (fun bs W h=>ins_lead bs gld W h)
 have HC:=qh h;have HL:=qh hl
 have HT:=qh (Touch.refl gc w)
 have hgc:=h.lt
 clear h hl
 go_enter Tryz.func221,Tryz.ntmps221
 have l0:=HL.out.cell 0
 have l1:=HL.out.cell 1
 simp only [leadL,yA,yB] at l0 l1
 go_wp2_with fail
 refine (KL.out _ HC.out).mono ?_
 rintro e w1 ⟨rfl,hc1,ht1⟩
 have HC:=qh hc1
 have HT:=qh (HT.out.trans ht1)
 clear hc1 ht1 l0 l1 HL
 go_wp2_with fail
 go_loopw [4] (fun vi wr=>vi=.int .i64 0∧wr=w1) (fun _ _=>0)
 case atStart=>exact⟨rfl,rfl⟩
 case round=>
  obtain⟨rfl,rfl⟩:=hrel
  have d4:=HC.out.cell 4
  simp only [coreL,yA,yB] at d4
  go_upto_region 2 with (fail)
  go_quiet (fail)
  have hb2:Below wr.heap.size wr (wr.drewN nq):=t_drewN _ _ _
  have HC:=qh (HC.out.bel hb2)
  have HT:=qh (HT.out.bel hb2)
  clear hb2 d4
  generalize wr.drewN nq=W2 at HC HT ⊢
  have d4:=HC.out.cell 4
  simp only [coreL,yA,yB] at d4
  go_wp2_with fail
  have HN:=qh (holds_alloc W2 158 [.pointer (some ⟨gld,0,none⟩)])
  have hal:Below W2.heap.size W2 (W2.alloc (.cells #[.pointer (some ⟨gld,0,none⟩)] 158)):=by go_grown
  have hsz:=HT.out.size
  have HC:=qh (HC.out.bel hal)
  have HT:=qh (HT.out.bel hal)
  clear hal d4
  generalize W2.alloc (.cells #[.pointer (some ⟨gld,0,none⟩)] 158)=W3 at HN HC HT ⊢
  have hsn:=HN.out.lt
  generalize W2.heap.size=gn at HN hsz hsn ⊢
  refine (KI.out gn _ HN.out).mono ?_
  rintro e w5 ⟨gb,c,rest,rfl,hc1,hc2,hh5,hg5,hb5⟩
  have HC:=qh (HC.out.bel hb5)
  have HT:=qh (HT.out.bel hb5)
  have HG:=qh hh5
  clear hb5 hh5 HN
  go_wp2_with (first
   | (refine wpList_store_cell rfl 156 (.tmp 47) (.tmp 45) rfl rfl gc 4 163 _ HC.out (by simp [coreL]) rfl (.slice (some ⟨gb,0,none⟩) 1 c) rfl rfl (by kernel_rfl) rfl ?_;intro w7 hh7 ht7))
  have HC:=qh (show Holds w7 gc 163 (coreL n me gl gi (.slice (some ⟨gb,0,none⟩) 1 c) recs out) from hh7)
  have HG:=qh (HG.out.touch ht7 (by omega))
  have HT:=qh (HT.out.trans ht7)
  clear hh7 ht7
  go_wp2_with fail
  exact bodyPost_end (v:=.tuple #[]) (by simp [results,Tryz.results221,go_sem]) rfl ⟨rfl,gb,c,rest,HC.out,HG.out,⟨hc1,hc2⟩,by omega,HT.out⟩
theorem AllSent.base {B B' gc n me gl gi:Nat} {leads recs:Value} {k q:Nat} {x:Cm} {w0 w:World} {m:Nat} {wr:World} (h:AllSent B gc n me gl gi leads recs k q x w m wr) (hB:B'≤B) (hm:Mv (fun g=>g=gc) w0 w):AllSent B' gc n me gl gi leads recs k q x w0 m wr:=by
 obtain⟨out,ob,h1,h2,h3,h4⟩:=h
 exact⟨out,ob,h1,h2,fun g hg=>Nat.le_trans hB (h3 g hg),hm.mv h4 fun k hk=>.inl hk⟩
def Begun (gc n me gl gi gld:Nat) (recs:Value) (q:Nat) (x:Cm) (w w':World):Prop:=∃ (gb c:Nat) (rest:List Value),Holds w' gb 158 (.pointer (some ⟨gld,0,none⟩) :: rest)∧(1≤c∧c≤maxLen)∧w.heap.size≤gb∧AllSent w.heap.size gc n me gl gi (.slice (some ⟨gb,0,none⟩) 1 c) recs 1 q x w (n-1) w'
theorem begin_new (gc n me gl gi gld:Nat) (recs:Value) (q:Nat) (x:Cm) (R:Value) (cnt tk:Int) (w:World) (h:Holds w gc 163 (coreL n me gl gi (.slice none 0 0) recs (.slice none 0 0))) (hl:Holds w gld 167 (leadL q x (fun _=>0) R cnt tk)) (hn:n≤7) (hme:me<n) (hne:gld≠gc) :
  Calls Tryz.prog 158 #[.pointer (some ⟨gc,0,none⟩),.pointer (some ⟨gld,0,none⟩)] w fun e w'=>e=.returned (.tuple #[])∧Begun gc n me gl gi gld recs q x w w':=by
 have KT:=qh (fun W h hl=>take_new gc n me gl gi gld recs (.slice none 0 0) q x (fun _=>0) R cnt tk W h hl)
 have KA:=qh (fun W h=>ask_lead gld q x (fun _=>0) R cnt tk W h)
 have KS:=qh (fun leads W h=>all_any gc n me gl gi leads recs 1 0 0 q x W h hn hme)
 have HC:=qh h;have HL:=qh hl
 have hgc:=h.lt
 have HT:=qh (Touch.refl gc w)
 clear h hl
 go_enter Tryz.func158,Tryz.ntmps158
 go_wp2_with fail
 refine (KT.out _ HC.out HL.out).mono ?_
 rintro e w1 ⟨rfl,gb,c,rest,hc1,hg1,hcc,hgb,ht1⟩
 have HC:=qh hc1;have HG:=qh hg1
 have HL:=qh (HL.out.touch ht1 hne)
 have HT:=qh (HT.out.trans ht1)
 clear hc1 hg1 ht1
 go_upto_region 1 with (fail)
 have HRL:=qh (fun (w':World) (h:Below w1.drew.heap.size w1.drew w')=>(((HL.out.bel (t_drew _ w1)).bel h).rangeO 21 (cs:=zero7) (fun j v hv=>by
  rcases (show j=0∨j=1∨j=2∨j=3∨j=4∨j=5∨j=6∨7≤j by omega) with rfl|rfl|rfl|rfl|rfl|rfl|rfl|h7
  ·exact hv
  ·exact hv
  ·exact hv
  ·exact hv
  ·exact hv
  ·exact hv
  ·exact hv
  ·rw [List.getElem?_eq_none (by simp [zero7];omega)] at hv;cases hv)))
 have HC:=qh (HC.out.bel (t_drew _ w1))
 have HG:=qh (HG.out.bel (t_drew _ w1))
 have HL:=qh (HL.out.bel (t_drew _ w1))
 have HT:=qh (HT.out.bel (t_drew _ w1))
 refine wp_region_noPanic ?_
 refine wp_region_late (S:=fun W'=>Below w1.drew.heap.size w1.drew W') (X0:=[7]) (by as_aux_lemma=>kernel_rfl) ?_
 generalize w1.drew=wd at HC HG HL HT HRL ⊢
 have hSn:Below wd.heap.size wd wd:=Below.refl _ _
 change wpAnyL _ _ _ _ _ _ 8 #[false,false,false,false,false,false,false,false] _ _
 refine mvA 0 (some 7) (fun _=>hSn) ?_
 simp only [Act.put,zA,zB,zC]
 refine mvA 1 (some 8) (fun _=>hSn) ?_
 simp only [Act.put,zA,zB,zC]
 refine mvA 3 (some 10) (fun _=>hSn) ?_
 simp only [Act.put,zA,zB,zC]
 refine mvA 4 (some 11) (fun _=>hSn) ?_
 simp only [Act.put,zA,zB,zC]
 refine mvA 5 (some 12) (fun _=>hSn) ?_
 simp only [Act.put,zA,zB,zC]
 refine tkA 6 [7] (some 13) (.agg (zero7).toArray) rfl (yieldsIf_load_mid (by rfl) 40 _ rfl gld 21 rfl (zero7) _ (fun w hSw=>HRL.out w hSw) Tryz.underlying40 rfl (by as_aux_lemma=>kernel_rfl)) hSn ?rg26
 simp only [Act.put,zA,zB,zC]
 refine rd1 2 rfl (fun K hK=>?_)
 go_simp
 refine (KA.out _ (HL.out.bel hSn)).mono ?_
 rintro e w2 ⟨rfl,hb⟩
 have hSn:=below_next hSn hb
 clear hb
 refine hK.out _ _ (fun _=>hSn) ?_
 clear hK
 try simp only [Act.put,zA,zB,zC]
 refine rd1 7 rfl (fun K hK=>?_)
 go_simp
 have hs1:=HT.out.size
 have hs2:=hSn.size
 refine (KS.out _ _ (HC.out.bel hSn)).mono ?_
 rintro e w3 ⟨rfl,ha3⟩
 have hmv:Mv (fun g=>g=gc) w w2:=(Mv.of_touch (F:=fun g=>g=gc) HT.out rfl).bel hSn
 have HA:=qh (ha3.base (B':=w.heap.size) (by omega) hmv)
 obtain⟨_,_,_,_,_,hm3⟩:=ha3
 have HG3:=qh ((HG.out.bel hSn).mv hm3 (by omega))
 clear hm3 hmv
 refine hK.out _ _ nlA ?_
 clear hK
 try simp only [Act.put,zA,zB,zC]
 refine dnA (NoPanic.normal ?_)
 clear hSn HC HG HL HT HRL
 go_wp2_with fail
 exact bodyPost_end (v:=.tuple #[]) (by simp [results,Tryz.results158,go_sem]) rfl ⟨rfl,gb,c,rest,HG3.out,hcc,hgb,HA.out⟩
end
section
open Go.RowKit Go.Maps
theorem drain_any (gc n me gl gi:Nat) (leads recs out:Value) (w:World) (h:Holds w gc 163 (coreL n me gl gi leads recs out)) :
  Calls Tryz.prog 159 #[.pointer (some ⟨gc,0,none⟩)] w fun e w'=>e=.returned (.tuple #[recs,out])∧Holds w' gc 163 (coreL n me gl gi leads (.slice none 0 0) (.slice none 0 0))∧Touch gc w w':=by
 have HC:=qh h
 have HT:=qh (Touch.refl gc w)
 clear h
 go_enter Tryz.func159,Tryz.ntmps159
 have d6:=HC.out.cell 6
 have d7:=HC.out.cell 7
 simp only [coreL,yA,yB] at d6 d7
 go_upto_region 1 with (fail)
 go_quiet (fail)
 have hb2:Below w.heap.size w (w.drewN nq):=t_drewN _ _ _
 have HC:=qh (HC.out.bel hb2)
 have HT:=qh (HT.out.bel hb2)
 clear hb2 d6 d7
 generalize w.drewN nq=W2 at HC HT ⊢
 go_wp2_with (first
  | (refine wpList_store_cell rfl 140 (.tmp 17) (.const (.slice none 0 0)) rfl rfl gc 6 163 (coreL n me gl gi leads recs out) HC.out (by simp [coreL]) rfl (.slice none 0 0) rfl rfl (by kernel_rfl) rfl ?_;intro w7 hh7 ht7;have HC7:=qh (show Holds w7 gc 163 (coreL n me gl gi leads (.slice none 0 0) out) from hh7);have HT7:=qh (HT.out.trans ht7);clear hh7 ht7)
  | (refine wpList_store_cell rfl 34 (.tmp 19) (.const (.slice none 0 0)) rfl rfl gc 7 163 (coreL n me gl gi leads (.slice none 0 0) out) HC7.out (by simp [coreL]) rfl (.slice none 0 0) rfl rfl (by kernel_rfl) rfl ?_;intro w8 hh8 ht8;have HC8:=qh (show Holds w8 gc 163 (coreL n me gl gi leads (.slice none 0 0) (.slice none 0 0)) from hh8);have HT8:=qh (HT7.out.trans ht8);clear hh8 ht8))
 refine bodyPost_ret (v:=.tuple #[recs,out]) (by simp [results,Tryz.results159,go_sem]) rfl ?_
 exact⟨rfl,HC8.out,HT8.out⟩
theorem one_any (gc n me gl gi f:Nat) (leads recs out:Value) (w:World) (h:Holds w gc 163 (coreL n me gl gi leads recs out)) (hf:f<n) :
  Calls Tryz.prog 139 #[.pointer (some ⟨gc,0,none⟩),.int .i64 f] w fun e w'=>e=.returned (.bool true)∧Below w.heap.size w w':=by
 have HC:=qh h
 have h1:(f:Int)<n:=by omega
 clear h
 go_enter Tryz.func139,Tryz.ntmps139
 have d0:=HC.out.cell 0
 simp only [coreL,yA,yB] at d0
 go_wp2_with fail
 go_ret
 exact⟨rfl,Below.refl _ _⟩
theorem cells_any (gc n me gl gm nl gi gx ni:Nat) (L:List LEnt) (E:List Ent) (leads recs out:Value) (w:World) (h:CoreAt w gc n me gl gm nl gi gx ni L E leads recs out) (hl:L.length≤1) :
  Calls Tryz.prog 175 #[.pointer (some ⟨gc,0,none⟩)] w fun e w'=>∃ v xs,e=.returned v∧w'.ownsRow w.heap.size 37 2 v L.length xs∧(∀ x∈L,xs=[.int .i64 x.r,.int .i64 x.s])∧Below w.heap.size w w':=by
 have KL:=qh (llist_any gl gm nl L w h.lg hl)
 have HC:=qh h.hc
 clear h
 go_enter Tryz.func175,Tryz.ntmps175
 have d2:=HC.out.cell 2
 simp only [coreL,yA,yB] at d2
 go_wp2_with fail
 refine KL.out.mono ?_
 rintro e w2 ⟨v,xs,rfl,ho,hx,hb⟩
 have HP:=qh (And.intro ho (And.intro hx hb))
 clear ho hx hb KL HC d2
 go_wp2_with fail
 go_ret
 exact⟨v,xs,rfl,HP.out.1,HP.out.2.1,HP.out.2.2⟩
end
end Go.Proofs.YtimdpiifpibgfaaGreatDoor
