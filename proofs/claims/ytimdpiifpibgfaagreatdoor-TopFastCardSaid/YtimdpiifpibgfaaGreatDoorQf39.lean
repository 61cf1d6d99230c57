/- For every input the law TopFast returns true (a part of the proof). Condition: the listed variables start as the program's text lays them. -/
import Derived.Test.YtimdpiifpibgfaaGreatDoorQf38
set_option linter.unusedVariables false
set_option linter.unusedSimpArgs false
set_option maxRecDepth 20000
set_option maxHeartbeats 16000000
namespace Go.Proofs.YtimdpiifpibgfaaGreatDoor
section
open Go.RowKit Go.Maps
theorem index_none (r s:Int) (w:World):Calls Tryz.prog 210 #[.slice none 0 0,.agg #[.int .i64 r,.int .i64 s]] w fun e w'=>e=.returned (.int .i64 (-1))∧Below w.heap.size w w':=by
 go_enter Tryz.func210,Tryz.ntmps210
 go_wp2_with fail
 go_loopw [8] (fun vi wr=>vi=.int .i64 0∧Below w.heap.size w wr) (fun _ _=>0)
 case atStart=>exact⟨rfl,by go_grown⟩
 case round=>
  obtain⟨rfl,hb⟩:=hrel
  have HB:=qh hb
  clear hb
  go_wp2_with fail
  go_ret
  exact⟨rfl,HB.out⟩
theorem contains_none (r s:Int) (w:World):Calls Tryz.prog 130 #[.slice none 0 0,.agg #[.int .i64 r,.int .i64 s]] w fun e w'=>e=.returned (.bool false)∧Below w.heap.size w w':=by
 have KI:=qh (index_none r s)
 go_enter Tryz.func130,Tryz.ntmps130
 go_upto_region 1 with (fail)
 go_name_world W hW
 have hW:allocs w [.cells ([.int .i64 r,.int .i64 s]:List Value).toArray 37]=W:=hW
 have HX:=qh (show Holds W (w.heap.size) 37 ([.int .i64 r,.int .i64 s]) from holds_allocs _ hW 0 rfl)
 have hbW:=below_allocs _ hW
 have hsW:=size_allocs _ hW
 simp only [List.length_cons,List.length_nil] at hsW
 clear hW
 have HB:=qh hbW
 clear hbW
 have x0:=HX.out.cell 0
 have x1:=HX.out.cell 1
 simp only [yA,yB] at x0 x1
 go_wp2_with fail
 refine (KI.out _).mono ?_
 rintro e w1 ⟨rfl,hb⟩
 have HB:=qh (HB.out.trans (hb.mono HB.out.size))
 clear hb x0 x1 HX hsW
 go_wp2_with fail
 go_ret
 exact⟨rfl,HB.out⟩
theorem way_none (g n me gd gw gc gfr:Nat) (cl sq2:Int) (P:Value) (sq v:Int) (d:Nat→Int) (since tk:Int) (waits out ans:Value) (gl gm nl gi gx ni:Nat) (E:List Ent) (leads recs cout:Value) (w:World)
  (nd:Holds w g 102 (nodeL n me gd gw gc gfr P sq v d since tk waits out ans)) (hc:CoreAt w gc n me gl gm nl gi gx ni [] E leads recs cout) :
  Calls Tryz.prog 128 #[.pointer (some ⟨g,0,none⟩),.agg #[.int .i64 cl,.int .i64 sq2]] w fun e w'=>e=.returned (.bool false)∧Below w.heap.size w w':=by
 have KC:=qh (fun W (hc:CoreAt W gc n me gl gm nl gi gx ni [] E leads recs cout)=>cells_any gc n me gl gm nl gi gx ni [] E leads recs cout W hc (by simp))
 have HN:=qh nd;have HC:=qh hc
 have HB:=qh (Base.start w)
 clear nd hc
 go_enter Tryz.func128,Tryz.ntmps128
 go_upto_region 1 with (fail)
 go_name_world W hW
 have hW:allocs w [.cells ([.int .i64 cl,.int .i64 sq2]:List Value).toArray 37]=W:=hW
 have HX:=qh (show Holds W (w.heap.size) 37 ([.int .i64 cl,.int .i64 sq2]) from holds_allocs _ hW 0 rfl)
 have hbW:=below_allocs _ hW
 have hsW:=size_allocs _ hW
 simp only [List.length_cons,List.length_nil] at hsW
 clear hW
 have HN:=qh (HN.out.bel hbW)
 have HC:=qh (HC.out.bel hbW)
 have HB:=qh (HB.out.bel hbW)
 clear hbW hsW HX
 generalize hB0:w.heap.size=B at HB ⊢
 have n4:=HN.out.cell 4
 simp only [nodeL,yA,yB] at n4
 go_wp2_with fail
 refine (KC.out _ HC.out).mono ?_
 rintro e w1 ⟨v1,xs,rfl,ho,hx,hb⟩
 obtain⟨p1,c1,rfl⟩:∃ p c,v1=.slice p 0 c:=by
  obtain⟨ob,h1,_⟩:=OwnS.of ho
  rcases h1.cases with⟨r,_⟩|⟨_,_,_,r,_⟩
  ·exact⟨_,_,r⟩
  ·exact⟨_,_,r⟩
 have HB:=qh (HB.out.bel hb)
 clear ho hx hb KC n4 HN HC
 go_wp2_with fail
 go_loopw [15] (fun vi wr=>vi=.int .i64 0∧w1=wr) (fun _ _=>0)
 case atStart=>exact⟨rfl,rfl⟩
 case round=>
  obtain⟨rfl,rfl⟩:=hrel
  go_wp2_with fail
  go_ret
  exact⟨rfl,hB0▸HB.out.below⟩
def AskBox (w W W1 Wf:World) (b:Nat):Prop:=Below w.heap.size w W∧Touch b W1 Wf∧w.heap.size≤b∧((b<W.heap.size∧∃ L,Holds W b 37 L)∨W1.heap.size≤b)
theorem nask (g n me gd gw gc gfr:Nat) (c:Cm) (P:Value) (v:Int) (d:Nat→Int) (since tk:Int) (out ans:Value) (RP:World→World→Prop) (RQ RS R3:World→Prop) (w:World)
  (nd:Holds w g 102 (nodeL n me gd gw gc gfr P 0 v d since tk (.slice none 0 0) out ans)) (hk:c.k≠0)
  (KR:∀ W,Calls Tryz.prog 70 #[.agg #[.int .i64 c.k,.int .i64 1,.int .i64 1,.string c.a,.string c.b,.string c.o,.string c.v]] W fun e w'=>e=.returned (.bool true)∧Below W.heap.size W w')
  (KW:∀ W,Below w.heap.size w W→Calls Tryz.prog 128 #[.pointer (some ⟨g,0,none⟩),.agg #[.int .i64 1,.int .i64 1]] W fun e w'=>e=.returned (.bool false)∧Below W.heap.size W w')
  (KP:∀ W,Below w.heap.size w W→Calls Tryz.prog 129 #[.pointer (some ⟨gc,0,none⟩),.agg #[.int .i64 c.k,.int .i64 1,.int .i64 1,.string c.a,.string c.b,.string c.o,.string c.v]] W fun e w'=>e=.returned (.tuple #[.agg #[.int .i64 me,.int .i64 1],.bool true])∧RP W w')
  (hI:∀ W W1,RP W W1→W.heap.size≤W1.heap.size∧∀ k L,Holds W k 37 L→Holds W1 k 37 L)
  (hQ:∀ W W1 Wf b,RP W W1→AskBox w W W1 Wf b→RQ Wf∧Holds Wf g 102 (nodeL n me gd gw gc gfr P 0 v d since tk (.slice none 0 0) out ans))
  (hS:∀ Wf Wm Wn v' ob,RQ Wf→w.heap.size≤Wf.heap.size→Below Wf.heap.size Wf Wm→Holds Wn g 102 (nodeL n me gd gw gc gfr P 0 v d since tk v' out ans)→OwnS Wn v' ob 37 2 1 [.int .i64 1,.int .i64 1]→(∀ k,ob=some k→Wf.heap.size≤k)→Touch g Wm Wn→RS Wn)
  (KS:∀ W,RS W→Calls Tryz.prog 53 #[.pointer (some ⟨g,0,none⟩)] W fun e w'=>e=.returned (.tuple #[])∧R3 w') :
  Calls Tryz.prog 71 #[.pointer (some ⟨g,0,none⟩),.agg #[.int .i64 c.k,.int .i64 1,.int .i64 1,.string c.a,.string c.b,.string c.o,.string c.v]] w fun e w'=>e=.returned (.int .i64 0)∧R3 w':=by
 have KR:=qh KR;have KW:=qh KW;have KP:=qh KP;have KS:=qh KS;have hI:=qh hI;have hQ:=qh hQ;have hS:=qh hS
 have KC:=qh (contains_none 1 1)
 have hk0:(c.k==0)=false:=by simp [hk]
 have HN:=qh nd
 have HB:=qh (Base.start w)
 have hgl:=nd.lt
 clear nd hk
 go_enter Tryz.func71,Tryz.ntmps71
 go_upto_region 1 with (fail)
 go_name_world W hW
 have hW:allocs w [.cells ([.int .i64 c.k,.int .i64 1,.int .i64 1,.string c.a,.string c.b,.string c.o,.string c.v]:List Value).toArray 23]=W:=hW
 have HX:=qh (show Holds W (w.heap.size) 23 ([.int .i64 c.k,.int .i64 1,.int .i64 1,.string c.a,.string c.b,.string c.o,.string c.v]) from holds_allocs _ hW 0 rfl)
 have hbW:=below_allocs _ hW
 have hsW:=size_allocs _ hW
 simp only [List.length_cons,List.length_nil] at hsW
 clear hW
 have HN:=qh (HN.out.bel hbW)
 have HB:=qh (HB.out.bel hbW)
 clear hbW
 generalize hB0:w.heap.size=B at HX HB KW KP hQ hS hsW ⊢
 have hgX:B<W.heap.size:=by omega
 have n74:=HN.out.cell 74
 simp only [nodeL,yA,yB] at n74
 have x0:=HX.out.cell 0
 have x1:=HX.out.cell 1
 have x2:=HX.out.cell 2
 have x3:=HX.out.cell 3
 have x4:=HX.out.cell 4
 have x5:=HX.out.cell 5
 have x6:=HX.out.cell 6
 simp only [yA,yB] at x0 x1 x2 x3 x4 x5 x6
 go_wp2_with fail
 refine (KR.out _).mono ?_
 rintro e w1 ⟨rfl,hb⟩
 have HN:=qh (HN.out.bel hb)
 have HX:=qh (HX.out.bel hb)
 have HB:=qh (HB.out.bel hb)
 clear hb n74 x0 x1 x2 x3 x4 x5 x6
 have n7:=HN.out.cell 7
 simp only [nodeL,yA,yB] at n7
 have x0:=HX.out.cell 0
 have x1:=HX.out.cell 1
 have x2:=HX.out.cell 2
 simp only [yA,yB] at x0 x1 x2
 go_upto_region 5 with (fail)
 go_quiet (fail)
 have hb2:Below w1.heap.size w1 (w1.drewN nq):=t_drewN _ _ _
 have HN:=qh (HN.out.bel hb2)
 have HX:=qh (HX.out.bel hb2)
 have HB:=qh (HB.out.bel hb2)
 clear hb2 n7 x0 x1 x2
 generalize w1.drewN nq=w2 at HN HX HB ⊢
 have x0:=HX.out.cell 0
 have x1:=HX.out.cell 1
 have x2:=HX.out.cell 2
 simp only [yA,yB] at x0 x1 x2
 go_upto_region 9 with (first
  | (refine wpList_store_whole rfl 37 (.tmp 6) (.tmp 39) w2.heap.size [.int .i64 0,.int .i64 0] [.int .i64 1,.int .i64 1] rfl rfl rfl rfl (holds_alloc w2 _ _) (by kernel_rfl) rfl (by simp [Value.oneCell']) ?_;intro w3 hh3 ht3))
 have hal:Below w2.heap.size w2 w3:=Below.trans ((Below.refl _ _).alloc (Nat.le_refl _) _) (ht3.below (Nat.le_refl _) (by simp))
 have HI:=qh hh3
 have hBi:B≤w2.heap.size:=HB.out.le
 have HN:=qh (HN.out.bel hal)
 have HX:=qh (HX.out.bel hal)
 have HB:=qh (HB.out.bel hal)
 clear hal hh3 ht3 x0 x1 x2
 generalize w2.heap.size=gI at HI hBi ⊢
 have x2:=HX.out.cell 2
 simp only [yA,yB] at x2
 have i0:=HI.out.cell 0
 have i1:=HI.out.cell 1
 simp only [yA,yB] at i0 i1
 go_wp2_with fail
 refine (KW.out _ HB.out.below).mono ?_
 rintro e w4 ⟨rfl,hb⟩
 have HN:=qh (HN.out.bel hb)
 have HX:=qh (HX.out.bel hb)
 have HB:=qh (HB.out.bel hb)
 have HI:=qh (HI.out.bel hb)
 clear hb x2 i0 i1
 go_upto_region 10 with (fail)
 go_cut [7,8] from 50 to 59 (fun x y wx=>∃ W W1 b,y=.bool true∧RP W W1∧AskBox w W W1 wx b∧Holds wx gI 37 [.int .i64 1,.int .i64 1])
 case first=>
  have HN:=qh (HN.out.bel (t_drew _ w4))
  have HX:=qh (HX.out.bel (t_drew _ w4))
  have HB:=qh (HB.out.bel (t_drew _ w4))
  have HI:=qh (HI.out.bel (t_drew _ w4))
  refine wp_region_noPanic ?_
  refine wp_region_late (S:=fun W'=>Below w4.drew.heap.size w4.drew W') (X0:=[5,10]) (by as_aux_lemma=>kernel_rfl) ?_
  generalize w4.drew=wd at HN HX HB HI ⊢
  have hSn:Below wd.heap.size wd wd:=Below.refl _ _
  change wpAnyL _ _ _ _ _ _ 12 #[false,false,false,false,false,false,false,false,false,false,false,false] _ _
  refine mvA 0 (some 51) (fun _=>hSn) ?_
  simp only [Act.put,zA,zB,zC]
  refine mvA 1 (some 52) (fun _=>hSn) ?_
  simp only [Act.put,zA,zB,zC]
  refine mvA 2 (some 53) (fun _=>hSn) ?_
  simp only [Act.put,zA,zB,zC]
  refine tkA 3 [5,6,7,8,10,11] (some 54) (?vg4) rfl (Or.inl ⟨by rfl,?hg4⟩) hSn ?rg4
  case hg4=>
   intro w hSw
   have b4:=(HN.out.bel hSw).cell 4
   simp only [nodeL,yA,yB] at b4
   go_simp
   try with_reducible rfl
  simp only [Act.put,zA,zB,zC]
  refine tkA 4 [5,6,7,8,10,11] (some 55) (?vg5) rfl (Or.inl ⟨by rfl,?hg5⟩) hSn ?rg5
  case hg5=>
   intro w hSw
   have b0:=(HX.out.bel hSw).cell 0
   have b1:=(HX.out.bel hSw).cell 1
   have b2:=(HX.out.bel hSw).cell 2
   have b3:=(HX.out.bel hSw).cell 3
   have b4:=(HX.out.bel hSw).cell 4
   have b5:=(HX.out.bel hSw).cell 5
   have b6:=(HX.out.bel hSw).cell 6
   simp only [yA,yB] at b0 b1 b2 b3 b4 b5 b6
   go_simp
   try with_reducible rfl
  simp only [Act.put,zA,zB,zC]
  refine rdA [5,9] (AllReadyL.cons rfl (fun K hK=>?_) (AllReadyL.cons rfl (fun K hK=>?_) (AllReadyL.nil)))
  ·skip
   go_simp
   have hSW:=hSn
   refine (KP.out _ (HB.out.bel hSn).below).mono ?_
   rintro e wp ⟨rfl,hrp⟩
   have HRP:=qh hrp
   have hsp:=(hI.out _ _ hrp).1
   try (have HZ1:=qh ((hI.out _ _ hrp).2 _ _ HZ.out))
   have HI1:=qh ((hI.out _ _ hrp).2 _ _ (HI.out.bel hSn))
   clear hrp
   refine hK.out _ _ nlA ?_
   clear hK
   try simp only [Act.put,zA,zB,zC]
   refine mvA 6 (some 50) nlA ?_
   simp only [Act.put,zA,zB,zC]
   refine mvA 7 (some 57) nlA ?_
   simp only [Act.put,zA,zB,zC]
   refine mvA 8 (some 58) nlA ?_
   simp only [Act.put,zA,zB,zC]
   refine rd1 9 rfl (fun K hK=>?_)
   go_simp
   have hal:=fun o=>Below.alloc hSn hSn.size o
   first|(refine hK.out _ _ (fun _=>hal _) ?_;have hSn:=hal (.cells #[.int .i64 0,.int .i64 0] 37);have HZ:=qh (holds_alloc wd 37 [.int .i64 0,.int .i64 0]);change wpAnyL _ _ _ _ _ _ _ _ _ (wd.alloc (.cells #[.int .i64 0,.int .i64 0] 37));generalize hwc:wd.alloc (.cells #[.int .i64 0,.int .i64 0] 37)=wc at hSn HZ ⊢;have hgb:wd.heap.size<wc.heap.size:=HZ.out.lt)|(refine hK.out _ _ nlA ?_;have HZ1:=qh (holds_alloc wp 37 [.int .i64 0,.int .i64 0]);have hbal:=(Below.refl wp.heap.size wp).alloc (Nat.le_refl _) (.cells #[.int .i64 0,.int .i64 0] 37);change wpAnyL _ _ _ _ _ _ _ _ _ (wp.alloc (.cells #[.int .i64 0,.int .i64 0] 37));generalize hwc:wp.alloc (.cells #[.int .i64 0,.int .i64 0] 37)=wc at HZ1 hbal ⊢)
   clear hK
   try simp only [Act.put,zA,zB,zC]
   refine rd1 10 rfl (fun K hK=>?_)
   refine step_store_box rfl 37 (.tmp 7) (.tmp 57) _ [.int .i64 0,.int .i64 0] [.int .i64 me,.int .i64 1] rfl rfl rfl rfl HZ1.out (by kernel_rfl) rfl (by simp [Value.oneCell']) ?_
   intro wf hhf htf
   refine hK.out _ _ nlA ?_
   clear hK
   try simp only [Act.put,zA,zB,zC]
   refine mvA 11 (some 8) nlA ?_
   simp only [Act.put,zA,zB,zC]
   refine dnA (NoPanic.normal ?_)
   go_wp2_with fail
   go_meet
   subst hB0
   have hle:=HB.out.le
   have hgi:=HI.out.lt
   first|exact⟨wd,wp,wp.heap.size,rfl,HRP.out,⟨HB.out.below,(Touch.bel (Touch.refl _ wp) hbal).trans htf,by omega,.inr (Nat.le_refl _)⟩,(HI1.out.bel hbal).touch htf (by omega)⟩|exact⟨wc,wp,wd.heap.size,rfl,HRP.out,⟨(HB.out.bel hSW).below,htf,hle,.inl ⟨hgb,_,HZ.out⟩⟩,HI1.out.touch htf (by omega)⟩
  ·skip
   go_simp
   have hal:=fun o=>Below.alloc hSn hSn.size o
   first|(refine hK.out _ _ (fun _=>hal _) ?_;have hSn:=hal (.cells #[.int .i64 0,.int .i64 0] 37);have HZ:=qh (holds_alloc wd 37 [.int .i64 0,.int .i64 0]);change wpAnyL _ _ _ _ _ _ _ _ _ (wd.alloc (.cells #[.int .i64 0,.int .i64 0] 37));generalize hwc:wd.alloc (.cells #[.int .i64 0,.int .i64 0] 37)=wc at hSn HZ ⊢;have hgb:wd.heap.size<wc.heap.size:=HZ.out.lt)|(refine hK.out _ _ nlA ?_;have HZ1:=qh (holds_alloc wp 37 [.int .i64 0,.int .i64 0]);have hbal:=(Below.refl wp.heap.size wp).alloc (Nat.le_refl _) (.cells #[.int .i64 0,.int .i64 0] 37);change wpAnyL _ _ _ _ _ _ _ _ _ (wp.alloc (.cells #[.int .i64 0,.int .i64 0] 37));generalize hwc:wp.alloc (.cells #[.int .i64 0,.int .i64 0] 37)=wc at HZ1 hbal ⊢)
   clear hK
   try simp only [Act.put,zA,zB,zC]
   refine rd1 5 rfl (fun K hK=>?_)
   go_simp
   have hSW:=hSn
   refine (KP.out _ (HB.out.bel hSn).below).mono ?_
   rintro e wp ⟨rfl,hrp⟩
   have HRP:=qh hrp
   have hsp:=(hI.out _ _ hrp).1
   try (have HZ1:=qh ((hI.out _ _ hrp).2 _ _ HZ.out))
   have HI1:=qh ((hI.out _ _ hrp).2 _ _ (HI.out.bel hSn))
   clear hrp
   refine hK.out _ _ nlA ?_
   clear hK
   try simp only [Act.put,zA,zB,zC]
   refine mvA 6 (some 50) nlA ?_
   simp only [Act.put,zA,zB,zC]
   refine mvA 7 (some 57) nlA ?_
   simp only [Act.put,zA,zB,zC]
   refine mvA 8 (some 58) nlA ?_
   simp only [Act.put,zA,zB,zC]
   refine rd1 10 rfl (fun K hK=>?_)
   refine step_store_box rfl 37 (.tmp 7) (.tmp 57) _ [.int .i64 0,.int .i64 0] [.int .i64 me,.int .i64 1] rfl rfl rfl rfl HZ1.out (by kernel_rfl) rfl (by simp [Value.oneCell']) ?_
   intro wf hhf htf
   refine hK.out _ _ nlA ?_
   clear hK
   try simp only [Act.put,zA,zB,zC]
   refine mvA 11 (some 8) nlA ?_
   simp only [Act.put,zA,zB,zC]
   refine dnA (NoPanic.normal ?_)
   go_wp2_with fail
   go_meet
   subst hB0
   have hle:=HB.out.le
   have hgi:=HI.out.lt
   first|exact⟨wd,wp,wp.heap.size,rfl,HRP.out,⟨HB.out.below,(Touch.bel (Touch.refl _ wp) hbal).trans htf,by omega,.inr (Nat.le_refl _)⟩,(HI1.out.bel hbal).touch htf (by omega)⟩|exact⟨wc,wp,wd.heap.size,rfl,HRP.out,⟨(HB.out.bel hSW).below,htf,hle,.inl ⟨hgb,_,HZ.out⟩⟩,HI1.out.touch htf (by omega)⟩
 case rest=>
  obtain⟨W,W1,b,rfl,hrp,hab,hi⟩:=hcut
  obtain⟨hrq,hn⟩:=hQ.out W W1 wc b hrp hab
  have hwc:w.heap.size≤wc.heap.size:=Nat.le_trans hab.1.size (Nat.le_trans (hI.out _ _ hrp).1 hab.2.1.size)
  have HRQ:=qh hrq;have HN:=qh hn;have HI:=qh hi
  have HB1:=qh (Base.start wc)
  have hgc:g<wc.heap.size:=hn.lt
  clear hrq hn hi hrp hab hQ hI HX HB KP KW KR
  have n71:=fun d os=>HN.out.grown d os 71
  have i0:=fun d os=>HI.out.grown d os 0
  have i1:=fun d os=>HI.out.grown d os 1
  simp only [nodeL,yA,yB] at n71 i0 i1
  go_upto_region 13 with (fail)
  refine wp_region_quiet_below (by kernel_rfl) (by kernel_rfl) ?_
  repeat go_big_quiet_step (first
   | (go_at_call 130;with_reducible exact calls_regrown fun W _=>KC.out W))
  refine wpQuiet_nil ?_
  intro w5 hw'
  have hb5:=below_of_regrown hw'
  have HN:=qh (HN.out.bel hb5)
  have HI:=qh (HI.out.bel hb5)
  have HB1:=qh (HB1.out.bel hb5)
  clear hw' hb5 n71 i0 i1 KC
  go_upto_region 14 with (fail)
  have HN:=qh (HN.out.bel (t_drew _ w5))
  have HI:=qh (HI.out.bel (t_drew _ w5))
  have HB1:=qh (HB1.out.bel (t_drew _ w5))
  refine wp_region_noPanic ?_
  refine wp_region_late (S:=fun W'=>Below w5.drew.heap.size w5.drew W') (X0:=[7,10]) (by as_aux_lemma=>kernel_rfl) ?_
  generalize w5.drew=wd at HN HI HB1 ⊢
  have hSn:Below wd.heap.size wd wd:=Below.refl _ _
  change wpAnyL _ _ _ _ _ _ 11 #[false,false,false,false,false,false,false,false,false,false,false] _ _
  refine mvA 0 (some 68) (fun _=>hSn) ?_
  simp only [Act.put,zA,zB,zC]
  refine mvA 1 (some 69) (fun _=>hSn) ?_
  simp only [Act.put,zA,zB,zC]
  refine mvA 2 (some 70) (fun _=>hSn) ?_
  simp only [Act.put,zA,zB,zC]
  refine mvA 3 (some 71) (fun _=>hSn) ?_
  simp only [Act.put,zA,zB,zC]
  refine tkA 4 [7,8,9,10] (some 72) (?vg18) rfl (Or.inl ⟨by rfl,?hg18⟩) hSn ?rg18
  case hg18=>
   intro w hSw
   have b71:=(HN.out.bel hSw).cell 71
   simp only [nodeL,yA,yB] at b71
   go_simp
   try with_reducible rfl
  simp only [Act.put,zA,zB,zC]
  refine tkA 5 [6,7,8,9,10] (some 73) (?vg19) rfl (Or.inl ⟨by rfl,?hg19⟩) hSn ?rg19
  case hg19=>
   intro w hSw
   have b0:=(HI.out.bel hSw).cell 0
   have b1:=(HI.out.bel hSw).cell 1
   simp only [yA,yB] at b0 b1
   go_simp
   try with_reducible rfl
  simp only [Act.put,zA,zB,zC]
  refine rd1 6 rfl (fun K hK=>?_)
  refine step_build1 rfl 99 37 (.agg #[.int .i64 1,.int .i64 1]) [.int .i64 1,.int .i64 1] rfl rfl rfl (fun w=>by kernel_rfl) ?_
  intro wa hna hba
  have hSn:=below_next hSn hba
  have HNA:=qh hna
  generalize wd.heap.size=gn at HNA ⊢
  have HN:=qh (HN.out.bel hSn)
  have HB1:=qh (HB1.out.bel hSn)
  clear hna hba
  change K (Act.put _ (some 74) _) _
  refine hK.out _ _ (fun _=>hSn) ?_
  clear hK
  try simp only [Act.put,zA,zB,zC]
  refine rd1 7 rfl (fun K hK=>?_)
  refine step_append_s rfl (.tmp 72) (.tmp 74) 99 rfl 37 (.agg #[.int .i64 0,.int .i64 0]) 2 16 rfl (by kernel_rfl) rfl (by decide) _ none 0 [] rfl (OwnS.nil _ _ _) _ 1 1 [.int .i64 1,.int .i64 1] rfl rfl (HNA.out.reads 0 _ (fun j v hv=>by rw [Nat.zero_add];exact hv)) (by decide) instL_one (by unfold maxLen;omega) (by omega) ?_
  intro v9 ob9 w9 ho9 hob9 hm9
  have hgla:=HB1.out.le
  have HO9:=qh (show OwnS w9 v9 ob9 37 2 1 [.int .i64 1,.int .i64 1] from ho9)
  have HN9:=qh (HN.out.mv hm9 (fun h=>(by cases h)))
  have HB9:=qh (HB1.out.mv hm9 (fun k hk=>by cases hk))
  have hob8:∀ k,ob9=some k→wc.heap.size≤k:=(fun k hk=>by rcases hob9 with h|⟨k2,h,h2⟩<;>rw [h] at hk<;>cases hk;omega)
  clear ho9 hob9 hm9
  change K (Act.put _ (some 75) _) _
  refine hK.out _ _ nlA ?_
  clear hK
  try simp only [Act.put,zA,zB,zC]
  refine mvA 8 (some 76) nlA ?_
  simp only [Act.put,zA,zB,zC]
  refine mvA 9 (some 77) nlA ?_
  simp only [Act.put,zA,zB,zC]
  refine rd1 10 rfl (fun K hK=>?_)
  refine step_store_cell rfl 99 (.tmp 77) (.tmp 75) rfl rfl g 71 102 _ HN9.out (by simp [nodeL]) rfl v9 rfl (by rcases HO9.out.cases with⟨r,_⟩|⟨_,_,_,r,_⟩<;>rw [r]<;>rfl) (by kernel_rfl) (by rcases HO9.out.cases with⟨r,_⟩|⟨_,_,_,r,_⟩<;>rw [r]<;>rfl) ?_
  intro w10 hh10 ht10
  have HRS:=qh (hS.out wc _ w10 v9 ob9 HRQ.out (hB0▸hwc) HB9.out.below (show Holds w10 g 102 (nodeL n me gd gw gc gfr P 0 v d since tk v9 out ans) from hh10) (HO9.out.touch ht10 (fun k hk=>by have:=hob8 k hk;omega)) hob8 ht10)
  clear hh10 ht10
  refine hK.out _ _ nlA ?_
  clear hK
  try simp only [Act.put,zA,zB,zC]
  refine dnA (NoPanic.normal ?_)
  clear hSn HN HI HB1 HN9 HO9 HB9 HNA HRQ
  go_wp2_with fail
  refine (KS.out _ HRS.out).mono ?_
  rintro e w6 ⟨rfl,h2⟩
  have H2:=qh h2
  clear h2 HRS
  go_wp2_with fail
  go_ret
  exact⟨rfl,H2.out⟩
end
section
open Go.RowKit Go.Maps
theorem Cm.one_cells (c:Cm) (h1:c.c=1) (h2:c.s=1):(Value.agg #[.int .i64 c.k,.int .i64 c.c,.int .i64 c.s,.string c.a,.string c.b,.string c.o,.string c.v])=.agg #[.int .i64 c.k,.int .i64 1,.int .i64 1,.string c.a,.string c.b,.string c.o,.string c.v]:=by rw [h1,h2]
theorem core_propose {w:World} {F:Foot} {gc n me q:Nat} {c:Cm} (h:CoreSt w F gc n me q c .fresh (.slice none 0 0) (.slice none 0 0)) (hqm:q=me) (hme:me<n) (hn3:3≤n) (hn:n≤7) (hc:CmOk c) :
  Calls Tryz.prog 129 #[.pointer (some ⟨gc,0,none⟩),.agg #[.int .i64 c.k,.int .i64 c.c,.int .i64 c.s,.string c.a,.string c.b,.string c.o,.string c.v]] w fun e w'=>e=.returned (.tuple #[.agg #[.int .i64 me,.int .i64 1],.bool true]) ∧
   ∃ recs cout,CoreSt w' (grow F w w') gc n me q c (.lead [] 0) recs cout∧RecS w' w.heap.size 1 recs∧LetS w' (grow F w w') cout (n-1) (outV 1 me me c)∧Mv (CoreFt w F) w w':=by
 obtain⟨⟨gl,gm,nl,gi,gx,ni,L,E,leads,a1,a2,a3,⟨b1,b2,b3,b4⟩,rfl,rfl,rfl⟩,hfc⟩:=h
 have n0:nl=0:=Nat.le_zero.1 a2
 have n1:ni=0:=Nat.le_zero.1 a3
 subst n0 n1 hqm
 refine (propose_new gc n q gl gm 0 gi gx 0 c w a1 (by omega) (by omega) hn hme hc).mono ?_
 rintro e w' ⟨gb,cb,gld,gr,cr,m,rest,rest2,rv,out,ob,rfl,c1,c2,c3,c4,c5,c6,c7,c8,c9,⟨d1,d2,d3,_⟩,c10⟩
 have hs:=c10.size
 refine⟨rfl,_,out,⟨⟨gl,gm,1,gi,gx,1,_,_,_,c1,by simp [bnd],by simp [bnd],⟨.inl b1,.inl b2,.inl b3,.inl b4⟩,rfl,rfl,gb,cb,gld,rest,.slice none 0 0,none,rfl,c3,c2,?_,?_,.inr ⟨d1,c2.lt⟩,.inr ⟨d2,c4.lt⟩,by simp⟩,.inl hfc⟩,.inr ⟨rfl,gr,cr,m,rv,rest2,rfl,c5,c6,c7,d3⟩,⟨fun h=>(by omega),ob,c8,fun g hg=>.inr ⟨c9 g hg,c8.lt g hg⟩⟩,c10.more ?_⟩
 ·have:ansOf []=fun _=>0:=by funext r;simp [ansOf]
  rw [this]
  exact c4
 ·exact OwnS.nil _ _ _
 ·rintro k (rfl|rfl|rfl)
  ·exact .of hfc a1.hc (by decide)
  ·exact .map b2 a1.lg.isMap
  ·exact .map b4 a1.ix.isMap
theorem RecS.mvt {w w':World} {F:Foot} {B r:Nat} {recs:Value} (h:RecS w B r recs) (hm:Mv F w w') (h1:∀ k L,F k→¬ Holds w k 5 L) (h2:∀ k L,F k→¬ Holds w k 127 L):RecS w' B r recs:=by
 rcases h with h|⟨rfl,gr,cr,m,rv,rest,rfl,a1,a2,a3,a4⟩
 ·exact .inl h
 ·exact .inr ⟨rfl,gr,cr,m,rv,rest,rfl,a1.mv hm fun hf=>h2 _ _ hf a1,a2.mvt hm h1,a3,a4⟩
theorem RecS.bel {w w':World} {B r:Nat} {recs:Value} (h:RecS w B r recs) (hb:Below w.heap.size w w'):RecS w' B r recs:=h.mvt (F:=fun _=>False) (.of_below hb) (fun _ _ h=>h.elim) (fun _ _ h=>h.elim)
theorem LetS.bel {w w':World} {F:Foot} {out:Value} {m:Nat} {V:Nat→List Value} (h:LetS w F out m V) (hb:Below w.heap.size w w'):LetS w' F out m V:=h.mv (G:=fun _=>False) (T:=[47]) (.of_below hb) (fun _ h=>h.elim) (by decide)
theorem LetS.foot {w:World} {F F':Foot} {out:Value} {m:Nat} {V:Nat→List Value} (h:LetS w F out m V) (hF:∀ k,F k→k<w.heap.size→F' k):LetS w F' out m V:=by
 obtain⟨h0,ob,h1,h2⟩:=h
 exact⟨h0,ob,h1,fun g hg=>hF g (h2 g hg) (h1.lt g hg)⟩
theorem NodeC.foot {w:World} {F F':Foot} {g n me q:Nat} {c:Cm} {ph:Ph} {out:List Lt} {an:Bool} {tk:Nat} (h:NodeC w F g n me q c ph out an tk) (hF:∀ k,F k→k<w.heap.size→F' k):NodeC w F' g n me q c ph out an tk:=by
 obtain⟨tt,htt,h⟩:=h
 exact⟨tt,htt,h.foot hF⟩
theorem node_ask0 (w:World) (F:Foot) (g n q:Nat) (c:Cm) (tk:Nat) (h:NodeC w F g n q q c .fresh [] false tk) (hFw:∀ k,F k→k<w.heap.size) (hn3:3≤n) (hn:n≤7) (hq:q<n) (hc:CmOk c) (hk:c.k≠0) (h1:c.c=1) (h2:c.s=1) :
  Calls Tryz.prog 71 #[.pointer (some ⟨g,0,none⟩),.agg #[.int .i64 c.k,.int .i64 c.c,.int .i64 c.s,.string c.a,.string c.b,.string c.o,.string c.v]] w fun e w'=>e=.returned (.int .i64 0)∧NodeC w' (grow F w w') g n q q c (.lead [] 0) (sendAll 1 n q) false tk∧Mv F w w':=by
 obtain⟨tt,htt,gd,gfl,gby,mb,gw,gc,gfr,kept,P,sq,v,d,since,waits,out0,ans,h⟩:=h
 have nd:=h.nd
 have co:=h.co
 obtain rfl:out0=.slice none 0 0:=h.ou.1 rfl
 obtain rfl:ans=.slice none 0 0:=h.an
 obtain rfl:waits=.slice none 0 0:=h.wa
 obtain rfl:sq=0:=h.st.2.1
 have hlen:(sendAll 1 n q).length=n-1:=by simp [sendAll,othersOf]
 rw [c.one_cells h1 h2]
 refine (nask g n q gd gw gc gfr c P v d since tt (.slice none 0 0) (.slice none 0 0)
  (fun W W1=>∃ recs cout,CoreSt W1 (grow F W W1) gc n q q c (.lead [] 0) recs cout∧RecS W1 W.heap.size 1 recs∧LetS W1 (grow F W W1) cout (n-1) (letV c q (sendAll 1 n q))∧Mv (CoreFt W F) W W1)
  (fun Wf=>∃ W W1 recs cout,w.heap.size≤W.heap.size∧W.heap.size≤W1.heap.size∧W1.heap.size≤Wf.heap.size∧NodeI Wf (grow F W W1) g n q q c (.lead [] 0) recs cout false false 0 (letV c q []) false tt 300 gd gfl gby mb gw gc gfr kept P 0 v d since (.slice none 0 0) (.slice none 0 0) (.slice none 0 0)∧RecS Wf W.heap.size 1 recs∧LetS Wf (grow F W W1) cout (n-1) (letV c q (sendAll 1 n q))∧Mv F w Wf)
  (fun Wn=>∃ W recs cout,w.heap.size≤W.heap.size∧W.heap.size≤Wn.heap.size∧Mv F w Wn∧NodeG Wn (grow F W Wn) g n q q c (.lead [] 0) recs cout false true 0 (letV c q []) false tt 300∧RecS Wn W.heap.size 1 recs∧LetS Wn (grow F W Wn) cout (n-1) (letV c q (sendAll 1 n q)))
  (fun w'=>NodeG w' (grow F w w') g n q q c (.lead [] 0) (.slice none 0 0) (.slice none 0 0) false true (n-1) (letV c q (sendAll 1 n q)) false tt (300+500*1)∧Mv F w w') w nd hk ?_ ?_ ?_ ?_ ?_ ?_ ?_).mono ?_
 ·intro W
  have:=right_cmd c.k c.c c.s c.a c.b c.o c.v W
  rw [hc.right,c.one_cells h1 h2] at this
  exact this
 ·intro W hb
  obtain⟨⟨gl,gm,nl,gi,gx,ni,L,E,leads,a1,a2,a3,a4,rfl,rfl,rfl⟩,hfc⟩:=co
  exact way_none g n q gd gw gc gfr 1 1 P 0 v d since tt _ _ _ gl gm nl gi gx ni [] _ _ _ W (nd.bel hb) (a1.bel hb)
 ·intro W hb
  have:=core_propose (co.bel hb) rfl hq hn3 hn hc
  rw [c.one_cells h1 h2] at this
  refine this.mono ?_
  rintro e w' ⟨rfl,recs,cout,c1,c2,c3,c4⟩
  refine⟨rfl,recs,cout,c1,c2,c3.cong fun i hi=>?_,c4⟩
  have:(sendAll 1 n q).getD i (0,0,0)=(1,q,if i<q then i else i+1):=by
   simp [sendAll,othersOf,List.getD_eq_getElem?_getD,hi]
  unfold letV letC outV
  rw [this]
  rfl
 ·rintro W W1 ⟨recs,cout,c1,c2,c3,c4⟩
  refine⟨c4.size,fun k L hL=>hL.mv c4 fun hf=>?_⟩
  rcases hf.2 with⟨t,L',h',ht⟩|hmap
  ·exact absurd (holds_type hL h'▸ht) (by decide)
  ·exact ownsMap_ne hmap hL rfl
 ·rintro W W1 Wf b ⟨recs,cout,c1,c2,c3,c4⟩ ⟨hb,htf,hbw,hbb⟩
  have hI1:=((h.bel hb).foot (F':=grow F W W1) fun k hk _=>.inl hk).coreG c4 (fun k hk _=>hk.2) c1
  have hmf:Mv (fun k=>k=b) W1 Wf:=Mv.of_touch htf rfl
  have hnb:¬ grow F W W1 b:=by
   rintro (hf|⟨h3,h4⟩)
   ·have:=hFw b hf
    omega
   ·rcases hbb with⟨h5,_⟩|h5<;>omega
  have hty:∀ t L,t≠37→¬ Holds W1 b t L:=by
   intro t L ht hL
   rcases hbb with⟨h5,L5,h6⟩|h5
   ·have h7:Holds W1 b 37 L5:=h6.mv c4 fun hf=>by
     have:=hFw b hf.1
     omega
    exact ht (holds_type hL h7)
   ·have:=hL.lt
    omega
  have hI2:=hI1.mv hmf (fun k hk _=>hk▸hnb)
  exact⟨⟨W,W1,recs,cout,hb.size,c4.size,hmf.size,hI2,c2.mvt hmf (fun k L hk=>hk▸hty _ L (by decide)) (fun k L hk=>hk▸hty _ L (by decide)),c3.mv (T:=[47]) hmf (fun k hk _=>.inl (.inl (hk▸hnb))) (by decide),(mv_core hb c4).mv hmf fun k hk=>.inr (hk▸hbw)⟩,hI2.nd⟩
 ·rintro Wf Wm Wn v' ob ⟨W,W1,recs,cout,s1,s2,s3,hI,hR,hL,hM⟩ _ hb hn' ho hob ht
  have hm:Mv (fun k=>k=g) Wm Wn:=Mv.of_touch ht rfl
  have hs4:=hb.size
  have hs5:=hm.size
  have hF:∀ k,grow F W W1 k→k<Wm.heap.size→grow F W Wn k:=fun k hk _=>hk.imp id fun ⟨a,b⟩=>⟨a,by omega⟩
  have hI2:=(hI.bel hb).foot hF
  have hty:∀ t L,t≠102→¬ Holds Wm g t L:=fun t L ht hL=>ht (holds_type hL hI2.nd)
  exact⟨W,recs,cout,s1,by omega,(hM.bel hb).mv hm fun k hk=>.inl (hk▸h.f.1),⟨gd,gfl,gby,mb,gw,gc,gfr,kept,P,0,v,d,since,v',_,_,hI2.touchG hm hn' (hI2.st.touchG hI2.nd hm) ⟨ob,ho,fun k hk=>.inr ⟨by have:=hob k hk;omega,ho.lt k hk⟩⟩ (hI2.ou.touchG hI2.nd hm) (hI2.an.touchG hI2.nd hm)⟩,(hR.bel hb).mvt hm (fun k L hk=>hk▸hty _ L (by decide)) (fun k L hk=>hk▸hty _ L (by decide)),((hL.bel hb).foot hF).touchG hI2.nd hm⟩
 ·rintro W1 ⟨W,recs,cout,r1,r2,r3,r4,r5,r6⟩
  exact settle_after w W W1 F g n q q c _ recs cout false true tt 300 1 (n-1) _ _ r1 r2 r3 r4 r5 r6 (by omega) (by omega) (letV_one c q _ _) (by omega) (by simp) (by omega) hq hc h1 h2
 ·rintro e w' ⟨rfl,hn',hm'⟩
  exact⟨rfl,⟨tt,htt,by rw [hlen];exact hn'⟩,hm'⟩
end
end Go.Proofs.YtimdpiifpibgfaaGreatDoor
