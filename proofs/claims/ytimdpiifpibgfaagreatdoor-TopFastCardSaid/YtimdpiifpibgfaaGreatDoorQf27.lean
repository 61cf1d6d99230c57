/- For every input the law TopFast returns true (a part of the proof). Condition: the listed variables start as the program's text lays them. -/
import Derived.Test.YtimdpiifpibgfaaGreatDoorQf26
set_option linter.unusedVariables false
set_option linter.unusedSimpArgs false
set_option maxRecDepth 20000
set_option maxHeartbeats 16000000
namespace Go.Proofs.YtimdpiifpibgfaaGreatDoor
section
open Go.RowKit Go.Maps
theorem grown_none {w w':World} (h:Below w.heap.size w w'):w.grownBy w' none:=⟨h.os,h.tape,h.output,h.size,fun k hk _=>h.block k hk⟩
theorem PlanAt.bel {w w':World} {g b n:Nat} {d:Nat→Int} {O:Value} {l:List LEnt} (h:PlanAt w g b n d O l) (hb:Below w.heap.size w w'):PlanAt w' g b n d O l:=h.below hb
theorem beyond_no (g b n:Nat) (d:Nat→Int) (O:Value) (l:List LEnt) (q t:Int) (w:World) (h:PlanAt w g b n d O l) (hno:∀ e∈l,¬ (e.r=q∧t<e.s)) :
  Calls Tryz.prog 274 #[.pointer (some ⟨g,0,none⟩),.agg #[.int .i64 q,.int .i64 t]] w fun e w'=>e=.returned (.bool false)∧Below w.heap.size w w':=by
 have HI:=qh h
 have HNO:=qh hno
 clear hno h
 go_enter Tryz.func274,Tryz.ntmps274
 go_upto_region 1 with (fail)
 go_name_world W hW
 have hW:allocs w [.cells ([.int .i64 q,.int .i64 t]:List Value).toArray 37]=W:=hW
 have HX:=qh (show Holds W (w.heap.size) 37 ([.int .i64 q,.int .i64 t]) from holds_allocs _ hW 0 rfl)
 have hbW:=below_allocs _ hW
 have hsW:=size_allocs _ hW
 simp only [List.length_cons,List.length_nil] at hsW
 clear hW
 have HB:=qh (Base.start w)
 have HB:=qh (HB.out.bel hbW)
 have HI:=qh (HI.out.bel hbW)
 clear hbW hsW
 have hBW:w.heap.size<W.heap.size:=HX.out.lt
 generalize hB0:w.heap.size=B at HX HB hBW ⊢
 obtain⟨D,hown,hl⟩:=HI.out.map
 have HL:=qh hl;clear hl
 have m0:=HI.out.ix.cell 7
 simp only [cutL,List.cons_append,List.nil_append,yA,yB] at m0
 have HWF:=qh HI.out.wf
 have HBL:=qh HI.out.lt.2
 go_wp2_with (first
  | (at_range;refine wpList_range_own _ rfl _ 246 rfl 37 45 keyLaw Tryz.underlying246 readN b n D rfl hown ?_;intro w0 hrg0 hg0 hs0)
  | fail)
 go_frame
 have hb0:Below W.heap.size W w0:=⟨hg0.os,hg0.tape,hg0.output,hg0.size,fun k hk=>hg0.block k hk (by simp)⟩
 have HX:=qh (HX.out.bel hb0)
 have HB:=qh (HB.out.bel hb0)
 have HRG:=qh hrg0
 clear hrg0 hg0 hs0 hown m0 hb0 HI
 have hRl:=HBL.out
 generalize W.heap.size=R at HRG hRl hBW ⊢
 go_loopw [] (fun wr=>∃ (left:Lit→Bool) (cnt:Nat),wr.ranges Tryz.prog 37 readN b R n D left cnt∧Holds wr B 37 [.int .i64 q,.int .i64 t]∧Base B w wr) (fun wr=>wr.rangeLeft b R)
 case atStart=>exact⟨_,_,HRG.out,HX.out,HB.out⟩
 case round=>
  clear HRG HB HX
  obtain⟨left,cnt,hrg,hx,hb⟩:=hrel
  have HB:=qh hb;have HX:=qh hx
  clear hb hx
  go_wp2_with (first
   | (at_next;refine wpList_next_ranges _ rfl _ rfl 37 keyLaw readN (fun p:Int × Int=>instV p.1 p.2) (fun v:Value=>v) (fun key kl hk=>by obtain⟨r,s,rfl,_⟩:=key_inv hk;exact⟨(r,s),rfl⟩) (fun v y _=>⟨v,rfl⟩) b R n D _ _ rfl hrg ?_ ?_)
   | fail)
  ·intro hc0 hl0
   clear hrg hl0 hc0
   go_wp2_with fail
   go_ret
   exact⟨rfl,hB0▸HB.out.below⟩
  ·intro pr ps cv kl yd yp w1 cnt1 hkey hlk hR hat hrg1 hlt hg1 hs1 hen
   have hy:yd=.held cv:=by
    unfold readN at hR
    injection hR with hR
    injection hR with hR _
    exact hR.symm
   rw [hy] at hat
   obtain⟨e,he,hek⟩:=has_one HL.out HWF.out hat
   have hpe:pr=e.r∧ps=e.s:=by
    have hw:=HWF.out e he
    rw [← hek] at hkey
    have:=keyLaw.inj hkey (key_inst e.r e.s hw.1 hw.2)
    simp only [instV,Value.agg.injEq,Array.mk.injEq,List.cons.injEq,Value.int.injEq,true_and,and_true] at this
    exact this
   obtain⟨h1,h2⟩:=hpe
   subst h1;subst h2;subst hek
   have hno:=HNO.out e he
   have hneR:B≠R:=by omega
   have ht1:=touch_of_grownBy hg1
   have HX:=qh (HX.out.touch ht1 hneR)
   have HB:=qh (HB.out.touch ht1 (by omega))
   have HRG:=qh hrg1
   have HLT:=qh hlt;have HL0:=qh hrg.left_eq
   clear hrg1 hrg hlt hg1 hs1 hR hy hat hkey hlk he ht1
   simp only [instV] at hen ⊢
   go_upto_region 4 with (fail)
   go_name_world W2 hW2
   have hW2:allocs w1 [.cells ([.int .i64 e.r,.int .i64 e.s]:List Value).toArray 37]=W2:=hW2
   have HI:=qh (show Holds W2 (w1.heap.size) 37 ([.int .i64 e.r,.int .i64 e.s]) from holds_allocs _ hW2 0 rfl)
   have hbW2:=below_allocs _ hW2
   have hsW2:=size_allocs _ hW2
   simp only [List.length_cons,List.length_nil] at hsW2
   clear hW2
   have HX:=qh (HX.out.bel hbW2)
   have HB:=qh (HB.out.bel hbW2)
   have HRG:=qh (HRG.out.kept (grown_none hbW2) (by simp) (by simp))
   clear hbW2 hsW2 hen
   have x0:=HX.out.cell 0
   have x1:=HX.out.cell 1
   simp only [yA,yB] at x0 x1
   have i0:=HI.out.cell 0
   have i1:=HI.out.cell 1
   simp only [yA,yB] at i0 i1
   by_cases hq:e.r=q
   ·have hts:¬ t<e.s:=fun hc=>hno ⟨hq,hc⟩
    have hq2:(e.r==q)=true:=by simp [hq]
    clear hq hno
    go_wp2_with fail
    clear x0 x1 i0 i1 hq2
    go_roundw
    case rel=>exact⟨_,_,HRG.out,HX.out,HB.out⟩
    case measure=>rw [HRG.out.left_eq,HL0.out];exact HLT.out
   ·have hq2:(e.r==q)=false:=by simp [hq]
    clear hq hno
    go_wp2_with fail
    clear x0 x1 i0 i1 hq2
    go_roundw
    case rel=>exact⟨_,_,HRG.out,HX.out,HB.out⟩
    case measure=>rw [HRG.out.left_eq,HL0.out];exact HLT.out
end
section
open Go.RowKit Go.Maps
theorem cutD_at (d:Nat→Int) (m:Nat) (hm:m<7) (x y:Value):(cutL d++[x,y])[m]?=some (.int .i64 (d m)):=by
 rcases (show m=0∨m=1∨m=2∨m=3∨m=4∨m=5∨m=6 by omega) with rfl|rfl|rfl|rfl|rfl|rfl|rfl<;>rfl
theorem PlanAt.dcell {w:World} {g b n:Nat} {d:Nat→Int} {O:Value} {l:List LEnt} (h:PlanAt w g b n d O l) (j:Nat) (hj:j<7):w.cell? ⟨g,j,none⟩=some (.int .i64 (d j)):=(h.ix.cell j).trans (cutD_at d j hj _ _)
theorem NoneAt.bel {w w':World} {s b:Nat} (h:NoneAt w s b) (hb:Below w.heap.size w w'):NoneAt w' s b:=h.below hb
theorem round_none (g b n:Nat) (d:Nat→Int) (O:Value) (l:List LEnt) (w:World) (h:PlanAt w g b n d O l) (hd:∀ r,r<7→d r=0∨d r=1) (hno:∀ r:Nat,r<7→hasL l r (d r+1)=false) (hbe:∀ r:Nat,r<7→∀ e∈l,¬ (e.r=r∧d r+1<e.s)) :
  Calls Tryz.prog 222 #[.pointer (some ⟨g,0,none⟩)] w fun e w'=>∃ s b2,e=.returned (.tuple #[.bool false,.pointer (some ⟨s,0,none⟩)])∧NoneAt w' s b2∧Below w.heap.size w w':=by
 have KN:=qh setNew_none
 have KB:=qh (fun O q t W (h:PlanAt W g b n d O l) hno=>beyond_no g b n d O l q t W h hno)
 have HP:=qh h
 have HB:=qh (Base.start w)
 have HNO:=qh hno;have HBE:=qh hbe;have HDD:=qh hd
 clear h hno hbe hd
 go_enter Tryz.func222,Tryz.ntmps222
 go_wp2_with fail
 refine (KN.out _).mono ?_
 rintro e w1 ⟨s,b2,rfl,hs,hb⟩
 have HP:=qh (HP.out.bel hb)
 have HB:=qh (HB.out.bel hb)
 have HS:=qh hs
 clear hs hb
 go_wp2_with fail
 generalize hB0:w.heap.size=B at HB ⊢
 go_loopw [13,4] (fun vi vd wr=>∃ j:Nat,vi=.int .i64 (j:Int)∧j≤7∧vd=.bool false∧PlanAt wr g b n d O l∧NoneAt wr s b2∧Base B w wr) (fun vi _ _=>7 - (intOf vi).toNat)
 case atStart=>exact⟨0,rfl,by omega,rfl,HP.out,HS.out,HB.out⟩
 case round=>
  clear HP HS HB
  obtain⟨j,rfl,hj,rfl,hp,hs,hb⟩:=hrel
  have HP:=qh hp;have HS:=qh hs;have HB:=qh hb
  clear hp hs hb
  by_cases hj7:j=7
  ·subst hj7
   go_wp2_with fail
   go_ret2
   exact⟨_,_,rfl,HS.out,hB0▸HB.out.below⟩
  ·have hj6:j<7:=by omega
   have HPJ:=qh (HP.out.dcell j hj6)
   have hno:=HNO.out j hj6
   have HBJ:=qh (HBE.out j hj6)
   have hBr:=HB.out.le
   have hdj:=HDD.out j hj6
   generalize d j=dj0 at HPJ hno HBJ hdj
   obtain⟨v,hv1,hv2,_,hlk1,_⟩:=HP.out.look j (dj0+1) (WalkArith.wf_i64 (by omega)) (WalkArith.wf_i64 (by omega))
   rw [hno] at hlk1
   have HL:=qh (show Ever wr (fun W=>(Instr.lookup 246 (.map (some b)) (.agg #[.int .i64 j,.int .i64 (dj0+1)]) true).run Tryz.prog W=.ok (.tuple #[.agg v.toArray,.bool false]) W) from hlk1)
   have HV2:=qh hv2
   clear hlk1 hv2 hno
   have dj:wr.cell? ⟨g,j,none⟩=some (.int .i64 dj0):=HPJ.out
   have hjn:(j:Int)<7:=by omega
   go_upto_region 6 with (fail)
   go_name_world V hV
   have hV:allocs wr [.cells ([.int .i64 j,.int .i64 (dj0+1)]:List Value).toArray 37]=V:=hV
   have HX:=qh (show Holds V (wr.heap.size) 37 ([.int .i64 j,.int .i64 (dj0+1)]) from holds_allocs _ hV 0 rfl)
   have hbV:=below_allocs _ hV
   have hsV:=size_allocs _ hV
   simp only [List.length_cons,List.length_nil] at hsV
   clear hV
   have HP:=qh (HP.out.bel hbV)
   have HS:=qh (HS.out.bel hbV)
   have HB:=qh (HB.out.bel hbV)
   have HL:=qh (HL.out.bel hbV)
   have hxV:wr.heap.size<V.heap.size:=HX.out.lt
   clear hbV hsV dj hjn
   generalize hx0:wr.heap.size=gx at HX hxV ⊢
   have hxb:B≤gx:=by have:=hBr;omega
   have HP:=qh (HP.out.bel (t_drew _ V))
   have HS:=qh (HS.out.bel (t_drew _ V))
   have HB:=qh (HB.out.bel (t_drew _ V))
   have HX:=qh (HX.out.bel (t_drew _ V))
   have HL:=qh (HL.out.bel (t_drew _ V))
   refine wp_region_noPanic ?_
   refine wp_region_late (S:=fun W'=>Below V.drew.heap.size V.drew W') (X0:=[]) (by as_aux_lemma=>kernel_rfl) ?_
   generalize V.drew=wd at HP HS HB HX HL ⊢
   have hSn:Below wd.heap.size wd wd:=Below.refl _ _
   change wpAnyL _ _ _ _ _ _ 12 #[false,false,false,false,false,false,false,false,false,false,false,false] _ _
   refine mvA 0 (some 26) (fun _=>hSn) ?_
   simp only [Act.put,zA,zB,zC]
   refine mvA 1 (some 27) (fun _=>hSn) ?_
   simp only [Act.put,zA,zB,zC]
   refine mvA 2 (some 28) (fun _=>hSn) ?_
   simp only [Act.put,zA,zB,zC]
   refine tkA 3 [] (some 29) (?vg4) rfl (Or.inl ⟨by rfl,?hg4⟩) hSn ?rg4
   case hg4=>
    intro w hSw
    have m0:=(HP.out.bel hSw).ix.cell 7
    simp only [cutL,List.cons_append,List.nil_append,yA,yB] at m0
    go_simp
    try with_reducible rfl
   simp only [Act.put,zA,zB,zC]
   refine tkA 4 [] (some 30) (?vg5) rfl (Or.inl ⟨by rfl,?hg5⟩) hSn ?rg5
   case hg5=>
    intro w hSw
    have b0:=(HX.out.bel hSw).cell 0
    have b1:=(HX.out.bel hSw).cell 1
    simp only [yA,yB] at b0 b1
    go_simp
    try with_reducible rfl
   simp only [Act.put,zA,zB,zC]
   refine tkA 5 [] (some 31) (?vg6) rfl (Or.inl ⟨by rfl,?hg6⟩) hSn ?rg6
   case hg6=>
    intro w hSw
    have hlk:=HL.out w hSw
    go_simp
    try with_reducible rfl
   simp only [Act.put,zA,zB,zC]
   refine mvA 6 (some 25) (fun _=>hSn) ?_
   simp only [Act.put,zA,zB,zC]
   refine mvA 7 (some 32) (fun _=>hSn) ?_
   simp only [Act.put,zA,zB,zC]
   refine mvA 8 (some 33) (fun _=>hSn) ?_
   simp only [Act.put,zA,zB,zC]
   refine rd1 9 rfl (fun K hK=>?_)
   go_simp
   have hal:=fun o=>Below.alloc hSn hSn.size o
   refine hK.out _ _ (fun _=>hal _) ?_
   have hSn:=hal (.cells zero21.toArray 45)
   have HB6:=qh (show Holds (wd.alloc (.cells zero21.toArray 45)) wd.heap.size 45 zero21 from holds_alloc wd _ _)
   clear hal
   change wpAnyL _ _ _ _ _ _ _ _ _ (wd.alloc (.cells zero21.toArray 45))
   generalize wd.alloc (.cells zero21.toArray 45)=wa at hSn HB6 ⊢
   clear hK
   try simp only [Act.put,zA,zB,zC]
   refine rd1 10 rfl (fun K hK=>?_)
   refine step_store_box rfl 45 (.tmp 8) (.tmp 32) wd.heap.size zero21 v rfl rfl rfl rfl HB6.out (by rw [hv1];kernel_rfl) (by rw [hv1];rfl) HV2.out ?_
   intro wb hh6 ht6
   have hSn:=hSn.trans (ht6.below (Nat.le_refl _) hSn.size)
   clear hh6 ht6
   refine hK.out _ _ (fun _=>hSn) ?_
   clear hK
   try simp only [Act.put,zA,zB,zC]
   refine mvA 11 (some 9) (fun _=>hSn) ?_
   simp only [Act.put,zA,zB,zC]
   refine dnA (NoPanic.normal ?_)
   have HP:=qh (HP.out.bel hSn)
   have HS:=qh (HS.out.bel hSn)
   have HB:=qh (HB.out.bel hSn)
   have HX:=qh (HX.out.bel hSn)
   have HL:=qh (HL.out.bel hSn)
   clear hSn
   clear HB6 HL
   have x0:=HX.out.cell 0
   have x1:=HX.out.cell 1
   simp only [yA,yB] at x0 x1
   go_wp2_with fail
   refine (KB.out O j (dj0+1) _ HP.out (HBJ.out)).mono ?_
   rintro e w5 ⟨rfl,hb5⟩
   have HP:=qh (HP.out.bel hb5)
   have HS:=qh (HS.out.bel hb5)
   have HB:=qh (HB.out.bel hb5)
   clear hb5 x0 x1 HX
   go_wp2_with fail
   go_roundw
   case rel=>exact⟨j+1,by simp,by omega,rfl,HP.out,HS.out,HB.out⟩
   case measure=>simp [intOf];omega
end
section
open Go.RowKit Go.Maps
abbrev knownL (m:Nat) (c:Cm):List Value:=[.int .i64 m,.int .i64 1]++cellL 3 c false
abbrev oneD (m:Nat):Nat→Int:=fun r=>if r=m then 1 else 0
def RoundSt (g b n B m:Nat) (c:Cm) (l:List LEnt) (j:Nat) (vd:Value) (wr:World):Prop:=
 (j≤m∧vd=.bool false∧PlanAt wr g b n (fun _=>0) (.slice none 0 0) l)∨(m<j∧vd=.bool true∧∃ R ob,PlanAt wr g b n (oneD m) R l∧OwnS wr R ob 267 23 1 (knownL m c)∧∀ k,ob=some k→B≤k)
def RoundOne (g b n m:Nat) (c:Cm) (l:List LEnt) (w:World) (e:Ending) (w':World):Prop:=∃ (s:Nat) (R:Value) (ob:Option Nat),e=.returned (.tuple #[.bool true,.pointer (some ⟨s,0,none⟩)])∧PlanAt w' g b n (oneD m) R l∧OwnS w' R ob 267 23 1 (knownL m c)∧(∀ k,ob=some k→w.heap.size≤k)∧Touch g w w'
theorem round_one (g b n m:Nat) (c:Cm) (l:List LEnt) (w:World) (hm:m<7) (hll:l=[⟨m,1,cellL 3 c false⟩]) (h:PlanAt w g b n (fun _=>0) (.slice none 0 0) l) :
  Calls Tryz.prog 222 #[.pointer (some ⟨g,0,none⟩)] w (RoundOne g b n m c l w):=by
 have hin:(⟨m,1,cellL 3 c false⟩:LEnt)∈l:=by rw [hll];simp
 have KN:=qh setNew_none
 have hbe:∀ (q:Nat),∀ e∈l,¬ (e.r=q∧(1:Int)<e.s):=fun q e he=>by
  rw [hll,List.mem_singleton] at he
  subst he
  simp
 have KB:=qh (fun d O (q:Nat) W (h:PlanAt W g b n d O l)=>beyond_no g b n d O l q 1 W h (hbe q))
 have KH:=qh (fun W (h:PlanAt W g b n (fun _=>0) (.slice none 0 0) l)=>hangs_one g b n (.slice none 0 0) l m c W h hin (WalkArith.wf_i64 (by omega)))
 have KD:=qh (fun bl cl W (h:PlanAt W g b n (fun _=>0) (.slice none 0 0) l) hbl=>do_one g b n bl cl l m c W h hin hm hbl)
 have hno:∀ j:Nat,hasL l j 1=(m==j):=fun j=>by
  rw [hll];unfold hasL
  rw [Bool.eq_iff_iff];simp;omega
 have HNO:=qh hno
 have HLL:=qh hll
 have HP:=qh h
 have hgl:=h.lt.1
 have HT:=qh (Touch.refl g w)
 clear h hbe hll hin hno
 go_enter Tryz.func222,Tryz.ntmps222
 go_wp2_with fail
 refine (KN.out _).mono ?_
 rintro e w1 ⟨s,b2,rfl,hs,hb⟩
 have HP:=qh (HP.out.bel hb)
 have HT:=qh (HT.out.bel hb)
 have HS:=qh hs
 clear hs hb
 go_wp2_with fail
 generalize hB0:w.heap.size=B at hgl ⊢
 go_loopw [13,4] (fun vi vd wr=>∃ j:Nat,vi=.int .i64 (j:Int)∧j≤7∧RoundSt g b n B m c l j vd wr∧Touch g w wr) (fun vi _ _=>7 - (intOf vi).toNat)
 case atStart=>exact⟨0,rfl,by omega,.inl ⟨by omega,rfl,HP.out⟩,HT.out⟩
 case round=>
  clear HP HS HT
  obtain⟨j,rfl,hj,hst,ht⟩:=hrel
  have HT:=qh ht
  have hBr:B≤wr.heap.size:=hB0▸ht.size
  clear ht
  rcases hst with⟨hjm,rfl,hp⟩|⟨hjm,rfl,R,ob,hp,ho,hob⟩
  ·have HP:=qh hp;clear hp
   have hj6:j<7:=by omega
   have HPJ:=qh (HP.out.dcell j hj6)
   by_cases hjm2:j=m
   ·subst hjm2
    obtain⟨v,hv1,hv2,hv3,hlk1,_⟩:=HP.out.look j 1 (WalkArith.wf_i64 (by omega)) (by decide)
    have hvc:=hv3 ⟨j,1,cellL 3 c false⟩ (by rw [HLL.out];simp) rfl rfl
    dsimp only at hvc
    rw [HNO.out j,beq_self_eq_true] at hlk1
    have HL:=qh (show Ever wr (fun W=>(Instr.lookup 246 (.map (some b)) (.agg #[.int .i64 j,.int .i64 1]) true).run Tryz.prog W=.ok (.tuple #[.agg v.toArray,.bool true]) W) from hlk1)
    have HV2:=qh hv2
    clear hlk1 hv2 hv3 hvc
    have dj:wr.cell? ⟨g,j,none⟩=some (.int .i64 0):=HPJ.out
    have hjn:(j:Int)<7:=by omega
    go_upto_region 6 with (fail)
    go_name_world V hV
    have hV:allocs wr [.cells ([.int .i64 j,.int .i64 1]:List Value).toArray 37]=V:=hV
    have HX:=qh (show Holds V (wr.heap.size) 37 ([.int .i64 j,.int .i64 1]) from holds_allocs _ hV 0 rfl)
    have hbV:=below_allocs _ hV
    have hsV:=size_allocs _ hV
    simp only [List.length_cons,List.length_nil] at hsV
    clear hV
    have HP:=qh (HP.out.bel hbV)
    have HT:=qh (HT.out.bel hbV)
    have HL:=qh (HL.out.bel hbV)
    have hxV:wr.heap.size<V.heap.size:=HX.out.lt
    clear hbV hsV dj hjn
    generalize hx0:wr.heap.size=gx at HX hxV ⊢
    have hxb:B≤gx:=by have:=hBr;omega
    have HP:=qh (HP.out.bel (t_drew _ V))
    have HT:=qh (HT.out.bel (t_drew _ V))
    have HX:=qh (HX.out.bel (t_drew _ V))
    have HL:=qh (HL.out.bel (t_drew _ V))
    refine wp_region_noPanic ?_
    refine wp_region_late (S:=fun W'=>Below V.drew.heap.size V.drew W') (X0:=[]) (by as_aux_lemma=>kernel_rfl) ?_
    generalize V.drew=wd at HP HT HX HL ⊢
    have hSn:Below wd.heap.size wd wd:=Below.refl _ _
    change wpAnyL _ _ _ _ _ _ 12 #[false,false,false,false,false,false,false,false,false,false,false,false] _ _
    refine mvA 0 (some 26) (fun _=>hSn) ?_
    simp only [Act.put,zA,zB,zC]
    refine mvA 1 (some 27) (fun _=>hSn) ?_
    simp only [Act.put,zA,zB,zC]
    refine mvA 2 (some 28) (fun _=>hSn) ?_
    simp only [Act.put,zA,zB,zC]
    refine tkA 3 [] (some 29) (?vg4) rfl (Or.inl ⟨by rfl,?hg4⟩) hSn ?rg4
    case hg4=>
     intro w hSw
     have m0:=(HP.out.bel hSw).ix.cell 7
     simp only [cutL,List.cons_append,List.nil_append,yA,yB] at m0
     go_simp
     try with_reducible rfl
    simp only [Act.put,zA,zB,zC]
    refine tkA 4 [] (some 30) (?vg5) rfl (Or.inl ⟨by rfl,?hg5⟩) hSn ?rg5
    case hg5=>
     intro w hSw
     have b0:=(HX.out.bel hSw).cell 0
     have b1:=(HX.out.bel hSw).cell 1
     simp only [yA,yB] at b0 b1
     go_simp
     try with_reducible rfl
    simp only [Act.put,zA,zB,zC]
    refine tkA 5 [] (some 31) (?vg6) rfl (Or.inl ⟨by rfl,?hg6⟩) hSn ?rg6
    case hg6=>
     intro w hSw
     have hlk:=HL.out w hSw
     go_simp
     try with_reducible rfl
    simp only [Act.put,zA,zB,zC]
    refine mvA 6 (some 25) (fun _=>hSn) ?_
    simp only [Act.put,zA,zB,zC]
    refine mvA 7 (some 32) (fun _=>hSn) ?_
    simp only [Act.put,zA,zB,zC]
    refine mvA 8 (some 33) (fun _=>hSn) ?_
    simp only [Act.put,zA,zB,zC]
    refine rd1 9 rfl (fun K hK=>?_)
    go_simp
    have hal:=fun o=>Below.alloc hSn hSn.size o
    refine hK.out _ _ (fun _=>hal _) ?_
    have hSn:=hal (.cells zero21.toArray 45)
    have HB6:=qh (show Holds (wd.alloc (.cells zero21.toArray 45)) wd.heap.size 45 zero21 from holds_alloc wd _ _)
    clear hal
    change wpAnyL _ _ _ _ _ _ _ _ _ (wd.alloc (.cells zero21.toArray 45))
    generalize wd.alloc (.cells zero21.toArray 45)=wa at hSn HB6 ⊢
    clear hK
    try simp only [Act.put,zA,zB,zC]
    refine rd1 10 rfl (fun K hK=>?_)
    refine step_store_box rfl 45 (.tmp 8) (.tmp 32) wd.heap.size zero21 v rfl rfl rfl rfl HB6.out (by rw [hv1];kernel_rfl) (by rw [hv1];rfl) HV2.out ?_
    intro wb hh6 ht6
    have hSn:=hSn.trans (ht6.below (Nat.le_refl _) hSn.size)
    clear hh6 ht6
    refine hK.out _ _ (fun _=>hSn) ?_
    clear hK
    try simp only [Act.put,zA,zB,zC]
    refine mvA 11 (some 9) (fun _=>hSn) ?_
    simp only [Act.put,zA,zB,zC]
    refine dnA (NoPanic.normal ?_)
    have HP:=qh (HP.out.bel hSn)
    have HT:=qh (HT.out.bel hSn)
    have HX:=qh (HX.out.bel hSn)
    have HL:=qh (HL.out.bel hSn)
    clear hSn
    clear HB6 HL
    have x0:=HX.out.cell 0
    have x1:=HX.out.cell 1
    simp only [yA,yB] at x0 x1
    go_wp2_with fail
    refine (KH.out _ HP.out).mono ?_
    rintro e w5 ⟨br,rfl,hbr,hbr2,hb5⟩
    have HP:=qh (HP.out.bel hb5)
    have HT:=qh (HT.out.bel hb5)
    have HBR:=qh hbr
    clear hb5 x0 x1 HX hbr hbr2
    go_upto_region 11 with (fail)
    go_name_world V5 hV5
    have hb5:Below w5.heap.size w5 V5:=by rw [← hV5];go_grown
    have HP:=qh (HP.out.bel hb5)
    have HT:=qh (HT.out.bel hb5)
    have HBR:=qh (HBR.out.bel hb5)
    have hsz5:=HT.out.size
    clear hV5 hb5
    go_wp2_with fail
    refine (KD.out br 1 _ HP.out HBR.out).mono ?_
    rintro e w6 ⟨R,rfl,hp,hown,ht6⟩
    obtain⟨ob,ho,hob⟩:=OwnS.of hown
    have HP:=qh hp;have HO:=qh ho
    have HT:=qh (HT.out.trans ht6)
    have HOB:=qh (show ∀ k,ob=some k→B≤k from fun k hk=>by have:=hob k hk;omega)
    clear hp ho hown hob ht6 HBR
    go_wp2_with fail
    go_roundw
    case rel=>exact⟨j+1,by simp,by omega,.inr ⟨by omega,rfl,R,ob,HP.out,HO.out,HOB.out⟩,HT.out⟩
    case measure=>simp [intOf];omega
   ·obtain⟨v,hv1,hv2,_,hlk1,_⟩:=HP.out.look j 1 (WalkArith.wf_i64 (by omega)) (by decide)
    rw [HNO.out j,show (m==j)=false by simp;omega] at hlk1
    have HL:=qh (show Ever wr (fun W=>(Instr.lookup 246 (.map (some b)) (.agg #[.int .i64 j,.int .i64 1]) true).run Tryz.prog W=.ok (.tuple #[.agg v.toArray,.bool false]) W) from hlk1)
    have HV2:=qh hv2
    clear hlk1 hv2
    have dj:wr.cell? ⟨g,j,none⟩=some (.int .i64 0):=HPJ.out
    have hjn:(j:Int)<7:=by omega
    go_upto_region 6 with (fail)
    go_name_world V hV
    have hV:allocs wr [.cells ([.int .i64 j,.int .i64 1]:List Value).toArray 37]=V:=hV
    have HX:=qh (show Holds V (wr.heap.size) 37 ([.int .i64 j,.int .i64 1]) from holds_allocs _ hV 0 rfl)
    have hbV:=below_allocs _ hV
    have hsV:=size_allocs _ hV
    simp only [List.length_cons,List.length_nil] at hsV
    clear hV
    have HP:=qh (HP.out.bel hbV)
    have HT:=qh (HT.out.bel hbV)
    have HL:=qh (HL.out.bel hbV)
    have hxV:wr.heap.size<V.heap.size:=HX.out.lt
    clear hbV hsV dj hjn
    generalize hx0:wr.heap.size=gx at HX hxV ⊢
    have hxb:B≤gx:=by have:=hBr;omega
    have HP:=qh (HP.out.bel (t_drew _ V))
    have HT:=qh (HT.out.bel (t_drew _ V))
    have HX:=qh (HX.out.bel (t_drew _ V))
    have HL:=qh (HL.out.bel (t_drew _ V))
    refine wp_region_noPanic ?_
    refine wp_region_late (S:=fun W'=>Below V.drew.heap.size V.drew W') (X0:=[]) (by as_aux_lemma=>kernel_rfl) ?_
    generalize V.drew=wd at HP HT HX HL ⊢
    have hSn:Below wd.heap.size wd wd:=Below.refl _ _
    change wpAnyL _ _ _ _ _ _ 12 #[false,false,false,false,false,false,false,false,false,false,false,false] _ _
    refine mvA 0 (some 26) (fun _=>hSn) ?_
    simp only [Act.put,zA,zB,zC]
    refine mvA 1 (some 27) (fun _=>hSn) ?_
    simp only [Act.put,zA,zB,zC]
    refine mvA 2 (some 28) (fun _=>hSn) ?_
    simp only [Act.put,zA,zB,zC]
    refine tkA 3 [] (some 29) (?vg14) rfl (Or.inl ⟨by rfl,?hg14⟩) hSn ?rg14
    case hg14=>
     intro w hSw
     have m0:=(HP.out.bel hSw).ix.cell 7
     simp only [cutL,List.cons_append,List.nil_append,yA,yB] at m0
     go_simp
     try with_reducible rfl
    simp only [Act.put,zA,zB,zC]
    refine tkA 4 [] (some 30) (?vg15) rfl (Or.inl ⟨by rfl,?hg15⟩) hSn ?rg15
    case hg15=>
     intro w hSw
     have b0:=(HX.out.bel hSw).cell 0
     have b1:=(HX.out.bel hSw).cell 1
     simp only [yA,yB] at b0 b1
     go_simp
     try with_reducible rfl
    simp only [Act.put,zA,zB,zC]
    refine tkA 5 [] (some 31) (?vg16) rfl (Or.inl ⟨by rfl,?hg16⟩) hSn ?rg16
    case hg16=>
     intro w hSw
     have hlk:=HL.out w hSw
     go_simp
     try with_reducible rfl
    simp only [Act.put,zA,zB,zC]
    refine mvA 6 (some 25) (fun _=>hSn) ?_
    simp only [Act.put,zA,zB,zC]
    refine mvA 7 (some 32) (fun _=>hSn) ?_
    simp only [Act.put,zA,zB,zC]
    refine mvA 8 (some 33) (fun _=>hSn) ?_
    simp only [Act.put,zA,zB,zC]
    refine rd1 9 rfl (fun K hK=>?_)
    go_simp
    have hal:=fun o=>Below.alloc hSn hSn.size o
    refine hK.out _ _ (fun _=>hal _) ?_
    have hSn:=hal (.cells zero21.toArray 45)
    have HB6:=qh (show Holds (wd.alloc (.cells zero21.toArray 45)) wd.heap.size 45 zero21 from holds_alloc wd _ _)
    clear hal
    change wpAnyL _ _ _ _ _ _ _ _ _ (wd.alloc (.cells zero21.toArray 45))
    generalize wd.alloc (.cells zero21.toArray 45)=wa at hSn HB6 ⊢
    clear hK
    try simp only [Act.put,zA,zB,zC]
    refine rd1 10 rfl (fun K hK=>?_)
    refine step_store_box rfl 45 (.tmp 8) (.tmp 32) wd.heap.size zero21 v rfl rfl rfl rfl HB6.out (by rw [hv1];kernel_rfl) (by rw [hv1];rfl) HV2.out ?_
    intro wb hh6 ht6
    have hSn:=hSn.trans (ht6.below (Nat.le_refl _) hSn.size)
    clear hh6 ht6
    refine hK.out _ _ (fun _=>hSn) ?_
    clear hK
    try simp only [Act.put,zA,zB,zC]
    refine mvA 11 (some 9) (fun _=>hSn) ?_
    simp only [Act.put,zA,zB,zC]
    refine dnA (NoPanic.normal ?_)
    have HP:=qh (HP.out.bel hSn)
    have HT:=qh (HT.out.bel hSn)
    have HX:=qh (HX.out.bel hSn)
    have HL:=qh (HL.out.bel hSn)
    clear hSn
    clear HB6 HL
    have x0:=HX.out.cell 0
    have x1:=HX.out.cell 1
    simp only [yA,yB] at x0 x1
    go_wp2_with fail
    refine (KB.out _ _ j _ HP.out).mono ?_
    rintro e w5 ⟨rfl,hb5⟩
    have HP:=qh (HP.out.bel hb5)
    have HT:=qh (HT.out.bel hb5)
    clear hb5 x0 x1 HX
    go_wp2_with fail
    go_roundw
    case rel=>exact⟨j+1,by simp,by omega,.inl ⟨by omega,rfl,HP.out⟩,HT.out⟩
    case measure=>simp [intOf];omega
  ·have HP:=qh hp;have HO:=qh ho;have HOB:=qh hob
   clear hp ho hob
   by_cases hj7:j=7
   ·subst hj7
    go_wp2_with fail
    go_ret2
    exact⟨_,R,ob,rfl,HP.out,HO.out,hB0▸HOB.out,HT.out⟩
   ·have hj6:j<7:=by omega
    have HPJ:=qh (show wr.cell? ⟨g,j,none⟩=some (.int .i64 0) from by have:=HP.out.dcell j hj6;rw [show oneD m j=0 from if_neg (by omega)] at this;exact this)
    obtain⟨v,hv1,hv2,_,hlk1,_⟩:=HP.out.look j 1 (WalkArith.wf_i64 (by omega)) (by decide)
    rw [HNO.out j,show (m==j)=false by simp;omega] at hlk1
    have HL:=qh (show Ever wr (fun W=>(Instr.lookup 246 (.map (some b)) (.agg #[.int .i64 j,.int .i64 1]) true).run Tryz.prog W=.ok (.tuple #[.agg v.toArray,.bool false]) W) from hlk1)
    have HV2:=qh hv2
    clear hlk1 hv2
    have dj:wr.cell? ⟨g,j,none⟩=some (.int .i64 0):=HPJ.out
    have hjn:(j:Int)<7:=by omega
    go_upto_region 6 with (fail)
    go_name_world V hV
    have hV:allocs wr [.cells ([.int .i64 j,.int .i64 1]:List Value).toArray 37]=V:=hV
    have HX:=qh (show Holds V (wr.heap.size) 37 ([.int .i64 j,.int .i64 1]) from holds_allocs _ hV 0 rfl)
    have hbV:=below_allocs _ hV
    have hsV:=size_allocs _ hV
    simp only [List.length_cons,List.length_nil] at hsV
    clear hV
    have HP:=qh (HP.out.bel hbV)
    have HT:=qh (HT.out.bel hbV)
    have HO:=qh (HO.out.bel hbV)
    have HL:=qh (HL.out.bel hbV)
    have hxV:wr.heap.size<V.heap.size:=HX.out.lt
    clear hbV hsV dj hjn
    generalize hx0:wr.heap.size=gx at HX hxV ⊢
    have hxb:B≤gx:=by have:=hBr;omega
    have HP:=qh (HP.out.bel (t_drew _ V))
    have HT:=qh (HT.out.bel (t_drew _ V))
    have HO:=qh (HO.out.bel (t_drew _ V))
    have HX:=qh (HX.out.bel (t_drew _ V))
    have HL:=qh (HL.out.bel (t_drew _ V))
    refine wp_region_noPanic ?_
    refine wp_region_late (S:=fun W'=>Below V.drew.heap.size V.drew W') (X0:=[]) (by as_aux_lemma=>kernel_rfl) ?_
    generalize V.drew=wd at HP HT HO HX HL ⊢
    have hSn:Below wd.heap.size wd wd:=Below.refl _ _
    change wpAnyL _ _ _ _ _ _ 12 #[false,false,false,false,false,false,false,false,false,false,false,false] _ _
    refine mvA 0 (some 26) (fun _=>hSn) ?_
    simp only [Act.put,zA,zB,zC]
    refine mvA 1 (some 27) (fun _=>hSn) ?_
    simp only [Act.put,zA,zB,zC]
    refine mvA 2 (some 28) (fun _=>hSn) ?_
    simp only [Act.put,zA,zB,zC]
    refine tkA 3 [] (some 29) (?vg24) rfl (Or.inl ⟨by rfl,?hg24⟩) hSn ?rg24
    case hg24=>
     intro w hSw
     have m0:=(HP.out.bel hSw).ix.cell 7
     simp only [cutL,List.cons_append,List.nil_append,yA,yB] at m0
     go_simp
     try with_reducible rfl
    simp only [Act.put,zA,zB,zC]
    refine tkA 4 [] (some 30) (?vg25) rfl (Or.inl ⟨by rfl,?hg25⟩) hSn ?rg25
    case hg25=>
     intro w hSw
     have b0:=(HX.out.bel hSw).cell 0
     have b1:=(HX.out.bel hSw).cell 1
     simp only [yA,yB] at b0 b1
     go_simp
     try with_reducible rfl
    simp only [Act.put,zA,zB,zC]
    refine tkA 5 [] (some 31) (?vg26) rfl (Or.inl ⟨by rfl,?hg26⟩) hSn ?rg26
    case hg26=>
     intro w hSw
     have hlk:=HL.out w hSw
     go_simp
     try with_reducible rfl
    simp only [Act.put,zA,zB,zC]
    refine mvA 6 (some 25) (fun _=>hSn) ?_
    simp only [Act.put,zA,zB,zC]
    refine mvA 7 (some 32) (fun _=>hSn) ?_
    simp only [Act.put,zA,zB,zC]
    refine mvA 8 (some 33) (fun _=>hSn) ?_
    simp only [Act.put,zA,zB,zC]
    refine rd1 9 rfl (fun K hK=>?_)
    go_simp
    have hal:=fun o=>Below.alloc hSn hSn.size o
    refine hK.out _ _ (fun _=>hal _) ?_
    have hSn:=hal (.cells zero21.toArray 45)
    have HB6:=qh (show Holds (wd.alloc (.cells zero21.toArray 45)) wd.heap.size 45 zero21 from holds_alloc wd _ _)
    clear hal
    change wpAnyL _ _ _ _ _ _ _ _ _ (wd.alloc (.cells zero21.toArray 45))
    generalize wd.alloc (.cells zero21.toArray 45)=wa at hSn HB6 ⊢
    clear hK
    try simp only [Act.put,zA,zB,zC]
    refine rd1 10 rfl (fun K hK=>?_)
    refine step_store_box rfl 45 (.tmp 8) (.tmp 32) wd.heap.size zero21 v rfl rfl rfl rfl HB6.out (by rw [hv1];kernel_rfl) (by rw [hv1];rfl) HV2.out ?_
    intro wb hh6 ht6
    have hSn:=hSn.trans (ht6.below (Nat.le_refl _) hSn.size)
    clear hh6 ht6
    refine hK.out _ _ (fun _=>hSn) ?_
    clear hK
    try simp only [Act.put,zA,zB,zC]
    refine mvA 11 (some 9) (fun _=>hSn) ?_
    simp only [Act.put,zA,zB,zC]
    refine dnA (NoPanic.normal ?_)
    have HP:=qh (HP.out.bel hSn)
    have HT:=qh (HT.out.bel hSn)
    have HO:=qh (HO.out.bel hSn)
    have HX:=qh (HX.out.bel hSn)
    have HL:=qh (HL.out.bel hSn)
    clear hSn
    clear HB6 HL
    have x0:=HX.out.cell 0
    have x1:=HX.out.cell 1
    simp only [yA,yB] at x0 x1
    go_wp2_with fail
    refine (KB.out _ _ j _ HP.out).mono ?_
    rintro e w5 ⟨rfl,hb5⟩
    have HP:=qh (HP.out.bel hb5)
    have HT:=qh (HT.out.bel hb5)
    have HO:=qh (HO.out.bel hb5)
    clear hb5 x0 x1 HX
    go_wp2_with fail
    go_roundw
    case rel=>exact⟨j+1,by simp,by omega,.inr ⟨by omega,rfl,R,ob,HP.out,HO.out,HOB.out⟩,HT.out⟩
    case measure=>simp [intOf];omega
end
end Go.Proofs.YtimdpiifpibgfaaGreatDoor
