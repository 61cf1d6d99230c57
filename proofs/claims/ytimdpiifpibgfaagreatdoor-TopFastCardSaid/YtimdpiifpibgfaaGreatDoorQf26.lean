/- For every input the law TopFast returns true (a part of the proof). Condition: the listed variables start as the program's text lays them. -/
import Derived.Deep.RegionLawGrows
import Derived.Test.YtimdpiifpibgfaaGreatDoorQf25
set_option linter.unusedVariables false
set_option linter.unusedSimpArgs false
set_option maxRecDepth 20000
set_option maxHeartbeats 16000000
namespace Go.Proofs.YtimdpiifpibgfaaGreatDoor
section
open Go.RowKit Go.Maps
theorem results_tmp_cell {P:Program} {fn:Func} {a u:Tmp} {t:TypeId} (h:fn.results=#[.tmp u,.cell a t]) (tmps:Array Value) (w:World) (b:Nat) (cs:List Value) (d:TypeDesc) (v:Value) (ha:tmps.getD a undef=.pointer (some ⟨b,0,none⟩)) (hv:tmps.getD u undef=v) (hc:w.rangeAt b 0 cs)
  (hu:P.underlying t=some d) (hd:d.isRow=true) (hi:(P.info? t).map (·.size)=some cs.length):(results fn tmps).run P w=.ok (.tuple #[v,.agg cs.toArray]) w:=by
 have hl:=run_loadVar_mid w b 0 t cs d hc hu hd hi
 unfold results
 rw [h]
 rw [Array.getD_eq_getD_getElem?] at ha hv
 simp [ha,hv,asAddr,hl,Sem.run_bind]
theorem hangs_one (g b n:Nat) (O:Value) (l:List LEnt) (me:Int) (c:Cm) (w:World) (h:PlanAt w g b n (fun _=>0) O l) (hin:(⟨me,1,cellL 3 c false⟩:LEnt)∈l) (hme:(Lit.int .i64 me).wf=true) :
  Calls Tryz.prog 276 #[.pointer (some ⟨g,0,none⟩),.agg #[.int .i64 me,.int .i64 1]] w fun e w'=>∃ br,e=.returned (.tuple #[.slice (some ⟨br,0,none⟩) 1 1,.agg #[.int .i64 0,.int .i64 0]])∧Holds w' br 37 [.int .i64 me,.int .i64 1]∧w.heap.size≤br∧Below w.heap.size w w':=by
 have HP:=qh h
 have hlt:=h.lt
 obtain⟨v,hv1,hv2,hv3,_,hv4⟩:=h.look me 1 hme (by decide)
 have hv:=hv3 _ hin rfl rfl
 dsimp only at hv
 subst hv
 have HL:=qh hv4
 have KN:=qh (fun bl W hb=>setNew_one me W hme bl hb)
 have KU:=qh (fun r W hr=>upto_one me 3 c false r W hr)
 clear hv4 hv3 hv2 hv1 h hin
 go_enter Tryz.func276,Tryz.ntmps276
 go_wp2_with fail
 have A1:Holds (((w.alloc (.cells #[.int .i64 me,.int .i64 1] 37)).alloc (.cells #[.int .i64 0,.int .i64 0] 37)).alloc (.cells #[.int .i64 me,.int .i64 1] 37)) w.heap.size 37 [.int .i64 me,.int .i64 1]:=holds_past (holds_past (holds_alloc w _ _) _) _
 have A2:Holds (((w.alloc (.cells #[.int .i64 me,.int .i64 1] 37)).alloc (.cells #[.int .i64 0,.int .i64 0] 37)).alloc (.cells #[.int .i64 me,.int .i64 1] 37)) (w.heap.size+1) 37 [.int .i64 0,.int .i64 0]:=by
  have:=holds_alloc (w.alloc (.cells #[.int .i64 me,.int .i64 1] 37)) 37 [.int .i64 0,.int .i64 0]
  rw [World.size_alloc] at this
  exact holds_past this _
 have A3:Holds (((w.alloc (.cells #[.int .i64 me,.int .i64 1] 37)).alloc (.cells #[.int .i64 0,.int .i64 0] 37)).alloc (.cells #[.int .i64 me,.int .i64 1] 37)) (w.heap.size+1+1) 37 [.int .i64 me,.int .i64 1]:=by
  have:=holds_alloc ((w.alloc (.cells #[.int .i64 me,.int .i64 1] 37)).alloc (.cells #[.int .i64 0,.int .i64 0] 37)) 37 [.int .i64 me,.int .i64 1]
  rw [World.size_alloc,World.size_alloc] at this
  exact this
 have HB:=qh (show Below w.heap.size w (((w.alloc (.cells #[.int .i64 me,.int .i64 1] 37)).alloc (.cells #[.int .i64 0,.int .i64 0] 37)).alloc (.cells #[.int .i64 me,.int .i64 1] 37)) by go_grown)
 have HI:=qh A1;have HZ:=qh A2;have H3:=qh A3
 clear A1 A2 A3
 generalize (((w.alloc (.cells #[.int .i64 me,.int .i64 1] 37)).alloc (.cells #[.int .i64 0,.int .i64 0] 37)).alloc (.cells #[.int .i64 me,.int .i64 1] 37))=W at HI HZ H3 HB ⊢
 have hgz:w.heap.size≤w.heap.size+1:=Nat.le_succ _
 generalize hz0:w.heap.size+1=gz at HZ H3 hgz ⊢
 generalize hB0:w.heap.size=B at HI HB hgz ⊢
 refine (KN.out _ _ H3.out).mono ?_
 rintro e w1 ⟨sp,rfl,hb⟩
 have HI:=qh (holds_bel HI.out hb)
 have HZ:=qh (holds_bel HZ.out hb)
 have hbw:=HB.out.size
 have HB:=qh (HB.out.trans (hb.mono (hB0▸hbw)))
 clear hb H3
 have hi0:=HI.out.cell 0
 have hi1:=HI.out.cell 1
 simp only [yA,yB] at hi0 hi1
 go_wp2_with fail
 have HR:=qh (holds_alloc w1 37 [.int .i64 me,.int .i64 1])
 have hal:Below w1.heap.size w1 (w1.alloc (.cells #[.int .i64 me,.int .i64 1] 37)):=by go_grown
 have hbw1:B≤w1.heap.size:=hB0▸HB.out.size
 have hzr:gz≠w1.heap.size:=Nat.ne_of_lt HZ.out.lt
 have HZ:=qh (holds_bel HZ.out hal)
 have HB:=qh (HB.out.trans (hal.mono hbw1))
 clear hal hi0 hi1 HI
 generalize w1.alloc (.cells #[.int .i64 me,.int .i64 1] 37)=W1 at HR HZ HB ⊢
 generalize w1.heap.size=br at HR hbw1 hzr ⊢
 go_loopw [4,7,8] (fun v4 v7 v8 wr=>v4=.slice none 0 0∧v7=.slice (some ⟨br,0,none⟩) 1 1∧∃ i:Nat,v8=.int .i64 (i:Int)∧i≤1∧Below B w wr∧Holds wr gz 37 [.int .i64 0,.int .i64 0]∧Holds wr br 37 [.int .i64 me,.int .i64 1]) (fun _ _ v _=>1 - (intOf v).toNat)
 case atStart=>exact⟨rfl,rfl,0,rfl,by omega,HB.out,HZ.out,HR.out⟩
 case round=>
  clear HZ HB HR
  obtain⟨rfl,rfl,i,rfl,hi,hb,hz,hr⟩:=hrel
  have HB:=qh hb;have HZ:=qh hz;have HR:=qh hr
  have hsr:B≤wr.heap.size:=hB0▸hb.size
  rcases (show i=0∨i=1 by omega) with rfl|rfl
  ·have r0:=hr.cell 0
   have r1:=hr.cell 1
   simp only [yA,yB] at r0 r1
   clear hb hz hr
   go_upto_region 9 with (fail)
   go_name_world V hV
   have HX:=qh (show Holds V wr.heap.size 37 [.int .i64 me,.int .i64 1] by rw [← hV];exact holds_alloc wr _ _)
   have hal:Below wr.heap.size wr V:=by rw [← hV];go_grown
   clear hV
   have hBV:=HB.out.trans (hal.mono hsr)
   have hBD:Below B w V.drew:=hBV.trans (t_drew _ _)
   have HZ:=qh (show Holds V.drew gz 37 _ from holds_bel HZ.out (hal.trans (t_drew _ _)))
   have HR:=qh (show Holds V.drew br 37 _ from holds_bel HR.out (hal.trans (t_drew _ _)))
   have HX:=qh (show Holds V.drew wr.heap.size 37 _ from HX.out)
   have HP:=qh (HP.out.below (by rw [hB0];exact hBD))
   have HL:=qh (fun W' (hw:Below V.drew.heap.size V.drew W')=>HL.out W' (by rw [hB0];exact hBD.trans (hw.mono (hB0▸hBD.size))))
   have HB:=qh hBD
   have hxl:wr.heap.size<V.drew.heap.size:=HX.out.lt
   have hsV:B≤V.drew.heap.size:=hB0▸hBD.size
   clear r0 r1 hal hBV hBD
   refine wp_region_noPanic ?_
   refine wp_region_late (S:=fun W'=>Below V.drew.heap.size V.drew W') (X0:=[]) (by as_aux_lemma=>kernel_rfl) ?_
   generalize V.drew=wd at HX HP HZ HR HB HL hxl hsV ⊢
   have hSn:Below wd.heap.size wd wd:=Below.refl _ _
   change wpAnyL _ _ _ _ _ _ 8 #[false,false,false,false,false,false,false,false] _ _
   refine mvA 0 (some 35) (fun _=>hSn) ?_
   simp only [Act.put,zA,zB,zC]
   refine mvA 1 (some 36) (fun _=>hSn) ?_
   simp only [Act.put,zA,zB,zC]
   refine mvA 2 (some 37) (fun _=>hSn) ?_
   simp only [Act.put,zA,zB,zC]
   refine tkA 3 [] (some 38) (?vg4) rfl (Or.inl ⟨by rfl,?hg4⟩) hSn ?rg4
   case hg4=>
    intro w hSw
    have m0:=(HP.out.below hSw).ix.cell 7
    simp only [cutL,List.cons_append,List.nil_append,yA,yB] at m0
    go_simp
    try with_reducible rfl
   simp only [Act.put,zA,zB,zC]
   refine tkA 4 [] (some 39) (?vg5) rfl (Or.inl ⟨by rfl,?hg5⟩) hSn ?rg5
   case hg5=>
    intro w hSw
    have b0:=(holds_bel HX.out hSw).cell 0
    have b1:=(holds_bel HX.out hSw).cell 1
    simp only [yA,yB] at b0 b1
    go_simp
    try with_reducible rfl
   simp only [Act.put,zA,zB,zC]
   refine tkA 5 [] (some 40) (?vg6) rfl (Or.inl ⟨by rfl,?hg6⟩) hSn ?rg6
   case hg6=>
    intro w hSw
    have hlk:=HL.out w hSw
    go_simp
    try with_reducible rfl
   simp only [Act.put,zA,zB,zC]
   refine rd1 6 rfl (fun K hK=>?_)
   go_simp
   have hal:=fun o=>Below.alloc hSn hSn.size o
   refine hK.out _ _ (fun _=>hal _) ?_
   have hSn:=hal (.cells ([.int .i64 0,.int .i64 0,.int .i64 0,.int .i64 0,.int .i64 0,.int .i64 0,.int .i64 0,.int .i64 0,.string ⟨#[]⟩,.string ⟨#[]⟩,.string ⟨#[]⟩,.string ⟨#[]⟩,.int .i64 0,.int .i64 0,.int .i64 0,.int .i64 0,.int .i64 0,.int .i64 0,.int .i64 0,.int .i64 0,.bool false]:List Value).toArray 45)
   have HB6:=qh (show Holds (wd.alloc (.cells ([.int .i64 0,.int .i64 0,.int .i64 0,.int .i64 0,.int .i64 0,.int .i64 0,.int .i64 0,.int .i64 0,.string ⟨#[]⟩,.string ⟨#[]⟩,.string ⟨#[]⟩,.string ⟨#[]⟩,.int .i64 0,.int .i64 0,.int .i64 0,.int .i64 0,.int .i64 0,.int .i64 0,.int .i64 0,.int .i64 0,.bool false]:List Value).toArray 45)) wd.heap.size 45 [.int .i64 0,.int .i64 0,.int .i64 0,.int .i64 0,.int .i64 0,.int .i64 0,.int .i64 0,.int .i64 0,.string ⟨#[]⟩,.string ⟨#[]⟩,.string ⟨#[]⟩,.string ⟨#[]⟩,.int .i64 0,.int .i64 0,.int .i64 0,.int .i64 0,.int .i64 0,.int .i64 0,.int .i64 0,.int .i64 0,.bool false] from holds_alloc wd _ _)
   clear hal
   generalize wd.alloc (.cells ([.int .i64 0,.int .i64 0,.int .i64 0,.int .i64 0,.int .i64 0,.int .i64 0,.int .i64 0,.int .i64 0,.string ⟨#[]⟩,.string ⟨#[]⟩,.string ⟨#[]⟩,.string ⟨#[]⟩,.int .i64 0,.int .i64 0,.int .i64 0,.int .i64 0,.int .i64 0,.int .i64 0,.int .i64 0,.int .i64 0,.bool false]:List Value).toArray 45)=wa at hSn HB6 ⊢
   clear hK
   try simp only [Act.put,zA,zB,zC]
   refine rd1 7 rfl (fun K hK=>?_)
   refine step_store_box rfl 45 (.tmp 10) (.tmp 40) wd.heap.size [.int .i64 0,.int .i64 0,.int .i64 0,.int .i64 0,.int .i64 0,.int .i64 0,.int .i64 0,.int .i64 0,.string ⟨#[]⟩,.string ⟨#[]⟩,.string ⟨#[]⟩,.string ⟨#[]⟩,.int .i64 0,.int .i64 0,.int .i64 0,.int .i64 0,.int .i64 0,.int .i64 0,.int .i64 0,.int .i64 0,.bool false] (cellL 3 c false) rfl rfl rfl rfl HB6.out (by kernel_rfl) rfl (cellL_row _ _ _).2 ?_
   intro wb hh6 ht6
   have HC:=qh hh6
   have hSn:=hSn.trans (ht6.below (Nat.le_refl _) hSn.size)
   clear hh6 ht6
   refine hK.out _ _ (fun _=>hSn) ?_
   clear hK
   try simp only [Act.put,zA,zB,zC]
   refine dnA (NoPanic.normal ?_)
   have HZ:=qh (holds_bel HZ.out hSn)
   have HR:=qh (holds_bel HR.out hSn)
   have HX:=qh (holds_bel HX.out hSn)
   have HP:=qh (HP.out.below hSn)
   have HB:=qh (HB.out.trans (hSn.mono hsV))
   clear hSn HL HB6
   generalize wd.heap.size=gc at HC hsV ⊢
   generalize wr.heap.size=gx at HX hxl ⊢
   go_wp2_with fail
   go_loopw [4,7,41] (fun v4 v7 v w2=>v4=.slice none 0 0∧v7=.slice (some ⟨br,0,none⟩) 1 1∧∃ j:Nat,v=.int .i64 (j:Int)∧j≤7∧Below B w w2∧Holds w2 gz 37 [.int .i64 0,.int .i64 0]∧Holds w2 br 37 [.int .i64 me,.int .i64 1]∧Holds w2 gx 37 [.int .i64 me,.int .i64 1]∧Holds w2 gc 45 (cellL 3 c false)∧PlanAt w2 g b n (fun _=>0) O l) (fun _ _ v _=>7 - (intOf v).toNat)
   case atStart=>exact⟨rfl,rfl,0,rfl,by omega,HB.out,HZ.out,HR.out,HX.out,HC.out,HP.out⟩
   case round=>
    clear HB HZ HR HX HC HP
    obtain⟨rfl,rfl,j,rfl,hj,hb,hz,hr,hx,hc,hp⟩:=hrel
    have HB:=qh hb;have HZ:=qh hz;have HR:=qh hr;have HX:=qh hx;have HC:=qh hc;have HP:=qh hp
    have hs2:B≤wr.heap.size:=hB0▸hb.size
    clear hb hz hr hc
    by_cases hj7:j=7
    ·subst hj7
     clear hx hp
     go_wp2_with fail
     go_roundw
     case rel=>exact⟨rfl,rfl,1,rfl,by omega,HB.out,HZ.out,HR.out⟩
     case measure=>simp [intOf]
    ·have x0:=hx.cell 0
     have x1:=hx.cell 1
     simp only [yA,yB] at x0 x1
     clear hx hp
     have hjn:(j:Int)<7:=by omega
     go_wp2_with (first
      | (refine wpList_load_mid rfl 45 _ rfl gc 0 rfl _ _ HC.out.range0 Tryz.underlying45 rfl (by kernel_rfl) ?_))
     refine (KU.out j _ (by omega)).mono ?_
     rintro e w5 ⟨rfl,hb5⟩
     have HB:=qh (HB.out.trans (hb5.mono hs2))
     have HZ:=qh (holds_bel HZ.out hb5)
     have HR:=qh (holds_bel HR.out hb5)
     have HX:=qh (holds_bel HX.out hb5)
     have HC:=qh (holds_bel HC.out hb5)
     have HP:=qh (HP.out.below hb5)
     have hd:∀ k,k<7→w5.cell? ⟨g,k,none⟩=some (.int .i64 0):=fun k hk=>by
      rw [HP.out.ix.cell]
      rcases (show k=0∨k=1∨k=2∨k=3∨k=4∨k=5∨k=6 by omega) with rfl|rfl|rfl|rfl|rfl|rfl|rfl<;>rfl
     have dj:=hd j (by omega)
     have hs5:B≤w5.heap.size:=hB0▸HB.out.size
     clear hb5 x0 x1 hd
     go_wp2_with fail
     go_loopw [4,7,13] (fun v4 v7 v13 w6=>v4=.slice none 0 0∧v7=.slice (some ⟨br,0,none⟩) 1 1∧v13=.int .i64 1∧w6=w5) (fun _ _ _ _=>0)
     case atStart=>first|exact⟨rfl,rfl,rfl,rfl⟩|simp
     case round=>
      obtain⟨rfl,rfl,rfl,rfl⟩:=hrel
      clear dj
      go_wp2_with fail
      go_roundw
      case rel=>exact⟨rfl,rfl,j+1,rfl,by omega,HB.out,HZ.out,HR.out,HX.out,HC.out,HP.out⟩
      case measure=>simp [intOf];omega
  ·clear hb hz hr
   go_wp2_with (first
    | (refine wpList_store_whole rfl 37 (.tmp 5) (.tmp 84) gz [.int .i64 0,.int .i64 0] [.int .i64 0,.int .i64 0] rfl rfl rfl rfl HZ.out (by kernel_rfl) rfl (by simp [Value.oneCell']) ?_;intro w5 hh ht))
   refine bodyPost_ret (v:=.tuple #[.slice (some ⟨br,0,none⟩) 1 1,.agg #[.int .i64 0,.int .i64 0]]) (results_tmp_cell Tryz.results276 _ _ gz [.int .i64 0,.int .i64 0] _ _ rfl rfl hh.range0 Tryz.underlying37 rfl (by kernel_rfl)) rfl ?_
   exact⟨br,rfl,HR.out.touch ht (Ne.symm hzr),hB0▸hbw1,hB0▸HB.out.trans (ht.below hgz hsr)⟩
end
section
open Go.RowKit Go.Maps
theorem insertInt_one (p:Option Addr) (c:Nat) (fv:Value) (w:World):Calls Tryz.prog 346 #[.slice p 1 c,.int .i64 0,.int .i64 1,fv] w fun e w'=>e=.returned (.tuple #[])∧Below w.heap.size w w':=by
 go_enter Tryz.func346,Tryz.ntmps346
 go_wp2_with fail
 go_loopw [8] (fun vi wr=>vi=.int .i64 1∧Below w.heap.size w wr) (fun _ _=>0)
 case atStart=>exact⟨rfl,Below.refl _ _⟩
 case round=>
  obtain⟨rfl,hb⟩:=hrel
  have HB:=qh hb;clear hb
  go_wp2_with fail
  refine bodyPost_end (v:=.tuple #[]) (by simp [results,Tryz.results346,go_sem]) rfl ⟨rfl,HB.out⟩
theorem stable_one (p:Option Addr) (c:Nat) (fv:Value) (w:World):Calls Tryz.prog 332 #[.slice p 1 c,.int .i64 1,fv] w fun e w'=>e=.returned (.tuple #[])∧Below w.heap.size w w':=by
 have K:=qh (fun W=>insertInt_one p c fv W)
 go_enter Tryz.func332,Tryz.ntmps332
 go_wp2_with fail
 go_loopw [7,8] (fun va vb wr=>va=.int .i64 0∧vb=.int .i64 20∧wr=w) (fun _ _ _=>0)
 case atStart=>first|exact⟨rfl,rfl,rfl⟩|simp
 case round=>
  obtain⟨rfl,rfl,rfl⟩:=hrel
  go_wp2_with fail
  refine (K.out _).mono ?_
  rintro e w1 ⟨rfl,hb⟩
  have HB:=qh hb;clear hb
  go_wp2_with fail
  go_loopw [6] (fun v6 wr2=>v6=.int .i64 20∧Below wr.heap.size wr wr2) (fun _ _=>0)
  case atStart=>exact⟨rfl,HB.out⟩
  case round=>
   clear HB
   obtain⟨rfl,hb⟩:=hrel
   have HB:=qh hb;clear hb
   go_wp2_with fail
   exact bodyPost_end (v:=.tuple #[]) (by simp [results,Tryz.results332,go_sem]) rfl ⟨rfl,HB.out⟩
theorem sortStable_one (p:Option Addr) (c:Nat) (fv:Value) (w:World):Calls Tryz.prog 313 #[.slice p 1 c,fv] w fun e w'=>e=.returned (.tuple #[])∧Below w.heap.size w w':=by
 have K:=qh (fun W=>stable_one p c fv W)
 go_enter Tryz.func313,Tryz.ntmps313
 go_wp2_with fail
 refine (K.out _).mono ?_
 rintro e w1 ⟨rfl,hb⟩
 have HB:=qh hb;clear hb
 go_wp2_with fail
 exact bodyPost_end (v:=.tuple #[]) (by simp [results,Tryz.results313,go_sem]) rfl ⟨rfl,HB.out⟩
end
section
open Go.RowKit Go.Maps
theorem owns_touch {w w':World} {g base size n:Nat} {e:TypeId} {v:Value} {xs:List Value} (h:w.ownsRow base e size v n xs) (ht:Touch g w w') (hg:g<base):w'.ownsRow base e size v n xs:=
 ⟨h.1,h.2.imp id fun ⟨b,cap,cur,e1,e2,hh,r⟩=>⟨b,cap,cur,e1,e2,(ht.block b (Array.getElem?_eq_some_iff.1 hh).1 (by omega)).trans hh,r⟩⟩
theorem cutL_at (m:Nat) (hm:m<7) (x y:Value):(cutL (fun _=>0)++[x,y])[m]?=some (.int .i64 0):=by
 rcases (show m=0∨m=1∨m=2∨m=3∨m=4∨m=5∨m=6 by omega) with rfl|rfl|rfl|rfl|rfl|rfl|rfl<;>rfl
theorem cutL_len (m:Nat) (hm:m<7) (x y:Value):m<(cutL (fun _=>0)++[x,y]).length:=by simp [cutL];omega
theorem cutL_one (m:Nat) (hm:m<7) (x y:Value):(cutL (fun _=>0)++[x,y]).set m (.int .i64 1)=cutL (fun r=>if r=m then 1 else 0)++[x,y]:=by
 rcases (show m=0∨m=1∨m=2∨m=3∨m=4∨m=5∨m=6 by omega) with rfl|rfl|rfl|rfl|rfl|rfl|rfl<;>rfl
theorem do_one (g b n bl cl:Nat) (l:List LEnt) (m:Nat) (c:Cm) (w:World) (h:PlanAt w g b n (fun _=>0) (.slice none 0 0) l) (hin:(⟨m,1,cellL 3 c false⟩:LEnt)∈l) (hm:m<7) (hbl:Holds w bl 37 [.int .i64 m,.int .i64 1]) :
  Calls Tryz.prog 277 #[.pointer (some ⟨g,0,none⟩),.slice (some ⟨bl,0,none⟩) 1 cl] w fun e w'=>∃ R,e=.returned (.tuple #[])∧PlanAt w' g b n (fun r=>if r=m then 1 else 0) R l∧w'.ownsRow w.heap.size 267 23 R 1 ([.int .i64 m,.int .i64 1]++cellL 3 c false)∧Touch g w w':=by
 have HP:=qh h
 have HH:=qh hbl
 have hlt:=h.lt
 have hll:=hbl.lt
 have hme:(Lit.int .i64 (m:Int)).wf=true:=WalkArith.wf_i64 (by omega)
 obtain⟨v,hv1,hv2,hv3,_,hv4⟩:=h.look m 1 hme (by decide)
 have hv:=hv3 _ hin rfl rfl
 dsimp only at hv
 subst hv
 have HL:=qh hv4
 have KS:=qh (fun p cc fv W=>sort_few p 1 cc fv W (by omega))
 have KE:=qh (fun W h1 h2=>edges_one g b n bl cl (fun _=>0) (.slice none 0 0) l m c W h1 hin hme h2)
 have KP:=qh (fun be W h1=>parts_one be 1 W h1)
 have KT:=qh (fun p cc fv W=>sortStable_one p cc fv W)
 clear hv4 hv3 hv2 hv1 h hin hbl
 go_enter Tryz.func277,Tryz.ntmps277
 go_wp2_with fail
 have A1:Holds ((w.alloc (.cells #[.pointer (some ⟨g,0,none⟩)] 325)).alloc (.cells #[.slice (some ⟨bl,0,none⟩) 1 cl] 99)) w.heap.size 325 [.pointer (some ⟨g,0,none⟩)]:=holds_past (holds_alloc w _ _) _
 have A2:Holds ((w.alloc (.cells #[.pointer (some ⟨g,0,none⟩)] 325)).alloc (.cells #[.slice (some ⟨bl,0,none⟩) 1 cl] 99)) (w.heap.size+1) 99 [.slice (some ⟨bl,0,none⟩) 1 cl]:=by
  have:=holds_alloc (w.alloc (.cells #[.pointer (some ⟨g,0,none⟩)] 325)) 99 [.slice (some ⟨bl,0,none⟩) 1 cl]
  rw [World.size_alloc] at this
  exact this
 have A3:Below w.heap.size w ((w.alloc (.cells #[.pointer (some ⟨g,0,none⟩)] 325)).alloc (.cells #[.slice (some ⟨bl,0,none⟩) 1 cl] 99)):=by go_grown
 generalize (w.alloc (.cells #[.pointer (some ⟨g,0,none⟩)] 325)).alloc (.cells #[.slice (some ⟨bl,0,none⟩) 1 cl] 99)=W at A1 A2 A3 ⊢
 have HP:=qh (HP.out.below A3)
 have HH:=qh (HH.out.below A3 hll)
 have HL:=qh (fun W' (hw:Below W.heap.size W W')=>HL.out W' (A3.trans (hw.mono A3.size)))
 generalize hq0:w.heap.size+1=gq at A2 ⊢
 generalize hB0:w.heap.size=B at A1 A3 hlt hll ⊢
 have hgq:B≤gq:=by omega
 have hBW:B≤W.heap.size:=hB0▸A3.size
 have HA:=qh A1;have HQ:=qh A2;have HB:=qh A3
 clear A1 A2 A3
 refine (KS.out _ _ _ _).mono ?_
 rintro e w1 ⟨rfl,hb⟩
 have HA:=qh (holds_bel HA.out hb);have HQ:=qh (holds_bel HQ.out hb);have HP:=qh (HP.out.below hb);have HH:=qh (holds_bel HH.out hb)
 have HL:=qh (fun W' (hw:Below w1.heap.size w1 W')=>HL.out W' (hb.trans (hw.mono hb.size)))
 have HB:=qh (HB.out.trans (hb.mono hBW))
 have hB1:B≤w1.heap.size:=Nat.le_trans hBW hb.size
 clear hb hBW
 have a0:=HA.out.cell 0
 have q0:=HQ.out.cell 0
 simp only [List.getElem?_cons_zero] at a0 q0
 go_wp2_with fail
 refine (KE.out _ HP.out HH.out).mono ?_
 rintro e w2 ⟨be,rfl,he,_,hb⟩
 have HA:=qh (holds_bel HA.out hb);have HQ:=qh (holds_bel HQ.out hb);have HP:=qh (HP.out.below hb);have HH:=qh (holds_bel HH.out hb)
 have HL:=qh (fun W' (hw:Below w2.heap.size w2 W')=>HL.out W' (hb.trans (hw.mono hb.size)))
 have HB:=qh (HB.out.trans (hb.mono hB1))
 have hB2:B≤w2.heap.size:=Nat.le_trans hB1 hb.size
 clear hb a0 q0
 go_wp2_with fail
 refine (KP.out be _ he).mono ?_
 rintro e w3 ⟨vp,b0,c0,L0,rfl,hov,h0,hb0,hc0,_,hb⟩
 have HA:=qh (holds_bel HA.out hb);have HQ:=qh (holds_bel HQ.out hb);have HP:=qh (HP.out.below hb);have HH:=qh (holds_bel HH.out hb)
 have HL:=qh (fun W' (hw:Below w3.heap.size w3 W')=>HL.out W' (hb.trans (hw.mono hb.size)))
 have HB:=qh (HB.out.trans (hb.mono hB2))
 have hB3:B≤w3.heap.size:=Nat.le_trans hB2 hb.size
 have H0:=qh h0
 clear hb he h0
 obtain⟨bv,cv,Lv,rfl,hbv,hcv,_,hrow⟩:=owns_one hov
 have HV:=qh hrow
 clear hrow hov
 go_wp2_with fail
 go_loopw [22] (fun v wr=>∃ i:Nat,v=.int .i64 (i:Int)∧((i=0∧wr=w3)∨(i=1∧∃ R,PlanAt wr g b n (fun r=>if r=m then 1 else 0) R l∧wr.ownsRow B 267 23 R 1 ([.int .i64 m,.int .i64 1]++cellL 3 c false)∧Touch g w wr))) (fun v _=>1 - (intOf v).toNat)
 case atStart=>exact⟨0,rfl,.inl ⟨rfl,rfl⟩⟩
 case round=>
  obtain⟨i,rfl,⟨rfl,rfl⟩|⟨rfl,R,hp,ho,ht⟩⟩:=hrel
  ·have v0:=HV.out.cell 0
   simp only [List.getElem?_cons_zero] at v0
   go_wp2_with fail
   refine (KT.out _ _ _ _).mono ?_
   rintro e w4 ⟨rfl,hb⟩
   have HA:=qh (holds_bel HA.out hb);have HQ:=qh (holds_bel HQ.out hb);have HP:=qh (HP.out.below hb);have HH:=qh (holds_bel HH.out hb);have H0:=qh (holds_bel H0.out hb)
   have HL:=qh (fun W' (hw:Below w4.heap.size w4 W')=>HL.out W' (hb.trans (hw.mono hb.size)))
   have HB:=qh (HB.out.trans (hb.mono hB3))
   have hB4:B≤w4.heap.size:=Nat.le_trans hB3 hb.size
   clear hb v0 HV
   go_wp2_with fail
   go_loopw [31] (fun v w5=>∃ i:Nat,v=.int .i64 (i:Int)∧((i=0∧w5=w4)∨(i=1∧∃ R,PlanAt w5 g b n (fun r=>if r=m then 1 else 0) R l∧w5.ownsRow B 267 23 R 1 ([.int .i64 m,.int .i64 1]++cellL 3 c false)∧Touch g w w5))) (fun v _=>1 - (intOf v).toNat)
   case atStart=>exact⟨0,rfl,.inl ⟨rfl,rfl⟩⟩
   case round=>
    obtain⟨j,rfl,⟨rfl,rfl⟩|⟨rfl,R,hp,ho,ht⟩⟩:=hrel
    ·have z0:=H0.out.cell 0
     have q0:=HQ.out.cell 0
     have l0:=HH.out.cell 0
     have l1:=HH.out.cell 1
     simp only [yA,yB] at z0 q0 l0 l1
     go_upto_region 11 with (fail)
     go_name_world V hV
     have HX:=qh (show Holds V wr.heap.size 37 [.int .i64 m,.int .i64 1] by rw [← hV];exact holds_alloc wr _ _)
     have hal:Below wr.heap.size wr V:=by rw [← hV];go_grown
     clear hV z0 q0 l0 l1
     have hal:=hal.trans (t_drew _ V)
     have HX:=qh (show Holds V.drew wr.heap.size 37 _ from HX.out)
     have HA:=qh (holds_bel HA.out hal);have HQ:=qh (holds_bel HQ.out hal);have HP:=qh (HP.out.below hal)
     have HL:=qh (fun W' (hw:Below V.drew.heap.size V.drew W')=>HL.out W' (hal.trans (hw.mono hal.size)))
     have HB:=qh (HB.out.trans (hal.mono hB4))
     have hB5:B≤V.drew.heap.size:=Nat.le_trans hB4 hal.size
     have hgx:B≤wr.heap.size:=hB4
     clear hal
     obtain⟨ik,hk1,hk2,hk3,hk4⟩:=info_parts (show (Tryz.prog.info? 267).map (fun i=>(i.zero,i.size,i.bytes))=some (some (.agg ([.int .i64 0,.int .i64 0,.int .i64 0,.int .i64 0,.int .i64 0,.int .i64 0,.int .i64 0,.int .i64 0,.int .i64 0,.int .i64 0,.string ⟨#[]⟩,.string ⟨#[]⟩,.string ⟨#[]⟩,.string ⟨#[]⟩,.int .i64 0,.int .i64 0,.int .i64 0,.int .i64 0,.int .i64 0,.int .i64 0,.int .i64 0,.int .i64 0,.bool false]:List Value).toArray),23,216) by kernel_rfl)
     refine wp_region_noPanic ?_
     refine wp_region_late (S:=fun W'=>Below V.drew.heap.size V.drew W') (X0:=[17]) (by as_aux_lemma=>kernel_rfl) ?_
     generalize V.drew=wd at HX HP HA HQ HB HL hB5 ⊢
     have hSn:Below wd.heap.size wd wd:=Below.refl _ _
     change wpAnyL _ _ _ _ _ _ 18 #[false,false,false,false,false,false,false,false,false,false,false,false,false,false,false,false,false,false] _ _
     refine tkA 0 [15,16,17] (some 39) (?vg1) rfl (Or.inl ⟨by rfl,?hg1⟩) hSn ?rg1
     case hg1=>
      intro w hSw
      have a0:=(holds_bel HA.out hSw).cell 0
      simp only [List.getElem?_cons_zero] at a0
      go_simp
      try with_reducible rfl
     simp only [Act.put,zA,zB,zC]
     refine tkA 1 [2,3,4,14,15,16,17] (some 40) (?vg2) rfl (Or.inl ⟨by rfl,?hg2⟩) hSn ?rg2
     case hg2=>
      intro w hSw
      have a0:=(holds_bel HA.out hSw).cell 0
      simp only [List.getElem?_cons_zero] at a0
      go_simp
      try with_reducible rfl
     simp only [Act.put,zA,zB,zC]
     refine mvA 2 (some 41) (fun _=>hSn) ?_
     simp only [Act.put,zA,zB,zC]
     refine mvA 3 (some 42) (fun _=>hSn) ?_
     simp only [Act.put,zA,zB,zC]
     refine tkA 4 [14,15,16,17] (some 43) (?vg5) rfl (Or.inl ⟨by rfl,?hg5⟩) hSn ?rg5
     case hg5=>
      intro w hSw
      have m0:=(HP.out.below hSw).ix.cell 8
      simp only [cutL,List.cons_append,List.nil_append,yA,yB] at m0
      go_simp
      try with_reducible rfl
     simp only [Act.put,zA,zB,zC]
     refine tkA 5 [12,13,14,15,16,17] (some 44) (?vg6) rfl (Or.inl ⟨by rfl,?hg6⟩) hSn ?rg6
     case hg6=>
      intro w hSw
      have b0:=(holds_bel HX.out hSw).cell 0
      have b1:=(holds_bel HX.out hSw).cell 1
      simp only [yA,yB] at b0 b1
      go_simp
      try with_reducible rfl
     simp only [Act.put,zA,zB,zC]
     refine tkA 6 [7,8,9,11,12,13,14,15,16,17] (some 45) (?vg7) rfl (Or.inl ⟨by rfl,?hg7⟩) hSn ?rg7
     case hg7=>
      intro w hSw
      have a0:=(holds_bel HA.out hSw).cell 0
      simp only [List.getElem?_cons_zero] at a0
      go_simp
      try with_reducible rfl
     simp only [Act.put,zA,zB,zC]
     refine mvA 7 (some 46) (fun _=>hSn) ?_
     simp only [Act.put,zA,zB,zC]
     refine mvA 8 (some 47) (fun _=>hSn) ?_
     simp only [Act.put,zA,zB,zC]
     refine tkA 9 [11,12,13,14,15,16,17] (some 48) (?vg10) rfl (Or.inl ⟨by rfl,?hg10⟩) hSn ?rg10
     case hg10=>
      intro w hSw
      have m0:=(HP.out.below hSw).ix.cell 7
      simp only [cutL,List.cons_append,List.nil_append,yA,yB] at m0
      go_simp
      try with_reducible rfl
     simp only [Act.put,zA,zB,zC]
     refine tkA 10 [11,12,13,14,15,16,17] (some 49) (?vg11) rfl (Or.inl ⟨by rfl,?hg11⟩) hSn ?rg11
     case hg11=>
      intro w hSw
      have b0:=(holds_bel HX.out hSw).cell 0
      have b1:=(holds_bel HX.out hSw).cell 1
      simp only [yA,yB] at b0 b1
      go_simp
      try with_reducible rfl
     simp only [Act.put,zA,zB,zC]
     refine tkA 11 [12,13,14,15,16,17] (some 50) (?vg12) rfl (Or.inl ⟨by rfl,?hg12⟩) hSn ?rg12
     case hg12=>
      intro w hSw
      have hlk:=HL.out w hSw
      unfold cellL at hlk
      go_simp
      try with_reducible rfl
     simp only [Act.put,zA,zB,zC]
     refine mvA 12 (some 51) (fun _=>hSn) ?_
     simp only [Act.put,zA,zB,zC]
     refine rd1 13 rfl (fun K hK=>?_)
     go_simp
     have hal:=fun o=>Below.alloc hSn hSn.size o
     refine hK.out _ _ (fun _=>hal _) ?_
     have hSn:=hal (.cells ([.int .i64 m,.int .i64 1,.int .i64 3,.int .i64 0,.int .i64 0,.int .i64 0,.int .i64 0,.int .i64 c.k,.int .i64 c.c,.int .i64 c.s,.string c.a,.string c.b,.string c.o,.string c.v,.int .i64 0,.int .i64 0,.int .i64 0,.int .i64 0,.int .i64 0,.int .i64 0,.int .i64 0,.int .i64 0,.bool false]:List Value).toArray 267)
     have HN:=qh (show Holds (wd.alloc (.cells ([.int .i64 m,.int .i64 1,.int .i64 3,.int .i64 0,.int .i64 0,.int .i64 0,.int .i64 0,.int .i64 c.k,.int .i64 c.c,.int .i64 c.s,.string c.a,.string c.b,.string c.o,.string c.v,.int .i64 0,.int .i64 0,.int .i64 0,.int .i64 0,.int .i64 0,.int .i64 0,.int .i64 0,.int .i64 0,.bool false]:List Value).toArray 267)) wd.heap.size 267 [.int .i64 m,.int .i64 1,.int .i64 3,.int .i64 0,.int .i64 0,.int .i64 0,.int .i64 0,.int .i64 c.k,.int .i64 c.c,.int .i64 c.s,.string c.a,.string c.b,.string c.o,.string c.v,.int .i64 0,.int .i64 0,.int .i64 0,.int .i64 0,.int .i64 0,.int .i64 0,.int .i64 0,.int .i64 0,.bool false] from holds_alloc wd _ _)
     clear hal
     generalize wd.alloc (.cells ([.int .i64 m,.int .i64 1,.int .i64 3,.int .i64 0,.int .i64 0,.int .i64 0,.int .i64 0,.int .i64 c.k,.int .i64 c.c,.int .i64 c.s,.string c.a,.string c.b,.string c.o,.string c.v,.int .i64 0,.int .i64 0,.int .i64 0,.int .i64 0,.int .i64 0,.int .i64 0,.int .i64 0,.int .i64 0,.bool false]:List Value).toArray 267)=wa at hSn HN ⊢
     clear hK
     try simp only [Act.put,zA,zB,zC]
     refine rd1 14 rfl (fun K hK=>?_)
     refine step_append_grows rfl (.tmp 43) (.tmp 52) 262 rfl 267 ik (.agg ([.int .i64 0,.int .i64 0,.int .i64 0,.int .i64 0,.int .i64 0,.int .i64 0,.int .i64 0,.int .i64 0,.int .i64 0,.int .i64 0,.string ⟨#[]⟩,.string ⟨#[]⟩,.string ⟨#[]⟩,.string ⟨#[]⟩,.int .i64 0,.int .i64 0,.int .i64 0,.int .i64 0,.int .i64 0,.int .i64 0,.int .i64 0,.int .i64 0,.bool false]:List Value).toArray) 23 216 Tryz.underlying262 hk1 hk2 hk3 hk4 rfl (by decide) none 0 0 [] rfl (fun _=>⟨rfl,rfl⟩) rfl (by intro b hb;cases hb) ⟨wd.heap.size,0,none⟩ 1 1 ([.int .i64 m,.int .i64 1,.int .i64 3,.int .i64 0,.int .i64 0,.int .i64 0,.int .i64 0,.int .i64 c.k,.int .i64 c.c,.int .i64 c.s,.string c.a,.string c.b,.string c.o,.string c.v,.int .i64 0,.int .i64 0,.int .i64 0,.int .i64 0,.int .i64 0,.int .i64 0,.int .i64 0,.int .i64 0,.bool false]) rfl rfl (fun j u hu=>by rw [add_at,Nat.zero_add];exact (HN.out.cell j).trans hu) (by simp [Value.oneCell']) (by omega) (by unfold maxLen;omega) (by omega) ?_
     intro v5 w5 ho5 hg5
     have HO:=qh ho5
     have hsa:=hSn.size
     have hSn:=hSn.grown hg5 hSn.size (by intro k hk;cases hk)
     clear hg5 ho5
     obtain⟨p5,c5,rfl⟩:∃ p5 c5,v5=.slice p5 1 c5:=by
      obtain⟨_,h2⟩:=HO.out
      rcases h2 with⟨hv,hn⟩|⟨g1,cap,cur,hv,_⟩
      ·cases hn
      ·exact⟨_,cap,hv⟩
     change K (Act.put _ (some 53) _) _
     refine hK.out _ _ (fun _=>hSn) ?_
     clear hK
     try simp only [Act.put,zA,zB,zC]
     refine mvA 15 (some 54) (fun _=>hSn) ?_
     simp only [Act.put,zA,zB,zC]
     refine mvA 16 (some 55) (fun _=>hSn) ?_
     simp only [Act.put,zA,zB,zC]
     refine rd1 17 rfl (fun K hK=>?_)
     refine step_store_cell rfl 262 (.tmp 55) (.tmp 53) rfl rfl g 8 327 _ (HP.out.below hSn).ix (by simp [cutL]) rfl (.slice p5 1 c5) rfl rfl (by kernel_rfl) rfl ?_
     intro w6 hh6 ht6
     have HT6:=qh ht6
     have HP6:=qh ((HP.out.below hSn).set (d':=fun _=>0) (O':=.slice p5 1 c5) hh6 ht6)
     clear hh6 ht6
     refine hK.out _ _ nlA ?_
     clear hK
     try simp only [Act.put,zA,zB,zC]
     refine dnA (NoPanic.normal ?_)
     have hgB:g<B:=hlt.1
     have HO6:=qh (owns_touch HO.out HT6.out (by omega))
     have HA6:=qh ((holds_bel HA.out hSn).touch HT6.out (Nat.ne_of_gt hgB))
     have HX6:=qh ((holds_bel HX.out hSn).touch HT6.out (by omega))
     have HB6:=qh (HB.out.trans (hSn.mono hB5))
     have hs5:=hSn.size
     have hs6:=HT6.out.size
     clear hSn HP HA HQ HX HL HB HO HN
     have HTw:=qh (show Touch g w w6 from (Touch.of_below (by rw [hB0];exact HB6.out)).trans HT6.out)
     go_wp2_with fail
     go_upto_region 12 with (fail)
     have HX:=qh (show Holds w6.drew wr.heap.size 37 _ from HX6.out)
     have HA:=qh (show Holds w6.drew B 325 _ from HA6.out)
     have HP:=qh (HP6.out.below (t_drew _ _))
     have HO:=qh (owns_below HO6.out (t_drew _ _))
     have HTw:=qh (HTw.out.trans (Touch.of_below (t_drew _ _)))
     have hmn:(m:Int)<7:=by omega
     refine wp_region_noPanic ?_
     refine wp_region_late (S:=fun W'=>Below w6.drew.heap.size w6.drew W') (X0:=[16]) (by as_aux_lemma=>kernel_rfl) ?_
     generalize w6.drew=wd at HX HP HA HO HTw ⊢
     have hSn:Below wd.heap.size wd wd:=Below.refl _ _
     change wpAnyL _ _ _ _ _ _ 17 #[false,false,false,false,false,false,false,false,false,false,false,false,false,false,false,false,false] _ _
     refine tkA 0 [13,14,15,16] (some 56) (?vg16) rfl (Or.inl ⟨by rfl,?hg16⟩) hSn ?rg16
     case hg16=>
      intro w hSw
      have a0:=(holds_bel HA.out hSw).cell 0
      simp only [List.getElem?_cons_zero] at a0
      go_simp
      try with_reducible rfl
     simp only [Act.put,zA,zB,zC]
     refine mvA 1 (some 57) (fun _=>hSn) ?_
     simp only [Act.put,zA,zB,zC]
     refine tkA 2 [15,16] (some 58) (?vg18) rfl (Or.inl ⟨by rfl,?hg18⟩) hSn ?rg18
     case hg18=>
      intro w hSw
      have b0:=(holds_bel HX.out hSw).cell 0
      have b1:=(holds_bel HX.out hSw).cell 1
      simp only [yA,yB] at b0 b1
      go_simp
      try with_reducible rfl
     simp only [Act.put,zA,zB,zC]
     refine tkA 3 [6,7,8,9,12,15,16] (some 59) (?vg19) rfl (Or.inl ⟨by rfl,?hg19⟩) hSn ?rg19
     case hg19=>
      intro w hSw
      have a0:=(holds_bel HA.out hSw).cell 0
      simp only [List.getElem?_cons_zero] at a0
      go_simp
      try with_reducible rfl
     simp only [Act.put,zA,zB,zC]
     refine mvA 4 (some 60) (fun _=>hSn) ?_
     simp only [Act.put,zA,zB,zC]
     refine tkA 5 [8,9,12,15,16] (some 61) (?vg21) rfl (Or.inl ⟨by rfl,?hg21⟩) hSn ?rg21
     case hg21=>
      intro w hSw
      have b0:=(holds_bel HX.out hSw).cell 0
      have b1:=(holds_bel HX.out hSw).cell 1
      simp only [yA,yB] at b0 b1
      go_simp
      try with_reducible rfl
     simp only [Act.put,zA,zB,zC]
     refine mvA 6 (some 62) (fun _=>hSn) ?_
     simp only [Act.put,zA,zB,zC]
     refine mvA 7 (some 63) (fun _=>hSn) ?_
     simp only [Act.put,zA,zB,zC]
     refine mvA 8 (some 64) (fun _=>hSn) ?_
     simp only [Act.put,zA,zB,zC]
     refine tkA 9 [12,15,16] (some 65) (?vg25) rfl (Or.inl ⟨by rfl,?hg25⟩) hSn ?rg25
     case hg25=>
      intro w hSw
      have dm:w.cell? ⟨g,m,none⟩=some (.int .i64 0):=((HP.out.below hSw).ix.cell m).trans (cutL_at m hm _ _)
      go_simp
      try with_reducible rfl
     simp only [Act.put,zA,zB,zC]
     refine mvA 10 (some 66) (fun _=>hSn) ?_
     simp only [Act.put,zA,zB,zC]
     refine tkA 11 [12,15,16] (some 67) (?vg27) rfl (Or.inl ⟨by rfl,?hg27⟩) hSn ?rg27
     case hg27=>
      intro w hSw
      have b0:=(holds_bel HX.out hSw).cell 0
      have b1:=(holds_bel HX.out hSw).cell 1
      simp only [yA,yB] at b0 b1
      go_simp
      try with_reducible rfl
     simp only [Act.put,zA,zB,zC]
     refine mvA 12 (some 68) (fun _=>hSn) ?_
     simp only [Act.put,zA,zB,zC]
     refine mvA 13 (some 69) (fun _=>hSn) ?_
     simp only [Act.put,zA,zB,zC]
     refine mvA 14 (some 70) (fun _=>hSn) ?_
     simp only [Act.put,zA,zB,zC]
     refine mvA 15 (some 71) (fun _=>hSn) ?_
     simp only [Act.put,zA,zB,zC]
     refine rd1 16 rfl (fun K hK=>?_)
     refine step_store_cell rfl 3 (.tmp 71) (.tmp 68) rfl rfl g m 327 _ HP.out.ix (cutL_len m hm _ _) rfl (.int .i64 1) rfl rfl (by kernel_rfl) rfl ?_
     intro w7 hh7 ht7
     rw [cutL_one m hm] at hh7
     have HP7:=qh (HP.out.set hh7 ht7)
     have HO7:=qh (owns_touch HO.out ht7 (by omega))
     have HT7:=qh (HTw.out.trans ht7)
     clear hh7 ht7
     refine hK.out _ _ nlA ?_
     clear hK
     try simp only [Act.put,zA,zB,zC]
     refine dnA (NoPanic.normal ?_)
     clear hSn HX HA HP HO HTw
     go_wp2_with fail
     go_roundw
     case rel=>exact⟨1,rfl,.inr ⟨rfl,_,HP7.out,owns_less HO7.out (by omega),HT7.out⟩⟩
     case measure=>simp [intOf]
    ·have HPd:=qh hp;have HO:=qh ho;have HT:=qh ht
     clear hp ho ht
     go_wp2_with fail
     go_roundw
     case rel=>exact⟨1,rfl,.inr ⟨rfl,R,HPd.out,HO.out,HT.out⟩⟩
     case measure=>simp [intOf]
  ·have HPd:=qh hp;have HO:=qh ho;have HT:=qh ht
   clear hp ho ht
   go_wp2_with fail
   exact bodyPost_end (v:=.tuple #[]) (by simp [results,Tryz.results277,go_sem]) rfl ⟨R,rfl,HPd.out,hB0▸HO.out,HT.out⟩
end
end Go.Proofs.YtimdpiifpibgfaaGreatDoor
