/- For every input the law TopFast returns true (a part of the proof). Condition: the listed variables start as the program's text lays them. -/
import Derived.Test.YtimdpiifpibgfaaGreatDoorQf12
set_option linter.unusedVariables false
set_option linter.unusedSimpArgs false
set_option maxRecDepth 20000
set_option maxHeartbeats 16000000
namespace Go.Proofs.YtimdpiifpibgfaaGreatDoor
section
open Go.RowKit Go.Maps
structure LogAt (w:World) (g b n:Nat) (l:List LEnt):Prop where
 ix:Holds w g 248 (.map (some b) :: cutL fun _=>0)
 map:∃ D,w.ownsMap Tryz.prog 37 readN b n D∧LLists D l
 good:LGoodE l
 rows:∀ e∈l,e.L.length=21∧e.L.toArray.all (·.oneCell')=true
theorem LogAt.wf {w:World} {g b n:Nat} {l:List LEnt} (h:LogAt w g b n l):LWfE l:=h.good.wf
theorem LogAt.keep {w w':World} {g b n:Nat} {l:List LEnt} (h:LogAt w g b n l) (hg:w'.heap[g]?=w.heap[g]?) (hb:w'.heap[b]?=w.heap[b]?):LogAt w' g b n l:=by
 obtain⟨D,⟨es,clock,hm,r⟩,hl⟩:=h.map
 exact⟨by have:=h.ix;unfold Holds at *;rw [hg];exact this,⟨D,⟨es,clock,hb.trans hm,r⟩,hl⟩,h.good,h.rows⟩
theorem LogAt.lt {w:World} {g b n:Nat} {l:List LEnt} (h:LogAt w g b n l):g<w.heap.size∧b<w.heap.size:=by
 obtain⟨D,hm,_⟩:=h.map
 exact⟨h.ix.lt,hm.lt⟩
theorem LogAt.below {w w':World} {g b n:Nat} {l:List LEnt} (h:LogAt w g b n l) (hb:Below w.heap.size w w'):LogAt w' g b n l:=h.keep (hb.block g h.lt.1) (hb.block b h.lt.2)
theorem LogAt.touch {w w':World} {g b n k:Nat} {l:List LEnt} (h:LogAt w g b n l) (ht:Touch k w w') (h1:g≠k) (h2:b≠k):LogAt w' g b n l:=h.keep (ht.block g h.lt.1 h1) (ht.block b h.lt.2 h2)
theorem LogAt.ne {w:World} {g b n:Nat} {l:List LEnt} (h:LogAt w g b n l):g≠b:=by
 obtain⟨D,⟨es,clock,hb,_⟩,_⟩:=h.map
 intro e
 have:=h.ix
 unfold Holds at this
 rw [e,hb] at this
 cases this
def hasL (l:List LEnt) (r s:Int):Bool:=l.any fun x=>x.r==r&&x.s==s
def zero21:List Value:=[.int .i64 0,.int .i64 0,.int .i64 0,.int .i64 0,.int .i64 0,.int .i64 0,.int .i64 0,.int .i64 0,.string ⟨#[]⟩,.string ⟨#[]⟩,.string ⟨#[]⟩,.string ⟨#[]⟩,.int .i64 0,.int .i64 0,.int .i64 0,.int .i64 0,.int .i64 0,.int .i64 0,.int .i64 0,.int .i64 0,.bool false]
theorem LogAt.look {w:World} {g b n:Nat} {l:List LEnt} (h:LogAt w g b n l) (r s:Int) (hr:(Lit.int .i64 r).wf=true) (hs:(Lit.int .i64 s).wf=true) :
  ∃ v:List Value,v.length=21∧v.toArray.all (·.oneCell')=true∧(∀ e∈l,e.r=r→e.s=s→v=e.L) ∧
   ∀ W,Below w.heap.size w W→(Instr.lookup 246 (.map (some b)) (.agg #[.int .i64 r,.int .i64 s]) true).run Tryz.prog W=.ok (.tuple #[.agg v.toArray,.bool (hasL l r s)]) W:=by
 have hz:∀ W,(zeroValue 45).run Tryz.prog W=.ok (.agg zero21.toArray) W:=fun W=>run_zero W (by kernel_rfl)
 obtain⟨D,hm,hl⟩:=h.map
 have hkey:=key_inst r s hr hs
 have hhas:=hl.has_inst h.wf r s hr hs
 have hex:∃ v:List Value,v.length=21∧v.toArray.all (·.oneCell')=true∧(∀ e∈l,e.r=r→e.s=s→v=e.L)∧D.atKey (keyL r s) (.held (.agg zero21.toArray))=.held (.agg v.toArray):=by
  cases hq:Maps.has D (keyL r s)
  ·refine⟨zero21,rfl,by simp [zero21,Value.oneCell'],fun e he h1 h2=>?_,Maps.atKey_of_not_has hq _⟩
   rw [hhas] at hq
   have:=List.any_eq_false.1 hq e he
   simp [h1,h2] at this
  ·rw [hhas] at hq
   obtain⟨e,he,hrs⟩:=List.any_eq_true.1 hq
   simp only [Bool.and_eq_true,beq_iff_eq] at hrs
   refine⟨e.L,(h.rows e he).1,(h.rows e he).2,fun e' he' h1 h2=>?_,?_⟩
   ·have hp:=hl.apart
    by_cases hee:e=e'
    ·rw [hee]
    ·exfalso
     obtain⟨i,hi,rfl⟩:=List.getElem_of_mem he
     obtain⟨j,hj,rfl⟩:=List.getElem_of_mem he'
     have hij:i≠j:=fun hc=>hee (by subst hc;rfl)
     rw [List.pairwise_iff_getElem] at hp
     rcases Nat.lt_or_gt_of_ne hij with hlt|hgt
     ·exact hp i j hi hj hlt ⟨hrs.1.trans h1.symm,hrs.2.trans h2.symm⟩
     ·exact hp j i hj hi hgt ⟨h1.trans hrs.1.symm,h2.trans hrs.2.symm⟩
   ·have:=hl.at_ e he (.held (.agg zero21.toArray))
    rw [LEnt.key,hrs.1,hrs.2] at this
    exact this
 obtain⟨v,h1,h2,h3,h4⟩:=hex
 refine⟨v,h1,h2,h3,fun W hb=>?_⟩
 obtain⟨es,clock,hbk,hrest⟩:=hm
 have hmW:W.ownsMap Tryz.prog 37 readN b n D:=⟨es,clock,(hb.block b h.lt.2).trans hbk,hrest⟩
 obtain⟨v',ps,hrun,hv⟩:=hmW.look_ok keyLaw Tryz.underlying246 (hz W) (zd:=.held (.agg zero21.toArray)) (zp:=[]) rfl hkey
 rw [h4] at hv
 unfold readN at hv
 injection hv with hv
 injection hv with hv _
 injection hv with hv
 rw [hv,hhas] at hrun
 exact hrun
theorem lcell_any (g b n:Nat) (l:List LEnt) (r s:Int) (w:World) (h:LogAt w g b n l) (hr:(Lit.int .i64 r).wf=true) (hs:(Lit.int .i64 s).wf=true) :
  Calls Tryz.prog 82 #[.pointer (some ⟨g,0,none⟩),.agg #[.int .i64 r,.int .i64 s]] w fun e w'=>∃ v:List Value,v.length=21∧v.toArray.all (·.oneCell')=true∧(∀ e∈l,e.r=r→e.s=s→v=e.L)∧(hasL l r s=false→v=zero21) ∧
   e=.returned (.tuple #[.agg v.toArray,.bool (hasL l r s)])∧Below w.heap.size w w':=by
 have HI:=qh h
 obtain⟨v,hv1,hv2,hv3,hv4⟩:=h.look r s hr hs
 have HL:=qh hv4;have HV3:=qh hv3;have HV2:=qh hv2
 clear hv4 hv3 hv2 h
 have hz21:zero21.length=21:=rfl
 generalize hf:hasL l r s=f at HL ⊢
 have HF:=qh hf;clear hf
 go_enter Tryz.func82,Tryz.ntmps82
 go_upto_region 1 with (fail)
 go_name_world W hW
 have hX:Holds W w.heap.size 37 [.int .i64 r,.int .i64 s]:=by rw [← hW];exact holds_past (holds_alloc w _ _) _
 have hZ:Holds W (w.heap.size+1) 45 zero21:=by
  rw [← hW]
  have:=holds_alloc (w.alloc (.cells #[.int .i64 r,.int .i64 s] 37)) 45 zero21
  rw [World.size_alloc] at this
  exact this
 have HB:=qh (show Below w.heap.size w W by rw [← hW];go_grown)
 clear hW
 have HX:=qh (show Holds W.drew w.heap.size 37 [.int .i64 r,.int .i64 s] from hX)
 have HZ:=qh (show Holds W.drew (w.heap.size+1) 45 zero21 from hZ)
 have HI:=qh ((HI.out.below HB.out).below (t_drew _ _))
 have HL:=qh (fun W' (hb:Below W.drew.heap.size W.drew W')=>HL.out W' (HB.out.trans (((t_drew w.heap.size W)).trans (hb.mono HB.out.size))))
 have HB:=qh (show Below w.heap.size w W.drew from HB.out.trans (t_drew w.heap.size W))
 clear hX hZ
 have hzl:w.heap.size+1<W.drew.heap.size:=HZ.out.lt
 generalize hgz:w.heap.size+1=gz at HZ hzl ⊢
 generalize w.heap.size=gi at HX ⊢
 refine wp_region_noPanic ?_
 refine wp_region_late (S:=fun W'=>Below W.drew.heap.size W.drew W') (X0:=[]) (by as_aux_lemma=>kernel_rfl) ?_
 generalize W.drew=wd at HX HZ HI HL HB hzl ⊢
 have hSn:Below wd.heap.size wd wd:=Below.refl _ _
 change wpAnyL _ _ _ _ _ _ 12 #[false,false,false,false,false,false,false,false,false,false,false,false] _ _
 refine mvA 0 (some 9) (fun _=>hSn) ?_
 simp only [Act.put,zA,zB,zC]
 refine mvA 1 (some 10) (fun _=>hSn) ?_
 simp only [Act.put,zA,zB,zC]
 refine mvA 2 (some 11) (fun _=>hSn) ?_
 simp only [Act.put,zA,zB,zC]
 refine tkA 3 [] (some 12) (?vg4) rfl (Or.inl ⟨by rfl,?hg4⟩) hSn ?rg4
 case hg4=>
  intro w hSw
  have m0:=(HI.out.below hSw).ix.cell 0
  simp only [List.getElem?_cons_zero] at m0
  go_simp
  try with_reducible rfl
 simp only [Act.put,zA,zB,zC]
 refine tkA 4 [] (some 13) (?vg5) rfl (Or.inl ⟨by rfl,?hg5⟩) hSn ?rg5
 case hg5=>
  intro w hSw
  have b0:=(holds_bel HX.out hSw).cell 0
  have b1:=(holds_bel HX.out hSw).cell 1
  simp only [yA,yB] at b0 b1
  go_simp
  try with_reducible rfl
 simp only [Act.put,zA,zB,zC]
 refine tkA 5 [] (some 14) (?vg6) rfl (Or.inl ⟨by rfl,?hg6⟩) hSn ?rg6
 case hg6=>
  intro w hSw
  have hlk:=HL.out w hSw
  go_simp
  try with_reducible rfl
 simp only [Act.put,zA,zB,zC]
 refine mvA 6 (some 8) (fun _=>hSn) ?_
 simp only [Act.put,zA,zB,zC]
 refine mvA 7 (some 15) (fun _=>hSn) ?_
 simp only [Act.put,zA,zB,zC]
 refine mvA 8 (some 16) (fun _=>hSn) ?_
 simp only [Act.put,zA,zB,zC]
 refine rd1 9 rfl (fun K hK=>?_)
 go_simp
 have hal:=fun o=>Below.alloc hSn hSn.size o
 refine hK.out _ _ (fun _=>hal _) ?_
 have hSn:=hal (.cells ([.int .i64 0,.int .i64 0,.int .i64 0,.int .i64 0,.int .i64 0,.int .i64 0,.int .i64 0,.int .i64 0,.string ⟨#[]⟩,.string ⟨#[]⟩,.string ⟨#[]⟩,.string ⟨#[]⟩,.int .i64 0,.int .i64 0,.int .i64 0,.int .i64 0,.int .i64 0,.int .i64 0,.int .i64 0,.int .i64 0,.bool false]:List Value).toArray 45)
 have HB6:=qh (show Holds (wd.alloc (.cells ([.int .i64 0,.int .i64 0,.int .i64 0,.int .i64 0,.int .i64 0,.int .i64 0,.int .i64 0,.int .i64 0,.string ⟨#[]⟩,.string ⟨#[]⟩,.string ⟨#[]⟩,.string ⟨#[]⟩,.int .i64 0,.int .i64 0,.int .i64 0,.int .i64 0,.int .i64 0,.int .i64 0,.int .i64 0,.int .i64 0,.bool false]:List Value).toArray 45)) wd.heap.size 45 zero21 from holds_alloc wd _ _)
 clear hal
 generalize wd.alloc (.cells ([.int .i64 0,.int .i64 0,.int .i64 0,.int .i64 0,.int .i64 0,.int .i64 0,.int .i64 0,.int .i64 0,.string ⟨#[]⟩,.string ⟨#[]⟩,.string ⟨#[]⟩,.string ⟨#[]⟩,.int .i64 0,.int .i64 0,.int .i64 0,.int .i64 0,.int .i64 0,.int .i64 0,.int .i64 0,.int .i64 0,.bool false]:List Value).toArray 45)=wa at hSn HB6 ⊢
 have hgn:gz≠wd.heap.size:=by omega
 clear hK
 try simp only [Act.put,zA,zB,zC]
 refine rd1 10 rfl (fun K hK=>?_)
 refine step_store_box rfl 45 (.tmp 6) (.tmp 15) wd.heap.size zero21 v rfl rfl rfl rfl HB6.out (by rw [hv1];kernel_rfl) (by rw [hv1];rfl) HV2.out ?_
 intro wb hh6 ht6
 have HB6:=qh hh6
 have hSn:=hSn.trans (ht6.below (Nat.le_refl _) hSn.size)
 have HZ:=qh ((holds_bel HZ.out hSn))
 clear hh6 ht6
 refine hK.out _ _ (fun _=>hSn) ?_
 clear hK
 try simp only [Act.put,zA,zB,zC]
 refine mvA 11 (some 7) (fun _=>hSn) ?_
 simp only [Act.put,zA,zB,zC]
 refine dnA (NoPanic.normal ?_)
 have HB7:=qh (show Below w.heap.size w wb from HB.out.trans (hSn.mono HB.out.size))
 have hg6:w.heap.size≤wd.heap.size:=HB.out.size
 clear hSn HI HX HL hzl
 generalize wd.heap.size=g6 at HB6 hgn hg6 ⊢
 cases f
 ·go_wp2_with (first
   | (refine wpList_store_whole rfl 45 _ _ gz zero21 zero21 rfl rfl rfl rfl HZ.out (by kernel_rfl) rfl (by simp [zero21,Value.oneCell']) ?_;intro wc hh ht))
  have HB8:=qh (HB7.out.trans (ht.below (by omega) HB7.out.size))
  refine bodyPost_ret (v:=.tuple #[.agg zero21.toArray,.bool false]) (results_cell_tmp Tryz.results82 _ _ gz zero21 _ _ rfl rfl hh.range0 Tryz.underlying45 rfl (by kernel_rfl)) rfl ?_
  refine⟨zero21,rfl,by simp [zero21,Value.oneCell'],fun e he h1 h2=>?_,rfl,rfl,HB8.out⟩
  have hn:=HF.out
  unfold hasL at hn
  have:=List.any_eq_false.1 hn e he
  simp [h1,h2] at this
 ·have HRG:=qh HB6.out.range0
  go_wp2_with (first
   | (refine wpList_load_mid rfl 45 _ rfl g6 0 rfl _ _ HRG.out Tryz.underlying45 rfl (by rw [hv1];kernel_rfl) ?_)
   | (refine wpList_store_whole rfl 45 _ _ gz zero21 v rfl rfl rfl rfl HZ.out (by rw [hv1];kernel_rfl) (by rw [hv1];rfl) HV2.out ?_;intro wc hh ht))
  have HB8:=qh (HB7.out.trans (ht.below (by omega) HB7.out.size))
  refine bodyPost_ret (v:=.tuple #[.agg v.toArray,.bool true]) (results_cell_tmp Tryz.results82 _ _ gz v _ _ rfl rfl hh.range0 Tryz.underlying45 rfl (by rw [hv1];kernel_rfl)) rfl ?_
  have h2:=HV2.out
  exact⟨v,hv1,by simpa using h2,HV3.out,by first|trivial|(intro hc;cases hc),rfl,HB8.out⟩
theorem gone_any (g b n:Nat) (l:List LEnt) (r s:Int) (w:World) (h:LogAt w g b n l) (hi:rightI r s=true) :
  Calls Tryz.prog 140 #[.pointer (some ⟨g,0,none⟩),.agg #[.int .i64 r,.int .i64 s]] w fun e w'=>e=.returned (.bool false)∧Below w.heap.size w w':=by
 have HI:=qh h;clear h
 have K1:=qh (fun W=>by have:=right_inst r s W;rw [hi] at this;exact this)
 have hr7:0≤r∧r<7∧1≤s∧s≤1073741824:=by
  rcases rightI_cases r s with⟨_,e⟩|⟨_,_,e⟩|⟨_,_,_,e⟩|⟨_,_,_,_,e⟩|⟨h1,h2,h3,h4,_⟩
  ·rw [hi] at e;cases e
  ·rw [hi] at e;cases e
  ·rw [hi] at e;cases e
  ·rw [hi] at e;cases e
  ·exact⟨h1,h2,h3,h4⟩
 clear hi
 obtain⟨h1,h2,h3,h4⟩:=hr7
 obtain⟨k,rfl⟩:∃ k:Nat,r=k:=⟨r.toNat,by omega⟩
 have hk7:k<7:=by omega
 go_enter Tryz.func140,Tryz.ntmps140
 go_upto_region 1 with (fail)
 go_name_world W hW
 have hX:Holds W w.heap.size 37 [.int .i64 k,.int .i64 s]:=by rw [← hW];exact holds_alloc w _ _
 have HB:=qh (show Below w.heap.size w W by rw [← hW];go_grown)
 clear hW
 have HI:=qh (HI.out.below HB.out)
 have i0:=fun d os=>hX.grown d os 0
 have i1:=fun d os=>hX.grown d os 1
 have hcut:=fun dd os=>HI.out.ix.grown dd os (1+k)
 rw [cut_get _ _ _ hk7] at hcut
 simp only [yA,yB] at i0 i1
 clear hX
 have hs0:¬ s≤0:=by omega
 refine wp_region_quiet_below (by kernel_rfl) (by kernel_rfl) ?_
 repeat go_big_quiet_step (first
  | (go_at_call 134;with_reducible exact calls_regrown fun W _=>K1.out W))
 refine wpQuiet_nil ?_
 intro w2 hw'
 have HB:=qh (below_next HB.out (below_of_regrown hw'))
 clear hw' i0 i1 hcut
 go_wp2_with fail
 go_ret
 exact⟨rfl,HB.out⟩
theorem may_up (c:Cm) (w:World) :
  Calls Tryz.prog 205 #[.agg (cellL 1 c true).toArray,.agg (cellL 3 c false).toArray] w fun e w'=>e=.returned (.bool true)∧Below w.heap.size w w':=by
 have KL:=qh (fun W=>below_zero W)
 go_enter Tryz.func205,Tryz.ntmps205
 go_upto_region 1 with (fail)
 have HA:=qh (show Holds ((w.alloc (.cells (cellL 1 c true).toArray 45)).alloc (.cells (cellL 3 c false).toArray 45)) w.heap.size 45 (cellL 1 c true) from holds_past (holds_alloc w _ _) _)
 have HC:=qh (show Holds ((w.alloc (.cells (cellL 1 c true).toArray 45)).alloc (.cells (cellL 3 c false).toArray 45)) (w.heap.size+1) 45 (cellL 3 c false) from by
  have:=holds_alloc (w.alloc (.cells (cellL 1 c true).toArray 45)) 45 (cellL 3 c false)
  rw [World.size_alloc] at this
  exact this)
 have HB:=qh (show Below w.heap.size w ((w.alloc (.cells (cellL 1 c true).toArray 45)).alloc (.cells (cellL 3 c false).toArray 45)) by go_grown)
 generalize (w.alloc (.cells (cellL 1 c true).toArray 45)).alloc (.cells (cellL 3 c false).toArray 45)=W at HA HC HB ⊢
 generalize w.heap.size+1=gc at HC ⊢
 have a0:=HA.out.cell 0
 have a1:=HA.out.cell 1
 have a2:=HA.out.cell 2
 have a3:=HA.out.cell 3
 have a4:=HA.out.cell 4
 simp only [cellL,yA,yB] at a0 a1 a2 a3 a4
 have c0:=HC.out.cell 0
 have c1:=HC.out.cell 1
 have c2:=HC.out.cell 2
 have c3:=HC.out.cell 3
 have c4:=HC.out.cell 4
 simp only [cellL,yA,yB] at c0 c1 c2 c3 c4
 go_wp2_with fail
 refine (KL.out _).mono ?_
 rintro e w1 ⟨rfl,hb⟩
 have HA:=qh (holds_bel HA.out hb);have HC:=qh (holds_bel HC.out hb);have HB:=qh (below_next HB.out hb)
 clear hb a0 a1 a2 a3 a4 c0 c1 c2 c3 c4
 have a0:=HA.out.cell 0
 have a1:=HA.out.cell 1
 have a2:=HA.out.cell 2
 have a3:=HA.out.cell 3
 have a4:=HA.out.cell 4
 simp only [cellL,yA,yB] at a0 a1 a2 a3 a4
 have c0:=HC.out.cell 0
 have c1:=HC.out.cell 1
 have c2:=HC.out.cell 2
 have c3:=HC.out.cell 3
 have c4:=HC.out.cell 4
 simp only [cellL,yA,yB] at c0 c1 c2 c3 c4
 go_wp2_with fail
 refine (KL.out _).mono ?_
 rintro e w1 ⟨rfl,hb⟩
 have HA:=qh (holds_bel HA.out hb);have HC:=qh (holds_bel HC.out hb);have HB:=qh (below_next HB.out hb)
 clear hb a0 a1 a2 a3 a4 c0 c1 c2 c3 c4
 have a0:=HA.out.cell 0
 have a1:=HA.out.cell 1
 have a2:=HA.out.cell 2
 have a3:=HA.out.cell 3
 have a4:=HA.out.cell 4
 simp only [cellL,yA,yB] at a0 a1 a2 a3 a4
 have c0:=HC.out.cell 0
 have c1:=HC.out.cell 1
 have c2:=HC.out.cell 2
 have c3:=HC.out.cell 3
 have c4:=HC.out.cell 4
 simp only [cellL,yA,yB] at c0 c1 c2 c3 c4
 go_wp2_with fail
 go_ret
 exact⟨rfl,HB.out⟩
theorem cellL_row (st:Int) (c:Cm) (sm:Bool):(cellL st c sm).length=21∧(cellL st c sm).toArray.all (·.oneCell')=true:=⟨rfl,by simp [cellL,Value.oneCell']⟩
theorem lput_rows {l:List LEnt} (h:∀ e∈l,e.L.length=21∧e.L.toArray.all (·.oneCell')=true) {e:LEnt} (he:e.L.length=21∧e.L.toArray.all (·.oneCell')=true):∀ x∈lputE l e,x.L.length=21∧x.L.toArray.all (·.oneCell')=true:=by
 unfold lputE
 split
 ·intro x hx
  obtain⟨y,hy,rfl⟩:=List.mem_map.1 hx
  split
  ·exact he
  ·exact h y hy
 ·intro x hx
  rcases List.mem_append.1 hx with hx|hx
  ·exact h x hx
  ·rw [List.mem_singleton.1 hx];exact he
theorem step_mapUpdate {H:Type} {P:Program} {ops:Array Oper} {w:World} {o:Oper} {a:Act} {K:Act→World→Prop} {Q:Exit→Act→World→Prop} {E:Prop} (hgd:o.guard=none)
  (m x v:Operand) (t:TypeId) (hop:o.op=Op.mapUpdate t m x v)
  (k e:TypeId) (Kd:Keyed P k) (ht:P.underlying t=some (.map k e)) (R:Value→Option (DataW H × List MemPlace)) (b n:Nat) (D:DataW H)
  (hm:a.eval m=.map (some b)) (hown:w.ownsMap P k R b n D) (hn:n<maxLen) (key val:Value) (kl:Lit) (hx:a.eval x=key) (hv:a.eval v=val) (hkey:keyOf P k key=some kl)
  (d:DataW H) (ps:List MemPlace) (hval:R val=some (d,ps))
  (hK:∀ w',w'.ownsMap P k R b (n+1) (D.put kl d)→w.grownBy w' (some b)→K (a.put o.dst undef) w'):if Region.wanted o (yielded ops a.tmps)=true then Oper.wp P o a w K Q else E:=by
 have hwd:Region.wanted o (yielded ops a.tmps)=true:=by simp [Region.wanted,hgd]
 rw [if_pos hwd]
 exact oper_mapUpdate m x v t hop k e Kd ht R b n D hm hown hn key val kl hx hv hkey d ps hval hK
theorem lset_any (g b n:Nat) (l:List LEnt) (r s st:Int) (c:Cm) (sm:Bool) (w:World) (h:LogAt w g b n l) (hn:n≤1000) (hi:rightI r s=true) (hc:CmOk c) (hst:(st=1∧sm=true)∨(st=3∧sm=false))
  (hwas:hasL l r s=false∨(hasL l r s=true∧st=3∧sm=false∧∃ e∈l,e.r=r∧e.s=s∧e.L=cellL 1 c true)) :
  Calls Tryz.prog 120 #[.pointer (some ⟨g,0,none⟩),.agg #[.int .i64 r,.int .i64 s],.agg (cellL st c sm).toArray] w fun e w'=>
   e=.returned (.bool true)∧LogAt w' g b (n+1) (lputE l ⟨r,s,cellL st c sm⟩)∧Touch b w w':=by
 have hr7:0≤r∧r<7∧1≤s∧s≤1073741824:=by
  rcases rightI_cases r s with⟨_,e⟩|⟨_,_,e⟩|⟨_,_,_,e⟩|⟨_,_,_,_,e⟩|⟨h1,h2,h3,h4,_⟩
  ·rw [hi] at e;cases e
  ·rw [hi] at e;cases e
  ·rw [hi] at e;cases e
  ·rw [hi] at e;cases e
  ·exact⟨h1,h2,h3,h4⟩
 have HR7:=qh hr7
 have hwf:(Lit.int .i64 r).wf=true∧(Lit.int .i64 s).wf=true:=⟨WalkArith.wf_i64 (by omega),WalkArith.wf_i64 (by omega)⟩
 obtain⟨v,hv1,hv2,hv3,hv4⟩:=h.look r s hwf.1 hwf.2
 have HKY:=qh (key_inst r s hwf.1 hwf.2)
 have HWF:=qh hwf
 have HI:=qh h
 have HL:=qh hv4;have HV2:=qh hv2
 have KI:=qh (fun W=>by have:=right_inst r s W;rw [hi] at this;exact this)
 have KG:=qh (fun W (h:LogAt W g b n l)=>gone_any g b n l r s W h hi)
 have KC:=qh (fun W=>rightCell_any st c sm W hst hc.right)
 have KM:=qh (fun W=>may_up c W)
 have hf2:hasL l r s=false∨(hasL l r s=true∧st=3∧sm=false∧v=cellL 1 c true):=by
  rcases hwas with hc|⟨hc,h3,h4,e,he,h1,h2,hL⟩
  ·exact .inl hc
  ·exact .inr ⟨hc,h3,h4,by rw [hv3 e he h1 h2,hL]⟩
 have hle:∀ b0,b0=b→b0<w.heap.size:=fun _ hb=>hb▸h.lt.2
 have hbne:g≠b:=h.ne
 clear hv4 hv3 hv2 h hwf hr7 hc hst hi hwas
 generalize hasL l r s=f at HL hf2
 go_enter Tryz.func120,Tryz.ntmps120
 go_upto_region 1 with (fail)
 have HX:=qh (show Holds ((w.alloc (.cells #[.int .i64 r,.int .i64 s] 37)).alloc (.cells (cellL st c sm).toArray 45)) w.heap.size 37 [.int .i64 r,.int .i64 s] from holds_past (holds_alloc w _ _) _)
 have HC:=qh (show Holds ((w.alloc (.cells #[.int .i64 r,.int .i64 s] 37)).alloc (.cells (cellL st c sm).toArray 45)) (w.heap.size+1) 45 (cellL st c sm) from by
  have:=holds_alloc (w.alloc (.cells #[.int .i64 r,.int .i64 s] 37)) 45 (cellL st c sm)
  rw [World.size_alloc] at this
  exact this)
 have HB:=qh (show Below w.heap.size w ((w.alloc (.cells #[.int .i64 r,.int .i64 s] 37)).alloc (.cells (cellL st c sm).toArray 45)) by go_grown)
 have HI:=qh (HI.out.below HB.out)
 generalize (w.alloc (.cells #[.int .i64 r,.int .i64 s] 37)).alloc (.cells (cellL st c sm).toArray 45)=W at HX HC HB HI ⊢
 have hgx:b≠w.heap.size∧b≠w.heap.size+1∧b<w.heap.size:=by have:=hle b rfl;omega
 clear hle
 generalize hgc:w.heap.size+1=gc at HC hgx ⊢
 generalize hgx0:w.heap.size=gx at HX hgx ⊢
 rw [← hgx0]
 rw [hgx0]
 have i0:=HX.out.cell 0
 have i1:=HX.out.cell 1
 simp only [yA,yB] at i0 i1
 go_wp2_with fail
 refine (KI.out _).mono ?_
 rintro e w1 ⟨rfl,hb⟩
 have HI:=qh (HI.out.below hb);have HX:=qh (holds_bel HX.out hb);have HC:=qh (holds_bel HC.out hb);have HB:=qh (below_next HB.out hb)
 clear hb i0 i1 KI
 have i0:=HX.out.cell 0
 have i1:=HX.out.cell 1
 simp only [yA,yB] at i0 i1
 go_wp2_with fail
 refine (KG.out _ HI.out).mono ?_
 rintro e w2 ⟨rfl,hb⟩
 have HI:=qh (HI.out.below hb);have HX:=qh (holds_bel HX.out hb);have HC:=qh (holds_bel HC.out hb);have HB:=qh (below_next HB.out hb)
 clear hb i0 i1 KG
 go_wp2_with (refine wpList_load_guarded (by rfl) 45 _ rfl gc 0 rfl _ _ HC.out.range0 Tryz.underlying45 rfl (by kernel_rfl) ?_)
 refine (KC.out _).mono ?_
 rintro e W3 ⟨rfl,hb⟩
 have HI:=qh (HI.out.below hb);have HX:=qh (holds_bel HX.out hb);have HC:=qh (holds_bel HC.out hb);have HB:=qh (below_next HB.out hb)
 clear hb KC
 go_upto_region 3 with (fail)
 have HB:=qh (show Below w.heap.size w W3.drew from HB.out.trans (t_drew w.heap.size W3))
 have HX:=qh (show Holds W3.drew gx 37 [.int .i64 r,.int .i64 s] from HX.out)
 have HC:=qh (show Holds W3.drew gc 45 (cellL st c sm) from HC.out)
 have HI:=qh (HI.out.below (t_drew _ _))
 have HL:=qh (fun W' (hb:Below W3.drew.heap.size W3.drew W')=>HL.out W' (HB.out.trans (hb.mono HB.out.size)))
 refine wp_region_noPanic ?_
 refine wp_region_late (S:=fun W'=>Below W3.drew.heap.size W3.drew W') (X0:=[]) (by as_aux_lemma=>kernel_rfl) ?_
 generalize W3.drew=wd at HX HC HI HL HB ⊢
 have hSn:Below wd.heap.size wd wd:=Below.refl _ _
 change wpAnyL _ _ _ _ _ _ 12 #[false,false,false,false,false,false,false,false,false,false,false,false] _ _
 refine mvA 0 (some 23) (fun _=>hSn) ?_
 simp only [Act.put,zA,zB,zC]
 refine mvA 1 (some 24) (fun _=>hSn) ?_
 simp only [Act.put,zA,zB,zC]
 refine mvA 2 (some 25) (fun _=>hSn) ?_
 simp only [Act.put,zA,zB,zC]
 refine tkA 3 [] (some 26) (?vg14) rfl (Or.inl ⟨by rfl,?hg14⟩) hSn ?rg14
 case hg14=>
  intro w hSw
  have m0:=(HI.out.below hSw).ix.cell 0
  simp only [List.getElem?_cons_zero] at m0
  go_simp
  try with_reducible rfl
 simp only [Act.put,zA,zB,zC]
 refine tkA 4 [] (some 27) (?vg15) rfl (Or.inl ⟨by rfl,?hg15⟩) hSn ?rg15
 case hg15=>
  intro w hSw
  have b0:=(holds_bel HX.out hSw).cell 0
  have b1:=(holds_bel HX.out hSw).cell 1
  simp only [yA,yB] at b0 b1
  go_simp
  try with_reducible rfl
 simp only [Act.put,zA,zB,zC]
 refine tkA 5 [] (some 28) (?vg16) rfl (Or.inl ⟨by rfl,?hg16⟩) hSn ?rg16
 case hg16=>
  intro w hSw
  have hlk:=HL.out w hSw
  go_simp
  try with_reducible rfl
 simp only [Act.put,zA,zB,zC]
 refine mvA 6 (some 22) (fun _=>hSn) ?_
 simp only [Act.put,zA,zB,zC]
 refine mvA 7 (some 29) (fun _=>hSn) ?_
 simp only [Act.put,zA,zB,zC]
 refine mvA 8 (some 30) (fun _=>hSn) ?_
 simp only [Act.put,zA,zB,zC]
 refine rd1 9 rfl (fun K hK=>?_)
 go_simp
 have hal:=fun o=>Below.alloc hSn hSn.size o
 refine hK.out _ _ (fun _=>hal _) ?_
 have hSn:=hal (.cells ([.int .i64 0,.int .i64 0,.int .i64 0,.int .i64 0,.int .i64 0,.int .i64 0,.int .i64 0,.int .i64 0,.string ⟨#[]⟩,.string ⟨#[]⟩,.string ⟨#[]⟩,.string ⟨#[]⟩,.int .i64 0,.int .i64 0,.int .i64 0,.int .i64 0,.int .i64 0,.int .i64 0,.int .i64 0,.int .i64 0,.bool false]:List Value).toArray 45)
 have HB6:=qh (show Holds (wd.alloc (.cells ([.int .i64 0,.int .i64 0,.int .i64 0,.int .i64 0,.int .i64 0,.int .i64 0,.int .i64 0,.int .i64 0,.string ⟨#[]⟩,.string ⟨#[]⟩,.string ⟨#[]⟩,.string ⟨#[]⟩,.int .i64 0,.int .i64 0,.int .i64 0,.int .i64 0,.int .i64 0,.int .i64 0,.int .i64 0,.int .i64 0,.bool false]:List Value).toArray 45)) wd.heap.size 45 zero21 from holds_alloc wd _ _)
 clear hal
 generalize wd.alloc (.cells ([.int .i64 0,.int .i64 0,.int .i64 0,.int .i64 0,.int .i64 0,.int .i64 0,.int .i64 0,.int .i64 0,.string ⟨#[]⟩,.string ⟨#[]⟩,.string ⟨#[]⟩,.string ⟨#[]⟩,.int .i64 0,.int .i64 0,.int .i64 0,.int .i64 0,.int .i64 0,.int .i64 0,.int .i64 0,.int .i64 0,.bool false]:List Value).toArray 45)=wa at hSn HB6 ⊢
 clear hK
 try simp only [Act.put,zA,zB,zC]
 refine rd1 10 rfl (fun K hK=>?_)
 refine step_store_box rfl 45 (.tmp 7) (.tmp 29) wd.heap.size zero21 v rfl rfl rfl rfl HB6.out (by rw [hv1];kernel_rfl) (by rw [hv1];rfl) HV2.out ?_
 intro wb hh6 ht6
 have HB6:=qh hh6
 have hSn:=hSn.trans (ht6.below (Nat.le_refl _) hSn.size)
 clear hh6 ht6
 refine hK.out _ _ (fun _=>hSn) ?_
 clear hK
 try simp only [Act.put,zA,zB,zC]
 refine mvA 11 (some 8) (fun _=>hSn) ?_
 simp only [Act.put,zA,zB,zC]
 refine dnA (NoPanic.normal ?_)
 have HI:=qh (HI.out.below hSn);have HX:=qh (holds_bel HX.out hSn);have HC:=qh (holds_bel HC.out hSn)
 have HB:=qh (show Below w.heap.size w wb from HB.out.trans (hSn.mono HB.out.size))
 clear hSn HL
 generalize wd.heap.size=g7 at HB6 ⊢
 have hjoin:∀ (f':Bool),True:=fun _=>trivial
 rcases hf2 with rfl|⟨rfl,rfl,rfl,rfl⟩
 ·go_upto_region 6 with (fail)
  have HB:=qh (show Below w.heap.size w wb.drew from HB.out.trans (t_drew w.heap.size wb))
  have HX:=qh (show Holds wb.drew gx 37 [.int .i64 r,.int .i64 s] from HX.out)
  have HC:=qh (holds_bel HC.out (t_drew _ _))
  have HI:=qh (HI.out.below (t_drew _ _))
  refine wp_region_noPanic ?_
  refine wp_region_late (S:=fun W'=>Below wb.drew.heap.size wb.drew W') (X0:=[6]) (by as_aux_lemma=>kernel_rfl) ?_
  generalize wb.drew=wd at HX HC HI HB ⊢
  have hSn:Below wd.heap.size wd wd:=Below.refl _ _
  change wpAnyL _ _ _ _ _ _ 7 #[false,false,false,false,false,false,false] _ _
  refine mvA 0 (some 38) (fun _=>hSn) ?_
  simp only [Act.put,zA,zB,zC]
  refine mvA 1 (some 39) (fun _=>hSn) ?_
  simp only [Act.put,zA,zB,zC]
  refine mvA 2 (some 40) (fun _=>hSn) ?_
  simp only [Act.put,zA,zB,zC]
  refine tkA 3 [6] (some 41) (?vg24) rfl (Or.inl ⟨by rfl,?hg24⟩) hSn ?rg24
  case hg24=>
   intro w hSw
   have m0:=(HI.out.below hSw).ix.cell 0
   simp only [List.getElem?_cons_zero] at m0
   go_simp
   try with_reducible rfl
  simp only [Act.put,zA,zB,zC]
  refine tkA 4 [6] (some 42) (?vg25) rfl (Or.inl ⟨by rfl,?hg25⟩) hSn ?rg25
  case hg25=>
   intro w hSw
   have b0:=(holds_bel HX.out hSw).cell 0
   have b1:=(holds_bel HX.out hSw).cell 1
   simp only [yA,yB] at b0 b1
   go_simp
   try with_reducible rfl
  simp only [Act.put,zA,zB,zC]
  refine tkA 5 [6] (some 43) (.agg (cellL st c sm).toArray) rfl (yieldsIf_load_mid (by rfl) 45 _ rfl gc 0 rfl (cellL st c sm) _ (fun w hSw=>(holds_bel HC.out hSw).range0) Tryz.underlying45 rfl (by as_aux_lemma=>kernel_rfl)) hSn ?rg26
  simp only [Act.put,zA,zB,zC]
  refine rd1 6 rfl (fun K hK=>?_)
  obtain⟨D,hown,hl⟩:=HI.out.map
  refine step_mapUpdate rfl (.tmp 41) (.tmp 42) (.tmp 43) 246 rfl 37 45 keyLaw Tryz.underlying246 readN b n D rfl hown (by unfold maxLen;omega) _ _ _ rfl rfl HKY.out _ [] rfl ?_
  intro w9 ho9 hg9
  have HI9:=qh (show LogAt w9 g b (n+1) (lputE l ⟨r,s,cellL st c sm⟩) from ⟨by have:=HI.out.ix.touch (touch_of_grownBy hg9) hbne;exact this,⟨_,ho9,hl.put HI.out.wf ⟨r,s,cellL st c sm⟩ HWF.out⟩,lputE_good HI.out.good ⟨⟨HR7.out.1,HR7.out.2.1⟩,HR7.out.2.2⟩,lput_rows HI.out.rows (cellL_row _ _ _)⟩)
  clear ho9 hl hown
  have HT9:=qh (touch_of_grownBy hg9)
  clear hg9
  refine hK.out _ _ nlA ?_
  clear hK
  try simp only [Act.put,zA,zB,zC]
  refine dnA (NoPanic.normal ?_)
  have HT:=qh (show Touch b w w9 from ((Touch.of_below HB.out).trans HT9.out))
  clear HI HX HC HB HT9
  go_wp2_with fail
  go_ret
  exact⟨rfl,HI9.out,HT.out⟩
 ·go_wp2_with (first
   | (refine wpList_load_guarded (by rfl) 45 _ rfl g7 0 rfl _ _ HB6.out.range0 Tryz.underlying45 rfl (by kernel_rfl) ?_)
   | (refine wpList_load_guarded (by rfl) 45 _ rfl gc 0 rfl _ _ HC.out.range0 Tryz.underlying45 rfl (by kernel_rfl) ?_))
  refine (KM.out _).mono ?_
  rintro e wb ⟨rfl,hb⟩
  have HI:=qh (HI.out.below hb);have HX:=qh (holds_bel HX.out hb);have HC:=qh (holds_bel HC.out hb);have HB:=qh (below_next HB.out hb)
  clear hb HB6
  go_upto_region 6 with (fail)
  have HB:=qh (show Below w.heap.size w wb.drew from HB.out.trans (t_drew w.heap.size wb))
  have HX:=qh (show Holds wb.drew gx 37 [.int .i64 r,.int .i64 s] from HX.out)
  have HC:=qh (holds_bel HC.out (t_drew _ _))
  have HI:=qh (HI.out.below (t_drew _ _))
  refine wp_region_noPanic ?_
  refine wp_region_late (S:=fun W'=>Below wb.drew.heap.size wb.drew W') (X0:=[6]) (by as_aux_lemma=>kernel_rfl) ?_
  generalize wb.drew=wd at HX HC HI HB ⊢
  have hSn:Below wd.heap.size wd wd:=Below.refl _ _
  change wpAnyL _ _ _ _ _ _ 7 #[false,false,false,false,false,false,false] _ _
  refine mvA 0 (some 38) (fun _=>hSn) ?_
  simp only [Act.put,zA,zB,zC]
  refine mvA 1 (some 39) (fun _=>hSn) ?_
  simp only [Act.put,zA,zB,zC]
  refine mvA 2 (some 40) (fun _=>hSn) ?_
  simp only [Act.put,zA,zB,zC]
  refine tkA 3 [6] (some 41) (?vg30) rfl (Or.inl ⟨by rfl,?hg30⟩) hSn ?rg30
  case hg30=>
   intro w hSw
   have m0:=(HI.out.below hSw).ix.cell 0
   simp only [List.getElem?_cons_zero] at m0
   go_simp
   try with_reducible rfl
  simp only [Act.put,zA,zB,zC]
  refine tkA 4 [6] (some 42) (?vg31) rfl (Or.inl ⟨by rfl,?hg31⟩) hSn ?rg31
  case hg31=>
   intro w hSw
   have b0:=(holds_bel HX.out hSw).cell 0
   have b1:=(holds_bel HX.out hSw).cell 1
   simp only [yA,yB] at b0 b1
   go_simp
   try with_reducible rfl
  simp only [Act.put,zA,zB,zC]
  refine tkA 5 [6] (some 43) (.agg (cellL 3 c false).toArray) rfl (yieldsIf_load_mid (by rfl) 45 _ rfl gc 0 rfl (cellL 3 c false) _ (fun w hSw=>(holds_bel HC.out hSw).range0) Tryz.underlying45 rfl (by as_aux_lemma=>kernel_rfl)) hSn ?rg32
  simp only [Act.put,zA,zB,zC]
  refine rd1 6 rfl (fun K hK=>?_)
  obtain⟨D,hown,hl⟩:=HI.out.map
  refine step_mapUpdate rfl (.tmp 41) (.tmp 42) (.tmp 43) 246 rfl 37 45 keyLaw Tryz.underlying246 readN b n D rfl hown (by unfold maxLen;omega) _ _ _ rfl rfl HKY.out _ [] rfl ?_
  intro w9 ho9 hg9
  have HI9:=qh (show LogAt w9 g b (n+1) (lputE l ⟨r,s,cellL 3 c false⟩) from ⟨by have:=HI.out.ix.touch (touch_of_grownBy hg9) hbne;exact this,⟨_,ho9,hl.put HI.out.wf ⟨r,s,cellL 3 c false⟩ HWF.out⟩,lputE_good HI.out.good ⟨⟨HR7.out.1,HR7.out.2.1⟩,HR7.out.2.2⟩,lput_rows HI.out.rows (cellL_row _ _ _)⟩)
  clear ho9 hl hown
  have HT9:=qh (touch_of_grownBy hg9)
  clear hg9
  refine hK.out _ _ nlA ?_
  clear hK
  try simp only [Act.put,zA,zB,zC]
  refine dnA (NoPanic.normal ?_)
  have HT:=qh (show Touch b w w9 from ((Touch.of_below HB.out).trans HT9.out))
  clear HI HX HC HB HT9
  go_wp2_with fail
  go_ret
  exact⟨rfl,HI9.out,HT.out⟩
end
end Go.Proofs.YtimdpiifpibgfaaGreatDoor
