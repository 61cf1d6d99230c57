/- For every input the law TopFast returns true (a part of the proof). Condition: the listed variables start as the program's text lays them. -/
import Derived.Deep.RegionHeld3
import Derived.Test.YtimdpiifpibgfaaGreatDoorQf11
set_option linter.unusedVariables false
set_option linter.unusedSimpArgs false
set_option maxRecDepth 20000
set_option maxHeartbeats 16000000
namespace Go.Proofs.YtimdpiifpibgfaaGreatDoor
section
open Go.RowKit
theorem pballot_any (v:Value) (len:Nat) (w:World) (h:Blob w v len) (hl:len≤500000) :
  Calls Tryz.prog 286 #[v,.agg #[.int .i64 0,.int .i64 0]] w fun e w'=>∃ v' m,e=.returned v'∧len+2≤m∧m≤len+20∧Own8 w' w.heap.size v' m∧Below w.heap.size w w':=by
 have KN:=qh (fun v len n W (h:Blob W v len) (hl:len≤1000000)=>pnum_any v len n W h hl)
 have HV:=qh h;clear h
 go_enter Tryz.func286,Tryz.ntmps286
 go_upto_region 1 with (fail)
 have HX:=qh (holds_alloc w 39 [.int .i64 0,.int .i64 0])
 go_name_world W hW
 have HB:=qh (show Below w.heap.size w W by rw [← hW];go_grown)
 rw [hW] at HX
 have HX:=qh (show Holds W.drew w.heap.size 39 [.int .i64 0,.int .i64 0] from HX.out)
 have HV:=qh (show Blob W.drew v len from (HV.out.below HB.out).below (t_drew _ _))
 clear hW
 refine wp_region_noPanic ?_
 refine wp_region_late (S:=fun W'=>Below W.drew.heap.size W.drew W') (X0:=[]) (by as_aux_lemma=>kernel_rfl) ?_
 have hSn:Below W.drew.heap.size W.drew W.drew:=Below.refl _ _
 change wpAnyL _ _ _ _ _ _ 8 #[false,false,false,false,false,false,false,false] _ _
 refine mvA 0 (some 5) (fun _=>hSn) ?_
 simp only [Act.put,zA,zB,zC]
 refine mvA 1 (some 6) (fun _=>hSn) ?_
 simp only [Act.put,zA,zB,zC]
 refine tkA 2 [] (some 7) (?vg3) rfl (Or.inl ⟨by rfl,?hg3⟩) hSn ?rg3
 case hg3=>
  intro w hSw
  have b0:=(holds_bel HX.out hSw).cell 0
  have b1:=(holds_bel HX.out hSw).cell 1
  simp only [yA,yB] at b0 b1
  go_simp
  try with_reducible rfl
 simp only [Act.put,zA,zB,zC]
 refine mvA 4 (some 9) (fun _=>hSn) ?_
 simp only [Act.put,zA,zB,zC]
 refine tkA 5 [] (some 10) (?vg5) rfl (Or.inl ⟨by rfl,?hg5⟩) hSn ?rg5
 case hg5=>
  intro w hSw
  have b0:=(holds_bel HX.out hSw).cell 0
  have b1:=(holds_bel HX.out hSw).cell 1
  simp only [yA,yB] at b0 b1
  go_simp
  try with_reducible rfl
 simp only [Act.put,zA,zB,zC]
 refine rd1 3 rfl (fun K hK=>?_)
 go_simp
 refine (KN.out _ len 0 _ HV.out (by omega) (by omega)).mono ?_
 rintro e w1 ⟨v1,m1,rfl,lo1,hi1,ho1,hb1⟩
 have HO1:=qh (Own8.mono (B':=W.heap.size) ho1 hSn.size)
 have hSn:=below_next hSn hb1
 clear ho1 hb1
 refine hK.out _ _ (fun _=>hSn) ?_
 clear hK
 try simp only [Act.put,zA,zB,zC]
 refine rd1 6 rfl (fun K hK=>?_)
 go_simp
 refine (KN.out _ _ 0 _ HO1.out.blob (by omega) (by omega)).mono ?_
 rintro e w2 ⟨v2,m2,rfl,lo2,hi2,ho2,hb2⟩
 have HO2:=qh (Own8.mono (B':=W.heap.size) ho2 hSn.size)
 have hSn:=below_next hSn hb2
 clear ho2 hb2
 refine hK.out _ _ (fun _=>hSn) ?_
 clear hK
 try simp only [Act.put,zA,zB,zC]
 refine mvA 7 (some 4) (fun _=>hSn) ?_
 simp only [Act.put,zA,zB,zC]
 refine dnA (NoPanic.normal ?_)
 go_wp2_with fail
 go_ret
 exact⟨_,m2,rfl,by omega,by omega,HO2.out.mono HB.out.size,HB.out.trans ((below_next (t_drew W.heap.size W) hSn).mono HB.out.size)⟩
structure CmOk (c:Cm):Prop where
 right:rightA c.k c.c c.s c.a c.b c.o c.v=true
 kk:1≤c.k∧c.k≤5
 cc:1≤c.c∧c.c≤8
 ss:1≤c.s∧c.s≤1099511627776
 aa:c.a.size≤64
 bb:c.b.size≤64
 oo:c.o.size≤64
 vv:c.v.size≤64
theorem pcmd_any (v:Value) (len:Nat) (c:Cm) (w:World) (h:Blob w v len) (hl:len≤500000) (hc:CmOk c) :
  Calls Tryz.prog 287 #[v,.agg #[.int .i64 c.k,.int .i64 c.c,.int .i64 c.s,.string c.a,.string c.b,.string c.o,.string c.v]] w fun e w'=>∃ v' m,e=.returned v'∧len+1≤m∧m≤len+300∧Own8 w' w.heap.size v' m∧Below w.heap.size w w':=by
 have KN:=qh (fun v len n W (h:Blob W v len) (hl:len≤1000000)=>pnum_any v len n W h hl)
 have KT:=qh (fun v len t W (h:Blob W v len) (hl:len≤1000000)=>ptext_any v len t W h hl)
 have KR:=qh (fun W=>by have:=right_cmd c.k c.c c.s c.a c.b c.o c.v W;rw [hc.right] at this;exact this)
 obtain⟨_,⟨hk1,hk5⟩,⟨hc1,hc8⟩,⟨hs1,hs2⟩,ha,hb,ho,hv⟩:=hc
 have HV:=qh h;clear h
 go_enter Tryz.func287,Tryz.ntmps287
 go_wp2_with fail
 have HX:=qh (show Holds (w.alloc (.cells ([.int .i64 c.k,.int .i64 c.c,.int .i64 c.s,.string c.a,.string c.b,.string c.o,.string c.v]:List Value).toArray 23)) w.heap.size 23 [.int .i64 c.k,.int .i64 c.c,.int .i64 c.s,.string c.a,.string c.b,.string c.o,.string c.v] from holds_alloc w _ _)
 have HB:=qh (show Below w.heap.size w (w.alloc (.cells ([.int .i64 c.k,.int .i64 c.c,.int .i64 c.s,.string c.a,.string c.b,.string c.o,.string c.v]:List Value).toArray 23)) by go_grown)
 refine (KR.out _).mono ?_
 rintro e W1 ⟨rfl,hb1⟩
 have HX:=qh (holds_bel HX.out hb1);have HB:=qh (below_next HB.out hb1)
 have HV:=qh (HV.out.below HB.out)
 clear hb1
 have x0:=HX.out.cell 0
 simp only [List.getElem?_cons_zero] at x0
 have hk0:(c.k==0)=false:=by simp;omega
 go_wp2_with fail
 refine (KN.out _ len _ _ HV.out (by omega) (by omega)).mono ?_
 rintro e W ⟨v0,m0,rfl,lo0,hi0,ho0,hb0⟩
 have HX:=qh (holds_bel HX.out hb0)
 have HB:=qh (below_next HB.out hb0)
 have HV:=qh ho0.blob
 clear ho0 hb0 x0
 have x0:=HX.out.cell 0
 simp only [List.getElem?_cons_zero] at x0
 go_upto_region 6 with (fail)
 clear x0
 have HX:=qh (show Holds W.drew w.heap.size 23 [.int .i64 c.k,.int .i64 c.c,.int .i64 c.s,.string c.a,.string c.b,.string c.o,.string c.v] from HX.out)
 have HV:=qh (show Blob W.drew v0 m0 from HV.out.below (t_drew _ _))
 refine wp_region_noPanic ?_
 refine wp_region_late (S:=fun W'=>Below W.drew.heap.size W.drew W') (X0:=[]) (by as_aux_lemma=>kernel_rfl) ?_
 have hSn:Below W.drew.heap.size W.drew W.drew:=Below.refl _ _
 change wpAnyL _ _ _ _ _ _ 11 #[false,false,false,false,false,false,false,false,false,false,false] _ _
 refine mvA 0 (some 18) (fun _=>hSn) ?_
 simp only [Act.put,zA,zB,zC]
 refine mvA 1 (some 19) (fun _=>hSn) ?_
 simp only [Act.put,zA,zB,zC]
 refine tkA 2 [] (some 20) (?vg9) rfl (Or.inl ⟨by rfl,?hg9⟩) hSn ?rg9
 case hg9=>
  intro w hSw
  have b0:=(holds_bel HX.out hSw).cell 0
  have b1:=(holds_bel HX.out hSw).cell 1
  have b2:=(holds_bel HX.out hSw).cell 2
  have b3:=(holds_bel HX.out hSw).cell 3
  have b4:=(holds_bel HX.out hSw).cell 4
  have b5:=(holds_bel HX.out hSw).cell 5
  have b6:=(holds_bel HX.out hSw).cell 6
  simp only [yA,yB] at b0 b1 b2 b3 b4 b5 b6
  go_simp
  try with_reducible rfl
 simp only [Act.put,zA,zB,zC]
 refine mvA 4 (some 22) (fun _=>hSn) ?_
 simp only [Act.put,zA,zB,zC]
 refine tkA 5 [] (some 23) (?vg11) rfl (Or.inl ⟨by rfl,?hg11⟩) hSn ?rg11
 case hg11=>
  intro w hSw
  have b0:=(holds_bel HX.out hSw).cell 0
  have b1:=(holds_bel HX.out hSw).cell 1
  have b2:=(holds_bel HX.out hSw).cell 2
  have b3:=(holds_bel HX.out hSw).cell 3
  have b4:=(holds_bel HX.out hSw).cell 4
  have b5:=(holds_bel HX.out hSw).cell 5
  have b6:=(holds_bel HX.out hSw).cell 6
  simp only [yA,yB] at b0 b1 b2 b3 b4 b5 b6
  go_simp
  try with_reducible rfl
 simp only [Act.put,zA,zB,zC]
 refine mvA 7 (some 25) (fun _=>hSn) ?_
 simp only [Act.put,zA,zB,zC]
 refine tkA 8 [] (some 26) (?vg13) rfl (Or.inl ⟨by rfl,?hg13⟩) hSn ?rg13
 case hg13=>
  intro w hSw
  have b0:=(holds_bel HX.out hSw).cell 0
  have b1:=(holds_bel HX.out hSw).cell 1
  have b2:=(holds_bel HX.out hSw).cell 2
  have b3:=(holds_bel HX.out hSw).cell 3
  have b4:=(holds_bel HX.out hSw).cell 4
  have b5:=(holds_bel HX.out hSw).cell 5
  have b6:=(holds_bel HX.out hSw).cell 6
  simp only [yA,yB] at b0 b1 b2 b3 b4 b5 b6
  go_simp
  try with_reducible rfl
 simp only [Act.put,zA,zB,zC]
 refine rd1 3 rfl (fun K hK=>?_)
 go_simp
 refine (KN.out _ m0 _ _ HV.out (by omega) (by omega)).mono ?_
 rintro e w1 ⟨v1,m1,rfl,lo1,hi1,ho1,hb1⟩
 have HO1:=qh (Own8.mono (B':=W.heap.size) ho1 hSn.size)
 have hSn:=below_next hSn hb1
 clear ho1 hb1
 refine hK.out _ _ (fun _=>hSn) ?_
 clear hK
 try simp only [Act.put,zA,zB,zC]
 refine rd1 6 rfl (fun K hK=>?_)
 go_simp
 refine (KN.out _ _ _ _ HO1.out.blob (by omega) (by omega)).mono ?_
 rintro e w2 ⟨v2,m2,rfl,lo2,hi2,ho2,hb2⟩
 have HO2:=qh (Own8.mono (B':=W.heap.size) ho2 hSn.size)
 have hSn:=below_next hSn hb2
 clear ho2 hb2
 refine hK.out _ _ (fun _=>hSn) ?_
 clear hK
 try simp only [Act.put,zA,zB,zC]
 refine rd1 9 rfl (fun K hK=>?_)
 go_simp
 refine (KT.out _ _ _ _ HO2.out.blob (by omega) (by omega)).mono ?_
 rintro e w3 ⟨v3,m3,rfl,lo3,hi3,ho3,hb3⟩
 have HO3:=qh (Own8.mono (B':=W.heap.size) ho3 hSn.size)
 have hSn:=below_next hSn hb3
 clear ho3 hb3
 refine hK.out _ _ (fun _=>hSn) ?_
 clear hK
 try simp only [Act.put,zA,zB,zC]
 refine mvA 10 (some 0) (fun _=>hSn) ?_
 simp only [Act.put,zA,zB,zC]
 refine dnA (NoPanic.normal ?_)
 have HX:=qh (holds_bel HX.out hSn)
 have HB3:=qh (show Below w.heap.size w w3 from HB.out.trans ((below_next (t_drew W.heap.size W) hSn).mono HB.out.size))
 have HO:=qh (HO3.out.mono (B':=w.heap.size) HB.out.size)
 clear hSn HO1 HO2 HO3 HV hk0 HB
 have x0:=HX.out.cell 0
 have x4:=HX.out.cell 4
 have x5:=HX.out.cell 5
 have x6:=HX.out.cell 6
 simp only [yA,yB] at x0 x4 x5 x6
 have hkk:c.k=2∨((c.k==2)=false∧c.k=4)∨((c.k==2)=false∧(c.k==4)=false∧c.k=5)∨((c.k==2)=false∧(c.k==4)=false∧(c.k==5)=false):=by
  simp only [beq_eq_false_iff_ne,ne_eq]
  omega
 generalize hck:c.k=ck at x0 hkk
 rcases hkk with rfl|⟨h2,rfl⟩|⟨h2,h4,rfl⟩|⟨h2,h4,h5⟩
 ·go_wp2_with fail
  refine (KT.out _ m3 _ _ HO.out.blob (by omega) (by omega)).mono ?_
  rintro e w4 ⟨v4,m4,rfl,lo4,hi4,ho4,hb4⟩
  have HO:=qh (ho4.mono (B':=w.heap.size) HB3.out.size);have HB4:=qh (below_next HB3.out hb4)
  clear ho4 hb4 x0 x4 x5 x6
  go_wp2_with fail
  go_ret
  exact⟨_,m4,rfl,by omega,by omega,HO.out,HB4.out⟩
 ·go_upto_region 11 with (fail)
  clear x0 x4 x5 x6
  have HX:=qh (show Holds w3.drew w.heap.size 23 [.int .i64 c.k,.int .i64 c.c,.int .i64 c.s,.string c.a,.string c.b,.string c.o,.string c.v] from HX.out)
  have HV:=qh (show Blob w3.drew v3 m3 from HO.out.blob.below (t_drew _ _))
  refine wp_region_noPanic ?_
  refine wp_region_late (S:=fun W'=>Below w3.drew.heap.size w3.drew W') (X0:=[]) (by as_aux_lemma=>kernel_rfl) ?_
  have hSn:Below w3.drew.heap.size w3.drew w3.drew:=Below.refl _ _
  change wpAnyL _ _ _ _ _ _ 8 #[false,false,false,false,false,false,false,false] _ _
  refine mvA 0 (some 38) (fun _=>hSn) ?_
  simp only [Act.put,zA,zB,zC]
  refine mvA 1 (some 39) (fun _=>hSn) ?_
  simp only [Act.put,zA,zB,zC]
  refine tkA 2 [] (some 40) (?vg17) rfl (Or.inl ⟨by rfl,?hg17⟩) hSn ?rg17
  case hg17=>
   intro w hSw
   have b0:=(holds_bel HX.out hSw).cell 0
   have b1:=(holds_bel HX.out hSw).cell 1
   have b2:=(holds_bel HX.out hSw).cell 2
   have b3:=(holds_bel HX.out hSw).cell 3
   have b4:=(holds_bel HX.out hSw).cell 4
   have b5:=(holds_bel HX.out hSw).cell 5
   have b6:=(holds_bel HX.out hSw).cell 6
   simp only [yA,yB] at b0 b1 b2 b3 b4 b5 b6
   go_simp
   try with_reducible rfl
  simp only [Act.put,zA,zB,zC]
  refine mvA 4 (some 42) (fun _=>hSn) ?_
  simp only [Act.put,zA,zB,zC]
  refine tkA 5 [] (some 43) (?vg19) rfl (Or.inl ⟨by rfl,?hg19⟩) hSn ?rg19
  case hg19=>
   intro w hSw
   have b0:=(holds_bel HX.out hSw).cell 0
   have b1:=(holds_bel HX.out hSw).cell 1
   have b2:=(holds_bel HX.out hSw).cell 2
   have b3:=(holds_bel HX.out hSw).cell 3
   have b4:=(holds_bel HX.out hSw).cell 4
   have b5:=(holds_bel HX.out hSw).cell 5
   have b6:=(holds_bel HX.out hSw).cell 6
   simp only [yA,yB] at b0 b1 b2 b3 b4 b5 b6
   go_simp
   try with_reducible rfl
  simp only [Act.put,zA,zB,zC]
  refine rd1 3 rfl (fun K hK=>?_)
  go_simp
  refine (KT.out _ m3 _ _ HV.out (by omega) (by omega)).mono ?_
  rintro e w5 ⟨v5,m5,rfl,lo5,hi5,ho5,hb5⟩
  have HO5:=qh (Own8.mono (B':=w3.heap.size) ho5 hSn.size)
  have hSn:=below_next hSn hb5
  clear ho5 hb5
  refine hK.out _ _ (fun _=>hSn) ?_
  clear hK
  try simp only [Act.put,zA,zB,zC]
  refine rd1 6 rfl (fun K hK=>?_)
  go_simp
  refine (KT.out _ _ _ _ HO5.out.blob (by omega) (by omega)).mono ?_
  rintro e w6 ⟨v6,m6,rfl,lo6,hi6,ho6,hb6⟩
  have HO6:=qh (Own8.mono (B':=w3.heap.size) ho6 hSn.size)
  have hSn:=below_next hSn hb6
  clear ho6 hb6
  refine hK.out _ _ (fun _=>hSn) ?_
  clear hK
  try simp only [Act.put,zA,zB,zC]
  refine mvA 7 (some 0) (fun _=>hSn) ?_
  simp only [Act.put,zA,zB,zC]
  refine dnA (NoPanic.normal ?_)
  have HO:=qh (HO6.out.mono (B':=w.heap.size) HB3.out.size)
  have HB6:=qh (show Below w.heap.size w w6 from HB3.out.trans ((below_next (t_drew w3.heap.size w3) hSn).mono HB3.out.size))
  clear hSn HO5 HO6 HV HX
  go_wp2_with fail
  go_ret
  exact⟨_,m6,rfl,by omega,by omega,HO.out,HB6.out⟩
 ·go_wp2_with fail
  refine (KT.out _ m3 _ _ HO.out.blob (by omega) (by omega)).mono ?_
  rintro e w4 ⟨v4,m4,rfl,lo4,hi4,ho4,hb4⟩
  have HO:=qh (ho4.mono (B':=w.heap.size) HB3.out.size);have HB4:=qh (below_next HB3.out hb4)
  clear ho4 hb4 x0 x4 x5 x6
  go_wp2_with fail
  go_ret
  exact⟨_,m4,rfl,by omega,by omega,HO.out,HB4.out⟩
 ·go_wp2_with fail
  go_ret
  exact⟨_,m3,rfl,by omega,by omega,HO.out,HB3.out⟩
theorem pdeps_any (v:Value) (len:Nat) (w:World) (h:Blob w v len) (hl:len≤500000) :
  Calls Tryz.prog 288 #[v,.agg #[.int .i64 0,.int .i64 0,.int .i64 0,.int .i64 0,.int .i64 0,.int .i64 0,.int .i64 0,.int .i64 0]] w fun e w'=>∃ v' m,e=.returned v'∧len+1≤m∧m≤len+80∧Own8 w' w.heap.size v' m∧Below w.heap.size w w':=by
 have KN:=qh (fun v len n W (h:Blob W v len) (hl:len≤1000000)=>pnum_any v len n W h hl)
 have HV:=qh h;clear h
 have hix:=fun k hk W=>idx_deps (fun _=>0) k hk W
 have HIX:=qh hix;clear hix
 go_enter Tryz.func288,Tryz.ntmps288
 go_wp2_with fail
 have HX:=qh (show Holds (w.alloc (.cells ([.int .i64 0,.int .i64 0,.int .i64 0,.int .i64 0,.int .i64 0,.int .i64 0,.int .i64 0,.int .i64 0]:List Value).toArray 43)) w.heap.size 43 [.int .i64 0,.int .i64 0,.int .i64 0,.int .i64 0,.int .i64 0,.int .i64 0,.int .i64 0,.int .i64 0] from holds_alloc w _ _)
 have HB:=qh (show Below w.heap.size w (w.alloc (.cells ([.int .i64 0,.int .i64 0,.int .i64 0,.int .i64 0,.int .i64 0,.int .i64 0,.int .i64 0,.int .i64 0]:List Value).toArray 43)) by go_grown)
 have HV:=qh (HV.out.below HB.out)
 refine (KN.out _ len _ _ HV.out (by omega) (by omega)).mono ?_
 rintro e W ⟨v0,m0,rfl,lo0,hi0,ho0,hb0⟩
 have HX:=qh (holds_bel HX.out hb0)
 have HO:=qh (ho0.mono (B':=w.heap.size) HB.out.size)
 have HB:=qh (below_next HB.out hb0)
 clear ho0 hb0 HV
 have x0:=HX.out.cell 0
 have x1:=HX.out.cell 1
 have x2:=HX.out.cell 2
 have x3:=HX.out.cell 3
 have x4:=HX.out.cell 4
 have x5:=HX.out.cell 5
 have x6:=HX.out.cell 6
 have x7:=HX.out.cell 7
 simp only [yA,yB] at x0 x1 x2 x3 x4 x5 x6 x7
 go_wp2_with fail
 go_loopw [0,6,13] (fun vb vk vi wr=>∃ (k m:Nat),k≤7∧vi=.int .i64 k∧m0≤m∧m≤m0+10*k∧Own8 wr w.heap.size vb m∧Below w.heap.size w wr) (fun _ _ vi _=>7 - (intOf vi).toNat)
 case atStart=>exact⟨0,m0,by omega,rfl,by omega,by omega,HO.out,HB.out⟩
 case round=>
  clear HO HB x0 x1 x2 x3 x4 x5 x6 x7 HX
  obtain⟨k,m,hk,rfl,hm1,hm2,ho,hb⟩:=hrel
  have HO:=qh ho;have HB:=qh hb;clear ho hb
  by_cases hk7:k<7
  ·have hix:=HIX.out k hk7
   go_wp2_with fail
   refine (KN.out _ m _ _ HO.out.blob (by omega) (by omega)).mono ?_
   rintro e w2 ⟨v2,m2,rfl,lo2,hi2,ho2,hb2⟩
   have HO:=qh (ho2.mono (B':=w.heap.size) HB.out.size)
   have HB:=qh (below_next HB.out hb2)
   clear ho2 hb2 hix
   go_wp2_with fail
   go_roundw
   case rel=>exact⟨k+1,m2,by omega,by go_num,by omega,by omega,HO.out,HB.out⟩
   case measure=>simp [intOf];omega
  ·go_wp2_with fail
   go_ret
   exact⟨_,m,rfl,by omega,by omega,HO.out,HB.out⟩
theorem pcell_any (v:Value) (len:Nat) (st:Int) (c:Cm) (sm:Bool) (w:World) (h:Blob w v len) (hl:len≤500000-1000) (hc:CmOk c) (hst:(st=1∧sm=true)∨(st=3∧sm=false)) :
  Calls Tryz.prog 238 #[v,.agg (cellL st c sm).toArray] w fun e w'=>∃ v' m,e=.returned v'∧len+1≤m∧m≤len+450∧Own8 w' w.heap.size v' m∧Below w.heap.size w w':=by
 have KN:=qh (fun v len n W (h:Blob W v len) (hl:len≤1000000)=>pnum_any v len n W h hl)
 have KB:=qh (fun v len W (h:Blob W v len) (hl:len≤500000)=>pballot_any v len W h hl)
 have KC:=qh (fun v len W (h:Blob W v len) (hl:len≤500000)=>pcmd_any v len c W h hl hc)
 have KD:=qh (fun v len W (h:Blob W v len) (hl:len≤500000)=>pdeps_any v len W h hl)
 have KF:=qh (fun v len b W (h:Blob W v len) (hl:len≤1000000)=>pflag_any v len b W h hl)
 have KR:=qh (fun W=>rightCell_any st c sm W hst hc.right)
 have hs0:(st==0)=false∧(-9223372036854775808≤st∧st≤9223372036854775807):=by
  rcases hst with⟨rfl,_⟩|⟨rfl,_⟩<;>simp
 obtain⟨hs0,hsb⟩:=hs0
 clear hc hst
 have HV:=qh h;clear h
 have HRG:=qh (show World.rangeAt (w.alloc (.cells (cellL st c sm).toArray 45)) w.heap.size 0 (cellL st c sm) from (holds_alloc w _ _).range0)
 go_enter Tryz.func238,Tryz.ntmps238
 go_wp2_with (refine wpList_load_mid rfl 45 _ rfl w.heap.size 0 rfl _ _ HRG.out Tryz.underlying45 rfl (by kernel_rfl) ?_)
 have HX:=qh (show Holds (w.alloc (.cells (cellL st c sm).toArray 45)) w.heap.size 45 (cellL st c sm) from holds_alloc w _ _)
 have HB:=qh (show Below w.heap.size w (w.alloc (.cells (cellL st c sm).toArray 45)) by go_grown)
 refine (KR.out _).mono ?_
 rintro e W ⟨rfl,hb1⟩
 have HX:=qh (holds_bel HX.out hb1);have HB:=qh (below_next HB.out hb1)
 have HV:=qh (HV.out.below HB.out)
 clear hb1
 go_upto_region 3 with (fail)
 have HX:=qh (show Holds W.drew w.heap.size 45 (cellL st c sm) from HX.out)
 have HV:=qh (show Blob W.drew v len from HV.out.below (t_drew _ _))
 refine wp_region_noPanic ?_
 refine wp_region_late (S:=fun W'=>Below W.drew.heap.size W.drew W') (X0:=[]) (by as_aux_lemma=>kernel_rfl) ?_
 have hSn:Below W.drew.heap.size W.drew W.drew:=Below.refl _ _
 change wpAnyL _ _ _ _ _ _ 8 #[false,false,false,false,false,false,false,false] _ _
 refine mvA 0 (some 10) (fun _=>hSn) ?_
 simp only [Act.put,zA,zB,zC]
 refine mvA 1 (some 11) (fun _=>hSn) ?_
 simp only [Act.put,zA,zB,zC]
 refine tkA 2 [] (some 12) (?vg23) rfl (Or.inl ⟨by rfl,?hg23⟩) hSn ?rg23
 case hg23=>
  intro w hSw
  have b0:=(holds_bel HX.out hSw).cell 0
  simp only [cellL,yA,yB] at b0
  go_simp
  try with_reducible rfl
 simp only [Act.put,zA,zB,zC]
 refine mvA 4 (some 14) (fun _=>hSn) ?_
 simp only [Act.put,zA,zB,zC]
 refine tkA 5 [] (some 15) (?vg25) rfl (Or.inl ⟨by rfl,?hg25⟩) hSn ?rg25
 case hg25=>
  intro w hSw
  have b1:=(holds_bel HX.out hSw).cell 1
  have b2:=(holds_bel HX.out hSw).cell 2
  simp only [cellL,yA,yB] at b1 b2
  go_simp
  try with_reducible rfl
 simp only [Act.put,zA,zB,zC]
 refine rd1 3 rfl (fun K hK=>?_)
 go_simp
 refine (KN.out _ len _ _ HV.out (by omega) (by omega)).mono ?_
 rintro e w1 ⟨v1,m1,rfl,lo1,hi1,ho1,hb1⟩
 have HO1:=qh (Own8.mono (B':=W.heap.size) ho1 hSn.size)
 have hSn:=below_next hSn hb1
 clear ho1 hb1
 refine hK.out _ _ (fun _=>hSn) ?_
 clear hK
 try simp only [Act.put,zA,zB,zC]
 refine rd1 6 rfl (fun K hK=>?_)
 go_simp
 refine (KB.out _ _ _ HO1.out.blob (by omega)).mono ?_
 rintro e w2 ⟨v2,m2,rfl,lo2,hi2,ho2,hb2⟩
 have HO2:=qh (Own8.mono (B':=W.heap.size) ho2 hSn.size)
 have hSn:=below_next hSn hb2
 clear ho2 hb2
 refine hK.out _ _ (fun _=>hSn) ?_
 clear hK
 try simp only [Act.put,zA,zB,zC]
 refine mvA 7 (some 0) (fun _=>hSn) ?_
 simp only [Act.put,zA,zB,zC]
 refine dnA (NoPanic.normal ?_)
 have HX:=qh (holds_bel HX.out hSn)
 have HB2:=qh (show Below w.heap.size w w2 from HB.out.trans ((below_next (t_drew W.heap.size W) hSn).mono HB.out.size))
 have HO:=qh (HO2.out.mono (B':=w.heap.size) HB.out.size)
 clear hSn HO1 HO2 HV HB
 have x0:=HX.out.cell 0
 simp only [cellL,List.getElem?_cons_zero] at x0
 go_upto_region 6 with (fail)
 clear x0
 have HX:=qh (show Holds w2.drew w.heap.size 45 (cellL st c sm) from HX.out)
 have HV:=qh (show Blob w2.drew v2 m2 from HO.out.blob.below (t_drew _ _))
 refine wp_region_noPanic ?_
 refine wp_region_late (S:=fun W'=>Below w2.drew.heap.size w2.drew W') (X0:=[]) (by as_aux_lemma=>kernel_rfl) ?_
 have hSn:Below w2.drew.heap.size w2.drew w2.drew:=Below.refl _ _
 change wpAnyL _ _ _ _ _ _ 8 #[false,false,false,false,false,false,false,false] _ _
 refine mvA 0 (some 21) (fun _=>hSn) ?_
 simp only [Act.put,zA,zB,zC]
 refine mvA 1 (some 22) (fun _=>hSn) ?_
 simp only [Act.put,zA,zB,zC]
 refine tkA 2 [] (some 23) (?vg29) rfl (Or.inl ⟨by rfl,?hg29⟩) hSn ?rg29
 case hg29=>
  intro w hSw
  have b3:=(holds_bel HX.out hSw).cell 3
  have b4:=(holds_bel HX.out hSw).cell 4
  simp only [cellL,yA,yB] at b3 b4
  go_simp
  try with_reducible rfl
 simp only [Act.put,zA,zB,zC]
 refine mvA 4 (some 25) (fun _=>hSn) ?_
 simp only [Act.put,zA,zB,zC]
 refine tkA 5 [] (some 26) (?vg31) rfl (Or.inl ⟨by rfl,?hg31⟩) hSn ?rg31
 case hg31=>
  intro w hSw
  have b5:=(holds_bel HX.out hSw).cell 5
  have b6:=(holds_bel HX.out hSw).cell 6
  have b7:=(holds_bel HX.out hSw).cell 7
  have b8:=(holds_bel HX.out hSw).cell 8
  have b9:=(holds_bel HX.out hSw).cell 9
  have b10:=(holds_bel HX.out hSw).cell 10
  have b11:=(holds_bel HX.out hSw).cell 11
  simp only [cellL,yA,yB] at b5 b6 b7 b8 b9 b10 b11
  go_simp
  try with_reducible rfl
 simp only [Act.put,zA,zB,zC]
 refine rd1 3 rfl (fun K hK=>?_)
 go_simp
 refine (KB.out _ m2 _ HV.out (by omega)).mono ?_
 rintro e w3 ⟨v3,m3,rfl,lo3,hi3,ho3,hb3⟩
 have HO3:=qh (Own8.mono (B':=w2.heap.size) ho3 hSn.size)
 have hSn:=below_next hSn hb3
 clear ho3 hb3
 refine hK.out _ _ (fun _=>hSn) ?_
 clear hK
 try simp only [Act.put,zA,zB,zC]
 refine rd1 6 rfl (fun K hK=>?_)
 go_simp
 refine (KC.out _ _ _ HO3.out.blob (by omega)).mono ?_
 rintro e w4 ⟨v4,m4,rfl,lo4,hi4,ho4,hb4⟩
 have HO4:=qh (Own8.mono (B':=w2.heap.size) ho4 hSn.size)
 have hSn:=below_next hSn hb4
 clear ho4 hb4
 refine hK.out _ _ (fun _=>hSn) ?_
 clear hK
 try simp only [Act.put,zA,zB,zC]
 refine mvA 7 (some 0) (fun _=>hSn) ?_
 simp only [Act.put,zA,zB,zC]
 refine dnA (NoPanic.normal ?_)
 have HX:=qh (holds_bel HX.out hSn)
 have HB4:=qh (show Below w.heap.size w w4 from HB2.out.trans ((below_next (t_drew w2.heap.size w2) hSn).mono HB2.out.size))
 have HO:=qh (HO4.out.mono (B':=w.heap.size) HB2.out.size)
 clear hSn HO3 HO4 HV HB2
 go_upto_region 7 with (fail)
 have HX:=qh (show Holds w4.drew w.heap.size 45 (cellL st c sm) from HX.out)
 have HV:=qh (show Blob w4.drew v4 m4 from HO.out.blob.below (t_drew _ _))
 refine wp_region_noPanic ?_
 refine wp_region_late (S:=fun W'=>Below w4.drew.heap.size w4.drew W') (X0:=[]) (by as_aux_lemma=>kernel_rfl) ?_
 have hSn:Below w4.drew.heap.size w4.drew w4.drew:=Below.refl _ _
 change wpAnyL _ _ _ _ _ _ 8 #[false,false,false,false,false,false,false,false] _ _
 refine mvA 0 (some 28) (fun _=>hSn) ?_
 simp only [Act.put,zA,zB,zC]
 refine mvA 1 (some 29) (fun _=>hSn) ?_
 simp only [Act.put,zA,zB,zC]
 refine tkA 2 [] (some 30) (?vg35) rfl (Or.inl ⟨by rfl,?hg35⟩) hSn ?rg35
 case hg35=>
  intro w hSw
  have b12:=(holds_bel HX.out hSw).cell 12
  have b13:=(holds_bel HX.out hSw).cell 13
  have b14:=(holds_bel HX.out hSw).cell 14
  have b15:=(holds_bel HX.out hSw).cell 15
  have b16:=(holds_bel HX.out hSw).cell 16
  have b17:=(holds_bel HX.out hSw).cell 17
  have b18:=(holds_bel HX.out hSw).cell 18
  have b19:=(holds_bel HX.out hSw).cell 19
  simp only [cellL,yA,yB] at b12 b13 b14 b15 b16 b17 b18 b19
  go_simp
  try with_reducible rfl
 simp only [Act.put,zA,zB,zC]
 refine mvA 4 (some 32) (fun _=>hSn) ?_
 simp only [Act.put,zA,zB,zC]
 refine tkA 5 [] (some 33) (?vg37) rfl (Or.inl ⟨by rfl,?hg37⟩) hSn ?rg37
 case hg37=>
  intro w hSw
  have b20:=(holds_bel HX.out hSw).cell 20
  simp only [cellL,yA,yB] at b20
  go_simp
  try with_reducible rfl
 simp only [Act.put,zA,zB,zC]
 refine rd1 3 rfl (fun K hK=>?_)
 go_simp
 refine (KD.out _ m4 _ HV.out (by omega)).mono ?_
 rintro e w5 ⟨v5,m5,rfl,lo5,hi5,ho5,hb5⟩
 have HO5:=qh (Own8.mono (B':=w4.heap.size) ho5 hSn.size)
 have hSn:=below_next hSn hb5
 clear ho5 hb5
 refine hK.out _ _ (fun _=>hSn) ?_
 clear hK
 try simp only [Act.put,zA,zB,zC]
 refine rd1 6 rfl (fun K hK=>?_)
 go_simp
 refine (KF.out _ _ _ _ HO5.out.blob (by omega)).mono ?_
 rintro e w6 ⟨v6,rfl,ho6,hb6⟩
 have HO6:=qh (Own8.mono (B':=w4.heap.size) ho6 hSn.size)
 have hSn:=below_next hSn hb6
 clear ho6 hb6
 refine hK.out _ _ (fun _=>hSn) ?_
 clear hK
 try simp only [Act.put,zA,zB,zC]
 refine mvA 7 (some 4) (fun _=>hSn) ?_
 simp only [Act.put,zA,zB,zC]
 refine dnA (NoPanic.normal ?_)
 have HO:=qh (HO6.out.mono (B':=w.heap.size) HB4.out.size)
 have HB6:=qh (show Below w.heap.size w w6 from HB4.out.trans ((below_next (t_drew w4.heap.size w4) hSn).mono HB4.out.size))
 clear hSn HO5 HO6 HV HX
 go_wp2_with fail
 go_ret
 exact⟨_,m5+1,rfl,by omega,by omega,HO.out,HB6.out⟩
theorem record_any (r s st:Int) (c:Cm) (sm:Bool) (w:World) (hr:0≤r∧r<7) (hs:0≤s∧s≤1073741824) (hc:CmOk c) (hst:(st=1∧sm=true)∨(st=3∧sm=false)) :
  Calls Tryz.prog 177 #[.agg #[.int .i64 r,.int .i64 s],.agg (cellL st c sm).toArray] w fun e w'=>∃ v' m,e=.returned v'∧1≤m∧m≤480∧Own8 w' w.heap.size v' m∧Below w.heap.size w w':=by
 have KN:=qh (fun v len n W (h:Blob W v len) (hl:len≤1000000)=>pnum_any v len n W h hl)
 have KC:=qh (fun v len W (h:Blob W v len) (hl:len≤500000-1000)=>pcell_any v len st c sm W h hl hc hst)
 clear hc hst
 go_enter Tryz.func177,Tryz.ntmps177
 go_upto_region 1 with (fail)
 have HI:=qh (show Holds ((w.alloc (.cells #[.int .i64 r,.int .i64 s] 37)).alloc (.cells (cellL st c sm).toArray 45)) w.heap.size 37 [.int .i64 r,.int .i64 s] from holds_bel (holds_alloc w _ _) (by go_grown))
 have HX:=qh (show Holds ((w.alloc (.cells #[.int .i64 r,.int .i64 s] 37)).alloc (.cells (cellL st c sm).toArray 45)) (w.heap.size+1) 45 (cellL st c sm) from by
  have:=holds_alloc (w.alloc (.cells #[.int .i64 r,.int .i64 s] 37)) 45 (cellL st c sm)
  rw [World.size_alloc] at this
  exact this)
 have HB:=qh (show Below w.heap.size w ((w.alloc (.cells #[.int .i64 r,.int .i64 s] 37)).alloc (.cells (cellL st c sm).toArray 45)) by go_grown)
 go_name_world W hW
 rw [hW] at HI HX HB
 clear hW
 have HX:=qh (show Holds W.drew (w.heap.size+1) 45 (cellL st c sm) from HX.out)
 have HI:=qh (show Holds W.drew w.heap.size 37 [.int .i64 r,.int .i64 s] from HI.out)
 generalize w.heap.size+1=gc at HX ⊢
 refine wp_region_noPanic ?_
 refine wp_region_late (S:=fun W'=>Below W.drew.heap.size W.drew W') (X0:=[]) (by as_aux_lemma=>kernel_rfl) ?_
 have hSn:Below W.drew.heap.size W.drew W.drew:=Below.refl _ _
 change wpAnyL _ _ _ _ _ _ 9 #[false,false,false,false,false,false,false,false,false] _ _
 refine mvA 0 (some 5) (fun _=>hSn) ?_
 simp only [Act.put,zA,zB,zC]
 refine tkA 1 [] (some 6) (?vg40) rfl (Or.inl ⟨by rfl,?hg40⟩) hSn ?rg40
 case hg40=>
  intro w hSw
  have i0:=(holds_bel HI.out hSw).cell 0
  have i1:=(holds_bel HI.out hSw).cell 1
  simp only [yA,yB] at i0 i1
  go_simp
  try with_reducible rfl
 simp only [Act.put,zA,zB,zC]
 refine mvA 3 (some 8) (fun _=>hSn) ?_
 simp only [Act.put,zA,zB,zC]
 refine tkA 4 [] (some 9) (?vg42) rfl (Or.inl ⟨by rfl,?hg42⟩) hSn ?rg42
 case hg42=>
  intro w hSw
  have i0:=(holds_bel HI.out hSw).cell 0
  have i1:=(holds_bel HI.out hSw).cell 1
  simp only [yA,yB] at i0 i1
  go_simp
  try with_reducible rfl
 simp only [Act.put,zA,zB,zC]
 refine tkA 6 [] (some 11) (.agg (cellL st c sm).toArray) rfl (yieldsIf_load_mid (by rfl) 45 _ rfl gc 0 rfl (cellL st c sm) _ (fun w hSw=>(holds_bel HX.out hSw).range0) Tryz.underlying45 rfl (by as_aux_lemma=>kernel_rfl)) hSn ?rg43
 simp only [Act.put,zA,zB,zC]
 refine rd1 2 rfl (fun K hK=>?_)
 go_simp
 refine (KN.out _ 0 _ _ (Blob.nil _) (by omega) (by omega)).mono ?_
 rintro e w1 ⟨v1,m1,rfl,lo1,hi1,ho1,hb1⟩
 have HO1:=qh (Own8.mono (B':=W.heap.size) ho1 hSn.size)
 have hSn:=below_next hSn hb1
 clear ho1 hb1
 refine hK.out _ _ (fun _=>hSn) ?_
 clear hK
 try simp only [Act.put,zA,zB,zC]
 refine rd1 5 rfl (fun K hK=>?_)
 go_simp
 refine (KN.out _ _ _ _ HO1.out.blob (by omega) (by omega)).mono ?_
 rintro e w2 ⟨v2,m2,rfl,lo2,hi2,ho2,hb2⟩
 have HO2:=qh (Own8.mono (B':=W.heap.size) ho2 hSn.size)
 have hSn:=below_next hSn hb2
 clear ho2 hb2
 refine hK.out _ _ (fun _=>hSn) ?_
 clear hK
 try simp only [Act.put,zA,zB,zC]
 refine rd1 7 rfl (fun K hK=>?_)
 go_simp
 refine (KC.out _ _ _ HO2.out.blob (by omega)).mono ?_
 rintro e w3 ⟨v3,m3,rfl,lo3,hi3,ho3,hb3⟩
 have HO3:=qh (Own8.mono (B':=W.heap.size) ho3 hSn.size)
 have hSn:=below_next hSn hb3
 clear ho3 hb3
 refine hK.out _ _ (fun _=>hSn) ?_
 clear hK
 try simp only [Act.put,zA,zB,zC]
 refine mvA 8 (some 4) (fun _=>hSn) ?_
 simp only [Act.put,zA,zB,zC]
 refine dnA (NoPanic.normal ?_)
 have HO:=qh (HO3.out.mono (B':=w.heap.size) HB.out.size)
 have HB3:=qh (show Below w.heap.size w w3 from HB.out.trans ((below_next (t_drew W.heap.size W) hSn).mono HB.out.size))
 clear hSn HO1 HO2 HO3 HX HI HB
 go_wp2_with fail
 go_ret
 exact⟨_,m3,rfl,by omega,by omega,HO.out,HB3.out⟩
end
end Go.Proofs.YtimdpiifpibgfaaGreatDoor
