/- For every input the law TopFast returns true (a part of the proof). Condition: the listed variables start as the program's text lays them. -/
import Derived.Test.YtimdpiifpibgfaaGreatDoorQf22
import Derived.Test.YtimdpiifpibgfaaGreatDoorQf19
set_option linter.unusedVariables false
set_option linter.unusedSimpArgs false
set_option maxRecDepth 20000
set_option maxHeartbeats 16000000
namespace Go.Proofs.YtimdpiifpibgfaaGreatDoor
section
open Go.RowKit
theorem anew0 (gw gd gl c m:Nat) (r:Value) (rest:List Value) (w:World) (hw:Holds w gw 208 (walL gd 0 0)) (h:Disk0 w gd) (hg:Holds w gl 127 (r :: rest)) (hr:Blob w r m) (hgf:gw≠gd) (h1:1≤m) (h2:m≤16384) :
  Calls Tryz.prog 67 #[.pointer (some ⟨gw,0,none⟩),.slice (some ⟨gl,0,none⟩) 1 c] w fun e w'=>e=.returned (.int .i64 0)∧∃ gf gb n,Disk1 w' gd gf gb n n∧n≤m+100∧w.heap.size≤gf∧w.heap.size≤gb∧Holds w' gw 208 (walL gd 1 1)∧Mv (fun k=>k=gd∨k=gw) w w':=by
 have KN:=qh (fun W=>pnum_any (.slice none 0 0) 0 1 W (Blob.nil W) (by omega) (by omega))
 have KF:=qh (fun r m W (hr:Blob W r m) (h1:1≤m) (h2:m≤16384)=>fput_b (.slice none 0 0) r 0 m W (Blob.nil W) hr (by omega) h1 h2)
 have KFS:=qh (fun v len W (h:Blob W v len) (hr:Blob W r m) (hg:Holds W gl 127 (r :: rest)) (hl:len≤200000)=>frames1 v r len m gl c rest W h hr hg hl h1 h2)
 have KW:=qh (fun len B v W (hw:Holds W gw 208 (walL gd 0 0)) (h:Disk0 W gd) (hv:Own8 W B v len) (hB:gd<B) (h1:1≤len) (h3:len≤100000)=>write0 gw gd len B 0 0 v W hw h hv hB hgf h1 h3)
 have HW:=qh hw;have HD:=qh h;have HG:=qh hg;have HR:=qh hr
 have HM:=qh (Mv.refl (fun k=>k=gd∨k=gw) w)
 have hlt:gd<w.heap.size∧gw<w.heap.size:=⟨h.lt,hw.lt⟩
 clear hw h hg hr
 go_enter Tryz.func67,Tryz.ntmps67
 have a3:=HW.out.cell 3
 simp only [walL,yA,yB] at a3
 go_wp2_with fail
 refine (KN.out _).mono ?_
 rintro e w1 ⟨v1,m1,rfl,hm1,hm2,ho,hb⟩
 have HW:=qh (HW.out.bel hb)
 have HD:=qh (HD.out.bel hb)
 have HG:=qh (HG.out.bel hb)
 have HR:=qh (HR.out.bel hb)
 have HM:=qh (HM.out.bel hb)
 have HO:=qh ho
 clear hb ho a3
 go_wp2_with fail
 refine (KF.out v1 m1 _ HO.out.blob (by omega) (by omega)).mono ?_
 rintro e w2 ⟨v2,rfl,ho,hb⟩
 have HW:=qh (HW.out.bel hb)
 have HD:=qh (HD.out.bel hb)
 have HG:=qh (HG.out.bel hb)
 have HR:=qh (HR.out.bel hb)
 have HM:=qh (HM.out.bel hb)
 have HO:=qh ho
 clear hb ho
 go_wp2_with fail
 refine (KFS.out v2 _ _ HO.out.blob HR.out HG.out (by omega)).mono ?_
 rintro e w3 ⟨v3,rfl,ho,hb⟩
 have hs2:=HM.out.size
 have HW:=qh (HW.out.bel hb)
 have HD:=qh (HD.out.bel hb)
 have HM:=qh (HM.out.bel hb)
 have HO:=qh ho
 have hs3:=HM.out.size
 clear hb ho HG HR
 have a1:=HW.out.cell 1
 simp only [walL,yA,yB] at a1
 go_wp2_with fail
 have HX:=qh (holds_alloc w3 206 [.int .i64 1,.int .i64 1])
 have hal:Below w3.heap.size w3 (w3.alloc (.cells #[.int .i64 1,.int .i64 1] 206)):=by go_grown
 have HW:=qh (HW.out.bel hal)
 have HD:=qh (HD.out.bel hal)
 have HM:=qh (HM.out.bel hal)
 have HO:=qh (HO.out.bel hal)
 have hx:w3.heap.size≠gd∧w3.heap.size≠gw∧w.heap.size≤w3.heap.size:=by omega
 clear hal a1
 generalize w3.alloc (.cells #[.int .i64 1,.int .i64 1] 206)=w4 at HX HW HD HM HO ⊢
 generalize w3.heap.size=gx at HX hx ⊢
 refine (KW.out _ _ v3 _ HW.out HD.out HO.out (by omega) (by omega) (by omega)).mono ?_
 rintro e w5 ⟨rfl,gf,gb,hd,hgf,hgb,hw5,hm5⟩
 have hs4:=HM.out.size
 have HD:=qh hd;have HW:=qh hw5
 have HX:=qh (HX.out.mv hm5 (by omega))
 have HM:=qh (HM.out.mv hm5 (fun k hk=>.inl hk))
 clear hd hw5 hm5
 go_wp2_with fail
 go_loopw [9] (fun vi wr=>vi=.int .i64 1∧wr=w5) (fun _ _=>0)
 case atStart=>exact⟨rfl,rfl⟩
 case round=>
  obtain⟨rfl,rfl⟩:=hrel
  have a2:=HW.out.cell 2
  simp only [walL,yA,yB] at a2
  have x0:=HX.out.cell 0
  have x1:=HX.out.cell 1
  simp only [yA,yB] at x0 x1
  go_wp2_with (first
   | (refine wpList_store_spl rfl 206 (.tmp 77) (.tmp 75) rfl rfl gw 1 _ 208 HW.out rfl [.int .i64 1,.int .i64 1] rfl (by kernel_rfl) (by simp [walL]) (by simp [Value.oneCell']) ?_;intro w7 hh7 ht7))
  have HW:=qh (show Holds w7 gw 208 (walL gd 1 1) from hh7)
  have HD:=qh (HD.out.mv (Mv.of_touch (F:=fun k=>k=gw) ht7 rfl) (by omega) (by omega) (by omega))
  have HM:=qh (HM.out.touch ht7 (.inl (.inr rfl)))
  clear hh7 ht7 a2 x0 x1
  go_wp2_with fail
  go_ret
  exact⟨rfl,gf,gb,_,HD.out,by omega,by omega,by omega,HW.out,HM.out⟩
theorem add0 (gw gd:Nat) (w:World) (hw:Holds w gw 208 (walL gd 1 1)) :
  Calls Tryz.prog 161 #[.pointer (some ⟨gw,0,none⟩),.slice none 0 0] w fun e w'=>e=.returned (.int .i64 0)∧Below w.heap.size w w':=by
 have KF:=qh (frames0 (.slice none 0 0))
 have a1:=hw.cell 1
 have a3:=hw.cell 3
 simp only [walL,yA,yB] at a1 a3
 clear hw
 go_enter Tryz.func161,Tryz.ntmps161
 go_wp2_with fail
 refine (KF.out _).mono ?_
 rintro e w1 ⟨rfl,hb⟩
 have HB:=qh hb;clear hb a1 a3
 go_wp2_with fail
 go_ret
 exact⟨rfl,HB.out⟩
theorem add1 (gw gd gf gb n gl c m:Nat) (kept:Int) (r:Value) (rest:List Value) (w:World) (hw:Holds w gw 208 (walL gd 1 1)) (h:Disk1 w gd gf gb n kept) (hg:Holds w gl 127 (r :: rest)) (hr:Blob w r m) (hgf:gw≠gd∧gw≠gf∧gw≠gb) (h1:1≤m) (h2:m≤1000) (hn:n≤3000) :
  Calls Tryz.prog 161 #[.pointer (some ⟨gw,0,none⟩),.slice (some ⟨gl,0,none⟩) 1 c] w fun e w'=>e=.returned (.int .i64 0)∧∃ gb',Disk1 w' gd gf gb' (n+(m+6)) (n+(m+6):Nat)∧w.heap.size≤gb'∧Holds w' gw 208 (walL gd 1 1)∧Mv (fun k=>k=gf∨k=gw) w w':=by
 have KFS:=qh (fun W (hr:Blob W r m) (hg:Holds W gl 127 (r :: rest))=>frames1 (.slice none 0 0) r 0 m gl c rest W (Blob.nil W) hr hg (by omega) h1 (by omega))
 have KW:=qh (fun B v W (hw:Holds W gw 208 (walL gd 1 1)) (h:Disk1 W gd gf gb n kept) (hv:Own8 W B v (m+6)) (hB:gd<B)=>write1 gw gd gf gb n (m+6) B kept 1 1 v W hw h hv hB hgf (by omega) (by omega))
 have KN:=qh name11
 have KR:=qh (fun W (h:Disk1 W gd gf gb n kept)=>read1 gd gf gb n kept W h)
 have HW:=qh hw;have HD:=qh h;have HG:=qh hg;have HR:=qh hr
 have HM:=qh (Mv.refl (fun k=>k=gf∨k=gw) w)
 have hne:=h.ne
 have hlt:gd<w.heap.size∧gf<w.heap.size∧gb<w.heap.size∧gw<w.heap.size:=⟨h.lt.1,h.lt.2.1,h.lt.2.2,hw.lt⟩
 clear hw h hg hr
 generalize hnm:nm1=nm at KN KR ⊢
 clear hnm
 go_enter Tryz.func161,Tryz.ntmps161
 have a1:=HW.out.cell 1
 have a3:=HW.out.cell 3
 simp only [walL,yA,yB] at a1 a3
 go_wp2_with fail
 refine (KFS.out _ HR.out HG.out).mono ?_
 rintro e w1 ⟨v1,rfl,ho,hb⟩
 rw [Nat.zero_add] at ho
 have HW:=qh (HW.out.bel hb)
 have HD:=qh (HD.out.bel hb)
 have HM:=qh (HM.out.bel hb)
 have HO:=qh ho
 have hs1:=HM.out.size
 clear hb ho a1 a3 HR HG
 have a1:=HW.out.cell 1
 have a2:=HW.out.cell 2
 simp only [walL,yA,yB] at a1 a2
 go_wp2_with fail
 go_upto_region 11 with (fail)
 go_name_world W hW
 have hW:allocs w1 [.cells ([.int .i64 1,.int .i64 1]:List Value).toArray 206]=W:=hW
 have HX:=qh (show Holds W (w1.heap.size) 206 ([.int .i64 1,.int .i64 1]) from holds_allocs _ hW 0 rfl)
 have hbW:=below_allocs _ hW
 have hsW:=size_allocs _ hW
 simp only [List.length_cons,List.length_nil] at hsW
 clear hW
 have HW:=qh (HW.out.bel hbW)
 have HD:=qh (HD.out.bel hbW)
 have HM:=qh (HM.out.bel hbW)
 have HO:=qh (HO.out.bel hbW)
 have hx:w1.heap.size≠gd∧w1.heap.size≠gw∧w1.heap.size≠gf∧w.heap.size≤w1.heap.size:=by omega
 clear hbW hsW a1 a2
 generalize w1.heap.size=gx at HX hx ⊢
 have HX:=qh (HX.out.bel (t_drew _ W))
 have HW:=qh (HW.out.bel (t_drew _ W))
 have HD:=qh (HD.out.bel (t_drew _ W))
 have HM:=qh (HM.out.bel (t_drew _ W))
 have HO:=qh (HO.out.bel (t_drew _ W))
 refine wp_region_noPanic ?_
 refine wp_region_late (S:=fun W'=>Below W.drew.heap.size W.drew W') (X0:=[]) (by as_aux_lemma=>kernel_rfl) ?_
 generalize W.drew=wd at HX HW HD HM HO ⊢
 have hSn:Below wd.heap.size wd wd:=Below.refl _ _
 change wpAnyL _ _ _ _ _ _ 12 #[false,false,false,false,false,false,false,false,false,false,false,false] _ _
 refine mvA 0 (some 36) (fun _=>hSn) ?_
 simp only [Act.put,zA,zB,zC]
 refine mvA 1 (some 37) (fun _=>hSn) ?_
 simp only [Act.put,zA,zB,zC]
 refine mvA 2 (some 38) (fun _=>hSn) ?_
 simp only [Act.put,zA,zB,zC]
 refine tkA 3 [] (some 39) (?vg4) rfl (Or.inl ⟨by rfl,?hg4⟩) hSn ?rg4
 case hg4=>
  intro w hSw
  have b0:=(HW.out.bel hSw).cell 0
  simp only [walL,yA,yB] at b0
  go_simp
  try with_reducible rfl
 simp only [Act.put,zA,zB,zC]
 refine tkA 4 [] (some 40) (?vg5) rfl (Or.inl ⟨by rfl,?hg5⟩) hSn ?rg5
 case hg5=>
  intro w hSw
  have b0:=(HX.out.bel hSw).cell 0
  have b1:=(HX.out.bel hSw).cell 1
  simp only [yA,yB] at b0 b1
  go_simp
  try with_reducible rfl
 simp only [Act.put,zA,zB,zC]
 refine rd1 5 rfl (fun K hK=>?_)
 go_simp
 refine (KN.out _).mono ?_
 rintro e w3 ⟨rfl,hb⟩
 have hSn:=below_next hSn hb
 clear hb
 refine hK.out _ _ (fun _=>hSn) ?_
 clear hK
 try simp only [Act.put,zA,zB,zC]
 refine rd1 6 rfl (fun K hK=>?_)
 go_simp
 refine (KR.out _ (HD.out.bel hSn)).mono ?_
 rintro e w4 ⟨pr,cr,rfl,hb⟩
 have hSn:=below_next hSn hb
 clear hb
 refine hK.out _ _ (fun _=>hSn) ?_
 clear hK
 try simp only [Act.put,zA,zB,zC]
 refine mvA 7 (some 35) (fun _=>hSn) ?_
 simp only [Act.put,zA,zB,zC]
 refine mvA 8 (some 43) (fun _=>hSn) ?_
 simp only [Act.put,zA,zB,zC]
 refine mvA 9 (some 44) (fun _=>hSn) ?_
 simp only [Act.put,zA,zB,zC]
 refine mvA 10 (some 8) (fun _=>hSn) ?_
 simp only [Act.put,zA,zB,zC]
 refine mvA 11 (some 9) (fun _=>hSn) ?_
 simp only [Act.put,zA,zB,zC]
 refine dnA (NoPanic.normal ?_)
 have HX:=qh (HX.out.bel hSn)
 have HW:=qh (HW.out.bel hSn)
 have HD:=qh (HD.out.bel hSn)
 have HM:=qh (HM.out.bel hSn)
 have HO:=qh (HO.out.bel hSn)
 clear hSn
 have hn4:¬ (4096:Int)<n:=by omega
 have x0:=HX.out.cell 0
 have x1:=HX.out.cell 1
 simp only [yA,yB] at x0 x1
 go_wp2_with fail
 refine (KW.out _ v1 _ HW.out HD.out HO.out (by omega)).mono ?_
 rintro e w5 ⟨rfl,gb1,hd,hgb,hw5,hm5⟩
 have hs4:=HM.out.size
 have HD:=qh hd;have HW:=qh hw5
 have HX:=qh (HX.out.mv hm5 (by omega))
 have HM:=qh (HM.out.mv hm5 (fun k hk=>.inl hk))
 clear hd hw5 hm5 x0 x1
 have x0:=HX.out.cell 0
 have x1:=HX.out.cell 1
 simp only [yA,yB] at x0 x1
 go_wp2_with (first
   | (refine wpList_store_spl rfl 206 (.tmp 67) (.tmp 65) rfl rfl gw 1 _ 208 HW.out rfl [.int .i64 1,.int .i64 1] rfl (by kernel_rfl) (by simp [walL]) (by simp [Value.oneCell']) ?_;intro w7 hh7 ht7))
 have HW:=qh (show Holds w7 gw 208 (walL gd 1 1) from hh7)
 have HD:=qh (HD.out.mv (Mv.of_touch (F:=fun k=>k=gw) ht7 rfl) (by omega) (by omega) (by omega))
 have HM:=qh (HM.out.touch ht7 (.inl (.inr rfl)))
 clear hh7 ht7 x0 x1
 go_wp2_with fail
 go_ret
 exact⟨rfl,gb1,HD.out,by omega,HW.out,HM.out⟩
end
section
open Go.RowKit
def verOf (c:Cm):Int:=if c.k=2 then 1 else 0
def pairN (c:Cm):Nat:=if c.k=2 then 1 else 0
def pairsOf (c:Cm):List Value:=if c.k=2 then pairL c.a c.v 1 else []
def Pairs (w:World) (P:Value) (ob:Option Nat) (c:Cm):Prop:=OwnS w P ob 69 3 (pairN c) (pairsOf c)
theorem Pairs.bel {w w':World} {P:Value} {ob:Option Nat} {c:Cm} (h:Pairs w P ob c) (hb:Below w.heap.size w w'):Pairs w' P ob c:=OwnS.bel h hb
theorem Pairs.touch {w w':World} {k:Nat} {P:Value} {ob:Option Nat} {c:Cm} (h:Pairs w P ob c) (ht:Touch k w w') (hn:∀ g,ob=some g→g≠k):Pairs w' P ob c:=OwnS.touch h ht hn
def DoneAny (c:Cm) (w:World) (e:Ending) (w':World):Prop:=∃ p n m ob,e=.returned (.tuple #[.slice p n m,.agg (replyL (verOf c)).toArray])∧Pairs w' (.slice p n m) ob c∧(∀ g,ob=some g→w.heap.size≤g)∧Below w.heap.size w w'
theorem done_any (c:Cm) (hk:1≤c.k∧c.k≤5) (w:World) :
  Calls Tryz.prog 98 #[.slice none 0 0,.agg #[.int .i64 c.k,.int .i64 c.c,.int .i64 c.s,.string c.a,.string c.b,.string c.o,.string c.v]] w (DoneAny c w):=by
 have nil:∀ e w',c.k≠2→(e=.returned (.tuple #[.slice none 0 0,.agg (replyL 0).toArray])∧Below w.heap.size w w')→DoneAny c w e w':=by
  rintro e w' h ⟨rfl,hb⟩
  refine⟨none,0,0,none,by unfold verOf;rw [if_neg h],?_,fun g hg=>(by cases hg),hb⟩
  unfold Pairs pairN pairsOf
  rw [if_neg h,if_neg h]
  exact OwnS.nil _ _ _
 rcases (show c.k=1∨c.k=2∨c.k=3∨c.k=4∨c.k=5 by omega) with h|h|h|h|h
 ·exact (done_get c h w).mono fun e w'=>nil e w' (by omega)
 ·refine (done_put c h w).mono ?_
  rintro e w' ⟨p,n,g,rfl,ho,hg,hb⟩
  refine⟨p,1,n,some g,by unfold verOf;rw [if_pos h],?_,fun g' hg'=>by cases hg';exact hg,hb⟩
  unfold Pairs pairN pairsOf
  rw [if_pos h,if_pos h]
  exact ho
 ·exact (done_del c h w).mono fun e w'=>nil e w' (by omega)
 ·exact (done_swap c h w).mono fun e w'=>nil e w' (by omega)
 ·exact (done_range c h w).mono fun e w'=>nil e w' (by omega)
def Applied (c:Cm) (w:World) (e:Ending) (w':World):Prop:=∃ p n m ob,e=.returned (.tuple #[.agg (stateL (.slice p n m) 1 (verOf c)).toArray,.agg (replyL (verOf c)).toArray])∧Pairs w' (.slice p n m) ob c∧(∀ g,ob=some g→w.heap.size≤g)∧Below w.heap.size w w'
theorem apply_any (c:Cm) (hc:CmOk c) (h1:c.c=1) (h2:c.s=1) (w:World) :
  Calls Tryz.prog 58 #[.agg (stateL (.slice none 0 0) 0 0).toArray,.agg #[.int .i64 c.k,.int .i64 c.c,.int .i64 c.s,.string c.a,.string c.b,.string c.o,.string c.v]] w (Applied c w):=by
 have KS:=qh (fun W=>scopied_nil 0 0 W)
 have KR:=qh (fun W=>by have:=right_cmd c.k c.c c.s c.a c.b c.o c.v W;rw [hc.right] at this;exact this)
 have KL:=qh look_new
 have KD:=qh (fun W=>done_any c hc.kk W)
 have KN:=qh (fun W=>note1 (verOf c) W)
 have hez:=fun W=>eql_zero c.k c.c c.s c.a c.b c.o c.v W
 have hz:zeroC c.k c.c c.s c.a c.b c.o c.v=false:=by
  unfold zeroC
  have:=hc.kk
  simp
  omega
 simp only [hz] at hez
 have hlo:∀ v,(ownL 1 v).length=48:=fun v=>rfl
 have hsf:=fun P=>state_fold P 1 (verOf c)
 rw [h1,h2] at KR KD hez ⊢
 generalize hver:verOf c=ver at KN hsf
 have HVER:=qh hver
 have HSF:=qh hsf
 clear hver hz hsf
 go_enter Tryz.func58,Tryz.ntmps58
 go_upto_region 1 with (fail)
 go_name_world W hW
 have hW:allocs w [.cells (stateL (.slice none 0 0) 0 0:List Value).toArray 66,.cells ([.int .i64 c.k,.int .i64 1,.int .i64 1,.string c.a,.string c.b,.string c.o,.string c.v]:List Value).toArray 23,.cells (stateL (.slice none 0 0) 0 0:List Value).toArray 66,.cells (replyL 0:List Value).toArray 53]=W:=hW
 have HS:=qh (show Holds W (w.heap.size) 66 (stateL (.slice none 0 0) 0 0) from holds_allocs _ hW 0 rfl)
 have HX:=qh (show Holds W (w.heap.size+1) 23 ([.int .i64 c.k,.int .i64 1,.int .i64 1,.string c.a,.string c.b,.string c.o,.string c.v]) from holds_allocs _ hW 1 rfl)
 have HZ:=qh (show Holds W (w.heap.size+1+1) 66 (stateL (.slice none 0 0) 0 0) from holds_allocs _ hW 2 rfl)
 have HR:=qh (show Holds W (w.heap.size+1+1+1) 53 (replyL 0) from holds_allocs _ hW 3 rfl)
 have hbW:=below_allocs _ hW
 have hsW:=size_allocs _ hW
 simp only [List.length_cons,List.length_nil] at hsW
 clear hW
 have HB:=qh (Base.start w)
 have HB:=qh (HB.out.bel hbW)
 clear hbW hsW
 generalize hr0:w.heap.size+1+1+1=gr at HR ⊢
 generalize hz0:w.heap.size+1+1=gz at HZ ⊢
 generalize hx0:w.heap.size+1=gx at HX ⊢
 have hord:w.heap.size<gx∧gx<gz∧gz<gr:=by omega
 generalize hB0:w.heap.size=B at HS HB hord ⊢
 have HRG:=qh HS.out.range0
 go_wp2_with (first
  | (refine wpList_load_mid rfl 66 _ rfl B 0 rfl (stateL (.slice none 0 0) 0 0) _ HRG.out Tryz.underlying66 rfl (by kernel_rfl) ?_))
 refine (KS.out _).mono ?_
 rintro e w1 ⟨rfl,hb⟩
 have HS:=qh (HS.out.bel hb)
 have HX:=qh (HX.out.bel hb)
 have HZ:=qh (HZ.out.bel hb)
 have HR:=qh (HR.out.bel hb)
 have HB:=qh (HB.out.bel hb)
 clear hb HRG
 go_upto_region 2 with (first
  | (refine wpList_store_whole rfl 66 (.tmp 2) (.tmp 11) B (stateL (.slice none 0 0) 0 0) (stateL (.slice none 0 0) 0 0) rfl rfl rfl rfl HS.out (by kernel_rfl) rfl (state_one _ _ _ _ _) ?_;intro w2 hh2 ht2))
 have HS:=qh hh2
 have HX:=qh (HX.out.touch ht2 (by omega))
 have HZ:=qh (HZ.out.touch ht2 (by omega))
 have HR:=qh (HR.out.touch ht2 (by omega))
 have HB:=qh (HB.out.touch ht2 (Nat.le_refl _))
 clear hh2 ht2
 have x0:=HX.out.cell 0
 have x1:=HX.out.cell 1
 have x2:=HX.out.cell 2
 have x3:=HX.out.cell 3
 have x4:=HX.out.cell 4
 have x5:=HX.out.cell 5
 have x6:=HX.out.cell 6
 simp only [yA,yB] at x0 x1 x2 x3 x4 x5 x6
 go_wp2_with fail
 refine (KR.out _).mono ?_
 rintro e w3 ⟨rfl,hb⟩
 have HS:=qh (HS.out.bel hb)
 have HX:=qh (HX.out.bel hb)
 have HZ:=qh (HZ.out.bel hb)
 have HR:=qh (HR.out.bel hb)
 have HB:=qh (HB.out.bel hb)
 clear hb x0 x1 x2 x3 x4 x5 x6
 have x1:=HX.out.cell 1
 have x2:=HX.out.cell 2
 simp only [yA,yB] at x1 x2
 have HRG:=qh (HS.out.rangeO 1 (cs:=ownL 0 0) (fun j v hv=>by rw [Nat.add_comm];exact hv))
 go_wp2_with (first
  | (refine wpList_load_mid rfl 64 _ rfl B 1 rfl (ownL 0 0) _ HRG.out Tryz.underlying64 rfl (by kernel_rfl) ?_))
 refine (KL.out _).mono ?_
 rintro e w4 ⟨rfl,hb⟩
 have HS:=qh (HS.out.bel hb)
 have HX:=qh (HX.out.bel hb)
 have HZ:=qh (HZ.out.bel hb)
 have HR:=qh (HR.out.bel hb)
 have HB:=qh (HB.out.bel hb)
 clear hb x1 x2 HRG
 go_upto_region 7 with (first
  | (refine wpList_store_new rfl 53 _ _ rfl rfl _ _ _ rfl rfl (by kernel_rfl) rfl (reply_one _) ?_))
 go_name_world W5 hW5
 have hb5:Below w4.heap.size w4 W5:=by rw [← hW5];go_grown
 have HS:=qh (HS.out.bel hb5)
 have HX:=qh (HX.out.bel hb5)
 have HZ:=qh (HZ.out.bel hb5)
 have HR:=qh (HR.out.bel hb5)
 have HB:=qh (HB.out.bel hb5)
 clear hW5 hb5
 have x0:=HX.out.cell 0
 have x1:=HX.out.cell 1
 have x2:=HX.out.cell 2
 have x3:=HX.out.cell 3
 have x4:=HX.out.cell 4
 have x5:=HX.out.cell 5
 have x6:=HX.out.cell 6
 simp only [yA,yB] at x0 x1 x2 x3 x4 x5 x6
 have s0:=HS.out.cell 0
 simp only [stateL,yA,yB] at s0
 go_wp2_with fail
 refine (KD.out _).mono ?_
 rintro e w6 ⟨p,n,m,ob,rfl,ho,hob,hb⟩
 have hbs:=HB.out.le
 have hpz:=HR.out.lt
 have hpg:∀ g,ob=some g→B≤g∧gr<g:=fun g hg=>⟨Nat.le_trans hbs (hob g hg),Nat.lt_of_lt_of_le hpz (hob g hg)⟩
 have HS:=qh (HS.out.bel hb)
 have HX:=qh (HX.out.bel hb)
 have HZ:=qh (HZ.out.bel hb)
 have HR:=qh (HR.out.bel hb)
 have HB:=qh (HB.out.bel hb)
 have HO:=qh ho
 rw [HVER.out]
 have hgy6:w6.heap.size≠gz:=Nat.ne_of_gt HZ.out.lt
 clear hb ho hob s0 x0 x1 x2 x3 x4 x5 x6 hbs hpz
 go_upto_region 13 with (first
  | (refine wpList_store_whole rfl 53 (.tmp 9) (.tmp 47) w6.heap.size (replyL 0) (replyL ver) rfl rfl rfl rfl (holds_alloc w6 _ (replyL 0)) (by kernel_rfl) rfl (reply_one _) ?_;intro W7 hh7 ht7))
 have HY:=qh hh7
 have hb7:Below w6.heap.size w6 W7:=Below.trans ((Below.refl _ _).alloc (Nat.le_refl _) _) (ht7.below (Nat.le_refl _) (by simp))
 have HS:=qh (HS.out.bel hb7)
 have HX:=qh (HX.out.bel hb7)
 have HZ:=qh (HZ.out.bel hb7)
 have HR:=qh (HR.out.bel hb7)
 have HB:=qh (HB.out.bel hb7)
 have HO:=qh (HO.out.bel hb7)
 clear hb7 hh7 ht7
 have hsf:=fun P=>HSF.out P
 have hlo1:=hlo ver
 clear hlo
 have hgyz:w6.heap.size≠gz:=hgy6
 generalize w6.heap.size=gy at HY hgyz ⊢
 have HRG:=qh (fun (w':World) (h:Touch gz W7.drew w')=>(((HS.out.bel (t_drew _ W7)).touch h (by omega)).rangeO 1 (cs:=ownL 0 0) (fun j v hv=>by rw [Nat.add_comm];exact hv)))
 have HRY:=qh (fun (w':World) (h:Touch gz W7.drew w')=>(((HY.out.bel (t_drew _ W7)).touch h hgyz).range0))
 have HX:=qh (HX.out.bel (t_drew _ W7))
 have HZ:=qh (HZ.out.bel (t_drew _ W7))
 have HR:=qh (HR.out.bel (t_drew _ W7))
 have HB:=qh (HB.out.bel (t_drew _ W7))
 have HO:=qh (HO.out.bel (t_drew _ W7))
 refine wp_region_noPanic ?_
 refine wp_region_late (S:=fun W'=>Touch gz W7.drew W') (X0:=[12]) (by as_aux_lemma=>kernel_rfl) ?_
 generalize W7.drew=wd at HX HZ HR HB HO HRG HRY ⊢
 have hSn:Touch gz wd wd:=Touch.refl _ _
 change wpAnyL _ _ _ _ _ _ 13 #[false,false,false,false,false,false,false,false,false,false,false,false,false] _ _
 refine mvA 0 (some 48) (fun _=>hSn) ?_
 simp only [Act.put,zA,zB,zC]
 refine mvA 1 (some 49) (fun _=>hSn) ?_
 simp only [Act.put,zA,zB,zC]
 refine tkA 2 [8,9,11,12] (some 50) (.agg (ownL 0 0).toArray) rfl (yieldsIf_load_mid (by rfl) 64 _ rfl B 1 rfl (ownL 0 0) _ (fun w hSw=>HRG.out w hSw) Tryz.underlying64 rfl (by as_aux_lemma=>kernel_rfl)) hSn ?rg3
 simp only [Act.put,zA,zB,zC]
 refine mvA 3 (some 51) (fun _=>hSn) ?_
 simp only [Act.put,zA,zB,zC]
 refine tkA 4 [8,9,11,12] (some 52) (?vg5) rfl (Or.inl ⟨by rfl,?hg5⟩) hSn ?rg5
 case hg5=>
  intro w hSw
  have b1:=(HX.out.touch hSw (by omega)).cell 1
  simp only [yA,yB] at b1
  go_simp
  try with_reducible rfl
 simp only [Act.put,zA,zB,zC]
 refine mvA 5 (some 53) (fun _=>hSn) ?_
 simp only [Act.put,zA,zB,zC]
 refine tkA 6 [8,9,11,12] (some 54) (?vg7) rfl (Or.inl ⟨by rfl,?hg7⟩) hSn ?rg7
 case hg7=>
  intro w hSw
  have b2:=(HX.out.touch hSw (by omega)).cell 2
  simp only [yA,yB] at b2
  go_simp
  try with_reducible rfl
 simp only [Act.put,zA,zB,zC]
 refine tkA 7 [8,9,11,12] (some 55) (.agg (replyL ver).toArray) rfl (yieldsIf_load_mid (by rfl) 53 _ rfl gy 0 rfl (replyL ver) _ (fun w hSw=>HRY.out w hSw) Tryz.underlying53 rfl (by as_aux_lemma=>kernel_rfl)) hSn ?rg8
 simp only [Act.put,zA,zB,zC]
 refine tkA 10 [12] (some 58) (.agg (replyL ver).toArray) rfl (yieldsIf_load_mid (by rfl) 53 _ rfl gy 0 rfl (replyL ver) _ (fun w hSw=>HRY.out w hSw) Tryz.underlying53 rfl (by as_aux_lemma=>kernel_rfl)) hSn ?rg9
 simp only [Act.put,zA,zB,zC]
 refine rd1 8 rfl (fun K hK=>?_)
 go_simp
 refine (KN.out _).mono ?_
 rintro e w8 ⟨rfl,hb⟩
 have HZ8:=qh (HZ.out.bel hb)
 have hSn:=hSn.bel hb
 clear hb
 refine hK.out _ _ (fun _=>hSn) ?_
 clear hK
 try simp only [Act.put,zA,zB,zC]
 refine mvA 9 (some 57) (fun _=>hSn) ?_
 simp only [Act.put,zA,zB,zC]
 refine rd1 11 rfl (fun K hK=>?_)
 refine step_store_box rfl 66 (.tmp 4) (.tmp 57) gz (stateL (.slice none 0 0) 0 0) (stateL (.slice p n m) 1 ver) rfl rfl rfl rfl HZ8.out (by kernel_rfl) rfl (state_one _ _ _ _ _) ?_
 intro w9 hh9 ht9
 have HZ9:=qh hh9
 have hSn:=hSn.trans ht9
 clear hh9 ht9
 refine hK.out _ _ (fun _=>hSn) ?_
 clear hK
 try simp only [Act.put,zA,zB,zC]
 refine rd1 12 rfl (fun K hK=>?_)
 refine step_store_box rfl 53 (.tmp 5) (.tmp 58) gr (replyL 0) (replyL ver) rfl rfl rfl rfl (HR.out.touch hSn (by omega)) (by kernel_rfl) rfl (reply_one _) ?_
 intro w10 hh10 ht10
 have HR10:=qh hh10;have HT10:=qh ht10
 clear hh10 ht10
 refine hK.out _ _ nlA ?_
 clear hK
 try simp only [Act.put,zA,zB,zC]
 refine dnA (NoPanic.normal ?_)
 have HB:=qh ((HB.out.touch hSn (by omega)).touch HT10.out (by omega))
 have HO:=qh ((HO.out.touch hSn (fun g hg=>by have:=hpg g hg;omega)).touch HT10.out (fun g hg=>by have:=hpg g hg;omega))
 have HZZ:=qh ((HZ9.out.touch HT10.out (by omega)).range0)
 have HRR:=qh HR10.out.range0
 have HPG:=qh hpg
 clear hSn HT10 hsf hlo1 hpg
 go_wp2_with fail
 refine bodyPost_ret (v:=.tuple #[.agg (stateL (.slice p n m) 1 ver).toArray,.agg (replyL ver).toArray]) (results_cell_cell Tryz.results58 _ _ gz gr _ _ _ _ rfl rfl HZZ.out HRR.out Tryz.underlying66 rfl (by kernel_rfl) Tryz.underlying53 rfl (by kernel_rfl)) rfl ?_
 exact⟨p,n,m,ob,by rw [HVER.out],HO.out,fun g hg=>hB0▸(HPG.out g hg).1,hB0▸HB.out.below⟩
theorem play_none (P:Value) (ob:Option Nat) (c:Cm) (q v:Int) (w:World) (h:Pairs w P ob c) (h2:c.k=2) :
  Calls Tryz.prog 39 #[.agg (stateL P q v).toArray,.slice none 0 0] w fun e w'=>∃ p m,e=.returned (.tuple #[.agg (stateL (.slice p 1 m) q v).toArray,.slice none 0 0])∧Below w.heap.size w w':=by
 have hp:∃ g,ob=some g∧OwnS w P (some g) 69 3 1 (pairL c.a c.v 1):=by
  unfold Pairs pairN pairsOf at h
  rw [if_pos h2,if_pos h2] at h
  obtain⟨g,_,_,_,hg,_⟩:=h.blk (by decide)
  exact⟨g,hg,hg▸h⟩
 obtain⟨g,rfl,ho⟩:=hp
 have KC:=qh (fun W (h:OwnS W P (some g) 69 3 1 (pairL c.a c.v 1))=>scopied_one P g _ (by simp [pairL,Value.oneCell']) q v W h)
 obtain⟨g0,n0,r0,rfl,_,_,_,_,_⟩:=ho.blk (by decide)
 have HO:=qh ho
 clear ho h
 go_enter Tryz.func39,Tryz.ntmps39
 go_upto_region 1 with (fail)
 go_name_world W hW
 have hW:allocs w [.cells (stateL (.slice (some ⟨g0,0,none⟩) 1 n0) q v:List Value).toArray 66,.cells (stateL (.slice none 0 0) 0 0:List Value).toArray 66]=W:=hW
 have HS:=qh (show Holds W (w.heap.size) 66 (stateL (.slice (some ⟨g0,0,none⟩) 1 n0) q v) from holds_allocs _ hW 0 rfl)
 have HZ:=qh (show Holds W (w.heap.size+1) 66 (stateL (.slice none 0 0) 0 0) from holds_allocs _ hW 1 rfl)
 have hbW:=below_allocs _ hW
 have hsW:=size_allocs _ hW
 simp only [List.length_cons,List.length_nil] at hsW
 clear hW
 have HB:=qh (Base.start w)
 have HB:=qh (HB.out.bel hbW)
 have HO:=qh (HO.out.bel hbW)
 clear hbW hsW
 generalize hz0:w.heap.size+1=gz at HZ ⊢
 have hord:w.heap.size<gz:=by omega
 generalize hB0:w.heap.size=B at HS HB hord ⊢
 have HRG:=qh HS.out.range0
 go_wp2_with (first
  | (refine wpList_load_mid rfl 66 _ rfl B 0 rfl (stateL (.slice (some ⟨g0,0,none⟩) 1 n0) q v) _ HRG.out Tryz.underlying66 rfl (by kernel_rfl) ?_))
 refine (KC.out _ HO.out).mono ?_
 rintro e w1 ⟨p,m,g1,rfl,_,_,hb⟩
 have HS:=qh (HS.out.bel hb)
 have HZ:=qh (HZ.out.bel hb)
 have HB:=qh (HB.out.bel hb)
 clear hb HRG HO
 go_wp2_with (first
  | (refine wpList_store_whole rfl 66 (.tmp 2) (.tmp 11) B (stateL (.slice (some ⟨g0,0,none⟩) 1 n0) q v) (stateL (.slice p 1 m) q v) rfl rfl rfl rfl HS.out (by kernel_rfl) rfl (state_one _ _ _ _ _) ?_;intro w2 hh2 ht2))
 have HS:=qh hh2
 have HZ:=qh (HZ.out.touch ht2 (by omega))
 have HB:=qh (HB.out.touch ht2 (Nat.le_refl _))
 clear hh2 ht2
 go_loopw [14,6] (fun vi vo wr=>vi=.int .i64 0∧vo=.slice none 0 0∧wr=w2) (fun _ _ _=>0)
 case atStart=>exact⟨rfl,rfl,rfl⟩
 case round=>
  obtain⟨rfl,rfl,rfl⟩:=hrel
  have HRG:=qh HS.out.range0
  go_wp2_with (first
   | (refine wpList_load_mid rfl 66 _ rfl B 0 rfl (stateL (.slice p 1 m) q v) _ HRG.out Tryz.underlying66 rfl (by kernel_rfl) ?_)
   | (refine wpList_store_whole rfl 66 (.tmp 4) (.tmp 29) gz (stateL (.slice none 0 0) 0 0) (stateL (.slice p 1 m) q v) rfl rfl rfl rfl HZ.out (by kernel_rfl) rfl (state_one _ _ _ _ _) ?_;intro w5 hh5 ht5))
  have HB:=qh (HB.out.touch ht5 (by omega))
  have HR:=qh hh5.range0
  clear hh5 ht5 HRG
  refine bodyPost_ret (v:=.tuple #[.agg (stateL (.slice p 1 m) q v).toArray,.slice none 0 0]) (results_cell_tmp Tryz.results39 _ _ gz _ _ _ rfl rfl HR.out Tryz.underlying66 rfl (by kernel_rfl)) rfl ?_
  exact⟨_,_,rfl,hB0▸HB.out.below⟩
end
end Go.Proofs.YtimdpiifpibgfaaGreatDoor
