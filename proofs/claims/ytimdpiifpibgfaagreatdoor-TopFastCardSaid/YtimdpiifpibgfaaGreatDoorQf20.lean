/- For every input the law TopFast returns true (a part of the proof). Condition: the listed variables start as the program's text lays them. -/
import Derived.Test.YtimdpiifpibgfaaGreatDoorQf16
import Derived.Test.YtimdpiifpibgfaaGreatDoorQf19
set_option linter.unusedVariables false
set_option linter.unusedSimpArgs false
set_option maxRecDepth 20000
set_option maxHeartbeats 16000000
namespace Go.Proofs.YtimdpiifpibgfaaGreatDoor
section
open Go.RowKit Go.Maps
theorem lit_small (q:Nat) (hq:q<7):(Lit.int .i64 (q:Int)).wf=true:=by
 rcases (show q=0∨q=1∨q=2∨q=3∨q=4∨q=5∨q=6 by omega) with rfl|rfl|rfl|rfl|rfl|rfl|rfl<;>rfl
theorem lcell_one (gl gm nl q:Nat) (V:List Value) (w:World) (h:LogAt w gl gm nl [⟨q,1,V⟩]) (hq:q<7) :
  Calls Tryz.prog 82 #[.pointer (some ⟨gl,0,none⟩),.agg #[.int .i64 q,.int .i64 1]] w fun e w'=>e=.returned (.tuple #[.agg V.toArray,.bool true])∧Below w.heap.size w w':=by
 refine (lcell_any gl gm nl _ q 1 w h (lit_small q hq) rfl).mono ?_
 rintro e w' ⟨v,h1,h2,h3,h4,rfl,hb⟩
 have hv:=h3 ⟨q,1,V⟩ (by simp) rfl rfl
 refine⟨?_,hb⟩
 rw [hv]
 simp [hasL]
theorem cellL_one (st:Int) (c:Cm) (sm:Bool):(cellL st c sm).toArray.all (·.oneCell')=true:=by simp [cellL,Value.oneCell']
theorem told_one (gc n me gl gm nl gi gx ni f t q:Nat) (c:Cm) (E:List Ent) (w:World) (h:CoreAt w gc n me gl gm nl gi gx ni [⟨q,1,cellL 1 c true⟩] E (.slice none 0 0) (.slice none 0 0) (.slice none 0 0)) (hnl:nl≤1000) (hni:ni≤1000) (hq:q<7) (hc:CmOk c) :
  Calls Tryz.prog 142 #[.pointer (some ⟨gc,0,none⟩),.agg (letL 5 f t q c).toArray] w fun e w'=>e=.returned (.tuple #[])∧SetDone gc n me gl gm nl gi gx ni [⟨q,1,cellL 1 c true⟩] E (.slice none 0 0) (.slice none 0 0) q 3 c false w w':=by
 have KL:=qh (fun W (h:LogAt W gl gm nl [⟨q,1,cellL 1 c true⟩])=>lcell_one gl gm nl q (cellL 1 c true) W h hq)
 have KV:=qh (fun W (h:Holds W gc 163 (coreL n me gl gi (.slice none 0 0) (.slice none 0 0) (.slice none 0 0)))=>leave_none gc n me gl gi none 0 (.slice none 0 0) (.slice none 0 0) q W h)
 have KS:=qh (fun W (h:CoreAt W gc n me gl gm nl gi gx ni [⟨q,1,cellL 1 c true⟩] E (.slice none 0 0) (.slice none 0 0) (.slice none 0 0))=>set_cell gc n me gl gm nl gi gx ni [⟨q,1,cellL 1 c true⟩] E (.slice none 0 0) (.slice none 0 0) q 3 c false W h hnl hni hq hc (.inr ⟨rfl,rfl⟩) (.inr ⟨by simp [hasL],rfl,rfl,_,List.mem_cons_self,rfl,rfl,rfl⟩))
 have HCA:=qh h;have HC:=qh h.hc;have HL:=qh h.lg
 have hlt:=h.lt
 have hne:=h.ne
 have HM:=qh (Mv.refl (fun k=>k=gc∨k=gm∨k=gx) w)
 clear h
 go_enter Tryz.func142,Tryz.ntmps142
 go_upto_region 1 with (fail)
 go_name_world W hW
 have hW:allocs w [.cells (letL 5 f t q c:List Value).toArray 47]=W:=hW
 have HX:=qh (show Holds W (w.heap.size) 47 (letL 5 f t q c) from holds_allocs _ hW 0 rfl)
 have hbW:=below_allocs _ hW
 have hsW:=size_allocs _ hW
 simp only [List.length_cons,List.length_nil] at hsW
 clear hW
 have HCA:=qh (HCA.out.bel hbW)
 have HC:=qh (HC.out.bel hbW)
 have HL:=qh (HL.out.bel hbW)
 have HM:=qh (HM.out.bel hbW)
 clear hbW
 generalize hx0:w.heap.size=gX at HX ⊢
 have hWs:w.heap.size<W.heap.size:=by omega
 clear hsW
 refine' wp_region_boxes [⟨10,11,4,14,45,zero21,cellL 1 c true⟩] (by kernel_rfl) (by kernel_rfl) (by kernel_rfl) ?z11 ?z21 ?bd1 _ ?h1 ?val1 ?fin1
 case z11=>
  intro x hx
  simp only [List.mem_cons,List.not_mem_nil,or_false] at hx
  subst hx
  ·exact⟨.agg (zero21:List Value).toArray,by kernel_rfl,rfl⟩
 case z21=>
  intro x hx
  simp only [List.mem_cons,List.not_mem_nil,or_false] at hx
  subst hx
  ·exact⟨by kernel_rfl,rfl,cellL_one _ _ _⟩
 case bd1=>
  intro x hx
  simp only [List.mem_cons,List.not_mem_nil,or_false] at hx
  subst hx
  ·simp
 case h1=>
  intro W0 hW0
  have HCA:=qh (HCA.out.bel hW0)
  have HC:=qh (HC.out.bel hW0)
  have HL:=qh (HL.out.bel hW0)
  have HM:=qh (HM.out.bel hW0)
  have HX:=qh (HX.out.bel hW0)
  have c0_2:=fun d os=>HC.out.grown d os 2
  simp only [coreL,yA,yB] at c0_2
  have c1_3:=fun d os=>HX.out.grown d os 3
  have c1_4:=fun d os=>HX.out.grown d os 4
  simp only [letL,yA,yB] at c1_3 c1_4
  simp only [List.map_cons,List.map_nil,hushOp]
  repeat go_big_quiet_step (first
   | (go_at_call 82;with_reducible exact calls_regrown fun W2 h2=>KL.out W2 (HL.out.bel h2)))
  refine wpQuiet_nil ?_
  intro w' _
  exact rfl
 case val1=>
  intro x hx
  simp only [List.mem_cons,List.not_mem_nil,or_false] at hx
  subst hx
  ·rfl
 intro β w4 hb hx hne
 have hx4:=hx _ List.mem_cons_self
 clear hx hne
 simp only [] at hx4
 simp only [patch,List.foldl,Act.put,List.setIfInBounds_toArray,List.set_cons_zero,List.set_cons_succ]
 have HCA:=qh (HCA.out.bel hb)
 have HC:=qh (HC.out.bel hb)
 have HL:=qh (HL.out.bel hb)
 have HM:=qh (HM.out.bel hb)
 have HX:=qh (HX.out.bel hb)
 generalize β 4=g4 at hx4 ⊢
 have H4:=qh hx4.2
 have hge4:=hx4.1
 clear hx4
 clear hb
 have hgx:gX≠gc∧g4≠gc:=by omega
 clear HC HL
 have y0:=H4.out.cell 0
 simp only [cellL,yA,yB] at y0
 have x3:=HX.out.cell 3
 have x4:=HX.out.cell 4
 simp only [letL,yA,yB] at x3 x4
 go_wp2_with fail
 refine (KV.out _ HCA.out.hc).mono ?_
 rintro e w5 ⟨rfl,hc5,ht5⟩
 have hm5:Mv (fun k=>k=gc) w4 w5:=Mv.of_touch ht5 rfl
 have HCA:=qh (HCA.out.recore hm5 hc5 (Ne.symm hne.1) (Ne.symm hne.2.1) (Ne.symm hne.2.2.1) (Ne.symm hne.2.2.2.1))
 have HX:=qh (HX.out.mv hm5 hgx.1)
 have H4:=qh (H4.out.mv hm5 hgx.2)
 have HM:=qh (HM.out.mv hm5 (fun k hk=>.inl (.inl hk)))
 clear hc5 ht5 hm5 y0 x3 x4
 have y1:=H4.out.cell 1
 have y2:=H4.out.cell 2
 have y3:=H4.out.cell 3
 have y4:=H4.out.cell 4
 simp only [cellL,yA,yB] at y1 y2 y3 y4
 have x3:=HX.out.cell 3
 have x4:=HX.out.cell 4
 have x7:=HX.out.cell 7
 have x8:=HX.out.cell 8
 have x9:=HX.out.cell 9
 have x10:=HX.out.cell 10
 have x11:=HX.out.cell 11
 have x12:=HX.out.cell 12
 have x13:=HX.out.cell 13
 have x14:=HX.out.cell 14
 have x15:=HX.out.cell 15
 have x16:=HX.out.cell 16
 have x17:=HX.out.cell 17
 have x18:=HX.out.cell 18
 have x19:=HX.out.cell 19
 have x20:=HX.out.cell 20
 have x21:=HX.out.cell 21
 simp only [letL,yA,yB] at x3 x4 x7 x8 x9 x10 x11 x12 x13 x14 x15 x16 x17 x18 x19 x20 x21
 go_wp2_with fail
 refine (KS.out _ HCA.out).mono ?_
 rintro e w6 ⟨rfl,gr,cr,m,rv,rest,hca,hr,ho,hm,hgr,hmv⟩
 have hs:=HM.out.size
 have HP:=qh (show SetDone gc n me gl gm nl gi gx ni [⟨q,1,cellL 1 c true⟩] E (.slice none 0 0) (.slice none 0 0) q 3 c false w w6 from ⟨gr,cr,m,rv,rest,hca,hr,Own8.mono (B':=w.heap.size) ho hs,hm,by omega,HM.out.mv hmv (fun k hk=>.inl hk)⟩)
 clear hca hr ho hm hgr hmv y1 y2 y3 y4 x3 x4 x7 x8 x9 x10 x11 x12 x13 x14 x15 x16 x17 x18 x19 x20 x21
 go_wp2_with fail
 exact bodyPost_end (v:=.tuple #[]) (by simp [results,Tryz.results142,go_sem]) rfl ⟨rfl,HP.out⟩
end
section
open Go.RowKit Go.Maps
theorem Own8.mv {w w':World} {F:Foot} {B n:Nat} {v:Value} (h:Own8 w B v n) (hm:Mv F w w') (hF:∀ k,F k→k<B):Own8 w' B v n:=by
 obtain⟨bs,h1,h2,h3,h4⟩:=h
 exact⟨bs,h1,h2,h3,h4.imp id fun ⟨b,cap,cur,e1,e2,hh,r⟩=>⟨b,cap,cur,e1,e2,(hm.block b (Array.getElem?_eq_some_iff.1 hh).1 (fun hf=>by have:=hF b hf;omega)).trans hh,r⟩⟩
def Committed (gc n me gl gm nl gi gx ni gb cb:Nat) (E:List Ent) (q:Nat) (c:Cm) (w w':World):Prop:=
 ∃ (gr cr m:Nat) (rv out:Value) (rest:List Value) (ob:Option Nat),CoreAt w' gc n me gl gm (nl+1) gi gx (ni+1) (lputE [⟨q,1,cellL 1 c true⟩] ⟨q,1,cellL 3 c false⟩) (putE E ⟨q,1,c,0⟩) (.slice (some ⟨gb,0,none⟩) 0 cb) (.slice (some ⟨gr,0,none⟩) 1 cr) out ∧
  Holds w' gr 127 (rv :: rest)∧Own8 w' w.heap.size rv m∧(1≤m∧m≤480)∧w.heap.size≤gr∧OwnS w' out ob 47 51 (n-1) (flat 51 (n-1) (outV 5 me q c))∧(∀ g,ob=some g→w.heap.size≤g)∧Mv (fun k=>k=gc∨k=gm∨k=gx∨k=gb) w w'
theorem commit_one (gc n me gl gm nl gi gx ni gb gld cb q:Nat) (rest:List Value) (c:Cm) (a:Nat→Int) (R:Value) (cnt tk:Int) (E:List Ent) (w:World) (h:CoreAt w gc n me gl gm nl gi gx ni [⟨q,1,cellL 1 c true⟩] E (.slice (some ⟨gb,0,none⟩) 1 cb) (.slice none 0 0) (.slice none 0 0))
  (hb:Holds w gb 158 (.pointer (some ⟨gld,0,none⟩) :: rest)) (hl:Holds w gld 167 (leadL q c a R cnt tk)) (hcb:1≤cb∧cb≤maxLen) (hgb:gb≠gc∧gb≠gl∧gb≠gm∧gb≠gi∧gb≠gx) (hnl:nl≤1000) (hni:ni≤1000) (hn:n≤7) (hme:me<n) (hq:q<7) (hc:CmOk c) :
  Calls Tryz.prog 146 #[.pointer (some ⟨gc,0,none⟩),.agg #[.int .i64 q,.int .i64 1],.agg #[.int .i64 c.k,.int .i64 c.c,.int .i64 c.s,.string c.a,.string c.b,.string c.o,.string c.v],.agg #[.int .i64 0,.int .i64 0,.int .i64 0,.int .i64 0,.int .i64 0,.int .i64 0,.int .i64 0,.int .i64 0]] w
   fun e w'=>e=.returned (.tuple #[])∧Committed gc n me gl gm nl gi gx ni gb cb E q c w w':=by
 have KL:=qh (fun W (h:LogAt W gl gm nl [⟨q,1,cellL 1 c true⟩])=>lcell_one gl gm nl q (cellL 1 c true) W h hq)
 have KV:=qh (fun W h hb hl=>leave_one gc n me gl gi gb gld cb rest (.slice none 0 0) (.slice none 0 0) q c a R cnt tk W h hb hl hcb.1 hcb.2 (Ne.symm hgb.1))
 have KS:=qh (fun W (h:CoreAt W gc n me gl gm nl gi gx ni [⟨q,1,cellL 1 c true⟩] E (.slice (some ⟨gb,0,none⟩) 0 cb) (.slice none 0 0) (.slice none 0 0))=>set_cell gc n me gl gm nl gi gx ni [⟨q,1,cellL 1 c true⟩] E (.slice (some ⟨gb,0,none⟩) 0 cb) (.slice none 0 0) q 3 c false W h hnl hni hq hc (.inr ⟨rfl,rfl⟩) (.inr ⟨by simp [hasL],rfl,rfl,_,List.mem_cons_self,rfl,rfl,rfl⟩))
 have KA:=qh (fun recs W h=>all_any gc n me gl gi (.slice (some ⟨gb,0,none⟩) 0 cb) recs 5 0 0 q c W h hn hme)
 have HCA:=qh h;have HB:=qh hb;have HLD:=qh hl
 have hlt:=h.lt
 have hne:=h.ne
 have hblt:=hb.lt
 have HM:=qh (Mv.refl (fun k=>k=gc∨k=gm∨k=gx∨k=gb) w)
 clear h hb hl
 go_enter Tryz.func146,Tryz.ntmps146
 go_upto_region 1 with (fail)
 go_name_world W hW
 have hW:allocs w [.cells ([.int .i64 q,.int .i64 1]:List Value).toArray 37,.cells ([.int .i64 c.k,.int .i64 c.c,.int .i64 c.s,.string c.a,.string c.b,.string c.o,.string c.v]:List Value).toArray 23,.cells ([.int .i64 0,.int .i64 0,.int .i64 0,.int .i64 0,.int .i64 0,.int .i64 0,.int .i64 0,.int .i64 0]:List Value).toArray 43]=W:=hW
 have HX:=qh (show Holds W (w.heap.size) 37 ([.int .i64 q,.int .i64 1]) from holds_allocs _ hW 0 rfl)
 have HY:=qh (show Holds W (w.heap.size+1) 23 ([.int .i64 c.k,.int .i64 c.c,.int .i64 c.s,.string c.a,.string c.b,.string c.o,.string c.v]) from holds_allocs _ hW 1 rfl)
 have HZ:=qh (show Holds W (w.heap.size+1+1) 43 ([.int .i64 0,.int .i64 0,.int .i64 0,.int .i64 0,.int .i64 0,.int .i64 0,.int .i64 0,.int .i64 0]) from holds_allocs _ hW 2 rfl)
 have hbW:=below_allocs _ hW
 have hsW:=size_allocs _ hW
 simp only [List.length_cons,List.length_nil] at hsW
 clear hW
 have HCA:=qh (HCA.out.bel hbW)
 have HB:=qh (HB.out.bel hbW)
 have HLD:=qh (HLD.out.bel hbW)
 have HM:=qh (HM.out.bel hbW)
 clear hbW
 have hWs:w.heap.size+2<W.heap.size:=by omega
 clear hsW
 generalize hz0:w.heap.size+1+1=gZ at HZ ⊢
 generalize hy0:w.heap.size+1=gY at HY ⊢
 generalize hx0:w.heap.size=gX at HX ⊢
 have hg0:(gX≠gc∧gX≠gb∧gX≠gm∧gX≠gx)∧(gY≠gc∧gY≠gb∧gY≠gm∧gY≠gx)∧(gZ≠gc∧gZ≠gb∧gZ≠gm∧gZ≠gx)∧gZ<W.heap.size:=by omega
 have x0:=HX.out.cell 0
 have x1:=HX.out.cell 1
 simp only [yA,yB] at x0 x1
 go_wp2_with fail
 refine (KV.out _ HCA.out.hc HB.out HLD.out).mono ?_
 rintro e w1 ⟨rfl,hc1,hm1⟩
 have HCA:=qh (HCA.out.recore hm1 hc1 (by omega) (by omega) (by omega) (by omega))
 have HX:=qh (HX.out.mv hm1 (by omega));have HY:=qh (HY.out.mv hm1 (by omega));have HZ:=qh (HZ.out.mv hm1 (by omega))
 have HM:=qh (HM.out.mv hm1 (fun k hk=>.inl (by omega)))
 have hs1:=hm1.size
 clear hc1 hm1 x0 x1 HB HLD
 have HC:=qh HCA.out.hc;have HL:=qh HCA.out.lg
 go_upto_region 2 with (fail)
 refine' wp_region_boxes [⟨9,10,8,20,45,zero21,cellL 1 c true⟩] (by kernel_rfl) (by kernel_rfl) (by kernel_rfl) ?z11 ?z21 ?bd1 _ ?h1 ?val1 ?fin1
 case z11=>
  intro x hx
  simp only [List.mem_cons,List.not_mem_nil,or_false] at hx
  subst hx
  ·exact⟨.agg (zero21:List Value).toArray,by kernel_rfl,rfl⟩
 case z21=>
  intro x hx
  simp only [List.mem_cons,List.not_mem_nil,or_false] at hx
  subst hx
  ·exact⟨by kernel_rfl,rfl,cellL_one _ _ _⟩
 case bd1=>
  intro x hx
  simp only [List.mem_cons,List.not_mem_nil,or_false] at hx
  subst hx
  ·simp
 case h1=>
  intro W0 hW0
  have HCA:=qh (HCA.out.bel hW0)
  have HC:=qh (HC.out.bel hW0)
  have HL:=qh (HL.out.bel hW0)
  have HM:=qh (HM.out.bel hW0)
  have HX:=qh (HX.out.bel hW0)
  have HY:=qh (HY.out.bel hW0)
  have HZ:=qh (HZ.out.bel hW0)
  have c0_2:=fun d os=>HC.out.grown d os 2
  simp only [coreL,yA,yB] at c0_2
  have c1_0:=fun d os=>HX.out.grown d os 0
  have c1_1:=fun d os=>HX.out.grown d os 1
  simp only [yA,yB] at c1_0 c1_1
  simp only [List.map_cons,List.map_nil,hushOp]
  repeat go_big_quiet_step (first
   | (go_at_call 82;with_reducible exact calls_regrown fun W2 h2=>KL.out W2 (HL.out.bel h2)))
  refine wpQuiet_nil ?_
  intro w' _
  exact rfl
 case val1=>
  intro x hx
  simp only [List.mem_cons,List.not_mem_nil,or_false] at hx
  subst hx
  ·rfl
 intro β w4 hb hx hne
 have hx8:=hx _ List.mem_cons_self
 clear hx hne
 simp only [] at hx8
 simp only [patch,List.foldl,Act.put,List.setIfInBounds_toArray,List.set_cons_zero,List.set_cons_succ]
 have HCA:=qh (HCA.out.bel hb)
 have HC:=qh (HC.out.bel hb)
 have HL:=qh (HL.out.bel hb)
 have HM:=qh (HM.out.bel hb)
 have HX:=qh (HX.out.bel hb)
 have HY:=qh (HY.out.bel hb)
 have HZ:=qh (HZ.out.bel hb)
 generalize β 8=g8 at hx8 ⊢
 have H8:=qh hx8.2
 have hge8:=hx8.1
 clear hx8
 clear hb
 clear HC HL
 have h1:=H8.out.cell 1
 have h2:=H8.out.cell 2
 have h3:=H8.out.cell 3
 have h4:=H8.out.cell 4
 simp only [cellL,yA,yB] at h1 h2 h3 h4
 have x0:=HX.out.cell 0
 have x1:=HX.out.cell 1
 simp only [yA,yB] at x0 x1
 have y0:=HY.out.cell 0
 have y1:=HY.out.cell 1
 have y2:=HY.out.cell 2
 have y3:=HY.out.cell 3
 have y4:=HY.out.cell 4
 have y5:=HY.out.cell 5
 have y6:=HY.out.cell 6
 simp only [yA,yB] at y0 y1 y2 y3 y4 y5 y6
 have z0:=HZ.out.cell 0
 have z1:=HZ.out.cell 1
 have z2:=HZ.out.cell 2
 have z3:=HZ.out.cell 3
 have z4:=HZ.out.cell 4
 have z5:=HZ.out.cell 5
 have z6:=HZ.out.cell 6
 have z7:=HZ.out.cell 7
 simp only [yA,yB] at z0 z1 z2 z3 z4 z5 z6 z7
 go_wp2_with fail
 refine (KS.out _ HCA.out).mono ?_
 rintro e w6 ⟨rfl,gr,cr,m,rv,rest2,hca,hr,ho,hm,hgr,hmv⟩
 have hs:=HM.out.size
 have HCA:=qh hca;have HR:=qh hr;have HMR:=qh hm
 have HO:=qh (Own8.mono (B':=w.heap.size) ho hs)
 have hgr2:w.heap.size≤gr:=by omega
 have HX:=qh (HX.out.mv hmv (by omega));have HY:=qh (HY.out.mv hmv (by omega));have HZ:=qh (HZ.out.mv hmv (by omega))
 have HM:=qh (HM.out.mv hmv (fun k hk=>.inl (by omega)))
 clear hca hr ho hm hmv h1 h2 h3 h4 x0 x1 y0 y1 y2 y3 y4 y5 y6 z0 z1 z2 z3 z4 z5 z6 z7 H8
 have x0:=HX.out.cell 0
 have x1:=HX.out.cell 1
 simp only [yA,yB] at x0 x1
 have y0:=HY.out.cell 0
 have y1:=HY.out.cell 1
 have y2:=HY.out.cell 2
 have y3:=HY.out.cell 3
 have y4:=HY.out.cell 4
 have y5:=HY.out.cell 5
 have y6:=HY.out.cell 6
 simp only [yA,yB] at y0 y1 y2 y3 y4 y5 y6
 have z0:=HZ.out.cell 0
 have z1:=HZ.out.cell 1
 have z2:=HZ.out.cell 2
 have z3:=HZ.out.cell 3
 have z4:=HZ.out.cell 4
 have z5:=HZ.out.cell 5
 have z6:=HZ.out.cell 6
 have z7:=HZ.out.cell 7
 simp only [yA,yB] at z0 z1 z2 z3 z4 z5 z6 z7
 go_wp2_with fail
 refine (KA.out _ _ HCA.out.hc).mono ?_
 rintro e w7 ⟨rfl,out,ob,hc7,ho7,hob7,hm7⟩
 have hs6:=HM.out.size
 have HP:=qh (show Committed gc n me gl gm nl gi gx ni gb cb E q c w w7 from ⟨gr,cr,m,rv,out,rest2,ob,HCA.out.recore hm7 hc7 (by omega) (by omega) (by omega) (by omega),HR.out.mv hm7 (by omega),HO.out.mv hm7 (fun k hk=>by omega),HMR.out,hgr2,ho7,fun g hg=>by have:=hob7 g hg;omega,HM.out.mv hm7 (fun k hk=>.inl (by omega))⟩)
 clear hc7 ho7 hob7 hm7 x0 x1 y0 y1 y2 y3 y4 y5 y6 z0 z1 z2 z3 z4 z5 z6 z7
 go_wp2_with fail
 exact bodyPost_end (v:=.tuple #[]) (by simp [results,Tryz.results146,go_sem]) rfl ⟨rfl,HP.out⟩
end
section
open Go.RowKit Go.Maps
def attr0:List Value:=[.int .i64 0,.int .i64 0,.int .i64 0,.int .i64 0,.int .i64 0,.int .i64 0,.int .i64 0,.int .i64 0]
theorem sameA_zero (k:Nat):sameA (At.of 0) (fun _=>At.of 0) k=k:=by
 induction k with
 | zero=>rfl
 | succ k ih=>unfold sameA;rw [ih,if_pos (by decide)]
theorem preA_wait (K len:Nat) (h:len+2<K):preA K true (At.of 0) (fun _=>At.of 0) len false=(0,At.of 0):=by
 unfold preA
 rw [sameA_zero,if_neg (by omega),if_pos (.inr (by simp))]
theorem preA_com (K len:Nat) (h:K≤len+2):preA K true (At.of 0) (fun _=>At.of 0) len false=(1,At.of 0):=by
 unfold preA
 rw [sameA_zero,if_pos ⟨rfl,h⟩]
theorem pre_zero (n len:Nat) (v:Int) (p:Option Addr) (cap:Nat) (w:World) (hS:IsRows w p len 8 fun _=>attr0) (hlc:len≤cap) (hnil:p=none→cap=0) (hn3:3≤n) (hn:n≤7) (hlen:len≤1000) (hv:(len+2<n∧v=0)∨(n≤len+2∧v=1)) :
  Calls Tryz.prog 145 #[.int .i64 n,.bool true,.agg #[.int .i64 0,.int .i64 0,.int .i64 0,.int .i64 0,.int .i64 0,.int .i64 0,.int .i64 0,.int .i64 0],.slice p len cap,.bool false] w fun e w'=>
   e=.returned (.tuple #[.int .i64 v,.agg attr0.toArray])∧Below w.heap.size w w':=by
 have:=pre_any n true false (At.of 0) p len cap (fun _=>At.of 0) w hS hlc hnil hn3 hn (by omega)
 rcases hv with⟨h,rfl⟩|⟨h,rfl⟩
 ·rw [preA_wait n len h] at this
  exact this
 ·rw [preA_com n len h] at this
  exact this
theorem IsRows.bel {w w':World} {p:Option Addr} {n s:Nat} {V:Nat→List Value} (h:IsRows w p n s V) (hb:Below w.heap.size w w'):IsRows w' p n s V:=h.below hb
theorem attr0_one:attr0.toArray.all (·.oneCell')=true:=by simp [attr0,Value.oneCell']
theorem weigh_wait (gc n me gl gi gld len cap:Nat) (leads recs out:Value) (q:Nat) (c:Cm) (a:Nat→Int) (p:Option Addr) (tk:Int) (w:World) (h:Holds w gc 163 (coreL n me gl gi leads recs out)) (hl:Holds w gld 167 (leadL q c a (.slice p len cap) len tk)) (hS:IsRows w p len 8 fun _=>attr0) (hlc:len≤cap) (hnil:p=none→cap=0) (hn3:3≤n) (hn:n≤7) (hlen:len+2<n) :
  Calls Tryz.prog 78 #[.pointer (some ⟨gc,0,none⟩),.pointer (some ⟨gld,0,none⟩),.bool false] w fun e w'=>e=.returned (.bool false)∧Below w.heap.size w w':=by
 have KP:=qh (fun W (hS:IsRows W p len 8 fun _=>attr0)=>pre_zero n len 0 p cap W hS hlc hnil hn3 hn (by omega) (.inl ⟨hlen,rfl⟩))
 have HC:=qh h;have HL:=qh hl;have HS:=qh hS
 have HB:=qh (Base.start w)
 clear h hl hnil hS
 go_enter Tryz.func78,Tryz.ntmps78
 go_upto_region 1 with (fail)
 generalize hB0:w.heap.size=B at HB ⊢
 refine' wp_region_boxes [⟨21,23,8,29,43,attr0,attr0⟩] (by kernel_rfl) (by kernel_rfl) (by kernel_rfl) ?z11 ?z21 ?bd1 _ ?h1 ?val1 ?fin1
 case z11=>
  intro x hx
  simp only [List.mem_cons,List.not_mem_nil,or_false] at hx
  subst hx
  ·exact⟨.agg (attr0:List Value).toArray,by kernel_rfl,rfl⟩
 case z21=>
  intro x hx
  simp only [List.mem_cons,List.not_mem_nil,or_false] at hx
  subst hx
  ·exact⟨by kernel_rfl,rfl,attr0_one⟩
 case bd1=>
  intro x hx
  simp only [List.mem_cons,List.not_mem_nil,or_false] at hx
  subst hx
  ·simp
 case h1=>
  intro W0 hW0
  have HC:=qh (HC.out.bel hW0)
  have HL:=qh (HL.out.bel hW0)
  have HB:=qh (HB.out.bel hW0)
  have HS:=qh (HS.out.bel hW0)
  have c0_0:=fun d os=>HC.out.grown d os 0
  simp only [coreL,yA,yB] at c0_0
  have c1_5:=fun d os=>HL.out.grown d os 5
  have c1_13:=fun d os=>HL.out.grown d os 13
  have c1_14:=fun d os=>HL.out.grown d os 14
  have c1_15:=fun d os=>HL.out.grown d os 15
  have c1_16:=fun d os=>HL.out.grown d os 16
  have c1_17:=fun d os=>HL.out.grown d os 17
  have c1_18:=fun d os=>HL.out.grown d os 18
  have c1_19:=fun d os=>HL.out.grown d os 19
  have c1_20:=fun d os=>HL.out.grown d os 20
  have c1_28:=fun d os=>HL.out.grown d os 28
  simp only [leadL,yA,yB] at c1_5 c1_13 c1_14 c1_15 c1_16 c1_17 c1_18 c1_19 c1_20 c1_28
  simp only [List.map_cons,List.map_nil,hushOp]
  repeat go_big_quiet_step (first
   | (go_at_call 145;with_reducible exact calls_regrown fun W2 h2=>KP.out W2 (HS.out.bel h2)))
  refine wpQuiet_nil ?_
  intro w' _
  exact rfl
 case val1=>
  intro x hx
  simp only [List.mem_cons,List.not_mem_nil,or_false] at hx
  subst hx
  ·rfl
 intro β w4 hb hx hne
 have hx8:=hx _ List.mem_cons_self
 clear hx hne
 simp only [] at hx8
 simp only [patch,List.foldl,Act.put,List.setIfInBounds_toArray,List.set_cons_zero,List.set_cons_succ]
 have HC:=qh (HC.out.bel hb)
 have HL:=qh (HL.out.bel hb)
 have HB:=qh (HB.out.bel hb)
 have HS:=qh (HS.out.bel hb)
 generalize β 8=g8 at hx8 ⊢
 have H8:=qh hx8.2
 have hge8:=hx8.1
 clear hx8
 clear hb
 go_wp2_with fail
 go_ret
 exact⟨rfl,hB0▸HB.out.below⟩
theorem weigh_com (gc n me gl gm nl gi gx ni gb gld cb q len cap:Nat) (rest:List Value) (c:Cm) (a:Nat→Int) (p:Option Addr) (tk:Int) (E:List Ent) (w:World) (h:CoreAt w gc n me gl gm nl gi gx ni [⟨q,1,cellL 1 c true⟩] E (.slice (some ⟨gb,0,none⟩) 1 cb) (.slice none 0 0) (.slice none 0 0))
  (hb:Holds w gb 158 (.pointer (some ⟨gld,0,none⟩) :: rest)) (hl:Holds w gld 167 (leadL q c a (.slice p len cap) len tk)) (hcb:1≤cb∧cb≤maxLen) (hgb:gb≠gc∧gb≠gl∧gb≠gm∧gb≠gi∧gb≠gx) (hnl:nl≤1000) (hni:ni≤1000) (hn:n≤7) (hme:me<n) (hq:q<7) (hc:CmOk c)
  (hS:IsRows w p len 8 fun _=>attr0) (hlc:len≤cap) (hnil:p=none→cap=0) (hn3:3≤n) (hlen:n≤len+2) (hlen2:len≤7) :
  Calls Tryz.prog 78 #[.pointer (some ⟨gc,0,none⟩),.pointer (some ⟨gld,0,none⟩),.bool false] w fun e w'=>e=.returned (.bool true)∧Committed gc n me gl gm nl gi gx ni gb cb E q c w w':=by
 have KP:=qh (fun W (hS:IsRows W p len 8 fun _=>attr0)=>pre_zero n len 1 p cap W hS hlc hnil hn3 hn (by omega) (.inr ⟨hlen,rfl⟩))
 have KC:=qh (fun W h hb hl=>commit_one gc n me gl gm nl gi gx ni gb gld cb q rest c a (.slice p len cap) len tk E W h hb hl hcb hgb hnl hni hn hme hq hc)
 have HCA:=qh h;have HC:=qh h.hc;have HG:=qh hb;have HL:=qh hl;have HS:=qh hS
 have HB:=qh (Base.start w)
 clear h hl hnil hS hb
 go_enter Tryz.func78,Tryz.ntmps78
 go_upto_region 1 with (fail)
 generalize hB0:w.heap.size=B at HB ⊢
 refine' wp_region_boxes [⟨21,23,8,29,43,attr0,attr0⟩] (by kernel_rfl) (by kernel_rfl) (by kernel_rfl) ?z12 ?z22 ?bd2 _ ?h2 ?val2 ?fin2
 case z12=>
  intro x hx
  simp only [List.mem_cons,List.not_mem_nil,or_false] at hx
  subst hx
  ·exact⟨.agg (attr0:List Value).toArray,by kernel_rfl,rfl⟩
 case z22=>
  intro x hx
  simp only [List.mem_cons,List.not_mem_nil,or_false] at hx
  subst hx
  ·exact⟨by kernel_rfl,rfl,attr0_one⟩
 case bd2=>
  intro x hx
  simp only [List.mem_cons,List.not_mem_nil,or_false] at hx
  subst hx
  ·simp
 case h2=>
  intro W0 hW0
  have HCA:=qh (HCA.out.bel hW0)
  have HC:=qh (HC.out.bel hW0)
  have HG:=qh (HG.out.bel hW0)
  have HL:=qh (HL.out.bel hW0)
  have HB:=qh (HB.out.bel hW0)
  have HS:=qh (HS.out.bel hW0)
  have c0_0:=fun d os=>HC.out.grown d os 0
  simp only [coreL,yA,yB] at c0_0
  have c1_5:=fun d os=>HL.out.grown d os 5
  have c1_13:=fun d os=>HL.out.grown d os 13
  have c1_14:=fun d os=>HL.out.grown d os 14
  have c1_15:=fun d os=>HL.out.grown d os 15
  have c1_16:=fun d os=>HL.out.grown d os 16
  have c1_17:=fun d os=>HL.out.grown d os 17
  have c1_18:=fun d os=>HL.out.grown d os 18
  have c1_19:=fun d os=>HL.out.grown d os 19
  have c1_20:=fun d os=>HL.out.grown d os 20
  have c1_28:=fun d os=>HL.out.grown d os 28
  simp only [leadL,yA,yB] at c1_5 c1_13 c1_14 c1_15 c1_16 c1_17 c1_18 c1_19 c1_20 c1_28
  simp only [List.map_cons,List.map_nil,hushOp]
  repeat go_big_quiet_step (first
   | (go_at_call 145;with_reducible exact calls_regrown fun W2 h2=>KP.out W2 (HS.out.bel h2)))
  refine wpQuiet_nil ?_
  intro w' _
  exact rfl
 case val2=>
  intro x hx
  simp only [List.mem_cons,List.not_mem_nil,or_false] at hx
  subst hx
  ·rfl
 intro β w4 hb hx hne
 have hx8:=hx _ List.mem_cons_self
 clear hx hne
 simp only [] at hx8
 simp only [patch,List.foldl,Act.put,List.setIfInBounds_toArray,List.set_cons_zero,List.set_cons_succ]
 have HCA:=qh (HCA.out.bel hb)
 have HC:=qh (HC.out.bel hb)
 have HG:=qh (HG.out.bel hb)
 have HL:=qh (HL.out.bel hb)
 have HB:=qh (HB.out.bel hb)
 have HS:=qh (HS.out.bel hb)
 generalize β 8=g8 at hx8 ⊢
 have H8:=qh hx8.2
 have hge8:=hx8.1
 clear hx8
 clear hb
 go_upto_region 5 with (fail)
 have HCA:=qh (HCA.out.bel (t_drew _ w4))
 have HG:=qh (HG.out.bel (t_drew _ w4))
 have HL:=qh (HL.out.bel (t_drew _ w4))
 have HB:=qh (HB.out.bel (t_drew _ w4))
 have H8:=qh (H8.out.bel (t_drew _ w4))
 refine wp_region_noPanic ?_
 refine wp_region_late (S:=fun W'=>Below w4.drew.heap.size w4.drew W') (X0:=[10]) (by as_aux_lemma=>kernel_rfl) ?_
 generalize w4.drew=wd at HCA HG HL HB H8 ⊢
 have hSn:Below wd.heap.size wd wd:=Below.refl _ _
 change wpAnyL _ _ _ _ _ _ 11 #[false,false,false,false,false,false,false,false,false,false,false] _ _
 refine mvA 0 (some 33) (fun _=>hSn) ?_
 simp only [Act.put,zA,zB,zC]
 refine mvA 1 (some 34) (fun _=>hSn) ?_
 simp only [Act.put,zA,zB,zC]
 refine mvA 2 (some 35) (fun _=>hSn) ?_
 simp only [Act.put,zA,zB,zC]
 refine mvA 3 (some 36) (fun _=>hSn) ?_
 simp only [Act.put,zA,zB,zC]
 refine tkA 4 [10] (some 37) (?vg5) rfl (Or.inl ⟨by rfl,?hg5⟩) hSn ?rg5
 case hg5=>
  intro w hSw
  have b0:=(HL.out.bel hSw).cell 0
  have b1:=(HL.out.bel hSw).cell 1
  simp only [leadL,yA,yB] at b0 b1
  go_simp
  try with_reducible rfl
 simp only [Act.put,zA,zB,zC]
 refine mvA 5 (some 38) (fun _=>hSn) ?_
 simp only [Act.put,zA,zB,zC]
 refine mvA 6 (some 39) (fun _=>hSn) ?_
 simp only [Act.put,zA,zB,zC]
 refine mvA 7 (some 40) (fun _=>hSn) ?_
 simp only [Act.put,zA,zB,zC]
 refine tkA 8 [10] (some 41) (?vg9) rfl (Or.inl ⟨by rfl,?hg9⟩) hSn ?rg9
 case hg9=>
  intro w hSw
  have b6:=(HL.out.bel hSw).cell 6
  have b7:=(HL.out.bel hSw).cell 7
  have b8:=(HL.out.bel hSw).cell 8
  have b9:=(HL.out.bel hSw).cell 9
  have b10:=(HL.out.bel hSw).cell 10
  have b11:=(HL.out.bel hSw).cell 11
  have b12:=(HL.out.bel hSw).cell 12
  simp only [leadL,yA,yB] at b6 b7 b8 b9 b10 b11 b12
  go_simp
  try with_reducible rfl
 simp only [Act.put,zA,zB,zC]
 refine tkA 9 [10] (some 42) (?vg10) rfl (Or.inl ⟨by rfl,?hg10⟩) hSn ?rg10
 case hg10=>
  intro w hSw
  have b0:=(H8.out.bel hSw).cell 0
  have b1:=(H8.out.bel hSw).cell 1
  have b2:=(H8.out.bel hSw).cell 2
  have b3:=(H8.out.bel hSw).cell 3
  have b4:=(H8.out.bel hSw).cell 4
  have b5:=(H8.out.bel hSw).cell 5
  have b6:=(H8.out.bel hSw).cell 6
  have b7:=(H8.out.bel hSw).cell 7
  simp only [attr0,yA,yB] at b0 b1 b2 b3 b4 b5 b6 b7
  go_simp
  try with_reducible rfl
 simp only [Act.put,zA,zB,zC]
 refine rd1 10 rfl (fun K hK=>?_)
 go_simp
 refine (KC.out _ (HCA.out.bel hSn) (HG.out.bel hSn) (HL.out.bel hSn)).mono ?_
 rintro e w6 ⟨rfl,gr,cr,m,rv,out,rest2,ob,a1,a2,a3,a4,a5,a6,a7,a8⟩
 have hb6:=HB.out.bel hSn
 have hs6:=hb6.le
 have HP:=qh (show Committed gc n me gl gm nl gi gx ni gb cb E q c w w6 from ⟨gr,cr,m,rv,out,rest2,ob,a1,a2,Own8.mono a3 (by omega),a4,by omega,a6,fun g hg=>by have:=a7 g hg;omega,(Mv.of_below (hB0▸hb6.below)).mv a8 (fun k hk=>.inl hk)⟩)
 clear a1 a2 a3 a4 a5 a6 a7 a8 hb6 hs6
 refine hK.out _ _ nlA ?_
 clear hK
 try simp only [Act.put,zA,zB,zC]
 refine dnA (NoPanic.normal ?_)
 clear hSn HCA HG HL HB H8
 go_wp2_with fail
 go_ret
 exact⟨rfl,HP.out⟩
end
section
open Go.RowKit Go.Maps
def IsMapB (w:World) (b:Nat):Prop:=∃ es clock,w.heap[b]?=some (.map es clock)
theorem Holds.ne_of {w:World} {a b:Nat} {t t':TypeId} {L L':List Value} (h:Holds w a t L) (h':Holds w b t' L') (ht:t≠t'):a≠b:=by
 rintro rfl
 unfold Holds at h h'
 rw [h] at h'
 injection h' with h'
 injection h' with _ h2
 exact ht h2
theorem ownsMap_ne {w:World} {b k:Nat} {e:TypeId} {L:List Value} (hm:IsMapB w b) (h:Holds w k e L):k≠b:=by
 rintro rfl
 obtain⟨es,clock,hm⟩:=hm
 unfold Holds at h
 rw [h] at hm
 cases hm
theorem LogAt.isMap {w:World} {g b n:Nat} {l:List LEnt} (h:LogAt w g b n l):IsMapB w b:=by
 obtain⟨D,⟨es,clock,hm,r⟩,hl⟩:=h.map
 exact⟨es,clock,hm⟩
theorem IxAt.isMap {w:World} {g b n:Nat} {d:Nat→Int} {l:List Ent} (h:IxAt w g b n d l):IsMapB w b:=by
 obtain⟨D,⟨es,clock,hm,r⟩,hl⟩:=h.map
 exact⟨es,clock,hm⟩
abbrev intK:Keyed Tryz.prog 3:=int_keyed Tryz.underlying3
def lit3:List (Int × Int)→DataW Empty
 | []=>.map []
 | (k,v) :: r=>(lit3 r).put (.int .i64 k) (.lit (.int .i64 v))
def MapL (w:World) (b:Nat) (l:List (Int × Int)):Prop:=w.ownsMap Tryz.prog 3 (plainElem Tryz.prog 3) b l.length (lit3 l)
theorem MapL.made (w:World):MapL (w.alloc (.map #[] 0)) w.heap.size []:=World.ownsMap_made w _ _ _
theorem wpList_insert_int {w:World} {ops:Array Oper} {rest:List Oper} {o:Oper} {a:Act} {Q:Exit→Act→World→Prop}
  (hg:o.guard=none) (m x v:Operand) (hop:o.op=Op.insert 320 m x v) (b:Nat) (l:List (Int × Int))
  (hm:a.eval m=.map (some b)) (hown:MapL w b l) (hn:l.length≤100) (key val:Int) (hx:a.eval x=.int .i64 key) (hv:a.eval v=.int .i64 val)
  (hk1:(Lit.int .i64 key).wf=true) (hk2:(Lit.int .i64 val).wf=true)
  (hK:∀ w',MapL w' b ((key,val) :: l)→w.grownBy w' (some b)→wpList Tryz.prog ops Q rest (a.put o.dst undef) w') :
  wpList Tryz.prog ops Q (o :: rest) a w:=by
 refine wpList_plain hg fun K' hK'=>?_
 obtain⟨w',hrun,r1,r2⟩:=hown.update intK (e:=3) Tryz.underlying320 (by unfold maxLen;omega) (keyOf_int_mk Tryz.underlying3 hk1) (plainElem_int (H:=Empty) Tryz.underlying3 hk2)
 unfold Oper.wp
 simp [execOp,hop,hm,hx,hv,hrun,Result.andThen]
 exact hK' _ _ (hK w' r1 r2)
theorem MapL.look {w:World} {b:Nat} {l:List (Int × Int)} (h:MapL w b l) (k v:Int) (hk:(Lit.int .i64 k).wf=true) (he:(lit3 l).atKey (.int .i64 k) (.lit (.int .i64 0))=.lit (.int .i64 v)) :
  (Instr.lookup 320 (.map (some b)) (.int .i64 k) false).run Tryz.prog w=.ok (.int .i64 v) w:=by
 obtain⟨c,hrun,hat,_⟩:=h.lookup_int (e:=3) (q:=.i64) intK Tryz.underlying320 Tryz.underlying3 (by kernel_rfl) (keyOf_int_mk Tryz.underlying3 hk)
 rw [he] at hat
 injection hat with h1
 injection h1 with _ h2
 rw [h2]
 exact hrun
theorem Touch.of_grownBy {w w':World} {b:Nat} (h:w.grownBy w' (some b)):Touch b w w':=⟨h.os,h.tape,h.output,h.size,fun k hk hn=>h.block k hk fun e=>by cases e;exact hn rfl⟩
theorem lead_look:(lit3 [(7,2),(4,1),(2,0)]).atKey (.int .i64 2) (.lit (.int .i64 0))=.lit (.int .i64 0):=by rfl
end
section
open Go.RowKit Go.Maps
theorem Mv.of_touch2 {w W:World} {F:Foot} {g b:Nat} (h:Touch2 g b w W) (hg:F g) (hb:F b):Mv F w W:=⟨h.os,h.tape,h.output,h.size,fun k hk hn=>h.block k hk (fun e=>hn (e▸hg)) (fun e=>hn (e▸hb))⟩
theorem fits_ok (n:Nat) (w:World) (hn:n=3∨n=5∨n=7):Calls Tryz.prog 60 #[.int .i64 n] w fun e w'=>e=.returned (.bool true)∧Below w.heap.size w w':=by
 rcases hn with rfl|rfl|rfl
 all_goals
  go_enter Tryz.func60,Tryz.ntmps60
  go_wp2_with fail
  go_ret
  exact⟨rfl,Below.refl _ _⟩
theorem prune_zero (g b:Nat) (w:World) (h:IxAt w g b 0 (fun _=>0) []) :
  Calls Tryz.prog 118 #[.pointer (some ⟨g,0,none⟩),.agg #[.int .i64 0,.int .i64 0,.int .i64 0,.int .i64 0,.int .i64 0,.int .i64 0,.int .i64 0]] w fun e w'=>e=.returned (.tuple #[])∧IxAt w' g b 0 (fun _=>0) []∧Touch2 g b w w':=by
 refine (prune_any g b 0 (fun _=>0) (fun _=>0) [] w h).mono ?_
 rintro e w' ⟨rfl,hi,ht⟩
 have hz:newCut (fun _=>0) (fun _=>0)=fun _=>0:=by
  funext t
  rfl
 rw [hz] at hi
 exact⟨rfl,hi,ht⟩
theorem core_new (n me:Nat) (w:World) (hn:n=3∨n=5∨n=7) (hme:me<n) :
  Calls Tryz.prog 65 #[.int .i64 n,.int .i64 me,.agg #[.int .i64 0,.int .i64 0,.int .i64 0,.int .i64 0,.int .i64 0,.int .i64 0,.int .i64 0],.slice none 0 0] w
   fun e w'=>∃ gc gl gm gi gx,e=.returned (.tuple #[.pointer (some ⟨gc,0,none⟩),.int .i64 0])∧CoreAt w' gc n me gl gm 0 gi gx 0 [] [] (.slice none 0 0) (.slice none 0 0) (.slice none 0 0)∧(w.heap.size≤gc∧w.heap.size≤gl∧w.heap.size≤gm∧w.heap.size≤gi∧w.heap.size≤gx)∧Below w.heap.size w w':=by
 have KF:=qh (fun W=>fits_ok n W hn)
 have KD:=qh depsRight_zero
 have KLn:=qh lnew_any
 have KIn:=qh new_any
 have KP:=qh prune_zero
 have h1:(me:Int)<n:=by omega
 have h2:¬ (me:Int)<0:=by omega
 have h3:¬ (n:Int)≤me:=by omega
 go_enter Tryz.func65,Tryz.ntmps65
 go_upto_region 1 with (fail)
 go_name_world W hW
 have hW:allocs w [.cells ([.int .i64 0,.int .i64 0,.int .i64 0,.int .i64 0,.int .i64 0,.int .i64 0,.int .i64 0]:List Value).toArray 41]=W:=hW
 have HX:=qh (show Holds W (w.heap.size) 41 ([.int .i64 0,.int .i64 0,.int .i64 0,.int .i64 0,.int .i64 0,.int .i64 0,.int .i64 0]) from holds_allocs _ hW 0 rfl)
 have hbW:=below_allocs _ hW
 have hsW:=size_allocs _ hW
 simp only [List.length_cons,List.length_nil] at hsW
 clear hW
 have HB:=qh (Base.start w)
 have HB:=qh (HB.out.bel hbW)
 clear hbW hsW
 generalize hB0:w.heap.size=B at HX HB ⊢
 go_wp2_with fail
 refine (KF.out _).mono ?_
 rintro e w1 ⟨rfl,hb⟩
 have HX:=qh (HX.out.bel hb)
 have HB:=qh (HB.out.bel hb)
 clear hb
 have x0:=HX.out.cell 0
 have x1:=HX.out.cell 1
 have x2:=HX.out.cell 2
 have x3:=HX.out.cell 3
 have x4:=HX.out.cell 4
 have x5:=HX.out.cell 5
 have x6:=HX.out.cell 6
 simp only [yA,yB] at x0 x1 x2 x3 x4 x5 x6
 go_wp2_with fail
 refine (KD.out _).mono ?_
 rintro e w2 ⟨rfl,hb⟩
 have HX:=qh (HX.out.bel hb)
 have HB:=qh (HB.out.bel hb)
 clear hb x0 x1 x2 x3 x4 x5 x6
 have x0:=HX.out.cell 0
 have x1:=HX.out.cell 1
 have x2:=HX.out.cell 2
 have x3:=HX.out.cell 3
 have x4:=HX.out.cell 4
 have x5:=HX.out.cell 5
 have x6:=HX.out.cell 6
 simp only [yA,yB] at x0 x1 x2 x3 x4 x5 x6
 go_wp2_with fail
 refine (KLn.out _).mono ?_
 rintro e w3 ⟨gl,gm,rfl,hl,hgl,hgm,hb⟩
 have hBw2:=HX.out.lt
 have HL:=qh hl
 have HX:=qh (HX.out.bel hb)
 have HB:=qh (HB.out.bel hb)
 have hB2:B≤gl∧B≤gm∧gl<w3.heap.size∧gm<w3.heap.size:=by
  have:=HX.out.lt
  have:=hb.size
  have h5:=HB.out.below.size
  have h6:=hl.lt
  omega
 clear hb hl x0 x1 x2 x3 x4 x5 x6
 go_wp2_with fail
 refine (KIn.out _).mono ?_
 rintro e w4 ⟨rfl,hi,hb⟩
 have HI:=qh hi
 have HX:=qh (HX.out.bel hb)
 have HB:=qh (HB.out.bel hb)
 have HL:=qh (HL.out.bel hb)
 have hg5:B<w3.heap.size+1∧gl≠w3.heap.size∧gl≠w3.heap.size+1∧gm≠w3.heap.size∧gm≠w3.heap.size+1∧w3.heap.size+1<w4.heap.size:=by
  have:=HI.out.lt
  omega
 clear hb hi
 generalize hgi:w3.heap.size+1=gi at HI hg5 ⊢
 generalize hgx:w3.heap.size=gx at HI hg5 hB2 ⊢
 go_upto_region 4 with (fail)
 have hal:Below w4.heap.size w4 (w4.alloc (.cells #[.int .i64 n,.int .i64 me,.pointer (some ⟨gl,0,none⟩),.pointer (some ⟨gi,0,none⟩),.slice none 0 0,.slice none 0 0,.slice none 0 0,.slice none 0 0] 163)):=(Below.refl _ _).alloc (Nat.le_refl _) _
 have HC:=qh (holds_alloc w4 163 [.int .i64 n,.int .i64 me,.pointer (some ⟨gl,0,none⟩),.pointer (some ⟨gi,0,none⟩),.slice none 0 0,.slice none 0 0,.slice none 0 0,.slice none 0 0])
 have HX:=qh (HX.out.bel hal)
 have HB:=qh (HB.out.bel hal)
 have HL:=qh (HL.out.bel hal)
 have HI:=qh (HI.out.bel hal)
 have hgc:w4.heap.size≠gl∧w4.heap.size≠gm∧w4.heap.size≠gi∧w4.heap.size≠gx∧B≤w4.heap.size:=by
  have:=hal.size
  omega
 clear hal
 generalize w4.alloc (.cells #[.int .i64 n,.int .i64 me,.pointer (some ⟨gl,0,none⟩),.pointer (some ⟨gi,0,none⟩),.slice none 0 0,.slice none 0 0,.slice none 0 0,.slice none 0 0] 163)=w5 at HX HB HL HI HC ⊢
 generalize w4.heap.size=gc at HC hgc ⊢
 have hBw:B≤gi∧B≤gx:=by omega
 have HC:=qh (HC.out.bel (t_drew _ w5))
 have HL:=qh (HL.out.bel (t_drew _ w5))
 have HI:=qh (HI.out.bel (t_drew _ w5))
 have HX:=qh (HX.out.bel (t_drew _ w5))
 have HB:=qh (HB.out.bel (t_drew _ w5))
 refine wp_region_noPanic ?_
 refine wp_region_late (S:=fun W'=>Below w5.drew.heap.size w5.drew W') (X0:=[5]) (by as_aux_lemma=>kernel_rfl) ?_
 generalize w5.drew=wd at HC HL HI HX HB ⊢
 have hSn:Below wd.heap.size wd wd:=Below.refl _ _
 change wpAnyL _ _ _ _ _ _ 6 #[false,false,false,false,false,false] _ _
 refine mvA 0 (some 41) (fun _=>hSn) ?_
 simp only [Act.put,zA,zB,zC]
 refine mvA 1 (some 42) (fun _=>hSn) ?_
 simp only [Act.put,zA,zB,zC]
 refine mvA 2 (some 43) (fun _=>hSn) ?_
 simp only [Act.put,zA,zB,zC]
 refine tkA 3 [5] (some 44) (?vg4) rfl (Or.inl ⟨by rfl,?hg4⟩) hSn ?rg4
 case hg4=>
  intro w hSw
  have b3:=(HC.out.bel hSw).cell 3
  simp only [yA,yB] at b3
  go_simp
  try with_reducible rfl
 simp only [Act.put,zA,zB,zC]
 refine tkA 4 [5] (some 45) (?vg5) rfl (Or.inl ⟨by rfl,?hg5⟩) hSn ?rg5
 case hg5=>
  intro w hSw
  have b0:=(HX.out.bel hSw).cell 0
  have b1:=(HX.out.bel hSw).cell 1
  have b2:=(HX.out.bel hSw).cell 2
  have b3:=(HX.out.bel hSw).cell 3
  have b4:=(HX.out.bel hSw).cell 4
  have b5:=(HX.out.bel hSw).cell 5
  have b6:=(HX.out.bel hSw).cell 6
  simp only [yA,yB] at b0 b1 b2 b3 b4 b5 b6
  go_simp
  try with_reducible rfl
 simp only [Act.put,zA,zB,zC]
 refine rd1 5 rfl (fun K hK=>?_)
 go_simp
 refine (KP.out _ _ _ (HI.out.bel hSn)).mono ?_
 rintro e w6 ⟨rfl,hi6,ht6⟩
 have hm6:Mv (fun k=>k=gi∨k=gx) _ w6:=Mv.of_touch2 ht6 (.inl rfl) (.inr rfl)
 have HI6:=qh hi6
 have HC6:=qh ((HC.out.bel hSn).mv hm6 (by omega))
 have hl6:=HL.out.bel hSn
 have HL6:=qh (hl6.keep (hm6.block _ hl6.lt.1 (by omega)) (hm6.block _ hl6.lt.2 (by omega)))
 have hb6:=(HB.out.bel hSn).below
 have HB6:=qh (hb6.trans (hm6.below (B:=B) (by have:=hb6.size;omega) (fun k hk=>by omega)))
 clear hi6 ht6 hm6 hl6 hb6
 refine hK.out _ _ nlA ?_
 clear hK
 try simp only [Act.put,zA,zB,zC]
 refine dnA (NoPanic.normal ?_)
 clear hSn HC HL HI HX HB
 have HL:=qh HL6.out;have HI:=qh HI6.out;have HC:=qh HC6.out;have HB:=qh HB6.out
 clear HL6 HI6 HC6 HB6
 go_wp2_with fail
 go_loopw [49] (fun vi wr=>vi=.int .i64 0∧CoreAt wr gc n me gl gm 0 gi gx 0 [] [] (.slice none 0 0) (.slice none 0 0) (.slice none 0 0)∧Below B w wr) (fun _ _=>0)
 case atStart=>exact⟨rfl,⟨HC.out,HL.out,HI.out,by omega⟩,HB.out⟩
 case round=>
  clear HL HI HC HB
  obtain⟨rfl,hca,hb⟩:=hrel
  have HCA:=qh hca;have HB:=qh hb
  clear hca hb
  go_wp2_with fail
  refine bodyPost_ret (v:=.tuple #[.pointer (some ⟨gc,0,none⟩),.int .i64 0]) (by simp [results,Tryz.results65,go_sem]) rfl ?_
  exact⟨gc,gl,gm,gi,gx,rfl,HCA.out,by omega,by rw [hB0];exact HB.out⟩
end
end Go.Proofs.YtimdpiifpibgfaaGreatDoor
