/- For every input the law TopFast returns true (a part of the proof). Condition: the listed variables start as the program's text lays them. -/
import Derived.Test.YtimdpiifpibgfaaGreatDoorQf35
set_option linter.unusedVariables false
set_option linter.unusedSimpArgs false
set_option maxRecDepth 20000
set_option maxHeartbeats 16000000
namespace Go.Proofs.YtimdpiifpibgfaaGreatDoor
section
open Go.RowKit Go.Maps
theorem answer_none (g n me gd gw gc gfr:Nat) (P:Value) (sq v:Int) (d:Nat→Int) (since tk:Int) (out ans:Value) (w:World)
  (nd:Holds w g 102 (nodeL n me gd gw gc gfr P sq v d since tk (.slice none 0 0) out ans)) :
  Calls Tryz.prog 92 #[.pointer (some ⟨g,0,none⟩)] w fun e w'=>e=.returned (.tuple #[])∧Holds w' g 102 (nodeL n me gd gw gc gfr P sq v d since tk (.slice none 0 0) out ans)∧Touch g w w':=by
 have HN:=qh nd
 clear nd
 go_enter Tryz.func92,Tryz.ntmps92
 have n71:=HN.out.cell 71
 simp only [nodeL,yA,yB] at n71
 go_wp2_with fail
 go_loopw [12,2] (fun vi v2 wr=>vi=.int .i64 0∧v2=.slice none 0 0∧w=wr) (fun _ _ _=>0)
 case atStart=>exact⟨rfl,rfl,rfl⟩
 case round=>
  obtain⟨rfl,rfl,rfl⟩:=hrel
  go_wp2_with (first
   | (refine wpList_store_cell rfl 99 (.tmp 66) (.tmp 64) rfl rfl g 71 102 _ HN.out (by simp [nodeL]) rfl (.slice none 0 0) rfl rfl (by kernel_rfl) rfl ?_;intro w7 hh7 ht7))
  exact bodyPost_end (v:=.tuple #[]) (by simp [results,Tryz.results92,go_sem]) rfl ⟨rfl,hh7,ht7⟩
theorem cut_zero (gc n me gl gm nl gi:Nat) (L:List LEnt) (leads recs cout:Value) (w:World) (h:Holds w gc 163 (coreL n me gl gi leads recs cout)) (hl:LogAt w gl gm nl L) :
  Calls Tryz.prog 173 #[.pointer (some ⟨gc,0,none⟩)] w fun e w'=>e=.returned (.agg zero7.toArray)∧Below w.heap.size w w':=by
 have KC:=qh (fun W (h:LogAt W gl gm nl L)=>lcut_any gl gm nl L W h)
 have HN:=qh h;have HL:=qh hl
 clear h hl
 go_enter Tryz.func173,Tryz.ntmps173
 go_upto_region 1 with (fail)
 go_name_world W hW
 have hW:allocs w [.cells (zero7:List Value).toArray 41]=W:=hW
 have HZ:=qh (show Holds W (w.heap.size) 41 (zero7) from holds_allocs _ hW 0 rfl)
 have hbW:=below_allocs _ hW
 have hsW:=size_allocs _ hW
 simp only [List.length_cons,List.length_nil] at hsW
 clear hW
 have HB:=qh hbW
 have HN:=qh (HN.out.bel hbW)
 have HL:=qh (HL.out.bel hbW)
 clear hbW
 have n2:=HN.out.cell 2
 simp only [coreL,yA,yB] at n2
 go_upto_region 1 with (fail)
 go_wp2_with fail
 refine (KC.out _ HL.out).mono ?_
 rintro e w1 ⟨rfl,hb⟩
 have HZ:=qh (HZ.out.bel hb)
 have HB:=qh (HB.out.trans (hb.mono HB.out.size))
 clear hb n2 HN HL
 go_wp2_with (first
  | (refine wpList_store_whole rfl 41 _ _ w.heap.size zero7 zero7 rfl rfl rfl rfl HZ.out (by kernel_rfl) rfl zero7_one ?_;intro wc hh ht))
 exact bodyPost_ret (v:=.agg zero7.toArray) (results_cell Tryz.results173 _ _ w.heap.size zero7 _ rfl hh.range0 Tryz.underlying41 rfl (by kernel_rfl)) rfl ⟨rfl,HB.out.trans (ht.below (Nat.le_refl _) HB.out.size)⟩
theorem leastTo_zero (a:Nat→Int) (ha:a=fun _=>0):∀ m,FrontP.leastTo (fun _ _=>0) a m=fun _=>0
 | 0=>by subst ha;rfl
 | m+1=>by
  funext i
  show FrontP.mn (FrontP.leastTo (fun _ _=>0) a m i) 0=0
  rw [leastTo_zero a ha m]
  rfl
theorem stable0 (g n me:Nat) (w:World) (h:FrontAt w g 197 n me (fun _ _=>0)) (hme:me<n) :
  Calls Tryz.prog 172 #[.pointer (some ⟨g,0,none⟩)] w fun e w'=>e=.returned (.agg zero7.toArray)∧Below w.heap.size w w':=by
 have:=stable_any g n me (fun _ _=>0) w h hme
 rw [show FrontP.stable (fun _ _=>0) n me=(fun _=>0) from leastTo_zero _ rfl n] at this
 exact this
theorem trim_zero (g n me gd gw gc gl gm nl gi gfr:Nat) (L:List LEnt) (leads recs cout:Value) (P:Value) (sq v:Int) (d:Nat→Int) (since tk:Int) (waits out ans:Value) (w:World)
  (nd:Holds w g 102 (nodeL n me gd gw gc gfr P sq v d since tk waits out ans)) (h:Holds w gc 163 (coreL n me gl gi leads recs cout)) (hl:LogAt w gl gm nl L) (hf:FrontAt w gfr 197 n me (fun _ _=>0)) (hme:me<n) :
  Calls Tryz.prog 95 #[.pointer (some ⟨g,0,none⟩)] w fun e w'=>e=.returned (.tuple #[])∧Below w.heap.size w w':=by
 have KS:=qh (fun W (h:FrontAt W gfr 197 n me (fun _ _=>0))=>stable0 gfr n me W h hme)
 have KC:=qh (fun W (h:Holds W gc 163 (coreL n me gl gi leads recs cout)) hl=>cut_zero gc n me gl gm nl gi L leads recs cout W h hl)
 have HN:=qh nd;have HC:=qh h;have HL:=qh hl;have HF:=qh hf.h
 have HB:=qh (Base.start w)
 have hn7:=hf.n7
 clear nd h hl hf
 go_enter Tryz.func95,Tryz.ntmps95
 go_upto_region 0 with (fail)
 refine' wp_region_boxes [⟨10,12,2,15,41,zero7,zero7⟩,⟨11,13,3,20,41,zero7,zero7⟩] (by kernel_rfl) (by kernel_rfl) (by kernel_rfl) ?z11 ?z21 ?bd1 _ ?h1 ?val1 ?fin1
 case z11=>
  intro x hx
  simp only [List.mem_cons,List.not_mem_nil,or_false] at hx
  rcases hx with rfl|rfl
  ·exact⟨.agg (zero7:List Value).toArray,by kernel_rfl,rfl⟩
  ·exact⟨.agg (zero7:List Value).toArray,by kernel_rfl,rfl⟩
 case z21=>
  intro x hx
  simp only [List.mem_cons,List.not_mem_nil,or_false] at hx
  rcases hx with rfl|rfl
  ·exact⟨by kernel_rfl,rfl,zero7_one⟩
  ·exact⟨by kernel_rfl,rfl,zero7_one⟩
 case bd1=>
  intro x hx
  simp only [List.mem_cons,List.not_mem_nil,or_false] at hx
  rcases hx with rfl|rfl
  ·simp
  ·simp
 case h1=>
  intro W0 hW0
  have HN:=qh (HN.out.bel hW0)
  have HC:=qh (HC.out.bel hW0)
  have HL:=qh (HL.out.bel hW0)
  have HF:=qh (HF.out.bel hW0)
  have HB:=qh (HB.out.bel hW0)
  have c0_4:=fun d os=>HN.out.grown d os 4
  have c0_5:=fun d os=>HN.out.grown d os 5
  simp only [nodeL,yA,yB] at c0_4 c0_5
  simp only [List.map_cons,List.map_nil,hushOp]
  repeat go_big_quiet_step (first
   | (go_at_call 172;with_reducible exact calls_regrown fun W2 h2=>KS.out W2 (FrontAt.mk (HF.out.bel h2) hn7))
   | (go_at_call 173;with_reducible exact calls_regrown fun W2 h2=>KC.out W2 (HC.out.bel h2) (HL.out.bel h2)))
  refine wpQuiet_nil ?_
  intro w' _
  exact rfl
 case val1=>
  intro x hx
  simp only [List.mem_cons,List.not_mem_nil,or_false] at hx
  rcases hx with rfl|rfl
  ·rfl
  ·rfl
 intro β w4 hb hx hne
 have hx2:=hx _ List.mem_cons_self
 have hx3:=hx _ (List.mem_cons_of_mem _ List.mem_cons_self)
 clear hx hne
 simp only [] at hx2 hx3
 simp only [patch,List.foldl,Act.put,List.setIfInBounds_toArray,List.set_cons_zero,List.set_cons_succ]
 have HN:=qh (HN.out.bel hb)
 have HC:=qh (HC.out.bel hb)
 have HL:=qh (HL.out.bel hb)
 have HF:=qh (HF.out.bel hb)
 have HB:=qh (HB.out.bel hb)
 generalize β 2=g2 at hx2 ⊢
 have H2:=qh hx2.2
 have hge2:=hx2.1
 clear hx2
 generalize β 3=g3 at hx3 ⊢
 have H3:=qh hx3.2
 have hge3:=hx3.1
 clear hx3
 clear hb
 clear HN HC HL HF
 go_wp2_with fail
 go_loopw [21,4] (fun vi v4 wr=>∃ i:Nat,vi=.int .i64 (i:Int)∧i≤7∧v4=.int .i64 0∧Below w4.heap.size w4 wr) (fun vi _ _=>7 - (intOf vi).toNat)
 case atStart=>exact⟨0,rfl,by omega,rfl,Below.refl _ _⟩
 case round=>
  obtain⟨i,rfl,hi,rfl,hb⟩:=hrel
  have HX2:=qh (H2.out.bel hb);have HX3:=qh (H3.out.bel hb);have HB2:=qh (HB.out.bel hb);have HBB:=qh hb
  clear hb
  by_cases h7:i=7
  ·subst h7
   go_wp2_with fail
   exact bodyPost_ret (v:=.tuple #[]) (by simp [results,Tryz.results95,go_sem]) rfl ⟨rfl,HB2.out.below⟩
  ·have hi7:(i:Int)<7:=by omega
   go_upto_region 5 with (fail)
   have a2:=HX2.out.cell i
   have a3:=HX3.out.cell i
   rw [zero7_at i (by omega)] at a2 a3
   go_quiet (fail)
   have HB2:=qh (HB2.out.bel (t_drewN _ _ nq))
   have hb4:Below w4.heap.size w4 (wr.drewN nq):=HBB.out.trans ((t_drewN _ _ nq).mono HBB.out.size)
   go_wp2_with fail
   go_roundw
   case rel=>exact⟨i+1,by simp,by omega,rfl,hb4⟩
   case measure=>simp [intOf];omega
def ownA (q v:Int):List Value:=[.int .i64 q,.int .i64 0,.bool false,.string ⟨#[]⟩,.int .i64 v,.slice none 0 0]
theorem ownA_one (q v:Int):(ownA q v).toArray.all (·.oneCell')=true:=by simp [ownA,Value.oneCell']
theorem instL_one:∀ u∈[Value.int .i64 1,Value.int .i64 1],u.oneCell'=true:=by simp [Value.oneCell']
theorem answer_left (g n me gd gw gc gfr:Nat) (P:Value) (v:Int) (d:Nat→Int) (since tk:Int) (W0 out ans:Value) (ob0:Option Nat) (w:World)
  (nd:Holds w g 102 (nodeL n me gd gw gc gfr P 0 v d since tk W0 out ans)) (hw:OwnS w W0 ob0 37 2 1 [.int .i64 1,.int .i64 1]) :
  Calls Tryz.prog 92 #[.pointer (some ⟨g,0,none⟩)] w fun e w'=>e=.returned (.tuple #[])∧∃ W1 ob1,Holds w' g 102 (nodeL n me gd gw gc gfr P 0 v d since tk W1 out ans)∧OwnS w' W1 ob1 37 2 1 [.int .i64 1,.int .i64 1]∧(∀ k,ob1=some k→w.heap.size≤k)∧Touch g w w':=by
 obtain⟨gs,cs,rs,rfl,rfl,hcs1,hcs2,hgs,_⟩:=hw.blk (Nat.zero_lt_one)
 have HN:=qh nd;have HS:=qh hgs
 have hgl:=nd.lt
 clear nd hw hgs
 go_enter Tryz.func92,Tryz.ntmps92
 have n71:=HN.out.cell 71
 simp only [nodeL,yA,yB] at n71
 go_wp2_with fail
 go_loopw [12,2] (fun vi v2 wr=>(vi=.int .i64 0∧v2=.slice none 0 0∧w=wr)∨(vi=.int .i64 1∧∃ ob1,OwnS wr v2 ob1 37 2 1 [.int .i64 1,.int .i64 1]∧(∀ k,ob1=some k→w.heap.size≤k)∧Below w.heap.size w wr)) (fun vi _ _=>1 - (intOf vi).toNat)
 case atStart=>exact .inl ⟨rfl,rfl,rfl⟩
 case round=>
  rcases hrel with⟨rfl,rfl,rfl⟩|⟨rfl,ob1,ho,hob,hb⟩
  ·have s0:=HS.out.cell 0
   have s1:=HS.out.cell 1
   simp only [List.cons_append,yA,yB] at s0 s1
   have HB1:=qh (Base.start w)
   go_upto_region 4 with (first
    | (refine wpList_store_whole rfl 37 (.tmp 4) (.tmp 15) w.heap.size [.int .i64 0,.int .i64 0] [.int .i64 1,.int .i64 1] rfl rfl rfl rfl (holds_alloc w _ _) (by kernel_rfl) rfl (by simp [Value.oneCell']) ?_;intro w2 hh2 ht2))
   have hal:Below w.heap.size w w2:=Below.trans ((Below.refl _ _).alloc (Nat.le_refl _) _) (ht2.below (Nat.le_refl _) (by simp))
   have HI:=qh hh2
   have HN:=qh (HN.out.bel hal)
   have HB1:=qh (HB1.out.bel hal)
   clear hal hh2 ht2 s0 s1 HS n71
   generalize hgp:w.heap.size=gp at HI HB1 ⊢
   refine' wp_region_boxes [⟨9,10,5,24,63,ownA 0 0,ownA 0 v⟩] (by kernel_rfl) (by kernel_rfl) (by kernel_rfl) ?z12 ?z22 ?bd2 _ ?h2 ?val2 ?fin2
   case z12=>
    intro x hx
    simp only [List.mem_cons,List.not_mem_nil,or_false] at hx
    subst hx
    ·exact⟨.agg (ownA 0 0:List Value).toArray,by kernel_rfl,rfl⟩
   case z22=>
    intro x hx
    simp only [List.mem_cons,List.not_mem_nil,or_false] at hx
    subst hx
    ·exact⟨by kernel_rfl,rfl,ownA_one _ _⟩
   case bd2=>
    intro x hx
    simp only [List.mem_cons,List.not_mem_nil,or_false] at hx
    subst hx
    ·simp
   case h2=>
    intro W0 hW0
    have HN:=qh (HN.out.bel hW0)
    have HI:=qh (HI.out.bel hW0)
    have HB1:=qh (HB1.out.bel hW0)
    have c0_7:=fun d os=>HN.out.grown d os 7
    have c0_8:=fun d os=>HN.out.grown d os 8
    have c0_9:=fun d os=>HN.out.grown d os 9
    have c0_10:=fun d os=>HN.out.grown d os 10
    have c0_11:=fun d os=>HN.out.grown d os 11
    have c0_12:=fun d os=>HN.out.grown d os 12
    simp only [nodeL,yA,yB] at c0_7 c0_8 c0_9 c0_10 c0_11 c0_12
    have c1_0:=fun d os=>HI.out.grown d os 0
    have c1_1:=fun d os=>HI.out.grown d os 1
    simp only [yA,yB] at c1_0 c1_1
    simp only [List.map_cons,List.map_nil,hushOp]
    repeat go_big_quiet_step (first
     | fail)
    refine wpQuiet_nil ?_
    intro w' _
    exact rfl
   case val2=>
    intro x hx
    simp only [List.mem_cons,List.not_mem_nil,or_false] at hx
    subst hx
    ·rfl
   intro β w4 hb hx hne
   have hx5:=hx _ List.mem_cons_self
   clear hx hne
   simp only [] at hx5
   simp only [patch,List.foldl,Act.put,List.setIfInBounds_toArray,List.set_cons_zero,List.set_cons_succ]
   have HN:=qh (HN.out.bel hb)
   have HI:=qh (HI.out.bel hb)
   have HB1:=qh (HB1.out.bel hb)
   generalize β 5=g5 at hx5 ⊢
   have H5:=qh hx5.2
   have hge5:=hx5.1
   clear hx5
   clear hb
   clear HN
   have i0:=HI.out.cell 0
   have i1:=HI.out.cell 1
   simp only [yA,yB] at i0 i1
   have y0:=H5.out.cell 0
   simp only [ownA,yA,yB] at y0
   go_wp2_with (first
    | (refine wpList_build1 rfl 99 37 (.agg #[.int .i64 1,.int .i64 1]) [.int .i64 1,.int .i64 1] rfl rfl rfl (fun w=>by kernel_rfl) ?_;intro wa hna hba;have HNA:=qh hna;have HBA:=qh (HB1.out.bel hba);clear hna hba)
    | (at_builtin;refine wpList_append_s rfl (.tmp 58) (.tmp 60) 99 rfl 37 (.agg #[.int .i64 0,.int .i64 0]) 2 16 rfl (by kernel_rfl) rfl (by decide) _ none 0 [] rfl (OwnS.nil _ _ _) _ 1 1 [.int .i64 1,.int .i64 1] rfl rfl (HNA.out.reads 0 _ (fun j v hv=>by rw [Nat.zero_add];exact hv)) (by decide) instL_one (by unfold maxLen;omega) (by omega) ?_;intro v5 ob5 w5 ho5 hob5 hm5;have HO5:=qh (show OwnS w5 v5 ob5 37 2 1 [.int .i64 1,.int .i64 1] from ho5);have HB5:=qh (HBA.out.mv hm5 (fun k hk=>by cases hk));have hs5:=HBA.out.le;have hob6:∀ k,ob5=some k→gp≤k:=(fun k hk=>by rcases hob5 with h|⟨k2,h,h2⟩<;>rw [h] at hk<;>cases hk;omega);clear ho5 hob5 hm5))
   go_roundw
   case rel=>exact .inr ⟨by simp,ob5,HO5.out,fun k hk=>hgp▸hob6 k hk,hgp▸HB5.out.below⟩
   case measure=>simp [intOf]
  ·have HO:=qh ho;have HB:=qh hb;have HN2:=qh (HN.out.bel hb)
   clear ho hb HN n71 HS
   go_wp2_with (first
    | (refine wpList_store_cell rfl 99 (.tmp 66) (.tmp 64) rfl rfl g 71 102 _ HN2.out (by simp [nodeL]) rfl _ rfl (by rcases HO.out.cases with⟨r,_⟩|⟨_,_,_,r,_⟩<;>rw [r]<;>rfl) (by kernel_rfl) (by rcases HO.out.cases with⟨r,_⟩|⟨_,_,_,r,_⟩<;>rw [r]<;>rfl) ?_;intro w7 hh7 ht7))
   exact bodyPost_end (v:=.tuple #[]) (by simp [results,Tryz.results92,go_sem]) rfl ⟨rfl,_,ob1,hh7,HO.out.touch ht7 (fun k hk=>by have:=hob k hk;omega),hob,(Touch.bel (Touch.refl g w) HB.out).trans ht7⟩
def ansZ:List Value:=[.int .i64 0,.int .i64 0,.int .i64 0,.bool false,.string ⟨#[]⟩,.int .i64 0,.slice none 0 0]
theorem touch_of_base {B g:Nat} {w W:World} (h:Base B w W) (hb:w.heap.size=B):Touch g w W:=by
 subst hb
 exact Touch.bel (Touch.refl g w) h.below
def repA (v:Int):List Value:=[.int .i64 0,.bool false,.string ⟨#[]⟩,.int .i64 v,.slice none 0 0]
theorem repA_one (v:Int):(repA v).toArray.all (·.oneCell')=true:=by simp [repA,Value.oneCell']
def ansA (v:Int):List Value:=[.int .i64 1,.int .i64 1,.int .i64 0,.bool false,.string ⟨#[]⟩,.int .i64 v,.slice none 0 0]
theorem ansA_one (v:Int):∀ u∈ansA v,u.oneCell'=true:=by simp [ansA,Value.oneCell']
theorem answer_done (g n me gd gw gc gfr:Nat) (P:Value) (v:Int) (d:Nat→Int) (since tk:Int) (W0 out:Value) (ob0:Option Nat) (w:World)
  (nd:Holds w g 102 (nodeL n me gd gw gc gfr P 1 v d since tk W0 out (.slice none 0 0))) (hw:OwnS w W0 ob0 37 2 1 [.int .i64 1,.int .i64 1]) :
  Calls Tryz.prog 92 #[.pointer (some ⟨g,0,none⟩)] w fun e w'=>e=.returned (.tuple #[])∧∃ ans ob1,Holds w' g 102 (nodeL n me gd gw gc gfr P 1 v d since tk (.slice none 0 0) out ans)∧OwnS w' ans ob1 121 7 1 (ansA v)∧(∀ k,ob1=some k→w.heap.size≤k)∧Touch g w w':=by
 obtain⟨gs,cs,rs,rfl,rfl,hcs1,hcs2,hgs,_⟩:=hw.blk (Nat.zero_lt_one)
 have KP:=qh clonePair_nil
 have HN:=qh nd;have HS:=qh hgs
 have hgl:=nd.lt
 clear nd hw hgs
 go_enter Tryz.func92,Tryz.ntmps92
 have n71:=HN.out.cell 71
 simp only [nodeL,yA,yB] at n71
 go_wp2_with fail
 go_loopw [12,2] (fun vi v2 wr=>(vi=.int .i64 0∧v2=.slice none 0 0∧w=wr)∨(vi=.int .i64 1∧v2=.slice none 0 0∧∃ ans ob1,Holds wr g 102 (nodeL n me gd gw gc gfr P 1 v d since tk (.slice (some ⟨gs,0,none⟩) 1 cs) out ans)∧OwnS wr ans ob1 121 7 1 (ansA v)∧(∀ k,ob1=some k→w.heap.size≤k)∧Touch g w wr)) (fun vi _ _=>1 - (intOf vi).toNat)
 case atStart=>exact .inl ⟨rfl,rfl,rfl⟩
 case round=>
  rcases hrel with⟨rfl,rfl,rfl⟩|⟨rfl,rfl,ans,ob1,hn,ho,hob,ht⟩
  ·have s0:=HS.out.cell 0
   have s1:=HS.out.cell 1
   simp only [List.cons_append,yA,yB] at s0 s1
   have HB1:=qh (Base.start w)
   go_upto_region 4 with (first
    | (refine wpList_store_whole rfl 37 (.tmp 4) (.tmp 15) w.heap.size [.int .i64 0,.int .i64 0] [.int .i64 1,.int .i64 1] rfl rfl rfl rfl (holds_alloc w _ _) (by kernel_rfl) rfl (by simp [Value.oneCell']) ?_;intro w2 hh2 ht2))
   have hal:Below w.heap.size w w2:=Below.trans ((Below.refl _ _).alloc (Nat.le_refl _) _) (ht2.below (Nat.le_refl _) (by simp))
   have HI:=qh hh2
   have HN:=qh (HN.out.bel hal)
   have HB1:=qh (HB1.out.bel hal)
   clear hal hh2 ht2 s0 s1 HS n71
   generalize hgp:w.heap.size=gp at HI HB1 ⊢
   refine' wp_region_boxes [⟨9,10,5,24,63,ownA 0 0,ownA 1 v⟩] (by kernel_rfl) (by kernel_rfl) (by kernel_rfl) ?z13 ?z23 ?bd3 _ ?h3 ?val3 ?fin3
   case z13=>
    intro x hx
    simp only [List.mem_cons,List.not_mem_nil,or_false] at hx
    subst hx
    ·exact⟨.agg (ownA 0 0:List Value).toArray,by kernel_rfl,rfl⟩
   case z23=>
    intro x hx
    simp only [List.mem_cons,List.not_mem_nil,or_false] at hx
    subst hx
    ·exact⟨by kernel_rfl,rfl,ownA_one _ _⟩
   case bd3=>
    intro x hx
    simp only [List.mem_cons,List.not_mem_nil,or_false] at hx
    subst hx
    ·simp
   case h3=>
    intro W0 hW0
    have HN:=qh (HN.out.bel hW0)
    have HI:=qh (HI.out.bel hW0)
    have HB1:=qh (HB1.out.bel hW0)
    have c0_7:=fun d os=>HN.out.grown d os 7
    have c0_8:=fun d os=>HN.out.grown d os 8
    have c0_9:=fun d os=>HN.out.grown d os 9
    have c0_10:=fun d os=>HN.out.grown d os 10
    have c0_11:=fun d os=>HN.out.grown d os 11
    have c0_12:=fun d os=>HN.out.grown d os 12
    simp only [nodeL,yA,yB] at c0_7 c0_8 c0_9 c0_10 c0_11 c0_12
    have c1_0:=fun d os=>HI.out.grown d os 0
    have c1_1:=fun d os=>HI.out.grown d os 1
    simp only [yA,yB] at c1_0 c1_1
    simp only [List.map_cons,List.map_nil,hushOp]
    repeat go_big_quiet_step (first
     | fail)
    refine wpQuiet_nil ?_
    intro w' _
    exact rfl
   case val3=>
    intro x hx
    simp only [List.mem_cons,List.not_mem_nil,or_false] at hx
    subst hx
    ·rfl
   intro β w4 hb hx hne
   have hx5:=hx _ List.mem_cons_self
   clear hx hne
   simp only [] at hx5
   simp only [patch,List.foldl,Act.put,List.setIfInBounds_toArray,List.set_cons_zero,List.set_cons_succ]
   have HN:=qh (HN.out.bel hb)
   have HI:=qh (HI.out.bel hb)
   have HB1:=qh (HB1.out.bel hb)
   generalize β 5=g5 at hx5 ⊢
   have H5:=qh hx5.2
   have hge5:=hx5.1
   clear hx5
   clear hb
   have i0:=HI.out.cell 0
   have i1:=HI.out.cell 1
   simp only [yA,yB] at i0 i1
   have y0:=H5.out.cell 0
   have y1:=H5.out.cell 1
   have y2:=H5.out.cell 2
   have y3:=H5.out.cell 3
   have y4:=H5.out.cell 4
   have y5:=H5.out.cell 5
   simp only [ownA,yA,yB] at y0 y1 y2 y3 y4 y5
   go_upto_region 7 with (first
    | (refine wpList_store_whole rfl 53 (.tmp 6) (.tmp 32) w4.heap.size (repA 0) (repA v) rfl rfl rfl rfl (holds_alloc w4 _ _) (by kernel_rfl) rfl (repA_one v) ?_;intro w5 hh5 ht5))
   have hal5:Below w4.heap.size w4 w5:=Below.trans ((Below.refl _ _).alloc (Nat.le_refl _) _) (ht5.below (Nat.le_refl _) (by simp))
   have HR:=qh hh5
   have hgr:gp≤w4.heap.size:=HB1.out.le
   have HN:=qh (HN.out.bel hal5)
   have HI:=qh (HI.out.bel hal5)
   have HB1:=qh (HB1.out.bel hal5)
   clear hal5 hh5 ht5 i0 i1 y0 y1 y2 y3 y4 y5 H5
   generalize hgr0:w4.heap.size=gr at HR hgr ⊢
   have r4:=HR.out.cell 4
   simp only [repA,yA,yB] at r4
   go_wp2_with fail
   refine (KP.out _).mono ?_
   rintro e w6 ⟨rfl,hb6⟩
   have HN:=qh (HN.out.bel hb6)
   have HI:=qh (HI.out.bel hb6)
   have HB1:=qh (HB1.out.bel hb6)
   have HR:=qh (HR.out.bel hb6)
   clear hb6 r4
   have hgne:gr≠g∧gr≠gp:=⟨by omega,HR.out.ne_of HI.out (by decide)⟩
   go_upto_region 8 with (first
    | (refine wpList_store_cell rfl 51 (.tmp 36) (.tmp 35) rfl rfl gr 4 53 _ HR.out (by simp [repA]) rfl (.slice none 0 0) rfl rfl (by kernel_rfl) rfl ?_;intro w7 hh7 ht7))
   have HR:=qh (show Holds w7 gr 53 (repA v) from hh7)
   have HN:=qh (HN.out.touch ht7 hgne.1.symm)
   have HI:=qh (HI.out.touch ht7 hgne.2.symm)
   have HB1:=qh (HB1.out.touch ht7 hgr)
   clear hh7 ht7
   have HN:=qh (HN.out.bel (t_drew _ w7))
   have HI:=qh (HI.out.bel (t_drew _ w7))
   have HB1:=qh (HB1.out.bel (t_drew _ w7))
   have HR:=qh (HR.out.bel (t_drew _ w7))
   refine wp_region_noPanic ?_
   refine wp_region_late (S:=fun W'=>Below w7.drew.heap.size w7.drew W') (X0:=[12,15]) (by as_aux_lemma=>kernel_rfl) ?_
   generalize w7.drew=wd at HN HI HB1 HR ⊢
   have hSn:Below wd.heap.size wd wd:=Below.refl _ _
   change wpAnyL _ _ _ _ _ _ 16 #[false,false,false,false,false,false,false,false,false,false,false,false,false,false,false,false] _ _
   refine mvA 0 (some 37) (fun _=>hSn) ?_
   simp only [Act.put,zA,zB,zC]
   refine mvA 1 (some 38) (fun _=>hSn) ?_
   simp only [Act.put,zA,zB,zC]
   refine mvA 2 (some 39) (fun _=>hSn) ?_
   simp only [Act.put,zA,zB,zC]
   refine mvA 3 (some 40) (fun _=>hSn) ?_
   simp only [Act.put,zA,zB,zC]
   refine tkA 4 [12,13,14,15] (some 41) (?vg5) rfl (Or.inl ⟨by rfl,?hg5⟩) hSn ?rg5
   case hg5=>
    intro w hSw
    have b73:=(HN.out.bel hSw).cell 73
    simp only [nodeL,yA,yB] at b73
    go_simp
    try with_reducible rfl
   simp only [Act.put,zA,zB,zC]
   refine mvA 5 (some 42) (fun _=>hSn) ?_
   simp only [Act.put,zA,zB,zC]
   refine tkA 6 [10,11,12,13,14,15] (some 43) (?vg7) rfl (Or.inl ⟨by rfl,?hg7⟩) hSn ?rg7
   case hg7=>
    intro w hSw
    have b0:=(HI.out.bel hSw).cell 0
    simp only [yA,yB] at b0
    go_simp
    try with_reducible rfl
   simp only [Act.put,zA,zB,zC]
   refine mvA 7 (some 44) (fun _=>hSn) ?_
   simp only [Act.put,zA,zB,zC]
   refine tkA 8 [10,11,12,13,14,15] (some 45) (?vg9) rfl (Or.inl ⟨by rfl,?hg9⟩) hSn ?rg9
   case hg9=>
    intro w hSw
    have b1:=(HI.out.bel hSw).cell 1
    simp only [yA,yB] at b1
    go_simp
    try with_reducible rfl
   simp only [Act.put,zA,zB,zC]
   refine tkA 9 [10,11,12,13,14,15] (some 46) (?vg10) rfl (Or.inl ⟨by rfl,?hg10⟩) hSn ?rg10
   case hg10=>
    intro w hSw
    have b0:=(HR.out.bel hSw).cell 0
    have b1:=(HR.out.bel hSw).cell 1
    have b2:=(HR.out.bel hSw).cell 2
    have b3:=(HR.out.bel hSw).cell 3
    have b4:=(HR.out.bel hSw).cell 4
    simp only [repA,yA,yB] at b0 b1 b2 b3 b4
    go_simp
    try with_reducible rfl
   simp only [Act.put,zA,zB,zC]
   refine mvA 10 (some 47) (fun _=>hSn) ?_
   simp only [Act.put,zA,zB,zC]
   refine rd1 11 rfl (fun K hK=>?_)
   refine step_build1 rfl 100 121 (.agg (ansA v).toArray) (ansA v) rfl rfl rfl (fun w=>by kernel_rfl) ?_
   intro wa hna hba
   have hSn:=below_next hSn hba
   have HNA:=qh hna
   generalize wd.heap.size=gn at HNA ⊢
   have HN:=qh (HN.out.bel hSn)
   have HB1:=qh (HB1.out.bel hSn)
   clear hna hba
   change K (Act.put _ (some 48) _) _
   refine hK.out _ _ (fun _=>hSn) ?_
   clear hK
   try simp only [Act.put,zA,zB,zC]
   refine rd1 12 rfl (fun K hK=>?_)
   refine step_append_s rfl (.tmp 41) (.tmp 48) 100 rfl 121 (.agg (ansZ).toArray) 7 80 rfl (by kernel_rfl) rfl (by decide) _ none 0 [] rfl (OwnS.nil _ _ _) _ 1 1 (ansA v) rfl rfl (HNA.out.reads 0 _ (fun j v hv=>by rw [Nat.zero_add];exact hv)) (by decide) (ansA_one v) (by unfold maxLen;omega) (by omega) ?_
   intro v9 ob9 w9 ho9 hob9 hm9
   have hgla:gp≤_:=HB1.out.le
   have HO9:=qh (show OwnS w9 v9 ob9 121 7 1 (ansA v) from ho9)
   have HN9:=qh (HN.out.mv hm9 (fun h=>(by cases h)))
   have HB9:=qh (HB1.out.mv hm9 (fun k hk=>by cases hk))
   have hob8:∀ k,ob9=some k→gp≤k:=(fun k hk=>by rcases hob9 with h|⟨k2,h,h2⟩<;>rw [h] at hk<;>cases hk;omega)
   clear ho9 hob9 hm9
   change K (Act.put _ (some 49) _) _
   refine hK.out _ _ nlA ?_
   clear hK
   try simp only [Act.put,zA,zB,zC]
   refine mvA 13 (some 50) nlA ?_
   simp only [Act.put,zA,zB,zC]
   refine mvA 14 (some 51) nlA ?_
   simp only [Act.put,zA,zB,zC]
   refine rd1 15 rfl (fun K hK=>?_)
   refine step_store_cell rfl 100 (.tmp 51) (.tmp 49) rfl rfl g 73 102 _ HN9.out (by simp [nodeL]) rfl v9 rfl (by rcases HO9.out.cases with⟨r,_⟩|⟨_,_,_,r,_⟩<;>rw [r]<;>rfl) (by kernel_rfl) (by rcases HO9.out.cases with⟨r,_⟩|⟨_,_,_,r,_⟩<;>rw [r]<;>rfl) ?_
   intro w10 hh10 ht10
   have HNN:=qh (show Holds w10 g 102 (nodeL n me gd gw gc gfr P 1 v d since tk (.slice (some ⟨gs,0,none⟩) 1 cs) out v9) from hh10)
   have HOO:=qh (HO9.out.touch ht10 (fun k hk=>by have:=hob8 k hk;omega))
   have HTT:=qh ((touch_of_base HB9.out hgp).trans ht10)
   clear hh10 ht10
   refine hK.out _ _ nlA ?_
   clear hK
   try simp only [Act.put,zA,zB,zC]
   refine dnA (NoPanic.normal ?_)
   clear hSn HI HB1 HR HN HN9 HO9 HB9 HNA
   go_wp2_with fail
   go_roundw
   case rel=>exact .inr ⟨by simp,rfl,v9,ob9,HNN.out,HOO.out,fun k hk=>hgp▸hob8 k hk,HTT.out⟩
   case measure=>simp [intOf]
  ·have HO:=qh ho;have HN2:=qh hn;have HT:=qh ht
   clear ho hn ht HN n71 HS
   go_wp2_with (first
    | (refine wpList_store_cell rfl 99 (.tmp 66) (.tmp 64) rfl rfl g 71 102 _ HN2.out (by simp [nodeL]) rfl (.slice none 0 0) rfl rfl (by kernel_rfl) rfl ?_;intro w7 hh7 ht7))
   exact bodyPost_end (v:=.tuple #[]) (by simp [results,Tryz.results92,go_sem]) rfl ⟨rfl,ans,ob1,hh7,HO.out.touch ht7 (fun k hk=>by have:=hob k hk;omega),hob,HT.out.trans ht7⟩
end
section
open Go.RowKit Go.Maps
theorem settle_of (g:Nat) (w:World) (R1 R2 R3 R4:World→Prop)
  (hbad:w.cell? ⟨g,74,none⟩=some (.bool false))
  (KD:Calls Tryz.prog 90 #[.pointer (some ⟨g,0,none⟩)] w fun e w'=>e=.returned (.bool true)∧R1 w')
  (KR:∀ W,R1 W→Calls Tryz.prog 91 #[.pointer (some ⟨g,0,none⟩)] W fun e w'=>e=.returned (.tuple #[])∧R2 w')
  (KA:∀ W,R2 W→Calls Tryz.prog 92 #[.pointer (some ⟨g,0,none⟩)] W fun e w'=>e=.returned (.tuple #[])∧R3 w')
  (hs:∀ W,R3 W→W.cell? ⟨g,69,none⟩=some (.int .i64 0)∨W.cell? ⟨g,69,none⟩=some (.int .i64 1))
  (hb:∀ W W',R3 W→Below W.heap.size W W'→R3 W')
  (KT:∀ W,R3 W→Calls Tryz.prog 95 #[.pointer (some ⟨g,0,none⟩)] W fun e w'=>e=.returned (.tuple #[])∧R4 w') :
  Calls Tryz.prog 53 #[.pointer (some ⟨g,0,none⟩)] w fun e w'=>e=.returned (.tuple #[])∧R4 w':=by
 have KD:=qh KD;have KR:=qh KR;have KA:=qh KA;have KT:=qh KT;have hs:=qh hs;have hb:=qh hb
 go_enter Tryz.func53,Tryz.ntmps53
 go_wp2_with fail
 refine KD.out.mono ?_
 rintro e w1 ⟨rfl,h1⟩
 have H1:=qh h1
 clear h1 hbad KD
 go_wp2_with fail
 refine (KR.out _ H1.out).mono ?_
 rintro e w2 ⟨rfl,h2⟩
 have H2:=qh h2
 clear h2 H1 KR
 go_wp2_with fail
 refine (KA.out _ H2.out).mono ?_
 rintro e w3 ⟨rfl,h3⟩
 have H3:=qh h3
 clear h3 H2 KA
 go_upto_region 3 with (fail)
 rcases hs.out _ H3.out with h69|h69
 all_goals
  go_quiet (fail)
  have H3:=qh (hb.out _ _ H3.out (t_drewN _ _ nq))
  clear h69
  generalize w3.drewN nq=W2 at H3 ⊢
  go_wp2_with fail
  refine (KT.out _ H3.out).mono ?_
  rintro e w4 ⟨rfl,h4⟩
  have H4:=qh h4
  clear h4 H3 KT
  go_wp2_with fail
  exact bodyPost_end (v:=.tuple #[]) (by simp [results,Tryz.results53,go_sem]) rfl ⟨rfl,H4.out⟩
end
section
open Go.RowKit Go.Maps
theorem holds_type {w:World} {a:Nat} {t t':TypeId} {L L':List Value} (h:Holds w a t L) (h':Holds w a t' L'):t=t':=Decidable.byContradiction fun hn=>(h.ne_of h' hn) rfl
def drTs:List TypeId:=[102,129,208,163,127]
def isCom:Ph→Bool
 | .com=>true
 | _=>false
section
variable {w w':World} {F G:Foot} {g n me q:Nat} {c:Cm} {ph:Ph} {recs cout:Value} {dn wt:Bool} {m:Nat} {V V0:Nat→List Value} {an:Bool} {tk:Int} {lim lim':Nat}
 {gd gfl gby gby' mb mb' gw gc gfr:Nat} {kept kept':Int} {P:Value} {sq v:Int} {d:Nat→Int} {since:Int} {waits out out' ans:Value}
theorem CoreSt.drained {gl gm nl gi gx ni:Nat} {L:List LEnt} {E:List Ent} {leads:Value} (h1:CoreAt w gc n me gl gm nl gi gx ni L E leads recs cout) (h2:nl≤bnd ph) (h3:ni≤bnd ph) (h4:F gl∧F gm∧F gi∧F gx) (h5:LeadAt w F me q c L E leads ph) (hf:F gc)
  (hm:Mv G w w') (hG:∀ k,G k→k<w.heap.size→∃ t L,Holds w k t L∧t∈drTs) (hc:Holds w' gc 163 (coreL n me gl gi leads (.slice none 0 0) (.slice none 0 0))):CoreSt w' F gc n me q c ph (.slice none 0 0) (.slice none 0 0):=by
 have hl:=h1.lt
 have hT:∀ (a:Nat) (t:TypeId) (L:List Value),Holds w a t L→t∉drTs→¬ G a:=fun a t L ha ht hg=>by
  obtain⟨t',L',h,h'⟩:=hG a hg ha.lt
  exact ht (holds_type ha h▸h')
 have hM:∀ a,a<w.heap.size→IsMapB w a→¬ G a:=fun a hal ha hg=>by
  obtain⟨t',L',h,h'⟩:=hG a hg hal
  exact ownsMap_ne ha h rfl
 refine⟨⟨gl,gm,nl,gi,gx,ni,L,E,leads,h1.recore hm hc (hT _ _ _ h1.lg.ix (by decide)) (hM _ hl.2.2.1 h1.lg.isMap) (hT _ _ _ h1.ix.ix (by decide)) (hM _ hl.2.2.2.2 h1.ix.isMap),h2,h3,h4,h5.mv (T:=leadTs) hm (fun k hk hkl=>?_) (fun _ h=>h)⟩,hf⟩
 obtain⟨t',L',h,h'⟩:=hG k hk hkl
 exact awayC_of h ((show ∀ t∈drTs,t∉leadTs by decide) _ h')
theorem NodeI.drained (h:NodeI w F g n me q c ph recs cout dn wt 0 V0 an tk lim gd gfl gby mb gw gc gfr kept P sq v d since waits out ans) (hm:Mv G w w') (hG:∀ k,G k→k<w.heap.size→∃ t L,Holds w k t L∧t∈drTs)
  (hn:Holds w' g 102 (nodeL n me gd gw gc gfr P sq v d since tk waits out' ans)) (hd:Disk1 w' gd gfl gby' mb' kept') (hlm:mb'≤lim') (hf:F gby') (hw:Holds w' gw 208 (walL gd 1 1)) (hc:CoreSt w' F gc n me q c ph (.slice none 0 0) (.slice none 0 0)) (ho:LetS w' F out' m V) :
  NodeI w' F g n me q c ph (.slice none 0 0) (.slice none 0 0) dn wt m V an tk lim' gd gfl gby' mb' gw gc gfr kept' P sq v d since waits out' ans:=by
 obtain⟨nd,dk,lm,wl,co,fr,st,wa,ou,an',f1,f2,f3,f4,f5,f6⟩:=h
 have hA:∀ T:List TypeId,(∀ t∈drTs,t∉T)→∀ k,G k→k<w.heap.size→AwayC w F T k:=fun T ht k hk hl=>by
  obtain⟨t',L',h,h'⟩:=hG k hk hl
  exact awayC_of h (ht _ h')
 exact⟨hn,hd,hlm,hw,hc,fr.away (T:=[197]) f6 hm (hA _ (by decide)) (by decide),st.mv (T:=[69]) hm (hA _ (by decide)) (by decide),wa.mv (T:=[37]) hm (hA _ (by decide)) (by decide),ho,an'.mv (T:=[121]) hm (hA _ (by decide)) (by decide),f1,f2,f3,hf,f5,f6⟩
end
def Drained (F:Foot) (g n me q:Nat) (c:Cm) (ph:Ph) (dn wt:Bool) (m:Nat) (V:Nat→List Value) (tk:Int) (lim:Nat) (w w':World):Prop:=NodeG w' (grow F w w') g n me q c ph (.slice none 0 0) (.slice none 0 0) dn wt m V false tk lim∧Mv F w w'
theorem drain_ok (w:World) (F:Foot) (B g n me q:Nat) (c:Cm) (ph:Ph) (recs cout:Value) (dn wt:Bool) (tk:Int) (lim r m:Nat) (V V0:Nat→List Value)
  (h:NodeG w F g n me q c ph recs cout dn wt 0 V0 false tk lim) (hr:RecS w B r recs) (ho:LetS w F cout m V) (hr0:r=0→m=0) (hm:m≤100) (hV:∀ u∈flat 51 m V,u.oneCell'=true)
  (hFB:∀ k,B≤k→k<w.heap.size→F k) (hlim:lim≤2000) :
  Calls Tryz.prog 90 #[.pointer (some ⟨g,0,none⟩)] w fun e w'=>e=.returned (.bool true)∧Drained F g n me q c ph dn wt m V tk (lim+500*r) w w':=by
 obtain⟨gd,gfl,gby,mb,gw,gc,gfr,kept,P,sq,v,d,since,waits,out,ans,h⟩:=h
 have h':=h
 obtain⟨nd,dk,lm,wl,⟨⟨gl,gm,nl,gi,gx,ni,L,E,leads,h1,h2,h3,h4,h5⟩,hf⟩,fr,st,wa,⟨h0,obo,ou,hou⟩,an',f1,f2,f3,f4,f5,f6⟩:=h'
 obtain rfl:=h0 rfl
 obtain⟨hc0,obc,hco,hcof⟩:=ho
 have hF:∀ W,∀ k,F k→k<w.heap.size→grow F w W k:=fun W k hk _=>.inl hk
 have hgl:=nd.lt
 have dkf:Holds w gfl 129 _:=(Classical.choose_spec (Classical.choose_spec dk.f)).2.2
 have dkd:Holds w gd 125 _:=(Classical.choose_spec dk.d).2.2
 have dkb:Holds w gby 5 _:=(Classical.choose_spec (Classical.choose_spec dk.b)).2.2
 rcases hr with⟨rfl,rfl⟩|⟨rfl,gr,cr,mr,rv,rest,rfl,hgr,hrv,hmr,hBr⟩
 ·obtain rfl:=hr0 rfl
  obtain rfl:=hc0 rfl
  refine (ndrain0 g n me gd gw gc gl gi gfr leads P sq v d since tk waits ans w nd wl h1.hc).mono ?_
  rintro e w' ⟨rfl,hn,hc,hm'⟩
  have hG:∀ k,(k=g∨k=gc)→k<w.heap.size→∃ t L,Holds w k t L∧t∈drTs:=by
   rintro k (rfl|rfl) _
   ·exact⟨_,_,nd,by decide⟩
   ·exact⟨_,_,h1.hc,by decide⟩
  have hT:∀ (a:Nat) (t:TypeId) (L:List Value),Holds w a t L→t∉([102,163]:List TypeId)→¬ (a=g∨a=gc):=by
   rintro a t L ha ht (rfl|rfl)
   ·exact ht (holds_type nd ha▸by decide)
   ·exact ht (holds_type h1.hc ha▸by decide)
  refine⟨rfl,⟨gd,gfl,gby,mb,gw,gc,gfr,kept,P,sq,v,d,since,waits,.slice none 0 0,ans,((h.foot (hF w')).drained hm' hG hn (dk.mv hm' (hT _ _ _ dkd (by decide)) (hT _ _ _ dkf (by decide)) (hT _ _ _ dkb (by decide))) (by omega) (.inl f4) (wl.mv hm' (hT _ _ _ wl (by decide))) ?_ ⟨fun _=>rfl,none,OwnS.nil _ _ _,by simp⟩)⟩,?_⟩
  ·exact CoreSt.drained h1 h2 h3 ⟨.inl h4.1,.inl h4.2.1,.inl h4.2.2.1,.inl h4.2.2.2⟩ (h5.foot (hF w')) (.inl hf) hm' hG hc
  ·exact hm'.more (by rintro k (rfl|rfl);exact f1;exact hf)
 ·refine (ndrain1 g n me gd gfl gby mb gw gc gl gi gfr gr cr mr m B kept leads rv cout rest obc _ P sq v d since tk waits ans w nd dk wl h1.hc hgr hrv hmr hco hV (by omega) hm hc0).mono ?_
  rintro e w' ⟨rfl,out',ob',gby',hn,hd,hw,hc,ho',hob',hz',hgb',hm'⟩
  have hG:∀ k,(k=g∨k=gfl∨k=gw∨k=gc∨k=gr)→k<w.heap.size→∃ t L,Holds w k t L∧t∈drTs:=by
   rintro k (rfl|rfl|rfl|rfl|rfl) _
   ·exact⟨_,_,nd,by decide⟩
   ·exact⟨_,_,dkf,by decide⟩
   ·exact⟨_,_,wl,by decide⟩
   ·exact⟨_,_,h1.hc,by decide⟩
   ·exact⟨_,_,hgr,by decide⟩
  have hnew:∀ k,w.heap.size≤k→k<w'.heap.size→grow F w w' k:=fun k h1 h2=>.inr ⟨h1,h2⟩
  refine⟨rfl,⟨gd,gfl,gby',mb+(mr+7),gw,gc,gfr,_,P,sq,v,d,since,waits,out',ans,((h.foot (hF w')).drained hm' hG hn hd (by omega) (hnew _ hgb' hd.lt.2.2) hw ?_ ⟨hz',ob',ho',fun k hk=>hnew k (hob' k hk) (ho'.lt k hk)⟩)⟩,?_⟩
  ·exact CoreSt.drained h1 h2 h3 ⟨.inl h4.1,.inl h4.2.1,.inl h4.2.2.1,.inl h4.2.2.2⟩ (h5.foot (hF w')) (.inl hf) hm' hG hc
  ·exact hm'.more (by rintro k (rfl|rfl|rfl|rfl|rfl);exact f1;exact f3;exact f5;exact hf;exact hFB _ hBr hgr.lt)
end
end Go.Proofs.YtimdpiifpibgfaaGreatDoor
