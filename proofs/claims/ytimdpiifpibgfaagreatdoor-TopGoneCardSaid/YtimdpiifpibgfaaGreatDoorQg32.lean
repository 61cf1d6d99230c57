/- A part of the proof that the law TopGone returns true for every input. -/
import Derived.Test.YtimdpiifpibgfaaGreatDoorQg31
import Derived.Test.YtimdpiifpibgfaaGreatDoorQg27
set_option linter.all false
set_option maxRecDepth 20000
set_option maxHeartbeats 16000000
open Go.RowKit Go.Maps
namespace Go.Proofs.YtimdpiifpibgfaaGreatDoor
open Tryz
theorem Qz(g n me gd gw gc gfr:Nat)(P:Value)(sq v:Int)(d:Nat→Int)(since tk:Int)(out ans:Value)(w:World) (nd:Holds w g 102 (BF n me gd gw gc gfr P sq v d since tk (.slice none 0 0) out ans)) :Calls prog 92 #[.pointer (some ⟨g,0,none⟩)] w λe w'=>e=.returned (.tuple #[])∧Holds w' g 102 (BF n me gd gw gc gfr P sq v d since tk (.slice none 0 0) out ans)∧Touch g w w':=by
 have HN:=qh nd;clear nd;go_in;have n71:=AZ HN.o 71;go_wp2_with fail;go_loopw [12,2] (λvi v2 wr=>vi=.int .i64 0∧v2=.slice none 0 0∧w=wr) (λ_ _ _=>0);case atStart=>exact⟨rfl,rfl,rfl⟩
 case round=>obtain⟨rfl,rfl,rfl⟩:=hrel;go_wp2_with (first|(refine sC 71 HN.o (.slice none 0 0) ?_;intro w7 hh7 ht7));exact bE ⟨rfl,hh7,ht7⟩
theorem Xl[Af](gc n me gl gm nl gi:Nat)(L:List BR)(leads recs cout:Value)(w:World)(h:Holds w gc 163 (Au n me gl gi leads recs cout))(hl:A7 w gl gm nl L) :Calls prog 173 #[.pointer (some ⟨gc,0,none⟩)] w λe w'=>e=.returned (.agg BX.toArray)∧Below w.heap.size w w':=by have KC:=qh (λW (h:A7 W gl gm nl L)=>YX gl gm nl L W h);have HN:=qh h;have HL:=qh hl;clear h hl;go_in;go_upto_region 1 with(fail);go_name_world W hW;obtain⟨HZ,hbW,hsW⟩:=Ef 41 (BX) hW;clear hW;have HB:=qh hbW;obtain⟨HN,HL⟩:=Bf hbW HN HL;clear hbW;have n2:=AZ HN.o 2;go_upto_region 1 with(fail);go_wp2_with fail;refine AY (KC.o _ HL.o) ?_;rintro w1 hb;have HZ:=Ci hb HZ;have HB:=qh (HB.trans (hb.mono HB.size));clear hb n2 HN HL;go_wp2_with (first|(refine sW BX HZ.o ?_ Gy;intro wc hh ht));exact bC hh.AX ⟨rfl,HB.trans (ht.below (Nat.le_refl _) HB.size)⟩
theorem LW(a:Nat→Int)(ha:a=λ_=>0):∀m,FrontP.DL (λ_ _=>0) a m=λ_=>0
 | 0=>by subst ha;rfl
 | m+1=>by
  funext i
  show FrontP.mn (FrontP.DL (λ_ _=>0) a m i) 0=0;rw[LW a ha m]
  rfl
theorem aJ(g n me:Nat)(w:World)(h:BK w g 197 n me (λ_ _=>0))(hme:me<n) :Calls prog 172 #[.pointer (some ⟨g,0,none⟩)] w λe w'=>e=.returned (.agg BX.toArray)∧Below w.heap.size w w':=by have:=UT g n me (λ_ _=>0) w h hme;rw[show FrontP.stable (λ_ _=>0) n me=(λ_=>0) from LW _ rfl n] at this;exact this
theorem Wx[Af](g n me gd gw gc gl gm nl gi gfr:Nat)(L:List BR)(leads recs cout:Value)(P:Value)(sq v:Int)(d:Nat→Int)(since tk:Int)(waits out ans:Value)(w:World) (nd:Holds w g 102 (BF n me gd gw gc gfr P sq v d since tk waits out ans)) (h:Holds w gc 163 (Au n me gl gi leads recs cout)) (hl:A7 w gl gm nl L) (hf:BK w gfr 197 n me (λ_ _=>0)) (hme:me<n) :Calls prog 95 #[.pointer (some ⟨g,0,none⟩)] w λe w'=>e=.returned (.tuple #[])∧Below w.heap.size w w':=by
 have KS:=qh (λW (h:BK W gfr 197 n me (λ_ _=>0))=>aJ gfr n me W h hme);have KC:=qh (λW (h:Holds W gc 163 (Au n me gl gi leads recs cout)) hl=>Xl gc n me gl gm nl gi L leads recs cout W h hl);have HN:=qh nd;have HC:=qh h;have HL:=qh hl;have HF:=qh hf.h;have HB:=qh (Base.start w);have hn7:=hf.n7;clear nd h hl hf;go_in;go_upto_region 0 with(fail);refine' FM [⟨10,12,2,15,41,BX,BX⟩,⟨11,13,3,20,41,BX,BX⟩] (by kernel_rfl) (by kernel_rfl) (by kernel_rfl) ?z11 ?z21 ?bd1 _ ?h1 ?val1 ?fin1;case z11=>
  intro x hx;simp only[List.mem_cons,List.not_mem_nil,or_false] at hx;rcases hx with rfl|rfl
  ·exact⟨.agg (BX:List Value).toArray,by kernel_rfl,rfl⟩
  ·exact⟨.agg (BX:List Value).toArray,by kernel_rfl,rfl⟩
 case z21=>
  intro x hx;simp only[List.mem_cons,List.not_mem_nil,or_false] at hx;rcases hx with rfl|rfl
  ·exact⟨by kernel_rfl,rfl,Gy⟩
  ·exact⟨by kernel_rfl,rfl,Gy⟩
 case bd1=>
  intro x hx;simp only[List.mem_cons,List.not_mem_nil,or_false] at hx;rcases hx with rfl|rfl
  ·simp
  ·simp
 case h1=>
  intro W0 hW0;obtain⟨HN,HC,HL,HF,HB⟩:=FB hW0 HN HC HL HF HB;obtain⟨c0_4,c0_5⟩:=Ji HN.o 4 5;simp only[List.map_cons,List.map_nil,A8];repeat go_big_quiet_step (first|(go_at_call 172;with_reducible exact AL λW2 h2=>KS.o W2 (BK.mk (HF.o.bel h2) hn7))|(go_at_call 173;with_reducible exact AL λW2 h2=>KC.o W2 (HC.o.bel h2) (HL.o.bel h2)))
  refine wpQuiet_nil ?_;intro w' _;exact rfl
 case val1=>
  intro x hx;simp only[List.mem_cons,List.not_mem_nil,or_false] at hx;rcases hx with rfl|rfl
  ·rfl
  ·rfl
 intro β w4 hb hx hne;have hx2:=hx _ List.mem_cons_self;have hx3:=hx _ (List.mem_cons_of_mem _ List.mem_cons_self);clear hx hne;simp only[] at hx2 hx3;simp only[Dc,List.foldl,Act.put,List.setIfInBounds_toArray,List.set_cons_zero,List.set_cons_succ];obtain⟨HN,HC,HL,HF,HB⟩:=FB hb HN HC HL HF HB;generalize β 2=g2 at hx2 ⊢;have H2:=qh hx2.2;have hge2:=hx2.1;clear hx2;generalize β 3=g3 at hx3 ⊢;have H3:=qh hx3.2;have hge3:=hx3.1;clear hx3;clear hb;clear HN HC HL HF;go_wp2_with fail;go_loopw [21,4] (λvi v4 wr=>∃i:Nat,vi=.int .i64 (i:Int)∧i≤7∧v4=.int .i64 0∧Below w4.heap.size w4 wr) (λvi _ _=>7 - (intOf vi).toNat);case atStart=>exact⟨0,rfl,by omega,rfl,Below.refl _ _⟩
 case round=>
  obtain⟨i,rfl,hi,rfl,hb⟩:=hrel;have HX2:=qh (H2.bel hb);have HX3:=qh (H3.bel hb);have HB2:=qh (HB.bel hb);have HBB:=qh hb;clear hb;by_cases h7:i=7
  ·subst h7;go_wp2_with fail;exact bQ ⟨rfl,HB2.below⟩
  ·have hi7:(i:Int)<7:=by omega
   go_upto_region 5 with(fail);have a2:=HX2.cell i;have a3:=HX3.cell i;rw[O6 i (by omega)] at a2 a3;go_quiet (fail);have HB2:=qh (HB2.bel (BV _ _ nq));have hb4:Below w4.heap.size w4 (wr.drewN nq):=HBB.trans ((BV _ _ nq).mono HBB.size);go_wp2_with fail;go_roundw;case rel=>exact⟨i+1,by simp,by omega,rfl,hb4⟩
   case measure=>simp[intOf];omega
def WN(q v:Int):List Value:=[.int .i64 q,.int .i64 0,.bool false,.string ⟨#[]⟩,.int .i64 v,.slice none 0 0]
theorem Rx(q v:Int):(WN q v).toArray.all (·.oneCell')=true:=by simp[WN,Value.oneCell']
theorem MN:∀u∈[Value.int .i64 1,Value.int .i64 1],u.oneCell'=true:=by simp[Value.oneCell']
theorem Qy(g n me gd gw gc gfr:Nat)(P:Value)(v:Int)(d:Nat→Int)(since tk:Int)(W0 out ans:Value)(ob0:Option Nat)(w:World) (nd:Holds w g 102 (BF n me gd gw gc gfr P 0 v d since tk W0 out ans)) (hw:AU w W0 ob0 37 2 1 [.int .i64 1,.int .i64 1]) :Calls prog 92 #[.pointer (some ⟨g,0,none⟩)] w λe w'=>e=.returned (.tuple #[])∧∃W1 ob1,Holds w' g 102 (BF n me gd gw gc gfr P 0 v d since tk W1 out ans)∧AU w' W1 ob1 37 2 1 [.int .i64 1,.int .i64 1]∧(∀k,ob1=some k→w.heap.size≤k)∧Touch g w w':=by
 obtain⟨gs,cs,rs,rfl,rfl,hcs1,hcs2,hgs,_⟩:=hw.blk (Nat.zero_lt_one);have HN:=qh nd;have HS:=qh hgs;have hgl:=nd.lt;clear nd hw hgs;go_in;have n71:=AZ HN.o 71;go_wp2_with fail;go_loopw [12,2] (λvi v2 wr=>(vi=.int .i64 0∧v2=.slice none 0 0∧w=wr)∨(vi=.int .i64 1∧∃ob1,AU wr v2 ob1 37 2 1 [.int .i64 1,.int .i64 1]∧(∀k,ob1=some k→w.heap.size≤k)∧Below w.heap.size w wr)) (λvi _ _=>1 - (intOf vi).toNat);case atStart=>exact .inl ⟨rfl,rfl,rfl⟩
 case round=>
  rcases hrel with⟨rfl,rfl,rfl⟩|⟨rfl,ob1,ho,hob,hb⟩
  ·have s0:=HS.cell 0;have s1:=HS.cell 1;simp only[List.cons_append,yA,yB] at s0 s1;have HB1:=qh (Base.start w);go_upto_region 4 with(first|(refine sW [.int .i64 1,.int .i64 1] (AA w _ _) ?_;intro w2 hh2 ht2));have hal:Below w.heap.size w w2:=Below.trans ((Below.refl _ _).alloc (Nat.le_refl _) _) (ht2.below (Nat.le_refl _) (by simp));have HI:=qh hh2;obtain⟨HN,HB1⟩:=Bf hal HN HB1;clear hal hh2 ht2 s0 s1 HS n71;generalize hgp:w.heap.size=gp at HI HB1 ⊢;refine' bx1 ⟨9,10,5,24,63,WN 0 0,WN 0 v⟩ _ (Rx _ _) ?h2 ?val2 ?fin2;case h2=>
    intro W0 hW0;obtain⟨HN,HI,HB1⟩:=Ce hW0 HN HI HB1;obtain⟨c0_7,c0_8,c0_9,c0_10,c0_11,c0_12⟩:=jK HN.o 7 8 9 10 11 12;obtain⟨c1_0,c1_1⟩:=Ji HI.o 0 1;simp only[List.map_cons,List.map_nil,A8];repeat go_big_quiet_step (first|fail)
    refine wpQuiet_nil ?_;intro w' _;exact rfl
   case val2=>rfl
   intro β w4 hb hx5;simp only[] at hx5;simp only[Dc,List.foldl,Act.put,List.setIfInBounds_toArray,List.set_cons_zero,List.set_cons_succ];obtain⟨HN,HI,HB1⟩:=Ce hb HN HI HB1;generalize β 5=g5 at hx5 ⊢;have H5:=qh hx5.2;have hge5:=hx5.1;clear hx5;clear hb;clear HN;obtain⟨i0,i1⟩:=BQ HI.o 0 1;have y0:=AZ H5.o 0;go_wp2_with (first|(refine IP rfl 99 37 (.agg #[.int .i64 1,.int .i64 1]) [.int .i64 1,.int .i64 1] rfl rfl rfl (λw=>by kernel_rfl) ?_;intro wa hna hba;have HNA:=qh hna;have HBA:=qh (HB1.bel hba);clear hna hba)|(at_builtin;refine aS (.agg #[.int .i64 0,.int .i64 0]) 2 16 (AU.nil _ _ _) [.int .i64 1,.int .i64 1] (HNA.reads 0 _ (λj v hv=>by rw[Nat.zero_add];exact hv)) ?_ MN;intro v5 ob5 w5 ho5 hob5 hm5;have HO5:=qh (show AU w5 v5 ob5 37 2 1 [.int .i64 1,.int .i64 1] from ho5);have HB5:=qh (HBA.mv hm5 (λk hk=>by cases hk));have hs5:=HBA.le;have hob6:∀k,ob5=some k→gp≤k:=(λk hk=>by rcases hob5 with h|⟨k2,h,h2⟩<;>rw[h] at hk<;>cases hk;omega);clear ho5 hob5 hm5));go_roundw;case rel=>exact .inr ⟨by simp,ob5,HO5.o,λk hk=>hgp▸hob6 k hk,hgp▸HB5.below⟩
   case measure=>simp[intOf]
  ·have HO:=qh ho;have HB:=qh hb;have HN2:=qh (HN.bel hb);clear ho hb HN n71 HS;go_wp2_with (first|(refine sC 71 HN2.o _ ?_ (hu:=HO.c1) (h1:=HO.c2);intro w7 hh7 ht7));exact bE ⟨rfl,_,ob1,hh7,HO.touch ht7 (λk hk=>by have:=hob k hk;omega),hob,(Touch.bel (Touch.refl g w) HB.o).trans ht7⟩
def jD:List Value:=[.int .i64 0,.int .i64 0,.int .i64 0,.bool false,.string ⟨#[]⟩,.int .i64 0,.slice none 0 0]
theorem PO{B g:Nat}{w W:World}(h:Base B w W)(hb:w.heap.size=B):Touch g w W:=by subst hb;exact Touch.bel (Touch.refl g w) h.below
def aB(v:Int):List Value:=[.int .i64 0,.bool false,.string ⟨#[]⟩,.int .i64 v,.slice none 0 0]
theorem Yv(v:Int):(aB v).toArray.all (·.oneCell')=true:=by simp[aB,Value.oneCell']
def NV(v:Int):List Value:=[.int .i64 1,.int .i64 1,.int .i64 0,.bool false,.string ⟨#[]⟩,.int .i64 v,.slice none 0 0]
theorem Qw(v:Int):∀u∈NV v,u.oneCell'=true:=by simp[NV,Value.oneCell']
theorem Qx(g n me gd gw gc gfr:Nat)(P:Value)(v:Int)(d:Nat→Int)(since tk:Int)(W0 out:Value)(ob0:Option Nat)(w:World) (nd:Holds w g 102 (BF n me gd gw gc gfr P 1 v d since tk W0 out (.slice none 0 0))) (hw:AU w W0 ob0 37 2 1 [.int .i64 1,.int .i64 1]) :Calls prog 92 #[.pointer (some ⟨g,0,none⟩)] w λe w'=>e=.returned (.tuple #[])∧∃ans ob1,Holds w' g 102 (BF n me gd gw gc gfr P 1 v d since tk (.slice none 0 0) out ans)∧AU w' ans ob1 121 7 1 (NV v)∧(∀k,ob1=some k→w.heap.size≤k)∧Touch g w w':=by
 obtain⟨gs,cs,rs,rfl,rfl,hcs1,hcs2,hgs,_⟩:=hw.blk (Nat.zero_lt_one);have KP:=qh EL;have HN:=qh nd;have HS:=qh hgs;have hgl:=nd.lt;clear nd hw hgs;go_in;have n71:=AZ HN.o 71;go_wp2_with fail;go_loopw [12,2] (λvi v2 wr=>(vi=.int .i64 0∧v2=.slice none 0 0∧w=wr)∨(vi=.int .i64 1∧v2=.slice none 0 0∧∃ans ob1,Holds wr g 102 (BF n me gd gw gc gfr P 1 v d since tk (.slice (some ⟨gs,0,none⟩) 1 cs) out ans)∧AU wr ans ob1 121 7 1 (NV v)∧(∀k,ob1=some k→w.heap.size≤k)∧Touch g w wr)) (λvi _ _=>1 - (intOf vi).toNat);case atStart=>exact .inl ⟨rfl,rfl,rfl⟩
 case round=>
  rcases hrel with⟨rfl,rfl,rfl⟩|⟨rfl,rfl,ans,ob1,hn,ho,hob,ht⟩
  ·have s0:=HS.cell 0;have s1:=HS.cell 1;simp only[List.cons_append,yA,yB] at s0 s1;have HB1:=qh (Base.start w);go_upto_region 4 with(first|(refine sW [.int .i64 1,.int .i64 1] (AA w _ _) ?_;intro w2 hh2 ht2));have hal:Below w.heap.size w w2:=Below.trans ((Below.refl _ _).alloc (Nat.le_refl _) _) (ht2.below (Nat.le_refl _) (by simp));have HI:=qh hh2;obtain⟨HN,HB1⟩:=Bf hal HN HB1;clear hal hh2 ht2 s0 s1 HS n71;generalize hgp:w.heap.size=gp at HI HB1 ⊢;refine' bx1 ⟨9,10,5,24,63,WN 0 0,WN 1 v⟩ _ (Rx _ _) ?h3 ?val3 ?fin3;case h3=>
    intro W0 hW0;obtain⟨HN,HI,HB1⟩:=Ce hW0 HN HI HB1;obtain⟨c0_7,c0_8,c0_9,c0_10,c0_11,c0_12⟩:=jK HN.o 7 8 9 10 11 12;obtain⟨c1_0,c1_1⟩:=Ji HI.o 0 1;simp only[List.map_cons,List.map_nil,A8];repeat go_big_quiet_step (first|fail)
    refine wpQuiet_nil ?_;intro w' _;exact rfl
   case val3=>rfl
   intro β w4 hb hx5;simp only[] at hx5;simp only[Dc,List.foldl,Act.put,List.setIfInBounds_toArray,List.set_cons_zero,List.set_cons_succ];obtain⟨HN,HI,HB1⟩:=Ce hb HN HI HB1;generalize β 5=g5 at hx5 ⊢;have H5:=qh hx5.2;have hge5:=hx5.1;clear hx5;clear hb;obtain⟨i0,i1⟩:=BQ HI.o 0 1;obtain⟨y0,y1,y2,y3,y4,y5⟩:=jO H5.o 0 1 2 3 4 5;go_upto_region 7 with(first|(refine sW (aB v) (AA w4 _ _) ?_ (Yv v);intro w5 hh5 ht5));have hal5:Below w4.heap.size w4 w5:=Below.trans ((Below.refl _ _).alloc (Nat.le_refl _) _) (ht5.below (Nat.le_refl _) (by simp));have HR:=qh hh5;have hgr:gp≤w4.heap.size:=HB1.le;obtain⟨HN,HI,HB1⟩:=Ce hal5 HN HI HB1;clear hal5 hh5 ht5 i0 i1 y0 y1 y2 y3 y4 y5 H5;generalize hgr0:w4.heap.size=gr at HR hgr ⊢;have r4:=AZ HR.o 4;go_wp2_with fail;refine AY (KP.o _) ?_;rintro w6 hb6;obtain⟨HN,HI,HB1,HR⟩:=D8 hb6 HN HI HB1 HR;clear hb6 r4;have hgne:gr≠g∧gr≠gp:=⟨by omega,HR.ne_of HI.o (by decide)⟩;go_upto_region 8 with(first|(refine sC 4 HR.o (.slice none 0 0) ?_;intro w7 hh7 ht7));have HR:=qh (show Holds w7 gr 53 (aB v) from hh7);have HN:=qh (HN.touch ht7 hgne.1.symm);have HI:=qh (HI.touch ht7 hgne.2.symm);have HB1:=qh (HB1.touch ht7 hgr);clear hh7 ht7;obtain⟨HN,HI,HB1,HR⟩:=D8 (AP _ w7) HN HI HB1 HR;refine EC [12,15] 16 (λhSn=>?_);generalize w7.drew=wd at HN HI HB1 HR hSn ⊢;simp only[List.replicate];refine Gn 0 ?_;refine BA 4 [12,13,14,15] (λw hSw=>AZ (HN.bel hSw) 73) ?_;refine CS 5 ?_;refine BA 6 [10,11,12,13,14,15] (λw hSw=>AZ (HI.bel hSw) 0) ?_;refine CS 7 ?_;refine BA 8 [10,11,12,13,14,15] (λw hSw=>AZ (HI.bel hSw) 1) ?_;refine BA 9 [10,11,12,13,14,15] (λw hSw=>Jh (HR.bel hSw) 0 1 2 3 4) ?_;refine CS 10 ?_;refine BC 11 rfl (λK hK=>?_);refine tU 121 (.agg (NV v).toArray) (NV v) ?_;intro wa hna hba;have hSn:=AB hSn hba;have HNA:=qh hna;generalize wd.heap.size=gn at HNA ⊢;obtain⟨HN,HB1⟩:=Bf hSn HN HB1;clear hna hba;change K (Act.put _ (some 48) _) _;refine BJ hK ?_;clear hK;refine BC 12 rfl (λK hK=>?_);refine tS (.agg (jD).toArray) 7 80 (AU.nil _ _ _) (NV v) (HNA.reads 0 _ (λj v hv=>by rw[Nat.zero_add];exact hv)) ?_ (Qw v);intro v9 ob9 w9 ho9 hob9 hm9;have hgla:gp≤_:=HB1.le;have HO9:=qh (show AU w9 v9 ob9 121 7 1 (NV v) from ho9);have HN9:=qh (HN.mv hm9 (λh=>(by cases h)));have HB9:=qh (HB1.mv hm9 (λk hk=>by cases hk));have hob8:∀k,ob9=some k→gp≤k:=(λk hk=>by rcases hob9 with h|⟨k2,h,h2⟩<;>rw[h] at hk<;>cases hk;omega);clear ho9 hob9 hm9;change K (Act.put _ (some 49) _) _;refine BJ hK ?_;clear hK;refine FD 13 ?_ (hS:=GK);refine BC 15 rfl (λK hK=>?_);refine tC 73 HN9.o v9 ?_ (hu:=HO9.c1) (h1:=HO9.c2);intro w10 hh10 ht10;have HNN:=qh (show Holds w10 g 102 (BF n me gd gw gc gfr P 1 v d since tk (.slice (some ⟨gs,0,none⟩) 1 cs) out v9) from hh10);have HOO:=qh (HO9.touch ht10 (λk hk=>by have:=hob8 k hk;omega));have HTT:=qh ((PO HB9.o hgp).trans ht10);clear hh10 ht10;refine BJ hK ?_;clear hK;refine DX ?_;clear hSn HI HB1 HR HN HN9 HO9 HB9 HNA;go_wp2_with fail;go_roundw;case rel=>exact .inr ⟨by simp,rfl,v9,ob9,HNN.o,HOO.o,λk hk=>hgp▸hob8 k hk,HTT.o⟩
   case measure=>simp[intOf]
  ·have HO:=qh ho;have HN2:=qh hn;have HT:=qh ht;clear ho hn ht HN n71 HS;go_wp2_with (first|(refine sC 71 HN2.o (.slice none 0 0) ?_;intro w7 hh7 ht7));exact bE ⟨rfl,ans,ob1,hh7,HO.touch ht7 (λk hk=>by have:=hob k hk;omega),hob,HT.trans ht7⟩
theorem Wh(g:Nat)(w:World)(R1 R2 R3 R4:World→Prop) (hbad:w.cell? ⟨g,74,none⟩=some (.bool false)) (KD:Calls prog 90 #[.pointer (some ⟨g,0,none⟩)] w λe w'=>e=.returned (.bool true)∧R1 w') (KR:∀W,R1 W→Calls prog 91 #[.pointer (some ⟨g,0,none⟩)] W λe w'=>e=.returned (.tuple #[])∧R2 w') (KA:∀W,R2 W→Calls prog 92 #[.pointer (some ⟨g,0,none⟩)] W λe w'=>e=.returned (.tuple #[])∧R3 w') (hs:∀W,R3 W→W.cell? ⟨g,69,none⟩=some (.int .i64 0)∨W.cell? ⟨g,69,none⟩=some (.int .i64 1)) (hb:∀W W',R3 W→Below W.heap.size W W'→R3 W') (KT:∀W,R3 W→Calls prog 95 #[.pointer (some ⟨g,0,none⟩)] W λe w'=>e=.returned (.tuple #[])∧R4 w') :Calls prog 53 #[.pointer (some ⟨g,0,none⟩)] w λe w'=>e=.returned (.tuple #[])∧R4 w':=by
 have KD:=qh KD;have KR:=qh KR;have KA:=qh KA;have KT:=qh KT;have hs:=qh hs;have hb:=qh hb;go_in;go_wp2_with fail;refine KD.mono ?_;rintro e w1 ⟨rfl,h1⟩;have H1:=qh h1;clear h1 hbad KD;go_wp2_with fail;refine AY (KR.o _ H1.o) ?_;rintro w2 h2;have H2:=qh h2;clear h2 H1 KR;go_wp2_with fail;refine AY (KA.o _ H2.o) ?_;rintro w3 h3;have H3:=qh h3;clear h3 H2 KA;go_upto_region 3 with(fail);rcases hs.out _ H3.o with h69|h69;all_goals
  go_quiet (fail);have H3:=qh (hb.out _ _ H3.o (BV _ _ nq));clear h69;generalize w3.drewN nq=W2 at H3 ⊢;go_wp2_with fail;refine AY (KT.o _ H3.o) ?_;rintro w4 h4;have H4:=qh h4;clear h4 H3 KT;go_wp2_with fail;exact bE ⟨rfl,H4.o⟩
section
theorem BU{w:World}{a:Nat}{t t':TypeId}{L L':List Value}(h:Holds w a t L)(h':Holds w a t' L'):t=t':=Decidable.byContradiction λhn=>(h.ne_of h' hn) rfl
def TQ:List TypeId:=[102,129,208,163,127]
section
variable {w w':World} {F G:Ap} {g n me q:Nat} {c:Cm} {ph:Ph} {recs cout:Value} {dn wt:Bool} {m m0:Nat} {V V0:Nat→List Value} {an:Bool} {tk:Int} {lim lim':Nat}
 {gd gfl gby gby' mb mb' gw gc gfr:Nat} {kept kept':Int} {P:Value} {sq v:Int} {d:Nat→Int} {since:Int} {waits out out' ans:Value}
theorem BM.drained[wi:Af]{gl gm nl gi gx ni:Nat}{L:List BR}{E:List Bh}{leads:Value}(h1:Ac w gc n me gl gm nl gi gx ni L E leads recs cout)(h2:nl≤bnd ph)(h3:ni≤bnd ph)(h4:F gl∧F gm∧F gi∧F gx)(h5:I8 w F me q c L E leads ph)(h6:Em w F q wi ph)(hf:F gc) (hm:Mv G w w') (hG:∀k,G k→k<w.heap.size→∃t L,Holds w k t L∧t∈TQ) (hc:Holds w' gc 163 (Au n me gl gi leads (.slice none 0 0) (.slice none 0 0))):BM w' F gc n me q c ph (.slice none 0 0) (.slice none 0 0):=by
 have hl:=h1.lt;have hT:∀(a:Nat) (t:TypeId) (L:List Value),Holds w a t L→t∉TQ→¬G a:=λa t L ha ht hg=>by obtain⟨t',L',h,h'⟩:=hG a hg ha.lt;exact ht (BU ha h▸h')
 have hM:∀a,a<w.heap.size→Fq w a→¬G a:=λa hal ha hg=>by obtain⟨t',L',h,h'⟩:=hG a hg hal;exact Ai ha h rfl
 have hA:∀k,G k→k<w.heap.size→EN w F IK k:=λk hk hkl=>by obtain⟨t',L',h,h'⟩:=hG k hk hkl;exact DR h ((show ∀t∈TQ,t∉IK by decide) _ h')
 exact⟨⟨wi,gl,gm,nl,gi,gx,ni,L,E,leads,h1.IL hm hc (hT _ _ _ h1.lg.ix (by decide)) (hM _ hl.2.2.1 h1.lg.isMap) (hT _ _ _ h1.ix.ix (by decide)) (hM _ hl.2.2.2.2 h1.ix.isMap),h2,h3,h4,h5.mv (T:=IK) hm hA (λ_ h=>h),h6.mv (T:=IK) hm hA O1⟩,hf⟩
theorem EO.drained(h:EO w F g n me q c ph recs cout dn wt m0 V0 an tk lim gd gfl gby mb gw gc gfr kept P sq v d since waits out ans)(hm:Mv G w w')(hG:∀k,G k→k<w.heap.size→∃t L,Holds w k t L∧t∈TQ) (hn:Holds w' g 102 (BF n me gd gw gc gfr P sq v d since tk waits out' ans)) (hd:CE w' gd gfl gby' mb' kept') (hlm:mb'≤lim'∧kept'=(mb':Int)) (hf:F gby') (hw:Holds w' gw 208 (Gh gd 1 1)) (hc:BM w' F gc n me q c ph (.slice none 0 0) (.slice none 0 0)) (ho:DN w' F out' m V) :EO w' F g n me q c ph (.slice none 0 0) (.slice none 0 0) dn wt m V an tk lim' gd gfl gby' mb' gw gc gfr kept' P sq v d since waits out' ans:=by
 obtain⟨nd,dk,lm,wl,co,fr,st,wa,ou,an',f1,f2,f3,f4,f5,f6⟩:=h;have hA:∀T:List TypeId,(∀t∈TQ,t∉T)→∀k,G k→k<w.heap.size→EN w F T k:=λT ht k hk hl=>by obtain⟨t',L',h,h'⟩:=hG k hk hl;exact DR h (ht _ h')
 exact⟨hn,hd,hlm,hw,hc,fr.away (T:=[197]) f6 hm (hA _ (by decide)) (by decide),st.mv (T:=[69]) hm (hA _ (by decide)) (by decide),wa.mv (T:=[37]) hm (hA _ (by decide)) (by decide),ho,an'.mv (T:=[121]) hm (hA _ (by decide)) (by decide),f1,f2,f3,hf,f5,f6⟩
end
def Drained(F:Ap)(g gd n me q:Nat)(c:Cm)(ph:Ph)(dn wt:Bool)(m:Nat)(V:Nat→List Value)(tk:Int)(lim:Nat)(w w':World):Prop:=BZ w' (grow F w w') g gd n me q c ph (.slice none 0 0) (.slice none 0 0) dn wt m V false tk lim∧Mv F w w'
theorem Pm(w:World)(F:Ap)(g gd n me q:Nat)(c:Cm)(ph:Ph)(dn wt:Bool)(tk:Int)(lim m:Nat)(V:Nat→List Value) (h:BZ w F g gd n me q c ph (.slice none 0 0) (.slice none 0 0) dn wt m V false tk lim) :Calls prog 90 #[.pointer (some ⟨g,0,none⟩)] w λe w'=>e=.returned (.bool true)∧Drained F g gd n me q c ph dn wt m V tk lim w w':=by
 obtain⟨gfl,gby,mb,gw,gc,gfr,kept,P,sq,v,d,since,waits,out,ans,h⟩:=h;have h':=h;obtain⟨nd,dk,lm,wl,⟨⟨wi,gl,gm,nl,gi,gx,ni,L,E,leads,h1,h2,h3,h4,h5,h6⟩,hf⟩,fr,st,wa,⟨h0,obo,ou,hou⟩,an',f1,f2,f3,f4,f5,f6⟩:=h';have hF:∀W,∀k,F k→k<w.heap.size→grow F w W k:=λW k hk _=>.inl hk;have dkf:Holds w gfl 129 _:=(Classical.choose_spec (Classical.choose_spec dk.f)).2.2;have dkd:Holds w gd 125 _:=(Classical.choose_spec dk.d).2.2;have dkb:Holds w gby 5 _:=(Classical.choose_spec (Classical.choose_spec dk.b)).2.2;obtain⟨po,co,rfl⟩:∃po co,out=.slice po m co:=by
  rcases ou.cases with⟨rfl,_,rfl,_⟩|⟨g1,c1,_,rfl,_⟩
  ·exact⟨_,_,rfl⟩
  ·exact⟨_,_,rfl⟩
 refine AY (Zu g n me gd gw gc gl gi gfr leads P sq v d since tk waits ans po m co obo _ w nd ou wl h1.hc) ?_;rintro w' ⟨hn,hc,hm'⟩;have hG:∀k,(k=g∨k=gc)→k<w.heap.size→∃t L,Holds w k t L∧t∈TQ:=by
  rintro k (rfl|rfl) _
  ·exact⟨_,_,nd,by decide⟩
  ·exact⟨_,_,h1.hc,by decide⟩
 have hT:∀(a:Nat) (t:TypeId) (L:List Value),Holds w a t L→t∉([102,163]:List TypeId)→¬(a=g∨a=gc):=by
  rintro a t L ha ht (rfl|rfl)
  ·exact ht (BU nd ha▸by decide)
  ·exact ht (BU h1.hc ha▸by decide)
 have hL:DN w' (grow F w w') (.slice po m co) m V:=⟨h0,obo,ou.mv hm' λk hk=>by
  rcases ou.cases with⟨_,h0,_⟩|⟨g1,_,_,_,h0,_,_,hh,_⟩
  ·rw[h0] at hk;cases hk
  ·rw[h0] at hk;cases hk;exact hT _ _ _ hh (by decide),λk hk=>.inl (hou k hk)⟩
 refine⟨rfl,⟨gfl,gby,mb,gw,gc,gfr,kept,P,sq,v,d,since,waits,.slice po m co,ans,((h.foot (hF w')).drained hm' hG hn (dk.mv hm' (hT _ _ _ dkd (by decide)) (hT _ _ _ dkf (by decide)) (hT _ _ _ dkb (by decide))) lm (.inl f4) (wl.mv hm' (hT _ _ _ wl (by decide))) ?_ hL)⟩,?_⟩
 ·exact BM.drained h1 h2 h3 ⟨.inl h4.1,.inl h4.2.1,.inl h4.2.2.1,.inl h4.2.2.2⟩ (h5.foot (hF w')) (h6.foot (hF w')) (.inl hf) hm' hG hc
 ·exact hm'.more (by rintro k (rfl|rfl);exact f1;exact hf)
theorem Xz(w:World)(F:Ap)(B g gd n me q:Nat)(c:Cm)(ph:Ph)(recs cout:Value)(dn wt:Bool)(tk:Int)(lim r m:Nat)(V V0:Nat→List Value) (h:BZ w F g gd n me q c ph recs cout dn wt 0 V0 false tk lim) (hr:F5 w B r recs) (ho:DN w F cout m V) (hr0:r=0→m=0) (hm:m≤100) (hV:∀u∈flat 51 m V,u.oneCell'=true) (hFB:∀k,B≤k→k<w.heap.size→F k) (hlr:r=0∨lim≤2000) :Calls prog 90 #[.pointer (some ⟨g,0,none⟩)] w λe w'=>e=.returned (.bool true)∧Drained F g gd n me q c ph dn wt m V tk (lim+500*r) w w':=by
 rcases hr with⟨rfl,rfl⟩|⟨rfl,gr,cr,mr,rv,rest,rfl,hgr,hrv,hmr,hBr⟩
 ·obtain rfl:=hr0 rfl;obtain⟨hc0,_⟩:=ho;obtain rfl:=hc0 rfl;refine AY (Pm w F g gd n me q c ph dn wt tk lim 0 V0 h) ?_;rintro w' ⟨h1,h2⟩;obtain⟨gfl,gby,mb,gw,gc,gfr,kept,P,sq,v,d,since,waits,out,ans,h3⟩:=h1;exact⟨rfl,⟨gfl,gby,mb,gw,gc,gfr,kept,P,sq,v,d,since,waits,out,ans,{ h3 with ou:=⟨h3.ou.1,let ⟨ob,h4,h5⟩:=h3.ou.2;⟨ob,by simpa[flat] using h4,h5⟩⟩ }⟩,h2⟩
 obtain⟨gfl,gby,mb,gw,gc,gfr,kept,P,sq,v,d,since,waits,out,ans,h⟩:=h;have h':=h;obtain⟨nd,dk,lm,wl,⟨⟨wi,gl,gm,nl,gi,gx,ni,L,E,leads,h1,h2,h3,h4,h5,h6⟩,hf⟩,fr,st,wa,⟨h0,obo,ou,hou⟩,an',f1,f2,f3,f4,f5,f6⟩:=h';obtain rfl:=h0 rfl;obtain⟨hc0,obc,hco,hcof⟩:=ho;have hF:∀W,∀k,F k→k<w.heap.size→grow F w W k:=λW k hk _=>.inl hk;have hgl:=nd.lt;have dkf:Holds w gfl 129 _:=(Classical.choose_spec (Classical.choose_spec dk.f)).2.2;have dkd:Holds w gd 125 _:=(Classical.choose_spec dk.d).2.2;have dkb:Holds w gby 5 _:=(Classical.choose_spec (Classical.choose_spec dk.b)).2.2;refine AY (Zv g n me gd gfl gby mb gw gc gl gi gfr gr cr mr m B kept leads rv cout rest obc _ P sq v d since tk waits ans w nd dk wl h1.hc hgr hrv hmr hco hV (by omega) hm hc0) ?_;rintro w' ⟨out',ob',gby',hn,hd,hw,hc,ho',hob',hz',hgb',hm'⟩;have hG:∀k,(k=g∨k=gfl∨k=gw∨k=gc∨k=gr)→k<w.heap.size→∃t L,Holds w k t L∧t∈TQ:=by
  rintro k (rfl|rfl|rfl|rfl|rfl) _
  ·exact⟨_,_,nd,by decide⟩
  ·exact⟨_,_,dkf,by decide⟩
  ·exact⟨_,_,wl,by decide⟩
  ·exact⟨_,_,h1.hc,by decide⟩
  ·exact⟨_,_,hgr,by decide⟩
 have hnew:∀k,w.heap.size≤k→k<w'.heap.size→grow F w w' k:=λk h1 h2=>.inr ⟨h1,h2⟩;refine⟨rfl,⟨gfl,gby',mb+(mr+7),gw,gc,gfr,_,P,sq,v,d,since,waits,out',ans,((h.foot (hF w')).drained hm' hG hn hd (by omega) (hnew _ hgb' hd.lt.2.2) hw ?_ ⟨hz',ob',ho',λk hk=>hnew k (hob' k hk) (ho'.lt k hk)⟩)⟩,?_⟩
 ·exact BM.drained h1 h2 h3 ⟨.inl h4.1,.inl h4.2.1,.inl h4.2.2.1,.inl h4.2.2.2⟩ (h5.foot (hF w')) (h6.foot (hF w')) (.inl hf) hm' hG hc
 ·exact hm'.more (by rintro k (rfl|rfl|rfl|rfl|rfl);exact f1;exact f3;exact f5;exact hf;exact hFB _ hBr hgr.lt)
end
theorem BZ.step{w W W':World}{F:Ap}{g gd n me q:Nat}{c:Cm}{ph:Ph}{recs cout:Value}{dn wt:Bool}{m:Nat}{V:Nat→List Value}{an:Bool}{tk:Int}{lim:Nat}(h:BZ W' (grow (grow F w W) W W') g gd n me q c ph recs cout dn wt m V an tk lim)(h1:w.heap.size≤W.heap.size)(h2:W.heap.size≤W'.heap.size) :BZ W' (grow F w W') g gd n me q c ph recs cout dn wt m V an tk lim:=h.foot λk hk _=>grow_step h1 h2 hk
theorem Mv.step{w W W':World}{F:Ap}(h:Mv F w W)(h2:Mv (grow F w W) W W'):Mv F w W':=h.part h2 λk hk=>hk
theorem dX(w:World)(F:Ap)(g gd n me q:Nat)(c:Cm)(ph:Ph)(dn wt:Bool)(tk:Int)(lim m:Nat)(V:Nat→List Value) (h:BZ w F g gd n me q c ph (.slice none 0 0) (.slice none 0 0) dn wt m V false tk lim) (hdn:dn=true→ph=.com) (hq:q<7) (hcc:CU c) (h1:c.c=1) (h2:c.s=1) :Calls prog 91 #[.pointer (some ⟨g,0,none⟩)] w λe w'=>e=.returned (.tuple #[])∧BZ w' (grow F w w') g gd n me q c ph (.slice none 0 0) (.slice none 0 0) (BG ph) wt m V false tk lim∧Mv F w w':=by
 obtain⟨gfl,gby,mb,gw,gc,gfr,kept,P,sq,v,d,since,waits,out,ans,h⟩:=h;have h':=h;obtain⟨nd,dk,lm,wl,⟨⟨wi,gl,gm,nl,gi,gx,ni,L,E,leads,a1,a2,a3,a4,a5,a6⟩,hf⟩,fr,st,wa,ou,an',f1,f2,f3,f4,f5,f6⟩:=h';have hnone:(dn=BG ph)→(∀r,r<7→d r=0∨d r=1)→(∀W,Below w.heap.size w W→Calls prog 164 #[.pointer (some ⟨g,0,none⟩)] W λe w'=>e=.returned (.slice none 0 0)∧Below W.heap.size W w') →
   Calls prog 91 #[.pointer (some ⟨g,0,none⟩)] w λe w'=>e=.returned (.tuple #[])∧BZ w' (grow F w w') g gd n me q c ph (.slice none 0 0) (.slice none 0 0) (BG ph) wt m V false tk lim∧Mv F w w':=by
  intro hd hd7 KC;refine AY (Yy g n me gd gw gc gfr P sq v d since tk waits out ans w nd hd7 KC) ?_;rintro w' hb;subst hd;exact⟨rfl,⟨gfl,gby,mb,gw,gc,gfr,kept,P,sq,v,d,since,waits,out,ans,(h.bel hb).foot λk hk _=>.inl hk⟩,Mv.of_below hb⟩
 have one:∀(bl:Bal) (st:Int) (sm:Bool),L=[⟨q,1,AO bl st c sm⟩]→(d q=0∧(st=1∨st=2))∨d q=1→∀W,Below w.heap.size w W→Calls prog 164 #[.pointer (some ⟨g,0,none⟩)] W λe w'=>e=.returned (.slice none 0 0)∧Below W.heap.size W w':=by rintro bl st sm rfl hst W hb;refine(@Jo ⟨bl⟩ _ g n me gd gw gc gl gm nl gi gx ni gfr q st c sm false E leads _ _ P sq v d since tk waits out ans W (nd.bel hb) (a1.bel hb) hq (by rcases hst with h|h;exact .inr (.inl ⟨rfl,h⟩);exact .inr (.inr ⟨rfl,h⟩))).mono ?_;rintro e w' ⟨R,ob,rfl,hR,_,hb'⟩;rw[hR rfl];exact⟨rfl,hb'⟩
 cases dn with
 | true=>
  obtain rfl:=hdn rfl;obtain⟨⟨ob,s1,s2⟩,s3,s4,s5,s6⟩:=st;obtain⟨⟨bl,_,hL⟩,_⟩:=a5;refine hnone rfl (λr _=>?_) (one bl 3 false hL (.inr ?_))
  ·rw[s5];by_cases hr:r=q<;>simp[F8,hr]
  ·rw[s5];simp[F8]
 | false=>
  obtain⟨s1,s2,s3,s4,s5⟩:=st;have hd7:∀r,r<7→d r=0∨d r=1:=λr _=>by rw[s4];exact .inl rfl
  have hdq:d q=0:=by rw[s4]
  cases ph with
  | fresh=>
   refine hnone rfl hd7 λW hb=>?_;obtain⟨rfl,_,_⟩:=a5;exact OC g n me gd gw gc gl gm nl gi gx ni gfr E leads _ _ P sq v d since tk waits out ans W (nd.bel hb) (a1.bel hb)
  | lead A tk'=>exact hnone rfl hd7 (one Ad 1 true a5.2.1 (.inl ⟨hdq,.inl rfl⟩))
  | pre k=>exact hnone rfl hd7 (one Ad 1 true a5.1 (.inl ⟨hdq,.inl rfl⟩))
  | prom p=>exact hnone rfl hd7 (one _ 1 true a5.1 (.inl ⟨hdq,.inl rfl⟩))
  | prep S=>exact hnone rfl hd7 (one _ 1 true a5.1 (.inl ⟨hdq,.inl rfl⟩))
  | accl A=>exact hnone rfl hd7 (one _ 2 false a5.1 (.inl ⟨hdq,.inr rfl⟩))
  | acc=>
   obtain⟨⟨bl,_,hL⟩,_⟩:=a5;exact hnone rfl hd7 (one bl 2 false hL (.inl ⟨hdq,.inr rfl⟩))
  | gone=>exact a5.elim
  | com=>
   subst s1 s2 s3 s4 s5;obtain⟨⟨bl,_,rfl⟩,_⟩:=a5;refine(@aG ⟨bl⟩ g n me gd gw gc gfr q c hcc h1 h2 tk waits out ans w nd hq λW hb=>?_).mono ?_
   ·refine(@Jo ⟨bl⟩ _ g n me gd gw gc gl gm nl gi gx ni gfr q 3 c false true E leads _ _ _ 0 0 (λ_=>0) 0 tk waits out ans W (nd.bel hb) (a1.bel hb) hq (.inl ⟨rfl,rfl,rfl,rfl⟩)).mono ?_;rintro e w' ⟨R,ob,rfl,_,hR,hb'⟩;obtain⟨gk,ck,rest,rfl,_,_,_,hk,_⟩:=(hR rfl).blk (by decide);exact⟨gk,ck,rest,rfl,hk,hb'⟩
   ·rintro e w' ⟨rfl,P',ob,hn,hp,hob,hm⟩;have hF:∀k,F k→k<w.heap.size→grow F w w' k:=λk hk _=>.inl hk;exact⟨rfl,⟨gfl,gby,mb,gw,gc,gfr,kept,P',1,Ea c,F8 q,1,waits,out,ans,(h.foot hF).Bj hm hn ⟨⟨ob,hp,λk hk=>.inr ⟨hob k hk,AU.lt hp k hk⟩⟩,rfl,rfl,rfl,rfl⟩ ((h.foot hF).wa.Bj nd hm) ((h.foot hF).ou.Bj nd hm) ((h.foot hF).an.Bj nd hm)⟩,hm.more λk hk=>hk▸f1⟩
theorem VI(w:World)(F:Ap)(g gd n me q:Nat)(c:Cm)(ph:Ph)(wt:Bool)(tk:Int)(lim m:Nat)(V:Nat→List Value) (h:BZ w F g gd n me q c ph (.slice none 0 0) (.slice none 0 0) (BG ph) wt m V false tk lim) :Calls prog 92 #[.pointer (some ⟨g,0,none⟩)] w λe w'=>e=.returned (.tuple #[])∧BZ w' (grow F w w') g gd n me q c ph (.slice none 0 0) (.slice none 0 0) (BG ph) (wt&&!BG ph) m V (wt&&BG ph) tk lim∧Mv F w w':=by
 obtain⟨gfl,gby,mb,gw,gc,gfr,kept,P,sq,v,d,since,waits,out,ans,h⟩:=h;have nd:=h.nd;have wa:=h.wa;have st:=h.st;have an:=h.an;obtain rfl:ans=.slice none 0 0:=an;have hF:∀w' k,F k→k<w.heap.size→grow F w w' k:=λw' k hk _=>.inl hk;cases wt with
 | false=>
  obtain rfl:waits=.slice none 0 0:=wa;refine AY (Qz g n me gd gw gc gfr P sq v d since tk out (.slice none 0 0) w nd) ?_;rintro w' ⟨hn,ht⟩;have hm:Mv (λk=>k=g) w w':=Mv.Aa ht rfl;exact⟨rfl,⟨gfl,gby,mb,gw,gc,gfr,kept,P,sq,v,d,since,_,out,_,(h.foot (hF w')).Bj hm hn ((h.foot (hF w')).st.Bj nd hm) rfl ((h.foot (hF w')).ou.Bj nd hm) rfl⟩,hm.more λk hk=>hk▸h.f.1⟩
 | true=>
  obtain⟨ob0,w1,w2⟩:=wa;cases hc:BG ph with
  | false=>
   rw[hc] at h st;obtain⟨s1,s2,s3,s4,s5⟩:=st;subst s2;refine AY (Qy g n me gd gw gc gfr P v d since tk waits out (.slice none 0 0) ob0 w nd w1) ?_;rintro w' ⟨W1,ob1,hn,ho,hob,ht⟩;have hm:Mv (λk=>k=g) w w':=Mv.Aa ht rfl;exact⟨rfl,⟨gfl,gby,mb,gw,gc,gfr,kept,P,0,v,d,since,W1,out,_,(h.foot (hF w')).Bj hm hn ((h.foot (hF w')).st.Bj nd hm) ⟨ob1,ho,λk hk=>.inr ⟨hob k hk,ho.lt k hk⟩⟩ ((h.foot (hF w')).ou.Bj nd hm) rfl⟩,hm.more λk hk=>hk▸h.f.1⟩
  | true=>
   rw[hc] at h st;obtain⟨s1,s2,s3,s4,s5⟩:=st;subst s2 s3;refine AY (Qx g n me gd gw gc gfr P (Ea c) d since tk waits out ob0 w nd w1) ?_;rintro w' ⟨A1,ob1,hn,ho,hob,ht⟩;have hm:Mv (λk=>k=g) w w':=Mv.Aa ht rfl;exact⟨rfl,⟨gfl,gby,mb,gw,gc,gfr,kept,P,1,Ea c,d,since,_,out,A1,(h.foot (hF w')).Bj hm hn ((h.foot (hF w')).st.Bj nd hm) rfl ((h.foot (hF w')).ou.Bj nd hm) ⟨ob1,ho,λk hk=>.inr ⟨hob k hk,ho.lt k hk⟩⟩⟩,hm.more λk hk=>hk▸h.f.1⟩
def LG(F:Ap)(g gd n me q:Nat)(c:Cm)(ph:Ph)(wt:Bool)(m:Nat)(V:Nat→List Value)(tk:Int)(lim:Nat)(w w':World):Prop:=BZ w' (grow F w w') g gd n me q c ph (.slice none 0 0) (.slice none 0 0) (BG ph) (wt&&!BG ph) m V (wt&&BG ph) tk lim∧Mv F w w'
theorem NP(w:World)(F:Ap)(g gd n me q:Nat)(c:Cm)(ph:Ph)(dn wt:Bool)(tk:Int)(lim m:Nat)(V:Nat→List Value) (hbad:w.cell? ⟨g,74,none⟩=some (.bool false)) (KD:Calls prog 90 #[.pointer (some ⟨g,0,none⟩)] w λe w'=>e=.returned (.bool true)∧Drained F g gd n me q c ph dn wt m V tk lim w w') (hdn:dn=true→ph=.com) (hq:q<7) (hme:me<n) (hcc:CU c) (h1:c.c=1) (h2:c.s=1) :Calls prog 53 #[.pointer (some ⟨g,0,none⟩)] w λe w'=>e=.returned (.tuple #[])∧LG F g gd n me q c ph wt m V tk lim w w':=by
 refine Wh g w (Drained F g gd n me q c ph dn wt m V tk lim w) (λW=>BZ W (grow F w W) g gd n me q c ph (.slice none 0 0) (.slice none 0 0) (BG ph) wt m V false tk lim∧Mv F w W) (LG F g gd n me q c ph wt m V tk lim w) (LG F g gd n me q c ph wt m V tk lim w) hbad
  KD (λW hW=>?_) (λW hW=>?_) (λW hW=>?_) (λW W' hW hb=>?_) (λW hW=>?_)
 ·refine AY (dX W (grow F w W) g gd n me q c ph dn wt tk _ m V hW.1 hdn hq hcc h1 h2) ?_;rintro w' ⟨hn,hm'⟩;exact⟨rfl,hn.step hW.2.size hm'.size,hW.2.step hm'⟩
 ·refine AY (VI W (grow F w W) g gd n me q c ph wt tk _ m V hW.1) ?_;rintro w' ⟨hn,hm'⟩;exact⟨rfl,hn.step hW.2.size hm'.size,hW.2.step hm'⟩
 ·obtain⟨⟨gfl,gby,mb,gw,gc,gfr,kept,P,sq,v,d,since,waits,out,ans,h⟩,_⟩:=hW;have hs:=h.nd.cell 69;have st:=h.st;cases hc:BG ph with
  | false=>rw[hc] at st;rw[st.2.2.2.2] at hs;exact .inl hs
  | true=>rw[hc] at st;rw[st.2.2.2.2] at hs;exact .inr hs
 ·exact⟨(hW.1.bel hb).foot λk hk hl=>hk.imp id λ⟨a,b⟩=>⟨a,Nat.lt_of_lt_of_le b hb.size⟩,hW.2.bel hb⟩
 ·obtain⟨⟨gfl,gby,mb,gw,gc,gfr,kept,P,sq,v,d,since,waits,out,ans,h⟩,hmv⟩:=hW;have h':=h;obtain⟨nd,dk,lm,wl,⟨⟨wi,gl,gm,nl,gi,gx,ni,L,E,leads,a1,a2,a3,a4,a5,a6⟩,hf⟩,fr,st,wa,ou,an',f1,f2,f3,f4,f5,f6⟩:=h';refine AY (Wx g n me gd gw gc gl gm nl gi gfr L leads _ _ P sq v d since tk waits out ans W nd a1.hc a1.lg fr hme) ?_;rintro w' hb;exact⟨rfl,⟨gfl,gby,mb,gw,gc,gfr,kept,P,sq,v,d,since,waits,out,ans,(h.bel hb).foot λk hk hl=>hk.imp id λ⟨a,b⟩=>⟨a,Nat.lt_of_lt_of_le b hb.size⟩⟩,hmv.bel hb⟩
theorem Wi(w:World)(F:Ap)(B g gd n me q:Nat)(c:Cm)(ph:Ph)(recs cout:Value)(dn wt:Bool)(tk:Int)(lim r m:Nat)(V V0:Nat→List Value) (h:BZ w F g gd n me q c ph recs cout dn wt 0 V0 false tk lim) (hr:F5 w B r recs) (ho:DN w F cout m V) (hr0:r=0→m=0) (hm:m≤100) (hV:∀u∈flat 51 m V,u.oneCell'=true) (hFB:∀k,B≤k→k<w.heap.size→F k) (hlr:r=0∨lim≤2000) (hdn:dn=true→ph=.com) (hq:q<7) (hme:me<n) (hcc:CU c) (h1:c.c=1) (h2:c.s=1) :Calls prog 53 #[.pointer (some ⟨g,0,none⟩)] w λe w'=>e=.returned (.tuple #[])∧LG F g gd n me q c ph wt m V tk (lim+500*r) w w':=by refine NP w F g gd n me q c ph dn wt tk (lim+500*r) m V ?_ (Xz w F B g gd n me q c ph recs cout dn wt tk lim r m V V0 h hr ho hr0 hm hV hFB hlr) hdn hq hme hcc h1 h2;obtain⟨gfl,gby,mb,gw,gc,gfr,kept,P,sq,v,d,since,waits,out,ans,h⟩:=h;exact h.nd.cell 74
theorem UR(w:World)(F:Ap)(g gd n me q:Nat)(c:Cm)(ph:Ph)(dn wt:Bool)(tk:Int)(lim m:Nat)(V:Nat→List Value) (h:BZ w F g gd n me q c ph (.slice none 0 0) (.slice none 0 0) dn wt m V false tk lim) (hdn:dn=true→ph=.com) (hq:q<7) (hme:me<n) (hcc:CU c) (h1:c.c=1) (h2:c.s=1) :Calls prog 53 #[.pointer (some ⟨g,0,none⟩)] w λe w'=>e=.returned (.tuple #[])∧LG F g gd n me q c ph wt m V tk lim w w':=by refine NP w F g gd n me q c ph dn wt tk lim m V ?_ (Pm w F g gd n me q c ph dn wt tk lim m V h) hdn hq hme hcc h1 h2;obtain⟨gfl,gby,mb,gw,gc,gfr,kept,P,sq,v,d,since,waits,out,ans,h⟩:=h;exact h.nd.cell 74
theorem iI(k:Int)(hk:k=1∨k=2∨k=3∨k=4∨k=5∨k=6∨k=7)(g n me gd gw gc gfr f:Nat)(lq ls be br:Int)(x:Cm)(b:Bal)(st:Int)(y:Cm)(sm:Bool)(ld:Nat→Int)(P:Value)(sq v:Int)(d:Nat→Int)(since tk:Int)(waits out ans:Value)(R1 R2:World→Prop)(w:World)(nd:Holds w g 102 (BF n me gd gw gc gfr P sq v d since tk waits out ans))(hf:f<n) (KL:∀W,Calls prog 72 #[.agg (Aj k f me lq ls be br x b st y sm ld).toArray] W λe w'=>e=.returned (.bool true)∧Below W.heap.size W w') (KT:∀W,Below w.heap.size w W→Calls prog 75 #[.pointer (some ⟨gc,0,none⟩),.agg (Aj k f me lq ls be br x b st y sm ld).toArray] W λe w'=>e=.returned (.bool false)∧R1 w') (KS:∀W,R1 W→Calls prog 53 #[.pointer (some ⟨g,0,none⟩)] W λe w'=>e=.returned (.tuple #[])∧R2 w') :Calls prog 50 #[.pointer (some ⟨g,0,none⟩),.agg (Aj k f me lq ls be br x b st y sm ld).toArray] w λe w'=>e=.returned (.bool true)∧R2 w':=by
 have h9:(k==(9:Int))=false:=by rcases hk with rfl|rfl|rfl|rfl|rfl|rfl|rfl<;>rfl
 have h10:(k==(10:Int))=false:=by rcases hk with rfl|rfl|rfl|rfl|rfl|rfl|rfl<;>rfl
 have h11:(k==(11:Int))=false:=by rcases hk with rfl|rfl|rfl|rfl|rfl|rfl|rfl<;>rfl
 clear hk;have KL:=qh KL;have KT:=qh KT;have KS:=qh KS;have HN:=qh nd;have HB:=qh (Base.start w);have hmm:((me:Int)==(me:Int))=true:=by simp
 have hfn:(f:Int)<(n:Int):=by omega
 clear nd;go_in;go_upto_region 1 with(fail);go_name_world W hW;obtain⟨HX,hbW,hsW⟩:=Ef 47 (Aj k f me lq ls be br x b st y sm ld) hW;clear hW;obtain⟨HN,HB⟩:=Bf hbW HN HB;clear hbW hsW;generalize hB0:w.heap.size=B at HX HB KT ⊢;have HR1:=qh (Ar (cs:=Aj k f me lq ls be br x b st y sm ld) HX.o 0 (by intro j v hv;rw[Nat.zero_add];exact hv));obtain⟨x1,x2⟩:=Ji HX.o 1 2;obtain⟨n0,n1,n74⟩:=VG HN.o 0 1 74;refine wp_region_quiet_below (by kernel_rfl) (by kernel_rfl) ?_;repeat(first
  | (with_reducible refine qR 0 HR1.o ?_;simp only[Act.put,List.setIfInBounds_toArray,List.set_cons_succ,List.set_cons_zero])
  | go_big_quiet_step (first
   | (go_at_call 72;with_reducible exact AL λW _=>KL.o W)))
 refine wpQuiet_nil ?_;intro w3 hw';have hb3:=AV hw';obtain⟨HN,HX,HB⟩:=Ce hb3 HN HX HB;clear hw' hb3 x1 x2 n0 n1 n74 HR1;have x0:=AZ HX.o 0;go_upto_region 4 with(fail);clear x0;have HRX:=qh (λ(w':World) (h:Below w3.drew.heap.size w3.drew w')=>((HX.bel (AP _ w3)).bel h).AX);obtain⟨HN,HX,HB⟩:=Ce (AP _ w3) HN HX HB;refine EC [5] 6 (λhSn=>?_);generalize w3.drew=wd at HN HX HB HRX hSn ⊢;simp only[List.replicate];refine Dl 0 ?_;refine BA 3 [5] (λw hSw=>AZ (HN.bel hSw) 4) ?_;refine IM 4 [5] (some 38) (.agg (Aj k f me lq ls be br x b st y sm ld).toArray) rfl (yieldsIf_load_mid (by rfl) 47 _ rfl B 0 rfl (Aj k f me lq ls be br x b st y sm ld) _ (λw hSw=>HRX.o w hSw) underlying47 rfl (by as_aux_lemma=>kernel_rfl)) hSn ?rg5;simp only[Act.put,zA,zB,zC];refine BC 5 rfl (λK hK=>?_);go_simp;refine AY (KT.o _ (HB.bel hSn).below) ?_;rintro w5 h1;have H1:=qh h1;clear h1;refine BJ hK ?_;clear hK;refine DX ?_;clear hSn HN HX HB HRX KT KL;go_wp2_with fail;refine AY (KS.o _ H1.o) ?_;rintro w6 h2;have H2:=qh h2;clear h2 H1;go_wp2_with fail;go_ret;exact⟨rfl,H2.o⟩
end Go.Proofs.YtimdpiifpibgfaaGreatDoor
