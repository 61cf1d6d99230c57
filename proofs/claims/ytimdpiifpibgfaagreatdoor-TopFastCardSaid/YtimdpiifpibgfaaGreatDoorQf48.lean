/- For every input the law TopFast returns true (a part of the proof). Condition: the listed variables start as the program's text lays them. -/
import Derived.Test.YtimdpiifpibgfaaGreatDoorQf47
set_option linter.unusedVariables false
set_option linter.unusedSimpArgs false
set_option maxRecDepth 20000
set_option maxHeartbeats 16000000
namespace Go.Proofs.YtimdpiifpibgfaaGreatDoor
section
open Go.RowKit Go.Maps
def sizeOf3 (r:Nat):Nat:=if r=0 then 3 else if r=1 then 5 else 7
theorem cof (n:Int) (r:Nat) (hn:-9223372036854775808≤n∧n≤9223372036854775807) (hr:n % 3=(r:Int)) (w:World) (R:Nat→World→Prop)
  (KN:∀ W,Below w.heap.size w W→Calls Tryz.prog 25 #[.int .i64 (sizeOf3 r)] W fun e W'=>∃ gC,e=.returned (.tuple #[.pointer (some ⟨gC,0,none⟩),.int .i64 0])∧R gC W') :
  Calls Tryz.prog 7 #[.int .i64 n] w fun e w'=>∃ gC,e=.returned (.pointer (some ⟨gC,0,none⟩))∧R gC w':=by
 have hr3:r<3:=by omega
 have KW:=qh (fun W=>within_any n 0 2 W hn (by omega) (by omega) (by omega))
 have hb3:(Instr.buildSlice 30 3 #[(0,.int .i64 3),(1,.int .i64 5),(2,.int .i64 7)]).run Tryz.prog w=.ok (.slice (some ⟨w.heap.size,0,none⟩) 3 3) (w.alloc (.cells #[.int .i64 3,.int .i64 5,.int .i64 7] 3)):=by kernel_rfl
 have KN:=qh KN
 have HB:=qh (Base.start w)
 go_enter Tryz.func7,Tryz.ntmps7
 go_upto_region 1 with (fail)
 go_wp2_with fail
 have hbW:Below w.heap.size w (w.alloc (.cells #[.int .i64 3,.int .i64 5,.int .i64 7] 3)):=(Below.refl _ _).alloc (Nat.le_refl _) _
 have HX:=qh (holds_alloc w 3 [.int .i64 3,.int .i64 5,.int .i64 7])
 have HB:=qh (HB.out.bel hbW)
 clear hbW
 generalize hB0:w.heap.size=gx at HX HB KN ⊢
 generalize w.alloc (.cells #[.int .i64 3,.int .i64 5,.int .i64 7] 3)=W1 at HX HB ⊢
 refine (KW.out _).mono ?_
 rintro e w1 ⟨rfl,rfl⟩
 have hr2:0+n % (2-0+1)=(r:Int):=by omega
 rw [hr2]
 have p:=HX.out.cell r
 rw [show ([.int .i64 3,.int .i64 5,.int .i64 7]:List Value)[r]?=some (.int .i64 (sizeOf3 r)) by rcases (show r=0∨r=1∨r=2 by omega) with rfl|rfl|rfl<;>rfl] at p
 have hri:(r:Int)<3:=by omega
 clear hr2 hr hn KW HX
 go_wp2_with fail
 refine (KN.out _ HB.out.below).mono ?_
 rintro e w2 ⟨gC,rfl,h2⟩
 have H2:=qh h2
 clear h2 p HB KN
 go_wp2_with fail
 go_ret
 exact⟨gC,rfl,H2.out⟩
section
variable {P:Program} {ops:Array Oper} {Q:Exit→Act→World→Prop}
theorem wpList_build4 {rest:List Oper} {o:Oper} {a:Act} {w:World} (hw:Region.wanted o (yielded ops a.tmps)=true) (t:TypeId) (i j k l:Nat) (p:Value) (q r s:Tmp) (ho:o.op=.build t #[(i,.const p),(j,.tmp q),(k,.tmp r),(l,.tmp s)]) (u v x:Value) (hu:a.eval (.tmp q)=u) (hv:a.eval (.tmp r)=v) (hx:a.eval (.tmp s)=x)
  (z:Value) (hr:∀ w,(Instr.build t #[(i,p),(j,u),(k,v),(l,x)]).run P w=.ok z w) (h:wpList P ops Q rest (a.put o.dst z) w):wpList P ops Q (o :: rest) a w:=
 wpList_step fun K hK=>by
  rw [if_pos hw]
  unfold Oper.wp execOp
  simp only [ho,List.map_toArray,List.map_cons,List.map_nil,hu,hv,hx]
  rw [show a.eval (.const p)=p from rfl,Sem.run_bind,hr]
  exact hK _ _ h
end
theorem stepC_build (tto:Nat) (x:Cm) (w:World):(Instr.build 32 #[(0,.int .i64 1),(3,.int .i64 1),(1,.int .i64 tto),(4,.agg x.cells.toArray)]).run Tryz.prog w=.ok (.agg (stepC tto x).toArray) w:=by kernel_rfl
theorem stepC_one (tto:Nat) (x:Cm):(stepC tto x).toArray.all (·.oneCell')=true:=by simp [stepC,Value.oneCell']
theorem cstep (tto:Nat) (x:Cm) (w:World) :
  Calls Tryz.prog 12 #[.int .i64 1,.int .i64 tto,.agg x.cells.toArray] w fun e w'=>e=.returned (.agg (stepC tto x).toArray)∧Below w.heap.size w w':=by
 go_enter Tryz.func12,Tryz.ntmps12
 go_upto_region 1 with (fail)
 go_name_world W hW
 have hW:allocs w [.cells (x.cells:List Value).toArray 23,.cells (stepL 0 0:List Value).toArray 32]=W:=hW
 have HX:=qh (show Holds W (w.heap.size) 23 (x.cells) from holds_allocs _ hW 0 rfl)
 have HS:=qh (show Holds W (w.heap.size+1) 32 (stepL 0 0) from holds_allocs _ hW 1 rfl)
 have hbW:=below_allocs _ hW
 have hsW:=size_allocs _ hW
 simp only [List.length_cons,List.length_nil] at hsW
 clear hW
 have HB:=qh (Base.start w)
 have HB:=qh (HB.out.bel hbW)
 clear hbW hsW
 have HRG:=qh HX.out.range0
 generalize hx0:w.heap.size+1=gs at HS ⊢
 have hgs:w.heap.size≤gs:=by omega
 generalize hw0:w.heap.size=gx at HX HRG HB hgs hx0 ⊢
 go_wp2_with (first
  | (refine wpList_load_mid rfl 23 _ rfl gx 0 rfl (x.cells) _ HRG.out Tryz.underlying23 rfl (by kernel_rfl) ?_)
  | (with_reducible show wpList _ _ _ (_ :: _) _ _;refine wpList_build4 (by kernel_rfl) 32 0 3 1 4 _ _ _ _ rfl (.int .i64 1) (.int .i64 tto) (.agg x.cells.toArray) rfl rfl rfl (.agg (stepC tto x).toArray) (stepC_build tto x) ?_)
  | (refine wpList_store_whole rfl 32 (.tmp 6) (.tmp 10) gs (stepL 0 0) (stepC tto x) rfl rfl rfl rfl HS.out (by kernel_rfl) rfl (stepC_one _ _) ?_;intro w3 hh3 ht3))
 have HB:=qh (HB.out.touch ht3 (by omega))
 have HR:=qh hh3.range0
 clear hh3 ht3 HRG
 refine bodyPost_ret (v:=.agg (stepC tto x).toArray) (results_cell Tryz.results12 _ _ gs _ _ rfl HR.out Tryz.underlying32 rfl (by kernel_rfl)) rfl ?_
 exact⟨rfl,hw0▸HB.out.below⟩
end
section
open Go.RowKit Go.Maps
theorem nstate (g n me gd gw gc gfr:Nat) (P:Value) (ob:Option Nat) (c:Cm) (sq v:Int) (d:Nat→Int) (since tk:Int) (waits out ans:Value) (w:World)
  (h:Holds w g 102 (nodeL n me gd gw gc gfr P sq v d since tk waits out ans)) (hp:Pairs w P ob c) (h2:c.k=2) :
  Calls Tryz.prog 19 #[.pointer (some ⟨g,0,none⟩)] w fun e w'=>∃ p m,e=.returned (.agg (stateL (.slice p 1 m) sq v).toArray)∧Below w.heap.size w w':=by
 have KP:=qh (fun W (h:Pairs W P ob c)=>play_none P ob c sq v W h h2)
 have HN:=qh h;have HP:=qh hp
 clear h hp h2
 go_enter Tryz.func19,Tryz.ntmps19
 go_upto_region 1 with (fail)
 go_name_world W hW
 have hW:allocs w [.cells (stateL (.slice none 0 0) 0 0:List Value).toArray 66]=W:=hW
 have HZ:=qh (show Holds W (w.heap.size) 66 (stateL (.slice none 0 0) 0 0) from holds_allocs _ hW 0 rfl)
 have hbW:=below_allocs _ hW
 have hsW:=size_allocs _ hW
 simp only [List.length_cons,List.length_nil] at hsW
 clear hW
 have HB:=qh (Base.start w)
 have HB:=qh (HB.out.bel hbW)
 have HN:=qh (HN.out.bel hbW)
 have HP:=qh (HP.out.bel hbW)
 clear hbW hsW
 generalize hB0:w.heap.size=gz at HZ HB ⊢
 have HRG:=qh (HN.out.rangeO 6 (cs:=stateL P sq v) (nodeL_own n me gd gw gc gfr P sq v d since tk waits out ans))
 go_wp2_with (first
  | (refine wpList_load_mid rfl 66 _ rfl g 6 rfl (stateL P sq v) _ HRG.out Tryz.underlying66 rfl (by kernel_rfl) ?_))
 refine (KP.out _ HP.out).mono ?_
 rintro e w1 ⟨p,m,rfl,hb⟩
 have HB:=qh (HB.out.bel hb)
 have HZ:=qh (HZ.out.bel hb)
 clear hb HRG HN HP KP
 go_wp2_with (first
  | (refine wpList_store_whole rfl 66 (.tmp 3) (.tmp 11) w1.heap.size (stateL (.slice none 0 0) 0 0) (stateL (.slice p 1 m) sq v) rfl rfl rfl rfl (holds_alloc w1 _ (stateL (.slice none 0 0) 0 0)) (by kernel_rfl) rfl (state_one _ _ _ _ _) ?_;intro w2 hh2 ht2;have HY:=qh hh2.range0;have hb2:Below w1.heap.size w1 w2:=Below.trans ((Below.refl _ _).alloc (Nat.le_refl _) _) (ht2.below (Nat.le_refl _) (by simp)))
  | (refine wpList_load_mid rfl 66 _ rfl w1.heap.size 0 rfl (stateL (.slice p 1 m) sq v) _ HY.out Tryz.underlying66 rfl (by kernel_rfl) ?_)
  | (refine wpList_store_whole rfl 66 (.tmp 2) (.tmp 13) gz (stateL (.slice none 0 0) 0 0) (stateL (.slice p 1 m) sq v) rfl rfl rfl rfl (HZ.out.bel hb2) (by kernel_rfl) rfl (state_one _ _ _ _ _) ?_;intro w3 hh3 ht3))
 have HB:=qh ((HB.out.bel hb2).touch ht3 (Nat.le_refl _))
 have HR:=qh hh3.range0
 clear hh3 ht3 HY hb2
 refine bodyPost_ret (v:=.agg (stateL (.slice p 1 m) sq v).toArray) (results_cell Tryz.results19 _ _ gz _ _ rfl HR.out Tryz.underlying66 rfl (by kernel_rfl)) rfl ?_
 exact⟨_,_,rfl,hB0▸HB.out.below⟩
theorem node_state (w:World) (F:Foot) (g n me q:Nat) (c:Cm) (out:List Lt) (an:Bool) (tk:Nat) (h:NodeC w F g n me q c .com out an tk) (h2:c.k=2) :
  Calls Tryz.prog 19 #[.pointer (some ⟨g,0,none⟩)] w fun e w'=>∃ p m sq v,e=.returned (.agg (stateL (.slice p 1 m) sq v).toArray)∧Below w.heap.size w w':=by
 obtain⟨t,ht,gd,gfl,gby,mb,gw,gc,gfr,kept,P,sq,v,d,since,waits,ou,ans,h⟩:=h
 obtain⟨⟨ob,hp,_⟩,_⟩:=h.st
 refine (nstate g n me gd gw gc gfr P ob c sq v d since t waits ou ans w h.nd hp h2).mono ?_
 rintro e w' ⟨p,m,rfl,hb⟩
 exact⟨p,m,sq,v,rfl,hb⟩
end
section
open Go.RowKit Go.Maps
theorem clet_none (gC n:Nat) (dv nv clv cav hv:Value) (p:_) (cap:_) (w:World)
  (h:Holds w gC 85 (clusL n dv nv clv cav (.slice p 0 cap) hv)) :
  Calls Tryz.prog 27 #[.pointer (some ⟨gC,0,none⟩),.agg (stepL 2 0).toArray] w fun e w'=>e=.returned (.bool false)∧Below w.heap.size w w':=by
 have HC:=qh h
 have HB:=qh (Base.start w)
 clear h
 go_enter Tryz.func27,Tryz.ntmps27
 go_upto_region 1 with (fail)
 go_name_world W hW
 have hW:allocs w [.cells (stepL 2 0:List Value).toArray 32]=W:=hW
 have HS:=qh (show Holds W (w.heap.size) 32 (stepL 2 0) from holds_allocs _ hW 0 rfl)
 have hbW:=below_allocs _ hW
 have hsW:=size_allocs _ hW
 simp only [List.length_cons,List.length_nil] at hsW
 clear hW
 have HC:=qh (HC.out.bel hbW)
 have HB:=qh (HB.out.bel hbW)
 clear hbW
 generalize hB0:w.heap.size=gS at HS HB ⊢
 clear hsW
 have s1:=HS.out.cell 1
 simp only [stepL,yA,yB] at s1
 have c5:=HC.out.cell 5
 simp only [clusL,yA,yB] at c5
 go_quiet (fail)
 have hb1:Below W.heap.size W (W.drewN nq):=t_drewN _ _ _
 have HC:=qh (HC.out.bel hb1)
 have HB:=qh (HB.out.bel hb1)
 have HS:=qh (HS.out.bel hb1)
 clear hb1 s1 c5
 generalize W.drewN nq=w1 at HC HB HS ⊢
 go_wp2_with fail
 go_ret
 exact⟨rfl,hB0▸HB.out.below⟩
theorem cround (gC n m:Nat) (R G:Nat→World→Prop) (w:World)
  (KN:Calls Tryz.prog 9 #[.pointer (some ⟨gC,0,none⟩)] w fun e W'=>e=.returned (.int .i64 n)∧R 0 W')
  (KT:∀ i,i<n→∀ W,R i W→Calls Tryz.prog 11 #[.pointer (some ⟨gC,0,none⟩),.agg (stepL 5 (i:Nat)).toArray] W fun e W'=>e=.returned (.bool true)∧R (i+1) W')
  (KG:∀ i,i<m→∀ W,G i W→Calls Tryz.prog 11 #[.pointer (some ⟨gC,0,none⟩),.agg (stepL 2 0).toArray] W fun e W'=>e=.returned (.bool true)∧G (i+1) W')
  (KE:∀ W,G m W→Calls Tryz.prog 11 #[.pointer (some ⟨gC,0,none⟩),.agg (stepL 2 0).toArray] W fun e W'=>e=.returned (.bool false)∧G m W')
  (KM:∀ j:Nat,j<8→∀ W,G m W→Calls Tryz.prog 11 #[.pointer (some ⟨gC,0,none⟩),.agg (stepL 6 ((j:Int)+1)).toArray] W fun e W'=>e=.returned (.bool true)∧G m W')
  (hRG:∀ W,R n W→G 0 W) (hm:m<20000) (hn:n≤7) :
  Calls Tryz.prog 16 #[.pointer (some ⟨gC,0,none⟩)] w fun e w'=>e=.returned (.tuple #[])∧G m w':=by
 have KN:=qh KN;have KT:=qh KT;have KG:=qh KG;have KE:=qh KE;have KM:=qh KM;have hRG:=qh hRG
 go_enter Tryz.func16,Tryz.ntmps16
 go_wp2_with fail
 refine (KN.out).mono ?_
 rintro e w1 ⟨rfl,h1⟩
 have H1:=qh h1
 clear h1 KN
 go_wp2_with fail
 go_loopw [6,2] (fun vi _ wr=>∃ j:Nat,vi=.int .i64 (j:Int)∧j≤n∧R j wr) (fun vi _ _=>n - (intOf vi).toNat)
 case atStart=>exact⟨0,rfl,Nat.zero_le _,H1.out⟩
 case round=>
  obtain⟨j,rfl,hj,hJ⟩:=hrel
  clear H1
  have HJ:=qh hJ
  clear hJ
  by_cases hjm:j=n
  ·subst hjm
   have hlt:¬ ((j:Int)<(j:Int)):=by omega
   have HG:=qh (hRG.out _ HJ.out)
   clear HJ KT hRG
   go_wp2_with fail
   go_loopw [14] (fun vi wr2=>∃ k:Nat,vi=.int .i64 (k:Int)∧k≤m∧G k wr2) (fun vi _=>m - (intOf vi).toNat)
   case atStart=>exact⟨0,rfl,Nat.zero_le _,HG.out⟩
   case round=>
    obtain⟨k,rfl,hk,hK⟩:=hrel
    clear HG
    have hk2:(k:Int)<20000:=by omega
    by_cases hkm:k=m
    ·subst hkm
     have HG:=qh hK
     clear hK KG
     go_wp2_with fail
     refine (KE.out _ HG.out).mono ?_
     rintro e w3 ⟨rfl,h3⟩
     have HG:=qh h3
     clear h3
     go_wp2_with fail
     go_loopw [3] (fun vi wr3=>∃ i:Nat,vi=.int .i64 ((i:Int)+1)∧i≤8∧G k wr3) (fun vi _=>9 - (intOf vi).toNat)
     case atStart=>exact⟨0,rfl,Nat.zero_le _,HG.out⟩
     case round=>
      obtain⟨i,rfl,hi,hI⟩:=hrel
      have HI:=qh hI
      clear hI HG
      by_cases hi8:i=8
      ·subst hi8
       have h9:¬ (((8:Nat):Int)+1≤8):=by decide
       go_wp2_with fail
       exact bodyPost_end (v:=.tuple #[]) (by simp [results,Tryz.results16,go_sem]) rfl ⟨rfl,HI.out⟩
      ·have hi9:(i:Int)+1≤8:=by omega
       have hi7:i<8:=by omega
       go_wp2_with (first
        | (with_reducible show wpList _ _ _ (_ :: _) _ _;refine wpList_build2 (by kernel_rfl) 32 0 1 _ _ rfl (.int .i64 6) (.int .i64 ((i:Int)+1)) rfl rfl (.agg (stepL 6 ((i:Int)+1)).toArray) (fun w=>by kernel_rfl) ?_))
       refine (KM.out i hi7 _ HI.out).mono ?_
       rintro e w4 ⟨rfl,h4⟩
       have HI:=qh h4
       clear h4
       go_wp2_with fail
       go_roundw
       case rel=>exact⟨i+1,by simp,by omega,HI.out⟩
       case measure=>simp [intOf];omega
    ·have hkl:k<m:=by omega
     have HG:=qh hK
     clear hK
     go_wp2_with fail
     refine (KG.out k hkl _ HG.out).mono ?_
     rintro e w3 ⟨rfl,h3⟩
     have HG:=qh h3
     clear h3
     go_wp2_with fail
     go_roundw
     case rel=>exact⟨k+1,by simp,by omega,HG.out⟩
     case measure=>simp [intOf];omega
  ·have hji:(j:Int)<(n:Int):=by omega
   have hjn:j<n:=by omega
   go_wp2_with (first
    | (with_reducible show wpList _ _ _ (_ :: _) _ _;refine wpList_build2 (by kernel_rfl) 32 0 1 _ _ rfl (.int .i64 5) (.int .i64 (j:Int)) rfl rfl (.agg (stepL 5 (j:Nat)).toArray) (fun w=>by kernel_rfl) ?_))
   refine (KT.out j hjn _ HJ.out).mono ?_
   rintro e w2 ⟨rfl,h2⟩
   have HJ:=qh h2
   clear h2
   go_wp2_with fail
   go_roundw
   case rel=>exact⟨j+1,by simp,by omega,HJ.out⟩
   case measure=>simp [intOf];omega
end
section
open Go.RowKit Go.Maps
def cmdA:Cm:=⟨2,0,0,⟨#[97]⟩,⟨#[]⟩,⟨#[]⟩,⟨#[98]⟩⟩
theorem state_field0 (P:Value) (sq v:Int) (w:World):(Instr.field 66 (.agg (stateL P sq v).toArray) 0).run Tryz.prog w=.ok P w:=by kernel_rfl
theorem cawake (R0 R1 R2:Nat→World→Prop) (Q:World→Prop) (w:World)
  (KO:Calls Tryz.prog 7 #[.int .i64 0] w fun e W'=>∃ gC,e=.returned (.pointer (some ⟨gC,0,none⟩))∧R0 gC W')
  (hR:∀ gC W W',R0 gC W→Below W.heap.size W W'→R0 gC W')
  (KD:∀ gC W,R0 gC W→Calls Tryz.prog 11 #[.pointer (some ⟨gC,0,none⟩),.agg (stepC (0:Nat) cmdA).toArray] W fun e W'=>e=.returned (.bool true)∧R1 gC W')
  (KR:∀ gC W,R1 gC W→Calls Tryz.prog 16 #[.pointer (some ⟨gC,0,none⟩)] W fun e W'=>e=.returned (.tuple #[])∧R2 gC W')
  (KH:∀ gC W,R2 gC W→Calls Tryz.prog 14 #[.pointer (some ⟨gC,0,none⟩)] W fun e W'=>∃ g c2,e=.returned (.slice (some ⟨g,0,none⟩) 2 c2)∧R2 gC W')
  (KN:∀ gC W,R2 gC W→Calls Tryz.prog 17 #[.pointer (some ⟨gC,0,none⟩),.int .i64 2] W fun e W'=>∃ g,e=.returned (.pointer (some ⟨g,0,none⟩))∧R2 gC W')
  (KS:∀ gC W,R2 gC W→Calls Tryz.prog 17 #[.pointer (some ⟨gC,0,none⟩),.int .i64 2] W fun e W'=>∃ g,e=.returned (.pointer (some ⟨g,0,none⟩))∧Calls Tryz.prog 19 #[.pointer (some ⟨g,0,none⟩)] W' fun e W''=>∃ p m sq v,e=.returned (.agg (stateL (.slice p 1 m) sq v).toArray)∧Q W'') :
  Calls Tryz.prog 8 #[] w fun e w'=>e=.returned (.bool true)∧Q w':=by
 have KO:=qh KO;have KD:=qh KD;have KR:=qh KR;have KH:=qh KH;have KN:=qh KN;have KS:=qh KS;have hR:=qh hR
 go_enter Tryz.func8,Tryz.ntmps8
 go_wp2_with fail
 refine (KO.out).mono ?_
 rintro e w1 ⟨gC,rfl,h1⟩
 have H1:=qh h1
 clear h1 KO
 go_wp2_with fail
 refine (cstep 0 cmdA w1).mono ?_
 rintro e w2 ⟨rfl,hb⟩
 have H1:=qh (hR.out _ _ _ H1.out hb)
 clear hb hR
 go_wp2_with fail
 refine (KD.out _ _ H1.out).mono ?_
 rintro e w3 ⟨rfl,h2⟩
 have H2:=qh h2
 clear h2 H1 KD
 go_wp2_with fail
 refine (KR.out _ _ H2.out).mono ?_
 rintro e w4 ⟨rfl,h3⟩
 have H3:=qh h3
 clear h3 H2 KR
 go_wp2_with fail
 refine (KH.out _ _ H3.out).mono ?_
 rintro e w5 ⟨gh,c2,rfl,h4⟩
 have H4:=qh h4
 clear h4 H3 KH
 go_wp2_with fail
 refine (KN.out _ _ H4.out).mono ?_
 rintro e w6 ⟨g2,rfl,h5⟩
 have H5:=qh h5
 clear h5 H4 KN
 go_wp2_with fail
 refine (KS.out _ _ H5.out).mono ?_
 rintro e w7 ⟨g3,rfl,h6⟩
 have H6:=qh h6
 clear h6 H5 KS
 go_wp2_with fail
 refine (H6.out).mono ?_
 rintro e w8 ⟨p,m,sq,v,rfl,hq⟩
 have HQ:=qh hq
 clear H6 hq
 go_wp2_with fail
 rw [state_field0]
 go_wp2_with fail
 go_ret
 exact⟨rfl,HQ.out⟩
end
section
open Go.RowKit Go.Maps
theorem nodes_ok (w:World) (own:Nat→Nat) (gC n q:Nat) (c:Cm) (s:Cs) (h:ClSt w own gC n q c s) :
  Calls Tryz.prog 9 #[.pointer (some ⟨gC,0,none⟩)] w fun e w'=>e=.returned (.int .i64 n)∧Below w.heap.size w w':=by
 obtain⟨dv,gN,cN,gCl,cCl,gCa,lv,hv,gs,gcl,hB,hN,hp⟩:=h
 exact cnodes gC n dv _ _ _ lv hv w hB.cl
theorem nodeAt_ok (w:World) (own:Nat→Nat) (gC n q i:Nat) (c:Cm) (s:Cs) (h:ClSt w own gC n q c s) (hi:i<n) :
  Calls Tryz.prog 17 #[.pointer (some ⟨gC,0,none⟩),.int .i64 i] w fun e w'=>∃ g,e=.returned (.pointer (some ⟨g,0,none⟩))∧NodeC w' (fun k=>own k=2+i) g n i q c (s.phs.getD i .fresh) [] false s.tk∧Below w.heap.size w w':=by
 obtain⟨dv,gN,cN,gCl,cCl,gCa,lv,hv,gs,gcl,hB,hN,hp⟩:=h
 obtain⟨rN,hnp⟩:=hB.np
 refine (cnode gC n gN cN i gs rN dv _ _ lv hv w hB.cl hnp hi).mono ?_
 rintro e w' ⟨rfl,hb⟩
 exact⟨_,rfl,(hN i hi).mv (G:=fun _=>False) (.of_below hb) (fun _ h=>h.elim),hb⟩
theorem waits_ok (w:World) (own:Nat→Nat) (gC n q:Nat) (c:Cm) (s:Cs) (h:ClSt w own gC n q c s) :
  Calls Tryz.prog 15 #[.pointer (some ⟨gC,0,none⟩),.int .i64 1] w fun e w'=>e=.returned (.bool s.wait)∧Below w.heap.size w w':=by
 obtain⟨dv,gN,cN,gCl,cCl,gCa,lv,hv,gs,gcl,hB,hN,hp⟩:=h
 obtain⟨rC,hcp⟩:=hB.cp
 rcases hB.c0 with⟨_,h2,h3⟩|⟨_,tg,tk,h3⟩
 ·rw [h2]
  exact cwaits gC n gCl cCl gcl rC dv _ _ lv hv 1 0 Cm.zero false 0 0 w hB.cl hcp h3
 ·exact cwaits gC n gCl cCl gcl rC dv _ _ lv hv 1 1 c s.wait tg tk w hB.cl hcp h3
theorem hist_ok (w:World) (own:Nat→Nat) (gC n q:Nat) (c:Cm) (s:Cs) (h:ClSt w own gC n q c s) (hh:s.hist=2) :
  Calls Tryz.prog 14 #[.pointer (some ⟨gC,0,none⟩)] w fun e w'=>∃ g c2 rest,e=.returned (.slice (some ⟨g,0,none⟩) 2 c2)∧2≤c2∧Holds w' g 55 (histL c++rest)∧Below w.heap.size w w':=by
 obtain⟨dv,gN,cN,gCl,cCl,gCa,lv,hv,gs,gcl,hB,hN,hp⟩:=h
 obtain⟨_,ob,h1,_⟩:=hB.his
 rw [hh,flat_hist] at h1
 refine (chistory gC n c dv _ _ _ lv hv ob w hB.cl h1).mono ?_
 rintro e w' ⟨g,c2,rest,rfl,h2,h3,_,h4⟩
 exact⟨g,c2,rest,rfl,h2,h3,h4⟩
theorem give_no (w:World) (own:Nat→Nat) (gC n q:Nat) (c:Cm) (s:Cs) (h:ClSt w own gC n q c s) (hl:s.lets=[]) :
  Calls Tryz.prog 11 #[.pointer (some ⟨gC,0,none⟩),.agg (stepL 2 0).toArray] w fun e w'=>e=.returned (.bool false)∧Below w.heap.size w w':=by
 obtain⟨dv,gN,cN,gCl,cCl,gCa,lv,hv,gs,gcl,hB,hN,hp⟩:=h
 obtain⟨ob,h1,_⟩:=hB.lts
 rw [hl] at h1
 obtain⟨p,cap,rfl⟩:∃ p cap,lv=.slice p 0 cap:=by
  rcases h1.cases with⟨r,_⟩|⟨_,_,_,r,_⟩
  ·exact⟨_,_,r⟩
  ·exact⟨_,_,r⟩
 refine cdo_give gC false (fun w'=>Below w.heap.size w w') w fun W hb=>?_
 refine (clet_none gC n dv _ _ _ hv p cap W (hB.cl.bel hb)).mono ?_
 rintro e w' ⟨rfl,hb2⟩
 exact⟨rfl,hb.trans (hb2.mono hb.size)⟩
def OwnB (B:Nat) (w0:World) (own:Nat→Nat) (w:World):Prop:=Base B w0 w∧∀ k,own k≠0→B≤k
theorem OwnB.step {B:Nat} {w0 w w':World} {own own':Nat→Nat} (h:OwnB B w0 own w) (hs:Stepped w own w' own'):OwnB B w0 own' w':=by
 refine⟨h.1.mv hs.2 h.2,fun k hk=>?_⟩
 by_cases hl:k<w.heap.size
 ·exact h.2 k (by rwa [hs.1 k hl] at hk)
 ·have:=h.1.le
  omega
theorem OwnB.bel {B:Nat} {w0 w w':World} {own:Nat→Nat} (h:OwnB B w0 own w) (hb:Below w.heap.size w w'):OwnB B w0 own w':=⟨h.1.bel hb,h.2⟩
def tickN:Nat→Option Cs
 | 0=>some (callS 3 0)
 | k+1=>(tickN k).bind (tickS k)
def givM (k:Nat):Option Cs:=(tickN 3).bind (giveN k)
theorem tickN_ok:∀ k,k<3→∃ s s',tickN k=some s∧tickN (k+1)=some s'∧tickS k s=some s'∧s.lets.length≤1000
 | 0,_=>⟨_,_,rfl,rfl,rfl,by decide⟩
 | 1,_=>⟨_,_,rfl,rfl,rfl,by decide⟩
 | 2,_=>⟨_,_,rfl,rfl,rfl,by decide⟩
theorem givM_ok:∀ k,k<6→∃ s s',givM k=some s∧givM (k+1)=some s'∧giveS 3 0 s=some s'∧s.lets.length≤1000
 | 0,_=>⟨_,_,rfl,rfl,rfl,by decide⟩
 | 1,_=>⟨_,_,rfl,rfl,rfl,by decide⟩
 | 2,_=>⟨_,_,rfl,rfl,rfl,by decide⟩
 | 3,_=>⟨_,_,rfl,rfl,rfl,by decide⟩
 | 4,_=>⟨_,_,rfl,rfl,rfl,by decide⟩
 | 5,_=>⟨_,_,rfl,rfl,rfl,by decide⟩
theorem givM_end:∃ s,givM 6=some s∧s.lets=[]∧s.hist=2∧s.wait=false∧s.phs=[.com,.com,.com]:=⟨_,rfl,by decide⟩
theorem round_ok (w:World) (own:Nat→Nat) (gC:Nat) (c:Cm) (h:ClSt w own gC 3 0 c (callS 3 0)) (hc:CmOk c) (h1:c.c=1) (h2:c.s=1) (B:Nat) (w0:World) (hO:OwnB B w0 own w) :
  Calls Tryz.prog 16 #[.pointer (some ⟨gC,0,none⟩)] w fun e w'=>e=.returned (.tuple #[])∧∃ s own',givM 6=some s∧ClSt w' own' gC 3 0 c s∧OwnB B w0 own' w':=by
 obtain⟨sE,e1,e2,e3,e4,e5⟩:=givM_end
 refine cround gC 3 6 (fun i w'=>∃ s own',tickN i=some s∧ClSt w' own' gC 3 0 c s∧OwnB B w0 own' w') (fun i w'=>∃ s own',givM i=some s∧ClSt w' own' gC 3 0 c s∧OwnB B w0 own' w') w ?_ ?_ ?_ ?_ ?_ ?_ (by decide) (by decide)
 ·refine (nodes_ok w own gC 3 0 c _ h).mono ?_
  rintro e w' ⟨rfl,hb⟩
  exact⟨rfl,_,own,rfl,ClG.bel h hb,hO.bel hb⟩
 ·rintro i hi W ⟨s,own',hs,hW,hO⟩
  obtain⟨s0,s',h3,h4,h5,h6⟩:=tickN_ok i hi
  obtain rfl:s0=s:=by rw [hs] at h3;injection h3 with h3;exact h3.symm
  refine (tick_ok W own' gC 3 0 i c s0 s' hW h5 hi h6 (by decide) (by decide) (by decide) hc h1 h2).mono ?_
  rintro e w' ⟨rfl,own2,h7,h8⟩
  exact⟨rfl,s',own2,h4,h7,hO.step h8⟩
 ·rintro i hi W ⟨s,own',hs,hW,hO⟩
  obtain⟨s0,s',h3,h4,h5,h6⟩:=givM_ok i hi
  obtain rfl:s0=s:=by rw [hs] at h3;injection h3 with h3;exact h3.symm
  refine (do_give W own' gC 3 0 c s0 s' hW h5 h6 (by decide) (by decide) (by decide) hc h1 h2).mono ?_
  rintro e w' ⟨rfl,own2,h7,h8⟩
  exact⟨rfl,s',own2,h4,h7,hO.step h8⟩
 ·rintro W ⟨s,own',hs,hW,hO⟩
  obtain rfl:sE=s:=by rw [hs] at e1;injection e1 with e1;exact e1.symm
  refine (give_no W own' gC 3 0 c sE hW e2).mono ?_
  rintro e w' ⟨rfl,hb⟩
  exact⟨rfl,sE,own',hs,ClG.bel hW hb,hO.bel hb⟩
 ·rintro j hj W ⟨s,own',hs,hW,hO⟩
  obtain rfl:sE=s:=by rw [hs] at e1;injection e1 with e1;exact e1.symm
  refine (do_time W own' gC 3 0 j c sE hW e4 hj).mono ?_
  rintro e w' ⟨rfl,hb⟩
  exact⟨rfl,sE,own',hs,ClG.bel hW hb,hO.bel hb⟩
 ·rintro W ⟨s,own',hs,hW,hO⟩
  exact⟨s,own',hs,hW,hO⟩
theorem cmdA_ok:rightA cmdA.k 1 1 cmdA.a cmdA.b cmdA.o cmdA.v=true:=by kernel_rfl
theorem of_ok (n:Int) (r:Nat) (c:Cm) (hn:-9223372036854775808≤n∧n≤9223372036854775807) (hr:n % 3=(r:Int)) (w:World) (hc:CmOk c) (h1:c.c=1) (h2:c.s=1) :
  Calls Tryz.prog 7 #[.int .i64 n] w fun e w'=>∃ gC,e=.returned (.pointer (some ⟨gC,0,none⟩))∧∃ own,ClSt w' own gC (sizeOf3 r) 0 c (startS (sizeOf3 r))∧(∀ k,own k≠0→w.heap.size≤k)∧Below w.heap.size w w':=by
 have hr3:r<3:=by omega
 refine cof n r hn hr w (fun gC w'=>∃ own,ClSt w' own gC (sizeOf3 r) 0 c (startS (sizeOf3 r))∧(∀ k,own k≠0→w.heap.size≤k)∧Below w.heap.size w w') fun W hb=>?_
 have hn3:sizeOf3 r=3∨sizeOf3 r=5∨sizeOf3 r=7:=by rcases (show r=0∨r=1∨r=2 by omega) with rfl|rfl|rfl<;>simp [sizeOf3]
 refine (cnew1 (sizeOf3 r) c W hn3 hc h1 h2).mono ?_
 rintro e w' ⟨gC,rfl,own,h3,h4,h5⟩
 exact⟨gC,rfl,own,h3,fun k hk=>Nat.le_trans hb.size (h4 k hk),hb.trans (h5.mono hb.size)⟩
theorem awake_ok2 (w:World):Calls Tryz.prog 8 #[] w fun e w'=>e=.returned (.bool true)∧Below w.heap.size w w':=by
 have hc:CmOk (theCall cmdA):=cmOk_of (theCall cmdA) cmdA_ok (by decide)
 refine cawake (fun gC w'=>∃ own,ClSt w' own gC 3 0 (theCall cmdA) (startS 3)∧OwnB w.heap.size w own w') (fun gC w'=>∃ own,ClSt w' own gC 3 0 (theCall cmdA) (callS 3 0)∧OwnB w.heap.size w own w') (fun gC w'=>∃ s own,givM 6=some s∧ClSt w' own gC 3 0 (theCall cmdA) s∧OwnB w.heap.size w own w') (fun w'=>Below w.heap.size w w') w ?_ ?_ ?_ ?_ ?_ ?_ ?_
 ·refine (of_ok 0 0 (theCall cmdA) (by decide) (by decide) w hc rfl rfl).mono ?_
  rintro e w' ⟨gC,rfl,own,h1,h2,h3⟩
  exact⟨gC,rfl,own,h1,(Base.start w).bel h3,h2⟩
 ·rintro gC W W' ⟨own,h,hO⟩ hb
  exact⟨own,ClG.bel h hb,hO.bel hb⟩
 ·rintro gC W ⟨own,h,hO⟩
  refine (call_ok W own gC 3 0 0 cmdA _ h (by decide) (by decide) (by decide)).mono ?_
  rintro e w' ⟨b,rfl,⟨rfl,_,own',h2,h3⟩|⟨rfl,_,h3⟩⟩
  ·exact⟨rfl,own',h2,hO.step h3⟩
  ·rcases h3 with h3|h3
   ·rw [cmdA_ok] at h3;cases h3
   ·exact absurd h3 (by decide)
 ·rintro gC W ⟨own,h,hO⟩
  exact round_ok W own gC _ h hc rfl rfl _ _ hO
 ·rintro gC W ⟨s,own,hs,h,hO⟩
  obtain⟨sE,e1,e2,e3,e4,e5⟩:=givM_end
  obtain rfl:sE=s:=by rw [hs] at e1;injection e1 with e1;exact e1.symm
  refine (hist_ok W own gC 3 0 _ sE h e3).mono ?_
  rintro e w' ⟨g,c2,rest,rfl,_,_,hb⟩
  exact⟨g,c2,rfl,sE,own,hs,ClG.bel h hb,hO.bel hb⟩
 ·rintro gC W ⟨s,own,hs,h,hO⟩
  refine (nodeAt_ok W own gC 3 0 2 _ s h (by decide)).mono ?_
  rintro e w' ⟨g,rfl,_,hb⟩
  exact⟨g,rfl,s,own,hs,ClG.bel h hb,hO.bel hb⟩
 ·rintro gC W ⟨s,own,hs,h,hO⟩
  obtain⟨sE,e1,e2,e3,e4,e5⟩:=givM_end
  obtain rfl:sE=s:=by rw [hs] at e1;injection e1 with e1;exact e1.symm
  refine (nodeAt_ok W own gC 3 0 2 _ sE h (by decide)).mono ?_
  rintro e w' ⟨g,rfl,h1,hb⟩
  rw [e5] at h1
  have hO:=hO.bel hb
  refine⟨g,rfl,(node_state w' _ g 3 2 0 _ [] false _ h1 rfl).mono ?_⟩
  rintro e w2 ⟨p,m,sq,v,rfl,hb2⟩
  exact⟨p,m,sq,v,rfl,(hO.1.bel hb2).below⟩
end
section
open Go.RowKit Go.Maps
theorem ctopfast (n tto lost:Int) (x:Cm) (nn me d out:Nat) (m:Nat→Nat) (f t:Nat→Nat→Nat) (w:World) (A:Nat→World→Prop) (S:Nat→Nat→World→Prop) (T:Nat→Nat→Nat→Nat→World→Prop)
  (hnn:3≤nn∧nn≤7) (hto:-9223372036854775808≤tto∧tto≤9223372036854775807) (hlo:-9223372036854775808≤lost∧lost≤9223372036854775807)
  (hme:tto % (nn:Int)=(me:Int)) (hd:1+lost % ((nn:Int) - 1)=(d:Int)) (hout:(me+d) % nn=out) (hm:∀ p,p<2→m p≤1000)
  (KO:∀ W,Base w.heap.size w W→Calls Tryz.prog 7 #[.int .i64 n] W fun e W'=>∃ gC,e=.returned (.pointer (some ⟨gC,0,none⟩))∧A gC W'∧Below W.heap.size W W')
  (KA:∀ W,Calls Tryz.prog 8 #[] W fun e w'=>e=.returned (.bool true)∧Below W.heap.size W w')
  (hAB:∀ gC W,A gC W→Base w.heap.size w W)
  (hA:∀ gC W W',A gC W→Below W.heap.size W W'→A gC W')
  (KN:∀ gC W,A gC W→Calls Tryz.prog 9 #[.pointer (some ⟨gC,0,none⟩)] W fun e W'=>e=.returned (.int .i64 nn)∧Below W.heap.size W W')
  (KD:∀ gC W,A gC W→Calls Tryz.prog 11 #[.pointer (some ⟨gC,0,none⟩),.agg (stepC me x).toArray] W fun e W'=>∃ b,e=.returned (.bool b)∧(b=true→S gC 0 W')∧(b=false→Base w.heap.size w W'))
  (KL:∀ gC p W,p<2→S gC p W→Calls Tryz.prog 13 #[.pointer (some ⟨gC,0,none⟩)] W fun e W'=>∃ gL cap,e=.returned (.slice (some ⟨gL,0,none⟩) (m p) cap)∧T gC p gL 0 W')
  (hT:∀ gC p gL i W,T gC p gL i W→∃ L,Holds W gL 47 L∧∀ j,j<m p→L[j*51+1]?=some (.int .i64 (f p j))∧L[j*51+2]?=some (.int .i64 (t p j)))
  (hTb:∀ gC p gL i W W',T gC p gL i W→Below W.heap.size W W'→T gC p gL i W')
  (KX:∀ gC p gL i W,p<2→i<m p→T gC p gL i W→t p i=out∨f p i=out→Calls Tryz.prog 11 #[.pointer (some ⟨gC,0,none⟩),.agg (stepL 4 0).toArray] W fun e W'=>e=.returned (.bool true)∧T gC p gL (i+1) W')
  (KG:∀ gC p gL i W,p<2→i<m p→T gC p gL i W→¬ (t p i=out∨f p i=out)→Calls Tryz.prog 11 #[.pointer (some ⟨gC,0,none⟩),.agg (stepL 2 0).toArray] W fun e W'=>e=.returned (.bool true)∧T gC p gL (i+1) W')
  (hE:∀ gC p gL W,T gC p gL (m p) W→S gC (p+1) W)
  (KH:∀ gC W,S gC 2 W→Calls Tryz.prog 14 #[.pointer (some ⟨gC,0,none⟩)] W fun e W'=>∃ g c2 L,e=.returned (.slice (some ⟨g,0,none⟩) 2 c2)∧Holds W' g 55 L∧L[14]?=some (.int .i64 2)∧S gC 2 W')
  (KW:∀ gC W,S gC 2 W→Calls Tryz.prog 15 #[.pointer (some ⟨gC,0,none⟩),.int .i64 1] W fun e W'=>e=.returned (.bool false)∧Base w.heap.size w W') :
  Calls Tryz.prog 3 #[.int .i64 n,.int .i64 tto,.int .i64 lost,.agg x.cells.toArray] w fun e w'=>e=.returned (.bool true)∧Below w.heap.size w w':=by
 have KO:=qh KO;have KA:=qh KA;have KN:=qh KN;have KD:=qh KD;have KL:=qh KL;have hT:=qh hT;have KX:=qh KX;have KG:=qh KG;have hE:=qh hE;have KH:=qh KH;have KW:=qh KW;have hA:=qh hA;have hAB:=qh hAB;have HBS:=qh (Base.start w)
 have KI:=qh (fun W=>within_any tto 0 ((nn:Int) - 1) W hto (by omega) (by omega) (by omega))
 have KJ:=qh (fun W=>within_any lost 1 ((nn:Int) - 1) W hlo (by omega) (by omega) (by omega))
 have hme':0+tto % ((nn:Int) - 1-0+1)=(me:Int):=by rw [← hme];congr 1;rw [Int.zero_add];congr 1;omega
 have hd':1+lost % ((nn:Int) - 1-1+1)=(d:Int):=by rw [← hd];congr 2;omega
 have hmn:me<nn:=by have:=Int.emod_lt_of_pos tto (show (0:Int)<nn by omega);omega
 have hdn:d<nn:=by have:=Int.emod_lt_of_pos lost (show (0:Int)<(nn:Int) - 1 by omega);omega
 have hot:((me:Int)+(d:Int)).tmod (nn:Int)=(out:Int):=by
  rw [← hout,← Int.natCast_add,← Int.ofNat_tmod]
 clear hme hd hto hlo hout
 have hHX:=qh hm
 clear hm
 go_enter Tryz.func3,Tryz.ntmps3
 go_upto_region 1 with (fail)
 go_name_world W hW
 have hW:allocs w [.cells (x.cells:List Value).toArray 23]=W:=hW
 have HX:=qh (show Holds W (w.heap.size) 23 (x.cells) from holds_allocs _ hW 0 rfl)
 have hbW:=below_allocs _ hW
 have hsW:=size_allocs _ hW
 simp only [List.length_cons,List.length_nil] at hsW
 clear hW
 have HBS:=qh (HBS.out.bel hbW)
 clear hbW hsW
 go_wp2_with fail
 refine (KO.out _ HBS.out).mono ?_
 rintro e w1 ⟨gC,rfl,h1,hb1⟩
 have HAA:=qh h1
 have HX:=qh (HX.out.bel hb1)
 clear h1 hb1 KO HBS
 have x3:=HX.out.cell 3
 have x4:=HX.out.cell 4
 have x5:=HX.out.cell 5
 have x6:=HX.out.cell 6
 simp only [Cm.cells,yA,yB] at x3 x4 x5 x6
 go_wp2_with fail
 ·have HB:=qh (hAB.out _ _ HAA.out)
  refine (KA.out _).mono ?_
  rintro e w' ⟨rfl,hb⟩
  have HB:=qh (HB.out.bel hb)
  clear hb
  go_wp2_with fail
  go_ret
  exact⟨rfl,HB.out.below⟩
 ·clear x3 x4 x5 x6
  refine (KN.out _ _ HAA.out).mono ?_
  rintro e w2 ⟨rfl,hb⟩
  have HAA:=qh (hA.out _ _ _ HAA.out hb)
  have HX:=qh (HX.out.bel hb)
  clear hb KN
  go_wp2_with fail
  refine (KI.out _).mono ?_
  rintro e w2 ⟨rfl,rfl⟩
  rw [hme']
  go_wp2_with fail
  refine (KJ.out _).mono ?_
  rintro e w2 ⟨rfl,rfl⟩
  rw [hd']
  have HRG:=qh HX.out.range0
  go_wp2_with (first
   | (refine wpList_load_mid rfl 23 _ rfl w.heap.size 0 rfl (x.cells) _ HRG.out Tryz.underlying23 rfl (by kernel_rfl) ?_))
  refine (cstep me x _).mono ?_
  rintro e w3 ⟨rfl,hb⟩
  have HAA:=qh (hA.out _ _ _ HAA.out hb)
  clear hb HX HRG hA KI KJ hme' hd' hot
  go_wp2_with fail
  refine (KD.out _ _ HAA.out).mono ?_
  rintro e w4 ⟨b,rfl,hs,hs2⟩
  clear KD HAA hAB
  cases b
  ·have HB:=qh (hs2 rfl)
   clear hs hs2
   go_wp2_with fail
   refine (KA.out _).mono ?_
   rintro e w' ⟨rfl,hb⟩
   have HB:=qh (HB.out.bel hb)
   clear hb
   go_wp2_with fail
   go_ret
   exact⟨rfl,HB.out.below⟩
  ·have HS:=qh (hs rfl)
   clear hs hs2
   go_wp2_with fail
   go_loopw [13,14,15] (fun vi _ _ wr=>∃ p:Nat,vi=.int .i64 (p:Int)∧p≤2∧S gC p wr) (fun vi _ _ _=>2 - (intOf vi).toNat)
   case atStart=>exact⟨0,rfl,Nat.zero_le _,HS.out⟩
   case round=>
    obtain⟨p,rfl,hp,hS⟩:=hrel
    clear HS
    have HS:=qh hS
    clear hS
    by_cases hp2:p=2
    ·subst hp2
     have hp3:¬ (((2:Nat):Int)<2):=by decide
     go_wp2_with fail
     refine (KH.out _ _ HS.out).mono ?_
     rintro e w5 ⟨g,c2,L,rfl,hL,h14,hS⟩
     have HS:=qh hS
     have p1:=hL.cell 14
     rw [h14] at p1
     clear hL h14 hS KH KL KX KG hE hT
     go_wp2_with fail
     refine (KW.out _ _ HS.out).mono ?_
     rintro e w6 ⟨rfl,hb6⟩
     have HB:=qh hb6
     clear p1 HS KW hb6
     go_wp2_with fail
     refine (KA.out _).mono ?_
     rintro e w7 ⟨rfl,hb7⟩
     have HB:=qh (HB.out.bel hb7)
     clear hb7
     go_wp2_with fail
     go_ret
     exact⟨rfl,HB.out.below⟩
    ·have hp3:(p:Int)<2:=by omega
     have hp4:p<2:=by omega
     go_wp2_with fail
     refine (KL.out _ _ _ hp4 HS.out).mono ?_
     rintro e w5 ⟨gL,cap,rfl,ht0⟩
     have HT0:=qh ht0
     clear ht0 KL HS
     have hmp:=hHX.out p hp4
     go_wp2_with fail
     go_loopw [15] (fun vi wr2=>∃ i:Nat,vi=.int .i64 (i:Int)∧i≤m p∧T gC p gL i wr2) (fun vi _=>m p - (intOf vi).toNat)
     case atStart=>exact⟨0,rfl,Nat.zero_le _,HT0.out⟩
     case round=>
      obtain⟨i,rfl,hi,hTi⟩:=hrel
      clear HT0
      by_cases him:i=m p
      ·have hlt:¬ ((i:Int)<(m p:Int)):=by omega
       have HS:=qh (hE.out _ _ _ _ (him▸hTi))
       clear hTi
       go_wp2_with fail
       go_roundw
       case rel=>exact⟨p+1,by simp,by omega,HS.out⟩
       case measure=>simp [intOf];omega
      ·have hlt:(i:Int)<(m p:Int):=by omega
       have him2:i<m p:=by omega
       obtain⟨L,hL,hLc⟩:=hT.out _ _ _ _ _ hTi
       have p1:=hL.cell (i*51+1)
       have p2:=hL.cell (i*51+2)
       rw [(hLc i him2).1] at p1
       rw [(hLc i him2).2] at p2
       have HTi:=qh hTi
       have HL:=qh hL
       clear hTi hL hLc
       by_cases hta:(t p i:Int)=(out:Int)
       ·go_wp2_with fail
        refine (KX.out _ _ _ _ _ hp4 him2 HTi.out (.inl (by omega))).mono ?_
        rintro e w6 ⟨rfl,h6⟩
        have H6:=qh h6
        clear h6 HTi HL p1 p2
        go_wp2_with fail
        go_roundw
        case rel=>exact⟨i+1,by simp,by omega,H6.out⟩
        case measure=>simp [intOf];omega
       ·by_cases hfa:(f p i:Int)=(out:Int)
        ·go_wp2_with fail
         refine (KX.out _ _ _ _ _ hp4 him2 HTi.out (.inr (by omega))).mono ?_
         rintro e w6 ⟨rfl,h6⟩
         have H6:=qh h6
         clear h6 HTi HL p1 p2
         go_wp2_with fail
         go_roundw
         case rel=>exact⟨i+1,by simp,by omega,H6.out⟩
         case measure=>simp [intOf];omega
        ·have hta2:((t p i:Int)==(out:Int))=false:=beq_eq_false_iff_ne.2 hta
         have hfa2:((f p i:Int)==(out:Int))=false:=beq_eq_false_iff_ne.2 hfa
         have HNO:=qh (show ¬ (t p i=out∨f p i=out) from fun h=>h.elim (fun h=>hta (congrArg Nat.cast h)) (fun h=>hfa (congrArg Nat.cast h)))
         go_wp2_with fail
         refine (KG.out _ _ _ _ _ hp4 him2 HTi.out HNO.out).mono ?_
         rintro e w6 ⟨rfl,h6⟩
         have H6:=qh h6
         clear h6 HTi HL p1 p2
         go_wp2_with fail
         go_roundw
         case rel=>exact⟨i+1,by simp,by omega,H6.out⟩
         case measure=>simp [intOf];omega
end
def fastStage (n q out:Nat):Nat→Option Cs
 | 0=>some (callS n q)
 | p+1=>(fastStage n q out p).bind fun s=>fastN n q out s.lets.length s
def stageLen (n q out p:Nat):Nat:=match fastStage n q out p with
 | some s=>s.lets.length
 | none=>0
def stageLet (n q out p j:Nat):Lt:=match fastStage n q out p with
 | some s=>s.lets.getD j (0,0,0)
 | none=>(0,0,0)
def fastCk (n q out:Nat) (l:List Lt):Nat→Cs→Bool
 | 0,_=>true
 | k+1,s=>match s.lets,l with
  | m :: _,m2 :: l2=>decide (m=m2)&&decide (s.lets.length≤1000)&&s.lets.all (fun m=>decide (m.2.2<n))&&match fast1 n q out s with
   | some s'=>fastCk n q out l2 k s'
   | none=>false
  | _,_=>false
def stageCk (n q out p:Nat):Bool:=match fastStage n q out p with
 | some s=>decide (0<s.lets.length)&&decide (s.lets.length≤1000)&&fastCk n q out s.lets s.lets.length s
 | none=>false
def fastCks (n q out:Nat):Bool:=stageCk n q out 0&&stageCk n q out 1&&match fastStage n q out 2 with
 | some s=>s.hist==2&&!s.wait
 | none=>false
theorem fast_cks:∀ n∈[3,5,7],∀ q∈List.range n,∀ out∈List.range n,out≠q→fastCks n q out=true:=by decide +kernel
theorem fastN_succ (n q out:Nat):∀ (k:Nat) (s s':Cs),fast1 n q out s=some s'→fastN n q out (k+1) s=fastN n q out k s'
 | 0,s,s',h=>by simp [fastN,h]
 | k+1,s,s',h=>by
  have:=fastN_succ n q out k s s' h
  rw [show fastN n q out (k+1+1) s=(fastN n q out (k+1) s).bind (fast1 n q out) from rfl,this]
  rfl
theorem fastCk_at (n q out:Nat):∀ (k:Nat) (l:List Lt) (s:Cs),fastCk n q out l k s=true→∀ i,i<k→∃ s1 m rest s2,fastN n q out i s=some s1∧s1.lets=m :: rest∧l[i]?=some m∧s1.lets.length≤1000∧(∀ m∈s1.lets,m.2.2<n)∧fast1 n q out s1=some s2∧fastN n q out (i+1) s=some s2
 | 0,l,s,h,i,hi=>by omega
 | k+1,l,s,h,i,hi=>by
  unfold fastCk at h
  split at h
  ·rename_i m r m2 l2 he
   simp only [Bool.and_eq_true,decide_eq_true_eq,List.all_eq_true] at h
   obtain⟨⟨⟨h1,h2⟩,h3⟩,h4⟩:=h
   split at h4
   ·rename_i s' hs
    cases i with
    | zero=>exact⟨s,m,r,s',rfl,he,by rw [← h1];rfl,h2,h3,hs,by simp [fastN,hs]⟩
    | succ i=>
     obtain⟨s1,m',rest,s2,a1,a2,a3,a4,a5,a6,a7⟩:=fastCk_at n q out k l2 s' h4 i (by omega)
     exact⟨s1,m',rest,s2,by rw [fastN_succ _ _ _ _ _ _ hs];exact a1,a2,a3,a4,a5,a6,by rw [fastN_succ _ _ _ _ _ _ hs];exact a7⟩
   ·cases h4
  ·cases h
theorem stage_at {n q out p:Nat} (h:stageCk n q out p=true):∃ s,fastStage n q out p=some s∧s.lets.length=stageLen n q out p∧0<stageLen n q out p∧stageLen n q out p≤1000∧(∀ j,s.lets.getD j (0,0,0)=stageLet n q out p j) ∧
  ∀ i,i<stageLen n q out p→∃ s1 m rest s2,fastN n q out i s=some s1∧s1.lets=m :: rest∧stageLet n q out p i=m∧s1.lets.length≤1000∧(∀ m∈s1.lets,m.2.2<n)∧fast1 n q out s1=some s2∧fastN n q out (i+1) s=some s2:=by
 unfold stageCk at h
 split at h
 ·rename_i s hs
  simp only [Bool.and_eq_true,decide_eq_true_eq] at h
  obtain⟨⟨h1,h2⟩,h3⟩:=h
  have e1:stageLen n q out p=s.lets.length:=by unfold stageLen;rw [hs]
  have e2:∀ j,stageLet n q out p j=s.lets.getD j (0,0,0):=fun j=>by unfold stageLet;rw [hs]
  refine⟨s,hs,e1.symm,by omega,by omega,fun j=>(e2 j).symm,fun i hi=>?_⟩
  obtain⟨s1,m,rest,s2,a1,a2,a3,a4,a5,a6,a7⟩:=fastCk_at n q out _ _ _ h3 i (by omega)
  exact⟨s1,m,rest,s2,a1,a2,by rw [e2,List.getD_eq_getElem?_getD,a3];rfl,a4,a5,a6,a7⟩
 ·cases h
end Go.Proofs.YtimdpiifpibgfaaGreatDoor
