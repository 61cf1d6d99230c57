/- A part of the proof that the law TopGone returns true for every input. -/
import Derived.Test.YtimdpiifpibgfaaGreatDoorQg44
set_option linter.all false
set_option maxRecDepth 20000
set_option maxHeartbeats 16000000
open Go.RowKit Go.Maps
namespace Go.Proofs.YtimdpiifpibgfaaGreatDoor
open Tryz
theorem OA(g c:Nat)(w:World):Calls prog 36 #[.slice (some ⟨g,0,none⟩) 0 c] w λe w'=>e=.returned (.slice (some ⟨w.heap.size,0,none⟩) 0 0)∧AU w' (.slice (some ⟨w.heap.size,0,none⟩) 0 0) (some w.heap.size) 69 3 0 []∧Below w.heap.size w w':=by
 have HO1:=qh (show AU (w.alloc (.cells #[] 69)) (.slice (some ⟨w.heap.size,0,none⟩) 0 0) (some w.heap.size) 69 3 0 [] from⟨World.ownsRow_lit (size:=3) w #[] 0 (Nat.zero_le _) (by unfold maxLen;omega) (by simp),rfl⟩);have ha:Below w.heap.size w (w.alloc (.cells #[] 69)):=by go_grown
 have HA:=qh ha;have he:∀W:World,(binOp .eql 51 (.slice (some ⟨g,0,none⟩) 0 c) (.slice none 0 0)).run prog W=.ok (.bool false) W:=λ_=>by kernel_rfl
 have hr:∀(gz:Nat) (W:World),(Builtin.append_ #[51,51] 51 #[.slice (some ⟨gz,0,none⟩) 0 0,.slice (some ⟨g,0,none⟩) 0 c]).run prog W=.ok (.slice (some ⟨gz,0,none⟩) 0 0) W:=λ_ _=>by kernel_rfl
 clear ha;go_in;go_wp2_with (first|(at_builtin;refine wpList_append_run _ rfl (.tmp 5) (.tmp 6) 51 51 rfl _ _ rfl rfl _ _ (hr _ _) ?_));go_ret;exact⟨rfl,HO1.o,HA.o⟩
theorem PD(P:Value)(ob:Option Nat)(m:Nat)(L:List Value)(h1:∀u∈L,u.oneCell'=true)(hm:m≤1)(w:World)(h:AU w P ob 69 3 m L) :Calls prog 36 #[P] w λe w'=>∃p c ob',e=.returned (.slice p m c)∧AU w' (.slice p m c) ob' 69 3 m L∧(∀g,ob'=some g→w.heap.size≤g)∧Below w.heap.size w w':=by
 have hlen:=h.len;rcases h.cases with⟨rfl,rfl,rfl,rfl⟩|⟨g,c,rest,rfl,rfl,hc1,hcm,hh,hl⟩
 ·refine AY (EL w) ?_;rintro w' hb;exact⟨_,_,none,rfl,AU.nil _ _ _,by simp,hb⟩
 ·rcases(show m=0∨m=1 by omega) with rfl|rfl
  ·obtain rfl:L=[]:=List.length_eq_zero_iff.1 (by omega);refine AY (OA g c w) ?_;rintro w' ⟨ho,hb⟩;exact⟨_,_,_,rfl,ho,λg hg=>by cases hg;exact Nat.le_refl _,hb⟩
  ·refine(PE _ g L h1 w h).mono ?_;rintro e w' ⟨p,c2,g',rfl,ho,hg,hb⟩;exact⟨_,_,_,rfl,ho,λg hg2=>by cases hg2;exact hg,hb⟩
theorem SK(P:Value)(ob:Option Nat)(m:Nat)(L:List Value)(h1:∀u∈L,u.oneCell'=true)(hm:m≤1)(q v:Int)(w:World)(h:AU w P ob 69 3 m L) :Calls prog 57 #[.agg (BH P q v).toArray] w λe w'=>∃p c ob',e=.returned (.agg (BH (.slice p m c) q v).toArray)∧AU w' (.slice p m c) ob' 69 3 m L∧(∀g,ob'=some g→w.heap.size≤g)∧Below w.heap.size w w':=by
 have KC:=qh (λW (h:AU W P ob 69 3 m L)=>PD P ob m L h1 hm W h);have HP:=qh h;clear h h1;have hp:∃p c,P=.slice p m c:=by
  rcases HP.cases with⟨r,_,r2,_⟩|⟨_,_,_,r,_⟩
  ·exact⟨none,0,by rw[r,r2]⟩
  ·exact⟨_,_,r⟩
 obtain⟨pp,pc,rfl⟩:=hp;have KN:=qh (λW=>aZ q v W);have hlo:(Dp q v).length=48:=rfl;have hsf:=λP=>Kq P q v;go_in;go_upto_region 1 with(fail);go_name_world W hW;obtain⟨HS,HZ,hbW,hsW⟩:=Qu 66 (BH (.slice pp m pc) q v) 66 (BH (.slice none 0 0) 0 0) hW;clear hW;have HB:=qh (Base.start w);obtain⟨HB,HP⟩:=Bf hbW HB HP;have hwW:w.heap.size+1<W.heap.size:=by omega
 clear hbW hsW;have hne:w.heap.size≠w.heap.size+1:=by omega
 generalize hz0:w.heap.size+1=gz at HZ hne hwW ⊢;have hzb:w.heap.size≤gz:=by omega
 generalize hB0:w.heap.size=B at HS HB hne hzb ⊢;have HSR:=λ(w':World) (h:Below W.drew.heap.size W.drew w')=>(((HS.bel (AP _ W)).bel h).D9 1 (cs:=Dp q v) (λj v hv=>by rw[Nat.add_comm];exact hv));have HSR:=qh HSR;have hwd:B≤W.drew.heap.size:=HB.le;have hwz:gz<W.drew.heap.size:=hwW;clear hwW;obtain⟨HS,HZ,HB,HP⟩:=D8 (AP _ W) HS HZ HB HP;refine EC [8] 9 (λhSn=>?_);generalize W.drew=wd at HS HZ HB HP HSR hwd hwz hSn ⊢;simp only[List.replicate];refine CS 0 ?_;refine BA 1 [2,6,7,8] (λw hSw=>AZ (HS.bel hSw) 0) ?_;refine CS 3 ?_;refine IM 4 [6,7,8] (some 7) (.agg (Dp q v).toArray) rfl (yieldsIf_load_mid (by rfl) 64 _ rfl B 1 rfl (Dp q v) _ (λw hSw=>HSR.o w hSw) underlying64 rfl (by as_aux_lemma=>kernel_rfl)) hSn ?rg4;simp only[Act.put,zA,zB,zC];refine CS 5 ?_;refine BC 2 rfl (λK hK=>?_);go_simp;refine(KC.o _ (HP.bel hSn)).mono ?_;rintro e w2 ⟨p2,c2,g2,rfl,ho2,hg2,hb⟩;have hSn:=AB hSn hb;have HO:=qh ho2;have hsq:=hSn.size;have hgq:∀g,g2=some g→wd.heap.size≤g:=λg h=>by have:=hg2 g h;omega
 clear ho2 hg2;clear hb;refine BJ hK ?_;clear hK;refine BC 6 rfl (λK hK=>?_);go_simp;refine AY (KN.o _) ?_;rintro w3 hb;have hSn:=AB hSn hb;try have HO:=qh (HO.bel hb)
 clear hb;refine BJ hK ?_;clear hK;refine CS 7 ?_;refine BC 8 rfl (λK hK=>?_);refine tB (BH (.slice p2 m c2) q v) (HZ.bel hSn) ?_ (FW _ _ _ _ _);intro w5 hh5 ht5;refine BJ hK ?_;clear hK;refine DX ?_;have HB:=qh ((HB.bel hSn).touch ht5 hzb);have HRR:=qh hh5.AX;have HO:=qh (HO.touch ht5 (λk hk=>by have:=hgq k hk;omega));have hgB:∀g,g2=some g→B≤g:=λg h=>Nat.le_trans hwd (hgq g h);clear hh5 ht5;go_wp2_with fail;refine bC HRR.o ?_;exact⟨_,_,rfl,g2,HO.o,hB0▸hgB,hB0▸HB.below⟩
theorem Yp(P:Value)(ob:Option Nat)(m:Nat)(L:List Value)(h1:∀u∈L,u.oneCell'=true)(hm:m≤1)(q v:Int)(w:World)(h:AU w P ob 69 3 m L) :Calls prog 39 #[.agg (BH P q v).toArray,.slice none 0 0] w λe w'=>∃p c ob',e=.returned (.tuple #[.agg (BH (.slice p m c) q v).toArray,.slice none 0 0])∧AU w' (.slice p m c) ob' 69 3 m L∧(∀g,ob'=some g→w.heap.size≤g)∧Below w.heap.size w w':=by
 have KC:=qh (λW (h:AU W P ob 69 3 m L)=>SK P ob m L h1 hm q v W h);have HO:=qh h;have hp:∃p c,P=.slice p m c:=by
  rcases HO.cases with⟨r,_,r2,_⟩|⟨_,_,_,r,_⟩
  ·exact⟨none,0,by rw[r,r2]⟩
  ·exact⟨_,_,r⟩
 obtain⟨pp,pc,rfl⟩:=hp;clear h h1;go_in;go_upto_region 1 with(fail);go_name_world W hW;obtain⟨HS,HZ,hbW,hsW⟩:=Qu 66 (BH (.slice pp m pc) q v) 66 (BH (.slice none 0 0) 0 0) hW;clear hW;have HB:=qh (Base.start w);obtain⟨HB,HO⟩:=Bf hbW HB HO;clear hbW hsW;generalize hz0:w.heap.size+1=gz at HZ ⊢;have hord:w.heap.size<gz:=by omega
 generalize hB0:w.heap.size=B at HS HB hord ⊢;have HRG:=qh HS.AX;go_wp2_with (first|(refine lM 0 HRG.o ?_));refine(KC.o _ HO.o).mono ?_;rintro e w1 ⟨p,cc,ob1,rfl,ho1,hn1,hb⟩;have hsz0:=HB.le;have hn2:∀g,ob1=some g→gz<g:=λg h=>by have:=hn1 g h;have:=HZ.lt;omega
 have HO1:=qh ho1;clear ho1;obtain⟨HS,HZ,HB⟩:=Ce hb HS HZ HB;clear hb HRG HO;go_wp2_with (first|(refine sW (BH (.slice p m cc) q v) HS.o ?_ (FW _ _ _ _ _);intro w2 hh2 ht2));have HS:=qh hh2;have HZ:=qh (HZ.touch ht2 (by omega));have HB:=qh (HB.touch ht2 (Nat.le_refl _));have HO1:=qh (HO1.touch ht2 (λk hk=>by have:=hn2 k hk;omega));clear hh2 ht2;go_loopw [14,6] (λvi vo wr=>vi=.int .i64 0∧vo=.slice none 0 0∧wr=w2) (λ_ _ _=>0);case atStart=>exact⟨rfl,rfl,rfl⟩
 case round=>obtain⟨rfl,rfl,rfl⟩:=hrel;have HRG:=qh HS.AX;go_wp2_with (first|(refine lM 0 HRG.o ?_)|(refine sW (BH (.slice p m cc) q v) HZ.o ?_ (FW _ _ _ _ _);intro w5 hh5 ht5));have HB:=qh (HB.touch ht5 (by omega));have HR:=qh hh5.AX;have HO1:=qh (HO1.touch ht5 (λk hk=>by have:=hn2 k hk;omega));clear hh5 ht5 HRG;refine bT HR.o ?_;exact⟨_,_,_,rfl,HO1.o,λg h=>by have:=hn2 g h;omega,hB0▸HB.below⟩
theorem dS(g n me gd gw gc gfr:Nat)(P:Value)(ob:Option Nat)(c:Cm)(sq v:Int)(d:Nat→Int)(since tk:Int)(waits out ans:Value)(w:World) (h:Holds w g 102 (BF n me gd gw gc gfr P sq v d since tk waits out ans)) (hp:Pairs w P ob c) :Calls prog 19 #[.pointer (some ⟨g,0,none⟩)] w λe w'=>∃p m ob',e=.returned (.agg (BH (.slice p (Hg c) m) sq v).toArray)∧Pairs w' (.slice p (Hg c) m) ob' c∧Below w.heap.size w w':=by
 have hm1:Hg c≤1:=by unfold Hg;split<;>omega
 have hL1:∀u∈GM c,u.oneCell'=true:=by unfold GM;split<;>simp[EI,Value.oneCell']
 have KP:=qh (λW (h:AU W P ob 69 3 (Hg c) (GM c))=>Yp P ob (Hg c) (GM c) hL1 hm1 sq v W h);have HN:=qh h;have HP:=qh (show AU w P ob 69 3 (Hg c) (GM c) from hp);generalize hpo:GM c=L at KP HP;generalize hpn:Hg c=mm at KP HP ⊢;clear h hp hL1 hm1;go_in;go_upto_region 1 with(fail);go_name_world W hW;obtain⟨HZ,hbW,hsW⟩:=Ef 66 (BH (.slice none 0 0) 0 0) hW;clear hW;have HB:=qh (Base.start w);obtain⟨HB,HN,HP⟩:=Ce hbW HB HN HP;clear hbW hsW;generalize hB0:w.heap.size=gz at HZ HB ⊢;have HRG:=qh (HN.D9 6 (cs:=BH P sq v) (WF n me gd gw gc gfr P sq v d since tk waits out ans));go_wp2_with (first|(refine lM 6 HRG.o ?_));refine(KP.o _ HP.o).mono ?_;rintro e w1 ⟨p,m,ob1,rfl,ho1,hn1,hb⟩;have hn2:∀g,ob1=some g→gz<g:=λg h=>by have:=hn1 g h;have:=HZ.lt;omega
 have HO1:=qh ho1;clear ho1;obtain⟨HB,HZ⟩:=Bf hb HB HZ;clear hb HRG HN HP KP;go_wp2_with (first|(refine sW (BH (.slice p mm m) sq v) (AA w1 _ (BH (.slice none 0 0) 0 0)) ?_ (FW _ _ _ _ _);intro w2 hh2 ht2;have HY:=qh hh2.AX;have hb2:Below w1.heap.size w1 w2:=Below.trans ((Below.refl _ _).alloc (Nat.le_refl _) _) (ht2.below (Nat.le_refl _) (by simp)))|(refine lM 0 HY.o ?_)|(refine sW (BH (.slice p mm m) sq v) (HZ.bel hb2) ?_ (FW _ _ _ _ _);intro w3 hh3 ht3));have HB:=qh ((HB.bel hb2).touch ht3 (Nat.le_refl _));have HO1:=qh ((HO1.bel hb2).touch ht3 (λk hk=>by have:=hn2 k hk;omega));have HR:=qh hh3.AX;clear hh3 ht3 HY hb2;refine bC HR.o ?_;refine⟨_,_,ob1,rfl,?_,hB0▸HB.below⟩;unfold Pairs;rw[hpn,hpo];exact HO1.o
theorem Oc(w:World)(F:Ap)(g gd n me q:Nat)(c:Cm)(out:List Lt)(an:Bool)(tk B:Nat)(h:Bg w F g gd n me q c .com out an tk B) :Calls prog 19 #[.pointer (some ⟨g,0,none⟩)] w λe w'=>∃p m ob',e=.returned (.agg (BH (.slice p (Hg c) m) 1 (Ea c)).toArray)∧Pairs w' (.slice p (Hg c) m) ob' c∧Below w.heap.size w w':=by obtain⟨t,ht,gfl,gby,mb,gw,gc,gfr,kept,P,sq,v,d,since,waits,ou,ans,h⟩:=h;obtain⟨⟨ob,hp,_⟩,rfl,rfl,_⟩:=h.st;exact dS g n me gd gw gc gfr P ob c 1 (Ea c) d since t waits ou ans w h.nd hp
theorem VX(gC n:Nat)(dv nv clv cav hv:Value)(p:_)(cap:_)(w:World) (h:Holds w gC 85 (DW n dv nv clv cav (.slice p 0 cap) hv)) :Calls prog 27 #[.pointer (some ⟨gC,0,none⟩),.agg (Dh 2 0).toArray] w λe w'=>e=.returned (.bool false)∧Below w.heap.size w w':=by have HC:=qh h;have HB:=qh (Base.start w);clear h;go_in;go_upto_region 1 with(fail);go_name_world W hW;obtain⟨HS,hbW,hsW⟩:=Ef 32 (Dh 2 0) hW;clear hW;obtain⟨HC,HB⟩:=Bf hbW HC HB;clear hbW;generalize hB0:w.heap.size=gS at HS HB ⊢;clear hsW;have s1:=AZ HS.o 1;have c5:=AZ HC.o 5;go_quiet (fail);have hb1:Below W.heap.size W (W.drewN nq):=BV _ _ _;obtain⟨HC,HB,HS⟩:=Ce hb1 HC HB HS;clear hb1 s1 c5;generalize W.drewN nq=w1 at HC HB HS ⊢;go_wp2_with fail;go_ret;exact⟨rfl,hB0▸HB.below⟩
theorem bg(gC n m:Nat)(R G T:Nat→World→Prop)(w:World) (KN:Calls prog 9 #[.pointer (some ⟨gC,0,none⟩)] w λe W'=>e=.returned (.int .i64 n)∧R 0 W') (KT:∀i,i<n→∀W,R i W→Calls prog 11 #[.pointer (some ⟨gC,0,none⟩),.agg (Dh 5 (i:Nat)).toArray] W λe W'=>∃b,e=.returned (.bool b)∧R (i+1) W') (KG:∀i,i<m→∀W,G i W→Calls prog 11 #[.pointer (some ⟨gC,0,none⟩),.agg (Dh 2 0).toArray] W λe W'=>e=.returned (.bool true)∧G (i+1) W') (KE:∀W,G m W→Calls prog 11 #[.pointer (some ⟨gC,0,none⟩),.agg (Dh 2 0).toArray] W λe W'=>e=.returned (.bool false)∧G m W') (KM:∀j:Nat,j<8→∀W,T j W→Calls prog 11 #[.pointer (some ⟨gC,0,none⟩),.agg (Dh 6 ((j:Int)+1)).toArray] W λe W'=>e=.returned (.bool true)∧T (j+1) W') (hRG:∀W,R n W→G 0 W) (hGT:∀W,G m W→T 0 W) (hm:m<20000) (hn:n≤7) :Calls prog 16 #[.pointer (some ⟨gC,0,none⟩)] w λe w'=>e=.returned (.tuple #[])∧T 8 w':=by
 have KN:=qh KN;have KT:=qh KT;have KG:=qh KG;have KE:=qh KE;have KM:=qh KM;have hRG:=qh hRG;have hGT:=qh hGT;go_in;go_wp2_with fail;refine AY (KN.o) ?_;rintro w1 h1;have H1:=qh h1;clear h1 KN;go_wp2_with fail;go_loopw [6,2] (λvi _ wr=>∃j:Nat,vi=.int .i64 (j:Int)∧j≤n∧R j wr) (λvi _ _=>n - (intOf vi).toNat);case atStart=>exact⟨0,rfl,Nat.zero_le _,H1.o⟩
 case round=>
  obtain⟨j,rfl,hj,hJ⟩:=hrel;clear H1;have HJ:=qh hJ;clear hJ;by_cases hjm:j=n
  ·subst hjm;have hlt:¬((j:Int)<(j:Int)):=by omega
   have HG:=qh (hRG.out _ HJ.o);clear HJ KT hRG;go_wp2_with fail;go_loopw [14] (λvi wr2=>∃k:Nat,vi=.int .i64 (k:Int)∧k≤m∧G k wr2) (λvi _=>m - (intOf vi).toNat);case atStart=>exact⟨0,rfl,Nat.zero_le _,HG.o⟩
   case round=>
    obtain⟨k,rfl,hk,hK⟩:=hrel;clear HG;have hk2:(k:Int)<20000:=by omega
    by_cases hkm:k=m
    ·subst hkm;have HG:=qh hK;clear hK KG;go_wp2_with fail;refine AY (KE.o _ HG.o) ?_;rintro w3 h3;have HG:=qh (hGT.out _ h3);clear h3;go_wp2_with fail;go_loopw [3] (λvi wr3=>∃i:Nat,vi=.int .i64 ((i:Int)+1)∧i≤8∧T i wr3) (λvi _=>9 - (intOf vi).toNat);case atStart=>exact⟨0,rfl,Nat.zero_le _,HG.o⟩
     case round=>
      obtain⟨i,rfl,hi,hI⟩:=hrel;have HI:=qh hI;clear hI HG;by_cases hi8:i=8
      ·subst hi8;have h9:¬(((8:Nat):Int)+1≤8):=by decide
       go_wp2_with fail;exact bE ⟨rfl,HI.o⟩
      ·have hi9:(i:Int)+1≤8:=by omega
       have hi7:i<8:=by omega
       go_wp2_with (first|(with_reducible show wpList _ _ _ (_ :: _) _ _;refine GU (by kernel_rfl) 32 0 1 _ _ rfl (.int .i64 6) (.int .i64 ((i:Int)+1)) rfl rfl (.agg (Dh 6 ((i:Int)+1)).toArray) (λw=>by kernel_rfl) ?_));refine AY (KM.o i hi7 _ HI.o) ?_;rintro w4 h4;have HI:=qh h4;clear h4;go_wp2_with fail;go_roundw;case rel=>exact⟨i+1,by simp,by omega,HI.o⟩
       case measure=>simp[intOf];omega
    ·have hkl:k<m:=by omega
     have HG:=qh hK;clear hK;go_wp2_with fail;refine AY (KG.o k hkl _ HG.o) ?_;rintro w3 h3;have HG:=qh h3;clear h3;go_wp2_with fail;go_roundw;case rel=>exact⟨k+1,by simp,by omega,HG.o⟩
     case measure=>simp[intOf];omega
  ·have hji:(j:Int)<(n:Int):=by omega
   have hjn:j<n:=by omega
   go_wp2_with (first|(with_reducible show wpList _ _ _ (_ :: _) _ _;refine GU (by kernel_rfl) 32 0 1 _ _ rfl (.int .i64 5) (.int .i64 (j:Int)) rfl rfl (.agg (Dh 5 (j:Nat)).toArray) (λw=>by kernel_rfl) ?_));refine(KT.o j hjn _ HJ.o).mono ?_;rintro e w2 ⟨b2,rfl,h2⟩;have HJ:=qh h2;clear h2;go_wp2_with fail;go_roundw;case rel=>exact⟨j+1,by simp,by omega,HJ.o⟩
   case measure=>simp[intOf];omega
def Ie:Cm:=⟨2,0,0,⟨#[97]⟩,⟨#[]⟩,⟨#[]⟩,⟨#[98]⟩⟩
theorem Lu(P:Value)(sq v:Int)(w:World):(Instr.field 66 (.agg (BH P sq v).toArray) 0).run prog w=.ok P w:=by kernel_rfl
theorem bM(R0 R1 R2:Nat→World→Prop)(Q:World→Prop)(w:World) (KO:Calls prog 7 #[.int .i64 0] w λe W'=>∃gC,e=.returned (.pointer (some ⟨gC,0,none⟩))∧R0 gC W') (hR:∀gC W W',R0 gC W→Below W.heap.size W W'→R0 gC W') (KD:∀gC W,R0 gC W→Calls prog 11 #[.pointer (some ⟨gC,0,none⟩),.agg (Gp (0:Nat) Ie).toArray] W λe W'=>e=.returned (.bool true)∧R1 gC W') (KR:∀gC W,R1 gC W→Calls prog 16 #[.pointer (some ⟨gC,0,none⟩)] W λe W'=>e=.returned (.tuple #[])∧R2 gC W') (KH:∀gC W,R2 gC W→Calls prog 14 #[.pointer (some ⟨gC,0,none⟩)] W λe W'=>∃g c2,e=.returned (.slice (some ⟨g,0,none⟩) 2 c2)∧R2 gC W') (KN:∀gC W,R2 gC W→Calls prog 17 #[.pointer (some ⟨gC,0,none⟩),.int .i64 2] W λe W'=>∃g,e=.returned (.pointer (some ⟨g,0,none⟩))∧R2 gC W') (KS:∀gC W,R2 gC W→Calls prog 17 #[.pointer (some ⟨gC,0,none⟩),.int .i64 2] W λe W'=>∃g,e=.returned (.pointer (some ⟨g,0,none⟩))∧Calls prog 19 #[.pointer (some ⟨g,0,none⟩)] W' λe W''=>∃p m sq v,e=.returned (.agg (BH (.slice p 1 m) sq v).toArray)∧Q W'') :Calls prog 8 #[] w λe w'=>e=.returned (.bool true)∧Q w':=by have KO:=qh KO;have KD:=qh KD;have KR:=qh KR;have KH:=qh KH;have KN:=qh KN;have KS:=qh KS;have hR:=qh hR;go_in;go_wp2_with fail;refine(KO.o).mono ?_;rintro e w1 ⟨gC,rfl,h1⟩;have H1:=qh h1;clear h1 KO;go_wp2_with fail;refine AY (aW 0 Ie w1) ?_;rintro w2 hb;have H1:=qh (hR.out _ _ _ H1.o hb);clear hb hR;go_wp2_with fail;refine AY (KD.o _ _ H1.o) ?_;rintro w3 h2;have H2:=qh h2;clear h2 H1 KD;go_wp2_with fail;refine AY (KR.o _ _ H2.o) ?_;rintro w4 h3;have H3:=qh h3;clear h3 H2 KR;go_wp2_with fail;refine(KH.o _ _ H3.o).mono ?_;rintro e w5 ⟨gh,c2,rfl,h4⟩;have H4:=qh h4;clear h4 H3 KH;go_wp2_with fail;refine(KN.o _ _ H4.o).mono ?_;rintro e w6 ⟨g2,rfl,h5⟩;have H5:=qh h5;clear h5 H4 KN;go_wp2_with fail;refine(KS.o _ _ H5.o).mono ?_;rintro e w7 ⟨g3,rfl,h6⟩;have H6:=qh h6;clear h6 H5 KS;go_wp2_with fail;refine(H6.o).mono ?_;rintro e w8 ⟨p,m,sq,v,rfl,hq⟩;have HQ:=qh hq;clear H6 hq;go_wp2_with fail;rw[Lu];go_wp2_with fail;go_ret;exact⟨rfl,HQ.o⟩
theorem QP(gC n gCl cCl j:Nat)(gcl:Nat→Nat)(rest:List Value)(dv nv cav lv hv:Value)(id seq:Int)(x:Cm)(wt:Bool)(tg tk:Int)(w:World)(h:Holds w gC 85 (DW n dv nv (.slice (some ⟨gCl,0,none⟩) 8 cCl) cav lv hv))(hC:Holds w gCl 92 (ptrs 8 gcl++rest))(hj:j<8) (hc:Hq w (gcl j) id seq x wt tg tk) :Calls prog 15 #[.pointer (some ⟨gC,0,none⟩),.int .i64 ((j:Int)+1)] w λe w'=>e=.returned (.bool wt)∧Below w.heap.size w w':=by
 have KK:=qh (N8 ((j:Int)+1) (by omega) (by omega));have KW:=qh (λW (h:Hq W (gcl j) id seq x wt tg tk)=>QK (gcl j) id seq x wt tg tk W h);have HN:=qh h;have HC:=qh hC;have HX:=qh (show Holds w (gcl j) 132 _ from hc);have HB:=qh (Base.start w);have hj8:(j:Int)<8:=by omega
 have hwr:IntKind.i64.wrap ((j:Int)+1-1)=(j:Int):=by rw[Int.add_sub_cancel];exact IntWalk.i64_in _ (by omega)
 have hj1:(j:Int)+1-1=(j:Int):=by omega
 clear h hC hc;go_in;go_wp2_with fail;refine AY (KK.o _) ?_;rintro w1 hb;obtain⟨HN,HC,HX,HB⟩:=D8 hb HN HC HX HB;clear hb;have a3:=AZ HN.o 3;have p:=HC.cell j;rw[Jf 8 gcl rest j hj] at p;go_wp2_with fail;refine AY (KW.o _ HX.o) ?_;rintro w2 hb;have HB:=Ci hb HB;clear hb a3 p HN HC HX;go_wp2_with fail;go_ret;exact⟨rfl,HB.below⟩
theorem Xm(gC:Nat)(R:World→Prop)(w:World)(h0:R w) (KW:∀j:Nat,j<8→∀W,R W→Calls prog 15 #[.pointer (some ⟨gC,0,none⟩),.int .i64 ((j:Int)+1)] W λe W'=>e=.returned (.bool false)∧R W') :Calls prog 18 #[.pointer (some ⟨gC,0,none⟩)] w λe w'=>e=.returned (.int .i64 0)∧R w':=by
 have KW:=qh KW;have H0:=qh h0;clear h0;go_in;go_wp2_with fail;go_loopw [4,3] (λvi vn wr=>∃j:Nat,vi=.int .i64 ((j:Int)+1)∧vn=.int .i64 0∧j≤8∧R wr) (λvi _ _=>9 - (intOf vi).toNat);case atStart=>exact⟨0,rfl,rfl,Nat.zero_le _,H0.o⟩
 case round=>
  clear H0;obtain⟨j,rfl,rfl,hj,hR⟩:=hrel;have HR:=qh hR;clear hR;by_cases hj8:j=8
  ·subst hj8;have h9:¬(((8:Nat):Int)+1≤8):=by decide
   go_wp2_with fail;go_ret;exact⟨rfl,HR.o⟩
  ·have hj9:(j:Int)+1≤8:=by omega
   have hj7:j<8:=by omega
   go_wp2_with fail;refine AY (KW.o j hj7 _ HR.o) ?_;rintro w2 h2;have HR:=qh h2;clear h2;go_wp2_with fail;go_roundw;case rel=>exact⟨j+1,by simp,rfl,by omega,HR.o⟩
   case measure=>simp[intOf];omega
structure Fine(r:Nat)(s:Cs):Prop where
 len:s.lets.length≤1000
 tg:s.tg<7
 ct:s.ct≤r
 hw:s.wait=true→s.hist=1
theorem Me{r:Nat}{s s':Cs}{rest:List Lt}{i:Nat}{ph:Ph}{out:List Lt}{an:Bool}(h:L9 s rest i ph out an=some s')(hf:Fine r s):Fine r s':=by
 unfold L9 at h;split at h
 ·cases h
 rename_i hl;split at h
 ·split at h
  ·simp only[Option.some.injEq] at h;subst h;exact⟨by simp;omega,hf.tg,hf.ct,λh=>by cases h⟩
  ·cases h
 ·simp only[Option.some.injEq] at h;subst h;exact⟨by simp;omega,hf.tg,hf.ct,hf.hw⟩
theorem OM{r n q:Nat}{s s':Cs}(h:IR n q s=some s')(hf:Fine r s):Fine r s':=by
 unfold IR at h;split at h
 ·cases h
 rename_i m rest hm;have hlen:=hf.len;rw[hm] at hlen;split at h
 ·split at h
  ·simp only[Option.some.injEq] at h;subst h;exact⟨by simp at hlen ⊢;omega,hf.tg,hf.ct,hf.hw⟩
  ·cases h
 ·cases ht:Kr n q (s.phs.getD m.2.2 .fresh) m with
  | none=>rw[ht] at h;cases h
  | some x=>
   rw[ht] at h;exact Me h hf
theorem UW{r n q i:Nat}{s s':Cs}(h:QD n q i s=some s')(hf:Fine r s):Fine r s':=by
 unfold QD at h;split at h
 ·simp only[Option.some.injEq] at h;subst h;exact hf
 ·cases ht:Iu n q i (s.phs.getD i .fresh) (s.tks.getD i 0) with
  | none=>rw[ht] at h;cases h
  | some x=>
   rw[ht] at h;exact Me h ⟨hf.len,hf.tg,hf.ct,hf.hw⟩
theorem UX{r n:Nat}{s s':Cs}(h:QE n s=some s')(hn:1≤n)(hn7:n≤7)(hf:Fine r s):Fine (r+1) s':=by
 have hm:(s.tg+1) % n<7:=Nat.lt_of_lt_of_le (Nat.mod_lt _ (by omega)) hn7;have hct:=hf.ct;unfold QE at h;split at h
 ·simp only[Option.some.injEq] at h;subst h;exact⟨hf.len,hf.tg,by omega,hf.hw⟩
 split at h
 ·split at h
  ·simp only[Option.some.injEq] at h;subst h;exact⟨hf.len,hm,by show s.ct+1≤_;omega,hf.hw⟩
  ·split at h
   ·simp only[Option.some.injEq] at h;subst h;exact⟨hf.len,hm,by show s.ct+1≤_;omega,λh=>by cases h⟩
   ·cases h
  ·cases h
 ·simp only[Option.some.injEq] at h;subst h;exact⟨hf.len,hf.tg,by show s.ct+1≤_;omega,hf.hw⟩
theorem JO{r n q:Nat}{s:Cs}(hf:Fine r s):∀k s',E8 n q k s=some s'→Fine r s'
 | 0,s',h=>by cases h;exact hf
 | k+1,s',h=>by
  rw[E8] at h;cases h1:E8 n q k s with
  | none=>rw[h1] at h;cases h
  | some s1=>
   rw[h1] at h;exact UW h (JO hf k s1 h1)
def FY(n q:Nat):Nat→Cs→Option Cs
 | 0,s=>some s
 | k+1,s=>(FY n q k s).bind (IR n q)
theorem NH{n q:Nat}{s s1:Cs}(h:IR n q s=some s1):∀k,FY n q (k+1) s=FY n q k s1
 | 0=>by show (some s).bind (IR n q)=some s1;exact h
 | k+1=>by rw[FY,NH h k,FY]
theorem Ih{r n q:Nat}{s:Cs}(hf:Fine r s):∀k s',FY n q k s=some s'→Fine r s'
 | 0,s',h=>by cases h;exact hf
 | k+1,s',h=>by
  rw[FY] at h;cases h1:FY n q k s with
  | none=>rw[h1] at h;cases h
  | some s1=>
   rw[h1] at h;exact OM h (Ih hf k s1 h1)
theorem OL{n q:Nat}{s:Cs}{m:Nat}:∀d s',FY n q (m+d) s=some s'→∃s1,FY n q m s=some s1
 | 0,s',h=>⟨s',h⟩
 | d+1,s',h=>by
  rw[←Nat.add_assoc,FY] at h;cases h1:FY n q (m+d) s with
  | none=>rw[h1] at h;cases h
  | some s1=>exact OL d s1 h1
theorem TW{n q:Nat}{s s1 sE:Cs}{i m:Nat}(hE:FY n q m s=some sE)(hi:i<m)(h:FY n q i s=some s1):∃s2,IR n q s1=some s2∧FY n q (i+1) s=some s2:=by obtain⟨d,rfl⟩:∃d,m=(i+1)+d:=⟨m - (i+1),by omega⟩;obtain⟨s2,h2⟩:=OL d sE hE;refine⟨s2,?_,h2⟩;rw[FY,h] at h2;exact h2
theorem NK{n q:Nat}:∀K s s',ML n q K s=some s'→∃m,m≤K∧FY n q m s=some s'∧s'.lets=[]
 | 0,s,s',h=>by
  rw[ML] at h;split at h
  ·rename_i h0;cases h;exact⟨0,Nat.le_refl _,rfl,h0⟩
  ·cases h
 | K+1,s,s',h=>by
  rw[ML] at h;split at h
  ·rename_i h0;cases h;exact⟨0,Nat.zero_le _,rfl,h0⟩
  ·cases h1:IR n q s with
   | none=>rw[h1] at h;cases h
   | some s1=>
    rw[h1] at h;obtain⟨m,h2,h3,h4⟩:=NK K s1 s' h;exact⟨m+1,by omega,by rw[NH h1];exact h3,h4⟩
theorem Le{n q:Nat}{s s':Cs}(h:Ko n q s=some s'):∃s1 m s2,E8 n q n s=some s1∧m≤400∧FY n q m s1=some s2∧s2.lets=[]∧QE n s2=some s':=by
 unfold Ko at h;cases h1:E8 n q n s with
 | none=>rw[h1] at h;cases h
 | some s1=>
  rw[h1] at h;simp only[Option.bind_some] at h;cases h2:ML n q 400 s1 with
  | none=>rw[h2] at h;cases h
  | some s2=>
   rw[h2] at h;obtain⟨m,h3,h4,h5⟩:=NK 400 s1 s2 h2;exact⟨s1,m,s2,rfl,h3,h4,h5,h⟩
theorem NR{n q:Nat}{s:Cs}{m:Nat}:∀d s',E8 n q (m+d) s=some s'→∃s1,E8 n q m s=some s1
 | 0,s',h=>⟨s',h⟩
 | d+1,s',h=>by
  rw[←Nat.add_assoc,E8] at h;cases h1:E8 n q (m+d) s with
  | none=>rw[h1] at h;cases h
  | some s1=>exact NR d s1 h1
theorem SY{n q:Nat}{s s1 sE:Cs}{i m:Nat}(hE:E8 n q m s=some sE)(hi:i<m)(h:E8 n q i s=some s1):∃s2,QD n q i s1=some s2∧E8 n q (i+1) s=some s2:=by obtain⟨d,rfl⟩:∃d,m=(i+1)+d:=⟨m - (i+1),by omega⟩;obtain⟨s2,h2⟩:=NR d sE hE;refine⟨s2,?_,h2⟩;rw[E8,h] at h2;exact h2
theorem Ll{n q:Nat}{s:Cs}{m:Nat}:∀d s',Cf n q (m+d) s=some s'→∃s1,Cf n q m s=some s1
 | 0,s',h=>⟨s',h⟩
 | d+1,s',h=>by
  rw[←Nat.add_assoc,Cf] at h;cases h1:Cf n q (m+d) s with
  | none=>rw[h1] at h;cases h
  | some s1=>exact Ll d s1 h1
theorem Qj{n q:Nat}{s s1 sE:Cs}{i m:Nat}(hE:Cf n q m s=some sE)(hi:i<m)(h:Cf n q i s=some s1):∃s2,Ko n q s1=some s2∧Cf n q (i+1) s=some s2:=by obtain⟨d,rfl⟩:∃d,m=(i+1)+d:=⟨m - (i+1),by omega⟩;obtain⟨s2,h2⟩:=Ll d sE hE;refine⟨s2,?_,h2⟩;rw[Cf,h] at h2;exact h2
theorem JL{n q:Nat}{s s1:Cs}{a:Nat}(h:Cf n q a s=some s1):∀b,Cf n q (a+b) s=Cf n q b s1
 | 0=>h
 | b+1=>by rw[←Nat.add_assoc,Cf,JL h b,Cf]
theorem Lh{n q:Nat}{s:Cs}(h:Cf n q 8 s=some s):∀k,Cf n q (8*k) s=some s
 | 0=>rfl
 | k+1=>by rw[show 8*(k+1)=8*k+8 by omega,JL (Lh h k) 8,h]
theorem NI{r n q:Nat}{s:Cs}(hf:Fine r s):∀k s',giveUp n q k s=some s'→Fine r s'
 | 0,s',h=>by cases h;exact hf
 | k+1,s',h=>by
  rw[giveUp] at h;cases h1:giveUp n q k s with
  | none=>rw[h1] at h;cases h
  | some s1=>
   rw[h1] at h;simp only[Option.bind_some] at h;have h2:=NI hf k s1 h1;split at h
   ·cases h;exact h2
   ·exact OM h h2
theorem NJ{n q:Nat}{s:Cs}{m:Nat}:∀d s',giveUp n q (m+d) s=some s'→∃s1,giveUp n q m s=some s1
 | 0,s',h=>⟨s',h⟩
 | d+1,s',h=>by
  rw[←Nat.add_assoc,giveUp] at h;cases h1:giveUp n q (m+d) s with
  | none=>rw[h1] at h;cases h
  | some s1=>exact NJ d s1 h1
def DF(n q k:Nat):Bool:=
 match giveUp n q k (G5 n q) with
 | none=>false
 | some s=>
  if s.phs.getD q .fresh=.gone then false else
  match Cf n q 24 (J3 q s) with
  | none=>false
  | some s1=>decide (Cf n q 8 s1=some s1∧s1.wait=false∧s1.hist=2∧s1.phs.getD ((q+1) % n) .fresh=.com)
theorem X8:∀k,k<5→DF 7 0 k=true:=by decide +kernel
theorem X9:∀k,k<4→DF 7 0 (k+5)=true:=by decide +kernel
theorem YA:∀k,k<5→DF 7 1 k=true:=by decide +kernel
theorem YB:∀k,k<4→DF 7 1 (k+5)=true:=by decide +kernel
theorem YC:∀k,k<5→DF 7 2 k=true:=by decide +kernel
theorem YD:∀k,k<4→DF 7 2 (k+5)=true:=by decide +kernel
theorem YE:∀k,k<5→DF 7 3 k=true:=by decide +kernel
theorem YF:∀k,k<4→DF 7 3 (k+5)=true:=by decide +kernel
theorem YG:∀k,k<5→DF 7 4 k=true:=by decide +kernel
theorem YH:∀k,k<4→DF 7 4 (k+5)=true:=by decide +kernel
theorem YI:∀k,k<5→DF 7 5 k=true:=by decide +kernel
theorem YJ:∀k,k<4→DF 7 5 (k+5)=true:=by decide +kernel
theorem YK:∀k,k<5→DF 7 6 k=true:=by decide +kernel
theorem YL:∀k,k<4→DF 7 6 (k+5)=true:=by decide +kernel
theorem Zc:∀k,k<9→DF 5 0 k=true:=by decide +kernel
theorem Zd:∀k,k<9→DF 5 1 k=true:=by decide +kernel
theorem Ze:∀k,k<9→DF 5 2 k=true:=by decide +kernel
theorem Zf:∀k,k<9→DF 5 3 k=true:=by decide +kernel
theorem Zg:∀k,k<9→DF 5 4 k=true:=by decide +kernel
theorem gG:∀q,q<3→∀k,k<9→DF 3 q k=true:=by decide +kernel
theorem OO{q:Nat}(a:∀k,k<5→DF 7 q k=true)(b:∀k,k<4→DF 7 q (k+5)=true):∀k,k<9→DF 7 q k=true:=λk hk=>by
 by_cases h:k<5
 ·exact a k h
 ·have:=b (k-5) (by omega);rwa [show k-5+5=k by omega] at this
theorem TZ:(∀q,q<3→∀k,k<9→DF 3 q k=true)∧(∀q,q<5→∀k,k<9→DF 5 q k=true)∧(∀q,q<7→∀k,k<9→DF 7 q k=true):=by
 refine⟨gG,λq hq=>?_,λq hq=>?_⟩
 ·rcases(show q=0∨q=1∨q=2∨q=3∨q=4 by omega) with rfl|rfl|rfl|rfl|rfl
  ·exact Zc
  ·exact Zd
  ·exact Ze
  ·exact Zf
  ·exact Zg
 ·rcases(show q=0∨q=1∨q=2∨q=3∨q=4∨q=5∨q=6 by omega) with rfl|rfl|rfl|rfl|rfl|rfl|rfl
  ·exact OO X8 X9
  ·exact OO YA YB
  ·exact OO YC YD
  ·exact OO YE YF
  ·exact OO YG YH
  ·exact OO YI YJ
  ·exact OO YK YL
theorem YM{n q k:Nat}(hn:n=3∨n=5∨n=7)(hq:q<n)(hk:k≤8):∃s sE,giveUp n q k (G5 n q)=some s∧s.phs.getD q .fresh≠.gone∧Cf n q 200 (J3 q s)=some sE∧sE.wait=false∧sE.hist=2∧sE.phs.getD ((q+1) % n) .fresh=.com:=by
 have h:DF n q k=true:=by
  obtain⟨h3,h5,h7⟩:=TZ;rcases hn with rfl|rfl|rfl
  ·exact h3 q hq k (by omega)
  ·exact h5 q hq k (by omega)
  ·exact h7 q hq k (by omega)
 unfold DF at h;split at h
 ·cases h
 rename_i s hs;split at h
 ·cases h
 rename_i hg;split at h
 ·cases h
 rename_i s1 hs1;obtain⟨h1,h2,h3,h4⟩:=of_decide_eq_true h;refine⟨s,s1,hs,hg,?_,h2,h3,h4⟩;rw[show 200=24+8*22 by rfl,JL hs1,Lh h1]
theorem VP:∃sE,Ko 3 0 (G5 3 0)=some sE∧sE.wait=false∧sE.hist=2∧sE.phs.getD 2 .fresh=.com:=by
 have h:(match Ko 3 0 (G5 3 0) with|none=>false|some s=>decide (s.wait=false∧s.hist=2∧s.phs.getD 2 .fresh=.com))=true:=by decide +kernel
 split at h
 ·cases h
 rename_i s hs;obtain⟨h1,h2,h3⟩:=of_decide_eq_true h;exact⟨s,hs,h1,h2,h3⟩
end Go.Proofs.YtimdpiifpibgfaaGreatDoor
