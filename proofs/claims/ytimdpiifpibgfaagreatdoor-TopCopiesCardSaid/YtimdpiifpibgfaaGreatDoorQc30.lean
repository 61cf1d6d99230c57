/- A part of the proof that the law TopCopies returns true for every input. -/
import Derived.Test.YtimdpiifpibgfaaGreatDoorQc29
import Derived.Test.YtimdpiifpibgfaaGreatDoorQc26
set_option linter.all false
set_option maxRecDepth 20000
set_option maxHeartbeats 16000000
open Go.RowKit Go.Maps
namespace Go.Proofs.YtimdpiifpibgfaaGreatDoor
open Tryz
section
variable [In]
abbrev FQ(m:Nat)(c:Cm):List Value:=[.int .i64 m,.int .i64 In.sl]++cellL 3 c false
def Zd(d:Nat→Int)(g b n B m:Nat)(c:Cm)(l:List Ad)(j:Nat)(vd:Value)(wr:World):Prop:=
 (j≤m∧vd=.bool false∧Ar wr g b n d (.slice none 0 0) l)∨(m<j∧vd=.bool true∧∃R ob,Ar wr g b n (doneD d m) R l∧AO wr R ob 267 23 1 (FQ m c)∧∀k,ob=some k→B≤k)
def Xq(d:Nat→Int)(g b n m:Nat)(c:Cm)(l:List Ad)(w:World)(e:Ending)(w':World):Prop:=∃(s:Nat) (R:Value) (ob:Option Nat),e=.returned (.tuple #[.bool true,.pointer (some ⟨s,0,none⟩)])∧Ar w' g b n (doneD d m) R l∧AO w' R ob 267 23 1 (FQ m c)∧(∀k,ob=some k→w.heap.size≤k)∧Touch g w w'
theorem XR(g b n m:Nat)(c:Cm)(l:List Ad)(w:World)(hm:m<7)(hll:l=[⟨m,In.sl,cellL 3 c false⟩])(d:Nat→Int)(hdm:d m=In.sl-1)(hd9:∀r,r<7→0≤d r∧d r≤1000∧MC m r≤d r)(h:Ar w g b n d (.slice none 0 0) l) :Calls prog 222 #[.pointer (some ⟨g,0,none⟩)] w (Xq d g b n m c l w):=by
 have hin:(⟨m,In.sl,cellL 3 c false⟩:Ad)∈l:=by rw[hll];simp
 have KN:=qh NP;have hbe:∀(q:Nat) (t:Int),q≠m→∀e∈l,¬(e.r=q∧t<e.s):=λq t hq e he=>by rw[hll,List.mem_singleton] at he;subst he;rintro⟨h1,_⟩;exact hq (Int.ofNat.inj h1).symm
 have KB:=qh (λd O (q:Nat) t W (hq:q≠m) (h:Ar W g b n d O l)=>P8 g b n d O l q t W h (hbe q t hq));have KH:=qh (λW (h:Ar W g b n d (.slice none 0 0) l)=>WV g b n (.slice none 0 0) l m c W d h hd9 hin (WalkArith.wf_i64 (by omega)));have KD:=qh (λbl cl W (h:Ar W g b n d (.slice none 0 0) l) hbl=>eQ g b n bl cl l m c d W hdm h hin hm hbl);have hno:∀(j:Nat) (t:Int),j≠m→Fj l j t=false:=λj t hj=>by rw[hll];unfold Fj;simp;intro h;omega
 have hyes:Fj l m In.sl=true:=by rw[hll];simp[Fj]
 have HYES:=qh hyes;have hslb:=In.hsl;have hslw:IntKind.i64.wrap In.sl=In.sl:=IntWalk.i64_in _ (by omega);have HDM:=qh hdm;have HD9:=qh hd9;have HNO:=qh hno;have HLL:=qh hll;have HP:=qh h;have hgl:=h.lt.1;have HT:=qh (Touch.refl g w);clear h hbe hll hin hno hyes hdm hd9;go_in;go_wp2_with fail;refine(KN.o _).mono ?_;rintro e w1 ⟨s,b2,rfl,hs,hb⟩;obtain⟨HP,HT⟩:=DC hb HP HT;have HS:=qh hs;clear hs hb;go_wp2_with fail;generalize hB0:w.heap.size=B at hgl ⊢;go_loopw [13,4] (λvi vd wr=>∃j:Nat,vi=.int .i64 (j:Int)∧j≤7∧Zd d g b n B m c l j vd wr∧Touch g w wr) (λvi _ _=>7 - (intOf vi).toNat);case atStart=>exact⟨0,rfl,by omega,.inl ⟨by omega,rfl,HP.o⟩,HT.o⟩
 case round=>
  clear HP HS HT;obtain⟨j,rfl,hj,hst,ht⟩:=hrel;have HT:=qh ht;have hBr:B≤wr.heap.size:=hB0▸ht.size;clear ht;rcases hst with⟨hjm,rfl,hp⟩|⟨hjm,rfl,R,ob,hp,ho,hob⟩
  ·have HP:=qh hp;clear hp;have hj6:j<7:=by omega
   have HPJ:=qh (HP.YP j hj6);by_cases hjm2:j=m
   ·subst hjm2;obtain⟨v,hv1,hv2,hv3,hlk1,_⟩:=HP.look j In.sl (WalkArith.wf_i64 (by omega)) KY;have hvc:=hv3 ⟨j,In.sl,cellL 3 c false⟩ (by rw[HLL.o];simp) rfl rfl;dsimp only at hvc;rw[HYES.o] at hlk1;have HL:=qh (show OC wr (λW=>(Instr.lookup 246 (.map (some b)) (.agg #[.int .i64 j,.int .i64 In.sl]) true).run prog W=.ok (.tuple #[.agg v.toArray,.bool true]) W) from hlk1);have HV2:=qh hv2;clear hlk1 hv2 hv3 hvc;have dj:wr.cell? ⟨g,j,none⟩=some (.int .i64 (In.sl-1)):=by rw[←HDM.o];exact HPJ.o
    have hjn:(j:Int)<7:=by omega
    go_upto_region 6 with(fail);go_name_world V hV;have hV:BR wr [.cells ([.int .i64 j,.int .i64 In.sl]:List Value).toArray 37]=V:=hV;have HX:=qh (show Holds V (wr.heap.size) 37 ([.int .i64 j,.int .i64 In.sl]) from AX _ hV 0 rfl);have hbV:=Ae _ hV;have hsV:=BP _ hV;simp only[List.length_cons,List.length_nil] at hsV;clear hV;obtain⟨HP,HT,HL⟩:=Du hbV HP HT HL;have hxV:wr.heap.size<V.heap.size:=HX.lt;clear hbV hsV dj hjn;generalize hx0:wr.heap.size=gx at HX hxV ⊢;have hxb:B≤gx:=by have:=hBr;omega
    obtain⟨HP,HT,HX,HL⟩:=Dy (AQ _ V) HP HT HX HL;refine EQ [] 12 (λhSn=>?_);generalize V.drew=wd at HP HT HX HL hSn ⊢;simp only[List.replicate];refine Dz 0 ?_;refine BG 3 [] (λw hSw=>Ag ((HP.bel hSw).ix) 7) ?_;refine BG 4 [] (λw hSw=>CU (HX.bel hSw) 0 1) ?_;refine BG 5 [] (λw hSw=>HL.o w hSw) ?_;refine Dz 6 ?_;refine BH 9 rfl (λK hK=>?_);go_simp;have hal:=λo=>Below.alloc hSn hSn.size o;refine hK.out _ _ (λ_=>hal _) ?_;have hSn:=hal (.cells zero21.toArray 45);have HB6:=qh (show Holds (wd.alloc (.cells zero21.toArray 45)) wd.heap.size 45 zero21 from AA wd _ _);clear hal;change wpAnyL _ _ _ _ _ _ _ _ _ (wd.alloc (.cells zero21.toArray 45));generalize wd.alloc (.cells zero21.toArray 45)=wa at hSn HB6 ⊢;clear hK;try simp only[Act.put,zA,zB,zC]
    refine BH 10 rfl (λK hK=>?_);refine tB v HB6.o ?_ HV2.o (hi:=by rw[hv1];kernel_rfl) (hl:=by rw[hv1];rfl);intro wb hh6 ht6;have hSn:=hSn.trans (ht6.below (Nat.le_refl _) hSn.size);clear hh6 ht6;refine BN hK ?_;clear hK;refine CS 11 ?_;refine Dl ?_;obtain⟨HP,HT,HX,HL⟩:=Dy hSn HP HT HX HL;clear hSn;clear HB6 HL;obtain⟨x0,x1⟩:=CU HX.o 0 1;go_wp2_with fail;refine(KH.o _ HP.o).mono ?_;rintro e w5 ⟨br,rfl,hbr,hbr2,hb5⟩;obtain⟨HP,HT⟩:=DC hb5 HP HT;have HBR:=qh hbr;clear hb5 x0 x1 HX hbr hbr2;go_upto_region 11 with(fail);go_name_world V5 hV5;have hb5:Below w5.heap.size w5 V5:=by rw[←hV5];go_grown
    obtain⟨HP,HT,HBR⟩:=Du hb5 HP HT HBR;have hsz5:=HT.size;clear hV5 hb5;go_wp2_with fail;refine(KD.o br 1 _ HP.o HBR.o).mono ?_;rintro e w6 ⟨R,rfl,hp,hown,ht6⟩;obtain⟨ob,ho,hob⟩:=AO.of hown;have HP:=qh hp;have HO:=qh ho;have HT:=qh (HT.trans ht6);have HOB:=qh (show ∀k,ob=some k→B≤k from λk hk=>by have:=hob k hk;omega);clear hp ho hown hob ht6 HBR;go_wp2_with fail;go_roundw;case rel=>exact⟨j+1,by simp,by omega,.inr ⟨by omega,rfl,R,ob,HP.o,HO.o,HOB.o⟩,HT.o⟩
    case measure=>simp[intOf];omega
   ·obtain⟨hdj1,hdj2,_⟩:=HD9.o j hj6;generalize d j=dj0 at HPJ hdj1 hdj2;have hdw:IntKind.i64.wrap (dj0+1)=dj0+1:=IntWalk.i64_in _ (by omega);obtain⟨v,hv1,hv2,_,hlk1,_⟩:=HP.look j (dj0+1) (WalkArith.wf_i64 (by omega)) (WalkArith.wf_i64 (by omega));rw[HNO.o j _ (by omega)] at hlk1;have HL:=qh (show OC wr (λW=>(Instr.lookup 246 (.map (some b)) (.agg #[.int .i64 j,.int .i64 (dj0+1)]) true).run prog W=.ok (.tuple #[.agg v.toArray,.bool false]) W) from hlk1);have HV2:=qh hv2;clear hlk1 hv2;have dj:wr.cell? ⟨g,j,none⟩=some (.int .i64 dj0):=HPJ.o;have hjn:(j:Int)<7:=by omega
    go_upto_region 6 with(fail);go_name_world V hV;have hV:BR wr [.cells ([.int .i64 j,.int .i64 (dj0+1)]:List Value).toArray 37]=V:=hV;have HX:=qh (show Holds V (wr.heap.size) 37 ([.int .i64 j,.int .i64 (dj0+1)]) from AX _ hV 0 rfl);have hbV:=Ae _ hV;have hsV:=BP _ hV;simp only[List.length_cons,List.length_nil] at hsV;clear hV;obtain⟨HP,HT,HL⟩:=Du hbV HP HT HL;have hxV:wr.heap.size<V.heap.size:=HX.lt;clear hbV hsV dj hjn;generalize hx0:wr.heap.size=gx at HX hxV ⊢;have hxb:B≤gx:=by have:=hBr;omega
    obtain⟨HP,HT,HX,HL⟩:=Dy (AQ _ V) HP HT HX HL;refine EQ [] 12 (λhSn=>?_);generalize V.drew=wd at HP HT HX HL hSn ⊢;simp only[List.replicate];refine Dz 0 ?_;refine BG 3 [] (λw hSw=>Ag ((HP.bel hSw).ix) 7) ?_;refine BG 4 [] (λw hSw=>CU (HX.bel hSw) 0 1) ?_;refine BG 5 [] (λw hSw=>HL.o w hSw) ?_;refine Dz 6 ?_;refine BH 9 rfl (λK hK=>?_);go_simp;have hal:=λo=>Below.alloc hSn hSn.size o;refine hK.out _ _ (λ_=>hal _) ?_;have hSn:=hal (.cells zero21.toArray 45);have HB6:=qh (show Holds (wd.alloc (.cells zero21.toArray 45)) wd.heap.size 45 zero21 from AA wd _ _);clear hal;change wpAnyL _ _ _ _ _ _ _ _ _ (wd.alloc (.cells zero21.toArray 45));generalize wd.alloc (.cells zero21.toArray 45)=wa at hSn HB6 ⊢;clear hK;try simp only[Act.put,zA,zB,zC]
    refine BH 10 rfl (λK hK=>?_);refine tB v HB6.o ?_ HV2.o (hi:=by rw[hv1];kernel_rfl) (hl:=by rw[hv1];rfl);intro wb hh6 ht6;have hSn:=hSn.trans (ht6.below (Nat.le_refl _) hSn.size);clear hh6 ht6;refine BN hK ?_;clear hK;refine CS 11 ?_;refine Dl ?_;obtain⟨HP,HT,HX,HL⟩:=Dy hSn HP HT HX HL;clear hSn;clear HB6 HL;obtain⟨x0,x1⟩:=CU HX.o 0 1;go_wp2_with fail;refine Ac (KB.o _ _ j (dj0+1) _ (by omega) HP.o) ?_;rintro w5 hb5;obtain⟨HP,HT⟩:=DC hb5 HP HT;clear hb5 x0 x1 HX;go_wp2_with fail;go_roundw;case rel=>exact⟨j+1,by simp,by omega,.inl ⟨by omega,rfl,HP.o⟩,HT.o⟩
    case measure=>simp[intOf];omega
  ·have HP:=qh hp;have HO:=qh ho;have HOB:=qh hob;clear hp ho hob;by_cases hj7:j=7
   ·subst hj7;go_wp2_with fail
    go_ret2
    exact⟨_,R,ob,rfl,HP.o,HO.o,hB0▸HOB.o,HT.o⟩
   ·have hj6:j<7:=by omega
    have HPJ:=qh (show wr.cell? ⟨g,j,none⟩=some (.int .i64 (d j)) from by have:=HP.YP j hj6;rw[show doneD d m j=d j from if_neg (by omega)] at this;exact this);obtain⟨hdj1,hdj2,_⟩:=HD9.o j hj6;generalize d j=dj0 at HPJ hdj1 hdj2;have hdw:IntKind.i64.wrap (dj0+1)=dj0+1:=IntWalk.i64_in _ (by omega);obtain⟨v,hv1,hv2,_,hlk1,_⟩:=HP.look j (dj0+1) (WalkArith.wf_i64 (by omega)) (WalkArith.wf_i64 (by omega));rw[HNO.o j _ (by omega)] at hlk1;have HL:=qh (show OC wr (λW=>(Instr.lookup 246 (.map (some b)) (.agg #[.int .i64 j,.int .i64 (dj0+1)]) true).run prog W=.ok (.tuple #[.agg v.toArray,.bool false]) W) from hlk1);have HV2:=qh hv2;clear hlk1 hv2;have dj:wr.cell? ⟨g,j,none⟩=some (.int .i64 dj0):=HPJ.o;have hjn:(j:Int)<7:=by omega
    go_upto_region 6 with(fail);go_name_world V hV;have hV:BR wr [.cells ([.int .i64 j,.int .i64 (dj0+1)]:List Value).toArray 37]=V:=hV;have HX:=qh (show Holds V (wr.heap.size) 37 ([.int .i64 j,.int .i64 (dj0+1)]) from AX _ hV 0 rfl);have hbV:=Ae _ hV;have hsV:=BP _ hV;simp only[List.length_cons,List.length_nil] at hsV;clear hV;obtain⟨HP,HT,HO,HL⟩:=Dy hbV HP HT HO HL;have hxV:wr.heap.size<V.heap.size:=HX.lt;clear hbV hsV dj hjn;generalize hx0:wr.heap.size=gx at HX hxV ⊢;have hxb:B≤gx:=by have:=hBr;omega
    obtain⟨HP,HT,HO,HX,HL⟩:=Fq (AQ _ V) HP HT HO HX HL;refine EQ [] 12 (λhSn=>?_);generalize V.drew=wd at HP HT HO HX HL hSn ⊢;simp only[List.replicate];refine Dz 0 ?_;refine BG 3 [] (λw hSw=>Ag ((HP.bel hSw).ix) 7) ?_;refine BG 4 [] (λw hSw=>CU (HX.bel hSw) 0 1) ?_;refine BG 5 [] (λw hSw=>HL.o w hSw) ?_;refine Dz 6 ?_;refine BH 9 rfl (λK hK=>?_);go_simp;have hal:=λo=>Below.alloc hSn hSn.size o;refine hK.out _ _ (λ_=>hal _) ?_;have hSn:=hal (.cells zero21.toArray 45);have HB6:=qh (show Holds (wd.alloc (.cells zero21.toArray 45)) wd.heap.size 45 zero21 from AA wd _ _);clear hal;change wpAnyL _ _ _ _ _ _ _ _ _ (wd.alloc (.cells zero21.toArray 45));generalize wd.alloc (.cells zero21.toArray 45)=wa at hSn HB6 ⊢;clear hK;try simp only[Act.put,zA,zB,zC]
    refine BH 10 rfl (λK hK=>?_);refine tB v HB6.o ?_ HV2.o (hi:=by rw[hv1];kernel_rfl) (hl:=by rw[hv1];rfl);intro wb hh6 ht6;have hSn:=hSn.trans (ht6.below (Nat.le_refl _) hSn.size);clear hh6 ht6;refine BN hK ?_;clear hK;refine CS 11 ?_;refine Dl ?_;obtain⟨HP,HT,HO,HX,HL⟩:=Fq hSn HP HT HO HX HL;clear hSn;clear HB6 HL;obtain⟨x0,x1⟩:=CU HX.o 0 1;go_wp2_with fail;refine Ac (KB.o _ _ j (dj0+1) _ (by omega) HP.o) ?_;rintro w5 hb5;obtain⟨HP,HT,HO⟩:=Du hb5 HP HT HO;clear hb5 x0 x1 HX;go_wp2_with fail;go_roundw;case rel=>exact⟨j+1,by simp,by omega,.inr ⟨by omega,rfl,R,ob,HP.o,HO.o,HOB.o⟩,HT.o⟩
    case measure=>simp[intOf];omega
end
section
variable [In]
theorem XO(d:Nat→Int)(hd:∀r,r<7→0≤d r∧d r≤1000)(w:World) :Calls prog 163 #[.agg #[.int .i64 (d 0),.int .i64 (d 1),.int .i64 (d 2),.int .i64 (d 3),.int .i64 (d 4),.int .i64 (d 5),.int .i64 (d 6)],.slice none 0 0] w λe w'=>e=.returned (.tuple #[.slice none 0 0,.slice none 0 0])∧Below w.heap.size w w':=by
 have hmm:=@run_makeMap prog;have KR:=qh (λg b W (h:Ar W g b 0 d (.slice none 0 0) [])=>PD g b 0 d (.slice none 0 0) [] W h hd (λr _=>rfl) (λr _ e he=>by cases he));have KL:=qh (λs b W (h:DW W s b)=>L8 s b W h);go_in;go_upto_region 1 with(fail);go_name_world W hW;obtain⟨HX,hbW,hsW⟩:=Ff 41 ([.int .i64 (d 0),.int .i64 (d 1),.int .i64 (d 2),.int .i64 (d 3),.int .i64 (d 4),.int .i64 (d 5),.int .i64 (d 6)]) hW;clear hW;have HB:=qh (Base.start w);have HB:=ET hbW HB;clear hbW hsW;generalize hB0:w.heap.size=B at HX HB ⊢;have HRG:=qh HX.AY;go_wp2_with (first|(refine lM 0 HRG.o ?_));have hp:Ar ((W.alloc (.map #[] 0)).alloc (.cells (Cf d++[Value.map (some W.heap.size),Value.slice none 0 0]).toArray 327)) (W.heap.size+1) W.heap.size 0 d (.slice none 0 0) []:=⟨by
  have:=AA (W.alloc (.map #[] 0)) 327 (Cf d++[Value.map (some W.heap.size),Value.slice none 0 0]);rw[World.size_alloc] at this;exact this,⟨_,(World.ownsMap_made W prog 37 BO).alloc _,Fv.empty⟩,λe he=>(by cases he),λe he=>(by cases he)⟩
 have hal:Below W.heap.size W ((W.alloc (.map #[] 0)).alloc (.cells (Cf d++[Value.map (some W.heap.size),Value.slice none 0 0]).toArray 327)):=by have h1:Below W.heap.size W (W.alloc (.map #[] 0)):=(Below.refl _ _).alloc (Nat.le_refl _) _;exact h1.alloc h1.size _
 go_name_world W2 hW2;have hW2:(W.alloc (.map #[] 0)).alloc (.cells (Cf d++[Value.map (some W.heap.size),Value.slice none 0 0]).toArray 327)=W2:=hW2;rw[hW2] at hp hal;have HP:=qh hp;have HB:=ET hal HB;clear hp hal hW2 HRG HX;generalize W.heap.size+1=g at HP ⊢;generalize W.heap.size=b at HP ⊢
 go_loop [19] (λvi=>vi=.int .i64 0) (λ_=>0)
 case atStart=>exact rfl
 case round=>
  obtain rfl:=hrel;go_wp2_with fail;go_loopw [] (λwr=>wr=W2) (λ_=>0);case atStart=>exact rfl
  case round=>
   obtain rfl:=hrel;go_wp2_with fail;refine(KR.o g b _ HP.o).mono ?_;rintro e w3 ⟨s,b2,rfl,hs,hb⟩;obtain⟨HP,HB⟩:=DC hb HP HB;have HS:=qh hs;clear hs hb;go_upto_region 11 with(fail);obtain⟨HP,HB,HS⟩:=Du (AQ _ w3) HP HB HS;refine EQ [] 8 (λhSn=>?_);generalize w3.drew=wd at HP HB HS hSn ⊢;simp only[List.replicate];refine Dz 0 ?_;refine BG 3 [] (λw hSw=>Ag ((HP.bel hSw).ix) 8) ?_;refine CS 4 ?_;refine BH 5 rfl (λK hK=>?_);go_simp;refine Ac (KL.o s b2 _ (HS.bel hSn)) ?_;rintro w7 hb;have hSn:=AB hSn hb;clear hb;refine BN hK ?_;clear hK;refine FT 6 ?_;refine Dl ?_;obtain⟨HP,HB,HS⟩:=Du hSn HP HB HS;clear hSn;clear HP HS;go_wp2_with fail
   go_ret2
   exact⟨rfl,hB0▸HB.below⟩
def Yn:List Value:=[.int .i64 0,.int .i64 0,.int .i64 0,.int .i64 0,.int .i64 0,.int .i64 0,.int .i64 0,.int .i64 0,.int .i64 0,.int .i64 0,.string ⟨#[]⟩,.string ⟨#[]⟩,.string ⟨#[]⟩,.string ⟨#[]⟩,.int .i64 0,.int .i64 0,.int .i64 0,.int .i64 0,.int .i64 0,.int .i64 0,.int .i64 0,.int .i64 0,.bool false]
theorem Wl(m:Nat)(c:Cm):(FQ m c).toArray.all (·.oneCell')=true:=by simp[FQ,cellL,Value.oneCell']
def jK:Value→Nat
 | .bool true=>0
 | _=>1
def Zb(m:Nat)(c:Cm)(w:World)(e:Ending)(w':World):Prop:=∃(R:Value) (ob:Option Nat),e=.returned (.tuple #[R,.slice none 0 0])∧AO w' R ob 267 23 1 (FQ m c)∧(∀k,ob=some k→w.heap.size≤k)∧Below w.heap.size w w'
theorem Y5(m gk ck:Nat)(c:Cm)(rest:List Value)(d:Nat→Int)(w:World)(hdm:d m=In.sl-1)(hd9:∀r,r<7→0≤d r∧d r≤1000∧MC m r≤d r)(hm:m<7)(hk:Holds w gk 267 (FQ m c++rest)) :Calls prog 163 #[.agg #[.int .i64 (d 0),.int .i64 (d 1),.int .i64 (d 2),.int .i64 (d 3),.int .i64 (d 4),.int .i64 (d 5),.int .i64 (d 6)],.slice (some ⟨gk,0,none⟩) 1 ck] w (Zb m c w):=by
 have hmm:=@run_makeMap prog;have KR:=qh (λg b n l W hll (h:Ar W g b n d (.slice none 0 0) l)=>XR g b n m c l W hm hll d hdm hd9 h);have KR0:=qh (λg b n R l W (hll:l=[⟨m,In.sl,cellL 3 c false⟩]) (h:Ar W g b n (doneD d m) R l)=>PD g b n (doneD d m) R l W h (λr hr7=>by
  have:=hd9 r hr7;have:=In.hsl;unfold doneD;split<;>omega) (λr _=>by
  rw[hll];refine VV λe he hc=>?_;rw[List.mem_singleton.1 he] at hc;unfold doneD at hc;dsimp only at hc;by_cases hr:r=m
  ·rw[if_pos hr] at hc;omega
  ·omega) (λr _ e he=>by
  rw[hll,List.mem_singleton] at he;subst he;unfold doneD;dsimp only;by_cases hr:r=m
  ·rw[if_pos hr];omega
  ·omega))
 have KL:=qh (λs b W (h:DW W s b)=>L8 s b W h);have HK:=qh hk;have hkl:=hk.lt;clear hk;go_in;go_upto_region 1 with(fail);go_name_world W hW;obtain⟨HX,hbW,hsW⟩:=Ff 41 ([.int .i64 (d 0),.int .i64 (d 1),.int .i64 (d 2),.int .i64 (d 3),.int .i64 (d 4),.int .i64 (d 5),.int .i64 (d 6)]) hW;clear hW;have HB:=qh (Base.start w);obtain⟨HB,HK⟩:=DC hbW HB HK;clear hbW hsW;generalize hB0:w.heap.size=B at HX HB hkl ⊢;have HRG:=qh HX.AY;go_wp2_with (first|(refine lM 0 HRG.o ?_));have hp:Ar ((W.alloc (.map #[] 0)).alloc (.cells (Cf d++[Value.map (some W.heap.size),Value.slice none 0 0]).toArray 327)) (W.heap.size+1) W.heap.size 0 d (.slice none 0 0) []:=⟨by
  have:=AA (W.alloc (.map #[] 0)) 327 (Cf d++[Value.map (some W.heap.size),Value.slice none 0 0]);rw[World.size_alloc] at this;exact this,⟨_,(World.ownsMap_made W prog 37 BO).alloc _,Fv.empty⟩,λe he=>(by cases he),λe he=>(by cases he)⟩
 have hal:Below W.heap.size W ((W.alloc (.map #[] 0)).alloc (.cells (Cf d++[Value.map (some W.heap.size),Value.slice none 0 0]).toArray 327)):=by have h1:Below W.heap.size W (W.alloc (.map #[] 0)):=(Below.refl _ _).alloc (Nat.le_refl _) _;exact h1.alloc h1.size _
 go_name_world W2 hW2;have hW2:(W.alloc (.map #[] 0)).alloc (.cells (Cf d++[Value.map (some W.heap.size),Value.slice none 0 0]).toArray 327)=W2:=hW2;rw[hW2] at hp hal;have HP:=qh hp;have hBW:=HB.le;obtain⟨HB,HK⟩:=DC hal HB HK;clear hp hal hW2 HRG HX;have hgb:B≤W.heap.size+1:=by omega
 generalize W.heap.size+1=g at HP hgb ⊢;generalize W.heap.size=b at HP hBW ⊢;go_loopw [19] (λvi wr=>∃i:Nat,vi=.int .i64 (i:Int)∧((i=0∧wr=W2)∨(i=1∧Ar wr g b 1 d (.slice none 0 0) [⟨m,In.sl,cellL 3 c false⟩]∧Base B w wr))) (λvi _=>1 - (intOf vi).toNat);case atStart=>exact⟨0,rfl,.inl ⟨rfl,rfl⟩⟩
 case round=>
  obtain⟨i,rfl,⟨rfl,rfl⟩|⟨rfl,hp,hb⟩⟩:=hrel
  ·have HRG:=qh (HK.o.Ci 0 (cs:=FQ m c) (λj v hv=>by rw[Nat.zero_add,List.getElem?_append_left (List.getElem?_eq_some_iff.1 hv).1];exact hv));go_upto_region 5 with(first|(refine lM 0 HRG.o ?_)|(refine sW (FQ m c) (AA wr _ Yn) ?_ (Wl _ _);intro V hh7 ht7));have HY:=qh hh7;have hb7:Below wr.heap.size wr V:=Below.trans ((Below.refl _ _).alloc (Nat.le_refl _) _) (ht7.below (Nat.le_refl _) (by simp));have hyb:B≤wr.heap.size:=HB.le;obtain⟨HP,HB⟩:=DC hb7 HP HB;clear hh7 ht7 hb7 HRG HK;obtain⟨v,hv1,hv2,_,hlk1,_⟩:=HP.look m In.sl (WalkArith.wf_i64 (by omega)) KY;have HL:=qh (show OC V (λW=>(Instr.lookup 246 (.map (some b)) (.agg #[.int .i64 m,.int .i64 In.sl]) true).run prog W=.ok (.tuple #[.agg v.toArray,.bool false]) W) from hlk1);have HV2:=qh hv2;clear hlk1 hv2;generalize wr.heap.size=gy at HY hyb ⊢;obtain⟨HP,HB,HY,HL⟩:=Dy (AQ _ V) HP HB HY HL;refine EQ [] 13 (λhSn=>?_);generalize V.drew=wd at HP HB HY HL hSn ⊢;simp only[List.replicate];refine Dz 0 ?_;refine BG 3 [] (λw hSw=>Ag ((HP.bel hSw).ix) 7) ?_;refine CS 4 ?_;refine BG 5 [] (λw hSw=>CU (HY.bel hSw) 0 1) ?_;refine BG 6 [] (λw hSw=>HL.o w hSw) ?_;refine Dz 7 ?_;refine BH 10 rfl (λK hK=>?_);go_simp;have hal:=λo=>Below.alloc hSn hSn.size o;refine hK.out _ _ (λ_=>hal _) ?_;have hSn:=hal (.cells zero21.toArray 45);have HB6:=qh (show Holds (wd.alloc (.cells zero21.toArray 45)) wd.heap.size 45 zero21 from AA wd _ _);clear hal;change wpAnyL _ _ _ _ _ _ _ _ _ (wd.alloc (.cells zero21.toArray 45));generalize wd.alloc (.cells zero21.toArray 45)=wa at hSn HB6 ⊢;clear hK;try simp only[Act.put,zA,zB,zC]
   refine BH 11 rfl (λK hK=>?_);refine tB v HB6.o ?_ HV2.o (hi:=by rw[hv1];kernel_rfl) (hl:=by rw[hv1];rfl);intro wb hh6 ht6;have hSn:=hSn.trans (ht6.below (Nat.le_refl _) hSn.size);clear hh6 ht6;refine BN hK ?_;clear hK;refine CS 12 ?_;refine Dl ?_;obtain⟨HP,HB,HY,HL⟩:=Dy hSn HP HB HY HL;clear hSn;clear HB6 HL;have y2:=Ag HY.o 2;go_upto_region 7 with(fail);clear y2;have hgood:Ij [(⟨m,In.sl,cellL 3 c false⟩:Ad)]:=λe he=>by rw[List.mem_singleton] at he;subst he;have:=In.hsl;exact⟨⟨by simp,by simp;omega⟩,by simp;omega,by simp;omega⟩
   have HG:=qh hgood;have HKY:=qh (Dc m In.sl (WalkArith.wf_i64 (by omega)) KY);clear hgood;have HRY:=qh (λ(w':World) (h:Below wb.drew.heap.size wb.drew w')=>(((HY.bel (AQ _ wb)).bel h).Ci 2 (cs:=cellL 3 c false) (λj v hv=>by rw[Nat.add_comm];exact hv)));obtain⟨HP,HB,HY⟩:=Du (AQ _ wb) HP HB HY;refine EQ [8] 9 (λhSn=>?_);generalize wb.drew=wd at HP HB HY HRY hSn ⊢;simp only[List.replicate];refine Dz 0 ?_;refine BG 3 [8] (λw hSw=>Ag ((HP.bel hSw).ix) 7) ?_;refine CS 4 ?_;refine BG 5 [8] (λw hSw=>CU (HY.bel hSw) 0 1) ?_;refine CS 6 ?_;refine He 7 [8] (some 47) (.agg (cellL 3 c false).toArray) rfl (yieldsIf_load_mid (by rfl) 45 _ rfl gy 2 rfl (cellL 3 c false) _ (λw hSw=>HRY.o w hSw) underlying45 rfl (by as_aux_lemma=>kernel_rfl)) hSn ?rg26;simp only[Act.put,zA,zB,zC];refine BH 8 rfl (λK hK=>?_);obtain⟨D,hown,hl⟩:=(HP.bel hSn).map;refine FX rfl _ _ _ 246 rfl 37 45 CG underlying246 BO b 0 D rfl hown (by unfold maxLen;omega) (DZ m In.sl) (.agg (cellL 3 c false).toArray) (G7 m In.sl) rfl rfl HKY.o (.held (.agg (cellL 3 c false).toArray)) [] rfl ?_;intro w8 hown8 hg8;have ht8:=BM hg8;have hp8:Ar w8 g b 1 d (.slice none 0 0) [⟨m,In.sl,cellL 3 c false⟩]:=⟨(HP.bel hSn).ix.touch ht8 (HP.bel hSn).ne,⟨_,hown8,hl.put (HP.bel hSn).wf ⟨m,In.sl,cellL 3 c false⟩ ⟨WalkArith.wf_i64 (by simp;omega),KY⟩⟩,HG.o,λe he=>by rw[List.mem_singleton] at he;subst he;exact Je _ _ _⟩;have HP8:=qh hp8;have HB8:=qh ((HB.bel hSn).touch ht8 hBW);clear hown8 hg8 ht8 hp8 hown hl;refine BN hK ?_;clear hK;refine Dl ?_;clear hSn HP HB HY HRY;go_wp2_with fail;go_roundw;case rel=>exact⟨1,rfl,.inr ⟨rfl,HP8.o,HB8.o⟩⟩
   case measure=>simp[intOf]
  ·have HP:=qh hp;have HB:=qh hb;clear hp hb HK;go_wp2_with fail;go_loopw [11] (λvd w2=>(vd=undef∧Ar w2 g b 1 d (.slice none 0 0) [⟨m,In.sl,cellL 3 c false⟩]∧Base B w w2)∨(vd=.bool true∧Base B w w2∧∃R ob,Ar w2 g b 1 (doneD d m) R [⟨m,In.sl,cellL 3 c false⟩]∧AO w2 R ob 267 23 1 (FQ m c)∧∀k,ob=some k→B≤k)) (λvd _=>jK vd);case atStart=>exact .inl ⟨rfl,HP.o,HB.o⟩
   case round=>
    clear HP HB;rcases hrel with⟨rfl,hp,hb⟩|⟨rfl,hb,R,ob,hp,ho,hob⟩
    ·have HP:=qh hp;have HB:=qh hb;have hbs:=hb.le;clear hp hb;go_wp2_with fail;refine(KR.o g b 1 _ _ rfl HP.o).mono ?_;rintro e w3 ⟨s,R,ob,rfl,hp,ho,hob,ht⟩;have HP:=qh hp;have HO:=qh ho;have HOB:=qh (show ∀k,ob=some k→B≤k from λk hk=>Nat.le_trans hbs (hob k hk));have HB:=qh (HB.touch ht hgb);clear hp ho hob ht;go_wp2_with fail;go_roundw;case rel=>
      repeat apply Exists.intro
      exact⟨.inr ⟨rfl,HB.o,R,ob,HP.o,HO.o,HOB.o⟩,rfl⟩
     case measure=>simp[jK];exact Nat.zero_lt_one
    ·have HP:=qh hp;have HB:=qh hb;have HO:=qh ho;have HOB:=qh hob;clear hp hb ho hob;go_wp2_with fail;refine(KR0.o g b 1 R _ _ rfl HP.o).mono ?_;rintro e w3 ⟨s,b2,rfl,hs,hb⟩;obtain⟨HP,HB,HO⟩:=Du hb HP HB HO;have HS:=qh hs;clear hs hb;go_upto_region 11 with(fail);obtain⟨HP,HB,HS,HO⟩:=Dy (AQ _ w3) HP HB HS HO;refine EQ [] 8 (λhSn=>?_);generalize w3.drew=wd at HP HB HS HO hSn ⊢;simp only[List.replicate];refine Dz 0 ?_;refine BG 3 [] (λw hSw=>Ag ((HP.bel hSw).ix) 8) ?_;refine CS 4 ?_;refine BH 5 rfl (λK hK=>?_);go_simp;refine Ac (KL.o s b2 _ (HS.bel hSn)) ?_;rintro w7 hb;have hSn:=AB hSn hb;clear hb;refine BN hK ?_;clear hK;refine FT 6 ?_;refine Dl ?_;obtain⟨HP,HB,HS,HO⟩:=Dy hSn HP HB HS HO;clear hSn;clear HP HS;go_wp2_with fail
     go_ret2
     exact⟨R,ob,rfl,HO.o,hB0▸HOB.o,hB0▸HB.below⟩
end
def A7(n me gd gw gc gfr:Nat)(P:Value)(o:Nat→Ow)(pv:Nat→Value)(d kp:Nat→Int)(since tk:Int)(waits out ans:Value):List Value:=
 [.int .i64 n,.int .i64 me,.pointer (some ⟨gd,0,none⟩),.pointer (some ⟨gw,0,none⟩),.pointer (some ⟨gc,0,none⟩),.pointer (some ⟨gfr,0,none⟩),P,
  .int .i64 (o 0).seq,.int .i64 (o 0).rep.why,.bool (o 0).rep.fd,.string (o 0).rep.val,.int .i64 (o 0).rep.ver,pv 0,
  .int .i64 (o 1).seq,.int .i64 (o 1).rep.why,.bool (o 1).rep.fd,.string (o 1).rep.val,.int .i64 (o 1).rep.ver,pv 1,
  .int .i64 (o 2).seq,.int .i64 (o 2).rep.why,.bool (o 2).rep.fd,.string (o 2).rep.val,.int .i64 (o 2).rep.ver,pv 2,
  .int .i64 (o 3).seq,.int .i64 (o 3).rep.why,.bool (o 3).rep.fd,.string (o 3).rep.val,.int .i64 (o 3).rep.ver,pv 3,
  .int .i64 (o 4).seq,.int .i64 (o 4).rep.why,.bool (o 4).rep.fd,.string (o 4).rep.val,.int .i64 (o 4).rep.ver,pv 4,
  .int .i64 (o 5).seq,.int .i64 (o 5).rep.why,.bool (o 5).rep.fd,.string (o 5).rep.val,.int .i64 (o 5).rep.ver,pv 5,
  .int .i64 (o 6).seq,.int .i64 (o 6).rep.why,.bool (o 6).rep.fd,.string (o 6).rep.val,.int .i64 (o 6).rep.ver,pv 6,
  .int .i64 (o 7).seq,.int .i64 (o 7).rep.why,.bool (o 7).rep.fd,.string (o 7).rep.val,.int .i64 (o 7).rep.ver,pv 7,
  .int .i64 (d 0),.int .i64 (d 1),.int .i64 (d 2),.int .i64 (d 3),.int .i64 (d 4),.int .i64 (d 5),.int .i64 (d 6),
  .int .i64 (kp 0),.int .i64 (kp 1),.int .i64 (kp 2),.int .i64 (kp 3),.int .i64 (kp 4),.int .i64 (kp 5),.int .i64 (kp 6),
  .int .i64 since,.int .i64 tk,waits,out,ans,.bool false]
theorem TG(n me gd gw gc gfr:Nat)(P:Value)(o:Nat→Ow)(pv:Nat→Value)(d kp:Nat→Int)(since tk:Int)(waits out ans:Value)(x:Int):(A7 n me gd gw gc gfr P o pv d kp since tk waits out ans).set 69 (.int .i64 x)=(A7 n me gd gw gc gfr P o pv d kp x tk waits out ans):=rfl
theorem TI(n me gd gw gc gfr:Nat)(P:Value)(o:Nat→Ow)(pv:Nat→Value)(d kp:Nat→Int)(since tk:Int)(waits out ans:Value)(P2:Value)(o2:Nat→Ow)(pv2:Nat→Value):splice (A7 n me gd gw gc gfr P o pv d kp since tk waits out ans) 6 (Es P2 o2 pv2)=(A7 n me gd gw gc gfr P2 o2 pv2 d kp since tk waits out ans):=rfl
theorem Uu(n me gd gw gc gfr:Nat)(P:Value)(o:Nat→Ow)(pv:Nat→Value)(d kp:Nat→Int)(since tk:Int)(waits out ans:Value)(k2:Nat→Int):splice (A7 n me gd gw gc gfr P o pv d kp since tk waits out ans) 62 (DF k2)=(A7 n me gd gw gc gfr P o pv d k2 since tk waits out ans):=rfl
def kL(d:Nat→Int)(q:Nat)(x:Int)(r:Nat):Int:=if r=q then x else d r
theorem Ut(n me gd gw gc gfr:Nat)(P:Value)(o:Nat→Ow)(pv:Nat→Value)(d kp:Nat→Int)(since tk:Int)(waits out ans:Value)(q:Nat)(x:Int)(hq:q<7):(A7 n me gd gw gc gfr P o pv d kp since tk waits out ans).set (55+q) (.int .i64 x)=(A7 n me gd gw gc gfr P o pv (kL d q x) kp since tk waits out ans):=by rcases(show q=0∨q=1∨q=2∨q=3∨q=4∨q=5∨q=6 by omega) with rfl|rfl|rfl|rfl|rfl|rfl|rfl<;>rfl
theorem IK(n me gd gw gc gfr:Nat)(P:Value)(o:Nat→Ow)(pv:Nat→Value)(d kp:Nat→Int)(since tk:Int)(waits out ans:Value)(q:Nat)(hq:q<7):(A7 n me gd gw gc gfr P o pv d kp since tk waits out ans)[55+q]?=some (.int .i64 (d q)):=by rcases(show q=0∨q=1∨q=2∨q=3∨q=4∨q=5∨q=6 by omega) with rfl|rfl|rfl|rfl|rfl|rfl|rfl<;>rfl
theorem MV(n me gd gw gc gfr:Nat)(P:Value)(o:Nat→Ow)(pv:Nat→Value)(d kp:Nat→Int)(since tk:Int)(waits out ans:Value):∀(j:Nat) u,(Es P o pv)[j]?=some u→(A7 n me gd gw gc gfr P o pv d kp since tk waits out ans)[6+j]?=some u:=by
 intro j u h;have hj:j<49:=(List.getElem?_eq_some_iff.1 h).1;have e:(A7 n me gd gw gc gfr P o pv d kp since tk waits out ans)[6+j]?=(Es P o pv)[j]?:=by have:(Es P o pv)=((A7 n me gd gw gc gfr P o pv d kp since tk waits out ans).drop 6).take 49:=rfl;rw[this,List.getElem?_take_of_lt hj,List.getElem?_drop]
 rw[e];exact h
theorem Oy(n me gd gw gc gfr:Nat)(P:Value)(o:Nat→Ow)(pv:Nat→Value)(d kp:Nat→Int)(since tk:Int)(waits out ans:Value):∀(j:Nat) u,(DF d)[j]?=some u→(A7 n me gd gw gc gfr P o pv d kp since tk waits out ans)[55+j]?=some u:=by
 intro j u h;have hj:j<7:=(List.getElem?_eq_some_iff.1 h).1;have e:(A7 n me gd gw gc gfr P o pv d kp since tk waits out ans)[55+j]?=(DF d)[j]?:=by have:(DF d)=((A7 n me gd gw gc gfr P o pv d kp since tk waits out ans).drop 55).take 7:=rfl;rw[this,List.getElem?_take_of_lt hj,List.getElem?_drop]
 rw[e];exact h
theorem Y0(n me gd gw gc gfr:Nat)(P:Value)(o:Nat→Ow)(pv:Nat→Value)(d kp:Nat→Int)(since tk:Int)(waits out ans:Value):∀(j:Nat) u,(DF kp)[j]?=some u→(A7 n me gd gw gc gfr P o pv d kp since tk waits out ans)[62+j]?=some u:=by
 intro j u h;have hj:j<7:=(List.getElem?_eq_some_iff.1 h).1;have e:(A7 n me gd gw gc gfr P o pv d kp since tk waits out ans)[62+j]?=(DF kp)[j]?:=by have:(DF kp)=((A7 n me gd gw gc gfr P o pv d kp since tk waits out ans).drop 62).take 7:=rfl;rw[this,List.getElem?_take_of_lt hj,List.getElem?_drop]
 rw[e];exact h
theorem Oz(n me gd gw gc gfr:Nat)(P:Value)(o:Nat→Ow)(pv:Nat→Value)(d kp:Nat→Int)(since tk:Int)(waits out ans:Value)(k:Nat)(hk:k<8):∀(j:Nat) u,(Gl (o k) (pv k))[j]?=some u→(A7 n me gd gw gc gfr P o pv d kp since tk waits out ans)[7+k*6+j]?=some u:=by intro j u h;have:=MV n me gd gw gc gfr P o pv d kp since tk waits out ans (1+k*6+j) u (Qz o pv k hk P j u h);rw[show 7+k*6+j=6+(1+k*6+j) by omega];exact this
def N9(w:World)(F:Af)(T:List TypeId)(k:Nat):Prop:=¬F k∨∃t L,Holds w k t L∧t∉T
theorem N9.ne{w:World}{F:Af}{T:List TypeId}{k a:Nat}{t:TypeId}{L:List Value}(h:N9 w F T k)(ha:Holds w a t L)(hf:F a)(ht:t∈T):k≠a:=by
 rintro rfl;rcases h with h|⟨t',L',h,hn⟩
 ·exact h hf
 ·exact absurd rfl (h.ne_of ha (λe=>hn (e▸ht)))
def Dx(w:World)(F:Af)(T:List TypeId)(k:Nat):Prop:=N9 w F T k∨Gv w k
theorem Dx.ne{w:World}{F:Af}{T:List TypeId}{k a:Nat}{t:TypeId}{L:List Value}(h:Dx w F T k)(ha:Holds w a t L)(hf:F a)(ht:t∈T):k≠a:=by
 rcases h with h|hm
 ·exact h.ne ha hf ht
 ·exact(Bv hm ha).symm
theorem N9.Yz{w:World}{F:Af}{T:List TypeId}{k b:Nat}(h:N9 w F T k)(hm:Gv w b)(hf:F b):k≠b:=by
 rintro rfl;rcases h with h|⟨t',L',h,hn⟩
 ·exact h hf
 ·exact absurd rfl (Bv hm h)
theorem AO.away{w w':World}{F G:Af}{T:List TypeId}{v:Value}{ob:Option Nat}{e:TypeId}{s n:Nat}{xs:List Value}(h:AO w v ob e s n xs)(hF:∀g,ob=some g→F g)(hm:Mv G w w')(hG:∀k,G k→k<w.heap.size→Dx w F T k)(he:e∈T):AO w' v ob e s n xs:=by
 rcases h.cases with⟨rfl,rfl,rfl,rfl⟩|⟨g,cap,rest,rfl,rfl,h1,h2,h3,h4⟩
 ·exact AO.nil _ _ _
 ·exact h.mv hm λg' hg' hGg=>by cases hg';exact(hG g hGg h3.lt).ne h3 (hF g rfl) he rfl
theorem Holds.away{w w':World}{F G:Af}{T:List TypeId}{a:Nat}{t:TypeId}{L:List Value}(h:Holds w a t L)(hf:F a)(hm:Mv G w w')(hG:∀k,G k→k<w.heap.size→Dx w F T k)(he:t∈T):Holds w' a t L:=
 h.mv hm λhGa=>(hG a hGa h.lt).ne h hf he rfl
def IB(w:World)(F:Af)(T:List TypeId):Af:=λk=>F k∧∃t L,Holds w k t L∧t∈T
theorem IB.ne{w:World}{F:Af}{T:List TypeId}{k a:Nat}{t:TypeId}{L:List Value}(h:IB w F T k)(ha:Holds w a t L)(ht:t∉T):k≠a:=by rintro rfl;obtain⟨_,t',L',h',h2⟩:=h;exact h'.ne_of ha (λe=>ht (e▸h2)) rfl
theorem IB.Io{w:World}{F:Af}{T:List TypeId}{v:Value}{ob:Option Nat}{e:TypeId}{s n:Nat}{xs:List Value}(h:AO w v ob e s n xs)(he:e∉T):∀g,ob=some g→¬IB w F T g:=λg hg hF=>by
 rcases h.cases with⟨_,h0,_⟩|⟨g1,_,_,_,h0,_,_,hh,_⟩
 ·rw[h0] at hg;cases hg
 ·rw[h0] at hg;cases hg;exact hF.ne hh he rfl
theorem IB.not{w:World}{F:Af}{T:List TypeId}{a:Nat}{t:TypeId}{L:List Value}(ha:Holds w a t L)(ht:t∉T):¬IB w F T a:=λh=>h.ne ha ht rfl
theorem IB.away{w:World}{F:Af}{T T':List TypeId}(hT:∀t∈T,t∉T'):∀k,IB w F T k→Dx w F T' k:=λk ⟨_,t,L,h,h2⟩=>.inl (.inr ⟨t,L,h,hT t h2⟩)
theorem IB.bel{w w':World}{F:Af}{T:List TypeId}(hb:Below w.heap.size w w'):∀k,IB w F T k→IB w' F T k:=λk ⟨h1,t,L,h,h2⟩=>⟨h1,t,L,h.bel hb,h2⟩
def D7:List TypeId:=[125,129,208]
def GX:List TypeId:=[125,129,208,5]
def D5(w:World)(F:Af)(gd gw mb:Nat):Prop:=
 ∃fs of im sg k,BD w gd fs of (im++sg)∧BK im sg k mb∧1≤k∧Holds w gw 208 (Gn gd 1 (k:Int))∧F gd∧F gw∧(∀g,of=some g→F g)∧(∀x∈im++sg,∀g,x.ob=some g→F g)
theorem D5.bel{w w':World}{F:Af}{gd gw mb:Nat}(h:D5 w F gd gw mb)(hb:Below w.heap.size w w'):D5 w' F gd gw mb:=by obtain⟨fs,of,im,sg,k,h1,h2,h3,h4,h5⟩:=h;exact⟨fs,of,im,sg,k,h1.bel hb,h2,h3,h4.bel hb,h5⟩
instance {w w':World}{F:Af}{gd gw mb:Nat}:Bl w w' (D5 w F gd gw mb) (D5 w' F gd gw mb):=⟨λhb h=>D5.bel h hb⟩
theorem Fg.lt{w:World}{x:Fl}(h:Fg w x):∀g,x.ob=some g→g<w.heap.size:=by obtain⟨_,ho,_⟩:=h;exact AO.lt ho
theorem D5.foot{w:World}{F F':Af}{gd gw mb:Nat}(h:D5 w F gd gw mb)(hF:∀k,F k→k<w.heap.size→F' k):D5 w F' gd gw mb:=by obtain⟨fs,of,im,sg,k,h1,h2,h3,h4,h5,h6,h7,h8⟩:=h;exact⟨fs,of,im,sg,k,h1,h2,h3,h4,hF _ h5 h1.d.lt,hF _ h6 h4.lt,λg hg=>hF g (h7 g hg) (AO.lt h1.f g hg),λx hx g hg=>hF g (h8 x hx g hg) ((h1.b x hx).lt g hg)⟩
theorem D5.away{w w':World}{F G:Af}{T:List TypeId}{gd gw mb:Nat}(h:D5 w F gd gw mb)(hm:Mv G w w')(hG:∀k,G k→k<w.heap.size→Dx w F T k)(hT:∀t∈GX,t∈T):D5 w' F gd gw mb:=by obtain⟨fs,of,im,sg,k,h1,h2,h3,h4,h5,h6,h7,h8⟩:=h;refine⟨fs,of,im,sg,k,⟨h1.d.away h5 hm hG (hT _ (by decide)),AO.away h1.f h7 hm hG (hT _ (by decide)),λx hx=>?_⟩,h2,h3,h4.away h6 hm hG (hT _ (by decide)),h5,h6,h7,h8⟩;obtain⟨bs,ho,hr⟩:=h1.b x hx;exact⟨bs,ho.away (h8 x hx) hm hG (hT _ (by decide)),hr⟩
theorem jq(gw gd gl c m M:Nat)(F:Af)(r:Value)(rest:List Value)(w:World)(h:D5 w F gd gw M)(hM:M≤28000)(hg:Holds w gl 127 (r :: rest))(hr:BZ w r m)(h1:1≤m)(h2:m≤1000) :Calls prog 161 #[.pointer (some ⟨gw,0,none⟩),.slice (some ⟨gl,0,none⟩) 1 c] w λe w'=>e=.returned (.int .i64 0)∧D5 w' (grow F w w') gd gw (M+(m+6))∧Mv (IB w F D7) w w':=by
 obtain⟨fs,of,im,sg,k,a1,a2,a3,a4,a5,a6,a7,a8⟩:=h;refine Ac (jr gw gd gl c m k M fs of im sg r rest w a4 a1 a2 a3 hM hg hr h1 h2) ?_;rintro w' ⟨fs',of',sg',k',b1,b2,b3,b4,b5,b6,b7⟩;have hs:=b7.size;refine⟨rfl,⟨fs',of',im,sg',k',b1,b2,b3,b6,.inl a5,.inl a6,λg hg=>?_,λx hx g hg=>?_⟩,b7.more λk hk=>?_⟩
 ·rcases b4 with e|⟨g',e,h⟩
  ·exact .inl (a7 g (e▸hg))
  ·rw[e] at hg;cases hg;exact .inr ⟨h,AO.lt b1.f _ e⟩
 ·rcases b5 x hx with⟨y,hy,e⟩|h
  ·exact .inl (a8 y hy g (e▸hg))
  ·exact .inr ⟨h g hg,(b1.b x hx).lt g hg⟩
 ·rcases hk with rfl|hk|rfl
  ·exact⟨a5,_,_,a1.d,by decide⟩
  ·refine⟨a7 k hk,?_⟩;rcases AO.cases a1.f with⟨_,h0,_⟩|⟨g1,_,_,_,h0,_,_,hh,_⟩
   ·rw[h0] at hk;cases hk
   ·rw[h0] at hk;cases hk;exact⟨_,_,hh,by decide⟩
  ·exact⟨a6,_,_,a4,by decide⟩
theorem iK(gw gd M:Nat)(F:Af)(w:World)(h:D5 w F gd gw M) :Calls prog 161 #[.pointer (some ⟨gw,0,none⟩),.slice none 0 0] w λe w'=>e=.returned (.int .i64 0)∧Below w.heap.size w w':=by obtain⟨fs,of,im,sg,k,a1,a2,a3,a4,a5,a6,a7,a8⟩:=h;exact iL gw gd k w a4
end Go.Proofs.YtimdpiifpibgfaaGreatDoor
