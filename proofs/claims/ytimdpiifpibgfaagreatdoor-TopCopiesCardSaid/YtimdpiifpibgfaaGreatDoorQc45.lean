/- A part of the proof that the law TopCopies returns true for every input. -/
import Derived.LaidEqlPtr
import Derived.Test.YtimdpiifpibgfaaGreatDoorQc44
set_option linter.all false
set_option maxRecDepth 20000
set_option maxHeartbeats 16000000
open Go.RowKit Go.Maps
namespace Go.Proofs.YtimdpiifpibgfaaGreatDoor
open Tryz
theorem UT(n:Int)(a:Option Addr)(len cap:Nat)(V:Nat→List Value)(nn:Nat)(w:World)(P1:Nat→World→Prop)(A:Nat→Nat→Nat→World→Prop)(Hf:Bool→Nat→Nat→Nat→Nat→Nat→Cm→World→Prop)(T Y:Bool→Nat→Nat→Nat→Nat→Nat→World→Prop)(na nb:Bool→Nat) (H1:Nat→Nat→Value→World→Prop) (H2:Nat→Nat→Value→Value→World→Prop) (N1:Nat→Nat→Nat→Nat→World→Prop) (N2:Nat→Nat→Nat→Nat→World→Prop) (N3:(Nat→Int)→Nat→Nat→Nat→Nat→World→Prop) (S1:Value→Nat→Nat→Nat→Nat→World→Prop) (S2:Value→Value→Nat→Nat→World→Prop) (hV:Be w a len 12 V) (hR:∀i,i<len→∃kd nn ct cl x p pl pc,V i=NQ kd nn ct cl x p pl pc∧(-9223372036854775808≤nn∧nn≤9223372036854775807)∧(-9223372036854775808≤cl∧cl≤9223372036854775807)) (hn:3≤nn∧nn≤7) (hna:∀t,na t≤100∧nb t≤100) (KO1:Calls prog 7 #[.int .i64 n] w λe W'=>∃g,e=.returned (.pointer (some ⟨g,0,none⟩))∧P1 g W') (KO2:∀ga W,P1 ga W→Calls prog 7 #[.int .i64 n] W λe W'=>∃g,e=.returned (.pointer (some ⟨g,0,none⟩))∧A 0 ga g W') (hAB:∀i ga gb W,A i ga gb W→Base w.heap.size w W) (hA:∀i ga gb W W',A i ga gb W→Below W.heap.size W W'→A i ga gb W') (hA1:∀i ga gb W,A i ga gb W→A (i+1) ga gb W) (hA20:∀i ga gb W,i≤20→A i ga gb W→A 20 ga gb W) (KN:∀i ga gb W,A i ga gb W→Calls prog 9 #[.pointer (some ⟨ga,0,none⟩)] W λe W'=>e=.returned (.int .i64 nn)∧Below W.heap.size W W') (KC1:∀(i ga gb q k:Nat) (x:Cm) (W0 W:World),i<20→q<nn→k<8→A i ga gb W0→Below W0.heap.size W0 W→Calls prog 11 #[.pointer (some ⟨ga,0,none⟩),.agg (Eb ((k:Int)+1) (q:Nat) x).toArray] W λe W'=>∃t,e=.returned (.bool t)∧Hf t i ga gb q k x W'∧Mv (λz=>z<W0.heap.size) W W') (KC2:∀(t:Bool) (i ga gb q k:Nat) (x:Cm) (W:World),i<20→q<nn→k<8→Hf t i ga gb q k x W→Calls prog 11 #[.pointer (some ⟨gb,0,none⟩),.agg (Eb ((k:Int)+1) (q:Nat) x).toArray] W λe W'=>e=.returned (.bool t)∧T t i ga gb 0 0 W') (KLa:∀t i ga gb ja W,ja≤na t→T t i ga gb ja 0 W→Calls prog 13 #[.pointer (some ⟨ga,0,none⟩)] W λe W'=>∃p m cap,e=.returned (.slice p m cap)∧(ja<na t ↔ 0<m)∧T t i ga gb ja 0 W') (KLb:∀t i ga gb jb W,jb≤nb t→T t i ga gb (na t) jb W→Calls prog 13 #[.pointer (some ⟨gb,0,none⟩)] W λe W'=>∃p m cap,e=.returned (.slice p m cap)∧(jb<nb t ↔ 0<m)∧T t i ga gb (na t) jb W') (KGa:∀t i ga gb ja W,ja<na t→T t i ga gb ja 0 W→Calls prog 11 #[.pointer (some ⟨ga,0,none⟩),.agg (CZ 2 0).toArray] W λe W'=>e=.returned (.bool true)∧T t i ga gb (ja+1) 0 W') (KYb:∀t i ga gb jb W,jb<nb t→T t i ga gb (na t) jb W→Calls prog 11 #[.pointer (some ⟨gb,0,none⟩),.agg (CZ 3 0).toArray] W λe W'=>e=.returned (.bool true)∧Y t i ga gb (na t) jb W') (KGb:∀t i ga gb jb W,Y t i ga gb (na t) jb W→Calls prog 11 #[.pointer (some ⟨gb,0,none⟩),.agg (CZ 2 0).toArray] W λe W'=>e=.returned (.bool true)∧T t i ga gb (na t) (jb+1) W') (hE:∀t i ga gb W,T t i ga gb (na t) (nb t) W→A (i+1) ga gb W) (KH1:∀ga gb W,A 20 ga gb W→Calls prog 14 #[.pointer (some ⟨ga,0,none⟩)] W λe W'=>∃v,e=.returned v∧H1 ga gb v W') (KH2:∀ga gb v W,H1 ga gb v W→Calls prog 14 #[.pointer (some ⟨gb,0,none⟩)] W λe W'=>∃v',e=.returned v'∧H2 ga gb v v' W') (KE:∀ga gb v v' W,H2 ga gb v v' W→Calls prog 22 #[v,v'] W λe W'=>e=.returned (.bool true)∧A 20 ga gb W') (KN1:∀ga gb j W,j<nn→A 20 ga gb W→Calls prog 17 #[.pointer (some ⟨ga,0,none⟩),.int .i64 (j:Nat)] W λe W'=>∃g,e=.returned (.pointer (some ⟨g,0,none⟩))∧N1 ga gb j g W') (KN2:∀ga gb j g W,j<nn→N1 ga gb j g W→Calls prog 17 #[.pointer (some ⟨gb,0,none⟩),.int .i64 (j:Nat)] W λe W'=>∃g',e=.returned (.pointer (some ⟨g',0,none⟩))∧N2 ga gb g g' W') (KD1:∀ga gb g g' W,N2 ga gb g g' W→Calls prog 23 #[.pointer (some ⟨g,0,none⟩)] W λe W'=>∃d,e=.returned (.agg (DF d).toArray)∧N3 d ga gb g g' W') (KD2:∀d ga gb g g' W,N3 d ga gb g g' W→Calls prog 23 #[.pointer (some ⟨g',0,none⟩)] W λe W'=>e=.returned (.agg (DF d).toArray)∧N2 ga gb g g' W') (KS1:∀ga gb g g' W,N2 ga gb g g' W→Calls prog 19 #[.pointer (some ⟨g,0,none⟩)] W λe W'=>∃v,e=.returned v∧S1 v ga gb g g' W') (KS2:∀v ga gb g g' W,S1 v ga gb g g' W→Calls prog 19 #[.pointer (some ⟨g',0,none⟩)] W λe W'=>∃v',e=.returned v'∧S2 v v' ga gb W') (KM:∀v v' ga gb W,S2 v v' ga gb W→Calls prog 24 #[v,v'] W λe W'=>e=.returned (.bool true)∧A 20 ga gb W') (KA:∀W,Calls prog 8 #[] W λe W'=>e=.returned (.bool true)∧Below W.heap.size W W') :Calls prog 6 #[.int .i64 n,.slice a len cap] w λe w'=>e=.returned (.bool true)∧Below w.heap.size w w':=by
 have KO1:=qh KO1;have KO2:=qh KO2;have hAB:=qh hAB;have hA:=qh hA;have hA1:=qh hA1;have hA20:=qh hA20;have KN:=qh KN;have KC1:=qh KC1;have KC2:=qh KC2;have KLa:=qh KLa;have KLb:=qh KLb;have KGa:=qh KGa;have KYb:=qh KYb;have KGb:=qh KGb;have hE:=qh hE;have KH1:=qh KH1;have KH2:=qh KH2;have KE:=qh KE;have KN1:=qh KN1;have KN2:=qh KN2;have KD1:=qh KD1;have KD2:=qh KD2;have KS1:=qh KS1;have KS2:=qh KS2;have KM:=qh KM;have KA:=qh KA;have HV:=qh hV;have HR:=qh hR;have hNA:=qh hna;obtain⟨hn3,hn7⟩:=hn;have hlm:len≤maxLen:=hV.1;unfold maxLen at hlm;clear hV hR hna;go_in;go_wp2_with fail;refine(KO1.o).mono ?_;rintro e w1 ⟨ga,rfl,h1⟩;have HP:=qh h1;clear h1 KO1;go_wp2_with fail;refine(KO2.o _ _ HP.o).mono ?_;rintro e w2 ⟨gb,rfl,h2⟩;have HA:=qh h2;clear h2 HP KO2;go_wp2_with fail;go_loopw [7,8,9,10] (λvi _ _ _ wr=>∃i:Nat,vi=.int .i64 (i:Int)∧i≤len∧i≤20∧A i ga gb wr) (λvi _ _ _ _=>20 - (intOf vi).toNat);case atStart=>exact⟨0,rfl,Nat.zero_le _,Nat.zero_le _,HA.o⟩
 case round=>
  clear HA;obtain⟨i,rfl,hil,hi20,hAi⟩:=hrel;have HA:=qh hAi;clear hAi;by_cases hlt:i<len∧i<20
  ·obtain⟨hl1,hl2⟩:=hlt;have hc1:(i:Int)<(len:Int):=by omega
   have hc2:(i:Int)<20:=by omega
   obtain⟨b,off,rfl,hblt⟩:=HV.spot (by omega);obtain⟨kd,mm,ct,cl,x,p,pl,pc,hVi,hmm,hcl⟩:=HR.o i hl1;have HVI:=qh (λw' (h:Below w.heap.size w w')=>hVi▸HV.range h hl1);clear hVi;have HB:=qh (hAB.out _ _ _ _ HA.o);have HRL:=qh (HVI.o _ HB.below);go_wp2_with (first|(with_reducible refine lR (off+i*12) HRL.o ?_));refine(Wy kd mm ct cl x p pl pc _).mono ?_;rintro e w3 ⟨lb,rfl,hb3⟩;have HA:=qh (hA.out _ _ _ _ _ HA.o hb3);clear hb3 HRL HB;cases lb with
   | false=>
    go_wp2_with fail;go_roundw;case rel=>exact⟨i+1,by simp,by omega,by omega,hA1.out _ _ _ _ HA.o⟩
    case measure=>simp[intOf];omega
   | true=>
    obtain⟨k,hk⟩:∃k:Nat,1+cl % (8-1+1)=(k:Int)+1:=⟨(cl % 8).toNat,by omega⟩;have hk8:k<8:=by omega
    obtain⟨q,hq⟩:∃q:Nat,0+mm % ((nn:Int) - 1-0+1)=(q:Int):=⟨(mm % (nn:Int)).toNat,by
     have:=Int.emod_nonneg mm (show (nn:Int)≠0 by omega);rw[show (nn:Int) - 1-0+1=nn by omega];omega⟩
    have hqn:q<nn:=by have:=Int.emod_lt_of_pos mm (show (0:Int)<nn by omega);rw[show (nn:Int) - 1-0+1=nn by omega] at hq;omega
    have KW1:=qh (λW=>hk▸OL (LQ cl 1 8 W hcl (by omega) (by omega) (by omega)));have KW2:=qh (λW=>hq▸OL (LQ mm 0 ((nn:Int) - 1) W hmm (by omega) (by omega) (by omega)));have KCS:=qh (λW=>cu ((k:Int)+1) q x W);clear hk hq hmm hcl;have HB:=qh (hAB.out _ _ _ _ HA.o);have HBR:=qh (Base.start w3);go_upto_region 8 with(fail);refine' DN [⟨21,22,8,60,32,CZ 0 0,Eb ((k:Int)+1) q x⟩] (by kernel_rfl) (by kernel_rfl) (by kernel_rfl) ?z11 ?z21 ?bd1 _ ?h1 ?val1 ?fin1;case z11=>
     intro x hx;simp only[List.mem_cons,List.not_mem_nil,or_false] at hx;subst hx
     ·exact⟨.agg (CZ 0 0:List Value).toArray,by kernel_rfl,rfl⟩
    case z21=>
     intro x hx;simp only[List.mem_cons,List.not_mem_nil,or_false] at hx;subst hx
     ·exact⟨by kernel_rfl,rfl,QX _ _ _⟩
    case bd1=>
     intro x hx;simp only[List.mem_cons,List.not_mem_nil,or_false] at hx;subst hx
     ·simp
    case h1=>
     intro W0 hW0;obtain⟨HB,HBR⟩:=DC hW0 HB HBR;have hA12:∀w',Grown W0 w'→w'.rangeAt b (off+i*12) (NQ kd mm ct cl x p pl pc):=λw' hw'=>HVI.o w' (AB HB.below (AP hw'));have a1:∀d os,(Sort.grow (redrawn W0 d) os).cell? ⟨b,off+i*12+1,none⟩=some (.int .i64 mm):=λd os=>hA12 _ ⟨⟨d,os⟩,rfl⟩ 1 _ rfl;have a3:∀d os,(Sort.grow (redrawn W0 d) os).cell? ⟨b,off+i*12+3,none⟩=some (.int .i64 cl):=λd os=>hA12 _ ⟨⟨d,os⟩,rfl⟩ 3 _ rfl;have HX1:=qh (show ∀w',Grown W0 w'→w'.rangeAt b (off+i*12+4) x.cells from λw' hw' j v hv=>by have:=hA12 w' hw' (4+j) v (ZI hv);rw[←Nat.add_assoc] at this;exact this);clear hA12;simp only[List.map_cons,List.map_nil,A8];repeat(first
  | (with_reducible refine qR (off+i*12+4) HX1.o ?_;simp only[Act.put,List.setIfInBounds_toArray,List.set_cons_succ,List.set_cons_zero])
  | go_big_quiet_step (first
      | (go_at_call 9;with_reducible exact AL λW h=>KN.o i ga gb W (hA.out _ _ _ _ _ HA.o (AB HBR.o.below h)))
      | (go_at_call 12;with_reducible exact AL λW _=>KCS.o W)
      | (with_reducible exact AL λW _=>KW1.o W)
      | (with_reducible exact AL λW _=>KW2.o W)))
     refine wpQuiet_nil ?_;intro w' _;exact rfl
    case val1=>
     intro x hx;simp only[List.mem_cons,List.not_mem_nil,or_false] at hx;subst hx
     ·rfl
    intro β w4 hb hx hne;have hx8:=hx _ List.mem_cons_self;clear hx hne;simp only[] at hx8;simp only[Dk,List.foldl,Act.put,List.setIfInBounds_toArray,List.set_cons_zero,List.set_cons_succ];obtain⟨HB,HBR⟩:=DC hb HB HBR;generalize β 8=g8 at hx8 ⊢;have H8:=qh hx8.2;have hge8:=hx8.1;clear hx8;clear hb;have HS:=H8;have hg8:¬g8<w3.heap.size:=by omega
    clear H8 hge8 HB KW1 KW2 KCS;go_upto_region 9 with(fail);obtain⟨HS,HBR⟩:=DC (AQ _ w4) HS HBR;refine wp_region_noPanic ?_;refine Bi (S:=λW'=>Mv (λz=>z<w3.heap.size) w4.drew W') (X0:=[5]) (by as_aux_lemma=>kernel_rfl) ?_;generalize w4.drew=wd at HS HBR ⊢;have hSn:Mv (λz=>z<w3.heap.size) wd wd:=Mv.refl _ _;change wpAnyL _ _ _ _ _ _ 7 #[false,false,false,false,false,false,false] _ _;refine CS 0 ?_;refine He 1 [2,5,6] (some 62) (.agg (Eb ((k:Int)+1) q x).toArray) rfl (yieldsIf_load_mid (by rfl) 32 _ rfl g8 0 rfl (Eb ((k:Int)+1) q x) _ (λw hSw=>(HS.mv hSw hg8).AY) underlying32 rfl (by as_aux_lemma=>kernel_rfl)) hSn ?rg2;simp only[Act.put,zA,zB,zC];refine CS 3 ?_;refine He 4 [5,6] (some 65) (.agg (Eb ((k:Int)+1) q x).toArray) rfl (yieldsIf_load_mid (by rfl) 32 _ rfl g8 0 rfl (Eb ((k:Int)+1) q x) _ (λw hSw=>(HS.mv hSw hg8).AY) underlying32 rfl (by as_aux_lemma=>kernel_rfl)) hSn ?rg4;simp only[Act.put,zA,zB,zC];refine BH 2 rfl (λK hK=>?_);go_simp;refine(KC1.o i ga gb q k x w3 _ hl2 hqn hk8 HA.o HBR.below).mono ?_;rintro e w5 ⟨t,rfl,hhf,hm5⟩;have HHF:=qh hhf;have hSn:=hSn.mv hm5 (λk hk=>.inl hk);clear hhf hm5;refine BN hK ?_;clear hK;refine BH 5 rfl (λK hK=>?_);go_simp;refine Ac (KC2.o t i ga gb q k x _ hl2 hqn hk8 HHF.o) ?_;rintro w6 h6;have HT:=qh h6;clear h6;refine BN hK ?_;clear hK;refine CS 6 ?_ (hS:=IJ);refine Dl ?_;clear hSn HS HBR HHF HA hg8;have hnt:=hNA.out t;obtain⟨hnt1,hnt2⟩:=hnt;go_wp2_with fail;go_loopw [9] (λvi wr2=>∃ja:Nat,vi=.int .i64 (ja:Int)∧ja≤na t∧T t i ga gb ja 0 wr2) (λvi _=>101 - (intOf vi).toNat);case atStart=>exact⟨0,rfl,Nat.zero_le _,HT.o⟩
    case round=>
     clear HT;obtain⟨ja,rfl,hja,hTa⟩:=hrel;have HT:=qh hTa;clear hTa;go_wp2_with fail;refine(KLa.o t i ga gb ja _ hja HT.o).mono ?_;rintro e w7 ⟨pp,m,cap2,rfl,hiff,h7⟩;have HT:=qh h7;clear h7;have hk2:(ja:Int)<2000:=by omega
     by_cases hjn:ja<na t
     ·have hm0:(0:Int)<(m:Int):=by have:=hiff.1 hjn;omega
      clear hiff;go_wp2_with fail;refine Ac (KGa.o t i ga gb ja _ hjn HT.o) ?_;rintro w8 h8;have HT:=qh h8;clear h8;go_wp2_with fail;go_roundw;case rel=>exact⟨ja+1,by simp,by omega,HT.o⟩
      case measure=>simp[intOf];omega
     ·have hm0:¬(0:Int)<(m:Int):=by have:=mt hiff.2 hjn;omega
      obtain rfl:m=0:=by omega
      obtain rfl:ja=na t:=by omega
      clear hiff hm0 hk2;go_wp2_with fail;go_loopw [10] (λvi wr3=>∃jb:Nat,vi=.int .i64 (jb:Int)∧jb≤nb t∧T t i ga gb (na t) jb wr3) (λvi _=>101 - (intOf vi).toNat);case atStart=>exact⟨0,rfl,Nat.zero_le _,HT.o⟩
      case round=>
       clear HT;obtain⟨jb,rfl,hjb,hTb⟩:=hrel;have HT:=qh hTb;clear hTb;go_wp2_with fail;refine(KLb.o t i ga gb jb _ hjb HT.o).mono ?_;rintro e w9 ⟨pp2,m2,cap3,rfl,hiff,h9⟩;have HT:=qh h9;clear h9;have hk4:(jb:Int)<4000:=by omega
       have hk5:(jb:Int)<200:=by omega
       by_cases hjn2:jb<nb t
       ·have hm0:(0:Int)<(m2:Int):=by have:=hiff.1 hjn2;omega
        clear hiff;go_wp2_with fail;refine Ac (KYb.o t i ga gb jb _ hjn2 HT.o) ?_;rintro w10 h10;have HY:=qh h10;clear h10 HT;go_wp2_with fail;refine Ac (KGb.o t i ga gb jb _ HY.o) ?_;rintro w11 h11;have HT:=qh h11;clear h11 HY;go_wp2_with fail;go_roundw;case rel=>exact⟨jb+1,by simp,by omega,HT.o⟩
        case measure=>simp[intOf];omega
       ·have hm0:¬(0:Int)<(m2:Int):=by have:=mt hiff.2 hjn2;omega
        obtain rfl:m2=0:=by omega
        obtain rfl:jb=nb t:=by omega
        have HAN:=qh (hE.out _ _ _ _ _ HT.o);clear hiff hm0 hk4 hk5 HT;go_wp2_with fail;go_roundw;case rel=>exact⟨i+1,by simp,by omega,by omega,HAN.o⟩
        case measure=>simp[intOf];omega
  ·have HA:=qh (hA20.out _ _ _ _ hi20 HA.o);have hc:¬((i:Int)<(len:Int))∨((i:Int)<(len:Int)∧¬(i:Int)<20):=by omega
   clear HV HR KC1 KC2 KLa KLb KGa KYb KGb hE;rcases hc with hc|⟨hc,hc2⟩;all_goals
    go_wp2_with fail;refine(KH1.o _ _ _ HA.o).mono ?_;rintro e w3 ⟨v,rfl,h3⟩;have H3:=qh h3;clear h3 HA KH1;go_wp2_with fail;refine(KH2.o _ _ _ _ H3.o).mono ?_;rintro e w4 ⟨v',rfl,h4⟩;have H4:=qh h4;clear h4 H3 KH2;go_wp2_with fail;refine Ac (KE.o _ _ _ _ _ H4.o) ?_;rintro w5 h5;have HA:=qh h5;clear h5 H4 KE;go_wp2_with fail;go_loopw [11,12,13] (λvi _ _ wr=>∃j:Nat,vi=.int .i64 (j:Int)∧j≤nn∧A 20 ga gb wr) (λvi _ _ _=>nn - (intOf vi).toNat);case atStart=>exact⟨0,rfl,Nat.zero_le _,HA.o⟩
    case round=>
     clear HA;obtain⟨j,rfl,hj,hAj⟩:=hrel;have HA:=qh hAj;clear hAj;go_wp2_with fail;refine Ac (KN.o _ _ _ _ HA.o) ?_;rintro w6 hb6;have HA:=qh (hA.out _ _ _ _ _ HA.o hb6);clear hb6;by_cases hjn:j<nn
     ·have hji:(j:Int)<(nn:Int):=by omega
      go_wp2_with fail;refine(KN1.o _ _ j _ hjn HA.o).mono ?_;rintro e w7 ⟨g,rfl,h7⟩;have H7:=qh h7;clear h7 HA;go_wp2_with fail;refine(KN2.o _ _ j g _ hjn H7.o).mono ?_;rintro e w8 ⟨g',rfl,h8⟩;have H8:=qh h8;clear h8 H7;go_wp2_with fail;refine(KD1.o _ _ g g' _ H8.o).mono ?_;rintro e w9 ⟨d,rfl,h9⟩;have H9:=qh h9;clear h9 H8;go_wp2_with fail;refine Ac (KD2.o d _ _ g g' _ H9.o) ?_;rintro w10 h10;have H10:=qh h10;clear h10 H9;have hnq:=λw=>aT d w;generalize (DF d).toArray=da at hnq ⊢;go_wp2_with fail;refine(KS1.o _ _ g g' _ H10.o).mono ?_;rintro e w11 ⟨v2,rfl,h11⟩;have H11:=qh h11;clear h11 H10 hnq;go_wp2_with fail;refine(KS2.o v2 _ _ g g' _ H11.o).mono ?_;rintro e w12 ⟨v3,rfl,h12⟩;have H12:=qh h12;clear h12 H11;go_wp2_with fail;refine Ac (KM.o v2 v3 _ _ _ H12.o) ?_;rintro w13 h13;have HA:=qh h13;clear h13 H12;go_wp2_with fail;go_roundw;case rel=>exact⟨j+1,by simp,by omega,HA.o⟩
      case measure=>simp[intOf];omega
     ·obtain rfl:j=nn:=by omega
      have hji:¬((j:Int)<(j:Int)):=by omega
      have HB:=qh (hAB.out _ _ _ _ HA.o);clear HA;go_wp2_with fail;refine Ac (KA.o _) ?_;rintro w9 hb9;have HB:=ET hb9 HB;clear hb9;go_wp2_with fail;go_ret;exact⟨rfl,HB.below⟩
section
def Bx(B:Nat)(w0:World)(n ga gb:Nat)(b:Bs)(h:Hs)(oa ob:Nat→Nat)(W:World):Prop:=Inv n 20 b h∧@Bg I0 b h W oa ga n 0 c0 (BU n)∧@Bg I0 b h W ob gb n 0 c0 (BU n)∧Two B w0 oa ob W
section
variable {B:Nat} {w0 W W':World} {n ga gb:Nat} {b:Bs} {h:Hs} {oa ob:Nat→Nat}
theorem Bx.bel(H:Bx B w0 n ga gb b h oa ob W)(hb:Below W.heap.size W W'):Bx B w0 n ga gb b h oa ob W':=
 ⟨H.1,@JB.bel I0 b h _ _ _ _ _ _ _ _ _ _ H.2.1 (by decide) hb,@JB.bel I0 b h _ _ _ _ _ _ _ _ _ _ H.2.2.1 (by decide) hb,H.2.2.2.bel hb⟩
theorem Bx.at(H:Bx B w0 n ga gb b h oa ob W):Py B w0 n 20 ga gb W:=⟨b,h,oa,ob,H⟩
def Nx(b:Bs)(n:Nat)(g:Nat)(W:World):Prop:=∃j F,@Bh I0 b W F g n j 0 c0 .fresh [] false 0
theorem Nx.bel{g:Nat}(H:Nx b n g W)(hb:Below W.heap.size W W'):Nx b n g W':=by
 obtain⟨j,F,H⟩:=H
 letI:In:=I0
 letI:Bs:=b
 letI:Hs:=H0
 exact⟨j,F,Bh.mv (G:=λ_=>False) H (.of_below hb) λ_ h=>h.elim⟩
theorem Bx.hist(H:Bx B w0 n ga gb b h oa ob W):(∀own gC,@Bg I0 b h W own gC n 0 c0 (BU n)→Calls prog 14 #[.pointer (some ⟨gC,0,none⟩)] W (JC h.ev W)):=λown gC hc=>by have h1:=H.1.ev;have h2:=H.1.nb;exact @VW I0 b h W own gC n 0 c0 _ hc (show h.ev.length≤1000 by omega) H.1.rp
theorem Vf(H:Bx B w0 n ga gb b h oa ob W)(own:Nat→Nat)(gC:Nat)(hc:@Bg I0 b h W own gC n 0 c0 (BU n))(j:Nat)(hj:j<n) :Calls prog 17 #[.pointer (some ⟨gC,0,none⟩),.int .i64 j] W λe W'=>∃g,e=.returned (.pointer (some ⟨g,0,none⟩))∧Nx b n g W'∧Below W.heap.size W W':=by refine(@MS I0 b h W own gC n 0 j c0 _ hc hj).mono ?_;rintro e w' ⟨g,rfl,h1,hb⟩;rw[show (BU n).phs.getD j .fresh=.fresh from JR n j _ hj _] at h1;exact⟨g,rfl,⟨j,_,h1⟩,hb⟩
def Vw(b:Bs)(v:Value)(W:World):Prop:=∃u ob pv pb,v=.agg (Es u b.S.ow pv).toArray∧AV W u ob b.S.ps∧OwnAt W b.S.ow pv pb
theorem Vw.bel{v:Value}(H:Vw b v W)(hb:Below W.heap.size W W'):Vw b v W':=by obtain⟨u,ob,pv,pb,h1,h2,h3⟩:=H;exact⟨u,ob,pv,pb,h1,h2.bel hb,λi hi=>AO.bel (h3 i hi) hb⟩
end
theorem Pm(n:Int)(a:Option Addr)(len cap:Nat)(V:Nat→List Value)(w:World)(hn:(Lit.int .i64 n).wf=true)(hV:Be w a len 12 V)(hA:∀i,i<len→EK [.int .i64,.int .i64,.int .i64,.int .i64,.int .i64,.int .i64,.int .i64,.string,.string,.string,.string,.slice] (V i))(hlc:len≤cap) :Calls prog 6 #[.int .i64 n,.slice a len cap] w λe w'=>e=.returned (.bool true)∧Below w.heap.size w w':=by
 have hn:=wf64 hn;obtain⟨r,hr⟩:∃r:Nat,n % 3=(r:Int):=⟨(n % 3).toNat,by omega⟩;have hr3:r<3:=by omega
 obtain⟨nn,hnn⟩:∃nn,nn=sizeOf3 r:=⟨_,rfl⟩;have h357:nn=3∨nn=5∨nn=7:=by rcases(show r=0∨r=1∨r=2 by omega) with rfl|rfl|rfl<;>simp[hnn,sizeOf3]
 have hR:∀i,i<len→∃kd nn ct cl x p pl pc,V i=NQ kd nn ct cl x p pl pc∧(-9223372036854775808≤nn∧nn≤9223372036854775807)∧(-9223372036854775808≤cl∧cl≤9223372036854775807):=λi hi=>bJ (hA i hi);refine UT n a len cap V nn w (λga W=>∃own,@Bg I0 B0 H0 W own ga nn 0 c0 (BU nn)∧OwnB w.heap.size w own W) (Py w.heap.size w nn) (Half w.heap.size w nn) (Full w.heap.size w nn) (Mid w.heap.size w nn) (nA nn) (nB nn)
  (λga gb v W=>∃b h oa ob,Bx w.heap.size w nn ga gb b h oa ob W∧∃o pv pb,F9 W v o h.ev pv pb)
  (λga gb v v' W=>∃b h oa ob,Bx w.heap.size w nn ga gb b h oa ob W∧(∃o pv pb,F9 W v o h.ev pv pb)∧∃o pv pb,F9 W v' o h.ev pv pb)
  (λga gb j g W=>∃b h oa ob,Bx w.heap.size w nn ga gb b h oa ob W∧Nx b nn g W)
  (λga gb g g' W=>∃b h oa ob,Bx w.heap.size w nn ga gb b h oa ob W∧Nx b nn g W∧Nx b nn g' W)
  (λd ga gb g g' W=>∃b h oa ob,Bx w.heap.size w nn ga gb b h oa ob W∧Nx b nn g W∧Nx b nn g' W∧d=b.d)
  (λv ga gb g g' W=>∃b h oa ob,Bx w.heap.size w nn ga gb b h oa ob W∧Nx b nn g' W∧Vw b v W)
  (λv v' ga gb W=>∃b h oa ob,Bx w.heap.size w nn ga gb b h oa ob W∧Vw b v W∧Vw b v' W)
  hV hR (by omega) (λt=>?_) ?_ ?_ (λi ga gb W h=>h.base) (λi ga gb W W' h hb=>h.bel hb) (λi ga gb W h=>h.more) (λi ga gb W hi h=>?_) ?_ ?_ ?_ ?_ ?_ ?_ ?_ ?_ ?_ ?_ ?_ ?_ ?_ ?_ ?_ ?_ ?_ ?_ ?_ ?_
 ·cases t
  ·exact⟨Nat.zero_le _,Nat.zero_le _⟩
  ·show 3*(nn-1)≤100∧4*(nn-1)≤100;omega
 ·refine(Y3 n r hn hr w).mono ?_;rintro e w' ⟨gC,rfl,own,h1,h2,h3⟩;exact⟨gC,rfl,own,hnn▸h1,(Base.start w).bel h3,h2⟩
 ·rintro ga W ⟨own,h,hO⟩;refine(Y3 n r hn hr W).mono ?_;rintro e w' ⟨gC,rfl,own2,h1,h2,h3⟩;have hlt:=@Bg.lt I0 B0 H0 _ _ _ _ _ _ _ h;refine⟨gC,rfl,B0,H0,own,own2,Inv.start h357,@JB.bel I0 B0 H0 _ _ _ _ _ _ _ _ _ _ h (by decide) h3,hnn▸h1,hO.1.bel h3,hO.2,λk hk=>Nat.le_trans hO.1.le (h2 k hk),λk=>?_⟩;by_cases h0:own k=0
  ·exact .inl h0
  ·refine .inr ?_;by_cases h4:own2 k=0
   ·exact h4
   ·have:=hlt k h0;have:=h2 k h4;omega
 ·induction hi:20-i generalizing i with
  | zero=>
   obtain rfl:i=20:=by omega
   exact h
  | succ d ih=>exact ih (i+1) (by omega) h.more (by omega)
 ·rintro i ga gb W ⟨b,h,oa,ob,hI,ha,hb,hT⟩;exact @TK I0 b h W oa ga nn 0 c0 _ ha
 ·intro i ga gb q k x W0 W hi hq hk h hb;exact Xy h hb hi q k x hq hk
 ·intro t i ga gb q k x W hi hq hk h;exact Xz h hi hq hk
 ·intro t i ga gb ja W hj h;exact TA h h357 hj
 ·intro t i ga gb jb W hj h;exact TB h h357 hj
 ·intro t i ga gb ja W hj h;exact Yc h h357 hj
 ·intro t i ga gb jb W hj h;exact YD h h357 hj
 ·intro t i ga gb jb W h;exact Yd h
 ·intro t i ga gb W h;exact h.done h357
 ·rintro ga gb W ⟨b,h,oa,ob,H⟩;have H:Bx w.heap.size w nn ga gb b h oa ob W:=H;refine(H.hist oa ga H.2.1).mono ?_;rintro e w' ⟨v,o,pv,pb,rfl,hev,hb⟩;exact⟨v,rfl,b,h,oa,ob,H.bel hb,o,pv,pb,hev⟩
 ·rintro ga gb v W ⟨b,h,oa,ob,H,o,pv,pb,hev⟩;refine(H.hist ob gb H.2.2.1).mono ?_;rintro e w' ⟨v',o',pv',pb',rfl,hev',hb⟩;exact⟨v',rfl,b,h,oa,ob,H.bel hb,⟨o,pv,pb,hev.bel hb⟩,o',pv',pb',hev'⟩
 ·rintro ga gb v v' W ⟨b,h,oa,ob,H,⟨o,pv,pb,hev⟩,o',pv',pb',hev'⟩;refine Ac (bU v v' o o' h.ev pv pv' pb pb' W hev hev') ?_;rintro w' hb;exact⟨rfl,(H.bel hb).at⟩
 ·rintro ga gb j W hj ⟨b,h,oa,ob,H⟩;have H:Bx w.heap.size w nn ga gb b h oa ob W:=H;refine(Vf H oa ga H.2.1 j hj).mono ?_;rintro e w' ⟨g,rfl,h1,hb⟩;exact⟨g,rfl,b,h,oa,ob,H.bel hb,h1⟩
 ·rintro ga gb j g W hj ⟨b,h,oa,ob,H,h1⟩;refine(Vf H ob gb H.2.2.1 j hj).mono ?_;rintro e w' ⟨g',rfl,h2,hb⟩;exact⟨g',rfl,b,h,oa,ob,H.bel hb,h1.bel hb,h2⟩
 ·rintro ga gb g g' W ⟨b,h,oa,ob,H,h1,h2⟩;obtain⟨j,F,hN⟩:=h1;refine Ac (@QQ I0 b W F g nn j 0 c0 [] false 0 hN) ?_;rintro w' hb;exact⟨b.d,rfl,b,h,oa,ob,H.bel hb,Nx.bel ⟨j,F,hN⟩ hb,h2.bel hb,rfl⟩
 ·rintro d ga gb g g' W ⟨b,h,oa,ob,H,h1,h2,rfl⟩;obtain⟨j,F,hN⟩:=h2;refine Ac (@QQ I0 b W F g' nn j 0 c0 [] false 0 hN) ?_;rintro w' hb;exact⟨rfl,b,h,oa,ob,H.bel hb,h1.bel hb,Nx.bel ⟨j,F,hN⟩ hb⟩
 ·rintro ga gb g g' W ⟨b,h,oa,ob,H,h1,h2⟩;obtain⟨j,F,hN⟩:=h1;refine(@Kz I0 b W F g nn j 0 c0 [] false 0 hN (H.1.fine.ok (by have:=H.1.nb;omega))).mono ?_;rintro e w' ⟨u,o,pv,pb,rfl,h3,h4,_,_,hb⟩;exact⟨_,rfl,b,h,oa,ob,H.bel hb,h2.bel hb,u,o,pv,pb,rfl,h3,h4⟩
 ·rintro v ga gb g g' W ⟨b,h,oa,ob,H,h2,h1⟩;obtain⟨j,F,hN⟩:=h2;refine(@Kz I0 b W F g' nn j 0 c0 [] false 0 hN (H.1.fine.ok (by have:=H.1.nb;omega))).mono ?_;rintro e w' ⟨u,o,pv,pb,rfl,h3,h4,_,_,hb⟩;exact⟨_,rfl,b,h,oa,ob,H.bel hb,h1.bel hb,u,o,pv,pb,rfl,h3,h4⟩
 ·rintro v v' ga gb W ⟨b,h,oa,ob,H,⟨u,o,pv,pb,rfl,h1,h2⟩,u',o',pv',pb',rfl,h3,h4⟩;refine Ac (jX u u' o o' b.S.ps b.S.ow pv pv' pb pb' W h1 h3 h2 h4) ?_;rintro w' hb;exact⟨rfl,(H.bel hb).at⟩
 ·exact V6
theorem PO(n:Int)(a:Option Addr)(len cap:Nat)(V:Nat→List Value)(w:World)(hn:(Lit.int .i64 n).wf=true)(hV:Be w a len 12 V)(hA:∀i,i<len→EK [.int .i64,.int .i64,.int .i64,.int .i64,.int .i64,.int .i64,.int .i64,.string,.string,.string,.string,.slice] (V i))(hlc:len≤cap) :Calls prog 6 #[.int .i64 n,.slice a len cap] w λe w'=>e=.returned (.bool true)∧Below w.heap.size w w':=Pm n a len cap V w hn hV hA hlc
end
end Go.Proofs.YtimdpiifpibgfaaGreatDoor
