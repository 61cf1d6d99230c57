/- A part of the proof of TopReads. -/
import Derived.LaidEqlPtr
import Derived.Test.YtimdpiifpibgfaaGreatDoorQr47
set_option linter.all false
set_option maxRecDepth 20000
set_option maxHeartbeats 16000000
open Go.RowKit Go.Maps
namespace Go.Proofs.YtimdpiifpibgfaaGreatDoor
open Tryz
section
open Rz (zn zN zp zK)
variable [Rz]
structure qB(K:Nat->Nat):Prop where
 k:∀i,K i<6
 N:zN=zp+7
 mp:∀i,i<zp->(zK i).m=i % zn
 cp:∀i,i<zp->(zK i).c=Fe 0 (MZ 0 i).s (uM (K i) i)
 mg:∀i,i<7->(zK (zp+i)).m=(i+2) % zn
 kg:∀i,i<7->cK (zK (zp+i)).c=i+1
 cg:∀i,i<7->(zK (zp+i)).c=Fe (i+1) (MZ (i+1) (zp+i)).s (fH i)
 told:∀j,j<zN->(Oz j).x.k=1->(Oz j).r.fd=(JW K (Oz j).x.a zp).2/\(Oz j).r.val=(JW K (Oz j).x.a zp).1
theorem ZL(n:Int)(a1 a2:Option Addr)(l1 c1 l2 c2:Nat)(V1 V2:Nat->List Value)(X1 X2:Nat->Int)(Kf:Nat->Nat)(w:World) (hV1:Bj w a1 l1 1 V1) (hV2:Bj w a2 l2 1 V2) (h1:∀i,i<l1->V1 i=[AA (X1 i)]) (h2:∀i,i<l2->V2 i=[AA (X2 i)]) (hb1:∀i,i<l1->-9223372036854775808<=X1 i/\X1 i<=9223372036854775807) (hb2:∀i,i<l2->-9223372036854775808<=X2 i/\X2 i<=9223372036854775807) (hK:∀i,i<l1->X1 i % 6=(Kf i:Int)) (hp:zp=min l1 8) (hR:qB Kf) (KO:Calls prog 7 #[AA n] w λe W'=>∃gC,e=.returned (AP gC)/\∃own,AtR 0 gC own W'/\OwnB w.heap.size w own W') (KA:∀W,Calls prog 8 #[] W λe W'=>e=.returned (.bool true)/\Below W.heap.size W W') :Calls prog 5 #[AA n,.slice a1 l1 c1,.slice a2 l2 c2] w λe w'=>e=.returned (.bool true)/\Below w.heap.size w w':=by
 obtain⟨z,ad⟩:∃z:Nat,z=zn:=⟨_,rfl⟩;have h7:zn=3\/zn=5\/zn=7:=Rz.n7;have bm:3<=z/\z<=7:=BJ
 have c7:zp<=8:=BJ
 have bq:zp<=l1:=BJ
 have hN:=hR.N;have KP:=qh (λ(i gC:Nat) own W (P:i<zp) (h:AtR i gC own W)=>show Calls prog 11 #[AP gC,.agg (Gi 1 (i % z:Nat) (uM (Kf i) i)).toArray] W λe w'=>e=.returned (.bool true)/\∃J,Y1 i gC J w'/\Stepped W own w' J from by
  have:=qY (uM (Kf i) i) h P (hR.cp i P);rw[hR.mp i P,<-ad] at this;exact this)
 have KG:=qh (λ(i gC:Nat) own W (P:i<7) (h:U4 i gC own W)=>show Calls prog 11 #[AP gC,.agg (Gi ((i:Int)+2) ((i+2) % z:Nat) (fH i)).toArray] W λe w'=>e=.returned (.bool true)/\∃J,U4 (i+1) gC J w'/\Stepped W own w' J from by
  have:=vY (k:=i+1) (fH i) h BJ BJ (hR.kg i P).symm (hR.cg i P);rw[hR.mg i P,<-ad,show (((i+1:Nat):Int)+1)=(i:Int)+2 by omega] at this;exact this)
 obtain⟨KN,a6⟩:=WZ (λ(i gC:Nat) own W (h:AtR i gC own W)=>show Calls prog 9 #[AP gC] W λe w'=>e=.returned (AA z)/\Below W.heap.size W w' from ad▸h.nodes) (λ(i gC:Nat) own W (h:U4 i gC own W)=>show Calls prog 9 #[AP gC] W λe w'=>e=.returned (AA z)/\Below W.heap.size W w' from ad▸h.nodes);have bk:l1<=maxLen/\l2<=maxLen:=⟨hV1.1,hV2.1⟩;unfold maxLen at bk;obtain⟨c4,c5⟩:=bk;obtain⟨az,a3,H1,H2,bv,bw,b0,HR⟩:=ed hV1 hV2 h1 h2 hb1 hb2 hK hR;obtain⟨KO,KA,b1,HN,aa⟩:=dD KO KA hp hN bq;obtain⟨bm,c6⟩:=bm;clear hV1 hV2 h1 h2 hb1 hb2 hK hR hp hN h7 bq ad;go_in;go_wp2_with fail;refine(KO.o).mono ?_;rintro e w1 ⟨gC,rfl,own,O,bp⟩;obtain⟨am,l⟩:=WZ (show Wt w Kf 0 AL none own w1 from⟨AV.nil _ _ _,λg hg=>(by cases hg),bp⟩) O;clear O bp KO
 go_upto_block 0 with(fail)
 go_cut [8] from 9 to 66 (λvw wx=>∃(i:Nat) (own:Nat->Nat) (D:Option Addr) (B:Nat) (I:Option Nat),i=zp/\vw=.slice D i B/\AtR i gC own wx/\Wt w Kf i (.slice D i B) I own wx);case first=>
  go_wp2_with fail;go_loopw [8,9,10,11] (λvw u _ _ wr=>∃(i:Nat) (own:Nat->Nat) (D:Option Addr) (B:Nat) (I:Option Nat),vw=.slice D i B/\u=AA (i:Int)/\i<=zp/\AtR i gC own wr/\Wt w Kf i (.slice D i B) I own wr) (λ_ u _ _ _=>20 - (intOf u).toNat);case atStart=>exact⟨0,own,none,0,none,rfl,rfl,Nat.zero_le _,l.o,am.o⟩
  case round=>
   clear l am;obtain⟨i,own,D,B,I,rfl,rfl,P,O,af⟩:=hrel;obtain⟨l,d⟩:=WZ O af;clear O af;by_cases bg:i<zp
   .have hi8:(i:Int)<8:=BJ
    have hl:(i:Int)<(l1:Int):=by have:=aa.o;omega
    obtain⟨b,E,rfl,bc⟩:=az.spot BJ;have bx:=qh d.2.2.1.below;have p0:wr.cell? ⟨b,E+i,none⟩=some (AA (X1 i)):=by have:=az.at bx.o (k:=i) (by have:=aa.o;omega) 0 Iz;rw[H1.o i (by have:=aa.o;omega)] at this;simpa using this
    have c0:=HR.k i;obtain⟨KW,KI,KJ⟩:=bP (λ(W:World)=>(show 0+X1 i % (5-0+1)=(Kf i:Int) from by have:=b0.o i (by have:=aa.o;omega);omega)▸NS (X1 i) 0 5 W (bv.o i (by have:=aa.o;omega)) BJ BJ BJ) (λW=>UV (Kf i) BJ W) (λW=>UV i BJ W);obtain⟨qq,H⟩:∃qq:Nat,i % z=qq:=⟨_,rfl⟩;obtain⟨KC,KP⟩:=WZ (λW=>dZ 1 qq (uM (Kf i) i) W) (λown W h=>H▸KP.o i gC own W bg h);have ap:=λW=>YX (Kf i) W;have ca:(i:Int) % (z:Int)=(qq:Int):=by rw[<-H,Int.natCast_emod]
    have cb:(i:Int).tmod (z:Int)=(qq:Int):=by rw[<-H];exact(Int.ofNat_tmod i z).symm
    have cc:(z=0)=False:=by simp;omega
    clear H;go_wp2_with fail;refine Ah (KW.o _) ?_;rintro w2 rfl;clear p0;go_wp2_with fail;refine Ah (KI.o _) ?_;rintro w3 f;obtain⟨l,d⟩:=Ce f l d;clear f;go_upto_region 9 with(fail);obtain⟨l,d⟩:=Ce (AY _ w3) l d;refine Ed [10] 12 (λhSn=>?_);generalize w3.drew=wd at l d hSn |-;simp only[List.replicate];refine ES 0 ?_;refine F9 5 ?_;refine BN 3 rfl (λK hK=>?_);go_simp;refine Ah (KN.o _ _ _ _ (l.bel hSn)) ?_;rintro w4 f;have hSn:=AO hSn f;clear f;refine BR hK ?_;clear hK;refine CW 4 ?_;refine BN 7 rfl (λK hK=>?_);go_simp;refine Ah (KJ.o _) ?_;rintro w5 f;have hSn:=AO hSn f;clear f;refine BR hK ?_;clear hK;refine CW 8 ?_;refine BN 9 rfl (λK hK=>?_);go_simp;refine Ah (KC.o _) ?_;rintro w6 f;have hSn:=AO hSn f;clear f;refine BR hK ?_;clear hK;refine BN 10 rfl (λK hK=>?_);go_simp;refine Ah (KP.o own _ (l.bel hSn)) ?_;rintro w7 ⟨J,h6,C⟩;obtain⟨M,ag⟩:=WZ h6 ((d.bel hSn).step C);clear h6 C;refine BR hK ?_;clear hK;refine CW 11 ?_ (hS:=JI);refine BA ?_;clear hSn l d ap;go_wp2_with fail;go_loopw [11] (λvr V=>∃(t:Nat) (own:Nat->Nat),vr=AA (t:Int)/\((t=0/\Y1 i gC own V)\/(t=1/\AtR (i+1) gC own V))/\Wt w Kf i (.slice D i B) I own V) (λvr _=>4 - (intOf vr).toNat);case atStart=>exact⟨0,J,rfl,.inl ⟨rfl,M.o⟩,ag.o⟩
    case round=>
     clear M ag;obtain⟨t,aj,rfl,cd,Q⟩:=hrel;have d:=qh Q;clear Q;rcases cd with⟨rfl,hf⟩|⟨rfl,hr⟩
     .have M:=qh hf;clear hf;go_wp2_with fail;refine Ah (M.waits) ?_;rintro w8 f;obtain⟨M,d⟩:=Ce f M d;clear f;go_wp2_with fail;refine Ah (Ym M.o) ?_;rintro w9 ⟨bs,h9,C⟩;obtain⟨l,d⟩:=WZ h9 (d.step C);clear h9 C M;go_wp2_with fail;go_roundw;case rel=>exact⟨1,bs,rfl,.inr ⟨rfl,l.o⟩,d.o⟩
      case measure=>simp[intOf]
     .have l:=qh hr;clear hr;go_wp2_with fail;refine Ah (l.waits) ?_;rintro w8 f;obtain⟨l,d⟩:=Ce f l d;clear f;go_wp2_with (first|(refine FX rfl 70 9 (.string (Ik (Kf i))) [.string (Ik (Kf i))] rfl rfl rfl (λw=>ND) ?_;intro wa bn an;obtain⟨ax,l,d⟩:=bP bn (l.bel an) (d.bel an);clear bn an)|(at_builtin;refine aS (AU) 1 16 d.1 [.string (Ik (Kf i))] (ax.reads 0 _ (λj v U=>by rw[Nat.zero_add];exact U)) ?_;intro v9 cj w9 au bo ar));obtain⟨p9,c9,rfl⟩:∃p9 c9,v9=.slice p9 (i+1:Nat) c9:=by
       rcases au.cases with⟨_,_,h0,_⟩|⟨g1,b3,_,U,_⟩
       .omega
       .exact⟨_,b3,U⟩
      obtain⟨b2,bu⟩:=WZ (d.app au bo ar l.lt) (l.mv ar λk hk _=>(d.2.1 k hk).1);clear au bo ar l d ax;go_wp2_with fail;go_roundw;case rel=>exact⟨i+1,aj,p9,c9,cj,rfl,Vj,bg,bu.o,b2.o⟩
      case measure=>simp[intOf];omega
   .have Y:=qh (show i=zp by omega);have hc:¬((i:Int)<(l1:Int))\/((i:Int)<(l1:Int)/\¬(i:Int)<8):=by have:=b1.o;omega
    rcases hc with hc|⟨hc,cv⟩;all_goals
     go_wp2_with fail
     go_meet
     exact⟨i,own,D,B,I,Y.o,rfl,l.o,d.o⟩
 case rest=>
 obtain⟨i,own,D,B,I,ao,rfl,O,af⟩:=hcut;obtain⟨A,d,Y⟩:=bP (AtR.get O ao) af ao;clear O af ao l am KP KN;go_wp2_with fail;go_loopw [12] (λu V=>∃(j:Nat) (own:Nat->Nat),u=AA ((j:Int)+2)/\j<=7/\U4 j gC own V/\Wt w Kf i (.slice D i B) I own V) (λu _=>20 - (intOf u).toNat);case atStart=>exact⟨0,own,rfl,BJ,A.o,d.o⟩
 case round=>
  clear A d;obtain⟨j,aj,rfl,hj,hg,Q⟩:=hrel;obtain⟨A,d⟩:=WZ hg Q;clear hg Q;by_cases b5:j=7
  .subst b5;have cu:¬(((7:Nat):Int)+2<=8):=Iz
   obtain⟨m0,bj⟩:=A.last (by have:=HN.o;omega) BJ;have p:=qh bj;clear bj A KG a6;go_wp2_with fail;go_loopw [13,14] (λu _ bt=>∃(k m:Nat) (own:Nat->Nat),u=AA (k:Int)/\Uz k m gC own bt/\Wt w Kf i (.slice D i B) I own bt) (λu _ _=>3000 - (intOf u).toNat);case atStart=>exact⟨0,m0,aj,rfl,p.o,d.o⟩
   case round=>
    clear p d;obtain⟨k,m,bs,rfl,hl,Q⟩:=hrel;obtain⟨p,d⟩:=WZ hl Q;have c3:=hl.wG;clear hl Q;have ab:(k:Int)<2000:=BJ
    go_wp2_with fail;refine(p.letters).mono ?_;rintro e R ⟨pl,cl,rfl,f⟩;obtain⟨p,d⟩:=Ce f p d;clear f;by_cases b9:0<m
    .have bl:(0:Int)<(m:Int):=BJ
     go_upto_if 97 with(fail)
     go_cut [14] from 94 to 106 (λy wx=>∃q:Nat,y=AA (q:Int)/\q<m/\Below R.heap.size R wx);case first=>
      by_cases aq:k<l2
      .have hkl2:(k:Int)<(l2:Int):=BJ
       obtain⟨b,E,rfl,bc⟩:=a3.spot BJ;have ak:=qh (λ(w':World) (h:Below R.drew.heap.size R.drew w')=>show w'.cell? ⟨b,E+k,none⟩=some (AA (X2 k)) from by
        have:=a3.at ((d.2.2.1.bel (AY _ R)).bel h).below aq 0 Iz;rw[H2.o k aq] at this;simpa using this)
       obtain⟨q,G⟩:∃q:Nat,0+X2 k % ((m:Int) - 1-0+1)=(q:Int):=⟨(X2 k % (m:Int)).toNat,by
        have:=Int.emod_nonneg (X2 k) (show (m:Int)≠0 by omega);rw[show (m:Int) - 1-0+1=m by omega];omega⟩
       have av:q<m:=by have:=Int.emod_lt_of_pos (X2 k) bl;rw[show (m:Int) - 1-0+1=m by omega] at G;omega
       obtain⟨KW,T⟩:=WZ (λW=>G▸W9 (NS (X2 k) 0 ((m:Int) - 1) W (bw.o k aq) BJ BJ BJ)) (Base.start R);have dd:IntKind.i64.wrap ((m:Int) - 1)=(m:Int) - 1:=IntWalk.i64_in _ BJ;clear G;go_upto_region 25 with(fail);obtain⟨p,T⟩:=Ce (AY _ R) p T;refine Ed [] 10 (λhSn=>?_);generalize R.drew=wd at p T ak hSn |-;simp only[List.replicate];refine ES 0 ?_;refine BO 3 [] (λw b4=>ak.o _ b4) ?_;refine CW 4 ?_;refine BN 5 rfl (λK hK=>?_);go_simp;refine((p.bel hSn).letters).mono ?_;rintro e L ⟨df,cs,rfl,f⟩;have hSn:=AO hSn f;clear f;refine BR hK ?_;clear hK;refine F9 6 ?_;refine BN 8 rfl (λK hK=>?_);go_simp;refine Ah (KW.o _) ?_;rintro cn f;have hSn:=AO hSn f;clear f;refine BR hK ?_;clear hK;refine CW 9 ?_;refine BA ?_;have T:=D9 hSn T;clear hSn p ak KW;go_wp2_with fail
       go_meet
       exact⟨q,rfl,av,T.below⟩
      .have hkl2:¬(k:Int)<(l2:Int):=BJ
       go_wp2_with fail
       go_meet
       exact⟨0,rfl,b9,Below.refl _ _⟩
     case rest=>
     obtain⟨q,rfl,G,f⟩:=hcut;obtain⟨p,d⟩:=Ce f p d;clear f;go_wp2_with (first|(with_reducible show wpList _ _ _ (_ :: _) _ _;refine Gy ND 32 0 1 _ _ rfl (AA 2) (AA (q:Int)) rfl rfl (.agg (Ee 2 (q:Nat)).toArray) (λw=>ND) ?_));refine Ah (sN p.o G) ?_;rintro co ⟨ck,m',bi,C⟩;obtain⟨p,d⟩:=WZ bi (d.step C);clear bi C;go_wp2_with fail;go_roundw;case rel=>exact⟨k+1,m',ck,Vj,p.o,d.o⟩
     case measure=>simp[intOf];omega
    .obtain rfl:m=0:=BJ
     have bl:¬(0:Int)<((0:Nat):Int):=Iz
     obtain⟨ev,cx,bf,KH⟩:=p.hist (by have:=HN.o;omega);obtain⟨KH,HE⟩:=WZ KH bf;clear bf ab;go_wp2_with fail;refine(KH.o).mono ?_;rintro e L ⟨v,de,pv,pb,rfl,be,f⟩;obtain⟨p,d⟩:=Ce f p d;obtain⟨ph,ch,rfl,_,_,_,br⟩:=be.rows;have al:=qh br;clear f be br KH;go_wp2_with fail;go_loopw [16,17,18,19] (λu _ _ _ cq=>∃t:Nat,u=AA (t:Int)/\t<=ev.length/\Below L.heap.size L cq) (λu _ _ _ _=>3000 - (intOf u).toNat);case atStart=>exact⟨0,rfl,Nat.zero_le _,Below.refl _ _⟩
     case round=>
      obtain⟨t,rfl,ht,a9⟩:=hrel;have F:=qh a9;clear a9;by_cases cf:t=ev.length
      .subst cf;have b8:¬((ev.length:Int)<(ev.length:Int)):=BJ
       obtain⟨p,d⟩:=WZ (p.bel F.o) (d.bel F.o);clear F al HE;go_wp2_with fail;refine Ah (p.waiting) ?_;rintro cn f;have d:=D9 f d;clear f p;go_wp2_with fail;refine Ah (KA.o _) ?_;rintro co f;have d:=D9 f d;clear f KA;go_wp2_with fail;go_ret;exact⟨rfl,d.2.2.1.below⟩
      .have htl:t<ev.length:=BJ
       have db:(t:Int)<(ev.length:Int):=BJ
       obtain⟨b,E,rfl,bc⟩:=al.spot BJ;obtain⟨q,G⟩:∃q,q=ev.getD t .zero:=⟨_,rfl⟩;have av:q∈ev:=by rw[G,List.getD_eq_getElem?_getD,List.getElem?_eq_getElem htl];exact List.getElem_mem htl
       have bd:=λ(w':World) (h:Below L.heap.size L w') (c:Nat) (hc:c<14)=>al.at h htl c hc;have ah:∀(w':World),Below L.heap.size L w'->∀(c:Nat),c<14->w'.cell? ⟨b,E+t*14+c,none⟩=(Kw q (pv t))[c]?:=by rw[G];exact bd
       have a0:wr.cell? ⟨b,E+t*14,none⟩=some (AA q.kd):=ah _ F.o 0 Iz;have a2:wr.cell? ⟨b,E+t*14+2,none⟩=some (AA q.x.k):=ah _ F.o 2 Iz;have HC:=qh ah;clear ah G bd;rcases HE.o q av with b7|⟨jj,b6,ae⟩
       .rw[b7] at a0;clear a2;go_wp2_with fail;go_roundw;case rel=>exact⟨t+1,Vj,BJ,F.o⟩
        case measure=>simp[intOf];omega
       .have ab:q.kd=2:=by rw[ae];rfl
        rw[ab] at a0;by_cases ai:q.x.k=1
        .have htold:=HR.told jj b6 (by rw[<-ae];exact ai);rw[<-ae,<-Y.o] at htold;have ay:=qh htold;rw[ai] at a2;clear htold ae ab ai;go_wp2_with fail;go_loopw [17,18,19] (λvv vf u cr=>∃s:Nat,vv=.string (JW Kf q.x.a s).1/\vf=.bool (JW Kf q.x.a s).2/\u=AA (s:Int)/\s<=i/\Below L.heap.size L cr) (λ_ _ u _=>20 - (intOf u).toNat);case atStart=>exact⟨0,rfl,rfl,rfl,Nat.zero_le _,F.o⟩
         case round=>
          clear F a0 a2;obtain⟨s,rfl,rfl,rfl,hs,ba⟩:=hrel;have S:=qh ba;clear ba;by_cases ce:s=i
          .subst ce;have b8:¬((s:Int)<(s:Int)):=BJ
           obtain⟨hf,U⟩:=ay.o;have a7:wr.cell? ⟨b,E+t*14+10,none⟩=some (.bool q.r.fd):=HC.o _ S.o 10 Iz;have a8:wr.cell? ⟨b,E+t*14+11,none⟩=some (.string q.r.val):=HC.o _ S.o 11 Iz;rw[hf] at a7;rw[U] at a8;clear hf U ay HC;generalize (JW Kf q.x.a s).1=sv at a8 |-;generalize (JW Kf q.x.a s).2=fv at a7 |-;go_wp2_with fail;go_roundw;case rel=>exact⟨t+1,Vj,BJ,S.o⟩
           case measure=>simp[intOf];omega
          .have hsl:s<i:=BJ
           have da:(s:Int)<(i:Int):=BJ
           have c8:s<8:=by have:=Y.o;omega
           have a4:=qh (d.bel S.o);obtain⟨gw,ct,cm,aw,_,_,_,hh,_⟩:=a4.1.blk BJ;injection aw with aw _ ci;subst aw ci;have p5:=hh.cell s;rw[jm Kf i s hsl cm] at p5;have a5:wr.cell? ⟨b,E+t*14+5,none⟩=some (.string q.x.a):=HC.o _ S.o 5 Iz;have ac:JW Kf q.x.a (s+1)=if (Ik (Kf s)).toList==q.x.a.toList then (Mc s,true) else JW Kf q.x.a s:=rfl;have KJ:=qh (λW=>UV s (by have:=Y.o;omega) W);clear hh a4;go_upto_region 36 with(fail);go_quiet (fail);clear p5 a5;have X:=qh (AO S.o (Bg _ wr nq));clear S;generalize wr.drewN nq=dg at X |-;generalize bh:((Ik (Kf s)).toList==q.x.a.toList)=bb at ac |-;cases bb with
           | true=>
            have Z:=qh (show JW Kf q.x.a (s+1)=(Mc s,true) from ac);clear ac bh;go_wp2_with fail;refine Ah (KJ.o _) ?_;rintro dh f;have X:=qh (AO X.o f);clear f;go_wp2_with fail;go_roundw;case rel=>exact⟨s+1,by rw[Z.o],by rw[Z.o],Vj,hsl,X.o⟩
            case measure=>simp[intOf];omega
           | false=>
            have Z:=qh (show JW Kf q.x.a (s+1)=JW Kf q.x.a s from ac);clear ac bh KJ;go_wp2_with fail;go_roundw;case rel=>exact⟨s+1,by rw[Z.o],by rw[Z.o],Vj,hsl,X.o⟩
            case measure=>simp[intOf];omega
        .have hx2:(q.x.k==1)=false:=by simpa using ai
         clear ae ab;go_wp2_with fail;go_roundw;case rel=>exact⟨t+1,Vj,BJ,F.o⟩
         case measure=>simp[intOf];omega
  .have hj6:j<7:=BJ
   have cz:(j:Int)+2<=8:=BJ
   have KI:=qh (λW=>UV j BJ W);obtain⟨qq,H⟩:∃qq:Nat,(j+2) % z=qq:=⟨_,rfl⟩;obtain⟨KC,KG⟩:=WZ (λW=>dZ ((j:Int)+2) qq (fH j) W) (λown W h=>H▸KG.o j gC own W hj6 h);have ap:=λW=>YX j W;have ca:((j:Int)+2) % (z:Int)=(qq:Int):=by rw[<-H,Int.natCast_emod];rfl
   have cb:((j:Int)+2).tmod (z:Int)=(qq:Int):=by rw[<-H];exact(Int.ofNat_tmod (j+2) z).symm
   have cc:(z=0)=False:=by simp;omega
   clear H;have cy:(j:Int)+2-2=(j:Int):=BJ
   have dc:IntKind.i64.wrap (j:Int)=(j:Int):=IntWalk.i64_in _ BJ;go_upto_region 19 with(fail);obtain⟨A,d⟩:=Ce (AY _ wr) A d;refine Ed [12] 13 (λhSn=>?_);generalize wr.drew=wd at A d hSn |-;simp only[List.replicate];refine J9 0 ?_;refine F9 6 ?_;refine BN 4 rfl (λK hK=>?_);go_simp;refine Ah (a6.o _ _ _ _ (A.bel hSn)) ?_;rintro w4 f;have hSn:=AO hSn f;clear f;refine BR hK ?_;clear hK;refine CW 5 ?_;refine BN 8 rfl (λK hK=>?_);go_simp;refine Ah (KI.o _) ?_;rintro w5 f;have hSn:=AO hSn f;clear f;refine BR hK ?_;clear hK;refine F9 9 ?_;refine BN 11 rfl (λK hK=>?_);go_simp;refine Ah (KC.o _) ?_;rintro w6 f;have hSn:=AO hSn f;clear f;refine BR hK ?_;clear hK;refine BN 12 rfl (λK hK=>?_);go_simp;refine Ah (KG.o aj _ (A.bel hSn)) ?_;rintro w7 ⟨J,h6,C⟩;obtain⟨bz,ag⟩:=WZ h6 ((d.bel hSn).step C);clear h6 C;refine BR hK ?_;clear hK;refine BA ?_;clear hSn A d ap;go_wp2_with fail;go_roundw;case rel=>exact⟨j+1,J,by simp;omega,BJ,bz.o,ag.o⟩
   case measure=>simp[intOf];omega
end
def vK:Cm:=⟨2,0,0,⟨#[97]⟩,⟨#[]⟩,⟨#[]⟩,⟨#[98]⟩⟩
theorem Ur(P:Value)(o:Nat->Ow)(pv:Nat->Value)(w:World):(Instr.field 66 (.agg (Gx P o pv).toArray) 0).run prog w=.ok P w:=ND
theorem rF(R0 R1 R2:Nat->World->Prop)(Q:World->Prop)(w:World) (KO:Calls prog 7 #[AA 0] w λe W'=>∃gC,e=.returned (AP gC)/\R0 gC W') (hR:∀gC W W',R0 gC W->Below W.heap.size W W'->R0 gC W') (KD:∀gC W,R0 gC W->Calls prog 11 #[AP gC,.agg (Gi 1 (0:Nat) vK).toArray] W λe W'=>e=.returned (.bool true)/\R1 gC W') (KR:∀gC W,R1 gC W->Calls prog 16 #[AP gC] W λe W'=>e=.returned (.tuple #[])/\R2 gC W') (KH:∀gC W,R2 gC W->Calls prog 14 #[AP gC] W λe W'=>∃g c2,e=.returned (.slice (Ac g) 2 c2)/\R2 gC W') (KN:∀gC W,R2 gC W->Calls prog 17 #[AP gC,AA 2] W λe W'=>∃g,e=.returned (AP g)/\R2 gC W') (KS:∀gC W,R2 gC W->Calls prog 17 #[AP gC,AA 2] W λe W'=>∃g,e=.returned (AP g)/\Calls prog 19 #[AP g] W' λe W''=>∃p m o pv,e=.returned (.agg (Gx (.slice p 1 m) o pv).toArray)/\Q W'') :Calls prog 8 #[] w λe w'=>e=.returned (.bool true)/\Q w':=by obtain⟨KO,KD,KR,KH,KN,KS,hR⟩:=oC KO KD KR KH KN KS hR;go_in;go_wp2_with fail;refine(KO.o).mono ?_;rintro e u ⟨gC,rfl,i⟩;have a:=qh i;clear i KO;go_wp2_with fail;refine Ah (dZ 1 0 vK u) ?_;rintro z r;have a:=qh (hR.out _ _ _ a.o r);clear r hR;go_wp2_with fail;refine Ah (KD.o _ _ a.o) ?_;rintro A j;have b:=qh j;clear j a KD;go_wp2_with fail;refine Ah (KR.o _ _ b.o) ?_;rintro B k;have c:=qh k;clear k b KR;go_wp2_with fail;refine(KH.o _ _ c.o).mono ?_;rintro e C ⟨y,c2,rfl,l⟩;have d:=qh l;clear l c KH;go_wp2_with fail;refine(KN.o _ _ d.o).mono ?_;rintro e D ⟨v,rfl,n⟩;have f:=qh n;clear n d KN;go_wp2_with fail;refine(KS.o _ _ f.o).mono ?_;rintro e E ⟨x,rfl,q⟩;have h:=qh q;clear q f KS;go_wp2_with fail;refine(h.o).mono ?_;rintro e F ⟨p,m,o,pv,rfl,s⟩;have t:=qh s;clear h s;go_wp2_with fail;rw[Ur];go_wp2_with fail;go_ret;exact⟨rfl,t.o⟩
section
open Rz (zn zN zp zK)
section
variable [Rz]
theorem pU:JC OX:=⟨Nat.zero_le _,λj a=>absurd a (Nat.not_lt_zero _),λ_ _ _ _ _=>rfl,λm b=>(by cases b),λr c=>ok0,λj a=>absurd a (Nat.not_lt_zero _),λm b=>(by cases b)⟩
theorem pR:O8 OX []:=⟨λe a=>(by cases a),by
 show 0=0+fA OX;unfold fA;rw[List.filter_eq_nil_iff.2 λj b=>by rw[show OX.D (zK j).m=λ_=>0 from rfl,xh (List.mem_range.1 b)];decide]
 rfl⟩
theorem wK(n:Int)(r:Nat)(hn:-9223372036854775808<=n/\n<=9223372036854775807)(hr:n % 3=(r:Int))(hz:sizeOf3 r=zn)(w:World) :Calls prog 7 #[AA n] w λe w'=>∃gC,e=.returned (AP gC)/\∃own,AtR 0 gC own w'/\OwnB w.heap.size w own w':=by refine yR n r hn hr w _ λW a=>?_;rw[hz];refine(vN zn W Rz.n7 rfl λi b W h g=>jA W i b _ g h).mono ?_;rintro e w' ⟨gC,rfl,own,c,d,f⟩;exact⟨gC,rfl,own,⟨OX,[],_,_,c,⟨pU,rfl,rfl⟩,pR,λr hr=>⟨rfl,rfl⟩⟩,(Base.start w).bel (a.trans (f.mono a.size)),λk j=>Nat.le_trans a.size (d k j)⟩
end
def xI:Cm:=Fe 0 0 vK
theorem rM:JB xI:=⟨ND,Iz,Iz,Iz,Iz,Iz,Iz,Iz⟩
@[reducible] def yY:Rz:=wR (λ_=>0) (λ_=>xI) 3 1 1 (.inl rfl) Iz Iz (λ_=>Iz) (λ_ _=>rM) (λ_ _=>rfl) (λj h1 h2=>BJ) (λj hj=>by
  obtain rfl:j=0:=BJ
  exact⟨rfl,rfl⟩) (λj h1 h2=>BJ)
theorem kS(w:World):Calls prog 8 #[] w λe w'=>e=.returned (.bool true)/\Below w.heap.size w w':=by
 letI:Rz:=yY
 refine rF (λb W=>∃a,AtR 0 b a W/\OwnB w.heap.size w a W) (λb W=>∃a,Y1 0 b a W/\OwnB w.heap.size w a W) (λb W=>∃a,AtR 1 b a W/\OwnB w.heap.size w a W) (λW=>Below w.heap.size w W) w (wK 0 0 Iz Iz rfl w) ?_ ?_ ?_ ?_ ?_ ?_
 .rintro b W W' ⟨a,h,hO⟩ c;exact⟨a,h.bel c,hO.bel c⟩
 .rintro b W ⟨a,h,hO⟩;refine Ah (qY vK h Iz rfl) ?_;rintro w' ⟨y,t,u⟩;exact⟨rfl,y,t,hO.step u⟩
 .rintro b W ⟨a,h,hO⟩;refine Ah (Ym h) ?_;rintro w' ⟨y,t,u⟩;exact⟨rfl,y,t,hO.step u⟩
 .rintro b W ⟨a,h,hO⟩;obtain⟨s,k,o,r,d,f,x,L⟩:=h;have K:k.length=2:=by
   rw[x.len,f.J];have:fA s=1:=by
    show ((List.range 1).filter _).length=1;rw[List.filter_congr (q:=λ_=>true) λj B=>by
     rw[f.dn Ve (Rz.m j) (List.mem_range.1 B)];have:=List.mem_range.1 B;simpa using this]
    rfl
   rw[this]
  refine(fO d x (by rw[f.J];exact Nat.le_refl _) (by rw[f.J];decide)).mono ?_;rintro e w' ⟨v,C,E,P,rfl,n,c⟩;obtain⟨p,G,rfl,_⟩:=n.rows;obtain⟨g,z,Q,n,_⟩:=AV.blk n.1 BJ;injection n with O _ _;subst O;exact⟨g,G,by rw[K],a,⟨s,k,o,r,NY.bel d c,f,x,L⟩,hO.bel c⟩
 .rintro b W ⟨a,h,hO⟩;obtain⟨s,k,o,r,d,h⟩:=h;refine(Vr d (i:=2) Iz).mono ?_;rintro e w' ⟨g,rfl,_,c⟩;exact⟨g,rfl,a,⟨s,k,o,r,NY.bel d c,h⟩,hO.bel c⟩
 .rintro b W ⟨a,h,hO⟩;obtain⟨s,k,o,r,d,f,_⟩:=h;refine(Vr d (i:=2) Iz).mono ?_;rintro e w' ⟨g,rfl,⟨F,M⟩,c⟩;refine⟨g,rfl,(Xj w' F g 2 _ _ _ _ _ _ _ _ M).mono ?_⟩;rintro e R ⟨v,C,E,P,rfl,l,_,_,_,H⟩;have I:Dc (s.D 2) 0=true:=(f.com Iz (show 2<3 by decide)).2;have N:(MC (Dc (s.D 2))).ps=(Dy [] xI).1:=by
   show (if Dc (s.D 2) 0=true then _ else _)=_;rw[if_pos I]
   rfl
  have A:(Dy [] xI).1.length=1:=by decide +kernel
  have l:Ad R v C (MC (Dc (s.D 2))).ps:=l;rw[N] at l;obtain⟨S,z,Q,rfl,_⟩:=AV.blk l (by rw[A];decide);rw[A];exact⟨_,z,_,E,rfl,((hO.bel c).1.bel H).below⟩
def jy(K:Nat->Nat)(p j:Nat):Cm:=if j<p then ⟨2,1,(j:Int)+1,Ik (K j),⟨#[]⟩,⟨#[]⟩,Mc j⟩ else ⟨1,((j-p:Nat):Int)+2,1,Ik (j-p),⟨#[]⟩,⟨#[]⟩,⟨#[]⟩⟩
def mL(n p j:Nat):Nat:=if j<p then j % n else (j-p+2) % n
theorem aC:((List.range 6).all λk=>(List.range 8).all λd=>EY 2 1 ((d:Int)+1) (Ik k) ⟨#[]⟩ ⟨#[]⟩ (Mc d)&&decide ((Ik k).size<=64)&&decide ((Mc d).size<=64))=true:=by decide +kernel
theorem ZW:((List.range 7).all λk=>EY 1 ((k:Int)+2) 1 (Ik k) ⟨#[]⟩ ⟨#[]⟩ ⟨#[]⟩&&decide ((Ik k).size<=64))=true:=by decide +kernel
theorem nb:(⟨#[]⟩:ByteArray).size<=64:=Iz
theorem rO{K:Nat->Nat}(hK:∀i,K i<6){p j:Nat}(hp:p<=8)(hj:j<p+7):JB (jy K p j):=by
 unfold jy;split
 .rename_i h;have a:=List.all_eq_true.1 (List.all_eq_true.1 aC (K j) (List.mem_range.2 (hK j))) j (List.mem_range.2 BJ);simp only[Bool.and_eq_true,decide_eq_true_eq] at a;exact⟨a.1.1,Vj,Vj,by simp only;omega,a.1.2,nb,nb,a.2⟩
 .rename_i h;have a:=List.all_eq_true.1 ZW (j-p) (List.mem_range.2 BJ);simp only[Bool.and_eq_true,decide_eq_true_eq] at a;exact⟨a.1,Vj,by simp only;omega,Vj,a.2,nb,nb,nb⟩
@[reducible] def yG (n p:Nat) (K:Nat->Nat) (h7:n=3\/n=5\/n=7) (hK:∀i,K i<6) (hp:p<=8):Rz:=wR (mL n p) (jy K p) n (p+7) p h7 BJ ⟨hp,BJ⟩ (λj=>by unfold mL;split<;>exact Nat.mod_lt _ BJ) (λj hj=>rO hK hp hj) (λj hj=>by unfold jy;rw[if_pos hj]) (λj h1 h2=>by unfold jy;rw[if_neg BJ])
 (λj hj=>by unfold jy;rw[if_pos hj];exact⟨rfl,rfl⟩) (λj h1 h2=>by
  unfold jy;rw[if_neg BJ];refine⟨?_,rfl⟩;unfold cK;simp only;omega)
theorem YY[Rz](K:Nat->Nat)(b:ByteArray):∀J,(∀j,j<J->(zK j).c.a=Ik (K j)/\(zK j).c.v=Mc j)->Su b J=JW K b J
 | 0,_=>rfl
 | J+1,h=>by
  obtain⟨h1,h2⟩:=h J (Nat.lt_succ_self _);show (if SpanP.same (zK J).c.a b then ((zK J).c.v,true) else Su b J)=_;rw[h1,h2,YY K b J λj d=>h j BJ]
  rfl
theorem uP(n p:Nat)(K:Nat->Nat)(h7:n=3\/n=5\/n=7)(hK:∀i,K i<6)(hp:p<=8):@qB (yG n p K h7 hK hp) K:=by
 letI:Rz:=yG n p K h7 hK hp
 have m:∀j,(zK j).c=jy K p j:=λj=>rfl;have d:∀j,j<p->(zK j).c=⟨2,1,(j:Int)+1,Ik (K j),⟨#[]⟩,⟨#[]⟩,Mc j⟩:=λj g=>by rw[m];unfold jy;rw[if_pos g]
 have f:∀j,(zK (p+j)).c=⟨1,(j:Int)+2,1,Ik j,⟨#[]⟩,⟨#[]⟩,⟨#[]⟩⟩:=λj=>by rw[m];unfold jy;rw[if_neg BJ,Nat.add_sub_cancel_left]
 have o:∀i,i<7->cK (zK (p+i)).c=i+1:=λi a=>by rw[f];unfold cK;simp only;omega
 refine⟨hK,rfl,λi a=>if_pos a,λi a=>?_,λi a=>?_,o,λi a=>?_,λj g b=>?_⟩
 .have b:=Xg (J:=i) (show i<p+7 by have:i<p:=a;omega);rw[show cK (zK i).c=0 from(Rz.ck0 i a).1,d i a] at b;rw[d i a];unfold Fe uM;simp only at b |-;rw[<-b]
  rfl
 .show mL n p (p+i)=_;unfold mL;rw[if_neg BJ,Nat.add_sub_cancel_left]
  rfl
 .have b:=Xg (J:=p+i) (show p+i<p+7 by omega);rw[o i a,f i] at b;show (zK (p+i)).c=Fe (i+1) (MZ (i+1) (p+i)).s (fH i);rw[f i];unfold Fe fH;simp only at b |-;rw[<-b,show (((i+1:Nat):Int)+1)=(i:Int)+2 by omega]
 .have h2:p<=j:=by refine Decidable.byContradiction λq=>?_;have h:(zK j).c.k=1:=b;rw[d j BJ] at h;cases h
  have l:=oG (j:=j) h2 g;rw[YY K _ _ λi a=>by rw[d i a];exact⟨rfl,rfl⟩] at l;exact l
theorem Rq(n:Int)(a1:Option Addr)(l1 c1:Nat)(V1:Nat->List Value)(a2:Option Addr)(l2 c2:Nat)(V2:Nat->List Value)(w:World)(hn:(Lit.int .i64 n).wf=true)(hV1:Bj w a1 l1 1 V1)(hA1:∀i,i<l1->Eo [.int .i64] (V1 i))(_:l1<=c1)(hV2:Bj w a2 l2 1 V2)(hA2:∀i,i<l2->Eo [.int .i64] (V2 i))(_:l2<=c2) :Calls prog 5 #[AA n,.slice a1 l1 c1,.slice a2 l2 c2] w λe w'=>e=.returned (.bool true)/\Below w.heap.size w w':=by
 have hn:=wf64 hn;obtain⟨r,j⟩:∃r:Nat,n % 3=(r:Int):=⟨(n % 3).toNat,BJ⟩;have c:sizeOf3 r=3\/sizeOf3 r=5\/sizeOf3 r=7:=by rcases(show r=0\/r=1\/r=2 by omega) with rfl|rfl|rfl<;>simp[sizeOf3]
 have b:∀{l:Nat} {V:Nat->List Value},(∀i,i<l->Eo [.int .i64] (V i))->∀i,i<l->V i=[AA (intOf ((V i).getD 0 undef))]/\-9223372036854775808<=intOf ((V i).getD 0 undef)/\intOf ((V i).getD 0 undef)<=9223372036854775807:=λh i a=>by obtain⟨v,k,e,⟨q,rfl,g⟩,f⟩:=(h i a).cons;rw[f.nil] at e;rw[e];exact⟨rfl,wf64 g⟩
 have d:∀i:Nat,(intOf ((V1 i).getD 0 undef) % 6).toNat<6:=λi=>BJ
 letI:Rz:=yG (sizeOf3 r) (min l1 8) (λi=>(intOf ((V1 i).getD 0 undef) % 6).toNat) c d BJ
 exact ZL n a1 a2 l1 c1 l2 c2 V1 V2 _ _ (λi=>(intOf ((V1 i).getD 0 undef) % 6).toNat) w hV1 hV2 (λi a=>(b hA1 i a).1) (λi a=>(b hA2 i a).1) (λi a=>(b hA1 i a).2) (λi a=>(b hA2 i a).2) (λi a=>BJ) rfl (uP _ _ _ c d BJ) (wK n r hn j rfl w) kS
end
end Go.Proofs.YtimdpiifpibgfaaGreatDoor
