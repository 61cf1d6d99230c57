/- A part of the proof of TopReads. -/
import Derived.Test.YtimdpiifpibgfaaGreatDoorQr37
set_option linter.all false
set_option maxRecDepth 20000
set_option maxHeartbeats 16000000
open Go.RowKit Go.Maps
namespace Go.Proofs.YtimdpiifpibgfaaGreatDoor
open Tryz
theorem oN{v:Value}{o:Nat->Ow}{pv:Nat->Value}(h:CZ v)(h2:∀i,i<8->CZ (pv i)):∀u∈Gx v o pv,u.oneCell'=true:=by have h:=NP (o:=o) h h2;rw[Array.all_eq_true'] at h;intro u a;exact h u (by simpa using a)
def GG(d:Nat->Int)(k:Kn):Nat->Int:=λr=>if r=k.m then max (d r) k.I.sl else d r
theorem Q4(r:Nat)(M:Int):∀(ks:List Kn) (d:Nat->Int),(d r<=M/\(∀k∈ks,k.m=r->k.I.sl<=M)->ks.foldl GG d r<=M)/\(d r<=ks.foldl GG d r)/\(∀k∈ks,k.m=r->k.I.sl<=ks.foldl GG d r)
 | [],d=>⟨λh=>h.1,Int.le_refl _,λk hk=>(by cases hk)⟩
 | x :: ks,d=>by
  obtain⟨h1,h2,h3⟩:=Q4 r M ks (GG d x);have b:d r<=GG d x r:=by unfold GG;split<;>omega
  refine⟨λh=>h1 ⟨?_,λk hk=>h.2 k (List.mem_cons_of_mem _ hk)⟩,Int.le_trans b h2,λk hk a=>?_⟩
  .unfold GG;split
   .rename_i e;have:=h.2 x (List.mem_cons_self ..) e.symm;omega
   .exact h.1
  .rcases List.mem_cons.1 hk with rfl|hk
   .have h5:k.I.sl<=GG d k r:=by unfold GG;rw[if_pos a.symm];omega
    exact Int.le_trans h5 h2
   .exact h3 k hk a
theorem Xy{kl:List Kn}{d d':Nat->Int}{ks:List Kn}(h:Hm kl d d' ks):ks.foldl GG d=d':=by
 funext r
 obtain⟨b,i,c⟩:=Q4 r (d' r) ks d;refine Int.le_antisymm (b ⟨h.le r,λk a g=>by have:=(h.sub k a).2.2;rw[g] at this;exact this⟩) ?_;by_cases f:d r<d' r
 .obtain⟨k,a,hm,hs⟩:=h.all r (d' r) f (Int.le_refl _);have:=c k a hm;omega
 .have:=h.le r;omega
theorem aQ(d:Nat->Int)(I:In)(q:Nat)(c:Cm):oJ d q (max (d q) I.sl)=GG d ⟨I,q,c⟩:=by
 funext r
 unfold GG;show _=if r=q then max (d r) I.sl else d r;by_cases e:r=q
 .subst e;simp[oJ]
 .simp[oJ,e]
def PX(S:St)(ks:List Kn):St:=ks.foldl (λS k=>Ho S k.c) S
def Tz(g n me gd gw gc gfr:Nat)(F:Ap)(S:St)(d kp:Nat->Int)(since tk:Int)(waits out ans:Value)(w w':World):Prop:=∃P pv ob pb,Holds w' g 102 (Ar n me gd gw gc gfr P S.ow pv d kp since tk waits out ans)/\Ad w' P ob S.ps/\OwnAt w' S.ow pv pb/\(∀k,ob=some k->F k\/w.heap.size<=k)/\(∀i,i<8->∀k,pb i=some k->F k\/w.heap.size<=k)/\Mv (λk=>k=g) w w'
theorem Tz.bel{g n me gd gw gc gfr:Nat}{F:Ap}{S:St}{d kp:Nat->Int}{since tk:Int}{waits out ans:Value}{w w1 w2:World}(h:Tz g n me gd gw gc gfr F S d kp since tk waits out ans w w1)(hb:Below w1.heap.size w1 w2):Tz g n me gd gw gc gfr F S d kp since tk waits out ans w w2:=by obtain⟨P,m,k,l,a,b,c,f,i,j⟩:=h;exact⟨P,m,k,l,a.bel hb,AV.bel b hb,c.bel hb,f,i,j.bel hb⟩
instance {g n me gd gw gc gfr:Nat}{F:Ap}{S:St}{d kp:Nat->Int}{since tk:Int}{waits out ans:Value}{w w1 w2:World}:Bl w1 w2 (Tz g n me gd gw gc gfr F S d kp since tk waits out ans w w1) (Tz g n me gd gw gc gfr F S d kp since tk waits out ans w w2):=⟨λhb h=>Tz.bel h hb⟩
theorem mQ{w:World}{g:Nat}{rest:List Value}{kl:List Kn}(h:Holds w g 267 (Ht kl++rest))(i:Nat)(hi:i<kl.length):w.rangeAt g (i*23) kl[i].cells:=QT h i hi
theorem wY{S:St}{ks:List Kn}{i:Nat}(hi:i<ks.length):PX S (ks.take (i+1))=Ho (PX S (ks.take i)) ks[i].c:=by
 unfold PX;rw[<-List.take_append_getElem hi,List.foldl_append]
 rfl
theorem takeD{d:Nat->Int}{ks:List Kn}{i:Nat}(hi:i<ks.length):(ks.take (i+1)).foldl GG d=GG ((ks.take i).foldl GG d) ks[i]:=by
 rw[<-List.take_append_getElem hi,List.foldl_append]
 rfl
def xM:List Value:=[AA 0,AA 0,AA 0,AA 0,AA 0,AA 0,AA 0,AA 0,AA 0,AA 0,AU,AU,AU,AU,AA 0,AA 0,AA 0,AA 0,AA 0,AA 0,AA 0,AA 0,.bool false]
theorem oI(g n me gd gw gc gfr:Nat)(S:St)(P:Value)(ob:Option Nat)(pv:Nat->Value)(pb:Nat->Option Nat)(F:Ap)(d kp:Nat->Int)(since tk:Int)(waits out ans:Value)(Q:List Kn->Prop)(R:(Nat->Int)->List Kn->List Kn->World->Prop)(w:World) (nd:Holds w g 102 (Ar n me gd gw gc gfr P S.ow pv d kp since tk waits out ans)) (hP:Ad w P ob S.ps) (hO:OwnAt w S.ow pv pb) (hF:(∀k,ob=some k->F k)/\∀i,i<8->∀k,pb i=some k->F k) (hsi:0<=since/\since<=100) (hd9:∀r,r<7->0<=d r/\d r<=1000) (hQ:∀kl,Q kl->Tt kl d/\U7 kl/\kl.length<=100) (hS:∀kl d' ks,Q kl->Hm kl d d' ks->(∀j,j<7->I7 kl d' j=none)->∀i (hi:i<ks.length),ks[i].m<7/\JB ks[i].c/\(PX S (ks.take i)).Ok/\((PX S (ks.take i)).ow (ks[i].c.c.toNat-1)).seq<ks[i].c.s) (KC:∀W,Below w.heap.size w W->Calls prog 164 #[AP g] W λe w'=>∃V ob kl,e=.returned V/\Q kl/\AV w' V ob 267 23 kl.length (Ht kl)/\Below W.heap.size W w') (KR:∀kl d' ks w1,Q kl->Hm kl d d' ks->(∀j,j<7->I7 kl d' j=none)->Tz g n me gd gw gc gfr F (PX S ks) d' kp (since+ks.length) tk waits out ans w w1->R d' kl ks w1) (KW:∀kl d' ks r W,Q kl->Hm kl d d' ks->(∀j,j<7->I7 kl d' j=none)->PU kl d' r=true->r<7->R d' kl ks W->Calls prog 137 #[AP g,AA (r:Nat),AA (d' r+1)] W λe w'=>e=.returned (.tuple #[])/\R d' kl ks w'/\∀k L,Holds W k 37 L->Holds w' k 37 L) (hRb:∀d' kl ks W W',R d' kl ks W->Below W.heap.size W W'->R d' kl ks W') :Calls prog 91 #[AP g] w λe w'=>e=.returned (.tuple #[])/\∃kl d' ks,Q kl/\Hm kl d d' ks/\(∀j,j<7->I7 kl d' j=none)/\R d' kl ks w':=by
 have KP:=qh (λV be kl W hq ho=>jG kl d V be W ho (hQ kl hq).1 (hQ kl hq).2.1 hd9 (by have:=(hQ kl hq).2.2;omega));have c7:∀k,ob=some k->k≠g:=AV.Hw hP nd Iz;have da:∀i,i<8->∀k,pb i=some k->k≠g:=λi hi=>AV.Hw (hO i hi) nd Iz;obtain⟨aa,cg,HS,KC,KR,KW,ch,b⟩:=ed (show Tz g n me gd gw gc gfr F S d kp since tk waits out ans w w from⟨P,pv,ob,pb,nd,hP,hO,λk h=>.inl (hF.1 k h),λi hi k h=>.inl (hF.2 i hi k h),Mv.refl _ _⟩) (λkl h=>(hQ kl h).2.2) hS KC KR KW hRb nd;have l:=qh (Base.start w);have c1:=nd.lt;clear nd hP hO hF hQ hS hd9 hRb;go_in;go_upto_region 0 with(fail);obtain⟨b,l,aa⟩:=D5 (AY _ w) b l aa;refine Ed [] 12 (λhSn=>?_);generalize w.drew=wd at b l aa hSn |-;simp only[List.replicate];refine ES 0 ?_;refine BO 3 [] (λw A=>Gl (b.bel A) 55 56 57 58 59 60 61) ?_;refine CW 4 ?_;refine BN 5 rfl (λK y=>?_);go_simp;refine(KC.o _ (l.bel hSn).below).mono ?_;rintro e w2 ⟨V0,be,kl,rfl,hq,b0,N⟩;have hSn:=AO hSn N;obtain⟨HQ,HV⟩:=WZ hq b0;have bs:=(l.bel hSn).le;clear hq b0;clear N;refine BR y ?_;clear y;refine BN 6 rfl (λK y=>?_);go_simp;refine(KP.o V0 be kl _ HQ.o HV.o).mono ?_;rintro e w3 ⟨M,ks,O,bc,pM,cM,u,al,rfl,b2,b4,bu,bx,bt,bw,bh,c4,N⟩;have hSn:=AO hSn N;obtain⟨ae,ap,t,f,cf⟩:=dD b2 b4 bu bt bh;have bj:=l.bel hSn;have c5:=bj.le;have cp:∀k,bc=some k->w.heap.size<=k:=λk a=>Nat.le_trans bs (bx k a);have co:∀k,al=some k->w.heap.size<=k:=λk a=>Nat.le_trans bs (bw k a);clear b2 b4 bu bt bh bj bx bw HV;clear N;refine BR y ?_;clear y;refine J9 7 ?_;refine CW 11 ?_;refine BA ?_;obtain⟨b,l,aa⟩:=D5 hSn b l aa;clear hSn;have c3:ks.length<=100:=Nat.le_trans ae.len (cg.o kl HQ.o);clear b l KC KP;obtain⟨pO,cO,rfl⟩:∃p c,O=.slice p (ks.length:Nat) c:=by
  rcases t.cases with⟨r,_,r2,_⟩|⟨_,_,_,r,_⟩
  .rw[r,r2];exact⟨_,_,rfl⟩
  .exact⟨_,_,r⟩
 have a8:∀k,bc=some k->k≠g:=λk a=>by have:=cp k a;omega
 have a7:∀k,al=some k->k≠g:=λk a=>by have:=co k a;omega
 go_wp2_with fail;go_loopw [20] (λvi wr=>∃i:Nat,vi=AA (i:Int)/\i<=ks.length/\Tz g n me gd gw gc gfr F (PX S (ks.take i)) ((ks.take i).foldl GG d) kp (since+i) tk waits out ans w wr/\AV wr (.slice pO (ks.length:Nat) cO) bc 267 23 ks.length (Ht ks)/\AV wr (.slice pM (u.length:Nat) cM) al 37 2 u.length (insL u)) (λvi _=>ks.length - (intOf vi).toNat);case atStart=>exact⟨0,rfl,Nat.zero_le _,by simpa[PX] using aa.o,t.o,f.o⟩
 case round=>
  clear aa t f;obtain⟨i,rfl,hi,ax,ho,hm⟩:=hrel;obtain⟨t,f⟩:=WZ ho hm;clear ho hm;by_cases a2:i=ks.length
  .subst a2;rw[List.take_length,Xy ae.o] at ax;have C:=qh (KR.o kl M ks _ HQ.o ae.o ap.o ax);clear ax KR t;go_wp2_with fail;go_loopw [67] (λvi cd=>∃i:Nat,vi=AA (i:Int)/\i<=u.length/\R M kl ks cd/\AV cd (.slice pM (u.length:Nat) cM) al 37 2 u.length (insL u)) (λvi _=>u.length - (intOf vi).toNat);case atStart=>exact⟨0,rfl,Nat.zero_le _,C.o,f.o⟩
   case round=>
    clear C f;obtain⟨i,rfl,hi,hr,hm⟩:=hrel;obtain⟨C,f⟩:=WZ hr hm;clear hr hm;by_cases a2:i=u.length
    .subst a2;go_wp2_with fail;exact bE ⟨rfl,kl,M,ks,HQ.o,ae.o,ap.o,C.o⟩
    .have hi2:i<u.length:=BJ
     obtain⟨gs,cs,rs,cv,cr,ck,cl,a1,cm⟩:=f.blk BJ;cases cv;obtain⟨r,ct,hx,cj⟩:=cf.o _ (List.getElem_mem hi2);obtain⟨bg,an⟩:=WZ (show wr.rangeAt gs (i*2) [AA (r:Int),AA (M r+1)] from a1.CB (i*2) (Nu u rs i hi2 _ _ hx)) a1;clear a1 hx;have cn:(i:Int)<(u.length:Int):=BJ
     go_upto_region 11 with(first|(refine lM (i*2) bg.o ?_)|(refine Ai rfl 37 _ _ rfl rfl _ _ ([AA (r:Int),AA (M r+1)]:List Value).toArray rfl rfl ND ND (by simp[Value.oneCell']) ?_));go_name_world W0 a0;have HI:=qh (show Holds W0 wr.heap.size 37 [AA (r:Int),AA (M r+1)] by rw[<-a0];exact AC wr _ _);have ac:Below wr.heap.size wr W0:=by rw[<-a0];exact(Below.refl _ _).alloc Ve _
     have C:=qh (ch.o _ _ _ _ _ C.o ac);have an:=D9 ac an;clear ac a0 bg f;generalize wr.heap.size=gp at HI |-;obtain⟨i0,i1⟩:=Cf HI.o 0 1;go_wp2_with fail;refine Ah (KW.o kl M ks r _ HQ.o ae.o ap.o cj ct C.o) ?_;rintro w5 ⟨b3,bq⟩;obtain⟨C,f⟩:=WZ b3 (show AV w5 (.slice (Ac gs) (u.length:Nat) cM) al 37 2 u.length (insL u) by rw[cr];exact AV.mk' (bq _ _ an.o) (D6 u) cm ck cl);clear b3 bq i0 i1 HI an;go_wp2_with fail;go_roundw;case rel=>exact⟨i+1,by go_num,BJ,C.o,f.o⟩
     case measure=>simp[intOf];omega
  .have hi2:i<ks.length:=BJ
   obtain⟨P1,am,b9,cb,ah,aj,av,c6,c9,a3⟩:=ax;obtain⟨au,ar,az,ak⟩:=HS.o kl M ks HQ.o ae.o ap.o i hi2;obtain⟨ab,aq⟩:=WZ (wY (S:=S) hi2) (takeD (d:=d) hi2);obtain⟨gR,cR,rR,cw,cq,cx,cy,bl,c0⟩:=t.blk BJ;cases cw;have ao:=qh (mQ bl i hi2);clear bl cq;obtain⟨kn,br⟩:∃kn,kn=ks[i]:=⟨_,rfl⟩;rw[<-br] at au ar ak ab aq ao;clear br;obtain⟨I,q,c⟩:=kn
   letI:In:=I
   simp only at au ar ak ab aq ao;obtain⟨D,bi⟩:∃D,D=PX S (ks.take i):=⟨_,rfl⟩;obtain⟨B,bk⟩:∃B,B=(ks.take i).foldl GG d:=⟨_,rfl⟩;rw[<-bi] at ah aj av az ak ab;rw[<-bk] at ah aq;clear bi bk;have KA:=qh (λW h h2=>(uY D P1 b9 am cb c W h h2 az ar ak).mono λe w' (h:Rx (Ho D c) W e w')=>h);have bb:IntKind.i64.wrap (since+i+1)=since+i+1:=IntWalk.i64_in _ BJ;have ci:=qh bb;generalize Ho D c=E at KA ab;obtain⟨pP,nP,cP,rfl⟩:=aj.CZ;have c8:∀k,b9=some k->k≠g:=AV.Hw aj ah Iz;have db:∀j,j<8->∀k,cb j=some k->k≠g:=λj hj=>AV.Hw (av j hj) ah Iz;obtain⟨b,Z,Y,v⟩:=bY ah aj av a3;have cu:=a3.size;have dc:(q:Int)<7:=BJ
   have cn:(i:Int)<(ks.length:Int):=BJ
   clear ah aj av a3 ar az ak bb;have cz:(@QU I q c).length=23:=rfl;have l:=qh (Base.start wr);go_upto_region 4 with(first|(refine lM (i*23) ao.o ?_)|(refine sW (@QU I q c) (AC wr _ _) ?_ (gU ⟨I,q,c⟩);intro w4 bm b5));have ac:Below wr.heap.size wr w4:=Below.trans ((Below.refl _ _).alloc Ve _) (b5.below Ve Vj);have x:=qh bm;obtain⟨b,l,Z,Y,t,f⟩:=Ef ac b l Z Y t f;have v:=D9 ac v;clear ac bm b5 ao;generalize c2:wr.heap.size=gp at x l cu |-;have dg:=v.size;have ay:=qh (λ(w':World) (h:Below w4.drew.heap.size w4.drew w')=>(Hf ((b.bel (AY _ w4)).bel h) 6 (cs:=Gx (.slice pP nP cP) D.ow am) rfl));obtain⟨b,l,x,Z,Y,t⟩:=Ef (AY _ w4) b l x Z Y t;obtain⟨f,v⟩:=Ce (AY _ w4) f v;refine Ed [14] 15 (λhSn=>?_);generalize w4.drew=wd at b l x Z Y t f v ay hSn |-;simp only[List.replicate];refine J9 0 ?_;refine JL 4 [8,9,10,11,12,13,14] (some 29) (.agg (Gx (.slice pP nP cP) D.ow am).toArray) rfl (yieldsIf_load_mid (by rfl) 66 _ rfl g 6 rfl (Gx (.slice pP nP cP) D.ow am) _ (λw A=>ay.o w A) underlying66 rfl (by as_aux_lemma=>kernel_rfl)) hSn ?rg15;simp only[Act.put,zA,zB,zC];refine F9 5 ?_;refine BO 7 [8,9,10,11,12,13,14] (λw A=>Gl (x.bel A) 7 8 9 10 11 12 13) ?_;refine BN 8 rfl (λK y=>?_);go_simp;refine(KA.o _ (Z.bel hSn) (Y.bel hSn)).mono ?_;rintro e w5 ⟨v5,ca,G,cc,R5,rfl,aw,a4,bv,b1,N⟩;have hSn:=AO hSn N;obtain⟨X,U,T,rfl⟩:=aw.CZ;have bz:=oN (o:=E.ow) aw.CZ a4.sl;obtain⟨J,H⟩:=WZ aw a4;have a5:=bv;have a9:=b1;clear aw bv a4 b1;clear N;refine BR y ?_;clear y;refine J9 9 ?_;refine CW 13 ?_;refine BN 14 rfl (λK y=>?_);have af:=hSn;refine FB rfl 66 (.tmp 37) (.tmp 34) rfl rfl g 6 _ 102 (b.bel hSn) rfl (Gx (.slice X U T) E.ow G) rfl ND (by simp[Ar,Gx,BH,Je,Bq]) bz ?_;intro w6 bn b6;have b:=qh (show Holds w6 g 102 (Ar n me gd gw gc gfr (.slice X U T) E.ow G B kp (since+i) tk waits out ans) from(Vu n me gd gw gc gfr (.slice pP nP cP) D.ow am B kp (since+i) tk waits out ans (.slice X U T) E.ow G)▸bn);have bf:=l.bel af;have de:=bf.le;have df:=l.le;have a6:∀k,ca=some k->w.heap.size<=k:=λk a=>by have:=a5 k a;omega
   have ba:∀i,i<8->∀k,cc i=some k->w.heap.size<=k:=λi hi k a=>by have:=a9 i hi k a;omega
   have ad:Mv (λk=>k=g) _ w6:=Mv.AZ b6 rfl;obtain⟨J,H,v,t,f,x⟩:=mG (AV.mv J.o ad (λk a e=>by have:=a5 k a;omega)) (H.mv ad (λi hi k a e=>by have:=a9 i hi k a;omega)) ((v.bel af).mv ad (λk a=>.inl a)) ((t.bel af).mv ad (λk a=>a8 k a)) ((f.bel af).mv ad (λk a=>a7 k a)) ((x.bel af).mv ad BJ);clear bn b6 ad af bf bz;refine BR y ?_;clear y;refine BA ?_;clear hSn l ay a5 a9 Z Y;go_upto_region 5 with(fail);obtain⟨b,J,H,v,x,t⟩:=Ef (AY _ w6) b J H v x t;have f:=D9 (AY _ w6) f;refine Ed [19] 20 (λhSn=>?_);generalize w6.drew=wd at b J H v x t f hSn |-;simp only[List.replicate];refine ES 0 ?_;refine BO 3 [18,19] (λw A=>Am (x.bel A) 0) ?_;refine ES 4 ?_;refine BO 7 [10,11,15,18,19] (λw A=>Am (x.bel A) 0) ?_;refine ES 8 ?_;refine JL 11 [15,18,19] (some 49) (?vg35) rfl (Or.inl ⟨by rfl,?hg35⟩) hSn ?rg35;case hg35=>
    intro w A;have bd:=(b.bel A).cell (55+q);rw[FT _ _ _ _ _ _ _ _ _ _ _ _ _ _ _ _ q au] at bd;go_simp;try with_reducible rfl
   simp only[Act.put,zA,zB,zC];refine F9 12 ?_;refine BO 14 [15,18,19] (λw A=>Am (x.bel A) 1) ?_;refine J9 15 ?_;refine BN 19 rfl (λK y=>?_);refine DD rfl 3 (.tmp 56) (.tmp 53) rfl rfl g (55+q) 102 _ (b.bel hSn) (by simp[Ar];omega) rfl (AA (max (B q) I.sl)) rfl rfl ND rfl ?_;intro w7 bo b7;have b:=qh (show Holds w7 g 102 (Ar n me gd gw gc gfr (.slice X U T) E.ow G (GG B ⟨I,q,c⟩) kp (since+i) tk waits out ans) from(Xh n me gd gw gc gfr (.slice X U T) E.ow G B kp (since+i) tk waits out ans q (max (B q) I.sl) au).trans (congrArg (λz=>Ar n me gd gw gc gfr (.slice X U T) E.ow G z kp (since+i) tk waits out ans) (aQ B I q c))▸bo);have ag:Mv (λk=>k=g) _ w7:=Mv.AZ b7 rfl;obtain⟨J,H,v,t,f⟩:=dD (AV.mv (J.bel hSn) ag (λk a e=>by have:=a6 k a;omega)) ((H.bel hSn).mv ag (λi hi k a e=>by have:=ba i hi k a;omega)) ((v.bel hSn).mv ag (λk a=>.inl a)) ((t.bel hSn).mv ag (λk a=>a8 k a)) ((f.bel hSn).mv ag (λk a=>a7 k a));clear bo b7 ag;refine BR y ?_;clear y;refine BA ?_;clear hSn x;have dh:=Am b.o 69;have bb:=ci.o;go_wp2_with (first|(refine sC 69 b.o (AA (since+i+1)) ?_;intro w8 bp b8;obtain⟨ce,ai⟩:=WZ (show Holds w8 g 102 (Ar n me gd gw gc gfr (.slice X U T) E.ow G (GG B ⟨I,q,c⟩) kp (since+i+1) tk waits out ans) from(Vt n me gd gw gc gfr (.slice X U T) E.ow G (GG B ⟨I,q,c⟩) kp (since+i) tk waits out ans (since+i+1))▸bp) (show Mv (λk=>k=g) _ w8 from Mv.AZ b8 rfl);clear bp b8));go_roundw;case rel=>exact⟨i+1,by go_num,BJ,⟨_,G,ca,cc,by rw[ab.o,aq.o,show (since+((i+1:Nat):Int))=since+i+1 by omega];exact ce.o,by rw[ab.o];exact AV.mv J.o ai.o (λk a e=>by have:=a6 k a;omega),by rw[ab.o];exact H.mv ai.o (λi hi k a e=>by have:=ba i hi k a;omega),λk a=>.inr (a6 k a),λi hi k a=>.inr (ba i hi k a),v.mv ai.o (λk a=>.inl a)⟩,t.mv ai.o (λk a=>a8 k a),f.mv ai.o (λk a=>a7 k a)⟩
   case measure=>simp[intOf];omega
def kH(g:Nat)(Q3:World->Prop)(W:World):Prop:=
 (∃x:Int,8<=x/\W.cell? ⟨g,69,none⟩=some (AA x))/\∃(d:Nat->Int) (P:Value) (o:Nat->Ow) (pv:Nat->Value) (L:List Value),Holds W g 102 L/\(∀(j:Nat) u,(Cj d)[j]?=some u->L[55+j]?=some u)/\(∀(j:Nat) u,(Gx P o pv)[j]?=some u->L[6+j]?=some u)/\CZ P/\(∀i,i<8->CZ (pv i)) /\
  (∀W',Below W.heap.size W W'->Calls prog 94 #[.agg (Cj d).toArray,.agg (Gx P o pv).toArray] W' λe w'=>∃v' k,e=.returned v'/\(1<=k\/v'=AL/\k=0)/\k<=16000/\Au w' W.heap.size v' k/\Below W'.heap.size W' w') /\
  (∀W' v len,Below W.heap.size W W'->Au W' W.heap.size v len->len<=16000->(1<=len\/v=AL/\len=0)->Calls prog 93 #[AP g,v] W' λe w'=>e=.returned (.bool true)/\Q3 w')
theorem aK(g:Nat)(w:World)(R1 R2 R3 Q3 R4:World->Prop) (hbad:w.cell? ⟨g,74,none⟩=some (.bool false)) (KD:Calls prog 90 #[AP g] w λe w'=>e=.returned (.bool true)/\R1 w') (KR:∀W,R1 W->Calls prog 91 #[AP g] W λe w'=>e=.returned (.tuple #[])/\R2 w') (KA:∀W,R2 W->Calls prog 92 #[AP g] W λe w'=>e=.returned (.tuple #[])/\R3 w') (hs:∀W,R3 W->(∃x:Int,W.cell? ⟨g,69,none⟩=some (AA x)/\x<8/\∀W',Below W.heap.size W W'->Q3 W')\/kH g Q3 W) (KT:∀W,Q3 W->Calls prog 95 #[AP g] W λe w'=>e=.returned (.tuple #[])/\R4 w') :Calls prog 53 #[AP g] w λe w'=>e=.returned (.tuple #[])/\R4 w':=by
 obtain⟨KD,KR,KA,KT,hs⟩:=dD KD KR KA KT hs;go_in;go_wp2_with fail;refine KD.mono ?_;rintro e X ⟨rfl,t⟩;have n:=qh t;clear t hbad KD;go_wp2_with fail;refine Ah (KR.o _ n.o) ?_;rintro Y u;have p:=qh u;clear u n KR;go_wp2_with fail;refine Ah (KA.o _ p.o) ?_;rintro a v;have b:=qh v;clear v p KA;go_upto_region 3 with(fail);rcases hs.out _ b.o with⟨x,k,R,A⟩|Q
 .have hx':¬(8:Int)<=x:=BJ
  have q:=qh A;clear R A b hs;go_quiet (fail);have b:=qh (q.o _ (Bg _ a nq));clear k hx' q;generalize a.drewN nq=V at b |-;go_wp2_with fail;refine Ah (KT.o _ b.o) ?_;rintro U f;have l:=qh f;clear f b KT;go_wp2_with fail;exact bE ⟨rfl,l.o⟩
 .obtain⟨⟨x,hx8,k⟩,d,P,o,pv,L,hn,hd,hst,hP,hpv,hput,hkeep⟩:=Q;obtain⟨c,C,G,F,D⟩:=dD hn hd hst hput hkeep;have N:L[69]?=some (AA x):=by rw[<-hn.cell 69];exact k
  obtain⟨r,s,m,H⟩:=bY (λ(w':World) (h:Below a.drew.heap.size a.drew w')=>(((c.bel (AY _ a)).bel h).CB 55 C.o)) (λ(w':World) (h:Below a.drew.heap.size a.drew w')=>(((c.bel (AY _ a)).bel h).CB 6 G.o)) (show Below a.heap.size a a.drew from AY _ a) (show a.heap.size=a.drew.heap.size from rfl);clear hn hd hst hput hkeep k b hs;have c:=D9 (AY _ a) c;refine Ed [16] 19 (λhSn=>?_);generalize a.drew=wd at c r s m H hSn |-;simp only[List.replicate];refine ES 0 ?_;refine JL 3 [4,5,6,7,8,9,10,11,12,13,14,15,16,17,18] (some 18) (?vg4) rfl (Or.inl ⟨by rfl,?hg4⟩) hSn ?rg4;case hg4=>
   intro w j;have I:=(c.bel j).cell 69;rw[N] at I;go_simp;try with_reducible rfl
  simp only[Act.put,zA,zB,zC];refine J9 4 ?_;refine F9 8 ?_;refine JL 10 [15,16,17,18] (some 25) (.agg (Cj d).toArray) rfl (yieldsIf_load_mid (by rfl) 41 _ rfl g 55 rfl (Cj d) _ (λw j=>r.o w j) underlying41 rfl (by as_aux_lemma=>kernel_rfl)) hSn ?rg11;simp only[Act.put,zA,zB,zC];refine ES 11 ?_;refine JL 14 [15,16,17,18] (some 29) (.agg (Gx P o pv).toArray) rfl (yieldsIf_load_mid (by rfl) 66 _ rfl g 6 rfl (Gx P o pv) _ (λw j=>s.o w j) underlying66 rfl (by as_aux_lemma=>kernel_rfl)) hSn ?rg15;simp only[Act.put,zA,zB,zC];refine BN 15 rfl (λK i=>?_);go_simp;refine(F.o _ (AO m.o hSn)).mono ?_;rintro e Z ⟨T,S,rfl,J,M,z,y⟩;have hSn:=AO hSn y;have E:=qh z;have O:=AO m.o hSn;clear z;clear y;refine BR i ?_;clear i;refine BN 16 rfl (λK i=>?_);go_simp;refine Ah (D.o _ T S O E.o M J) ?_;rintro w7 B;have b:=qh B;clear B;refine BR i ?_;clear i;refine F9 17 ?_ (hS:=JI);refine BA ?_;clear hSn c;go_wp2_with fail;refine Ah (KT.o _ b.o) ?_;rintro U f;have l:=qh f;clear f b KT;go_wp2_with fail;exact bE ⟨rfl,l.o⟩
section
open Rz (zn zN zp zK)
variable [Rz]
def UL:List TypeId:=[102,125,129,208,163,127]
theorem Oe:∀t∈DZ,t∈UL:=Iz
theorem QX(dv:Nat->Nat->Int)(m:Lz):∀u∈FM dv m,u.oneCell'=true:=by
 unfold FM;split
 .simp[Dh,Value.oneCell']
 .letI:In:=(zK m.j).I
  exact Vm _ _ _ _ _
theorem Ic(dv:Nat->Nat->Int)(m:Lz):(FM dv m).length=51:=by unfold FM;split<;>rfl
theorem QY(dv:Nat->Nat->Int)(l:List Lz)(k:Nat):∀u∈flat 51 k (FQ dv l),u.oneCell'=true:=
 LC 51 k (FQ dv l) (λ_ _=>Ic _ _) λi _ u a=>QX _ _ u a
section
variable {w w':World} {F G F':Ap} {gc g me:Nat} {p p':Nat->Pz} {d d':Nat->Int} {lt tk:Int} {wz wz':Bool} {recs cout:Value} {dv:Nat->Nat->Int} {ol:List Lz} {wl al wl' al':List Nat} {lim lim':Nat} {rs rs':Bool}
 {gd mb mb' gw gfr:Nat} {P P':Value} {pv pv':Nat->Value} {sc sc':Int} {kp kp':Nat->Int} {waits out ans waits' out' ans':Value}
theorem O7.drained{wi:CO}{gl gm nl gi gx ni:Nat}{L:List A7}{E:List CY}{leads:Value}{ob:Option Nat}{xs:List Lx}{ws:List Wx}(h:O7 w F gc me p lt wz recs cout wi gl gm nl gi gx ni L E leads ob xs ws) (hm:Mv G w w') (hG:∀k,G k->k<w.heap.size->∃t L,Holds w k t L/\t∈UL) (hc:Holds w' gc 163 (BG zn me gl gi leads AL AL)):Ea w' F gc me p lt wz AL AL:=by
 letI:In:=I0
 have b:=h.co;have n:=b.lt;have d:∀(a:Nat) (t:TypeId) (L:List Value),Holds w a t L->t∉UL->¬G a:=λa t L g u i=>by obtain⟨o,j,h,c⟩:=hG a i g.lt;exact u (Eu g h▸c)
 have m:∀a,a<w.heap.size->IP w a->¬G a:=λa q g i=>by obtain⟨o,j,h,c⟩:=hG a i q;exact Du g h rfl
 have l:∀T:List TypeId,(∀t∈UL,t∉T)->∀k,G k->k<w.heap.size->DN w F T k:=λT d k r s=>by obtain⟨o,j,h,c⟩:=hG k r s;exact Ep h (d _ c)
 exact⟨wi,gl,gm,nl,gi,gx,ni,L,E,leads,ob,xs,ws,b.NL hm hc (d _ _ _ b.lg.ix Iz) (m _ n.2.2.1 b.lg.isMap) (d _ _ _ b.ix.ix Iz) (m _ n.2.2.2.2 b.ix.isMap),h.nl,h.ni,h.ln,h.f,h.lg,h.ix,h.ld.away hm (l Ib Iz) (λ_ h=>h),h.wsh.away hm (l Ig Iz) (λ_ h=>h),h.wz⟩
theorem Dx.drained{ol0:List Lz}(h:Dx w F g me p d lt tk wz recs cout dv ol0 wl al lim rs gd mb gw gc gfr P pv sc kp waits out ans)(hm:Mv G w w')(hG:∀k,G k->k<w.heap.size->∃t L,Holds w k t L/\t∈UL) (hn:Holds w' g 102 (Ar zn me gd gw gc gfr P (MC (Dc d)).ow pv d kp sc tk waits out' ans)) (hd:Dw w' F gd gw mb') (hlm:mb'<=lim') (hc:Ea w' F gc me p lt wz AL AL) (ho:Fh w' F out' ol.length (FQ dv ol)) :Dx w' F g me p d lt tk wz AL AL dv ol wl al lim' rs gd mb' gw gc gfr P pv sc kp waits out' ans:=by
 obtain⟨z,x,y,v,i,r,s,A,c,⟨f,b⟩,o,q⟩:=h;have a:∀T:List TypeId,(∀t∈UL,t∉T)->∀k,G k->k<w.heap.size->DN w F T k:=λT n k l m=>by obtain⟨B,u,h,j⟩:=hG k l m;exact Ep h (n _ j)
 exact⟨hn,hd,hlm,hc,i.away (T:=[197]) b hm (a _ Iz) Iz,r.mv (T:=[69]) hm (a _ Iz) Iz,s.mv (T:=[37]) hm (a _ Iz) Iz,ho,c.mv (T:=VB) hm (a _ Iz) (λ_ h=>h),⟨f,b⟩,o,q⟩
end
def G5(F:Ap)(g me:Nat)(p:Nat->Pz)(d:Nat->Int)(lt tk:Int)(wz:Bool)(dv:Nat->Nat->Int)(ol:List Lz)(wl al:List Nat)(lim:Nat)(rs:Bool)(w w':World):Prop:=EC w' (grow F w w') g me p d lt tk wz AL AL dv ol wl al lim rs/\Mv F w w'
theorem G5.step{w W W':World}{F:Ap}{g me:Nat}{p p':Nat->Pz}{d d':Nat->Int}{lt tk:Int}{wz wz':Bool}{dv:Nat->Nat->Int}{ol:List Lz}{wl al wl' al':List Nat}{lim:Nat}{rs rs':Bool}(h:G5 F g me p d lt tk wz dv ol wl al lim rs w W)(h2:G5 (grow F w W) g me p' d' lt tk wz' dv ol wl' al' lim rs' W W'):G5 F g me p' d' lt tk wz' dv ol wl' al' lim rs' w W':=by obtain⟨l,b⟩:=h;obtain⟨f,c⟩:=h2;have i:=b.size;have j:=c.size;exact⟨f.foot λk a _=>grow_step i j a,b.part c λk a=>a⟩
theorem G5.bel{w W W':World}{F:Ap}{g me:Nat}{p:Nat->Pz}{d:Nat->Int}{lt tk:Int}{wz:Bool}{dv:Nat->Nat->Int}{ol:List Lz}{wl al:List Nat}{lim:Nat}{rs:Bool}(h:G5 F g me p d lt tk wz dv ol wl al lim rs w W)(hb:Below W.heap.size W W'):G5 F g me p d lt tk wz dv ol wl al lim rs w W':=
 ⟨(h.1.bel hb).foot λk c _=>c.imp id λ⟨a,b⟩=>⟨a,Nat.lt_of_lt_of_le b hb.size⟩,h.2.bel hb⟩
instance {w W W':World}{F:Ap}{g me:Nat}{p:Nat->Pz}{d:Nat->Int}{lt tk:Int}{wz:Bool}{dv:Nat->Nat->Int}{ol:List Lz}{wl al:List Nat}{lim:Nat}{rs:Bool}:Bl W W' (G5 F g me p d lt tk wz dv ol wl al lim rs w W) (G5 F g me p d lt tk wz dv ol wl al lim rs w W'):=⟨λhb h=>G5.bel h hb⟩
theorem lJ(w:World)(F:Ap)(B g me:Nat)(p:Nat->Pz)(d:Nat->Int)(lt tk:Int)(wz:Bool)(recs cout:Value)(dv:Nat->Nat->Int)(ol:List Lz)(wl:List Nat)(lim r:Nat)(rs:Bool) (h:EC w F g me p d lt tk wz recs cout dv [] wl [] lim rs) (hr:Tv w B r recs) (ho:Fh w F cout ol.length (FQ dv ol)) (hm:ol.length<=100) (hFB:∀k,B<=k->k<w.heap.size->F k) (hlim:lim<=27000) :Calls prog 90 #[AP g] w λe w'=>e=.returned (.bool true)/\G5 F g me p d lt tk wz dv ol wl [] (lim+500*r) rs w w':=by
 obtain⟨n,M,q,a,o,P,v,sc,kp,x,ak,m,h⟩:=h;have h':=h;obtain⟨u,Q,lm,⟨wi,z,gm,nl,y,gx,ni,L,E,K,ae,xs,ws,i⟩,fr,st,wa,⟨h0,aj,ou,ai⟩,ag,⟨R,f2⟩,kk,rr⟩:=h';obtain rfl:=h0 rfl;obtain⟨U,aa,X,ah⟩:=ho;have Y:=i.f.1;have T:=QY dv ol ol.length;have s:∀W,∀k,F k->k<w.heap.size->grow F w W k:=λW k b _=>.inl b;have Z:∀W k,w.heap.size<=k->k<W.heap.size->grow F w W k:=λW k h1 h2=>.inr ⟨h1,h2⟩;have V:∀W,O7 w (grow F w W) a me p lt wz recs cout wi z gm nl y gx ni L E K ae xs ws:=λW=>by obtain⟨a1,a2,a3,a4,⟨q1,q2,q3,q4,q5⟩,a6,a7,a8,a9,b1⟩:=i;exact⟨a1,a2,a3,a4,⟨.inl q1,.inl q2,.inl q3,.inl q4,.inl q5⟩,a6,a7,a8.foot (s W),a9.foot (s W),b1⟩
 rcases hr with⟨rfl,rfl⟩|⟨rfl,S,cr,mr,rv,af,rfl,D,ad,ac,ab⟩
 .refine Ah (nC g zn me n M q a z y o _ F K cout aa _ P _ v _ _ _ tk x m w u Q i.co.hc X T BJ hm U) ?_;rintro w' ⟨O,N,G,C,A,l,H,J,c⟩;have j:∀k,(k=g\/k=a\/IE w F DZ k)->k<w.heap.size->∃t L,Holds w k t L/\t∈UL:=by
   rintro k (rfl|rfl|⟨_,t,L,h,I⟩) _
   .exact⟨_,_,u,Iz⟩
   .exact⟨_,_,i.co.hc,Iz⟩
   .exact⟨_,_,h,Oe _ I⟩
  refine⟨rfl,⟨n,M,q,a,o,P,v,sc,kp,x,O,m,(h.foot (s w')).drained c j G C BJ ((V w').drained c j A) ⟨J,N,l,λk b=>Z _ k (H k b) (l.lt k b)⟩⟩,?_⟩;exact c.more (by rintro k (rfl|rfl|h);exact R;exact Y;exact h.1)
 .refine Ah (nD g zn me n M q a z y o S cr mr B _ F K cout aa _ rv af P _ v _ _ _ tk x m w u Q i.co.hc D ad ac X T BJ hm U) ?_;rintro w' ⟨O,N,G,C,A,l,H,J,c⟩;have j:∀k,(k=g\/k=a\/k=S\/IE w F DZ k)->k<w.heap.size->∃t L,Holds w k t L/\t∈UL:=by
   rintro k (rfl|rfl|rfl|⟨_,t,L,h,I⟩) _
   .exact⟨_,_,u,Iz⟩
   .exact⟨_,_,i.co.hc,Iz⟩
   .exact⟨_,_,D,Iz⟩
   .exact⟨_,_,h,Oe _ I⟩
  refine⟨rfl,⟨n,_,q,a,o,P,v,sc,kp,x,O,m,(h.foot (s w')).drained c j G C BJ ((V w').drained c j A) ⟨J,N,l,λk b=>Z _ k (H k b) (l.lt k b)⟩⟩,?_⟩;exact c.more (by rintro k (rfl|rfl|rfl|h);exact R;exact Y;exact hFB _ ab D.lt;exact h.1)
end
section
open Rz (zn zN zp zK)
variable [Rz]
theorem Xn(D:Nat->Bool):∀J,J<=zN->(psT D J).length<=J/\∀p∈psT D J,JD J p
 | 0,_=>⟨Ve,λp hp=>(by cases hp)⟩
 | J+1,h=>by
  obtain⟨h1,h2⟩:=Xn D J BJ;have a:=(VP h1 h2 _ (Rz.c J BJ)).1;show (if D J then _ else _:List Pr).length<=_/\∀p∈(if D J then _ else _:List Pr),_;split
  .exact a
  .exact⟨BJ,λp hp=>(h2 p hp).mono BJ⟩
theorem Yk:∀J,Yj J=psT (λ_=>true) J
 | 0=>rfl
 | J+1=>by show (Dy (Yj J) _).1=(Dy (psT _ J) _).1;rw[Yk J]
theorem uO{j:Nat}(hj:j<zN):SC (j+1) (Js j):=by obtain⟨a,b⟩:=Xn (λ_=>true) j BJ;unfold Js;rw[Yk j];exact(VP a b _ (Rz.c j hj)).2
theorem jD(D:Nat->Bool)(i:Nat):∀J,J<=zN->RY J (kC D i J)
 | 0,_=>RY.zero 0
 | J+1,h=>by
  have h1:=jD D i J BJ;have a:=(Rz.c J (by show J<zN;omega)).ss;show RY _ (if _ then _ else _);split
  .exact⟨⟨by simp only;omega,a.2⟩,uO BJ⟩
  .exact h1.mono BJ
theorem OT(D:Nat->Bool):(MC D).Fine 15:=by have a:zN<=15:=Rz.hN;obtain⟨b,c⟩:=Xn D zN Ve;exact⟨Nat.le_trans b a,λp d=>(c p d).mono a,λi _=>(jD D i zN Ve).mono a⟩
def QB(D:Nat->Bool)(J:Nat):Nat:=((List.range J).filter D).length
theorem Lj(D:Nat->Bool)(J:Nat):QB D (J+1)=QB D J+if D J then 1 else 0:=by
 unfold QB;rw[List.range_succ,List.filter_append,List.length_append]
 congr 1
 cases h:D J<;>simp[h]
theorem YL{D D':Nat->Bool}:∀J,(∀j,j<J->D j=true->D' j=true)->QB D J<=QB D' J
 | 0,_=>Ve
 | J+1,h=>by
  have h1:=YL J λj c=>h j BJ;have a:=h J BJ;rw[Lj,Lj];cases b:D J
  .simp only[Bool.false_eq_true,if_false];omega
  .rw[a b];simp only[if_true];omega
theorem VJ{D:Nat->Bool}{i:Nat}:∀J,(J<=i->QB (Nl D i) J=QB D J)/\(i<J->D i=false->QB (Nl D i) J=QB D J+1)
 | 0=>⟨λ_=>rfl,λh=>absurd h BJ⟩
 | J+1=>by
  obtain⟨h1,h2⟩:=VJ J;rw[Lj,Lj];refine⟨λh=>?_,λh a=>?_⟩
  .rw[h1 BJ,FY BJ]
  .by_cases e:J=i
   .subst e;rw[h1 Ve,Np,a];simp
   .rw[FY e,h2 BJ a];omega
theorem SH:∀(ks:List Kn) (D D':Nat->Bool),ks.Nodup->(∀k∈ks,∃j,j<zN/\k=zK j/\D j=false)->(∀j,j<zN->D j=true\/zK j∈ks->D' j=true)->QB D zN+ks.length<=QB D' zN
 | [],D,D',_,_,h=>YL zN λj hj hD=>h j hj (.inl hD)
 | k :: ks,D,D',hn,hs,h=>by
  obtain⟨j,hj,rfl,hD⟩:=hs _ (List.mem_cons_self ..);obtain⟨f,g⟩:=List.nodup_cons.1 hn;have l:=(VJ (D:=D) (i:=j) zN).2 hj hD;have m:=SH ks (Nl D j) D' g (λk c=>by
   obtain⟨i,b,rfl,d⟩:=hs k (List.mem_cons_of_mem _ c);exact⟨i,b,rfl,by rw[FY (λe=>f (by rw[<-e];exact c))];exact d⟩) (λi b a=>by
   rcases a with a|a
   .by_cases e:i=j
    .subst e;exact h _ b (.inr (List.mem_cons_self ..))
    .rw[FY e] at a;exact h i b (.inl a)
   .exact h i b (.inr (List.mem_cons_of_mem _ a)))
  rw[List.length_cons];omega
theorem IQ.cnt{p:Nat->Pz}{d d':Nat->Int}{kl ks:List Kn}(h:IQ p d d' kl ks):UH d+ks.length<=UH d':=
 SH ks (Dc d) (Dc d') h.inv.nd (λk f=>by
  obtain⟨b,i,_⟩:=h.inv.sub k f;obtain⟨j,a,rfl,l,_⟩:=h.sub k b;refine⟨j,a,rfl,?_⟩;cases c:Dc d j with
  | false=>rfl
  | true=>rw[Vh] at c;omega) λj a g=>(h.done a).2 g
theorem ku(d:Nat->Int):UH d<=15:=by have a:zN<=15:=Rz.hN;have:=List.length_filter_le (Dc d) (List.range zN);rw[List.length_range] at this;exact Nat.le_trans this a
theorem RV.le{p:Nat->Pz}{d:Nat->Int}(h:RV p d)(r:Nat):0<=d r/\d r<=15:=by
 refine⟨h.nn r,?_⟩;by_cases f:0<d r
 .obtain⟨j,a,b,c⟩:=h.hi r f;have:=Tc a;omega
 .omega
theorem IL{w:World}{v:Value}{ob:Option Nat}{e:TypeId}{s n:Nat}{xs:List Value}(h:AV w v ob e s n xs):∀g,ob=some g->∃L,Holds w g e L:=λg a=>by
 rcases h.cases with⟨_,b,_⟩|⟨d,_,_,_,b,_,_,c,_⟩
 .rw[b] at a;cases a
 .rw[b] at a;cases a;exact⟨_,c⟩
theorem uo:zn<=7/\2<=zn:=by have a:zn=3\/zn=5\/zn=7:=Rz.n7;omega
theorem jY{p:Nat->Pz}{L:List A7}(h:Nh p L):UA L:=λe b=>by
 obtain⟨j,d,a⟩:=(h e).1 b;cases c:p j<;>rw[c] at a<;>simp only[JQ,Option.some.injEq] at a
 .cases a
 all_goals subst a;exact⟨_,rfl⟩
def yJ(p:Nat->Pz)(d:Nat->Int)(kl:List Kn):Prop:=(∀k∈kl,∃j,j<zN/\k=zK j/\isC (p j)=true/\d k.m<k.I.sl)/\(∀j,j<zN->isC (p j)=true->d (zK j).m<(zK j).I.sl->zK j∈kl)/\U7 kl/\kl.length<=100
theorem tK{p:Nat->Pz}{d:Nat->Int}{L:List A7}{kl:List Kn}{PP:List (Int × Int)}(hL:Nh p L)(h:PT xQ L d PP kl)(hP:∀e∈L,(e.r,e.s)∈PP)(hl:kl.length<=100):yJ p d kl:=by
 refine⟨λk n=>?_,λj a g l=>?_,h.nd,hl⟩
 .obtain⟨⟨j,a,rfl⟩,b,_,h4⟩:=h.sub k n;exact⟨j,a,rfl,(YP hL a).1 b,h4⟩
 .have h1:=(YP hL a).2 g;obtain⟨o,b,f⟩:=h.all _ h1 (hP _ h1) l;obtain⟨⟨i,m,rfl⟩,_⟩:=h.sub o b;injection f with q c t;obtain rfl:i=j:=Gv m a BJ c;exact b
theorem wQ(w:World)(F:Ap)(g me:Nat)(p:Nat->Pz)(d:Nat->Int)(lt tk:Int)(wz:Bool)(dv:Nat->Nat->Int)(ol:List Lz)(wl:List Nat)(lim:Nat) (h:EC w F g me p d lt tk wz AL AL dv ol wl [] lim true) (hd:RV p d) (hr:Ij p d) (hg:wz=true\/∀j,j<zN->isC (p j)=true->(zK j).I.sl<=d (zK j).m+1) :Calls prog 91 #[AP g] w λe w'=>e=.returned (.tuple #[])/\∃d',Ko p d'/\(∀r,d r<=d' r)/\G5 F g me p d' lt tk wz dv ol wl [] lim false w w':=by
 obtain⟨gd,mb,gw,gc,ab,P,pv,sc,kp,ae,ad,aa,h⟩:=h;have h':=h;obtain⟨nd,dk,lm,⟨wi,gl,gm,nl,gi,gx,ni,L,E,bj,b9,xs,ws,O⟩,fr,⟨ob,pb,sP,sO,bt,bu⟩,wa,ou,bx,⟨f1,f2⟩,kk,rr⟩:=h';have h8:=rr rfl;have an:=hd.le;have b3:=FO p;have b5:=O.ln;have hz:=uo;refine(oI g zn me gd gw gc ab (MC (Dc d)) P ob pv pb F d kp sc tk ae ad aa (yJ p d) (λd' z ks W=>G5 F g me p d' lt tk wz dv ol wl [] lim false w W) w nd sP sO ⟨bt,bu⟩ ⟨kk.s0.1,BJ⟩ (λr _=>by have:=an r;omega)
  (λz l=>⟨wE (λk u=>by obtain⟨j,a,b,c,_⟩:=l.1 k u;exact⟨j,a,b,c⟩) hd.nn hr,l.2.2⟩)
  (λz d' ks l B H i Y=>?_) (λW G=>?_) (λz d' ks w1 l B H bd=>?_) (λz d' ks r W l B H ac bc hR=>?_) (λd' z ks W W' h G=>h.bel G)).mono ?_
 .obtain⟨D,j,hj,X,v,o⟩:=IQ.at_ ⟨B,H,l.1,l.2.1⟩ hd hr i Y;have hm:(zK j).m<zn:=Rz.m j;refine⟨by rw[X];omega,by rw[X];exact Rz.c j hj,?_,?_⟩
  .unfold PX;rw[v];exact(OT D).ok BJ
  .unfold PX;rw[v];exact o
 .letI:In:=I0
  letI:=wi
  refine(Rh xQ g zn me gd gw gc gl gm nl gi gx ni ab L E bj _ _ P _ pv d kp sc tk ae ad aa W (nd.bel G) (O.co.bel G) BJ (λr=>by have:=an r;omega) (sG O.lg hd.com) O.lg.one).mono ?_;rintro e w' ⟨R,bo,z,PP,rfl,v,o,h3,h4,h5,h6⟩;exact⟨R,bo,z,rfl,tK O.lg v o BJ,h3,h6⟩
 .have hpz:IQ p d d' z ks:=⟨B,H,l.1,l.2.1⟩;obtain⟨P',br,bm,bq,r1,r2,r3,r4,r5,r6⟩:=bd;have bf:PX (MC (Dc d)) ks=MC (Dc d'):=hpz.st hd hr;rw[bf] at r1 r2 r3;have b2:=hpz.cnt;have b1:=ku d';have bb:=B.le;obtain⟨q1,q2,q3,q4,q5,q6,q7,q8⟩:=(h.foot (F':=grow F w w1) λk l _=>.inl l).part [102] r6 (λk l K=>.inl ⟨_,_,l▸nd,Vj⟩);have hs:=r6.size;refine⟨⟨gd,mb,gw,gc,ab,P',br,sc+ks.length,kp,ae,ad,aa,?_⟩,r6.more λk l=>l▸f1⟩;refine⟨r1,q2 Iz,lm,q3 (λk l K=>⟨_,_,l▸nd,Vj⟩) Iz,q4 Iz,⟨bm,bq,r2,r3,λk l=>?_,λi Y k l=>?_⟩,q6 Iz,q7 Iz,q8 Iz,⟨.inl f1,.inl f2⟩,⟨by have:=kk.s0;omega,λr=>by have:=kk.lo r;have:=bb r;omega,?_⟩,λh=>by cases h⟩
  .rcases r4 k l with h|h
   .exact .inl h
   .exact .inr ⟨h,AV.lt r2 k l⟩
  .rcases r5 i Y k l with h|h
   .exact .inl h
   .exact .inr ⟨h,AV.lt (r3 i Y) k l⟩
  .rcases kk.q with h|⟨h,o⟩
   .exact .inl BJ
   .exact .inr ⟨h,BJ⟩
 .have hpz:IQ p d d' z ks:=⟨B,H,l.1,l.2.1⟩;have aq:=hpz.ok hd;have b4:=aq.le r;have bh:wz=true:=by
   rcases hg with h|h
   .exact h
   .rw[uC hpz h r] at ac;cases ac
  have be:r<zn:=by obtain⟨k,a7,a8⟩:=List.any_eq_true.1 ac;obtain⟨j,hj,rfl,_⟩:=l.1 k a7;have hm:(zK j).m<zn:=Rz.m j;simp only[Bool.and_eq_true,beq_iff_eq] at a8;omega
  obtain⟨⟨ag,bl,al,V,ah,P2,a1,a2,au,a3,a0,af,o⟩,ao⟩:=hR;have a6:=o;obtain⟨aw,b0,bk,⟨S,aj,ak,ay,ai,am,ax,L2,E2,av,bp,bw,a4,s⟩,a5,cb,cc,ca,bz,⟨f3,f4⟩,bi,bs⟩:=a6;obtain⟨az,Z,ar⟩:=s.wsh.own;have bg:S.n=a4.length:=by
   rcases Z.cases with⟨r,_,r2,_⟩|⟨_,_,_,r,_⟩
   .injection r with _ e _;omega
   .injection r with _ e _
  letI:In:=I0
  refine(qW g zn me ag al V ah r P2 (MC (Dc d')).ow a1 d' au a2 tk a3 a0 af (d' r+1) (λW'=>G5 F g me p d' lt tk wz dv ol wl [] lim false w W'/\∀k L,Holds W k 37 L->Holds W' k 37 L) W aw bc ⟨aq.nn r,BJ⟩ ⟨BJ,BJ⟩ (λu=>absurd u BJ) (λ_ J y=>?_) (λW1 J u G=>⟨u.1.bel G,λk L C=>(u.2 k L C).bel G⟩)).mono ?_
  .have hc3:=s.co.bel y;refine(jl V zn me aj ak ay ai am ax r S.n S.c S.p (d' r+1) L2 E2 av _ _ az a4 J hc3 bg ⟨Z.bel y,λx u=>(s.wsh.blk x u).1.bel y⟩ s.wsh.len (jY s.lg) be hz.1 ⟨BJ,BJ⟩).mono ?_;rintro e M ⟨X,pw,mw,cw,bn,bv,c1,c2,U,c4,c5,c6,N⟩;have hG:∀k,(k=V\/az=some k)->k<J.heap.size->∃t L,Holds J k t L/\t∈[163,177]:=by
    rintro k (rfl|l) _
    .exact⟨_,_,hc3.hc,Vj⟩
    .obtain⟨L,C⟩:=IL (Z.bel y) k l;exact⟨_,_,C,Vj⟩
   have b6:=ao.size;have b7:=y.size;have b8:=N.size;have h4:=(o.bel y).foot (F':=grow F w M) λk l _=>by
    rcases l with l|⟨a,b⟩
    .exact .inl l
    .exact .inr ⟨a,BJ⟩
   obtain⟨q1,q2,q3,q4,q5,q6,q7,q8⟩:=h4.part [163,177] N (λk l K=>.inl (hG k l K));have ap:∀k,J.heap.size<=k->k<M.heap.size->grow F w M k:=λk v o=>.inr ⟨BJ,o⟩;have A:∀k,grow F w W k->k<W.heap.size->grow F w M k:=λk l _=>by
    rcases l with l|⟨a,b⟩
    .exact .inl l
    .exact .inr ⟨a,BJ⟩
   have Q:=(letI:=S;letI:In:=I0;s.co.lt);obtain⟨g1,g2,g3,g4,g5⟩:=s.f;have a9:=(s.ld.away (T:=Ib) (F:=grow F w W) (.of_below y:Mv (λ_=>False) W J) (λ_ h=>h.elim) (λ_ h=>h)).foot (F':=grow F w M) λk l K=>by
    rcases l with l|⟨a,b⟩
    .exact .inl l
    .exact .inr ⟨a,BJ⟩
   have ba:=a9.away (T:=Ib) N (λk l K=>by
    obtain⟨t,L,v,o⟩:=hG k l K;exact Ep v ((show ∀t∈[163,177],t∉Ib by decide) t o)) (λ_ h=>h)
   refine⟨X,⟨⟨⟨ag,bl,al,V,ah,P2,a1,a2,au,a3,a0,af,q1 Iz,q2 Iz,bk,⟨⟨pw,mw,cw⟩,aj,ak,ay,ai,am,ax,L2,E2,av,bp,bw,bv,c1,s.nl,s.ni,s.ln,⟨A _ g1 Q.1,A _ g2 Q.2.1,A _ g3 Q.2.2.1,A _ g4 Q.2.2.2.1,A _ g5 Q.2.2.2.2⟩,s.lg,s.ix,ba,⟨⟨bn,c2▸U.1,λk l=>?_⟩,λx u=>⟨U.2 x u,?_⟩,c4⟩,λh=>by rw[bh] at h;cases h⟩,q4 Iz,q5 Iz,q6 Iz,q7 Iz,q8 Iz,⟨A _ f3 aw.lt,A _ f4 a5.lt⟩,bi,bs⟩,?_⟩,λk L C=>?_⟩,q1 Iz⟩
   .rcases c5 with h|⟨k2,h,h5⟩
    .rw[h] at l;exact A _ (ar k l) (Z.lt k l)
    .rw[h] at l;obtain rfl:=Option.some.inj l;exact ap _ h5 (U.1.lt _ h)
   .rcases c6 x u with h|h
    .exact A _ (s.wsh.blk x h).2 (s.wsh.blk x h).1.lt
    .exact ap _ h (U.2 x u).lt
   .refine(ao.bel y).part N λk l=>?_;rcases l with rfl|l
    .rcases g1 with h|⟨a,b⟩
     .exact .inl h
     .exact .inr ⟨a,BJ⟩
    .rcases ar k l with h|⟨a,b⟩
     .exact .inl h
     .exact .inr ⟨a,BJ⟩
   .refine(C.bel y).mv N λl=>?_;obtain⟨t,L',v,o⟩:=hG k l (C.bel y).lt;have:=Eu (C.bel y) v;subst this;exact absurd o Iz
  .rintro e w' ⟨rfl,v,o⟩;exact⟨rfl,v,o⟩
 .rintro e w' ⟨rfl,z,d',ks,l,B,H,hR⟩;exact⟨rfl,d',(show IQ p d d' z ks from⟨B,H,l.1,l.2.1⟩).ok hd,B.le,hR⟩
end
end Go.Proofs.YtimdpiifpibgfaaGreatDoor
