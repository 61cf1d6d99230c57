/- A part of the proof of TopReads. -/
import Derived.Test.YtimdpiifpibgfaaGreatDoorQr15
set_option linter.all false
set_option maxRecDepth 20000
set_option maxHeartbeats 16000000
open Go.RowKit Go.Maps
namespace Go.Proofs.YtimdpiifpibgfaaGreatDoor
open Tryz
theorem Au.nil(w:World)(B:Nat):Au w B AL 0:=⟨[],rfl,⟨λx a=>(by cases a),BJ⟩,rfl,.inl ⟨rfl,rfl⟩⟩
theorem Yx(v vl:Value)(len m:Nat)(ob:Option Nat)(l:List Pr)(w:World)(h:Be w v len)(hl:len<=100000)(hp:Ad w vl ob l)(hn:l.length<=40)(hm:m<=1000000)(hk:∀p∈l,JD m p) :Calls prog 230 #[v,vl] w λe w'=>∃v' k,e=.returned v'/\len+1<=k/\k<=len+10+l.length*158/\Au w' w.heap.size v' k/\Below w.heap.size w w':=by
 obtain⟨F,G⟩:=WZ (λv len n W (h:Be W v len) (hl:len<=1000000)=>FU v len n W h hl) (λv len t W (h:Be W v len) (hl:len<=1000000)=>Ox v len t W h hl);obtain⟨p,c,rfl,S,Q,_,J⟩:=hp.rows;obtain⟨pv,cv,rfl⟩:=h.shape;obtain⟨u,d,M⟩:=bP J h hk;clear J hp S Q h hk;go_in;go_wp2_with fail;refine(F.o _ len _ _ d.o BJ BJ).mono ?_;rintro e D ⟨v1,L,rfl,aa,R,s,a⟩;obtain⟨u,E,d⟩:=bP (u.below a) a s;clear a s;go_wp2_with fail;have ae:=E.size;go_loopw [13,0] (λi vb wr=>∃k x:Nat,k<=l.length/\i=AA k/\(len+1<=x/\x<=len+10+k*158)/\Au wr w.heap.size vb x/\Base D.heap.size D wr) (λi _ _=>l.length - (intOf i).toNat);case atStart=>exact⟨0,L,BJ,rfl,BJ,d.o,Base.start _⟩
 case round=>
  obtain⟨k,x,hk,rfl,hx,C,a⟩:=hrel;have f:=qh a;have ag:=a.le;have d:=qh C;obtain⟨pb,cb,rfl⟩:=C.shape;clear C a;by_cases z:k<l.length
  .obtain⟨b,off,rfl,hlt⟩:=u.spot BJ;have y:=qh (show wr.rangeAt b (off+k*3) (l.getD k .zero).cells from u.range f.below z);have T:JD m (l.getD k .zero):=by rw[getD_at l k z];exact M.o _ (List.getElem_mem z)
   obtain⟨U,Y,V,X⟩:=T;generalize l.getD k .zero=q at y U Y V X;go_upto_region 5 with(first|(refine lM (off+k*3) y.o ?_)|(refine Ai rfl 69 _ _ rfl rfl _ _ q.cells.toArray rfl rfl ND ND (Pr.one' _) ?_));go_name_world W A;have g:=qh (show Holds W wr.heap.size 69 q.cells by rw[<-A];exact AC wr _ _);have B:Below wr.heap.size wr W:=by rw[<-A];exact(Below.refl _ _).alloc Ve _
   obtain⟨d,f⟩:=Ce B d f;have af:=B.size;have Z:w.heap.size<=W.drew.heap.size:=by show w.heap.size<=W.heap.size;omega
   clear A y B;obtain⟨g,d,f⟩:=D5 (AY _ W) g d f;refine Ed [] 11 (λhSn=>?_);generalize W.drew=wd at g d f Z hSn |-;simp only[List.replicate];refine F9 0 ?_;refine BO 2 [] (λw r=>Am (g.bel r) 0) ?_;refine CW 4 ?_;refine BO 5 [] (λw r=>Am (g.bel r) 1) ?_;refine CW 7 ?_;refine BO 8 [] (λw r=>Am (g.bel r) 2) ?_;refine BN 3 rfl (λK j=>?_);go_simp;refine(G.o _ _ q.k _ d.ET BJ BJ).mono ?_;rintro e D ⟨v1,L,rfl,aa,R,s,a⟩;have hSn:=AO hSn a;have N:=qh s;clear s;clear a;refine BR j ?_;clear j;refine BN 6 rfl (λK j=>?_);go_simp;refine(G.o _ _ q.v _ N.ET BJ BJ).mono ?_;rintro e w2 ⟨v2,m2,rfl,ah,ab,H,a⟩;have hSn:=AO hSn a;have O:=qh H;have ad:=hSn.size;clear H;clear a;refine BR j ?_;clear j;refine BN 9 rfl (λK j=>?_);go_simp;refine(F.o _ _ q.n _ O.ET BJ BJ).mono ?_;rintro e w3 ⟨v3,m3,rfl,ai,ac,I,a⟩;have hSn:=AO hSn a;have P:=qh I;clear I;clear a;refine BR j ?_;clear j;refine CW 10 ?_;refine BA ?_;obtain⟨g,d,f⟩:=D5 hSn g d f;clear hSn;go_wp2_with fail;go_roundw;case rel=>exact⟨k+1,m3,BJ,by go_num,BJ,P.mono BJ,f.o⟩
   case measure=>simp[intOf];omega
  .obtain rfl:k=l.length:=BJ
   go_wp2_with fail;go_ret;exact⟨_,x,rfl,BJ,BJ,d.o,AO E.o f.below⟩
def bf(lim:Nat)(w:World)(e:Ending)(w':World):Prop:=∃v' k,e=.returned v'/\k<=lim/\Au w' w.heap.size v' k/\Below w.heap.size w w'
theorem xF(v:Value)(ob:Option Nat)(S:St)(m:Nat)(pv:Nat->Value)(pb:Nat->Option Nat)(w:World)(h:Ad w v ob S.ps)(h2:OwnAt w S.ow pv pb)(hf:S.Fine m)(hm:m<=30) :Calls prog 169 #[.agg (Gx v S.ow pv).toArray] w (bf 15800 w):=by
 obtain⟨l,o⟩:=S;simp only at h h2;have bk:l.length<=30:=by have:=hf.len;simp only at this;omega
 have ah:∀p∈l,JD m p:=hf.ps;have aa:∀i,i<8->RY m (o i):=hf.ow;obtain⟨KR,KP,E,KN,KT,KF,aq,D⟩:=ed (λW h h2=>Yw v ob l o pv pb W h h2) (λW h=>Yx AL v 0 m ob l W (Be.nil W) BJ h BJ BJ ah) (λk (hk:k<8) vb z W (d:Be W vb z) G h=>Yx vb (pv k) z m (pb k) (o k).rep.ps W d G h (by have:=(aa k hk).rep.len;omega) BJ (aa k hk).rep.ps) (λv z n W (h:Be W v z) (G:z<=1000000)=>FU v z n W h G) (λv z t W (h:Be W v z) (G:z<=1000000)=>Ox v z t W h G) (λv z b W (h:Be W v z) (G:z<=1000000)=>TP v z b W h G) aa h;obtain⟨A,a⟩:=WZ h2 (Base.start w);obtain⟨p,n,c,rfl⟩:=h.CZ;generalize hQ:bf 15800 w=Q;have HQ:=qh (show ∀e w',bf 15800 w e w'->Q e w' from λe w' h=>hQ▸h);clear h h2 hQ hf ah aa;go_in;go_upto_region 1 with(fail);go_name_world W N;have N:Bo w [.cells (Gx (.slice p n c) o pv:List Value).toArray 66]=W:=N;have s:=qh (show Holds W (w.heap.size) 66 (Gx (.slice p n c) o pv) from Ae _ N 0 rfl);have ag:=Aq _ N;obtain⟨a,D,A⟩:=D5 ag a D A;clear N ag;generalize ad:w.heap.size=gX at s a HQ |-;have M:=qh s.Af;go_wp2_with (first|(refine lM 0 M.o ?_));refine(KR.o _ D.o A.o).mono ?_;rintro e w1 ⟨⟨r,rfl⟩,d⟩;obtain⟨s,a,D,A⟩:=En d s a D A;clear d M;cases r
 .go_wp2_with fail;exact HQ.o _ _ ⟨_,0,rfl,BJ,Au.nil _ _,(by rw[ad];exact a.below)⟩
 .have C:=s.cell 0;simp only[Gx,List.getElem?_cons_zero] at C;go_wp2_with fail;refine(KP.o _ D.o).mono ?_;rintro e w2 ⟨v2,m2,rfl,bl,bd,ai,d⟩;have ay:=a.le;obtain⟨s,a,A⟩:=D5 d s a A;obtain⟨f,M⟩:=WZ (ai.mono ay) (show w2.rangeAt gX 1 (BH o pv) from s.CB 1 (λj v hv=>by rw[Nat.add_comm];exact hv));clear d ai C D;go_wp2_with (first|(refine lM 1 M.o ?_));clear M s;have bc:=a.le;go_loopw [15,3] (λi vb wr=>∃k x:Nat,k<=8/\i=AA k/\x<=4750+k*1379/\Au wr gX vb x/\Base w2.heap.size w2 wr) (λi _ _=>8 - (intOf i).toNat);case atStart=>exact⟨0,m2,BJ,rfl,BJ,f.o,Base.start _⟩
  case round=>
   obtain⟨k,x,hk,rfl,hx,ho,d⟩:=hrel;obtain⟨f,a,A,q⟩:=bY ho (a.bel d.below) (A.bel d.below) d;obtain⟨bs,bb,rfl⟩:=ho.shape;clear ho d;by_cases h1:k<8
   .have hix:=TL o pv k h1;obtain⟨L,hL⟩:∃L,L=(BH o pv).toArray:=⟨_,rfl⟩;rw[<-hL] at hix |-;clear hL;obtain⟨ac,E,g⟩:=bP (aq.o k h1) (E.o k h1) (A.o k h1);have ab:=jE (x:=o k) g.o.CZ;obtain⟨T,R,P,ap⟩:=g.o.CZ;generalize pb k=br at E g;generalize a3:o k=x2 at hix ac E g ab;generalize pv k=vk at hix E g ab ap;subst ap;clear a3;obtain⟨sq,⟨Z,U,I,Y,X⟩⟩:=x2;obtain⟨⟨a4,a5⟩,⟨a9,ba⟩,a8,⟨a1,a2⟩,a0,_⟩:=ac.o;simp only at a4 a5 a9 ba a8 a1 a2 a0 E g;clear ac;go_upto_region 7 with(first|(refine Ai rfl 63 _ _ rfl rfl _ _ (Je ⟨sq,⟨Z,U,I,Y,X⟩⟩ (.slice T R P)).toArray rfl rfl ND ND ab ?_));go_name_world V F;have s:=qh (show Holds V wr.heap.size 63 (Je ⟨sq,⟨Z,U,I,Y,X⟩⟩ (.slice T R P)) by rw[<-F];exact AC wr _ _);have O:Below wr.heap.size wr V:=by rw[<-F];exact(Below.refl _ _).alloc Ve _
    obtain⟨f,a,g,q⟩:=En O f a g q;clear F hix O ab;generalize wr.heap.size=gI at s |-;have C:=s.cell 0;simp only[Je,List.getElem?_cons_zero] at C;go_wp2_with fail;refine(KN.o _ _ _ _ f.ET BJ BJ).mono ?_;rintro e J ⟨v3,m3,rfl,bm,be,aj,d⟩;have az:=a.le;obtain⟨s,a,g,q⟩:=En d s a g q;have f:=qh (aj.mono az);clear d aj C;have C:=s.cell 0;simp only[Je,List.getElem?_cons_zero] at C;have HR:=qh (show J.rangeAt gI 1 (Bq ⟨Z,U,I,Y,X⟩ (.slice T R P)) from s.CB 1 (λj v hv=>by rw[Nat.add_comm];exact hv));by_cases h0:sq=0
    .subst h0;go_wp2_with fail;go_roundw;case rel=>exact⟨k+1,m3,BJ,by go_num,BJ,f.o,q.o⟩
     case measure=>simp[intOf];omega
    .have h0':(sq==0)=false:=by simpa using h0
     go_upto_region 10 with(first|(refine lM 1 HR.o ?_)|(refine Ai rfl 53 _ _ rfl rfl _ _ (Bq ⟨Z,U,I,Y,X⟩ (.slice T R P)).toArray rfl rfl ND ND (by simp[Bq,Value.oneCell']) ?_));go_name_world V F;have u:=qh (show Holds V J.heap.size 53 (Bq ⟨Z,U,I,Y,X⟩ (.slice T R P)) by rw[<-F];exact AC J _ _);have O:Below J.heap.size J V:=by rw[<-F];exact(Below.refl _ _).alloc Ve _
     obtain⟨f,a,g,q⟩:=En O f a g q;clear F HR O s C;generalize J.heap.size=gJ at u |-;have H:gX<=V.drew.heap.size:=a.le;obtain⟨u,f,a,g,q⟩:=Gj (AY _ V) u f a g q;refine Ed [] 8 (λhSn=>?_);generalize V.drew=wd at u f a g q H hSn |-;simp only[List.replicate];refine F9 0 ?_;refine BO 2 [] (λw B=>Am (u.bel B) 0) ?_;refine CW 4 ?_;refine BO 5 [] (λw B=>Am (u.bel B) 1) ?_;refine BN 3 rfl (λK y=>?_);go_simp;refine(KN.o _ _ _ _ f.ET BJ BJ).mono ?_;rintro e w4 ⟨v4,m4,rfl,bn,bg,ak,d⟩;have hSn:=AO hSn d;have ae:=qh ak;have a6:=hSn.size;clear ak;clear d;refine BR y ?_;clear y;refine BN 6 rfl (λK y=>?_);go_simp;refine(KF.o _ _ _ _ ae.ET BJ).mono ?_;rintro e w5 ⟨v5,rfl,al,d⟩;have hSn:=AO hSn d;have af:=qh (al.mono (Nat.le_trans H a6));clear al;clear d;refine BR y ?_;clear y;refine CW 7 ?_;refine BA ?_;obtain⟨u,f,a,g,q⟩:=Gj hSn u f a g q;clear hSn;have f:=af;clear ae af H;go_upto_region 11 with(fail);have H:gX<=w5.drew.heap.size:=a.le;obtain⟨u,f,a,g,q⟩:=Gj (AY _ w5) u f a g q;refine Ed [] 11 (λhSn=>?_);generalize w5.drew=wd at u f a g q H hSn |-;simp only[List.replicate];refine F9 0 ?_;refine BO 2 [] (λw B=>Am (u.bel B) 2) ?_;refine CW 4 ?_;refine BO 5 [] (λw B=>Am (u.bel B) 3) ?_;refine CW 7 ?_;refine BO 8 [] (λw B=>Am (u.bel B) 4) ?_;refine BN 3 rfl (λK y=>?_);go_simp;refine(KT.o _ _ I _ f.ET BJ BJ).mono ?_;rintro e w6 ⟨v6,m6,rfl,bo,bh,am,d⟩;have hSn:=AO hSn d;obtain⟨ar,aw⟩:=WZ am (g.o.bel d);clear am;clear d;refine BR y ?_;clear y;refine BN 6 rfl (λK y=>?_);go_simp;refine(KN.o _ _ _ _ ar.ET BJ BJ).mono ?_;rintro e w7 ⟨v7,m7,rfl,bp,bi,an,d⟩;have hSn:=AO hSn d;obtain⟨au,ax⟩:=WZ an (aw.bel d);have a7:=hSn.size;clear an;clear d;refine BR y ?_;clear y;refine BN 9 rfl (λK y=>?_);go_simp;refine(E.o _ _ _ au.ET BJ ax.o).mono ?_;rintro e w8 ⟨v8,m8,rfl,bq,bj,ao,d⟩;have hSn:=AO hSn d;have av:=qh (ao.mono (Nat.le_trans H a7));clear ao;clear d;refine BR y ?_;clear y;refine CW 10 ?_;refine BA ?_;obtain⟨u,f,a,g,q⟩:=Gj hSn u f a g q;clear hSn;go_wp2_with fail;go_roundw;case rel=>exact⟨k+1,m8,BJ,by go_num,BJ,av.o,q.o⟩
     case measure=>simp[intOf];omega
   .obtain rfl:k=8:=BJ
    go_wp2_with fail;exact HQ.o _ _ ⟨_,x,rfl,BJ,by rw[ad];exact f.o,by rw[ad];exact a.below⟩
def Cj(d:Nat->Int):List Value:=[AA (d 0),AA (d 1),AA (d 2),AA (d 3),AA (d 4),AA (d 5),AA (d 6)]
theorem su(d:Nat->Int)(w:World)(hd:∀j,0<=d j/\d j<=1073741824) :Calls prog 168 #[.agg #[AA (d 0),AA (d 1),AA (d 2),AA (d 3),AA (d 4),AA (d 5),AA (d 6)]] w λe w'=>e=.returned (.bool true)/\Below w.heap.size w w':=by have K:=qh (λW=>XE 0 d W BJ hd);clear hd;go_in;go_upto_region 1 with(fail);go_name_world W c;obtain⟨b,g,h⟩:=GI 41 ([AA (d 0),AA (d 1),AA (d 2),AA (d 3),AA (d 4),AA (d 5),AA (d 6)]) c;clear c;have a:=qh g;obtain⟨i,k,l,m,n,p,q⟩:=Gl b.o 0 1 2 3 4 5 6;clear g h b;go_wp2_with fail;refine Ah (K.out _) ?_;rintro r f;have a:=qh (AO a.o f);clear f i k l m n p q;go_wp2_with fail;go_ret;exact⟨rfl,a.o⟩
theorem sZ(d:Nat->Int)(k:Nat)(hk:k<7):∀W:World,(Instr.index 41 (.agg (Cj d).toArray) (AA k)).run prog W=.ok (AA (d k)) W:=by intro W;rcases(show k=0\/k=1\/k=2\/k=3\/k=4\/k=5\/k=6 by omega) with rfl|rfl|rfl|rfl|rfl|rfl|rfl<;>rfl
def Wi(lim:Nat)(w:World)(e:Ending)(w':World):Prop:=∃v' k,e=.returned v'/\(1<=k\/v'=AL/\k=0)/\k<=lim/\Au w' w.heap.size v' k/\Below w.heap.size w w'
theorem xu(v:Value)(ob:Option Nat)(S:St)(m:Nat)(d:Nat->Int)(pv:Nat->Value)(pb:Nat->Option Nat)(w:World)(h:Ad w v ob S.ps)(h2:OwnAt w S.ow pv pb)(hf:S.Fine m)(hm:m<=30)(hd:∀j,0<=d j/\d j<=1073741824) :Calls prog 94 #[.agg (Cj d).toArray,.agg (Gx v S.ow pv).toArray] w (Wi 16000 w):=by
 have Y:=qh (λW h h2=>xF v ob S m pv pb W h h2 hf hm);obtain⟨l,o⟩:=S;simp only at h h2 Y;obtain⟨KS,KR,KN,g,f,a,ai⟩:=oC (λW h h2=>Yw v ob l o pv pb W h h2) (λW=>(show Calls prog 168 #[.agg (Cj d).toArray] W λe G=>e=.returned (.bool true)/\Below W.heap.size W G from su d W hd)) (λv U n W (h:Be W v U) (hl:U<=1000000)=>FU v U n W h hl) h h2 (Base.start w) hd;obtain⟨p,n,c,rfl⟩:=h.CZ;generalize hQ:Wi 16000 w=Q;have M:=qh (show ∀e G,Wi 16000 w e G->Q e G from λe G h=>hQ▸h);clear h h2 hQ hf hd;go_in;go_upto_region 1 with(fail);go_name_world W hW;obtain⟨t,q,aa,au⟩:=bF 41 (Cj d) 66 (Gx (.slice p n c) o pv) hW;clear hW;obtain⟨a,g,f⟩:=D5 aa a g f;clear aa au;have a1:=a.le;generalize ba:w.heap.size+1=gX at q |-;generalize T:w.heap.size=E at t a M |-;have C:=qh q.Af;go_wp2_with (first|(refine lM 0 C.o ?_));refine(KS.o _ g.o f.o).mono ?_;rintro e w1 ⟨⟨r,rfl⟩,b⟩;obtain⟨q,t,a,g,f⟩:=Gj b q t a g f;clear b C;cases r
 .go_wp2_with fail;exact M.o _ _ ⟨_,0,rfl,.inr ⟨rfl,rfl⟩,BJ,Au.nil _ _,(by rw[T];exact a.below)⟩
 .have B:=qh t.Af;go_wp2_with (first|(with_reducible refine lR 0 B.o ?_));refine Ah (KR.o _) ?_;rintro w2 b;obtain⟨q,t,a,g,f⟩:=Gj b q t a g f;clear b B;have B:=qh t.Af;go_wp2_with (first|(refine lM 0 B.o ?_));clear B;have a2:=a.le;go_loopw [17,5] (λi vb wr=>∃k x:Nat,k<=7/\i=AA k/\k<=x/\x<=k*10/\Au wr E vb x/\Base w2.heap.size w2 wr) (λi _ _=>7 - (intOf i).toNat);case atStart=>exact⟨0,0,BJ,rfl,BJ,BJ,Au.nil _ _,Base.start _⟩
  case round=>
   obtain⟨k,x,hk,rfl,a9,hx,R,b⟩:=hrel;obtain⟨z,q,a,g,f,O⟩:=mG R (q.bel b.below) (a.bel b.below) (g.bel b.below) (f.bel b.below) b;obtain⟨bc,av,rfl⟩:=R.shape;clear R b;by_cases h1:k<7
   .have hix:=sZ d k h1;have ao:=ai.o k;generalize d k=dk at hix ao;obtain⟨L,hL⟩:∃L,L=(Cj d).toArray:=⟨_,rfl⟩;rw[<-hL] at hix |-;clear hL;go_wp2_with fail;refine(KN.o _ _ _ _ z.ET BJ BJ).mono ?_;rintro e w3 ⟨v3,s,rfl,bb,a3,F,b⟩;have ad:=a.le;obtain⟨a,O⟩:=Ce b a O;have z:=qh (F.mono ad);clear b F hix;go_wp2_with fail;go_roundw;case rel=>exact⟨k+1,s,BJ,by go_num,BJ,BJ,z.o,O.o⟩
    case measure=>simp[intOf];omega
   .obtain rfl:k=7:=BJ
    have C:=qh q.Af;go_wp2_with (first|(refine lM 0 C.o ?_));refine(Y.o _ g.o f.o).mono ?_;rintro e w3 ⟨v3,s,rfl,a4,F,b⟩;have ad:=a.le;obtain⟨a,z⟩:=Ce b a z;clear C g f q;obtain⟨p3,c3,I,rfl,aq,a6,az,P⟩:=F.ET;have N:=qh P;obtain⟨H,an,⟨am,aw⟩,ah⟩:=z.o;have V:=qh ah;have ae:=P.len;clear b F P ah;go_wp2_with (first|(at_builtin;refine Ag rfl (.tmp 24) (.tmp 26) 127 rfl E 5 (.int .u8 0) 1 1 rfl ND rfl Iz _ x (Ak H) rfl V.o p3 s c3 (Ak I) rfl (by rw[BU,ae,Nat.mul_one]) N.reads aq (Dp _) (by unfold maxLen;omega) BJ a.le ?_;intro v4 K af A ac));obtain⟨a,aj⟩:=WZ (⟨a.below.trans A,Nat.le_trans a.le ac.size⟩:Base E w K) (show Au K E v4 (x+s) from⟨H++I,by rw[List.length_append,an,ae],⟨λy hy=>(List.mem_append.1 hy).elim (am y) (λh=>N.2.2.1 y h),BJ⟩,by rw[show Ak (H++I)=Ak H++Ak I from List.map_append];exact af⟩);clear af A ac V N;obtain⟨p4,c4,D,rfl,ar,a7,a0,A⟩:=aj.ET;have al:=SumP.qX 0 D;obtain⟨X,Z⟩:=WZ (WB p4 (x+s) c4 D K A) (put_any p4 (x+s) c4 D 4 (SumP.on 0 D) K A ar BJ BJ);clear A;generalize SumP.on 0 D=u at al X Z;have hu:IntKind.u64.wrap (u:Int)=(u:Int):=IntWalk.u64_in _ ⟨BJ,BJ⟩;go_wp2_with (first|(refine X.mono ?_;rintro e w5 ⟨rfl,rfl⟩));refine Z.mono ?_;rintro e w5 ⟨p5,c5,rfl,ax,a5,J,a8,ab,ag⟩;have ap:=a.le;have a:=D9 ab a;have ak:=qh (show Au w5 E (.slice p5 (x+s+J7 4) c5) (x+s+J7 4) from Au.mono ⟨_,J.len,⟨J.2.2.1,J.2.1⟩,ag⟩ ap);clear J ab ag;have ay:J7 4=4:=rfl;go_wp2_with fail;exact M.o _ _ ⟨_,x+s+J7 4,rfl,.inl BJ,BJ,by rw[T];exact ak.o,by rw[T];exact a.below⟩
structure Fl where
 nm:ByteArray
 p:Option Addr
 n:Nat
 c:Nat
 kept:Int
def Fl.zero:Fl:=⟨⟨#[]⟩,none,0,0,0⟩
def Fl.cells(p:Fl):List Value:=[.string p.nm,.slice p.p p.n p.c,AA p.kept]
theorem Fl.one(p:Fl):∀u∈p.cells,u.oneCell'=true:=by simp[Fl.cells,Value.oneCell']
theorem Fl.one'(p:Fl):p.cells.toArray.all (·.oneCell')=true:=by simp[Fl.cells,Value.oneCell']
theorem Fl.len(p:Fl):p.cells.length=3:=rfl
def sJ(l:List Fl)(i:Nat):List Value:=(l.getD i .zero).cells
theorem QI(l:List Fl)(i j:Nat)(hi:i<l.length)(hj:j<3):(l.flatMap Fl.cells)[i*3+j]?=(sJ l i)[j]?:=by
 induction l generalizing i with
 | nil=>simp at hi
 | cons p r ih=>
  rw[List.flatMap_cons];cases i with
  | zero=>
   rw[List.getElem?_append_left (by rw[Fl.len];omega)];simp[sJ]
  | succ i=>
   rw[List.getElem?_append_right (by rw[Fl.len];omega),Fl.len,show (i+1)*3+j-3=i*3+j by omega,ih i (by simpa using hi)];simp[sJ]
def Jk(l:List Fl):List Value:=l.flatMap Fl.cells
theorem FZ(l:List Fl):(Jk l).length=l.length*3:=by
 unfold Jk;induction l with
 | nil=>rfl
 | cons p r ih=>rw[List.flatMap_cons,List.length_append,ih,Fl.len,List.length_cons];omega
theorem fD(l:List Fl):flat 3 l.length (sJ l)=Jk l:=by
 apply List.ext_getElem?;intro t;by_cases c:t<l.length*3
 .have e:t / 3*3+t % 3=t:=BJ
  have a:=EW 3 l.length (sJ l) (t / 3) (t % 3) BJ BJ rfl;have b:=QI l (t / 3) (t % 3) BJ BJ;rw[e] at a b;rw[a,<-b]
  rfl
 .rw[List.getElem?_eq_none (by rw[BQ];omega),List.getElem?_eq_none (by rw[FZ];omega)]
theorem QJ(a b:List Fl):Jk (a++b)=Jk a++Jk b:=List.flatMap_append
theorem G8(p:Fl)(r:List Fl):Jk (p :: r)=p.cells++Jk r:=rfl
theorem QL:∀(l:List Fl) (i:Nat),(Jk l).take (i*3)=Jk (l.take i)
 | [],i=>by simp[Jk]
 | p :: r,0=>by simp[Jk]
 | p :: r,i+1=>by rw[G8,List.take_succ_cons,G8,<-QL r i,show (i+1)*3=p.cells.length+i*3 by rw[Fl.len];omega,List.take_length_add_append]
theorem QK:∀(l:List Fl) (i:Nat),(Jk l).drop (i*3)=Jk (l.drop i)
 | [],i=>by simp[Jk]
 | p :: r,0=>by simp[Jk]
 | p :: r,i+1=>by rw[G8,List.drop_succ_cons,<-QK r i,show (i+1)*3=p.cells.length+i*3 by rw[Fl.len];omega,List.drop_length_add_append]
theorem YS(l:List Fl):∀u∈Jk l,u.oneCell'=true:=λu b=>by obtain⟨p,_,a⟩:=List.mem_flatMap.1 b;exact Fl.one p u a
def Ba(w:World)(v:Value)(ob:Option Nat)(l:List Fl):Prop:=AV w v ob 129 3 l.length (Jk l)
theorem Ba.bel{w w':World}{v:Value}{ob:Option Nat}{l:List Fl}(h:Ba w v ob l)(hb:Below w.heap.size w w'):Ba w' v ob l:=AV.bel h hb
instance {w w':World}{v:Value}{ob:Option Nat}{l:List Fl}:Bl w w' (Ba w v ob l) (Ba w' v ob l):=⟨λhb h=>Ba.bel h hb⟩
theorem Ba.mv{w w':World}{F:Ap}{v:Value}{ob:Option Nat}{l:List Fl}(h:Ba w v ob l)(hm:Mv F w w')(hn:∀g,ob=some g->¬F g):Ba w' v ob l:=AV.mv h hm hn
theorem Ba.rows{w:World}{v:Value}{ob:Option Nat}{l:List Fl}(h:Ba w v ob l):∃p c,v=.slice p l.length c/\l.length<=c/\c<=maxLen/\(p=none->c=0)/\Bj w p l.length 3 (sJ l):=AV.rows (V:=sJ l) (by rw[fD];exact h) (λ_ _=>rfl) Iz
theorem Ba.nil(w:World):Ba w AL none []:=AV.nil _ _ _
def Az:List Fl->ByteArray->Nat × Bool
 | [],_=>(0,false)
 | p :: r,key=>if SpanP.lt p.nm key then ((Az r key).1+1,(Az r key).2) else (0,SpanP.same p.nm key)
theorem VU:∀(l:List Fl) (key:ByteArray) (k:Nat),(∀i,i<k->SpanP.lt (l.getD i .zero).nm key=true)->(k<l.length->SpanP.lt (l.getD k .zero).nm key=false->Az l key=(k,SpanP.same (l.getD k .zero).nm key))/\(k=l.length->Az l key=(k,false))
 | [],key,k,_=>⟨λh=>by simp at h,λh=>by simp at h;subst h;rfl⟩
 | p :: r,key,0,_=>⟨λ_ h=>by simp at h;simp[Az,h],λh=>by simp at h⟩
 | p :: r,key,k+1,h=>by
  have h0:=h 0 BJ;have b:=VU r key k λi d=>by simpa using h (i+1) BJ
  simp only[List.getD_cons_zero] at h0;refine⟨λa c=>?_,λa=>?_⟩
  .have:=b.1 (by simpa using a) (by simpa using c);simp[Az,h0,this]
  .have:=b.2 (by simpa using a);simp[Az,h0,this]
theorem GR(l:List Fl)(key:ByteArray):(Az l key).1<=l.length/\((Az l key).2=true->(Az l key).1<l.length):=by
 induction l with
 | nil=>simp[Az]
 | cons p r ih=>unfold Az;split<;>simp<;>omega
theorem Zc(w:World)(a b:Nat)(ta tb:TypeId)(La Lb:List Value)(ha:Holds w a ta La)(hb:Holds w b tb Lb)(hne:a≠b)(hl:Lb≠[])(oa ob la ca lb cb:Nat) :(callFunc 280 #[.slice (some ⟨a,oa,none⟩) la ca,.slice (some ⟨b,ob,none⟩) lb cb]).run prog w=.ok (.value (.bool false)) w:=by
 rw[run_callFunc_extern func280 ND ND ND (e:=Extern.SlicesOverlaps.overlaps #[123,123] #[4]) ND,Holds.over underlying123 3 (λw=>ND) ha hb hne hl oa ob la ca lb cb]
 rfl
def Na(ob:Option Nat)(l:List Fl)(w:World)(e:Ending)(w':World):Prop:=∃v' ob',e=.returned v'/\Ba w' v' ob' l/\(ob'=ob\/∃g,ob'=some g/\w.heap.size<=g)/\Mv (λk=>ob=some k) w w'
theorem Nv(v:Value)(ob:Option Nat)(l:List Fl)(i:Nat)(bs:Nat)(x:Fl)(w:World)(h:Ba w v ob l)(hx:Holds w bs 129 x.cells)(hne:ob≠some bs)(hi:i<=l.length)(hl:l.length<=1000) :Calls prog 226 #[v,AA i,.slice (Ac bs) 1 1] w (Na ob (l.take i++x :: l.drop i) w):=by
 have ag:=h.len;obtain⟨U,O,c⟩:=bP (YS l) (show Reads w (Ac bs) x.cells from hx.reads 0 x.cells λj v hv=>by rw[Nat.zero_add];exact hv) hx;have hA:Jk (l.take i++x :: l.drop i)=(Jk l).take (i*3)++(x.cells++(Jk l).drop (i*3)):=by rw[QJ,G8,QL,QK]
 have aa:(l.take i++x :: l.drop i).length=l.length+1:=by simp;omega
 have S:∀e w',(∃v' W,e=Ending.returned v'/\AV w' v' W 129 3 (l.length+1) ((Jk l).take (i*3)++(x.cells++(Jk l).drop (i*3)))/\(W=ob\/∃g,W=some g/\w.heap.size<=g)/\Mv (λk=>ob=some k) w w')->Na ob (l.take i++x :: l.drop i) w e w':=by intro e w' h;unfold Na Ba;rw[hA,aa];exact h
 unfold Ba at h;generalize Na ob (l.take i++x :: l.drop i) w=D at S |-;obtain⟨q,X⟩:=WZ S (FZ l);clear S;generalize Jk l=L at h ag U X q;generalize l.length=n at h hi hl ag X q;clear hA aa;rcases Nat.lt_or_ge i n with af|af
 .obtain⟨g,cap,rest,rfl,rfl,h1,J,z,K⟩:=h.blk BJ;have ad:bs≠g:=λe=>hne (by rw[e]);have bh:¬((i:Int)=(n:Int)):=BJ
  obtain⟨d,a⟩:=WZ z (Mv.refl (λk=>some g=some k) w);by_cases a4:n+1<=cap
  .have hov:∀lb Y,(callFunc 280 #[.slice (Ac bs) 1 1,.slice (some ⟨g,(i+1)*3,none⟩) lb Y]).run prog w=.ok (.value (.bool false)) w:=λlb Y=>
    Zc w bs g _ _ _ _ c.o z ad (by intro e;rw[e] at K;simp at K;omega) _ _ _ _ _ _
   have ax:((cap:Int)<(n:Int)+1)=False:=by simp;omega
   have az:(0:Int)<=i:=BJ
   have bf:i<=n:=Nat.le_of_lt af;have a8:IntKind.i64.wrap ((i:Int)+1)=(i:Int)+1:=by rw[IntKind.wrap_i64];omega
   have a9:IntKind.i64.wrap ((n:Int)+1)=(n:Int)+1:=by rw[IntKind.wrap_i64];omega
   have aq:(0:Int)<=(i:Int)+1:=BJ
   have ar:(i:Int)+1<=(n:Int)+1:=BJ
   have bc:(n:Int)+1<=cap:=BJ
   have a7:((i:Int)+1).toNat=i+1:=BJ
   have bg:((n:Int)+1).toNat=n+1:=BJ
   have au:(cap=i)=False:=by simp;omega
   have av:(cap=i+1)=False:=by simp;omega
   have ba:(i:Int)<=(n:Int)+1:=BJ
   obtain⟨p,E⟩:=WZ (show (L.drop (i*3)).length=(n-i)*3 by rw[List.length_drop];omega) K;have ac:g<w.heap.size:=z.lt;have A:bs<w.heap.size:=c.lt;clear z h;go_in;go_upto_region 15 with(simp only[hov]);obtain⟨d,c,a⟩:=D5 (AY _ w) d c a;have C:∀(j:Nat) v,(L.drop (i*3))[j]?=some v->w.drew.cell? ⟨g,i*3+j,none⟩=some v:=λj v b=>by rw[d.cell];rw[List.getElem?_drop] at b;rw[List.getElem?_append_left (List.getElem?_eq_some_iff.1 b).1];exact b
   have P:=qh C;clear C hov
   go_region_law (refine FH rfl (.tmp 73) (.tmp 76) 123 123 rfl 129 rfl 3 ND g ((i+1)*3) (n+1 - (i+1)) (cap - (i+1)) g (i*3) (n+1-i) (cap-i) (by simp[Act.eval,Act.put]) (by simp[Act.eval,Act.put]) _ _ d.o (L.drop (i*3)) (by rw[p.out,show Nat.min (n+1-i) (n+1 - (i+1))=n-i from by rw[show n+1 - (i+1)=n-i by omega];exact Nat.min_eq_right BJ]) P.o (by have:=E.o;have J:=p.out;omega) (λu V=>U.out u (List.mem_of_mem_drop V)) ?_;intro w3 r s)
   obtain⟨c,a,f⟩:=bP (c.mv (Mv.AZ (F:=λk=>k=g) s rfl) ad) (a.touch s (.inl rfl)) r;have ah:(splice (L++rest) ((i+1)*3) (L.drop (i*3))).length=cap*3:=by rw[length_splice _ _ _ (by have:=E.o;have J:=p.out;omega)];exact E.o
   have ao:=qh ah;clear r s ah;go_wp2_with (first|(refine ER rfl (.tmp 80) (.tmp 81) 123 123 rfl 129 rfl 3 ND g (i*3) (n+1-i) (cap-i) bs 0 1 1 rfl rfl _ _ f.o x.cells (by rw[show Nat.min 1 (n+1-i)=1 from Nat.min_eq_left BJ];rfl) (λj v b=>by rw[Nat.zero_add,c.cell];exact b) (by rw[Fl.len,ao.o];omega) (Fl.one x) ?_;intro w4 ay a6));have a:=qh (a.touch a6 (.inl rfl));have M:=ay;have B:(L.drop (i*3)).length=(n-i)*3:=p.out;have a3:=E.o;rw[List.length_append] at a3;have H:splice (splice (L++rest) ((i+1)*3) (L.drop (i*3))) (i*3) x.cells=(L.take (i*3)++(x.cells++L.drop (i*3)))++(L++rest).drop ((i+1)*3+(L.drop (i*3)).length):=by
    have I:(splice (L++rest) ((i+1)*3) (L.drop (i*3))).take (i*3)=L.take (i*3):=by unfold splice;rw[List.take_append_of_le_length (by simp;omega),List.take_take,Nat.min_eq_left BJ,List.take_append_of_le_length BJ]
    have e3:(splice (L++rest) ((i+1)*3) (L.drop (i*3))).drop (i*3+3)=L.drop (i*3)++(L++rest).drop ((i+1)*3+(L.drop (i*3)).length):=by unfold splice;exact List.drop_left' (by simp;omega)
    rw[show splice (splice (L++rest) ((i+1)*3) (L.drop (i*3))) (i*3) x.cells=(splice (L++rest) ((i+1)*3) (L.drop (i*3))).take (i*3)++(x.cells++(splice (L++rest) ((i+1)*3) (L.drop (i*3))).drop (i*3+3)) from rfl,I,e3];simp only[List.append_assoc]
   rw[H] at M;refine q.o _ _ ⟨_,some g,rfl,AV.mk' M ?_ ?_ a4 J,.inl rfl,a.o⟩
   .simp only[List.length_append,List.length_take,Fl.len,B];omega
   .simp only[List.length_append,List.length_take,List.length_drop,Fl.len,B];omega
  .go_in;have ax:(cap:Int)<(n:Int)+1:=BJ
   have az:(0:Int)<=i:=BJ
   have be:i<=cap:=BJ
   have am:∀(j:Nat) v,(L.take (i*3))[j]?=some v->w.cell? ⟨g,0+j,none⟩=some v:=λj v b=>by
    rw[List.getElem?_take] at b;split at b
    .rw[Nat.zero_add,d.cell,List.getElem?_append_left BJ];exact b
    .cases b
   obtain⟨ap,an⟩:=WZ am (show (L.take (i*3)).length=i*3 by rw[List.length_take];omega);clear am;have ba:(i:Int)<=(n:Int)+1:=BJ
   have bi:(0:Int)<=(n:Int)+1-i:=BJ
   go_upto_region 10 with(first|(at_builtin;refine FN rfl (.tmp 34) (.tmp 39) 123 3 rfl 129 (.agg #[AU,AL,AA 0]) 3 48 rfl .i64 .i64 rfl ND rfl Iz g 0 i cap (n+1-i) rfl (by show Value.int _ _=_;congr 1;omega) BJ (L.take (i*3)) an.out ap.o BJ (by unfold maxLen;omega) BJ ?_;intro w1 y Z ae a0 ab a2 A a5));have aj:i+(n+1-i)=n+1:=BJ
   rw[aj] at ab |-;obtain⟨f,m,Q⟩:=bP ae A a0;clear ae A aj an;have ac:g<w.heap.size:=d.lt;have A:bs<w.heap.size:=c.lt;obtain⟨d,c,O,a⟩:=bY (d.bel m.o) (c.bel m.o) (O.below m.o) (a.bel m.o);generalize hG:w.heap.size=G at f ac A a5 |-;have au:(y=i)=False:=by simp;omega
   have av:(y=i+1)=False:=by simp;omega
   go_upto_region 11 with(first|(refine ER rfl (.tmp 43) (.tmp 44) 123 123 rfl 129 rfl 3 ND G (i*3) (n+1-i) (y-i) bs 0 1 1 rfl rfl _ _ f.o x.cells (by rw[show Nat.min 1 (n+1-i)=1 from Nat.min_eq_left BJ];rfl) (λj v b=>by rw[Nat.zero_add,c.cell];exact b) (by rw[Fl.len];have:=Q.o;omega) (Fl.one x) ?_;intro t T N));rw[FD _ _ _ _ (by rw[List.length_take];omega)] at T;have a9:G<t.heap.size:=by have:=N.size;omega
   obtain⟨f,d,a,p⟩:=bY (T.bel (AY _ t)) ((d.mv (Mv.AZ (F:=λk=>k=G) N rfl) BJ).bel (AY _ t)) ((a.touch N (.inr BJ)).bel (AY _ t)) (show (L.drop (i*3)).length=(n-i)*3 by rw[List.length_drop];omega);clear T N m O c;have C:∀(j:Nat) v,(L.drop (i*3))[j]?=some v->t.drew.cell? ⟨g,i*3+j,none⟩=some v:=λj v b=>by rw[d.cell];rw[List.getElem?_drop] at b;rw[List.getElem?_append_left (List.getElem?_eq_some_iff.1 b).1];exact b
   have P:=qh C;clear C;have a8:IntKind.i64.wrap ((i:Int)+1)=(i:Int)+1:=by rw[IntKind.wrap_i64];omega
   have aq:(0:Int)<=(i:Int)+1:=BJ
   have ar:(i:Int)+1<=(n:Int)+1:=BJ
   have a7:((i:Int)+1).toNat=i+1:=BJ
   have bb:(cap=i)=False:=by simp;omega
   go_region_law (refine FH rfl (.tmp 50) (.tmp 53) 123 123 rfl 129 rfl 3 ND G ((i+1)*3) (n+1 - (i+1)) (y - (i+1)) g (i*3) (n-i) (cap-i) (by simp[Act.eval,Act.put]) (by simp[Act.eval,Act.put]) _ _ f.o (L.drop (i*3)) (by rw[p.out,show Nat.min (n-i) (n+1 - (i+1))=n-i from by rw[show n+1 - (i+1)=n-i by omega];exact Nat.min_self _]) P.o (by simp only[List.length_append,List.length_drop,List.length_take,Fl.len];have:=Q.o;simp only[List.length_append,List.length_take] at this;omega) (λu V=>U.out u (List.mem_of_mem_drop V)) ?_;intro w3 r s)
   have B:(L.drop (i*3)).length=(n-i)*3:=p.out;rw[<-List.append_assoc,FD _ _ _ _ (by rw[List.length_append,List.length_take,Fl.len];omega),List.append_assoc] at r;obtain⟨f,a⟩:=WZ r (a.touch s (.inr BJ));clear r s;go_wp2_with fail;refine q.o _ _ ⟨_,some G,rfl,?_,.inr ⟨G,rfl,BJ⟩,a.o⟩;have M:=f.o;have a1:((L.take (i*3)).length+Z.length)=y*3:=by have:=Q.o;rwa [List.length_append] at this
   rw[List.length_take] at a1;refine AV.mk' (rest:=?_) (by simpa only[List.append_assoc] using M) ?_ ?_ ab a2
   .simp only[List.length_append,List.length_take,Fl.len,B];omega
   .simp only[List.length_append,List.length_take,List.length_drop,Fl.len,B];omega
 .obtain rfl:i=n:=BJ
  have H:L.take (i*3)=L:=List.take_of_length_le BJ;have I:L.drop (i*3)=[]:=List.drop_eq_nil_of_le BJ;rw[H,I,List.append_nil] at q;clear H I;obtain⟨R,hn⟩:=WZ h (show v.ownBlock=ob from h.ob);have aw:v=AL/\i=0\/(∃g,v=.slice (Ac g) i i)\/∃g cap,v=.slice (Ac g) i cap/\(cap=i)=False:=by
   rcases h.cases with⟨rfl,rfl,rfl,_⟩|⟨g,cap,rest,rfl,rfl,h1,J,z,K⟩
   .exact .inl ⟨rfl,rfl⟩
   .rcases Nat.eq_or_lt_of_le h1 with rfl|h
    .exact .inr (.inl ⟨_,rfl⟩)
    .exact .inr (.inr ⟨_,_,rfl,by simp;omega⟩)
  clear h hn;rcases aw with⟨rfl,rfl⟩|⟨g,rfl⟩|⟨g,cap,rfl,bd⟩;all_goals
   go_in;go_wp2_with (first|(at_builtin;refine aS (.agg #[AU,AL,AA 0]) 3 48 R.o x.cells O.out ?_ (Fl.one x);intro v2 bj t ak al ai));obtain⟨R,m,a⟩:=bP ak al ai;clear ak al ai;exact q.o _ _ ⟨_,_,rfl,R.o,m.o,a.o⟩
theorem eY(g n cap i:Nat)(L:List Value)(w:World)(h:AV w (.slice (Ac g) n cap) (some g) 129 3 n L)(hone:∀u∈L,u.oneCell'=true)(hi:i<n)(hn:n<=1000) :Calls prog 196 #[.slice (Ac g) n cap,AA i,AA ((i:Int)+1)] w λe w'=>e=.returned (.slice (Ac g) (n-1:Nat) cap)/\AV w' (.slice (Ac g) (n-1:Nat) cap) (some g) 129 3 (n-1) (L.take (i*3)++L.drop ((i+1)*3))/\Touch g w w':=by
 have W:=h.len;obtain⟨g',ac,rest,z,T,h1,F,Q,R⟩:=h.blk BJ;cases T;injection z with _ _ k;subst k;obtain⟨a,N,b,E⟩:=bY Q R (Touch.refl g w) hone;have ak:(0:Int)<=i:=BJ
 have aw:IntKind.i64.wrap ((i:Int)+1)=(i:Int)+1:=by rw[IntKind.wrap_i64];omega
 have af:(0:Int)<=(i:Int)+1:=BJ
 have ag:(i:Int)+1<=n:=BJ
 have ah:(i:Int)<=(i:Int)+1:=BJ
 have ai:(n:Int)<=cap:=BJ
 have aj:(i:Int)<=n:=BJ
 have ae:(i:Int)<=cap:=BJ
 have av:((i:Int)+1).toNat=i+1:=BJ
 have ar:(cap=n-1)=False:=by simp;omega
 have ap:(n=i)=False:=by simp;omega
 have k:cap=i+1\/(cap=i+1)=False:=by by_cases h:cap=i+1<;>simp[h]
 have ao:((i:Int)=(i:Int)+1)=False:=by simp;omega
 have J:(L.take (i*3)).length=i*3:=by rw[List.length_take];omega
 have l:(L.drop ((i+1)*3)).length=(n - (i+1))*3:=by rw[List.length_drop];omega
 clear h W hone;go_in;go_upto_region 5 with(fail);obtain⟨a,b⟩:=Ce (AY _ w) a b;have t:=qh (show AV w.drew (.slice (Ac g) i cap) (some g) 129 3 i (L.take (i*3)) from AV.mk' (rest:=L.drop (i*3)++rest) (by rw[<-List.append_assoc,List.take_append_drop];exact a.o) J (by rw[<-List.append_assoc,List.take_append_drop];exact N.o) BJ F);have I:∀A,(i+1<n->A=(i+1)*3)->∀(j:Nat) v,(L.drop ((i+1)*3))[j]?=some v->w.drew.cell? ⟨g,A+j,none⟩=some v:=λA Y j v m=>by have V:=(List.getElem?_eq_some_iff.1 m).1;rw[l] at V;rw[Y BJ,a.cell];rw[List.getElem?_drop] at m;rw[List.getElem?_append_left (List.getElem?_eq_some_iff.1 m).1];exact m
 have q:=qh I;clear I;obtain⟨C,f⟩:∃C,C=cap:=⟨_,rfl⟩;have O:=qh f;clear f;rcases k with rfl|k;all_goals
  go_region_law (first|(refine EP rfl (.tmp 22) (.tmp 25) 123 rfl 129 (.agg #[AU,AL,AA 0]) 3 48 rfl ND g i _ _ (by simp[Act.eval,Act.put]) t.out 0 (n - (i+1)) 0 (L.drop ((i+1)*3)) (by simp[Act.eval,Act.put]<;>omega) l (q.o 0 BJ) (λu y=>E.o u (List.mem_of_mem_drop y)) BJ ?_;intro K p x)|(refine EP rfl (.tmp 22) (.tmp 25) 123 rfl 129 (.agg #[AU,AL,AA 0]) 3 48 rfl ND g i _ _ (by simp[Act.eval,Act.put]) t.out ((i+1)*3) (n - (i+1)) (cap - (i+1)) (L.drop ((i+1)*3)) (by simp[Act.eval,Act.put]<;>omega) l (q.o _ (λ_=>rfl)) (λu y=>E.o u (List.mem_of_mem_drop y)) BJ ?_;intro K p x))
  have s:i+(n - (i+1))=n-1:=BJ
  rw[s] at p;try rw[s]
  have b:=qh (b.trans x);obtain⟨g3,ad,ab,aa,U,_,_,G,c⟩:=(show AV K _ _ _ 3 (n-1) _ from p).cases.resolve_left (by rintro⟨z,_⟩;cases z);cases U;injection aa with _ _ S;subst S;obtain⟨B,D⟩:=WZ G c;have d:(L.take (i*3)++L.drop ((i+1)*3)).length=(n-1)*3:=by rw[List.length_append,J,l];omega
  have au:3<=ab.length:=by rw[List.length_append,d] at c;omega
  have al:i+1<=n:=hi;have am:(i:Int)<=(n:Int):=BJ
  have an:((n-1:Nat):Int)<=(n:Int):=BJ
  have X:=qh d;have aq:n-i=1\/i+1<n:=BJ
  obtain⟨M,r⟩:∃M,M=L.take (i*3)++L.drop ((i+1)*3):=⟨_,rfl⟩;rw[<-r] at B D X d;have P:=qh r;clear r;clear p x G c s t q a;go_wp2_with (first|(refine Ff rfl (.tmp 31) 123 rfl rfl 129 (.agg #[AU,AL,AA 0]) rfl ND g _ _ _ BJ rfl _ 129 B.o Fl.zero.cells (by first|(rw[show n-i=1 by omega];kernel_rfl)|(rw[show n - (n-1)=1 by omega];kernel_rfl)) (by rw[List.length_append,d,Fl.len];omega) (Fl.one _) ?_;intro w5 H Z));rw[FD _ _ _ _ BJ] at H;have f:=O.o;refine bodyPost_ret (v:=.slice (Ac g) (n-1:Nat) C) (by simp[results,results196,go_sem];omega) rfl ?_;rw[<-P.o];refine⟨by rw[f],AV.mk' H d ?_ BJ F,b.trans Z⟩;have c:=D.o;rw[List.length_append] at c;simp only[List.length_append,List.length_drop,Fl.len];omega
end Go.Proofs.YtimdpiifpibgfaaGreatDoor
