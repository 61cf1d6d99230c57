/- A part of the proof of TopReads. -/
import Derived.Test.YtimdpiifpibgfaaGreatDoorQr26
set_option linter.all false
set_option maxRecDepth 20000
set_option maxHeartbeats 16000000
open Go.RowKit Go.Maps
namespace Go.Proofs.YtimdpiifpibgfaaGreatDoor
open Tryz
theorem IK{w:World}{v v':Value}{ob ob':Option Nat}{e t:TypeId}{s n s' n':Nat}{xs xs':List Value}(h:AV w v ob e s n xs)(ha:AV w v' ob' t s' n' xs')(he:e≠t):∀g,ob=some g->ob'≠some g:=λg c a=>by
 rcases ha.cases with⟨_,b,_⟩|⟨f,_,_,_,b,_,_,d,_⟩
 .rw[b] at a;cases a
 .rw[b] at a;cases a;exact h.Hw d he g c rfl
theorem Q9{g:Nat}{ob:Option Nat}{w w1 w2:World}(h:Touch g w w1)(hm:Mv (λk=>ob=some k) w1 w2)(hob:∀k,ob=some k->w.heap.size<=k):Touch g w w2:=by have a:Mv (λk=>k=g) w w2:=(Mv.AZ (F:=λk=>k=g) h rfl).mv hm λk b=>.inr (hob k b);exact⟨a.os,a.tape,a.output,a.size,λk b c=>a.block k b c⟩
theorem aV{g:Nat}{ob:Option Nat}{w w1 w2 w3:World}(h:Touch g w w1)(hm:Mv (λk=>ob=some k) w1 w2)(hob:∀k,ob=some k->w.heap.size<=k)(h3:Touch g w2 w3):Touch g w w3:=(Q9 h hm hob).trans h3
def kD(x:Nat × Int):List Value:=[AA ((x.1:Int)+1),AA x.2]
def LY(l:List (Nat × Int)):List Value:=l.flatMap kD
theorem Uy:∀(l:List (Nat × Int)) (i:Nat) (hi:i<l.length) (rest:List Value) (j:Nat) v,(kD l[i])[j]?=some v->(LY l++rest)[i*2+j]?=some v
 | x :: l,0,_,rest,j,v,h=>by have hj:j<2:=(List.getElem?_eq_some_iff.1 h).1;show ((kD x++LY l)++rest)[0*2+j]?=_;rw[List.append_assoc,Nat.zero_mul,Nat.zero_add,List.getElem?_append_left (by show j<2;exact hj)];exact h
 | x :: l,i+1,hi,rest,j,v,h=>by show ((kD x++LY l)++rest)[(i+1)*2+j]?=_;rw[List.append_assoc,List.getElem?_append_right (by show 2<=_;omega),show (i+1)*2+j - (kD x).length=i*2+j by show (i+1)*2+j-2=_;omega];exact Uy l i (by simpa using hi) rest j v h
theorem Tm(l:List (Nat × Int))(x:Nat × Int):LY (l++[x])=LY l++kD x:=by simp[LY]
theorem pG(x:Nat × Int):∀u∈kD x,u.oneCell'=true:=by simp[kD,Value.oneCell']
structure An where
 k:Nat
 s:Int
 r:Rep
 v:Value
 ob:Option Nat
def An.key(a:An):Nat × Int × Rep:=(a.k,a.s,a.r)
def Wp(l:List An):List Value:=l.flatMap λa=>Nq a.k a.s a.r a.v
theorem Y3(l:List An)(a:An):Wp (l++[a])=Wp l++Nq a.k a.s a.r a.v:=by simp[Wp]
structure AnsAt(w:World)(v:Value)(ob:Option Nat)(l:List An):Prop where
 own:AV w v ob 121 7 l.length (Wp l)
 ps:∀a∈l,Ad w a.v a.ob a.r.ps
theorem AnsAt.mv{w w':World}{F:Ap}{v:Value}{ob:Option Nat}{l:List An}(h:AnsAt w v ob l)(hm:Mv F w w')(h1:∀k,ob=some k->¬F k)(h2:∀a∈l,∀k,a.ob=some k->¬F k):AnsAt w' v ob l:=⟨h.own.mv hm h1,λa b=>AV.mv (h.ps a b) hm (h2 a b)⟩
theorem AnsAt.bel{w w':World}{v:Value}{ob:Option Nat}{l:List An}(h:AnsAt w v ob l)(hb:Below w.heap.size w w'):AnsAt w' v ob l:=h.mv (F:=λ_=>False) (.of_below hb) (λ_ _ h=>h) λ_ _ _ _ h=>h
instance {w w':World}{v:Value}{ob:Option Nat}{l:List An}:Bl w w' (AnsAt w v ob l) (AnsAt w' v ob l):=⟨λhb h=>AnsAt.bel h hb⟩
def bH(o:Nat->Ow)(x:Nat × Int):Bool:=decide ((o x.1).seq=x.2)
theorem SV{α:Type}{f:α->Bool}{l:List α}{i:Nat}(hi:i<l.length):(l.take (i+1)).filter f=(l.take i).filter f++(if f l[i] then [l[i]] else []):=by
 rw[<-List.take_append_getElem hi,List.filter_append]
 congr 1
 cases h:f l[i]<;>simp[h]
def bI(g n me gd gw gc gfr:Nat)(P:Value)(o:Nat->Ow)(pv:Nat->Value)(d kp:Nat->Int)(since tk:Int)(out:Value)(ws:List (Nat × Int))(w:World)(wv v2:Value)(wr:World):Prop:=
 ∃ob1 ans ob2 al,AV wr v2 ob1 37 2 (ws.filter λx=>!bH o x).length (LY (ws.filter λx=>!bH o x))/\(∀k,ob1=some k->w.heap.size<=k) /\
  Holds wr g 102 (Ar n me gd gw gc gfr P o pv d kp since tk wv out ans)/\AnsAt wr ans ob2 al/\al.map An.key=(ws.filter (bH o)).map (λx=>(x.1,x.2,(o x.1).rep))/\(∀k,ob2=some k->w.heap.size<=k)/\(∀a∈al,∀k,a.ob=some k->w.heap.size<=k)/\(al=[]->ans=AL)/\Touch g w wr
theorem Wq(g n me gd gw gc gfr:Nat)(P:Value)(o:Nat->Ow)(pv:Nat->Value)(pb:Nat->Option Nat)(d kp:Nat->Int)(since tk:Int)(W0 out:Value)(ob0:Option Nat)(ws:List (Nat × Int))(w:World) (nd:Holds w g 102 (Ar n me gd gw gc gfr P o pv d kp since tk W0 out AL)) (hw:AV w W0 ob0 37 2 ws.length (LY ws)) (hP:OwnAt w o pv pb) (hk:∀x∈ws,x.1<8/\(o x.1).seq<=x.2) (hlen:ws.length<=100) (hln:∀k,k<8->(o k).rep.ps.length<=1000) :Calls prog 92 #[AP g] w λe w'=>e=.returned (.tuple #[])/\∃v2,bI g n me gd gw gc gfr P o pv d kp since tk out ws w v2 v2 w':=by
 obtain⟨l,E,HP,HK,b4⟩:=dD nd hw hP hk hln;have de:=nd.lt;have ct:=hw.Hw nd Iz;have cz:∀i,i<8->∀k,pb i=some k->k≠g:=λi hi=>AV.Hw (hP i hi) nd Iz;obtain⟨pW,cW,rfl⟩:∃p c,W0=.slice p (ws.length:Nat) c:=by
  rcases hw.cases with⟨r,_,r2,_⟩|⟨_,_,_,r,_⟩
  .rw[r,r2];exact⟨_,_,rfl⟩
  .exact⟨_,_,r⟩
 clear nd hw hP hk hln;go_in;have c7:=Am l.o 71;go_wp2_with fail;clear c7;go_loopw [12,2] (λvi v2 wr=>∃i:Nat,vi=AA (i:Int)/\i<=ws.length/\bI g n me gd gw gc gfr P o pv d kp since tk out (ws.take i) w (.slice pW (ws.length:Nat) cW) v2 wr) (λvi _ _=>ws.length - (intOf vi).toNat);case atStart=>exact⟨0,rfl,Nat.zero_le _,none,AL,none,[],AV.nil _ _ _,λk h=>(by cases h),l.o,⟨AV.nil _ _ _,λa b=>(by cases b)⟩,rfl,λk h=>(by cases h),λa b=>(by cases b),λ_=>rfl,Touch.refl _ _⟩
 case round=>
  obtain⟨i,rfl,hi,U,cd,N,C,ho,a2,hn,b,ay,a4,bm,bl,ht⟩:=hrel;obtain⟨t,l,m,HT,ah,ai,af,an⟩:=ed ho hn b ht a2 a4 bm ay;obtain⟨ba,E,HP⟩:=bP bl (E.mv (Mv.AZ (F:=λk=>k=g) ht rfl) ct) (HP.mv (Mv.AZ (F:=λk=>k=g) ht rfl) cz);have c3:=ht.size;have a3:∀k,U=some k->k≠g:=λk hk=>by have:=a2 k hk;omega
  have bv:∀k,N=some k->k≠g:=λk hk=>by have:=a4 k hk;omega
  have bu:∀k,U=some k->N≠some k:=IK ho b.own Iz;have cu:∀k,N=some k->U≠some k:=λk h G=>bu k G h;have cf:∀a∈C,∀k,a.ob=some k->U≠some k:=λa h k G h3=>IK ho (b.ps a h) Iz k h3 G;have cg:∀a∈C,∀k,a.ob=some k->N≠some k:=λa h k G h3=>IK b.own (b.ps a h) Iz k h3 G;obtain⟨p1,c1,rfl⟩:∃p c,u2=.slice p (((ws.take i).filter λx=>!bH o x).length:Nat) c:=by
   rcases ho.cases with⟨r,_,r2,_⟩|⟨_,_,_,r,_⟩
   .rw[r,r2];exact⟨_,_,rfl⟩
   .exact⟨_,_,r⟩
  obtain⟨p2,c2,rfl⟩:∃p c,cd=.slice p (C.length:Nat) c:=by
   rcases b.own.cases with⟨r,_,r2,_⟩|⟨_,_,_,r,_⟩
   .rw[r,r2];exact⟨_,_,rfl⟩
   .exact⟨_,_,r⟩
  have di:((ws.take i).filter λx=>!bH o x).length<=100:=Nat.le_trans (List.length_filter_le _ _) (by rw[List.length_take];omega);have dh:C.length<=100:=by have:=congrArg List.length ay;rw[List.length_map,List.length_map] at this;rw[this];exact Nat.le_trans (List.length_filter_le _ _) (by rw[List.length_take];omega)
  clear ho a2 hn b ht a4 bm ay bl;by_cases cm:i=ws.length
  .subst cm;rw[List.take_length] at t an |-;go_wp2_with (first|(refine sC 71 l.o (.slice p1 (ws.filter λx=>!bH o x).length c1) ?_;intro w7 ap S));have ab:Mv (λk=>k=g) _ w7:=Mv.AZ S rfl;exact bE ⟨rfl,_,U,_,N,C,t.mv ab a3,ah.o,ap,m.mv ab bv (λa b k hk=>by have:=af.o a b k hk;omega),an.o,ai.o,af.o,ba.o,HT.trans S⟩
  .have hi2:i<ws.length:=BJ
   obtain⟨Z,Y⟩:=WZ (SV (f:=λx=>!bH o x) hi2) (SV (f:=bH o) hi2);have y:=HK.o _ (List.getElem_mem hi2);obtain⟨gs,cs,rs,c5,cx,db,dc,bq,_⟩:=E.blk BJ;cases c5;have ao:=qh (show wr.rangeAt gs (i*2) (kD ws[i]) from bq.CB (i*2) (Uy ws i hi2 rs));clear bq cx;obtain⟨x,b1⟩:∃x,x=ws[i]:=⟨_,rfl⟩;rw[<-b1] at y ao Z Y;clear b1;obtain⟨k,s⟩:=x;simp only[kD] at y ao;obtain⟨hk,a7⟩:=y;have c6:IntKind.i64.wrap ((k:Int)+1-1)=(k:Int):=by rw[show (k:Int)+1-1=k by omega];exact IntWalk.i64_in _ BJ
   have co:(0:Int)<=(k:Int):=BJ
   have cp:(k:Int)<8:=BJ
   have aw:=qh (b4.o k hk);have hP:=HP.o k hk;obtain⟨X,hX⟩:∃X,o k=X:=⟨_,rfl⟩;have bh:bH o (k,s)=decide (X.seq=s):=by unfold bH;simp only[hX]
   rw[hX] at a7 hP aw;rw[bh] at Z Y;clear bh;obtain⟨B,⟨L,H,J,I,A⟩⟩:=X;obtain⟨pp,pn,pc,a6⟩:=hP.CZ;obtain⟨D,bf,ca⟩:=bP (a6▸hP) hX a6;simp only at a7 aw Z Y;have KP:=qh (λW (h:Ad W (.slice pp pn pc) (pb k) A)=>F5 (.slice pp pn pc) (pb k) A W h aw.o);clear hX a6 hP HP;have cn:(i:Int)<(ws.length:Int):=BJ
   have q:=qh (Base.start wr);go_upto_region 4 with(first|(refine lM (i*2) ao.o ?_)|(refine Ai rfl 37 _ _ rfl rfl _ _ ([AA ((k:Int)+1),AA s]:List Value).toArray rfl rfl ND ND (by simp[Value.oneCell']) ?_));go_name_world W0 ac;have u:=qh (show Holds W0 wr.heap.size 37 [AA ((k:Int)+1),AA s] by rw[<-ac];exact AC wr _ _);have bj:Below wr.heap.size wr W0:=by rw[<-ac];exact(Below.refl _ _).alloc Ve _
   obtain⟨l,q,D,t,m,E⟩:=Ef bj l q D t m E;clear bj ac ao;have ch:g<wr.heap.size:=BJ
   have c4:=c3;generalize bo:wr.heap.size=gp at u q ch c4 |-;have cy:(Je ⟨B,⟨L,H,J,I,A⟩⟩ (.slice pp pn pc)).toArray.all (·.oneCell')=true:=by simp[Je,Bq,Value.oneCell']
   refine' CU [⟨9,10,5,24,63,Je Ow.zero AL,Je ⟨B,⟨L,H,J,I,A⟩⟩ (.slice pp pn pc)⟩] ND ND ND ?z11 ?z21 ?bd1 _ ?h1 ?val1 ?fin1;case z11=>
    intro x y;simp only[List.mem_cons,List.not_mem_nil,or_false] at y;subst y
    .exact⟨.agg (Je Ow.zero AL:List Value).toArray,ND,rfl⟩
   case z21=>
    intro x y;simp only[List.mem_cons,List.not_mem_nil,or_false] at y;subst y
    .exact⟨ND,rfl,cy⟩
   case bd1=>
    intro x y;simp only[List.mem_cons,List.not_mem_nil,or_false] at y;subst y
    .simp
   case h1=>
    intro W0 ac;obtain⟨l,u,q,D,t,m⟩:=Ef ac l u q D t m;have E:=D9 ac E;obtain⟨c8,da⟩:=JO u.o 0 1;have cb:=qh (BK (cs:=Je ⟨B,⟨L,H,J,I,A⟩⟩ (.slice pp pn pc)) l.o (7+k*6) (by have:=Vs n me gd gw gc gfr P o pv d kp since tk (.slice (Ac gs) ws.length cW) out (.slice p2 C.length c2) k hk;rw[bf.o,ca.o] at this;exact this));simp only[List.map_cons,List.map_nil,BI];repeat(first
  | (with_reducible refine qR (7+k*6) cb.o ?_;simp only[Act.put,List.setIfInBounds_toArray,List.set_cons_succ,List.set_cons_zero])
  | go_big_quiet_step (first
     | fail))
    refine wpQuiet_nil ?_;intro w' _;exact rfl
   case val1=>
    intro x y;simp only[List.mem_cons,List.not_mem_nil,or_false] at y;subst y
    .rfl
   intro β w4 hb y cr;have ak:=y _ List.mem_cons_self;clear y cr;simp only[] at ak;simp only[D7,List.foldl,Act.put,List.setIfInBounds_toArray,List.set_cons_zero,List.set_cons_succ];obtain⟨l,u,q,D,t,m⟩:=Ef hb l u q D t m;have E:=D9 hb E;generalize β 5=g5 at ak |-;have H5:=qh ak.2;have dd:=ak.1;clear ak;clear hb;clear c6 co cp cn;obtain⟨i0,i1⟩:=Cf u.o 0 1;by_cases a8:B=s
   .subst a8;have c0:(B==B)=true:=Vj
    simp only[decide_true,Bool.not_true,if_true,Bool.false_eq_true,if_false,List.append_nil] at Z Y;obtain⟨y0,y1,y2,y3,y4,y5⟩:=yN H5.o 0 1 2 3 4 5;have bi:(Bq ⟨L,H,J,I,A⟩ (.slice pp pn pc)).toArray.all (·.oneCell')=true:=by simp[Bq,Value.oneCell']
    go_upto_region 7 with(first|(refine sW (Bq ⟨L,H,J,I,A⟩ (.slice pp pn pc)) (AC w4 _ _) ?_ bi;intro w5 bs b0));have bk:Below w4.heap.size w4 w5:=Below.trans ((Below.refl _ _).alloc Ve _) (b0.below Ve Vj);have z:=qh bs;have bp:gp<=w4.heap.size:=q.le;obtain⟨l,u,q,D,t,m⟩:=Ef bk l u q D t m;clear bk bs b0 i0 i1 y0 y1 y2 y3 y4 y5 H5 bi E;generalize dg:w4.heap.size=gr at z bp |-;have r4:=Am z.o 4;go_wp2_with fail;refine(KP.o _ D.o).mono ?_;rintro e w6 ⟨v2,am,rfl,ar,ae,az⟩;have ci:=q.le;have bz:∀k,am=some k->gp<=k:=λk hk=>Nat.le_trans ci (ae k hk);have a5:∀k,am=some k->k≠gr:=AV.ne_of ar (z.bel az) Iz;have ck:∀k,U=some k->k≠gr:=AV.ne_of t.o z.o Iz;have cj:∀k,N=some k->k≠gr:=AV.ne_of m.own z.o Iz;have cl:∀a∈C,∀k,a.ob=some k->k≠gr:=λa b=>AV.ne_of (m.ps a b) z.o Iz;have cv:∀k,am=some k->N≠some k:=λk h G=>by have:=ai.o k G;have:=m.own.lt k G;have:=ae k h;omega
    obtain⟨V,T,O,rfl⟩:=ar.CZ;have M:=qh ar;obtain⟨l,u,q,z,t,m⟩:=Ef az l u q z t m;clear az r4 D ar ae;have bn:gr≠g/\gr≠gp:=⟨BJ,z.ne_of u.o Iz⟩;go_upto_region 8 with(first|(refine sC 4 z.o (.slice V T O) ?_;intro w7 ap S));have z:=qh (show Holds w7 gr 53 (Bq ⟨L,H,J,I,A⟩ (.slice V T O)) from ap);have ab:Mv (λk=>k=gr) w6 w7:=Mv.AZ S rfl;obtain⟨l,u,t,m,M,q⟩:=mG (l.touch S bn.1.symm) (u.touch S bn.2.symm) (t.mv ab ck) (m.mv ab cj cl) (show Ad w7 (.slice V T O) am A from AV.mv M.o ab a5) (q.touch S bp);clear ap S ab;obtain⟨l,u,q,z,M,t⟩:=Ef (AY _ w7) l u q z M t;have m:=D9 (AY _ w7) m;refine Ed [12,15] 16 (λhSn=>?_);generalize w7.drew=wd at l u q z M t m hSn |-;simp only[List.replicate];refine J9 0 ?_;refine BO 4 [12,13,14,15] (λw aa=>Am (l.bel aa) 73) ?_;refine CW 5 ?_;refine BO 6 [10,11,12,13,14,15] (λw aa=>Am (u.bel aa) 0) ?_;refine CW 7 ?_;refine BO 8 [10,11,12,13,14,15] (λw aa=>Am (u.bel aa) 1) ?_;refine BO 9 [10,11,12,13,14,15] (λw aa=>RU (z.bel aa) 0 1 2 3 4) ?_;refine CW 10 ?_;refine BN 11 rfl (λK Q=>?_);refine tU 121 (.agg (Nq k B ⟨L,H,J,I,A⟩ (.slice V T O)).toArray) (Nq k B ⟨L,H,J,I,A⟩ (.slice V T O)) ?_;intro wa aj R;have hSn:=AO hSn R;have ag:=qh aj;generalize wd.heap.size=gn at ag |-;obtain⟨l,q,M,t,m⟩:=Gj hSn l q M t m;clear aj R;change K (Act.put _ (some 48) _) _;refine BR Q ?_;clear Q;refine BN 12 rfl (λK Q=>?_);refine tS (.agg (xf).toArray) 7 80 m.own (Nq k B ⟨L,H,J,I,A⟩ (.slice V T O)) (ag.reads 0 _ (λj v hv=>by rw[Nat.zero_add];exact hv)) ?_ (VA k B _ ⟨V,T,O,rfl⟩);intro v9 au w9 a1 ae ad;have df:gp<=_:=q.le;obtain⟨be,bd,bc,bg⟩:=bY (show AnsAt w9 v9 au (C++[⟨k,B,⟨L,H,J,I,A⟩,.slice V T O,am⟩]) from⟨by rw[Y3,List.length_append];exact a1,λa b=>by rcases List.mem_append.1 b with b|b;exact AV.mv (m.ps a b) ad (cg a b);rw[List.mem_singleton.1 b];exact AV.mv M.o ad cv⟩) (l.mv ad (λh=>bv _ h rfl)) ((Mv.of_below (F:=λk=>N=some k) (bo▸q.below)).mv ad (λk hk=>.inl hk)) (t.mv ad bu);have bx:∀k,au=some k->w.heap.size<=k:=(λk hk=>by rcases ae with h|⟨k2,h,G⟩<;>rw[h] at hk;exact ai.o k hk;cases hk;omega);have cw:∀k,au=some k->k≠g:=λk hk=>by have:=bx k hk;omega
    obtain⟨p9,c9,rfl⟩:∃p9 c9,v9=.slice p9 (C.length+1:Nat) c9:=by
     rcases a1.cases with⟨_,_,h0,_⟩|⟨g1,ce,_,hv,_⟩
     .omega
     .exact⟨_,ce,hv⟩
    clear a1 ae ad;change K (Act.put _ (some 49) _) _;refine BR Q ?_;clear Q;refine F9 13 ?_ (hS:=JI);refine BN 15 rfl (λK Q=>?_);refine tC 73 bd.o (.slice p9 (C.length+1:Nat) c9) ?_;intro w10 br a9;have ax:=qh (show Holds w10 g 102 (Ar n me gd gw gc gfr P o pv d kp since tk (.slice (Ac gs) ws.length cW) out (.slice p9 (C.length+1:Nat) c9)) from br);have a0:Mv (λk=>k=g) w9 w10:=Mv.AZ a9 rfl;obtain⟨av,b9,cc⟩:=bP (be.mv a0 cw (λa b k hk=>by rcases List.mem_append.1 b with b|b;have:=af.o a b k hk;omega;rw[List.mem_singleton.1 b] at hk;have:=bz k hk;omega)) (bg.mv a0 a3) (show Touch g w w10 from aV HT.o bc.o ai.o a9);clear br a9 a0;refine BR Q ?_;clear Q;refine BA ?_;clear hSn u q z l bd be bc ag M t m bg;go_wp2_with fail;go_roundw;case rel=>exact⟨i+1,by go_num,BJ,U,_,au,_,by rw[Z.o];exact b9.o,ah.o,ax.o,av.o,by rw[Y.o,List.map_append,List.map_append,an.o];exact congrArg _ (by rw[List.map_singleton,List.map_singleton,bf.o];rfl),bx,λa b k hk=>by
     rcases List.mem_append.1 b with b|b
     .exact af.o a b k hk
     .rw[List.mem_singleton.1 b] at hk;have:=bz k hk;omega,λh=>(by simp at h),cc.o⟩
    case measure=>simp[intOf];omega
   .have c0:(B==s)=false:=by simp[a8]
    have dk:B<s:=BJ
    simp only[a8,decide_false,Bool.not_false,if_true,Bool.false_eq_true,if_false,List.append_nil] at Z Y;clear a7;have y0:=Am H5.o 0;have dj:=λk hk=>ah.o k hk;go_wp2_with (first|(refine FX rfl 99 37 (.agg #[AA ((k:Int)+1),AA s]) [AA ((k:Int)+1),AA s] rfl rfl rfl (λw=>ND) ?_;intro wa aj R;obtain⟨ag,bb,b8,ax,av⟩:=dD aj (q.bel R) (t.bel R) (l.bel R) (m.bel R);clear aj R)|(at_builtin;refine aS (.agg #[AA 0,AA 0]) 2 16 b8.o [AA ((k:Int)+1),AA s] (ag.reads 0 _ (λj v hv=>by rw[Nat.zero_add];exact hv)) ?_ (pG (k,s));intro v5 b2 w5 bt bw aq;obtain⟨b7,b5,b6,b3⟩:=bY bt ((Mv.of_below (F:=λk=>U=some k) (bo▸bb.below)).mv aq (λk hk=>.inl hk)) (ax.mv aq (λh=>a3 _ h rfl)) (av.mv aq cu cf);have dl:=bb.le;have a5:∀k,b2=some k->w.heap.size<=k:=(λk hk=>by rcases bw with h|⟨k2,h,G⟩<;>rw[h] at hk;exact ah.o k hk;cases hk;omega);clear bt bw aq));go_roundw;case rel=>exact⟨i+1,by go_num,BJ,b2,_,N,C,by rw[Z.o,Tm,List.length_append];exact b7.o,a5,b6.o,b3.o,by rw[Y.o];exact an.o,ai.o,af.o,ba.o,Q9 HT.o b5.o ah.o⟩
    case measure=>simp[intOf];omega
def xk:List Value:=[AA 0,AA 0,AA 0,AA 0,AA 0,AU,AU,AU,AU,AA 0,.bool false,AU,AA 0,AL]
def WY(T:TypeId)(s n:Nat)(L:List Value)(w:World)(e:Ending)(w':World):Prop:=∃P' ob',e=.returned P'/\AV w' P' ob' T s n L/\(∀k,ob'=some k->w.heap.size<=k)/\P6 n P'/\Below w.heap.size w w'
theorem dN(P:Value)(ob:Option Nat)(n:Nat)(L:List Value)(h1:∀u∈L,u.oneCell'=true)(hn:n<=1000)(w:World)(h:AV w P ob 47 51 n L)(h0:P6 n P) :Calls prog 34 #[P] w (WY 47 51 n L w):=by
 rcases Nat.eq_zero_or_pos n with G|f
 .subst G;obtain rfl:=h0 rfl;have z:L=[]:=List.eq_nil_of_length_eq_zero (by have:=h.len;omega);subst z;have B:∀W:World,(binOp .eql 34 AL AL).run prog W=.ok (.bool true) W:=λ_=>ND
  clear h h1 h0;go_in;go_wp2_with fail;go_ret;exact⟨_,none,rfl,AV.nil _ _ _,Vj,λ_=>rfl,Below.refl _ _⟩
 have E:=h.len;obtain⟨g,c,R,rfl,rfl,M,N,l,hl⟩:=h.blk f;obtain⟨y,x⟩:=WZ (l.reads 0 L (λj v q=>by rw[Nat.zero_add,List.getElem?_append_left (List.getElem?_eq_some_iff.1 q).1];exact q)) (show AV (w.alloc (.cells #[] 47)) (.slice (Ac w.heap.size) 0 0) (some w.heap.size) 47 51 0 [] from⟨World.ownsRow_lit (size:=51) w #[] 0 (Nat.zero_le _) (by unfold maxLen;omega) Vj,rfl⟩);have d:Below w.heap.size w (w.alloc (.cells #[] 47)):=by go_grown
 have i:=qh d;have F:=d.size;have B:∀W:World,(binOp .eql 34 (.slice (Ac g) n c) AL).run prog W=.ok (.bool false) W:=λ_=>ND
 have r:=qh h1;clear h l d h1 h0;go_in;go_wp2_with (first|(at_builtin;refine aS (.agg EX.toArray) 51 480 x.o L (y.below i.o) ?_ r.o (hl:=E) (hm0:=f);intro S H T b p m));rw[List.nil_append,Nat.zero_add] at b;have t:=qh (i.trans (m.below F (λk a=>by cases a;exact Nat.le_refl _)));have C:∃g,H=some g/\w.heap.size<=g:=by
  rcases p with A|⟨k,a,O⟩
  .exact⟨_,A,Ve⟩
  .exact⟨k,a,BJ⟩
 obtain⟨J,rfl,D⟩:=C;obtain⟨K,I,Q,rfl,_,_,_,_,_⟩:=b.blk f;have s:=qh b;clear b m p;go_ret;exact⟨_,_,rfl,s.o,λk a=>(by cases a;exact D),λh=>BJ,t.o⟩
theorem kX(P:Value)(ob:Option Nat)(n:Nat)(L:List Value)(h1:∀u∈L,u.oneCell'=true)(hn:n<=1000)(w:World)(h:AV w P ob 55 14 n L)(h0:P6 n P) :Calls prog 35 #[P] w (WY 55 14 n L w):=by
 rcases Nat.eq_zero_or_pos n with G|f
 .subst G;obtain rfl:=h0 rfl;have z:L=[]:=List.eq_nil_of_length_eq_zero (by have:=h.len;omega);subst z;have B:∀W:World,(binOp .eql 48 AL AL).run prog W=.ok (.bool true) W:=λ_=>ND
  clear h h1 h0;go_in;go_wp2_with fail;go_ret;exact⟨_,none,rfl,AV.nil _ _ _,Vj,λ_=>rfl,Below.refl _ _⟩
 have E:=h.len;obtain⟨g,c,R,rfl,rfl,M,N,l,hl⟩:=h.blk f;obtain⟨y,x⟩:=WZ (l.reads 0 L (λj v q=>by rw[Nat.zero_add,List.getElem?_append_left (List.getElem?_eq_some_iff.1 q).1];exact q)) (show AV (w.alloc (.cells #[] 55)) (.slice (Ac w.heap.size) 0 0) (some w.heap.size) 55 14 0 [] from⟨World.ownsRow_lit (size:=14) w #[] 0 (Nat.zero_le _) (by unfold maxLen;omega) Vj,rfl⟩);have d:Below w.heap.size w (w.alloc (.cells #[] 55)):=by go_grown
 have i:=qh d;have F:=d.size;have B:∀W:World,(binOp .eql 48 (.slice (Ac g) n c) AL).run prog W=.ok (.bool false) W:=λ_=>ND
 have r:=qh h1;clear h l d h1 h0;go_in;go_wp2_with (first|(at_builtin;refine aS (.agg xk.toArray) 14 168 x.o L (y.below i.o) ?_ r.o (hl:=E) (hm0:=f);intro S H T b p m));rw[List.nil_append,Nat.zero_add] at b;have t:=qh (i.trans (m.below F (λk a=>by cases a;exact Nat.le_refl _)));have C:∃g,H=some g/\w.heap.size<=g:=by
  rcases p with A|⟨k,a,O⟩
  .exact⟨_,A,Ve⟩
  .exact⟨k,a,BJ⟩
 obtain⟨J,rfl,D⟩:=C;obtain⟨K,I,Q,rfl,_,_,_,_,_⟩:=b.blk f;have s:=qh b;clear b m p;go_ret;exact⟨_,_,rfl,s.o,λk a=>(by cases a;exact D),λh=>BJ,t.o⟩
theorem kY(P:Value)(ob:Option Nat)(n:Nat)(L:List Value)(h1:∀u∈L,u.oneCell'=true)(hn:n<=1000)(w:World)(h:AV w P ob 158 1 n L)(h0:P6 n P) :Calls prog 77 #[P] w (WY 158 1 n L w):=by
 rcases Nat.eq_zero_or_pos n with G|f
 .subst G;obtain rfl:=h0 rfl;have z:L=[]:=List.eq_nil_of_length_eq_zero (by have:=h.len;omega);subst z;have B:∀W:World,(binOp .eql 156 AL AL).run prog W=.ok (.bool true) W:=λ_=>ND
  clear h h1 h0;go_in;go_wp2_with fail;go_ret;exact⟨_,none,rfl,AV.nil _ _ _,Vj,λ_=>rfl,Below.refl _ _⟩
 have E:=h.len;obtain⟨g,c,R,rfl,rfl,M,N,l,hl⟩:=h.blk f;obtain⟨y,x⟩:=WZ (l.reads 0 L (λj v q=>by rw[Nat.zero_add,List.getElem?_append_left (List.getElem?_eq_some_iff.1 q).1];exact q)) (show AV (w.alloc (.cells #[] 158)) (.slice (Ac w.heap.size) 0 0) (some w.heap.size) 158 1 0 [] from⟨World.ownsRow_lit (size:=1) w #[] 0 (Nat.zero_le _) (by unfold maxLen;omega) Vj,rfl⟩);have d:Below w.heap.size w (w.alloc (.cells #[] 158)):=by go_grown
 have i:=qh d;have F:=d.size;have B:∀W:World,(binOp .eql 156 (.slice (Ac g) n c) AL).run prog W=.ok (.bool false) W:=λ_=>ND
 have r:=qh h1;clear h l d h1 h0;go_in;go_wp2_with (first|(at_builtin;refine aS (.pointer none) 1 8 x.o L (y.below i.o) ?_ r.o (hl:=E) (hm0:=f);intro S H T b p m));rw[List.nil_append,Nat.zero_add] at b;have t:=qh (i.trans (m.below F (λk a=>by cases a;exact Nat.le_refl _)));have C:∃g,H=some g/\w.heap.size<=g:=by
  rcases p with A|⟨k,a,O⟩
  .exact⟨_,A,Ve⟩
  .exact⟨k,a,BJ⟩
 obtain⟨J,rfl,D⟩:=C;obtain⟨K,I,Q,rfl,_,_,_,_,_⟩:=b.blk f;have s:=qh b;clear b m p;go_ret;exact⟨_,_,rfl,s.o,λk a=>(by cases a;exact D),λh=>BJ,t.o⟩
theorem Qj{w:World}{base:Nat}{e:TypeId}{v x:Value}(h:w.ownsRow base e 1 v 1 [x]):∃br c L,v=.slice (Ac br) 1 c/\base<=br/\1<=c/\L.length+1=c/\Holds w br e (x :: L):=by
 obtain⟨_,h⟩:=h;rcases h with⟨n,k⟩|⟨g,b,d,m,i,j,l,o,f,a⟩
 .cases k
 obtain⟨c⟩:=d;cases c with
 | nil=>simp at a
 | cons y L=>
  simp at a;subst a;exact⟨g,b,L,m,i,l,by simpa using f,j⟩
abbrev one1(b:Nat):Value:=.slice (Ac b) 1 1
abbrev Jc(E R:Value)(bi bl bo bp:Nat)(many clock:Int):List Value:=[E,one1 bi,one1 bl,one1 bo,R,one1 bp,AA many,AA clock]
structure GW(w:World)(g bi bl bo bp:Nat)(E R:Value)(many clock i l p:Int)(o:Bool):Prop where
 hg:Holds w g 431 (Jc E R bi bl bo bp many clock)
 hi:Holds w bi 3 [AA i]
 hl:Holds w bl 3 [AA l]
 ho:Holds w bo 4 [.bool o]
 hp:Holds w bp 3 [AA p]
 ne:g≠bi/\g≠bl/\g≠bo/\g≠bp/\bi≠bl/\bi≠bo/\bi≠bp/\bl≠bo/\bl≠bp/\bo≠bp
theorem GW.below{w w':World}{g bi bl bo bp:Nat}{E R:Value}{many clock i l p:Int}{o:Bool}(h:GW w g bi bl bo bp E R many clock i l p o)(hb:Below w.heap.size w w'):GW w' g bi bl bo bp E R many clock i l p o:=
 ⟨AX h.hg hb,AX h.hi hb,AX h.hl hb,AX h.ho hb,AX h.hp hb,h.ne⟩
theorem GW.Yn{w w':World}{g bi bl bo bp:Nat}{E R E' R':Value}{many clock i l p many' clock':Int}{o:Bool}(h:GW w g bi bl bo bp E R many clock i l p o)(hh:Holds w' g 431 (Jc E' R' bi bl bo bp many' clock'))(ht:Touch g w w'):GW w' g bi bl bo bp E' R' many' clock' i l p o:=by have:=h.ne;exact⟨hh,h.hi.touch ht BJ,h.hl.touch ht BJ,h.ho.touch ht BJ,h.hp.touch ht BJ,h.ne⟩
theorem GW.wS{w w':World}{g bi bl bo bp:Nat}{E R:Value}{many clock i l p i':Int}{o:Bool}(h:GW w g bi bl bo bp E R many clock i l p o)(hh:Holds w' bi 3 [AA i'])(ht:Touch bi w w'):GW w' g bi bl bo bp E R many clock i' l p o:=by have:=h.ne;exact⟨h.hg.touch ht BJ,hh,h.hl.touch ht BJ,h.ho.touch ht BJ,h.hp.touch ht BJ,h.ne⟩
theorem GW.wU{w w':World}{g bi bl bo bp:Nat}{E R:Value}{many clock i l p l':Int}{o:Bool}(h:GW w g bi bl bo bp E R many clock i l p o)(hh:Holds w' bl 3 [AA l'])(ht:Touch bl w w'):GW w' g bi bl bo bp E R many clock i l' p o:=by have:=h.ne;exact⟨h.hg.touch ht BJ,h.hi.touch ht BJ,hh,h.ho.touch ht BJ,h.hp.touch ht BJ,h.ne⟩
theorem GW.qZ{w w':World}{g bi bl bo bp:Nat}{E R:Value}{many clock i l p:Int}{o o':Bool}(h:GW w g bi bl bo bp E R many clock i l p o)(hh:Holds w' bo 4 [.bool o'])(ht:Touch bo w w'):GW w' g bi bl bo bp E R many clock i l p o':=by have:=h.ne;exact⟨h.hg.touch ht BJ,h.hi.touch ht BJ,h.hl.touch ht BJ,hh,h.hp.touch ht BJ,h.ne⟩
theorem GW.wV{w w':World}{g bi bl bo bp:Nat}{E R:Value}{many clock i l p p':Int}{o:Bool}(h:GW w g bi bl bo bp E R many clock i l p o)(hh:Holds w' bp 3 [AA p'])(ht:Touch bp w w'):GW w' g bi bl bo bp E R many clock i l p' o:=by have:=h.ne;exact⟨h.hg.touch ht BJ,h.hi.touch ht BJ,h.hl.touch ht BJ,h.ho.touch ht BJ,hh,h.ne⟩
theorem GW.touch{w w':World}{g bi bl bo bp k:Nat}{E R:Value}{many clock i l p:Int}{o:Bool}(h:GW w g bi bl bo bp E R many clock i l p o)(ht:Touch k w w')(h1:g≠k)(h2:bi≠k)(h3:bl≠k)(h4:bo≠k)(h5:bp≠k):GW w' g bi bl bo bp E R many clock i l p o:=
 ⟨h.hg.touch ht h1,h.hi.touch ht h2,h.hl.touch ht h3,h.ho.touch ht h4,h.hp.touch ht h5,h.ne⟩
theorem GW.lt{w:World}{g bi bl bo bp:Nat}{E R:Value}{many clock i l p:Int}{o:Bool}(h:GW w g bi bl bo bp E R many clock i l p o):g<w.heap.size/\bi<w.heap.size/\bl<w.heap.size/\bo<w.heap.size/\bp<w.heap.size:=⟨h.hg.lt,h.hi.lt,h.hl.lt,h.ho.lt,h.hp.lt⟩
def bK(B g bi bl bo bp:Nat):Prop:=B<=g/\B<=bi/\B<=bl/\B<=bo/\B<=bp
theorem dR(g bi bl bo bp B:Nat)(E:Value)(w:World)(h:GW w g bi bl bo bp E AL 0 0 0 0 0 false)(hB:B<=w.heap.size)(hlo:bK B g bi bl bo bp) :Calls prog 344 #[AP g,AA 0] w λe w'=>∃br c L,e=.returned (.agg #[AA 0,AA 0])/\GW w' g bi bl bo bp E (.slice (Ac br) 1 c) 0 1 1 1 0 true/\Holds w' br 3 (AA 0 :: L)/\w.heap.size<=br/\1<=c/\L.length+1=c/\Below B w w':=by
 obtain⟨C,U,V,X,l5⟩:=hlo;have b:=qh h;obtain⟨t1,t2,t3,t4,t5⟩:=h.lt;clear h;have s:=Am b.hg 7;go_in;go_upto_region 1 with(fail);go_name_world W r;have y:Holds W w.heap.size 446 [AA 0,AA 0]:=by rw[<-r];exact AC w _ _
 obtain⟨f,i⟩:=WZ (show Below w.heap.size w W by rw[<-r];go_grown) y;clear y r s;have b:=qh (b.below f.o);have s:=Am b.hg 7;have f:=qh (f.mono hB);have k:w.heap.size+1<=W.heap.size:=i.lt;generalize ab:w.heap.size=P at i |-;go_wp2_with (first|(refine sC 7 b.hg (AA 1) ?_;intro t d a));simp only[Jc,List.set_cons_zero,List.set_cons_succ] at d;obtain⟨f,b,i⟩:=bP (f.trans (a.below C (by have:=f.size;omega))) (b.Yn d a) (i.touch a BJ);have k:=Nat.le_trans k a.size;clear d a s;obtain⟨b,f,i⟩:=bP (b.below (AY _ _)) (f.trans (AY _ _)) (show Holds t.drew P 446 _ from i.o);have k:w.heap.size+1<=t.drew.heap.size:=k;refine wp_region_noPanic ?_;refine Bv (S:=λO=>Holds O g 431 (Jc E AL bi bl bo bp 0 1)) (X0:=[]) (by as_aux_lemma=>kernel_rfl) ?_;generalize t.drew=wd at b f i k |-;have hSn:=b.hg;change wpAnyL _ _ _ _ _ _ 29 #[false,false,false,false,false,false,false,false,false,false,false,false,false,false,false,false,false,false,false,false,false,false,false,false,false,false,false,false,false] _ _;refine ES 0 ?_;refine BO 3 [] (λw l=>Am l 1) ?_;refine J9 4 ?_;refine BO 8 [] (λw l=>Am l 2) ?_;refine J9 9 ?_;refine BO 13 [] (λw l=>Am l 3) ?_;refine J9 14 ?_;refine BO 18 [] (λw l=>Am l 7) ?_;refine ES 19 ?_;refine BO 22 [] (λw l=>Am l 7) ?_;refine CW 23 ?_;refine BN 24 rfl (λK m=>?_);refine tC 0 b.hi (AA 1) ?_;intro n d a;simp only[List.set_cons_zero] at d;obtain⟨f,b,i⟩:=bP (f.trans (a.below U (by have:=f.size;omega))) (b.wS d a) (i.touch a BJ);have k:=Nat.le_trans k a.size;clear d a hSn;have hSn:=b.hg;refine BR m ?_;clear m;refine CW 25 ?_;refine BN 26 rfl (λK m=>?_);refine tC 0 b.hl (AA 1) ?_;intro n d a;simp only[List.set_cons_zero] at d;obtain⟨f,b,i⟩:=bP (f.trans (a.below V (by have:=f.size;omega))) (b.wU d a) (i.touch a BJ);have k:=Nat.le_trans k a.size;clear d a hSn;have hSn:=b.hg;refine BR m ?_;clear m;refine CW 27 ?_;refine BN 28 rfl (λK m=>?_);refine tC 0 b.ho (.bool true) ?_;intro n d a;simp only[List.set_cons_zero] at d;obtain⟨f,b,i⟩:=bP (f.trans (a.below X (by have:=f.size;omega))) (b.qZ d a) (i.touch a BJ);have k:=Nat.le_trans k a.size;clear d a hSn;have hSn:=b.hg;refine BR m ?_;clear m;refine BA ?_;have m4:=Am b.hg 4;clear hSn;go_wp2_with (first|(at_builtin;refine Ag rfl (.tmp 42) (.tmp 44) 30 rfl (n.heap.size+1) 3 (AA 0) 1 8 rfl ND rfl Iz _ 0 [] rfl (World.ownsRow_nil _ _ _ _) (Ac n.heap.size) 1 1 [AA 0] rfl rfl ((AC n _ _).reads 0 _ (λj v T=>by simpa using T)) (by intro h;cases h) (by simp[Value.oneCell']) (by unfold maxLen;omega) BJ Vj ?_;intro v3 w3 z p _;have p:=((Below.refl n.heap.size n).alloc Ve (.cells #[AA 0] 3)).trans (p.mono (Nat.le_succ _));obtain⟨G,q,u⟩:=bP z p (b.below p);clear z p;obtain⟨br,c,L,rfl,aa,R,Q,A⟩:=Qj G.o;have H:=qh A;clear A)|(refine sC 4 u.hg (.slice (Ac br) 1 c) ?_;intro w4 d a;simp only[Jc,List.set_cons_zero,List.set_cons_succ] at d;obtain⟨D,M,I,x⟩:=bY (u.Yn d a) ((AX i.o q.o).touch a BJ) (H.touch a BJ) a;clear d a)|(refine sW [AA 0,AA 0] M.o ?_;intro w5 d a;obtain⟨F,J,N⟩:=bP (D.touch a BJ BJ BJ BJ BJ) (I.touch a BJ) a;clear a));refine bC d.Af ?_;refine⟨br,c,L,rfl,F.o,J.o,BJ,R,Q,?_⟩;have Y:=f.size;have Z:=q.size;have h4:=x.size;exact((f.trans (q.mono BJ)).trans (x.below C BJ)).trans (N.below BJ BJ)
theorem XM(g bi bl bo bp B br c:Nat)(L:List Value)(E:Value)(w:World)(h:GW w g bi bl bo bp E (.slice (Ac br) 1 c) 0 1 1 1 0 true)(hr:Holds w br 3 (AA 0 :: L))(hbr:br≠g/\br≠bo/\br≠bp)(hc:1<=c)(hB:B<=w.heap.size)(hlo:bK B g bi bl bo bp) :Calls prog 345 #[AP g,AA 0] w λe w'=>e=.returned (.tuple #[])/\GW w' g bi bl bo bp E (.slice (Ac br) 0 c) 1 1 1 1 0 false/\Below B w w':=by
 obtain⟨p,x,y,q,r⟩:=hlo;obtain⟨a,i⟩:=WZ h hr;obtain⟨D,F,G,H,I⟩:=h.lt;obtain⟨s,A,C⟩:=hbr;clear h hr;go_in;go_upto_region 0 with(fail);refine wp_region_noPanic ?_;refine Bv (S:=λk=>GW k g bi bl bo bp E (.slice (Ac br) 1 c) 0 1 1 1 0 true) (X0:=[]) (by as_aux_lemma=>kernel_rfl) ?_;obtain⟨a,i,d⟩:=bP (a.below (AY _ _)) (show Holds w.drew br 3 _ from i.o) (show Below B w w.drew from AY _ _);generalize w.drew=m at a i d |-;have hSn:=a.o;change wpAnyL _ _ _ _ _ _ 15 #[false,false,false,false,false,false,false,false,false,false,false,false,false,false,false] _ _;refine ES 0 ?_;refine BO 3 [] (λw b=>Am b.hg 2) ?_;refine F9 4 ?_;refine BO 6 [] (λw b=>Am b.hl 0) ?_;refine ES 7 ?_;refine BO 10 [] (λw b=>Am b.hg 1) ?_;refine F9 11 ?_;refine BO 13 [] (λw b=>Am b.hi 0) ?_;refine CW 14 ?_;refine BA ?_;clear hSn
 go_wp2
 go_loopw [4] (λu wr=>u=undef/\wr=m) (λ_ _=>0);case atStart=>exact⟨rfl,rfl⟩
 case round=>
  obtain⟨rfl,rfl⟩:=hrel;go_upto_region 1 with(fail);have v:IntKind.i64.wrap 0=0:=Iz
  refine wp_region_noPanic ?_;refine Bv (S:=λk=>GW k g bi bl bo bp E (.slice (Ac br) 1 c) 0 1 1 1 0 true/\Holds k br 3 (AA 0 :: L)) (X0:=[]) (by as_aux_lemma=>kernel_rfl) ?_;obtain⟨a,i,d⟩:=bP (a.below (AY _ _)) (show Holds wr.drew br 3 _ from i.o) (d.trans (AY _ _));generalize wr.drew=m at a i d |-;have hSn:=And.intro a.o i.o;change wpAnyL _ _ _ _ _ _ 13 #[false,false,false,false,false,false,false,false,false,false,false,false,false] _ _;refine ES 0 ?_;refine BO 3 [] (λw b=>Am b.1.hg 4) ?_;refine ES 4 ?_;refine BO 7 [] (λw b=>Am b.1.hg 4) ?_;refine ES 8 ?_;refine JL 11 [] (some 31) (?vg53) rfl (Or.inl ⟨by rfl,?hg53⟩) hSn ?rg53;case hg53=>
   intro w b;have t:=b.2.cell 0;simp only[List.getElem?_cons_zero] at t;go_simp;try with_reducible rfl
  simp only[Act.put,zA,zB,zC];refine CW 12 ?_;refine BA ?_;clear hSn;go_upto_region 2 with(fail);refine wp_region_noPanic ?_;refine Bv (S:=λk=>GW k g bi bl bo bp E (.slice (Ac br) 1 c) 0 1 1 1 0 true/\Holds k br 3 (AA 0 :: L)) (X0:=[14]) (by as_aux_lemma=>kernel_rfl) ?_;obtain⟨a,i,d⟩:=bP (a.below (AY _ _)) (show Holds m.drew br 3 _ from i.o) (d.trans (AY _ _));generalize m.drew=m at a i d |-;have hSn:=And.intro a.o i.o;change wpAnyL _ _ _ _ _ _ 15 #[false,false,false,false,false,false,false,false,false,false,false,false,false,false,false] _ _;refine J9 0 ?_;refine BO 4 [11,12,13,14] (λw b=>Am b.1.hg 4) ?_;refine ES 5 ?_;refine BO 8 [9,10,11,12,13,14] (λw b=>Am b.1.hg 4) ?_;refine J9 9 ?_;refine CW 13 ?_;refine BN 14 rfl (λK l=>?_);refine tC 4 a.hg (.slice (Ac br) 0 c) ?_;intro n j f;simp only[Jc,List.set_cons_zero,List.set_cons_succ] at j;obtain⟨d,a,i⟩:=bP (d.trans (f.below p (by have:=d.size;omega))) (a.Yn j f) (i.touch f s);clear j f hSn;have hSn:=And.intro a.o i.o;refine BR l ?_;clear l;refine BA ?_;clear hSn;go_upto_region 3 with(fail);refine wp_region_noPanic ?_;refine Bv (S:=λk=>Holds k g 431 (Jc E (.slice (Ac br) 0 c) bi bl bo bp 0 1)) (X0:=[]) (by as_aux_lemma=>kernel_rfl) ?_;obtain⟨a,d⟩:=WZ (a.below (AY _ _)) (d.trans (AY _ _));generalize n.drew=m at a d |-;have hSn:=a.hg;change wpAnyL _ _ _ _ _ _ 18 #[false,false,false,false,false,false,false,false,false,false,false,false,false,false,false,false,false,false] _ _;refine ES 0 ?_;refine BO 3 [] (λw b=>Am b 3) ?_;refine J9 4 ?_;refine BO 8 [] (λw b=>Am b 5) ?_;refine J9 9 ?_;refine BO 13 [] (λw b=>Am b 6) ?_;refine CW 14 ?_;refine BN 15 rfl (λK l=>?_);refine tC 0 a.ho (.bool false) ?_;intro n j f;simp only[List.set_cons_zero] at j;obtain⟨d,a⟩:=WZ (d.trans (f.below q (by have:=d.size;omega))) (a.qZ j f);clear j f hSn;have hSn:=a.hg;refine BR l ?_;clear l;refine CW 16 ?_;refine BN 17 rfl (λK l=>?_);refine tC 0 a.hp (AA 0) ?_;intro n j f;simp only[List.set_cons_zero] at j;obtain⟨d,a⟩:=WZ (d.trans (f.below r (by have:=d.size;omega))) (a.wV j f);clear j f hSn;have hSn:=a.hg;refine BR l ?_;clear l;refine BA ?_;clear hSn;have z:=Am a.hg 6;go_wp2_with (first|(refine sC 6 a.hg (AA 1) ?_;intro J j f));simp only[Jc,List.set_cons_zero,List.set_cons_succ] at j;exact bE ⟨rfl,a.Yn j f,d.trans (f.below p (by have:=d.size;omega))⟩
theorem fG(g bi bl bo bp B be ce:Nat)(w:World)(h:GW w g bi bl bo bp (.slice (Ac be) 1 ce) AL 0 0 0 0 0 false)(he:Holds w be 30 [AL])(hbe:be<B)(hB:B<=w.heap.size)(hlo:bK B g bi bl bo bp) :Calls prog 329 #[AP g,AA 0] w λe w'=>∃R,e=.returned (.tuple #[])/\GW w' g bi bl bo bp (.slice (Ac be) 1 ce) R 1 1 1 1 0 false/\Below B w w':=by
 obtain⟨l1,l2,l3,l4,l5⟩:=id hlo;obtain⟨a,t,P⟩:=bP h he (he);obtain⟨t1,t2,t3,t4,t5⟩:=h.lt;obtain⟨x,G,U⟩:=bP (dR g bi bl bo bp B (.slice (Ac be) 1 ce) w h hB hlo) (λi c L W H I J K M=>XM g bi bl bo bp B i c L (.slice (Ac be) 1 ce) W H I J K M hlo) hlo;clear h he hlo;go_in;go_wp2_with fail;refine x.mono ?_;rintro e f ⟨i,c,L,rfl,l,p,Y,O,X,j⟩;obtain⟨a,d,b⟩:=bP l p j;have Q:w.heap.size<=f.heap.size:=j.size;have t6:=p.lt;clear l p j x;go_wp2_with fail;obtain⟨s,q⟩:=WZ (show Holds (f.alloc (.cells #[AA 0,AA 0] 446)) f.heap.size 446 [AA 0,AA 0] from AC f _ _) (show Below f.heap.size f (f.alloc (.cells #[AA 0,AA 0] 446)) by go_grown);generalize f.alloc (.cells #[AA 0,AA 0] 446)=W at s q |-;obtain⟨a,d,b⟩:=bP (a.below q.o) (AX d.o q.o) (b.trans (q.mono BJ));have N:w.heap.size<=f.heap.size:=Q;generalize aa:f.heap.size=r at s N |-;go_loopw [4] (λT wr=>∃m:Nat,T=.slice (Ac r) m 1/\Below B w wr/\((m=1/\GW wr g bi bl bo bp (.slice (Ac be) 1 ce) (.slice (Ac i) 1 c) 0 1 1 1 0 true/\Holds wr i 3 (AA 0 :: L)/\Holds wr r 446 [AA 0,AA 0])\/(m=0/\GW wr g bi bl bo bp (.slice (Ac be) 1 ce) (.slice (Ac i) 0 c) 1 1 1 1 0 false))) (λv _=>match v with | .slice _ m _=>m|_=>0);case atStart=>exact⟨1,rfl,b.o,.inl ⟨rfl,a.o,d.o,s.o⟩⟩
 case round=>
  clear a d b s q;have Z:IntKind.i64.wrap 0=0:=Iz
  obtain⟨m,rfl,j,⟨rfl,l,p,A⟩|⟨rfl,l⟩⟩:=hrel
  .obtain⟨a,d,b,n,t⟩:=dD l p j A (P.below j hbe);clear l p j A;go_upto_region 3 with(fail);refine wp_region_noPanic ?_;refine Bv (S:=λu=>Holds u g 431 (Jc (.slice (Ac be) 1 ce) (.slice (Ac i) 1 c) bi bl bo bp 0 1)/\Holds u r 446 [AA 0,AA 0]/\Holds u be 30 [AL]) (X0:=[]) (by as_aux_lemma=>kernel_rfl) ?_;have hSn:=And.intro (a.below (AY _ _)).hg (And.intro (show Holds wr.drew r 446 _ from n.o) (show Holds wr.drew be 30 _ from t.o));obtain⟨a,d,n,b⟩:=bY (a.below (AY _ _)) (show Holds wr.drew i 3 _ from d.o) (show Holds wr.drew r 446 _ from n.o) (b.trans (AY _ _));generalize wr.drew=D at a d n b hSn |-;change wpAnyL _ _ _ _ _ _ 16 #[false,false,false,false,false,false,false,false,false,false,false,false,false,false,false,false] _ _;refine ES 0 ?_;refine BO 3 [] (λw k=>Am k.2.1 1) ?_;refine ES 4 ?_;refine BO 7 [] (λw k=>Am k.1 0) ?_;refine ES 8 ?_;refine BO 11 [] (λw k=>Am k.2.1 0) ?_;refine CW 12 ?_;refine BO 13 [] (λw k=>Am k.2.2 0) ?_;refine F9 14 ?_;refine BA ?_;clear hSn;have C:=n.cell 0;simp only[List.getElem?_cons_zero] at C;go_wp2_with fail;have ab:w.heap.size<=D.heap.size:=b.size;refine Ah (G.out i c L D a.o d.o ⟨BJ,BJ,BJ⟩ O BJ) ?_;rintro w5 ⟨z,y⟩;obtain⟨F,E⟩:=WZ z (b.trans y);clear z y C n d t;have V:(0:Int)<=1:=Iz
   go_wp2_with fail;go_roundw;case rel=>exact⟨0,rfl,E.o,.inr ⟨rfl,F.o⟩⟩
   case measure=>simp
  .obtain⟨a,b⟩:=WZ l j;go_wp2_with fail;exact bE ⟨_,rfl,a.o,b.o⟩
end Go.Proofs.YtimdpiifpibgfaaGreatDoor
