/- A part of the proof of TopReads. -/
import Derived.Test.YtimdpiifpibgfaaGreatDoorQr11
set_option linter.all false
set_option maxRecDepth 20000
set_option maxHeartbeats 16000000
open Go.RowKit Go.Maps
namespace Go.Proofs.YtimdpiifpibgfaaGreatDoor
open Tryz
structure Rep where
 why:Int
 fd:Bool
 val:ByteArray
 ver:Int
 ps:List Pr
def Rep.zero:Rep:=⟨0,false,⟨#[]⟩,0,[]⟩
structure Ow where
 seq:Int
 rep:Rep
def Ow.zero:Ow:=⟨0,Rep.zero⟩
def Bq(r:Rep)(v:Value):List Value:=[AA r.why,.bool r.fd,.string r.val,AA r.ver,v]
def Je(x:Ow)(v:Value):List Value:=AA x.seq :: Bq x.rep v
def BH(o:Nat->Ow)(pv:Nat->Value):List Value:=Je (o 0) (pv 0)++(Je (o 1) (pv 1)++(Je (o 2) (pv 2)++(Je (o 3) (pv 3)++(Je (o 4) (pv 4)++(Je (o 5) (pv 5)++(Je (o 6) (pv 6)++Je (o 7) (pv 7)))))))
def Gg{α:Type}(f:Nat->α)(i:Nat)(x:α):Nat->α:=λj=>if j=i then x else f j
theorem D8{α:Type}(f:Nat->α)(i:Nat)(x:α):Gg f i x i=x:=by simp[Gg]
theorem Dv{α:Type}(f:Nat->α)(i j:Nat)(x:α)(h:j≠i):Gg f i x j=f j:=by simp[Gg,h]
theorem Xl(o:Nat->Ow)(pv:Nat->Value)(i:Nat)(hi:i<8)(x:Ow)(v:Value):splice (BH o pv) (i*6) (Je x v)=BH (Gg o i x) (Gg pv i v):=by rcases(show i=0\/i=1\/i=2\/i=3\/i=4\/i=5\/i=6\/i=7 by omega) with rfl|rfl|rfl|rfl|rfl|rfl|rfl|rfl<;>rfl
theorem Xk(o:Nat->Ow)(pv:Nat->Value)(i:Nat)(hi:i<8)(v:Value):splice (BH o pv) (i*6+1) (Bq (o i).rep v)=BH o (Gg pv i v):=by rcases(show i=0\/i=1\/i=2\/i=3\/i=4\/i=5\/i=6\/i=7 by omega) with rfl|rfl|rfl|rfl|rfl|rfl|rfl|rfl<;>rfl
theorem Qh(o:Nat->Ow)(pv:Nat->Value):(BH o pv).length=48:=rfl
theorem TM(o:Nat->Ow)(pv:Nat->Value)(i j:Nat)(hi:i<8)(hj:j<6):(BH o pv)[i*6+j]?=(Je (o i) (pv i))[j]?:=by
 rcases(show i=0\/i=1\/i=2\/i=3\/i=4\/i=5\/i=6\/i=7 by omega) with rfl|rfl|rfl|rfl|rfl|rfl|rfl|rfl <;>
  rcases(show j=0\/j=1\/j=2\/j=3\/j=4\/j=5 by omega) with rfl|rfl|rfl|rfl|rfl|rfl<;>rfl
def CZ(v:Value):Prop:=∃p n c,v=.slice p n c
theorem CZ.one{v:Value}(h:CZ v):v.oneCell'=true:=by obtain⟨p,n,c,rfl⟩:=h;rfl
theorem CZ.cells{v:Value}(h:CZ v):v.cells=#[v]:=by obtain⟨p,n,c,rfl⟩:=h;rfl
theorem Ad.CZ{w:World}{v:Value}{ob:Option Nat}{l:List Pr}(h:Ad w v ob l):CZ v:=by obtain⟨p,c,rfl,_⟩:=h.rows;exact⟨_,_,_,rfl⟩
theorem Fa{r:Rep}{v:Value}(h:CZ v):(Bq r v).toArray.all (·.oneCell')=true:=by obtain⟨p,n,c,rfl⟩:=h;simp[Bq,Value.oneCell']
theorem jP{r:Rep}{v:Value}(h:CZ v):∀u∈Bq r v,u.oneCell'=true:=by obtain⟨p,n,c,rfl⟩:=h;simp[Bq,Value.oneCell']
theorem Yf{x:Ow}{v:Value}(h:CZ v):∀u∈Je x v,u.oneCell'=true:=by obtain⟨p,n,c,rfl⟩:=h;simp[Je,Bq,Value.oneCell']
theorem Qi{o:Nat->Ow}{pv:Nat->Value}(h:∀i,i<8->CZ (pv i)):(BH o pv).toArray.all (·.oneCell')=true:=by obtain⟨_,_,_,a⟩:=h 0 BJ;obtain⟨_,_,_,b⟩:=h 1 BJ;obtain⟨_,_,_,c⟩:=h 2 BJ;obtain⟨_,_,_,d⟩:=h 3 BJ;obtain⟨_,_,_,f⟩:=h 4 BJ;obtain⟨_,_,_,g⟩:=h 5 BJ;obtain⟨_,_,_,j⟩:=h 6 BJ;obtain⟨_,_,_,k⟩:=h 7 BJ;simp[BH,Je,Bq,Value.oneCell',a,b,c,d,f,g,j,k]
def OwnAt(w:World)(o:Nat->Ow)(pv:Nat->Value)(pb:Nat->Option Nat):Prop:=∀i,i<8->Ad w (pv i) (pb i) (o i).rep.ps
theorem OwnAt.bel{w w':World}{o:Nat->Ow}{pv:Nat->Value}{pb:Nat->Option Nat}(h:OwnAt w o pv pb)(hb:Below w.heap.size w w'):OwnAt w' o pv pb:=λi a=>(h i a).bel hb
instance {w w':World}{o:Nat->Ow}{pv:Nat->Value}{pb:Nat->Option Nat}:Bl w w' (OwnAt w o pv pb) (OwnAt w' o pv pb):=⟨λhb h=>OwnAt.bel h hb⟩
theorem OwnAt.mv{w w':World}{F:Ap}{o:Nat->Ow}{pv:Nat->Value}{pb:Nat->Option Nat}(h:OwnAt w o pv pb)(hm:Mv F w w')(hF:∀i,i<8->∀g,pb i=some g->¬F g):OwnAt w' o pv pb:=λi a=>(h i a).mv hm (hF i a)
theorem OwnAt.set{w:World}{o:Nat->Ow}{pv:Nat->Value}{pb:Nat->Option Nat}(h:OwnAt w o pv pb)(k:Nat)(x:Ow){v:Value}{ob:Option Nat}(hx:Ad w v ob x.rep.ps):OwnAt w (Gg o k x) (Gg pv k v) (Gg pb k ob):=λi a=>by
 by_cases e:i=k
 .subst e;rw[D8,D8,D8];exact hx
 .rw[Dv _ _ _ _ e,Dv _ _ _ _ e,Dv _ _ _ _ e];exact h i a
theorem OwnAt.sl{w:World}{o:Nat->Ow}{pv:Nat->Value}{pb:Nat->Option Nat}(h:OwnAt w o pv pb):∀i,i<8->CZ (pv i):=λi a=>(h i a).CZ
theorem OwnAt.lt{w:World}{o:Nat->Ow}{pv:Nat->Value}{pb:Nat->Option Nat}(h:OwnAt w o pv pb):∀i,i<8->∀g,pb i=some g->g<w.heap.size:=λi b g a=>AV.lt (h i b) g a
def J5(o:Nat->Ow)(c:Nat)(x:Ow):Nat->Ow:=if c=0 then o else Gg o (c-1) x
def Small(o:Nat->Ow):Prop:=∀i,i<8->(o i).rep.ps.length<=1000
theorem Small.note{o:Nat->Ow}(h:Small o)(c:Nat){x:Ow}(hx:x.rep.ps.length<=1000):Small (J5 o c x):=λi a=>by
 unfold J5;split
 .exact h i a
 .by_cases e:i=c-1
  .rw[e,D8];exact hx
  .rw[Dv _ _ _ _ e];exact h i a
def Tu(o:Nat->Ow)(w:World)(e:Ending)(w':World):Prop:=∃pv pb,e=.returned (.agg (BH o pv).toArray)/\OwnAt w' o pv pb/\(∀i,i<8->∀g,pb i=some g->w.heap.size<=g)/\Below w.heap.size w w'
theorem Yt(c:Nat)(w:World)(hc:c<=8):Calls prog 178 #[AA c] w λe w'=>e=.returned (.bool (c != 0))/\Below w.heap.size w w':=by
 have d:(c:Int)<=8:=BJ
 rcases Nat.eq_zero_or_pos c with rfl|b
 .go_in;go_wp2_with fail;go_ret;exact⟨rfl,by go_grown⟩
 .have h1:(1:Int)<=c:=BJ
  have a:(c != 0)=true:=by simp;omega
  rw[a];go_in;go_wp2_with fail;go_ret;exact⟨rfl,by go_grown⟩
def bg(r:Rep)(w:World)(e:Ending)(w':World):Prop:=∃v' ob',e=.returned (.agg (Bq r v').toArray)/\Ad w' v' ob' r.ps/\(∀g,ob'=some g->w.heap.size<=g)/\Below w.heap.size w w'
theorem oQ(r:Rep)(v:Value)(ob:Option Nat)(w:World)(h:Ad w v ob r.ps)(hl:r.ps.length<=1000) :Calls prog 179 #[.agg (Bq r v).toArray] w (bg r w):=by
 obtain⟨y,b⟩:=WZ (λW i=>F5 v ob r.ps W i hl) h;have Q:=h.CZ;clear h;go_in;go_upto_region 1 with(fail);go_name_world W i;obtain⟨d,f,A,M⟩:=bF 53 (Bq r v) 53 (Bq Rep.zero AL) i;clear i;have a:=qh (Base.start w);obtain⟨a,b⟩:=Ce A a b;have J:w.heap.size+1<W.heap.size:=BJ
 clear A M;have p:w.heap.size≠w.heap.size+1:=BJ
 generalize R:w.heap.size+1=gz at f p J |-;have G:w.heap.size<=gz:=BJ
 generalize z:w.heap.size=B at d a p G |-;have N:=Am d.o 4;go_wp2_with fail;refine(y.o _ b.o).mono ?_;rintro e S ⟨l,u,rfl,s,q,n⟩;obtain⟨d,f⟩:=Ce n d f;have L:=a.le;have a:=D9 n a;obtain⟨b,m⟩:=WZ s s.CZ;have K:∀g,u=some g->B<=g:=λg c=>Nat.le_trans L (q g c);have E:∀g,u=some g->g≠B/\g≠gz:=λg c=>by have P:=q g c;omega
 clear n N s q y;go_wp2_with (first|(refine Bh rfl 51 (.tmp 6) (.tmp 5) rfl rfl B 4 53 _ d.o (by simp[Bq]) rfl l rfl m.cells ND m.one ?_;intro O C j;have H:=qh (show Holds O B 53 (Bq r l) from C);have x:=qh H.Af)|(refine lM 0 x.o ?_)|(refine sW (Bq r l) (f.touch j (Ne.symm p)) ?_ (Fa m.o);intro T D t));obtain⟨a,b,I⟩:=bP ((a.touch j Ve).touch t G) ((b.mv (Mv.AZ (F:=λk=>k=B) j rfl) (λg c=>(E g c).1)).mv (Mv.AZ (F:=λk=>k=gz) t rfl) (λg c=>(E g c).2)) D.Af;clear D t x C j;refine bC I.o ?_;exact⟨l,u,rfl,b.o,z▸K,z▸a.below⟩
def bV(o:Nat->Ow)(B gz:Nat)(w:World)(i:Nat)(wr:World):Prop:=
 ∃pv pb,Holds wr B 64 (BH o pv)/\Holds wr gz 64 (BH (λ_=>Ow.zero) λ_=>AL)/\OwnAt wr o pv pb/\(∀j,j<8->∀g,pb j=some g->g≠B/\g≠gz/\(j<i->B<=g))/\Base B w wr/\gz<wr.heap.size
theorem qf(o:Nat->Ow)(pv:Nat->Value)(pb:Nat->Option Nat)(c:Nat)(q:Int)(r:Rep)(vr:Value)(obr:Option Nat)(w:World)(h:OwnAt w o pv pb)(hr:Ad w vr obr r.ps)(hc:c<=8)(hS:Small o)(hrl:r.ps.length<=1000) :Calls prog 96 #[.agg (BH o pv).toArray,AA c,AA q,.agg (Bq r vr).toArray] w (Tu (J5 o c ⟨q,r⟩) w):=by
 obtain⟨KK,KC,d,C⟩:=bY (λW=>Yt c W hc) (λ(r:Rep) v ob W h hl=>oQ r v ob W h hl) h hr;have J:=hS.note c (x:=⟨q,r⟩) hrl;obtain⟨n,T⟩:∃n,n=J5 o c ⟨q,r⟩:=⟨_,rfl⟩;rw[<-T] at J |-;obtain⟨J,Q⟩:=WZ J T;clear T;have ao:=hr.CZ;obtain⟨ae,ad⟩:=WZ h.lt (AV.lt hr);clear h hr hS;go_in;go_upto_region 1 with(fail);go_name_world W u;have u:Bo w [.cells (BH o pv:List Value).toArray 64,.cells (Bq r vr:List Value).toArray 53,.cells (BH (λ_=>Ow.zero) (λ_=>AL):List Value).toArray 64]=W:=u;obtain⟨f,y,l⟩:=bP (show Holds W (w.heap.size) 64 (BH o pv) from Ae _ u 0 rfl) (show Holds W (w.heap.size+1) 53 (Bq r vr) from Ae _ u 1 rfl) (show Holds W (w.heap.size+1+1) 64 (BH (λ_=>Ow.zero) λ_=>AL) from Ae _ u 2 rfl);have ac:=Aq _ u;have aj:=Bd _ u;simp only[List.length_cons,List.length_nil] at aj;clear u;have b:=qh (Base.start w);obtain⟨b,d,C⟩:=D5 ac b d C;have G:w.heap.size+1+1<W.heap.size:=BJ
 clear ac aj;have N:w.heap.size≠w.heap.size+1+1:=BJ
 have ai:∀j,j<8->∀g,pb j=some g->g≠w.heap.size/\g≠w.heap.size+1+1:=λj m g a=>by have:=ae.out j m g a;omega
 have ah:∀g,obr=some g->g≠w.heap.size/\g≠w.heap.size+1+1:=λg a=>by have:=ad.out g a;omega
 obtain⟨s,E⟩:=WZ ai ah;clear ai ah ae ad;generalize az:w.heap.size+1+1=gz at l N G s E |-;have ak:w.heap.size<=gz:=BJ
 generalize av:w.heap.size+1=gr at y |-;generalize ab:w.heap.size=B at f b N ak s E |-;go_wp2_with fail;refine Ah (KK.o _) ?_;rintro Z p;obtain⟨f,y,l,b,d,C⟩:=Ef p f y l b d C;have G:gz<Z.heap.size:=Nat.lt_of_lt_of_le G p.size;clear p KK;rcases Nat.eq_zero_or_pos c with K|K
 case' inl=>
  have L:(c != 0)=false:=by simp;omega
  rw[L];have P:=qh (show bV n B gz w 0 Z from⟨pv,pb,by rw[Q.o,J5,if_pos K];exact f.o,l.o,by rw[Q.o,J5,if_pos K];exact d.o,λj m g a=>⟨(s.o j m g a).1,(s.o j m g a).2,λh=>absurd h BJ⟩,b.o,G⟩);go_upto_region 3 with(fail)
 case' inr=>
  have L:(c != 0)=true:=by simp;omega
  rw[L];obtain⟨k,hk⟩:∃k,c=k+1:=⟨c-1,BJ⟩;have aq:IntKind.i64.wrap ((c:Int) - 1)=(k:Int):=by rw[IntKind.wrap_i64];omega
  have an:(k:Int)<8:=BJ
  have am:(0:Int)<=(k:Int):=BJ
  have t:=qh y.Af;go_upto_region 3 with(first|(refine lM 0 t.o ?_)|(refine WT ND 63 0 1 14 15 rfl (AA q) (.agg (Bq r vr).toArray) rfl rfl (.agg (Je ⟨q,r⟩ vr).toArray) (λw=>ND) ?_)|(refine Gw rfl 63 (.tmp 17) (.tmp 16) rfl rfl B (k*6) _ 64 f.o rfl (Je ⟨q,r⟩ vr) rfl ND (by rw[Qh,show (Je ⟨q,r⟩ vr).length=6 from rfl];omega) (Yf ao) ?_;intro w2 R O));rw[Xl o pv k BJ] at R;have S:n=Gg o k ⟨q,r⟩:=by rw[Q.o,J5,if_neg BJ,hk];rfl
  have b:=qh (b.touch O Ve);have M:Mv (λk=>k=B) Z w2:=Mv.AZ O rfl;have P:=qh (show bV n B gz w 0 w2 from⟨Gg pv k vr,Gg pb k obr,by rw[S];exact R,l.mv M (Ne.symm N),by
   rw[S];exact(d.mv M (λi z g a=>(s.o i z g a).1)).set k ⟨q,r⟩ (C.mv M λg a=>(E.o g a).1),λj m g a=>by
   by_cases e:j=k
   .subst e;rw[D8] at a;exact⟨(E.o g a).1,(E.o g a).2,λh=>absurd h BJ⟩
   .rw[Dv _ _ _ _ e] at a;exact⟨(s.o j m g a).1,(s.o j m g a).2,λh=>absurd h BJ⟩,b.o,Nat.lt_of_lt_of_le G O.size⟩)
  clear R O M aq an am t S
 all_goals
  clear f y l d C s E b L K G;go_wp2_with fail;go_loopw [18] (λY wr=>∃i:Nat,Y=AA (i:Int)/\i<=8/\bV n B gz w i wr) (λY _=>8 - (intOf Y).toNat);case atStart=>exact⟨0,rfl,BJ,P.o⟩
  case round=>
   clear P;obtain⟨i,rfl,z,pv,pb,ho,hz,af,ag,p,ar⟩:=hrel;obtain⟨f,l,b,d,D⟩:=dD ho hz p af ag;clear ho hz p af ag;by_cases h8:i=8
   .subst h8;have t:=qh f.Af;go_wp2_with (first|(refine lM 0 t.o ?_)|(refine sW (BH n pv) l.o ?_ (Qi d.sl);intro w5 H A));obtain⟨b,y,d⟩:=bP (b.touch A ak) H.Af (d.mv (Mv.AZ (F:=λk=>k=gz) A rfl) λi z g a=>(D.o i z g a).2.1);clear H A t;refine bC y.o ?_;exact⟨pv,pb,rfl,d.o,(λi z g a=>by rw[ab];exact(D.o i z g a).2.2 z),by rw[ab];exact b.below⟩
   .have hi8:(i:Int)<8:=BJ
    have au:(0:Int)<=(i:Int):=BJ
    have t:=qh (f.CB (i*6+1) (cs:=Bq (n i).rep (pv i)) λj v hv=>by
     have m:j<5:=(List.getElem?_eq_some_iff.1 hv).1;rw[Nat.add_assoc,Nat.add_comm 1 j,TM n pv i (j+1) BJ BJ];exact hv)
    go_wp2_with (first|(refine lM (i*6+1) t.o ?_));refine(KC.o _ _ _ _ (d.o i BJ) (J.out i BJ)).mono ?_;rintro e w4 ⟨X,al,rfl,V,U,p⟩;obtain⟨f,l,d⟩:=D5 p f l d;have aw:=b.le;have b:=D9 p b;have aa:=qh V;have ap:=V.CZ;have ax:=p.size;clear p V t;go_wp2_with (first|(refine Gw rfl 53 (.tmp 28) (.tmp 26) rfl rfl B (i*6+1) _ 64 f.o rfl (Bq (n i).rep X) rfl ND (by rw[Qh,show (Bq (n i).rep X).length=5 from rfl];omega) (jP ap) ?_;intro w5 H A));rw[Xk n pv i BJ] at H;have I:Mv (λk=>k=B) w4 w5:=Mv.AZ A rfl;obtain⟨f,l⟩:=WZ H (l.mv I (Ne.symm N));have d:=qh (show OwnAt w5 n (Gg pv i X) (Gg pb i al) from λj m=>by
     by_cases e:j=i
     .subst e;rw[D8,D8];exact aa.mv I λg a=>by have:=U g a;omega
     .rw[Dv _ _ _ _ e,Dv _ _ _ _ e];exact(d.o j m).mv I λg a=>(D.o j m g a).1)
    have b:=qh (b.touch A Ve);have ay:=I.size;have D:=qh (show ∀j,j<8->∀g,Gg pb i al j=some g->g≠B/\g≠gz/\(j<i+1->B<=g) from λj m g a=>by
     by_cases e:j=i
     .subst e;rw[D8] at a;have:=U g a;omega
     .rw[Dv _ _ _ _ e] at a;have:=D.o j m g a;omega)
    clear H A I aa U;go_wp2_with fail;go_roundw;case rel=>exact⟨i+1,by go_num,BJ,_,_,f.o,l.o,d.o,D.o,b.o,BJ⟩
    case measure=>simp[intOf];omega
def X9:List Value:=Bq Rep.zero AL
theorem xC(o:Nat->Ow)(pv:Nat->Value)(c:Nat)(s:Int)(w:World)(hsl:∀i,i<8->CZ (pv i))(hc:1<=c/\c<=8)(hs:(o (c-1)).seq<s) :Calls prog 97 #[.agg (BH o pv).toArray,AA c,AA s] w λe w'=>e=.returned (.tuple #[AA 1,.agg X9.toArray])/\Below w.heap.size w w':=by
 have h:=qh (λW=>Yt c W hc.2);have u:(c != 0)=true:=by simp;omega
 rw[u] at h;obtain⟨k,I⟩:∃k,c=k+1:=⟨c-1,BJ⟩;have y:c-1=k:=BJ
 rw[y] at hs;have O:IntKind.i64.wrap ((c:Int) - 1)=(k:Int):=by rw[IntKind.wrap_i64];omega
 have M:(k:Int)<8:=BJ
 have L:(0:Int)<=(k:Int):=BJ
 have J:=qh (hsl k BJ);have N:k<8:=BJ
 clear u I y;go_in;go_upto_region 1 with(fail);go_name_world W b;have b:Bo w [.cells (BH o pv:List Value).toArray 64,.cells (X9:List Value).toArray 53]=W:=b;obtain⟨f,d⟩:=WZ (show Holds W (w.heap.size) 64 (BH o pv) from Ae _ b 0 rfl) (show Holds W (w.heap.size+1) 53 X9 from Ae _ b 1 rfl);have r:=Aq _ b;have z:=Bd _ b;simp only[List.length_cons,List.length_nil] at z;clear b;have a:=qh (Base.start w);have a:=D9 r a;clear r z;have m:w.heap.size<=w.heap.size+1:=BJ
 generalize P:w.heap.size+1=E at d m |-;generalize F:w.heap.size=B at f a m |-;go_wp2_with fail;refine Ah (h.o _) ?_;rintro g p;obtain⟨f,d,a⟩:=D5 p f d a;clear p h;have n:=qh (f.CB (k*6) (cs:=Je (o k) (pv k)) λj v A=>by
  have H:j<6:=(List.getElem?_eq_some_iff.1 A).1;rw[TM o pv k j BJ H];exact A)
 go_upto_region 4 with(first|(refine lM (k*6) n.o ?_)|(refine Ai rfl 63 _ _ rfl rfl _ _ (Je (o k) (pv k)).toArray rfl rfl ND ND (by have:=Yf (x:=o k) J.out;simpa using this) ?_));go_name_world W2 l;have t:Holds W2 g.heap.size 63 (Je (o k) (pv k)):=by rw[<-l];exact AC g _ _
 have q:Below g.heap.size g W2:=by rw[<-l];exact(Below.refl _ _).alloc Ve _
 have D:=t.cell 0;simp only[Je,List.getElem?_cons_zero] at D;obtain⟨d,a⟩:=Ce q d a;clear t q l n f;go_wp2_with (first|(refine sW X9 d.o ?_ (Fa ⟨none,0,0,rfl⟩);intro Q G K));obtain⟨a,C⟩:=WZ (a.touch K m) G.Af;refine bodyPost_ret (v:=.tuple #[AA 1,.agg X9.toArray]) (DC results97 _ _ E _ _ _ rfl rfl C.o underlying53 rfl ND) rfl ?_;exact⟨rfl,F▸a.below⟩
def Gx(v:Value)(o:Nat->Ow)(pv:Nat->Value):List Value:=v :: BH o pv
theorem NP{v:Value}{o:Nat->Ow}{pv:Nat->Value}(h:CZ v)(h2:∀i,i<8->CZ (pv i)):(Gx v o pv).toArray.all (·.oneCell')=true:=by
 have:=Qi (o:=o) h2;simp only[List.all_toArray] at this |-;rw[Gx,List.all_cons,h.one,this]
 rfl
theorem Yq(P:Value)(o:Nat->Ow)(pv:Nat->Value):List.foldl (λ(cs:Array Value) (x:Value × Nat)=>cs.setIfInBounds (1+x.snd) x.fst) #[P,AA 0,AA 0,.bool false,AU,AA 0,AL,AA 0,AA 0,.bool false,AU,AA 0,AL,AA 0,AA 0,.bool false,AU,AA 0,AL,AA 0,AA 0,.bool false,AU,AA 0,AL,AA 0,AA 0,.bool false,AU,AA 0,AL,AA 0,AA 0,.bool false,AU,AA 0,AL,AA 0,AA 0,.bool false,AU,AA 0,AL,AA 0,AA 0,.bool false,AU,AA 0,AL] (BH o pv).zipIdx=(Gx P o pv).toArray:=ND
structure St where
 ps:List Pr
 ow:Nat->Ow
def rD(s:St)(w:World)(e:Ending)(w':World):Prop:=∃v ob pv pb,e=.returned (.agg (Gx v s.ow pv).toArray)/\Ad w' v ob s.ps/\OwnAt w' s.ow pv pb/\(∀g,ob=some g->w.heap.size<=g)/\(∀i,i<8->∀g,pb i=some g->w.heap.size<=g)/\Below w.heap.size w w'
theorem WQ(v:Value)(ob:Option Nat)(l:List Pr)(o:Nat->Ow)(pv:Nat->Value)(pb:Nat->Option Nat)(w:World)(h:Ad w v ob l)(h2:OwnAt w o pv pb)(hs:l.length<=1000)(hS:Small o) :Calls prog 57 #[.agg (Gx v o pv).toArray] w (rD ⟨l,o⟩ w):=by
 obtain⟨V,X,n,m⟩:=bY (λW (h:Ad W v ob l)=>F5 v ob l W h hs) (λW (h:OwnAt W o pv pb)=>(show Calls prog 96 #[.agg (BH o pv).toArray,AA 0,AA 0,.agg #[AA 0,.bool false,AU,AA 0,AL]] W (Tu o W) from qf o pv pb 0 0 Rep.zero AL none W h (Ad.nil W) BJ hS (by simp[Rep.zero]))) h h2;have ad:∀pv,(BH o pv).length=48:=λ_=>rfl;have ae:=λP pv=>Yq P o pv;obtain⟨pp,pn,pc,rfl⟩:=h.CZ;clear h h2;go_in;go_upto_region 1 with(fail);go_name_world W G;obtain⟨p,q,H,ab⟩:=bF 66 (Gx (.slice pp pn pc) o pv) 66 (Gx AL (λ_=>Ow.zero) (λ_=>AL)) G;clear G;have a:=qh (Base.start w);obtain⟨a,n,m⟩:=D5 H a n m;have D:w.heap.size+1<W.heap.size:=BJ
 clear H ab;have Q:w.heap.size≠w.heap.size+1:=BJ
 generalize ah:w.heap.size+1=gz at q Q D |-;have R:w.heap.size<=gz:=BJ
 generalize u:w.heap.size=B at p a Q R |-;have s:=λ(w':World) (h:Below W.drew.heap.size W.drew w')=>(((p.bel (AY _ W)).bel h).CB 1 (cs:=BH o pv) (λj v hv=>by rw[Nat.add_comm];exact hv));have s:=qh s;have E:B<=W.drew.heap.size:=a.le;have ac:gz<W.drew.heap.size:=D;clear D;obtain⟨p,q,a,n,m⟩:=Gj (AY _ W) p q a n m;refine Ed [8] 9 (λhSn=>?_);generalize W.drew=T at p q a n m s E ac hSn |-;simp only[List.replicate];refine CW 0 ?_;refine BO 1 [2,6,7,8] (λw x=>Am (p.bel x) 0) ?_;refine CW 3 ?_;refine JL 4 [6,7,8] (some 7) (.agg (BH o pv).toArray) rfl (yieldsIf_load_mid (by rfl) 64 _ rfl B 1 rfl (BH o pv) _ (λw x=>s.o w x) underlying64 rfl (by as_aux_lemma=>kernel_rfl)) hSn ?rg4;simp only[Act.put,zA,zB,zC];refine CW 5 ?_;refine BN 2 rfl (λK b=>?_);go_simp;refine(V.o _ (n.bel hSn)).mono ?_;rintro e w2 ⟨v2,t,rfl,A,I,c⟩;have hSn:=AO hSn c;obtain⟨p2,n2,Y,rfl⟩:=A.CZ;have f:=qh A;try have d:=qh (d.bel c)
 have af:=hSn.size;have L:∀g,t=some g->T.heap.size<=g:=λg h=>by have:=I g h;omega
 clear A I;clear c;refine BR b ?_;clear b;refine BN 6 rfl (λK b=>?_);go_simp;refine(X.o _ (m.bel hSn)).mono ?_;rintro e w3 ⟨S,F,rfl,O,J,c⟩;have hSn:=AO hSn c;have d:=qh O;try have f:=qh (f.bel c)
 have ag:=hSn.size;have M:∀i,i<8->∀g,F i=some g->T.heap.size<=g:=λi r g h=>by have:=J i r g h;omega
 clear O J;clear c;refine BR b ?_;clear b;refine CW 7 ?_;refine BN 8 rfl (λK b=>?_);refine tB (Gx (.slice p2 n2 Y) o S) (q.bel hSn) ?_ (NP f.CZ d.sl);intro w5 N C;refine BR b ?_;clear b;refine BA ?_;obtain⟨a,U⟩:=WZ ((a.bel hSn).touch C R) N.Af;have z:Mv (λk=>k=gz) _ w5:=Mv.AZ C rfl;obtain⟨f,d⟩:=WZ (f.mv z (λk y=>by have:=L k y;omega)) (d.mv z (λi r k y=>by have:=M i r k y;omega));have Z:∀g,t=some g->B<=g:=λg h=>Nat.le_trans E (L g h);have aa:∀i,i<8->∀g,F i=some g->B<=g:=λi r g h=>Nat.le_trans E (M i r g h);clear N C z;go_wp2_with fail;refine bC U.o ?_;exact⟨_,t,S,F,rfl,f.o,d.o,u▸Z,u▸aa,u▸a.below⟩
end Go.Proofs.YtimdpiifpibgfaaGreatDoor
