/- A part of the proof of TopReads. -/
import Derived.Test.YtimdpiifpibgfaaGreatDoorQr32
set_option linter.all false
set_option maxRecDepth 20000
set_option maxHeartbeats 16000000
open Go.RowKit Go.Maps
namespace Go.Proofs.YtimdpiifpibgfaaGreatDoor
open Tryz
section
theorem sF(k:Kn):k.UM=k.IW->False:=λh=>by injection h with _ _ h;simp[cellL] at h
open Rz (zn zN zp zK)
section
variable [Rz]
def xQ(k:Kn):Prop:=∃j,j<zN/\k=zK j
theorem sG{p:Nat->Pz}{d:Nat->Int}{L:List A7}(hL:Nh p L)(hc:∀j,j<zN->Dc d j=true->isC (p j)=true):∀e∈L,qA xQ d e:=λe f=>by
 obtain⟨j,b,a⟩:=(hL e).1 f;obtain⟨g,h⟩:=EG a;by_cases c:(zK j).I.sl<=d (zK j).m
 .exact .inl ⟨zK j,⟨j,b,rfl⟩,g,h,c⟩
 .cases hp:p j<;>rw[hp] at a<;>simp only[JQ,Option.some.injEq] at a
  .cases a
  .exact .inr (.inl ⟨zK j,a.symm,BJ⟩)
  .exact .inr (.inl ⟨zK j,a.symm,BJ⟩)
  .exact .inr (.inr ⟨zK j,⟨j,b,rfl⟩,a.symm,BJ⟩)
theorem YP{p:Nat->Pz}{L:List A7}(hL:Nh p L){j:Nat}(hj:j<zN):(zK j).IW∈L ↔ isC (p j)=true:=by
 constructor
 .intro h;obtain⟨i,f,a⟩:=(hL _).1 h;obtain⟨d,c⟩:=EG a;have d:((zK j).m:Int)=(zK i).m:=d;have c:(zK j).I.sl=(zK i).I.sl:=c;obtain rfl:j=i:=Gv hj f BJ c;cases b:p j<;>rw[b] at a<;>simp only[JQ,Option.some.injEq] at a<;>first|rfl|(cases a;done)|(exfalso;exact sF (zK j) a)
 .intro h;refine(hL _).2 ⟨j,hj,?_⟩;cases b:p j<;>rw[b] at h<;>first|(cases h;done)|rfl
structure RV(p:Nat->Pz)(d:Nat->Int):Prop where
 nn:∀r,0<=d r
 com:∀j,j<zN->Dc d j=true->isC (p j)=true
 hi:∀r,0<d r->∃j,j<zN/\(zK j).m=r/\(zK j).I.sl=d r
theorem Ko.pre{p p':Nat->Pz}{d:Nat->Int}(h:Ko p d)(hp:∀j,isC (p j)=true->isC (p' j)=true):RV p' d:=⟨h.nn,λj b a=>hp j (h.com j b a),h.hi⟩
structure IQ(p:Nat->Pz)(d d':Nat->Int)(kl ks:List Kn):Prop where
 inv:Hm kl d d' ks
 rt:∀r,r<7->I7 kl d' r=none
 sub:∀k∈kl,∃j,j<zN/\k=zK j/\isC (p j)=true/\d k.m<k.I.sl
 all:∀j,j<zN->isC (p j)=true->d (zK j).m<(zK j).I.sl->zK j∈kl
theorem IQ.ok{p:Nat->Pz}{d d':Nat->Int}{kl ks:List Kn}(h:IQ p d d' kl ks)(hd:RV p d):Ko p d':=by
 have q:=h.inv.le;refine⟨λr=>Int.le_trans (hd.nn r) (q r),λj n s=>?_,λj n f=>?_,λr v=>?_⟩
 .rw[Vh] at s;by_cases g:(zK j).I.sl<=d (zK j).m
  .exact hd.com j n (Vh.2 g)
  .obtain⟨k,hk,hm,f⟩:=h.inv.all (zK j).m (zK j).I.sl BJ s;obtain⟨i,o,rfl,l,_⟩:=h.sub k (h.inv.sub k hk).1;obtain rfl:i=j:=Gv o n hm f;exact l
 .cases l:isC (p j) with
  | false=>rfl
  | true=>
   have t:(zK j).m<7:=by have g:(zK j).m<zn:=Rz.m j;have u:zn=3\/zn=5\/zn=7:=Rz.n7;omega
   have:=q (zK j).m;exact absurd ⟨rfl,f⟩ (Qo (h.rt _ t) _ (h.all j n l BJ))
 .by_cases g:d r<d' r
  .obtain⟨k,hk,hm,f⟩:=h.inv.all r (d' r) g (Int.le_refl _);obtain⟨i,o,rfl,l,_⟩:=h.sub k (h.inv.sub k hk).1;exact⟨i,o,hm,f⟩
  .have:=q r;obtain⟨j,a,b,c⟩:=hd.hi r BJ;exact⟨j,a,b,BJ⟩
theorem IQ.done{p:Nat->Pz}{d d':Nat->Int}{kl ks:List Kn}(h:IQ p d d' kl ks){j:Nat}(hj:j<zN):Dc d' j=true ↔ Dc d j=true\/zK j∈ks:=by
 have l:=h.inv.le (zK j).m;constructor
 .intro hd;by_cases b:Dc d j=true
  .exact .inl b
  .rw[Vh] at hd b;obtain⟨k,a,f,g⟩:=h.inv.all (zK j).m (zK j).I.sl BJ hd;obtain⟨i,c,rfl,_⟩:=h.sub k (h.inv.sub k a).1;obtain rfl:i=j:=Gv c hj f g;exact .inr a
 .rintro(hd|a)
  .rw[Vh] at hd |-;omega
  .rw[Vh];exact(h.inv.sub _ a).2.2
theorem uC{p:Nat->Pz}{d d':Nat->Int}{kl ks:List Kn}(h:IQ p d d' kl ks)(hg:∀j,j<zN->isC (p j)=true->(zK j).I.sl<=d (zK j).m+1)(r:Nat):PU kl d' r=false:=by unfold PU;rw[List.any_eq_false];intro k g a;obtain⟨i,f,rfl,c,_⟩:=h.sub k g;simp only[Bool.and_eq_true,beq_iff_eq,decide_eq_true_eq] at a;have l:=hg i f c;have n:=h.inv.le (zK i).m;have b:=a.2;rw[<-a.1] at b;omega
theorem wE{p:Nat->Pz}{d:Nat->Int}{kl:List Kn}(hsub:∀k∈kl,∃j,j<zN/\k=zK j/\isC (p j)=true)(h0:∀r,0<=d r)(hr:Ij p d):Tt kl d:=λk g=>by obtain⟨j,a,rfl,b⟩:=hsub k g;exact kQ h0 a λi c f=>hr j a (Gn b) i c f
def Yj:Nat->List Pr
 | 0=>[]
 | j+1=>(Dy (Yj j) (zK j).c).1
def Js(j:Nat):Rep:=(Dy (Yj j) (zK j).c).2
def psT(D:Nat->Bool):Nat->List Pr
 | 0=>[]
 | j+1=>if D j then (Dy (psT D j) (zK j).c).1 else psT D j
def kC(D:Nat->Bool)(i:Nat):Nat->Ow
 | 0=>Ow.zero
 | j+1=>if D j=true/\cK (zK j).c=i then ⟨(zK j).c.s,Js j⟩ else kC D i j
def MC(D:Nat->Bool):St:=⟨psT D zN,λi=>kC D i zN⟩
theorem Qn{D D':Nat->Bool}:∀J,(∀j,j<J->D j=D' j)->psT D J=psT D' J
 | 0,_=>rfl
 | J+1,h=>by show (if D J then _ else _)=(if D' J then _ else _);rw[h J (Nat.lt_succ_self _),Qn J λj hj=>h j BJ]
theorem Qe{D D':Nat->Bool}{i:Nat}:∀J,(∀j,j<J->cK (zK j).c=i->D j=D' j)->kC D i J=kC D' i J
 | 0,_=>rfl
 | J+1,h=>by
  show (if D J=true/\_ then _ else _)=(if D' J=true/\_ then _ else _);rw[Qe J λj hj=>h j BJ];by_cases e:cK (zK J).c=i
  .rw[h J (Nat.lt_succ_self _) e]
  .rw[if_neg (λh=>e h.2),if_neg (λh=>e h.2)]
theorem Qz{D D':Nat->Bool}(h:∀j,j<zN->D j=D' j):MC D=MC D':=by
 unfold MC;rw[Qn zN h]
 congr 1
 funext i
 exact Qe zN λj a _=>h j a
theorem QG{l:List Pr}{c:Cm}(h:c.k=1):(Dy l c).1=l:=by unfold Dy;rw[if_pos h]
theorem OH{D:Nat->Bool}{a:Nat}:∀J,J<=zN->a<=J->(∀j,a<=j->j<J->D j=true->zp<=j)->psT D J=psT D a
 | 0,_,h,_=>by rw[Nat.le_zero.1 h]
 | J+1,hJ,h,hg=>by
  by_cases e:a=J+1
  .rw[e]
  .have ih:=OH J BJ BJ λj b d c=>hg j b BJ c;show (if D J then _ else _)=_;split
   .rename_i hD;rw[QG (Rz.get J (hg J BJ BJ hD) BJ),ih]
   .exact ih
theorem Uh{D:Nat->Bool}:∀J,J<=zN->(∀j,j<J->j<zp->D j=true)->psT D J=Yj J
 | 0,_,_=>rfl
 | J+1,hJ,h=>by
  have ih:=Uh J BJ λj b=>h j BJ;show (if D J then _ else _)=_;rw[ih];split
  .rfl
  .rename_i hD;by_cases a:J<zp
   .exact absurd (h J BJ a) hD
   .exact(QG (Rz.get J BJ BJ)).symm
def Nl(D:Nat->Bool)(j:Nat):Nat->Bool:=λi=>if i=j then true else D i
theorem Np(D:Nat->Bool)(j:Nat):Nl D j j=true:=if_pos rfl
theorem FY{D:Nat->Bool}{i j:Nat}(h:i≠j):Nl D j i=D i:=if_neg h
theorem Kt{i j:Nat}(hi:i<zN)(hj:j<zN)(hij:i≠j)(h:cK (zK i).c=cK (zK j).c):i<zp/\j<zp:=by
 by_cases a:i<zp
 .refine⟨a,?_⟩;refine Decidable.byContradiction λb=>?_;rw[(Rz.ck0 i a).1,(Rz.ck1 j (by show zp<=j;omega) hj).1] at h;omega
 .rw[(Rz.ck1 i (by show zp<=i;omega) hi).1] at h;by_cases b:j<zp
  .rw[(Rz.ck0 j b).1] at h;omega
  .rw[(Rz.ck1 j (by show zp<=j;omega) hj).1] at h;have a:¬i<Rz.zp:=a;have b:¬j<Rz.zp:=b;omega
theorem Qg{D:Nat->Bool}{i j:Nat}:∀J,j<J->D j=true->cK (zK j).c=i->(∀x,j<x->x<J->cK (zK x).c=i->D x=false)->kC D i J=⟨(zK j).c.s,Js j⟩
 | J+1,hj,hD,hc,h=>by
  show (if D J=true/\_ then _ else _)=_;by_cases e:J=j
  .subst e;rw[if_pos ⟨hD,hc⟩]
  .rw[if_neg (λhx=>by have:=h J BJ BJ hx.2;rw[this] at hx;cases hx.1)];exact Qg J BJ hD hc λx h1 h2=>h x h1 BJ
theorem Vw{D:Nat->Bool}{i:Nat}:∀J,(∀x,x<J->cK (zK x).c=i->D x=false)->kC D i J=Ow.zero
 | 0,_=>rfl
 | J+1,h=>by show (if D J=true/\_ then _ else _)=_;rw[if_neg (λhx=>by have:=h J BJ hx.2;rw[this] at hx;cases hx.1)];exact Vw J λx hx=>h x BJ
theorem Qs{D:Nat->Bool}{j:Nat}(hj:j<zN)(hD:D j=false)(hq:j<zp->∀i,j<i->i<zN->D i=false):(kC D (cK (zK j).c) zN).seq<(zK j).c.s:=by
 have l:1<=(zK j).c.s:=(Rz.c j hj).ss.1;have g:∀J,J<=zN->(kC D (cK (zK j).c) J).seq<(zK j).c.s:=by
  intro J;induction J with
  | zero=>intro _;show (0:Int)<_;omega
  | succ J ih=>
   intro k;show (if D J=true/\_ then _ else _:Ow).seq<_;split
   .rename_i h;show (zK J).c.s<_;have f:J≠j:=λe=>by rw[e,hD] at h;cases h.1
    obtain⟨b,a⟩:=Kt BJ hj f h.2;rw[(Rz.ck0 J b).2,(Rz.ck0 j a).2];have:¬j<J:=λd=>by have:=hq a J d BJ;rw[this] at h;cases h.1
    omega
   .exact ih BJ
 exact g zN Ve
theorem jX{D:Nat->Bool}{j:Nat}(hj:j<zN)(hD:D j=false)(hpre:∀i,i<zp->i<j->D i=true)(hq:j<zp->∀i,j<i->i<zN->D i=false):Ho (MC D) (zK j).c=MC (Nl D j):=by
 have l:psT D zN=Yj j\/(zp<=j/\psT D j=Yj j/\psT D zN=psT D j):=by
  have a:psT D j=Yj j:=Uh j BJ λi f k=>hpre i k f;by_cases p:j<zp
  .left;rw[<-a];exact OH zN Ve BJ λi a b d=>by
    by_cases e:i=j
    .subst e;rw[hD] at d;cases d
    .rw[hq p i BJ b] at d;cases d
  .right;exact⟨BJ,a,OH zN Ve BJ λi a _ _=>BJ⟩
 have q:(Dy (psT D zN) (zK j).c).2=Js j:=by
  rcases l with h|⟨_,a,b⟩
  .rw[h];rfl
  .rw[b,a];rfl
 have a:psT D j=Yj j:=Uh j BJ λi f k=>hpre i k f;have r:=(Rz.c j hj).cc;unfold Ho MC
 congr 1
 .show (Dy (psT D zN) (zK j).c).1=psT (Nl D j) zN;have m:psT (Nl D j) (j+1)=(Dy (psT D j) (zK j).c).1:=by show (if Nl D j j then _ else _)=_;rw[if_pos (Np D j),Qn (D:=Nl D j) (D':=D) j λi f=>FY BJ]
  have g:psT (Nl D j) zN=psT (Nl D j) (j+1):=OH zN Ve BJ λi a b d=>by rw[FY BJ] at d;refine Decidable.byContradiction λs=>?_;rw[hq BJ i BJ b] at d;cases d
  rw[g,m];rcases l with h|⟨_,_,b⟩
  .rw[h,a]
  .rw[b]
 .funext i
  show J5 _ _ _ i=kC (Nl D j) i zN;unfold J5;rw[if_neg BJ];show Gg _ (cK (zK j).c) _ i=_;by_cases e:i=cK (zK j).c
  .subst e;rw[D8,Qg (j:=j) zN hj (Np D j) rfl λx a b d=>?_]
   .exact congrArg _ q
   .rw[FY BJ];obtain⟨_,n⟩:=Kt b hj BJ d;exact hq n x a b
  .rw[Dv _ _ _ _ e];exact Qe zN λx t o=>(FY (λg=>e (by rw[<-o,g]))).symm
end
end
section
open Rz (zn zN zp zK)
section
variable [Rz]
theorem Uo{p:Nat->Pz}{d:Nat->Int}(hr:Ij p d):∀(ks:List Kn) (D:Nat->Bool),(∀j,j<zN->Dc d j=true->D j=true)->ks.Nodup->(∀k∈ks,∃j,j<zN/\k=zK j/\isC (p j)=true/\D j=false)->(∀j,j<zN->D j=true->Jm (p j)=false) ->ks.foldl (λS k=>Ho S k.c) (MC D)=MC (λj=>D j||decide (∃k∈ks,k.m=(zK j).m/\k.I.sl=(zK j).I.sl))
 | [],D,_,_,_,_=>Qz λj _=>Vj
 | k :: ks,D,hD,hn,hs,hf=>by
  obtain⟨j,hj,rfl,hc,hDj⟩:=hs _ (List.mem_cons_self ..);obtain⟨o,q⟩:=List.nodup_cons.1 hn;rw[List.foldl_cons,jX hj hDj (λi a g=>hD i (by have:zp<=8/\zp<=zN:=Rz.hp;omega) (hr j hj (Gn hc) i a g)) (λn i l b=>?_)]
  .rw[Uo hr ks (Nl D j) (λi a h=>?_) q (λk f=>?_) (λi a h=>?_)]
   .refine Qz λi a=>?_;by_cases e:i=j
    .subst e;simp[Np]
    .rw[FY e]
     congr 1
     have:¬((zK j).m=(zK i).m/\(zK j).I.sl=(zK i).I.sl):=λh=>e (Gv a hj h.1.symm h.2.symm);simp[this]
   .by_cases e:i=j
    .rw[e];exact Np D j
    .rw[FY e];exact hD i a h
   .obtain⟨i,a,rfl,h1,h2⟩:=hs k (List.mem_cons_of_mem _ f);have e:i≠j:=λe=>o (by rw[<-e];exact f);exact⟨i,a,rfl,h1,by rw[FY e];exact h2⟩
   .by_cases e:i=j
    .rw[e];exact Gn hc
    .rw[FY e] at h;exact hf i a h
  .cases h:D i with
   | false=>rfl
   | true=>
    have:=hD j hj (hr i b (hf i b h) j n l);rw[hDj] at this;cases this
theorem IQ.st{p:Nat->Pz}{d d':Nat->Int}{kl ks:List Kn}(h:IQ p d d' kl ks)(hd:RV p d)(hr:Ij p d):ks.foldl (λS k=>Ho S k.c) (MC (Dc d))=MC (Dc d'):=by
 rw[Uo hr ks (Dc d) (λ_ _ h=>h) h.inv.nd (λk b=>?_) (λj a l=>Gn (hd.com j a l))]
 .refine Qz λj a=>?_;rw[Bool.eq_iff_iff,Bool.or_eq_true,decide_eq_true_eq,h.done a];refine or_congr Iff.rfl ⟨?_,λb=>⟨_,b,rfl,rfl⟩⟩;rintro⟨k,b,n,o⟩;obtain⟨i,m,rfl,_⟩:=h.sub k (h.inv.sub k b).1;obtain rfl:i=j:=Gv m a n o;exact b
 .obtain⟨h1,h2,_⟩:=h.inv.sub k b;obtain⟨j,a,rfl,g,_⟩:=h.sub k h1;refine⟨j,a,rfl,g,?_⟩;cases f:Dc d j with
  | false=>rfl
  | true=>rw[Vh] at f;omega
theorem IQ.at_{p:Nat->Pz}{d d':Nat->Int}{kl ks:List Kn}(h:IQ p d d' kl ks)(hd:RV p d)(hr:Ij p d)(i:Nat)(hi:i<ks.length) :∃D j,j<zN/\ks[i]=zK j/\(ks.take i).foldl (λS k=>Ho S k.c) (MC (Dc d))=MC D/\((MC D).ow (cK ks[i].c)).seq<ks[i].c.s:=by
 have l:∀k∈ks,∃j,j<zN/\k=zK j/\isC (p j)=true/\Dc d j=false:=λk a=>by
  obtain⟨B,G,_⟩:=h.inv.sub k a;obtain⟨j,b,rfl,t,_⟩:=h.sub k B;refine⟨j,b,rfl,t,?_⟩;cases n:Dc d j with
  | false=>rfl
  | true=>rw[Vh] at n;omega
 obtain⟨j,b,o,t,g⟩:=l _ (List.getElem_mem hi);have z:=h.inv.nd;have C:¬∃k∈ks.take i,k.m=(zK j).m/\k.I.sl=(zK j).I.sl:=by rintro⟨k,a,q,r⟩;obtain⟨x,f,rfl,_⟩:=l k (List.mem_of_mem_take a);obtain rfl:x=j:=Gv f b q r;rw[<-o] at a;obtain⟨y,A,F⟩:=List.mem_take_iff_getElem.1 a;have:=(List.getElem_inj z).1 F;omega
 refine⟨_,j,b,o,Uo hr (ks.take i) (Dc d) (λ_ _ h=>h) (z.sublist (List.take_sublist ..)) (λk a=>l k (List.mem_of_mem_take a)) (λj b g=>Gn (hd.com j b g)),?_⟩;rw[o];refine Qs b (by simp[g];simpa using C) λv x w f=>?_;have u:Dc d x=false/\¬∃k∈ks.take i,k.m=(zK x).m/\k.I.sl=(zK x).I.sl:=by
  constructor
  .cases n:Dc d x with
   | false=>rfl
   | true=>
    have:=hr x f (Gn (hd.com x f n)) j v w;rw[g] at this;cases this
  .rintro⟨k,a,q,r⟩;obtain⟨y,A,rfl,E,_⟩:=l k (List.mem_of_mem_take a);obtain rfl:y=x:=Gv A f q r;have:=hr y f (Gn E) j v w;rw[g] at this;cases this
 simp[u.1];simpa using u.2
def CQ(p:Nat->Pz)(d:Nat->Int)(me:Nat):List Nat:=(List.range zN).filter λj=>(zK j).m==me&&!Jm (p j)&&!Dc d j
theorem L8{p:Nat->Pz}{d:Nat->Int}{me j:Nat}:j∈CQ p d me ↔ j<zN/\(zK j).m=me/\Jm (p j)=false/\Dc d j=false:=by unfold CQ;rw[List.mem_filter,List.mem_range];simp[and_assoc]
theorem aY{p p':Nat->Pz}{d d':Nat->Int}{me:Nat}(h:∀j,j<zN->(zK j).m=me->Jm (p' j)=Jm (p j)/\Dc d' j=Dc d j):CQ p' d' me=CQ p d me:=by
 unfold CQ;refine List.filter_congr λj b=>?_;by_cases a:(zK j).m=me
 .obtain⟨h1,h2⟩:=h j (List.mem_range.1 b) a;rw[h1,h2]
 .have:((zK j).m==me)=false:=by simpa using a
  rw[this]
  rfl
theorem aZ{p:Nat->Pz}{d d':Nat->Int}{me:Nat}(h:∀r,d r<=d' r):CQ p d' me=(CQ p d me).filter λj=>!Dc d' j:=by
 unfold CQ;rw[List.filter_filter];refine List.filter_congr λj f=>?_;have:Dc d' j=false->Dc d j=false:=λb=>by
  cases a:Dc d j with
  | false=>rfl
  | true=>
   rw[Vh] at a;have:=Vh.2 (Int.le_trans a (h _));rw[b] at this;cases this
 cases c:Dc d' j<;>simp[this,c]
theorem range_split{j:Nat}(hj:j<zN):List.range zN=List.range j++j :: (List.range (zN - (j+1))).map (·+(j+1)):=by obtain⟨b,h⟩:∃b,zN=j+(1+b):=⟨zN - (j+1),BJ⟩;rw[show zN - (j+1)=b by omega,h,List.range_add,List.range_add];simp[Function.comp_def,Nat.add_comm,Nat.add_left_comm]
theorem ji{p:Nat->Pz}{d:Nat->Int}{me j:Nat}{A:List Nat}(hj:j<zN)(hm:(zK j).m=me)(hnew:∀i,j<=i->i<zN->Jm (p i)=true)(hd:Dc d j=false):CQ (CE p j (.lead A)) d me=CQ p d me++[j]:=by
 unfold CQ;rw[range_split hj,List.filter_append,List.filter_append,List.filter_cons,List.filter_cons];have g:(List.range j).filter (λc=>(zK c).m==me&&!Jm (CE p j (.lead A) c)&&!Dc d c)=(List.range j).filter (λj=>(zK j).m==me&&!Jm (p j)&&!Dc d j):=
  List.filter_congr λi b=>by rw[Bi (by have:=List.mem_range.1 b;omega)]
 have f:∀q:Nat->Pz,(∀i,j<i->i<zN->Jm (q i)=true)->((List.range (zN - (j+1))).map (·+(j+1))).filter (λi=>(zK i).m==me&&!Jm (q i)&&!Dc d i)=[]:=λq l=>by rw[List.filter_eq_nil_iff];intro i b;obtain⟨x,n,rfl⟩:=List.mem_map.1 b;rw[List.mem_range] at n;simp[l (x+(j+1)) BJ BJ]
 rw[g,f _ (λi h a=>by rw[Bi BJ];exact hnew i BJ a),f _ (λi h a=>hnew i BJ a)];have k:=hnew j Ve hj;simp[DU,hm,hd,k]
 rfl
end
end
section
open Rz (zn zN zp zK)
section
variable [Rz]
structure Mz where
 J:Nat
 P:Nat->Nat->Pz
 D:Nat->Nat->Int
 lets:List Lz
 dv:Nat->Nat->Int
structure JC(s:Mz):Prop where
 hJ:s.J<=zN
 inv:∀j,j<s.J->Kr zn (zK j).m j (λr=>s.P r j) s.lets
 new:∀j,s.J<=j->j<zN->∀r,r<zn->s.P r j=.fresh
 lts:∀m∈s.lets,m.j<s.J\/(m.j=zN/\(m.k=9\/m.k=11)/\m.f<zn/\m.t<zn/\m.f≠m.t)
 dok:∀r,r<zn->Ko (s.P r) (s.D r)
 rdy:∀j,j<s.J->∀i,i<zp->i<j->∀r,r<zn->Dc (s.D r) i=true
 dvs:∀m∈s.lets,m.k=11->∀r,0<=s.dv m.f r/\s.dv m.f r<=s.D m.t r
def qo(o:Nat)(p:Pz)(m:Lz):Prop:=m.f<zn/\m.t<zn/\m.f≠m.t /\
 ((m.k=1/\m.f=o/\(p=.fresh\/p=.com))\/(m.k=2/\m.t=o/\((∃A,p=.lead A/\A.length+2<zn/\m.f∉A)\/p=.com))\/(m.k=5/\(p=.fresh\/p=.pre\/p=.com)/\(m.t=o->p=.com)))
theorem Kr.letter{o j:Nat}{P:Nat->Pz}{lets:List Lz}(h:Kr zn o j P lets){m:Lz}(hm:m∈lets)(hj:m.j=j):qo o (P m.t) m:=by
 have p:=h.on;obtain⟨s,q,i,r⟩:=m;simp only at hj;subst hj;have u:1<=lets.count ⟨s,q,i,r⟩:=List.count_pos_iff.2 hm;rcases h.wf _ hm rfl with⟨l,k,c,b⟩|⟨l,k,c,b⟩|⟨l,⟨k,c,b⟩|⟨k,c,b⟩⟩;all_goals simp only at l k c b;subst l;subst k
 .refine⟨p,c,λe=>b e.symm,.inl ⟨rfl,rfl,?_⟩⟩;rcases h.row with⟨A,f,n,d⟩|⟨f,d⟩
  .obtain⟨_,_,a⟩:=d i c b;rcases a with⟨a,_⟩|⟨_,g,_⟩|⟨_,g,_⟩
   .exact .inl a
   .omega
   .omega
  .rcases d i c b with⟨a,_⟩|⟨_,g,_⟩|⟨a,_⟩
   .exact .inl a
   .omega
   .exact .inr a
 .refine⟨c,p,b,.inr (.inl ⟨rfl,rfl,?_⟩)⟩;rcases h.row with⟨A,f,n,d⟩|⟨f,d⟩
  .obtain⟨_,_,a⟩:=d q c b;rcases a with⟨_,_,g,_⟩|⟨_,_,_,g⟩|⟨_,_,g,_⟩
   .omega
   .exact .inl ⟨A,f,n,g⟩
   .omega
  .exact .inr f
 .refine⟨p,c,λe=>b e.symm,.inr (.inr ⟨rfl,?_,λe=>absurd e b⟩)⟩;rcases h.row with⟨A,f,n,d⟩|⟨f,d⟩
  .obtain⟨a,_⟩:=d i c b;omega
  .rcases d i c b with⟨a,_⟩|⟨a,_⟩|⟨a,_⟩
   .exact .inl a
   .exact .inr (.inl a)
   .exact .inr (.inr a)
 .have hcm:P i=.com:=by
   rcases h.row with⟨A,f,n,d⟩|⟨f,d⟩
   .obtain⟨_,a,_⟩:=d q c b;omega
   .exact f
  exact⟨c,p,b,.inr (.inr ⟨rfl,.inr (.inr hcm),λ_=>hcm⟩)⟩
theorem Xz(n:Nat)(p:Pz)(m x:Lz)(hx:x∈(DJ n p m).2):x.k=2\/x.k=5:=by
 obtain⟨k,f,t,j⟩:=m;unfold DJ at hx;split at hx
 .cases p<;>simp at hx<;>rw[hx]<;>simp
 .split at hx
  .cases p with
   | lead A=>
    simp only at hx;split at hx
    .simp at hx
    .exact .inr (L6.1 hx).1
   | _=>simp at hx
  .split at hx
   .cases p<;>simp at hx
   .simp at hx
def Mz.give(s:Mz)(k:Nat)(m:Lz)(d':Nat->Int):Mz:=
 ⟨s.J,λr=>if r=m.t then CE (s.P m.t) m.j (DJ zn (s.P m.t m.j) m).1 else s.P r,λr=>if r=m.t then d' else s.D r,s.lets.eraseIdx k++(DJ zn (s.P m.t m.j) m).2,s.dv⟩
theorem JC.oD{s:Mz}(h:JC s){r:Nat}(hr:r<zn):Ij (s.P r) (s.D r):=λj f a i c d=>by
 by_cases b:j<s.J
 .exact h.rdy j b i c d r hr
 .rw[h.new j BJ f r hr] at a;cases a
theorem JC.xN{s:Mz}(h:JC s){m:Lz}(hm:m∈s.lets)(hj:m.j<s.J):qo (zK m.j).m (s.P m.t m.j) m:=(h.inv m.j hj).letter hm rfl
theorem YO{d d':Nat->Int}(h:∀r,d r<=d' r){j:Nat}(hd:Dc d j=true):Dc d' j=true:=by rw[Vh] at hd |-;exact Int.le_trans hd (h _)
theorem JC.give{s:Mz}(h:JC s)(k:Nat)(hk:k<s.lets.length)(hj:s.lets[k].j<s.J)(d':Nat->Int)(hd:Ko (CE (s.P s.lets[k].t) s.lets[k].j (DJ zn (s.P s.lets[k].t s.lets[k].j) s.lets[k]).1) d')(hle:∀r,s.D s.lets[k].t r<=d' r):JC (s.give k s.lets[k] d'):=by
 have v:=h.xN (List.getElem_mem hk) hj;have m:∀x∈s.lets.eraseIdx k,x∈s.lets:=λx c=>(List.eraseIdx_sublist ..).mem c;have p:=Yr zn (s.P s.lets[k].t s.lets[k].j) s.lets[k];have q:=Xz zn (s.P s.lets[k].t s.lets[k].j) s.lets[k];have g:∀r x,s.D r x<=(s.give k s.lets[k] d').D r x:=λr x=>by
  show _<=(if r=s.lets[k].t then d' else s.D r) x;split
  .rename_i e;subst e;exact hle x
  .exact Int.le_refl _
 refine⟨h.hJ,λj d=>?_,λj d l r f=>?_,λx c=>?_,λr f=>?_,λj d i n o r f=>YO (g r) (h.rdy j d i n o r f),λx c u r=>?_⟩
 .by_cases e:s.lets[k].j=j
  .have:=(h.inv j d).give k hk e;subst e;refine this.keep (λr f=>?_) (λ_ _ _=>rfl);show (if r=s.lets[k].t then CE _ _ _ else s.P r) s.lets[k].j=JK _ _ _ r;unfold JK;split
   .exact DU _ _ _
   .rfl
  .have:=(h.inv j d).other k hk e (s.P s.lets[k].t s.lets[k].j);refine this.keep (λr f=>?_) (λ_ _ _=>rfl);show (if r=s.lets[k].t then CE _ _ _ else s.P r) j=s.P r j;split
   .rename_i e2;subst e2;exact Bi (Ne.symm e)
   .rfl
 .show (if r=s.lets[k].t then CE _ _ _ else s.P r) j=_;have d:s.J<=j:=d;split
  .rename_i e;subst e;rw[Bi BJ];exact h.new j d l _ f
  .exact h.new j d l r f
 .rcases List.mem_append.1 c with c|c
  .exact h.lts x (m x c)
  .exact .inl (by rw[p x c];exact hj)
 .show Ko (if r=s.lets[k].t then _ else s.P r) (if r=s.lets[k].t then d' else s.D r);split
  .exact hd
  .exact h.dok r f
 .rcases List.mem_append.1 c with c|c
  .obtain⟨a,b⟩:=h.dvs x (m x c) u r;exact⟨a,Int.le_trans b (g _ _)⟩
  .rcases q x c with h2|h2<;>omega
theorem JC.skip{s:Mz}(h:JC s)(k:Nat)(hk:k<s.lets.length)(hj:¬s.lets[k].j<s.J):JC { s with lets:=s.lets.eraseIdx k }:=by have g:∀x∈s.lets.eraseIdx k,x∈s.lets:=λx d=>(List.eraseIdx_sublist ..).mem d;refine⟨h.hJ,λj f=>?_,h.new,λx d=>h.lts x (g x d),h.dok,h.rdy,λx d=>h.dvs x (g x d)⟩;have e:s.lets[k].j≠j:=λe=>hj (by rw[e];exact f);refine(h.inv j f).keep (λ_ _=>rfl) λa b c=>?_;have l:=Lm (x:=⟨a,b,c,j⟩) s.lets k hk;rw[if_neg (λi=>e (by rw[i]))] at l;show (s.lets.eraseIdx k).count _=_;omega
def Mz.call(s:Mz):Mz:=⟨s.J+1,λr=>if r=(zK s.J).m then CE (s.P r) s.J (.lead []) else s.P r,s.D,s.lets++DF zn (zK s.J).m s.J,s.dv⟩
theorem JC.call{s:Mz}(h:JC s)(hJ:s.J<zN)(hr:∀i,i<zp->i<s.J->∀r,r<zn->Dc (s.D r) i=true):JC s.call:=by
 have k:(zK s.J).m<zn:=Rz.m s.J;have y:zn=3\/zn=5\/zn=7:=Rz.n7;have v:∀m∈s.lets,m.j≠s.J:=λm k e=>by rcases h.lts m k with l|l<;>omega
 have n:∀r j,j≠s.J->s.call.P r j=s.P r j:=λr j e=>by
  show (if r=(zK s.J).m then CE (s.P r) s.J (.lead []) else s.P r) j=_;split
  .exact Bi e
  .rfl
 refine⟨hJ,λj f=>?_,λj f u r hr=>?_,λx d=>?_,λr g=>(h.dok r g).MH λj f=>?_,λj f i p t r g=>?_,λx d o r=>?_⟩
 .by_cases e:j=s.J
  .subst e;refine Kr.begin BJ k v ?_ λr hr w=>?_
   .show (if _ then _ else _:Nat->Pz) _=_;rw[if_pos rfl];exact DU _ _ _
   .show (if _ then _ else _:Nat->Pz) _=_;rw[if_neg w];exact h.new s.J Ve hJ r hr
  .have f:j<s.J+1:=f;refine(h.inv j BJ).keep (λr hr=>n r j e) λa b c=>?_;show (s.lets++DF zn (zK s.J).m s.J).count _=_;have z:=Ip (j:=j) (out:=DF zn (zK s.J).m s.J) (λm k=>by rw[(I4.1 k).2.2.1];exact λq=>e q.symm) a b c;rw[List.count_append];omega
 .have f:s.J+1<=j:=f;rw[n r j BJ];exact h.new j BJ u r hr
 .show _<s.J+1\/_;rcases List.mem_append.1 d with d|d
  .rcases h.lts x d with l|l
   .exact .inl BJ
   .exact .inr l
  .exact .inl (by rw[(I4.1 d).2.2.1];omega)
 .by_cases e:j=s.J
  .subst e;show isC ((if _ then _ else _:Nat->Pz) _)=_;rw[h.new s.J Ve hJ r g];split
   .rw[DU];rfl
   .rw[h.new s.J Ve hJ r g]
  .rw[n r j e]
 .have f:j<s.J+1:=f;by_cases e:j=s.J
  .exact hr i p BJ r g
  .exact h.rdy j BJ i p t r g
 .rcases List.mem_append.1 d with d|d
  .exact h.dvs x d o r
  .rw[(I4.1 d).1] at o;cases o
theorem JC.last{s:Mz}(h:JC s)(hl:s.lets=[]){j:Nat}(hj:j<s.J){r:Nat}(hr:r<zn):isC (s.P r j)=true/\Dc (s.D r) j=true:=by
 have b:∀j,j<s.J->isC (s.P r j)=true:=λj hj=>by
  have a:=h.inv j hj;rw[hl] at a;rw[a.last r hr]
  rfl
 exact⟨b j hj,(h.dok r hr).all h.hJ b hj⟩
def Pi(s:Mz):Nat->Nat
 | 0=>0
 | j+1=>Pi s j+UZ zn (s.P (zK j).m j)
def Mz.wt(s:Mz):Nat:=Ii s.lets+Pi s s.J
theorem Nz{s s':Mz}{i:Nat}:∀J,(∀j,j<J->j≠i->s'.P (zK j).m j=s.P (zK j).m j)->(J<=i->Pi s' J=Pi s J)/\(i<J->Pi s' J+UZ zn (s.P (zK i).m i)=Pi s J+UZ zn (s'.P (zK i).m i))
 | 0,_=>⟨λ_=>rfl,λh=>absurd h BJ⟩
 | J+1,h=>by
  obtain⟨h1,h2⟩:=Nz J λj b=>h j BJ;refine⟨λa=>?_,λa=>?_⟩
  .show Pi s' J+UZ zn (s'.P (zK J).m J)=Pi s J+UZ zn (s.P (zK J).m J);rw[h1 BJ,h J BJ BJ]
  .show Pi s' J+UZ zn (s'.P (zK J).m J)+_=Pi s J+UZ zn (s.P (zK J).m J)+_;by_cases e:J=i
   .subst e;rw[h1 Ve];omega
   .rw[h J BJ e];have:=h2 BJ;omega
theorem JC.less{s:Mz}(h:JC s)(k:Nat)(hk:k<s.lets.length)(hj:s.lets[k].j<s.J)(d':Nat->Int):(s.give k s.lets[k] d').wt<s.wt:=by
 have l:=Ux s.lets k hk;have n:=aT zn (s.P s.lets[k].t s.lets[k].j) s.lets[k];have g:=h.xN (List.getElem_mem hk) hj;have f:∀j,j≠s.lets[k].j->∀r,(s.give k s.lets[k] d').P r j=s.P r j:=λj e r=>by
  show (if r=s.lets[k].t then CE _ _ _ else s.P r) j=_;split
  .rename_i e2;subst e2;exact Bi e
  .rfl
 have a:=(Nz (s:=s) (s':=s.give k s.lets[k] d') (i:=s.lets[k].j) s.J λj _ e=>f j e _).2 hj;have c:(s.give k s.lets[k] d').wt=Ii (s.lets.eraseIdx k)+Ii (DJ zn (s.P s.lets[k].t s.lets[k].j) s.lets[k]).2+Pi (s.give k s.lets[k] d') s.J:=by
  show Ii (_++_)+_=_;rw[Uw]
  rfl
 have d:s.wt=Ii s.lets+Pi s s.J:=rfl;rw[c,d];by_cases b:(zK s.lets[k].j).m=s.lets[k].t
 .rw[b] at a;have:(s.give k s.lets[k] d').P s.lets[k].t s.lets[k].j=(DJ zn (s.P s.lets[k].t s.lets[k].j) s.lets[k]).1:=by show (if _ then CE _ _ _ else s.P _) _=_;rw[if_pos rfl,DU]
  rw[this] at a;omega
 .have:(s.give k s.lets[k] d').P (zK s.lets[k].j).m s.lets[k].j=s.P (zK s.lets[k].j).m s.lets[k].j:=by show (if _ then CE _ _ _ else s.P _) _=_;rw[if_neg b]
  rw[this] at a;have o:UZ zn (s.P s.lets[k].t s.lets[k].j)=0:=by
   rcases g.2.2.2 with⟨_,_,h|h⟩|⟨_,h,_⟩|⟨_,h|h|h,_⟩
   .rw[h];rfl
   .rw[h];rfl
   .exact absurd h.symm b
   .rw[h];rfl
   .rw[h];rfl
   .rw[h];rfl
  omega
theorem jr(s:Mz)(k:Nat)(hk:k<s.lets.length):({ s with lets:=s.lets.eraseIdx k }:Mz).wt<s.wt:=by
 have a:=Ux s.lets k hk;have b:1<=Ii [s.lets[k]]:=by simp[Ii];split<;>omega
 show Ii (s.lets.eraseIdx k)+Pi _ s.J<Ii s.lets+Pi s s.J;have c:=(Nz (s:=s) (s':={ s with lets:=s.lets.eraseIdx k }) (i:=s.J) s.J λ_ _ _=>rfl).1 Ve;omega
theorem pJ(n o j:Nat):Ii (DF n o j)<=2*n:=by
 unfold Ii DF;rw[List.map_map];have h:∀l:List Nat,(l.map ((λm:Lz=>if m.k=1 then 2 else 1) ∘ λr=>(⟨1,o,r,j⟩:Lz))).sum=2*l.length:=λl=>by
  induction l with
  | nil=>rfl
  | cons a l ih=>
   rw[List.map_cons,List.sum_cons,ih,List.length_cons];show 2+2*l.length=_;omega
 rw[h];have:=List.length_filter_le (λr=>r != o) (List.range n);simp only[List.length_range] at this;omega
theorem JC.YJ{s:Mz}(h:JC s)(hJ:s.J<zN):s.call.wt<=s.wt+21:=by
 have g:zn=3\/zn=5\/zn=7:=Rz.n7;have f:=pJ zn (zK s.J).m s.J;have a:=(Nz (s:=s) (s':=s.call) (i:=s.J) s.J λj k e=>by
  show (if _ then CE _ _ _ else s.P _) _=_;split
  .exact Bi e
  .rfl).1 Ve
 have b:s.call.wt=Ii s.lets+Ii (DF zn (zK s.J).m s.J)+(Pi s.call s.J+UZ zn (s.call.P (zK s.J).m s.J)):=by
  show Ii (_++_)+_=_;rw[Uw]
  rfl
 have c:s.call.P (zK s.J).m s.J=.lead []:=by show (if _ then CE _ _ _ else s.P _) _=_;rw[if_pos rfl,DU]
 have d:s.wt=Ii s.lets+Pi s s.J:=rfl;rw[b,a,c,d];show _+_+(_+zn)<=_;omega
theorem MG:∀l:List Lz,l.length<=Ii l
 | []=>Nat.zero_le _
 | m :: l=>by have:=MG l;simp only[Ii,List.map_cons,List.sum_cons,List.length_cons] at this |-;split<;>omega
end
end
section
variable [In]
def P5(F:Ap)(g n me gd mb gw gc gfr:Nat)(P:Value)(o:Nat->Ow)(pv:Nat->Value)(d:Nat->Int)(tk:Int)(waits out ans:Value)(w w':World):Prop:=
 Holds w' g 102 (Ar n me gd gw gc gfr P o pv d d 0 tk waits out ans)/\Dw w' (grow F w w') gd gw mb/\A8 w' gfr 197 n me (NZ me d)/\Mv (λk=>k=g\/k=gfr\/IE w F DZ k) w w'
theorem Qd{x:Fl}{p:Option Addr}{B:Nat}(e:x.p=p)(h:∀a,p=some a->B<=a.block):∀g,x.ob=some g->B<=g:=Fl.Qd λa b=>h a (e▸b)
theorem keep_any(F:Ap)(g n me gd mb gw gc gfr len:Nat)(P:Value)(o:Nat->Ow)(pv:Nat->Value)(d kp:Nat->Int)(since tk:Int)(waits out ans:Value)(v:Value)(W0 w:World) (nd:Holds w g 102 (Ar n me gd gw gc gfr P o pv d kp since tk waits out ans)) (dk:Dw W0 F gd gw mb) (hb0:Below W0.heap.size W0 w) (hv:Au w W0.heap.size v len) (hlen:len<=16000) (h1:1<=len\/v=AL/\len=0) (hmb:mb<=28000) (hf:A8 w gfr 197 n me (NZ me kp)) (hme:me<n) (hle:∀j,kp j<=d j) (hk:∀j,0<=d j/\d j<=1000) :Calls prog 93 #[AP g,v] w λe w'=>e=.returned (.bool true)/\P5 F g n me gd mb gw gc gfr P o pv d tk waits out ans w w':=by
 obtain⟨D,z,B,A,k,a1,M,a3,a4,a5,a6,a7,a8⟩:=dk;have bt:=M.few BJ;have bs:=M.xx;have bi:sizes (B++A)+len<=400000:=by rw[Jw,M.sum];omega
 have bd:(B++A).length<=900:=by rw[List.length_append,M.len];omega
 have aj:∀p c,_:=λp c=>M.keep bt p len c BJ;have al:=(aj none 0).choose_spec.choose_spec.2.2.2.2.2;obtain⟨KA,KS,KR,KH,an,m,t,q⟩:=ed (λW (h:BP W gd D z (B++A)) (hv:Au W W0.heap.size v len)=>YN gd W0.heap.size D z (B++A) JM v len W h hv ⟨a1.d.lt,λg u=>AV.lt a1.f g u⟩ nM bd bi BJ (by rw[al];omega) (h1.imp id λ⟨e,_⟩=>⟨e,al⟩)) (λi D z l W (h:BP W gd D z l) (hi:Az l JM=(i,true))=>qL gd i D z l JM W h hi) (λi D z l W (h:BP W gd D z l) (hi:Az l JM=(i,true)) (hl:l.length<=900)=>lK gd i D z l JM Qc W h hi nJ hl) (λW (h:A8 W gfr 197 n me (NZ me kp))=>vz gfr n me kp d W h hme hle hk) aj (a1.bel hb0) (a4.bel hb0) nd;obtain⟨HV,r⟩:=WZ hv hf.h;have bv:=hf.n7;have E:gd≠g/\gd≠gfr/\gw≠gd/\gfr≠g/\gw≠g/\gw≠gfr:=⟨m.d.ne_of nd Iz,m.d.ne_of hf.h Iz,t.ne_of m.d Iz,hf.h.ne_of nd Iz,t.ne_of nd Iz,t.ne_of hf.h Iz⟩;have br:∀k,z=some k->k≠g/\k≠gfr/\k≠gw:=λk hk=>⟨AV.ne_of m.f nd Iz k hk,AV.ne_of m.f hf.h Iz k hk,AV.ne_of m.f t.o Iz k hk⟩;have s:=qh (Mv.refl (λk=>k=g\/k=gfr\/IE w F DZ k) w);have ai:∀k,(k=gd\/z=some k)->IE w F DZ k:=λk hk=>by
  rcases hk with rfl|hk
  .exact⟨a5,_,_,m.d,Iz⟩
  .refine⟨a7 k hk,?_⟩;rcases AV.cases m.f with⟨_,h0,_⟩|⟨g1,_,_,_,h0,_,_,hh,_⟩
   .rw[h0] at hk;cases hk
   .rw[h0] at hk;cases hk;exact⟨_,_,hh,Iz⟩
 have b2:∀x∈B++A,∀g,x.ob=some g->F g:=a8;obtain⟨b3,b1,rfl⟩:=hv.shape;generalize hQ:P5 F g n me gd mb gw gc gfr P o pv d tk waits out ans w=Q;have HQ:=qh (show ∀w',P5 F g n me gd mb gw gc gfr P o pv d tk waits out ans w w'->Q w' from λw' h=>by rw[<-hQ];exact h);clear nd hv hf hQ aj al bi bd bs h1 a1 a4 hle;go_in;have Z:=Am q.o 2;go_wp2_with fail;refine Ah (KA.o _ m.o HV.o) ?_;rintro w1 ⟨ax,I,J,L,O,be,bh,S⟩;obtain⟨C,bz,e1,H,e3,ad,a0,_⟩:=an.o J L;have bu:∀a,J=some a->w.heap.size<=a.block:=bh;have bf:I=z\/∃g,I=some g/\w.heap.size<=g:=be;have az:∀k,I=some k->IE w F DZ k\/w.heap.size<=k:=λk hk=>by
  rcases bf with e|⟨g',e,h⟩
  .exact .inl (ai k (.inr (e▸hk)))
  .rw[e] at hk;cases hk;exact .inr h
 have ag:∀k,(k=gd\/z=some k)->k≠g/\k≠gfr/\k≠gw:=λk hk=>by
  rcases hk with rfl|hk
  .exact⟨E.1,E.2.1,E.2.2.1.symm⟩
  .exact br k hk
 obtain⟨q,r,t,s⟩:=bY (q.mv S (λh=>(ag _ h).1 rfl)) (r.mv S (λh=>(ag _ h).2.1 rfl)) (t.mv S (λh=>(ag _ h).2.2 rfl)) (s.mv S (λk hk=>.inl (.inr (.inr (ai k hk)))));have ae:∀k,I=some k->k≠g/\k≠gfr/\k≠gw:=λk hk=>⟨AV.ne_of O.f q.o Iz k hk,AV.ne_of O.f r.o Iz k hk,AV.ne_of O.f t.o Iz k hk⟩;have ak:(JS (Fp (B++A) JM J len L) C).length<=900:=by
  have h1:=congrArg List.length e3;have h2:=ad.xx.2;have h3:=ad.len;rw[List.length_append] at h1;unfold ZU G9 at h1;have h4:=(GR (JS (Fp (B++A) JM J len L) C) JM).2;rw[H] at h4;have h4:=h4 rfl;simp only at h4;have h5:=(GR ((JS (Fp (B++A) JM J len L) C).take C++(JS (Fp (B++A) JM J len L) C).drop (C+1)) Qc).1;split at h1
  .rw[List.length_set,List.length_append,List.length_take,List.length_drop] at h1;omega
  .rw[List.length_append,List.length_cons,List.length_take,List.length_drop,List.length_append,List.length_take,List.length_drop] at h1;rw[List.length_append,List.length_take,List.length_drop] at h5;omega
 obtain⟨ah,aa,ab,ap,au,m⟩:=mG e1 H e3 ad a0 O;clear e1 H e3 ad a0 O S Z HV be bh an;generalize Fp (B++A) JM J len L=l1 at ah aa ab m ak;have Z:=Am q.o 2;go_wp2_with fail;refine Ah (KS.o C ax I l1 _ m.o ah.o) ?_;rintro w2 ⟨a9,T⟩;obtain⟨q,r,t,s,m⟩:=dD (q.mv T (λh=>(ae _ h).1 rfl)) (r.mv T (λh=>(ae _ h).2.1 rfl)) (t.mv T (λh=>(ae _ h).2.2 rfl)) (s.mv T (λk hk=>(az k hk).imp (λh=>.inr (.inr h)) id)) a9;clear a9 T Z ah;generalize JS l1 C=l2 at aa ab m ak;have Z:=Am q.o 2;go_wp2_with fail;refine Ah (KR.o C ax I l2 _ m.o aa.o ak) ?_;rintro G ⟨bq,b0,R,bg,U⟩;rw[ab.o] at R;have bw:=s.size;have Y:∀k,(k=gd\/I=some k)->(k≠g/\k≠gfr/\k≠gw)/\(IE w F DZ k\/w.heap.size<=k):=λk hk=>by
  rcases hk with rfl|hk
  .exact⟨⟨E.1,E.2.1,E.2.2.1.symm⟩,.inl (ai _ (.inl rfl))⟩
  .exact⟨ae k hk,az k hk⟩
 obtain⟨q,r,t,s⟩:=bY (q.mv U (λh=>(Y _ h).1.1 rfl)) (r.mv U (λh=>(Y _ h).1.2.1 rfl)) (t.mv U (λh=>(Y _ h).1.2.2 rfl)) (s.mv U (λk hk=>(Y k hk).2.imp (λh=>.inr (.inr h)) id));have m:=qh (show Dw G (grow F w G) gd gw mb from⟨bq,b0,bz,A,k,R,ap.o,a3,t.o,.inl a5,.inl a6,λg u=>by
  have af:=AV.lt R.f g u;rcases bg with e|⟨g',e,h⟩
  .rw[e] at u;rcases bf with H|⟨g',H,h⟩
   .exact .inl (a7 g (H▸u))
   .rw[H] at u;cases u;exact .inr ⟨h,af⟩
  .rw[e] at u;cases u;exact .inr ⟨Nat.le_trans bw h,af⟩,λx hx g u=>by
  have af:=(R.b x hx).lt g u;rcases au.o x hx with⟨y,hy,e⟩|e
  .exact .inl (a8 y hy g (e▸u))
  .exact .inr ⟨Qd e bu g u,af⟩⟩)
 clear R bg U Z aa ab ap au ag Y t KA KS KR;have am:=qh (show G.rangeAt g 55 (Cj d) from q.CB 55 (OD n me gd gw gc gfr P o pv d kp since tk waits out ans));have ay:∀k,k=g->DN G (grow F w G) GN k:=λk hk=>hk▸.inl (.inr ⟨_,_,q.o,Iz⟩);go_upto_region 5 with(first|(refine lM 55 am.o ?_)|(refine sS 62 q.o (Cj d) ?_ (by simp[Cj,Value.oneCell']);intro w4 bb bj;obtain⟨aq,av⟩:=WZ (show Holds w4 g 102 (Ar n me gd gw gc gfr P o pv d d since tk waits out ans) from(Xi n me gd gw gc gfr P o pv d kp since tk waits out ans d)▸bb) bj;clear bb bj)|(refine sC 69 aq.o (AA 0) ?_;intro w5 bc bk;obtain⟨ar,aw⟩:=WZ (show Holds w5 g 102 (Ar n me gd gw gc gfr P o pv d d 0 tk waits out ans) from bc) bk;clear bc bk));have HT:=qh (av.trans aw.o);have V:Mv (λk=>k=g) G w5:=Mv.AZ HT.o rfl;obtain⟨r,m,s⟩:=bP (r.mv V E.2.2.2.1) (m.away V (λk hk _=>ay k hk) (λ_ h=>h)) (s.mv V (λk hk=>.inl (.inl hk)));have bx:=V.size;have q:=ar;clear V HT av aw aq ar am ay;obtain⟨ac,ao⟩:=WZ (show G.heap.size<=w5.drew.heap.size from bx) (λ(w':World) (h:Below w5.drew.heap.size w5.drew w')=>(((q.bel (AY _ w5)).bel h).CB 62 (iw n me gd gw gc gfr P o pv d d 0 tk waits out ans)));obtain⟨q,r,m,s⟩:=En (AY _ w5) q r m s;refine Ed [12] 13 (λhSn=>?_);generalize w5.drew=wd at q r m s ao ac hSn |-;simp only[List.replicate];refine ES 0 ?_;refine BO 3 [12] (λw N=>Am (q.bel N) 5) ?_;refine ES 4 ?_;refine BO 7 [12] (λw N=>Am (q.bel N) 1) ?_;refine ES 8 ?_;refine JL 11 [12] (some 51) (.agg (Cj d).toArray) rfl (yieldsIf_load_mid (by rfl) 41 _ rfl g 62 rfl (Cj d) _ (λw N=>ao.o w N) underlying41 rfl (by as_aux_lemma=>kernel_rfl)) hSn ?rg12;simp only[Act.put,zA,zB,zC];refine BN 12 rfl (λK hK=>?_);go_simp;refine Ah (KH.o _ (A8.mk (r.bel hSn) bv)) ?_;rintro w7 ⟨ba,bl⟩;have X:Mv (λk=>k=gfr) _ w7:=Mv.AZ bl rfl;obtain⟨ac,bn,bp,bm,bo⟩:=dD (show G.heap.size<=w7.heap.size by have:=ac.o;have:=hSn.size;have:=X.size;omega) ba ((q.bel hSn).mv X E.2.2.2.1.symm) ((m.bel hSn).away X (λk hk _=>by subst hk;exact .inl (.inr ⟨_,_,r.bel hSn,Iz⟩)) (λ_ h=>h)) ((s.bel hSn).mv X (λk hk=>.inl (.inr (.inl hk))));clear ba bl X;refine BR hK ?_;clear hK;refine BA ?_;clear hSn q r m s;go_wp2_with fail;go_ret;exact⟨rfl,HQ.o _ ⟨bp.o,bm.foot (λk hk _=>hk.imp id λ⟨a,b⟩=>⟨a,by have:=ac.o;omega⟩),bn.o,bo.o⟩⟩
end
end Go.Proofs.YtimdpiifpibgfaaGreatDoor
