/- A part of the proof of TopReads. -/
import Derived.Test.YtimdpiifpibgfaaGreatDoorQr40
import Derived.Test.YtimdpiifpibgfaaGreatDoorQr10
set_option linter.all false
set_option maxRecDepth 20000
set_option maxHeartbeats 16000000
open Go.RowKit Go.Maps
namespace Go.Proofs.YtimdpiifpibgfaaGreatDoor
open Tryz
section
open Rz (zn zN zp zK)
variable [Rz]
theorem Ko.uniq{p:Nat->Pz}{d d':Nat->Int}(h:Ko p d)(h':Ko p d')(hle:∀r,d r<=d' r):d'=d:=by
 funext r
 refine Int.le_antisymm (Decidable.byContradiction λt=>?_) (hle r);have q:=h.nn r;obtain⟨j,k,l,u⟩:=h'.hi r BJ;obtain⟨i,g,n,o⟩:∃i,i<zN/\(zK i).m=r/\(zK i).I.sl=d r+1:=by
  by_cases e:(zK j).I.sl=d r+1
  .exact⟨j,k,l,e⟩
  .obtain⟨i,a,b,c⟩:=Un k (s:=d r+1) BJ BJ;exact⟨i,BJ,by rw[b,l],c⟩
 have f:=h.cl i g (by rw[n];exact o);rw[h'.com i g (Vh.2 (by rw[n];omega))] at f;cases f
theorem O5{p:Nat->Pz}{d:Nat->Int}{me:Nat}:(CQ p d me).filter (λj=>Dc d j)=[]:=by rw[List.filter_eq_nil_iff];intro j a;rw[(L8.1 a).2.2.2];simp
theorem jC{w w':World}{F:Ap}{g me:Nat}{p:Nat->Pz}{d:Nat->Int}{lt:Int}{wz:Bool}{recs cout:Value}{dv:Nat->Nat->Int}{ol ol':List Lz}{wl al:List Nat}{lim:Nat}{rs:Bool}{gd mb gw gc gfr:Nat}{P:Value}{pv:Nat->Value}{sc tk tk':Int}{kp:Nat->Int}{waits out ans out':Value} (h:Dx w F g me p d lt tk wz recs cout dv ol wl al lim rs gd mb gw gc gfr P pv sc kp waits out ans) (hm:Mv (λk=>k=g) w w') (hn:Holds w' g 102 (Ar zn me gd gw gc gfr P (MC (Dc d)).ow pv d kp sc tk' waits out' ans)) (ho:Fh w' (grow F w w') out' ol'.length (FQ dv ol')) :Dx w' (grow F w w') g me p d lt tk' wz recs cout dv ol' wl al lim rs gd mb gw gc gfr P pv sc kp waits out' ans:=by obtain⟨o,c,i,j,l,m,q,n⟩:=(h.foot (F':=grow F w w') λk a _=>.inl a).part [102] hm (λk a b=>.inl ⟨_,_,a▸h.nd,Vj⟩);exact⟨hn,c Iz,h.lm,i (λk a b=>⟨_,_,a▸h.nd,Vj⟩) Iz,j Iz,l Iz,m Iz,ho,n Iz,⟨.inl h.f.1,.inl h.f.2⟩,h.kp,h.rs⟩
theorem jB(w:World)(F:Ap)(g me:Nat)(p:Nat->Pz)(d:Nat->Int)(lt tk:Int)(wz:Bool)(dv:Nat->Nat->Int)(ol:List Lz)(al:List Nat)(h:CP w F g me p d lt tk wz dv ol al) :∃o a oba an,an.map An.key=al.map (λj=>(cK (zK j).c,(zK j).c.s,Js j))/\Calls prog 54 #[AP g] w λe w'=>e=.returned (.tuple #[o,a])/\Fh w' F o ol.length (FQ dv ol)/\AnsAt w' a oba an/\CP w' F g me p d lt tk wz dv [] []/\F g/\Mv (λk=>k=g) w w':=by
 obtain⟨r,G,u,q,t,P,y,z,v,A,x,n,h⟩:=h
 letI:In:=I0
 obtain⟨_,oba,an,l,B,_⟩:=h.an;refine⟨x,n,oba,an,B,(yD g zn me r u q t P _ y d v z tk A x n w h.nd).mono ?_⟩;rintro e w' ⟨rfl,D,E⟩;have m:Mv (λk=>k=g) w w':=Mv.AZ E rfl;obtain⟨N,H,I,J,K,L,M,O⟩:=h.part [102] m (λk i C=>.inl ⟨_,_,i▸h.nd,Vj⟩);exact⟨rfl,M Iz,l.mv m (l.own.Hw h.nd Iz) (λa b=>AV.Hw (l.ps a b) h.nd Iz),⟨r,G,u,q,t,P,y,z,v,A,_,_,D,H Iz,h.lm,I (λk i C=>⟨_,_,i▸h.nd,Vj⟩) Iz,J Iz,K Iz,L Iz,Fh.nil0 _ _ _,⟨λ_=>rfl,none,[],⟨AV.nil _ _ _,λa b=>(by cases b)⟩,rfl,λk i=>(by cases i),λa b=>(by cases b)⟩,h.f,h.kp,h.rs⟩,h.f.1,m⟩
theorem lI(w:World)(F:Ap)(g me:Nat)(p:Nat->Pz)(d:Nat->Int)(lt tk:Int)(wz:Bool)(dv:Nat->Nat->Int)(ol:List Lz)(wl:List Nat)(lim:Nat)(rs:Bool) (h:EC w F g me p d lt tk wz AL AL dv ol wl [] lim rs) (hlim:lim<=28000) :Calls prog 90 #[AP g] w λe w'=>e=.returned (.bool true)/\G5 F g me p d lt tk wz dv ol wl [] lim rs w w':=by
 obtain⟨l,v,q,b,m,P,A,B,s,C,z,j,h⟩:=h;have U:=h;obtain⟨x,Q,lm,⟨wi,o,S,nl,n,T,ni,L,E,u,ad,xs,ws,c⟩,fr,st,wa,⟨V,y,ou,ac⟩,ae,⟨R,f2⟩,kk,rr⟩:=U;have aa:=c.f.1;have X:∀W,O7 w (grow F w W) b me p lt wz AL AL wi o S nl n T ni L E u ad xs ws:=λW=>by obtain⟨D,G,H,I,⟨q1,q2,q3,q4,q5⟩,J,K,M,N,O⟩:=c;exact⟨D,G,H,I,⟨.inl q1,.inl q2,.inl q3,.inl q4,.inl q5⟩,J,K,M.foot λk a _=>.inl a,N.foot λk a _=>.inl a,O⟩
 refine Ah (nG g zn me l v q b o n m ol.length F u P _ A d s B tk C j z y _ w x Q c.co.hc ou BJ) ?_;rintro w' ⟨hn,Z,Y,ab,i⟩;have r:∀k,(k=g\/k=b\/IE w F DZ k)->k<w.heap.size->∃t L,Holds w k t L/\t∈UL:=by
  rintro k (rfl|rfl|⟨_,t,L,h,ht⟩) _
  .exact⟨_,_,x,Iz⟩
  .exact⟨_,_,c.co.hc,Iz⟩
  .exact⟨_,_,h,Oe _ ht⟩
 refine⟨rfl,⟨l,v,q,b,m,P,A,B,s,C,z,j,(h.foot λk a _=>.inl a).drained i r hn Z lm ((X w').drained i r Y) ⟨V,y,ab,λk a=>.inl (ac k a)⟩⟩,?_⟩;exact i.more (by rintro k (rfl|rfl|h);exact R;exact aa;exact h.1)
theorem I9(w W1:World)(F:Ap)(g me:Nat)(p:Nat->Pz)(d:Nat->Int)(lt tk:Int)(wz:Bool)(dv:Nat->Nat->Int)(ol:List Lz)(hme:me<zn)(h:CP W1 (grow F w W1) g me p d lt tk wz dv ol [])(hm:Mv F w W1)(hD:Ko p d)(hR:Ij p d)(hg:wz=true\/∀i,zp<=i->i<zN->Jm (p i)=true) :Calls prog 53 #[AP g] W1 λe w'=>e=.returned (.tuple #[])/\CP w' (grow F w w') g me p d lt tk wz dv ol []/\Mv F w w':=by have q:=FO p;refine Ah (WL W1 (grow F w W1) g me p d lt tk wz dv ol _ hme (by obtain⟨m,s,o,l,n,P,u,v,r,x,t,j,h⟩:=h;exact h.nd.cell 74) (lI W1 (grow F w W1) g me p d lt tk wz dv ol _ _ true h BJ) BJ (hD.pre λ_ h=>h) hR (UQ hg hR hD.nn)) ?_;rintro w' ⟨k,c,f,a⟩;obtain rfl:=hD.uniq c f;rw[O5] at a;have b:=G5.more hm a;exact⟨rfl,b.1,b.2⟩
theorem wB(g n me f:Nat)(kp:Nat->Int)(w:World)(h:A8 w g 197 n me (NZ me kp))(hf:f<n)(hk:∀j,0<=kp j) :Calls prog 69 #[AP g,AA f,.agg (Cj λ_=>0).toArray] w λe w'=>(∃b,e=.returned (.bool b))/\A8 w' g 197 n me (NZ me kp)/\Touch g w w':=by
 refine Ah (QO g n me (f:Int) (NZ me kp) (λ_=>0) w h) ?_;rintro w' ⟨a,c⟩;refine⟨⟨_,rfl⟩,?_,c⟩;have:FrontP.heard (NZ me kp) n (f:Int) (λ_=>0)=NZ me kp:=by
  unfold FrontP.heard;split
  .rw[Int.toNat_natCast]
   funext q i
   unfold FrontP.hear FrontP.Hr NZ;have d:=hk i;split
   .split
    .show (if kp i<0 then 0 else kp i)=kp i;split<;>omega
    .rfl
   .rfl
  .rfl
 rw[this] at a;exact a
theorem uX{p:Nat->Pz}{d:Nat->Int}(h:Ko p d):sumTo d 7<=15:=by
 have o:zN<=15:=Rz.hN;have a:∀r,d r<=IB (λj=>(zK j).m) zN r:=λr=>by
  by_cases b:0<d r
  .obtain⟨j,hj,hm,f⟩:=h.hi r b;have c:=Rz.sl j hj;have g:=TW (λj=>(zK j).m) r (show j+1<=zN from hj);have i:IB (λj=>(zK j).m) (j+1) r=IB (λj=>(zK j).m) j r+1:=by show _+(if (zK j).m=r then 1 else 0)=_;rw[if_pos hm]
   rw[hm] at c;omega
  .have:=h.nn r;omega
 have f:∀J,IB (λj=>(zK j).m) J 0+IB (λj=>(zK j).m) J 1+IB (λj=>(zK j).m) J 2+IB (λj=>(zK j).m) J 3+IB (λj=>(zK j).m) J 4+IB (λj=>(zK j).m) J 5+IB (λj=>(zK j).m) J 6<=J:=λJ=>by
  induction J with
  | zero=>exact Nat.le_refl _
  | succ J ih=>
   simp only[IB]
   repeat' split
   all_goals omega
 have:=f zN;have b:=a 0;have c:=a 1;have g:=a 2;have i:=a 3;have k:=a 4;have l:=a 5;have n:=a 6;simp only[sumTo];omega
theorem WG{ld:Nat->Int}(h:∀r,0<=ld r/\ld r<=15):FrontP.right ld=true:=by unfold FrontP.right;rw[List.all_eq_true];intro i _;have:=h i;simp;omega
theorem Zt(w:World)(F:Ap)(g:Nat)(p:Nat->Pz)(d:Nat->Int)(lt tk:Int)(wz:Bool)(dv:Nat->Nat->Int)(m:Lz)(hk:m.k=9\/m.k=11)(hf:m.f<zn/\m.t<zn/\m.f≠m.t)(hdv:m.k=11->∀r,0<=dv m.f r/\dv m.f r<=d r)(h:CP w F g m.t p d lt tk wz dv [] [])(hD:Ko p d)(hR:Ij p d)(hg:wz=true\/∀i,zp<=i->i<zN->Jm (p i)=true) :Calls prog 50 #[AP g,.agg (FM dv m).toArray] w λe w'=>e=.returned (.bool true)/\CP w' (grow F w w') g m.t p d lt tk wz dv [] []/\Mv F w w':=by
 obtain⟨q,K,s,o,b,P,y,z,l,A,x,n,h⟩:=h;have hz:=uo;obtain⟨k,f,t,j⟩:=m;simp only at hk hf hdv h |-;obtain⟨C,N,I⟩:=hf;have H:=hD.le;have D:FM dv ⟨k,f,t,j⟩=Dh k f t (if k=9 then λ_=>0 else dv f):=by unfold FM;rw[if_pos hk]
 rw[D];have J:∀a,Mv F w a->CP a (grow F w a) g t p d lt tk wz dv [] []->_:=λa v Q=>I9 w a F g t p d lt tk wz dv [] N Q v hD hR hg;rcases hk with rfl|rfl
 .rw[if_pos rfl];refine uI g zn t q s o b f (λ_=>0) P _ y d l z tk A x n (λa=>CP a (grow F w a) g t p d lt tk wz dv [] []/\Mv F w a) _ w h.nd C (jR 9 (.inl rfl) f t (λ_=>0) BJ BJ I (WG λ_=>BJ)) (λW c=>?_) (λa u=>J a u.2 u.1);have B:=h.bel c;refine(wB b zn t f l W B.fr C (λj=>(h.kp.lo j).1)).mono ?_;rintro e w' ⟨M,O,R⟩;have v:Mv (λk=>k=b) W w':=Mv.AZ R rfl;have hs:=c.size;have aa:=v.size;obtain⟨S,T,U,q4,V,X,Y,Z⟩:=(B.foot (F':=grow F w w') λk hk _=>.inl hk).part [197] v (λk hk D=>.inl ⟨_,_,hk▸B.fr.h,Vj⟩);exact⟨M,⟨q,K,s,o,b,P,y,z,l,A,x,n,S Iz,T Iz,h.lm,U (λk hk D=>⟨_,_,hk▸B.fr.h,Vj⟩) Iz,O,V Iz,X Iz,Y Iz,Z Iz,⟨.inl h.f.1,.inl h.f.2⟩,h.kp,h.rs⟩,(Mv.of_below c).mv v λk hk=>.inl (hk▸h.f.2)⟩
 .rw[if_neg Iz];have G:=hdv rfl;refine nS g zn t q s o b f (dv f) P _ y d l z tk A x n (λa=>CP a (grow F w a) g t p d lt tk wz dv [] []/\Mv F w a) _ w h.nd C (jR 11 (.inr rfl) f t (dv f) BJ BJ I (WG λr=>by have:=G r;have:=H r;omega)) (λW c=>?_) (λa u=>J a u.2 u.1);refine Ah (aU g zn t q s o b f P _ y d l (dv f) z tk A x n W (h.nd.bel c) (λi _=>H i) (λi _=>G i) (uX hD)) ?_;rintro w' L;have E:Below w.heap.size w w':=c.trans (L.mono c.size);exact⟨rfl,⟨q,K,s,o,b,P,y,z,l,A,x,n,(h.bel E).foot λk hk _=>.inl hk⟩,Mv.of_below E⟩
end
section
open Rz (zn zN zp zK)
variable [Rz]
def Lx.tick(x:Lx):Lx:=⟨x.j,x.A,1,x.g,x.R,x.ob⟩
theorem SK(w:World)(F:Ap)(gc me:Nat)(p:Nat->Pz)(h:Ea w F gc me p 0 false AL AL)(hp:∀j,j<zN->p j≠.pre) :Calls prog 52 #[AP gc] w λe w'=>e=.returned (.tuple #[])/\Ea w' F gc me p 1 false AL AL/\Mv (IE w F [167]) w w':=by
 obtain⟨wi,M,N,S,K,O,R,L,E,Q,U,d,ws,h⟩:=h
 letI:In:=I0
 have ab:=h.ln;have aa:=FO p;have ac:=h.ld.len;have hw:=h.wz rfl;refine(jb gc zn me M N S K O R L E Q _ _ U (d.map (Lx.ld me)) w h.co h.ld.ls (by rw[List.length_map];omega) BJ hw (λl r=>?_) (λe he=>?_)).mono ?_
 .obtain⟨x,b,rfl⟩:=List.mem_map.1 r;obtain⟨_,_,_,c,i⟩:=(h.ld.x x b).1;have h0:x.tk=0:=BJ
  show some (AA x.tk)=_;rw[h0]
 .obtain⟨j,z,hz⟩:=(h.lg e).1 he;obtain⟨k1,k2⟩:=EG hz;cases o:p j with
  | fresh=>rw[o] at hz;cases hz
  | pre=>exact absurd o (hp j z)
  | com=>
   rw[o] at hz;simp only[JQ,Option.some.injEq] at hz;subst hz;exact⟨3,rfl,.inl rfl⟩
  | lead A=>
   rw[o] at hz;simp only[JQ,Option.some.injEq] at hz;subst hz;refine⟨1,rfl,.inr ?_⟩;obtain⟨x,b,G⟩:=h.ld.all j A z o;rw[List.find?_isSome];have n:=(h.ld.x x b).1.2.1;refine⟨Lx.ld me x,List.mem_map.2 ⟨x,b,rfl⟩,?_⟩;show ((me:Int)==((zK j).m:Int)&&(zK x.j).I.sl==(zK j).I.sl)=true;rw[G] at n |-;simp[n]
 .rintro e w' ⟨rfl,r,n⟩;have s:∀k,(∃l∈d.map (Lx.ld me),k=l.g)->IE w F [167] k:=by rintro k ⟨l,r,rfl⟩;obtain⟨x,b,rfl⟩:=List.mem_map.1 r;exact⟨(h.ld.x x b).2.1,_,_,h.ld.ls.blk _ r,Vj⟩
  have u:∀(a:Nat) (t:TypeId) (L:List Value),Holds w a t L->t≠167->¬(∃l∈d.map (Lx.ld me),a=l.g):=λa t L C ht v=>by obtain⟨_,H,B,c,i⟩:=s a v;exact ht (Eu C c▸List.mem_singleton.1 i)
  have P:∀a,IP w a->¬(∃l∈d.map (Lx.ld me),a=l.g):=λa C v=>by obtain⟨_,H,B,c,i⟩:=s a v;exact Du C c rfl
  have hA:∀T:List TypeId,167∉T->∀k,(∃l∈d.map (Lx.ld me),k=l.g)->k<w.heap.size->DN w F T k:=λT u k D _=>by obtain⟨_,H,B,c,i⟩:=s k D;exact Ep c (λh=>u (List.mem_singleton.1 i▸h))
  have q:=h.co;refine⟨rfl,⟨wi,M,N,S,K,O,R,L,E,Q,U,d.map Lx.tick,ws,q.mv n (u _ _ _ q.hc Iz) (u _ _ _ q.lg.ix Iz) (P _ q.lg.isMap) (u _ _ _ q.ix.ix Iz) (P _ q.ix.isMap),h.nl,h.ni,h.ln,h.f,h.lg,h.ix,⟨?_,h.ld.f,λx b=>?_,λj A z o=>?_,?_,?_⟩,h.wsh.away n (hA Ig Iz) (λ_ h=>h),h.wz⟩,n.more s⟩
  .have e:(d.map Lx.tick).map (Lx.ld me)=(d.map (Lx.ld me)).map Ld.tick:=by
    rw[List.map_map,List.map_map]
    rfl
   rw[e];exact r
  .obtain⟨y,hy,rfl⟩:=List.mem_map.1 b;obtain⟨⟨V,W,X,a4⟩,Y,Z,J⟩:=h.ld.x y hy;exact⟨⟨V,W,X,(by decide:(0:Int)<=1),Int.le_refl _⟩,Y,Z,AV.mv J n λk D v=>by
    obtain⟨_,H,B,c,i⟩:=s k v;exact AV.Hw J c (by rw[List.mem_singleton.1 i];decide) k D rfl⟩
  .obtain⟨x,b,G⟩:=h.ld.all j A z o;exact⟨x.tick,List.mem_map.2 ⟨x,b,rfl⟩,G⟩
  .exact List.pairwise_map.2 h.ld.up
  .exact List.pairwise_map.2 h.ld.ap
section
variable {w W:World} {F:Ap} {g me:Nat} {p:Nat->Pz} {d:Nat->Int} {lt tk:Int} {wz:Bool} {dv:Nat->Nat->Int} {ol:List Lz} {wl al:List Nat} {lim:Nat} {rs:Bool} {gd mb gw gc gfr:Nat} {P:Value} {pv:Nat->Value} {sc:Int} {kp:Nat->Int} {waits out ans:Value}
theorem Dx.jc(h:Dx w F g me p d 0 tk false AL AL dv ol wl al lim rs gd mb gw gc gfr P pv sc kp waits out ans)(hc:Ea W F gc me p 1 false AL AL)(hm:Mv (IE w F [167]) w W) :Dx W F g me p d 1 tk false AL AL dv ol wl al lim rs gd mb gw gc gfr P pv sc kp waits out ans:=by obtain⟨b,c,q,i,j,l,m,n⟩:=h.part [167] hm (λk a o=>.inl a.2);exact⟨b Iz,c Iz,h.lm,hc,i Iz,j Iz,l Iz,m Iz,n Iz,h.f,h.kp,h.rs⟩
end
def Dj(n me:Nat):List Lz:=(List.range (2*(n-1))).map λi=>⟨if i % 2=0 then 9 else 11,me,if i / 2<me then i / 2 else i / 2+1,zN⟩
theorem oW{n me i:Nat}(hi:i<2*(n-1))(dv:Nat->Nat->Int):FQ dv (Dj n me) i=Gp me (dv me) i:=by
 have e:(Dj n me).getD i ⟨9,0,0,0⟩=⟨if i % 2=0 then 9 else 11,me,if i / 2<me then i / 2 else i / 2+1,zN⟩:=by simp[Dj,List.getD_eq_getElem?_getD,hi]
 unfold FQ FM Gp;rw[e];by_cases h:i % 2=0
 .simp only[h,if_true]
  rfl
 .simp only[h,if_false]
  rfl
theorem Q8(n me:Nat):(Dj n me).length=2*(n-1):=by simp[Dj]
theorem Zv(w:World)(F:Ap)(g me:Nat)(p:Nat->Pz)(d:Nat->Int)(t:Nat)(dv:Nat->Nat->Int)(hme:me<zn)(h:CP w F g me p d 0 t false dv [] [])(hp:∀j,j<zN->p j≠.pre)(hD:Ko p d)(hR:Ij p d)(hg:∀i,zp<=i->i<zN->Jm (p i)=true)(ht:t<=1000000)(h8:(t+1) % 8=0->UH d<8/\dv me=d) :Calls prog 30 #[AP g] w λe w'=>e=.returned (.tuple #[])/\CP w' (grow F w w') g me p d 1 ((t+1:Nat):Int) false dv (if (t+1) % 8=0 then Dj zn me else []) []/\Mv F w w':=by
 obtain⟨u,D,x,m,v,P,y,z,C,A,E,n,h⟩:=h
 letI:In:=I0
 have S:=uo;have V:zn=3\/zn=5\/zn=7:=Rz.n7;have I:=h.f.1;by_cases B:(t+1) % 8=0
 .rw[if_pos B];obtain⟨X,K⟩:=h8 B;obtain rfl:C=λ_=>0:=by
   rcases h.kp.q with h|⟨h,_⟩
   .omega
   .funext r;exact h r
  obtain rfl:E=AL:=h.ou.1 rfl;refine uJ g zn me u x m v P _ y d z t A n (λW=>Dx W F g me p d 1 t false AL AL dv [] (CQ p d me) [] (200+500*EI p) true u D x m v P y z (λ_=>0) A AL n/\Mv F w W)
   (λW=>CP W (grow F w W) g me p d 1 ((t+1:Nat):Int) false dv (Dj zn me) []/\Mv F w W) _ w h.nd ht B BJ S.1 hme ((SK w F m me p h.co hp).mono ?_) (λW c=>c.1.nd) (λW W2 o T c G J O H=>?_) (λW c=>I9 w W F g me p d 1 _ false dv _ hme c.1 c.2 hD hR (.inr hg))
  .rintro e w' ⟨rfl,hc,hm⟩;exact⟨rfl,h.jc hc hm,hm.more λk l=>l.1⟩
  .have hm:Mv (λk=>k=g) W W2:=Mv.AZ H rfl;have Q:=c.2.size;have R:=hm.size;have M:=Q8 zn me;have N:Fh W2 (grow F W W2) o (Dj zn me).length (FQ dv (Dj zn me)):=by refine⟨λU=>BJ,T,?_,λk l=>.inr ⟨O k l,J.lt k l⟩⟩;rw[M];rw[Oj (s:=51) (V':=Gp me d) Iz λi L=>by rw[oW L,K]];exact J
   refine⟨⟨u,D,x,m,v,P,y,z,λ_=>0,A,o,n,(jC (ol':=Dj zn me) c.1 hm G N).foot λk l _=>l.imp id λ⟨a,b⟩=>⟨BJ,b⟩⟩,c.2.mv hm λk l=>.inl (l▸I)⟩
 .rw[if_neg B];refine wJ g zn me u x m v P _ y d C z t A E n (λW=>Dx W F g me p d 1 t false AL AL dv [] (CQ p d me) [] (200+500*EI p) true u D x m v P y z C A E n/\Mv F w W)
   (λW=>CP W (grow F w W) g me p d 1 ((t+1:Nat):Int) false dv [] []/\Mv F w W) _ w h.nd BJ ht B ((SK w F m me p h.co hp).mono ?_) (λW c=>c.1.nd) (λW W2 c G H=>?_) (λW c=>I9 w W F g me p d 1 _ false dv _ hme c.1 c.2 hD hR (.inr hg))
  .rintro e w' ⟨rfl,hc,hm⟩;exact⟨rfl,h.jc hc hm,hm.more λk l=>l.1⟩
  .have hm:Mv (λk=>k=g) W W2:=Mv.AZ H rfl;have Q:=c.2.size;have R:=hm.size;obtain rfl:E=AL:=c.1.ou.1 rfl;exact⟨⟨u,D,x,m,v,P,y,z,C,A,_,n,(jC (ol':=[]) c.1 hm G (Fh.nil0 _ _ _)).foot λk l _=>l.imp id λ⟨a,b⟩=>⟨BJ,b⟩⟩,c.2.mv hm λk l=>.inl (l▸I)⟩
theorem CP.calm{w:World}{F:Ap}{g me:Nat}{p:Nat->Pz}{d:Nat->Int}{lt lt' tk:Int}{wz wz':Bool}{dv dv':Nat->Nat->Int}{al:List Nat}(h:CP w F g me p d lt tk wz dv [] al)(hp:∀j,j<zN->tH (p j)=false)(hwz:wz'=false->wz=false):CP w F g me p d lt' tk wz' dv' [] al:=by obtain⟨v,M,C,u,y,P,S,T,J,U,R,q,a,c,i,⟨V,A,B,O,z,D,N,L,E,K,Q,X,W,b⟩,k,l,m,n,o,r,s,t⟩:=h;refine⟨v,M,C,u,y,P,S,T,J,U,R,q,a,c,i,⟨V,A,B,O,z,D,N,L,E,K,Q,X,W,b.co,b.nl,b.ni,b.ln,b.f,b.lg,b.ix,⟨b.ld.ls,b.ld.f,λx I=>?_,b.ld.all,b.ld.up,b.ld.ap⟩,b.wsh,λh=>b.wz (hwz h)⟩,k,l,m,n,o,r,s,t⟩;obtain⟨⟨G,_,H,_⟩,_⟩:=b.ld.x x I;have:=hp x.j G;rw[H] at this;cases this
theorem CP.MH{w:World}{F:Ap}{g me:Nat}{p p':Nat->Pz}{d:Nat->Int}{lt tk:Int}{wz:Bool}{dv dv':Nat->Nat->Int}{al:List Nat}(h:CP w F g me p d lt tk wz dv [] al):CP w F g me p d lt tk wz dv' [] al:=by obtain⟨t,y,v,s,u,P,A,B,x,C,z,n,a,b,c,f,i,j,k,l,m,o,q,r⟩:=h;exact⟨t,y,v,s,u,P,A,B,x,C,z,n,a,b,c,f,i,j,k,l,m,o,q,r⟩
end
theorem bD:Cm.zero.cells.toArray.all (·.oneCell')=true:=by simp[Cm.zero,Cm.cells,Value.oneCell']
def Gi(cl tto:Int)(x:Cm):List Value:=[AA 1,AA tto,AA 0,AA cl,AA x.k,AA x.c,AA x.s,.string x.a,.string x.b,.string x.o,.string x.v,AL]
theorem VE(gC k:Nat)(b:Bool)(R:World->Prop)(w:World) (KL:∀W,Below w.heap.size w W->Calls prog 27 #[AP gC,.agg (Ee 2 k).toArray] W λe W'=>e=.returned (.bool b)/\R W') :Calls prog 11 #[AP gC,.agg (Ee 2 k).toArray] w λe w'=>e=.returned (.bool b)/\R w':=by obtain⟨KL,a⟩:=WZ KL (Base.start w);go_in;go_upto_region 1 with(fail);go_name_world W g;obtain⟨c,h,l⟩:=GI 32 (Ee 2 k) g;clear g;have a:=D9 h a;clear h l;have j:w.heap.size=w.heap.size:=rfl;generalize p:w.heap.size=n at c a KL j |-;have m:=Am c.o 0;have d:=qh c.Af;go_wp2_with (first|(with_reducible refine lR 0 d.o ?_));refine Ah (KL.o _ a.below) ?_;rintro q f;have i:=qh f;clear f m d c a;go_wp2_with fail;go_ret;exact⟨rfl,i.o⟩
theorem dF(gC:Nat)(cl:Int)(tto:Nat)(x:Cm)(R:Bool->World->Prop)(w:World) (KL:∀W,Below w.heap.size w W->Calls prog 26 #[AP gC,.agg (Gi cl tto x).toArray] W λe W'=>∃b,e=.returned (.bool b)/\R b W') :Calls prog 11 #[AP gC,.agg (Gi cl tto x).toArray] w λe w'=>∃b,e=.returned (.bool b)/\R b w':=by obtain⟨KL,a⟩:=WZ KL (Base.start w);go_in;go_upto_region 1 with(fail);go_name_world W g;obtain⟨c,h,k⟩:=GI 32 (Gi cl tto x) g;clear g;have a:=D9 h a;clear h k;have j:w.heap.size=w.heap.size:=rfl;generalize n:w.heap.size=m at c a KL j |-;have l:=Am c.o 0;have d:=qh c.Af;go_wp2_with (first|(with_reducible refine lR 0 d.o ?_));refine(KL.o _ a.below).mono ?_;rintro e p ⟨b,rfl,f⟩;have i:=qh f;clear f l d c a;go_wp2_with fail;go_ret;exact⟨b,rfl,i.o⟩
theorem dI(gC:Nat)(id:Int)(b:Bool)(R:World->Prop)(w:World) (KL:∀W,Below w.heap.size w W->Calls prog 28 #[AP gC,AA id] W λe W'=>e=.returned (.bool b)/\R W') :Calls prog 11 #[AP gC,.agg (Ee 6 id).toArray] w λe w'=>e=.returned (.bool b)/\R w':=by obtain⟨KL,a⟩:=WZ KL (Base.start w);go_in;go_upto_region 1 with(fail);go_name_world W f;obtain⟨c,g,i⟩:=GI 32 (Ee 6 id) f;clear f;have a:=D9 g a;clear g i;obtain⟨j,k⟩:=Cf c.o 0 1;go_wp2_with fail;refine Ah (KL.o _ a.below) ?_;rintro l d;have h:=qh d;clear d j k c a;go_wp2_with fail;go_ret;exact⟨rfl,h.o⟩
theorem dG(gC i g:Nat)(R1 R2:World->Prop)(w:World) (KN:∀W,Below w.heap.size w W->Calls prog 17 #[AP gC,AA i] W λe W'=>e=.returned (AP g)/\Below W.heap.size W W') (KT:∀W,Below w.heap.size w W->Calls prog 30 #[AP g] W λe W'=>e=.returned (.tuple #[])/\R1 W'/\∀k L,w.heap.size<=k->Holds W k 32 L->Holds W' k 32 L) (KO:∀W,R1 W->Calls prog 31 #[AP gC,AA i] W λe W'=>e=.returned (.tuple #[])/\R2 W') :Calls prog 11 #[AP gC,.agg (Ee 5 i).toArray] w λe w'=>e=.returned (.bool true)/\R2 w':=by obtain⟨KN,KT,KO,b⟩:=bY KN KT KO (Base.start w);go_in;go_upto_region 1 with(fail);go_name_world W m;obtain⟨a,p,r⟩:=GI 32 (Ee 5 i) m;clear m;have b:=D9 p b;clear p r;obtain⟨c,d⟩:=Cf a.o 0 1;go_wp2_with fail;refine Ah (KN.o _ b.below) ?_;rintro s n;obtain⟨a,b⟩:=Ce n a b;clear n c d KN;have c:=Am a.o 0;go_wp2_with fail;refine Ah (KT.o _ b.below) ?_;rintro t ⟨h,j⟩;obtain⟨f,a⟩:=WZ h (j _ _ Ve a.o);clear h j c KT b;have d:=Am a.o 1;go_wp2_with fail;refine Ah (KO.o _ f.o) ?_;rintro u l;have q:=qh l;clear l f KO d a;go_wp2_with fail;go_ret;exact⟨rfl,q.o⟩
theorem ctime(gC n gCl cCl j:Nat)(gcl:Nat->Nat)(rest:List Value)(dv nv cav lv hv:Value)(id seq:Int)(x:Cm)(tg tk:Int)(w:World)(h:Holds w gC 85 (Dq n dv nv (.slice (Ac gCl) 8 cCl) cav lv hv))(hC:Holds w gCl 92 (ptrs 8 gcl++rest))(hj:j<8) (hc:OY w (gcl j) id seq x false tg tk) :Calls prog 28 #[AP gC,AA ((j:Int)+1)] w λe w'=>e=.returned (.bool true)/\Below w.heap.size w w':=by
 obtain⟨k,l,b,a,c,f⟩:=mG (UF ((j:Int)+1) BJ BJ) (λW (h:OY W (gcl j) id seq x false tg tk)=>oZ (gcl j) id seq x false tg tk n W h (.inl rfl)) h hC (show Holds w (gcl j) 132 _ from hc) (Base.start w);have C:(j:Int)<8:=BJ
 have D:IntKind.i64.wrap ((j:Int)+1-1)=(j:Int):=by rw[Int.add_sub_cancel];exact IntWalk.i64_in _ BJ
 have B:(j:Int)+1-1=(j:Int):=BJ
 clear h hC hc;go_in;go_wp2_with fail;refine Ah (k.o _) ?_;rintro E g;obtain⟨b,a,c,f⟩:=En g b a c f;clear g;go_upto_region 3 with(fail);refine' bx1 ⟨17,18,5,25,23,Cm.zero.cells,Cm.zero.cells⟩ _ bD ?h1 ?val1 ?fin1;case h1=>
  intro u q;obtain⟨b,a,c,f⟩:=En q b a c f;obtain⟨v,y⟩:=JO b.o 0 3;have s:=λd r=>a.grown d r j;rw[MB 8 gcl rest j hj] at s;simp only[List.map_cons,List.map_nil,BI];repeat go_big_quiet_step (first|(go_at_call 51;with_reducible exact AQ λm p=>l.o m (c.o.bel p)))
  refine wpQuiet_nil ?_;intro w' _;exact rfl
 case val1=>rfl
 intro β F g i;simp only[] at i;simp only[D7,List.foldl,Act.put,List.setIfInBounds_toArray,List.set_cons_zero,List.set_cons_succ];obtain⟨b,a,c,f⟩:=En g b a c f;generalize β 5=z at i |-;have t:=qh i.2;have A:=i.1;clear i;clear g;clear b a c;go_wp2_with fail;go_ret;exact⟨rfl,f.below⟩
section
def sizeOf3(r:Nat):Nat:=if r=0 then 3 else if r=1 then 5 else 7
theorem yR(n:Int)(r:Nat)(hn:-9223372036854775808<=n/\n<=9223372036854775807)(hr:n % 3=(r:Int))(w:World)(R:Nat->World->Prop) (KN:∀W,Below w.heap.size w W->Calls prog 25 #[AA (sizeOf3 r)] W λe W'=>∃gC,e=.returned (.tuple #[AP gC,AA 0])/\R gC W') :Calls prog 7 #[AA n] w λe w'=>∃gC,e=.returned (AP gC)/\R gC w':=by
 have m:r<3:=BJ
 have c:=qh (λW=>NS n 0 2 W hn BJ BJ BJ);have l:(Instr.buildSlice 30 3 #[(0,AA 3),(1,AA 5),(2,AA 7)]).run prog w=.ok (.slice (Ac w.heap.size) 3 3) (w.alloc (.cells #[AA 3,AA 5,AA 7] 3)):=ND
 obtain⟨KN,a⟩:=WZ KN (Base.start w);go_in;go_upto_region 1 with(fail);go_wp2_with fail;have f:Below w.heap.size w (w.alloc (.cells #[AA 3,AA 5,AA 7] 3)):=(Below.refl _ _).alloc Ve _;have b:=qh (AC w 3 [AA 3,AA 5,AA 7]);have a:=D9 f a;clear f;generalize k:w.heap.size=j at b a KN |-;generalize w.alloc (.cells #[AA 3,AA 5,AA 7] 3)=i at b a |-;refine Ah (c.o _) ?_;rintro s rfl;have g:0+n % (2-0+1)=(r:Int):=BJ
 rw[g];have p:=b.cell r;rw[show ([AA 3,AA 5,AA 7]:List Value)[r]?=some (AA (sizeOf3 r)) by rcases(show r=0\/r=1\/r=2 by omega) with rfl|rfl|rfl<;>rfl] at p;have q:(r:Int)<3:=BJ
 clear g hr hn c b;go_wp2_with fail;refine(KN.o _ a.below).mono ?_;rintro e t ⟨gC,rfl,d⟩;have h:=qh d;clear d p a KN;go_wp2_with fail;go_ret;exact⟨gC,rfl,h.o⟩
section
variable {P:Program} {ops:Array Oper} {Q:Exit->Act->World->Prop}
theorem Rw{rest:List Oper}{o:Oper}{a:Act}{w:World}(hw:Region.wanted o (yielded ops a.tmps)=true)(t:TypeId)(i j k l:Nat)(p:Value)(q r s:Tmp)(ho:o.op=.build t #[(i,.const p),(j,.tmp q),(k,.tmp r),(l,.tmp s)])(u v x:Value)(hu:a.eval (.tmp q)=u)(hv:a.eval (.tmp r)=v)(hx:a.eval (.tmp s)=x) (z:Value) (hr:∀w,(Instr.build t #[(i,p),(j,u),(k,v),(l,x)]).run P w=.ok z w) (h:wpList P ops Q rest (a.put o.dst z) w):wpList P ops Q (o :: rest) a w:=
 wpList_step λK b=>by rw[if_pos hw];unfold Oper.wp execOp;simp only[ho,List.map_toArray,List.map_cons,List.map_nil,hu,hv,hx];rw[show a.eval (.const p)=p from rfl,Sem.run_bind,hr];exact b _ _ h
end
theorem WO(cl:Int)(tto:Nat)(x:Cm)(w:World):(Instr.build 32 #[(0,AA 1),(3,AA cl),(1,AA tto),(4,.agg x.cells.toArray)]).run prog w=.ok (.agg (Gi cl tto x).toArray) w:=ND
theorem aP(cl:Int)(tto:Nat)(x:Cm):(Gi cl tto x).toArray.all (·.oneCell')=true:=by simp[Gi,Value.oneCell']
theorem dZ(cl:Int)(tto:Nat)(x:Cm)(w:World) :Calls prog 12 #[AA cl,AA tto,.agg x.cells.toArray] w λe w'=>e=.returned (.agg (Gi cl tto x).toArray)/\Below w.heap.size w w':=by
 go_in;go_upto_region 1 with(fail);go_name_world W a;have a:Bo w [.cells (x.cells:List Value).toArray 23,.cells (Ee 0 0:List Value).toArray 32]=W:=a;obtain⟨f,d⟩:=WZ (show Holds W (w.heap.size) 23 (x.cells) from Ae _ a 0 rfl) (show Holds W (w.heap.size+1) 32 (Ee 0 0) from Ae _ a 1 rfl);have g:=Aq _ a;have i:=Bd _ a;simp only[List.length_cons,List.length_nil] at i;clear a;have b:=qh (Base.start w);have b:=D9 g b;clear g i;have c:=qh f.Af;generalize n:w.heap.size+1=gs at d |-;have l:w.heap.size<=gs:=BJ
 generalize m:w.heap.size=p at f c b l n |-;go_wp2_with (first|(refine lM 0 c.o ?_)|(with_reducible show wpList _ _ _ (_ :: _) _ _;refine Rw ND 32 0 3 1 4 _ _ _ _ rfl (AA cl) (AA tto) (.agg x.cells.toArray) rfl rfl rfl (.agg (Gi cl tto x).toArray) (WO cl tto x) ?_)|(refine sW (Gi cl tto x) d.o ?_ (aP _ _ _);intro q h j));obtain⟨b,k⟩:=WZ (b.touch j BJ) h.Af;clear h j c;refine bC k.o ?_;exact⟨rfl,m▸b.below⟩
end
section
set_option maxRecDepth 4000 in
theorem Y9(g:Nat)(id seq:Int)(y x:Cm)(tg0 ticks tg:Int)(w:World)(h:OY w g id seq y false tg0 ticks)(hs:0<=seq/\seq<=1000000000)(htg:0<=tg/\tg<7) :Calls prog 47 #[AP g,.agg #[AA x.k,AA x.c,AA x.s,.string x.a,.string x.b,.string x.o,.string x.v],AA tg] w λe w'=> (e=.returned (.tuple #[.agg #[AA x.k,AA id,AA (seq+1),.string x.a,.string x.b,.string x.o,.string x.v],.bool true])/\OY w' g id (seq+1) ⟨x.k,id,seq+1,x.a,x.b,x.o,x.v⟩ true tg 0/\Touch g w w'/\EY x.k id (seq+1) x.a x.b x.o x.v=true/\x.k≠0)\/(e=.returned (.tuple #[.agg Cm.zero.cells.toArray,.bool false])/\Below w.heap.size w w'/\(EY x.k id (seq+1) x.a x.b x.o x.v=false\/x.k=0)):=by
 obtain⟨k,c,s,a,b,o,v⟩:=x;simp only;have c0:=h.cell 0;have c1:=h.cell 1;have c9:=h.cell 9;have hg:=h.lt;have hf:=λi=>h.free i;simp only[Dk,yA,yB] at c0 c1 c9;obtain⟨hH,hF⟩:=WZ h hf;clear h hf;obtain⟨ay,az⟩:=hs;obtain⟨a1,a2⟩:=htg;have et:decide (tg<0)=false:=by simp;omega
 have aw:decide (7<=tg)=false:=by simp;omega
 have av:IntKind.i64.wrap (seq+1)=seq+1:=IntWalk.i64_in _ BJ;go_in;go_upto_region 1 with(fail);go_region;go_upto_region 2 with(fail);clear av;go_name_world W U;have hG:OY W g id seq y false tg0 ticks:=by rw[<-U];exact Aw (Aw hH.out _) _
 have hX:Holds W w.heap.size 23 [AA k,AA id,AA (seq+1),.string a,.string b,.string o,.string v]:=by rw[<-U];exact Aw (AC w _ _) _
 have hZ:Holds W (w.heap.size+1) 23 Cm.zero.cells:=by rw[<-U];have:=AC (w.alloc (.cells #[AA k,AA id,AA (seq+1),.string a,.string b,.string o,.string v] 23)) 23 Cm.zero.cells;rw[World.size_alloc] at this;exact this
 have hT:Touch g w W:=by rw[<-U];exact Touch.of_below (by go_grown)
 have aj:Below w.heap.size w W:=by rw[<-U];go_grown
 clear U c0 c1 c9;have c9:=Am hG 9;obtain⟨n,p,q,t,u,z,A⟩:=Gl hX 0 1 2 3 4 5 6;have ag:Below w.heap.size w W:=aj;obtain⟨S,X,d,HT,R⟩:=dD hG hX hZ hT ag;clear ag aj;clear hG hX hZ hT;go_wp2_with fail;generalize ae:EY k id (seq+1) a b o v=r;refine Ah (ae▸Eg k id (seq+1) a b o v _) ?_;rintro V J;obtain⟨R,S,X,d,HT⟩:=dD (AO R.o J) (S.below J S.lt) (X.below J X.lt) (d.below J d.lt) (HT.next J);have a0:=J.size;clear J c9 n p q t u z A;obtain⟨n,p,q,t,u,z,A⟩:=Gl X.o 0 1 2 3 4 5 6;have f:=λi=>S.cell i;have gf:=λi=>S.free i;have Z:=λi=>d.free i;have g1:=f 1;have g2:=f 2;have g3:=f 3;have g4:=f 4;have g5:=f 5;have g6:=f 6;have g7:=f 7;have g8:=f 8;have g9:=f 9;have aa:=f 10;have ab:=f 11;have K:=d.cell 0;have L:=d.cell 1;have M:=d.cell 2;have N:=d.cell 3;have O:=d.cell 4;have P:=d.cell 5;have Q:=d.cell 6;simp only[Dk,Cm.zero,Cm.cells,yA,yB] at g1 g2 g3 g4 g5 g6 g7 g8 g9 aa ab K L M N O P Q;clear f;have ax:¬g=w.heap.size:=BJ
 have ap:¬w.heap.size=g:=BJ
 have aq:¬g=w.heap.size+1:=BJ
 have ar:¬w.heap.size+1=g:=BJ
 have au:r=false\/(r=true/\(k==0)=true)\/(r=true/\(k==0)=false):=by
  cases r
  .exact .inl rfl
  .cases hk:(k==0)
   .exact .inr (.inr ⟨rfl,rfl⟩)
   .exact .inr (.inl ⟨rfl,rfl⟩)
 have al:=qh ae;clear ae;rcases au with rfl|⟨rfl,ek⟩|⟨rfl,ek⟩
 .clear g1 g2 g3 g4 g5 g6 g7 g8 g9 aa ab gf;go_wp2_with fail;have m:=((((((d.set 0 (AA 0)).set 1 (AA 0)).set 2 (AA 0)).set 3 (AU)).set 4 (AU)).set 5 (AU)).set 6 (AU);simp only[Cm.zero,Cm.cells,List.set_cons_succ,List.set_cons_zero] at m;have T:=(((((((Touch.refl (w.heap.size+1) V).setCell 0 (AA 0)).setCell 1 (AA 0)).setCell 2 (AA 0)).setCell 3 (AU)).setCell 4 (AU)).setCell 5 (AU)).setCell 6 (AU);have Y:=R.trans (T.below (B:=w.heap.size) BJ R.size);obtain⟨C,D,E,F,G,H,I⟩:=Gl m 0 1 2 3 4 5 6;clear n p q t u z A K L M N O P Q Z;refine bodyPost_ret (v:=.tuple #[.agg Cm.zero.cells.toArray,.bool false]) ?_ rfl (.inr ⟨rfl,Y,.inl al.out⟩);generalize (((((((V.setCell ⟨w.heap.size+1,0,none⟩ (AA 0)).setCell ⟨w.heap.size+1,1,none⟩ (AA 0)).setCell ⟨w.heap.size+1,2,none⟩ (AA 0)).setCell ⟨w.heap.size+1,3,none⟩ (AU)).setCell ⟨w.heap.size+1,4,none⟩ (AU)).setCell ⟨w.heap.size+1,5,none⟩ (AU)).setCell ⟨w.heap.size+1,6,none⟩ (AU))=W3 at C D E F G H I |-;simp[results,results47,go_sem,C,D,E,F,G,H,I,Cm.zero,Cm.cells];try rfl
 .clear g1 g2 g3 g4 g5 g6 g7 g8 g9 aa ab gf;go_wp2_with fail;have m:=((((((d.set 0 (AA 0)).set 1 (AA 0)).set 2 (AA 0)).set 3 (AU)).set 4 (AU)).set 5 (AU)).set 6 (AU);simp only[Cm.zero,Cm.cells,List.set_cons_succ,List.set_cons_zero] at m;have T:=(((((((Touch.refl (w.heap.size+1) V).setCell 0 (AA 0)).setCell 1 (AA 0)).setCell 2 (AA 0)).setCell 3 (AU)).setCell 4 (AU)).setCell 5 (AU)).setCell 6 (AU);have Y:=R.trans (T.below (B:=w.heap.size) BJ R.size);obtain⟨C,D,E,F,G,H,I⟩:=Gl m 0 1 2 3 4 5 6;clear n p q t u z A K L M N O P Q Z;refine bodyPost_ret (v:=.tuple #[.agg Cm.zero.cells.toArray,.bool false]) ?_ rfl (.inr ⟨rfl,Y,.inr (by simpa using ek)⟩);generalize (((((((V.setCell ⟨w.heap.size+1,0,none⟩ (AA 0)).setCell ⟨w.heap.size+1,1,none⟩ (AA 0)).setCell ⟨w.heap.size+1,2,none⟩ (AA 0)).setCell ⟨w.heap.size+1,3,none⟩ (AU)).setCell ⟨w.heap.size+1,4,none⟩ (AU)).setCell ⟨w.heap.size+1,5,none⟩ (AU)).setCell ⟨w.heap.size+1,6,none⟩ (AU))=W3 at C D E F G H I |-;simp[results,results47,go_sem,C,D,E,F,G,H,I,Cm.zero,Cm.cells];try rfl
 .have hk2:k≠0:=by simpa using ek
  go_upto_region 4 with(fail);go_region;go_upto_region 5 with(fail);go_name_world W2 ad;have ac:Touch g V W2:=by rw[<-ad];exact((((((((((((Touch.refl g V).setCell 1 _).setCell 2 _).setCell 3 _).setCell 4 _).setCell 5 _).setCell 6 _).setCell 7 _).setCell 8 _).setCell 9 _).setCell 10 _).setCell 11 _).drew
  have ah:OY W2 g id (seq+1) ⟨k,id,seq+1,a,b,o,v⟩ true tg 0:=by rw[<-ad];have:=((((((((((S.set 1 (AA (seq+1))).set 2 (AA k)).set 3 (AA id)).set 4 (AA (seq+1))).set 5 (.string a)).set 6 (.string b)).set 7 (.string o)).set 8 (.string v)).set 9 (.bool true)).set 10 (AA tg)).set 11 (AA 0);simp only[Dk,List.set_cons_succ,List.set_cons_zero] at this;exact NC this
  have l:=X.touch ac ap;have ak:=d.touch ac ar;have ai:=HT.trans ac;obtain⟨am,j,af⟩:=bP ah ak ai;clear ad g1 g2 g3 g4 g5 g6 g7 g8 g9 aa ab gf K L M N O P Q Z n p q t u z A ah ak ai ac;have n:=l.cell 0;have p:=l.cell 1;have q:=l.cell 2;have t:=l.cell 3;have u:=l.cell 4;have z:=l.cell 5;have A:=l.cell 6;have K:=j.cell 0;have L:=j.cell 1;have M:=j.cell 2;have N:=j.cell 3;have O:=j.cell 4;have P:=j.cell 5;have Q:=j.cell 6;have Z:=λi=>j.free i;simp only[Cm.zero,Cm.cells,yA,yB] at n p q t u z A K L M N O P Q;clear l;go_wp2_with fail;have m:=((((((j.set 0 (AA k)).set 1 (AA id)).set 2 (AA (seq+1))).set 3 (.string a)).set 4 (.string b)).set 5 (.string o)).set 6 (.string v);simp only[Cm.zero,Cm.cells,List.set_cons_succ,List.set_cons_zero] at m;have T:=(((((((Touch.refl (w.heap.size+1) W2).setCell 0 (AA k)).setCell 1 (AA id)).setCell 2 (AA (seq+1))).setCell 3 (.string a)).setCell 4 (.string b)).setCell 5 (.string o)).setCell 6 (.string v);have an:=am.touch T aq;have Y:=T.below (B:=w.heap.size) BJ af.size;have ao:=af.then Y;obtain⟨C,D,E,F,G,H,I⟩:=Gl m 0 1 2 3 4 5 6;clear n p q t u z A K L M N O P Q Z;refine bodyPost_ret (v:=.tuple #[.agg #[AA k,AA id,AA (seq+1),.string a,.string b,.string o,.string v],.bool true]) ?_ rfl (.inl ⟨rfl,an,ao,al.out,hk2⟩);generalize (((((((W2.setCell ⟨w.heap.size+1,0,none⟩ (AA k)).setCell ⟨w.heap.size+1,1,none⟩ (AA id)).setCell ⟨w.heap.size+1,2,none⟩ (AA (seq+1))).setCell ⟨w.heap.size+1,3,none⟩ (.string a)).setCell ⟨w.heap.size+1,4,none⟩ (.string b)).setCell ⟨w.heap.size+1,5,none⟩ (.string o)).setCell ⟨w.heap.size+1,6,none⟩ (.string v))=W3 at C D E F G H I |-;simp[results,results47,go_sem,C,D,E,F,G,H,I]
end
end Go.Proofs.YtimdpiifpibgfaaGreatDoor
