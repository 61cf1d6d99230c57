/- A part of the proof of TopReads. -/
import Derived.Test.YtimdpiifpibgfaaGreatDoorQr38
set_option linter.all false
set_option maxRecDepth 20000
set_option maxHeartbeats 16000000
open Go.RowKit Go.Maps
namespace Go.Proofs.YtimdpiifpibgfaaGreatDoor
open Tryz
section
open Rz (zn zN zp zK)
variable [Rz]
def kP(d:Nat->Int)(wl:List Nat):Prop:=wl.length<=15/\∀j∈wl,j<zN/\(j<zp->∀i,j<i->i<zN->Dc d i=false)
theorem X8{d:Nat->Int}{wl:List Nat}(h:kP d wl){j:Nat}(hj:j∈wl):cK (zK j).c<8/\(Dc d j=true->(MC (Dc d)).ow (cK (zK j).c)=⟨(zK j).c.s,Js j⟩)/\(Dc d j=false->((MC (Dc d)).ow (cK (zK j).c)).seq<(zK j).c.s):=by obtain⟨a,g⟩:=h.2 j hj;have l:=(Rz.c j a).cc;refine⟨by unfold cK;omega,λb=>?_,λb=>Qs a b g⟩;exact Qg zN a b rfl λx i f k=>g (Kt f a BJ k).2 x i f
theorem YQ{d:Nat->Int}{wl:List Nat}(h:kP d wl)(f:Bool->Bool):(Ih wl).filter (λx=>f (bH (MC (Dc d)).ow x))=Ih (wl.filter λj=>f (Dc d j)):=by
 unfold Ih;rw[List.filter_map]
 congr 1
 refine List.filter_congr λj i=>?_;obtain⟨_,b,g⟩:=X8 h i;show f (decide (((MC (Dc d)).ow (cK (zK j).c)).seq=(zK j).c.s))=_
 congr 1
 cases a:Dc d j with
 | false=>simp;have:=g a;omega
 | true=>rw[b a];simp
theorem Tf(p:Nat->Pz)(d:Nat->Int)(me:Nat):(CQ p d me).length<=15:=by have a:zN<=15:=Rz.hN;have:=List.length_filter_le (λj=>(zK j).m==me&&!Jm (p j)&&!Dc d j) (List.range zN);rw[List.length_range] at this;exact Nat.le_trans this a
theorem o7{p:Nat->Pz}{d d':Nat->Int}{me:Nat}(hr:Ij p d)(hd:Ko p d'):kP d' (CQ p d me):=⟨Tf _ _ _,λj f=>by
 obtain⟨b,_,_,c⟩:=L8.1 f;refine⟨b,λk i g a=>?_⟩;cases h:Dc d' i with
 | false=>rfl
 | true=>
  have:=hr i a (Gn (hd.com i a h)) j k g;rw[c] at this;cases this⟩
theorem G5.more{F:Ap}{g me:Nat}{p:Nat->Pz}{d:Nat->Int}{lt tk:Int}{wz:Bool}{dv:Nat->Nat->Int}{ol:List Lz}{wl al:List Nat}{lim:Nat}{rs:Bool}{w W W':World}(hm:Mv F w W)(h2:G5 (grow F w W) g me p d lt tk wz dv ol wl al lim rs W W'):G5 F g me p d lt tk wz dv ol wl al lim rs w W':=by obtain⟨c,b⟩:=h2;have f:=hm.size;have h:=b.size;exact⟨c.foot λk a _=>grow_step f h a,hm.part b λk a=>a⟩
theorem bu(w:World)(F:Ap)(g me:Nat)(p:Nat->Pz)(d:Nat->Int)(lt tk:Int)(wz:Bool)(dv:Nat->Nat->Int)(ol:List Lz)(wl:List Nat)(lim:Nat)(rs:Bool) (h:EC w F g me p d lt tk wz AL AL dv ol wl [] lim rs) (hw:kP d wl) :Calls prog 92 #[AP g] w λe w'=>e=.returned (.tuple #[])/\G5 F g me p d lt tk wz dv ol (wl.filter λj=>!Dc d j) (wl.filter λj=>Dc d j) lim rs w w':=by
 obtain⟨r,R,u,q,t,P,C,D,A,aa,B,ab,h⟩:=h;have G:=h;obtain⟨n,dk,Q,co,fr,⟨ob,T,sP,sO,ad,ae⟩,⟨S,M,ac⟩,ou,⟨J,_⟩,⟨o,E⟩,O,Z⟩:=G;obtain rfl:=J rfl;have K:=OT (Dc d);refine(Wq g zn me r u q t P _ C T d A D tk aa B S (Ih wl) w n M sO (λx N=>?_) (by unfold Ih;rw[List.length_map];have:=hw.1;omega) (λk f=>by have:=(K.ow k f).rep.len;omega)).mono ?_
 .obtain⟨j,m,rfl⟩:=List.mem_map.1 N;obtain⟨i,l,I⟩:=X8 hw m;refine⟨i,?_⟩;show ((MC (Dc d)).ow (cK (zK j).c)).seq<=(zK j).c.s;cases y:Dc d j with
  | false=>have:=I y;omega
  | true=>rw[l y];exact Int.le_refl _
 .rintro e w' ⟨rfl,v2,ob1,ans2,ob2,al,a1,a2,a3,a4,a5,a6,a7,a8,a9⟩;rw[YQ hw (λb=>!b)] at a1;rw[YQ hw (λb=>b)] at a5;have z:Mv (λk=>k=g) w w':=Mv.AZ a9 rfl;obtain⟨q1,U,V,W,X,q6,Y,q8⟩:=(h.foot (F':=grow F w w') λk f _=>.inl f).part [102] z (λk f L=>.inl ⟨_,_,f▸n,Vj⟩);refine⟨rfl,⟨r,R,u,q,t,P,C,D,A,v2,B,ans2,a3,U Iz,Q,V (λk f L=>⟨_,_,f▸n,Vj⟩) Iz,W Iz,X Iz,⟨ob1,a1,λk f=>.inr ⟨a2 k f,a1.lt k f⟩⟩,Y Iz,⟨λH=>?_,ob2,al,a4,?_,λk f=>.inr ⟨a6 k f,a4.own.lt k f⟩,λa v k f=>.inr ⟨a7 a v k f,AV.lt (a4.ps a v) k f⟩⟩,⟨.inl o,.inl E⟩,O,Z⟩,z.more λk f=>f▸o⟩
  .refine a8 ?_;rw[H] at a5;simpa[Ih] using a5
  .rw[a5];unfold Ih;rw[List.map_map];refine List.map_congr_left λj m=>?_;obtain⟨i,l⟩:=List.mem_filter.1 m;show (cK (zK j).c,(zK j).c.s,((MC (Dc d)).ow (cK (zK j).c)).rep)=_;rw[(X8 hw i).2.1 l]
def Nk(F:Ap)(g me:Nat)(p:Nat->Pz)(d:Nat->Int)(lt tk:Int)(wz:Bool)(dv:Nat->Nat->Int)(ol:List Lz)(lim:Nat)(rs:Bool)(w w':World):Prop:=
 ∃d',Ko p d'/\(∀r,d r<=d' r)/\G5 F g me p d' lt tk wz dv ol (CQ p d' me) ((CQ p d me).filter λj=>Dc d' j) lim rs w w'
theorem WL(w:World)(F:Ap)(g me:Nat)(p:Nat->Pz)(d:Nat->Int)(lt tk:Int)(wz:Bool)(dv:Nat->Nat->Int)(ol:List Lz)(lim:Nat)(hme:me<zn)(hbad:w.cell? ⟨g,74,none⟩=some (.bool false)) (KD:Calls prog 90 #[AP g] w λe w'=>e=.returned (.bool true)/\G5 F g me p d lt tk wz dv ol (CQ p d me) [] lim true w w') (hlim:lim<=28000) (hd:RV p d) (hry:Ij p d) (hg:wz=true\/∀j,j<zN->isC (p j)=true->(zK j).I.sl<=d (zK j).m+1) :Calls prog 53 #[AP g] w λe w'=>e=.returned (.tuple #[])/\Nk F g me p d lt tk wz dv ol lim true w w':=by
 have hz:=uo;refine aK g w (G5 F g me p d lt tk wz dv ol (CQ p d me) [] lim true w) (λW=>∃d',Ko p d'/\(∀r,d r<=d' r)/\G5 F g me p d' lt tk wz dv ol (CQ p d me) [] lim false w W)
  (Nk F g me p d lt tk wz dv ol lim false w) (Nk F g me p d lt tk wz dv ol lim true w) (Nk F g me p d lt tk wz dv ol lim true w) hbad
  KD (λW s=>?_) (λW s=>?_) (λW s=>?_) (λW s=>?_)
 .refine Ah (wQ W (grow F w W) g me p d lt tk wz dv ol _ _ s.1 hd hry hg) ?_;rintro w' ⟨d',i,o,x⟩;exact⟨rfl,d',i,o,s.step x⟩
 .obtain⟨d',i,o,x⟩:=s;refine Ah (bu W (grow F w W) g me p d' lt tk wz dv ol _ _ _ x.1 (o7 hry i)) ?_;rintro w' C;rw[<-aZ o] at C;exact⟨rfl,d',i,o,x.step C⟩
 .obtain⟨d',i,o,⟨gd,mb,gw,gc,gfr,P,pv,sc,kp,waits,out,ans,h⟩,hmv⟩:=s;have K:W.cell? ⟨g,69,none⟩=some (AA sc):=h.nd.cell 69;by_cases D:sc<8
  .refine .inl ⟨sc,K,D,λn c=>⟨d',i,o,?_⟩⟩;have:G5 F g me p d' lt tk wz dv ol (CQ p d' me) ((CQ p d me).filter λj=>Dc d' j) lim true w W:=⟨⟨gd,mb,gw,gc,gfr,P,pv,sc,kp,waits,out,ans,by obtain⟨O,Q,R,S,T,U,V,X,Y,Z,b2,b3⟩:=h;exact⟨O,Q,R,S,T,U,V,X,Y,Z,b2,λ_=>D⟩⟩,hmv⟩;exact this.bel c
  .right;obtain⟨ob,pb,M,N,s3,s4⟩:=h.st;have J:=i.le;have ac:8<=UH d':=by
    rcases h.kp.q with h|⟨_,h⟩
    .exact h
    .omega
   refine⟨⟨sc,BJ,K⟩,d',P,(MC (Dc d')).ow,pv,_,h.nd,OD _ _ _ _ _ _ _ _ _ _ _ _ _ _ _ _,Ou _ _ _ _ _ _ _ _ _ _ _ _ _ _ _ _,M.CZ,N.sl,λn c=>?_,λn v ag c hv y aa=>?_⟩
   .refine(xu P ob (MC (Dc d')) 15 d' pv pb n (AV.bel M c) (N.bel c) (OT _) BJ (λj=>by have:=J j;omega)).mono ?_;rintro e w' ⟨v',k,rfl,ad,ae,ho,ab⟩;exact⟨v',k,rfl,ad,ae,ho.mono c.size,ab⟩
   .letI:In:=I0
    refine Ah (keep_any (grow F w W) g zn me gd mb gw gc gfr ag P _ pv d' kp sc tk waits out ans v W n (h.nd.bel c) h.dk c hv y aa (by have:=h.lm;omega) ⟨h.fr.h.bel c,h.fr.n7⟩ hme (λj=>(h.kp.lo j).2) (λj=>by have:=J j;omega)) ?_;rintro w' ⟨k1,k2,k3,B⟩;have u:=h.bel c;have G:∀k,(k=g\/k=gfr\/IE n (grow F w W) DZ k)->k<n.heap.size->∃t L,Holds n k t L/\t∈[102,197,125,129,208]:=by
     rintro k (rfl|rfl|⟨_,t,L,h5,ht⟩) _
     .exact⟨_,_,u.nd,Vj⟩
     .exact⟨_,_,u.fr.h,Vj⟩
     .exact⟨_,_,h5,(show ∀t∈DZ,t∈[102,197,125,129,208] by decide) t ht⟩
    have ai:=c.size;have aj:=B.size;have ak:=hmv.size;have A:∀k,grow F w W k->k<n.heap.size->grow F w w' k:=λk l _=>l.imp id λ⟨a,b⟩=>⟨a,BJ⟩;obtain⟨q1,q2,q3,q4,q5,q6,q7,q8⟩:=(u.foot (F':=grow F w w') A).part _ B (λk l y=>.inl (G k l y));refine⟨rfl,d',i,o,⟨gd,mb,gw,gc,gfr,P,pv,0,d',waits,out,ans,k1,k2.foot λk l y=>?_,h.lm,q3 G Iz,k3,q5 Iz,q6 Iz,q7 Iz,q8 Iz,⟨A _ h.f.1 u.nd.lt,A _ h.f.2 u.fr.lt⟩,⟨Iz,λr=>⟨i.nn r,Int.le_refl _⟩,.inl ac⟩,λ_=>Iz⟩,?_⟩
    .rcases l with h|⟨a,b⟩
     .exact h.imp id λ⟨a,b⟩=>⟨a,BJ⟩
     .exact .inr ⟨BJ,b⟩
    .refine(hmv.bel c).part B λk l=>?_;have z:grow F w W k->grow F w n k:=λl=>l.imp id λ⟨a,b⟩=>⟨a,BJ⟩;rcases l with rfl|rfl|l
     .exact z h.f.1
     .exact z h.f.2
     .exact z l.1
 .obtain⟨d',i,o,⟨gd,mb,gw,gc,gfr,P,pv,sc,kp,waits,out,ans,h⟩,hmv⟩:=s;have h':=h;obtain⟨nd,dk,lm,⟨wi,gl,gm,nl,gi,gx,ni,L,E,af,al,xs,ws,H⟩,fr,st,wa,ou,ah,⟨f1,f2⟩,kk,rr⟩:=h'
  letI:=wi
  letI:In:=I0
  refine Ah (aX g zn me gd gw gc gl gm nl gi gfr L af _ _ P _ pv d' kp sc tk waits out ans W nd H.co.hc H.co.lg fr hz.2 hme (λj=>(kk.lo j).1)) ?_;rintro w' c;exact⟨rfl,d',i,o,(show G5 F g me p d' lt tk wz dv ol (CQ p d' me) ((CQ p d me).filter λj=>Dc d' j) lim true w W from⟨⟨gd,mb,gw,gc,gfr,P,pv,sc,kp,waits,out,ans,h⟩,hmv⟩).bel c⟩
theorem WM(w:World)(F:Ap)(B g me:Nat)(p:Nat->Pz)(d:Nat->Int)(lt tk:Int)(wz:Bool)(recs cout:Value)(dv:Nat->Nat->Int)(ol:List Lz)(lim r:Nat)(hme:me<zn) (h:EC w F g me p d lt tk wz recs cout dv [] (CQ p d me) [] lim true) (hr:Tv w B r recs) (ho:Fh w F cout ol.length (FQ dv ol)) (hm:ol.length<=100) (hFB:∀k,B<=k->k<w.heap.size->F k) (hlim:lim<=27000) (hlim2:lim+500*r<=28000) (hd:RV p d) (hry:Ij p d) (hg:wz=true\/∀j,j<zN->isC (p j)=true->(zK j).I.sl<=d (zK j).m+1) :Calls prog 53 #[AP g] w λe w'=>e=.returned (.tuple #[])/\Nk F g me p d lt tk wz dv ol (lim+500*r) true w w':=
 WL w F g me p d lt tk wz dv ol _ hme (by obtain⟨c,n,i,b,f,P,q,s,l,t,o,a,h⟩:=h;exact h.nd.cell 74) (lJ w F B g me p d lt tk wz recs cout dv ol _ lim r true h hr ho hm hFB hlim) hlim2 hd hry hg
end
section
variable [In]
theorem uF(g n me gd gw gc gfr f q:Nat)(x:Cm)(P:Value)(o:Nat->Ow)(pv:Nat->Value)(d kp:Nat->Int)(since tk:Int)(waits out ans:Value)(R1 R2:World->Prop)(w:World)(nd:Holds w g 102 (Ar n me gd gw gc gfr P o pv d kp since tk waits out ans))(hf:f<n) (KL:∀W,Calls prog 72 #[.agg (BC 1 f me q x).toArray] W λe w'=>e=.returned (.bool true)/\Below W.heap.size W w') (KT:∀W,Below w.heap.size w W->Calls prog 75 #[AP gc,.agg (BC 1 f me q x).toArray] W λe w'=>e=.returned (.bool false)/\R1 w') (KS:∀W,R1 W->Calls prog 53 #[AP g] W λe w'=>e=.returned (.tuple #[])/\R2 w') :Calls prog 50 #[AP g,.agg (BC 1 f me q x).toArray] w λe w'=>e=.returned (.bool true)/\R2 w':=by
 obtain⟨KL,KT,KS,c,b⟩:=dD KL KT KS nd (Base.start w);have O:((me:Int)==(me:Int))=true:=Vj
 have N:(f:Int)<(n:Int):=BJ
 clear nd;go_in;go_upto_region 1 with(fail);go_name_world W u;obtain⟨a,z,D⟩:=GI 47 (BC 1 f me q x) u;clear u;obtain⟨c,b⟩:=Ce z c b;clear z D;generalize M:w.heap.size=B at a b KT |-;have p:=qh (BK (cs:=BC 1 f me q x) a.o 0 (by intro j v E;rw[Nat.zero_add];exact E));obtain⟨J,L⟩:=JO a.o 1 2;obtain⟨F,G,H⟩:=kE c.o 0 1 74;refine wp_region_quiet_below ND ND ?_;repeat(first
  | (with_reducible refine qR 0 p.o ?_;simp only[Act.put,List.setIfInBounds_toArray,List.set_cons_succ,List.set_cons_zero])
  | go_big_quiet_step (first
   | (go_at_call 72;with_reducible exact AQ λW _=>KL.o W)))
 refine wpQuiet_nil ?_;intro i A;have y:=Aa A;obtain⟨c,a,b⟩:=D5 y c a b;clear A y J L F G H p;have I:=Am a.o 0;go_upto_region 4 with(fail);clear I;have k:=qh (λ(w':World) (h:Below i.drew.heap.size i.drew w')=>((a.bel (AY _ i)).bel h).Af);obtain⟨c,a,b⟩:=D5 (AY _ i) c a b;refine Ed [5] 6 (λhSn=>?_);generalize i.drew=S at c a b k hSn |-;simp only[List.replicate];refine ES 0 ?_;refine BO 3 [5] (λw l=>Am (c.bel l) 4) ?_;refine JL 4 [5] (some 38) (.agg (BC 1 f me q x).toArray) rfl (yieldsIf_load_mid (by rfl) 47 _ rfl B 0 rfl (BC 1 f me q x) _ (λw l=>k.o w l) underlying47 rfl (by as_aux_lemma=>kernel_rfl)) hSn ?rg5;simp only[Act.put,zA,zB,zC];refine BN 5 rfl (λK t=>?_);go_simp;refine Ah (KT.o _ (b.bel hSn).below) ?_;rintro Q r;have m:=qh r;clear r;refine BR t ?_;clear t;refine BA ?_;clear hSn c a b k KT KL;go_wp2_with fail;refine Ah (KS.o _ m.o) ?_;rintro R s;have C:=qh s;clear s m;go_wp2_with fail;go_ret;exact⟨rfl,C.o⟩
theorem uG(g n me gd gw gc gfr f q:Nat)(x:Cm)(P:Value)(o:Nat->Ow)(pv:Nat->Value)(d kp:Nat->Int)(since tk:Int)(waits out ans:Value)(R1 R2:World->Prop)(w:World)(nd:Holds w g 102 (Ar n me gd gw gc gfr P o pv d kp since tk waits out ans))(hf:f<n) (KL:∀W,Calls prog 72 #[.agg (BC 2 f me q x).toArray] W λe w'=>e=.returned (.bool true)/\Below W.heap.size W w') (KT:∀W,Below w.heap.size w W->Calls prog 75 #[AP gc,.agg (BC 2 f me q x).toArray] W λe w'=>e=.returned (.bool false)/\R1 w') (KS:∀W,R1 W->Calls prog 53 #[AP g] W λe w'=>e=.returned (.tuple #[])/\R2 w') :Calls prog 50 #[AP g,.agg (BC 2 f me q x).toArray] w λe w'=>e=.returned (.bool true)/\R2 w':=by
 obtain⟨KL,KT,KS,c,b⟩:=dD KL KT KS nd (Base.start w);have O:((me:Int)==(me:Int))=true:=Vj
 have N:(f:Int)<(n:Int):=BJ
 clear nd;go_in;go_upto_region 1 with(fail);go_name_world W u;obtain⟨a,z,D⟩:=GI 47 (BC 2 f me q x) u;clear u;obtain⟨c,b⟩:=Ce z c b;clear z D;generalize M:w.heap.size=B at a b KT |-;have p:=qh (BK (cs:=BC 2 f me q x) a.o 0 (by intro j v E;rw[Nat.zero_add];exact E));obtain⟨J,L⟩:=JO a.o 1 2;obtain⟨F,G,H⟩:=kE c.o 0 1 74;refine wp_region_quiet_below ND ND ?_;repeat(first
  | (with_reducible refine qR 0 p.o ?_;simp only[Act.put,List.setIfInBounds_toArray,List.set_cons_succ,List.set_cons_zero])
  | go_big_quiet_step (first
   | (go_at_call 72;with_reducible exact AQ λW _=>KL.o W)))
 refine wpQuiet_nil ?_;intro i A;have y:=Aa A;obtain⟨c,a,b⟩:=D5 y c a b;clear A y J L F G H p;have I:=Am a.o 0;go_upto_region 4 with(fail);clear I;have k:=qh (λ(w':World) (h:Below i.drew.heap.size i.drew w')=>((a.bel (AY _ i)).bel h).Af);obtain⟨c,a,b⟩:=D5 (AY _ i) c a b;refine Ed [5] 6 (λhSn=>?_);generalize i.drew=S at c a b k hSn |-;simp only[List.replicate];refine ES 0 ?_;refine BO 3 [5] (λw l=>Am (c.bel l) 4) ?_;refine JL 4 [5] (some 38) (.agg (BC 2 f me q x).toArray) rfl (yieldsIf_load_mid (by rfl) 47 _ rfl B 0 rfl (BC 2 f me q x) _ (λw l=>k.o w l) underlying47 rfl (by as_aux_lemma=>kernel_rfl)) hSn ?rg10;simp only[Act.put,zA,zB,zC];refine BN 5 rfl (λK t=>?_);go_simp;refine Ah (KT.o _ (b.bel hSn).below) ?_;rintro Q r;have m:=qh r;clear r;refine BR t ?_;clear t;refine BA ?_;clear hSn c a b k KT KL;go_wp2_with fail;refine Ah (KS.o _ m.o) ?_;rintro R s;have C:=qh s;clear s m;go_wp2_with fail;go_ret;exact⟨rfl,C.o⟩
theorem uH(g n me gd gw gc gfr f q:Nat)(x:Cm)(P:Value)(o:Nat->Ow)(pv:Nat->Value)(d kp:Nat->Int)(since tk:Int)(waits out ans:Value)(R1 R2:World->Prop)(w:World)(nd:Holds w g 102 (Ar n me gd gw gc gfr P o pv d kp since tk waits out ans))(hf:f<n) (KL:∀W,Calls prog 72 #[.agg (BC 5 f me q x).toArray] W λe w'=>e=.returned (.bool true)/\Below W.heap.size W w') (KT:∀W,Below w.heap.size w W->Calls prog 75 #[AP gc,.agg (BC 5 f me q x).toArray] W λe w'=>e=.returned (.bool false)/\R1 w') (KS:∀W,R1 W->Calls prog 53 #[AP g] W λe w'=>e=.returned (.tuple #[])/\R2 w') :Calls prog 50 #[AP g,.agg (BC 5 f me q x).toArray] w λe w'=>e=.returned (.bool true)/\R2 w':=by
 obtain⟨KL,KT,KS,c,b⟩:=dD KL KT KS nd (Base.start w);have O:((me:Int)==(me:Int))=true:=Vj
 have N:(f:Int)<(n:Int):=BJ
 clear nd;go_in;go_upto_region 1 with(fail);go_name_world W u;obtain⟨a,z,D⟩:=GI 47 (BC 5 f me q x) u;clear u;obtain⟨c,b⟩:=Ce z c b;clear z D;generalize M:w.heap.size=B at a b KT |-;have p:=qh (BK (cs:=BC 5 f me q x) a.o 0 (by intro j v E;rw[Nat.zero_add];exact E));obtain⟨J,L⟩:=JO a.o 1 2;obtain⟨F,G,H⟩:=kE c.o 0 1 74;refine wp_region_quiet_below ND ND ?_;repeat(first
  | (with_reducible refine qR 0 p.o ?_;simp only[Act.put,List.setIfInBounds_toArray,List.set_cons_succ,List.set_cons_zero])
  | go_big_quiet_step (first
   | (go_at_call 72;with_reducible exact AQ λW _=>KL.o W)))
 refine wpQuiet_nil ?_;intro i A;have y:=Aa A;obtain⟨c,a,b⟩:=D5 y c a b;clear A y J L F G H p;have I:=Am a.o 0;go_upto_region 4 with(fail);clear I;have k:=qh (λ(w':World) (h:Below i.drew.heap.size i.drew w')=>((a.bel (AY _ i)).bel h).Af);obtain⟨c,a,b⟩:=D5 (AY _ i) c a b;refine Ed [5] 6 (λhSn=>?_);generalize i.drew=S at c a b k hSn |-;simp only[List.replicate];refine ES 0 ?_;refine BO 3 [5] (λw l=>Am (c.bel l) 4) ?_;refine JL 4 [5] (some 38) (.agg (BC 5 f me q x).toArray) rfl (yieldsIf_load_mid (by rfl) 47 _ rfl B 0 rfl (BC 5 f me q x) _ (λw l=>k.o w l) underlying47 rfl (by as_aux_lemma=>kernel_rfl)) hSn ?rg15;simp only[Act.put,zA,zB,zC];refine BN 5 rfl (λK t=>?_);go_simp;refine Ah (KT.o _ (b.bel hSn).below) ?_;rintro Q r;have m:=qh r;clear r;refine BR t ?_;clear t;refine BA ?_;clear hSn c a b k KT KL;go_wp2_with fail;refine Ah (KS.o _ m.o) ?_;rintro R s;have C:=qh s;clear s m;go_wp2_with fail;go_ret;exact⟨rfl,C.o⟩
end
section
open Rz (zn zN zp zK)
variable [Rz]
def CP(w:World)(F:Ap)(g me:Nat)(p:Nat->Pz)(d:Nat->Int)(lt tk:Int)(wz:Bool)(dv:Nat->Nat->Int)(ol:List Lz)(al:List Nat):Prop:=
 EC w F g me p d lt tk wz AL AL dv ol (CQ p d me) al (200+500*EI p) true
def Wh(F:Ap)(g me:Nat)(p:Nat->Pz)(d:Nat->Int)(lt tk:Int)(wz:Bool)(dv:Nat->Nat->Int)(ol:List Lz)(w w':World):Prop:=
 ∃d',Ko p d'/\(∀r,d r<=d' r)/\CP w' (grow F w w') g me p d' lt tk wz dv ol ((CQ p d me).filter λj=>Dc d' j)/\Mv F w w'
section
variable {w w':World} {F G F':Ap} {g me:Nat} {p p':Nat->Pz} {d d':Nat->Int} {lt tk lt' tk':Int} {wz wz':Bool} {recs cout recs' cout':Value} {dv:Nat->Nat->Int} {ol ol':List Lz} {wl al wl' al':List Nat} {lim lim':Nat} {rs rs':Bool}
 {gd mb mb' gw gc gfr:Nat} {P P':Value} {pv pv':Nat->Value} {sc sc':Int} {kp kp':Nat->Int} {waits out ans waits' out' ans':Value}
theorem Dx.qI(h:Dx w F g me p d lt tk wz recs cout dv ol wl al lim rs gd mb gw gc gfr P pv sc kp waits out ans)(hm:Mv (Jg w F) w w')(hc:Ea w' (grow F w w') gc me p' lt wz recs' cout') :Dx w' (grow F w w') g me p' d lt tk wz recs' cout' dv ol wl al lim rs gd mb gw gc gfr P pv sc kp waits out ans:=by obtain⟨b,c,q,i,j,l,m,n⟩:=(h.foot (F':=grow F w w') λk a _=>.inl a).part Hq hm (λk a o=>a.2);exact⟨b Iz,c Iz,h.lm,hc,i Iz,j Iz,l Iz,m Iz,n Iz,⟨.inl h.f.1,.inl h.f.2⟩,h.kp,h.rs⟩
theorem EC.yM(h:EC w F g me p d lt tk wz recs cout dv ol wl al lim rs)(hl:lim<=lim'):EC w F g me p d lt tk wz recs cout dv ol wl al lim' rs:=by obtain⟨r,x,t,q,s,P,A,B,u,C,z,n,y,o,v,a,b,c,f,i,j,k,l,m⟩:=h;exact⟨r,x,t,q,s,P,A,B,u,C,z,n,y,o,Nat.le_trans v hl,a,b,c,f,i,j,k,l,m⟩
theorem Po{j:Nat}{x:Pz}(h:Ij p d)(hd:∀i,i<zp->i<j->Dc d i=true):Ij (CE p j x) d:=λi f a k b c=>by
 by_cases e:i=j
 .subst e;exact hd k b c
 .rw[Bi e] at a;exact h i f a k b c
theorem Yh{j:Nat}{x:Pz}(h:Ko p d)(hx:isC (p j)=true->isC x=true):RV (CE p j x) d:=h.pre λi a=>by
 by_cases e:i=j
 .subst e;rw[DU];exact hx a
 .rw[Bi e];exact a
theorem jk{j:Nat}{x:Pz}(hx:(zK j).m=me->Jm x=Jm (p j)):CQ (CE p j x) d me=CQ p d me:=aY λi b a=>by
 by_cases e:i=j
 .subst e;rw[DU];exact⟨hx a,rfl⟩
 .rw[Bi e];exact⟨rfl,rfl⟩
theorem UQ(h:wz=true\/∀i,zp<=i->i<zN->Jm (p i)=true)(hr:Ij p d)(hd:∀r,0<=d r):wz=true\/∀j,j<zN->isC (p j)=true->(zK j).I.sl<=d (zK j).m+1:=by
 refine h.imp id λh j g k=>?_;have f:=Gn k;have n:j<zp:=by refine Decidable.byContradiction λo=>?_;rw[h j BJ g] at f;cases f
 by_cases l:(zK j).I.sl<=1
 .have:=hd (zK j).m;omega
 .obtain⟨i,a,b,c⟩:=Un g (s:=(zK j).I.sl-1) BJ BJ;have:=Vh.1 (hr j g f i BJ a);rw[b] at this;omega
theorem F8{j:Nat}{x:Pz}(h:wz=true\/(j<zp/\∀i,zp<=i->i<zN->Jm (p i)=true)):wz=true\/∀i,zp<=i->i<zN->Jm (CE p j x i)=true:=
 h.imp id λh i b a=>by rw[Bi BJ];exact h.2 i b a
end
theorem Gt(w:World)(F:Ap)(g me:Nat)(p:Nat->Pz)(d:Nat->Int)(lt tk:Int)(wz:Bool)(dv:Nat->Nat->Int)(j:Nat)(x:Pz)(r:Nat)(out:List Lz)(X:Value)(hme:me<zn) (gd mb gw gc gfr:Nat) (P:Value) (pv:Nat->Value) (sc:Int) (kp:Nat->Int) (waits out0 ans:Value) (h:Dx w F g me p d lt tk wz AL AL dv [] (CQ p d me) [] (200+500*EI p) true gd mb gw gc gfr P pv sc kp waits out0 ans) (NT:∀R1 R2:World->Prop,(∀W,Below w.heap.size w W->Calls prog 75 #[AP gc,X] W λe w'=>e=.returned (.bool false)/\R1 w')->(∀W,R1 W->Calls prog 53 #[AP g] W λe w'=>e=.returned (.tuple #[])/\R2 w') ->Calls prog 50 #[AP g,X] w λe w'=>e=.returned (.bool true)/\R2 w') (KC:∀W,Ea W F gc me p lt wz AL AL->Calls prog 75 #[AP gc,X] W λe w'=>e=.returned (.bool false)/\GK F gc me (CE p j x) lt wz r out.length (FQ dv out) W w') (hD:Ko p d) (hR:Ij p d) (hx:isC (p j)=true->isC x=true) (hdn:∀i,i<zp->i<j->Dc d i=true) (hw:(zK j).m=me->Jm x=Jm (p j)) (hr:EI p+r<=EI (CE p j x)) (hm:out.length<=100) (hg:wz=true\/∀i,zp<=i->i<zN->Jm (CE p j x i)=true) :Calls prog 50 #[AP g,X] w λe w'=>e=.returned (.bool true)/\Wh F g me (CE p j x) d lt tk wz dv out w w':=by
 have H:=FO (CE p j x);refine NT (λc=>∃W n l,w.heap.size<=W.heap.size/\W.heap.size<=c.heap.size/\Mv F w c/\EC c (grow F W c) g me (CE p j x) d lt tk wz n l dv [] (CQ (CE p j x) d me) [] (200+500*EI p) true/\Tv c W.heap.size r n/\Fh c (grow F W c) l out.length (FQ dv out)) _ (λW q=>?_) (λc A=>?_)
 .have hb1:=h.bel q;refine Ah (KC W hb1.co) ?_;rintro J ⟨n,l,u,v,y,o⟩;have s:=hb1.qI o u;rw[<-jk (x:=x) hw] at s;exact⟨rfl,W,n,l,q.size,o.size,(Mv.of_below q).mv o λk f=>.inl f.1,⟨gd,mb,gw,gc,gfr,P,pv,sc,kp,waits,out0,ans,s⟩,v,y⟩
 .obtain⟨W,n,l,r1,r2,r3,r4,r5,r6⟩:=A;refine Ah (WM c (grow F W c) W.heap.size g me (CE p j x) d lt tk wz n l dv out (200+500*EI p) r hme r4 r5 r6 hm (λk f B=>.inr ⟨f,B⟩) BJ BJ (Yh hD hx) (Po hR hdn) (UQ hg (Po hR hdn) hD.nn)) ?_;rintro w' ⟨z,E,G,C,t⟩;have D:=t.size;refine⟨rfl,z,E,G,(EC.yM C BJ).foot λk f I=>?_,r3.mv t λk f=>f.imp id λ⟨a,_⟩=>Nat.le_trans r1 a⟩;rcases grow_step r2 D f with h|⟨a,b⟩
  .exact .inl h
  .exact .inr ⟨Nat.le_trans r1 a,b⟩
theorem Zu(w:World)(F:Ap)(g:Nat)(p:Nat->Pz)(d:Nat->Int)(lt tk:Int)(wz:Bool)(dv:Nat->Nat->Int)(m:Lz)(h:CP w F g m.t p d lt tk wz dv [] [])(hD:Ko p d)(hR:Ij p d)(hj:m.j<zN)(hl:qo (zK m.j).m (p m.j) m)(hdn:∀i,i<zp->i<m.j->Dc d i=true)(hg:wz=true\/(m.j<zp/\∀i,zp<=i->i<zN->Jm (p i)=true)) :Calls prog 50 #[AP g,.agg (FM dv m).toArray] w λe w'=>e=.returned (.bool true)/\Wh F g m.t (CE p m.j (DJ zn (p m.j) m).1) d lt tk wz dv (DJ zn (p m.j) m).2 w w':=by
 obtain⟨r,H,u,q,s,P,z,B,v,C,y,o,h⟩:=h;have Y:=uo;obtain⟨k,f,t,j⟩:=m;obtain⟨D,n,l,hl⟩:=hl;simp only at h hj D n l hl hdn |-
 letI:In:=(zK j).I
 have X:=pg j;have T:=Rz.c j hj;have O:=λJ K=>uF g zn t r u q s f (zK j).m (zK j).c P _ z d v B tk C y o J K w h.nd D (Xp f t (zK j).m (zK j).c T.right BJ BJ BJ l);have L:=λJ K=>uG g zn t r u q s f (zK j).m Cm.zero P _ z d v B tk C y o J K w h.nd D (Xq f t (zK j).m BJ BJ BJ l);have Q:=λJ K=>uH g zn t r u q s f (zK j).m (zK j).c P _ z d v B tk C y o J K w h.nd D (Xr f t (zK j).m (zK j).c T.right BJ BJ BJ l);rcases hl with⟨rfl,rfl,a|a⟩|⟨rfl,rfl,⟨A,a,S,R⟩|a⟩|⟨rfl,a,V⟩
 .have e:DJ zn (p j) ⟨1,(zK j).m,t,j⟩=(.pre,[⟨2,t,(zK j).m,j⟩]):=by rw[a];rfl
  rw[e];have G:=SN hj a;exact Gt w F g t p d lt tk wz dv j .pre 1 _ _ n r H u q s P z B v C y o h O (λW b=>dV dv b hD hR hj a hdn rfl n l) hD hR (λh=>by rw[a] at h;cases h) hdn (λh=>absurd h l) BJ Vj (F8 hg)
 .have e:DJ zn (p j) ⟨1,(zK j).m,t,j⟩=(.com,[⟨5,t,(zK j).m,j⟩]):=by rw[a];rfl
  rw[e];have E:CE p j .com=p:=O4 a;exact Gt w F g t p d lt tk wz dv j .com 0 _ _ n r H u q s P z B v C y o h O (λW b=>by rw[E];exact VL dv b hj a rfl n l) hD hR (λ_=>rfl) hdn (λh=>absurd h l) (by rw[E];omega) Vj (F8 hg)
 .by_cases hlt:A.length+3<zn
  .have e:DJ zn (p j) ⟨2,f,(zK j).m,j⟩=(.lead (A++[f]),[]):=by rw[a];unfold DJ;simp[hlt]
   rw[e];have G:=IG (x:=.lead (A++[f])) hj (p:=p);rw[a] at G;simp only[cst] at G;exact Gt w F g (zK j).m p d lt tk wz dv j (.lead (A++[f])) 0 [] _ n r H u q s P z B v C y o h L (λW b=>(VK dv b hj a R S rfl D l).mono λe w' ⟨M,N⟩=>⟨M,N.elim (·.2) λh=>absurd hlt h.1⟩) hD hR (λh=>by rw[a] at h;cases h) hdn (λ_=>by rw[a];rfl) BJ Vj (F8 hg)
  .have e:DJ zn (p j) ⟨2,f,(zK j).m,j⟩=(.com,Fj zn (zK j).m j):=by rw[a];unfold DJ;simp[hlt]
   rw[e];have G:=Ll (p:=p) hj (by rw[a];rfl);have U:(Fj zn (zK j).m j).length<=100:=by have:=(Pn dv 5 (zK j).m j rfl (.inr rfl)).1;unfold Fj;omega
   exact Gt w F g (zK j).m p d lt tk wz dv j .com 1 _ _ n r H u q s P z B v C y o h L (λW b=>(VK dv b hj a R S rfl D l).mono λe w' ⟨M,N⟩=>⟨M,N.elim (λh=>absurd h.1 hlt) (·.2)⟩) hD hR (λ_=>rfl) hdn (λ_=>by rw[a];rfl) G U (F8 hg)
 .have e:DJ zn (p j) ⟨2,f,(zK j).m,j⟩=(.com,[]):=by rw[a];rfl
  rw[e];have E:CE p j .com=p:=O4 a;exact Gt w F g (zK j).m p d lt tk wz dv j .com 0 [] _ n r H u q s P z B v C y o h L (λW b=>by rw[E];exact ZH dv _ b hj a D n l) hD hR (λ_=>rfl) hdn (λ_=>by rw[a]) (by rw[E];omega) Vj (F8 hg)
 .by_cases hcm:p j=.com
  .have e:DJ zn (p j) ⟨5,f,t,j⟩=(.com,[]):=by rw[hcm];rfl
   rw[e];have E:CE p j .com=p:=O4 hcm;exact Gt w F g t p d lt tk wz dv j .com 0 [] _ n r H u q s P z B v C y o h Q (λW b=>by rw[E];exact UK dv _ b hj hcm D n l) hD hR (λ_=>rfl) hdn (λ_=>by rw[hcm]) (by rw[E];omega) Vj (F8 hg)
  .have hp2:p j=.fresh\/p j=.pre:=by
    rcases a with h|h|h
    .exact .inl h
    .exact .inr h
    .exact absurd h hcm
   have e:DJ zn (p j) ⟨5,f,t,j⟩=(.com,[]):=by rcases hp2 with h|h<;>rw[h]<;>rfl
   rw[e];have G:=Ll (p:=p) hj (by rcases hp2 with h|h<;>rw[h]<;>rfl);exact Gt w F g t p d lt tk wz dv j .com 1 [] _ n r H u q s P z B v C y o h Q (λW b=>ZI dv _ b hj hp2 D n l) hD hR (λ_=>rfl) hdn (λh=>absurd (V h.symm) hcm) G Vj (F8 hg)
end
theorem nG[CO](g n me gd mb gw gc gl gi gfr mo:Nat)(F:Ap)(leads:Value)(P:Value)(o:Nat->Ow)(pv:Nat->Value)(d kp:Nat->Int)(since tk:Int)(waits ans W0:Value)(obo:Option Nat)(xo:List Value)(w:World) (nd:Holds w g 102 (Ar n me gd gw gc gfr P o pv d kp since tk waits W0 ans)) (dk:Dw w F gd gw mb) (hc:Holds w gc 163 (BG n me gl gi leads AL AL)) (hwo:AV w W0 obo 47 51 mo xo) (hmb:mb<=28000) :Calls prog 90 #[AP g] w λe w'=>e=.returned (.bool true)/\Holds w' g 102 (Ar n me gd gw gc gfr P o pv d kp since tk waits W0 ans)/\Dw w' (grow F w w') gd gw mb /\Holds w' gc 163 (BG n me gl gi leads AL AL)/\AV w' W0 obo 47 51 mo xo/\Mv (λk=>k=g\/k=gc\/IE w F DZ k) w w':=by
 have A:gc≠g:=hc.ne_of nd Iz;have B:∀k,obo=some k->k≠g/\k≠gc:=λk f=>⟨AV.ne_of hwo nd Iz k f,AV.ne_of hwo hc Iz k f⟩;obtain⟨I,z,rfl⟩:∃p c,W0=.slice p (mo:Nat) c:=by
  rcases hwo.cases with⟨r,_,U,_⟩|⟨_,_,_,r,_⟩
  .rw[r,U];exact⟨_,_,rfl⟩
  .exact⟨_,_,r⟩
 obtain⟨y,K,i,j,x,m⟩:=mG (λW (h:Holds W gc 163 (BG n me gl gi leads AL AL))=>Og gc n me gl gi leads _ _ W h) (λW h=>qF gw gd mb F W h) nd dk hc hwo;have X:g<w.heap.size/\gc<w.heap.size:=⟨nd.lt,hc.lt⟩;have C:∀k,k=gc->k<w.heap.size->DN w F GN k:=λk f _=>f▸.inl (.inr ⟨_,_,hc,Iz⟩);have V:∀q,Mv (λk=>k=g\/k=gc) w q->Holds q g 102 (Ar n me gd gw gc gfr P o pv d kp since tk waits (.slice I (mo:Nat) z) ans)->Holds q gc 163 (BG n me gl gi leads AL AL)->∀k,IE q F DZ k->IE w F DZ k\/w.heap.size<=k:=λq O Q M=>IE.back O (λk f=>by
  rcases f with rfl|rfl
  .exact IE.not Q Iz
  .exact IE.not M Iz)
 clear nd dk hc hwo;have l:=qh (Mv.refl (λk=>k=g\/k=gc) w);go_in;have T:=Am i.o 4;go_wp2_with fail;refine(y.o _ x.o).mono ?_;clear x y;rintro e w1 ⟨rfl,E,H⟩;have s:Mv (λk=>k=gc) w w1:=Mv.AZ H rfl;obtain⟨v,i,j,m,l⟩:=dD E (i.mv s (Ne.symm A)) (j.away s C (λ_ h=>h)) (m.mv s (λk f=>(B k f).2)) (l.mv s (λk f=>.inl (.inr f)));clear E H s T C;go_wp2_with fail;go_loopw [17] (λJ wr=>J=AA 0/\w1=wr) (λJ _=>0);case atStart=>exact⟨rfl,rfl⟩
 case round=>obtain⟨rfl,rfl⟩:=hrel;have S:=Am i.o 3;go_wp2_with fail;refine Ah (K.o _ j.o) ?_;rintro u D;obtain⟨i,v,l,m,j⟩:=Gj D i v l m j;have Y:=l.size;obtain⟨j,l⟩:=WZ (j.foot (F':=grow F w u) λk f _=>.inl f) (l.more (G:=λk=>k=g\/k=gc\/IE w F DZ k) (λk f=>f.imp id .inl));clear D S;have Z:=Am i.o 72;go_wp2_with (first|(at_builtin;refine Dn rfl (.tmp 41) (.tmp 42) 34 rfl 47 (.agg EX.toArray) 51 480 rfl ND _ obo mo xo rfl m.o rfl ?_)|(refine sC 72 i.o (.slice I (mo:Nat) z) ?_;intro w7 N R));have t:Mv (λk=>k=g) u w7:=Mv.AZ R rfl;have L:∀k,k=g->k<u.heap.size->DN u (grow F w u) GN k:=λk f _=>f▸.inl (.inr ⟨_,_,i.o,Iz⟩);go_ret;exact⟨rfl,N,(j.away t L (λ_ h=>h)).foot (λk f _=>f.imp id λ⟨a,b⟩=>⟨a,Nat.lt_of_lt_of_le b t.size⟩),v.mv t A,m.mv t (λk f=>(B k f).1),l.mv t (λk f=>.inl (.inl f))⟩
section
variable [In]
theorem yD(g n me gd gw gc gfr:Nat)(P:Value)(o:Nat->Ow)(pv:Nat->Value)(d kp:Nat->Int)(since tk:Int)(waits out ans:Value)(w:World)(nd:Holds w g 102 (Ar n me gd gw gc gfr P o pv d kp since tk waits out ans)) :Calls prog 54 #[AP g] w λe w'=>e=.returned (.tuple #[out,ans])/\Holds w' g 102 (Ar n me gd gw gc gfr P o pv d kp since tk waits AL AL)/\Touch g w w':=by obtain⟨a,b⟩:=WZ nd (Touch.refl g w);clear nd;go_in;obtain⟨q,r⟩:=Cf a.o 72 73;go_upto_region 1 with(fail);go_quiet (fail);have c:Below w.heap.size w (w.drewN nq):=Bg _ _ _;obtain⟨a,b⟩:=Ce c a b;clear c q r;generalize w.drewN nq=u at a b |-;go_wp2_with (first|(refine sC 72 a.o AL ?_;intro s f i;obtain⟨k,m⟩:=WZ (show Holds s g 102 (Ar n me gd gw gc gfr P o pv d kp since tk waits AL ans) from f) (b.trans i);clear f i)|(refine sC 73 k.o AL ?_;intro t h j;obtain⟨l,p⟩:=WZ (show Holds t g 102 (Ar n me gd gw gc gfr P o pv d kp since tk waits AL AL) from h) (m.trans j);clear h j));refine b2 (v:=.tuple #[out,ans]) ?_;exact⟨rfl,l.o,p.o⟩
end
end Go.Proofs.YtimdpiifpibgfaaGreatDoor
