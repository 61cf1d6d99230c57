/- A part of the proof of TopReads. -/
import Derived.Test.YtimdpiifpibgfaaGreatDoorQr42
set_option linter.all false
set_option maxRecDepth 20000
set_option maxHeartbeats 16000000
open Go.RowKit Go.Maps
namespace Go.Proofs.YtimdpiifpibgfaaGreatDoor
open Tryz
section
open Rz (zn zN zp zK)
variable [Rz]
theorem jQ{j:Nat}(hj:j<zN):(Js j).ps=[]:=by
 unfold Js Dy;by_cases h:j<zp
 .rw[if_neg (by rw[Rz.put j h];decide),if_pos (Rz.put j h)]
 .rw[if_pos (Rz.get j BJ hj)]
theorem mM{an:List An}{al:List Nat}(h:an.map An.key=al.map (λj=>(cK (zK j).c,(zK j).c.s,Js j))){a:An}(ha:a∈an):∃j∈al,a.k=cK (zK j).c/\a.s=(zK j).c.s/\a.r=Js j:=by have:=List.mem_map_of_mem (f:=An.key) ha;rw[h] at this;obtain⟨j,l,d⟩:=List.mem_map.1 this;unfold An.key at d;injection d with g b;injection b with b i;exact⟨j,l,g.symm,b.symm,i.symm⟩
theorem UY{β:Type}{an:List An}{al:List Nat}(h:an.map An.key=al.map (λj=>(cK (zK j).c,(zK j).c.s,Js j)))(f:Nat × Int × Rep->β):an.map (λa=>f a.key)=al.map λj=>f (cK (zK j).c,(zK j).c.s,Js j):=by have:=congrArg (List.map f) h;rw[List.map_map,List.map_map] at this;exact this
theorem Ye(w:World)(own:Nat->Nat)(gC i:Nat)(s:Mz)(cm:Nat->Cm)(wt:Nat->Bool)(ev:List Ev)(lt:Nat->Int)(tk:Nat->Nat)(wz:Bool)(ol:Nat->List Lz)(al:Nat->List Nat)(h:NY w own gC s cm wt ev lt tk wz ol al)(hi:i<zn)(hol:∀j,j≠i->ol j=[])(han:∀j,j≠i->al j=[]) (hal:∀j∈al i,j<zN/\cm (cK (zK j).c)=(zK j).c/\wt (cK (zK j).c)=true) (hnd:((al i).map λj=>cK (zK j).c).Nodup) (hle:ev.length+(al i).length<=1000) (hl:∀m∈ol i,m.t<zn) (hlen:s.lets.length+(ol i).length<=1000) :Calls prog 31 #[AP gC,AA i] w λe w'=>e=.returned (.tuple #[])/\∃own',NY w' own' gC { s with lets:=s.lets++ol i } cm (λk=>wt k&&!((al i).any λj=>k==cK (zK j).c)) (ev++(al i).map Oz) lt tk wz (λ_=>[]) (λ_=>[])/\Stepped w own w' own':=by
 obtain⟨R,U,Q,T,O,S,lv,Z,p,gcl,d,hN⟩:=h;have au:=hN i hi;obtain⟨rN,av⟩:=d.np;obtain⟨rC,aj⟩:=d.cp;obtain⟨CA,ah,a6,ak⟩:=d.calls;obtain⟨obl,X,G⟩:=d.lts;obtain⟨obh,a5,a4,W,M,aa⟩:=d.his;obtain⟨o,a,a2,q,F,KO⟩:=jB w (λk=>own k=2+i) (p i) i _ _ _ _ wz s.dv _ _ au;have a7:q.length=(al i).length:=by have:=congrArg List.length F;rwa [List.length_map,List.length_map] at this
 have ai:∀j,j<zN->cK (zK j).c<8:=λj y=>by have:=(Rz.c j y).cc;unfold cK;omega
 letI:In:=I0
 refine(dW gC U T O S zn Q i s.lets.length (ol i).length gcl rC CA (λk=>(cm k).s) cm wt q ev a5 a4 p rN R lv Z (EO s.dv s.lets) (λj=>((ol i).getD j ⟨9,0,0,0⟩).t) (FQ s.dv (ol i))
  (λw J=>CP J (λk=>own k=2+i) (p i) i (s.P i) (s.D i) (lt i) (tk i) wz s.dv [] []/\own (p i)=2+i/\Mv (λk=>k=p i) w J) w (λx hx=>?_) ?_ BJ d.cl av hi d.cN (λj=>Ic _ _) (λj u hu=>QX _ _ u hu) (λj _=>Vo _ _) (λj w=>iJ _ _ w) (λj y=>?_) hlen ?_).mono ?_
 .obtain⟨j,y,e1,e2,e3⟩:=mM F hx;obtain⟨f,r,z⟩:=hal j y;have h8:=ai j f;refine⟨BJ,by rw[e1,e2,r],by rw[e1];exact z,by rw[e3,jQ f];decide,λt v Z=>?_⟩;exact ak x.k BJ t v Z
 .have:=UY F (λx=>x.1);rw[show q.map An.k=_ from this];exact hnd
 .have hj2:(ol i).getD j ⟨9,0,0,0⟩∈ol i:=by rw[List.getD_eq_getElem?_getD,List.getElem?_eq_getElem y];exact List.getElem_mem y
  exact hl _ hj2
 .refine KO.mono ?_;rintro e J ⟨rfl,ar,ag,Y,V,A⟩;obtain⟨_,a3,aw,ax⟩:=ar;have B:∀k,own k=1->k≠p i:=λk b he=>by rw[he] at b;omega
  refine⟨o,a,a3,obl,a2,obh,rfl,⟨Y,V,A⟩,d.cl.mv A (B _ d.ow.1),aw,X.mv A (λg l=>B _ (G g l)),λk b ao=>?_,ag,W.keep A (λg l=>B _ (M g l)) (λI r g l=>B _ (aa I r g l)),aj.mv A (B _ d.ow.2.2.1),ah.mv A (B _ d.ow.2.2.2),d.cs.mv A λk b=>B _ (d.clo k b)⟩;have f:=ax k b;have r:=G k ao;omega
 .rintro e w' ⟨rfl,J,obl',obh',lv',ob',⟨Y,V,hm1⟩,hlx1,hhx1,hob',hv',ob2,pv',pb',hc',hl',hh',hobh',hpb',hcs',hm2⟩;obtain rfl:obl'=obl:=by rw[<-hlx1.ob,<-X.ob]
  obtain rfl:obh'=obh:=by rw[<-hhx1.1.ob,<-W.1.ob]
  have az:=hm1.size;have a0:=hm2.size;have a1:w.heap.size<=w'.heap.size:=Nat.le_trans az a0;have H:∀k,own k≠0->k<w.heap.size:=d.lt;have C:∀k,k<w.heap.size->Cb own w w' 1 k=own k:=λk b=>Ez _ _ _ _ _ b;have K:Mv (λk=>k=p i\/k=gC\/obl'=some k\/obh'=some k\/∃c,c<8/\k=gcl c) w w':=(hm1.more λk b=>.inl b).mv hm2 λk b=>.inl (.inr b);have ac:∀k,(k=p i\/k=gC\/obl'=some k\/obh'=some k\/∃c,c<8/\k=gcl c)->own k=1\/own k=2+i:=by
   rintro k (rfl|rfl|b|b|⟨c,E,rfl⟩)
   .exact .inr V
   .exact .inl d.ow.1
   .exact .inl (G k b)
   .exact .inl (M k b)
   .exact .inl (d.clo c E)
  have hP:kJ own w (λk=>k=p i\/k=gC\/obl'=some k\/obh'=some k\/∃c,c<8/\k=gcl c) [85,47,55,132]:=by
   rintro k (rfl|rfl|b|b|⟨c,E,rfl⟩) _
   .exact .inl BJ
   .exact .inr ⟨_,_,d.cl,Vj⟩
   .obtain⟨L,hL⟩:=IL X k b;exact .inr ⟨_,_,hL,Vj⟩
   .obtain⟨L,hL⟩:=IL W.1 k b;exact .inr ⟨_,_,hL,Vj⟩
   .obtain⟨tg,tk,f⟩:=d.cs c E;exact .inr ⟨_,_,(show Holds w _ 132 _ from f),Vj⟩
  have ad:∀{ae N:Option Nat} {t:TypeId} {v:Value} {s n:Nat} {xs:List Value},AV w' v N t s n xs->(N=ae\/∃k,N=some k/\J.heap.size<=k)->(∀g,ae=some g->own g=1)->∀g,N=some g->Cb own w w' 1 g=1:=λhx ay f g l=>by
   rcases ay with z|⟨k,z,h4⟩
   .have h5:=f g (z▸l);rw[C g (H g BJ),h5]
   .rw[z] at l;cases l;exact Fv _ _ _ _ _ BJ (hx.lt _ z)
  have am:q.map (retA cm)=(al i).map Oz:=by
   have f:=UY F (λx=>WC x.1 (cm x.1) x.2.2);have r:q.map (retA cm)=q.map (λa=>WC a.key.1 (cm a.key.1) a.key.2.2):=rfl;rw[r,f];refine List.map_congr_left λj y=>?_;show WC _ (cm _) _=_;rw[(hal j y).2.1]
   rfl
  rw[am] at hh' hpb';have aq:=IJ s.dv s.lets (ol i);have af:U6 w' (Cb own w w' 1) gC cm (λk=>wt k&&!((al i).any λj=>k==cK (zK j).c)) (s.lets++ol i) s.dv (ev++(al i).map Oz) R U Q T O S lv' hv' p gcl:=by
   refine d.turn K hP C Iz (JZ H a1) hc' (hcs'.MH λk _=>?_) (d.gG K hP Iz) ⟨ob',?_,ad hl' hob' G⟩ ⟨ob2,pv',pb',hh',ad hh'.1 hobh' M,λI ab g l=>?_⟩
   .have f:=UY F (λx=>k==x.1);have r:q.any (λa=>k==a.k)=(al i).any λj=>k==cK (zK j).c:=by
     have z:(q.map λa=>k==a.key.1).any id=q.any λa=>k==a.k:=by rw[List.any_map];rfl
     rw[<-z,f,List.any_map]
     rfl
    show (wt k&&!((al i).any λj=>k==cK (zK j).c))=(wt k&&!(q.any λa=>k==a.k));rw[r]
   .rw[List.length_append,<-aq];exact hl'
   .rcases hpb' I ab g l with⟨f,r⟩|f
    .have:=aa I f g r;rw[C g (H g BJ),this]
    .exact Fv _ _ _ _ _ BJ (AV.lt (hh'.2 I ab) g l)
  refine⟨rfl,Cb own w w' 1,⟨R,U,Q,T,O,S,lv',hv',p,gcl,af,λj y=>?_⟩,C,K.more λk b=>?_⟩
  .by_cases hji:j=i
   .subst hji;have f:=Y.mv hm2 λk b ap hf=>by
     rcases b with rfl|b|b|⟨c,E,rfl⟩
     .have:=d.ow.1;omega
     .have:=G k b;omega
     .have:=M k b;omega
     .have:=d.clo c E;omega
    exact f.foot λk b _=>by rw[C k (H k BJ)];exact b
   .have h0:=hN j y;rw[hol j hji,han j hji] at h0;have f:=h0.mv K λk b ap hf=>by rcases ac k b with h|h<;>omega
    exact f.foot λk b _=>by rw[C k (H k BJ)];exact b
  .rcases ac k b with h|h<;>omega
end
section
open Rz (zn zN zp zK)
variable [Rz]
theorem Zr(p:Nat->Pz)(d:Nat->Int)(t:Nat):PW p d d t=[]:=O5
structure qj(s s':Mz)(k t:Nat)(l:List Lz)(al:List Nat):Prop where
 le:s'.lets=s.lets.eraseIdx k++l
 ok:JC s'
 wt:s'.wt<s.wt
 J:s'.J=s.J
 dv:s'.dv=s.dv
 ht:t<zn
 D:∀r,r≠t->s'.D r=s.D r
 hle:∀r,s.D t r<=s'.D t r
 ha:al=PW (s'.P t) (s.D t) (s'.D t) t
theorem uQ{m:Lz}{p:Pz}(hf:m.f<zn):∀x∈(DJ zn p m).2,x.t<zn:=by
 obtain⟨k,f,t,j⟩:=m;intro x a;unfold DJ at a;split at a
 .cases p<;>simp at a<;>rw[a]<;>exact hf
 .split at a
  .cases p with
   | lead A=>
    simp only at a;split at a
    .simp at a
    .exact(L6.1 a).2.2.2.1
   | _=>simp at a
  .split at a
   .cases p<;>simp at a
   .simp at a
theorem sQ(w:World)(own:Nat->Nat)(gC k:Nat)(s:Mz)(ev:List Ev)(lt:Nat->Int)(tk:Nat->Nat)(wz:Bool)(h:Fg w own gC s ev lt tk wz)(hM:JC s)(hE:O8 s ev)(hk:k<s.lets.length)(hw:s.wt<=900)(hz:wz=true\/s.J<=zp) :Calls prog 27 #[.pointer (some ⟨gC,0,none⟩),.agg (Ee 2 k).toArray] w λe w'=>e=.returned (.bool true)/\∃own' s' ev',Fg w' own' gC s' ev' lt tk wz/\JC s'/\O8 s' ev'/\s'.wt<s.wt/\s'.J=s.J/\s'.dv=s.dv/\Stepped w own w' own':=by
 obtain⟨dvv,gN,cN,gCl,cCl,gCa,lv,hvv,gs,gcl,hB,hN⟩:=h;obtain⟨rN,hnp⟩:=hB.np;obtain⟨ob,hl1,hl2⟩:=hB.lts;obtain⟨n,hn⟩:∃n,s.lets.length=n+1:=⟨s.lets.length-1,by omega⟩;have hlw:=MG s.lets;have hlw2:s.lets.length<=s.wt:=Nat.le_trans hlw (Nat.le_add_right _ _);have hmem:=List.getElem_mem hk;have hme:s.lets[k].f<zn/\s.lets[k].t<zn/\s.lets[k].f≠s.lets[k].t:=by
  rcases hM.lts _ hmem with h1|h1
  .have:=hM.xN hmem h1;exact⟨this.1,this.2.1,this.2.2.1⟩
  .exact⟨h1.2.2.1,h1.2.2.2.1,h1.2.2.2.2⟩
 have hz2:wz=true\/∀i,zp<=i->i<zN->Jm (s.P s.lets[k].t i)=true:=hz.imp id λh1 i h2 h3=>by rw[hM.new i (by omega) h3 _ hme.2.1];rfl
 have hel:(s.lets.eraseIdx k).length=n:=by rw[List.length_eraseIdx_of_lt hk];omega
 have hlets:=hl1;rw[hn] at hl1;obtain⟨gl,cap,rl,rfl,rfl,_,_,hh,_⟩:=hl1.blk (Nat.succ_pos _);have holt:=hB.lt;have hgl:=hl2 gl rfl;refine(ZB gC gN zn cN gl n cap gs rN s.lets[k].t k (FM s.dv s.lets[k]) (EO s.dv s.lets) dvv _ _ hvv
  (λW'=>∃own2 s' l al,NY W' own2 gC { s' with lets:=s.lets.eraseIdx k } (λk=>MZ k s.J) (OV s) ev lt tk wz (λj=>if j=s.lets[k].t then l else []) (λj=>if j=s.lets[k].t then al else [])/\Stepped w own W' own2/\qj s s' k s.lets[k].t l al/\∀x∈l,x.t<zn)
  (λw'=>∃own' s' ev',Fg w' own' gC s' ev' lt tk wz/\JC s'/\O8 s' ev'/\s'.wt<s.wt/\s'.J=s.J/\s'.dv=s.dv/\Stepped w own w' own') w hB.cl hnp hme.2.1 hl1 (Ic _ _) (Vo _ _) (P8 (QX _ _)) (by omega) (λj v hv rest=>iL s.dv hk j v hv rest) (QY s.dv s.lets _) (by omega) (λW hO=>?_) (λW hR=>?_)).mono ?_
 .obtain⟨o1,o2,o3⟩:=hO;have hs:=o3.size;have hP:kJ own w (λk=>k=gC\/k=gl) [85,47]:=by
   rintro k (rfl|rfl) _
   .exact .inr ⟨_,_,hB.cl,by simp⟩
   .exact .inr ⟨_,_,hh,by simp⟩
  rw[Zk s.dv hk,<-hel] at o2;have hBW:U6 W own gC (λk=>MZ k s.J) (OV s) (s.lets.eraseIdx k) s.dv ev dvv gN cN gCl cCl gCa (.slice (some ⟨gl,0,none⟩) n cap) hvv gs gcl:=
   hB.turn o3 hP (λ_ _=>rfl) (by decide) (λk hk=>Nat.lt_of_lt_of_le (holt k hk) hs) o1 (hB.qQ o3 hP (by decide)) (hB.gG o3 hP (by decide)) ⟨some gl,by rw[hel] at o2 |-;exact o2,λg hg=>by cases hg;exact hgl⟩ (hB.qO o3 hP (λ_ _=>rfl) (by decide) (by decide))
  have hNW:Ej W own s lt tk wz gs (λ_=>[]) (λ_=>[]):=hN.mv o3 (λk hk _=>by
   have:=hB.ow.1;rcases hk with rfl|rfl<;>omega) (λ_ _=>rfl)
  have hsp:Stepped w own W own:=⟨λ_ _=>rfl,o3.more λk hk=>by
   have:=hB.ow.1;rcases hk with rfl|rfl<;>omega⟩
  have fin:∀(s':Mz) (W':World) (l:List Lz) (al:List Nat),Mv (λz=>own z=2+s.lets[k].t) W W'->CP W' (grow (λz=>own z=2+s.lets[k].t) W W') (gs s.lets[k].t) s.lets[k].t (s'.P s.lets[k].t) (s'.D s.lets[k].t) (lt s.lets[k].t) (tk s.lets[k].t) wz s'.dv l al->(∀j,j≠s.lets[k].t->s'.P j=s.P j)->qj s s' k s.lets[k].t l al->(∀x∈l,x.t<zn) ->
    (∃own2 s' l al,NY W' own2 gC { s' with lets:=s.lets.eraseIdx k } (λk=>MZ k s.J) (OV s) ev lt tk wz (λj=>if j=s.lets[k].t then l else []) (λj=>if j=s.lets[k].t then al else [])/\Stepped w own W' own2/\qj s s' k s.lets[k].t l al/\∀x∈l,x.t<zn)/\∀g L,w.heap.size<=g->Holds W g 47 L->Holds W' g 47 L:=by
   intro s' W' l al hm hn hP' hG hlt;have hs3:=hm.size;have hold:∀z,z<W.heap.size->Cb own W W' (2+s.lets[k].t) z=own z:=λz hk=>Ez _ _ _ _ _ hk;refine⟨⟨Cb own W W' (2+s.lets[k].t),s',l,al,⟨dvv,gN,cN,gCl,cCl,gCa,.slice (some ⟨gl,0,none⟩) n cap,hvv,gs,gcl,?_,?_⟩,hsp.trans ⟨hold,hm.more λk hk=>by omega⟩,hG,hlt⟩,λg L hg hL=>hL.mv hm λhx=>?_⟩
   .have:=hBW.mv hm (λk hk _=>by omega) hold (JZ (λk hk=>Nat.lt_of_lt_of_le (holt k hk) hs) hs3);rw[<-hG.dv] at this;exact this
   .exact Ej.step (s':={ s' with lets:=s.lets.eraseIdx k }) hNW (λk hk=>Nat.lt_of_lt_of_le (holt k hk) hs) hm hn λj hj=>⟨hP' j hj,hG.D j hj,rfl,rfl⟩
   .have:=holt g (by omega);omega
  have hnt:=hNW s.lets[k].t hme.2.1;rcases hM.lts _ hmem with hj|⟨hj,hk9,_⟩
  .have hltr:=hM.xN hmem hj;have hjN:s.lets[k].j<zN:=by have:=hM.hJ;omega
   refine Ah (Zu W (λz=>own z=2+s.lets[k].t) (gs s.lets[k].t) _ _ _ _ wz s.dv s.lets[k] hnt (hM.dok _ hme.2.1) (hM.oD hme.2.1) hjN hltr (λi hi hij=>hM.rdy _ hj i hi hij _ hme.2.1) (hz.imp id λh1=>⟨by omega,λi h2 h3=>by rw[hM.new i (by omega) h3 _ hme.2.1];rfl⟩)) ?_;rintro W' ⟨d',hd,hle,hnz,hm⟩;have e1:(s.give k s.lets[k] d').P s.lets[k].t=CE (s.P s.lets[k].t) s.lets[k].j (DJ zn (s.P s.lets[k].t s.lets[k].j) s.lets[k]).1:=if_pos rfl;have e2:(s.give k s.lets[k] d').D s.lets[k].t=d':=if_pos rfl;refine⟨⟨_,rfl⟩,fin (s.give k s.lets[k] d') W' _ _ hm (by rw[e1,e2];exact hnz) (λj hj=>if_neg hj) ⟨rfl,hM.give k hk hj d' hd hle,hM.less k hk hj d',rfl,rfl,hme.2.1,λr hr=>if_neg hr,by rw[e2];exact hle,by rw[e1,e2];rfl⟩ (uQ hme.1)⟩
  .refine Ah (Zt W (λz=>own z=2+s.lets[k].t) (gs s.lets[k].t) _ _ _ _ wz s.dv s.lets[k] hk9 hme (λh11 r=>hM.dvs _ hmem h11 r) hnt (hM.dok _ hme.2.1) (hM.oD hme.2.1) hz2) ?_;rintro W' ⟨hnz,hm⟩;have hJ:=hM.hJ;refine⟨⟨_,rfl⟩,fin { s with lets:=s.lets.eraseIdx k } W' [] [] hm hnz (λ_ _=>rfl) ⟨by simp,hM.skip k hk (by omega),jr s k hk,rfl,rfl,hme.2.1,λ_ _=>rfl,λ_=>Int.le_refl _,(Zr ..).symm⟩ (by simp)⟩
 .obtain⟨own2,s',l,al,hG,hsp,hS,hlt⟩:=hR;have hal:=hS.ha;have hJ:=hM.hJ;have key:∀j∈al,j<s.J/\(zK j).m=s.lets[k].t/\Dc (s.D (zK j).m) j=false/\Dc (s'.D (zK j).m) j=true:=λj hj=>Pm hS.ok hS.J hS.ht (hal▸hj);have hEn:=O8.new hM hS.ok hS.J hS.ht hS.D hS.hle hE;rw[<-hal] at hEn;have hd1:=QF s';have hlw3:=MG s'.lets;have hlw4:s'.lets.length<=s'.wt:=Nat.le_trans hlw3 (Nat.le_add_right _ _);have hwt:=hS.wt;have hN15:zN<=15:=Rz.hN;have hel2:=hEn.len;rw[List.length_append,List.length_map,hS.J] at hel2;have hle2:=congrArg List.length hS.le;rw[List.length_append] at hle2;refine(Ye W own2 gC s.lets[k].t _ (λk=>MZ k s.J) (OV s) ev lt tk wz _ _ hG hme.2.1 (λj hj=>if_neg hj) (λj hj=>if_neg hj) (λj hj=>?_) ?_ ?_ ?_ ?_).mono ?_
  .simp only[if_true] at hj;obtain⟨h1,h2,h3,h4⟩:=key j hj;exact⟨by omega,ae hM h1 h3,OW.2 ⟨j,h1,rfl,h3⟩⟩
  .simp only[if_true];rw[hal];exact Xf hM hS.ok hS.J hS.ht hS.D hS.hle
  .simp only[if_true];omega
  .simp only[if_true];exact hlt
  .simp only[if_true];show (s.lets.eraseIdx k).length+l.length<=1000;omega
  .rintro e w' ⟨rfl,own',h5,h6⟩;simp only[if_true] at h5;refine⟨rfl,own',s',ev++al.map Oz,?_,hS.ok,hEn,hS.wt,hS.J,hS.dv,hsp.trans h6⟩;have e1:({ s' with lets:=s.lets.eraseIdx k++l }:Mz)=s':=by rw[<-hS.le]
   have e2:(λk=>OV s k&&!(al.any λj=>k==cK (zK j).c))=OV s':=by
    funext k
    rw[pK hM hS.ok hS.J hS.ht hS.D hS.hle,<-hal]
   have h7:NY w' own' gC { s' with lets:=s.lets.eraseIdx k++l } (λk=>MZ k s.J) (λk=>OV s k&&!(al.any λj=>k==cK (zK j).c)) (ev++al.map Oz) lt tk wz (λ_=>[]) (λ_=>[]):=h5;rw[e1,e2,<-hS.J] at h7;exact h7
 .rintro e w' ⟨rfl,h9⟩;exact⟨rfl,h9⟩
def Mz.tick(s:Mz)(i t:Nat):Mz:=if (t+1) % 8=0 then { s with lets:=s.lets++Dj zn i,dv:=λj=>if j=i then s.D i else s.dv j } else s
theorem JY{n i:Nat}(hi:i<n){x:Lz}(hx:x∈Dj n i):x.j=zN/\(x.k=9\/x.k=11)/\x.f=i/\x.t<n/\x.f≠x.t:=by
 obtain⟨a,b,rfl⟩:=List.mem_map.1 hx;rw[List.mem_range] at b;refine⟨rfl,?_,rfl,?_,?_⟩
 .by_cases h:a % 2=0<;>simp[h]
 .by_cases h:a / 2<i<;>simp only[h,if_true,if_false]<;>omega
 .by_cases h:a / 2<i<;>simp only[h,if_true,if_false]<;>omega
theorem JC.tick{s:Mz}(h:JC s){i t:Nat}(hi:i<zn)(h8:(t+1) % 8=0->(∀m∈s.lets,m.k=11->m.f≠i)/\∀r,r<zn->∀x,s.D i x<=s.D r x):JC (s.tick i t):=by
 unfold Mz.tick;split
 .rename_i e;obtain⟨o,p⟩:=h8 e;have q:=h.hJ;refine⟨h.hJ,λj l=>(h.inv j l).keep (λ_ _=>rfl) λa b c=>?_,h.new,λm g=>?_,h.dok,h.rdy,λm g n r=>?_⟩
  .show (s.lets++Dj zn i).count _=_;rw[List.count_append,Ip (out:=Dj zn i) (λm g=>by rw[(JY hi g).1];have l:j<s.J:=l;omega)];omega
  .rcases List.mem_append.1 g with g|g
   .exact h.lts m g
   .obtain⟨a,b,c,d,e⟩:=JY hi g;exact .inr ⟨a,b,BJ,d,e⟩
  .show 0<=(if m.f=i then s.D i else s.dv m.f) r/\_;show 0<=(if m.f=i then s.D i else s.dv m.f) r/\(if m.f=i then s.D i else s.dv m.f) r<=s.D m.t r;rcases List.mem_append.1 g with g|g
   .rw[if_neg (o m g n)];exact h.dvs m g n r
   .obtain⟨a,b,c,d,e⟩:=JY hi g;rw[if_pos c];exact⟨(h.dok i hi).nn r,p _ d r⟩
 .exact h
theorem mY{dv dv':Nat->Nat->Int}{m:Lz}(h:m.k=11->dv' m.f=dv m.f):FM dv' m=FM dv m:=by
 unfold FM;split
 .rename_i a;rcases a with a|a
  .rw[if_pos a,if_pos a]
  .rw[h a]
 .rfl
theorem iM{dv dv':Nat->Nat->Int}:∀{l:List Lz},(∀m∈l,m.k=11->dv' m.f=dv m.f)->EO dv' l=EO dv l:=fun {l} h=>
 Oj Iz λi a=>by
  have:l.getD i ⟨9,0,0,0⟩∈l:=by rw[List.getD_eq_getElem?_getD,List.getElem?_eq_getElem a];exact List.getElem_mem a
  exact mY (h _ this)
def Qv{α:Type}(f:Nat->α)(i:Nat)(x:α):Nat->α:=λj=>if j=i then x else f j
theorem ug(w:World)(own:Nat->Nat)(gC i:Nat)(s:Mz)(ev:List Ev)(lt:Nat->Int)(tk:Nat->Nat)(h:Fg w own gC s ev lt tk false)(hM:JC s)(hi:i<zn)(hlt:lt i=0)(hp:∀j,j<zN->s.P i j≠.pre)(hJ:s.J<=zp)(ht:tk i<=1000000) (h8:(tk i+1) % 8=0->UH (s.D i)<8/\(∀m∈s.lets,m.k=11->m.f≠i)) (hev:ev.length<=1000) (hlen:s.lets.length+12<=1000) :Calls prog 11 #[AP gC,.agg (Ee 5 i).toArray] w λe w'=>e=.returned (.bool true)/\∃own',Fg w' own' gC (s.tick i (tk i)) ev (Qv lt i 1) (Qv tk i (tk i+1)) false/\Stepped w own w' own':=by
 obtain⟨x,y,v,I,F,H,E,C,o,gcl,q,V⟩:=h;obtain⟨rN,ad⟩:=q.np;have B:=q.lt;have h7:zn=3\/zn=5\/zn=7:=Rz.n7;obtain⟨dv',A⟩:∃dv':Nat->Nat->Int,dv'=(s.tick i (tk i)).dv:=⟨_,rfl⟩;obtain⟨l,r⟩:∃l,l=if (tk i+1) % 8=0 then Dj zn i else []:=⟨_,rfl⟩;have ae:s.tick i (tk i)={ s with lets:=s.lets++l,dv:=dv' }:=by
  rw[A,r];unfold Mz.tick;split
  .rfl
  .rw[List.append_nil]
 have Y:(tk i+1) % 8=0->dv' i=s.D i:=λe=>by rw[A];unfold Mz.tick;rw[if_pos e];exact if_pos rfl
 have Z:EO dv' s.lets=EO s.dv s.lets:=by
  rw[A];unfold Mz.tick;split
  .rename_i e;exact iM λm b c=>if_neg ((h8 e).2 m b c)
  .rfl
 have ag:l.length<=12:=by
  rw[r];split
  .rw[Q8];omega
  .simp
 have ac:∀m∈l,m.t<zn:=λm b=>by
  rw[r] at b;split at b
  .exact(JY hi b).2.2.2.1
  .simp at b
 rw[ae];refine(dG gC i (o i) (λp=>∃u,NY p u gC { s with dv:=dv' } (λk=>MZ k s.J) (OV s) ev (Qv lt i 1) (Qv tk i (tk i+1)) false (λj=>if j=i then l else []) (λj=>if j=i then [] else [])/\Stepped w own p u) (λw'=>∃own',Fg w' own' gC { s with lets:=s.lets++l,dv:=dv' } ev (Qv lt i 1) (Qv tk i (tk i+1)) false/\Stepped w own w' own') w (λW n=>YK gC zn y v i o rN x _ _ E C W (q.cl.bel n) (ad.bel n) hi) (λW n=>?_) (λW X=>?_)).mono ?_
 .have hsz:=n.size;have T:U6 W own gC (λk=>MZ k s.J) (OV s) s.lets dv' ev x y v I F H E C o gcl:=by have z:=q.mv (G:=λ_=>False) (own':=own) (.of_below n) (λ_ h=>h.elim) (λ_ _=>rfl) (λk c=>Nat.lt_of_lt_of_le (B k c) hsz);obtain⟨ob,aa,ab⟩:=z.lts;exact { z with lts:=⟨ob,by rw[Z];exact aa,ab⟩ }
  have K:Ej W own s lt tk false o (λ_=>[]) (λ_=>[]):=V.mv (G:=λ_=>False) (.of_below n) (λ_ h=>h.elim) (λ_ _=>rfl);have N:=(K i hi).MH (p':=s.P i) (dv':=dv');rw[hlt] at N;refine Ah (Zv W (λk=>own k=2+i) (o i) i (s.P i) (s.D i) (tk i) dv' hi N hp (hM.dok i hi) (hM.oD hi) (λj z S=>by rw[hM.new j BJ S i hi];rfl) ht (λe=>⟨(h8 e).1,Y e⟩)) ?_;rintro p ⟨M,b⟩;have af:=b.size;have Q:∀k,k<W.heap.size->Cb own W p (2+i) k=own k:=λk c=>Ez _ _ _ _ _ c;have O:∀k,own k≠0->k<W.heap.size:=λk c=>Nat.lt_of_lt_of_le (B k c) hsz;rw[<-r] at M;refine⟨rfl,⟨Cb own W p (2+i),⟨x,y,v,I,F,H,E,C,o,gcl,T.mv b (λk c _=>BJ) Q (JZ O af),?_⟩,(Stepped.wL own n).trans ⟨Q,b.more λk c=>BJ⟩⟩,λg L hg U=>U.mv b λhx=>?_⟩
  .have e1:Qv lt i 1 i=1:=if_pos rfl;have R:Qv tk i (tk i+1) i=tk i+1:=if_pos rfl;exact Ej.step (s':={ s with dv:=dv' }) (a:=[]) K O b (by rw[e1,R];exact M) λj d=>⟨rfl,rfl,if_neg d,if_neg d⟩
  .have:=B g BJ;omega
 .obtain⟨u,hG,hsp⟩:=X;refine(Ye W u gC i _ (λk=>MZ k s.J) (OV s) ev (Qv lt i 1) (Qv tk i (tk i+1)) false _ _ hG hi (λj d=>if_neg d) (λj d=>if_neg d) (λj d=>?_) ?_ ?_ ?_ ?_).mono ?_
  .simp at d
  .simp
  .simpa using hev
  .simpa using ac
  .simp only[if_true];show s.lets.length+l.length<=1000;omega
  .rintro e w' ⟨rfl,own',h5,h6⟩;refine⟨rfl,own',?_,hsp.trans h6⟩;simp only[if_true,List.map_nil,List.append_nil,List.any_nil,Bool.not_false,Bool.and_true] at h5;exact h5
 .rintro e w' ⟨rfl,h9⟩;exact⟨rfl,h9⟩
theorem SQ(w:World)(own:Nat->Nat)(gC k:Nat)(s:Mz)(ev:List Ev)(lt:Nat->Int)(tk:Nat->Nat)(wz:Bool)(h:Fg w own gC s ev lt tk wz)(hM:JC s)(hE:O8 s ev)(hk:k<s.lets.length)(hw:s.wt<=900)(hz:wz=true\/s.J<=zp) :Calls prog 11 #[AP gC,.agg (Ee 2 k).toArray] w λe w'=>e=.returned (.bool true)/\∃own' s' ev',Fg w' own' gC s' ev' lt tk wz/\JC s'/\O8 s' ev'/\s'.wt<s.wt/\s'.J=s.J/\s'.dv=s.dv/\Stepped w own w' own':=by refine VE gC k true _ w λW a=>?_;refine Ah (sQ W own gC k s ev lt tk wz (NY.bel h a) hM hE hk hw hz) ?_;rintro w' ⟨own',s',ev',b,c,d,f,g,i,j⟩;exact⟨rfl,own',s',ev',b,c,d,f,g,i,(Stepped.wL own a).trans j⟩
theorem uh(w:World)(own:Nat->Nat)(gC j:Nat)(s:Mz)(ev:List Ev)(lt:Nat->Int)(tk:Nat->Nat)(wz:Bool)(h:Fg w own gC s ev lt tk wz)(hw:OV s j=false)(hj:j<8) :Calls prog 11 #[AP gC,.agg (Ee 6 ((j:Int)+1)).toArray] w λe w'=>e=.returned (.bool true)/\Below w.heap.size w w':=by obtain⟨f,t,q,g,d,r,n,m,u,i,b,v⟩:=h;obtain⟨o,l⟩:=b.cp;obtain⟨p,tk,c⟩:=b.cs j hj;rw[hw] at c;refine dI gC _ true (λw'=>Below w.heap.size w w') w λW a=>?_;refine Ah (ctime gC zn g d j i o f _ _ n m _ _ _ p tk W (b.cl.bel a) (l.bel a) hj (Holds.bel c a)) ?_;rintro w' k;exact⟨rfl,a.trans (k.mono a.size)⟩
end
def NR(l:List A7)(r:Nat):Int:=l.foldr (λe m=>if e.r=(r:Int) then max e.s m else m) 0
structure UB(l:List A7)(left:Lit->Bool)(T:Nat->Int):Prop where
 ge:∀e∈l,left e.key=false->e.s<=T e.r.toNat
 at_:∀r:Nat,T r=0\/∃e∈l,e.r=r/\e.s=T r
 pos:∀r,0<=T r
theorem Yv:∀(l:List A7) (r:Nat) (t:Int),(∀e∈l,e.r=r->e.s<=t)->(t=0\/∃e∈l,e.r=r/\e.s=t)->0<=t->NR l r=t:=by
 have m:∀(l:List A7) (r:Nat) (t:Int),(∀e∈l,e.r=r->e.s<=t)->0<=t->NR l r<=t:=by
  intro l r t h g;induction l with
  | nil=>exact g
  | cons x l ih=>
   have:=ih λe b=>h e (List.mem_cons_of_mem _ b);show (if x.r=(r:Int) then max x.s (NR l r) else NR l r)<=t;split
   .have:=h x List.mem_cons_self (by assumption);omega
   .exact this
 have d:∀(l:List A7) (r:Nat),0<=NR l r/\∀e∈l,e.r=r->e.s<=NR l r:=by
  intro l r;induction l with
  | nil=>exact⟨Int.le_refl _,λe b=>(by cases b)⟩
  | cons x l ih=>
   have f:NR (x :: l) r=if x.r=(r:Int) then max x.s (NR l r) else NR l r:=rfl;refine⟨?_,λe b c=>?_⟩
   .rw[f];split<;>omega
   .rw[f];rcases List.mem_cons.1 b with rfl|b
    .rw[if_pos c];omega
    .have:=ih.2 e b c;split<;>omega
 intro l r t i j k;have a:=m l r t i k;rcases j with rfl|⟨e,b,c,rfl⟩
 .have:=(d l r).1;omega
 .have:=(d l r).2 e b c;omega
theorem UB.done{l:List A7}{left:Lit->Bool}{T:Nat->Int}(h:UB l left T)(hl:∀k,left k=false)(hg:Jh l):DT T=DT (NR l):=by have:∀r:Nat,NR l r=T r:=λr=>Yv l r (T r) (λe a b=>by have:=h.ge e a (hl _);rw[b,Int.toNat_natCast] at this;exact this) (h.at_ r) (h.pos r);rw[show NR l=T from funext this]
theorem rq(T:Nat->Int)(k:Nat)(hk:k<7):(DT T)[k]?=some (AA (T k)):=by rcases(show k=0\/k=1\/k=2\/k=3\/k=4\/k=5\/k=6 by omega) with rfl|rfl|rfl|rfl|rfl|rfl|rfl<;>rfl
theorem X3(T:Nat->Int)(k:Nat)(hk:k<7)(v:Int):(DT T).set k (AA v)=DT λj=>if j=k then v else T j:=by rcases(show k=0\/k=1\/k=2\/k=3\/k=4\/k=5\/k=6 by omega) with rfl|rfl|rfl|rfl|rfl|rfl|rfl<;>rfl
theorem eP(T:Nat->Int):(DT T).toArray.all (·.oneCell')=true:=by simp[DT,Value.oneCell']
theorem UB.start{l:List A7}{left:Lit->Bool}(h:∀e∈l,left e.key=true):UB l left λ_=>0:=⟨λe b a=>(by rw[h e b] at a;cases a),λ_=>.inl rfl,λ_=>Int.le_refl _⟩
theorem UB.step{l:List A7}{left:Lit->Bool}{T:Nat->Int}(h:UB l left T)(hg:Jh l){e:A7}(he:e∈l){k:Nat}(hk:e.r=k):UB l (λz=>left z&&!z.sameKey e.key) λj=>if j=k then max (T k) e.s else T j:=by
 have d:=hg.wf;have i:∀a∈l,(a.key).sameKey e.key=(a.r==e.r&&a.s==e.s):=λa b=>Di (d a b).1 (d a b).2 (d e he).1 (d e he).2;refine⟨λa b c=>?_,λr=>?_,λr=>?_⟩
 .simp only[i a b,Bool.and_eq_false_iff,Bool.not_eq_false',Bool.and_eq_true,beq_iff_eq] at c;have m:=hg a b;rcases c with c|c
  .have:=h.ge a b c;show a.s<=if a.r.toNat=k then max (T k) e.s else T a.r.toNat;split
   .rename_i f;rw[f] at this;omega
   .exact this
  .show a.s<=if a.r.toNat=k then max (T k) e.s else T a.r.toNat;rw[if_pos BJ];omega
 .show (if r=k then max (T k) e.s else T r)=0\/∃a∈l,a.r=r/\a.s=if r=k then max (T k) e.s else T r;by_cases g:r=k
  .subst g;rw[if_pos rfl];by_cases f:T r<=e.s
   .exact .inr ⟨e,he,hk,BJ⟩
   .rw[show max (T r) e.s=T r by omega];exact h.at_ r
  .rw[if_neg g];exact h.at_ r
 .show 0<=if r=k then max (T k) e.s else T r;have n:=h.pos r;have o:=h.pos k;split<;>omega
theorem iU(g b n:Nat)(l:List A7)(w:World)(h:BF w g b n l) :Calls prog 208 #[AP g] w λe w'=>e=.returned (.agg (DT (NR l)).toArray)/\Below w.heap.size w w':=by
 have j:=qh h;have a4:=h.lt.2;clear h;go_in;go_upto_region 1 with(fail);obtain⟨a,c⟩:=WZ (AC w 41 CJ) (show Below w.heap.size w (w.alloc (.cells CJ.toArray 41)) by go_grown);unfold CJ at a c;go_name_world W hW;rw[hW] at a c;clear hW;obtain⟨a,j⟩:=WZ (show Holds W w.heap.size 41 CJ from a.o) (j.below c.o);have U:=qh j.vO;have ay:=c.size;have a7:=a.lt;go_upto_region 2 with(first|(refine lM 1 U.o ?_)|(refine sW CJ (AC W _ _) ?_ Jd;intro wc J M));have P:Below W.heap.size W (W.alloc (.cells CJ.toArray 41)):=by go_grown
 obtain⟨G,f⟩:=WZ (show Below W.heap.size W wc from P.trans (M.below Ve P.size)) (show Holds wc W.heap.size 41 (DT λ_=>0) from J);clear J M P U;obtain⟨j,a,c⟩:=bP (j.below G.o) (AX a.o G.o) (AO c.o G.o);have a8:=a.lt;have ae:w.heap.size≠W.heap.size:=BJ
 have Z:w.heap.size<=W.heap.size:=BJ
 generalize W.heap.size=g3 at f ae Z ay |-;have m0:=j.ix.cell 0;simp only[List.getElem?_cons_zero] at m0;obtain⟨D,af,hl⟩:=j.map;obtain⟨V,E,S⟩:=bP hl j.good j.lt.2;clear hl;go_wp2_with (first|(at_range;refine wpList_range_own _ rfl _ 246 rfl 37 45 CV underlying246 BZ b n D rfl af ?_;intro w0 ag C a0)|fail)
 go_frame
 have I:Below wc.heap.size wc w0:=⟨C.os,C.tape,C.output,C.size,λk A=>C.block k A Vj⟩;have au:g3<wc.heap.size:=f.lt;obtain⟨c,a,f,B⟩:=bY (AO c.o I) (AX a.o I) (AX f.o I) ag;have av:=S.o;have a1:w.heap.size<wc.heap.size:=BJ
 clear ag C a0 af m0 I;generalize wc.heap.size=R at B au av a1 |-;clear j G S;go_loopw [4] (λ_ wr=>∃(left:Lit->Bool) (Y:Nat) (T:Nat->Int),wr.ranges prog 37 BZ b R n D left Y/\Below w.heap.size w wr/\Holds wr g3 41 (DT T)/\Holds wr w.heap.size 41 CJ/\UB l left T/\R<wr.heap.size) (λ_ wr=>wr.rangeLeft b R);case atStart=>exact⟨_,_,_,B.o,c.o,f.o,a.o,UB.start λe F=>Maps.has_true_of_atKey (V.at_ e F),B.lt⟩
 case round=>
  clear B c a f;obtain⟨left,Y,T,L,hb,ai,hz,hT,a3⟩:=hrel;obtain⟨c,f,a,O⟩:=bY hb ai hz hT;clear hb ai hz hT;go_wp2_with (first|(at_next;refine wpList_next_ranges _ rfl _ rfl 37 CV BZ (λp:Int × Int=>Dz p.1 p.2) (λv:Value=>v) (λa9 kl A=>by obtain⟨r,s,rfl,_⟩:=Jo A;exact⟨(r,s),rfl⟩) (λv y _=>⟨v,rfl⟩) b R n D _ _ rfl L ?_ ?_)|fail)
  .intro hc0 hl0;obtain⟨HE,f⟩:=WZ (O.done hl0 E.o) f.Af;clear L hl0 hc0;go_wp2_with (first|(refine lM 0 f.o ?_)|(refine sW (DT T) a.o ?_ (eP _);intro wc J M));exact bC J.Af ⟨by rw[HE.o],c.trans (M.below Ve c.size)⟩
  .intro pr ps cv kl yd yp w1 cnt1 hkey hlk x hat hrg1 hlt hg1 hs1 hen;have hy:yd=.held cv:=by unfold BZ at x;injection x with x;injection x with x _;exact x.symm
   rw[hy] at hat;obtain⟨e,F,ab⟩:=Ph V.o E.wf hat;have az:pr=e.r/\ps=e.s:=by have hw:=E.wf e F;rw[<-ab] at hkey;have:=CV.inj hkey (DX e.r e.s hw.1 hw.2);simp only[Dz,Value.agg.injEq,Array.mk.injEq,List.cons.injEq,Value.int.injEq,true_and,and_true] at this;exact this
   obtain⟨h1,h2⟩:=az;subst h1;subst h2;subst ab;have a5:=E.o e F;obtain⟨k,A⟩:∃k:Nat,e.r=k:=⟨e.r.toNat,BJ⟩;have ad:k<7:=BJ
   have a6:(k:Int)<7:=BJ
   have ap:=qh (O.step E.o F A);have aw:Below wr.heap.size wr w1->True:=λ_=>trivial;have i:=qh (show Below w.heap.size w w1 from c.trans ⟨hg1.os,hg1.tape,hg1.output,hg1.size,λk A=>hg1.block k (by have:=c.size;omega) (by intro d;injection d with d;omega)⟩);have aj:w1.heap[w.heap.size]?=wr.heap[w.heap.size]?:=hg1.block _ a.lt (by intro d;injection d with d;omega);have ah:w1.heap[g3]?=wr.heap[g3]?:=hg1.block _ f.lt (by intro d;injection d with d;omega);obtain⟨t,m⟩:=WZ (show Holds w1 w.heap.size 41 CJ by have:=a.o;unfold Holds at *;rw[aj];exact this) (show Holds w1 g3 41 (DT T) by have:=f.o;unfold Holds at *;rw[ah];exact this);have a2:R<w1.heap.size:=BJ
   obtain⟨B,an,am⟩:=bP hrg1 hlt L.left_eq;clear hrg1 L hlt hg1 hs1 x hy hat hkey hlk c aj ah aw a f O;rw[A] at hen |-;simp only[Dz] at hen |-;go_upto_region 5 with(fail);clear hen;have q:=qh (AC w1 37 [AA k,AA e.s]);have H:Below w1.heap.size w1 (w1.alloc (.cells #[AA k,AA e.s] 37)):=by go_grown
   have u:=qh (show Touch g3 w1 (w1.alloc (.cells #[AA k,AA e.s] 37)) from Touch.of_below H);obtain⟨t,m⟩:=Ce H t m;have i:=qh (i.trans (H.mono i.size));clear H;have ax:w1.heap.size≠g3:=BJ
   generalize w1.heap.size=gX at q ax |-;generalize w1.alloc (.cells #[AA k,AA e.s] 37)=wq at q u t m i |-;have aa:=rq T k ad;obtain⟨al,i⟩:=WZ aa (Base.mk i.o i.size);clear aa;obtain⟨q,m,t,i,u⟩:=Gj (AY _ wq) q m t i u;refine Ed [10] 11 (λhSn=>?_);generalize wq.drew=wd at q m t i u hSn |-;simp only[List.replicate];refine CW 0 ?_;refine BO 1 [9,10] (λw z=>Cf (q.bel z) 0 1) ?_;refine CW 2 ?_;refine BO 3 [4,5,8,9,10] (λw z=>Cf (q.bel z) 0 1) ?_;refine CW 4 ?_;refine JL 5 [8,9,10] (some 23) (?vg6) rfl (Or.inl ⟨by rfl,?hg6⟩) hSn ?rg6;case hg6=>
    intro w z;have bk:=(m.bel z).cell k;rw[al.o] at bk;go_simp;try with_reducible rfl
   simp only[Act.put,zA,zB,zC];refine CW 6 ?_;refine BO 7 [8,9,10] (λw z=>Cf (q.bel z) 0 1) ?_;refine F9 8 ?_;refine BN 10 rfl (λK hK=>?_);refine DD rfl 3 (.tmp 27) (.tmp 26) rfl rfl g3 k 41 _ (m.bel hSn) (by simp[DT];omega) rfl (AA (max (T k) e.s)) rfl rfl ND rfl ?_;intro w7 ac N;obtain⟨ao,u,aq,ak⟩:=bY (X3 T k ad _▸ac) ((u.bel hSn).trans N) ((t.bel hSn).touch N ae) ((i.bel hSn).touch N Z);clear ac N;refine BR hK ?_;clear hK;refine BA ?_;clear hSn q m t i;have Q:=B.kept (Gq u.o) (by intro d;injection d with d;omega) (by intro d;injection d with d;omega);have X:=qh Q;have ar:=Q.lt;clear Q;go_roundw;case rel=>exact⟨_,_,_,_,_,_,_,_,_,_,_,_,_,_,_,⟨_,_,_,X.o,ak.below,ao.o,aq.o,ap.o,ar⟩,rfl⟩
   case measure=>rw[X.left_eq,am.o];exact an.o
section
open Rz (zn zN zp zK)
variable [Rz]
def xJ(c:Cm):Value:=.agg #[AA c.k,AA c.c,AA c.s,.string c.a,.string c.b,.string c.o,.string c.v]
theorem ui{p:Nat->Pz}{L:List A7}(hL:Nh p L){j me:Nat}(hj:j<zN)(hm:(zK j).m=me)(hown:∀i,i<j->(zK i).m=me->Jm (p i)=false)(hnew:∀i,j<=i->i<zN->p i=.fresh):NR L me=(zK j).I.sl-1:=by
 have l:=Tc hj;refine Yv L me _ (λe d o=>?_) ?_ BJ
 .obtain⟨i,hi,hz⟩:=(hL e).1 d;obtain⟨g,h⟩:=EG hz;have f:i<j:=Decidable.byContradiction λn=>by rw[hnew i BJ hi] at hz;cases hz
  have:=Yp hj f BJ;omega
 .by_cases h1:(zK j).I.sl=1
  .exact .inl BJ
  .obtain⟨i,a,b,c⟩:=Un hj (s:=(zK j).I.sl-1) BJ BJ;obtain⟨e,d⟩:=dJ (k:=zK i) (hown i a BJ);obtain⟨g,h⟩:=EG d;exact .inr ⟨e,(hL e).2 ⟨i,BJ,d⟩,BJ,BJ⟩
theorem UJ(dv:Nat->Nat->Int){w:World}{F:Ap}{gc me:Nat}{p:Nat->Pz}{d:Nat->Int}{lt:Int}{wz:Bool}{j:Nat}(h:Ea w F gc me p lt wz AL AL)(hd:Ko p d)(hr:Ij p d)(hj:j<zN)(hlt:0<=lt)(hm:(zK j).m=me)(hown:∀i,i<j->(zK i).m=me->Jm (p i)=false)(hnew:∀i,j<=i->i<zN->p i=.fresh)(hdn:∀i,i<zp->i<j->Dc d i=true) :Calls prog 129 #[AP gc,xJ (zK j).c] w λe w'=>e=.returned (.tuple #[.agg #[AA me,AA (zK j).I.sl],.bool true])/\GK F gc me (CE p j (.lead [])) lt wz 1 (DF zn me j).length (FQ dv (DF zn me j)) w w':=by
 obtain⟨wi,Q,C,nl,gi,R,ni,L,E,al,ob,z,ws,h⟩:=h
 letI:In:=(zK j).I
 have ax:=pg j;have h7:zn=3\/zn=5\/zn=7:=Rz.n7;have K:p j=.fresh:=hnew j Ve hj;have au:=FO p;have av:EI (CE p j (.lead []))=EI p+1:=by have:=IG (p:=p) (x:=.lead []) hj;rw[K] at this;simpa[cst] using this
 have ab:=Rz.c j hj;have a1:=h.co;have aw:=h.ld.len;have e1:=h.nl;have e2:=h.ni;have T:=YH h.ix hd hr hj (by rw[K];rfl) hdn;have Y:=h.lg.no hj (by rw[K];rfl);rw[hm] at T Y;have M:∀x∈z,x.j<j:=λx q=>Decidable.byContradiction λhn=>by obtain⟨⟨S,D,G,h4⟩,_⟩:=h.ld.x x q;rw[hnew x.j BJ S] at G;cases G
 have ai:∀l∈z.map (Lx.ld me),Ec (l.r,l.s) ((me:Int),In.sl)=true:=λl hl=>by obtain⟨x,q,rfl⟩:=List.mem_map.1 hl;obtain⟨⟨S,D,G,h4⟩,_⟩:=h.ld.x x q;have:(zK x.j).I.sl<(zK j).I.sl:=Yp hj (M x q) BJ;unfold Ec;show (decide ((me:Int)<me)||(((me:Int)==me)&&decide ((zK x.j).I.sl<(zK j).I.sl)))=true;simp[this]
 refine(V4 gc zn me Q C nl gi R ni (zK j).c L E al ob (z.map (Lx.ld me)) (NR L) w a1 Y T (ui h.lg hj hm hown hnew) h.ld.ls ai (by rw[List.length_map];omega) (λW h=>iU Q C nl L W h) BJ BJ BJ BJ ab).mono ?_;rintro e w' ⟨V',am,u,gr,cr,m,ar,rv,ao,an,rfl,N,A,aa,c2,c3,c4,O,c7,⟨n1,n2,n3⟩,P⟩;have hs:=P.size;obtain⟨t1,t2⟩:=three h;have J:Mv (λk=>(k=gc\/k=C\/k=R)\/ob=some k) w w':=P.more λk n=>by
  rcases n with rfl|rfl|rfl|n
  .exact .inl (.inl rfl)
  .exact .inl (.inr (.inl rfl))
  .exact .inl (.inr (.inr rfl))
  .exact .inr n
 have af:NE u me (zK j).c (λ_=>0) AL 0 0=Lx.ld me ⟨j,[],0,u,AL,none⟩:=by
  have:G6 []=λ_=>0:=by funext r;simp[G6]
  show _=NE u me (zK j).c (G6 []) AL ((0:Nat):Int) 0;rw[this]
  rfl
 have ag:Ei w' (grow F w w') me (CE p j (.lead [])) lt V' am (z++[⟨j,[],0,u,AL,none⟩]):=by
  refine⟨by rw[List.map_append,List.map_singleton,<-af];exact A,λg o=>?_,λx q=>?_,λi B v Z=>?_,?_,?_⟩
  .rcases aa with e|⟨k,e,D⟩
   .exact .inl (h.ld.f g (e▸o))
   .rw[e] at o;cases o;exact .inr ⟨D,A.own.lt _ e⟩
  .rcases List.mem_append.1 q with q|q
   .obtain⟨⟨b0,b1,b2,b3⟩,b4,b5,b6⟩:=h.ld.x x q;have aj:x.j≠j:=Nat.ne_of_lt (M x q);refine⟨⟨b0,b1,by rw[Bi aj];exact b2,b3⟩,.inl b4,λg o=>.inl (b5 g o),b6.mv J λk n t=>?_⟩;rcases t with t|t
    .exact(t2 [43] Iz k t).Ey b6 b5 Iz k n rfl
    .exact IK b6 h.ld.ls.own Iz k n t
   .rw[List.mem_singleton.1 q];exact⟨⟨hj,hm,DU _ _ _,Int.le_refl _,hlt⟩,.inr ⟨n1,(A.blk _ (List.mem_append_right _ (List.mem_singleton.2 rfl))).lt⟩,λg o=>(by cases o),AV.nil _ _ _⟩
  .by_cases e:i=j
   .subst e;exact⟨_,List.mem_append_right _ (List.mem_singleton.2 rfl),rfl⟩
   .rw[Bi e] at Z;obtain⟨y,hy,ak⟩:=h.ld.all i B v Z;exact⟨y,List.mem_append_left _ hy,ak⟩
  .exact List.pairwise_append.2 ⟨h.ld.up,Vj,λa U b H=>by rw[List.mem_singleton.1 H];exact M a U⟩
  .exact List.pairwise_append.2 ⟨h.ld.ap,Vj,λa U b H g o X=>by rw[List.mem_singleton.1 H] at X;cases X⟩
 obtain⟨o1,o2⟩:=Pn dv 1 me j hm (.inl rfl);have ah:=h.lg.put hj (x:=.lead []) (e:=(zK j).UM) rfl;have ae:=h.ix.put hj (x:=.lead []) rfl;have ad:(⟨me,In.sl,cellL 1 (zK j).c true⟩:A7)=(zK j).UM:=by rw[<-hm];rfl
 have ac:(⟨me,In.sl,(zK j).c,In.aq⟩:CY)=(zK j).en:=by rw[<-hm];rfl
 rw[ad,ac] at N;refine⟨rfl,_,ao,h.fin J (λk n _=>?_) N BJ BJ (by have:=OA L (zK j).UM;have:=h.ln;omega) ah ae ag,.inr ⟨rfl,gr,cr,m,rv,ar,rfl,c2,c3,c4,n2⟩,?_,J.more λk n=>?_⟩
 .rcases n with n|n
  .exact t2 Ig Iz k n
  .exact OE h.ld.ls.own Iz k n
 .have ho1:(DF zn me j).length=zn-1:=o1;refine Fh.MH (V:=Rl 1 me me (zK j).c) ?_ λi v=>?_
  .rw[ho1];exact⟨λh=>BJ,an,O,λg o=>.inr ⟨by have:=c7 g o;omega,O.lt g o⟩⟩
  .rw[ho1] at v;have:=o2 i v;rw[hm] at this;exact this
 .rcases n with n|n
  .exact t1 k n
  .exact OG h.ld.ls.own h.ld.f Iz k n
end
end Go.Proofs.YtimdpiifpibgfaaGreatDoor
